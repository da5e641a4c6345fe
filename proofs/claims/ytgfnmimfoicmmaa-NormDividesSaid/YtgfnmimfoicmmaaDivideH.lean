/- The reference's Divide -/
import Derived.Test.YtgfnmimfoicmmaaPMx3
import Derived.Test.YtgfnmimfoicmmaaPMx4
import Derived.Test.YtgfnmimfoicmmaaPMx24
import Derived.Test.YtgfnmimfoicmmaaPMx37
import Derived.Test.YtgfnmimfoicmmaaDivideR
set_option linter.unusedVariables false
set_option linter.unusedSimpArgs false
namespace Go.Proofs.Ytgfnmimfoicmmaa.Pure
open Go.RowKit Go.Proofs.Ytgfnmimfoicmmaa.PM Go.Proofs.YtgfnmimfoicmmaaW.PrintWords Go.Proofs.YtgfnmimfoicmmaaW.PrintLast
open Go.Proofs.Ytgfnmimfoicmmaa.Dv
def Held (F q0 q1 q2 q3:Int) (found:Bool) (least b0 b1 b2 b3:Int):Prop :=
  (found=false ∨ Better F q0 q1 q2 q3 least b0 b1 b2 b3) ∨ (found=true∧least=F∧b0=q0∧b1=q1∧b2=q2∧b3=q3)
def Best (F q0 q1 q2 q3:Int) (found:Bool) (least b0 b1 b2 b3:Int):Prop:=found=true∧least=F∧b0=q0∧b1=q1∧b2=q2∧b3=q3
section
variable {n x0 x1 x2 x3 y0 y1 y2 y3 p0 p1 p2 p3 q0 q1 q2 q3:Int} {r:Int × Int × Int × Int × Int × Int × Int × Int} {us:Nat} {ps:Nat}
theorem search (hn:0 < n) (hnb:n ≤ 1000000) (hp0:sm 10000000 p0) (hp1:sm 10000000 p1) (hp2:sm 10000000 p2) (hp3:sm 10000000 p3) (hs:Star p0 p1 p2 p3 n q0 q1 q2 q3)
    (hus:us < 16) (hps:ps < 2)
    (hat:∀ v0 v1 v2 v3:Int,Low p0 n (ps:Int) v0 → Low p1 n (ps:Int) v1 → Low p2 n (ps:Int) v2 → Low p3 n (ps:Int) v3 → q0=v0 + 2 * bt us 0∧q1=v1 + 2 * bt us 1∧q2=v2 + 2 * bt us 2∧q3=v3 + 2 * bt us 3)
    (fin:∀ least,Ev (fun k=>bellpullref04_Divide.l0 k [p0,p1,p2,p3] n least true 2 x0 x1 x2 x3 y0 y1 y2 y3 q0 q1 q2 q3) r) :
    ∀ (d par up:Nat) (found:Bool) (least b0 b1 b2 b3:Int),par < 2 → up ≤ 16 → 16 * par + up + d=32 → Held (far p0 p1 p2 p3 n q0 q1 q2 q3) q0 q1 q2 q3 found least b0 b1 b2 b3 →
      (16 * ps + us < 16 * par + up → Best (far p0 p1 p2 p3 n q0 q1 q2 q3) q0 q1 q2 q3 found least b0 b1 b2 b3) →
      Ev (fun k=>bellpullref04_Divide.l1 k [p0,p1,p2,p3] n least found (par:Int) (up:Int) x0 x1 x2 x3 y0 y1 y2 y3 b0 b1 b2 b3) r:=by
  intro d
  induction d with
  | zero =>
    intro par up found least b0 b1 b2 b3 hpar hup hd hh hb
    obtain rfl:par=1:=by omega
    obtain rfl:up=16:=by omega
    obtain ⟨rfl,rfl,rfl,rfl,rfl,rfl⟩:=hb (by omega)
    refine Ev.succ ?_
    simp only [bellpullref04_Divide.l1]
    have w:wrap64 (((1:Nat):Int) + 1)=2:=by simp [wrap64]
    rw [w]
    exact Ev.neg (by omega) (fin _)
  | succ d ih =>
    have lt:∀ (par up:Nat) (found:Bool) (least b0 b1 b2 b3:Int),par < 2 → up < 16 → 16 * par + up + (d + 1)=32 → Held (far p0 p1 p2 p3 n q0 q1 q2 q3) q0 q1 q2 q3 found least b0 b1 b2 b3 →
        (16 * ps + us < 16 * par + up → Best (far p0 p1 p2 p3 n q0 q1 q2 q3) q0 q1 q2 q3 found least b0 b1 b2 b3) →
        Ev (fun k=>bellpullref04_Divide.l1 k [p0,p1,p2,p3] n least found (par:Int) (up:Int) x0 x1 x2 x3 y0 y1 y2 y3 b0 b1 b2 b3) r:=by
      intro par up found least b0 b1 b2 b3 hpar hup hd hh hb
      have hparI:(par:Int)=0 ∨ (par:Int)=1:=by omega
      obtain ⟨v0,f0,l0⟩:=below_ev hn hnb hp0 hparI
      obtain ⟨v1,f1,l1⟩:=below_ev hn hnb hp1 hparI
      obtain ⟨v2,f2,l2⟩:=below_ev hn hnb hp2 hparI
      obtain ⟨v3,f3,l3⟩:=below_ev hn hnb hp3 hparI
      have hw:wrap64 ((up:Int) + 1)=((up + 1:Nat):Int):=by rw [wrap_id (by omega) (by omega)];omega
      have cd:∀ v k:Int,v + 2 * bt up k=v ∨ v + 2 * bt up k=v + 2:=fun v k=>by have:=bt_01 up k;omega
      have st:=hs par v0 v1 v2 v3 _ _ _ _ hparI l0 l1 l2 l3 (cd v0 0) (cd v1 1) (cd v2 2) (cd v3 3)
      refine Ev.succ ?_
      simp only [bellpullref04_Divide.l1]
      refine Ev.pos (by omega) (rl2 hn hnb hp0 hp1 hp2 hp3 f0 f1 f2 f3 l0 l1 l2 l3 _ _ _ _ rfl rfl rfl rfl (fun c=>?_) (fun c=>?_))
      · rw [hw]
        refine ih par (up + 1) true _ _ _ _ _ hpar (by omega) (by omega) ?_ (fun hgt=>?_)
        · rcases st with ⟨e0,e1,e2,e3⟩|st
          · exact .inr ⟨rfl,by rw [← e0,← e1,← e2,← e3],e0.symm,e1.symm,e2.symm,e3.symm⟩
          · exact .inl (.inr st)
        · by_cases heq:16 * ps + us=16 * par + up
          · obtain rfl:ps=par:=by omega
            obtain rfl:us=up:=by omega
            obtain ⟨e0,e1,e2,e3⟩:=hat v0 v1 v2 v3 l0 l1 l2 l3
            exact ⟨rfl,by rw [← e0,← e1,← e2,← e3],e0.symm,e1.symm,e2.symm,e3.symm⟩
          · obtain ⟨g0,g1,g2,g3,g4,g5⟩:=hb (by omega)
            rcases st with ⟨e0,e1,e2,e3⟩|st
            · exact ⟨rfl,by rw [← e0,← e1,← e2,← e3],e0.symm,e1.symm,e2.symm,e3.symm⟩
            · exfalso
              rcases c with c|c
              · rw [g0] at c;cases c
              · rw [g1,g2,g3,g4,g5] at c
                exact Better.irrefl (st.trans c)
      · rw [hw]
        refine ih par (up + 1) found least _ _ _ _ hpar (by omega) (by omega) hh (fun hgt=>?_)
        by_cases heq:16 * ps + us=16 * par + up
        · obtain rfl:ps=par:=by omega
          obtain rfl:us=up:=by omega
          obtain ⟨e0,e1,e2,e3⟩:=hat v0 v1 v2 v3 l0 l1 l2 l3
          rw [← e0,← e1,← e2,← e3] at c
          exact hh.resolve_left c
        · exact hb (by omega)
    intro par up found least b0 b1 b2 b3 hpar hup hd hh hb
    by_cases h16:up < 16
    · exact lt par up found least b0 b1 b2 b3 hpar h16 hd hh hb
    · obtain rfl:up=16:=by omega
      obtain rfl:par=0:=by omega
      refine Ev.succ ?_
      simp only [bellpullref04_Divide.l1]
      have w:wrap64 (((0:Nat):Int) + 1)=((1:Nat):Int):=by simp [wrap64]
      rw [w]
      refine Ev.neg (by omega) (Ev.succ ?_)
      simp only [bellpullref04_Divide.l0]
      exact Ev.pos (by omega) (lt 1 0 found least b0 b1 b2 b3 (by omega) (by omega) (by omega) hh (fun h=>hb (by omega)))
end
theorem neg_itg2 {a b c d:Int} (h:itg a b c d):itg a (-b) (-c) (-d):=by unfold itg at *;omega
theorem both_divide {x0 x1 x2 x3 y0 y1 y2 y3:Int} (h1:itg x0 x1 x2 x3) (h2:rng x0 x1 x2 x3) (h3:itg y0 y1 y2 y3) (h4:rng y0 y1 y2 y3) (h0:¬ (y0=0∧y1=0∧y2=0∧y3=0)) :
    ∃ a,Ev (fun k=>norm_divide.f k x0 x1 x2 x3 y0 y1 y2 y3) a∧Ev (fun k=>bellpullref04_Divide.f k x0 x1 x2 x3 y0 y1 y2 y3) a:=by
  obtain ⟨n,hN⟩:=N4_par h3
  obtain ⟨s0,s1,s2,s3⟩:=sm_of h2
  obtain ⟨t0,t1,t2,t3⟩:=sm_of h4
  have pos:0 < n∧n ≤ 1000000:=by
    have q0:=mul_sm t0 t0;have q1:=mul_sm t1 t1;have q2:=mul_sm t2 t2;have q3:=mul_sm t3 t3
    have g0:=sq_pos y0;have g1:=sq_pos y1;have g2:=sq_pos y2;have g3:=sq_pos y3
    have z:∀ y:Int,y * y=0 → y=0:=fun y hy=>by
      rcases Int.mul_eq_zero.mp hy with h|h <;> exact h
    have z0:=z y0;have z1:=z y1;have z2:=z y2;have z3:=z y3
    unfold sm at q0 q1 q2 q3
    unfold N4 at hN
    omega
  obtain ⟨hn,hnb⟩:=pos
  have i4:=neg_itg2 h3
  obtain ⟨L,K1,K2,K3,e0,e1,e2,e3⟩:=D_par h1 i4
  have m1:sm 1000 (-y1):=by unfold sm at *;omega
  have m2:sm 1000 (-y2):=by unfold sm at *;omega
  have m3:sm 1000 (-y3):=by unfold sm at *;omega
  have hD:=double_ev (A:=1000) (B:=1000) (by omega) s0 s1 s2 s3 t0 m1 m2 m3
  obtain ⟨b0,b1,b2,b3⟩:=D_sm s0 s1 s2 s3 t0 m1 m2 m3
  rw [e0,e1,e2,e3] at hD
  rw [e0] at b0
  rw [e1] at b1
  rw [e2] at b2
  rw [e3] at b3
  generalize L + 2 * K1=p1 at *
  generalize L + 2 * K2=p2 at *
  generalize L + 2 * K3=p3 at *
  have c0:sm 10000000 L:=by unfold sm at *;omega
  have c1:sm 10000000 p1:=by unfold sm at *;omega
  have c2:sm 10000000 p2:=by unfold sm at *;omega
  have c3:sm 10000000 p3:=by unfold sm at *;omega
  have hnorm:=norm_ev (A:=1000) (by omega) t0 t1 t2 t3
  rw [hN,Int.mul_comm 4 n,Int.mul_tdiv_cancel _ (by omega)] at hnorm
  obtain ⟨par,q0,q1,q2,q3,hpar,n0,n1,n2,n3,hs,hev⟩:=dl_all (x0:=x0) (x1:=x1) (x2:=x2) (x3:=x3) (y0:=y0) (y1:=y1) (y2:=y2) (y3:=y3) hn hnb c0 c1 c2 c3
  have hq:=double_ev (A:=10000001) (B:=1000) (by omega) (near_sm hn c0 n0) (near_sm hn c1 n1) (near_sm hn c2 n2) (near_sm hn c3 n3) t0 t1 t2 t3
  have w:∀ y:Int,sm 1000 y → wrap64 (-y)=-y:=fun y hy=>by unfold sm at hy;exact wrap_id (by omega) (by omega)
  have hh:∀ p:Int,sm 10000000 p → wrap64 (Int.tdiv (2 * p) 2)=p:=fun p hp=>half_self2 (by unfold sm at *;omega)
  refine ⟨answer x0 x1 x2 x3 q0 q1 q2 q3 (D0 q0 q1 q2 q3 y0 y1 y2 y3,D1 q0 q1 q2 q3 y0 y1 y2 y3,D2 q0 q1 q2 q3 y0 y1 y2 y3,D3 q0 q1 q2 q3 y0 y1 y2 y3),?_,?_⟩
  · unfold norm_divide.f
    refine Ev.bindc hnorm (Ev.bindc (x:=(y0,-y1,-y2,-y3)) ?_ (Ev.bindc hD (hev _ hq)))
    unfold norm_quat_conj.f
    rw [w y1 t1,w y2 t2,w y3 t3]
  · unfold bellpullref04_Divide.f
    refine Ev.bindc (x:=(y0,-y1,-y2,-y3)) ?_ (Ev.bindc (refMul_eq _ hD) (Ev.bindc rfl (Ev.bindc hnorm ?_)))
    · unfold bellpullref04_Conj.f
      rw [w y1 t1,w y2 t2,w y3 t3]
    · dsimp only
      rw [hh L c0,hh p1 c1,hh p2 c2,hh p3 c3]
      obtain ⟨ps,rfl,hps⟩:∃ ps:Nat,par=(ps:Int)∧ps < 2:=⟨par.toNat,by omega,by omega⟩
      obtain ⟨v0,_,l0⟩:=below_ev hn hnb c0 hpar
      obtain ⟨v1,_,l1⟩:=below_ev hn hnb c1 hpar
      obtain ⟨v2,_,l2⟩:=below_ev hn hnb c2 hpar
      obtain ⟨v3,_,l3⟩:=below_ev hn hnb c3 hpar
      have g0:=near_low hn n0 l0;have g1:=near_low hn n1 l1;have g2:=near_low hn n2 l2;have g3:=near_low hn n3 l3
      obtain ⟨us,hus,u0,u1,u2,u3⟩:=bt_all ((q0 - v0) / 2) ((q1 - v1) / 2) ((q2 - v2) / 2) ((q3 - v3) / 2) (by omega) (by omega) (by omega) (by omega)
      have uniq:∀ p v v':Int,Low p n (ps:Int) v → Low p n (ps:Int) v' → v=v':=fun p v v' ⟨a1,a2,a3⟩ ⟨b1,b2,b3⟩=>by
        have lo:v' - 2 < v:=by
          rcases Int.lt_or_le (v' - 2) v with c|c
          · exact c
          · have:v * n ≤ (v' - 2) * n:=Int.mul_le_mul_of_nonneg_right c (by omega)
            have e:(v' - 2) * n=v' * n - 2 * n:=by grind
            omega
        have hi:v - 2 < v':=by
          rcases Int.lt_or_le (v - 2) v' with c|c
          · exact c
          · have:v' * n ≤ (v - 2) * n:=Int.mul_le_mul_of_nonneg_right c (by omega)
            have e:(v - 2) * n=v * n - 2 * n:=by grind
            omega
        omega
      refine Ev.succ ?_
      simp only [bellpullref04_Divide.l0]
      refine Ev.pos (by omega) ?_
      refine search (us:=us) (ps:=ps) hn hnb c0 c1 c2 c3 hs hus hps (fun w0 w1 w2 w3 k0 k1 k2 k3=>?_) (fun least=>?_) 32 0 0 false 0 0 0 0 0 (by omega) (by omega) (by omega) (.inl (.inl rfl)) (fun h=>absurd h (by omega))
      · have j0:=uniq _ _ _ l0 k0;have j1:=uniq _ _ _ l1 k1;have j2:=uniq _ _ _ l2 k2;have j3:=uniq _ _ _ l3 k3
        omega
      · refine Ev.succ ?_
        simp only [bellpullref04_Divide.l0]
        exact Ev.neg (by omega) (Ev.bindc (refMul_eq _ hq) (Ev.now _))
end Go.Proofs.Ytgfnmimfoicmmaa.Pure
