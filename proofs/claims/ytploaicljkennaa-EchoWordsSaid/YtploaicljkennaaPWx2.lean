-- Written by pr2.py, a program of this session's, for this claim (through the kit's print).
import Derived.Test.YtploaicljkennaaPWx0
namespace Go.Proofs.Ytploaicljkennaa.PW
open Go.Proofs.MyWords Go.RowKit Go.Proofs.YtploaicljkennaaW.PrintWords Go.Proofs.YtploaicljkennaaW.PrintLast Go.Proofs.YtploaicljkennaaW.PrintMore
attribute [local go_sem] max2_int min2_int max_two min_two max_three min_three max_four min_four   -- for this text's walks alone
set_option linter.unusedVariables false
set_option linter.unusedSimpArgs false

/-! ### echo_letters: function 51 -/
def echo_letters.l0:Nat → ByteArray → List Int → Int → Int → Option (List Int)
  | 0,_,_,_,_=>none
  | k + 1,x0,x3,x9,x10=>if x10 < x9 then (if 0 ≤ x10 then (if x10 < (x0.size:Int) then (if x10 < (x3.length:Int) then (echo_letters.l0 k x0 (x3.set (x10:Int).toNat (((bt x0 x10) - 48) % 256)) x9 (wrap64 (x10 + 1))) else (none)) else (none)) else (none)) else (some x3)
def echo_letters.f (k:Nat) (a0:ByteArray):Option (List Int):=if 0 ≤ (a0.size:Int) then (if ((a0.size:Int):Int).toNat ≤ 35184372088832 then ((some (List.replicate ((a0.size:Int):Int).toNat 0:List Int)).bind fun y216=>(echo_letters.l0 k a0 y216 (y216.length:Int) 0)) else (none)) else (none)
theorem echo_letters.mono_l:∀ k,(∀ y0 y1 y2 y3,LeO (echo_letters.l0 k y0 y1 y2 y3) (echo_letters.l0 (k + 1) y0 y1 y2 y3))
  | 0=>fun _ _ _ _ r h=>by simp [echo_letters.l0] at h
  | k + 1=>by
    have ih0:=echo_letters.mono_l k
    · intro y0 y1 y2 y3
      unfold echo_letters.l0
      with_reducible repeat' first|exact ih0 _ _ _ _|exact LeO.refl _|exact LeO.none _|refine LeO.ite ?_ ?_|refine LeO.bind ?_ (fun _=>?_)
theorem echo_letters.mono:∀ a0 k,LeO (echo_letters.f k a0) (echo_letters.f (k + 1) a0):=by
  intro a0 k
  have ih0:=echo_letters.mono_l k
  unfold echo_letters.f
  with_reducible repeat' first|exact ih0 _ _ _ _|exact LeO.refl _|exact LeO.none _|refine LeO.ite ?_ ?_|refine LeO.bind ?_ (fun _=>?_)
set_option maxHeartbeats 8000000 in
set_option maxRecDepth 100000 in
theorem echo_letters.calls (k:Nat) (a0:ByteArray) (r:List Int) (w:World) (h:echo_letters.f k a0=some r) :
    Calls Try.prog 51 #[.string a0] w fun e w'=>∃ v0_:Value,e=.returned (v0_)∧Kd.R (Kd.int .i64) 3 w' w.heap.size (fun _=>True) v0_ r∧Below w.heap.size w w':=by
 have HB:=mk0 (Below.refl w.heap.size w);have H:(if 0 ≤ (a0.size:Int) then (if ((a0.size:Int):Int).toNat ≤ 35184372088832 then ((some (List.replicate ((a0.size:Int):Int).toNat 0:List Int)).bind fun y216=>(echo_letters.l0 k a0 y216 (y216.length:Int) 0)) else (none)) else (none))=some r:=h;clear h
 by_cases c2:0 ≤ (a0.size:Int)
 ·
  rw [if_pos c2] at H;have c2b0:=eq_true c2;have c2b1:decide (0 ≤ (a0.size:Int))=true:=decide_eq_true c2;clear c2
  by_cases c3:((a0.size:Int):Int).toNat ≤ 35184372088832
  ·
   rw [if_pos c3] at H;have c3b0:=eq_true c3;have c3b1:decide (((a0.size:Int):Int).toNat ≤ 35184372088832)=true:=decide_eq_true c3;clear c3;obtain ⟨y216,hy216⟩:∃ y_:List Int,y_=(List.replicate ((a0.size:Int):Int).toNat 0):=⟨_,rfl⟩
   replace H:(echo_letters.l0 k a0 y216 (y216.length:Int) 0)=some r:=by first|(rw [hy216];with_reducible exact H)|(have H2_:=(Option.bind_some _ _).symm.trans H;rw [hy216];with_reducible exact H2_)|(have H2_:=(Option.bind_some _ _).symm.trans H;with_reducible exact H2_)|with_reducible exact H|(rw [hy216];exact H)|exact H
   have Ny216:=mk0 hy216;clear hy216;have H':=mk0 H;clear H;go_enter Try.func51,Try.ntmps51;go_wp2_with (first|((with_reducible refine gate_dst (N:=7) rfl ?_);refine Kd.R_make (Kd.int .i64) _ 3 rfl (N:=7) rfl 22 _ _ rfl (a0.size:Int) rfl rfl Try.underlying22 (.int .i64 0) 8 info3 rfl (by decide) (by omega) 0 (ok:=fun _=>True) (okp:=fun _=>True) rfl (fun _ hk=>hk) trivial (of_decide_eq_true (by first|(with_reducible assumption)|assumption)) (Nat.le_trans (Nat.mul_le_mul_right _ (of_decide_eq_true (by first|(with_reducible assumption)|assumption):(a0.size:Int).toNat ≤ 35184372088832)) (by omega)) (Below.refl _ _) (Nat.le_refl _) ?_;intro v217 w4 ho5 hb hg_ hnew_;clear hg_ hnew_;(first|rw [← Ny216.out] at ho5|(simp only [Int.reduceToNat] at ho5;rw [← Ny216.out] at ho5));have HO218:=mk0 (Kd.R_lower ho5 (below_size HB.out));replace HB:=bst HB hb;clear hb ho5;obtain ⟨Ao6,co6,eo6⟩:=Kd.R_slice HO218.out;subst eo6))
   go_loopg [10] k (fun kq v10 w'=>∃ (x3_1:List Int) (x10_1:Int),v10=.int .i64 x10_1∧Aside0 (echo_letters.l0 kq a0 x3_1 (y216.length:Int) x10_1=some r)∧Aside0 (kq ≤ k)∧Aside0 (Kd.R (Kd.int .i64) 3 w' w.heap.size (fun _=>True) (.slice Ao6 y216.length co6) x3_1)∧Aside0 (Below w.heap.size w w'))
   case atStart=>exact ⟨(y216),(0),(by first|rfl|(simp;done)|(simp [*];done)),H',⟨Nat.le_refl _⟩,⟨by (with_reducible repeat (first|apply Kd.R_alloc|apply Kd.R_drewN|apply Kd.R_drew));exact HO218.out⟩,⟨by repeat (first|(with_reducible first|exact HB.out|apply below_alloc|apply pw_below_drewN|apply below_drew1)|exact HB.out)⟩⟩
   case round =>
    clear H';try clear c2
    try clear c2b0
    try clear c2b1
    try clear p2
    try clear c3
    try clear c3b0
    try clear c3b1
    try clear c5
    obtain ⟨x3_1,x10_1,rfl,HA,HK1,HO_3,HB⟩:=hrel;have hl3_1:=(Kd.R_reads' HO_3.out).1;rw [hl3_1] at HO_3;(try simp only [hl3_1]);cases gk with
    | zero=>exact absurd HA.out (by simp [echo_letters.l0])
    | succ k1 =>
     have H:=HA.out;clear HA;simp only [echo_letters.l0] at H
     by_cases c7:x10_1 < (y216.length:Int)
     ·
      rw [if_pos c7] at H;have c7b0:decide (x10_1 < (y216.length:Int))=true:=decide_eq_true c7;clear c7
      by_cases c8:0 ≤ x10_1
      ·
       rw [if_pos c8] at H;have c8b0:decide (0 ≤ x10_1)=true:=decide_eq_true c8;clear c8
       by_cases c9:x10_1 < (a0.size:Int)
       ·
        rw [if_pos c9] at H;have c9b0:decide (x10_1 < (a0.size:Int))=true:=decide_eq_true c9;clear c9
        by_cases c11:x10_1 < (x3_1.length:Int)
        ·
         rw [if_pos c11] at H;have c11b0:decide (x10_1 < (x3_1.length:Int))=true:=decide_eq_true c11;clear c11;obtain ⟨y219,hy219⟩:∃ y_:List Int,y_=(x3_1.set (x10_1:Int).toNat (((bt a0 x10_1) - 48) % 256)):=⟨_,rfl⟩
         replace H:(echo_letters.l0 k1 a0 y219 (y216.length:Int) (wrap64 (x10_1 + 1)))=some r:=by first|(rw [hy219];with_reducible exact H)|(have H2_:=(Option.bind_some _ _).symm.trans H;rw [hy219];with_reducible exact H2_)|(have H2_:=(Option.bind_some _ _).symm.trans H;with_reducible exact H2_)|with_reducible exact H|(rw [hy219];exact H)|exact H
         have Ny219:=mk0 hy219;clear hy219;have H':=mk0 H;clear H;have p10:0 ≤ (x10_1:Int):=of_decide_eq_true (by first|(with_reducible assumption)|assumption);have q10:x10_1 < (a0.size:Int):=of_decide_eq_true (by first|(with_reducible assumption)|assumption);have hx10:=bt_at a0 x10_1;replace p10:=eq_true p10;replace q10:=eq_true q10;have p12:0 ≤ (x10_1:Int):=of_decide_eq_true (by first|(with_reducible assumption)|assumption);have q12:(x10_1:Int) < ((x3_1.length:Int):Int):=of_decide_eq_true (by first|(with_reducible assumption)|assumption);obtain ⟨go12,co12,eo12,gb12,gl12,cl12,HG12⟩:=Kd.R_form HO_3.out (by omega);(first|cases eo12|(injection eo12 with ea_ en_ ec_;(first|subst ea_|(injection ea_ with ea_;subst ea_));subst ec_;clear en_));have GB12:=mk0 gb12;have GG12:=mk0 HG12;clear gb12 gl12 HG12;obtain ⟨hx12_0,hf12_0⟩:=Kd.R_celln 0 HO_3.out (x10_1:Int) p12 q12;replace p12:=eq_true p12;replace q12:=eq_true q12;have HP13:=Kd.R_putg HO_3.out (x10_1:Int) (((bt a0 x10_1) - 48) % 256);go_wp2_with (first|((with_reducible refine gate_store (t:=3) (p:=20) rfl ?_);refine store_event (t:=3) (p:=20) (v:=?vo_w14) (w1:=(wr.setCell ⟨go12,(x10_1:Int).toNat,none⟩ (.int .i64 (((bt a0 x10_1) - 48) % 256)))) ?hg ?ho ?hn ?hr ?_;(case ho=>rfl);(case hg=>rfl);(case hn=>rfl);(case hr=>first|(go_simp;done)|(go_simp;rfl));intro w14 hw;have hg:wr.grownBy w14 (some go12):=(by rw [hw];exact HP13.2);have hp_:Kd.R (Kd.int .i64) 3 w14 w.heap.size (fun _=>True) (.slice (some ⟨go12,0,none⟩) x3_1.length co6) y219:=(by rw [hw,Ny219.out];exact HP13.1);clear HP13;replace HO_3:=mk0 (hp_);replace HB:=mk0 ((by rw [hw];exact below_set (HB.out) GB12.out:Below w.heap.size w w14));clear hg hw hp_));(try simp only [← hl3_1]);go_roundg k1
         case measure=>have:=HK1.out;omega
         case rel=>exact ⟨(y219),(wrap64 (x10_1 + 1)),(by first|rfl|(simp;done)|(simp [*];done)),H',⟨by have:=HK1.out;omega⟩,⟨by (try simp only [hl3_1]);(with_reducible repeat (first|apply Kd.R_alloc|apply Kd.R_drewN|apply Kd.R_drew));exact HO_3.out⟩,⟨by repeat (first|(with_reducible first|exact HB.out|apply below_alloc|apply pw_below_drewN|apply below_drew1)|exact HB.out)⟩⟩
        ·
         rw [if_neg c11] at H;exact absurd H (by simp)
       ·
        rw [if_neg c9] at H;exact absurd H (by simp)
      ·
       rw [if_neg c8] at H;exact absurd H (by simp)
     ·
      rw [if_neg c7] at H;have c7b0:decide (x10_1 < (y216.length:Int))=false:=decide_eq_false c7;clear c7;(try rw [hl3_1] at c7b0);obtain rfl:=Option.some.inj H;go_wp2;go_ret;exact ⟨_,by first|rfl|(simp [errW_none,errW_some] <;> rfl)|(simp [*,errW_none,errW_some] <;> rfl),by (with_reducible repeat (first|apply Kd.R_alloc|apply Kd.R_drewN|apply Kd.R_drew));exact HO_3.out,by repeat (first|(with_reducible first|exact HB.out|apply below_alloc|apply pw_below_drewN|apply below_drew1)|exact HB.out)⟩
  ·
   rw [if_neg c3] at H;exact absurd H (by simp)
 ·
  rw [if_neg c2] at H;exact absurd H (by simp)
end Go.Proofs.Ytploaicljkennaa.PW
