import Derived.Test.YtkonljiembcdlaaPCx0
import Derived.Test.YtkonljiembcdlaaPCx2
import Derived.Test.YtkonljiembcdlaaPCx3
import Derived.Test.YtkonljiembcdlaaMyTiny
namespace Go.Proofs.Ytkonljiembcdlaa.PC
open Go.Proofs.MyWords Go.RowKit Go.Proofs.YtkonljiembcdlaaW.PrintWords Go.Proofs.YtkonljiembcdlaaW.PrintLast Go.Proofs.YtkonljiembcdlaaW.PrintMore
attribute [local go_sem] max2_int min2_int max_two min_two max_three min_three max_four min_four   -- for this text's walks alone
set_option linter.unusedVariables false
set_option linter.unusedSimpArgs false
attribute [local go_sem] eqGuard_slices eqlnil23 neqnil23 eqlnil58 neqnil58
mutual
def count_star.l0:Nat → Int → List (S60) → List (S60) → Int → Option ((List (S60)))
  | 0,_,_,_,_=>none
  | k + 1,x0,x1,x5,x6=>if x6 < (shl .i64 1 (x1.length:Int)) then (if 0 ≤ x0 then (if (x0:Int).toNat ≤ 35184372088832 then (count_star.l1 k x0 x1 x5 x6 x1 (x1.length:Int) 0 (List.replicate (x0:Int).toNat 0) ([]:List (List Int))) else (none)) else (none)) else (some x5)
def count_star.l1:Nat → Int → List (S60) → List (S60) → Int → List (S60) → Int → Int → List Int → List (List Int) → Option ((List (S60)))
  | 0,_,_,_,_,_,_,_,_,_=>none
  | k + 1,x0,x1,x5,x6,x24,x25,x26,x208000,x208001=>if x26 < x25 then (if 0 ≤ x26 then (if x26 < (x24.length:Int) then (if (Go.bits .and .i64 (shr .i64 x6 x26) 1)=1 then ((count_plus.f k x208000 ((rd_T60 x24 x26).f0)).bind fun t213=>((some (([(rd_T60 x24 x26).f0]:List (List Int)):List (List Int))).bind fun y216=>(if y216.length + ((rd_T60 x24 x26).f1).length < 5864062014805 then ((count_copies.f k (y216 ++ ((rd_T60 x24 x26).f1))).bind fun t222=>(if x208001.length + t222.length < 5864062014805 then (count_star.l1 k x0 x1 x5 x6 x24 x25 (wrap64 (x26 + 1)) t213 (x208001 ++ t222)) else (none))) else (none)))) else (count_star.l1 k x0 x1 x5 x6 x24 x25 (wrap64 (x26 + 1)) x208000 x208001)) else (none)) else (none)) else (if x5.length < 2932031007402 then (count_star.l0 k x0 x1 (x5 ++ [(⟨x208000,x208001⟩:S60)]) (wrap64 (x6 + 1))) else (none))
end
def count_star.f (k:Nat) (a0:Int) (l1:List (S60)):Option ((List (S60))):=if 0 ≤ a0 then (if (a0:Int).toNat ≤ 35184372088832 then (count_star.l0 k a0 l1 (([(⟨(List.replicate (a0:Int).toNat 0),([]:List (List Int))⟩:S60)]:List (S60))) 1) else (none)) else (none)
theorem count_star.mono_l:∀ k,(∀ y0 y1 y2 y3,LeO (count_star.l0 k y0 y1 y2 y3) (count_star.l0 (k + 1) y0 y1 y2 y3))∧(∀ y0 y1 y2 y3 y4 y5 y6 y7 y8,LeO (count_star.l1 k y0 y1 y2 y3 y4 y5 y6 y7 y8) (count_star.l1 (k + 1) y0 y1 y2 y3 y4 y5 y6 y7 y8))
  | 0=>⟨fun _ _ _ _ r h=>by simp [count_star.l0] at h,fun _ _ _ _ _ _ _ _ _ r h=>by simp [count_star.l1] at h⟩
  | k + 1=>by
    obtain ⟨ih0,ih1⟩:=count_star.mono_l k
    refine ⟨?_,?_⟩
    · intro y0 y1 y2 y3
      unfold count_star.l0
      with_reducible repeat' first|exact ih0 _ _ _ _|exact ih1 _ _ _ _ _ _ _ _ _|exact count_copies.mono _ _|exact count_plus.mono _ _ _|exact LeO.refl _|exact LeO.none _|refine LeO.ite ?_ ?_|refine LeO.bind ?_ (fun _=>?_)
    · intro y0 y1 y2 y3 y4 y5 y6 y7 y8
      unfold count_star.l1
      with_reducible repeat' first|exact ih0 _ _ _ _|exact ih1 _ _ _ _ _ _ _ _ _|exact count_copies.mono _ _|exact count_plus.mono _ _ _|exact LeO.refl _|exact LeO.none _|refine LeO.ite ?_ ?_|refine LeO.bind ?_ (fun _=>?_)
theorem count_star.mono:∀ a0 a1 k,LeO (count_star.f k a0 a1) (count_star.f (k + 1) a0 a1):=by
  intro a0 a1 k
  obtain ⟨ih0,ih1⟩:=count_star.mono_l k
  unfold count_star.f
  with_reducible repeat' first|exact ih0 _ _ _ _|exact ih1 _ _ _ _ _ _ _ _ _|exact count_copies.mono _ _|exact count_plus.mono _ _ _|exact LeO.refl _|exact LeO.none _|refine LeO.ite ?_ ?_|refine LeO.bind ?_ (fun _=>?_)
def count_star.T11:Bool × List (List Nat × List Nat):=(true,[([],[]),([0],[0]),([],[]),([2],[2]),([3],[3]),([],[]),([5],[5]),([4,6],[4,6]),([7,7],[7]),([1,8,8],[1,8]),([0,1,2,3,4,5,6,7,8,9],[]),([10,9,9,0,1,2,3,4,5,6,7,8,9],[9,10])])
def count_star.B11:List Nat:=[0,1,0,4,12,0,32,124,252,511,1023,2047]
theorem count_star.tab11:rtab .any (opsOf Try.f71 11)=count_star.T11:=by kernel_rfl
theorem count_star.bits11:waitsOk count_star.T11.2 count_star.B11=true:=by kernel_rfl
set_option maxHeartbeats 8000000 in
set_option maxRecDepth 100000 in
theorem count_star.calls (k:Nat) (a0:Int) (a5:Nat → Prop) (A1:Option Addr) (c1:Nat) (L:List (S60)) (r:List (S60)) (w:World) (t7:Kd.V k60 60 w w.heap.size (fun k_=>a5 k_) (.slice A1 L.length c1) L) (h:count_star.f k a0 L=some r) :
    Calls Try.prog 71 #[.int .i64 a0,.slice A1 L.length c1] w fun e w'=>∃ q3:Value,e=.returned (q3)∧Kd.N k60 60 w' w.heap.size (fun k_=>(a5 k_ ∨ w.heap.size ≤ k_)) q3 r∧Below w.heap.size w w':=by
 have v8:=Try.underlying60;have l3:=mk0 (show Kd.V k60 60 w w.heap.size (fun k_=>(a5 k_ ∨ w.heap.size ≤ k_)) (.slice A1 L.length c1) L from Kd.V_mono t7 (fun k_ hk=>.inl hk));have HB:=mk0 (Below.refl w.heap.size w);have H:(if 0 ≤ a0 then (if (a0:Int).toNat ≤ 35184372088832 then (count_star.l0 k a0 L (([(⟨(List.replicate (a0:Int).toNat 0),([]:List (List Int))⟩:S60)]:List (S60))) 1) else (none)) else (none))=some r:=h;clear h
 by_cases c3:0 ≤ a0
 ·
  rw [if_pos c3] at H;have c3b0:=eq_true c3;have c3b1:decide (0 ≤ a0)=true:=decide_eq_true c3;clear c3
  by_cases c4:(a0:Int).toNat ≤ 35184372088832
  ·
   rw [if_pos c4] at H;have c4b0:=eq_true c4;have c4b1:decide ((a0:Int).toNat ≤ 35184372088832)=true:=decide_eq_true c4;clear c4;obtain ⟨g3,g5⟩:∃ y_:List Int,y_=(List.replicate (a0:Int).toNat 0):=⟨_,rfl⟩
   replace H:(count_star.l0 k a0 L (([(⟨g3,([]:List (List Int))⟩:S60)]:List (S60))) 1)=some r:=by first|(rw [g5];with_reducible exact H)|(have b5:=(Option.bind_some _ _).symm.trans H;rw [g5];with_reducible exact b5)|(have b5:=(Option.bind_some _ _).symm.trans H;with_reducible exact b5)|with_reducible exact H|(rw [g5];exact H)|exact H
   have l8:=mk0 g5;clear g5;obtain ⟨n3,g6⟩:∃ y_:List (S60),y_=(([(⟨g3,([]:List (List Int))⟩:S60)]:List (S60))):=⟨_,rfl⟩
   replace H:(count_star.l0 k a0 L n3 1)=some r:=by first|(rw [g6];with_reducible exact H)|(have b5:=(Option.bind_some _ _).symm.trans H;rw [g6];with_reducible exact b5)|(have b5:=(Option.bind_some _ _).symm.trans H;with_reducible exact b5)|with_reducible exact H|(rw [g6];exact H)|exact H
   have l9:=mk0 g6;clear g6;have H':=mk0 H;clear H;go_enter Try.func71,Try.ntmps71;go_wp2_with (first|((with_reducible refine gate_dst (N:=11) rfl ?_);refine Kd.R_make (Kd.int .i64) _ 3 rfl (N:=11) rfl 23 _ _ rfl a0 rfl rfl Try.underlying23 (.int .i64 0) 8 info3 rfl (by decide) (by omega) 0 (ok:=fun _=>True) (okp:=fun _=>True) rfl (fun _ hk=>hk) trivial (of_decide_eq_true (by assumption)) (Nat.le_trans (Nat.mul_le_mul_right _ (of_decide_eq_true (by assumption):a0.toNat ≤ 35184372088832)) (by omega)) (Below.refl _ _) (Nat.le_refl _) ?_;intro v9 w5 j5 hb hg_ f2;clear hg_ f2;(first|rw [← l8.1] at j5|(simp only [Int.reduceToNat] at j5;rw [← l8.1] at j5));have i3:=mk0 (Kd.R_lower (Kd.R_newM (M:=fun k_=>(w.heap.size ≤ k_)) j5 (below_size HB.1) (fun k_ h_=>h_)) (below_size HB.1));replace l3:=mk0 (Kd.V_elder' l3.1 (Kd.R_base j5) hb);replace HB:=bst HB hb;clear hb j5;obtain ⟨q4,q5,t8⟩:=Kd.R_slice i3.1;subst t8)|((with_reducible refine gate_dst (N:=13) rfl ?_);refine Kd.N_lit k60 _ 60 ?hg (N':=13) ?hd (xs:=([(⟨g3,([]:List (List Int))⟩:S60)]:List (S60))) (inner:=[.slice q4 g3.length q5,.slice none 0 0]) (ok:=(fun k_=>(a5 k_ ∨ w.heap.size ≤ k_))) (okp:=(fun k_=>(a5 k_ ∨ w.heap.size ≤ k_))) ?hr ?hp (fun _ hk=>hk) ((show ∀ k_,w5.heap.size ≤ k_ → (fun k_=>(a5 k_ ∨ w.heap.size ≤ k_)) k_ from fun k_ hk=>(.inr (Nat.le_trans (below_size HB.1) hk))) _ (Nat.le_refl _)) (Below.refl _ _) (Nat.le_refl _) (by simp) ?_;(case hd=>rfl);(case hg=>rfl);(case hr=>first|(go_simp;done)|(go_simp;rfl));(case hp=>exact (Reps.c2 (show Kd.FK k60 _ _ (⟨g3,([]:List (List Int))⟩:S60) [.slice q4 g3.length q5,.slice none 0 0] from (k60_mkF _ _ (⟨g3,([]:List (List Int))⟩:S60) (Kd.R_reads' (Kd.R_mono (ok':=(fun k_=>(a5 k_ ∨ w.heap.size ≤ k_))) (i3.1) (fun k_ hk=>(.inr (hk.1))))).2.1 (Kd.R_F (Kd.R_mono (ok':=(fun k_=>(a5 k_ ∨ w.heap.size ≤ k_))) (i3.1) (fun k_ hk=>(.inr (hk.1))))) (Nat.le_refl _) (Kd.F_nil _ _ _))) (Reps.none _ _)));intro x1 w8 i2 hb hg_ f2;clear hg_ f2;(first|rw [← l9.1] at i2|(simp only [Int.reduceToNat] at i2;rw [← l9.1] at i2));have p1:=mk0 (Kd.N_lower i2 (below_size HB.1));replace l3:=mk0 (Kd.V_elder' l3.1 (by first|exact Kd.N_base i2|exact Kd.S_base i2|exact Kd.R_base i2) hb);replace HB:=bst HB hb;clear i3;clear hb i2))
   go_loopg [5,6] k (fun kq v5 v6 w'=>∃ (c0:List (S60)) (b6:Int),v6=.int .i64 b6∧Aside0 (count_star.l0 kq a0 L c0 b6=some r)∧Aside0 (kq ≤ k)∧Aside0 (Kd.V k60 60 w' w.heap.size (fun k_=>(a5 k_ ∨ w.heap.size ≤ k_)∧some k_ ≠ (v5:Value).ownBlock) (.slice A1 L.length c1) L)∧Aside0 (Kd.N k60 60 w' w.heap.size (fun k_=>(a5 k_ ∨ w.heap.size ≤ k_)) v5 c0)∧Aside0 (Below w.heap.size w w'))
   case atStart=>exact ⟨(n3),(1),(by first|rfl|(simp;done)|(simp [*];done)),H',⟨Nat.le_refl _⟩,⟨by exact Kd.V_mono l3.1 (fun _ hk=>⟨hk.1.1,hk.2⟩)⟩,⟨by exact p1.1⟩,⟨by exact HB.1⟩⟩
   case round =>
    clear H';try clear c1
    try clear c2
    try clear p2
    try clear c3
    try clear c3b0
    try clear c3b1
    try clear c4
    try clear c4b0
    try clear c4b1
    try clear c7
    obtain ⟨c0,b6,rfl,HA,j6,b1,a6,HB⟩:=hrel;cases gk with
    | zero=>exact absurd HA.1 (by simp [count_star.l0])
    | succ k1 =>
     have H:=HA.1;clear HA;simp only [count_star.l0] at H;obtain ⟨d2,g7⟩:∃ j_:Int,(shl .i64 1 (L.length:Int))=j_:=⟨_,rfl⟩
     replace H:(if b6 < (d2) then (if 0 ≤ a0 then (if (a0:Int).toNat ≤ 35184372088832 then (count_star.l1 k1 a0 L c0 b6 L (L.length:Int) 0 (List.replicate (a0:Int).toNat 0) ([]:List (List Int))) else (none)) else (none)) else (some c0))=some r:=by first|(rw [g7] at H;exact H)|(simp only [g7] at H ⊢;exact H)
     have i7:(IntKind.i64.wrap (1 * 2 ^ min (L.length:Int).toNat 64))=d2:=g7;have hji10z:(L.length:Int) ≤ 64 → (IntKind.i64.wrap (1 * 2 ^ (L.length:Int).toNat))=d2:=shl_small g7;have hji10p:(IntKind.i64.wrap (1 * 2 ^ min L.length 64))=d2:=i7;have hji10q:(L.length:Int) ≤ 64 → (IntKind.i64.wrap (1 * 2 ^ L.length))=d2:=hji10z;have hji10r:(IntKind.i64.wrap (2 ^ min L.length 64))=d2:=by have h_:=hji10p;rw [Int.one_mul] at h_;exact h_
     have hji10s:(L.length:Int) ≤ 64 → (IntKind.i64.wrap (2 ^ L.length))=d2:=fun hle_=>by have h_:=hji10q hle_;rw [Int.one_mul] at h_;exact h_
     have hji10u:(IntKind.i64.wrap (2 ^ min (L.length:Int).toNat 64))=d2:=by have h_:=i7;rw [Int.one_mul] at h_;exact h_
     have hji10v:(L.length:Int) ≤ 64 → (IntKind.i64.wrap (2 ^ (L.length:Int).toNat))=d2:=fun hle_=>by have h_:=hji10z hle_;rw [Int.one_mul] at h_;exact h_
     have hji10y:(wrap64 (1 * 2 ^ min (L.length:Int).toNat 64))=d2:=(i64_w _).symm.trans i7;have hji10x:(L.length:Int) ≤ 64 → (wrap64 (1 * 2 ^ (L.length:Int).toNat))=d2:=fun h_=>(i64_w _).symm.trans (hji10z h_)
     by_cases c11:b6 < (d2)
     ·
      rw [if_pos c11] at H;have c11b0:decide (b6 < (d2))=true:=decide_eq_true c11;clear c11
      by_cases c12:0 ≤ a0
      ·
       rw [if_pos c12] at H;have c12b0:=eq_true c12;have c12b1:decide (0 ≤ a0)=true:=decide_eq_true c12;clear c12
       by_cases c13:(a0:Int).toNat ≤ 35184372088832
       ·
        rw [if_pos c13] at H;have c13b0:=eq_true c13;have c13b1:decide ((a0:Int).toNat ≤ 35184372088832)=true:=decide_eq_true c13;clear c13;obtain ⟨f7,g8⟩:∃ y_:List Int,y_=(List.replicate (a0:Int).toNat 0):=⟨_,rfl⟩
        replace H:(count_star.l1 k1 a0 L c0 b6 L (L.length:Int) 0 f7 ([]:List (List Int)))=some r:=by first|(rw [g8];with_reducible exact H)|(have b5:=(Option.bind_some _ _).symm.trans H;rw [g8];with_reducible exact b5)|(have b5:=(Option.bind_some _ _).symm.trans H;with_reducible exact b5)|with_reducible exact H|(rw [g8];exact H)|exact H
        have m0:=mk0 g8;clear g8;have H':=mk0 H;clear H;go_wp2_with (first|((with_reducible refine gate_dst (N:=22) rfl ?_);refine Kd.R_make (Kd.int .i64) _ 3 rfl (N:=22) rfl 23 _ _ rfl a0 rfl rfl Try.underlying23 (.int .i64 0) 8 info3 rfl (by decide) (by omega) 0 (ok:=fun _=>True) (okp:=fun _=>True) rfl (fun _ hk=>hk) trivial (of_decide_eq_true (by assumption)) (Nat.le_trans (Nat.mul_le_mul_right _ (of_decide_eq_true (by assumption):a0.toNat ≤ 35184372088832)) (by omega)) (Below.refl _ _) (Nat.le_refl _) ?_;intro x3 y0 g4 hb hg_ f2;clear hg_ f2;(first|rw [← m0.1] at g4|(simp only [Int.reduceToNat] at g4;rw [← m0.1] at g4));have i4:=mk0 (Kd.R_lower (Kd.R_newM (M:=fun k_=>(w.heap.size ≤ k_)) g4 (below_size HB.1) (fun k_ h_=>h_)) (below_size HB.1));replace b1:=mk0 (Kd.V_elder' b1.1 (Kd.R_base g4) hb);replace a6:=mk0 (Kd.N_elder' a6.1 (Kd.R_base g4) hb);replace HB:=bst HB hb;clear hb g4;obtain ⟨h4,h5,q6⟩:=Kd.R_slice i4.1;subst q6)|((with_reducible refine gate_dst (N:=7) rfl ?_);refine box_event ?hg (N:=7) ?hd (cs:=#[.slice none 0 0,.slice none 0 0]) (t:=60) ?hr ?_;(case hd=>rfl);(case hg=>rfl);(case hr=>first|(go_simp;done)|(go_simp;rfl));intro C hg y1 f8 hb;have F:=mk0 (f8);have p3:=szw hg HB;have d3:=p3;replace b1:=mk0 (Kd.V_below (Kd.V_elderB b1.1 C (Nat.le_of_eq hg.symm)) hb);replace a6:=mk0 (Kd.N_below (Kd.N_elderB a6.1 C (Nat.le_of_eq hg.symm)) hb);replace i4:=rbl i4 hb;replace HB:=bst HB hb;clear hb f8 hg;have m4:=q0_ F;have m5:=q1_ F;have m6:=blk_frozen F.1 0;have m7:=blk_frozen F.1 1))
        go_loopg [26] k1 (fun kq u0 w'=>∃ (B:Int) (E:List Int) (X:List (List Int)) (c8:Value) (J:Value),u0=.int .i64 B∧Aside0 (count_star.l1 kq a0 L c0 b6 L (L.length:Int) B E X=some r)∧Aside0 (kq ≤ k1)∧Aside0 (Kd.V k60 60 w' w.heap.size (fun k_=>(a5 k_ ∨ w.heap.size ≤ k_)∧some k_ ≠ (u5:Value).ownBlock∧some k_ ≠ (c8:Value).ownBlock∧some k_ ≠ (J:Value).ownBlock∧k_ ≠ C) (.slice A1 L.length c1) L)∧Aside0 (Kd.N k60 60 w' w.heap.size (fun k_=>(a5 k_ ∨ w.heap.size ≤ k_)∧some k_ ≠ (c8:Value).ownBlock∧some k_ ≠ (J:Value).ownBlock∧k_ ≠ C) u5 c0)∧Aside0 (Kd.V k60 60 w' w.heap.size (fun k_=>(a5 k_ ∨ w.heap.size ≤ k_)∧some k_ ≠ (u5:Value).ownBlock∧some k_ ≠ (c8:Value).ownBlock∧some k_ ≠ (J:Value).ownBlock∧k_ ≠ C) (.slice A1 L.length c1) L)∧Aside0 (Kd.R (Kd.int .i64) 3 w' w.heap.size (fun k_=>(w.heap.size ≤ k_)) c8 E)∧Aside0 (Kd.N (Kd.slice 3 (Kd.int .i64)) 23 w' w.heap.size (fun k_=>(a5 k_ ∨ w.heap.size ≤ k_)∧some k_ ≠ (u5:Value).ownBlock∧some k_ ≠ (c8:Value).ownBlock∧k_ ≠ C) J X)∧Aside0 (w'.heap[C]?=some (.cells #[c8,J] 60 (0,0)))∧Aside0 (Below w.heap.size w w'))
        case atStart=>exact ⟨(0),(f7),(([]:List (List Int))),(.slice h4 f7.length h5),(.slice none 0 0),(by first|rfl|(simp;done)|(simp [*];done)),H',⟨Nat.le_refl _⟩,⟨by exact Kd.V_mono (Kd.V_far (p:=⟨C,1,none⟩) (Kd.V_far (p:=⟨C,0,none⟩) (Kd.V_mono b1.1 (fun k_ hk=>(⟨hk,hk.2⟩:_∧k_ ≠ C))) (fun _ hk=>hk.2) (.slice h4 f7.length h5)) (fun _ hk=>hk.2) (.slice none 0 0)) (fun _ hk=>⟨hk.1.1.1.1,⟨hk.1.1.1.2,⟨hk.1.1.2,⟨(by simp [Value.ownBlock]),hk.1.2⟩⟩⟩⟩)⟩,⟨by exact Kd.N_mono (Kd.N_far (p:=⟨C,1,none⟩) (Kd.N_far (p:=⟨C,0,none⟩) (Kd.N_mono a6.1 (fun k_ hk=>(⟨hk,hk.2⟩:_∧k_ ≠ C))) (fun _ hk=>hk.2) (.slice h4 f7.length h5)) (fun _ hk=>hk.2) (.slice none 0 0)) (fun _ hk=>⟨hk.1.1.1,⟨hk.1.1.2,⟨(by simp [Value.ownBlock]),hk.1.2⟩⟩⟩)⟩,⟨by exact Kd.V_mono (Kd.V_far (p:=⟨C,1,none⟩) (Kd.V_far (p:=⟨C,0,none⟩) (Kd.V_mono b1.1 (fun k_ hk=>(⟨hk,hk.2⟩:_∧k_ ≠ C))) (fun _ hk=>hk.2) (.slice h4 f7.length h5)) (fun _ hk=>hk.2) (.slice none 0 0)) (fun _ hk=>⟨hk.1.1.1.1,⟨hk.1.1.1.2,⟨hk.1.1.2,⟨(by simp [Value.ownBlock]),hk.1.2⟩⟩⟩⟩)⟩,⟨by exact Kd.R_mono (Kd.R_far (p:=⟨C,1,none⟩) (Kd.R_far (p:=⟨C,0,none⟩) (Kd.R_types i4.1 F.1 (by decide)) (fun _ hk=>hk.2) (.slice h4 f7.length h5)) (fun _ hk=>hk.2) (.slice none 0 0)) (fun _ hk=>hk.1.1)⟩,⟨by first|exact Kd.S_nil _ _ _ _ _|exact Kd.N_nil _ _ _ _ _|exact Kd.V_nil _ _ _ _ _|exact Kd.Q_nil _ _ _ _ _|exact Kd.R_nil _ _ _ _ _⟩,⟨by refine blk_put (cs:=#[.slice h4 f7.length h5,.slice none 0 0]) ?_ 1 _ rfl;refine blk_put (cs:=#[.slice none 0 0,.slice none 0 0]) ?_ 0 _ rfl;exact F.1⟩,⟨by repeat (first|(with_reducible first|exact HB.1|apply below_alloc|apply pw_below_drewN|apply below_drew1|refine below_set ?_ d3.1)|exact HB.1)⟩⟩
        case round =>
         clear H';try clear c1
         try clear c2
         try clear p2
         try clear c3
         try clear c3b0
         try clear c3b1
         try clear c4
         try clear c4b0
         try clear c4b1
         try clear p6
         try clear c7
         try clear c11
         try clear c11b0
         try clear c12
         try clear c12b0
         try clear c12b1
         try clear c13
         try clear c13b0
         try clear c13b1
         try clear m4
         try clear m5
         try clear m6
         try clear m7
         try clear p2
         obtain ⟨B,E,X,c8,J,rfl,HA,j7,b1,a6,a7,G,I,F,HB⟩:=hrel;cases gk with
         | zero=>exact absurd HA.1 (by simp [count_star.l1])
         | succ k2 =>
          have H:=HA.1;clear HA;simp only [count_star.l1] at H
          by_cases c19:B < (L.length:Int)
          ·
           rw [if_pos c19] at H;have c19b0:decide (B < (L.length:Int))=true:=decide_eq_true c19;clear c19
           by_cases c20:0 ≤ B
           ·
            rw [if_pos c20] at H;have c20b0:decide (0 ≤ B)=true:=decide_eq_true c20;clear c20
            by_cases c21:B < (L.length:Int)
            ·
             rw [if_pos c21] at H;have c21b0:decide (B < (L.length:Int))=true:=decide_eq_true c21;clear c21;have c22b0:=eq_true (of_decide_eq_true (by assumption):0 ≤ B);obtain ⟨f9,i5⟩:∃ j_:Int,(shr .i64 b6 B)=j_:=⟨_,rfl⟩
             replace H:(if (Go.bits .and .i64 (f9) 1)=1 then ((count_plus.f k2 E ((rd_T60 L B).f0)).bind fun O=>((some (([(rd_T60 L B).f0]:List (List Int)):List (List Int))).bind fun g0=>(if g0.length + ((rd_T60 L B).f1).length < 5864062014805 then ((count_copies.f k2 (g0 ++ ((rd_T60 L B).f1))).bind fun b7=>(if X.length + b7.length < 5864062014805 then (count_star.l1 k2 a0 L c0 b6 L (L.length:Int) (wrap64 (B + 1)) O (X ++ b7)) else (none))) else (none)))) else (count_star.l1 k2 a0 L c0 b6 L (L.length:Int) (wrap64 (B + 1)) E X))=some r:=by first|(rw [i5] at H;exact H)|(simp only [i5] at H ⊢;exact H)
             have u1:(b6 / 2 ^ min B.toNat 64)=f9:=i5;have hji23z:B ≤ 64 → (b6 / 2 ^ B.toNat)=f9:=shr_small i5
             by_cases c24:(Go.bits .and .i64 (f9) 1)=1
             ·
              rw [if_pos c24] at H;have c24b0:((Go.bits .and .i64 (f9) 1) == 1)=true:=beq_iff_eq.mpr c24;have c24b1:((Go.bits .and .i64 (f9) 1) != 1)=false:=bne_eq_false_iff_eq.mpr c24;clear c24;replace H:=Option.bind_eq_some_iff.mp H;obtain ⟨O,n4,H⟩:=H;(try dsimp only at H);have u2:=mk0 n4;clear n4;obtain ⟨g0,g9⟩:∃ y_:List (List Int),y_=(([(rd_T60 L B).f0]:List (List Int))):=⟨_,rfl⟩
              replace H:(if g0.length + ((rd_T60 L B).f1).length < 5864062014805 then ((count_copies.f k2 (g0 ++ ((rd_T60 L B).f1))).bind fun b7=>(if X.length + b7.length < 5864062014805 then (count_star.l1 k2 a0 L c0 b6 L (L.length:Int) (wrap64 (B + 1)) O (X ++ b7)) else (none))) else (none))=some r:=by first|(rw [g9];with_reducible exact H)|(have b5:=(Option.bind_some _ _).symm.trans H;rw [g9];with_reducible exact b5)|(have b5:=(Option.bind_some _ _).symm.trans H;with_reducible exact b5)|with_reducible exact H|(rw [g9];exact H)|exact H
              have m1:=mk0 g9;clear g9
              by_cases c26:g0.length + ((rd_T60 L B).f1).length < 5864062014805
              ·
               rw [if_pos c26] at H;have p4:=mk0 c26;clear c26;obtain ⟨d4,h0⟩:∃ y_:List (List Int),y_=(g0 ++ ((rd_T60 L B).f1)):=⟨_,rfl⟩
               replace H:((count_copies.f k2 d4).bind fun b7=>(if X.length + b7.length < 5864062014805 then (count_star.l1 k2 a0 L c0 b6 L (L.length:Int) (wrap64 (B + 1)) O (X ++ b7)) else (none)))=some r:=by first|(rw [h0];with_reducible exact H)|(have b5:=(Option.bind_some _ _).symm.trans H;rw [h0];with_reducible exact b5)|(have b5:=(Option.bind_some _ _).symm.trans H;with_reducible exact b5)|with_reducible exact H|(rw [h0];exact H)|exact H
               have p5:=mk0 h0;clear h0;replace H:=Option.bind_eq_some_iff.mp H;obtain ⟨b7,n5,H⟩:=H;(try dsimp only at H);have u3:=mk0 n5;clear n5
               by_cases c28:X.length + b7.length < 5864062014805
               ·
                rw [if_pos c28] at H;have p7:=mk0 c28;clear c28;obtain ⟨g1,h1⟩:∃ y_:List (List Int),y_=(X ++ b7):=⟨_,rfl⟩
                replace H:(count_star.l1 k2 a0 L c0 b6 L (L.length:Int) (wrap64 (B + 1)) O g1)=some r:=by first|(rw [h1];with_reducible exact H)|(have b5:=(Option.bind_some _ _).symm.trans H;rw [h1];with_reducible exact b5)|(have b5:=(Option.bind_some _ _).symm.trans H;with_reducible exact b5)|with_reducible exact H|(rw [h1];exact H)|exact H
                have p8:=mk0 h1;clear h1;have H':=mk0 H;clear H;have f3:0 ≤ (B:Int):=of_decide_eq_true (by assumption);have f4:B < (L.length:Int):=of_decide_eq_true (by assumption);obtain ⟨j9,Y,Z,a2,a3,l5,h6,h7,e5,e6,e7,e8⟩:=at_T60 (Kd.V_reads' a7.1).2.2 B f3 f4;cases l5;obtain ⟨p9,i8,i9,e1⟩:=Kd.V_get a7.1 z60 B f3 (by first|exact f4|exact of_decide_eq_true (by assumption)|(have e_:=(Kd.V_reads' a7.1).1;omega));obtain ⟨m8,m9,n0,n1,rfl,d5,d6,d7,d8⟩:=k60_openF i9;have c5:=e1 0 _ rfl;rw [Nat.add_zero] at c5;replace c5:=Option.some.inj (c5.symm.trans h6);injection c5 with hva_ hvn_ hvc_;rw [hva_] at d6;rw [hvc_] at d5;have a1:=mk0 (show Kd.V (Kd.int .i64) 3 _ w.heap.size _ _ ((rd_T60 L B).f0) from Kd.V_mk d5 d6);clear hva_ hvn_ hvc_ d6 d5;have c6:=e1 1 _ rfl;rw [add_field _ _ 1 (by omega)] at c6;replace c6:=Option.some.inj (c6.symm.trans h7);injection c6 with hva_ hvn_ hvc_;rw [hva_] at d8;rw [hvc_] at d7;have a4:=mk0 (show Kd.V (Kd.slice 3 (Kd.int .i64)) 23 _ w.heap.size _ _ ((rd_T60 L B).f1) from Kd.V_mk d7 d8);clear hva_ hvn_ hvc_ d8 d7;clear e1 i8;have c9:=mk0 e6;have j8:=mk0 e5;clear e6 e5;have d0:=mk0 e8;have n2:=mk0 e7;clear e8 e7;replace f3:=eq_true f3;replace f4:=eq_true f4;try go_wp2_with (first|((with_reducible refine gate_dst (N:=9) rfl ?_);refine box_event ?hg (N:=9) ?hd (cs:=#[.slice none 0 0,.slice none 0 0]) (t:=60) ?hr ?_;(case hd=>rfl);(case hg=>rfl);(case hr=>first|(go_simp;done)|(go_simp;rfl));intro D hg y2 f8 hb;have U:=mk0 (f8);have l2:=szw hg HB;have f5:=l2;have d1:=nlt hg F;have d9:=ngt hg F;replace b1:=mk0 (Kd.V_below (Kd.V_elderB b1.1 D (Nat.le_of_eq hg.symm)) hb);replace a6:=mk0 (Kd.N_below (Kd.N_elderB a6.1 D (Nat.le_of_eq hg.symm)) hb);replace a7:=mk0 (Kd.V_below (Kd.V_elderB a7.1 D (Nat.le_of_eq hg.symm)) hb);replace G:=rbl G hb;replace I:=mk0 (Kd.N_below (Kd.N_elderB I.1 D (Nat.le_of_eq hg.symm)) hb);replace a1:=mk0 (Kd.V_below (Kd.V_elderB (by exact a1.1) D (Nat.le_of_eq hg.symm)) hb);replace a4:=mk0 (Kd.V_below (Kd.V_elderB (by exact a4.1) D (Nat.le_of_eq hg.symm)) hb);replace F:=bkb F hb;replace c9:=mk0 (Kd.C_below (by repeat (first|(with_reducible exact c9.1)|(with_reducible refine Kd.C_alloc ?_ _)|(with_reducible refine Kd.C_drewN ?_ _)|(with_reducible refine Kd.C_drew ?_)|exact c9.1)) hb);replace d0:=mk0 (Kd.C_below (by repeat (first|(with_reducible exact d0.1)|(with_reducible refine Kd.C_alloc ?_ _)|(with_reducible refine Kd.C_drewN ?_ _)|(with_reducible refine Kd.C_drew ?_)|exact d0.1)) hb);replace HB:=bst HB hb;clear hb f8 hg;have v1:=d9.1;have v2:=d1.1;have r1:=q0_ U;have r2:=q1_ U;have r3:=blk_frozen U.1 0;have r4:=blk_frozen U.1 1;have r5:=q0_ F;have r6:=q1_ F;have r7:=blk_frozen F.1 0;have r8:=blk_frozen F.1 1;obtain ⟨a9,a8,q7⟩:=Kd.R_slice G.1;subst q7)|((with_reducible refine gate_callee (f:=93) rfl ?_);refine goesL_ (some 40) rfl rfl Try.func93 (by kernel_rfl) rfl #[.slice a9 E.length a8,.slice Y ((rd_T60 L B).f0).length Z] rfl (by (try simp only [m0_,m1_,m2_]);first|done|rfl|(simp only [l0_,l1_];rfl)) ?_;(with_reducible refine (count_plus.calls k2 _ _ E _ _ ((rd_T60 L B).f0) O _ ?side1 ?side2 ?side3 ?side4 u2.1).mono ?_);(case side1=>refine (Kd.R_reads' (e:=3) (base:=w.heap.size) (ok:=fun k_=>(w.heap.size ≤ k_)) (n:=E.length) (c:=a8) ?_).2.2;exact (by exact (Kd.R_mono (Kd.R_far (p:=⟨D,1,none⟩) (Kd.R_far (p:=⟨D,0,none⟩) (Kd.R_types G.1 U.1 (by decide)) (fun _ hk=>hk.2) (.slice Y ((rd_T60 L B).f0).length Z)) (fun _ hk=>hk.2) (.slice a2 ((rd_T60 L B).f1).length a3)) (fun _ h_=>h_.1))));(case side2=>exact (Kd.R_reads' G.1).2.1);(case side3=>repeat (first|exact ((Kd.V_reads' (by exact (Kd.V_mono (Kd.V_far (p:=⟨D,1,none⟩) (Kd.V_far (p:=⟨D,0,none⟩) (Kd.V_mono a1.1 (fun k_ hk=>(⟨hk,hk.2⟩:_∧k_ ≠ D))) (fun _ hk=>hk.2) (.slice Y ((rd_T60 L B).f0).length Z)) (fun _ hk=>hk.2) (.slice a2 ((rd_T60 L B).f1).length a3)) (fun _ h_=>h_.1)))).2.2)|(with_reducible refine Kd.C_alloc ?_ _)|(with_reducible refine Kd.C_drewN ?_ _)|(with_reducible refine Kd.C_drew ?_)));(case side4=>exact j8.1);rintro e f6 ⟨x4,rfl,b3,hb⟩;refine ⟨_,rfl,?_⟩;have b2:=mk0 (Kd.R_lower (Kd.R_new' (Kd.R_newM (M:=fun k_=>(w.heap.size ≤ k_)) b3 (below_size (by repeat (with_reducible first|exact HB.1|refine below_set ?_ d3.1|refine below_set ?_ f5.1))) (fun k_ h_=>h_)) (Kd.R_lt (by exact (Kd.R_mono (Kd.R_far (p:=⟨D,1,none⟩) (Kd.R_far (p:=⟨D,0,none⟩) (Kd.R_types G.1 U.1 (by decide)) (fun _ hk=>hk.2) (.slice Y ((rd_T60 L B).f0).length Z)) (fun _ hk=>hk.2) (.slice a2 ((rd_T60 L B).f1).length a3)) (fun _ h_=>h_.1))))) (below_size (by repeat (with_reducible first|exact HB.1|refine below_set ?_ d3.1|refine below_set ?_ f5.1))));replace b1:=mk0 (Kd.V_elder' (by exact (Kd.V_mono (Kd.V_far (p:=⟨D,1,none⟩) (Kd.V_far (p:=⟨D,0,none⟩) (Kd.V_mono b1.1 (fun k_ hk=>(⟨hk,hk.2⟩:_∧k_ ≠ D))) (fun _ hk=>hk.2) (.slice Y ((rd_T60 L B).f0).length Z)) (fun _ hk=>hk.2) (.slice a2 ((rd_T60 L B).f1).length a3)) (fun _ h_=>h_.1))) (Kd.R_base b3) hb);replace a6:=mk0 (Kd.N_elder' (by exact (Kd.N_mono (Kd.N_far (p:=⟨D,1,none⟩) (Kd.N_far (p:=⟨D,0,none⟩) (Kd.N_mono a6.1 (fun k_ hk=>(⟨hk,hk.2⟩:_∧k_ ≠ D))) (fun _ hk=>hk.2) (.slice Y ((rd_T60 L B).f0).length Z)) (fun _ hk=>hk.2) (.slice a2 ((rd_T60 L B).f1).length a3)) (fun _ h_=>h_.1))) (Kd.R_base b3) hb);replace a7:=mk0 (Kd.V_elder' (by exact (Kd.V_mono (Kd.V_far (p:=⟨D,1,none⟩) (Kd.V_far (p:=⟨D,0,none⟩) (Kd.V_mono a7.1 (fun k_ hk=>(⟨hk,hk.2⟩:_∧k_ ≠ D))) (fun _ hk=>hk.2) (.slice Y ((rd_T60 L B).f0).length Z)) (fun _ hk=>hk.2) (.slice a2 ((rd_T60 L B).f1).length a3)) (fun _ h_=>h_.1))) (Kd.R_base b3) hb);replace G:=mk0 (Kd.R_elder' (by exact (Kd.R_mono (Kd.R_far (p:=⟨D,1,none⟩) (Kd.R_far (p:=⟨D,0,none⟩) (Kd.R_types G.1 U.1 (by decide)) (fun _ hk=>hk.2) (.slice Y ((rd_T60 L B).f0).length Z)) (fun _ hk=>hk.2) (.slice a2 ((rd_T60 L B).f1).length a3)) (fun _ h_=>h_.1))) (Kd.R_base b3) hb);replace I:=mk0 (Kd.N_elder' (by exact (Kd.N_mono (Kd.N_far (p:=⟨D,1,none⟩) (Kd.N_far (p:=⟨D,0,none⟩) (Kd.N_mono I.1 (fun k_ hk=>(⟨hk,hk.2⟩:_∧k_ ≠ D))) (fun _ hk=>hk.2) (.slice Y ((rd_T60 L B).f0).length Z)) (fun _ hk=>hk.2) (.slice a2 ((rd_T60 L B).f1).length a3)) (fun _ h_=>h_.1))) (Kd.R_base b3) hb);replace F:=mk0 (blk_below (g:=C) (o:=.cells #[.slice a9 E.length a8,J] 60 (0,0)) (by (iterate 2 refine blk_far ?_ d1.1 _);exact F.1) hb);replace c9:=mk0 (Kd.C_below ((Kd.V_reads' (by exact (Kd.V_mono (Kd.V_far (p:=⟨D,1,none⟩) (Kd.V_far (p:=⟨D,0,none⟩) (Kd.V_mono a1.1 (fun k_ hk=>(⟨hk,hk.2⟩:_∧k_ ≠ D))) (fun _ hk=>hk.2) (.slice Y ((rd_T60 L B).f0).length Z)) (fun _ hk=>hk.2) (.slice a2 ((rd_T60 L B).f1).length a3)) (fun _ h_=>h_.1)))).2.2) hb);replace a1:=mk0 (Kd.V_elder' (by exact (Kd.V_mono (Kd.V_far (p:=⟨D,1,none⟩) (Kd.V_far (p:=⟨D,0,none⟩) (Kd.V_mono a1.1 (fun k_ hk=>(⟨hk,hk.2⟩:_∧k_ ≠ D))) (fun _ hk=>hk.2) (.slice Y ((rd_T60 L B).f0).length Z)) (fun _ hk=>hk.2) (.slice a2 ((rd_T60 L B).f1).length a3)) (fun _ h_=>h_.1))) (Kd.R_base b3) hb);replace d0:=mk0 (Kd.C_below ((Kd.V_reads' (by exact (Kd.V_mono (Kd.V_far (p:=⟨D,1,none⟩) (Kd.V_far (p:=⟨D,0,none⟩) (Kd.V_mono a4.1 (fun k_ hk=>(⟨hk,hk.2⟩:_∧k_ ≠ D))) (fun _ hk=>hk.2) (.slice Y ((rd_T60 L B).f0).length Z)) (fun _ hk=>hk.2) (.slice a2 ((rd_T60 L B).f1).length a3)) (fun _ h_=>h_.1)))).2.2) hb);replace a4:=mk0 (Kd.V_elder' (by exact (Kd.V_mono (Kd.V_far (p:=⟨D,1,none⟩) (Kd.V_far (p:=⟨D,0,none⟩) (Kd.V_mono a4.1 (fun k_ hk=>(⟨hk,hk.2⟩:_∧k_ ≠ D))) (fun _ hk=>hk.2) (.slice Y ((rd_T60 L B).f0).length Z)) (fun _ hk=>hk.2) (.slice a2 ((rd_T60 L B).f1).length a3)) (fun _ h_=>h_.1))) (Kd.R_base b3) hb);replace U:=mk0 (blk_below (g:=D) (o:=.cells #[.slice Y ((rd_T60 L B).f0).length Z,.slice a2 ((rd_T60 L B).f1).length a3] 60 (0,0)) (by refine blk_put (cs:=#[.slice Y ((rd_T60 L B).f0).length Z,.slice none 0 0]) ?_ 1 _ rfl;refine blk_put (cs:=#[.slice none 0 0,.slice none 0 0]) ?_ 0 _ rfl;exact U.1) hb);replace HB:=mk0 (below_step (by repeat (with_reducible first|exact HB.1|refine below_set ?_ d3.1|refine below_set ?_ f5.1)) hb);(try clear hb);(try clear hk);(try clear b3);obtain ⟨Q,T,q8⟩:=Kd.R_slice b2.1;subst q8;have r9:=q0_ F;have s4:=q1_ F;have s5:=blk_frozen F.1 0;have s6:=blk_frozen F.1 1))
                have n6:Aside0 (Kd.V k60 60 (f6.setCell ⟨C,0,none⟩ (.slice Q O.length T)) w.heap.size (fun k_=>(a5 k_ ∨ w.heap.size ≤ k_)∧some k_ ≠ (u5:Value).ownBlock∧some k_ ≠ (.slice a9 E.length a8:Value).ownBlock∧some k_ ≠ (J:Value).ownBlock∧some k_ ≠ (.slice Q O.length T:Value).ownBlock∧k_ ≠ C∧k_ ≠ D) (.slice (some j9) L.length c1) L):=⟨by exact Kd.V_mono (Kd.V_far (p:=⟨C,0,none⟩) (Kd.V_mono b1.1 (fun k_ hk=>(⟨hk,hk.1.1.2.2.2.2⟩:_∧k_ ≠ C))) (fun _ hk=>hk.2) (.slice Q O.length T)) (fun _ hk=>⟨hk.1.1.1.1,⟨hk.1.1.1.2.1,⟨hk.1.1.1.2.2.1,⟨hk.1.1.1.2.2.2.1,⟨hk.1.2,⟨hk.1.1.1.2.2.2.2,hk.1.1.2⟩⟩⟩⟩⟩⟩)⟩
                have n7:Aside0 (Kd.N k60 60 (f6.setCell ⟨C,0,none⟩ (.slice Q O.length T)) w.heap.size (fun k_=>(a5 k_ ∨ w.heap.size ≤ k_)∧some k_ ≠ (.slice a9 E.length a8:Value).ownBlock∧some k_ ≠ (J:Value).ownBlock∧some k_ ≠ (.slice Q O.length T:Value).ownBlock∧k_ ≠ C∧k_ ≠ D) u5 c0):=⟨by exact Kd.N_mono (Kd.N_far (p:=⟨C,0,none⟩) (Kd.N_mono a6.1 (fun k_ hk=>(⟨hk,hk.1.1.2.2.2⟩:_∧k_ ≠ C))) (fun _ hk=>hk.2) (.slice Q O.length T)) (fun _ hk=>⟨hk.1.1.1.1,⟨hk.1.1.1.2.1,⟨hk.1.1.1.2.2.1,⟨hk.1.2,⟨hk.1.1.1.2.2.2,hk.1.1.2⟩⟩⟩⟩⟩)⟩
                have n8:Aside0 (Kd.V k60 60 (f6.setCell ⟨C,0,none⟩ (.slice Q O.length T)) w.heap.size (fun k_=>(a5 k_ ∨ w.heap.size ≤ k_)∧some k_ ≠ (u5:Value).ownBlock∧some k_ ≠ (.slice a9 E.length a8:Value).ownBlock∧some k_ ≠ (J:Value).ownBlock∧some k_ ≠ (.slice Q O.length T:Value).ownBlock∧k_ ≠ C∧k_ ≠ D) (.slice (some j9) L.length c1) L):=⟨by exact Kd.V_mono (Kd.V_far (p:=⟨C,0,none⟩) (Kd.V_mono a7.1 (fun k_ hk=>(⟨hk,hk.1.1.2.2.2.2⟩:_∧k_ ≠ C))) (fun _ hk=>hk.2) (.slice Q O.length T)) (fun _ hk=>⟨hk.1.1.1.1,⟨hk.1.1.1.2.1,⟨hk.1.1.1.2.2.1,⟨hk.1.1.1.2.2.2.1,⟨hk.1.2,⟨hk.1.1.1.2.2.2.2,hk.1.1.2⟩⟩⟩⟩⟩⟩)⟩
                have n9:Aside0 (Kd.R (Kd.int .i64) 3 (f6.setCell ⟨C,0,none⟩ (.slice Q O.length T)) w.heap.size (fun k_=>(w.heap.size ≤ k_)∧some k_ ≠ (.slice Q O.length T:Value).ownBlock) (.slice a9 E.length a8) E):=⟨by exact Kd.R_mono (Kd.R_far (p:=⟨C,0,none⟩) (Kd.R_types G.1 F.1 (by decide)) (fun _ hk=>hk.2) (.slice Q O.length T)) (fun _ hk=>⟨hk.1.1,hk.1.2⟩)⟩
                have o0:Aside0 (Kd.N (Kd.slice 3 (Kd.int .i64)) 23 (f6.setCell ⟨C,0,none⟩ (.slice Q O.length T)) w.heap.size (fun k_=>(a5 k_ ∨ w.heap.size ≤ k_)∧some k_ ≠ (u5:Value).ownBlock∧some k_ ≠ (.slice a9 E.length a8:Value).ownBlock∧some k_ ≠ (.slice Q O.length T:Value).ownBlock∧k_ ≠ C∧k_ ≠ D) J X):=⟨by exact Kd.N_mono (Kd.N_far (p:=⟨C,0,none⟩) (Kd.N_mono I.1 (fun k_ hk=>(⟨hk,hk.1.1.2.2.2⟩:_∧k_ ≠ C))) (fun _ hk=>hk.2) (.slice Q O.length T)) (fun _ hk=>⟨hk.1.1.1.1,⟨hk.1.1.1.2.1,⟨hk.1.1.1.2.2.1,⟨hk.1.2,⟨hk.1.1.1.2.2.2,hk.1.1.2⟩⟩⟩⟩⟩)⟩
                have o1:Aside0 (Kd.V (Kd.int .i64) 3 (f6.setCell ⟨C,0,none⟩ (.slice Q O.length T)) w.heap.size (fun k_=>(a5 k_ ∨ w.heap.size ≤ k_)∧some k_ ≠ (u5:Value).ownBlock∧some k_ ≠ (.slice a9 E.length a8:Value).ownBlock∧some k_ ≠ (J:Value).ownBlock∧some k_ ≠ (.slice Q O.length T:Value).ownBlock∧k_ ≠ C∧k_ ≠ D) (.slice Y ((rd_T60 L B).f0).length Z) ((rd_T60 L B).f0)):=⟨by exact Kd.V_mono (Kd.V_far (p:=⟨C,0,none⟩) (Kd.V_mono a1.1 (fun k_ hk=>(⟨hk,hk.1.1.2.2.2.2⟩:_∧k_ ≠ C))) (fun _ hk=>hk.2) (.slice Q O.length T)) (fun _ hk=>⟨hk.1.1.1.1,⟨hk.1.1.1.2.1,⟨hk.1.1.1.2.2.1,⟨hk.1.1.1.2.2.2.1,⟨hk.1.2,⟨hk.1.1.1.2.2.2.2,hk.1.1.2⟩⟩⟩⟩⟩⟩)⟩
                have o2:Aside0 (Kd.V (Kd.slice 3 (Kd.int .i64)) 23 (f6.setCell ⟨C,0,none⟩ (.slice Q O.length T)) w.heap.size (fun k_=>(a5 k_ ∨ w.heap.size ≤ k_)∧some k_ ≠ (u5:Value).ownBlock∧some k_ ≠ (.slice a9 E.length a8:Value).ownBlock∧some k_ ≠ (J:Value).ownBlock∧some k_ ≠ (.slice Q O.length T:Value).ownBlock∧k_ ≠ C∧k_ ≠ D) (.slice a2 ((rd_T60 L B).f1).length a3) ((rd_T60 L B).f1)):=⟨by exact Kd.V_mono (Kd.V_far (p:=⟨C,0,none⟩) (Kd.V_mono a4.1 (fun k_ hk=>(⟨hk,hk.1.1.2.2.2.2⟩:_∧k_ ≠ C))) (fun _ hk=>hk.2) (.slice Q O.length T)) (fun _ hk=>⟨hk.1.1.1.1,⟨hk.1.1.1.2.1,⟨hk.1.1.1.2.2.1,⟨hk.1.1.1.2.2.2.1,⟨hk.1.2,⟨hk.1.1.1.2.2.2.2,hk.1.1.2⟩⟩⟩⟩⟩⟩)⟩
                have o3:Aside0 (Kd.R (Kd.int .i64) 3 (f6.setCell ⟨C,0,none⟩ (.slice Q O.length T)) w.heap.size (fun k_=>(w.heap.size ≤ k_)∧some k_ ≠ (.slice a9 E.length a8:Value).ownBlock) (.slice Q O.length T) O):=⟨by exact Kd.R_mono (Kd.R_far (p:=⟨C,0,none⟩) (Kd.R_types b2.1 F.1 (by decide)) (fun _ hk=>hk.2) (.slice Q O.length T)) (fun _ hk=>⟨hk.1.1.1,hk.1.2⟩)⟩
                have o4:Aside0 ((f6.setCell ⟨C,0,none⟩ (.slice Q O.length T)).heap[C]?=some (.cells #[.slice Q O.length T,J] 60 (0,0))):=⟨by refine blk_put (cs:=#[.slice a9 E.length a8,J]) ?_ 0 _ rfl;exact F.1⟩
                have o5:Aside0 ((f6.setCell ⟨C,0,none⟩ (.slice Q O.length T)).heap[D]?=some (.cells #[.slice Y ((rd_T60 L B).f0).length Z,.slice a2 ((rd_T60 L B).f1).length a3] 60 (0,0))):=⟨by refine blk_far ?_ d9.1 _;exact U.1⟩
                have l6:Aside0 (Below w.heap.size w (f6.setCell ⟨C,0,none⟩ (.slice Q O.length T))):=⟨by repeat (first|(with_reducible first|exact HB.1|apply below_alloc|apply pw_below_drewN|apply below_drew1|refine below_set ?_ d3.1|refine below_set ?_ f5.1)|exact HB.1)⟩
                (try clear b1);(try clear a6);(try clear a7);(try clear G);(try clear I);(try clear a1);(try clear a4);(try clear b2);(try clear F);(try clear U);(try clear HB);generalize (f6.setCell ⟨C,0,none⟩ (.slice Q O.length T))=u4 at n6 n7 n8 n9 o0 o1 o2 o3 o4 o5 l6 ⊢;have b1:=n6;have a6:=n7;have a7:=n8;have G:=n9;have I:=o0;have a1:=o1;have a4:=o2;have b2:=o3;have F:=o4;have U:=o5;have HB:=l6;clear n6 n7 n8 n9 o0 o1 o2 o3 o4 o5 l6;replace b1:=mk0 (Kd.V_drew b1.1);replace a6:=mk0 (Kd.N_drew a6.1);replace a7:=mk0 (Kd.V_drew a7.1);replace G:=rdr G;replace I:=mk0 (Kd.N_drew I.1);replace a1:=mk0 (Kd.V_drew a1.1);replace a4:=mk0 (Kd.V_drew a4.1);replace b2:=rdr b2;replace F:=bdr F;replace U:=bdr U;replace HB:=hdr HB;refine start_ (n:=12) (S:=fun w'=>w'.cell? ⟨C,0,none⟩=some (.slice Q O.length T)∧w'.cell? ⟨C,1,none⟩=some (J)∧w'.cell? ⟨D,0,none⟩=some (.slice Y ((rd_T60 L B).f0).length Z)∧w'.cell? ⟨D,1,none⟩=some (.slice a2 ((rd_T60 L B).f1).length a3)) (ds:=[11]) #[n_,n_,n_,n_,n_,n_,n_,n_,n_,n_,n_,n_] (by kernel_rfl) rfl rfl ⟨q0_ F,q1_ F,q0_ U,q1_ U⟩ (fun e4=>?_);refine with_tabW count_star.tab11 count_star.bits11 (fun e9 o6=>?_);generalize u4.drew=u6 at b1 a6 a7 G I a1 a4 b2 F U HB e4 ⊢;refine pure_ (i:=0) (N:=some 42) (v:=?_) (a':=?_) #[y_,n_,n_,n_,n_,n_,n_,n_,n_,n_,n_,n_] rfl rfl (any_of e9.1 (by kernel_rfl)) (fun _ _ _ h=>h) (Or.inl ⟨by rfl,?_⟩) ?_ ?_;rotate_left
                ·
                 intro w';go_simp;with_reducible rfl
                rotate_left
                ·
                 simp only [Act.put,s0_,s1_,s2_,i64_w,i32_w];rfl
                refine pure_ (i:=2) (N:=some 44) (v:=?_) (a':=?_) #[y_,n_,y_,n_,n_,n_,n_,n_,n_,n_,n_,n_] rfl rfl (any_of e9.1 (by kernel_rfl)) (fun _ _ _ h=>h) (Or.inl ⟨by rfl,?_⟩) ?_ ?_;rotate_left
                ·
                 intro w';go_simp;with_reducible rfl
                rotate_left
                ·
                 simp only [Act.put,s0_,s1_,s2_,i64_w,i32_w];rfl
                refine pure_ (i:=5) (N:=some 47) (v:=?_) (a':=?_) #[y_,n_,y_,n_,n_,y_,n_,n_,n_,n_,n_,n_] rfl rfl (any_of e9.1 (by kernel_rfl)) (fun _ _ _ h=>h) (Or.inl ⟨by rfl,?_⟩) ?_ ?_;rotate_left
                ·
                 intro w';go_simp;with_reducible rfl
                rotate_left
                ·
                 simp only [Act.put,s0_,s1_,s2_,i64_w,i32_w];rfl
                refine take_ (i:=1) (N:=some 43) (v:=?_) (a':=?_) #[y_,y_,y_,n_,n_,y_,n_,n_,n_,n_,n_,n_] rfl rfl (take_ofW e9.1 o6.1 (by kernel_rfl)) (fun _ _ _ h=>h) (Or.inl ⟨by rfl,?_⟩) e4 ?_ ?_;rotate_left
                ·
                 rintro w' ⟨s0,s1,s2,s3⟩;go_simp;with_reducible rfl
                rotate_left
                ·
                 simp only [Act.put,s0_,s1_,s2_,i64_w,i32_w];rfl
                refine take_ (i:=3) (N:=some 45) (v:=?_) (a':=?_) #[y_,y_,y_,y_,n_,y_,n_,n_,n_,n_,n_,n_] rfl rfl (take_ofW e9.1 o6.1 (by kernel_rfl)) (fun _ _ _ h=>h) (Or.inl ⟨by rfl,?_⟩) e4 ?_ ?_;rotate_left
                ·
                 rintro w' ⟨s0,s1,s2,s3⟩;go_simp;with_reducible rfl
                rotate_left
                ·
                 simp only [Act.put,s0_,s1_,s2_,i64_w,i32_w];rfl
                refine take_ (i:=6) (N:=some 48) (v:=?_) (a':=?_) #[y_,y_,y_,y_,n_,y_,y_,n_,n_,n_,n_,n_] rfl rfl (take_ofW e9.1 o6.1 (by kernel_rfl)) (fun _ _ _ h=>h) (Or.inl ⟨by rfl,?_⟩) e4 ?_ ?_;rotate_left
                ·
                 rintro w' ⟨s0,s1,s2,s3⟩;go_simp;with_reducible rfl
                rotate_left
                ·
                 simp only [Act.put,s0_,s1_,s2_,i64_w,i32_w];rfl
                refine one_ (i:=4) (N:=some 46) #[y_,y_,y_,y_,y_,y_,y_,n_,n_,n_,n_,n_] rfl rfl (one_of e9.1 (by kernel_rfl)) (by decide) (fun K hK=>?_);refine Kd.N_lit_step (Kd.slice 3 (Kd.int .i64)) _ 23 ?hg (N':=46) ?hd (xs:=([(rd_T60 L B).f0]:List (List Int))) (inner:=[.slice Y ((rd_T60 L B).f0).length Z]) (ok:=(fun k_=>(a5 k_ ∨ w.heap.size ≤ k_)∧some k_ ≠ (u5:Value).ownBlock∧some k_ ≠ (.slice a9 E.length a8:Value).ownBlock∧some k_ ≠ (J:Value).ownBlock∧some k_ ≠ (.slice Q O.length T:Value).ownBlock∧k_ ≠ C∧k_ ≠ D)) (okp:=(fun k_=>(a5 k_ ∨ w.heap.size ≤ k_)∧some k_ ≠ (u5:Value).ownBlock∧some k_ ≠ (.slice a9 E.length a8:Value).ownBlock∧some k_ ≠ (J:Value).ownBlock∧some k_ ≠ (.slice Q O.length T:Value).ownBlock∧k_ ≠ C∧k_ ≠ D)) ?hr ?hp (fun _ hk=>hk) ((show ∀ k_,u6.heap.size ≤ k_ → (fun k_=>(a5 k_ ∨ w.heap.size ≤ k_)∧some k_ ≠ (u5:Value).ownBlock∧some k_ ≠ (.slice a9 E.length a8:Value).ownBlock∧some k_ ≠ (J:Value).ownBlock∧some k_ ≠ (.slice Q O.length T:Value).ownBlock∧k_ ≠ C∧k_ ≠ D) k_ from fun k_ hk=>⟨(.inr (Nat.le_trans (below_size HB.1) hk)),Kd.fresh' (Kd.N_lt a6.1) k_ hk,Kd.fresh' (Kd.R_lt G.1) k_ hk,Kd.fresh' (Kd.N_lt I.1) k_ hk,Kd.fresh' (Kd.R_lt b2.1) k_ hk,Kd.freshB (g:=C) (o:=.cells #[.slice Q O.length T,J] 60 (0,0)) F.1 k_ hk,Kd.freshB (g:=D) (o:=.cells #[.slice Y ((rd_T60 L B).f0).length Z,.slice a2 ((rd_T60 L B).f1).length a3] 60 (0,0)) U.1 k_ hk⟩) _ (Nat.le_refl _)) (Below.refl _ _) (Nat.le_refl _) (by simp) ?_;(case hd=>rfl);(case hg=>rfl);(case hr=>first|(go_simp;done)|(go_simp;rfl));(case hp=>exact (Reps.one (show Kd.FK (Kd.slice 3 (Kd.int .i64)) _ _ ((rd_T60 L B).f0) [.slice Y ((rd_T60 L B).f0).length Z] from (Kd.FK_slice_mk (Kd.V_reads' (Kd.V_mono (e:=0) (base:=0) (ok':=(fun k_=>(a5 k_ ∨ w.heap.size ≤ k_)∧some k_ ≠ (u5:Value).ownBlock∧some k_ ≠ (.slice a9 E.length a8:Value).ownBlock∧some k_ ≠ (J:Value).ownBlock∧some k_ ≠ (.slice Q O.length T:Value).ownBlock∧k_ ≠ C∧k_ ≠ D)) (a1.1) (fun k_ hk=>⟨hk.1,⟨hk.2.1,⟨hk.2.2.1,⟨hk.2.2.2.1,⟨hk.2.2.2.2.1,⟨hk.2.2.2.2.2.1,hk.2.2.2.2.2.2⟩⟩⟩⟩⟩⟩))).2.1 (Kd.V_F (Kd.V_mono (e:=0) (base:=0) (ok':=(fun k_=>(a5 k_ ∨ w.heap.size ≤ k_)∧some k_ ≠ (u5:Value).ownBlock∧some k_ ≠ (.slice a9 E.length a8:Value).ownBlock∧some k_ ≠ (J:Value).ownBlock∧some k_ ≠ (.slice Q O.length T:Value).ownBlock∧k_ ≠ C∧k_ ≠ D)) (a1.1) (fun k_ hk=>⟨hk.1,⟨hk.2.1,⟨hk.2.2.1,⟨hk.2.2.2.1,⟨hk.2.2.2.2.1,⟨hk.2.2.2.2.2.1,hk.2.2.2.2.2.2⟩⟩⟩⟩⟩⟩))))) (Reps.none _ _)));intro l7 y3 b4 hb hg_ f2;clear hg_ f2;(first|rw [← m1.1] at b4|(simp only [Int.reduceToNat] at b4;rw [← m1.1] at b4));have g2:=mk0 (Kd.N_lower b4 (below_size HB.1));replace b1:=mk0 (Kd.V_elder' b1.1 (by first|exact Kd.N_base b4|exact Kd.S_base b4|exact Kd.R_base b4) hb);replace a6:=mk0 (Kd.N_elder' a6.1 (by first|exact Kd.N_base b4|exact Kd.S_base b4|exact Kd.R_base b4) hb);replace a7:=mk0 (Kd.V_elder' a7.1 (by first|exact Kd.N_base b4|exact Kd.S_base b4|exact Kd.R_base b4) hb);replace G:=rbl G hb;replace I:=mk0 (Kd.N_elder' I.1 (by first|exact Kd.N_base b4|exact Kd.S_base b4|exact Kd.R_base b4) hb);replace a1:=mk0 (Kd.V_elder' (by exact a1.1) (by first|exact Kd.N_base b4|exact Kd.S_base b4|exact Kd.R_base b4) hb);replace a4:=mk0 (Kd.V_elder' (by exact a4.1) (by first|exact Kd.N_base b4|exact Kd.S_base b4|exact Kd.R_base b4) hb);replace b2:=rbl b2 hb;replace F:=bkb F hb;replace U:=bkb U hb;replace HB:=bst HB hb;clear hb b4
                refine hK.out _ _ ⟨q0_ F,q1_ F,q0_ U,q1_ U⟩ (fun e4=>?_);clear hK K;refine norm_ (a':=?_) ?_ ?_;rotate_left
                ·
                 show Act.put _ (some 46) _=_;simp only [Act.put,s0_,s1_,s2_,i64_w,i32_w];rfl
                refine one_ (i:=7) (N:=some 49) #[y_,y_,y_,y_,y_,y_,y_,y_,n_,n_,n_,n_] rfl rfl (one_of e9.1 (by kernel_rfl)) (by decide) (fun K hK=>?_);refine Kd.N_append_rows_step (Kd.slice 3 (Kd.int .i64)) (w0:=w) w.heap.size (by rfl) (.tmp 46) (.tmp 48) 58 23 (.slice none 0 0) 24 rfl Try.underlying58 info23 rfl (by decide) (by omega) l7 g0 ((rd_T60 L B).f1) _ _ _ (fun k_=>(a5 k_ ∨ w.heap.size ≤ k_)∧some k_ ≠ (u5:Value).ownBlock∧some k_ ≠ (.slice a9 E.length a8:Value).ownBlock∧some k_ ≠ (J:Value).ownBlock∧some k_ ≠ (.slice Q O.length T:Value).ownBlock∧k_ ≠ C∧k_ ≠ D) (fun k_=>((fun k_=>(a5 k_ ∨ w.heap.size ≤ k_)∧some k_ ≠ (u5:Value).ownBlock∧some k_ ≠ (.slice a9 E.length a8:Value).ownBlock∧some k_ ≠ (J:Value).ownBlock∧some k_ ≠ (.slice Q O.length T:Value).ownBlock∧k_ ≠ C∧k_ ≠ D)) k_∧some k_ ≠ (l7:Value).ownBlock) rfl rfl ?aO ?aR (fun _ hk=>hk) ?aF ?aB ?aS ?aL ?_;(case aR=>exact (by skip;exact Kd.V_F (Kd.V_mono (ok':=(fun k_=>((fun k_=>(a5 k_ ∨ w.heap.size ≤ k_)∧some k_ ≠ (u5:Value).ownBlock∧some k_ ≠ (.slice a9 E.length a8:Value).ownBlock∧some k_ ≠ (J:Value).ownBlock∧some k_ ≠ (.slice Q O.length T:Value).ownBlock∧k_ ≠ C∧k_ ≠ D)) k_∧some k_ ≠ (l7:Value).ownBlock)) (a4.1) (fun k_ hk=>⟨⟨hk.1.1,⟨hk.1.2.1,⟨hk.1.2.2.1,⟨hk.1.2.2.2.1,⟨hk.1.2.2.2.2.1,⟨hk.1.2.2.2.2.2.1,hk.1.2.2.2.2.2.2⟩⟩⟩⟩⟩⟩,hk.2⟩))));(case aB=>exact HB.1);(case aF=>exact (fun k_ hk=>⟨(.inr (Nat.le_trans (below_size HB.1) hk)),Kd.fresh' (Kd.N_lt a6.1) k_ hk,Kd.fresh' (Kd.R_lt G.1) k_ hk,Kd.fresh' (Kd.N_lt I.1) k_ hk,Kd.fresh' (Kd.R_lt b2.1) k_ hk,Kd.freshB (g:=C) (o:=.cells #[.slice Q O.length T,J] 60 (0,0)) F.1 k_ hk,Kd.freshB (g:=D) (o:=.cells #[.slice Y ((rd_T60 L B).f0).length Z,.slice a2 ((rd_T60 L B).f1).length a3] 60 (0,0)) U.1 k_ hk⟩));(case aO=>exact g2.1);(case aS=>exact (below_size HB.1));(case aL=>have:=p4.1;omega);intro x5 y4 ho hb hg hat;rw [← p5.1] at ho;have e0:=mk0 (ho);replace b1:=mk0 (Kd.V_afterv (ok:=(fun k_=>(a5 k_ ∨ w.heap.size ≤ k_)∧some k_ ≠ (u5:Value).ownBlock∧some k_ ≠ (.slice a9 E.length a8:Value).ownBlock∧some k_ ≠ (J:Value).ownBlock∧some k_ ≠ (.slice Q O.length T:Value).ownBlock∧k_ ≠ C∧k_ ≠ D)) b1.1 hg hat);replace a6:=mk0 (Kd.N_afterv (ok:=(fun k_=>(a5 k_ ∨ w.heap.size ≤ k_)∧some k_ ≠ (.slice a9 E.length a8:Value).ownBlock∧some k_ ≠ (J:Value).ownBlock∧some k_ ≠ (.slice Q O.length T:Value).ownBlock∧k_ ≠ C∧k_ ≠ D)) a6.1 hg hat);replace a7:=mk0 (Kd.V_afterv (ok:=(fun k_=>(a5 k_ ∨ w.heap.size ≤ k_)∧some k_ ≠ (u5:Value).ownBlock∧some k_ ≠ (.slice a9 E.length a8:Value).ownBlock∧some k_ ≠ (J:Value).ownBlock∧some k_ ≠ (.slice Q O.length T:Value).ownBlock∧k_ ≠ C∧k_ ≠ D)) a7.1 hg hat);replace G:=mk0 (Kd.R_over' G.1 (Kd.N_typed g2.1) (by decide) hg);replace I:=mk0 (Kd.N_afterv (ok:=(fun k_=>(a5 k_ ∨ w.heap.size ≤ k_)∧some k_ ≠ (u5:Value).ownBlock∧some k_ ≠ (.slice a9 E.length a8:Value).ownBlock∧some k_ ≠ (.slice Q O.length T:Value).ownBlock∧k_ ≠ C∧k_ ≠ D)) I.1 hg hat);replace F:=mk0 (blk_grown (g:=C) (o:=.cells #[.slice Q O.length T,J] 60 (0,0)) F.1 hg (Kd.N_ne g2.1 F.1 (by decide)));replace a1:=mk0 (Kd.V_afterv (ok:=(fun k_=>(a5 k_ ∨ w.heap.size ≤ k_)∧some k_ ≠ (u5:Value).ownBlock∧some k_ ≠ (.slice a9 E.length a8:Value).ownBlock∧some k_ ≠ (J:Value).ownBlock∧some k_ ≠ (.slice Q O.length T:Value).ownBlock∧k_ ≠ C∧k_ ≠ D)) (by exact a1.1) hg hat)
                replace a4:=mk0 (Kd.V_afterv (ok:=(fun k_=>(a5 k_ ∨ w.heap.size ≤ k_)∧some k_ ≠ (u5:Value).ownBlock∧some k_ ≠ (.slice a9 E.length a8:Value).ownBlock∧some k_ ≠ (J:Value).ownBlock∧some k_ ≠ (.slice Q O.length T:Value).ownBlock∧k_ ≠ C∧k_ ≠ D)) (by exact a4.1) hg hat);replace U:=mk0 (blk_grown (g:=D) (o:=.cells #[.slice Y ((rd_T60 L B).f0).length Z,.slice a2 ((rd_T60 L B).f1).length a3] 60 (0,0)) U.1 hg (Kd.N_ne g2.1 U.1 (by decide)));replace b2:=mk0 (Kd.R_over' b2.1 (Kd.N_typed g2.1) (by decide) hg);replace HB:=mk0 (hb);clear g2;clear ho hb hg hat;obtain ⟨e2,e3,o7⟩:=Kd.N_slice e0.1;(first|subst o7|(injection o7 with f1_ f2_ f3_;have f4_:=f1_.symm;have l4:=f3_.symm;clear f1_ f2_ f3_;subst f4_;subst l4));refine hK.out _ _ ⟨q0_ F,q1_ F,q0_ U,q1_ U⟩ (fun e4=>?_);clear hK K;refine norm_ (a':=?_) ?_ ?_;rotate_left
                ·
                 show Act.put _ (some 49) _=_;simp only [Act.put,s0_,s1_,s2_,i64_w,i32_w];rfl
                refine one_ (i:=8) (N:=some 50) #[y_,y_,y_,y_,y_,y_,y_,y_,y_,n_,n_,n_] rfl rfl (one_of e9.1 (by kernel_rfl)) (by decide) (fun K hK=>?_);refine goes_ Try.func94 (by kernel_rfl) rfl #[.slice e2 d4.length e3] (by rfl) rfl rfl (by (try simp only [m0_,m1_,m2_]);first|done|rfl|(simp only [l0_,l1_];rfl)) ?_;with_reducible refine (count_copies.calls k2 _ _ d4 b7 _ ?side1 ?side2 u3.1).mono ?_
                (case side1=>repeat (first|exact (Kd.N_reads' e0.1).2.2|(with_reducible refine Kd.C_alloc ?_ _)|(with_reducible refine Kd.C_drewN ?_ _)|(with_reducible refine Kd.C_drew ?_)));(case side2=>exact (Kd.N_reads' e0.1).2.1);rintro e y5 ⟨x6,rfl,b3,hb⟩;refine ⟨_,rfl,?_⟩;have i6:=mk0 (Kd.N_lower (Kd.N_mono (ok':=fun k_=>(a5 k_ ∨ w.heap.size ≤ k_)∧some k_ ≠ (u5:Value).ownBlock∧some k_ ≠ (.slice a9 E.length a8:Value).ownBlock∧some k_ ≠ (J:Value).ownBlock∧some k_ ≠ (.slice Q O.length T:Value).ownBlock∧some k_ ≠ (.slice e2 d4.length e3:Value).ownBlock∧k_ ≠ C∧k_ ≠ D) (Kd.S_N (Kd.S_bound b3)) (fun k_ hk_=>⟨(.inr (Nat.le_trans (below_size HB.1) hk_.2.1)),(Kd.fresh' (Kd.N_lt a6.1) k_ hk_.2.1),(Kd.fresh' (Kd.R_lt G.1) k_ hk_.2.1),(Kd.fresh' (Kd.N_lt I.1) k_ hk_.2.1),(Kd.fresh' (Kd.R_lt b2.1) k_ hk_.2.1),(Kd.fresh' (Kd.N_lt e0.1) k_ hk_.2.1),(Kd.freshB (g:=C) (o:=.cells #[.slice Q O.length T,J] 60 (0,0)) F.1 k_ hk_.2.1),(Kd.freshB (g:=D) (o:=.cells #[.slice Y ((rd_T60 L B).f0).length Z,.slice a2 ((rd_T60 L B).f1).length a3] 60 (0,0)) U.1 k_ hk_.2.1)⟩)) (below_size HB.1));replace b1:=mk0 (Kd.V_elder' b1.1 (by first|exact Kd.N_base b3|exact Kd.S_base b3|exact Kd.R_base b3) hb);replace a6:=mk0 (Kd.N_elder' a6.1 (by first|exact Kd.N_base b3|exact Kd.S_base b3|exact Kd.R_base b3) hb);replace a7:=mk0 (Kd.V_elder' a7.1 (by first|exact Kd.N_base b3|exact Kd.S_base b3|exact Kd.R_base b3) hb);replace G:=rbl G hb;replace I:=mk0 (Kd.N_elder' I.1 (by first|exact Kd.N_base b3|exact Kd.S_base b3|exact Kd.R_base b3) hb);replace a1:=mk0 (Kd.V_elder' (by exact a1.1) (by first|exact Kd.N_base b3|exact Kd.S_base b3|exact Kd.R_base b3) hb);replace a4:=mk0 (Kd.V_elder' (by exact a4.1) (by first|exact Kd.N_base b3|exact Kd.S_base b3|exact Kd.R_base b3) hb);replace b2:=rbl b2 hb;replace e0:=mk0 (Kd.N_elder' e0.1 (by first|exact Kd.N_base b3|exact Kd.S_base b3|exact Kd.R_base b3) hb);replace F:=bkb F hb;replace U:=bkb U hb;replace HB:=bst HB hb;(try clear hb);(try clear b3);obtain ⟨h8,h9,o8⟩:=Kd.N_slice i6.1;(first|subst o8|(injection o8 with f1_ f2_ f3_;have f4_:=f1_.symm;have l4:=f3_.symm;clear f1_ f2_ f3_;subst f4_;subst l4));refine hK.out _ _ ⟨q0_ F,q1_ F,q0_ U,q1_ U⟩ (fun e4=>?_);clear hK K;refine norm_ (a':=?_) ?_ ?_;rotate_left
                ·
                 show Act.put _ (some 50) _=_;simp only [Act.put,s0_,s1_,s2_,i64_w,i32_w];rfl
                refine one_ (i:=9) (N:=some 51) #[y_,y_,y_,y_,y_,y_,y_,y_,y_,y_,n_,n_] rfl rfl (one_of e9.1 (by kernel_rfl)) (by decide) (fun K hK=>?_);refine Kd.N_append_rows_step (Kd.slice 3 (Kd.int .i64)) (w0:=w) w.heap.size (by rfl) (.tmp 43) (.tmp 50) 58 23 (.slice none 0 0) 24 rfl Try.underlying58 info23 rfl (by decide) (by omega) J X b7 _ _ _ (fun k_=>(a5 k_ ∨ w.heap.size ≤ k_)∧some k_ ≠ (u5:Value).ownBlock∧some k_ ≠ (.slice a9 E.length a8:Value).ownBlock∧some k_ ≠ (.slice Q O.length T:Value).ownBlock∧some k_ ≠ (.slice e2 d4.length e3:Value).ownBlock∧k_ ≠ C∧k_ ≠ D) (fun k_=>((fun k_=>(a5 k_ ∨ w.heap.size ≤ k_)∧some k_ ≠ (u5:Value).ownBlock∧some k_ ≠ (.slice a9 E.length a8:Value).ownBlock∧some k_ ≠ (.slice Q O.length T:Value).ownBlock∧some k_ ≠ (.slice e2 d4.length e3:Value).ownBlock∧k_ ≠ C∧k_ ≠ D)) k_∧some k_ ≠ (J:Value).ownBlock) rfl rfl ?aO ?aR (fun _ hk=>hk) ?aF ?aB ?aS ?aL ?_;(case aR=>exact (by skip;exact Kd.N_F (Kd.N_mono (ok':=(fun k_=>((fun k_=>(a5 k_ ∨ w.heap.size ≤ k_)∧some k_ ≠ (u5:Value).ownBlock∧some k_ ≠ (.slice a9 E.length a8:Value).ownBlock∧some k_ ≠ (.slice Q O.length T:Value).ownBlock∧some k_ ≠ (.slice e2 d4.length e3:Value).ownBlock∧k_ ≠ C∧k_ ≠ D)) k_∧some k_ ≠ (J:Value).ownBlock)) (i6.1) (fun k_ hk=>⟨⟨hk.1,⟨hk.2.1,⟨hk.2.2.1,⟨hk.2.2.2.2.1,⟨hk.2.2.2.2.2.1,⟨hk.2.2.2.2.2.2.1,hk.2.2.2.2.2.2.2⟩⟩⟩⟩⟩⟩,hk.2.2.2.1⟩))));(case aB=>exact HB.1);(case aF=>exact (fun k_ hk=>⟨(.inr (Nat.le_trans (below_size HB.1) hk)),Kd.fresh' (Kd.N_lt a6.1) k_ hk,Kd.fresh' (Kd.R_lt G.1) k_ hk,Kd.fresh' (Kd.R_lt b2.1) k_ hk,Kd.fresh' (Kd.N_lt e0.1) k_ hk,Kd.freshB (g:=C) (o:=.cells #[.slice Q O.length T,J] 60 (0,0)) F.1 k_ hk,Kd.freshB (g:=D) (o:=.cells #[.slice Y ((rd_T60 L B).f0).length Z,.slice a2 ((rd_T60 L B).f1).length a3] 60 (0,0)) U.1 k_ hk⟩));(case aO=>exact (by exact Kd.N_mono I.1 (fun _ hk=>⟨hk.1.1.1,⟨hk.1.1.2.1,⟨hk.1.1.2.2.1,⟨hk.1.1.2.2.2.1,⟨hk.1.2,⟨hk.1.1.2.2.2.2.1,hk.1.1.2.2.2.2.2⟩⟩⟩⟩⟩⟩)));(case aS=>exact (below_size HB.1));(case aL=>have:=p7.1;omega);intro x7 y6 ho hb hg hat;rw [← p8.1] at ho;have m2:=mk0 (ho);replace b1:=mk0 (Kd.V_afterv (ok:=(fun k_=>(a5 k_ ∨ w.heap.size ≤ k_)∧some k_ ≠ (u5:Value).ownBlock∧some k_ ≠ (.slice a9 E.length a8:Value).ownBlock∧some k_ ≠ (.slice Q O.length T:Value).ownBlock∧some k_ ≠ (.slice e2 d4.length e3:Value).ownBlock∧some k_ ≠ (.slice h8 b7.length h9:Value).ownBlock∧k_ ≠ C∧k_ ≠ D)) (by exact Kd.V_mono b1.1 (fun _ hk=>⟨⟨hk.1.1.1,⟨hk.1.1.2.1,⟨hk.1.1.2.2.1,⟨hk.1.1.2.2.2.2.1,⟨hk.1.2,⟨hk.2,⟨hk.1.1.2.2.2.2.2.1,hk.1.1.2.2.2.2.2.2⟩⟩⟩⟩⟩⟩⟩,hk.1.1.2.2.2.1⟩)) hg hat);replace a6:=mk0 (Kd.N_afterv (ok:=(fun k_=>(a5 k_ ∨ w.heap.size ≤ k_)∧some k_ ≠ (.slice a9 E.length a8:Value).ownBlock∧some k_ ≠ (.slice Q O.length T:Value).ownBlock∧some k_ ≠ (.slice e2 d4.length e3:Value).ownBlock∧some k_ ≠ (.slice h8 b7.length h9:Value).ownBlock∧k_ ≠ C∧k_ ≠ D)) (by exact Kd.N_mono a6.1 (fun _ hk=>⟨⟨hk.1.1.1,⟨hk.1.1.2.1,⟨hk.1.1.2.2.2.1,⟨hk.1.2,⟨hk.2,⟨hk.1.1.2.2.2.2.1,hk.1.1.2.2.2.2.2⟩⟩⟩⟩⟩⟩,hk.1.1.2.2.1⟩)) hg hat);replace a7:=mk0 (Kd.V_afterv (ok:=(fun k_=>(a5 k_ ∨ w.heap.size ≤ k_)∧some k_ ≠ (u5:Value).ownBlock∧some k_ ≠ (.slice a9 E.length a8:Value).ownBlock∧some k_ ≠ (.slice Q O.length T:Value).ownBlock∧some k_ ≠ (.slice e2 d4.length e3:Value).ownBlock∧some k_ ≠ (.slice h8 b7.length h9:Value).ownBlock∧k_ ≠ C∧k_ ≠ D)) (by exact Kd.V_mono a7.1 (fun _ hk=>⟨⟨hk.1.1.1,⟨hk.1.1.2.1,⟨hk.1.1.2.2.1,⟨hk.1.1.2.2.2.2.1,⟨hk.1.2,⟨hk.2,⟨hk.1.1.2.2.2.2.2.1,hk.1.1.2.2.2.2.2.2⟩⟩⟩⟩⟩⟩⟩,hk.1.1.2.2.2.1⟩)) hg hat)
                replace G:=mk0 (Kd.R_over' G.1 (Kd.N_typed I.1) (by decide) hg);replace F:=mk0 (blk_grown (g:=C) (o:=.cells #[.slice Q O.length T,J] 60 (0,0)) F.1 hg (Kd.N_ne I.1 F.1 (by decide)));replace a1:=mk0 (Kd.V_afterv (ok:=(fun k_=>(a5 k_ ∨ w.heap.size ≤ k_)∧some k_ ≠ (u5:Value).ownBlock∧some k_ ≠ (.slice a9 E.length a8:Value).ownBlock∧some k_ ≠ (.slice Q O.length T:Value).ownBlock∧some k_ ≠ (.slice e2 d4.length e3:Value).ownBlock∧some k_ ≠ (.slice h8 b7.length h9:Value).ownBlock∧k_ ≠ C∧k_ ≠ D)) (by exact Kd.V_mono a1.1 (fun _ hk=>⟨⟨hk.1.1.1,⟨hk.1.1.2.1,⟨hk.1.1.2.2.1,⟨hk.1.1.2.2.2.2.1,⟨hk.1.2,⟨hk.2,⟨hk.1.1.2.2.2.2.2.1,hk.1.1.2.2.2.2.2.2⟩⟩⟩⟩⟩⟩⟩,hk.1.1.2.2.2.1⟩)) hg hat);replace a4:=mk0 (Kd.V_afterv (ok:=(fun k_=>(a5 k_ ∨ w.heap.size ≤ k_)∧some k_ ≠ (u5:Value).ownBlock∧some k_ ≠ (.slice a9 E.length a8:Value).ownBlock∧some k_ ≠ (.slice Q O.length T:Value).ownBlock∧some k_ ≠ (.slice e2 d4.length e3:Value).ownBlock∧some k_ ≠ (.slice h8 b7.length h9:Value).ownBlock∧k_ ≠ C∧k_ ≠ D)) (by exact Kd.V_mono a4.1 (fun _ hk=>⟨⟨hk.1.1.1,⟨hk.1.1.2.1,⟨hk.1.1.2.2.1,⟨hk.1.1.2.2.2.2.1,⟨hk.1.2,⟨hk.2,⟨hk.1.1.2.2.2.2.2.1,hk.1.1.2.2.2.2.2.2⟩⟩⟩⟩⟩⟩⟩,hk.1.1.2.2.2.1⟩)) hg hat);replace U:=mk0 (blk_grown (g:=D) (o:=.cells #[.slice Y ((rd_T60 L B).f0).length Z,.slice a2 ((rd_T60 L B).f1).length a3] 60 (0,0)) U.1 hg (Kd.N_ne I.1 U.1 (by decide)));replace b2:=mk0 (Kd.R_over' b2.1 (Kd.N_typed I.1) (by decide) hg);replace e0:=mk0 (Kd.N_afterv (ok:=(fun k_=>(a5 k_ ∨ w.heap.size ≤ k_)∧some k_ ≠ (u5:Value).ownBlock∧some k_ ≠ (.slice a9 E.length a8:Value).ownBlock∧some k_ ≠ (.slice Q O.length T:Value).ownBlock∧some k_ ≠ (.slice h8 b7.length h9:Value).ownBlock∧k_ ≠ C∧k_ ≠ D)) (by exact Kd.N_mono e0.1 (fun _ hk=>⟨⟨hk.1.1,⟨hk.1.2.1,⟨hk.1.2.2.1,⟨hk.1.2.2.2.2.1,⟨hk.2,⟨hk.1.2.2.2.2.2.1,hk.1.2.2.2.2.2.2⟩⟩⟩⟩⟩⟩,hk.1.2.2.2.1⟩)) hg hat);replace i6:=mk0 (Kd.N_afterv (ok:=(fun k_=>(a5 k_ ∨ w.heap.size ≤ k_)∧some k_ ≠ (u5:Value).ownBlock∧some k_ ≠ (.slice a9 E.length a8:Value).ownBlock∧some k_ ≠ (.slice Q O.length T:Value).ownBlock∧some k_ ≠ (.slice e2 d4.length e3:Value).ownBlock∧k_ ≠ C∧k_ ≠ D)) (by exact Kd.N_mono i6.1 (fun _ hk=>⟨⟨hk.1,⟨hk.2.1,⟨hk.2.2.1,⟨hk.2.2.2.2.1,⟨hk.2.2.2.2.2.1,⟨hk.2.2.2.2.2.2.1,hk.2.2.2.2.2.2.2⟩⟩⟩⟩⟩⟩,hk.2.2.2.1⟩)) hg hat);replace HB:=mk0 (hb);clear I;clear ho hb hg hat;obtain ⟨i0,i1,o9⟩:=Kd.N_slice m2.1;(first|subst o9|(injection o9 with f1_ f2_ f3_;have f4_:=f1_.symm;have l4:=f3_.symm;clear f1_ f2_ f3_;subst f4_;subst l4));refine hK.out _ _ ⟨q0_ F,q1_ F,q0_ U,q1_ U⟩ (fun e4=>?_);clear hK K;refine norm_ (a':=?_) ?_ ?_;rotate_left
                ·
                 show Act.put _ (some 51) _=_;simp only [Act.put,s0_,s1_,s2_,i64_w,i32_w];rfl
                refine pure_ (i:=10) (N:=some 52) (v:=?_) (a':=?_) #[y_,y_,y_,y_,y_,y_,y_,y_,y_,y_,y_,n_] rfl rfl (any_of e9.1 (by kernel_rfl)) (fun _ _ _ h=>h) (Or.inl ⟨by rfl,?_⟩) ?_ ?_;rotate_left
                ·
                 intro w';go_simp;with_reducible rfl
                rotate_left
                ·
                 simp only [Act.put,s0_,s1_,s2_,i64_w,i32_w];rfl
                refine last_ (i:=11) (N:=none) #[y_,y_,y_,y_,y_,y_,y_,y_,y_,y_,y_,y_] rfl rfl (one_of e9.1 (by kernel_rfl)) (by decide) (fun K hK=>?_);have x8:=q1_ F;have v3:=blk_frozen F.1 1;have s7:=d9.1;have s8:=d1.1;refine skip_ (w1:=?_) (by rfl) rfl ?_ ?_;rotate_left
                ·
                 go_simp;rfl
                refine hK.out _ _ ?_;clear hK K;refine done_ (done_of e9.1 (by kernel_rfl)) ?_;try go_wp2
                go_roundg k2
                case measure=>have:=j6.1;have:=j7.1;omega
                case rel=>exact ⟨(wrap64 (B + 1)),(O),(g1),(.slice Q O.length T),(.slice i0 g1.length i1),(by first|rfl|(simp;done)|(simp [*];done)),H',⟨by have:=j6.1;have:=j7.1;omega⟩,⟨by exact Kd.V_mono (Kd.V_far (p:=⟨C,1,none⟩) (Kd.V_mono b1.1 (fun k_ hk=>(⟨hk,hk.1.2.2.2.2.2.2.1⟩:_∧k_ ≠ C))) (fun _ hk=>hk.2) (.slice i0 g1.length i1)) (fun _ hk=>⟨hk.1.1.1,⟨hk.1.1.2.1,⟨hk.1.1.2.2.2.1,⟨hk.1.2,hk.1.1.2.2.2.2.2.2.1⟩⟩⟩⟩)⟩,⟨by exact Kd.N_mono (Kd.N_far (p:=⟨C,1,none⟩) (Kd.N_mono a6.1 (fun k_ hk=>(⟨hk,hk.1.2.2.2.2.2.1⟩:_∧k_ ≠ C))) (fun _ hk=>hk.2) (.slice i0 g1.length i1)) (fun _ hk=>⟨hk.1.1.1,⟨hk.1.1.2.2.1,⟨hk.1.2,hk.1.1.2.2.2.2.2.1⟩⟩⟩)⟩,⟨by exact Kd.V_mono (Kd.V_far (p:=⟨C,1,none⟩) (Kd.V_mono a7.1 (fun k_ hk=>(⟨hk,hk.1.2.2.2.2.2.2.1⟩:_∧k_ ≠ C))) (fun _ hk=>hk.2) (.slice i0 g1.length i1)) (fun _ hk=>⟨hk.1.1.1,⟨hk.1.1.2.1,⟨hk.1.1.2.2.2.1,⟨hk.1.2,hk.1.1.2.2.2.2.2.2.1⟩⟩⟩⟩)⟩,⟨by exact Kd.R_mono (Kd.R_far (p:=⟨C,1,none⟩) (Kd.R_types b2.1 F.1 (by decide)) (fun _ hk=>hk.2) (.slice i0 g1.length i1)) (fun _ hk=>hk.1.1)⟩,⟨by exact Kd.N_mono (Kd.N_far (p:=⟨C,1,none⟩) (Kd.N_mono m2.1 (fun k_ hk=>(⟨hk,hk.2.2.2.2.2.1⟩:_∧k_ ≠ C))) (fun _ hk=>hk.2) (.slice i0 g1.length i1)) (fun _ hk=>⟨hk.1.1,⟨hk.1.2.1,⟨hk.1.2.2.2.1,hk.1.2.2.2.2.2.1⟩⟩⟩)⟩,⟨by refine blk_put (cs:=#[.slice Q O.length T,J]) ?_ 1 _ rfl;exact F.1⟩,⟨by repeat (first|(with_reducible first|exact HB.1|apply below_alloc|apply pw_below_drewN|apply below_drew1|refine below_set ?_ d3.1|refine below_set ?_ f5.1)|exact HB.1)⟩⟩
               ·
                rw [if_neg c28] at H;exact absurd H (by simp)
              ·
               rw [if_neg c26] at H;exact absurd H (by simp)
             ·
              rw [if_neg c24] at H;have c24b0:((Go.bits .and .i64 (f9) 1) == 1)=false:=beq_eq_false_iff_ne.mpr c24;have c24b1:((Go.bits .and .i64 (f9) 1) != 1)=true:=bne_iff_ne.mpr c24;have H':=mk0 H;clear H;have f3:0 ≤ (B:Int):=of_decide_eq_true (by assumption);have f4:B < (L.length:Int):=of_decide_eq_true (by assumption);obtain ⟨j9,Y,Z,a2,a3,l5,h6,h7,e5,e6,e7,e8⟩:=at_T60 (Kd.V_reads' a7.1).2.2 B f3 f4;cases l5;obtain ⟨p9,i8,i9,e1⟩:=Kd.V_get a7.1 z60 B f3 (by first|exact f4|exact of_decide_eq_true (by assumption)|(have e_:=(Kd.V_reads' a7.1).1;omega));obtain ⟨m8,m9,n0,n1,rfl,d5,d6,d7,d8⟩:=k60_openF i9;have c5:=e1 0 _ rfl;rw [Nat.add_zero] at c5;replace c5:=Option.some.inj (c5.symm.trans h6);injection c5 with hva_ hvn_ hvc_;rw [hva_] at d6;rw [hvc_] at d5;have a1:=mk0 (show Kd.V (Kd.int .i64) 3 _ w.heap.size _ _ ((rd_T60 L B).f0) from Kd.V_mk d5 d6);clear hva_ hvn_ hvc_ d6 d5;have c6:=e1 1 _ rfl;rw [add_field _ _ 1 (by omega)] at c6;replace c6:=Option.some.inj (c6.symm.trans h7);injection c6 with hva_ hvn_ hvc_;rw [hva_] at d8;rw [hvc_] at d7;have a4:=mk0 (show Kd.V (Kd.slice 3 (Kd.int .i64)) 23 _ w.heap.size _ _ ((rd_T60 L B).f1) from Kd.V_mk d7 d8);clear hva_ hvn_ hvc_ d8 d7;clear e1 i8;have c9:=mk0 e6;have j8:=mk0 e5;clear e6 e5;have d0:=mk0 e8;have n2:=mk0 e7;clear e8 e7;replace f3:=eq_true f3;replace f4:=eq_true f4;go_wp2_with (first|((with_reducible refine gate_dst (N:=9) rfl ?_);refine box_event ?hg (N:=9) ?hd (cs:=#[.slice none 0 0,.slice none 0 0]) (t:=60) ?hr ?_;(case hd=>rfl);(case hg=>rfl);(case hr=>first|(go_simp;done)|(go_simp;rfl));intro D hg y7 f8 hb;have U:=mk0 (f8);have l2:=szw hg HB;have f5:=l2;have d1:=nlt hg F;have d9:=ngt hg F;replace b1:=mk0 (Kd.V_below (Kd.V_elderB b1.1 D (Nat.le_of_eq hg.symm)) hb);replace a6:=mk0 (Kd.N_below (Kd.N_elderB a6.1 D (Nat.le_of_eq hg.symm)) hb);replace a7:=mk0 (Kd.V_below (Kd.V_elderB a7.1 D (Nat.le_of_eq hg.symm)) hb);replace G:=rbl G hb;replace I:=mk0 (Kd.N_below (Kd.N_elderB I.1 D (Nat.le_of_eq hg.symm)) hb);replace a1:=mk0 (Kd.V_below (Kd.V_elderB (by exact a1.1) D (Nat.le_of_eq hg.symm)) hb);replace a4:=mk0 (Kd.V_below (Kd.V_elderB (by exact a4.1) D (Nat.le_of_eq hg.symm)) hb);replace F:=bkb F hb;replace c9:=mk0 (Kd.C_below (by repeat (first|(with_reducible exact c9.1)|(with_reducible refine Kd.C_alloc ?_ _)|(with_reducible refine Kd.C_drewN ?_ _)|(with_reducible refine Kd.C_drew ?_)|exact c9.1)) hb);replace d0:=mk0 (Kd.C_below (by repeat (first|(with_reducible exact d0.1)|(with_reducible refine Kd.C_alloc ?_ _)|(with_reducible refine Kd.C_drewN ?_ _)|(with_reducible refine Kd.C_drew ?_)|exact d0.1)) hb);replace HB:=bst HB hb;clear hb f8 hg;have v4:=d9.1;have v7:=d1.1;have s9:=q0_ U;have t0:=q1_ U;have t1:=blk_frozen U.1 0;have t2:=blk_frozen U.1 1))
              go_roundg k2
              case measure=>have:=j6.1;have:=j7.1;omega
              case rel=>exact ⟨(wrap64 (B + 1)),(E),(X),(c8),(J),(by first|rfl|(simp;done)|(simp [*];done)),H',⟨by have:=j6.1;have:=j7.1;omega⟩,⟨by exact Kd.V_mono (Kd.V_far (p:=⟨D,1,none⟩) (Kd.V_far (p:=⟨D,0,none⟩) (Kd.V_mono b1.1 (fun k_ hk=>(⟨hk,hk.2⟩:_∧k_ ≠ D))) (fun _ hk=>hk.2) (.slice Y ((rd_T60 L B).f0).length Z)) (fun _ hk=>hk.2) (.slice a2 ((rd_T60 L B).f1).length a3)) (fun _ hk=>⟨hk.1.1.1,⟨hk.1.1.2.1,⟨hk.1.1.2.2.1,⟨hk.1.1.2.2.2.1,hk.1.1.2.2.2.2⟩⟩⟩⟩)⟩,⟨by exact Kd.N_mono (Kd.N_far (p:=⟨D,1,none⟩) (Kd.N_far (p:=⟨D,0,none⟩) (Kd.N_mono a6.1 (fun k_ hk=>(⟨hk,hk.2⟩:_∧k_ ≠ D))) (fun _ hk=>hk.2) (.slice Y ((rd_T60 L B).f0).length Z)) (fun _ hk=>hk.2) (.slice a2 ((rd_T60 L B).f1).length a3)) (fun _ hk=>⟨hk.1.1.1,⟨hk.1.1.2.1,⟨hk.1.1.2.2.1,hk.1.1.2.2.2⟩⟩⟩)⟩,⟨by exact Kd.V_mono (Kd.V_far (p:=⟨D,1,none⟩) (Kd.V_far (p:=⟨D,0,none⟩) (Kd.V_mono a7.1 (fun k_ hk=>(⟨hk,hk.2⟩:_∧k_ ≠ D))) (fun _ hk=>hk.2) (.slice Y ((rd_T60 L B).f0).length Z)) (fun _ hk=>hk.2) (.slice a2 ((rd_T60 L B).f1).length a3)) (fun _ hk=>⟨hk.1.1.1,⟨hk.1.1.2.1,⟨hk.1.1.2.2.1,⟨hk.1.1.2.2.2.1,hk.1.1.2.2.2.2⟩⟩⟩⟩)⟩,⟨by exact Kd.R_mono (Kd.R_far (p:=⟨D,1,none⟩) (Kd.R_far (p:=⟨D,0,none⟩) (Kd.R_types G.1 U.1 (by decide)) (fun _ hk=>hk.2) (.slice Y ((rd_T60 L B).f0).length Z)) (fun _ hk=>hk.2) (.slice a2 ((rd_T60 L B).f1).length a3)) (fun _ hk=>hk.1)⟩,⟨by exact Kd.N_mono (Kd.N_far (p:=⟨D,1,none⟩) (Kd.N_far (p:=⟨D,0,none⟩) (Kd.N_mono I.1 (fun k_ hk=>(⟨hk,hk.2⟩:_∧k_ ≠ D))) (fun _ hk=>hk.2) (.slice Y ((rd_T60 L B).f0).length Z)) (fun _ hk=>hk.2) (.slice a2 ((rd_T60 L B).f1).length a3)) (fun _ hk=>⟨hk.1.1.1,⟨hk.1.1.2.1,⟨hk.1.1.2.2.1,hk.1.1.2.2.2⟩⟩⟩)⟩,⟨by (iterate 2 refine blk_far ?_ d1.1 _);exact F.1⟩,⟨by repeat (first|(with_reducible first|exact HB.1|apply below_alloc|apply pw_below_drewN|apply below_drew1|refine below_set ?_ d3.1|refine below_set ?_ f5.1)|exact HB.1)⟩⟩
            ·
             rw [if_neg c21] at H;exact absurd H (by simp)
           ·
            rw [if_neg c20] at H;exact absurd H (by simp)
          ·
           rw [if_neg c19] at H;have c19b0:decide (B < (L.length:Int))=false:=decide_eq_false c19;clear c19
           by_cases c51:c0.length < 2932031007402
           ·
            rw [if_pos c51] at H;have q0:=mk0 c51;clear c51;obtain ⟨p0,h3⟩:∃ y_:List (S60),y_=(c0 ++ [(⟨E,X⟩:S60)]):=⟨_,rfl⟩
            replace H:(count_star.l0 k2 a0 L p0 (wrap64 (b6 + 1)))=some r:=by first|(rw [h3];with_reducible exact H)|(have b5:=(Option.bind_some _ _).symm.trans H;rw [h3];with_reducible exact b5)|(have b5:=(Option.bind_some _ _).symm.trans H;with_reducible exact b5)|with_reducible exact H|(rw [h3];exact H)|exact H
            have q1:=mk0 h3;clear h3;have H':=mk0 H;clear H;have t3:=q0_ F;have t4:=q1_ F;have t5:=blk_frozen F.1 0;have t6:=blk_frozen F.1 1;obtain ⟨j0,j1,q9⟩:=Kd.R_slice G.1;subst q9;obtain ⟨j2,j3,r0⟩:=Kd.N_slice I.1;subst r0;go_wp2_with (first|((with_reducible refine gate_builtin (b:=.append) (xs:=#[.tmp 54,.tmp 56]) rfl ?_);at_builtin;refine Kd.N_append k60 (w0:=w) w.heap.size rfl (.tmp 54) (.tmp 56) 22 60 (.agg #[(.slice none 0 0),(.slice none 0 0)]) 48 rfl Try.underlying22 info60 rfl (by decide) (by omega) u5 c0 (⟨E,X⟩:S60) [.slice j0 E.length j1,.slice j2 X.length j3] (fun k_=>(a5 k_ ∨ w.heap.size ≤ k_)∧k_ ≠ C) (fun k_=>((fun k_=>(a5 k_ ∨ w.heap.size ≤ k_)∧k_ ≠ C)) k_∧some k_ ≠ (u5:Value).ownBlock) rfl rfl ?aP (fun _ hk=>hk) ?aF ?aO ?aB ?aS ?aL ?_;(case aP=>exact (k60_mkF _ _ (⟨E,X⟩:S60) (Kd.R_reads' (Kd.R_mono (ok':=(fun k_=>((fun k_=>(a5 k_ ∨ w.heap.size ≤ k_)∧k_ ≠ C)) k_∧some k_ ≠ (u5:Value).ownBlock)) (Kd.R_types (Kd.R_apart' (G.1) (Kd.N_typed a6.1) (by decide)) F.1 (by decide)) (fun k_ hk=>⟨⟨(.inr (hk.1.1)),hk.2⟩,hk.1.2⟩))).2.1 (Kd.R_F (Kd.R_mono (ok':=(fun k_=>((fun k_=>(a5 k_ ∨ w.heap.size ≤ k_)∧k_ ≠ C)) k_∧some k_ ≠ (u5:Value).ownBlock)) (Kd.R_types (Kd.R_apart' (G.1) (Kd.N_typed a6.1) (by decide)) F.1 (by decide)) (fun k_ hk=>⟨⟨(.inr (hk.1.1)),hk.2⟩,hk.1.2⟩))) (Kd.N_reads' (Kd.N_mono (ok':=(fun k_=>((fun k_=>(a5 k_ ∨ w.heap.size ≤ k_)∧k_ ≠ C)) k_∧some k_ ≠ (u5:Value).ownBlock)) (I.1) (fun k_ hk=>⟨⟨hk.1,hk.2.2.2⟩,hk.2.1⟩))).2.1 (Kd.N_F (Kd.N_mono (ok':=(fun k_=>((fun k_=>(a5 k_ ∨ w.heap.size ≤ k_)∧k_ ≠ C)) k_∧some k_ ≠ (u5:Value).ownBlock)) (I.1) (fun k_ hk=>⟨⟨hk.1,hk.2.2.2⟩,hk.2.1⟩)))));(case aB=>exact (by repeat (first|(with_reducible first|exact HB.1|apply below_alloc|apply pw_below_drewN|apply below_drew1|refine below_set ?_ d3.1)|exact HB.1)));(case aF=>exact (fun k_ hk=>⟨(.inr (Nat.le_trans (below_size (by repeat (first|(with_reducible first|exact HB.1|apply below_alloc|apply pw_below_drewN|apply below_drew1|refine below_set ?_ d3.1)|exact HB.1))) hk)),Kd.freshB (g:=C) (o:=.cells #[.slice j0 E.length j1,.slice j2 X.length j3] 60 (0,0)) (by (with_reducible repeat (first|refine blk_drewN ?_ _|refine blk_drew ?_|refine blk_alloc ?_ _));exact F.1) k_ hk⟩));(case aO=>exact (by exact Kd.N_mono a6.1 (fun _ hk=>⟨hk.1,hk.2.2.2⟩)));(case aS=>exact (below_size (by repeat (first|(with_reducible first|exact HB.1|apply below_alloc|apply pw_below_drewN|apply below_drew1|refine below_set ?_ d3.1)|exact HB.1))));(case aL=>have:=q0.1;omega);intro x9 y8 ho hb hg hat;rw [← q1.1] at ho;have q2:=mk0 (ho);replace b1:=mk0 (Kd.V_afterv (ok:=(fun k_=>(a5 k_ ∨ w.heap.size ≤ k_)∧some k_ ≠ (.slice j0 E.length j1:Value).ownBlock∧some k_ ≠ (.slice j2 X.length j3:Value).ownBlock∧k_ ≠ C)) (by exact Kd.V_mono b1.1 (fun _ hk=>⟨⟨hk.1,⟨hk.2.2.1,⟨hk.2.2.2.1,hk.2.2.2.2⟩⟩⟩,hk.2.1⟩)) hg hat);replace a7:=mk0 (Kd.V_afterv (ok:=(fun k_=>(a5 k_ ∨ w.heap.size ≤ k_)∧some k_ ≠ (.slice j0 E.length j1:Value).ownBlock∧some k_ ≠ (.slice j2 X.length j3:Value).ownBlock∧k_ ≠ C)) (by exact Kd.V_mono a7.1 (fun _ hk=>⟨⟨hk.1,⟨hk.2.2.1,⟨hk.2.2.2.1,hk.2.2.2.2⟩⟩⟩,hk.2.1⟩)) hg hat);replace F:=mk0 (blk_grown (g:=C) (o:=.cells #[.slice j0 E.length j1,.slice j2 X.length j3] 60 (0,0)) (by (with_reducible repeat (first|refine blk_drewN ?_ _|refine blk_drew ?_|refine blk_alloc ?_ _));exact F.1) hg (Kd.N_away a6.1 (fun _ hk=>hk.2.2.2)));replace HB:=mk0 (hb);clear a6;clear G;clear I;clear ho hb hg hat))
            go_roundg k2
            case measure=>have:=j6.1;have:=j7.1;omega
            case rel=>exact ⟨(p0),(wrap64 (b6 + 1)),(by first|rfl|(simp;done)|(simp [*];done)),H',⟨by have:=j6.1;have:=j7.1;omega⟩,⟨by exact Kd.V_mono b1.1 (fun _ hk=>⟨hk.1.1,hk.2⟩)⟩,⟨by exact Kd.N_mono q2.1 (fun _ hk=>hk.1)⟩,⟨by repeat (first|(with_reducible first|exact HB.1|apply below_alloc|apply pw_below_drewN|apply below_drew1|refine below_set ?_ d3.1)|exact HB.1)⟩⟩
           ·
            rw [if_neg c51] at H;exact absurd H (by simp)
       ·
        rw [if_neg c13] at H;exact absurd H (by simp)
      ·
       rw [if_neg c12] at H;exact absurd H (by simp)
     ·
      rw [if_neg c11] at H;have c11b0:decide (b6 < (d2))=false:=decide_eq_false c11;clear c11;obtain rfl:=Option.some.inj H;go_wp2;go_ret;exact ⟨_,by first|rfl|(simp [errW_none,errW_some] <;> rfl)|(simp only [← g7];first|rfl|(simp [errW_none,errW_some] <;> rfl))|(simp [*,errW_none,errW_some] <;> rfl),by exact a6.1,by exact HB.1⟩
  ·
   rw [if_neg c4] at H;exact absurd H (by simp)
 ·
  rw [if_neg c3] at H;exact absurd H (by simp)
def count_Image_4.f (k:Nat) (l0_0:List (S60)) (a0_1:Bool):Option ((List (S60)) × Bool):=if a0_1=true then (some (l0_0,a0_1)) else ((count_star.f k 3 l0_0).bind fun t230=>((count_valid.f k t230 ([]:List (S102))).bind fun bt233=>(some (bt233.1,bt233.2))))
theorem count_Image_4.mono:∀ a0 a1 k,LeO (count_Image_4.f k a0 a1) (count_Image_4.f (k + 1) a0 a1):=by
  intro a0 a1 k
  unfold count_Image_4.f
  with_reducible repeat' first|exact count_star.mono _ _ _|exact count_valid.mono _ _ _|exact LeO.refl _|exact LeO.none _|refine LeO.ite ?_ ?_|refine LeO.bind ?_ (fun _=>?_)
set_option maxHeartbeats 8000000 in
set_option maxRecDepth 100000 in
theorem count_Image_4.calls (k:Nat) (O:Nat → Prop) (J:Option Addr) (L:Nat) (E:List (S60)) (Z:Bool) (r1:List (S60)) (r2:Bool) (w:World) (b2:Kd.V k60 60 w w.heap.size (fun k_=>O k_) (.slice J E.length L) E) (h:count_Image_4.f k E Z=some (r1,r2)) :
    Calls Try.prog 70 #[.agg #[.slice J E.length L,.bool Z]] w fun e w'=>∃ b4:Value,e=.returned (.agg #[b4,.bool r2])∧Kd.V k60 60 w' w.heap.size (fun k_=>(O k_ ∨ w.heap.size ≤ k_)) b4 r1∧Below w.heap.size w w':=by
 have d8:=Try.underlying102;have F:=mk0 (show Kd.V k60 60 w w.heap.size (fun k_=>(O k_ ∨ w.heap.size ≤ k_)) (.slice J E.length L) E from Kd.V_mono b2 (fun k_ hk=>.inl hk));have G:=mk0 (Below.refl w.heap.size w);have H:(if Z=true then (some (E,Z)) else ((count_star.f k 3 E).bind fun T=>((count_valid.f k T ([]:List (S102))).bind fun U=>(some (U.1,U.2)))))=some (r1,r2):=h;clear h
 by_cases c2:Z=true
 ·
  subst c2;have H1:(some (E,true))=some (r1,r2):=by rw [if_pos rfl] at H;exact H
  clear H;have H:=H1;clear H1;simp only [Option.some.injEq,Prod.mk.injEq] at H;obtain ⟨rfl,rfl⟩:=H;go_enter Try.func70,Try.ntmps70;go_wp2_with (first|((with_reducible refine gate_dst (N:=1) rfl ?_);refine box_event ?hg (N:=1) ?hd (cs:=#[.slice J E.length L,.bool true]) (t:=102) ?hr ?_;(case hd=>rfl);(case hg=>rfl);(case hr=>first|(go_simp;done)|(go_simp;rfl));intro I hg w3 M hb;have B:=mk0 (M);have a0:=szw hg G;have a1:=a0;replace F:=mk0 (Kd.V_below (Kd.V_elderB F.1 I (Nat.le_of_eq hg.symm)) hb);replace G:=bst G hb;clear hb M hg)|((with_reducible refine gate_dst (N:=2) rfl ?_);refine box_event ?hg (N:=2) ?hd (cs:=#[.slice none 0 0,.bool false]) (t:=102) ?hr ?_;(case hd=>rfl);(case hg=>rfl);(case hr=>first|(go_simp;done)|(go_simp;rfl));intro C hg w4 M hb;have D:=mk0 (M);have a2:=szw hg G;have a3:=a2;have Q:=nlt hg B;have R:=ngt hg B;replace F:=mk0 (Kd.V_below (Kd.V_elderB F.1 C (Nat.le_of_eq hg.symm)) hb);replace B:=bkb B hb;replace G:=bst G hb;clear hb M hg;have e1:=Q.1;have e2:=R.1;have d0:=q0_ B;have d1:=q1_ B;have d2:=blk_frozen B.1 0;have d3:=blk_frozen B.1 1;have d4:=q0_ D;have d5:=q1_ D;have d6:=blk_frozen D.1 0;have d7:=blk_frozen D.1 1));refine bodyPost_ret (results_cell_row rfl _ _ C 102 #[.slice J E.length L,.bool true] (0,0) _ rfl (by refine blk_put (cs:=#[.slice J E.length L,.bool false]) ?_ 1 _ rfl;refine blk_put (cs:=#[.slice none 0 0,.bool false]) ?_ 0 _ rfl;exact D.1) Try.underlying102 rfl (by kernel_rfl)) rfl ?_;exact ⟨_,by first|rfl|(simp [errW_none,errW_some] <;> rfl)|(simp [*,errW_none,errW_some] <;> rfl),by exact Kd.V_mono (Kd.V_far (p:=⟨C,1,none⟩) (Kd.V_far (p:=⟨C,0,none⟩) (Kd.V_mono F.1 (fun k_ hk=>(⟨hk,hk.2⟩:_∧k_ ≠ C))) (fun _ hk=>hk.2) (.slice J E.length L)) (fun _ hk=>hk.2) (.bool true)) (fun _ hk=>hk.1.1.1),by repeat (first|(with_reducible first|exact G.1|apply below_alloc|apply pw_below_drewN|apply below_drew1|refine below_set ?_ a1.1|refine below_set ?_ a3.1)|exact G.1)⟩
 ·
  replace c2:=Bool.eq_false_iff.mpr c2;subst c2;have H1:((count_star.f k 3 E).bind fun T=>((count_valid.f k T ([]:List (S102))).bind fun U=>(some (U.1,U.2))))=some (r1,r2):=by rw [if_neg (show ¬ (false=true) by decide)] at H;exact H
  clear H;have H:=H1;clear H1;replace H:=Option.bind_eq_some_iff.mp H;obtain ⟨T,b5,H⟩:=H;(try dsimp only at H);have A8:=mk0 b5;clear b5;replace H:=Option.bind_eq_some_iff.mp H;obtain ⟨⟨a4,a5⟩,b6,H⟩:=H;(try dsimp only at H);have A9:=mk0 b6;clear b6;simp only [Option.some.injEq,Prod.mk.injEq] at H;obtain ⟨rfl,rfl⟩:=H;go_enter Try.func70,Try.ntmps70;go_wp2_with (first|((with_reducible refine gate_dst (N:=1) rfl ?_);refine box_event ?hg (N:=1) ?hd (cs:=#[.slice J E.length L,.bool false]) (t:=102) ?hr ?_;(case hd=>rfl);(case hg=>rfl);(case hr=>first|(go_simp;done)|(go_simp;rfl));intro I hg e7 M hb;have B:=mk0 (M);have a0:=szw hg G;have a1:=a0;replace F:=mk0 (Kd.V_below (Kd.V_elderB F.1 I (Nat.le_of_eq hg.symm)) hb);replace G:=bst G hb;clear hb M hg)|((with_reducible refine gate_dst (N:=2) rfl ?_);refine box_event ?hg (N:=2) ?hd (cs:=#[.slice none 0 0,.bool false]) (t:=102) ?hr ?_;(case hd=>rfl);(case hg=>rfl);(case hr=>first|(go_simp;done)|(go_simp;rfl));intro C hg e8 M hb;have D:=mk0 (M);have a2:=szw hg G;have a3:=a2;have Q:=nlt hg B;have R:=ngt hg B;replace F:=mk0 (Kd.V_below (Kd.V_elderB F.1 C (Nat.le_of_eq hg.symm)) hb);replace B:=bkb B hb;replace G:=bst G hb;clear hb M hg;have d9:=Q.1;have e0:=R.1;have c1:=q0_ B;have c3:=q1_ B;have c4:=blk_frozen B.1 0;have c5:=blk_frozen B.1 1)|((with_reducible refine gate_callee (f:=71) rfl ?_);refine goesL_ (some 8) rfl rfl Try.func71 (by kernel_rfl) rfl #[.int .i64 3,.slice J E.length L] rfl (by (try simp only [m0_,m1_,m2_]);first|done|rfl|(simp only [l0_,l1_];rfl)) ?_;(with_reducible refine (count_star.calls k 3 (fun k_=>(((O k_ ∨ w.heap.size ≤ k_)∧k_ ≠ I)∧k_ ≠ C)) _ _ E T _ ?side1 A8.1).mono ?_);(case side1=>exact F.1);rintro e e9 ⟨e5,rfl,X,hb⟩;refine ⟨_,rfl,?_⟩;have Y:=mk0 (Kd.N_lower (Kd.N_mono (ok':=fun k_=>(O k_ ∨ w.heap.size ≤ k_)∧k_ ≠ I∧k_ ≠ C) X (fun k_ hk_=>⟨Or.elim hk_ (fun hs_=>hs_.1.1) (fun hn_=>(.inr (Nat.le_trans (below_size G.1) hn_))),Or.elim hk_ (fun hs_=>hs_.1.2) (fun hn_=>(Kd.freshB (g:=I) (o:=.cells #[.slice J E.length L,.bool false] 102 (0,0)) B.1 k_ hn_)),Or.elim hk_ (fun hs_=>hs_.2) (fun hn_=>(Kd.freshB (g:=C) (o:=.cells #[.slice none 0 0,.bool false] 102 (0,0)) D.1 k_ hn_))⟩)) (below_size G.1));replace F:=mk0 (Kd.V_elder' F.1 (by first|exact Kd.N_base X|exact Kd.S_base X|exact Kd.R_base X) hb);replace B:=bkb B hb;replace D:=bkb D hb;replace G:=bst G hb;(try clear hb);(try clear X);obtain ⟨b7,b8,b9⟩:=Kd.N_slice Y.1;subst b9)|((with_reducible refine gate_callee (f:=66) rfl ?_);refine goesL_ (some 9) rfl rfl Try.func66 (by kernel_rfl) rfl #[.slice b7 T.length b8,.slice none 0 0] rfl (by (try simp only [m0_,m1_,m2_]);first|done|rfl|(simp only [l0_,l1_];rfl)) ?_;(refine (count_valid.calls k (fun k_=>((O k_ ∨ w.heap.size ≤ k_)∧(k_ ≠ I∧k_ ≠ C))) _ _ T _ _ ([]:List (S102)) a4 a5 _ ?side1 ?side2 ?side3 A9.1).mono ?_);(case side1=>exact Kd.N_V (Y.1));(case side2=>exact Kd.C_nil _ _);(case side3=>exact Nat.le_refl _);rintro e f0 ⟨e6,rfl,X,hb⟩;refine ⟨_,rfl,?_⟩;have a8:=mk0 (Kd.V_lower (Kd.V_mono (ok':=fun k_=>(O k_ ∨ w.heap.size ≤ k_)∧k_ ≠ I∧k_ ≠ C) X (fun k_ hk_=>⟨Or.elim hk_ (fun hs_=>hs_.1) (fun hn_=>(.inr (Nat.le_trans (below_size G.1) hn_))),Or.elim hk_ (fun hs_=>hs_.2.1) (fun hn_=>(Kd.freshB (g:=I) (o:=.cells #[.slice J E.length L,.bool false] 102 (0,0)) B.1 k_ hn_)),Or.elim hk_ (fun hs_=>hs_.2.2) (fun hn_=>(Kd.freshB (g:=C) (o:=.cells #[.slice none 0 0,.bool false] 102 (0,0)) D.1 k_ hn_))⟩)) (below_size G.1));replace F:=mk0 (Kd.V_below F.1 hb);replace Y:=mk0 (Kd.N_below Y.1 hb);replace B:=bkb B hb;replace D:=bkb D hb;replace G:=bst G hb;(try clear hb);(try clear X);obtain ⟨a6,a7,c0⟩:=Kd.V_slice a8.1;subst c0;have c6:=q0_ D;have c7:=q1_ D;have c8:=blk_frozen D.1 0;have c9:=blk_frozen D.1 1))
  refine bodyPost_ret (results_cell_row rfl _ _ C 102 #[.slice a6 a4.length a7,.bool a5] (0,0) _ rfl (by refine blk_put (cs:=#[.slice a6 a4.length a7,.bool false]) ?_ 1 _ rfl;refine blk_put (cs:=#[.slice none 0 0,.bool false]) ?_ 0 _ rfl;exact D.1) Try.underlying102 rfl (by kernel_rfl)) rfl ?_;exact ⟨_,by first|rfl|(simp [errW_none,errW_some] <;> rfl)|(simp [*,errW_none,errW_some] <;> rfl),by exact Kd.V_mono (Kd.V_far (p:=⟨C,1,none⟩) (Kd.V_far (p:=⟨C,0,none⟩) (Kd.V_mono a8.1 (fun k_ hk=>(⟨hk,hk.2.2⟩:_∧k_ ≠ C))) (fun _ hk=>hk.2) (.slice a6 a4.length a7)) (fun _ hk=>hk.2) (.bool a5)) (fun _ hk=>hk.1.1),by repeat (first|(with_reducible first|exact G.1|apply below_alloc|apply pw_below_drewN|apply below_drew1|refine below_set ?_ a1.1|refine below_set ?_ a3.1)|exact G.1)⟩
theorem info102m:(Try.prog.info? 102).map (fun i=>(i.zero,i.size,i.bytes))=some (some (.agg #[.slice none 0 0,.bool false]),2,32):=by kernel_rfl
abbrev Img:=List S60 × Bool
def RepI (lo:Nat) (w:World) (own:Option Nat) (row:List Value) (x:Img):Prop:=∃ (A:Option Addr) (c:Nat) (ok:Nat → Prop),row=[.slice A x.1.length c,.bool x.2]∧x.1.length ≤ c∧Kd.F k60 w ok A x.1.length x.1∧∀ k,ok k → lo ≤ k∧k < w.heap.size∧some k ≠ own
theorem F_bound' {w:World} {ok:Nat → Prop} {A:Option Addr} {xs:List S60} (h:Kd.F k60 w ok A xs.length xs):Kd.F k60 w (fun k=>ok k∧k < w.heap.size) A xs.length xs:=fun W' hW=>h W' (fun k hk hlt=>hW k ⟨hk,hlt⟩ hlt)
theorem RepI.below {lo:Nat} {w w':World} {own:Option Nat} {row:List Value} {x:Img} (h:RepI lo w own row x) (hb:Below w.heap.size w w'):RepI lo w' own row x:=by
  obtain ⟨A,c,ok,h1,h2,h3,h4⟩:=h
  exact ⟨A,c,ok,h1,h2,Kd.F_below h3 hb,fun k hk=>⟨(h4 k hk).1,by have:=(h4 k hk).2.1;have:=hb.size;omega,(h4 k hk).2.2⟩⟩
theorem RepI.step {lo:Nat} {w w':World} {own own':Option Nat} {row:List Value} {x:Img} (h:RepI lo w own row x) (hg:w.grownBy w' own) (hat:own'=own ∨ ∃ b,own'=some b∧w.heap.size ≤ b):RepI lo w' own' row x:=by
  obtain ⟨A,c,ok,h1,h2,h3,h4⟩:=h
  refine ⟨A,c,ok,h1,h2,Kd.F_step h3 (fun k hk hlt=>hg.block k hlt (h4 k hk).2.2),fun k hk=>⟨(h4 k hk).1,by have:=(h4 k hk).2.1;have:=hg.size;omega,?_⟩⟩
  rcases hat with e|⟨b,e,hb⟩
  · rw [e];exact (h4 k hk).2.2
  · rw [e];intro e2;injection e2 with e2;have:=(h4 k hk).2.1;omega
def RepsI (lo:Nat) (w:World) (own:Option Nat) (rows:List (List Value)) (st:List Img):Prop:=rows.length=st.length∧∀ (j:Nat) (row:List Value) (x:Img),rows[j]?=some row → st[j]?=some x → RepI lo w own row x
theorem RepsI.below {lo:Nat} {w w':World} {own:Option Nat} {rows:List (List Value)} {st:List Img} (h:RepsI lo w own rows st) (hb:Below w.heap.size w w'):RepsI lo w' own rows st:=⟨h.1,fun j row x h1 h2=>(h.2 j row x h1 h2).below hb⟩
theorem RepsI.push {lo:Nat} {w w':World} {own own':Option Nat} {rows:List (List Value)} {st:List Img} {row:List Value} {x:Img} (h:RepsI lo w own rows st) (hx:RepI lo w own row x) (hg:w.grownBy w' own) (hat:own'=own ∨ ∃ b,own'=some b∧w.heap.size ≤ b):RepsI lo w' own' (rows ++ [row]) (st ++ [x]):=by
  refine ⟨by simp [h.1],fun j c K h1 h2=>?_⟩
  by_cases hj:j < rows.length
  · rw [List.getElem?_append_left hj] at h1
    rw [List.getElem?_append_left (by have:=h.1;omega)] at h2
    exact (h.2 j c K h1 h2).step hg hat
  · rw [List.getElem?_append_right (by omega)] at h1
    rw [List.getElem?_append_right (by have:=h.1;omega)] at h2
    have e:j - rows.length=j - st.length:=by have:=h.1;omega
    rw [e] at h1
    rcases hq:j - st.length with _|q
    · rw [hq] at h1 h2
      simp at h1 h2
      subst h1;subst h2
      exact hx.step hg hat
    · rw [hq] at h1
      simp at h1
theorem RepsI.take {lo:Nat} {w:World} {own:Option Nat} {bs cs:List (List Value)} {st tt:List Img} (h:RepsI lo w own (bs ++ cs) (st ++ tt)) (hl:bs.length=st.length):RepsI lo w own bs st:=by
  refine ⟨hl,fun j c K h1 h2=>h.2 j c K ?_ ?_⟩
  · rw [List.getElem?_append_left (List.getElem?_eq_some_iff.1 h1).1];exact h1
  · rw [List.getElem?_append_left (List.getElem?_eq_some_iff.1 h2).1];exact h2
def StopX (p:Prop):Prop:=p
theorem stopx_ {p:Prop} (h:StopX p):p:=h
theorem img_call {g:Nat} {args:Array Value} {W wr:World} {x:List S60} {f:Bool} {ok ok':Nat → Prop} (h:Calls Try.prog g args W fun e w'=>∃ v0_:Value,e=.returned (.agg #[v0_,.bool f])∧Kd.V k60 60 w' W.heap.size ok v0_ x∧Below W.heap.size W w') (hk:∀ k,ok k → ok' k) :
    Calls Try.prog g args W fun e w'=>∃ v0_:Value,e=.returned (.agg #[v0_,.bool f])∧Kd.V k60 60 w' wr.heap.size ok' v0_ x∧Below W.heap.size W w':=by
  refine h.mono ?_
  rintro e w' ⟨v,rfl,⟨A,c,e,hl,hF⟩,hb⟩
  exact ⟨v,rfl,⟨A,c,e,hl,Kd.F_mono hF hk⟩,hb⟩
def runI (k:Nat):List UInt8 → List Img → Option (Option Img):=Mach.run (fun i=>count_Image_1.f i) (fun a b=>count_Image_2.f k a.1 a.2 b.1 b.2) (fun a b=>count_Image_3.f k a.1 a.2 b.1 b.2) (fun a=>count_Image_4.f k a.1 a.2)
def endI (st:List Img):Option Img:=match st with|[x]=>some x|_=>none
theorem endI_run {k:Nat} {st:List Img} {r:Option Img} (h:runI k [] st=some r):r=endI st:=by
  match st,h with
  | [],h=>exact (Option.some.inj h).symm
  | [x],h=>exact (Option.some.inj h).symm
  | x :: y :: t,h=>exact (Option.some.inj h).symm
theorem endI_none {st:List Img} (h:st.length ≠ 1):endI st=none:=by
  match st,h with
  | [],_=>rfl
  | [x],h=>exact absurd rfl h
  | x :: y :: t,_=>rfl
theorem results_cell_tmp {P:Program} {fn:Func} {p u:Tmp} {ty:TypeId} (h:fn.results=#[.cell p ty,.tmp u]) (tmps:Array Value) (w:World) (g:Nat) (t:TypeId) (cs:Array Value) (fr:Nat × Nat) (d:TypeDesc)
    (hp:tmps.getD p undef=.pointer (some ⟨g,0,none⟩)) (hg:w.heap[g]?=some (.cells cs t fr))
    (hu:P.underlying ty=some d) (hd:(match d with|.struct _|.array _ _=>true|_=>false)=true) (hi:(P.info? ty).map (·.size)=some cs.size) :
    (results fn tmps).run P w=.ok (.tuple #[.agg cs,tmps.getD u undef]) w:=by
  have hp':tmps[p]?.getD undef=.pointer (some ⟨g,0,none⟩):=by simpa using hp
  simp [results,h,hp',asAddr,run_loadVar_row w g t ty cs fr d hg hu hd hi]
abbrev kimg:Kd (List Value):=Kd.raw 2
def ImgPost (w w':World) (r:Option Img) (e:Ending):Prop:=∃ (v:Value) (f:Bool),e=.returned (.tuple #[.agg #[v,.bool f],.bool r.isSome])∧(∀ x,r=some x → f=x.2∧Kd.V k60 60 w' w.heap.size (fun k_=>w.heap.size ≤ k_) v x.1)∧(r=none → v=.slice none 0 0)∧Below w.heap.size w w'
theorem imgPost_none {w w':World} (h:Below w.heap.size w w'):ImgPost w w' none (.returned (.tuple #[.agg #[.slice none 0 0,.bool false],.bool false])):=⟨_,_,rfl,fun x h=>(by cases h),fun _=>rfl,h⟩
theorem imgPost_some {w w':World} {v:Value} {x:Img} (hv:Kd.V k60 60 w' w.heap.size (fun k_=>w.heap.size ≤ k_) v x.1) (h:Below w.heap.size w w'):ImgPost w w' (some x) (.returned (.tuple #[.agg #[v,.bool x.2],.bool true])):=⟨_,_,rfl,fun y h=>(by obtain rfl:=Option.some.inj h;exact ⟨rfl,hv⟩),fun h=>(by cases h),h⟩
theorem img_push {lo:Nat} {w W w10:World} {A:Option Addr} {n cc gb g4 g7:Nat} {rows:List (List Value)} {st:List Img} {row:List Value} {x:Img} {cells:Array Value} {v1:Value} (hO:kimg.R 102 W w.heap.size (fun k=>lo ≤ k) (.slice A n cc) rows) (hP:RepsI lo W (Value.slice A n cc).ownBlock rows st) (hL:RepI lo W (Value.slice A n cc).ownBlock row x) (hB:Below w.heap.size w W)
    (hbk:W.heap[gb]?=some (.cells cells 109 (0,0))∧W.heap[g4]?=some (.cells #[.slice none 0 0,.bool false] 102 (0,0))∧W.heap[g7]?=some (.cells #[.slice none 0 0,.bool false] 102 (0,0))) (hlo:gb < lo∧g4 < lo∧g7 < lo) (hR1:kimg.R 102 w10 w.heap.size (fun k=>lo ≤ k) v1 (rows ++ [row])) (hg:W.grownBy w10 (Value.slice A n cc).ownBlock) (hat:v1.ownBlock=(Value.slice A n cc).ownBlock ∨ ∃ b,v1.ownBlock=some b∧W.heap.size ≤ b) :
    kimg.R 102 w10 w.heap.size (fun k=>lo ≤ k) v1 (rows ++ [row])∧RepsI lo w10 v1.ownBlock (rows ++ [row]) (st ++ [x])∧(w10.heap[gb]?=some (.cells cells 109 (0,0))∧w10.heap[g4]?=some (.cells #[.slice none 0 0,.bool false] 102 (0,0))∧w10.heap[g7]?=some (.cells #[.slice none 0 0,.bool false] 102 (0,0)))∧Below w.heap.size w w10:=by
  have hne:∀ g,g < lo → some g ≠ (Value.slice A n cc).ownBlock:=fun g hg e=>by have:=hO.1 g e.symm;omega
  refine ⟨hR1,hP.push hL hg hat,⟨(hg.block gb (blk_lt hbk.1) (hne _ hlo.1)).trans hbk.1,(hg.block g4 (blk_lt hbk.2.1) (hne _ hlo.2.1)).trans hbk.2.1,(hg.block g7 (blk_lt hbk.2.2) (hne _ hlo.2.2)).trans hbk.2.2⟩,Below.grown hB hg hB.size (fun k hk=>Kd.R_base hO k hk)⟩
theorem img_new {lo gx:Nat} {wr wl W:World} {own:Option Nat} {A:Option Addr} {c:Nat} {x:Img} {ok:Nat → Prop} (hV:Kd.V k60 60 wl wr.heap.size ok (.slice A x.1.length c) x.1) (hok:∀ k,ok k → (lo ≤ k∧k < wr.heap.size∧some k ≠ own) ∨ gx < k) (hgx:wr.heap.size ≤ gx) (hlo:lo ≤ wr.heap.size) (hown:∀ k,own=some k → k < wr.heap.size)
    (hw:∀ k,k ≠ gx → k < wl.heap.size → W.heap[k]?=wl.heap[k]?) (hs:wl.heap.size ≤ W.heap.size):RepI lo W own [.slice A x.1.length c,.bool x.2] x:=by
  obtain ⟨A',c',e,hl,hF⟩:=hV
  injection e with e1 e2 e3
  subst e1;subst e3
  refine ⟨A,c,fun k=>ok k∧k < wl.heap.size,rfl,hl,Kd.F_step (F_bound' hF) (fun k hk hlt=>hw k ?_ hlt),fun k hk=>?_⟩
  · rcases hok k hk.1 with h|h
    · omega
    · omega
  · rcases hok k hk.1 with h|h
    · exact ⟨h.1,by have:=hk.2;omega,h.2.2⟩
    · refine ⟨by omega,by have:=hk.2;omega,fun e=>?_⟩
      have:=hown k e.symm
      omega
theorem set2_heap (w:World) (g k:Nat) (h:k ≠ g) (a b:Value):((w.setCell ⟨g,0,none⟩ a).setCell ⟨g,1,none⟩ b).heap[k]?=w.heap[k]?:=(Below.heap_setCell _ _ _ _ h).trans (Below.heap_setCell _ _ _ _ h)
theorem set2_size (w:World) (g:Nat) (a b:Value):((w.setCell ⟨g,0,none⟩ a).setCell ⟨g,1,none⟩ b).heap.size=w.heap.size:=by simp [World.setCell]
set_option maxHeartbeats 8000000 in
set_option maxRecDepth 100000 in
theorem image_run.calls (k:Nat) (code:ByteArray) (r:Option Img) (w:World) (hsz:code.size ≤ 1000) (h:runI k code.data.toList []=some r) :
    Calls Try.prog 72 #[.agg #[.func (.func 64) #[] #[],.func (.func 65) #[] #[],.func (.func 68) #[] #[],.func (.func 70) #[] #[]],.string code] w fun e w'=>ImgPost w w' r e:=by
  have HSZ:=mk0 hsz
  have HRUN:=mk0 h
  have hlen:code.size=code.data.toList.length:=rfl
  have HLEN:=mk0 hlen
  have i0:=Try.underlying102
  clear hsz h hlen
  go_enter Try.func72,Try.ntmps72
  go_wp2_with (first
    | ((with_reducible refine gate_dst (N:=2) rfl ?_);refine box_event ?hg (N:=2) ?hd (cs:=#[.func (.func 64) #[] #[],.func (.func 65) #[] #[],.func (.func 68) #[] #[],.func (.func 70) #[] #[]]) (t:=109) ?hr ?_;(case hd=>rfl);(case hg=>rfl);(case hr=>first|(go_simp;done)|(go_simp;rfl));intro gb hg w1 B hb;have BK:=mk0 B;have f1:=mk0 hb;have HG:=mk0 hg;clear hb B hg)
    | ((with_reducible refine gate_dst (N:=4) rfl ?_);refine box_event ?hg (N:=4) ?hd (cs:=#[.slice none 0 0,.bool false]) (t:=102) ?hr ?_;(case hd=>rfl);(case hg=>rfl);(case hr=>first|(go_simp;done)|(go_simp;rfl));intro g4 hg w2 B hb;have g0:=mk0 B;have g1:=mk0 (blk_below BK.1 hb);have g2:=mk0 (below_step f1.1 hb);have g3:=mk0 hg;clear hb B hg)
    | ((with_reducible refine gate_dst (N:=7) rfl ?_);refine box_event ?hg (N:=7) ?hd (cs:=#[.slice none 0 0,.bool false]) (t:=102) ?hr ?_;(case hd=>rfl);(case hg=>rfl);(case hr=>first|(go_simp;done)|(go_simp;rfl));intro g7 hg M B hb;have HBS:=mk0 (show M.heap[gb]?=some (.cells #[.func (.func 64) #[] #[],.func (.func 65) #[] #[],.func (.func 68) #[] #[],.func (.func 70) #[] #[]] 109 (0,0))∧M.heap[g4]?=some (.cells #[.slice none 0 0,.bool false] 102 (0,0))∧M.heap[g7]?=some (.cells #[.slice none 0 0,.bool false] 102 (0,0)) from ⟨blk_below g1.1 hb,blk_below g0.1 hb,B⟩);have f2:=mk0 (below_step g2.1 hb);have h5:=mk0 hg;clear hb B hg)
    | fail)
  have HLO:=mk0 (show gb < M.heap.size∧g4 < M.heap.size∧g7 < M.heap.size from ⟨blk_lt HBS.1.1,blk_lt HBS.1.2.1,blk_lt HBS.1.2.2⟩)
  have h6:=mk0 f2.1.size
  have a5:=mk0 (show w.heap.size ≤ g4 from by have:=g3.1;have:=f1.1.size;omega)
  go_loopw [6,16] (fun v6 f3 wr=>∃ (i:Nat) (bs:List (List Value)) (st:List Img),f3=.int .i64 (i:Int)∧Aside0 (i ≤ code.size)∧Aside0 (kimg.R 102 wr w.heap.size (fun k=>M.heap.size ≤ k) v6 bs)∧Aside0 (RepsI M.heap.size wr v6.ownBlock bs st)∧Aside0 (bs.length ≤ i)∧Aside0 (runI k (code.data.toList.drop i) st=some r)∧Aside0 (wr.heap[gb]?=some (.cells #[.func (.func 64) #[] #[],.func (.func 65) #[] #[],.func (.func 68) #[] #[],.func (.func 70) #[] #[]] 109 (0,0))∧wr.heap[g4]?=some (.cells #[.slice none 0 0,.bool false] 102 (0,0))∧wr.heap[g7]?=some (.cells #[.slice none 0 0,.bool false] 102 (0,0)))∧Aside0 (Below w.heap.size w wr)∧Aside0 (M.heap.size ≤ wr.heap.size)) (fun _ f3 _=>code.size - (intOf f3).toNat)
  case atStart=>exact ⟨0,[],[],rfl,⟨Nat.zero_le _⟩,⟨Kd.R_nil _ _ _ _ _⟩,⟨⟨rfl,fun j b L h=>by simp at h⟩⟩,⟨Nat.le_refl _⟩,HRUN,HBS,f2,⟨Nat.le_refl _⟩⟩
  case round =>
    clear BK g1 g0 f1 g2 f2 HBS HG g3 h5 HRUN
    obtain ⟨i,bs,st,rfl,HI,HO,HRP,HBL,HR,HBK,HB,HLW⟩:=hrel
    have i5:wr.cell? ⟨g4,0,none⟩=some (.slice none 0 0):=(blk_cell HBK.1.2.1 0).trans rfl
    have i6:wr.cell? ⟨g4,1,none⟩=some (.bool false):=(blk_cell HBK.1.2.1 1).trans rfl
    have i1:wr.frozen? ⟨g4,0,none⟩=false:=blk_frozen HBK.1.2.1 0
    have i2:wr.frozen? ⟨g4,1,none⟩=false:=blk_frozen HBK.1.2.1 1
    have i7:wr.cell? ⟨g7,0,none⟩=some (.slice none 0 0):=(blk_cell HBK.1.2.2 0).trans rfl
    have i8:wr.cell? ⟨g7,1,none⟩=some (.bool false):=(blk_cell HBK.1.2.2 1).trans rfl
    by_cases hlt:i < code.size
    · have hd:decide ((i:Int) < (code.size:Int))=true:=decide_eq_true (by omega)
      have h8:decide (i < code.size)=true:=decide_eq_true hlt
      have q0:((0:Int) ≤ (i:Int))=True:=eq_true (by omega)
      have q1:((i:Int) < (code.size:Int))=True:=eq_true (by omega)
      have HCD:=mk0 (drop_cons code i hlt)
      obtain ⟨c,hc⟩:∃ c,c=code[i]'hlt:=⟨_,rfl⟩
      rw [← hc] at HCD
      have HRC:=mk0 (Mach.run_cons _ _ _ _ (show runI k (c :: code.data.toList.drop (i + 1)) st=some r from by rw [← HCD.1];exact HR.1))
      have i9:∀ args w,(callFunc 64 args).run Try.prog w=.ok (.enter 64 args) w:=enters_of Try.func64 (by kernel_rfl) rfl
      have j0:∀ args w,(callFunc 65 args).run Try.prog w=.ok (.enter 65 args) w:=enters_of Try.func65 (by kernel_rfl) rfl
      have j1:∀ args w,(callFunc 68 args).run Try.prog w=.ok (.enter 68 args) w:=enters_of Try.func68 (by kernel_rfl) rfl
      have j2:∀ args w,(callFunc 70 args).run Try.prog w=.ok (.enter 70 args) w:=enters_of Try.func70 (by kernel_rfl) rfl
      obtain ⟨A,cc,rfl⟩:=Kd.R_slice HO.1
      have hcap:=(Kd.R_reads' HO.1).2.1
      have HOWN:Aside0 (∀ k,(Value.slice A bs.length cc).ownBlock=some k → k < wr.heap.size):=⟨fun k hk=>by obtain ⟨cells,hc⟩:=Kd.R_typed HO.1 k hk;exact blk_lt hc⟩
      obtain ⟨j3,hii,hiz⟩:=Option.map_eq_some_iff.1 info102m
      simp only [Prod.mk.injEq] at hiz
      have a7:wr.cell? ⟨gb,0,none⟩=some (.func (.func 64) #[] #[]):=(blk_cell HBK.1.1 0).trans rfl
      have a6:wr.cell? ⟨gb,1,none⟩=some (.func (.func 65) #[] #[]):=(blk_cell HBK.1.1 1).trans rfl
      have g5:wr.cell? ⟨gb,2,none⟩=some (.func (.func 68) #[] #[]):=(blk_cell HBK.1.1 2).trans rfl
      have g6:wr.cell? ⟨gb,3,none⟩=some (.func (.func 70) #[] #[]):=(blk_cell HBK.1.1 3).trans rfl
      have hww:wrap64 ((i:Int) + 1)=((i + 1:Nat):Int):=by have:=HSZ.1;unfold wrap64;omega
      have HW:=mk0 hww
      have HLT:=mk0 hlt
      clear hww HR
      rcases signs c with rfl|rfl|rfl|rfl|rfl|rfl|rfl|hoth
      · have hci:(code[i]'hlt).toNat=97:=by rw [← hc];rfl
        have a0:=mk0 (fun W=>IndexByte_one 42 97 97 97 (by decide) (by decide) (-1) (by decide) W)
        have a1:=mk0 (fun W=>IndexByte_one 46 97 97 97 (by decide) (by decide) (-1) (by decide) W)
        have a2:=mk0 (fun W=>IndexByte_one 43 97 97 97 (by decide) (by decide) (-1) (by decide) W)
        have G:=cut_to (P:=Try.prog) 129 102 .i64 Try.underlying129 hii A bs.length cc (bs.length:Int) (by omega) (by omega) hcap
        have F:=cut_from (P:=Try.prog) 129 102 .i64 Try.underlying129 hii 2 hiz.2.1 A bs.length cc (bs.length:Int) (by omega) (by omega)
        simp only [Int.toNat_natCast] at G F
        generalize Value.slice (if cc=bs.length then A else A.map (·.add (bs.length * 2))) (bs.length - bs.length) (cc - bs.length)=vt at F
        have hwn:wrap64 ((bs.length:Int) - 0)=(bs.length:Int):=by have:=HSZ.1;have:=HBL.1;unfold wrap64;omega
        have d2:wrap64 (bs.length:Int)=(bs.length:Int):=by have:=HSZ.1;have:=HBL.1;unfold wrap64;omega
        have d3:IntKind.i64.wrap ((bs.length:Int) - 0)=(bs.length:Int):=by have:=HSZ.1;have:=HBL.1;simp only [IntKind.wrap];simp [IntKind.signed,IntKind.bits];omega
        have d4:IntKind.i64.wrap (bs.length:Int)=(bs.length:Int):=by have:=HSZ.1;have:=HBL.1;simp only [IntKind.wrap];simp [IntKind.signed,IntKind.bits];omega
        have c4:((0:Int) ≤ (bs.length:Int))=True:=eq_true (by omega)
        obtain ⟨q,hq,hqr⟩:=HRC.1
        rw [Mach.step_letter _ _ _ _ (i:=0) (by decide)] at hq
        obtain ⟨xl,hxl,rfl⟩:=Option.map_eq_some_iff.mp hq
        have HQR:=mk0 hqr
        have HLS:Aside0 (bs.length ≤ i):=HBL
        have HLET:Aside0 (∀ W:World,_):=⟨fun W=>count_Image_1.calls (0) xl.1 xl.2 W hxl⟩
        clear hq hqr HRC hc hii hiz hcap
        go_wp2_with (first
          | (go_at_call 91;(with_reducible refine (a0.1 _).mono ?_);rintro e C ⟨rfl,rfl⟩)
          | (go_at_call 91;(with_reducible refine (a1.1 _).mono ?_);rintro e C ⟨rfl,rfl⟩)
          | (go_at_call 91;(with_reducible refine (a2.1 _).mono ?_);rintro e C ⟨rfl,rfl⟩))
        go_region_held3 (fun _=>True) (trivial) (first|fail|fail)
        clear G F
        go_wp2_with (first
          | ((with_reducible refine gate_dst (N:=13) rfl ?_);refine box_event ?hg (N:=13) ?hd (cs:=#[.slice none 0 0,.bool false]) (t:=102) ?hr ?_;(case hd=>rfl);(case hg=>rfl);(case hr=>first|(go_simp;done)|(go_simp;rfl));intro gx hgx wx B hb;have HX:=mk0 B;have HGX:Aside0 (C.heap.size ≤ gx):=⟨by rw [hgx];first|exact Nat.le_refl _|simp⟩;have HBX:Aside0 (Below C.heap.size C wx):=⟨below_step (by ((repeat (first|exact Below.refl _ _|apply Below.drew));done)) hb⟩;have c8:wx.cell? ⟨gx,0,none⟩=some (.slice none 0 0):=(blk_cell B 0).trans rfl;have c3:wx.cell? ⟨gx,1,none⟩=some (.bool false):=(blk_cell B 1).trans rfl;have b8:wx.frozen? ⟨gx,0,none⟩=false:=blk_frozen B 0;have b9:wx.frozen? ⟨gx,1,none⟩=false:=blk_frozen B 1;have c0:wx.cell? ⟨gb,0,none⟩=some (.func (.func 64) #[] #[]):=(HBX.1.cell (World.block_lt_of_cell? C _ a7)).trans a7;clear hb B hgx)
          | (go_at_call 64;(with_reducible refine (HLET.1 _).mono ?_);rintro e wl ⟨vl,rfl,hVl,E⟩;obtain ⟨Al,cl,rfl,_,_⟩:=id hVl;have c9:wl.cell? ⟨gx,0,none⟩=some (.slice none 0 0):=(blk_cell (blk_below HX.1 E) 0).trans rfl;have d0:wl.cell? ⟨gx,1,none⟩=some (.bool false):=(blk_cell (blk_below HX.1 E) 1).trans rfl;have c1:wl.frozen? ⟨gx,0,none⟩=false:=blk_frozen (blk_below HX.1 E) 0;have c2:wl.frozen? ⟨gx,1,none⟩=false:=blk_frozen (blk_below HX.1 E) 1;have HBWL:Aside0 (Below C.heap.size C wl):=⟨below_step HBX.1 E⟩;have HVL:Aside0 (Kd.V k60 60 wl C.heap.size (fun k=>wx.heap.size ≤ k) (.slice Al xl.1.length cl) xl.1):=⟨hVl⟩;have HOKL:Aside0 (∀ k,wx.heap.size ≤ k → (M.heap.size ≤ k∧k < C.heap.size∧some k ≠ (Value.slice A bs.length cc).ownBlock) ∨ gx < k):=⟨fun k hk=>.inr (by have:=blk_lt HX.1;omega)⟩;clear hVl E)
          | ((with_reducible refine gate_dst (N:=98) rfl ?_);refine stopx_ ?_))
        delta StopX
        have D:Aside0 (Below C.heap.size C ((wl.setCell ⟨gx,0,none⟩ (.slice Al xl.1.length cl)).setCell ⟨gx,1,none⟩ (.bool xl.2))):=⟨below_set (below_set HBWL.1 HGX.1) HGX.1⟩
        have HOL:Aside0 (kimg.R 102 ((wl.setCell ⟨gx,0,none⟩ (.slice Al xl.1.length cl)).setCell ⟨gx,1,none⟩ (.bool xl.2)) w.heap.size (fun k=>M.heap.size ≤ k) (.slice A bs.length cc) bs):=⟨Kd.R_below HO.1 D.1⟩
        have HPL:Aside0 (RepsI M.heap.size ((wl.setCell ⟨gx,0,none⟩ (.slice Al xl.1.length cl)).setCell ⟨gx,1,none⟩ (.bool xl.2)) (Value.slice A bs.length cc).ownBlock bs st):=⟨RepsI.below HRP.1 D.1⟩
        have HRL:Aside0 (RepI M.heap.size ((wl.setCell ⟨gx,0,none⟩ (.slice Al xl.1.length cl)).setCell ⟨gx,1,none⟩ (.bool xl.2)) (Value.slice A bs.length cc).ownBlock [.slice Al xl.1.length cl,.bool xl.2] xl):=⟨img_new (wr:=C) (gx:=gx) HVL.1 HOKL.1 HGX.1 HLW.1 HOWN.1 (fun k hk _=>set2_heap _ _ _ hk _ _) (Nat.le_of_eq (set2_size _ _ _ _).symm)⟩
        have HKL:=mk0 (And.intro (blk_below HBK.1.1 D.1) (And.intro (blk_below HBK.1.2.1 D.1) (blk_below HBK.1.2.2 D.1)))
        have I:=mk0 (below_step HB.1 D.1)
        go_wp2_with (first
          | ((with_reducible refine gate_builtin (b:=.append) (xs:=#[.tmp 97,.tmp 99]) rfl ?_);at_builtin;refine Kd.R_append kimg (w0:=w) w.heap.size rfl (.tmp 97) (.tmp 99) 129 102 (.agg #[.slice none 0 0,.bool false]) 32 rfl Try.underlying129 info102m rfl (by decide) (by omega) (.slice A bs.length cc) bs [.slice Al xl.1.length cl,.bool xl.2] [.slice Al xl.1.length cl,.bool xl.2] (fun k=>M.heap.size ≤ k) (fun _=>False) rfl (by rw [set2_size];rfl) ⟨rfl,rfl,fun u hu=>by (simp at hu;rcases hu with rfl|rfl <;> rfl)⟩ (fun _ h=>h.elim) (fun k hk=>by have:=HLW.1;have:=HBWL.1.size;simp [World.setCell] at hk;omega) HOL.1 I.1 (below_size I.1) (by have:=HLS.1;have:=HSZ.1;have:=HI.1;omega) ?_;intro v1 d1 a4 a6 O Q;have HALL:=mk0 (img_push HOL.1 HPL.1 HRL.1 I.1 HKL.1 HLO.1 a4 O Q);have U:=mk0 O.size;clear a4 a6 O Q))
        rcases HQR.1 with ⟨h,_⟩|⟨st',J,h2⟩
        · cases h
        obtain rfl:=Option.some.inj J
        have Z:=mk0 h2
        clear J h2
        go_roundw
        case rel=>exact ⟨i + 1,bs ++ [[.slice Al xl.1.length cl,.bool xl.2]],st ++ [xl],congrArg _ HW.1,⟨HLT.1⟩,⟨HALL.1.1⟩,⟨HALL.1.2.1⟩,⟨by rw [List.length_append];have:=HBL.1;simp;omega⟩,Z,⟨HALL.1.2.2.1⟩,⟨HALL.1.2.2.2⟩,⟨by have:=U.1;rw [set2_size] at this;have:=HBWL.1.size;have:=HLW.1;omega⟩⟩
        case measure=>rw [HW.1];simp only [intOf];have:=HLT.1;omega
      · have hci:(code[i]'hlt).toNat=98:=by rw [← hc];rfl
        have a0:=mk0 (fun W=>IndexByte_one 42 98 98 98 (by decide) (by decide) (-1) (by decide) W)
        have a1:=mk0 (fun W=>IndexByte_one 46 98 98 98 (by decide) (by decide) (-1) (by decide) W)
        have a2:=mk0 (fun W=>IndexByte_one 43 98 98 98 (by decide) (by decide) (-1) (by decide) W)
        have G:=cut_to (P:=Try.prog) 129 102 .i64 Try.underlying129 hii A bs.length cc (bs.length:Int) (by omega) (by omega) hcap
        have F:=cut_from (P:=Try.prog) 129 102 .i64 Try.underlying129 hii 2 hiz.2.1 A bs.length cc (bs.length:Int) (by omega) (by omega)
        simp only [Int.toNat_natCast] at G F
        generalize Value.slice (if cc=bs.length then A else A.map (·.add (bs.length * 2))) (bs.length - bs.length) (cc - bs.length)=vt at F
        have hwn:wrap64 ((bs.length:Int) - 0)=(bs.length:Int):=by have:=HSZ.1;have:=HBL.1;unfold wrap64;omega
        have d2:wrap64 (bs.length:Int)=(bs.length:Int):=by have:=HSZ.1;have:=HBL.1;unfold wrap64;omega
        have d3:IntKind.i64.wrap ((bs.length:Int) - 0)=(bs.length:Int):=by have:=HSZ.1;have:=HBL.1;simp only [IntKind.wrap];simp [IntKind.signed,IntKind.bits];omega
        have d4:IntKind.i64.wrap (bs.length:Int)=(bs.length:Int):=by have:=HSZ.1;have:=HBL.1;simp only [IntKind.wrap];simp [IntKind.signed,IntKind.bits];omega
        have c4:((0:Int) ≤ (bs.length:Int))=True:=eq_true (by omega)
        obtain ⟨q,hq,hqr⟩:=HRC.1
        rw [Mach.step_letter _ _ _ _ (i:=1) (by decide)] at hq
        obtain ⟨xl,hxl,rfl⟩:=Option.map_eq_some_iff.mp hq
        have HQR:=mk0 hqr
        have HLS:Aside0 (bs.length ≤ i):=HBL
        have HLET:Aside0 (∀ W:World,_):=⟨fun W=>count_Image_1.calls (1) xl.1 xl.2 W hxl⟩
        clear hq hqr HRC hc hii hiz hcap
        go_wp2_with (first
          | (go_at_call 91;(with_reducible refine (a0.1 _).mono ?_);rintro e C ⟨rfl,rfl⟩)
          | (go_at_call 91;(with_reducible refine (a1.1 _).mono ?_);rintro e C ⟨rfl,rfl⟩)
          | (go_at_call 91;(with_reducible refine (a2.1 _).mono ?_);rintro e C ⟨rfl,rfl⟩))
        go_region_held3 (fun _=>True) (trivial) (first|fail|fail)
        clear G F
        go_wp2_with (first
          | ((with_reducible refine gate_dst (N:=13) rfl ?_);refine box_event ?hg (N:=13) ?hd (cs:=#[.slice none 0 0,.bool false]) (t:=102) ?hr ?_;(case hd=>rfl);(case hg=>rfl);(case hr=>first|(go_simp;done)|(go_simp;rfl));intro gx hgx wx B hb;have HX:=mk0 B;have HGX:Aside0 (C.heap.size ≤ gx):=⟨by rw [hgx];first|exact Nat.le_refl _|simp⟩;have HBX:Aside0 (Below C.heap.size C wx):=⟨below_step (by ((repeat (first|exact Below.refl _ _|apply Below.drew));done)) hb⟩;have c8:wx.cell? ⟨gx,0,none⟩=some (.slice none 0 0):=(blk_cell B 0).trans rfl;have c3:wx.cell? ⟨gx,1,none⟩=some (.bool false):=(blk_cell B 1).trans rfl;have b8:wx.frozen? ⟨gx,0,none⟩=false:=blk_frozen B 0;have b9:wx.frozen? ⟨gx,1,none⟩=false:=blk_frozen B 1;have c0:wx.cell? ⟨gb,0,none⟩=some (.func (.func 64) #[] #[]):=(HBX.1.cell (World.block_lt_of_cell? C _ a7)).trans a7;clear hb B hgx)
          | (go_at_call 64;(with_reducible refine (HLET.1 _).mono ?_);rintro e wl ⟨vl,rfl,hVl,E⟩;obtain ⟨Al,cl,rfl,_,_⟩:=id hVl;have c9:wl.cell? ⟨gx,0,none⟩=some (.slice none 0 0):=(blk_cell (blk_below HX.1 E) 0).trans rfl;have d0:wl.cell? ⟨gx,1,none⟩=some (.bool false):=(blk_cell (blk_below HX.1 E) 1).trans rfl;have c1:wl.frozen? ⟨gx,0,none⟩=false:=blk_frozen (blk_below HX.1 E) 0;have c2:wl.frozen? ⟨gx,1,none⟩=false:=blk_frozen (blk_below HX.1 E) 1;have HBWL:Aside0 (Below C.heap.size C wl):=⟨below_step HBX.1 E⟩;have HVL:Aside0 (Kd.V k60 60 wl C.heap.size (fun k=>wx.heap.size ≤ k) (.slice Al xl.1.length cl) xl.1):=⟨hVl⟩;have HOKL:Aside0 (∀ k,wx.heap.size ≤ k → (M.heap.size ≤ k∧k < C.heap.size∧some k ≠ (Value.slice A bs.length cc).ownBlock) ∨ gx < k):=⟨fun k hk=>.inr (by have:=blk_lt HX.1;omega)⟩;clear hVl E)
          | ((with_reducible refine gate_dst (N:=98) rfl ?_);refine stopx_ ?_))
        delta StopX
        have D:Aside0 (Below C.heap.size C ((wl.setCell ⟨gx,0,none⟩ (.slice Al xl.1.length cl)).setCell ⟨gx,1,none⟩ (.bool xl.2))):=⟨below_set (below_set HBWL.1 HGX.1) HGX.1⟩
        have HOL:Aside0 (kimg.R 102 ((wl.setCell ⟨gx,0,none⟩ (.slice Al xl.1.length cl)).setCell ⟨gx,1,none⟩ (.bool xl.2)) w.heap.size (fun k=>M.heap.size ≤ k) (.slice A bs.length cc) bs):=⟨Kd.R_below HO.1 D.1⟩
        have HPL:Aside0 (RepsI M.heap.size ((wl.setCell ⟨gx,0,none⟩ (.slice Al xl.1.length cl)).setCell ⟨gx,1,none⟩ (.bool xl.2)) (Value.slice A bs.length cc).ownBlock bs st):=⟨RepsI.below HRP.1 D.1⟩
        have HRL:Aside0 (RepI M.heap.size ((wl.setCell ⟨gx,0,none⟩ (.slice Al xl.1.length cl)).setCell ⟨gx,1,none⟩ (.bool xl.2)) (Value.slice A bs.length cc).ownBlock [.slice Al xl.1.length cl,.bool xl.2] xl):=⟨img_new (wr:=C) (gx:=gx) HVL.1 HOKL.1 HGX.1 HLW.1 HOWN.1 (fun k hk _=>set2_heap _ _ _ hk _ _) (Nat.le_of_eq (set2_size _ _ _ _).symm)⟩
        have HKL:=mk0 (And.intro (blk_below HBK.1.1 D.1) (And.intro (blk_below HBK.1.2.1 D.1) (blk_below HBK.1.2.2 D.1)))
        have I:=mk0 (below_step HB.1 D.1)
        go_wp2_with (first
          | ((with_reducible refine gate_builtin (b:=.append) (xs:=#[.tmp 97,.tmp 99]) rfl ?_);at_builtin;refine Kd.R_append kimg (w0:=w) w.heap.size rfl (.tmp 97) (.tmp 99) 129 102 (.agg #[.slice none 0 0,.bool false]) 32 rfl Try.underlying129 info102m rfl (by decide) (by omega) (.slice A bs.length cc) bs [.slice Al xl.1.length cl,.bool xl.2] [.slice Al xl.1.length cl,.bool xl.2] (fun k=>M.heap.size ≤ k) (fun _=>False) rfl (by rw [set2_size];rfl) ⟨rfl,rfl,fun u hu=>by (simp at hu;rcases hu with rfl|rfl <;> rfl)⟩ (fun _ h=>h.elim) (fun k hk=>by have:=HLW.1;have:=HBWL.1.size;simp [World.setCell] at hk;omega) HOL.1 I.1 (below_size I.1) (by have:=HLS.1;have:=HSZ.1;have:=HI.1;omega) ?_;intro v1 d1 a4 a6 O Q;have HALL:=mk0 (img_push HOL.1 HPL.1 HRL.1 I.1 HKL.1 HLO.1 a4 O Q);have U:=mk0 O.size;clear a4 a6 O Q))
        rcases HQR.1 with ⟨h,_⟩|⟨st',J,h2⟩
        · cases h
        obtain rfl:=Option.some.inj J
        have Z:=mk0 h2
        clear J h2
        go_roundw
        case rel=>exact ⟨i + 1,bs ++ [[.slice Al xl.1.length cl,.bool xl.2]],st ++ [xl],congrArg _ HW.1,⟨HLT.1⟩,⟨HALL.1.1⟩,⟨HALL.1.2.1⟩,⟨by rw [List.length_append];have:=HBL.1;simp;omega⟩,Z,⟨HALL.1.2.2.1⟩,⟨HALL.1.2.2.2⟩,⟨by have:=U.1;rw [set2_size] at this;have:=HBWL.1.size;have:=HLW.1;omega⟩⟩
        case measure=>rw [HW.1];simp only [intOf];have:=HLT.1;omega
      · have hci:(code[i]'hlt).toNat=99:=by rw [← hc];rfl
        have a0:=mk0 (fun W=>IndexByte_one 42 99 99 99 (by decide) (by decide) (-1) (by decide) W)
        have a1:=mk0 (fun W=>IndexByte_one 46 99 99 99 (by decide) (by decide) (-1) (by decide) W)
        have a2:=mk0 (fun W=>IndexByte_one 43 99 99 99 (by decide) (by decide) (-1) (by decide) W)
        have G:=cut_to (P:=Try.prog) 129 102 .i64 Try.underlying129 hii A bs.length cc (bs.length:Int) (by omega) (by omega) hcap
        have F:=cut_from (P:=Try.prog) 129 102 .i64 Try.underlying129 hii 2 hiz.2.1 A bs.length cc (bs.length:Int) (by omega) (by omega)
        simp only [Int.toNat_natCast] at G F
        generalize Value.slice (if cc=bs.length then A else A.map (·.add (bs.length * 2))) (bs.length - bs.length) (cc - bs.length)=vt at F
        have hwn:wrap64 ((bs.length:Int) - 0)=(bs.length:Int):=by have:=HSZ.1;have:=HBL.1;unfold wrap64;omega
        have d2:wrap64 (bs.length:Int)=(bs.length:Int):=by have:=HSZ.1;have:=HBL.1;unfold wrap64;omega
        have d3:IntKind.i64.wrap ((bs.length:Int) - 0)=(bs.length:Int):=by have:=HSZ.1;have:=HBL.1;simp only [IntKind.wrap];simp [IntKind.signed,IntKind.bits];omega
        have d4:IntKind.i64.wrap (bs.length:Int)=(bs.length:Int):=by have:=HSZ.1;have:=HBL.1;simp only [IntKind.wrap];simp [IntKind.signed,IntKind.bits];omega
        have c4:((0:Int) ≤ (bs.length:Int))=True:=eq_true (by omega)
        obtain ⟨q,hq,hqr⟩:=HRC.1
        rw [Mach.step_letter _ _ _ _ (i:=2) (by decide)] at hq
        obtain ⟨xl,hxl,rfl⟩:=Option.map_eq_some_iff.mp hq
        have HQR:=mk0 hqr
        have HLS:Aside0 (bs.length ≤ i):=HBL
        have HLET:Aside0 (∀ W:World,_):=⟨fun W=>count_Image_1.calls (2) xl.1 xl.2 W hxl⟩
        clear hq hqr HRC hc hii hiz hcap
        go_wp2_with (first
          | (go_at_call 91;(with_reducible refine (a0.1 _).mono ?_);rintro e C ⟨rfl,rfl⟩)
          | (go_at_call 91;(with_reducible refine (a1.1 _).mono ?_);rintro e C ⟨rfl,rfl⟩)
          | (go_at_call 91;(with_reducible refine (a2.1 _).mono ?_);rintro e C ⟨rfl,rfl⟩))
        go_region_held3 (fun _=>True) (trivial) (first|fail|fail)
        clear G F
        go_wp2_with (first
          | ((with_reducible refine gate_dst (N:=13) rfl ?_);refine box_event ?hg (N:=13) ?hd (cs:=#[.slice none 0 0,.bool false]) (t:=102) ?hr ?_;(case hd=>rfl);(case hg=>rfl);(case hr=>first|(go_simp;done)|(go_simp;rfl));intro gx hgx wx B hb;have HX:=mk0 B;have HGX:Aside0 (C.heap.size ≤ gx):=⟨by rw [hgx];first|exact Nat.le_refl _|simp⟩;have HBX:Aside0 (Below C.heap.size C wx):=⟨below_step (by ((repeat (first|exact Below.refl _ _|apply Below.drew));done)) hb⟩;have c8:wx.cell? ⟨gx,0,none⟩=some (.slice none 0 0):=(blk_cell B 0).trans rfl;have c3:wx.cell? ⟨gx,1,none⟩=some (.bool false):=(blk_cell B 1).trans rfl;have b8:wx.frozen? ⟨gx,0,none⟩=false:=blk_frozen B 0;have b9:wx.frozen? ⟨gx,1,none⟩=false:=blk_frozen B 1;have c0:wx.cell? ⟨gb,0,none⟩=some (.func (.func 64) #[] #[]):=(HBX.1.cell (World.block_lt_of_cell? C _ a7)).trans a7;clear hb B hgx)
          | (go_at_call 64;(with_reducible refine (HLET.1 _).mono ?_);rintro e wl ⟨vl,rfl,hVl,E⟩;obtain ⟨Al,cl,rfl,_,_⟩:=id hVl;have c9:wl.cell? ⟨gx,0,none⟩=some (.slice none 0 0):=(blk_cell (blk_below HX.1 E) 0).trans rfl;have d0:wl.cell? ⟨gx,1,none⟩=some (.bool false):=(blk_cell (blk_below HX.1 E) 1).trans rfl;have c1:wl.frozen? ⟨gx,0,none⟩=false:=blk_frozen (blk_below HX.1 E) 0;have c2:wl.frozen? ⟨gx,1,none⟩=false:=blk_frozen (blk_below HX.1 E) 1;have HBWL:Aside0 (Below C.heap.size C wl):=⟨below_step HBX.1 E⟩;have HVL:Aside0 (Kd.V k60 60 wl C.heap.size (fun k=>wx.heap.size ≤ k) (.slice Al xl.1.length cl) xl.1):=⟨hVl⟩;have HOKL:Aside0 (∀ k,wx.heap.size ≤ k → (M.heap.size ≤ k∧k < C.heap.size∧some k ≠ (Value.slice A bs.length cc).ownBlock) ∨ gx < k):=⟨fun k hk=>.inr (by have:=blk_lt HX.1;omega)⟩;clear hVl E)
          | ((with_reducible refine gate_dst (N:=98) rfl ?_);refine stopx_ ?_))
        delta StopX
        have D:Aside0 (Below C.heap.size C ((wl.setCell ⟨gx,0,none⟩ (.slice Al xl.1.length cl)).setCell ⟨gx,1,none⟩ (.bool xl.2))):=⟨below_set (below_set HBWL.1 HGX.1) HGX.1⟩
        have HOL:Aside0 (kimg.R 102 ((wl.setCell ⟨gx,0,none⟩ (.slice Al xl.1.length cl)).setCell ⟨gx,1,none⟩ (.bool xl.2)) w.heap.size (fun k=>M.heap.size ≤ k) (.slice A bs.length cc) bs):=⟨Kd.R_below HO.1 D.1⟩
        have HPL:Aside0 (RepsI M.heap.size ((wl.setCell ⟨gx,0,none⟩ (.slice Al xl.1.length cl)).setCell ⟨gx,1,none⟩ (.bool xl.2)) (Value.slice A bs.length cc).ownBlock bs st):=⟨RepsI.below HRP.1 D.1⟩
        have HRL:Aside0 (RepI M.heap.size ((wl.setCell ⟨gx,0,none⟩ (.slice Al xl.1.length cl)).setCell ⟨gx,1,none⟩ (.bool xl.2)) (Value.slice A bs.length cc).ownBlock [.slice Al xl.1.length cl,.bool xl.2] xl):=⟨img_new (wr:=C) (gx:=gx) HVL.1 HOKL.1 HGX.1 HLW.1 HOWN.1 (fun k hk _=>set2_heap _ _ _ hk _ _) (Nat.le_of_eq (set2_size _ _ _ _).symm)⟩
        have HKL:=mk0 (And.intro (blk_below HBK.1.1 D.1) (And.intro (blk_below HBK.1.2.1 D.1) (blk_below HBK.1.2.2 D.1)))
        have I:=mk0 (below_step HB.1 D.1)
        go_wp2_with (first
          | ((with_reducible refine gate_builtin (b:=.append) (xs:=#[.tmp 97,.tmp 99]) rfl ?_);at_builtin;refine Kd.R_append kimg (w0:=w) w.heap.size rfl (.tmp 97) (.tmp 99) 129 102 (.agg #[.slice none 0 0,.bool false]) 32 rfl Try.underlying129 info102m rfl (by decide) (by omega) (.slice A bs.length cc) bs [.slice Al xl.1.length cl,.bool xl.2] [.slice Al xl.1.length cl,.bool xl.2] (fun k=>M.heap.size ≤ k) (fun _=>False) rfl (by rw [set2_size];rfl) ⟨rfl,rfl,fun u hu=>by (simp at hu;rcases hu with rfl|rfl <;> rfl)⟩ (fun _ h=>h.elim) (fun k hk=>by have:=HLW.1;have:=HBWL.1.size;simp [World.setCell] at hk;omega) HOL.1 I.1 (below_size I.1) (by have:=HLS.1;have:=HSZ.1;have:=HI.1;omega) ?_;intro v1 d1 a4 a6 O Q;have HALL:=mk0 (img_push HOL.1 HPL.1 HRL.1 I.1 HKL.1 HLO.1 a4 O Q);have U:=mk0 O.size;clear a4 a6 O Q))
        rcases HQR.1 with ⟨h,_⟩|⟨st',J,h2⟩
        · cases h
        obtain rfl:=Option.some.inj J
        have Z:=mk0 h2
        clear J h2
        go_roundw
        case rel=>exact ⟨i + 1,bs ++ [[.slice Al xl.1.length cl,.bool xl.2]],st ++ [xl],congrArg _ HW.1,⟨HLT.1⟩,⟨HALL.1.1⟩,⟨HALL.1.2.1⟩,⟨by rw [List.length_append];have:=HBL.1;simp;omega⟩,Z,⟨HALL.1.2.2.1⟩,⟨HALL.1.2.2.2⟩,⟨by have:=U.1;rw [set2_size] at this;have:=HBWL.1.size;have:=HLW.1;omega⟩⟩
        case measure=>rw [HW.1];simp only [intOf];have:=HLT.1;omega
      · have hci:(code[i]'hlt).toNat=101:=by rw [← hc];rfl
        have a0:=mk0 (fun W=>IndexByte_one 42 101 101 101 (by decide) (by decide) (-1) (by decide) W)
        have a1:=mk0 (fun W=>IndexByte_one 46 101 101 101 (by decide) (by decide) (-1) (by decide) W)
        have a2:=mk0 (fun W=>IndexByte_one 43 101 101 101 (by decide) (by decide) (-1) (by decide) W)
        have G:=cut_to (P:=Try.prog) 129 102 .i64 Try.underlying129 hii A bs.length cc (bs.length:Int) (by omega) (by omega) hcap
        have F:=cut_from (P:=Try.prog) 129 102 .i64 Try.underlying129 hii 2 hiz.2.1 A bs.length cc (bs.length:Int) (by omega) (by omega)
        simp only [Int.toNat_natCast] at G F
        generalize Value.slice (if cc=bs.length then A else A.map (·.add (bs.length * 2))) (bs.length - bs.length) (cc - bs.length)=vt at F
        have hwn:wrap64 ((bs.length:Int) - 0)=(bs.length:Int):=by have:=HSZ.1;have:=HBL.1;unfold wrap64;omega
        have d2:wrap64 (bs.length:Int)=(bs.length:Int):=by have:=HSZ.1;have:=HBL.1;unfold wrap64;omega
        have d3:IntKind.i64.wrap ((bs.length:Int) - 0)=(bs.length:Int):=by have:=HSZ.1;have:=HBL.1;simp only [IntKind.wrap];simp [IntKind.signed,IntKind.bits];omega
        have d4:IntKind.i64.wrap (bs.length:Int)=(bs.length:Int):=by have:=HSZ.1;have:=HBL.1;simp only [IntKind.wrap];simp [IntKind.signed,IntKind.bits];omega
        have c4:((0:Int) ≤ (bs.length:Int))=True:=eq_true (by omega)
        obtain ⟨q,hq,hqr⟩:=HRC.1
        rw [Mach.step_letter _ _ _ _ (i:=-1) (by decide)] at hq
        obtain ⟨xl,hxl,rfl⟩:=Option.map_eq_some_iff.mp hq
        have HQR:=mk0 hqr
        have HLS:Aside0 (bs.length ≤ i):=HBL
        have HLET:Aside0 (∀ W:World,_):=⟨fun W=>count_Image_1.calls (-1) xl.1 xl.2 W hxl⟩
        clear hq hqr HRC hc hii hiz hcap
        go_wp2_with (first
          | (go_at_call 91;(with_reducible refine (a0.1 _).mono ?_);rintro e C ⟨rfl,rfl⟩)
          | (go_at_call 91;(with_reducible refine (a1.1 _).mono ?_);rintro e C ⟨rfl,rfl⟩)
          | (go_at_call 91;(with_reducible refine (a2.1 _).mono ?_);rintro e C ⟨rfl,rfl⟩))
        go_region_held3 (fun _=>True) (trivial) (first|fail|fail)
        clear G F
        go_wp2_with (first
          | ((with_reducible refine gate_dst (N:=13) rfl ?_);refine box_event ?hg (N:=13) ?hd (cs:=#[.slice none 0 0,.bool false]) (t:=102) ?hr ?_;(case hd=>rfl);(case hg=>rfl);(case hr=>first|(go_simp;done)|(go_simp;rfl));intro gx hgx wx B hb;have HX:=mk0 B;have HGX:Aside0 (C.heap.size ≤ gx):=⟨by rw [hgx];first|exact Nat.le_refl _|simp⟩;have HBX:Aside0 (Below C.heap.size C wx):=⟨below_step (by ((repeat (first|exact Below.refl _ _|apply Below.drew));done)) hb⟩;have c8:wx.cell? ⟨gx,0,none⟩=some (.slice none 0 0):=(blk_cell B 0).trans rfl;have c3:wx.cell? ⟨gx,1,none⟩=some (.bool false):=(blk_cell B 1).trans rfl;have b8:wx.frozen? ⟨gx,0,none⟩=false:=blk_frozen B 0;have b9:wx.frozen? ⟨gx,1,none⟩=false:=blk_frozen B 1;have c0:wx.cell? ⟨gb,0,none⟩=some (.func (.func 64) #[] #[]):=(HBX.1.cell (World.block_lt_of_cell? C _ a7)).trans a7;clear hb B hgx)
          | (go_at_call 64;(with_reducible refine (HLET.1 _).mono ?_);rintro e wl ⟨vl,rfl,hVl,E⟩;obtain ⟨Al,cl,rfl,_,_⟩:=id hVl;have c9:wl.cell? ⟨gx,0,none⟩=some (.slice none 0 0):=(blk_cell (blk_below HX.1 E) 0).trans rfl;have d0:wl.cell? ⟨gx,1,none⟩=some (.bool false):=(blk_cell (blk_below HX.1 E) 1).trans rfl;have c1:wl.frozen? ⟨gx,0,none⟩=false:=blk_frozen (blk_below HX.1 E) 0;have c2:wl.frozen? ⟨gx,1,none⟩=false:=blk_frozen (blk_below HX.1 E) 1;have HBWL:Aside0 (Below C.heap.size C wl):=⟨below_step HBX.1 E⟩;have HVL:Aside0 (Kd.V k60 60 wl C.heap.size (fun k=>wx.heap.size ≤ k) (.slice Al xl.1.length cl) xl.1):=⟨hVl⟩;have HOKL:Aside0 (∀ k,wx.heap.size ≤ k → (M.heap.size ≤ k∧k < C.heap.size∧some k ≠ (Value.slice A bs.length cc).ownBlock) ∨ gx < k):=⟨fun k hk=>.inr (by have:=blk_lt HX.1;omega)⟩;clear hVl E)
          | ((with_reducible refine gate_dst (N:=98) rfl ?_);refine stopx_ ?_))
        delta StopX
        have D:Aside0 (Below C.heap.size C ((wl.setCell ⟨gx,0,none⟩ (.slice Al xl.1.length cl)).setCell ⟨gx,1,none⟩ (.bool xl.2))):=⟨below_set (below_set HBWL.1 HGX.1) HGX.1⟩
        have HOL:Aside0 (kimg.R 102 ((wl.setCell ⟨gx,0,none⟩ (.slice Al xl.1.length cl)).setCell ⟨gx,1,none⟩ (.bool xl.2)) w.heap.size (fun k=>M.heap.size ≤ k) (.slice A bs.length cc) bs):=⟨Kd.R_below HO.1 D.1⟩
        have HPL:Aside0 (RepsI M.heap.size ((wl.setCell ⟨gx,0,none⟩ (.slice Al xl.1.length cl)).setCell ⟨gx,1,none⟩ (.bool xl.2)) (Value.slice A bs.length cc).ownBlock bs st):=⟨RepsI.below HRP.1 D.1⟩
        have HRL:Aside0 (RepI M.heap.size ((wl.setCell ⟨gx,0,none⟩ (.slice Al xl.1.length cl)).setCell ⟨gx,1,none⟩ (.bool xl.2)) (Value.slice A bs.length cc).ownBlock [.slice Al xl.1.length cl,.bool xl.2] xl):=⟨img_new (wr:=C) (gx:=gx) HVL.1 HOKL.1 HGX.1 HLW.1 HOWN.1 (fun k hk _=>set2_heap _ _ _ hk _ _) (Nat.le_of_eq (set2_size _ _ _ _).symm)⟩
        have HKL:=mk0 (And.intro (blk_below HBK.1.1 D.1) (And.intro (blk_below HBK.1.2.1 D.1) (blk_below HBK.1.2.2 D.1)))
        have I:=mk0 (below_step HB.1 D.1)
        go_wp2_with (first
          | ((with_reducible refine gate_builtin (b:=.append) (xs:=#[.tmp 97,.tmp 99]) rfl ?_);at_builtin;refine Kd.R_append kimg (w0:=w) w.heap.size rfl (.tmp 97) (.tmp 99) 129 102 (.agg #[.slice none 0 0,.bool false]) 32 rfl Try.underlying129 info102m rfl (by decide) (by omega) (.slice A bs.length cc) bs [.slice Al xl.1.length cl,.bool xl.2] [.slice Al xl.1.length cl,.bool xl.2] (fun k=>M.heap.size ≤ k) (fun _=>False) rfl (by rw [set2_size];rfl) ⟨rfl,rfl,fun u hu=>by (simp at hu;rcases hu with rfl|rfl <;> rfl)⟩ (fun _ h=>h.elim) (fun k hk=>by have:=HLW.1;have:=HBWL.1.size;simp [World.setCell] at hk;omega) HOL.1 I.1 (below_size I.1) (by have:=HLS.1;have:=HSZ.1;have:=HI.1;omega) ?_;intro v1 d1 a4 a6 O Q;have HALL:=mk0 (img_push HOL.1 HPL.1 HRL.1 I.1 HKL.1 HLO.1 a4 O Q);have U:=mk0 O.size;clear a4 a6 O Q))
        rcases HQR.1 with ⟨h,_⟩|⟨st',J,h2⟩
        · cases h
        obtain rfl:=Option.some.inj J
        have Z:=mk0 h2
        clear J h2
        go_roundw
        case rel=>exact ⟨i + 1,bs ++ [[.slice Al xl.1.length cl,.bool xl.2]],st ++ [xl],congrArg _ HW.1,⟨HLT.1⟩,⟨HALL.1.1⟩,⟨HALL.1.2.1⟩,⟨by rw [List.length_append];have:=HBL.1;simp;omega⟩,Z,⟨HALL.1.2.2.1⟩,⟨HALL.1.2.2.2⟩,⟨by have:=U.1;rw [set2_size] at this;have:=HBWL.1.size;have:=HLW.1;omega⟩⟩
        case measure=>rw [HW.1];simp only [intOf];have:=HLT.1;omega
      · by_cases hen:2 ≤ st.length
        · have hci:(code[i]'hlt).toNat=46:=by rw [← hc];rfl
          have a0:=mk0 (fun W=>IndexByte_one 42 46 46 46 (by decide) (by decide) (-1) (by decide) W)
          have a1:=mk0 (fun W=>IndexByte_one 46 46 46 46 (by decide) (by decide) 0 (by decide) W)
          have a2:=mk0 (fun W=>IndexByte_one 43 46 46 46 (by decide) (by decide) (-1) (by decide) W)
          obtain ⟨s,a,b,hbs⟩:=Mach.last_two (st:=bs) (by have:=HRP.1.1;omega)
          obtain ⟨t,X,Y,hstt⟩:=Mach.last_two hen
          have hjn:bs.length=s.length + 2:=by rw [hbs];simp
          have hjt:s.length=t.length:=by have J:=HRP.1.1;rw [hbs,hstt] at J;simp at J;exact J
          obtain ⟨Aa,ca,oka,rfl,hla,hFa,hoka⟩:=HRP.1.2 s.length a X (by rw [hbs];simp) (by rw [hstt,hjt];simp)
          obtain ⟨Ab,cb,okb,rfl,hlb,hFb,hokb⟩:=HRP.1.2 (s.length + 1) b Y (by rw [hbs];simp) (by rw [hstt,hjt];simp)
          have HPT:=mk0 (RepsI.take (bs:=s) (cs:=[[.slice Aa X.1.length ca,.bool X.2],[.slice Ab Y.1.length cb,.bool Y.2]]) (st:=t) (tt:=[X,Y]) (by rw [← hbs,← hstt];exact HRP.1) hjt)
          have HTK:=mk0 (show bs.take s.length=s from by rw [hbs];simp)
          have hpos:0 < bs.length:=by omega
          obtain ⟨g,cap,ef,_,_,_⟩:=Kd.R_form HO.1 hpos
          injection ef with e1 e2 e3
          subst e1
          obtain ⟨e8,b3,a3,a8⟩:=Kd.R_get HO.1 [] (s.length:Int) (by omega) (by omega)
          simp only [Int.toNat_natCast] at a3 a8
          obtain ⟨a3,_,_⟩:=a3
          rw [show bs.getD s.length []=[.slice Aa X.1.length ca,.bool X.2] from by rw [hbs];simp] at a3
          subst a3
          have b0:(⟨g,0,none⟩:Addr).add (s.length * 2 + 0)=⟨g,s.length * 2,none⟩:=by simp only [Addr.add,Nat.zero_add,Nat.add_zero];split <;> simp_all
          have b1:(⟨g,0,none⟩:Addr).add (s.length * 2 + 1)=⟨g,s.length * 2 + 1,none⟩:=by simp only [Addr.add,Nat.zero_add];split <;> simp_all
          have b4:wr.cell? ⟨g,s.length * 2,none⟩=some (.slice Aa X.1.length ca):=by rw [← b0];exact a8 0 _ rfl
          have b5:wr.cell? ⟨g,s.length * 2 + 1,none⟩=some (.bool X.2):=by rw [← b1];exact a8 1 _ rfl
          obtain ⟨h9,f4,b2,b6⟩:=Kd.R_get HO.1 [] ((s.length + 1:Nat):Int) (by omega) (by omega)
          simp only [Int.toNat_natCast] at b2 b6
          obtain ⟨b2,_,_⟩:=b2
          rw [show bs.getD (s.length + 1) []=[.slice Ab Y.1.length cb,.bool Y.2] from by rw [hbs];simp] at b2
          subst b2
          have c5:(⟨g,0,none⟩:Addr).add ((s.length + 1) * 2 + 0)=⟨g,s.length * 2 + 2,none⟩:=by simp only [Addr.add,Nat.zero_add,Nat.add_zero,Nat.succ_mul];split <;> simp_all
          have c6:(⟨g,0,none⟩:Addr).add ((s.length + 1) * 2 + 1)=⟨g,s.length * 2 + 2 + 1,none⟩:=by simp only [Addr.add,Nat.zero_add,Nat.succ_mul];split <;> simp_all
          have d8:wr.cell? ⟨g,s.length * 2 + 2,none⟩=some (.slice Ab Y.1.length cb):=by rw [← c5];exact b6 0 _ rfl
          have d9:wr.cell? ⟨g,s.length * 2 + 2 + 1,none⟩=some (.bool Y.2):=by rw [← c6];exact b6 1 _ rfl
          have G:=cut_to (P:=Try.prog) 129 102 .i64 Try.underlying129 hii (some ⟨g,0,none⟩) bs.length cc (s.length:Int) (by omega) (by omega) hcap
          have F:=cut_from (P:=Try.prog) 129 102 .i64 Try.underlying129 hii 2 hiz.2.1 (some ⟨g,0,none⟩) bs.length cc (s.length:Int) (by omega) (by omega)
          have hadd:(⟨g,0,none⟩:Addr).add (s.length * 2)=⟨g,s.length * 2,none⟩:=by simp only [Addr.add,Nat.zero_add];split <;> simp_all
          have hsub:bs.length - s.length=2:=by omega
          have hnc:¬ cc=s.length:=by omega
          simp only [Int.toNat_natCast,if_neg hnc,Option.map_some,hadd,hsub] at G F
          have hwn:wrap64 ((bs.length:Int) - 2)=(s.length:Int):=by have:=HSZ.1;have:=HBL.1;unfold wrap64;omega
          have hwk:IntKind.i64.wrap ((bs.length:Int) - 2)=(s.length:Int):=by have:=HSZ.1;have:=HBL.1;simp only [IntKind.wrap];simp [IntKind.signed,IntKind.bits];omega
          have hdn:decide ((bs.length:Int) < 2)=false:=decide_eq_false (by omega)
          have c7:decide (bs.length < 2)=false:=decide_eq_false (by omega)
          have c4:((0:Int) ≤ (s.length:Int))=True:=eq_true (by omega)
          have g8:((s.length:Int) ≤ (bs.length:Int))=True:=eq_true (by omega)
          have HSOF:Aside0 (∀ w',Below wr.heap.size wr w' → w'.cell? ⟨gb,1,none⟩=some (.func (.func 65) #[] #[])∧w'.cell? ⟨g,s.length * 2,none⟩=some (.slice Aa X.1.length ca)∧w'.cell? ⟨g,s.length * 2 + 1,none⟩=some (.bool X.2)∧w'.cell? ⟨g,s.length * 2 + 2,none⟩=some (.slice Ab Y.1.length cb)∧w'.cell? ⟨g,s.length * 2 + 2 + 1,none⟩=some (.bool Y.2)):=⟨fun w' hb=>⟨(hb.cell (World.block_lt_of_cell? wr _ a6)).trans a6,(hb.cell (World.block_lt_of_cell? wr _ b4)).trans b4,(hb.cell (World.block_lt_of_cell? wr _ b5)).trans b5,(hb.cell (World.block_lt_of_cell? wr _ d8)).trans d8,(hb.cell (World.block_lt_of_cell? wr _ d9)).trans d9⟩⟩
          obtain ⟨q,hq,hqr⟩:=HRC.1
          rw [hstt] at hq
          rw [Mach.step_dot] at hq
          obtain ⟨xl,hxl,rfl⟩:=Option.map_eq_some_iff.mp hq
          have HJC:Aside0 (∀ (gx:Nat) (W:World),gx < W.heap.size → Below wr.heap.size wr W → _):=⟨fun gx W hgx hW=>img_call (wr:=wr) (ok':=fun k=>gx < k) (count_Image_2.calls k Aa ca X.1 X.2 Ab cb Y.1 Y.2 xl.1 xl.2 W (Kd.F_now (Kd.F_below hFa hW)) hla (Kd.F_now (Kd.F_below hFb hW)) hlb hxl) (fun k hk=>Nat.lt_of_lt_of_le hgx hk)⟩
          have HQR:=mk0 hqr
          have HLS:Aside0 (s.length ≤ i):=⟨by have:=HBL.1;omega⟩
          have HTT:=mk0 hjt
          have HJN:=mk0 hjn
          have HOA:=mk0 hoka
          have HOB:=mk0 hokb
          clear hq hqr HRC hc hii hiz hcap hbs hstt hjn hjt hFa hla hoka hFb hlb hokb c5 c6 f4 b6 hadd b0 b1 hsub hnc hpos e2 e3 b3 a8 hxl
          go_wp2_with (first
          | (go_at_call 91;(with_reducible refine (a0.1 _).mono ?_);rintro e C ⟨rfl,rfl⟩)
          | (go_at_call 91;(with_reducible refine (a1.1 _).mono ?_);rintro e C ⟨rfl,rfl⟩)
          | (go_at_call 91;(with_reducible refine (a2.1 _).mono ?_);rintro e C ⟨rfl,rfl⟩))
          go_region_held3 (fun _=>True) (trivial) (first|fail|fail)
          clear G F
          go_wp2_with (first
            | ((with_reducible refine gate_dst (N:=13) rfl ?_);refine box_event ?hg (N:=13) ?hd (cs:=#[.slice none 0 0,.bool false]) (t:=102) ?hr ?_;(case hd=>rfl);(case hg=>rfl);(case hr=>first|(go_simp;done)|(go_simp;rfl));intro gx hgx wx B hb;have HX:=mk0 B;have HGX:Aside0 (C.heap.size ≤ gx):=⟨by rw [hgx];first|exact Nat.le_refl _|simp⟩;have HBX:Aside0 (Below C.heap.size C wx):=⟨below_step (by ((repeat (first|exact Below.refl _ _|apply Below.drew));done)) hb⟩;have c8:wx.cell? ⟨gx,0,none⟩=some (.slice none 0 0):=(blk_cell B 0).trans rfl;have c3:wx.cell? ⟨gx,1,none⟩=some (.bool false):=(blk_cell B 1).trans rfl;have b8:wx.frozen? ⟨gx,0,none⟩=false:=blk_frozen B 0;have b9:wx.frozen? ⟨gx,1,none⟩=false:=blk_frozen B 1;have c0:wx.cell? ⟨gb,0,none⟩=some (.func (.func 64) #[] #[]):=(HBX.1.cell (World.block_lt_of_cell? C _ a7)).trans a7;clear hb B hgx))
          go_region_held3 (fun w'=>w'.cell? ⟨gb,1,none⟩=some (.func (.func 65) #[] #[])∧w'.cell? ⟨g,s.length * 2,none⟩=some (.slice Aa X.1.length ca)∧w'.cell? ⟨g,s.length * 2 + 1,none⟩=some (.bool X.2)∧w'.cell? ⟨g,s.length * 2 + 2,none⟩=some (.slice Ab Y.1.length cb)∧w'.cell? ⟨g,s.length * 2 + 2 + 1,none⟩=some (.bool Y.2))
            (exact HSOF.1 _ (by ((repeat (first|exact Below.refl _ _|assumption|exact HBWL.1|exact HBX.1|apply Below.drew|apply below_alloc|refine below_set ?_ HGX.1));done)))
            (first
              | (go_at_call 65;(with_reducible refine (HJC.1 gx _ ?hg ?bc).mono ?_);(case hg=>first|exact blk_lt HX.1|(have:=blk_lt HX.1;simpa using this));(case bc=>(repeat (first|exact Below.refl _ _|assumption|exact HBWL.1|exact HBX.1|apply Below.drew|apply below_alloc|refine below_set ?_ HGX.1)));rintro e wl ⟨vl,rfl,hVl,E⟩;obtain ⟨Al,cl,rfl,_,_⟩:=id hVl;have T:Below wx.heap.size wx wl:=(by first|exact E|exact below_step (Below.refl _ _).drew E|exact below_step (Below.drew (Below.drew (Below.refl _ _))) E);have HBWL:Aside0 (Below C.heap.size C wl):=⟨below_step HBX.1 T⟩;have c9:wl.cell? ⟨gx,0,none⟩=some (.slice none 0 0):=(blk_cell (blk_below HX.1 T) 0).trans rfl;have d0:wl.cell? ⟨gx,1,none⟩=some (.bool false):=(blk_cell (blk_below HX.1 T) 1).trans rfl;have c1:wl.frozen? ⟨gx,0,none⟩=false:=blk_frozen (blk_below HX.1 T) 0;have c2:wl.frozen? ⟨gx,1,none⟩=false:=blk_frozen (blk_below HX.1 T) 1;have HVL:=mk0 hVl;clear hVl E T)
              | fail)
          have HOKL:Aside0 (∀ k,gx < k → (M.heap.size ≤ k∧k < C.heap.size∧some k ≠ (Value.slice (some ⟨g,0,none⟩) s.length cc).ownBlock) ∨ gx < k):=⟨fun k hk=>Or.inr hk⟩
          have D:Aside0 (Below C.heap.size C ((wl.setCell ⟨gx,0,none⟩ (.slice Al xl.1.length cl)).setCell ⟨gx,1,none⟩ (.bool xl.2))):=⟨below_set (below_set HBWL.1 HGX.1) HGX.1⟩
          have HOL:Aside0 (kimg.R 102 ((wl.setCell ⟨gx,0,none⟩ (.slice Al xl.1.length cl)).setCell ⟨gx,1,none⟩ (.bool xl.2)) w.heap.size (fun k=>M.heap.size ≤ k) (.slice (some ⟨g,0,none⟩) s.length cc) s):=⟨by have h:=Kd.R_take (m:=s.length) (Kd.R_below HO.1 D.1) (by have:=HJN.1;omega);rw [HTK.1] at h;exact h⟩
          have HPL:Aside0 (RepsI M.heap.size ((wl.setCell ⟨gx,0,none⟩ (.slice Al xl.1.length cl)).setCell ⟨gx,1,none⟩ (.bool xl.2)) (Value.slice (some ⟨g,0,none⟩) s.length cc).ownBlock s t):=⟨RepsI.below HPT.1 D.1⟩
          have HRL:Aside0 (RepI M.heap.size ((wl.setCell ⟨gx,0,none⟩ (.slice Al xl.1.length cl)).setCell ⟨gx,1,none⟩ (.bool xl.2)) (Value.slice (some ⟨g,0,none⟩) s.length cc).ownBlock [.slice Al xl.1.length cl,.bool xl.2] xl):=⟨img_new (wr:=C) (gx:=gx) HVL.1 HOKL.1 HGX.1 HLW.1 HOWN.1 (fun k hk _=>set2_heap _ _ _ hk _ _) (Nat.le_of_eq (set2_size _ _ _ _).symm)⟩
          have HKL:=mk0 (And.intro (blk_below HBK.1.1 D.1) (And.intro (blk_below HBK.1.2.1 D.1) (blk_below HBK.1.2.2 D.1)))
          have I:=mk0 (below_step HB.1 D.1)
          go_wp2_with (first
            | ((with_reducible refine gate_builtin (b:=.append) (xs:=#[.tmp 97,.tmp 99]) rfl ?_);at_builtin;refine Kd.R_append kimg (w0:=w) w.heap.size rfl (.tmp 97) (.tmp 99) 129 102 (.agg #[.slice none 0 0,.bool false]) 32 rfl Try.underlying129 info102m rfl (by decide) (by omega) (.slice (some ⟨g,0,none⟩) s.length cc) s [.slice Al xl.1.length cl,.bool xl.2] [.slice Al xl.1.length cl,.bool xl.2] (fun k=>M.heap.size ≤ k) (fun _=>False) rfl (by rw [set2_size];rfl) ⟨rfl,rfl,fun u hu=>by (simp at hu;rcases hu with rfl|rfl <;> rfl)⟩ (fun _ h=>h.elim) (fun k hk=>by have:=HLW.1;have:=HBWL.1.size;simp [World.setCell] at hk;omega) HOL.1 I.1 (below_size I.1) (by have:=HLS.1;have:=HSZ.1;have:=HI.1;omega) ?_;intro v1 d1 a4 a6 O Q;have HALL:=mk0 (img_push HOL.1 HPL.1 HRL.1 I.1 HKL.1 HLO.1 a4 O Q);have U:=mk0 O.size;clear a4 a6 O Q))
          rcases HQR.1 with ⟨h,_⟩|⟨st',J,h2⟩
          · cases h
          obtain rfl:=Option.some.inj J
          have Z:=mk0 h2
          clear J h2
          go_roundw
          case rel=>exact ⟨i + 1,s ++ [[.slice Al xl.1.length cl,.bool xl.2]],t ++ [xl],congrArg _ HW.1,⟨HLT.1⟩,⟨HALL.1.1⟩,⟨HALL.1.2.1⟩,⟨by rw [List.length_append];have:=HLS.1;simp;omega⟩,Z,⟨HALL.1.2.2.1⟩,⟨HALL.1.2.2.2⟩,⟨by have:=U.1;rw [set2_size] at this;have:=HBWL.1.size;have:=HLW.1;omega⟩⟩
          case measure=>rw [HW.1];simp only [intOf];have:=HLT.1;omega
        · have hci:(code[i]'hlt).toNat=46:=by rw [← hc];rfl
          have a0:=mk0 (fun W=>IndexByte_one 42 46 46 46 (by decide) (by decide) (-1) (by decide) W)
          have a1:=mk0 (fun W=>IndexByte_one 46 46 46 46 (by decide) (by decide) 0 (by decide) W)
          have a2:=mk0 (fun W=>IndexByte_one 43 46 46 46 (by decide) (by decide) (-1) (by decide) W)
          have hdn:decide ((bs.length:Int) < 2)=true:=decide_eq_true (by have:=HRP.1.1;omega)
          have c7:decide (bs.length < 2)=true:=decide_eq_true (by have:=HRP.1.1;omega)
          obtain ⟨q,hq,hqr⟩:=HRC.1
          rw [Mach.step_few _ _ _ _ (.inl ⟨.inl rfl,by omega⟩)] at hq
          obtain rfl:=Option.some.inj hq
          have hr:r=none:=by
            rcases hqr with ⟨_,h⟩|⟨st',J,_⟩
            · exact h
            · cases J
          subst hr
          clear hq hqr HRC hc hii hiz hcap hen
          go_wp2_with (first
          | (go_at_call 91;(with_reducible refine (a0.1 _).mono ?_);rintro e C ⟨rfl,rfl⟩)
          | (go_at_call 91;(with_reducible refine (a1.1 _).mono ?_);rintro e C ⟨rfl,rfl⟩)
          | (go_at_call 91;(with_reducible refine (a2.1 _).mono ?_);rintro e C ⟨rfl,rfl⟩))
          refine bodyPost_ret (results_cell_tmp rfl _ _ g4 102 #[.slice none 0 0,.bool false] (0,0) _ rfl (blk_put (blk_put HBK.1.2.1 0 _ rfl) 1 _ rfl) Try.underlying102 rfl (by kernel_rfl)) rfl ?_
          exact imgPost_none (below_set (below_set HB.1 a5.1) a5.1)
      · by_cases hen:2 ≤ st.length
        · have hci:(code[i]'hlt).toNat=43:=by rw [← hc];rfl
          have a0:=mk0 (fun W=>IndexByte_one 42 43 43 43 (by decide) (by decide) (-1) (by decide) W)
          have a1:=mk0 (fun W=>IndexByte_one 46 43 43 43 (by decide) (by decide) (-1) (by decide) W)
          have a2:=mk0 (fun W=>IndexByte_one 43 43 43 43 (by decide) (by decide) 0 (by decide) W)
          obtain ⟨s,a,b,hbs⟩:=Mach.last_two (st:=bs) (by have:=HRP.1.1;omega)
          obtain ⟨t,X,Y,hstt⟩:=Mach.last_two hen
          have hjn:bs.length=s.length + 2:=by rw [hbs];simp
          have hjt:s.length=t.length:=by have J:=HRP.1.1;rw [hbs,hstt] at J;simp at J;exact J
          obtain ⟨Aa,ca,oka,rfl,hla,hFa,hoka⟩:=HRP.1.2 s.length a X (by rw [hbs];simp) (by rw [hstt,hjt];simp)
          obtain ⟨Ab,cb,okb,rfl,hlb,hFb,hokb⟩:=HRP.1.2 (s.length + 1) b Y (by rw [hbs];simp) (by rw [hstt,hjt];simp)
          have HPT:=mk0 (RepsI.take (bs:=s) (cs:=[[.slice Aa X.1.length ca,.bool X.2],[.slice Ab Y.1.length cb,.bool Y.2]]) (st:=t) (tt:=[X,Y]) (by rw [← hbs,← hstt];exact HRP.1) hjt)
          have HTK:=mk0 (show bs.take s.length=s from by rw [hbs];simp)
          have hpos:0 < bs.length:=by omega
          obtain ⟨g,cap,ef,_,_,_⟩:=Kd.R_form HO.1 hpos
          injection ef with e1 e2 e3
          subst e1
          obtain ⟨e8,b3,a3,a8⟩:=Kd.R_get HO.1 [] (s.length:Int) (by omega) (by omega)
          simp only [Int.toNat_natCast] at a3 a8
          obtain ⟨a3,_,_⟩:=a3
          rw [show bs.getD s.length []=[.slice Aa X.1.length ca,.bool X.2] from by rw [hbs];simp] at a3
          subst a3
          have b0:(⟨g,0,none⟩:Addr).add (s.length * 2 + 0)=⟨g,s.length * 2,none⟩:=by simp only [Addr.add,Nat.zero_add,Nat.add_zero];split <;> simp_all
          have b1:(⟨g,0,none⟩:Addr).add (s.length * 2 + 1)=⟨g,s.length * 2 + 1,none⟩:=by simp only [Addr.add,Nat.zero_add];split <;> simp_all
          have b4:wr.cell? ⟨g,s.length * 2,none⟩=some (.slice Aa X.1.length ca):=by rw [← b0];exact a8 0 _ rfl
          have b5:wr.cell? ⟨g,s.length * 2 + 1,none⟩=some (.bool X.2):=by rw [← b1];exact a8 1 _ rfl
          obtain ⟨h9,f4,b2,b6⟩:=Kd.R_get HO.1 [] ((s.length + 1:Nat):Int) (by omega) (by omega)
          simp only [Int.toNat_natCast] at b2 b6
          obtain ⟨b2,_,_⟩:=b2
          rw [show bs.getD (s.length + 1) []=[.slice Ab Y.1.length cb,.bool Y.2] from by rw [hbs];simp] at b2
          subst b2
          have c5:(⟨g,0,none⟩:Addr).add ((s.length + 1) * 2 + 0)=⟨g,s.length * 2 + 2,none⟩:=by simp only [Addr.add,Nat.zero_add,Nat.add_zero,Nat.succ_mul];split <;> simp_all
          have c6:(⟨g,0,none⟩:Addr).add ((s.length + 1) * 2 + 1)=⟨g,s.length * 2 + 2 + 1,none⟩:=by simp only [Addr.add,Nat.zero_add,Nat.succ_mul];split <;> simp_all
          have d8:wr.cell? ⟨g,s.length * 2 + 2,none⟩=some (.slice Ab Y.1.length cb):=by rw [← c5];exact b6 0 _ rfl
          have d9:wr.cell? ⟨g,s.length * 2 + 2 + 1,none⟩=some (.bool Y.2):=by rw [← c6];exact b6 1 _ rfl
          have G:=cut_to (P:=Try.prog) 129 102 .i64 Try.underlying129 hii (some ⟨g,0,none⟩) bs.length cc (s.length:Int) (by omega) (by omega) hcap
          have F:=cut_from (P:=Try.prog) 129 102 .i64 Try.underlying129 hii 2 hiz.2.1 (some ⟨g,0,none⟩) bs.length cc (s.length:Int) (by omega) (by omega)
          have hadd:(⟨g,0,none⟩:Addr).add (s.length * 2)=⟨g,s.length * 2,none⟩:=by simp only [Addr.add,Nat.zero_add];split <;> simp_all
          have hsub:bs.length - s.length=2:=by omega
          have hnc:¬ cc=s.length:=by omega
          simp only [Int.toNat_natCast,if_neg hnc,Option.map_some,hadd,hsub] at G F
          have hwn:wrap64 ((bs.length:Int) - 2)=(s.length:Int):=by have:=HSZ.1;have:=HBL.1;unfold wrap64;omega
          have hwk:IntKind.i64.wrap ((bs.length:Int) - 2)=(s.length:Int):=by have:=HSZ.1;have:=HBL.1;simp only [IntKind.wrap];simp [IntKind.signed,IntKind.bits];omega
          have hdn:decide ((bs.length:Int) < 2)=false:=decide_eq_false (by omega)
          have c7:decide (bs.length < 2)=false:=decide_eq_false (by omega)
          have c4:((0:Int) ≤ (s.length:Int))=True:=eq_true (by omega)
          have g8:((s.length:Int) ≤ (bs.length:Int))=True:=eq_true (by omega)
          have HSOF:Aside0 (∀ w',Below wr.heap.size wr w' → w'.cell? ⟨gb,2,none⟩=some (.func (.func 68) #[] #[])∧w'.cell? ⟨g,s.length * 2,none⟩=some (.slice Aa X.1.length ca)∧w'.cell? ⟨g,s.length * 2 + 1,none⟩=some (.bool X.2)∧w'.cell? ⟨g,s.length * 2 + 2,none⟩=some (.slice Ab Y.1.length cb)∧w'.cell? ⟨g,s.length * 2 + 2 + 1,none⟩=some (.bool Y.2)):=⟨fun w' hb=>⟨(hb.cell (World.block_lt_of_cell? wr _ g5)).trans g5,(hb.cell (World.block_lt_of_cell? wr _ b4)).trans b4,(hb.cell (World.block_lt_of_cell? wr _ b5)).trans b5,(hb.cell (World.block_lt_of_cell? wr _ d8)).trans d8,(hb.cell (World.block_lt_of_cell? wr _ d9)).trans d9⟩⟩
          obtain ⟨q,hq,hqr⟩:=HRC.1
          rw [hstt] at hq
          rw [Mach.step_plus] at hq
          obtain ⟨xl,hxl,rfl⟩:=Option.map_eq_some_iff.mp hq
          have HJC:Aside0 (∀ (gx:Nat) (W:World),gx < W.heap.size → Below wr.heap.size wr W → _):=⟨fun gx W hgx hW=>img_call (wr:=wr) (ok':=fun k=>(oka k ∨ okb k) ∨ gx < k) (count_Image_3.calls k oka Aa ca X.1 X.2 okb Ab cb Y.1 Y.2 xl.1 xl.2 W (Kd.V_mk hla (Kd.F_below hFa hW)) (Kd.V_mk hlb (Kd.F_below hFb hW)) hxl) (fun k hk=>hk.imp id (fun h=>Nat.lt_of_lt_of_le hgx h))⟩
          have HQR:=mk0 hqr
          have HLS:Aside0 (s.length ≤ i):=⟨by have:=HBL.1;omega⟩
          have HTT:=mk0 hjt
          have HJN:=mk0 hjn
          have HOA:=mk0 hoka
          have HOB:=mk0 hokb
          clear hq hqr HRC hc hii hiz hcap hbs hstt hjn hjt hFa hla hoka hFb hlb hokb c5 c6 f4 b6 hadd b0 b1 hsub hnc hpos e2 e3 b3 a8 hxl
          go_wp2_with (first
          | (go_at_call 91;(with_reducible refine (a0.1 _).mono ?_);rintro e C ⟨rfl,rfl⟩)
          | (go_at_call 91;(with_reducible refine (a1.1 _).mono ?_);rintro e C ⟨rfl,rfl⟩)
          | (go_at_call 91;(with_reducible refine (a2.1 _).mono ?_);rintro e C ⟨rfl,rfl⟩))
          go_region_held3 (fun _=>True) (trivial) (first|fail|fail)
          clear G F
          go_wp2_with (first
            | ((with_reducible refine gate_dst (N:=13) rfl ?_);refine box_event ?hg (N:=13) ?hd (cs:=#[.slice none 0 0,.bool false]) (t:=102) ?hr ?_;(case hd=>rfl);(case hg=>rfl);(case hr=>first|(go_simp;done)|(go_simp;rfl));intro gx hgx wx B hb;have HX:=mk0 B;have HGX:Aside0 (C.heap.size ≤ gx):=⟨by rw [hgx];first|exact Nat.le_refl _|simp⟩;have HBX:Aside0 (Below C.heap.size C wx):=⟨below_step (by ((repeat (first|exact Below.refl _ _|apply Below.drew));done)) hb⟩;have c8:wx.cell? ⟨gx,0,none⟩=some (.slice none 0 0):=(blk_cell B 0).trans rfl;have c3:wx.cell? ⟨gx,1,none⟩=some (.bool false):=(blk_cell B 1).trans rfl;have b8:wx.frozen? ⟨gx,0,none⟩=false:=blk_frozen B 0;have b9:wx.frozen? ⟨gx,1,none⟩=false:=blk_frozen B 1;have c0:wx.cell? ⟨gb,0,none⟩=some (.func (.func 64) #[] #[]):=(HBX.1.cell (World.block_lt_of_cell? C _ a7)).trans a7;clear hb B hgx))
          go_region_held3 (fun w'=>w'.cell? ⟨gb,2,none⟩=some (.func (.func 68) #[] #[])∧w'.cell? ⟨g,s.length * 2,none⟩=some (.slice Aa X.1.length ca)∧w'.cell? ⟨g,s.length * 2 + 1,none⟩=some (.bool X.2)∧w'.cell? ⟨g,s.length * 2 + 2,none⟩=some (.slice Ab Y.1.length cb)∧w'.cell? ⟨g,s.length * 2 + 2 + 1,none⟩=some (.bool Y.2))
            (exact HSOF.1 _ (by ((repeat (first|exact Below.refl _ _|assumption|exact HBWL.1|exact HBX.1|apply Below.drew|apply below_alloc|refine below_set ?_ HGX.1));done)))
            (first
              | (go_at_call 68;(with_reducible refine (HJC.1 gx _ ?hg ?bc).mono ?_);(case hg=>first|exact blk_lt HX.1|(have:=blk_lt HX.1;simpa using this));(case bc=>(repeat (first|exact Below.refl _ _|assumption|exact HBWL.1|exact HBX.1|apply Below.drew|apply below_alloc|refine below_set ?_ HGX.1)));rintro e wl ⟨vl,rfl,hVl,E⟩;obtain ⟨Al,cl,rfl,_,_⟩:=id hVl;have T:Below wx.heap.size wx wl:=(by first|exact E|exact below_step (Below.refl _ _).drew E|exact below_step (Below.drew (Below.drew (Below.refl _ _))) E);have HBWL:Aside0 (Below C.heap.size C wl):=⟨below_step HBX.1 T⟩;have c9:wl.cell? ⟨gx,0,none⟩=some (.slice none 0 0):=(blk_cell (blk_below HX.1 T) 0).trans rfl;have d0:wl.cell? ⟨gx,1,none⟩=some (.bool false):=(blk_cell (blk_below HX.1 T) 1).trans rfl;have c1:wl.frozen? ⟨gx,0,none⟩=false:=blk_frozen (blk_below HX.1 T) 0;have c2:wl.frozen? ⟨gx,1,none⟩=false:=blk_frozen (blk_below HX.1 T) 1;have HVL:=mk0 hVl;clear hVl E T)
              | fail)
          have HOKL:Aside0 (∀ k,(oka k ∨ okb k) ∨ gx < k → (M.heap.size ≤ k∧k < C.heap.size∧some k ≠ (Value.slice (some ⟨g,0,none⟩) s.length cc).ownBlock) ∨ gx < k):=⟨fun k hk=>by
            rcases hk with (h|h)|h
            · exact .inl (HOA.1 k h)
            · exact .inl (HOB.1 k h)
            · exact .inr h⟩
          have D:Aside0 (Below C.heap.size C ((wl.setCell ⟨gx,0,none⟩ (.slice Al xl.1.length cl)).setCell ⟨gx,1,none⟩ (.bool xl.2))):=⟨below_set (below_set HBWL.1 HGX.1) HGX.1⟩
          have HOL:Aside0 (kimg.R 102 ((wl.setCell ⟨gx,0,none⟩ (.slice Al xl.1.length cl)).setCell ⟨gx,1,none⟩ (.bool xl.2)) w.heap.size (fun k=>M.heap.size ≤ k) (.slice (some ⟨g,0,none⟩) s.length cc) s):=⟨by have h:=Kd.R_take (m:=s.length) (Kd.R_below HO.1 D.1) (by have:=HJN.1;omega);rw [HTK.1] at h;exact h⟩
          have HPL:Aside0 (RepsI M.heap.size ((wl.setCell ⟨gx,0,none⟩ (.slice Al xl.1.length cl)).setCell ⟨gx,1,none⟩ (.bool xl.2)) (Value.slice (some ⟨g,0,none⟩) s.length cc).ownBlock s t):=⟨RepsI.below HPT.1 D.1⟩
          have HRL:Aside0 (RepI M.heap.size ((wl.setCell ⟨gx,0,none⟩ (.slice Al xl.1.length cl)).setCell ⟨gx,1,none⟩ (.bool xl.2)) (Value.slice (some ⟨g,0,none⟩) s.length cc).ownBlock [.slice Al xl.1.length cl,.bool xl.2] xl):=⟨img_new (wr:=C) (gx:=gx) HVL.1 HOKL.1 HGX.1 HLW.1 HOWN.1 (fun k hk _=>set2_heap _ _ _ hk _ _) (Nat.le_of_eq (set2_size _ _ _ _).symm)⟩
          have HKL:=mk0 (And.intro (blk_below HBK.1.1 D.1) (And.intro (blk_below HBK.1.2.1 D.1) (blk_below HBK.1.2.2 D.1)))
          have I:=mk0 (below_step HB.1 D.1)
          go_wp2_with (first
            | ((with_reducible refine gate_builtin (b:=.append) (xs:=#[.tmp 97,.tmp 99]) rfl ?_);at_builtin;refine Kd.R_append kimg (w0:=w) w.heap.size rfl (.tmp 97) (.tmp 99) 129 102 (.agg #[.slice none 0 0,.bool false]) 32 rfl Try.underlying129 info102m rfl (by decide) (by omega) (.slice (some ⟨g,0,none⟩) s.length cc) s [.slice Al xl.1.length cl,.bool xl.2] [.slice Al xl.1.length cl,.bool xl.2] (fun k=>M.heap.size ≤ k) (fun _=>False) rfl (by rw [set2_size];rfl) ⟨rfl,rfl,fun u hu=>by (simp at hu;rcases hu with rfl|rfl <;> rfl)⟩ (fun _ h=>h.elim) (fun k hk=>by have:=HLW.1;have:=HBWL.1.size;simp [World.setCell] at hk;omega) HOL.1 I.1 (below_size I.1) (by have:=HLS.1;have:=HSZ.1;have:=HI.1;omega) ?_;intro v1 d1 a4 a6 O Q;have HALL:=mk0 (img_push HOL.1 HPL.1 HRL.1 I.1 HKL.1 HLO.1 a4 O Q);have U:=mk0 O.size;clear a4 a6 O Q))
          rcases HQR.1 with ⟨h,_⟩|⟨st',J,h2⟩
          · cases h
          obtain rfl:=Option.some.inj J
          have Z:=mk0 h2
          clear J h2
          go_roundw
          case rel=>exact ⟨i + 1,s ++ [[.slice Al xl.1.length cl,.bool xl.2]],t ++ [xl],congrArg _ HW.1,⟨HLT.1⟩,⟨HALL.1.1⟩,⟨HALL.1.2.1⟩,⟨by rw [List.length_append];have:=HLS.1;simp;omega⟩,Z,⟨HALL.1.2.2.1⟩,⟨HALL.1.2.2.2⟩,⟨by have:=U.1;rw [set2_size] at this;have:=HBWL.1.size;have:=HLW.1;omega⟩⟩
          case measure=>rw [HW.1];simp only [intOf];have:=HLT.1;omega
        · have hci:(code[i]'hlt).toNat=43:=by rw [← hc];rfl
          have a0:=mk0 (fun W=>IndexByte_one 42 43 43 43 (by decide) (by decide) (-1) (by decide) W)
          have a1:=mk0 (fun W=>IndexByte_one 46 43 43 43 (by decide) (by decide) (-1) (by decide) W)
          have a2:=mk0 (fun W=>IndexByte_one 43 43 43 43 (by decide) (by decide) 0 (by decide) W)
          have hdn:decide ((bs.length:Int) < 2)=true:=decide_eq_true (by have:=HRP.1.1;omega)
          have c7:decide (bs.length < 2)=true:=decide_eq_true (by have:=HRP.1.1;omega)
          obtain ⟨q,hq,hqr⟩:=HRC.1
          rw [Mach.step_few _ _ _ _ (.inl ⟨.inr rfl,by omega⟩)] at hq
          obtain rfl:=Option.some.inj hq
          have hr:r=none:=by
            rcases hqr with ⟨_,h⟩|⟨st',J,_⟩
            · exact h
            · cases J
          subst hr
          clear hq hqr HRC hc hii hiz hcap hen
          go_wp2_with (first
          | (go_at_call 91;(with_reducible refine (a0.1 _).mono ?_);rintro e C ⟨rfl,rfl⟩)
          | (go_at_call 91;(with_reducible refine (a1.1 _).mono ?_);rintro e C ⟨rfl,rfl⟩)
          | (go_at_call 91;(with_reducible refine (a2.1 _).mono ?_);rintro e C ⟨rfl,rfl⟩))
          refine bodyPost_ret (results_cell_tmp rfl _ _ g4 102 #[.slice none 0 0,.bool false] (0,0) _ rfl (blk_put (blk_put HBK.1.2.1 0 _ rfl) 1 _ rfl) Try.underlying102 rfl (by kernel_rfl)) rfl ?_
          exact imgPost_none (below_set (below_set HB.1 a5.1) a5.1)
      · by_cases hen:1 ≤ st.length
        · have hci:(code[i]'hlt).toNat=42:=by rw [← hc];rfl
          have a0:=mk0 (fun W=>IndexByte_one 42 42 42 42 (by decide) (by decide) 0 (by decide) W)
          have a1:=mk0 (fun W=>IndexByte_one 46 42 42 42 (by decide) (by decide) (-1) (by decide) W)
          have a2:=mk0 (fun W=>IndexByte_one 43 42 42 42 (by decide) (by decide) (-1) (by decide) W)
          obtain ⟨s,a,hbs⟩:=Mach.last_one (st:=bs) (by have:=HRP.1.1;omega)
          obtain ⟨t,X,hstt⟩:=Mach.last_one hen
          have hjn:bs.length=s.length + 1:=by rw [hbs];simp
          have hjt:s.length=t.length:=by have J:=HRP.1.1;rw [hbs,hstt] at J;simp at J;exact J
          obtain ⟨Aa,ca,oka,rfl,hla,hFa,hoka⟩:=HRP.1.2 s.length a X (by rw [hbs];simp) (by rw [hstt,hjt];simp)
          have HPT:=mk0 (RepsI.take (bs:=s) (cs:=[[.slice Aa X.1.length ca,.bool X.2]]) (st:=t) (tt:=[X]) (by rw [← hbs,← hstt];exact HRP.1) hjt)
          have HTK:=mk0 (show bs.take s.length=s from by rw [hbs];simp)
          have hpos:0 < bs.length:=by omega
          obtain ⟨g,cap,ef,_,_,_⟩:=Kd.R_form HO.1 hpos
          injection ef with e1 e2 e3
          subst e1
          obtain ⟨e8,b3,a3,a8⟩:=Kd.R_get HO.1 [] (s.length:Int) (by omega) (by omega)
          simp only [Int.toNat_natCast] at a3 a8
          obtain ⟨a3,_,_⟩:=a3
          rw [show bs.getD s.length []=[.slice Aa X.1.length ca,.bool X.2] from by rw [hbs];simp] at a3
          subst a3
          have b0:(⟨g,0,none⟩:Addr).add (s.length * 2 + 0)=⟨g,s.length * 2,none⟩:=by simp only [Addr.add,Nat.zero_add,Nat.add_zero];split <;> simp_all
          have b1:(⟨g,0,none⟩:Addr).add (s.length * 2 + 1)=⟨g,s.length * 2 + 1,none⟩:=by simp only [Addr.add,Nat.zero_add];split <;> simp_all
          have b4:wr.cell? ⟨g,s.length * 2,none⟩=some (.slice Aa X.1.length ca):=by rw [← b0];exact a8 0 _ rfl
          have b5:wr.cell? ⟨g,s.length * 2 + 1,none⟩=some (.bool X.2):=by rw [← b1];exact a8 1 _ rfl
          have G:=cut_to (P:=Try.prog) 129 102 .i64 Try.underlying129 hii (some ⟨g,0,none⟩) bs.length cc (s.length:Int) (by omega) (by omega) hcap
          have F:=cut_from (P:=Try.prog) 129 102 .i64 Try.underlying129 hii 2 hiz.2.1 (some ⟨g,0,none⟩) bs.length cc (s.length:Int) (by omega) (by omega)
          have hadd:(⟨g,0,none⟩:Addr).add (s.length * 2)=⟨g,s.length * 2,none⟩:=by simp only [Addr.add,Nat.zero_add];split <;> simp_all
          have hsub:bs.length - s.length=1:=by omega
          have hnc:¬ cc=s.length:=by omega
          simp only [Int.toNat_natCast,if_neg hnc,Option.map_some,hadd,hsub] at G F
          have hwn:wrap64 ((bs.length:Int) - 1)=(s.length:Int):=by have:=HSZ.1;have:=HBL.1;unfold wrap64;omega
          have hwk:IntKind.i64.wrap ((bs.length:Int) - 1)=(s.length:Int):=by have:=HSZ.1;have:=HBL.1;simp only [IntKind.wrap];simp [IntKind.signed,IntKind.bits];omega
          have hdn:decide ((bs.length:Int) < 1)=false:=decide_eq_false (by omega)
          have c7:decide (bs.length < 1)=false:=decide_eq_false (by omega)
          have c4:((0:Int) ≤ (s.length:Int))=True:=eq_true (by omega)
          have g8:((s.length:Int) ≤ (bs.length:Int))=True:=eq_true (by omega)
          have HSOF:Aside0 (∀ w',Below wr.heap.size wr w' → w'.cell? ⟨gb,3,none⟩=some (.func (.func 70) #[] #[])∧w'.cell? ⟨g,s.length * 2,none⟩=some (.slice Aa X.1.length ca)∧w'.cell? ⟨g,s.length * 2 + 1,none⟩=some (.bool X.2)):=⟨fun w' hb=>⟨(hb.cell (World.block_lt_of_cell? wr _ g6)).trans g6,(hb.cell (World.block_lt_of_cell? wr _ b4)).trans b4,(hb.cell (World.block_lt_of_cell? wr _ b5)).trans b5⟩⟩
          obtain ⟨q,hq,hqr⟩:=HRC.1
          rw [hstt] at hq
          rw [Mach.step_star] at hq
          obtain ⟨xl,hxl,rfl⟩:=Option.map_eq_some_iff.mp hq
          have HJC:Aside0 (∀ (gx:Nat) (W:World),gx < W.heap.size → Below wr.heap.size wr W → _):=⟨fun gx W hgx hW=>img_call (wr:=wr) (ok':=fun k=>oka k ∨ gx < k) (count_Image_4.calls k oka Aa ca X.1 X.2 xl.1 xl.2 W (Kd.V_mk hla (Kd.F_below hFa hW)) hxl) (fun k hk=>hk.imp id (fun h=>Nat.lt_of_lt_of_le hgx h))⟩
          have HQR:=mk0 hqr
          have HLS:Aside0 (s.length ≤ i):=⟨by have:=HBL.1;omega⟩
          have HTT:=mk0 hjt
          have HJN:=mk0 hjn
          have HOA:=mk0 hoka
          clear hq hqr HRC hc hii hiz hcap hbs hstt hjn hjt hFa hla hoka  hadd b0 b1 hsub hnc hpos e2 e3 b3 a8 hxl
          go_wp2_with (first
          | (go_at_call 91;(with_reducible refine (a0.1 _).mono ?_);rintro e C ⟨rfl,rfl⟩)
          | (go_at_call 91;(with_reducible refine (a1.1 _).mono ?_);rintro e C ⟨rfl,rfl⟩)
          | (go_at_call 91;(with_reducible refine (a2.1 _).mono ?_);rintro e C ⟨rfl,rfl⟩))
          go_region_held3 (fun _=>True) (trivial) (first|fail|fail)
          clear G F
          go_wp2_with (first
            | ((with_reducible refine gate_dst (N:=13) rfl ?_);refine box_event ?hg (N:=13) ?hd (cs:=#[.slice none 0 0,.bool false]) (t:=102) ?hr ?_;(case hd=>rfl);(case hg=>rfl);(case hr=>first|(go_simp;done)|(go_simp;rfl));intro gx hgx wx B hb;have HX:=mk0 B;have HGX:Aside0 (C.heap.size ≤ gx):=⟨by rw [hgx];first|exact Nat.le_refl _|simp⟩;have HBX:Aside0 (Below C.heap.size C wx):=⟨below_step (by ((repeat (first|exact Below.refl _ _|apply Below.drew));done)) hb⟩;have c8:wx.cell? ⟨gx,0,none⟩=some (.slice none 0 0):=(blk_cell B 0).trans rfl;have c3:wx.cell? ⟨gx,1,none⟩=some (.bool false):=(blk_cell B 1).trans rfl;have b8:wx.frozen? ⟨gx,0,none⟩=false:=blk_frozen B 0;have b9:wx.frozen? ⟨gx,1,none⟩=false:=blk_frozen B 1;have c0:wx.cell? ⟨gb,0,none⟩=some (.func (.func 64) #[] #[]):=(HBX.1.cell (World.block_lt_of_cell? C _ a7)).trans a7;clear hb B hgx))
          go_region_held3 (fun w'=>w'.cell? ⟨gb,3,none⟩=some (.func (.func 70) #[] #[])∧w'.cell? ⟨g,s.length * 2,none⟩=some (.slice Aa X.1.length ca)∧w'.cell? ⟨g,s.length * 2 + 1,none⟩=some (.bool X.2))
            (exact HSOF.1 _ (by ((repeat (first|exact Below.refl _ _|assumption|exact HBWL.1|exact HBX.1|apply Below.drew|apply below_alloc|refine below_set ?_ HGX.1));done)))
            (first
              | (go_at_call 70;(with_reducible refine (HJC.1 gx _ ?hg ?bc).mono ?_);(case hg=>first|exact blk_lt HX.1|(have:=blk_lt HX.1;simpa using this));(case bc=>(repeat (first|exact Below.refl _ _|assumption|exact HBWL.1|exact HBX.1|apply Below.drew|apply below_alloc|refine below_set ?_ HGX.1)));rintro e wl ⟨vl,rfl,hVl,E⟩;obtain ⟨Al,cl,rfl,_,_⟩:=id hVl;have T:Below wx.heap.size wx wl:=(by first|exact E|exact below_step (Below.refl _ _).drew E|exact below_step (Below.drew (Below.drew (Below.refl _ _))) E);have HBWL:Aside0 (Below C.heap.size C wl):=⟨below_step HBX.1 T⟩;have c9:wl.cell? ⟨gx,0,none⟩=some (.slice none 0 0):=(blk_cell (blk_below HX.1 T) 0).trans rfl;have d0:wl.cell? ⟨gx,1,none⟩=some (.bool false):=(blk_cell (blk_below HX.1 T) 1).trans rfl;have c1:wl.frozen? ⟨gx,0,none⟩=false:=blk_frozen (blk_below HX.1 T) 0;have c2:wl.frozen? ⟨gx,1,none⟩=false:=blk_frozen (blk_below HX.1 T) 1;have HVL:=mk0 hVl;clear hVl E T)
              | fail)
          have HOKL:Aside0 (∀ k,oka k ∨ gx < k → (M.heap.size ≤ k∧k < C.heap.size∧some k ≠ (Value.slice (some ⟨g,0,none⟩) s.length cc).ownBlock) ∨ gx < k):=⟨fun k hk=>by
            rcases hk with h|h
            · exact .inl (HOA.1 k h)
            · exact .inr h⟩
          have D:Aside0 (Below C.heap.size C ((wl.setCell ⟨gx,0,none⟩ (.slice Al xl.1.length cl)).setCell ⟨gx,1,none⟩ (.bool xl.2))):=⟨below_set (below_set HBWL.1 HGX.1) HGX.1⟩
          have HOL:Aside0 (kimg.R 102 ((wl.setCell ⟨gx,0,none⟩ (.slice Al xl.1.length cl)).setCell ⟨gx,1,none⟩ (.bool xl.2)) w.heap.size (fun k=>M.heap.size ≤ k) (.slice (some ⟨g,0,none⟩) s.length cc) s):=⟨by have h:=Kd.R_take (m:=s.length) (Kd.R_below HO.1 D.1) (by have:=HJN.1;omega);rw [HTK.1] at h;exact h⟩
          have HPL:Aside0 (RepsI M.heap.size ((wl.setCell ⟨gx,0,none⟩ (.slice Al xl.1.length cl)).setCell ⟨gx,1,none⟩ (.bool xl.2)) (Value.slice (some ⟨g,0,none⟩) s.length cc).ownBlock s t):=⟨RepsI.below HPT.1 D.1⟩
          have HRL:Aside0 (RepI M.heap.size ((wl.setCell ⟨gx,0,none⟩ (.slice Al xl.1.length cl)).setCell ⟨gx,1,none⟩ (.bool xl.2)) (Value.slice (some ⟨g,0,none⟩) s.length cc).ownBlock [.slice Al xl.1.length cl,.bool xl.2] xl):=⟨img_new (wr:=C) (gx:=gx) HVL.1 HOKL.1 HGX.1 HLW.1 HOWN.1 (fun k hk _=>set2_heap _ _ _ hk _ _) (Nat.le_of_eq (set2_size _ _ _ _).symm)⟩
          have HKL:=mk0 (And.intro (blk_below HBK.1.1 D.1) (And.intro (blk_below HBK.1.2.1 D.1) (blk_below HBK.1.2.2 D.1)))
          have I:=mk0 (below_step HB.1 D.1)
          go_wp2_with (first
            | ((with_reducible refine gate_builtin (b:=.append) (xs:=#[.tmp 97,.tmp 99]) rfl ?_);at_builtin;refine Kd.R_append kimg (w0:=w) w.heap.size rfl (.tmp 97) (.tmp 99) 129 102 (.agg #[.slice none 0 0,.bool false]) 32 rfl Try.underlying129 info102m rfl (by decide) (by omega) (.slice (some ⟨g,0,none⟩) s.length cc) s [.slice Al xl.1.length cl,.bool xl.2] [.slice Al xl.1.length cl,.bool xl.2] (fun k=>M.heap.size ≤ k) (fun _=>False) rfl (by rw [set2_size];rfl) ⟨rfl,rfl,fun u hu=>by (simp at hu;rcases hu with rfl|rfl <;> rfl)⟩ (fun _ h=>h.elim) (fun k hk=>by have:=HLW.1;have:=HBWL.1.size;simp [World.setCell] at hk;omega) HOL.1 I.1 (below_size I.1) (by have:=HLS.1;have:=HSZ.1;have:=HI.1;omega) ?_;intro v1 d1 a4 a6 O Q;have HALL:=mk0 (img_push HOL.1 HPL.1 HRL.1 I.1 HKL.1 HLO.1 a4 O Q);have U:=mk0 O.size;clear a4 a6 O Q))
          rcases HQR.1 with ⟨h,_⟩|⟨st',J,h2⟩
          · cases h
          obtain rfl:=Option.some.inj J
          have Z:=mk0 h2
          clear J h2
          go_roundw
          case rel=>exact ⟨i + 1,s ++ [[.slice Al xl.1.length cl,.bool xl.2]],t ++ [xl],congrArg _ HW.1,⟨HLT.1⟩,⟨HALL.1.1⟩,⟨HALL.1.2.1⟩,⟨by rw [List.length_append];have:=HLS.1;simp;omega⟩,Z,⟨HALL.1.2.2.1⟩,⟨HALL.1.2.2.2⟩,⟨by have:=U.1;rw [set2_size] at this;have:=HBWL.1.size;have:=HLW.1;omega⟩⟩
          case measure=>rw [HW.1];simp only [intOf];have:=HLT.1;omega
        · have hci:(code[i]'hlt).toNat=42:=by rw [← hc];rfl
          have a0:=mk0 (fun W=>IndexByte_one 42 42 42 42 (by decide) (by decide) 0 (by decide) W)
          have a1:=mk0 (fun W=>IndexByte_one 46 42 42 42 (by decide) (by decide) (-1) (by decide) W)
          have a2:=mk0 (fun W=>IndexByte_one 43 42 42 42 (by decide) (by decide) (-1) (by decide) W)
          have hdn:decide ((bs.length:Int) < 1)=true:=decide_eq_true (by have:=HRP.1.1;omega)
          have c7:decide (bs.length < 1)=true:=decide_eq_true (by have:=HRP.1.1;omega)
          obtain ⟨q,hq,hqr⟩:=HRC.1
          rw [Mach.step_few _ _ _ _ (.inr ⟨rfl,by omega⟩)] at hq
          obtain rfl:=Option.some.inj hq
          have hr:r=none:=by
            rcases hqr with ⟨_,h⟩|⟨st',J,_⟩
            · exact h
            · cases J
          subst hr
          clear hq hqr HRC hc hii hiz hcap hen
          go_wp2_with (first
          | (go_at_call 91;(with_reducible refine (a0.1 _).mono ?_);rintro e C ⟨rfl,rfl⟩)
          | (go_at_call 91;(with_reducible refine (a1.1 _).mono ?_);rintro e C ⟨rfl,rfl⟩)
          | (go_at_call 91;(with_reducible refine (a2.1 _).mono ?_);rintro e C ⟨rfl,rfl⟩))
          refine bodyPost_ret (results_cell_tmp rfl _ _ g4 102 #[.slice none 0 0,.bool false] (0,0) _ rfl (blk_put (blk_put HBK.1.2.1 0 _ rfl) 1 _ rfl) Try.underlying102 rfl (by kernel_rfl)) rfl ?_
          exact imgPost_none (below_set (below_set HB.1 a5.1) a5.1)
      · obtain ⟨n1,n2,n3,n4,n5,n6,n7⟩:=hoth
        have hcc:code[i]'hlt=c:=hc.symm
        have hpc:(0:Int) ≤ ((c.toNat:Nat):Int):=Int.natCast_nonneg _
        have a0:=mk0 (fun W=>IndexByte_one 42 c c ((c.toNat:Nat):Int) hpc (by simp) (-1) (by rw [if_neg (fun e=>n7 e.symm)]) W)
        have a1:=mk0 (fun W=>IndexByte_one 46 c c ((c.toNat:Nat):Int) hpc (by simp) (-1) (by rw [if_neg (fun e=>n5 e.symm)]) W)
        have a2:=mk0 (fun W=>IndexByte_one 43 c c ((c.toNat:Nat):Int) hpc (by simp) (-1) (by rw [if_neg (fun e=>n6 e.symm)]) W)
        have ne:∀ d:UInt8,c ≠ d → ((c.toNat:Int) == (d.toNat:Int))=false:=fun d h=>beq_eq_false_iff_ne.mpr (fun e=>h (UInt8.toNat_inj.mp (by omega)))
        have e1:((c.toNat:Int) == 97)=false:=ne 97 n1
        have e2:((c.toNat:Int) == 98)=false:=ne 98 n2
        have e3:((c.toNat:Int) == 99)=false:=ne 99 n3
        have e4:((c.toNat:Int) == 101)=false:=ne 101 n4
        have e5:((c.toNat:Int) == 46)=false:=ne 46 n5
        have e6:((c.toNat:Int) == 43)=false:=ne 43 n6
        have e7:((c.toNat:Int) == 42)=false:=ne 42 n7
        obtain ⟨q,hq,hqr⟩:=HRC.1
        rw [Mach.step_other _ _ _ _ ⟨n1,n2,n3,n4,n5,n6,n7⟩] at hq
        obtain rfl:=Option.some.inj hq
        have hr:r=none:=by
          rcases hqr with ⟨_,h⟩|⟨st',J,_⟩
          · exact h
          · cases J
        subst hr
        have G:=cut_to (P:=Try.prog) 129 102 .i64 Try.underlying129 hii A bs.length cc (bs.length:Int) (by omega) (by omega) hcap
        have F:=cut_from (P:=Try.prog) 129 102 .i64 Try.underlying129 hii 2 hiz.2.1 A bs.length cc (bs.length:Int) (by omega) (by omega)
        simp only [Int.toNat_natCast] at G F
        generalize Value.slice (if cc=bs.length then A else A.map (·.add (bs.length * 2))) (bs.length - bs.length) (cc - bs.length)=vt at F
        have hwn:wrap64 ((bs.length:Int) - 0)=(bs.length:Int):=by have:=HSZ.1;have:=HBL.1;unfold wrap64;omega
        have d2:wrap64 (bs.length:Int)=(bs.length:Int):=by have:=HSZ.1;have:=HBL.1;unfold wrap64;omega
        have d3:IntKind.i64.wrap ((bs.length:Int) - 0)=(bs.length:Int):=by have:=HSZ.1;have:=HBL.1;simp only [IntKind.wrap];simp [IntKind.signed,IntKind.bits];omega
        have d4:IntKind.i64.wrap (bs.length:Int)=(bs.length:Int):=by have:=HSZ.1;have:=HBL.1;simp only [IntKind.wrap];simp [IntKind.signed,IntKind.bits];omega
        have c4:((0:Int) ≤ (bs.length:Int))=True:=eq_true (by omega)
        clear hq hqr HRC hc hii hiz hcap ne n1 n2 n3 n4 n5 n6 n7
        go_wp2_with (first
          | (go_at_call 91;(with_reducible refine (a0.1 _).mono ?_);rintro e C ⟨rfl,rfl⟩)
          | (go_at_call 91;(with_reducible refine (a1.1 _).mono ?_);rintro e C ⟨rfl,rfl⟩)
          | (go_at_call 91;(with_reducible refine (a2.1 _).mono ?_);rintro e C ⟨rfl,rfl⟩))
        go_region_held3 (fun _=>True) (trivial) (first|fail|fail)
        clear G F
        go_wp2_with (first
          | ((with_reducible refine gate_dst (N:=13) rfl ?_);refine box_event ?hg (N:=13) ?hd (cs:=#[.slice none 0 0,.bool false]) (t:=102) ?hr ?_;(case hd=>rfl);(case hg=>rfl);(case hr=>first|(go_simp;done)|(go_simp;rfl));intro gx hgx wx B hb;have HBX:Aside0 (Below C.heap.size C wx):=⟨below_step (by ((repeat (first|exact Below.refl _ _|apply Below.drew));done)) hb⟩;have j4:wx.cell? ⟨g4,0,none⟩=some (.slice none 0 0):=(blk_cell (blk_below HBK.1.2.1 HBX.1) 0).trans rfl;have j5:wx.cell? ⟨g4,1,none⟩=some (.bool false):=(blk_cell (blk_below HBK.1.2.1 HBX.1) 1).trans rfl;have i3:wx.frozen? ⟨g4,0,none⟩=false:=blk_frozen (blk_below HBK.1.2.1 HBX.1) 0;have i4:wx.frozen? ⟨g4,1,none⟩=false:=blk_frozen (blk_below HBK.1.2.1 HBX.1) 1;have j6:wx.cell? ⟨g7,0,none⟩=some (.slice none 0 0):=(blk_cell (blk_below HBK.1.2.2 HBX.1) 0).trans rfl;have j7:wx.cell? ⟨g7,1,none⟩=some (.bool false):=(blk_cell (blk_below HBK.1.2.2 HBX.1) 1).trans rfl;clear hb B hgx))
        refine bodyPost_ret (results_cell_tmp rfl _ _ g4 102 #[.slice none 0 0,.bool false] (0,0) _ rfl (blk_put (blk_put (blk_below HBK.1.2.1 HBX.1) 0 _ rfl) 1 _ rfl) Try.underlying102 rfl (by kernel_rfl)) rfl ?_
        exact imgPost_none (below_set (below_set (below_step HB.1 HBX.1) a5.1) a5.1)
    · have hd:decide ((i:Int) < (code.size:Int))=false:=decide_eq_false (by omega)
      have h8:decide (i < code.size)=false:=decide_eq_false hlt
      have hi:i=code.size:=by have:=HI.1;omega
      have f5:runI k [] st=some r:=by
        have h:=HR.1
        rw [hi,show code.data.toList.drop code.size=[] from List.drop_eq_nil_of_le (Nat.le_of_eq HLEN.1.symm)] at h
        exact h
      have b3:r=endI st:=endI_run f5
      obtain ⟨A,cc,rfl⟩:=Kd.R_slice HO.1
      by_cases J:bs.length=1
      · obtain ⟨b,rfl⟩:∃ b,bs=[b]:=List.length_eq_one_iff.mp J
        obtain ⟨L,rfl⟩:∃ L,st=[L]:=List.length_eq_one_iff.mp (by have:=HRP.1.1;simpa using this.symm)
        obtain ⟨Aa,ca,oka,rfl,hla,hFa,hoka⟩:=HRP.1.2 0 b L rfl rfl
        obtain ⟨g,cap,ef,_,_,_⟩:=Kd.R_form HO.1 (by simp)
        injection ef with e1 e2 e3
        subst e1
        obtain ⟨e8,c3,e9,f6⟩:=Kd.R_get HO.1 [] (0:Int) (by omega) (by simp)
        obtain ⟨e9,_,_⟩:=e9
        have hq2':e8=[.slice Aa L.1.length ca,.bool L.2]:=e9
        subst hq2'
        have b4:wr.cell? ⟨g,0,none⟩=some (.slice Aa L.1.length ca):=f6 0 _ rfl
        have b5:wr.cell? ⟨g,1,none⟩=some (.bool L.2):=f6 1 _ rfl
        have HFA:=mk0 hFa
        have HOA:=mk0 hoka
        have HLA:=mk0 hla
        have a3:r=some L:=b3
        subst a3
        clear J f5 b3 hlt hi e2 e3 c3 e9 f6 hFa hoka hla
        go_wp2
        refine bodyPost_ret (results_cell_tmp rfl _ _ g4 102 #[.slice Aa L.1.length ca,.bool L.2] (0,0) _ rfl (blk_put (blk_put HBK.1.2.1 0 _ rfl) 1 _ rfl) Try.underlying102 rfl (by kernel_rfl)) rfl ?_
        refine imgPost_some ?_ (below_set (below_set HB.1 a5.1) a5.1)
        exact (Kd.V_mk HLA.1 (Kd.F_mono (Kd.F_step (F_bound' HFA.1) (fun k hk hlt=>set2_heap _ _ _ (by have:=(HOA.1 k hk.1).1;have:=HLO.1;omega) _ _)) (fun k hk=>by have:=(HOA.1 k hk.1).1;have:=h6.1;omega)))
      · have a3:r=none:=by
          rw [b3]
          exact endI_none (by have:=HRP.1.1;omega)
        subst a3
        have j8:((bs.length:Int) != 1)=true:=bne_iff_ne.mpr (by omega)
        have j9:(bs.length != 1)=true:=bne_iff_ne.mpr J
        clear J f5 b3 hlt hi
        go_wp2
        refine bodyPost_ret (results_cell_tmp rfl _ _ g4 102 #[.slice none 0 0,.bool false] (0,0) _ rfl (blk_put (blk_put HBK.1.2.1 0 _ rfl) 1 _ rfl) Try.underlying102 rfl (by kernel_rfl)) rfl ?_
        exact imgPost_none (below_set (below_set HB.1 a5.1) a5.1)
def count_Image.f (k:Nat) (a0:ByteArray):Option (List S60 × Int):=if 30 < a0.size then some ([],3) else (runI k a0.data.toList []).bind fun r=>match r with|none=>some ([],2)|some x=>if x.2=true then some ([],7) else some (x.1,0)
theorem set4_below {w w1:World} {g:Nat} (hb:Below w.heap.size w w1) (hg:g=w.heap.size) (a b c d:Value):Below w.heap.size w ((((w1.setCell ⟨g,0,none⟩ a).setCell ⟨g,1,none⟩ b).setCell ⟨g,2,none⟩ c).setCell ⟨g,3,none⟩ d) :=
  below_set (below_set (below_set (below_set hb (by omega)) (by omega)) (by omega)) (by omega)
theorem runI_mono (k:Nat) (c:List UInt8) (st:List Img):LeO (runI k c st) (runI (k + 1) c st) :=
  mach_mono (fun _=>LeO.refl _) (fun a b=>count_Image_2.mono _ _ _ _ k) (fun a b=>count_Image_3.mono _ _ _ _ k) (fun a=>count_Image_4.mono _ _ k) c st
theorem count_Image.mono:∀ a0 k,LeO (count_Image.f k a0) (count_Image.f (k + 1) a0):=fun a0 k=>by
  unfold count_Image.f
  exact LeO.ite (LeO.refl _) (LeO.bind (runI_mono k _ _) (fun _=>LeO.refl _))
attribute [local go_sem] stf in
set_option maxHeartbeats 4000000 in
set_option maxRecDepth 100000 in
theorem count_Image.calls (k:Nat) (O:ByteArray) (r1:List S60) (r2:Int) (w:World) (h:count_Image.f k O=some (r1,r2)) :
    Calls Try.prog 29 #[.string O] w fun e w'=>∃ a8:Value,e=.returned (.tuple #[a8,.int .i64 r2])∧Kd.V k60 60 w' w.heap.size (fun k_=>w.heap.size ≤ k_) a8 r1∧Below w.heap.size w w':=by
  unfold count_Image.f at h
  by_cases h30:30 < O.size
  · rw [if_pos h30] at h
    obtain ⟨rfl,rfl⟩:=Prod.mk.inj (Option.some.inj h)
    have hd:decide ((30:Int) < (O.size:Int))=true:=decide_eq_true (by omega)
    have b4:decide (30 < O.size)=true:=decide_eq_true h30
    clear h
    go_enter Try.func29,Try.ntmps29
    go_wp2
    go_ret2
    exact ⟨_,rfl,Kd.V_nil _ _ _ _ _,Below.refl _ _⟩
  rw [if_neg h30] at h
  have hd:decide ((30:Int) < (O.size:Int))=false:=decide_eq_false (by omega)
  have b4:decide (30 < O.size)=false:=decide_eq_false h30
  obtain ⟨q,hq,h⟩:=Option.bind_eq_some_iff.mp h
  have HRUNC:Aside0 (∀ W:World,_):=⟨fun W=>image_run.calls k O q W (by omega) hq⟩
  have b7:=Try.underlying109
  have b8:=Try.underlying102
  clear h30 hq
  cases q with
  | none =>
    obtain ⟨rfl,rfl⟩:=Prod.mk.inj (Option.some.inj h)
    clear h
    go_enter Try.func29,Try.ntmps29
    go_wp2_with (first
      | ((with_reducible refine gate_dst (N:=4) rfl ?_);refine box_event ?hg (N:=4) ?hd (cs:=#[.nilFunc,.nilFunc,.nilFunc,.nilFunc]) (t:=109) ?hr ?_;(case hd=>rfl);(case hg=>rfl);(case hr=>first|(go_simp;done)|(go_simp;rfl));intro gb hgb C B hb;have L:=mk0 (set4_below hb hgb (.func (.func 64) #[] #[]) (.func (.func 65) #[] #[]) (.func (.func 68) #[] #[]) (.func (.func 70) #[] #[]));have T:C.cell? ⟨gb,0,none⟩=some .nilFunc:=(blk_cell B 0).trans rfl;have U:C.cell? ⟨gb,1,none⟩=some .nilFunc:=(blk_cell B 1).trans rfl;have X:C.cell? ⟨gb,2,none⟩=some .nilFunc:=(blk_cell B 2).trans rfl;have Y:C.cell? ⟨gb,3,none⟩=some .nilFunc:=(blk_cell B 3).trans rfl;have Z:C.frozen? ⟨gb,0,none⟩=false:=blk_frozen B 0;have a1:C.frozen? ⟨gb,1,none⟩=false:=blk_frozen B 1;have a2:C.frozen? ⟨gb,2,none⟩=false:=blk_frozen B 2;have a3:C.frozen? ⟨gb,3,none⟩=false:=blk_frozen B 3;clear hb B hgb)
      | (go_at_call 72;(with_reducible refine (HRUNC.1 _).mono ?_);rintro e w8 ⟨v8,f8,rfl,hsome,hnone,I⟩;obtain rfl:=hnone rfl;have D:=mk0 (below_step L.1 I);clear I hsome hnone)
      | ((with_reducible refine gate_dst (N:=5) rfl ?_);refine box_event ?hg (N:=5) ?hd (cs:=#[.slice none 0 0,.bool false]) (t:=102) ?hr ?_;(case hd=>rfl);(case hg=>rfl);(case hr=>first|(go_simp;done)|(go_simp;rfl));intro E J F B hb;have G:=mk0 J;have M:=mk0 hb;have a4:F.cell? ⟨E,0,none⟩=some (.slice none 0 0):=(blk_cell B 0).trans rfl;have a5:F.cell? ⟨E,1,none⟩=some (.bool false):=(blk_cell B 1).trans rfl;have a6:F.frozen? ⟨E,0,none⟩=false:=blk_frozen B 0;have a7:F.frozen? ⟨E,1,none⟩=false:=blk_frozen B 1;clear hb B J))
    go_ret2
    exact ⟨_,rfl,Kd.V_nil _ _ _ _ _,below_set (below_set (below_step D.1 M.1) (by have:=G.1;have:=D.1.size;omega)) (by have:=G.1;have:=D.1.size;omega)⟩
  | some x =>
    obtain ⟨l,f⟩:=x
    cases f with
    | true =>
      obtain ⟨rfl,rfl⟩:=Prod.mk.inj (Option.some.inj h)
      clear h
      go_enter Try.func29,Try.ntmps29
      go_wp2_with (first
        | ((with_reducible refine gate_dst (N:=4) rfl ?_);refine box_event ?hg (N:=4) ?hd (cs:=#[.nilFunc,.nilFunc,.nilFunc,.nilFunc]) (t:=109) ?hr ?_;(case hd=>rfl);(case hg=>rfl);(case hr=>first|(go_simp;done)|(go_simp;rfl));intro gb hgb C B hb;have L:=mk0 (set4_below hb hgb (.func (.func 64) #[] #[]) (.func (.func 65) #[] #[]) (.func (.func 68) #[] #[]) (.func (.func 70) #[] #[]));have T:C.cell? ⟨gb,0,none⟩=some .nilFunc:=(blk_cell B 0).trans rfl;have U:C.cell? ⟨gb,1,none⟩=some .nilFunc:=(blk_cell B 1).trans rfl;have X:C.cell? ⟨gb,2,none⟩=some .nilFunc:=(blk_cell B 2).trans rfl;have Y:C.cell? ⟨gb,3,none⟩=some .nilFunc:=(blk_cell B 3).trans rfl;have Z:C.frozen? ⟨gb,0,none⟩=false:=blk_frozen B 0;have a1:C.frozen? ⟨gb,1,none⟩=false:=blk_frozen B 1;have a2:C.frozen? ⟨gb,2,none⟩=false:=blk_frozen B 2;have a3:C.frozen? ⟨gb,3,none⟩=false:=blk_frozen B 3;clear hb B hgb)
        | (go_at_call 72;(with_reducible refine (HRUNC.1 _).mono ?_);rintro e w8 ⟨v8,f8,rfl,hsome,hnone,I⟩;obtain ⟨rfl,A8,c8,rfl,Q,R⟩:=hsome _ rfl;have a9:=mk0 Q;have b0:=mk0 R;clear Q R;have D:=mk0 (below_step L.1 I);clear I hsome hnone)
        | ((with_reducible refine gate_dst (N:=5) rfl ?_);refine box_event ?hg (N:=5) ?hd (cs:=#[.slice none 0 0,.bool false]) (t:=102) ?hr ?_;(case hd=>rfl);(case hg=>rfl);(case hr=>first|(go_simp;done)|(go_simp;rfl));intro E J F B hb;have G:=mk0 J;have M:=mk0 hb;have a4:F.cell? ⟨E,0,none⟩=some (.slice none 0 0):=(blk_cell B 0).trans rfl;have a5:F.cell? ⟨E,1,none⟩=some (.bool false):=(blk_cell B 1).trans rfl;have a6:F.frozen? ⟨E,0,none⟩=false:=blk_frozen B 0;have a7:F.frozen? ⟨E,1,none⟩=false:=blk_frozen B 1;clear hb B J))
      go_ret2
      exact ⟨_,rfl,Kd.V_nil _ _ _ _ _,below_set (below_set (below_step D.1 M.1) (by have:=G.1;have:=D.1.size;omega)) (by have:=G.1;have:=D.1.size;omega)⟩
    | false =>
      obtain ⟨rfl,rfl⟩:=Prod.mk.inj (Option.some.inj h)
      clear h
      go_enter Try.func29,Try.ntmps29
      go_wp2_with (first
        | ((with_reducible refine gate_dst (N:=4) rfl ?_);refine box_event ?hg (N:=4) ?hd (cs:=#[.nilFunc,.nilFunc,.nilFunc,.nilFunc]) (t:=109) ?hr ?_;(case hd=>rfl);(case hg=>rfl);(case hr=>first|(go_simp;done)|(go_simp;rfl));intro gb hgb C B hb;have L:=mk0 (set4_below hb hgb (.func (.func 64) #[] #[]) (.func (.func 65) #[] #[]) (.func (.func 68) #[] #[]) (.func (.func 70) #[] #[]));have T:C.cell? ⟨gb,0,none⟩=some .nilFunc:=(blk_cell B 0).trans rfl;have U:C.cell? ⟨gb,1,none⟩=some .nilFunc:=(blk_cell B 1).trans rfl;have X:C.cell? ⟨gb,2,none⟩=some .nilFunc:=(blk_cell B 2).trans rfl;have Y:C.cell? ⟨gb,3,none⟩=some .nilFunc:=(blk_cell B 3).trans rfl;have Z:C.frozen? ⟨gb,0,none⟩=false:=blk_frozen B 0;have a1:C.frozen? ⟨gb,1,none⟩=false:=blk_frozen B 1;have a2:C.frozen? ⟨gb,2,none⟩=false:=blk_frozen B 2;have a3:C.frozen? ⟨gb,3,none⟩=false:=blk_frozen B 3;clear hb B hgb)
        | (go_at_call 72;(with_reducible refine (HRUNC.1 _).mono ?_);rintro e w8 ⟨v8,f8,rfl,hsome,hnone,I⟩;obtain ⟨rfl,A8,c8,rfl,Q,R⟩:=hsome _ rfl;have a9:=mk0 Q;have b0:=mk0 R;clear Q R;have D:=mk0 (below_step L.1 I);clear I hsome hnone)
        | ((with_reducible refine gate_dst (N:=5) rfl ?_);refine box_event ?hg (N:=5) ?hd (cs:=#[.slice none 0 0,.bool false]) (t:=102) ?hr ?_;(case hd=>rfl);(case hg=>rfl);(case hr=>first|(go_simp;done)|(go_simp;rfl));intro E J F B hb;have G:=mk0 J;have M:=mk0 hb;have a4:F.cell? ⟨E,0,none⟩=some (.slice none 0 0):=(blk_cell B 0).trans rfl;have a5:F.cell? ⟨E,1,none⟩=some (.bool false):=(blk_cell B 1).trans rfl;have a6:F.frozen? ⟨E,0,none⟩=false:=blk_frozen B 0;have a7:F.frozen? ⟨E,1,none⟩=false:=blk_frozen B 1;clear hb B J))
      go_ret2
      exact ⟨_,rfl,Kd.V_mk a9.1 (Kd.F_mono (ok:=fun k=>w.heap.size ≤ k∧k < w8.heap.size) (Kd.F_step (Kd.F_below (F_bound' (Kd.F_mono b0.1 (fun k hk=>Nat.le_trans L.1.size hk))) M.1) (fun k hk hlt=>set2_heap _ _ _ (by have:=G.1;omega) _ _)) (fun k hk=>hk.1)),below_set (below_set (below_step D.1 M.1) (by have:=G.1;have:=D.1.size;omega)) (by have:=G.1;have:=D.1.size;omega)⟩
mutual
def bellpullref01_Before.l0:Nat → List Int → List Int → Int → Option (Bool)
  | 0,_,_,_=>none
  | k + 1,x0,x1,x5=>if x5 < (x0.length:Int) then (bellpullref01_Before.j1 k x0 x1 x5 (decide (x5 < (x1.length:Int)))) else (bellpullref01_Before.j1 k x0 x1 x5 false)
def bellpullref01_Before.j1:Nat → List Int → List Int → Int → Bool → Option (Bool)
  | 0,_,_,_,_=>none
  | k + 1,x0,x1,x5,x15=>if x15=true then (if 0 ≤ x5 then (if x5 < (x0.length:Int) then (if x5 < (x1.length:Int) then (if (rd x0 x5)=(rd x1 x5) then (bellpullref01_Before.l0 k x0 x1 (wrap64 (x5 + 1))) else (some (decide ((rd x0 x5) < (rd x1 x5))))) else (none)) else (none)) else (none)) else (some (decide ((x0.length:Int) < (x1.length:Int))))
end
def bellpullref01_Before.f (k:Nat) (l0:List Int) (l1:List Int):Option (Bool):=bellpullref01_Before.l0 k l0 l1 0
theorem bellpullref01_Before.mono_l:∀ k,(∀ y0 y1 y2,LeO (bellpullref01_Before.l0 k y0 y1 y2) (bellpullref01_Before.l0 (k + 1) y0 y1 y2))∧(∀ y0 y1 y2 y3,LeO (bellpullref01_Before.j1 k y0 y1 y2 y3) (bellpullref01_Before.j1 (k + 1) y0 y1 y2 y3))
  | 0=>⟨fun _ _ _ r h=>by simp [bellpullref01_Before.l0] at h,fun _ _ _ _ r h=>by simp [bellpullref01_Before.j1] at h⟩
  | k + 1=>by
    obtain ⟨ih0,ih1⟩:=bellpullref01_Before.mono_l k
    refine ⟨?_,?_⟩
    · intro y0 y1 y2
      unfold bellpullref01_Before.l0
      with_reducible repeat' first|exact ih0 _ _ _|exact ih1 _ _ _ _|exact LeO.refl _|exact LeO.none _|refine LeO.ite ?_ ?_|refine LeO.bind ?_ (fun _=>?_)
    · intro y0 y1 y2 y3
      unfold bellpullref01_Before.j1
      with_reducible repeat' first|exact ih0 _ _ _|exact ih1 _ _ _ _|exact LeO.refl _|exact LeO.none _|refine LeO.ite ?_ ?_|refine LeO.bind ?_ (fun _=>?_)
theorem bellpullref01_Before.mono:∀ a0 a1 k,LeO (bellpullref01_Before.f k a0 a1) (bellpullref01_Before.f (k + 1) a0 a1):=by
  intro a0 a1 k
  obtain ⟨ih0,ih1⟩:=bellpullref01_Before.mono_l k
  unfold bellpullref01_Before.f
  with_reducible repeat' first|exact ih0 _ _ _|exact ih1 _ _ _ _|exact LeO.refl _|exact LeO.none _|refine LeO.ite ?_ ?_|refine LeO.bind ?_ (fun _=>?_)
set_option maxHeartbeats 8000000 in
set_option maxRecDepth 100000 in
theorem bellpullref01_Before.calls (k:Nat) (A0:Option Addr) (c0:Nat) (D:List Int) (A1:Option Addr) (c1:Nat) (E:List Int) (r:Bool) (w:World) (a8:Kd.C (Kd.int .i64) w A0 D.length D) (a9:D.length ≤ c0) (b0:Kd.C (Kd.int .i64) w A1 E.length E) (b1:E.length ≤ c1) (h:bellpullref01_Before.f k D E=some r) :
    Calls Try.prog 47 #[.slice A0 D.length c0,.slice A1 E.length c1] w fun e w'=>e=.returned (.bool r)∧Drawn0 w w':=by
 have a0:=mk0 a8;have d0:=mk0 a9;clear a8 a9;have a1:=mk0 b0;have d1:=mk0 b1;clear b0 b1;have H:(bellpullref01_Before.l0 k D E 0)=some r:=h;clear h;have H':=mk0 H;clear H;go_enter Try.func47,Try.ntmps47;go_wp2;repeat (go_quiet (fail);try go_wp2)
 go_loopg [5] k (fun kq v5 w'=>∃ (B:Int),v5=.int .i64 B∧Aside0 (bellpullref01_Before.l0 kq D E B=some r)∧Aside0 (kq ≤ k)∧Drawn0 w w')
 case atStart=>exact ⟨(0),(by first|rfl|(simp;done)|(simp [*];done)),H',⟨Nat.le_refl _⟩,by repeat (first|exact Drawn0.refl _|apply Drawn0.step)⟩
 case round =>
  clear H';try clear c1
  try clear p2
  obtain ⟨B,rfl,HA,U,⟨m1,rfl⟩⟩:=hrel;cases gk with
  | zero=>exact absurd HA.1 (by simp [bellpullref01_Before.l0])
  | succ k1 =>
   have H:=HA.1;clear HA;simp only [bellpullref01_Before.l0] at H;have a2:=mk0 H;clear H;go_upto_region 2 with (fail);repeat (go_quiet (fail);go_upto_region 2 with (fail))
   go_cut [15] (fun c2 wc=>∃ (kq:Nat) (L:Bool),c2=.bool L∧Aside0 (bellpullref01_Before.j1 kq D E B L=some r)∧Aside0 (kq ≤ k1)∧Drawn0 w wc)
   case first =>
    have H:=a2.1;clear a2
    by_cases c4:B < (D.length:Int)
    ·
     rw [if_pos c4] at H;have c4b0:decide (B < (D.length:Int))=true:=decide_eq_true c4;clear c4;(first|rw [c4b0]|(simp only [i64_w,i32_w];rw [c4b0])|skip);have H':=mk0 H;clear H;go_wp2;repeat (go_quiet (fail);try go_wp2)
     go_meet
     case rel=>exact ⟨_,(decide (B < (E.length:Int))),(by first|rfl|(simp;done)|(simp [*];done)),H',⟨by have:=U.1;first|omega|exact Nat.le_refl _⟩,by repeat (first|exact Drawn0.refl _|apply Drawn0.step)⟩
    ·
     rw [if_neg c4] at H;have c4b0:decide (B < (D.length:Int))=false:=decide_eq_false c4;clear c4;(first|rw [c4b0]|(simp only [i64_w,i32_w];rw [c4b0])|skip);have H':=mk0 H;clear H;go_wp2;repeat (go_quiet (fail);try go_wp2)
     go_meet
     case rel=>exact ⟨_,(false),(by first|rfl|(simp;done)|(simp [*];done)),H',⟨by have:=U.1;first|omega|exact Nat.le_refl _⟩,by repeat (first|exact Drawn0.refl _|apply Drawn0.step)⟩
   case rest =>
    clear a2;try clear c1
    try clear p2
    try clear c4
    try clear c4b0
    try clear p2
    obtain ⟨kq,L,rfl,HA,b2,⟨d2,rfl⟩⟩:=hcut;cases kq with
    | zero=>exact absurd HA.1 (by simp [bellpullref01_Before.j1])
    | succ kj2 =>
     have H:=HA.1;clear HA;simp only [bellpullref01_Before.j1] at H
     by_cases c5:L=true
     ·
      subst c5;have H1:(if 0 ≤ B then (if B < (D.length:Int) then (if B < (E.length:Int) then (if (rd D B)=(rd E B) then (bellpullref01_Before.l0 kj2 D E (wrap64 (B + 1))) else (some (decide ((rd D B) < (rd E B))))) else (none)) else (none)) else (none))=some r:=by rw [if_pos rfl] at H;exact H
      clear H;have H:=H1;clear H1
      by_cases c6:0 ≤ B
      ·
       rw [if_pos c6] at H;have c6b0:decide (0 ≤ B)=true:=decide_eq_true c6;clear c6
       by_cases c7:B < (D.length:Int)
       ·
        rw [if_pos c7] at H;have c7b0:decide (B < (D.length:Int))=true:=decide_eq_true c7;clear c7
        by_cases c8:B < (E.length:Int)
        ·
         rw [if_pos c8] at H;have c8b0:decide (B < (E.length:Int))=true:=decide_eq_true c8;clear c8
         by_cases c9:(rd D B)=(rd E B)
         ·
          rw [if_pos c9] at H;have c9b0:((rd D B) == (rd E B))=true:=beq_iff_eq.mpr c9;have c9b1:((rd D B) != (rd E B))=false:=bne_eq_false_iff_eq.mpr c9;clear c9;have H':=mk0 H;clear H;have F:0 ≤ (B:Int):=of_decide_eq_true (by assumption);have G:B < (D.length:Int):=of_decide_eq_true (by assumption);obtain ⟨V,M,Y⟩:=Kd.at_int a0.1 B F G;cases M;replace F:=eq_true F;replace G:=eq_true G;have I:0 ≤ (B:Int):=of_decide_eq_true (by assumption);have J:B < (E.length:Int):=of_decide_eq_true (by assumption);obtain ⟨X,N,Z⟩:=Kd.at_int a1.1 B I J;cases N;replace I:=eq_true I;replace J:=eq_true J;go_wp2;repeat (go_quiet (fail);try go_wp2)
          go_roundg kj2
          case measure=>have:=U.1;have:=b2.1;omega
          case rel=>exact ⟨(wrap64 (B + 1)),(by first|rfl|(simp;done)|(simp [*];done)),H',⟨by have:=U.1;have:=b2.1;omega⟩,by repeat (first|exact Drawn0.refl _|apply Drawn0.step)⟩
         ·
          rw [if_neg c9] at H;have c9b0:((rd D B) == (rd E B))=false:=beq_eq_false_iff_ne.mpr c9;have c9b1:((rd D B) != (rd E B))=true:=bne_iff_ne.mpr c9;obtain rfl:=Option.some.inj H;have F:0 ≤ (B:Int):=of_decide_eq_true (by assumption);have G:B < (D.length:Int):=of_decide_eq_true (by assumption);obtain ⟨V,M,Y⟩:=Kd.at_int a0.1 B F G;cases M;replace F:=eq_true F;replace G:=eq_true G;have I:0 ≤ (B:Int):=of_decide_eq_true (by assumption);have J:B < (E.length:Int):=of_decide_eq_true (by assumption);obtain ⟨X,N,Z⟩:=Kd.at_int a1.1 B I J;cases N;replace I:=eq_true I;replace J:=eq_true J;have O:0 ≤ (B:Int):=of_decide_eq_true (by assumption);have Q:B < (D.length:Int):=of_decide_eq_true (by assumption);obtain ⟨a6,b3,b5⟩:=Kd.at_int a0.1 B O Q;obtain rfl:V=a6:=(by injection b3)
          replace O:=eq_true O;replace Q:=eq_true Q;have R:0 ≤ (B:Int):=of_decide_eq_true (by assumption);have T:B < (E.length:Int):=of_decide_eq_true (by assumption);obtain ⟨a7,b4,b6⟩:=Kd.at_int a1.1 B R T;obtain rfl:X=a7:=(by injection b4)
          replace R:=eq_true R;replace T:=eq_true T;go_wp2;repeat (go_quiet (fail);try go_wp2)
          go_ret;exact ⟨by first|rfl|(simp;done)|(simp [*];done),by repeat (first|exact Drawn0.refl _|apply Drawn0.step)⟩
        ·
         rw [if_neg c8] at H;exact absurd H (by simp)
       ·
        rw [if_neg c7] at H;exact absurd H (by simp)
      ·
       rw [if_neg c6] at H;exact absurd H (by simp)
     ·
      replace c5:=Bool.eq_false_iff.mpr c5;subst c5;have H1:(some (decide ((D.length:Int) < (E.length:Int))))=some r:=by rw [if_neg (show ¬ (false=true) by decide)] at H;exact H
      clear H;have H:=H1;clear H1;obtain rfl:=Option.some.inj H;go_wp2;repeat (go_quiet (fail);try go_wp2)
      go_ret;exact ⟨by first|rfl|(simp;done)|(simp [*];done),by repeat (first|exact Drawn0.refl _|apply Drawn0.step)⟩
def bellpullref01_Same.f (k:Nat) (l0:List Int) (l1:List Int):Option (Bool):=(bellpullref01_Before.f k l0 l1).bind fun t241=>(if t241=true then (some false) else ((bellpullref01_Before.f k l1 l0).bind fun t242=>(some (!t242))))
theorem bellpullref01_Same.mono:∀ a0 a1 k,LeO (bellpullref01_Same.f k a0 a1) (bellpullref01_Same.f (k + 1) a0 a1):=by
  intro a0 a1 k
  unfold bellpullref01_Same.f
  with_reducible repeat' first|exact bellpullref01_Before.mono _ _ _|exact LeO.refl _|exact LeO.none _|refine LeO.ite ?_ ?_|refine LeO.bind ?_ (fun _=>?_)
set_option maxHeartbeats 8000000 in
set_option maxRecDepth 100000 in
theorem bellpullref01_Same.calls (k:Nat) (N:Option Addr) (O:Nat) (B:List Int) (Q:Option Addr) (R:Nat) (D:List Int) (r:Bool) (w:World) (U:Kd.C (Kd.int .i64) w N B.length B) (V:B.length ≤ O) (X:Kd.C (Kd.int .i64) w Q D.length D) (Y:D.length ≤ R) (h:bellpullref01_Same.f k B D=some r) :
    Calls Try.prog 44 #[.slice N B.length O,.slice Q D.length R] w fun e w'=>e=.returned (.bool r)∧Drawn0 w w':=by
 have G:=mk0 U;have I:=mk0 V;clear U V;have J:=mk0 X;have L:=mk0 Y;clear X Y;have H:((bellpullref01_Before.f k B D).bind fun F=>(if F=true then (some false) else ((bellpullref01_Before.f k D B).bind fun E=>(some (!E)))))=some r:=h;clear h;replace H:=Option.bind_eq_some_iff.mp H;obtain ⟨F,Z,H⟩:=H;(try dsimp only at H);have A3:=mk0 Z;clear Z
 by_cases T:F=true
 ·
  subst T;have M:(some false)=some r:=by rw [if_pos rfl] at H;exact H
  clear H;have H:=M;clear M;obtain rfl:=Option.some.inj H;go_enter Try.func44,Try.ntmps44;go_wp2_with (first|((with_reducible refine gate_callee (f:=47) rfl ?_);refine goesL_ (some 7) rfl rfl Try.func47 (by kernel_rfl) rfl #[.slice N B.length O,.slice Q D.length R] rfl (by (try simp only [m0_,m1_,m2_]);first|done|rfl|(simp only [l0_,l1_];rfl)) ?_;(with_reducible refine (bellpullref01_Before.calls k _ _ B _ _ D true _ ?side1 ?side2 ?side3 ?side4 A3.1).mono ?_);(case side1=>repeat (first|exact G.1|(with_reducible refine Kd.C_alloc ?_ _)|(with_reducible refine Kd.C_drewN ?_ _)|(with_reducible refine Kd.C_drew ?_)));(case side2=>exact I.1);(case side3=>repeat (first|exact J.1|(with_reducible refine Kd.C_alloc ?_ _)|(with_reducible refine Kd.C_drewN ?_ _)|(with_reducible refine Kd.C_drew ?_)));(case side4=>exact L.1);rintro e w' ⟨rfl,⟨nd,rfl⟩⟩;refine ⟨_,rfl,?_⟩));go_ret;exact ⟨by first|rfl|(simp;done)|(simp [*];done),by repeat (first|exact Drawn0.refl _|apply Drawn0.step)⟩
 ·
  replace T:=Bool.eq_false_iff.mpr T;subst T;have M:((bellpullref01_Before.f k D B).bind fun E=>(some (!E)))=some r:=by rw [if_neg (show ¬ (false=true) by decide)] at H;exact H
  clear H;have H:=M;clear M;replace H:=Option.bind_eq_some_iff.mp H;obtain ⟨E,a0,H⟩:=H;(try dsimp only at H);have A5:=mk0 a0;clear a0;obtain rfl:=Option.some.inj H;go_enter Try.func44,Try.ntmps44;go_wp2_with (first|((with_reducible refine gate_callee (f:=47) rfl ?_);refine goesL_ (some 7) rfl rfl Try.func47 (by kernel_rfl) rfl #[.slice N B.length O,.slice Q D.length R] rfl (by (try simp only [m0_,m1_,m2_]);first|done|rfl|(simp only [l0_,l1_];rfl)) ?_;(with_reducible refine (bellpullref01_Before.calls k _ _ B _ _ D false _ ?side1 ?side2 ?side3 ?side4 A3.1).mono ?_);(case side1=>repeat (first|exact G.1|(with_reducible refine Kd.C_alloc ?_ _)|(with_reducible refine Kd.C_drewN ?_ _)|(with_reducible refine Kd.C_drew ?_)));(case side2=>exact I.1);(case side3=>repeat (first|exact J.1|(with_reducible refine Kd.C_alloc ?_ _)|(with_reducible refine Kd.C_drewN ?_ _)|(with_reducible refine Kd.C_drew ?_)));(case side4=>exact L.1);rintro e w' ⟨rfl,⟨nd,rfl⟩⟩;refine ⟨_,rfl,?_⟩)|(go_at_call 47;(with_reducible refine (bellpullref01_Before.calls k _ _ D _ _ B E _ ?side1 ?side2 ?side3 ?side4 A5.1).mono ?_);(case side1=>repeat (first|exact J.1|(with_reducible refine Kd.C_alloc ?_ _)|(with_reducible refine Kd.C_drewN ?_ _)|(with_reducible refine Kd.C_drew ?_)));(case side2=>exact L.1);(case side3=>repeat (first|exact G.1|(with_reducible refine Kd.C_alloc ?_ _)|(with_reducible refine Kd.C_drewN ?_ _)|(with_reducible refine Kd.C_drew ?_)));(case side4=>exact I.1);rintro e w' ⟨rfl,⟨nd,rfl⟩⟩));go_ret;exact ⟨by first|rfl|(simp;done)|(simp [*];done),by repeat (first|exact Drawn0.refl _|apply Drawn0.step)⟩
def bellpullref01_SameLists.l0:Nat → List (List Int) → List (List Int) → Int → Option (Bool)
  | 0,_,_,_=>none
  | k + 1,x0,x1,x5=>if x5 < (x0.length:Int) then (if 0 ≤ x5 then (if x5 < (x1.length:Int) then ((bellpullref01_Same.f k (rd_L1 x0 x5) (rd_L1 x1 x5)).bind fun t245=>(if t245=true then (bellpullref01_SameLists.l0 k x0 x1 (wrap64 (x5 + 1))) else (some false))) else (none)) else (none)) else (some true)
def bellpullref01_SameLists.f (k:Nat) (l0:List (List Int)) (l1:List (List Int)):Option (Bool):=if (l0.length:Int)=(l1.length:Int) then (bellpullref01_SameLists.l0 k l0 l1 0) else (some false)
theorem bellpullref01_SameLists.mono_l:∀ k,(∀ y0 y1 y2,LeO (bellpullref01_SameLists.l0 k y0 y1 y2) (bellpullref01_SameLists.l0 (k + 1) y0 y1 y2))
  | 0=>fun _ _ _ r h=>by simp [bellpullref01_SameLists.l0] at h
  | k + 1=>by
    have ih0:=bellpullref01_SameLists.mono_l k
    · intro y0 y1 y2
      unfold bellpullref01_SameLists.l0
      with_reducible repeat' first|exact ih0 _ _ _|exact bellpullref01_Same.mono _ _ _|exact LeO.refl _|exact LeO.none _|refine LeO.ite ?_ ?_|refine LeO.bind ?_ (fun _=>?_)
theorem bellpullref01_SameLists.mono:∀ a0 a1 k,LeO (bellpullref01_SameLists.f k a0 a1) (bellpullref01_SameLists.f (k + 1) a0 a1):=by
  intro a0 a1 k
  have ih0:=bellpullref01_SameLists.mono_l k
  unfold bellpullref01_SameLists.f
  with_reducible repeat' first|exact ih0 _ _ _|exact bellpullref01_Same.mono _ _ _|exact LeO.refl _|exact LeO.none _|refine LeO.ite ?_ ?_|refine LeO.bind ?_ (fun _=>?_)
set_option maxHeartbeats 8000000 in
set_option maxRecDepth 100000 in
theorem bellpullref01_SameLists.calls (k:Nat) (A0:Option Addr) (c0:Nat) (D:List (List Int)) (A1:Option Addr) (c1:Nat) (J:List (List Int)) (r:Bool) (w:World) (a9:Kd.C (Kd.slice 3 (Kd.int .i64)) w A0 D.length D) (b0:D.length ≤ c0) (b1:Kd.C (Kd.slice 3 (Kd.int .i64)) w A1 J.length J) (b2:J.length ≤ c1) (h:bellpullref01_SameLists.f k D J=some r) :
    Calls Try.prog 74 #[.slice A0 D.length c0,.slice A1 J.length c1] w fun e w'=>e=.returned (.bool r)∧Drawn0 w w':=by
 have b3:=mk0 a9;have d0:=mk0 b0;clear a9 b0;have b4:=mk0 b1;have d1:=mk0 b2;clear b1 b2;have H:(if (D.length:Int)=(J.length:Int) then (bellpullref01_SameLists.l0 k D J 0) else (some false))=some r:=h;clear h
 by_cases c3:(D.length:Int)=(J.length:Int)
 ·
  rw [if_pos c3] at H;have c3b0:((D.length:Int) == (J.length:Int))=true:=beq_iff_eq.mpr c3;have c3b1:((D.length:Int) != (J.length:Int))=false:=bne_eq_false_iff_eq.mpr c3;have c3b2:(D.length == J.length)=true:=by first|simpa using c3|(simp at c3 ⊢;omega)
  clear c3;have H':=mk0 H;clear H;go_enter Try.func74,Try.ntmps74;go_wp2;repeat (go_quiet (fail);try go_wp2)
  go_loopg [5] k (fun kq v5 w'=>∃ (B:Int),v5=.int .i64 B∧Aside0 (bellpullref01_SameLists.l0 kq D J B=some r)∧Aside0 (kq ≤ k)∧Drawn0 w w')
  case atStart=>exact ⟨(0),(by first|rfl|(simp;done)|(simp [*];done)),H',⟨Nat.le_refl _⟩,by repeat (first|exact Drawn0.refl _|apply Drawn0.step)⟩
  case round =>
   clear H';try clear c1
   try clear p2
   try clear c3
   try clear c3b0
   try clear c3b1
   try clear c3b2
   obtain ⟨B,rfl,HA,b5,⟨m1,rfl⟩⟩:=hrel;cases gk with
   | zero=>exact absurd HA.1 (by simp [bellpullref01_SameLists.l0])
   | succ k1 =>
    have H:=HA.1;clear HA;simp only [bellpullref01_SameLists.l0] at H
    by_cases c4:B < (D.length:Int)
    ·
     rw [if_pos c4] at H;have c4b0:decide (B < (D.length:Int))=true:=decide_eq_true c4;clear c4
     by_cases c5:0 ≤ B
     ·
      rw [if_pos c5] at H;have c5b0:decide (0 ≤ B)=true:=decide_eq_true c5;clear c5
      by_cases c6:B < (J.length:Int)
      ·
       rw [if_pos c6] at H;have c6b0:decide (B < (J.length:Int))=true:=decide_eq_true c6;clear c6;replace H:=Option.bind_eq_some_iff.mp H;obtain ⟨b8,b6,H⟩:=H;(try dsimp only at H);have Y:=mk0 b6;clear b6
       by_cases c8:b8=true
       ·
        subst c8;have H1:(bellpullref01_SameLists.l0 k1 D J (wrap64 (B + 1)))=some r:=by rw [if_pos rfl] at H;exact H
        clear H;have H:=H1;clear H1;have H':=mk0 H;clear H;have Q:0 ≤ (B:Int):=of_decide_eq_true (by assumption);have R:B < (D.length:Int):=of_decide_eq_true (by assumption);obtain ⟨a7,a2,a3,V,Z,L,M⟩:=at_L1 b3.1 B Q R;cases V;have E:=mk0 M;have F:=mk0 L;clear M L;replace Q:=eq_true Q;replace R:=eq_true R;have T:0 ≤ (B:Int):=of_decide_eq_true (by assumption);have U:B < (J.length:Int):=of_decide_eq_true (by assumption);obtain ⟨a8,a4,a5,X,a0,N,O⟩:=at_L1 b4.1 B T U;cases X;have G:=mk0 O;have I:=mk0 N;clear O N;replace T:=eq_true T;replace U:=eq_true U;go_wp2_with (first|(go_at_call 44;(with_reducible refine (bellpullref01_Same.calls k1 _ _ (rd_L1 D B) _ _ (rd_L1 J B) true _ ?side1 ?side2 ?side3 ?side4 Y.1).mono ?_);(case side1=>repeat (first|exact E.1|(with_reducible refine Kd.C_alloc ?_ _)|(with_reducible refine Kd.C_drewN ?_ _)|(with_reducible refine Kd.C_drew ?_)));(case side2=>exact F.1);(case side3=>repeat (first|exact G.1|(with_reducible refine Kd.C_alloc ?_ _)|(with_reducible refine Kd.C_drewN ?_ _)|(with_reducible refine Kd.C_drew ?_)));(case side4=>exact I.1);rintro e w' ⟨rfl,⟨nd,rfl⟩⟩;(try first|exact ⟨rfl,_,World.drewN_drewN _ _ _⟩|exact ⟨rfl,_,Eq.trans (World.drewN_drewN _ _ _) (congrArg (World.drewN _) (Nat.add_assoc _ _ _))⟩)));repeat (go_quiet (first|(go_at_call 44;(with_reducible refine (bellpullref01_Same.calls k1 _ _ (rd_L1 D B) _ _ (rd_L1 J B) true _ ?side1 ?side2 ?side3 ?side4 Y.1).mono ?_);(case side1=>repeat (first|exact E.1|(with_reducible refine Kd.C_alloc ?_ _)|(with_reducible refine Kd.C_drewN ?_ _)|(with_reducible refine Kd.C_drew ?_)));(case side2=>exact F.1);(case side3=>repeat (first|exact G.1|(with_reducible refine Kd.C_alloc ?_ _)|(with_reducible refine Kd.C_drewN ?_ _)|(with_reducible refine Kd.C_drew ?_)));(case side4=>exact I.1);rintro e w' ⟨rfl,⟨nd,rfl⟩⟩;(try first|exact ⟨rfl,_,World.drewN_drewN _ _ _⟩|exact ⟨rfl,_,Eq.trans (World.drewN_drewN _ _ _) (congrArg (World.drewN _) (Nat.add_assoc _ _ _))⟩)));try go_wp2_with (first|(go_at_call 44;(with_reducible refine (bellpullref01_Same.calls k1 _ _ (rd_L1 D B) _ _ (rd_L1 J B) true _ ?side1 ?side2 ?side3 ?side4 Y.1).mono ?_);(case side1=>repeat (first|exact E.1|(with_reducible refine Kd.C_alloc ?_ _)|(with_reducible refine Kd.C_drewN ?_ _)|(with_reducible refine Kd.C_drew ?_)));(case side2=>exact F.1);(case side3=>repeat (first|exact G.1|(with_reducible refine Kd.C_alloc ?_ _)|(with_reducible refine Kd.C_drewN ?_ _)|(with_reducible refine Kd.C_drew ?_)));(case side4=>exact I.1);rintro e w' ⟨rfl,⟨nd,rfl⟩⟩;(try first|exact ⟨rfl,_,World.drewN_drewN _ _ _⟩|exact ⟨rfl,_,Eq.trans (World.drewN_drewN _ _ _) (congrArg (World.drewN _) (Nat.add_assoc _ _ _))⟩))))
        go_roundg k1
        case measure=>have:=b5.1;omega
        case rel=>exact ⟨(wrap64 (B + 1)),(by first|rfl|(simp;done)|(simp [*];done)),H',⟨by have:=b5.1;omega⟩,by repeat (first|exact Drawn0.refl _|apply Drawn0.step)⟩
       ·
        replace c8:=Bool.eq_false_iff.mpr c8;subst c8;have H1:(some false)=some r:=by rw [if_neg (show ¬ (false=true) by decide)] at H;exact H
        clear H;have H:=H1;clear H1;obtain rfl:=Option.some.inj H;have Q:0 ≤ (B:Int):=of_decide_eq_true (by assumption);have R:B < (D.length:Int):=of_decide_eq_true (by assumption);obtain ⟨a7,a2,a3,V,Z,L,M⟩:=at_L1 b3.1 B Q R;cases V;have E:=mk0 M;have F:=mk0 L;clear M L;replace Q:=eq_true Q;replace R:=eq_true R;have T:0 ≤ (B:Int):=of_decide_eq_true (by assumption);have U:B < (J.length:Int):=of_decide_eq_true (by assumption);obtain ⟨a8,a4,a5,X,a0,N,O⟩:=at_L1 b4.1 B T U;cases X;have G:=mk0 O;have I:=mk0 N;clear O N;replace T:=eq_true T;replace U:=eq_true U;go_wp2_with (first|(go_at_call 44;(with_reducible refine (bellpullref01_Same.calls k1 _ _ (rd_L1 D B) _ _ (rd_L1 J B) false _ ?side1 ?side2 ?side3 ?side4 Y.1).mono ?_);(case side1=>repeat (first|exact E.1|(with_reducible refine Kd.C_alloc ?_ _)|(with_reducible refine Kd.C_drewN ?_ _)|(with_reducible refine Kd.C_drew ?_)));(case side2=>exact F.1);(case side3=>repeat (first|exact G.1|(with_reducible refine Kd.C_alloc ?_ _)|(with_reducible refine Kd.C_drewN ?_ _)|(with_reducible refine Kd.C_drew ?_)));(case side4=>exact I.1);rintro e w' ⟨rfl,⟨nd,rfl⟩⟩;(try first|exact ⟨rfl,_,World.drewN_drewN _ _ _⟩|exact ⟨rfl,_,Eq.trans (World.drewN_drewN _ _ _) (congrArg (World.drewN _) (Nat.add_assoc _ _ _))⟩)));repeat (go_quiet (first|(go_at_call 44;(with_reducible refine (bellpullref01_Same.calls k1 _ _ (rd_L1 D B) _ _ (rd_L1 J B) false _ ?side1 ?side2 ?side3 ?side4 Y.1).mono ?_);(case side1=>repeat (first|exact E.1|(with_reducible refine Kd.C_alloc ?_ _)|(with_reducible refine Kd.C_drewN ?_ _)|(with_reducible refine Kd.C_drew ?_)));(case side2=>exact F.1);(case side3=>repeat (first|exact G.1|(with_reducible refine Kd.C_alloc ?_ _)|(with_reducible refine Kd.C_drewN ?_ _)|(with_reducible refine Kd.C_drew ?_)));(case side4=>exact I.1);rintro e w' ⟨rfl,⟨nd,rfl⟩⟩;(try first|exact ⟨rfl,_,World.drewN_drewN _ _ _⟩|exact ⟨rfl,_,Eq.trans (World.drewN_drewN _ _ _) (congrArg (World.drewN _) (Nat.add_assoc _ _ _))⟩)));try go_wp2_with (first|(go_at_call 44;(with_reducible refine (bellpullref01_Same.calls k1 _ _ (rd_L1 D B) _ _ (rd_L1 J B) false _ ?side1 ?side2 ?side3 ?side4 Y.1).mono ?_);(case side1=>repeat (first|exact E.1|(with_reducible refine Kd.C_alloc ?_ _)|(with_reducible refine Kd.C_drewN ?_ _)|(with_reducible refine Kd.C_drew ?_)));(case side2=>exact F.1);(case side3=>repeat (first|exact G.1|(with_reducible refine Kd.C_alloc ?_ _)|(with_reducible refine Kd.C_drewN ?_ _)|(with_reducible refine Kd.C_drew ?_)));(case side4=>exact I.1);rintro e w' ⟨rfl,⟨nd,rfl⟩⟩;(try first|exact ⟨rfl,_,World.drewN_drewN _ _ _⟩|exact ⟨rfl,_,Eq.trans (World.drewN_drewN _ _ _) (congrArg (World.drewN _) (Nat.add_assoc _ _ _))⟩))))
        go_ret;exact ⟨by first|rfl|(simp;done)|(simp [*];done),by repeat (first|exact Drawn0.refl _|apply Drawn0.step)⟩
      ·
       rw [if_neg c6] at H;exact absurd H (by simp)
     ·
      rw [if_neg c5] at H;exact absurd H (by simp)
    ·
     rw [if_neg c4] at H;have c4b0:decide (B < (D.length:Int))=false:=decide_eq_false c4;clear c4;obtain rfl:=Option.some.inj H;go_wp2;repeat (go_quiet (fail);try go_wp2)
     go_ret;exact ⟨by first|rfl|(simp;done)|(simp [*];done),by repeat (first|exact Drawn0.refl _|apply Drawn0.step)⟩
 ·
  rw [if_neg c3] at H;have c3b0:((D.length:Int) == (J.length:Int))=false:=beq_eq_false_iff_ne.mpr c3;have c3b1:((D.length:Int) != (J.length:Int))=true:=bne_iff_ne.mpr c3;have c3b2:(D.length == J.length)=false:=by first|simpa using c3|(simp at c3 ⊢;omega)
  obtain rfl:=Option.some.inj H;go_enter Try.func74,Try.ntmps74;go_wp2;repeat (go_quiet (fail);try go_wp2)
  go_ret;exact ⟨by first|rfl|(simp;done)|(simp [*];done),by repeat (first|exact Drawn0.refl _|apply Drawn0.step)⟩
def bellpullref05_vectors.f (l0_0:List Int) (l0_1:List (List Int)):Option ((List (List Int))):=(some (([l0_0]:List (List Int)):List (List Int))).bind fun y247=>(if y247.length + l0_1.length < 5864062014805 then (some (y247 ++ l0_1)) else (none))
set_option maxHeartbeats 8000000 in
set_option maxRecDepth 100000 in
theorem bellpullref05_vectors.calls (D:Nat → Prop) (J:Option Addr) (L:Nat) (G:List Int) (E:Nat → Prop) (T:Option Addr) (U:Nat) (F:List (List Int)) (r:List (List Int)) (w:World) (a5:Kd.V (Kd.int .i64) 3 w w.heap.size (fun k_=>D k_) (.slice J G.length L) G) (a6:Kd.V (Kd.slice 3 (Kd.int .i64)) 23 w w.heap.size (fun k_=>E k_) (.slice T F.length U) F) (h:bellpullref05_vectors.f G F=some r) :
    Calls Try.prog 75 #[.agg #[.slice J G.length L,.slice T F.length U]] w fun e w'=>∃ b1:Value,e=.returned (b1)∧Kd.N (Kd.slice 3 (Kd.int .i64)) 23 w' w.heap.size (fun k_=>((D k_ ∨ E k_) ∨ w.heap.size ≤ k_)) b1 r∧Below w.heap.size w w':=by
 have c3:=Try.underlying60;have I:=mk0 (show Kd.V (Kd.int .i64) 3 w w.heap.size (fun k_=>((D k_ ∨ E k_) ∨ w.heap.size ≤ k_)) (.slice J G.length L) G from Kd.V_mono a5 (fun k_ hk=>.inl (.inl hk)));have M:=mk0 (show Kd.V (Kd.slice 3 (Kd.int .i64)) 23 w w.heap.size (fun k_=>((D k_ ∨ E k_) ∨ w.heap.size ≤ k_)) (.slice T F.length U) F from Kd.V_mono a6 (fun k_ hk=>.inl (.inr hk)));have R:=mk0 (Below.refl w.heap.size w);have H:((some (([G]:List (List Int)):List (List Int))).bind fun O=>(if O.length + F.length < 5864062014805 then (some (O ++ F)) else (none)))=some r:=h;clear h;obtain ⟨O,X⟩:∃ y_:List (List Int),y_=(([G]:List (List Int))):=⟨_,rfl⟩
 replace H:(if O.length + F.length < 5864062014805 then (some (O ++ F)) else (none))=some r:=by first|(rw [X];with_reducible exact H)|(have a0:=(Option.bind_some _ _).symm.trans H;rw [X];with_reducible exact a0)|(have a0:=(Option.bind_some _ _).symm.trans H;with_reducible exact a0)|with_reducible exact H|(rw [X];exact H)|exact H
 have a3:=mk0 X;clear X
 by_cases c2:O.length + F.length < 5864062014805
 ·
  rw [if_pos c2] at H;have b2:=mk0 c2;clear c2;obtain ⟨b3,Y⟩:∃ y_:List (List Int),y_=(O ++ F):=⟨_,rfl⟩
  replace H:(some b3)=some r:=by first|(rw [Y];with_reducible exact H)|(have a0:=(Option.bind_some _ _).symm.trans H;rw [Y];with_reducible exact a0)|(have a0:=(Option.bind_some _ _).symm.trans H;with_reducible exact a0)|with_reducible exact H|(rw [Y];exact H)|exact H
  have a7:=mk0 Y;clear Y;obtain rfl:=Option.some.inj H;go_enter Try.func75,Try.ntmps75;go_wp2_with (first|((with_reducible refine gate_dst (N:=1) rfl ?_);refine box_event ?hg (N:=1) ?hd (cs:=#[.slice J G.length L,.slice T F.length U]) (t:=60) ?hr ?_;(case hd=>rfl);(case hg=>rfl);(case hr=>first|(go_simp;done)|(go_simp;rfl));intro B hg w3 a4 hb;have C:=mk0 (a4);have a8:=szw hg R;have Z:=a8;replace I:=mk0 (Kd.V_below (Kd.V_elderB I.1 B (Nat.le_of_eq hg.symm)) hb);replace M:=mk0 (Kd.V_below (Kd.V_elderB M.1 B (Nat.le_of_eq hg.symm)) hb);replace R:=bst R hb;clear hb a4 hg;have b4:=q0_ C;have b5:=q1_ C;have b6:=blk_frozen C.1 0;have b7:=blk_frozen C.1 1)|((with_reducible refine gate_dst (N:=5) rfl ?_);refine Kd.N_lit (Kd.slice 3 (Kd.int .i64)) _ 23 ?hg (N':=5) ?hd (xs:=([G]:List (List Int))) (inner:=[.slice J G.length L]) (ok:=(fun k_=>((D k_ ∨ E k_) ∨ w.heap.size ≤ k_)∧k_ ≠ B)) (okp:=(fun k_=>((D k_ ∨ E k_) ∨ w.heap.size ≤ k_)∧k_ ≠ B)) ?hr ?hp (fun _ hk=>hk) ((show ∀ k_,w3.heap.size ≤ k_ → (fun k_=>((D k_ ∨ E k_) ∨ w.heap.size ≤ k_)∧k_ ≠ B) k_ from fun k_ hk=>⟨(.inr (Nat.le_trans (below_size R.1) hk)),Kd.freshB (g:=B) (o:=.cells #[.slice J G.length L,.slice T F.length U] 60 (0,0)) C.1 k_ hk⟩) _ (Nat.le_refl _)) (Below.refl _ _) (Nat.le_refl _) (by simp) ?_;(case hd=>rfl);(case hg=>rfl);(case hr=>first|(go_simp;done)|(go_simp;rfl));(case hp=>exact (Reps.one (show Kd.FK (Kd.slice 3 (Kd.int .i64)) _ _ G [.slice J G.length L] from (Kd.FK_slice_mk (Kd.V_reads' (Kd.V_mono (e:=0) (base:=0) (ok':=(fun k_=>((D k_ ∨ E k_) ∨ w.heap.size ≤ k_)∧k_ ≠ B)) (I.1) (fun k_ hk=>⟨hk.1,hk.2⟩))).2.1 (Kd.V_F (Kd.V_mono (e:=0) (base:=0) (ok':=(fun k_=>((D k_ ∨ E k_) ∨ w.heap.size ≤ k_)∧k_ ≠ B)) (I.1) (fun k_ hk=>⟨hk.1,hk.2⟩))))) (Reps.none _ _)));intro a2 w5 Q hb hg_ a9;clear hg_ a9;(first|rw [← a3.1] at Q|(simp only [Int.reduceToNat] at Q;rw [← a3.1] at Q));have a1:=mk0 (Kd.N_lower Q (below_size R.1));replace I:=mk0 (Kd.V_elder' I.1 (by first|exact Kd.N_base Q|exact Kd.S_base Q|exact Kd.R_base Q) hb);replace M:=mk0 (Kd.V_elder' M.1 (by first|exact Kd.N_base Q|exact Kd.S_base Q|exact Kd.R_base Q) hb);replace C:=bkb C hb;replace R:=bst R hb;clear hb Q;have b8:=q0_ C;have b9:=q1_ C;have c0:=blk_frozen C.1 0;have c1:=blk_frozen C.1 1)|((with_reducible refine gate_builtin (b:=.append) (xs:=#[.tmp 5,.tmp 7]) rfl ?_);at_builtin;refine Kd.N_append_rows (Kd.slice 3 (Kd.int .i64)) (w0:=w) w.heap.size rfl (.tmp 5) (.tmp 7) 58 23 (.slice none 0 0) 24 rfl Try.underlying58 info23 rfl (by decide) (by omega) a2 O F _ _ _ (fun k_=>((D k_ ∨ E k_) ∨ w.heap.size ≤ k_)∧k_ ≠ B) (fun k_=>((fun k_=>((D k_ ∨ E k_) ∨ w.heap.size ≤ k_)∧k_ ≠ B)) k_∧some k_ ≠ (a2:Value).ownBlock) rfl rfl ?aO ?aR (fun _ hk=>hk) ?aF ?aB ?aS ?aL ?_;(case aR=>exact (by skip;exact Kd.V_F (Kd.V_mono (ok':=(fun k_=>((fun k_=>((D k_ ∨ E k_) ∨ w.heap.size ≤ k_)∧k_ ≠ B)) k_∧some k_ ≠ (a2:Value).ownBlock)) (M.1) (fun k_ hk=>⟨⟨hk.1.1,hk.1.2⟩,hk.2⟩))));(case aB=>exact (by repeat (first|(with_reducible first|exact R.1|apply below_alloc|apply pw_below_drewN|apply below_drew1|refine below_set ?_ Z.1)|exact R.1)));(case aF=>exact (fun k_ hk=>⟨(.inr (Nat.le_trans (below_size (by repeat (first|(with_reducible first|exact R.1|apply below_alloc|apply pw_below_drewN|apply below_drew1|refine below_set ?_ Z.1)|exact R.1))) hk)),Kd.freshB (g:=B) (o:=.cells #[.slice J G.length L,.slice T F.length U] 60 (0,0)) (by (with_reducible repeat (first|refine blk_drewN ?_ _|refine blk_drew ?_|refine blk_alloc ?_ _));exact C.1) k_ hk⟩));(case aO=>exact (by exact a1.1));(case aS=>exact (below_size (by repeat (first|(with_reducible first|exact R.1|apply below_alloc|apply pw_below_drewN|apply below_drew1|refine below_set ?_ Z.1)|exact R.1))));(case aL=>have:=b2.1;omega);intro c5 w8 ho hb hg hat;rw [← a7.1] at ho;have b0:=mk0 (ho);replace I:=mk0 (Kd.V_afterv (ok:=(fun k_=>((D k_ ∨ E k_) ∨ w.heap.size ≤ k_)∧k_ ≠ B)) (by exact I.1) hg hat);replace M:=mk0 (Kd.V_afterv (ok:=(fun k_=>((D k_ ∨ E k_) ∨ w.heap.size ≤ k_)∧k_ ≠ B)) (by exact M.1) hg hat);replace C:=mk0 (blk_grown (g:=B) (o:=.cells #[.slice J G.length L,.slice T F.length U] 60 (0,0)) (by (with_reducible repeat (first|refine blk_drewN ?_ _|refine blk_drew ?_|refine blk_alloc ?_ _));exact C.1) hg (Kd.N_ne a1.1 C.1 (by decide)));replace R:=mk0 (hb);clear a1;clear ho hb hg hat))
  go_ret;exact ⟨_,by first|rfl|(simp [errW_none,errW_some] <;> rfl)|(simp [*,errW_none,errW_some] <;> rfl),by exact Kd.N_mono b0.1 (fun _ hk=>hk.1),by repeat (first|(with_reducible first|exact R.1|apply below_alloc|apply pw_below_drewN|apply below_drew1|refine below_set ?_ Z.1)|exact R.1)⟩
 ·
  rw [if_neg c2] at H;exact absurd H (by simp)
def bellpullref05_Same.l0:Nat → List (S60) → List (S60) → Int → Option (Bool)
  | 0,_,_,_=>none
  | k + 1,x0,x1,x5=>if x5 < (x0.length:Int) then (if 0 ≤ x5 then ((bellpullref05_vectors.f ((rd_T60 x0 x5).f0) ((rd_T60 x0 x5).f1)).bind fun t254=>(if x5 < (x1.length:Int) then ((bellpullref05_vectors.f ((rd_T60 x1 x5).f0) ((rd_T60 x1 x5).f1)).bind fun t258=>((bellpullref01_SameLists.f k t254 t258).bind fun t261=>(if t261=true then (bellpullref05_Same.l0 k x0 x1 (wrap64 (x5 + 1))) else (some false)))) else (none))) else (none)) else (some true)
def bellpullref05_Same.f (k:Nat) (l0:List (S60)) (l1:List (S60)):Option (Bool):=if (l0.length:Int)=(l1.length:Int) then (bellpullref05_Same.l0 k l0 l1 0) else (some false)
theorem bellpullref05_Same.mono_l:∀ k,(∀ y0 y1 y2,LeO (bellpullref05_Same.l0 k y0 y1 y2) (bellpullref05_Same.l0 (k + 1) y0 y1 y2))
  | 0=>fun _ _ _ r h=>by simp [bellpullref05_Same.l0] at h
  | k + 1=>by
    have ih0:=bellpullref05_Same.mono_l k
    · intro y0 y1 y2
      unfold bellpullref05_Same.l0
      with_reducible repeat' first|exact ih0 _ _ _|exact bellpullref01_SameLists.mono _ _ _|exact LeO.refl _|exact LeO.none _|refine LeO.ite ?_ ?_|refine LeO.bind ?_ (fun _=>?_)
theorem bellpullref05_Same.mono:∀ a0 a1 k,LeO (bellpullref05_Same.f k a0 a1) (bellpullref05_Same.f (k + 1) a0 a1):=by
  intro a0 a1 k
  have ih0:=bellpullref05_Same.mono_l k
  unfold bellpullref05_Same.f
  with_reducible repeat' first|exact ih0 _ _ _|exact bellpullref01_SameLists.mono _ _ _|exact LeO.refl _|exact LeO.none _|refine LeO.ite ?_ ?_|refine LeO.bind ?_ (fun _=>?_)
def bellpullref05_Same.T6:Bool × List (List Nat × List Nat):=(true,[([],[]),([],[]),([0,1],[0,1]),([2],[2]),([3],[3]),([],[]),([],[]),([5,6],[5,6]),([7],[7]),([8,4],[8]),([4,9,9],[4,9]),([10],[10])])
def bellpullref05_Same.B6:List Nat:=[0,0,3,7,15,0,0,96,224,511,1023,2047]
theorem bellpullref05_Same.tab6:rtab .any (opsOf Try.f31 6)=bellpullref05_Same.T6:=by kernel_rfl
theorem bellpullref05_Same.bits6:waitsOk bellpullref05_Same.T6.2 bellpullref05_Same.B6=true:=by kernel_rfl
set_option maxHeartbeats 8000000 in
set_option maxRecDepth 100000 in
theorem bellpullref05_Same.calls (k:Nat) (A0:Option Addr) (c0:Nat) (U:List (S60)) (A1:Option Addr) (c1:Nat) (V:List (S60)) (r:Bool) (w:World) (e9:Kd.C k60 w A0 U.length U) (f2:U.length ≤ c0) (f3:Kd.C k60 w A1 V.length V) (f4:V.length ≤ c1) (h:bellpullref05_Same.f k U V=some r) :
    Calls Try.prog 31 #[.slice A0 U.length c0,.slice A1 V.length c1] w fun e w'=>e=.returned (.bool r)∧Below w.heap.size w w':=by
 have i2:=Try.underlying60;have f5:=mk0 e9;have i4:=mk0 f2;clear e9 f2;have f6:=mk0 f3;have i5:=mk0 f4;clear f3 f4;have D:=mk0 (Below.refl w.heap.size w);have H:(if (U.length:Int)=(V.length:Int) then (bellpullref05_Same.l0 k U V 0) else (some false))=some r:=h;clear h
 by_cases c3:(U.length:Int)=(V.length:Int)
 ·
  rw [if_pos c3] at H;have c3b0:((U.length:Int) == (V.length:Int))=true:=beq_iff_eq.mpr c3;have c3b1:((U.length:Int) != (V.length:Int))=false:=bne_eq_false_iff_eq.mpr c3;have c3b2:(U.length == V.length)=true:=by first|simpa using c3|(simp at c3 ⊢;omega)
  clear c3;have H':=mk0 H;clear H;go_enter Try.func31,Try.ntmps31;go_wp2
  go_loopg [5] k (fun kq v5 w'=>∃ (B:Int),v5=.int .i64 B∧Aside0 (bellpullref05_Same.l0 kq U V B=some r)∧Aside0 (kq ≤ k)∧Aside0 (Below w.heap.size w w'))
  case atStart=>exact ⟨(0),(by first|rfl|(simp;done)|(simp [*];done)),H',⟨Nat.le_refl _⟩,⟨by exact D.1⟩⟩
  case round =>
   clear H';try clear c1
   try clear p2
   try clear c3
   try clear c3b0
   try clear c3b1
   try clear c3b2
   obtain ⟨B,rfl,HA,f7,D⟩:=hrel;cases gk with
   | zero=>exact absurd HA.1 (by simp [bellpullref05_Same.l0])
   | succ k1 =>
    have H:=HA.1;clear HA;simp only [bellpullref05_Same.l0] at H
    by_cases c4:B < (U.length:Int)
    ·
     rw [if_pos c4] at H;have c4b0:decide (B < (U.length:Int))=true:=decide_eq_true c4;clear c4
     by_cases c5:0 ≤ B
     ·
      rw [if_pos c5] at H;have c5b0:decide (0 ≤ B)=true:=decide_eq_true c5;clear c5;replace H:=Option.bind_eq_some_iff.mp H;obtain ⟨d2,f8,H⟩:=H;(try dsimp only at H);have A6:=mk0 f8;clear f8
      by_cases c7:B < (V.length:Int)
      ·
       rw [if_pos c7] at H;have c7b0:decide (B < (V.length:Int))=true:=decide_eq_true c7;clear c7;replace H:=Option.bind_eq_some_iff.mp H;obtain ⟨d3,f9,H⟩:=H;(try dsimp only at H);have A8:=mk0 f9;clear f9;replace H:=Option.bind_eq_some_iff.mp H;obtain ⟨g2,g0,H⟩:=H;(try dsimp only at H);have A9:=mk0 g0;clear g0
       by_cases e3:g2=true
       ·
        subst e3;have H1:(bellpullref05_Same.l0 k1 U V (wrap64 (B + 1)))=some r:=by rw [if_pos rfl] at H;exact H
        clear H;have H:=H1;clear H1;have H':=mk0 H;clear H;try go_wp2
        replace D:=hdr D;have c8:0 ≤ (B:Int):=of_decide_eq_true (by assumption);have c9:B < (U.length:Int):=of_decide_eq_true (by assumption);obtain ⟨b0,b3,b4,b5,b6,e0,L,M,Y,Z,a0,a1⟩:=at_T60 f5.1 B c8 c9;have E:=M;have F:=L;cases e0;replace L:=bd_ D L;replace M:=bd_ D M;have a2:=mk0 Z;have d4:=mk0 Y;clear Z Y;have a3:=mk0 a1;have d5:=mk0 a0;clear a1 a0;replace c8:=eq_true c8;replace c9:=eq_true c9;have d0:0 ≤ (B:Int):=of_decide_eq_true (by assumption);have d1:B < (V.length:Int):=of_decide_eq_true (by assumption);obtain ⟨b1,b7,b8,b9,c2,e1,O,Q,a4,a5,a6,a7⟩:=at_T60 f6.1 B d0 d1;have G:=Q;have I:=O;cases e1;replace O:=bd_ D O;replace Q:=bd_ D Q;have a8:=mk0 a5;have d6:=mk0 a4;clear a5 a4;have a9:=mk0 a7;have d7:=mk0 a6;clear a7 a6;replace d0:=eq_true d0;replace d1:=eq_true d1;refine start_ (n:=12) (S:=fun w'=>w'.cell? (b0.add ((B).toNat * 2))=some (.slice b3 ((rd_T60 U B).f0).length b4)∧w'.cell? ⟨(b0.add ((B).toNat * 2)).block,(b0.add ((B).toNat * 2)).off + 1,none⟩=some (.slice b5 ((rd_T60 U B).f1).length b6)∧w'.cell? (b1.add ((B).toNat * 2))=some (.slice b7 ((rd_T60 V B).f0).length b8)∧w'.cell? ⟨(b1.add ((B).toNat * 2)).block,(b1.add ((B).toNat * 2)).off + 1,none⟩=some (.slice b9 ((rd_T60 V B).f1).length c2)) (ds:=[]) #[n_,n_,n_,n_,n_,n_,n_,n_,n_,n_,n_,n_] (by kernel_rfl) rfl rfl ⟨(bd_ D F),(bd_ D E),(bd_ D I),(bd_ D G)⟩ (fun T=>?_);refine with_tabW bellpullref05_Same.tab6 bellpullref05_Same.bits6 (fun R d9=>?_);generalize wr.drew=i6 at D a2 a3 a8 a9 L M O Q T ⊢;refine pure_ (i:=0) (N:=some 17) (v:=?_) (a':=?_) #[y_,n_,n_,n_,n_,n_,n_,n_,n_,n_,n_,n_] rfl rfl (any_of R.1 (by kernel_rfl)) (fun _ _ _ h=>h) (Or.inl ⟨by rfl,?_⟩) ?_ ?_;rotate_left
        ·
         intro w';go_simp;with_reducible rfl
        rotate_left
        ·
         simp only [Act.put,s0_,s1_,s2_,i64_w,i32_w];rfl
        refine pure_ (i:=1) (N:=some 18) (v:=?_) (a':=?_) #[y_,y_,n_,n_,n_,n_,n_,n_,n_,n_,n_,n_] rfl rfl (any_of R.1 (by kernel_rfl)) (fun _ _ _ h=>h) (Or.inl ⟨by rfl,?_⟩) ?_ ?_;rotate_left
        ·
         intro w';go_simp;with_reducible rfl
        rotate_left
        ·
         simp only [Act.put,s0_,s1_,s2_,i64_w,i32_w];rfl
        refine pure_ (i:=2) (N:=some 19) (v:=?_) (a':=?_) #[y_,y_,y_,n_,n_,n_,n_,n_,n_,n_,n_,n_] rfl rfl (any_of R.1 (by kernel_rfl)) (fun _ _ _ h=>h) (Or.inl ⟨by rfl,?_⟩) ?_ ?_;rotate_left
        ·
         intro w';go_simp;with_reducible rfl
        rotate_left
        ·
         simp only [Act.put,s0_,s1_,s2_,i64_w,i32_w];rfl
        refine pure_ (i:=5) (N:=some 22) (v:=?_) (a':=?_) #[y_,y_,y_,n_,n_,y_,n_,n_,n_,n_,n_,n_] rfl rfl (any_of R.1 (by kernel_rfl)) (fun _ _ _ h=>h) (Or.inl ⟨by rfl,?_⟩) ?_ ?_;rotate_left
        ·
         intro w';go_simp;with_reducible rfl
        rotate_left
        ·
         simp only [Act.put,s0_,s1_,s2_,i64_w,i32_w];rfl
        refine pure_ (i:=6) (N:=some 23) (v:=?_) (a':=?_) #[y_,y_,y_,n_,n_,y_,y_,n_,n_,n_,n_,n_] rfl rfl (any_of R.1 (by kernel_rfl)) (fun _ _ _ h=>h) (Or.inl ⟨by rfl,?_⟩) ?_ ?_;rotate_left
        ·
         intro w';go_simp;with_reducible rfl
        rotate_left
        ·
         simp only [Act.put,s0_,s1_,s2_,i64_w,i32_w];rfl
        refine pure_ (i:=7) (N:=some 24) (v:=?_) (a':=?_) #[y_,y_,y_,n_,n_,y_,y_,y_,n_,n_,n_,n_] rfl rfl (any_of R.1 (by kernel_rfl)) (fun _ _ _ h=>h) (Or.inl ⟨by rfl,?_⟩) ?_ ?_;rotate_left
        ·
         intro w';go_simp;with_reducible rfl
        rotate_left
        ·
         simp only [Act.put,s0_,s1_,s2_,i64_w,i32_w];rfl
        refine take_ (i:=3) (N:=some 20) (v:=?_) (a':=?_) #[y_,y_,y_,y_,n_,y_,y_,y_,n_,n_,n_,n_] rfl rfl (take_ofW R.1 d9.1 (by kernel_rfl)) (fun _ _ _ h=>h) (Or.inl ⟨by rfl,?_⟩) T ?_ ?_;rotate_left
        ·
         rintro w' ⟨s0,s1,s2,s3⟩;go_simp;with_reducible rfl
        rotate_left
        ·
         simp only [Act.put,s0_,s1_,s2_,i64_w,i32_w];rfl
        refine take_ (i:=8) (N:=some 25) (v:=?_) (a':=?_) #[y_,y_,y_,y_,n_,y_,y_,y_,y_,n_,n_,n_] rfl rfl (take_ofW R.1 d9.1 (by kernel_rfl)) (fun _ _ _ h=>h) (Or.inl ⟨by rfl,?_⟩) T ?_ ?_;rotate_left
        ·
         rintro w' ⟨s0,s1,s2,s3⟩;go_simp;with_reducible rfl
        rotate_left
        ·
         simp only [Act.put,s0_,s1_,s2_,i64_w,i32_w];rfl
        refine one_ (i:=4) (N:=some 21) #[y_,y_,y_,y_,y_,y_,y_,y_,y_,n_,n_,n_] rfl rfl (one_of R.1 (by kernel_rfl)) (by decide) (fun K hK=>?_);refine goes_ Try.func75 (by kernel_rfl) rfl #[.agg #[.slice b3 ((rd_T60 U B).f0).length b4,.slice b5 ((rd_T60 U B).f1).length b6]] (by rfl) rfl rfl (by (try simp only [m0_,m1_,m2_]);first|done|rfl|(simp only [l0_,l1_];rfl)) ?_;with_reducible refine (bellpullref05_vectors.calls (fun k_=>k_ < w.heap.size) _ _ ((rd_T60 U B).f0) (fun k_=>k_ < w.heap.size) _ _ ((rd_T60 U B).f1) d2 _ ?side1 ?side2 A6.1).mono ?_
        (case side1=>exact Kd.V_mk d4.1 (Kd.F_below (Kd.C_F (Kd.heap_int .i64) a2.1) D.1));(case side2=>exact Kd.V_mk d5.1 (Kd.F_below (Kd.C_F (Kd.heap_slice 3 (Kd.heap_int .i64)) a3.1) D.1));rintro e i7 ⟨e2,rfl,X,hb⟩;refine ⟨_,rfl,?_⟩;have J:=mk0 (Kd.N_lower (Kd.N_mono (ok':=fun k_=>True) X (fun k_ hk_=>trivial)) (below_size D.1));replace D:=bst D hb;(try clear hb);(try clear X);refine hK.out _ _ ⟨(bd_ D F),(bd_ D E),(bd_ D I),(bd_ D G)⟩ (fun T=>?_);clear hK K;refine norm_ (a':=?_) ?_ ?_;rotate_left
        ·
         show Act.put _ (some 21) _=_;simp only [Act.put,s0_,s1_,s2_,i64_w,i32_w];rfl
        refine one_ (i:=9) (N:=some 26) #[y_,y_,y_,y_,y_,y_,y_,y_,y_,y_,n_,n_] rfl rfl (one_of R.1 (by kernel_rfl)) (by decide) (fun K hK=>?_);refine goes_ Try.func75 (by kernel_rfl) rfl #[.agg #[.slice b7 ((rd_T60 V B).f0).length b8,.slice b9 ((rd_T60 V B).f1).length c2]] (by rfl) rfl rfl (by (try simp only [m0_,m1_,m2_]);first|done|rfl|(simp only [l0_,l1_];rfl)) ?_;with_reducible refine (bellpullref05_vectors.calls (fun k_=>k_ < w.heap.size) _ _ ((rd_T60 V B).f0) (fun k_=>k_ < w.heap.size) _ _ ((rd_T60 V B).f1) d3 _ ?side1 ?side2 A8.1).mono ?_
        (case side1=>exact Kd.V_mk d6.1 (Kd.F_below (Kd.C_F (Kd.heap_int .i64) a8.1) D.1));(case side2=>exact Kd.V_mk d7.1 (Kd.F_below (Kd.C_F (Kd.heap_slice 3 (Kd.heap_int .i64)) a9.1) D.1));rintro e i8 ⟨g7,rfl,X,hb⟩;refine ⟨_,rfl,?_⟩;have b2:=mk0 (Kd.N_lower (Kd.N_mono (ok':=fun k_=>some k_ ≠ (e2:Value).ownBlock) X (fun k_ hk_=>Or.elim hk_ (fun hs_=>Or.elim hs_ (fun hs_=>fun e_=>Nat.not_le.2 hs_ (Kd.N_base J.1 k_ e_.symm)) (fun hs_=>fun e_=>Nat.not_le.2 hs_ (Kd.N_base J.1 k_ e_.symm))) (fun hn_=>(Kd.fresh' (Kd.N_lt J.1) k_ hn_)))) (below_size D.1));replace J:=mk0 (Kd.N_elder' J.1 (by first|exact Kd.N_base X|exact Kd.S_base X|exact Kd.R_base X) hb);replace D:=bst D hb;(try clear hb);(try clear X);obtain ⟨g8,g9,e5⟩:=Kd.N_slice J.1;(first|subst e5|(injection e5 with f1_ f2_ f3_;have f4_:=f1_.symm;have d8:=f3_.symm;clear f1_ f2_ f3_;subst f4_;subst d8));obtain ⟨h0,h1,e6⟩:=Kd.N_slice b2.1;(first|subst e6|(injection e6 with f1_ f2_ f3_;have f4_:=f1_.symm;have d8:=f3_.symm;clear f1_ f2_ f3_;subst f4_;subst d8));refine hK.out _ _ ⟨(bd_ D F),(bd_ D E),(bd_ D I),(bd_ D G)⟩ (fun T=>?_);clear hK K;refine norm_ (a':=?_) ?_ ?_;rotate_left
        ·
         show Act.put _ (some 26) _=_;simp only [Act.put,s0_,s1_,s2_,i64_w,i32_w];rfl
        refine one_ (i:=10) (N:=some 27) #[y_,y_,y_,y_,y_,y_,y_,y_,y_,y_,y_,n_] rfl rfl (one_of R.1 (by kernel_rfl)) (by decide) (fun K hK=>?_);refine goes_ Try.func74 (by kernel_rfl) rfl #[.slice g8 d2.length g9,.slice h0 d3.length h1] (by rfl) rfl rfl (by (try simp only [m0_,m1_,m2_]);first|done|rfl|(simp only [l0_,l1_];rfl)) ?_;with_reducible refine (bellpullref01_SameLists.calls k1 _ _ d2 _ _ d3 true _ ?side1 ?side2 ?side3 ?side4 A9.1).mono ?_
        (case side1=>repeat (first|exact (Kd.N_reads' J.1).2.2|(with_reducible refine Kd.C_alloc ?_ _)|(with_reducible refine Kd.C_drewN ?_ _)|(with_reducible refine Kd.C_drew ?_)));(case side2=>exact (Kd.N_reads' J.1).2.1);(case side3=>repeat (first|exact (Kd.N_reads' b2.1).2.2|(with_reducible refine Kd.C_alloc ?_ _)|(with_reducible refine Kd.C_drewN ?_ _)|(with_reducible refine Kd.C_drew ?_)));(case side4=>exact (Kd.N_reads' b2.1).2.1);rintro e w' ⟨rfl,⟨nd,rfl⟩⟩;refine ⟨_,rfl,?_⟩;refine hK.out _ _ ⟨((D.1.cell (World.block_lt_of_cell? w _ F)).trans F),((D.1.cell (World.block_lt_of_cell? w _ E)).trans E),((D.1.cell (World.block_lt_of_cell? w _ I)).trans I),((D.1.cell (World.block_lt_of_cell? w _ G)).trans G)⟩ (fun T=>?_);clear hK K;refine norm_ (a':=?_) ?_ ?_;rotate_left
        ·
         show Act.put _ (some 27) _=_;simp only [Act.put,s0_,s1_,s2_,i64_w,i32_w];rfl
        refine pure_ (i:=11) (N:=some 28) (v:=?_) (a':=?_) #[y_,y_,y_,y_,y_,y_,y_,y_,y_,y_,y_,y_] rfl rfl (any_of R.1 (by kernel_rfl)) (fun _ _ _ h=>h) (Or.inl ⟨by rfl,?_⟩) ?_ ?_;rotate_left
        ·
         intro w';go_simp;with_reducible rfl
        rotate_left
        ·
         simp only [Act.put,s0_,s1_,s2_,i64_w,i32_w];rfl
        refine done_ (done_of R.1 (by kernel_rfl)) ?_;try go_wp2
        go_roundg k1
        case measure=>have:=f7.1;omega
        case rel=>exact ⟨(wrap64 (B + 1)),(by first|rfl|(simp;done)|(simp [*];done)),H',⟨by have:=f7.1;omega⟩,⟨by repeat (first|(with_reducible first|exact D.1|apply below_alloc|apply pw_below_drewN|apply below_drew1)|exact D.1)⟩⟩
       ·
        replace e3:=Bool.eq_false_iff.mpr e3;subst e3;have H1:(some false)=some r:=by rw [if_neg (show ¬ (false=true) by decide)] at H;exact H
        clear H;have H:=H1;clear H1;obtain rfl:=Option.some.inj H;try go_wp2
        replace D:=hdr D;have c8:0 ≤ (B:Int):=of_decide_eq_true (by assumption);have c9:B < (U.length:Int):=of_decide_eq_true (by assumption);obtain ⟨b0,b3,b4,b5,b6,e0,L,M,Y,Z,a0,a1⟩:=at_T60 f5.1 B c8 c9;have E:=M;have F:=L;cases e0;replace L:=bd_ D L;replace M:=bd_ D M;have a2:=mk0 Z;have d4:=mk0 Y;clear Z Y;have a3:=mk0 a1;have d5:=mk0 a0;clear a1 a0;replace c8:=eq_true c8;replace c9:=eq_true c9;have d0:0 ≤ (B:Int):=of_decide_eq_true (by assumption);have d1:B < (V.length:Int):=of_decide_eq_true (by assumption);obtain ⟨b1,b7,b8,b9,c2,e1,O,Q,a4,a5,a6,a7⟩:=at_T60 f6.1 B d0 d1;have G:=Q;have I:=O;cases e1;replace O:=bd_ D O;replace Q:=bd_ D Q;have a8:=mk0 a5;have d6:=mk0 a4;clear a5 a4;have a9:=mk0 a7;have d7:=mk0 a6;clear a7 a6;replace d0:=eq_true d0;replace d1:=eq_true d1;refine start_ (n:=12) (S:=fun w'=>w'.cell? (b0.add ((B).toNat * 2))=some (.slice b3 ((rd_T60 U B).f0).length b4)∧w'.cell? ⟨(b0.add ((B).toNat * 2)).block,(b0.add ((B).toNat * 2)).off + 1,none⟩=some (.slice b5 ((rd_T60 U B).f1).length b6)∧w'.cell? (b1.add ((B).toNat * 2))=some (.slice b7 ((rd_T60 V B).f0).length b8)∧w'.cell? ⟨(b1.add ((B).toNat * 2)).block,(b1.add ((B).toNat * 2)).off + 1,none⟩=some (.slice b9 ((rd_T60 V B).f1).length c2)) (ds:=[]) #[n_,n_,n_,n_,n_,n_,n_,n_,n_,n_,n_,n_] (by kernel_rfl) rfl rfl ⟨(bd_ D F),(bd_ D E),(bd_ D I),(bd_ D G)⟩ (fun T=>?_);refine with_tabW bellpullref05_Same.tab6 bellpullref05_Same.bits6 (fun R d9=>?_);generalize wr.drew=i9 at D a2 a3 a8 a9 L M O Q T ⊢;refine pure_ (i:=0) (N:=some 17) (v:=?_) (a':=?_) #[y_,n_,n_,n_,n_,n_,n_,n_,n_,n_,n_,n_] rfl rfl (any_of R.1 (by kernel_rfl)) (fun _ _ _ h=>h) (Or.inl ⟨by rfl,?_⟩) ?_ ?_;rotate_left
        ·
         intro w';go_simp;with_reducible rfl
        rotate_left
        ·
         simp only [Act.put,s0_,s1_,s2_,i64_w,i32_w];rfl
        refine pure_ (i:=1) (N:=some 18) (v:=?_) (a':=?_) #[y_,y_,n_,n_,n_,n_,n_,n_,n_,n_,n_,n_] rfl rfl (any_of R.1 (by kernel_rfl)) (fun _ _ _ h=>h) (Or.inl ⟨by rfl,?_⟩) ?_ ?_;rotate_left
        ·
         intro w';go_simp;with_reducible rfl
        rotate_left
        ·
         simp only [Act.put,s0_,s1_,s2_,i64_w,i32_w];rfl
        refine pure_ (i:=2) (N:=some 19) (v:=?_) (a':=?_) #[y_,y_,y_,n_,n_,n_,n_,n_,n_,n_,n_,n_] rfl rfl (any_of R.1 (by kernel_rfl)) (fun _ _ _ h=>h) (Or.inl ⟨by rfl,?_⟩) ?_ ?_;rotate_left
        ·
         intro w';go_simp;with_reducible rfl
        rotate_left
        ·
         simp only [Act.put,s0_,s1_,s2_,i64_w,i32_w];rfl
        refine pure_ (i:=5) (N:=some 22) (v:=?_) (a':=?_) #[y_,y_,y_,n_,n_,y_,n_,n_,n_,n_,n_,n_] rfl rfl (any_of R.1 (by kernel_rfl)) (fun _ _ _ h=>h) (Or.inl ⟨by rfl,?_⟩) ?_ ?_;rotate_left
        ·
         intro w';go_simp;with_reducible rfl
        rotate_left
        ·
         simp only [Act.put,s0_,s1_,s2_,i64_w,i32_w];rfl
        refine pure_ (i:=6) (N:=some 23) (v:=?_) (a':=?_) #[y_,y_,y_,n_,n_,y_,y_,n_,n_,n_,n_,n_] rfl rfl (any_of R.1 (by kernel_rfl)) (fun _ _ _ h=>h) (Or.inl ⟨by rfl,?_⟩) ?_ ?_;rotate_left
        ·
         intro w';go_simp;with_reducible rfl
        rotate_left
        ·
         simp only [Act.put,s0_,s1_,s2_,i64_w,i32_w];rfl
        refine pure_ (i:=7) (N:=some 24) (v:=?_) (a':=?_) #[y_,y_,y_,n_,n_,y_,y_,y_,n_,n_,n_,n_] rfl rfl (any_of R.1 (by kernel_rfl)) (fun _ _ _ h=>h) (Or.inl ⟨by rfl,?_⟩) ?_ ?_;rotate_left
        ·
         intro w';go_simp;with_reducible rfl
        rotate_left
        ·
         simp only [Act.put,s0_,s1_,s2_,i64_w,i32_w];rfl
        refine take_ (i:=3) (N:=some 20) (v:=?_) (a':=?_) #[y_,y_,y_,y_,n_,y_,y_,y_,n_,n_,n_,n_] rfl rfl (take_ofW R.1 d9.1 (by kernel_rfl)) (fun _ _ _ h=>h) (Or.inl ⟨by rfl,?_⟩) T ?_ ?_;rotate_left
        ·
         rintro w' ⟨s0,s1,s2,s3⟩;go_simp;with_reducible rfl
        rotate_left
        ·
         simp only [Act.put,s0_,s1_,s2_,i64_w,i32_w];rfl
        refine take_ (i:=8) (N:=some 25) (v:=?_) (a':=?_) #[y_,y_,y_,y_,n_,y_,y_,y_,y_,n_,n_,n_] rfl rfl (take_ofW R.1 d9.1 (by kernel_rfl)) (fun _ _ _ h=>h) (Or.inl ⟨by rfl,?_⟩) T ?_ ?_;rotate_left
        ·
         rintro w' ⟨s0,s1,s2,s3⟩;go_simp;with_reducible rfl
        rotate_left
        ·
         simp only [Act.put,s0_,s1_,s2_,i64_w,i32_w];rfl
        refine one_ (i:=4) (N:=some 21) #[y_,y_,y_,y_,y_,y_,y_,y_,y_,n_,n_,n_] rfl rfl (one_of R.1 (by kernel_rfl)) (by decide) (fun K hK=>?_);refine goes_ Try.func75 (by kernel_rfl) rfl #[.agg #[.slice b3 ((rd_T60 U B).f0).length b4,.slice b5 ((rd_T60 U B).f1).length b6]] (by rfl) rfl rfl (by (try simp only [m0_,m1_,m2_]);first|done|rfl|(simp only [l0_,l1_];rfl)) ?_;with_reducible refine (bellpullref05_vectors.calls (fun k_=>k_ < w.heap.size) _ _ ((rd_T60 U B).f0) (fun k_=>k_ < w.heap.size) _ _ ((rd_T60 U B).f1) d2 _ ?side1 ?side2 A6.1).mono ?_
        (case side1=>exact Kd.V_mk d4.1 (Kd.F_below (Kd.C_F (Kd.heap_int .i64) a2.1) D.1));(case side2=>exact Kd.V_mk d5.1 (Kd.F_below (Kd.C_F (Kd.heap_slice 3 (Kd.heap_int .i64)) a3.1) D.1));rintro e j0 ⟨e2,rfl,X,hb⟩;refine ⟨_,rfl,?_⟩;have J:=mk0 (Kd.N_lower (Kd.N_mono (ok':=fun k_=>True) X (fun k_ hk_=>trivial)) (below_size D.1));replace D:=bst D hb;(try clear hb);(try clear X);refine hK.out _ _ ⟨(bd_ D F),(bd_ D E),(bd_ D I),(bd_ D G)⟩ (fun T=>?_);clear hK K;refine norm_ (a':=?_) ?_ ?_;rotate_left
        ·
         show Act.put _ (some 21) _=_;simp only [Act.put,s0_,s1_,s2_,i64_w,i32_w];rfl
        refine one_ (i:=9) (N:=some 26) #[y_,y_,y_,y_,y_,y_,y_,y_,y_,y_,n_,n_] rfl rfl (one_of R.1 (by kernel_rfl)) (by decide) (fun K hK=>?_);refine goes_ Try.func75 (by kernel_rfl) rfl #[.agg #[.slice b7 ((rd_T60 V B).f0).length b8,.slice b9 ((rd_T60 V B).f1).length c2]] (by rfl) rfl rfl (by (try simp only [m0_,m1_,m2_]);first|done|rfl|(simp only [l0_,l1_];rfl)) ?_;with_reducible refine (bellpullref05_vectors.calls (fun k_=>k_ < w.heap.size) _ _ ((rd_T60 V B).f0) (fun k_=>k_ < w.heap.size) _ _ ((rd_T60 V B).f1) d3 _ ?side1 ?side2 A8.1).mono ?_
        (case side1=>exact Kd.V_mk d6.1 (Kd.F_below (Kd.C_F (Kd.heap_int .i64) a8.1) D.1));(case side2=>exact Kd.V_mk d7.1 (Kd.F_below (Kd.C_F (Kd.heap_slice 3 (Kd.heap_int .i64)) a9.1) D.1));rintro e j1 ⟨g7,rfl,X,hb⟩;refine ⟨_,rfl,?_⟩;have b2:=mk0 (Kd.N_lower (Kd.N_mono (ok':=fun k_=>some k_ ≠ (e2:Value).ownBlock) X (fun k_ hk_=>Or.elim hk_ (fun hs_=>Or.elim hs_ (fun hs_=>fun e_=>Nat.not_le.2 hs_ (Kd.N_base J.1 k_ e_.symm)) (fun hs_=>fun e_=>Nat.not_le.2 hs_ (Kd.N_base J.1 k_ e_.symm))) (fun hn_=>(Kd.fresh' (Kd.N_lt J.1) k_ hn_)))) (below_size D.1));replace J:=mk0 (Kd.N_elder' J.1 (by first|exact Kd.N_base X|exact Kd.S_base X|exact Kd.R_base X) hb);replace D:=bst D hb;(try clear hb);(try clear X);obtain ⟨h2,h3,e7⟩:=Kd.N_slice J.1;(first|subst e7|(injection e7 with f1_ f2_ f3_;have f4_:=f1_.symm;have d8:=f3_.symm;clear f1_ f2_ f3_;subst f4_;subst d8));obtain ⟨h4,h5,e8⟩:=Kd.N_slice b2.1;(first|subst e8|(injection e8 with f1_ f2_ f3_;have f4_:=f1_.symm;have d8:=f3_.symm;clear f1_ f2_ f3_;subst f4_;subst d8));refine hK.out _ _ ⟨(bd_ D F),(bd_ D E),(bd_ D I),(bd_ D G)⟩ (fun T=>?_);clear hK K;refine norm_ (a':=?_) ?_ ?_;rotate_left
        ·
         show Act.put _ (some 26) _=_;simp only [Act.put,s0_,s1_,s2_,i64_w,i32_w];rfl
        refine one_ (i:=10) (N:=some 27) #[y_,y_,y_,y_,y_,y_,y_,y_,y_,y_,y_,n_] rfl rfl (one_of R.1 (by kernel_rfl)) (by decide) (fun K hK=>?_);refine goes_ Try.func74 (by kernel_rfl) rfl #[.slice h2 d2.length h3,.slice h4 d3.length h5] (by rfl) rfl rfl (by (try simp only [m0_,m1_,m2_]);first|done|rfl|(simp only [l0_,l1_];rfl)) ?_;with_reducible refine (bellpullref01_SameLists.calls k1 _ _ d2 _ _ d3 false _ ?side1 ?side2 ?side3 ?side4 A9.1).mono ?_
        (case side1=>repeat (first|exact (Kd.N_reads' J.1).2.2|(with_reducible refine Kd.C_alloc ?_ _)|(with_reducible refine Kd.C_drewN ?_ _)|(with_reducible refine Kd.C_drew ?_)));(case side2=>exact (Kd.N_reads' J.1).2.1);(case side3=>repeat (first|exact (Kd.N_reads' b2.1).2.2|(with_reducible refine Kd.C_alloc ?_ _)|(with_reducible refine Kd.C_drewN ?_ _)|(with_reducible refine Kd.C_drew ?_)));(case side4=>exact (Kd.N_reads' b2.1).2.1);rintro e w' ⟨rfl,⟨nd,rfl⟩⟩;refine ⟨_,rfl,?_⟩;refine hK.out _ _ ⟨((D.1.cell (World.block_lt_of_cell? w _ F)).trans F),((D.1.cell (World.block_lt_of_cell? w _ E)).trans E),((D.1.cell (World.block_lt_of_cell? w _ I)).trans I),((D.1.cell (World.block_lt_of_cell? w _ G)).trans G)⟩ (fun T=>?_);clear hK K;refine norm_ (a':=?_) ?_ ?_;rotate_left
        ·
         show Act.put _ (some 27) _=_;simp only [Act.put,s0_,s1_,s2_,i64_w,i32_w];rfl
        refine pure_ (i:=11) (N:=some 28) (v:=?_) (a':=?_) #[y_,y_,y_,y_,y_,y_,y_,y_,y_,y_,y_,y_] rfl rfl (any_of R.1 (by kernel_rfl)) (fun _ _ _ h=>h) (Or.inl ⟨by rfl,?_⟩) ?_ ?_;rotate_left
        ·
         intro w';go_simp;with_reducible rfl
        rotate_left
        ·
         simp only [Act.put,s0_,s1_,s2_,i64_w,i32_w];rfl
        refine done_ (done_of R.1 (by kernel_rfl)) ?_;try go_wp2
        go_ret;exact ⟨by first|rfl|(simp [errW_none,errW_some] <;> rfl)|(simp [*,errW_none,errW_some] <;> rfl),by repeat (first|(with_reducible first|exact D.1|apply below_alloc|apply pw_below_drewN|apply below_drew1)|exact D.1)⟩
      ·
       rw [if_neg c7] at H;exact absurd H (by simp)
     ·
      rw [if_neg c5] at H;exact absurd H (by simp)
    ·
     rw [if_neg c4] at H;have c4b0:decide (B < (U.length:Int))=false:=decide_eq_false c4;clear c4;obtain rfl:=Option.some.inj H;go_wp2;go_ret;exact ⟨by first|rfl|(simp [errW_none,errW_some] <;> rfl)|(simp [*,errW_none,errW_some] <;> rfl),by exact D.1⟩
 ·
  rw [if_neg c3] at H;have c3b0:((U.length:Int) == (V.length:Int))=false:=beq_eq_false_iff_ne.mpr c3;have c3b1:((U.length:Int) != (V.length:Int))=true:=bne_iff_ne.mpr c3;have c3b2:(U.length == V.length)=false:=by first|simpa using c3|(simp at c3 ⊢;omega)
  obtain rfl:=Option.some.inj H;go_enter Try.func31,Try.ntmps31;go_wp2;go_ret;exact ⟨by first|rfl|(simp [errW_none,errW_some] <;> rfl)|(simp [*,errW_none,errW_some] <;> rfl),by exact D.1⟩
end Go.Proofs.Ytkonljiembcdlaa.PC
