-- Written by pr2.py, a program of this session's, for this claim (through the kit's print).
import Derived.Test.YtgfnmimfoicmmaaPMx0
namespace Go.Proofs.Ytgfnmimfoicmmaa.PM
open Go.Proofs.MyWords Go.RowKit Go.Proofs.YtgfnmimfoicmmaaW.PrintWords Go.Proofs.YtgfnmimfoicmmaaW.PrintLast Go.Proofs.YtgfnmimfoicmmaaW.PrintMore
attribute [local go_sem] max2_int min2_int max_two min_two max_three min_three max_four min_four   -- for this text's walks alone
set_option linter.unusedVariables false
set_option linter.unusedSimpArgs false

attribute [local go_sem] idx67_0 idx67_1 idx67_2 idx67_3
attribute [local go_sem] eqGuard_slices eqlnil36 neqnil36
/-! ### bellpullref04_Pairs: function 64 -/
mutual
def bellpullref04_Pairs.l0 : Nat → Int → Int → Int → List Int → Int → Option (List Int)
  | 0, _, _, _, _, _ => none
  | k + 1, x0, x1, x2, x7, x8 => if x8 ≤ x1 then (bellpullref04_Pairs.l1 k x0 x1 x2 x7 x8 (wrap64 (-x1))) else (some x7)
def bellpullref04_Pairs.l1 : Nat → Int → Int → Int → List Int → Int → Int → Option (List Int)
  | 0, _, _, _, _, _, _ => none
  | k + 1, x0, x1, x2, x7, x8, x9 => if x9 ≤ x1 then (if (wrap64 ((wrap64 (x8 * x8)) + (wrap64 (x9 * x9)))) ≤ x0 then (if x2 = 2 then (if 0 ≤ (wrap64 ((wrap64 (x8 * x8)) + (wrap64 (x9 * x9)))) then (if (wrap64 ((wrap64 (x8 * x8)) + (wrap64 (x9 * x9)))) < (x7.length : Int) then (bellpullref04_Pairs.l1 k x0 x1 x2 (x7.set ((wrap64 ((wrap64 (x8 * x8)) + (wrap64 (x9 * x9)))) : Int).toNat (wrap64 ((rd x7 (wrap64 ((wrap64 (x8 * x8)) + (wrap64 (x9 * x9))))) + 1))) x8 (wrap64 (x9 + 1))) else (none)) else (none)) else (if (Go.bits .and .i64 x8 1) = x2 then (if (Go.bits .and .i64 x9 1) = x2 then (if 0 ≤ (wrap64 ((wrap64 (x8 * x8)) + (wrap64 (x9 * x9)))) then (if (wrap64 ((wrap64 (x8 * x8)) + (wrap64 (x9 * x9)))) < (x7.length : Int) then (bellpullref04_Pairs.l1 k x0 x1 x2 (x7.set ((wrap64 ((wrap64 (x8 * x8)) + (wrap64 (x9 * x9)))) : Int).toNat (wrap64 ((rd x7 (wrap64 ((wrap64 (x8 * x8)) + (wrap64 (x9 * x9))))) + 1))) x8 (wrap64 (x9 + 1))) else (none)) else (none)) else (bellpullref04_Pairs.l1 k x0 x1 x2 x7 x8 (wrap64 (x9 + 1)))) else (bellpullref04_Pairs.l1 k x0 x1 x2 x7 x8 (wrap64 (x9 + 1))))) else (bellpullref04_Pairs.l1 k x0 x1 x2 x7 x8 (wrap64 (x9 + 1)))) else (bellpullref04_Pairs.l0 k x0 x1 x2 x7 (wrap64 (x8 + 1)))
end
def bellpullref04_Pairs.f (k : Nat) (a0 : Int) (a1 : Int) (a2 : Int) : Option (List Int) := if 0 ≤ (wrap64 (a0 + 1)) then (if (wrap64 (a0 + 1) : Int).toNat ≤ 35184372088832 then (bellpullref04_Pairs.l0 k a0 a1 a2 (List.replicate (wrap64 (a0 + 1) : Int).toNat 0) (wrap64 (-a1))) else (none)) else (none)
theorem bellpullref04_Pairs.mono_l : ∀ k, (∀ y0 y1 y2 y3 y4, LeO (bellpullref04_Pairs.l0 k y0 y1 y2 y3 y4) (bellpullref04_Pairs.l0 (k + 1) y0 y1 y2 y3 y4)) ∧ (∀ y0 y1 y2 y3 y4 y5, LeO (bellpullref04_Pairs.l1 k y0 y1 y2 y3 y4 y5) (bellpullref04_Pairs.l1 (k + 1) y0 y1 y2 y3 y4 y5))
  | 0 => ⟨fun _ _ _ _ _ r h => by simp [bellpullref04_Pairs.l0] at h, fun _ _ _ _ _ _ r h => by simp [bellpullref04_Pairs.l1] at h⟩
  | k + 1 => by
    obtain ⟨ih0, ih1⟩ := bellpullref04_Pairs.mono_l k
    refine ⟨?_, ?_⟩
    · intro y0 y1 y2 y3 y4
      unfold bellpullref04_Pairs.l0
      repeat' first
      | (with_reducible exact ih0 _ _ _ _ _)
      | (with_reducible exact ih1 _ _ _ _ _ _)
      | (with_reducible exact LeO.refl _)
      | (with_reducible exact LeO.none _)
      | (with_reducible refine LeO.ite ?_ ?_)
      | (with_reducible refine LeO.bind ?_ (fun _ => ?_))
      | exact ih0 _ _ _ _ _
      | exact ih1 _ _ _ _ _ _
      | exact LeO.none _
      | refine LeO.ite ?_ ?_
      | refine LeO.bind ?_ (fun _ => ?_)
    · intro y0 y1 y2 y3 y4 y5
      unfold bellpullref04_Pairs.l1
      repeat' first
      | (with_reducible exact ih0 _ _ _ _ _)
      | (with_reducible exact ih1 _ _ _ _ _ _)
      | (with_reducible exact LeO.refl _)
      | (with_reducible exact LeO.none _)
      | (with_reducible refine LeO.ite ?_ ?_)
      | (with_reducible refine LeO.bind ?_ (fun _ => ?_))
      | exact ih0 _ _ _ _ _
      | exact ih1 _ _ _ _ _ _
      | exact LeO.none _
      | refine LeO.ite ?_ ?_
      | refine LeO.bind ?_ (fun _ => ?_)
theorem bellpullref04_Pairs.mono : ∀ a0 a1 a2 k, LeO (bellpullref04_Pairs.f k a0 a1 a2) (bellpullref04_Pairs.f (k + 1) a0 a1 a2) := by
  intro a0 a1 a2 k
  obtain ⟨ih0, ih1⟩ := bellpullref04_Pairs.mono_l k
  unfold bellpullref04_Pairs.f
  repeat' first
      | (with_reducible exact ih0 _ _ _ _ _)
      | (with_reducible exact ih1 _ _ _ _ _ _)
      | (with_reducible exact LeO.refl _)
      | (with_reducible exact LeO.none _)
      | (with_reducible refine LeO.ite ?_ ?_)
      | (with_reducible refine LeO.bind ?_ (fun _ => ?_))
      | exact ih0 _ _ _ _ _
      | exact ih1 _ _ _ _ _ _
      | exact LeO.none _
      | refine LeO.ite ?_ ?_
      | refine LeO.bind ?_ (fun _ => ?_)
set_option maxHeartbeats 8000000 in
set_option maxRecDepth 100000 in
theorem bellpullref04_Pairs.calls (k : Nat) (a0 : Int) (a1 : Int) (a2 : Int) (r : List Int) (w : World) (h : bellpullref04_Pairs.f k a0 a1 a2 = some r) :
    Calls Try.prog 64 #[.int .i64 a0, .int .i64 a1, .int .i64 a2] w fun e w' => ∃ v0_ : Value, e = .returned (v0_) ∧ Kd.R (Kd.int .i64) 3 w' w.heap.size (fun _ => True) v0_ r ∧ Below w.heap.size w w' := by
 have HB := mk0 (Below.refl w.heap.size w); have H : (if 0 ≤ (wrap64 (a0 + 1)) then (if (wrap64 (a0 + 1) : Int).toNat ≤ 35184372088832 then (bellpullref04_Pairs.l0 k a0 a1 a2 (List.replicate (wrap64 (a0 + 1) : Int).toNat 0) (wrap64 (-a1))) else (none)) else (none)) = some r := h; clear h; obtain ⟨ji4, hji4⟩ : ∃ j_ : Int, (wrap64 (a0 + 1)) = j_ := ⟨_, rfl⟩
 replace H : (if 0 ≤ (ji4) then (if (ji4 : Int).toNat ≤ 35184372088832 then (bellpullref04_Pairs.l0 k a0 a1 a2 (List.replicate (ji4 : Int).toNat 0) (wrap64 (-a1))) else (none)) else (none)) = some r := by first | (rw [hji4] at H; exact H) | (simp only [hji4] at H ⊢; exact H)
 have hji4w : (IntKind.i64.wrap (a0 + 1)) = ji4 := (i64_w _).trans hji4
 by_cases c5 : 0 ≤ (ji4)
 ·
  rw [if_pos c5] at H; have c5b0 := eq_true c5; have c5b1 : decide (0 ≤ (ji4)) = true := decide_eq_true c5; clear c5
  by_cases c6 : (ji4 : Int).toNat ≤ 35184372088832
  ·
   rw [if_pos c6] at H; have c6b0 := eq_true c6; have c6b1 : decide ((ji4 : Int).toNat ≤ 35184372088832) = true := decide_eq_true c6; clear c6; obtain ⟨y443, hy443⟩ : ∃ y_ : List Int, y_ = (List.replicate (ji4 : Int).toNat 0) := ⟨_, rfl⟩
   replace H : (bellpullref04_Pairs.l0 k a0 a1 a2 y443 (wrap64 (-a1))) = some r := by first | (rw [hy443]; with_reducible exact H) | (have H2_ := (Option.bind_some _ _).symm.trans H; rw [hy443]; with_reducible exact H2_) | (have H2_ := (Option.bind_some _ _).symm.trans H; with_reducible exact H2_) | with_reducible exact H | (rw [hy443]; exact H) | exact H
   have Ny443 := mk0 hy443; clear hy443; have H' := mk0 H; clear H; go_enter Try.func64, Try.ntmps64; go_wp2_with (first | ((with_reducible refine gate_dst (N := 13) rfl ?_); refine Kd.R_make (Kd.int .i64) _ 3 rfl (N := 13) rfl 36 _ _ rfl ji4 rfl rfl Try.underlying36 (.int .i64 0) 8 info3 rfl (by decide) (by omega) 0 (ok := fun _ => True) (okp := fun _ => True) rfl (fun _ hk => hk) trivial (of_decide_eq_true (by first | (with_reducible assumption) | assumption)) (Nat.le_trans (Nat.mul_le_mul_right _ (of_decide_eq_true (by first | (with_reducible assumption) | assumption) : ji4.toNat ≤ 35184372088832)) (by omega)) (Below.refl _ _) (Nat.le_refl _) ?_; intro v444 w7 ho8 hb hg_ hnew_; clear hg_ hnew_; (first | rw [← Ny443.out] at ho8 | (simp only [Int.reduceToNat] at ho8; rw [← Ny443.out] at ho8)); have HO445 := mk0 (Kd.R_lower ho8 (below_size HB.out)); replace HB := bst HB hb; clear hb ho8))
   go_loopg [8] k (fun kq v8 w' => ∃ (x7_1 : List Int) (x8_1 : Int), v8 = .int .i64 x8_1 ∧ Aside0 (bellpullref04_Pairs.l0 kq a0 a1 a2 x7_1 x8_1 = some r) ∧ Aside0 (kq ≤ k) ∧ Aside0 (Kd.R (Kd.int .i64) 3 w' w.heap.size (fun _ => True) v444 x7_1) ∧ Aside0 (Below w.heap.size w w'))
   case atStart => exact ⟨(y443), (wrap64 (-a1)), (by first | rfl | (simp; done) | (simp [*]; done)), H', ⟨Nat.le_refl _⟩, ⟨by (with_reducible repeat (first | apply Kd.R_alloc | apply Kd.R_drewN | apply Kd.R_drew)); exact HO445.out⟩, ⟨by repeat (first | (with_reducible first | exact HB.out | apply below_alloc | apply pw_below_drewN | apply below_drew1) | exact HB.out)⟩⟩
   case round =>
    clear H'; try clear p2
    try clear c5
    try clear c5b0
    try clear c5b1
    try clear c6
    try clear c6b0
    try clear c6b1
    try clear p6
    obtain ⟨x7_1, x8_1, rfl, HA, HK1, HO_7, HB⟩ := hrel; cases gk with
    | zero => exact absurd HA.out (by simp [bellpullref04_Pairs.l0])
    | succ k1 =>
     have H := HA.out; clear HA; simp only [bellpullref04_Pairs.l0] at H
     by_cases c9 : x8_1 ≤ a1
     ·
      rw [if_pos c9] at H; have c9b0 : decide (x8_1 ≤ a1) = true := decide_eq_true c9; clear c9; have H' := mk0 H; clear H; go_wp2
      go_loopg [9] k1 (fun kq v9 w' => ∃ (x7_2 : List Int) (x9_2 : Int), v9 = .int .i64 x9_2 ∧ Aside0 (bellpullref04_Pairs.l1 kq a0 a1 a2 x7_2 x8_1 x9_2 = some r) ∧ Aside0 (kq ≤ k1) ∧ Aside0 (Kd.R (Kd.int .i64) 3 w' w.heap.size (fun _ => True) v444 x7_2) ∧ Aside0 (Below w.heap.size w w'))
      case atStart => exact ⟨(x7_1), (wrap64 (-a1)), (by first | rfl | (simp; done) | (simp [*]; done)), H', ⟨Nat.le_refl _⟩, ⟨by (with_reducible repeat (first | apply Kd.R_alloc | apply Kd.R_drewN | apply Kd.R_drew)); exact HO_7.out⟩, ⟨by repeat (first | (with_reducible first | exact HB.out | apply below_alloc | apply pw_below_drewN | apply below_drew1) | exact HB.out)⟩⟩
      case round =>
       clear H'; try clear p2
       try clear c5
       try clear c5b0
       try clear c5b1
       try clear c6
       try clear c6b0
       try clear c6b1
       try clear p6
       try clear c9
       try clear c9b0
       try clear p2
       try clear p6
       obtain ⟨x7_2, x9_2, rfl, HA, HK2, HO_7, HB⟩ := hrel; cases gk with
       | zero => exact absurd HA.out (by simp [bellpullref04_Pairs.l1])
       | succ k2 =>
        have H := HA.out; clear HA; simp only [bellpullref04_Pairs.l1] at H
        by_cases c10 : x9_2 ≤ a1
        ·
         rw [if_pos c10] at H; have c10b0 : decide (x9_2 ≤ a1) = true := decide_eq_true c10; clear c10
         by_cases c11 : (wrap64 ((wrap64 (x8_1 * x8_1)) + (wrap64 (x9_2 * x9_2)))) ≤ a0
         ·
          rw [if_pos c11] at H; have c11b0 : decide ((wrap64 ((wrap64 (x8_1 * x8_1)) + (wrap64 (x9_2 * x9_2)))) ≤ a0) = true := decide_eq_true c11; clear c11
          by_cases c12 : a2 = 2
          ·
           rw [if_pos c12] at H; have c12b0 : (a2 == 2) = true := beq_iff_eq.mpr c12; have c12b1 : (a2 != 2) = false := bne_eq_false_iff_eq.mpr c12; clear c12; obtain ⟨ji13, hji13⟩ : ∃ j_ : Int, (wrap64 ((wrap64 (x8_1 * x8_1)) + (wrap64 (x9_2 * x9_2)))) = j_ := ⟨_, rfl⟩
           replace H : (if 0 ≤ (ji13) then (if (ji13) < (x7_2.length : Int) then (bellpullref04_Pairs.l1 k2 a0 a1 a2 (x7_2.set ((ji13) : Int).toNat (wrap64 ((rd x7_2 (ji13)) + 1))) x8_1 (wrap64 (x9_2 + 1))) else (none)) else (none)) = some r := by first | (rw [hji13] at H; exact H) | (simp only [hji13] at H ⊢; exact H)
           (try rw [hji13] at c11b0); have hji13w : (IntKind.i64.wrap ((wrap64 (x8_1 * x8_1)) + (wrap64 (x9_2 * x9_2)))) = ji13 := (i64_w _).trans hji13
           by_cases c14 : 0 ≤ (ji13)
           ·
            rw [if_pos c14] at H; have c14b0 : decide (0 ≤ (ji13)) = true := decide_eq_true c14; clear c14
            by_cases c15 : (ji13) < (x7_2.length : Int)
            ·
             rw [if_pos c15] at H; have c15b0 : decide ((ji13) < (x7_2.length : Int)) = true := decide_eq_true c15; clear c15; obtain ⟨y447, hy447⟩ : ∃ y_ : List Int, y_ = (x7_2.set ((ji13) : Int).toNat (wrap64 ((rd x7_2 (ji13)) + 1))) := ⟨_, rfl⟩
             replace H : (bellpullref04_Pairs.l1 k2 a0 a1 a2 y447 x8_1 (wrap64 (x9_2 + 1))) = some r := by first | (rw [hy447]; with_reducible exact H) | (have H2_ := (Option.bind_some _ _).symm.trans H; rw [hy447]; with_reducible exact H2_) | (have H2_ := (Option.bind_some _ _).symm.trans H; with_reducible exact H2_) | with_reducible exact H | (rw [hy447]; exact H) | exact H
             have Ny447 := mk0 hy447; clear hy447; have H' := mk0 H; clear H; obtain ⟨Ao17, co17, eo17⟩ := Kd.R_slice HO_7.out; subst eo17; have p446 : 0 ≤ ((ji13) : Int) := of_decide_eq_true (by first | (with_reducible assumption) | assumption); have q446 : (ji13) < (x7_2.length : Int) := of_decide_eq_true (by first | (with_reducible assumption) | assumption); obtain ⟨ad446, e446, hx446_0⟩ := Kd.at_int (Kd.R_reads' HO_7.out).2.2 (ji13) p446 q446; cases e446; replace p446 := eq_true p446; replace q446 := eq_true q446; have p16 : 0 ≤ ((ji13) : Int) := of_decide_eq_true (by first | (with_reducible assumption) | assumption); have q16 : ((ji13) : Int) < ((x7_2.length : Int) : Int) := of_decide_eq_true (by first | (with_reducible assumption) | assumption); obtain ⟨go16, co16, eo16, gb16, gl16, cl16, HG16⟩ := Kd.R_form HO_7.out (by omega); (first | cases eo16 | (injection eo16 with ea_ en_ ec_; (first | subst ea_ | (injection ea_ with ea_; subst ea_)); subst ec_; clear en_)); have GB16 := mk0 gb16; have GG16 := mk0 HG16; clear gb16 gl16 HG16; (first | simp only [add_plain] at hx446_0 | skip); obtain ⟨hx16_0, hf16_0⟩ := Kd.R_celln 0 HO_7.out ((ji13) : Int) p16 q16; replace p16 := eq_true p16; replace q16 := eq_true q16; have HP18 := Kd.R_putg HO_7.out ((ji13) : Int) (wrap64 ((rd x7_2 (ji13)) + 1)); go_wp2_with (first | ((with_reducible refine gate_store (t := 3) (p := 59) rfl ?_); refine store_event (t := 3) (p := 59) (v := ?vo_w19) (w1 := (wr.setCell ⟨go16, ((ji13) : Int).toNat, none⟩ (.int .i64 (wrap64 ((rd x7_2 (ji13)) + 1))))) ?hg ?ho ?hn ?hr ?_; (case ho => rfl); (case hg => rfl); (case hn => rfl); (case hr => first | (go_simp; done) | (go_simp; rfl)); intro w19 hw; have hg : wr.grownBy w19 (some go16) := (by rw [hw]; exact HP18.2); have hp_ : Kd.R (Kd.int .i64) 3 w19 w.heap.size (fun _ => True) (.slice (some ⟨go16, 0, none⟩) x7_2.length co17) y447 := (by rw [hw, Ny447.out]; exact HP18.1); clear HP18; replace HO_7 := mk0 (hp_); replace HB := mk0 ((by rw [hw]; exact below_set (HB.out) GB16.out : Below w.heap.size w w19)); clear hg hw hp_)); go_roundg k2
             case measure => have := HK1.out; have := HK2.out; omega
             case rel => exact ⟨(y447), (wrap64 (x9_2 + 1)), (by first | rfl | (simp; done) | (simp [*]; done)), H', ⟨by have := HK1.out; have := HK2.out; omega⟩, ⟨by (with_reducible repeat (first | apply Kd.R_alloc | apply Kd.R_drewN | apply Kd.R_drew)); exact HO_7.out⟩, ⟨by repeat (first | (with_reducible first | exact HB.out | apply below_alloc | apply pw_below_drewN | apply below_drew1) | exact HB.out)⟩⟩
            ·
             rw [if_neg c15] at H; exact absurd H (by simp)
           ·
            rw [if_neg c14] at H; exact absurd H (by simp)
          ·
           rw [if_neg c12] at H; have c12b0 : (a2 == 2) = false := beq_eq_false_iff_ne.mpr c12; have c12b1 : (a2 != 2) = true := bne_iff_ne.mpr c12
           by_cases c20 : (Go.bits .and .i64 x8_1 1) = a2
           ·
            rw [if_pos c20] at H; have c20b0 : ((Go.bits .and .i64 x8_1 1) == a2) = true := beq_iff_eq.mpr c20; have c20b1 : ((Go.bits .and .i64 x8_1 1) != a2) = false := bne_eq_false_iff_eq.mpr c20; clear c20
            by_cases c21 : (Go.bits .and .i64 x9_2 1) = a2
            ·
             rw [if_pos c21] at H; have c21b0 : ((Go.bits .and .i64 x9_2 1) == a2) = true := beq_iff_eq.mpr c21; have c21b1 : ((Go.bits .and .i64 x9_2 1) != a2) = false := bne_eq_false_iff_eq.mpr c21; clear c21; obtain ⟨ji22, hji22⟩ : ∃ j_ : Int, (wrap64 ((wrap64 (x8_1 * x8_1)) + (wrap64 (x9_2 * x9_2)))) = j_ := ⟨_, rfl⟩
             replace H : (if 0 ≤ (ji22) then (if (ji22) < (x7_2.length : Int) then (bellpullref04_Pairs.l1 k2 a0 a1 a2 (x7_2.set ((ji22) : Int).toNat (wrap64 ((rd x7_2 (ji22)) + 1))) x8_1 (wrap64 (x9_2 + 1))) else (none)) else (none)) = some r := by first | (rw [hji22] at H; exact H) | (simp only [hji22] at H ⊢; exact H)
             (try rw [hji22] at c11b0); have hji22w : (IntKind.i64.wrap ((wrap64 (x8_1 * x8_1)) + (wrap64 (x9_2 * x9_2)))) = ji22 := (i64_w _).trans hji22
             by_cases c23 : 0 ≤ (ji22)
             ·
              rw [if_pos c23] at H; have c23b0 : decide (0 ≤ (ji22)) = true := decide_eq_true c23; clear c23
              by_cases c24 : (ji22) < (x7_2.length : Int)
              ·
               rw [if_pos c24] at H; have c24b0 : decide ((ji22) < (x7_2.length : Int)) = true := decide_eq_true c24; clear c24; obtain ⟨y449, hy449⟩ : ∃ y_ : List Int, y_ = (x7_2.set ((ji22) : Int).toNat (wrap64 ((rd x7_2 (ji22)) + 1))) := ⟨_, rfl⟩
               replace H : (bellpullref04_Pairs.l1 k2 a0 a1 a2 y449 x8_1 (wrap64 (x9_2 + 1))) = some r := by first | (rw [hy449]; with_reducible exact H) | (have H2_ := (Option.bind_some _ _).symm.trans H; rw [hy449]; with_reducible exact H2_) | (have H2_ := (Option.bind_some _ _).symm.trans H; with_reducible exact H2_) | with_reducible exact H | (rw [hy449]; exact H) | exact H
               have Ny449 := mk0 hy449; clear hy449; have H' := mk0 H; clear H; obtain ⟨Ao26, co26, eo26⟩ := Kd.R_slice HO_7.out; subst eo26; have p448 : 0 ≤ ((ji22) : Int) := of_decide_eq_true (by first | (with_reducible assumption) | assumption); have q448 : (ji22) < (x7_2.length : Int) := of_decide_eq_true (by first | (with_reducible assumption) | assumption); obtain ⟨ad448, e448, hx448_0⟩ := Kd.at_int (Kd.R_reads' HO_7.out).2.2 (ji22) p448 q448; cases e448; replace p448 := eq_true p448; replace q448 := eq_true q448; have p25 : 0 ≤ ((ji22) : Int) := of_decide_eq_true (by first | (with_reducible assumption) | assumption); have q25 : ((ji22) : Int) < ((x7_2.length : Int) : Int) := of_decide_eq_true (by first | (with_reducible assumption) | assumption); obtain ⟨go25, co25, eo25, gb25, gl25, cl25, HG25⟩ := Kd.R_form HO_7.out (by omega); (first | cases eo25 | (injection eo25 with ea_ en_ ec_; (first | subst ea_ | (injection ea_ with ea_; subst ea_)); subst ec_; clear en_)); have GB25 := mk0 gb25; have GG25 := mk0 HG25; clear gb25 gl25 HG25; (first | simp only [add_plain] at hx448_0 | skip); obtain ⟨hx25_0, hf25_0⟩ := Kd.R_celln 0 HO_7.out ((ji22) : Int) p25 q25; replace p25 := eq_true p25; replace q25 := eq_true q25; have HP27 := Kd.R_putg HO_7.out ((ji22) : Int) (wrap64 ((rd x7_2 (ji22)) + 1)); go_wp2_with (first | ((with_reducible refine gate_store (t := 3) (p := 59) rfl ?_); refine store_event (t := 3) (p := 59) (v := ?vo_w28) (w1 := (wr.setCell ⟨go25, ((ji22) : Int).toNat, none⟩ (.int .i64 (wrap64 ((rd x7_2 (ji22)) + 1))))) ?hg ?ho ?hn ?hr ?_; (case ho => rfl); (case hg => rfl); (case hn => rfl); (case hr => first | (go_simp; done) | (go_simp; rfl)); intro w28 hw; have hg : wr.grownBy w28 (some go25) := (by rw [hw]; exact HP27.2); have hp_ : Kd.R (Kd.int .i64) 3 w28 w.heap.size (fun _ => True) (.slice (some ⟨go25, 0, none⟩) x7_2.length co26) y449 := (by rw [hw, Ny449.out]; exact HP27.1); clear HP27; replace HO_7 := mk0 (hp_); replace HB := mk0 ((by rw [hw]; exact below_set (HB.out) GB25.out : Below w.heap.size w w28)); clear hg hw hp_)); go_roundg k2
               case measure => have := HK1.out; have := HK2.out; omega
               case rel => exact ⟨(y449), (wrap64 (x9_2 + 1)), (by first | rfl | (simp; done) | (simp [*]; done)), H', ⟨by have := HK1.out; have := HK2.out; omega⟩, ⟨by (with_reducible repeat (first | apply Kd.R_alloc | apply Kd.R_drewN | apply Kd.R_drew)); exact HO_7.out⟩, ⟨by repeat (first | (with_reducible first | exact HB.out | apply below_alloc | apply pw_below_drewN | apply below_drew1) | exact HB.out)⟩⟩
              ·
               rw [if_neg c24] at H; exact absurd H (by simp)
             ·
              rw [if_neg c23] at H; exact absurd H (by simp)
            ·
             rw [if_neg c21] at H; have c21b0 : ((Go.bits .and .i64 x9_2 1) == a2) = false := beq_eq_false_iff_ne.mpr c21; have c21b1 : ((Go.bits .and .i64 x9_2 1) != a2) = true := bne_iff_ne.mpr c21; have H' := mk0 H; clear H; go_wp2; go_roundg k2
             case measure => have := HK1.out; have := HK2.out; omega
             case rel => exact ⟨(x7_2), (wrap64 (x9_2 + 1)), (by first | rfl | (simp; done) | (simp [*]; done)), H', ⟨by have := HK1.out; have := HK2.out; omega⟩, ⟨by (with_reducible repeat (first | apply Kd.R_alloc | apply Kd.R_drewN | apply Kd.R_drew)); exact HO_7.out⟩, ⟨by repeat (first | (with_reducible first | exact HB.out | apply below_alloc | apply pw_below_drewN | apply below_drew1) | exact HB.out)⟩⟩
           ·
            rw [if_neg c20] at H; have c20b0 : ((Go.bits .and .i64 x8_1 1) == a2) = false := beq_eq_false_iff_ne.mpr c20; have c20b1 : ((Go.bits .and .i64 x8_1 1) != a2) = true := bne_iff_ne.mpr c20; have H' := mk0 H; clear H; go_wp2; go_roundg k2
            case measure => have := HK1.out; have := HK2.out; omega
            case rel => exact ⟨(x7_2), (wrap64 (x9_2 + 1)), (by first | rfl | (simp; done) | (simp [*]; done)), H', ⟨by have := HK1.out; have := HK2.out; omega⟩, ⟨by (with_reducible repeat (first | apply Kd.R_alloc | apply Kd.R_drewN | apply Kd.R_drew)); exact HO_7.out⟩, ⟨by repeat (first | (with_reducible first | exact HB.out | apply below_alloc | apply pw_below_drewN | apply below_drew1) | exact HB.out)⟩⟩
         ·
          rw [if_neg c11] at H; have c11b0 : decide ((wrap64 ((wrap64 (x8_1 * x8_1)) + (wrap64 (x9_2 * x9_2)))) ≤ a0) = false := decide_eq_false c11; clear c11; have H' := mk0 H; clear H; go_wp2; go_roundg k2
          case measure => have := HK1.out; have := HK2.out; omega
          case rel => exact ⟨(x7_2), (wrap64 (x9_2 + 1)), (by first | rfl | (simp; done) | (simp [*]; done)), H', ⟨by have := HK1.out; have := HK2.out; omega⟩, ⟨by (with_reducible repeat (first | apply Kd.R_alloc | apply Kd.R_drewN | apply Kd.R_drew)); exact HO_7.out⟩, ⟨by repeat (first | (with_reducible first | exact HB.out | apply below_alloc | apply pw_below_drewN | apply below_drew1) | exact HB.out)⟩⟩
        ·
         rw [if_neg c10] at H; have c10b0 : decide (x9_2 ≤ a1) = false := decide_eq_false c10; clear c10; have H' := mk0 H; clear H; go_wp2; go_roundg k2
         case measure => have := HK1.out; have := HK2.out; omega
         case rel => exact ⟨(x7_2), (wrap64 (x8_1 + 1)), (by first | rfl | (simp; done) | (simp [*]; done)), H', ⟨by have := HK1.out; have := HK2.out; omega⟩, ⟨by (with_reducible repeat (first | apply Kd.R_alloc | apply Kd.R_drewN | apply Kd.R_drew)); exact HO_7.out⟩, ⟨by repeat (first | (with_reducible first | exact HB.out | apply below_alloc | apply pw_below_drewN | apply below_drew1) | exact HB.out)⟩⟩
     ·
      rw [if_neg c9] at H; have c9b0 : decide (x8_1 ≤ a1) = false := decide_eq_false c9; clear c9; obtain rfl := Option.some.inj H; go_wp2; go_ret; exact ⟨_, by first | rfl | (simp [errW_none, errW_some] <;> rfl) | (simp only [← hji4]; first | rfl | (simp [errW_none, errW_some] <;> rfl)) | (simp [*, errW_none, errW_some] <;> rfl), by (with_reducible repeat (first | apply Kd.R_alloc | apply Kd.R_drewN | apply Kd.R_drew)); exact HO_7.out, by repeat (first | (with_reducible first | exact HB.out | apply below_alloc | apply pw_below_drewN | apply below_drew1) | exact HB.out)⟩
  ·
   rw [if_neg c6] at H; exact absurd H (by simp)
 ·
  rw [if_neg c5] at H; exact absurd H (by simp)
end Go.Proofs.Ytgfnmimfoicmmaa.PM
