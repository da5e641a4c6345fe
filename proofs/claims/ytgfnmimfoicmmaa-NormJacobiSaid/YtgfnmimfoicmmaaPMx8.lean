-- Written by pr2.py, a program of this session's, for this claim (through the kit's print).
import Derived.Test.YtgfnmimfoicmmaaPMx0
import Derived.Test.YtgfnmimfoicmmaaPMx7
namespace Go.Proofs.Ytgfnmimfoicmmaa.PM
open Go.Proofs.MyWords Go.RowKit Go.Proofs.YtgfnmimfoicmmaaW.PrintWords Go.Proofs.YtgfnmimfoicmmaaW.PrintLast Go.Proofs.YtgfnmimfoicmmaaW.PrintMore
attribute [local go_sem] max2_int min2_int max_two min_two max_three min_three max_four min_four   -- for this text's walks alone
set_option linter.unusedVariables false
set_option linter.unusedSimpArgs false

attribute [local go_sem] idx67_0 idx67_1 idx67_2 idx67_3
attribute [local go_sem] eqGuard_slices eqlnil36 neqnil36
/-! ### bellpulllaw04_NormJacobi: function 10 -/
mutual
def bellpulllaw04_NormJacobi.l0 : Nat → Int → Int → Int → Int → Int → Int → Int → Int → Option (Bool)
  | 0, _, _, _, _, _, _, _, _ => none
  | k + 1, x3, x4, x5, x6, x7, x8, x9, x10 => if x10 ≤ x3 then (if x10 = 0 then (none) else (if (Int.tmod x3 x10) = 0 then (bellpulllaw04_NormJacobi.j1 k x3 x4 x5 x6 x7 x8 x9 x10 ((Int.tmod x10 4) != 0)) else (bellpulllaw04_NormJacobi.j1 k x3 x4 x5 x6 x7 x8 x9 x10 false))) else (if x5 = 0 then (if x7 = 0 then (if x4 = (wrap64 (8 * x8)) then (if x6 = (wrap64 (24 * x9)) then ((bellpulllaw04_lives.f k).bind fun t393 => (some t393)) else (none)) else (none)) else (none)) else (none))
def bellpulllaw04_NormJacobi.j1 : Nat → Int → Int → Int → Int → Int → Int → Int → Int → Bool → Option (Bool)
  | 0, _, _, _, _, _, _, _, _, _ => none
  | k + 1, x3, x4, x5, x6, x7, x8, x9, x10, x38 => if x38 = true then (if x10 = 0 then (none) else (if (Int.tmod x3 x10) = 0 then (if (Int.tmod x10 2) = 1 then (bellpulllaw04_NormJacobi.l0 k x3 x4 x5 x6 x7 (wrap64 (x8 + x10)) (wrap64 (x9 + x10)) (wrap64 (x10 + 1))) else (bellpulllaw04_NormJacobi.l0 k x3 x4 x5 x6 x7 (wrap64 (x8 + x10)) x9 (wrap64 (x10 + 1)))) else (bellpulllaw04_NormJacobi.l0 k x3 x4 x5 x6 x7 (wrap64 (x8 + x10)) x9 (wrap64 (x10 + 1))))) else (if x10 = 0 then (none) else (if (Int.tmod x3 x10) = 0 then (if (Int.tmod x10 2) = 1 then (bellpulllaw04_NormJacobi.l0 k x3 x4 x5 x6 x7 x8 (wrap64 (x9 + x10)) (wrap64 (x10 + 1))) else (bellpulllaw04_NormJacobi.l0 k x3 x4 x5 x6 x7 x8 x9 (wrap64 (x10 + 1)))) else (bellpulllaw04_NormJacobi.l0 k x3 x4 x5 x6 x7 x8 x9 (wrap64 (x10 + 1)))))
end
def bellpulllaw04_NormJacobi.f (k : Nat) (a0 : Int) : Option (Bool) := (norm_Count.f k (wrap64 ((Int.tmod (wrap64 (a0)) 10000) + 1))).bind fun bt389 => ((norm_Hurwitz.f k (wrap64 ((Int.tmod (wrap64 (a0)) 10000) + 1))).bind fun bt391 => (bellpulllaw04_NormJacobi.l0 k (wrap64 ((Int.tmod (wrap64 (a0)) 10000) + 1)) bt389.1 bt389.2 bt391.1 bt391.2 0 0 1))
theorem bellpulllaw04_NormJacobi.mono_l : ∀ k, (∀ y0 y1 y2 y3 y4 y5 y6 y7, LeO (bellpulllaw04_NormJacobi.l0 k y0 y1 y2 y3 y4 y5 y6 y7) (bellpulllaw04_NormJacobi.l0 (k + 1) y0 y1 y2 y3 y4 y5 y6 y7)) ∧ (∀ y0 y1 y2 y3 y4 y5 y6 y7 y8, LeO (bellpulllaw04_NormJacobi.j1 k y0 y1 y2 y3 y4 y5 y6 y7 y8) (bellpulllaw04_NormJacobi.j1 (k + 1) y0 y1 y2 y3 y4 y5 y6 y7 y8))
  | 0 => ⟨fun _ _ _ _ _ _ _ _ r h => by simp [bellpulllaw04_NormJacobi.l0] at h, fun _ _ _ _ _ _ _ _ _ r h => by simp [bellpulllaw04_NormJacobi.j1] at h⟩
  | k + 1 => by
    obtain ⟨ih0, ih1⟩ := bellpulllaw04_NormJacobi.mono_l k
    refine ⟨?_, ?_⟩
    · intro y0 y1 y2 y3 y4 y5 y6 y7
      unfold bellpulllaw04_NormJacobi.l0
      repeat' first
      | (with_reducible exact ih0 _ _ _ _ _ _ _ _)
      | (with_reducible exact ih1 _ _ _ _ _ _ _ _ _)
      | (with_reducible exact bellpulllaw04_lives.mono _)
      | (with_reducible exact norm_Count.mono _ _)
      | (with_reducible exact norm_Hurwitz.mono _ _)
      | (with_reducible exact LeO.refl _)
      | (with_reducible exact LeO.none _)
      | (with_reducible refine LeO.ite ?_ ?_)
      | (with_reducible refine LeO.bind ?_ (fun _ => ?_))
      | exact ih0 _ _ _ _ _ _ _ _
      | exact ih1 _ _ _ _ _ _ _ _ _
      | exact bellpulllaw04_lives.mono _
      | exact norm_Count.mono _ _
      | exact norm_Hurwitz.mono _ _
      | exact LeO.none _
      | refine LeO.ite ?_ ?_
      | refine LeO.bind ?_ (fun _ => ?_)
    · intro y0 y1 y2 y3 y4 y5 y6 y7 y8
      unfold bellpulllaw04_NormJacobi.j1
      repeat' first
      | (with_reducible exact ih0 _ _ _ _ _ _ _ _)
      | (with_reducible exact ih1 _ _ _ _ _ _ _ _ _)
      | (with_reducible exact bellpulllaw04_lives.mono _)
      | (with_reducible exact norm_Count.mono _ _)
      | (with_reducible exact norm_Hurwitz.mono _ _)
      | (with_reducible exact LeO.refl _)
      | (with_reducible exact LeO.none _)
      | (with_reducible refine LeO.ite ?_ ?_)
      | (with_reducible refine LeO.bind ?_ (fun _ => ?_))
      | exact ih0 _ _ _ _ _ _ _ _
      | exact ih1 _ _ _ _ _ _ _ _ _
      | exact bellpulllaw04_lives.mono _
      | exact norm_Count.mono _ _
      | exact norm_Hurwitz.mono _ _
      | exact LeO.none _
      | refine LeO.ite ?_ ?_
      | refine LeO.bind ?_ (fun _ => ?_)
theorem bellpulllaw04_NormJacobi.mono : ∀ a0 k, LeO (bellpulllaw04_NormJacobi.f k a0) (bellpulllaw04_NormJacobi.f (k + 1) a0) := by
  intro a0 k
  obtain ⟨ih0, ih1⟩ := bellpulllaw04_NormJacobi.mono_l k
  unfold bellpulllaw04_NormJacobi.f
  repeat' first
      | (with_reducible exact ih0 _ _ _ _ _ _ _ _)
      | (with_reducible exact ih1 _ _ _ _ _ _ _ _ _)
      | (with_reducible exact bellpulllaw04_lives.mono _)
      | (with_reducible exact norm_Count.mono _ _)
      | (with_reducible exact norm_Hurwitz.mono _ _)
      | (with_reducible exact LeO.refl _)
      | (with_reducible exact LeO.none _)
      | (with_reducible refine LeO.ite ?_ ?_)
      | (with_reducible refine LeO.bind ?_ (fun _ => ?_))
      | exact ih0 _ _ _ _ _ _ _ _
      | exact ih1 _ _ _ _ _ _ _ _ _
      | exact bellpulllaw04_lives.mono _
      | exact norm_Count.mono _ _
      | exact norm_Hurwitz.mono _ _
      | exact LeO.none _
      | refine LeO.ite ?_ ?_
      | refine LeO.bind ?_ (fun _ => ?_)
set_option maxHeartbeats 8000000 in
set_option maxRecDepth 100000 in
theorem bellpulllaw04_NormJacobi.calls (k : Nat) (a0 : Int) (r : Bool) (w : World) (h : bellpulllaw04_NormJacobi.f k a0 = some r) :
    Calls Try.prog 10 #[.int .u16 a0] w fun e w' => e = .returned (.bool r) ∧ Below w.heap.size w w' := by
 have HB := mk0 (Below.refl w.heap.size w); have H : ((norm_Count.f k (wrap64 ((Int.tmod (wrap64 (a0)) 10000) + 1))).bind fun bt389 => ((norm_Hurwitz.f k (wrap64 ((Int.tmod (wrap64 (a0)) 10000) + 1))).bind fun bt391 => (bellpulllaw04_NormJacobi.l0 k (wrap64 ((Int.tmod (wrap64 (a0)) 10000) + 1)) bt389.1 bt389.2 bt391.1 bt391.2 0 0 1))) = some r := h; clear h; replace H := Option.bind_eq_some_iff.mp H; obtain ⟨⟨t389, t390⟩, A20, H⟩ := H; (try dsimp only at H); have A2 := mk0 A20; clear A20; replace H := Option.bind_eq_some_iff.mp H; obtain ⟨⟨t391, t392⟩, A30, H⟩ := H; (try dsimp only at H); have A3 := mk0 A30; clear A30; have H' := mk0 H; clear H; go_enter Try.func10, Try.ntmps10; go_wp2_with (first | ((with_reducible refine gate_callee (f := 28) rfl ?_); refine goesL_ (some 17) rfl rfl Try.func28 (by kernel_rfl) rfl #[.int .i64 (wrap64 ((Int.tmod (wrap64 (a0)) 10000) + 1))] rfl (by (try simp only [List.map_toArray, List.map_cons, List.map_nil]); first | done | rfl | (simp only [List.length_drop, List.length_take]; rfl)) ?_; (with_reducible refine (norm_Count.calls k (wrap64 ((Int.tmod (wrap64 (a0)) 10000) + 1)) t389 t390 _ A2.out).mono ?_); rintro e w4 ⟨rfl, hb⟩; refine ⟨_, rfl, ?_⟩; replace HB := bst HB hb; (try clear hb)) | ((with_reducible refine gate_callee (f := 29) rfl ?_); refine goesL_ (some 22) rfl rfl Try.func29 (by kernel_rfl) rfl #[.int .i64 (wrap64 ((Int.tmod (wrap64 (a0)) 10000) + 1))] rfl (by (try simp only [List.map_toArray, List.map_cons, List.map_nil]); first | done | rfl | (simp only [List.length_drop, List.length_take]; rfl)) ?_; (with_reducible refine (norm_Hurwitz.calls k (wrap64 ((Int.tmod (wrap64 (a0)) 10000) + 1)) t391 t392 _ A3.out).mono ?_); rintro e w5 ⟨rfl, hb⟩; refine ⟨_, rfl, ?_⟩; replace HB := bst HB hb; (try clear hb)))
 go_loopg [8, 9, 10] k (fun kq v8 v9 v10 w' => ∃ (x8_1 : Int) (x9_1 : Int) (x10_1 : Int), v8 = .int .i64 x8_1 ∧ v9 = .int .i64 x9_1 ∧ v10 = .int .i64 x10_1 ∧ Aside0 (bellpulllaw04_NormJacobi.l0 kq (wrap64 ((Int.tmod (wrap64 (a0)) 10000) + 1)) t389 t390 t391 t392 x8_1 x9_1 x10_1 = some r) ∧ Aside0 (kq ≤ k) ∧ Aside0 (Below w.heap.size w w'))
 case atStart => exact ⟨(0), (0), (1), (by first | rfl | (simp; done) | (simp [*]; done)), (by first | rfl | (simp; done) | (simp [*]; done)), (by first | rfl | (simp; done) | (simp [*]; done)), H', ⟨Nat.le_refl _⟩, ⟨by repeat (first | (with_reducible first | exact HB.out | apply below_alloc | apply pw_below_drewN | apply below_drew1) | exact HB.out)⟩⟩
 case round =>
  clear H'; try clear c1
  try clear c2
  try clear p2
  obtain ⟨x8_1, x9_1, x10_1, rfl, rfl, rfl, HA, HK1, HB⟩ := hrel; cases gk with
  | zero => exact absurd HA.out (by simp [bellpulllaw04_NormJacobi.l0])
  | succ k1 =>
   have H := HA.out; clear HA; simp only [bellpulllaw04_NormJacobi.l0] at H
   by_cases c6 : x10_1 ≤ (wrap64 ((Int.tmod (wrap64 (a0)) 10000) + 1))
   ·
    rw [if_pos c6] at H; have c6b0 : decide (x10_1 ≤ (wrap64 ((Int.tmod (wrap64 (a0)) 10000) + 1))) = true := decide_eq_true c6; clear c6; have HC7 := mk0 H; clear H; go_upto_region 8 with (fail)
    go_cut [38] (fun v38 wc => ∃ (kq : Nat) (x38_6 : Bool), v38 = .bool x38_6 ∧ Aside0 (bellpulllaw04_NormJacobi.j1 kq (wrap64 ((Int.tmod (wrap64 (a0)) 10000) + 1)) t389 t390 t391 t392 x8_1 x9_1 x10_1 x38_6 = some r) ∧ Aside0 (kq ≤ k1) ∧ Aside0 (Below w.heap.size w wc))
    case first =>
     have H := HC7.out; clear HC7
     by_cases c8 : x10_1 = 0
     ·
      rw [if_pos c8] at H; exact absurd H (by simp)
     ·
      rw [if_neg c8] at H; have c8b0 : (x10_1 == 0) = false := beq_eq_false_iff_ne.mpr c8; have c8b1 : (x10_1 != 0) = true := bne_iff_ne.mpr c8; (first | rw [c8b0] | (simp only [i64_w, i32_w]; rw [c8b0]) | skip)
      by_cases c9 : (Int.tmod (wrap64 ((Int.tmod (wrap64 (a0)) 10000) + 1)) x10_1) = 0
      ·
       rw [if_pos c9] at H; have c9b0 : ((Int.tmod (wrap64 ((Int.tmod (wrap64 (a0)) 10000) + 1)) x10_1) == 0) = true := beq_iff_eq.mpr c9; have c9b1 : ((Int.tmod (wrap64 ((Int.tmod (wrap64 (a0)) 10000) + 1)) x10_1) != 0) = false := bne_eq_false_iff_eq.mpr c9; clear c9; have H' := mk0 H; clear H; go_wp2; go_meet
       case rel => exact ⟨_, (((Int.tmod x10_1 4) != 0)), (by first | rfl | (simp; done) | (simp [*]; done)), H', ⟨by have := HK1.out; first | omega | exact Nat.le_refl _⟩, ⟨by repeat (first | (with_reducible first | exact HB.out | apply below_alloc | apply pw_below_drewN | apply below_drew1) | exact HB.out)⟩⟩
      ·
       rw [if_neg c9] at H; have c9b0 : ((Int.tmod (wrap64 ((Int.tmod (wrap64 (a0)) 10000) + 1)) x10_1) == 0) = false := beq_eq_false_iff_ne.mpr c9; have c9b1 : ((Int.tmod (wrap64 ((Int.tmod (wrap64 (a0)) 10000) + 1)) x10_1) != 0) = true := bne_iff_ne.mpr c9; have H' := mk0 H; clear H; go_wp2; go_meet
       case rel => exact ⟨_, (false), (by first | rfl | (simp; done) | (simp [*]; done)), H', ⟨by have := HK1.out; first | omega | exact Nat.le_refl _⟩, ⟨by repeat (first | (with_reducible first | exact HB.out | apply below_alloc | apply pw_below_drewN | apply below_drew1) | exact HB.out)⟩⟩
    case rest =>
     clear HC7; try clear c1
     try clear c2
     try clear p2
     try clear c6
     try clear c6b0
     try clear p6
     try clear c8
     try clear c8b0
     try clear c8b1
     try clear c9
     try clear c9b0
     try clear c9b1
     try clear p2
     obtain ⟨kq, x38_6, rfl, HA, HJ6, HB⟩ := hcut; cases kq with
     | zero => exact absurd HA.out (by simp [bellpulllaw04_NormJacobi.j1])
     | succ kj6 =>
      have H := HA.out; clear HA; simp only [bellpulllaw04_NormJacobi.j1] at H
      by_cases c10 : x38_6 = true
      ·
       subst c10; have H1 : (if x10_1 = 0 then (none) else (if (Int.tmod (wrap64 ((Int.tmod (wrap64 (a0)) 10000) + 1)) x10_1) = 0 then (if (Int.tmod x10_1 2) = 1 then (bellpulllaw04_NormJacobi.l0 kj6 (wrap64 ((Int.tmod (wrap64 (a0)) 10000) + 1)) t389 t390 t391 t392 (wrap64 (x8_1 + x10_1)) (wrap64 (x9_1 + x10_1)) (wrap64 (x10_1 + 1))) else (bellpulllaw04_NormJacobi.l0 kj6 (wrap64 ((Int.tmod (wrap64 (a0)) 10000) + 1)) t389 t390 t391 t392 (wrap64 (x8_1 + x10_1)) x9_1 (wrap64 (x10_1 + 1)))) else (bellpulllaw04_NormJacobi.l0 kj6 (wrap64 ((Int.tmod (wrap64 (a0)) 10000) + 1)) t389 t390 t391 t392 (wrap64 (x8_1 + x10_1)) x9_1 (wrap64 (x10_1 + 1))))) = some r := by rw [if_pos rfl] at H; exact H
       clear H; have H := H1; clear H1
       by_cases c11 : x10_1 = 0
       ·
        rw [if_pos c11] at H; exact absurd H (by simp)
       ·
        rw [if_neg c11] at H; have c11b0 : (x10_1 == 0) = false := beq_eq_false_iff_ne.mpr c11; have c11b1 : (x10_1 != 0) = true := bne_iff_ne.mpr c11
        by_cases c12 : (Int.tmod (wrap64 ((Int.tmod (wrap64 (a0)) 10000) + 1)) x10_1) = 0
        ·
         rw [if_pos c12] at H; have c12b0 : ((Int.tmod (wrap64 ((Int.tmod (wrap64 (a0)) 10000) + 1)) x10_1) == 0) = true := beq_iff_eq.mpr c12; have c12b1 : ((Int.tmod (wrap64 ((Int.tmod (wrap64 (a0)) 10000) + 1)) x10_1) != 0) = false := bne_eq_false_iff_eq.mpr c12; clear c12
         by_cases c13 : (Int.tmod x10_1 2) = 1
         ·
          rw [if_pos c13] at H; have c13b0 : ((Int.tmod x10_1 2) == 1) = true := beq_iff_eq.mpr c13; have c13b1 : ((Int.tmod x10_1 2) != 1) = false := bne_eq_false_iff_eq.mpr c13; clear c13; have H' := mk0 H; clear H; go_wp2; go_roundg kj6
          case measure => have := HK1.out; have := HJ6.out; omega
          case rel => exact ⟨(wrap64 (x8_1 + x10_1)), (wrap64 (x9_1 + x10_1)), (wrap64 (x10_1 + 1)), (by first | rfl | (simp; done) | (simp [*]; done)), (by first | rfl | (simp; done) | (simp [*]; done)), (by first | rfl | (simp; done) | (simp [*]; done)), H', ⟨by have := HK1.out; have := HJ6.out; omega⟩, ⟨by repeat (first | (with_reducible first | exact HB.out | apply below_alloc | apply pw_below_drewN | apply below_drew1) | exact HB.out)⟩⟩
         ·
          rw [if_neg c13] at H; have c13b0 : ((Int.tmod x10_1 2) == 1) = false := beq_eq_false_iff_ne.mpr c13; have c13b1 : ((Int.tmod x10_1 2) != 1) = true := bne_iff_ne.mpr c13; have H' := mk0 H; clear H; go_wp2; go_roundg kj6
          case measure => have := HK1.out; have := HJ6.out; omega
          case rel => exact ⟨(wrap64 (x8_1 + x10_1)), (x9_1), (wrap64 (x10_1 + 1)), (by first | rfl | (simp; done) | (simp [*]; done)), (by first | rfl | (simp; done) | (simp [*]; done)), (by first | rfl | (simp; done) | (simp [*]; done)), H', ⟨by have := HK1.out; have := HJ6.out; omega⟩, ⟨by repeat (first | (with_reducible first | exact HB.out | apply below_alloc | apply pw_below_drewN | apply below_drew1) | exact HB.out)⟩⟩
        ·
         rw [if_neg c12] at H; have c12b0 : ((Int.tmod (wrap64 ((Int.tmod (wrap64 (a0)) 10000) + 1)) x10_1) == 0) = false := beq_eq_false_iff_ne.mpr c12; have c12b1 : ((Int.tmod (wrap64 ((Int.tmod (wrap64 (a0)) 10000) + 1)) x10_1) != 0) = true := bne_iff_ne.mpr c12; have H' := mk0 H; clear H; go_wp2; go_roundg kj6
         case measure => have := HK1.out; have := HJ6.out; omega
         case rel => exact ⟨(wrap64 (x8_1 + x10_1)), (x9_1), (wrap64 (x10_1 + 1)), (by first | rfl | (simp; done) | (simp [*]; done)), (by first | rfl | (simp; done) | (simp [*]; done)), (by first | rfl | (simp; done) | (simp [*]; done)), H', ⟨by have := HK1.out; have := HJ6.out; omega⟩, ⟨by repeat (first | (with_reducible first | exact HB.out | apply below_alloc | apply pw_below_drewN | apply below_drew1) | exact HB.out)⟩⟩
      ·
       replace c10 := Bool.eq_false_iff.mpr c10; subst c10; have H1 : (if x10_1 = 0 then (none) else (if (Int.tmod (wrap64 ((Int.tmod (wrap64 (a0)) 10000) + 1)) x10_1) = 0 then (if (Int.tmod x10_1 2) = 1 then (bellpulllaw04_NormJacobi.l0 kj6 (wrap64 ((Int.tmod (wrap64 (a0)) 10000) + 1)) t389 t390 t391 t392 x8_1 (wrap64 (x9_1 + x10_1)) (wrap64 (x10_1 + 1))) else (bellpulllaw04_NormJacobi.l0 kj6 (wrap64 ((Int.tmod (wrap64 (a0)) 10000) + 1)) t389 t390 t391 t392 x8_1 x9_1 (wrap64 (x10_1 + 1)))) else (bellpulllaw04_NormJacobi.l0 kj6 (wrap64 ((Int.tmod (wrap64 (a0)) 10000) + 1)) t389 t390 t391 t392 x8_1 x9_1 (wrap64 (x10_1 + 1))))) = some r := by rw [if_neg (show ¬ (false = true) by decide)] at H; exact H
       clear H; have H := H1; clear H1
       by_cases c14 : x10_1 = 0
       ·
        rw [if_pos c14] at H; exact absurd H (by simp)
       ·
        rw [if_neg c14] at H; have c14b0 : (x10_1 == 0) = false := beq_eq_false_iff_ne.mpr c14; have c14b1 : (x10_1 != 0) = true := bne_iff_ne.mpr c14
        by_cases c15 : (Int.tmod (wrap64 ((Int.tmod (wrap64 (a0)) 10000) + 1)) x10_1) = 0
        ·
         rw [if_pos c15] at H; have c15b0 : ((Int.tmod (wrap64 ((Int.tmod (wrap64 (a0)) 10000) + 1)) x10_1) == 0) = true := beq_iff_eq.mpr c15; have c15b1 : ((Int.tmod (wrap64 ((Int.tmod (wrap64 (a0)) 10000) + 1)) x10_1) != 0) = false := bne_eq_false_iff_eq.mpr c15; clear c15
         by_cases c16 : (Int.tmod x10_1 2) = 1
         ·
          rw [if_pos c16] at H; have c16b0 : ((Int.tmod x10_1 2) == 1) = true := beq_iff_eq.mpr c16; have c16b1 : ((Int.tmod x10_1 2) != 1) = false := bne_eq_false_iff_eq.mpr c16; clear c16; have H' := mk0 H; clear H; go_wp2; go_roundg kj6
          case measure => have := HK1.out; have := HJ6.out; omega
          case rel => exact ⟨(x8_1), (wrap64 (x9_1 + x10_1)), (wrap64 (x10_1 + 1)), (by first | rfl | (simp; done) | (simp [*]; done)), (by first | rfl | (simp; done) | (simp [*]; done)), (by first | rfl | (simp; done) | (simp [*]; done)), H', ⟨by have := HK1.out; have := HJ6.out; omega⟩, ⟨by repeat (first | (with_reducible first | exact HB.out | apply below_alloc | apply pw_below_drewN | apply below_drew1) | exact HB.out)⟩⟩
         ·
          rw [if_neg c16] at H; have c16b0 : ((Int.tmod x10_1 2) == 1) = false := beq_eq_false_iff_ne.mpr c16; have c16b1 : ((Int.tmod x10_1 2) != 1) = true := bne_iff_ne.mpr c16; have H' := mk0 H; clear H; go_wp2; go_roundg kj6
          case measure => have := HK1.out; have := HJ6.out; omega
          case rel => exact ⟨(x8_1), (x9_1), (wrap64 (x10_1 + 1)), (by first | rfl | (simp; done) | (simp [*]; done)), (by first | rfl | (simp; done) | (simp [*]; done)), (by first | rfl | (simp; done) | (simp [*]; done)), H', ⟨by have := HK1.out; have := HJ6.out; omega⟩, ⟨by repeat (first | (with_reducible first | exact HB.out | apply below_alloc | apply pw_below_drewN | apply below_drew1) | exact HB.out)⟩⟩
        ·
         rw [if_neg c15] at H; have c15b0 : ((Int.tmod (wrap64 ((Int.tmod (wrap64 (a0)) 10000) + 1)) x10_1) == 0) = false := beq_eq_false_iff_ne.mpr c15; have c15b1 : ((Int.tmod (wrap64 ((Int.tmod (wrap64 (a0)) 10000) + 1)) x10_1) != 0) = true := bne_iff_ne.mpr c15; have H' := mk0 H; clear H; go_wp2; go_roundg kj6
         case measure => have := HK1.out; have := HJ6.out; omega
         case rel => exact ⟨(x8_1), (x9_1), (wrap64 (x10_1 + 1)), (by first | rfl | (simp; done) | (simp [*]; done)), (by first | rfl | (simp; done) | (simp [*]; done)), (by first | rfl | (simp; done) | (simp [*]; done)), H', ⟨by have := HK1.out; have := HJ6.out; omega⟩, ⟨by repeat (first | (with_reducible first | exact HB.out | apply below_alloc | apply pw_below_drewN | apply below_drew1) | exact HB.out)⟩⟩
   ·
    rw [if_neg c6] at H; have c6b0 : decide (x10_1 ≤ (wrap64 ((Int.tmod (wrap64 (a0)) 10000) + 1))) = false := decide_eq_false c6; clear c6
    by_cases c17 : t390 = 0
    ·
     rw [if_pos c17] at H; have c17b0 : (t390 == 0) = true := beq_iff_eq.mpr c17; have c17b1 : (t390 != 0) = false := bne_eq_false_iff_eq.mpr c17; clear c17
     by_cases c18 : t392 = 0
     ·
      rw [if_pos c18] at H; have c18b0 : (t392 == 0) = true := beq_iff_eq.mpr c18; have c18b1 : (t392 != 0) = false := bne_eq_false_iff_eq.mpr c18; clear c18
      by_cases c19 : t389 = (wrap64 (8 * x8_1))
      ·
       rw [if_pos c19] at H; have c19b0 : (t389 == (wrap64 (8 * x8_1))) = true := beq_iff_eq.mpr c19; have c19b1 : (t389 != (wrap64 (8 * x8_1))) = false := bne_eq_false_iff_eq.mpr c19; clear c19
       by_cases c20 : t391 = (wrap64 (24 * x9_1))
       ·
        rw [if_pos c20] at H; have c20b0 : (t391 == (wrap64 (24 * x9_1))) = true := beq_iff_eq.mpr c20; have c20b1 : (t391 != (wrap64 (24 * x9_1))) = false := bne_eq_false_iff_eq.mpr c20; clear c20; replace H := Option.bind_eq_some_iff.mp H; obtain ⟨t393, A210, H⟩ := H; (try dsimp only at H); have A21 := mk0 A210; clear A210; obtain rfl := Option.some.inj H; go_wp2_with (first | (go_at_call 19; (with_reducible refine (bellpulllaw04_lives.calls k1  t393 _ A21.out).mono ?_); rintro e w22 ⟨rfl, hb⟩; replace HB := bst HB hb; (try clear hb))); go_ret; exact ⟨by first | rfl | (simp [errW_none, errW_some] <;> rfl) | (simp [*, errW_none, errW_some] <;> rfl), by repeat (first | (with_reducible first | exact HB.out | apply below_alloc | apply pw_below_drewN | apply below_drew1) | exact HB.out)⟩
       ·
        rw [if_neg c20] at H; exact absurd H (by simp)
      ·
       rw [if_neg c19] at H; exact absurd H (by simp)
     ·
      rw [if_neg c18] at H; exact absurd H (by simp)
    ·
     rw [if_neg c17] at H; exact absurd H (by simp)
/-- THE ONE PURE STATEMENT of bellpulllaw04_NormJacobi: yours. -/
def bellpulllaw04_NormJacobi.Pure : Prop := ∀ (a0 : Int), (Lit.int .u16 a0).wf = true → ∃ k, bellpulllaw04_NormJacobi.f k a0 = some true
theorem bellpulllaw04_NormJacobi.walk (P : bellpulllaw04_NormJacobi.Pure) (a0 : Int) (w : World) (w0 : (Lit.int .u16 a0).wf = true) :
    Calls Try.prog 10 #[.int .u16 a0] w fun e w' => e = .returned (.bool true) ∧ Below w.heap.size w w' := by
  obtain ⟨k, h⟩ := P a0 w0
  refine (bellpulllaw04_NormJacobi.calls k a0 true w h).mono ?_
  rintro e w' ⟨rfl, hd⟩
  exact ⟨rfl, hd⟩

end Go.Proofs.Ytgfnmimfoicmmaa.PM
