-- Written by pr2.py, a program of this session's, for this claim (through the kit's print).
import Derived.Test.YtgfnmimfoicmmaaPMx0
import Derived.Test.YtgfnmimfoicmmaaPMx6
import Derived.Test.YtgfnmimfoicmmaaPMx7
import Derived.Test.YtgfnmimfoicmmaaPMx9
namespace Go.Proofs.Ytgfnmimfoicmmaa.PM
open Go.Proofs.MyWords Go.RowKit Go.Proofs.YtgfnmimfoicmmaaW.PrintWords Go.Proofs.YtgfnmimfoicmmaaW.PrintLast Go.Proofs.YtgfnmimfoicmmaaW.PrintMore
attribute [local go_sem] max2_int min2_int max_two min_two max_three min_three max_four min_four   -- for this text's walks alone
set_option linter.unusedVariables false
set_option linter.unusedSimpArgs false

attribute [local go_sem] idx67_0 idx67_1 idx67_2 idx67_3
attribute [local go_sem] eqGuard_slices eqlnil36 neqnil36
/-! ### bellpulllaw04_NormEuler: function 11 -/
mutual
def bellpulllaw04_NormEuler.j0 : Nat → Int → Int → List Int → List Int → Bool → Option (Bool)
  | 0, _, _, _, _, _ => none
  | k + 1, x5, x6, x7, x9, x56 => if x56 = true then (none) else (if 0 < (x7.length : Int) then (if 1 < (x7.length : Int) then (if 2 < (x7.length : Int) then (if 3 < (x7.length : Int) then (if 0 < (x9.length : Int) then (if 1 < (x9.length : Int) then (if 2 < (x9.length : Int) then (if 3 < (x9.length : Int) then ((norm_Mul.f k (wrap64 (2 * (rd x7 0))) (wrap64 (2 * (rd x7 1))) (wrap64 (2 * (rd x7 2))) (wrap64 (2 * (rd x7 3))) (wrap64 (2 * (rd x9 0))) (wrap64 (2 * (rd x9 1))) (wrap64 (2 * (rd x9 2))) (wrap64 (2 * (rd x9 3)))).bind fun bt432 => (if bt432.2.2.2.2 = 0 then (if (Go.bits .and .i64 bt432.1 1) = 0 then (if (Go.bits .and .i64 bt432.2.1 1) = 0 then (if (Go.bits .and .i64 bt432.2.2.1 1) = 0 then (bellpulllaw04_NormEuler.j1 k x5 x6 ((Go.bits .and .i64 bt432.2.2.2.1 1) != 0) bt432.1 bt432.2.1 bt432.2.2.1 bt432.2.2.2.1) else (none)) else (none)) else (none)) else (none))) else (none)) else (none)) else (none)) else (none)) else (none)) else (none)) else (none)) else (none))
def bellpulllaw04_NormEuler.j1 : Nat → Int → Int → Bool → Int → Int → Int → Int → Option (Bool)
  | 0, _, _, _, _, _, _, _ => none
  | k + 1, x5, x6, x120, x438000, x438001, x438002, x438003 => if x120 = true then (none) else ((norm_Four.f k (wrap64 (x5 * x6))).bind fun bt438 => (if (wrap64 ((wrap64 ((wrap64 ((wrap64 ((wrap64 (Int.tdiv x438000 2)) * (wrap64 (Int.tdiv x438000 2)))) + (wrap64 ((wrap64 (Int.tdiv x438001 2)) * (wrap64 (Int.tdiv x438001 2)))))) + (wrap64 ((wrap64 (Int.tdiv x438002 2)) * (wrap64 (Int.tdiv x438002 2)))))) + (wrap64 ((wrap64 (Int.tdiv x438003 2)) * (wrap64 (Int.tdiv x438003 2)))))) = (wrap64 (x5 * x6)) then (if bt438.2 = 0 then ((bellpulllaw04_sum.f k bt438.1 4 (wrap64 (x5 * x6))).bind fun t442 => (some t442)) else (none)) else (none)))
end
def bellpulllaw04_NormEuler.f (k : Nat) (a0 : Int) (a1 : Int) : Option (Bool) := (norm_Four.f k (Int.tmod (wrap64 (a0)) 100)).bind fun bt413 => ((norm_Four.f k (Int.tmod (wrap64 (a1)) 101)).bind fun bt417 => (if bt413.2 = 0 then (if bt417.2 = 0 then ((bellpulllaw04_sum.f k bt413.1 4 (Int.tmod (wrap64 (a0)) 100)).bind fun t421 => (if t421 = true then ((bellpulllaw04_sum.f k bt417.1 4 (Int.tmod (wrap64 (a1)) 101)).bind fun t422 => (if t422 = true then ((bellpulllaw04_lives.f k).bind fun t423 => (bellpulllaw04_NormEuler.j0 k (Int.tmod (wrap64 (a0)) 100) (Int.tmod (wrap64 (a1)) 101) bt413.1 bt417.1 (!t423))) else (none))) else (none))) else (none)) else (none)))
theorem bellpulllaw04_NormEuler.mono_l : ∀ k, (∀ y0 y1 y2 y3 y4, LeO (bellpulllaw04_NormEuler.j0 k y0 y1 y2 y3 y4) (bellpulllaw04_NormEuler.j0 (k + 1) y0 y1 y2 y3 y4)) ∧ (∀ y0 y1 y2 y3 y4 y5 y6, LeO (bellpulllaw04_NormEuler.j1 k y0 y1 y2 y3 y4 y5 y6) (bellpulllaw04_NormEuler.j1 (k + 1) y0 y1 y2 y3 y4 y5 y6))
  | 0 => ⟨fun _ _ _ _ _ r h => by simp [bellpulllaw04_NormEuler.j0] at h, fun _ _ _ _ _ _ _ r h => by simp [bellpulllaw04_NormEuler.j1] at h⟩
  | k + 1 => by
    obtain ⟨ih0, ih1⟩ := bellpulllaw04_NormEuler.mono_l k
    refine ⟨?_, ?_⟩
    · intro y0 y1 y2 y3 y4
      unfold bellpulllaw04_NormEuler.j0
      repeat' first
      | (with_reducible exact ih0 _ _ _ _ _)
      | (with_reducible exact ih1 _ _ _ _ _ _ _)
      | (with_reducible exact bellpulllaw04_lives.mono _)
      | (with_reducible exact bellpulllaw04_sum.mono _ _ _ _)
      | (with_reducible exact norm_Four.mono _ _)
      | (with_reducible exact norm_Mul.mono _ _ _ _ _ _ _ _ _)
      | (with_reducible exact LeO.refl _)
      | (with_reducible exact LeO.none _)
      | (with_reducible refine LeO.ite ?_ ?_)
      | (with_reducible refine LeO.bind ?_ (fun _ => ?_))
      | exact ih0 _ _ _ _ _
      | exact ih1 _ _ _ _ _ _ _
      | exact bellpulllaw04_lives.mono _
      | exact bellpulllaw04_sum.mono _ _ _ _
      | exact norm_Four.mono _ _
      | exact norm_Mul.mono _ _ _ _ _ _ _ _ _
      | exact LeO.none _
      | refine LeO.ite ?_ ?_
      | refine LeO.bind ?_ (fun _ => ?_)
    · intro y0 y1 y2 y3 y4 y5 y6
      unfold bellpulllaw04_NormEuler.j1
      repeat' first
      | (with_reducible exact ih0 _ _ _ _ _)
      | (with_reducible exact ih1 _ _ _ _ _ _ _)
      | (with_reducible exact bellpulllaw04_lives.mono _)
      | (with_reducible exact bellpulllaw04_sum.mono _ _ _ _)
      | (with_reducible exact norm_Four.mono _ _)
      | (with_reducible exact norm_Mul.mono _ _ _ _ _ _ _ _ _)
      | (with_reducible exact LeO.refl _)
      | (with_reducible exact LeO.none _)
      | (with_reducible refine LeO.ite ?_ ?_)
      | (with_reducible refine LeO.bind ?_ (fun _ => ?_))
      | exact ih0 _ _ _ _ _
      | exact ih1 _ _ _ _ _ _ _
      | exact bellpulllaw04_lives.mono _
      | exact bellpulllaw04_sum.mono _ _ _ _
      | exact norm_Four.mono _ _
      | exact norm_Mul.mono _ _ _ _ _ _ _ _ _
      | exact LeO.none _
      | refine LeO.ite ?_ ?_
      | refine LeO.bind ?_ (fun _ => ?_)
theorem bellpulllaw04_NormEuler.mono : ∀ a0 a1 k, LeO (bellpulllaw04_NormEuler.f k a0 a1) (bellpulllaw04_NormEuler.f (k + 1) a0 a1) := by
  intro a0 a1 k
  obtain ⟨ih0, ih1⟩ := bellpulllaw04_NormEuler.mono_l k
  unfold bellpulllaw04_NormEuler.f
  repeat' first
      | (with_reducible exact ih0 _ _ _ _ _)
      | (with_reducible exact ih1 _ _ _ _ _ _ _)
      | (with_reducible exact bellpulllaw04_lives.mono _)
      | (with_reducible exact bellpulllaw04_sum.mono _ _ _ _)
      | (with_reducible exact norm_Four.mono _ _)
      | (with_reducible exact norm_Mul.mono _ _ _ _ _ _ _ _ _)
      | (with_reducible exact LeO.refl _)
      | (with_reducible exact LeO.none _)
      | (with_reducible refine LeO.ite ?_ ?_)
      | (with_reducible refine LeO.bind ?_ (fun _ => ?_))
      | exact ih0 _ _ _ _ _
      | exact ih1 _ _ _ _ _ _ _
      | exact bellpulllaw04_lives.mono _
      | exact bellpulllaw04_sum.mono _ _ _ _
      | exact norm_Four.mono _ _
      | exact norm_Mul.mono _ _ _ _ _ _ _ _ _
      | exact LeO.none _
      | refine LeO.ite ?_ ?_
      | refine LeO.bind ?_ (fun _ => ?_)
def bellpulllaw04_NormEuler.T6 : Bool × List (List Nat × List Nat) := (true, [([], []), ([0], [0]), ([1], [1]), ([2], [2]), ([], []), ([4], [4]), ([5], [5]), ([6], [6]), ([], []), ([8], [8]), ([9], [9]), ([10], [10]), ([], []), ([12], [12]), ([13], [13]), ([14], [14]), ([3, 7, 11, 15], [3, 7, 11, 15]), ([], []), ([17], [17]), ([18], [18]), ([19], [19]), ([], []), ([21], [21]), ([22], [22]), ([23], [23]), ([], []), ([25], [25]), ([26], [26]), ([27], [27]), ([], []), ([29], [29]), ([30], [30]), ([31], [31]), ([20, 24, 28, 32], [20, 24, 28, 32]), ([16, 33], [16, 33]), ([34], [34]), ([35], [35]), ([35], [35]), ([], []), ([38, 36, 34, 0, 1, 2, 3, 4, 5, 6, 7, 8, 9, 10, 11, 12, 13, 14, 15, 16, 17, 18, 19, 20, 21, 22, 23, 24, 25, 26, 27, 28, 29, 30, 31, 32, 33, 34, 35, 36, 38], [36, 38]), ([37, 39, 0, 1, 2, 3, 4, 5, 6, 7, 8, 9, 10, 11, 12, 13, 14, 15, 16, 17, 18, 19, 20, 21, 22, 23, 24, 25, 26, 27, 28, 29, 30, 31, 32, 33, 34, 35, 36, 37, 38, 39], [37])])
def bellpulllaw04_NormEuler.B6 : List Nat := [0, 1, 3, 7, 0, 16, 48, 112, 0, 256, 768, 1792, 0, 4096, 12288, 28672, 65535, 0, 131072, 393216, 917504, 0, 2097152, 6291456, 14680064, 0, 33554432, 100663296, 234881024, 0, 536870912, 1610612736, 3758096384, 8589803520, 17179869183, 34359738367, 68719476735, 68719476735, 0, 412316860415, 1099511627775]
theorem bellpulllaw04_NormEuler.tab6 : rtab .any (opsOf Try.f11 6) = bellpulllaw04_NormEuler.T6 := by kernel_rfl
theorem bellpulllaw04_NormEuler.bits6 : waitsOk bellpulllaw04_NormEuler.T6.2 bellpulllaw04_NormEuler.B6 = true := by kernel_rfl
def bellpulllaw04_NormEuler.T9 : Bool × List (List Nat × List Nat) := (true, [([], []), ([0], [0]), ([1], [1]), ([], []), ([3], [3]), ([4], [4]), ([], []), ([6], [6]), ([7], [7]), ([], []), ([9], [9]), ([10], [10]), ([2, 0, 1, 2], [2]), ([5, 12, 0, 1, 2, 3, 4, 5, 12], [5]), ([8, 13, 0, 1, 2, 3, 4, 5, 6, 7, 8, 12, 13], [8]), ([11, 14, 0, 1, 2, 3, 4, 5, 6, 7, 8, 9, 10, 11, 12, 13, 14], [11])])
def bellpulllaw04_NormEuler.B9 : List Nat := [0, 1, 3, 0, 8, 24, 0, 64, 192, 0, 512, 1536, 7, 4159, 12799, 32767]
theorem bellpulllaw04_NormEuler.tab9 : rtab .any (opsOf Try.f11 9) = bellpulllaw04_NormEuler.T9 := by kernel_rfl
theorem bellpulllaw04_NormEuler.bits9 : waitsOk bellpulllaw04_NormEuler.T9.2 bellpulllaw04_NormEuler.B9 = true := by kernel_rfl
set_option maxHeartbeats 8000000 in
set_option maxRecDepth 100000 in
theorem bellpulllaw04_NormEuler.calls (k : Nat) (a0 : Int) (a1 : Int) (r : Bool) (w : World) (h : bellpulllaw04_NormEuler.f k a0 a1 = some r) :
    Calls Try.prog 11 #[.int .u8 a0, .int .u8 a1] w fun e w' => e = .returned (.bool r) ∧ Below w.heap.size w w' := by
 have hu23 := Try.underlying23; have HB := mk0 (Below.refl w.heap.size w); have H : ((norm_Four.f k (Int.tmod (wrap64 (a0)) 100)).bind fun bt413 => ((norm_Four.f k (Int.tmod (wrap64 (a1)) 101)).bind fun bt417 => (if bt413.2 = 0 then (if bt417.2 = 0 then ((bellpulllaw04_sum.f k bt413.1 4 (Int.tmod (wrap64 (a0)) 100)).bind fun t421 => (if t421 = true then ((bellpulllaw04_sum.f k bt417.1 4 (Int.tmod (wrap64 (a1)) 101)).bind fun t422 => (if t422 = true then ((bellpulllaw04_lives.f k).bind fun t423 => (bellpulllaw04_NormEuler.j0 k (Int.tmod (wrap64 (a0)) 100) (Int.tmod (wrap64 (a1)) 101) bt413.1 bt417.1 (!t423))) else (none))) else (none))) else (none)) else (none)))) = some r := h; clear h; replace H := Option.bind_eq_some_iff.mp H; obtain ⟨⟨t413, t414⟩, A30, H⟩ := H; (try dsimp only at H); have A3 := mk0 A30; clear A30; replace H := Option.bind_eq_some_iff.mp H; obtain ⟨⟨t417, t418⟩, A40, H⟩ := H; (try dsimp only at H); have A4 := mk0 A40; clear A40; have HC5 := mk0 H; clear H; go_enter Try.func11, Try.ntmps11; go_upto_region 4 with (first | ((with_reducible refine gate_callee (f := 23) rfl ?_); refine goesL_ (some 27) rfl rfl Try.func23 (by kernel_rfl) rfl #[.int .i64 (Int.tmod (wrap64 (a0)) 100)] rfl (by (try simp only [List.map_toArray, List.map_cons, List.map_nil]); first | done | rfl | (simp only [List.length_drop, List.length_take]; rfl)) ?_; (with_reducible refine (norm_Four.calls k (Int.tmod (wrap64 (a0)) 100) t413 t414 _ A3.out).mono ?_); rintro e w6 ⟨v415, rfl, ho0, hb⟩; refine ⟨_, rfl, ?_⟩; have HO416 := mk0 (Kd.R_lower ho0 (below_size HB.out)); replace HB := bst HB hb; (try clear hb); (try clear ho0)) | ((with_reducible refine gate_callee (f := 23) rfl ?_); refine goesL_ (some 32) rfl rfl Try.func23 (by kernel_rfl) rfl #[.int .i64 (Int.tmod (wrap64 (a1)) 101)] rfl (by (try simp only [List.map_toArray, List.map_cons, List.map_nil]); first | done | rfl | (simp only [List.length_drop, List.length_take]; rfl)) ?_; (with_reducible refine (norm_Four.calls k (Int.tmod (wrap64 (a1)) 101) t417 t418 _ A4.out).mono ?_); rintro e w7 ⟨v419, rfl, ho0, hb⟩; refine ⟨_, rfl, ?_⟩; have HO420 := mk0 (Kd.R_lower (Kd.R_new' ho0 (Kd.R_lt HO416.out)) (below_size HB.out)); replace HO416 := mk0 (Kd.R_elder' HO416.out (Kd.R_base ho0) hb); replace HB := bst HB hb; (try clear hb); (try clear ho0))); (try simp only [Act.put, List.setIfInBounds_toArray, List.set_cons_zero, List.set_cons_succ])
 go_cut [56] (fun v56 wc => ∃ (kq : Nat) (x56_4 : Bool), v56 = .bool x56_4 ∧ Aside0 (bellpulllaw04_NormEuler.j0 kq (Int.tmod (wrap64 (a0)) 100) (Int.tmod (wrap64 (a1)) 101) t413 t417 x56_4 = some r) ∧ Aside0 (kq ≤ k) ∧ Aside0 (Kd.R (Kd.int .i64) 3 wc w.heap.size (fun k_ => some k_ ≠ (v419 : Value).ownBlock) v415 t413) ∧ Aside0 (Kd.R (Kd.int .i64) 3 wc w.heap.size (fun k_ => some k_ ≠ (v415 : Value).ownBlock) v419 t417) ∧ Aside0 (Below w.heap.size w wc))
 case first =>
  have H := HC5.out; clear HC5
  by_cases c8 : t414 = 0
  ·
   rw [if_pos c8] at H; have c8b0 : (t414 == 0) = true := beq_iff_eq.mpr c8; have c8b1 : (t414 != 0) = false := bne_eq_false_iff_eq.mpr c8; clear c8; (first | rw [c8b0] | (simp only [i64_w, i32_w]; rw [c8b0]) | skip)
   by_cases c9 : t418 = 0
   ·
    rw [if_pos c9] at H; have c9b0 : (t418 == 0) = true := beq_iff_eq.mpr c9; have c9b1 : (t418 != 0) = false := bne_eq_false_iff_eq.mpr c9; clear c9; replace H := Option.bind_eq_some_iff.mp H; obtain ⟨t421, A100, H⟩ := H; (try dsimp only at H); have A10 := mk0 A100; clear A100
    by_cases c11 : t421 = true
    ·
     subst c11; have H1 : ((bellpulllaw04_sum.f k t417 4 (Int.tmod (wrap64 (a1)) 101)).bind fun t422 => (if t422 = true then ((bellpulllaw04_lives.f k).bind fun t423 => (bellpulllaw04_NormEuler.j0 k (Int.tmod (wrap64 (a0)) 100) (Int.tmod (wrap64 (a1)) 101) t413 t417 (!t423))) else (none))) = some r := by rw [if_pos rfl] at H; exact H
     clear H; have H := H1; clear H1; replace H := Option.bind_eq_some_iff.mp H; obtain ⟨t422, A120, H⟩ := H; (try dsimp only at H); have A12 := mk0 A120; clear A120
     by_cases c13 : t422 = true
     ·
      subst c13; have H1 : ((bellpulllaw04_lives.f k).bind fun t423 => (bellpulllaw04_NormEuler.j0 k (Int.tmod (wrap64 (a0)) 100) (Int.tmod (wrap64 (a1)) 101) t413 t417 (!t423))) = some r := by rw [if_pos rfl] at H; exact H
      clear H; have H := H1; clear H1; replace H := Option.bind_eq_some_iff.mp H; obtain ⟨t423, A140, H⟩ := H; (try dsimp only at H); have A14 := mk0 A140; clear A140; have H' := mk0 H; clear H; obtain ⟨Ao15, co15, eo15⟩ := Kd.R_slice HO416.out; subst eo15; go_wp2_with (first | (go_at_call 37; (with_reducible refine (bellpulllaw04_sum.calls k _ _ t413 4 (Int.tmod (wrap64 (a0)) 100) true _ ?side1 ?side2 A10.out).mono ?_); (case side1 => repeat (first | exact (Kd.R_reads' HO416.out).2.2 | (with_reducible refine Kd.C_alloc ?_ _) | (with_reducible refine Kd.C_drewN ?_ _) | (with_reducible refine Kd.C_drew ?_))); (case side2 => exact (Kd.R_reads' HO416.out).2.1); rintro e w' ⟨rfl, ⟨nd, rfl⟩⟩; obtain ⟨Ao16, co16, eo16⟩ := Kd.R_slice HO420.out; subst eo16) | (go_at_call 37; (with_reducible refine (bellpulllaw04_sum.calls k _ _ t417 4 (Int.tmod (wrap64 (a1)) 101) true _ ?side1 ?side2 A12.out).mono ?_); (case side1 => repeat (first | exact (Kd.R_reads' HO420.out).2.2 | (with_reducible refine Kd.C_alloc ?_ _) | (with_reducible refine Kd.C_drewN ?_ _) | (with_reducible refine Kd.C_drew ?_))); (case side2 => exact (Kd.R_reads' HO420.out).2.1); rintro e w' ⟨rfl, ⟨nd, rfl⟩⟩) | (go_at_call 19; (with_reducible refine (bellpulllaw04_lives.calls k  t423 _ A14.out).mono ?_); rintro e w17 ⟨rfl, hb⟩; replace HO416 := mk0 (Kd.R_below (by (with_reducible repeat (first | apply Kd.R_alloc | apply Kd.R_drewN | apply Kd.R_drew)); exact HO416.out) hb); replace HO420 := mk0 (Kd.R_below (by (with_reducible repeat (first | apply Kd.R_alloc | apply Kd.R_drewN | apply Kd.R_drew)); exact HO420.out) hb); replace HB := mk0 (below_step (by repeat (first | (with_reducible first | exact HB.out | apply below_alloc | apply pw_below_drewN | apply below_drew1) | exact HB.out)) hb); (try clear hb))); go_meet
      case rel => exact ⟨_, (!t423), (by first | rfl | (simp; done) | (simp [*]; done)), H', ⟨by first | omega | exact Nat.le_refl _⟩, ⟨by (with_reducible repeat (first | apply Kd.R_alloc | apply Kd.R_drewN | apply Kd.R_drew)); exact Kd.R_mono HO416.out (fun _ hk => hk.2)⟩, ⟨by (with_reducible repeat (first | apply Kd.R_alloc | apply Kd.R_drewN | apply Kd.R_drew)); exact Kd.R_mono HO420.out (fun _ hk => hk.2)⟩, ⟨by repeat (first | (with_reducible first | exact HB.out | apply below_alloc | apply pw_below_drewN | apply below_drew1) | exact HB.out)⟩⟩
     ·
      replace c13 := Bool.eq_false_iff.mpr c13; subst c13; have H1 : (none) = some r := by rw [if_neg (show ¬ (false = true) by decide)] at H; exact H
      clear H; have H := H1; clear H1; exact absurd H (by simp)
    ·
     replace c11 := Bool.eq_false_iff.mpr c11; subst c11; have H1 : (none) = some r := by rw [if_neg (show ¬ (false = true) by decide)] at H; exact H
     clear H; have H := H1; clear H1; exact absurd H (by simp)
   ·
    rw [if_neg c9] at H; exact absurd H (by simp)
  ·
   rw [if_neg c8] at H; exact absurd H (by simp)
 case rest =>
  clear HC5; try clear c1
  try clear c2
  try clear p2
  try clear p6
  try clear c8
  try clear c8b0
  try clear c8b1
  try clear c9
  try clear c9b0
  try clear c9b1
  try clear c11
  try clear c13
  obtain ⟨kq, x56_4, rfl, HA, HJ4, HO_7, HO_9, HB⟩ := hcut; cases kq with
  | zero => exact absurd HA.out (by simp [bellpulllaw04_NormEuler.j0])
  | succ kj4 =>
   have H := HA.out; clear HA; simp only [bellpulllaw04_NormEuler.j0] at H
   by_cases c18 : x56_4 = true
   ·
    subst c18; have H1 : (none) = some r := by rw [if_pos rfl] at H; exact H
    clear H; have H := H1; clear H1; exact absurd H (by simp)
   ·
    replace c18 := Bool.eq_false_iff.mpr c18; subst c18; have H1 : (if 0 < (t413.length : Int) then (if 1 < (t413.length : Int) then (if 2 < (t413.length : Int) then (if 3 < (t413.length : Int) then (if 0 < (t417.length : Int) then (if 1 < (t417.length : Int) then (if 2 < (t417.length : Int) then (if 3 < (t417.length : Int) then ((norm_Mul.f kj4 (wrap64 (2 * (rd t413 0))) (wrap64 (2 * (rd t413 1))) (wrap64 (2 * (rd t413 2))) (wrap64 (2 * (rd t413 3))) (wrap64 (2 * (rd t417 0))) (wrap64 (2 * (rd t417 1))) (wrap64 (2 * (rd t417 2))) (wrap64 (2 * (rd t417 3)))).bind fun bt432 => (if bt432.2.2.2.2 = 0 then (if (Go.bits .and .i64 bt432.1 1) = 0 then (if (Go.bits .and .i64 bt432.2.1 1) = 0 then (if (Go.bits .and .i64 bt432.2.2.1 1) = 0 then (bellpulllaw04_NormEuler.j1 kj4 (Int.tmod (wrap64 (a0)) 100) (Int.tmod (wrap64 (a1)) 101) ((Go.bits .and .i64 bt432.2.2.2.1 1) != 0) bt432.1 bt432.2.1 bt432.2.2.1 bt432.2.2.2.1) else (none)) else (none)) else (none)) else (none))) else (none)) else (none)) else (none)) else (none)) else (none)) else (none)) else (none)) else (none)) = some r := by rw [if_neg (show ¬ (false = true) by decide)] at H; exact H
    clear H; have H := H1; clear H1
    by_cases c19 : 0 < (t413.length : Int)
    ·
     rw [if_pos c19] at H; have c19b0 : decide (0 < (t413.length : Int)) = true := decide_eq_true c19; have c19b1 : decide (0 < t413.length) = true := decide_eq_true (by omega); clear c19
     by_cases c20 : 1 < (t413.length : Int)
     ·
      rw [if_pos c20] at H; have c20b0 : decide (1 < (t413.length : Int)) = true := decide_eq_true c20; have c20b1 : decide (1 < t413.length) = true := decide_eq_true (by omega); clear c20
      by_cases c21 : 2 < (t413.length : Int)
      ·
       rw [if_pos c21] at H; have c21b0 : decide (2 < (t413.length : Int)) = true := decide_eq_true c21; have c21b1 : decide (2 < t413.length) = true := decide_eq_true (by omega); clear c21
       by_cases c22 : 3 < (t413.length : Int)
       ·
        rw [if_pos c22] at H; have c22b0 : decide (3 < (t413.length : Int)) = true := decide_eq_true c22; have c22b1 : decide (3 < t413.length) = true := decide_eq_true (by omega); clear c22
        by_cases c23 : 0 < (t417.length : Int)
        ·
         rw [if_pos c23] at H; have c23b0 : decide (0 < (t417.length : Int)) = true := decide_eq_true c23; have c23b1 : decide (0 < t417.length) = true := decide_eq_true (by omega); clear c23
         by_cases c24 : 1 < (t417.length : Int)
         ·
          rw [if_pos c24] at H; have c24b0 : decide (1 < (t417.length : Int)) = true := decide_eq_true c24; have c24b1 : decide (1 < t417.length) = true := decide_eq_true (by omega); clear c24
          by_cases c25 : 2 < (t417.length : Int)
          ·
           rw [if_pos c25] at H; have c25b0 : decide (2 < (t417.length : Int)) = true := decide_eq_true c25; have c25b1 : decide (2 < t417.length) = true := decide_eq_true (by omega); clear c25
           by_cases c26 : 3 < (t417.length : Int)
           ·
            rw [if_pos c26] at H; have c26b0 : decide (3 < (t417.length : Int)) = true := decide_eq_true c26; have c26b1 : decide (3 < t417.length) = true := decide_eq_true (by omega); clear c26; replace H := Option.bind_eq_some_iff.mp H; obtain ⟨⟨t432, t433, t434, t435, t436⟩, A270, H⟩ := H; (try dsimp only at H); have A27 := mk0 A270; clear A270; have HC28 := mk0 H; clear H; try go_wp2
            replace HO_7 := rdr HO_7; replace HO_9 := rdr HO_9; replace HB := hdr HB; obtain ⟨Ao30, co30, eo30⟩ := Kd.R_slice HO_7.out; (first | subst eo30 | (injection eo30 with f1_ f2_ f3_; have f4_ := f1_.symm; have f5_ := f3_.symm; clear f1_ f2_ f3_; subst f4_; subst f5_)); have p424 : 0 ≤ (0 : Int) := (by omega)
            have q424 : 0 < (t413.length : Int) := of_decide_eq_true (by first | (with_reducible assumption) | assumption); obtain ⟨ad424, e424, hx424_0⟩ := Kd.at_int (Kd.R_reads' HO_7.out).2.2 0 p424 q424; cases e424; have qi424 : (0 < t413.length) = True := eq_true (by omega); (try rw [show ((0 : Int)).toNat = 0 from rfl] at hx424_0); (try rw [Addr.add_zero'] at hx424_0); replace p424 := eq_true p424; replace q424 := eq_true q424; have p425 : 0 ≤ (1 : Int) := (by omega)
            have q425 : 1 < (t413.length : Int) := of_decide_eq_true (by first | (with_reducible assumption) | assumption); obtain ⟨ad425, e425, hx425_0⟩ := Kd.at_int (Kd.R_reads' HO_7.out).2.2 1 p425 q425; obtain rfl : ad424 = ad425 := (by injection e425)
            (try simp only [show (1 : Int).toNat = 1 from rfl, Nat.reduceMul, Nat.reduceEqDiff, Go.Addr.add, ↓reduceIte] at hx425_0); have qi425 : (1 < t413.length) = True := eq_true (by omega); (try rw [show ((1 : Int)).toNat = 1 from rfl] at hx425_0); replace p425 := eq_true p425; replace q425 := eq_true q425; have p426 : 0 ≤ (2 : Int) := (by omega)
            have q426 : 2 < (t413.length : Int) := of_decide_eq_true (by first | (with_reducible assumption) | assumption); obtain ⟨ad426, e426, hx426_0⟩ := Kd.at_int (Kd.R_reads' HO_7.out).2.2 2 p426 q426; obtain rfl : ad424 = ad426 := (by injection e426)
            (try simp only [show (2 : Int).toNat = 2 from rfl, Nat.reduceMul, Nat.reduceEqDiff, Go.Addr.add, ↓reduceIte] at hx426_0); have qi426 : (2 < t413.length) = True := eq_true (by omega); (try rw [show ((2 : Int)).toNat = 2 from rfl] at hx426_0); replace p426 := eq_true p426; replace q426 := eq_true q426; have p427 : 0 ≤ (3 : Int) := (by omega)
            have q427 : 3 < (t413.length : Int) := of_decide_eq_true (by first | (with_reducible assumption) | assumption); obtain ⟨ad427, e427, hx427_0⟩ := Kd.at_int (Kd.R_reads' HO_7.out).2.2 3 p427 q427; obtain rfl : ad424 = ad427 := (by injection e427)
            (try simp only [show (3 : Int).toNat = 3 from rfl, Nat.reduceMul, Nat.reduceEqDiff, Go.Addr.add, ↓reduceIte] at hx427_0); have qi427 : (3 < t413.length) = True := eq_true (by omega); (try rw [show ((3 : Int)).toNat = 3 from rfl] at hx427_0); replace p427 := eq_true p427; replace q427 := eq_true q427; obtain ⟨Ao31, co31, eo31⟩ := Kd.R_slice HO_9.out; (first | subst eo31 | (injection eo31 with f1_ f2_ f3_; have f4_ := f1_.symm; have f5_ := f3_.symm; clear f1_ f2_ f3_; subst f4_; subst f5_)); have p428 : 0 ≤ (0 : Int) := (by omega)
            have q428 : 0 < (t417.length : Int) := of_decide_eq_true (by first | (with_reducible assumption) | assumption); obtain ⟨ad428, e428, hx428_0⟩ := Kd.at_int (Kd.R_reads' HO_9.out).2.2 0 p428 q428; cases e428; have qi428 : (0 < t417.length) = True := eq_true (by omega); (try rw [show ((0 : Int)).toNat = 0 from rfl] at hx428_0); (try rw [Addr.add_zero'] at hx428_0); replace p428 := eq_true p428; replace q428 := eq_true q428; have p429 : 0 ≤ (1 : Int) := (by omega)
            have q429 : 1 < (t417.length : Int) := of_decide_eq_true (by first | (with_reducible assumption) | assumption); obtain ⟨ad429, e429, hx429_0⟩ := Kd.at_int (Kd.R_reads' HO_9.out).2.2 1 p429 q429; obtain rfl : ad428 = ad429 := (by injection e429)
            (try simp only [show (1 : Int).toNat = 1 from rfl, Nat.reduceMul, Nat.reduceEqDiff, Go.Addr.add, ↓reduceIte] at hx429_0); have qi429 : (1 < t417.length) = True := eq_true (by omega); (try rw [show ((1 : Int)).toNat = 1 from rfl] at hx429_0); replace p429 := eq_true p429; replace q429 := eq_true q429; have p430 : 0 ≤ (2 : Int) := (by omega)
            have q430 : 2 < (t417.length : Int) := of_decide_eq_true (by first | (with_reducible assumption) | assumption); obtain ⟨ad430, e430, hx430_0⟩ := Kd.at_int (Kd.R_reads' HO_9.out).2.2 2 p430 q430; obtain rfl : ad428 = ad430 := (by injection e430)
            (try simp only [show (2 : Int).toNat = 2 from rfl, Nat.reduceMul, Nat.reduceEqDiff, Go.Addr.add, ↓reduceIte] at hx430_0); have qi430 : (2 < t417.length) = True := eq_true (by omega); (try rw [show ((2 : Int)).toNat = 2 from rfl] at hx430_0); replace p430 := eq_true p430; replace q430 := eq_true q430; have p431 : 0 ≤ (3 : Int) := (by omega)
            have q431 : 3 < (t417.length : Int) := of_decide_eq_true (by first | (with_reducible assumption) | assumption); obtain ⟨ad431, e431, hx431_0⟩ := Kd.at_int (Kd.R_reads' HO_9.out).2.2 3 p431 q431; obtain rfl : ad428 = ad431 := (by injection e431)
            (try simp only [show (3 : Int).toNat = 3 from rfl, Nat.reduceMul, Nat.reduceEqDiff, Go.Addr.add, ↓reduceIte] at hx431_0); have qi431 : (3 < t417.length) = True := eq_true (by omega); (try rw [show ((3 : Int)).toNat = 3 from rfl] at hx431_0); replace p431 := eq_true p431; replace q431 := eq_true q431; refine start_ (n := 41) (S := fun w' => w'.cell? ad424 = some (.int .i64 (rd t413 0)) ∧ w'.cell? ⟨ad424.block, ad424.off + 1, none⟩ = some (.int .i64 (rd t413 1)) ∧ w'.cell? ⟨ad424.block, ad424.off + 2, none⟩ = some (.int .i64 (rd t413 2)) ∧ w'.cell? ⟨ad424.block, ad424.off + 3, none⟩ = some (.int .i64 (rd t413 3)) ∧ w'.cell? ad428 = some (.int .i64 (rd t417 0)) ∧ w'.cell? ⟨ad428.block, ad428.off + 1, none⟩ = some (.int .i64 (rd t417 1)) ∧ w'.cell? ⟨ad428.block, ad428.off + 2, none⟩ = some (.int .i64 (rd t417 2)) ∧ w'.cell? ⟨ad428.block, ad428.off + 3, none⟩ = some (.int .i64 (rd t417 3))) (ds := []) #[false, false, false, false, false, false, false, false, false, false, false, false, false, false, false, false, false, false, false, false, false, false, false, false, false, false, false, false, false, false, false, false, false, false, false, false, false, false, false, false, false] (by kernel_rfl) rfl rfl ⟨hx424_0, hx425_0, hx426_0, hx427_0, hx428_0, hx429_0, hx430_0, hx431_0⟩ (fun hHeld => ?_); refine with_tabW bellpulllaw04_NormEuler.tab6 bellpulllaw04_NormEuler.bits6 (fun HT_ HW_ => ?_); generalize wc.drew = w29 at HO_7 HO_9 HB hx424_0 hx425_0 hx426_0 hx427_0 hx428_0 hx429_0 hx430_0 hx431_0 hHeld ⊢; refine pure_ (i := 0) (N := some 58) (v := ?_) (a' := ?_) #[true, false, false, false, false, false, false, false, false, false, false, false, false, false, false, false, false, false, false, false, false, false, false, false, false, false, false, false, false, false, false, false, false, false, false, false, false, false, false, false, false] rfl rfl (any_of HT_.out (by kernel_rfl)) (fun _ _ _ h => h) (Or.inl ⟨by rfl, ?_⟩) ?_ ?_; rotate_left
            ·
             intro w'; go_simp; with_reducible rfl
            rotate_left
            ·
             simp only [Act.put, List.setIfInBounds_toArray, List.set_cons_zero, List.set_cons_succ, i64_w, i32_w]; rfl
            refine pure_ (i := 1) (N := some 59) (v := ?_) (a' := ?_) #[true, true, false, false, false, false, false, false, false, false, false, false, false, false, false, false, false, false, false, false, false, false, false, false, false, false, false, false, false, false, false, false, false, false, false, false, false, false, false, false, false] rfl rfl (any_of HT_.out (by kernel_rfl)) (fun _ _ _ h => h) (Or.inl ⟨by rfl, ?_⟩) ?_ ?_; rotate_left
            ·
             intro w'; go_simp; with_reducible rfl
            rotate_left
            ·
             simp only [Act.put, List.setIfInBounds_toArray, List.set_cons_zero, List.set_cons_succ, i64_w, i32_w]; rfl
            refine pure_ (i := 4) (N := some 62) (v := ?_) (a' := ?_) #[true, true, false, false, true, false, false, false, false, false, false, false, false, false, false, false, false, false, false, false, false, false, false, false, false, false, false, false, false, false, false, false, false, false, false, false, false, false, false, false, false] rfl rfl (any_of HT_.out (by kernel_rfl)) (fun _ _ _ h => h) (Or.inl ⟨by rfl, ?_⟩) ?_ ?_; rotate_left
            ·
             intro w'; go_simp; with_reducible rfl
            rotate_left
            ·
             simp only [Act.put, List.setIfInBounds_toArray, List.set_cons_zero, List.set_cons_succ, i64_w, i32_w]; rfl
            refine pure_ (i := 5) (N := some 63) (v := ?_) (a' := ?_) #[true, true, false, false, true, true, false, false, false, false, false, false, false, false, false, false, false, false, false, false, false, false, false, false, false, false, false, false, false, false, false, false, false, false, false, false, false, false, false, false, false] rfl rfl (any_of HT_.out (by kernel_rfl)) (fun _ _ _ h => h) (Or.inl ⟨by rfl, ?_⟩) ?_ ?_; rotate_left
            ·
             intro w'; go_simp; with_reducible rfl
            rotate_left
            ·
             simp only [Act.put, List.setIfInBounds_toArray, List.set_cons_zero, List.set_cons_succ, i64_w, i32_w]; rfl
            refine pure_ (i := 8) (N := some 66) (v := ?_) (a' := ?_) #[true, true, false, false, true, true, false, false, true, false, false, false, false, false, false, false, false, false, false, false, false, false, false, false, false, false, false, false, false, false, false, false, false, false, false, false, false, false, false, false, false] rfl rfl (any_of HT_.out (by kernel_rfl)) (fun _ _ _ h => h) (Or.inl ⟨by rfl, ?_⟩) ?_ ?_; rotate_left
            ·
             intro w'; go_simp; with_reducible rfl
            rotate_left
            ·
             simp only [Act.put, List.setIfInBounds_toArray, List.set_cons_zero, List.set_cons_succ, i64_w, i32_w]; rfl
            refine pure_ (i := 9) (N := some 67) (v := ?_) (a' := ?_) #[true, true, false, false, true, true, false, false, true, true, false, false, false, false, false, false, false, false, false, false, false, false, false, false, false, false, false, false, false, false, false, false, false, false, false, false, false, false, false, false, false] rfl rfl (any_of HT_.out (by kernel_rfl)) (fun _ _ _ h => h) (Or.inl ⟨by rfl, ?_⟩) ?_ ?_; rotate_left
            ·
             intro w'; go_simp; with_reducible rfl
            rotate_left
            ·
             simp only [Act.put, List.setIfInBounds_toArray, List.set_cons_zero, List.set_cons_succ, i64_w, i32_w]; rfl
            refine pure_ (i := 12) (N := some 70) (v := ?_) (a' := ?_) #[true, true, false, false, true, true, false, false, true, true, false, false, true, false, false, false, false, false, false, false, false, false, false, false, false, false, false, false, false, false, false, false, false, false, false, false, false, false, false, false, false] rfl rfl (any_of HT_.out (by kernel_rfl)) (fun _ _ _ h => h) (Or.inl ⟨by rfl, ?_⟩) ?_ ?_; rotate_left
            ·
             intro w'; go_simp; with_reducible rfl
            rotate_left
            ·
             simp only [Act.put, List.setIfInBounds_toArray, List.set_cons_zero, List.set_cons_succ, i64_w, i32_w]; rfl
            refine pure_ (i := 13) (N := some 71) (v := ?_) (a' := ?_) #[true, true, false, false, true, true, false, false, true, true, false, false, true, true, false, false, false, false, false, false, false, false, false, false, false, false, false, false, false, false, false, false, false, false, false, false, false, false, false, false, false] rfl rfl (any_of HT_.out (by kernel_rfl)) (fun _ _ _ h => h) (Or.inl ⟨by rfl, ?_⟩) ?_ ?_; rotate_left
            ·
             intro w'; go_simp; with_reducible rfl
            rotate_left
            ·
             simp only [Act.put, List.setIfInBounds_toArray, List.set_cons_zero, List.set_cons_succ, i64_w, i32_w]; rfl
            refine pure_ (i := 17) (N := some 75) (v := ?_) (a' := ?_) #[true, true, false, false, true, true, false, false, true, true, false, false, true, true, false, false, false, true, false, false, false, false, false, false, false, false, false, false, false, false, false, false, false, false, false, false, false, false, false, false, false] rfl rfl (any_of HT_.out (by kernel_rfl)) (fun _ _ _ h => h) (Or.inl ⟨by rfl, ?_⟩) ?_ ?_; rotate_left
            ·
             intro w'; go_simp; with_reducible rfl
            rotate_left
            ·
             simp only [Act.put, List.setIfInBounds_toArray, List.set_cons_zero, List.set_cons_succ, i64_w, i32_w]; rfl
            refine pure_ (i := 18) (N := some 76) (v := ?_) (a' := ?_) #[true, true, false, false, true, true, false, false, true, true, false, false, true, true, false, false, false, true, true, false, false, false, false, false, false, false, false, false, false, false, false, false, false, false, false, false, false, false, false, false, false] rfl rfl (any_of HT_.out (by kernel_rfl)) (fun _ _ _ h => h) (Or.inl ⟨by rfl, ?_⟩) ?_ ?_; rotate_left
            ·
             intro w'; go_simp; with_reducible rfl
            rotate_left
            ·
             simp only [Act.put, List.setIfInBounds_toArray, List.set_cons_zero, List.set_cons_succ, i64_w, i32_w]; rfl
            refine pure_ (i := 21) (N := some 79) (v := ?_) (a' := ?_) #[true, true, false, false, true, true, false, false, true, true, false, false, true, true, false, false, false, true, true, false, false, true, false, false, false, false, false, false, false, false, false, false, false, false, false, false, false, false, false, false, false] rfl rfl (any_of HT_.out (by kernel_rfl)) (fun _ _ _ h => h) (Or.inl ⟨by rfl, ?_⟩) ?_ ?_; rotate_left
            ·
             intro w'; go_simp; with_reducible rfl
            rotate_left
            ·
             simp only [Act.put, List.setIfInBounds_toArray, List.set_cons_zero, List.set_cons_succ, i64_w, i32_w]; rfl
            refine pure_ (i := 22) (N := some 80) (v := ?_) (a' := ?_) #[true, true, false, false, true, true, false, false, true, true, false, false, true, true, false, false, false, true, true, false, false, true, true, false, false, false, false, false, false, false, false, false, false, false, false, false, false, false, false, false, false] rfl rfl (any_of HT_.out (by kernel_rfl)) (fun _ _ _ h => h) (Or.inl ⟨by rfl, ?_⟩) ?_ ?_; rotate_left
            ·
             intro w'; go_simp; with_reducible rfl
            rotate_left
            ·
             simp only [Act.put, List.setIfInBounds_toArray, List.set_cons_zero, List.set_cons_succ, i64_w, i32_w]; rfl
            refine pure_ (i := 25) (N := some 83) (v := ?_) (a' := ?_) #[true, true, false, false, true, true, false, false, true, true, false, false, true, true, false, false, false, true, true, false, false, true, true, false, false, true, false, false, false, false, false, false, false, false, false, false, false, false, false, false, false] rfl rfl (any_of HT_.out (by kernel_rfl)) (fun _ _ _ h => h) (Or.inl ⟨by rfl, ?_⟩) ?_ ?_; rotate_left
            ·
             intro w'; go_simp; with_reducible rfl
            rotate_left
            ·
             simp only [Act.put, List.setIfInBounds_toArray, List.set_cons_zero, List.set_cons_succ, i64_w, i32_w]; rfl
            refine pure_ (i := 26) (N := some 84) (v := ?_) (a' := ?_) #[true, true, false, false, true, true, false, false, true, true, false, false, true, true, false, false, false, true, true, false, false, true, true, false, false, true, true, false, false, false, false, false, false, false, false, false, false, false, false, false, false] rfl rfl (any_of HT_.out (by kernel_rfl)) (fun _ _ _ h => h) (Or.inl ⟨by rfl, ?_⟩) ?_ ?_; rotate_left
            ·
             intro w'; go_simp; with_reducible rfl
            rotate_left
            ·
             simp only [Act.put, List.setIfInBounds_toArray, List.set_cons_zero, List.set_cons_succ, i64_w, i32_w]; rfl
            refine pure_ (i := 29) (N := some 87) (v := ?_) (a' := ?_) #[true, true, false, false, true, true, false, false, true, true, false, false, true, true, false, false, false, true, true, false, false, true, true, false, false, true, true, false, false, true, false, false, false, false, false, false, false, false, false, false, false] rfl rfl (any_of HT_.out (by kernel_rfl)) (fun _ _ _ h => h) (Or.inl ⟨by rfl, ?_⟩) ?_ ?_; rotate_left
            ·
             intro w'; go_simp; with_reducible rfl
            rotate_left
            ·
             simp only [Act.put, List.setIfInBounds_toArray, List.set_cons_zero, List.set_cons_succ, i64_w, i32_w]; rfl
            refine pure_ (i := 30) (N := some 88) (v := ?_) (a' := ?_) #[true, true, false, false, true, true, false, false, true, true, false, false, true, true, false, false, false, true, true, false, false, true, true, false, false, true, true, false, false, true, true, false, false, false, false, false, false, false, false, false, false] rfl rfl (any_of HT_.out (by kernel_rfl)) (fun _ _ _ h => h) (Or.inl ⟨by rfl, ?_⟩) ?_ ?_; rotate_left
            ·
             intro w'; go_simp; with_reducible rfl
            rotate_left
            ·
             simp only [Act.put, List.setIfInBounds_toArray, List.set_cons_zero, List.set_cons_succ, i64_w, i32_w]; rfl
            refine take_ (i := 2) (N := some 60) (v := ?_) (a' := ?_) #[true, true, true, false, true, true, false, false, true, true, false, false, true, true, false, false, false, true, true, false, false, true, true, false, false, true, true, false, false, true, true, false, false, false, false, false, false, false, false, false, false] rfl rfl (take_ofW HT_.out HW_.out (by kernel_rfl)) (fun _ _ _ h => h) (Or.inl ⟨by rfl, ?_⟩) hHeld ?_ ?_; rotate_left
            ·
             rintro w' ⟨s0, s1, s2, s3, s4, s5, s6, s7⟩; go_simp; with_reducible rfl
            rotate_left
            ·
             simp only [Act.put, List.setIfInBounds_toArray, List.set_cons_zero, List.set_cons_succ, i64_w, i32_w]; rfl
            refine pure_ (i := 3) (N := some 61) (v := ?_) (a' := ?_) #[true, true, true, true, true, true, false, false, true, true, false, false, true, true, false, false, false, true, true, false, false, true, true, false, false, true, true, false, false, true, true, false, false, false, false, false, false, false, false, false, false] rfl rfl (any_of HT_.out (by kernel_rfl)) (fun _ _ _ h => h) (Or.inl ⟨by rfl, ?_⟩) ?_ ?_; rotate_left
            ·
             intro w'; go_simp; with_reducible rfl
            rotate_left
            ·
             simp only [Act.put, List.setIfInBounds_toArray, List.set_cons_zero, List.set_cons_succ, i64_w, i32_w]; rfl
            refine take_ (i := 6) (N := some 64) (v := ?_) (a' := ?_) #[true, true, true, true, true, true, true, false, true, true, false, false, true, true, false, false, false, true, true, false, false, true, true, false, false, true, true, false, false, true, true, false, false, false, false, false, false, false, false, false, false] rfl rfl (take_ofW HT_.out HW_.out (by kernel_rfl)) (fun _ _ _ h => h) (Or.inl ⟨by rfl, ?_⟩) hHeld ?_ ?_; rotate_left
            ·
             rintro w' ⟨s0, s1, s2, s3, s4, s5, s6, s7⟩; go_simp; with_reducible rfl
            rotate_left
            ·
             simp only [Act.put, List.setIfInBounds_toArray, List.set_cons_zero, List.set_cons_succ, i64_w, i32_w]; rfl
            refine pure_ (i := 7) (N := some 65) (v := ?_) (a' := ?_) #[true, true, true, true, true, true, true, true, true, true, false, false, true, true, false, false, false, true, true, false, false, true, true, false, false, true, true, false, false, true, true, false, false, false, false, false, false, false, false, false, false] rfl rfl (any_of HT_.out (by kernel_rfl)) (fun _ _ _ h => h) (Or.inl ⟨by rfl, ?_⟩) ?_ ?_; rotate_left
            ·
             intro w'; go_simp; with_reducible rfl
            rotate_left
            ·
             simp only [Act.put, List.setIfInBounds_toArray, List.set_cons_zero, List.set_cons_succ, i64_w, i32_w]; rfl
            refine take_ (i := 10) (N := some 68) (v := ?_) (a' := ?_) #[true, true, true, true, true, true, true, true, true, true, true, false, true, true, false, false, false, true, true, false, false, true, true, false, false, true, true, false, false, true, true, false, false, false, false, false, false, false, false, false, false] rfl rfl (take_ofW HT_.out HW_.out (by kernel_rfl)) (fun _ _ _ h => h) (Or.inl ⟨by rfl, ?_⟩) hHeld ?_ ?_; rotate_left
            ·
             rintro w' ⟨s0, s1, s2, s3, s4, s5, s6, s7⟩; go_simp; with_reducible rfl
            rotate_left
            ·
             simp only [Act.put, List.setIfInBounds_toArray, List.set_cons_zero, List.set_cons_succ, i64_w, i32_w]; rfl
            refine pure_ (i := 11) (N := some 69) (v := ?_) (a' := ?_) #[true, true, true, true, true, true, true, true, true, true, true, true, true, true, false, false, false, true, true, false, false, true, true, false, false, true, true, false, false, true, true, false, false, false, false, false, false, false, false, false, false] rfl rfl (any_of HT_.out (by kernel_rfl)) (fun _ _ _ h => h) (Or.inl ⟨by rfl, ?_⟩) ?_ ?_; rotate_left
            ·
             intro w'; go_simp; with_reducible rfl
            rotate_left
            ·
             simp only [Act.put, List.setIfInBounds_toArray, List.set_cons_zero, List.set_cons_succ, i64_w, i32_w]; rfl
            refine take_ (i := 14) (N := some 72) (v := ?_) (a' := ?_) #[true, true, true, true, true, true, true, true, true, true, true, true, true, true, true, false, false, true, true, false, false, true, true, false, false, true, true, false, false, true, true, false, false, false, false, false, false, false, false, false, false] rfl rfl (take_ofW HT_.out HW_.out (by kernel_rfl)) (fun _ _ _ h => h) (Or.inl ⟨by rfl, ?_⟩) hHeld ?_ ?_; rotate_left
            ·
             rintro w' ⟨s0, s1, s2, s3, s4, s5, s6, s7⟩; go_simp; with_reducible rfl
            rotate_left
            ·
             simp only [Act.put, List.setIfInBounds_toArray, List.set_cons_zero, List.set_cons_succ, i64_w, i32_w]; rfl
            refine pure_ (i := 15) (N := some 73) (v := ?_) (a' := ?_) #[true, true, true, true, true, true, true, true, true, true, true, true, true, true, true, true, false, true, true, false, false, true, true, false, false, true, true, false, false, true, true, false, false, false, false, false, false, false, false, false, false] rfl rfl (any_of HT_.out (by kernel_rfl)) (fun _ _ _ h => h) (Or.inl ⟨by rfl, ?_⟩) ?_ ?_; rotate_left
            ·
             intro w'; go_simp; with_reducible rfl
            rotate_left
            ·
             simp only [Act.put, List.setIfInBounds_toArray, List.set_cons_zero, List.set_cons_succ, i64_w, i32_w]; rfl
            refine pure_ (i := 16) (N := some 74) (v := ?_) (a' := ?_) #[true, true, true, true, true, true, true, true, true, true, true, true, true, true, true, true, true, true, true, false, false, true, true, false, false, true, true, false, false, true, true, false, false, false, false, false, false, false, false, false, false] rfl rfl (any_of HT_.out (by kernel_rfl)) (fun _ _ _ h => h) (Or.inl ⟨by rfl, ?_⟩) ?_ ?_; rotate_left
            ·
             intro w'; go_simp; with_reducible rfl
            rotate_left
            ·
             simp only [Act.put, List.setIfInBounds_toArray, List.set_cons_zero, List.set_cons_succ, i64_w, i32_w]; rfl
            refine take_ (i := 19) (N := some 77) (v := ?_) (a' := ?_) #[true, true, true, true, true, true, true, true, true, true, true, true, true, true, true, true, true, true, true, true, false, true, true, false, false, true, true, false, false, true, true, false, false, false, false, false, false, false, false, false, false] rfl rfl (take_ofW HT_.out HW_.out (by kernel_rfl)) (fun _ _ _ h => h) (Or.inl ⟨by rfl, ?_⟩) hHeld ?_ ?_; rotate_left
            ·
             rintro w' ⟨s0, s1, s2, s3, s4, s5, s6, s7⟩; go_simp; with_reducible rfl
            rotate_left
            ·
             simp only [Act.put, List.setIfInBounds_toArray, List.set_cons_zero, List.set_cons_succ, i64_w, i32_w]; rfl
            refine pure_ (i := 20) (N := some 78) (v := ?_) (a' := ?_) #[true, true, true, true, true, true, true, true, true, true, true, true, true, true, true, true, true, true, true, true, true, true, true, false, false, true, true, false, false, true, true, false, false, false, false, false, false, false, false, false, false] rfl rfl (any_of HT_.out (by kernel_rfl)) (fun _ _ _ h => h) (Or.inl ⟨by rfl, ?_⟩) ?_ ?_; rotate_left
            ·
             intro w'; go_simp; with_reducible rfl
            rotate_left
            ·
             simp only [Act.put, List.setIfInBounds_toArray, List.set_cons_zero, List.set_cons_succ, i64_w, i32_w]; rfl
            refine take_ (i := 23) (N := some 81) (v := ?_) (a' := ?_) #[true, true, true, true, true, true, true, true, true, true, true, true, true, true, true, true, true, true, true, true, true, true, true, true, false, true, true, false, false, true, true, false, false, false, false, false, false, false, false, false, false] rfl rfl (take_ofW HT_.out HW_.out (by kernel_rfl)) (fun _ _ _ h => h) (Or.inl ⟨by rfl, ?_⟩) hHeld ?_ ?_; rotate_left
            ·
             rintro w' ⟨s0, s1, s2, s3, s4, s5, s6, s7⟩; go_simp; with_reducible rfl
            rotate_left
            ·
             simp only [Act.put, List.setIfInBounds_toArray, List.set_cons_zero, List.set_cons_succ, i64_w, i32_w]; rfl
            refine pure_ (i := 24) (N := some 82) (v := ?_) (a' := ?_) #[true, true, true, true, true, true, true, true, true, true, true, true, true, true, true, true, true, true, true, true, true, true, true, true, true, true, true, false, false, true, true, false, false, false, false, false, false, false, false, false, false] rfl rfl (any_of HT_.out (by kernel_rfl)) (fun _ _ _ h => h) (Or.inl ⟨by rfl, ?_⟩) ?_ ?_; rotate_left
            ·
             intro w'; go_simp; with_reducible rfl
            rotate_left
            ·
             simp only [Act.put, List.setIfInBounds_toArray, List.set_cons_zero, List.set_cons_succ, i64_w, i32_w]; rfl
            refine take_ (i := 27) (N := some 85) (v := ?_) (a' := ?_) #[true, true, true, true, true, true, true, true, true, true, true, true, true, true, true, true, true, true, true, true, true, true, true, true, true, true, true, true, false, true, true, false, false, false, false, false, false, false, false, false, false] rfl rfl (take_ofW HT_.out HW_.out (by kernel_rfl)) (fun _ _ _ h => h) (Or.inl ⟨by rfl, ?_⟩) hHeld ?_ ?_; rotate_left
            ·
             rintro w' ⟨s0, s1, s2, s3, s4, s5, s6, s7⟩; go_simp; with_reducible rfl
            rotate_left
            ·
             simp only [Act.put, List.setIfInBounds_toArray, List.set_cons_zero, List.set_cons_succ, i64_w, i32_w]; rfl
            refine pure_ (i := 28) (N := some 86) (v := ?_) (a' := ?_) #[true, true, true, true, true, true, true, true, true, true, true, true, true, true, true, true, true, true, true, true, true, true, true, true, true, true, true, true, true, true, true, false, false, false, false, false, false, false, false, false, false] rfl rfl (any_of HT_.out (by kernel_rfl)) (fun _ _ _ h => h) (Or.inl ⟨by rfl, ?_⟩) ?_ ?_; rotate_left
            ·
             intro w'; go_simp; with_reducible rfl
            rotate_left
            ·
             simp only [Act.put, List.setIfInBounds_toArray, List.set_cons_zero, List.set_cons_succ, i64_w, i32_w]; rfl
            refine take_ (i := 31) (N := some 89) (v := ?_) (a' := ?_) #[true, true, true, true, true, true, true, true, true, true, true, true, true, true, true, true, true, true, true, true, true, true, true, true, true, true, true, true, true, true, true, true, false, false, false, false, false, false, false, false, false] rfl rfl (take_ofW HT_.out HW_.out (by kernel_rfl)) (fun _ _ _ h => h) (Or.inl ⟨by rfl, ?_⟩) hHeld ?_ ?_; rotate_left
            ·
             rintro w' ⟨s0, s1, s2, s3, s4, s5, s6, s7⟩; go_simp; with_reducible rfl
            rotate_left
            ·
             simp only [Act.put, List.setIfInBounds_toArray, List.set_cons_zero, List.set_cons_succ, i64_w, i32_w]; rfl
            refine pure_ (i := 32) (N := some 90) (v := ?_) (a' := ?_) #[true, true, true, true, true, true, true, true, true, true, true, true, true, true, true, true, true, true, true, true, true, true, true, true, true, true, true, true, true, true, true, true, true, false, false, false, false, false, false, false, false] rfl rfl (any_of HT_.out (by kernel_rfl)) (fun _ _ _ h => h) (Or.inl ⟨by rfl, ?_⟩) ?_ ?_; rotate_left
            ·
             intro w'; go_simp; with_reducible rfl
            rotate_left
            ·
             simp only [Act.put, List.setIfInBounds_toArray, List.set_cons_zero, List.set_cons_succ, i64_w, i32_w]; rfl
            refine pure_ (i := 33) (N := some 91) (v := ?_) (a' := ?_) #[true, true, true, true, true, true, true, true, true, true, true, true, true, true, true, true, true, true, true, true, true, true, true, true, true, true, true, true, true, true, true, true, true, true, false, false, false, false, false, false, false] rfl rfl (any_of HT_.out (by kernel_rfl)) (fun _ _ _ h => h) (Or.inl ⟨by rfl, ?_⟩) ?_ ?_; rotate_left
            ·
             intro w'; go_simp; with_reducible rfl
            rotate_left
            ·
             simp only [Act.put, List.setIfInBounds_toArray, List.set_cons_zero, List.set_cons_succ, i64_w, i32_w]; rfl
            refine join_ (σ := Nat) 2 #[true, true, true, true, true, true, true, true, true, true, true, true, true, true, true, true, true, true, true, true, true, true, true, true, true, true, true, true, true, true, true, true, true, true, true, true, true, true, true, false, false] (fun s_ => [(92, .tuple #[.agg #[.int .i64 t432, .int .i64 t433, .int .i64 t434, .int .i64 t435], .int .i64 t436]), (11, .pointer (some ⟨s_, 0, none⟩)), (57, .tuple #[.agg #[.int .i64 t432, .int .i64 t433, .int .i64 t434, .int .i64 t435], .int .i64 t436]), (93, .agg #[.int .i64 t432, .int .i64 t433, .int .i64 t434, .int .i64 t435]), (94, .int .i64 t436)]) (fun s_ w' => (w'.cell? ad424 = some (.int .i64 (rd t413 0)) ∧ w'.cell? ⟨ad424.block, ad424.off + 1, none⟩ = some (.int .i64 (rd t413 1)) ∧ w'.cell? ⟨ad424.block, ad424.off + 2, none⟩ = some (.int .i64 (rd t413 2)) ∧ w'.cell? ⟨ad424.block, ad424.off + 3, none⟩ = some (.int .i64 (rd t413 3)) ∧ w'.cell? ad428 = some (.int .i64 (rd t417 0)) ∧ w'.cell? ⟨ad428.block, ad428.off + 1, none⟩ = some (.int .i64 (rd t417 1)) ∧ w'.cell? ⟨ad428.block, ad428.off + 2, none⟩ = some (.int .i64 (rd t417 2)) ∧ w'.cell? ⟨ad428.block, ad428.off + 3, none⟩ = some (.int .i64 (rd t417 3))) ∧ (Kd.R (Kd.int .i64) 3 w' w.heap.size (fun k_ => some k_ ≠ (.slice (some ad428) t417.length co31 : Value).ownBlock) (.slice (some ad424) t413.length co30) t413) ∧ (Kd.R (Kd.int .i64) 3 w' w.heap.size (fun k_ => some k_ ≠ (.slice (some ad424) t413.length co30 : Value).ownBlock) (.slice (some ad428) t417.length co31) t417) ∧ (w'.heap[s_]? = some (.cells #[.int .i64 0, .int .i64 0, .int .i64 0, .int .i64 0] 23 (0, 0))) ∧ (w.heap.size ≤ s_) ∧ (w.heap.size ≤ s_) ∧ (Below w.heap.size w w')) ?_ ?_; rotate_left
            ·
             intro hCont; refine two_ (i := 34) (j := 38) (Ni := some 92) (Nj := some 11) #[true, true, true, true, true, true, true, true, true, true, true, true, true, true, true, true, true, true, true, true, true, true, true, true, true, true, true, true, true, true, true, true, true, true, true, false, false, false, false, false, false] #[true, true, true, true, true, true, true, true, true, true, true, true, true, true, true, true, true, true, true, true, true, true, true, true, true, true, true, true, true, true, true, true, true, true, false, false, false, false, true, false, false] rfl rfl rfl rfl (two_of HT_.out (by kernel_rfl)) (by decide) (by decide) (fun K hK => ?_) (fun K hK => ?_)
             ·
              skip
              refine goes_ Try.func38 (by kernel_rfl) rfl #[.agg #[.int .i64 (wrap64 (2 * (rd t413 0))), .int .i64 (wrap64 (2 * (rd t413 1))), .int .i64 (wrap64 (2 * (rd t413 2))), .int .i64 (wrap64 (2 * (rd t413 3)))], .agg #[.int .i64 (wrap64 (2 * (rd t417 0))), .int .i64 (wrap64 (2 * (rd t417 1))), .int .i64 (wrap64 (2 * (rd t417 2))), .int .i64 (wrap64 (2 * (rd t417 3)))]] (by rfl) rfl rfl (by (try simp only [List.map_toArray, List.map_cons, List.map_nil]); first | done | rfl | (simp only [List.length_drop, List.length_take]; rfl)) ?_; with_reducible refine (norm_Mul.calls kj4 (wrap64 (2 * (rd t413 0))) (wrap64 (2 * (rd t413 1))) (wrap64 (2 * (rd t413 2))) (wrap64 (2 * (rd t413 3))) (wrap64 (2 * (rd t417 0))) (wrap64 (2 * (rd t417 1))) (wrap64 (2 * (rd t417 2))) (wrap64 (2 * (rd t417 3))) t432 t433 t434 t435 t436 _ A27.out).mono ?_
              rintro e w32 ⟨rfl, hb⟩; have HS0_ := (hb.cell (World.block_lt_of_cell? _ _ (hHeld.1))).trans (hHeld.1); have HS1_ := (hb.cell (World.block_lt_of_cell? _ _ (hHeld.2.1))).trans (hHeld.2.1); have HS2_ := (hb.cell (World.block_lt_of_cell? _ _ (hHeld.2.2.1))).trans (hHeld.2.2.1); have HS3_ := (hb.cell (World.block_lt_of_cell? _ _ (hHeld.2.2.2.1))).trans (hHeld.2.2.2.1); have HS4_ := (hb.cell (World.block_lt_of_cell? _ _ (hHeld.2.2.2.2.1))).trans (hHeld.2.2.2.2.1); have HS5_ := (hb.cell (World.block_lt_of_cell? _ _ (hHeld.2.2.2.2.2.1))).trans (hHeld.2.2.2.2.2.1); have HS6_ := (hb.cell (World.block_lt_of_cell? _ _ (hHeld.2.2.2.2.2.2.1))).trans (hHeld.2.2.2.2.2.2.1); have HS7_ := (hb.cell (World.block_lt_of_cell? _ _ (hHeld.2.2.2.2.2.2.2))).trans (hHeld.2.2.2.2.2.2.2); refine ⟨_, rfl, ?_⟩; replace HO_7 := rbl HO_7 hb; replace HO_9 := rbl HO_9 hb; replace HB := bst HB hb; (try clear hb); refine hK.out _ _ ⟨HS0_, HS1_, HS2_, HS3_, HS4_, HS5_, HS6_, HS7_⟩ (fun hHeld => ?_); clear hK K; refine norm_ (a' := ?_) ?_ ?_; rotate_left
              ·
               show Act.put _ (some 92) _ = _; simp only [Act.put, List.setIfInBounds_toArray, List.set_cons_zero, List.set_cons_succ, i64_w, i32_w]; rfl
              refine pure_ (i := 35) (N := some 57) (v := ?_) (a' := ?_) #[true, true, true, true, true, true, true, true, true, true, true, true, true, true, true, true, true, true, true, true, true, true, true, true, true, true, true, true, true, true, true, true, true, true, true, true, false, false, false, false, false] rfl rfl (any_of HT_.out (by kernel_rfl)) (fun _ _ _ h => h) (Or.inl ⟨by rfl, ?_⟩) ?_ ?_; rotate_left
              ·
               intro w'; go_simp; with_reducible rfl
              rotate_left
              ·
               simp only [Act.put, List.setIfInBounds_toArray, List.set_cons_zero, List.set_cons_succ, i64_w, i32_w]; rfl
              refine pure_ (i := 36) (N := some 93) (v := ?_) (a' := ?_) #[true, true, true, true, true, true, true, true, true, true, true, true, true, true, true, true, true, true, true, true, true, true, true, true, true, true, true, true, true, true, true, true, true, true, true, true, true, false, false, false, false] rfl rfl (any_of HT_.out (by kernel_rfl)) (fun _ _ _ h => h) (Or.inl ⟨by rfl, ?_⟩) ?_ ?_; rotate_left
              ·
               intro w'; go_simp; with_reducible rfl
              rotate_left
              ·
               simp only [Act.put, List.setIfInBounds_toArray, List.set_cons_zero, List.set_cons_succ, i64_w, i32_w]; rfl
              refine pure_ (i := 37) (N := some 94) (v := ?_) (a' := ?_) #[true, true, true, true, true, true, true, true, true, true, true, true, true, true, true, true, true, true, true, true, true, true, true, true, true, true, true, true, true, true, true, true, true, true, true, true, true, true, false, false, false] rfl rfl (any_of HT_.out (by kernel_rfl)) (fun _ _ _ h => h) (Or.inl ⟨by rfl, ?_⟩) ?_ ?_; rotate_left
              ·
               intro w'; go_simp; with_reducible rfl
              rotate_left
              ·
               simp only [Act.put, List.setIfInBounds_toArray, List.set_cons_zero, List.set_cons_succ, i64_w, i32_w]; rfl
              refine one_ (i := 38) (N := some 11) #[true, true, true, true, true, true, true, true, true, true, true, true, true, true, true, true, true, true, true, true, true, true, true, true, true, true, true, true, true, true, true, true, true, true, true, true, true, true, true, false, false] rfl rfl (one_of HT_.out (by kernel_rfl)) (by decide) (fun K hK => ?_); refine box_step ?hg (N := 11) ?hd (cs := #[.int .i64 0, .int .i64 0, .int .i64 0, .int .i64 0]) (t := 23) ?hr ?_; (case hd => rfl); (case hg => rfl); (case hr => first | (go_simp; done) | (go_simp; rfl)); intro gb437 hg w33 hbox hb; have HS0_ := (hb.cell (World.block_lt_of_cell? _ _ (hHeld.1))).trans (hHeld.1); have HS1_ := (hb.cell (World.block_lt_of_cell? _ _ (hHeld.2.1))).trans (hHeld.2.1); have HS2_ := (hb.cell (World.block_lt_of_cell? _ _ (hHeld.2.2.1))).trans (hHeld.2.2.1); have HS3_ := (hb.cell (World.block_lt_of_cell? _ _ (hHeld.2.2.2.1))).trans (hHeld.2.2.2.1); have HS4_ := (hb.cell (World.block_lt_of_cell? _ _ (hHeld.2.2.2.2.1))).trans (hHeld.2.2.2.2.1); have HS5_ := (hb.cell (World.block_lt_of_cell? _ _ (hHeld.2.2.2.2.2.1))).trans (hHeld.2.2.2.2.2.1); have HS6_ := (hb.cell (World.block_lt_of_cell? _ _ (hHeld.2.2.2.2.2.2.1))).trans (hHeld.2.2.2.2.2.2.1); have HS7_ := (hb.cell (World.block_lt_of_cell? _ _ (hHeld.2.2.2.2.2.2.2))).trans (hHeld.2.2.2.2.2.2.2); have BK437 := mk0 (hbox); have GW437 := szw hg HB; have GE437 := szw hg HB; replace HO_7 := rbl HO_7 hb; replace HO_9 := rbl HO_9 hb; replace HB := bst HB hb; clear hb hbox hg; refine hK.out _ _ ⟨HS0_, HS1_, HS2_, HS3_, HS4_, HS5_, HS6_, HS7_⟩ (fun hHeld => ?_); clear hK K; refine norm_ (a' := ?_) ?_ ?_; rotate_left
              ·
               show Act.put _ (some 11) _ = _; simp only [Act.put, List.setIfInBounds_toArray, List.set_cons_zero, List.set_cons_succ, i64_w, i32_w]; rfl
              exact norm_ (by simp only [putAll, Act.put, List.setIfInBounds_toArray, List.set_cons_zero, List.set_cons_succ]) (hCont (gb437) _ ⟨hHeld, HO_7.out, HO_9.out, BK437.out, GW437.out, GE437.out, HB.out⟩)
             ·
              skip
              refine box_step ?hg (N := 11) ?hd (cs := #[.int .i64 0, .int .i64 0, .int .i64 0, .int .i64 0]) (t := 23) ?hr ?_; (case hd => rfl); (case hg => rfl); (case hr => first | (go_simp; done) | (go_simp; rfl)); intro gb437 hg w32 hbox hb; have HS0_ := (hb.cell (World.block_lt_of_cell? _ _ (hHeld.1))).trans (hHeld.1); have HS1_ := (hb.cell (World.block_lt_of_cell? _ _ (hHeld.2.1))).trans (hHeld.2.1); have HS2_ := (hb.cell (World.block_lt_of_cell? _ _ (hHeld.2.2.1))).trans (hHeld.2.2.1); have HS3_ := (hb.cell (World.block_lt_of_cell? _ _ (hHeld.2.2.2.1))).trans (hHeld.2.2.2.1); have HS4_ := (hb.cell (World.block_lt_of_cell? _ _ (hHeld.2.2.2.2.1))).trans (hHeld.2.2.2.2.1); have HS5_ := (hb.cell (World.block_lt_of_cell? _ _ (hHeld.2.2.2.2.2.1))).trans (hHeld.2.2.2.2.2.1); have HS6_ := (hb.cell (World.block_lt_of_cell? _ _ (hHeld.2.2.2.2.2.2.1))).trans (hHeld.2.2.2.2.2.2.1); have HS7_ := (hb.cell (World.block_lt_of_cell? _ _ (hHeld.2.2.2.2.2.2.2))).trans (hHeld.2.2.2.2.2.2.2); have BK437 := mk0 (hbox); have GW437 := szw hg HB; have GE437 := szw hg HB; replace HO_7 := rbl HO_7 hb; replace HO_9 := rbl HO_9 hb; replace HB := bst HB hb; clear hb hbox hg; refine hK.out _ _ ⟨HS0_, HS1_, HS2_, HS3_, HS4_, HS5_, HS6_, HS7_⟩ (fun hHeld => ?_); clear hK K; refine norm_ (a' := ?_) ?_ ?_; rotate_left
              ·
               show Act.put _ (some 11) _ = _; simp only [Act.put, List.setIfInBounds_toArray, List.set_cons_zero, List.set_cons_succ, i64_w, i32_w]; rfl
              refine one_ (i := 34) (N := some 92) #[true, true, true, true, true, true, true, true, true, true, true, true, true, true, true, true, true, true, true, true, true, true, true, true, true, true, true, true, true, true, true, true, true, true, true, false, false, false, true, false, false] rfl rfl (one_of HT_.out (by kernel_rfl)) (by decide) (fun K hK => ?_); refine goes_ Try.func38 (by kernel_rfl) rfl #[.agg #[.int .i64 (wrap64 (2 * (rd t413 0))), .int .i64 (wrap64 (2 * (rd t413 1))), .int .i64 (wrap64 (2 * (rd t413 2))), .int .i64 (wrap64 (2 * (rd t413 3)))], .agg #[.int .i64 (wrap64 (2 * (rd t417 0))), .int .i64 (wrap64 (2 * (rd t417 1))), .int .i64 (wrap64 (2 * (rd t417 2))), .int .i64 (wrap64 (2 * (rd t417 3)))]] (by rfl) rfl rfl (by (try simp only [List.map_toArray, List.map_cons, List.map_nil]); first | done | rfl | (simp only [List.length_drop, List.length_take]; rfl)) ?_; with_reducible refine (norm_Mul.calls kj4 (wrap64 (2 * (rd t413 0))) (wrap64 (2 * (rd t413 1))) (wrap64 (2 * (rd t413 2))) (wrap64 (2 * (rd t413 3))) (wrap64 (2 * (rd t417 0))) (wrap64 (2 * (rd t417 1))) (wrap64 (2 * (rd t417 2))) (wrap64 (2 * (rd t417 3))) t432 t433 t434 t435 t436 _ A27.out).mono ?_
              rintro e w33 ⟨rfl, hb⟩; have HS0_ := (hb.cell (World.block_lt_of_cell? _ _ (hHeld.1))).trans (hHeld.1); have HS1_ := (hb.cell (World.block_lt_of_cell? _ _ (hHeld.2.1))).trans (hHeld.2.1); have HS2_ := (hb.cell (World.block_lt_of_cell? _ _ (hHeld.2.2.1))).trans (hHeld.2.2.1); have HS3_ := (hb.cell (World.block_lt_of_cell? _ _ (hHeld.2.2.2.1))).trans (hHeld.2.2.2.1); have HS4_ := (hb.cell (World.block_lt_of_cell? _ _ (hHeld.2.2.2.2.1))).trans (hHeld.2.2.2.2.1); have HS5_ := (hb.cell (World.block_lt_of_cell? _ _ (hHeld.2.2.2.2.2.1))).trans (hHeld.2.2.2.2.2.1); have HS6_ := (hb.cell (World.block_lt_of_cell? _ _ (hHeld.2.2.2.2.2.2.1))).trans (hHeld.2.2.2.2.2.2.1); have HS7_ := (hb.cell (World.block_lt_of_cell? _ _ (hHeld.2.2.2.2.2.2.2))).trans (hHeld.2.2.2.2.2.2.2); refine ⟨_, rfl, ?_⟩; replace HO_7 := rbl HO_7 hb; replace HO_9 := rbl HO_9 hb; replace BK437 := bkb BK437 hb; replace HB := bst HB hb; (try clear hb); refine hK.out _ _ ⟨HS0_, HS1_, HS2_, HS3_, HS4_, HS5_, HS6_, HS7_⟩ (fun hHeld => ?_); clear hK K; refine norm_ (a' := ?_) ?_ ?_; rotate_left
              ·
               show Act.put _ (some 92) _ = _; simp only [Act.put, List.setIfInBounds_toArray, List.set_cons_zero, List.set_cons_succ, i64_w, i32_w]; rfl
              refine pure_ (i := 35) (N := some 57) (v := ?_) (a' := ?_) #[true, true, true, true, true, true, true, true, true, true, true, true, true, true, true, true, true, true, true, true, true, true, true, true, true, true, true, true, true, true, true, true, true, true, true, true, false, false, true, false, false] rfl rfl (any_of HT_.out (by kernel_rfl)) (fun _ _ _ h => h) (Or.inl ⟨by rfl, ?_⟩) ?_ ?_; rotate_left
              ·
               intro w'; go_simp; with_reducible rfl
              rotate_left
              ·
               simp only [Act.put, List.setIfInBounds_toArray, List.set_cons_zero, List.set_cons_succ, i64_w, i32_w]; rfl
              refine pure_ (i := 36) (N := some 93) (v := ?_) (a' := ?_) #[true, true, true, true, true, true, true, true, true, true, true, true, true, true, true, true, true, true, true, true, true, true, true, true, true, true, true, true, true, true, true, true, true, true, true, true, true, false, true, false, false] rfl rfl (any_of HT_.out (by kernel_rfl)) (fun _ _ _ h => h) (Or.inl ⟨by rfl, ?_⟩) ?_ ?_; rotate_left
              ·
               intro w'; go_simp; with_reducible rfl
              rotate_left
              ·
               simp only [Act.put, List.setIfInBounds_toArray, List.set_cons_zero, List.set_cons_succ, i64_w, i32_w]; rfl
              refine pure_ (i := 37) (N := some 94) (v := ?_) (a' := ?_) #[true, true, true, true, true, true, true, true, true, true, true, true, true, true, true, true, true, true, true, true, true, true, true, true, true, true, true, true, true, true, true, true, true, true, true, true, true, true, true, false, false] rfl rfl (any_of HT_.out (by kernel_rfl)) (fun _ _ _ h => h) (Or.inl ⟨by rfl, ?_⟩) ?_ ?_; rotate_left
              ·
               intro w'; go_simp; with_reducible rfl
              rotate_left
              ·
               simp only [Act.put, List.setIfInBounds_toArray, List.set_cons_zero, List.set_cons_succ, i64_w, i32_w]; rfl
              exact norm_ (by simp only [putAll, Act.put, List.setIfInBounds_toArray, List.set_cons_zero, List.set_cons_succ]) (hCont (gb437) _ ⟨hHeld, HO_7.out, HO_9.out, BK437.out, GW437.out, GE437.out, HB.out⟩)
            clear HO_7 HO_9 HB; rintro gb437 w34 hJ_; obtain ⟨hS_, HO_7, HO_9, BK437, GW437, GE437, HB⟩ := hJ_; replace HO_7 := mk0 HO_7; replace HO_9 := mk0 HO_9; replace BK437 := mk0 BK437; replace GW437 := mk0 GW437; replace GE437 := mk0 GE437; replace HB := mk0 HB; have hHeld : w34.cell? ad424 = some (.int .i64 (rd t413 0)) ∧ w34.cell? ⟨ad424.block, ad424.off + 1, none⟩ = some (.int .i64 (rd t413 1)) ∧ w34.cell? ⟨ad424.block, ad424.off + 2, none⟩ = some (.int .i64 (rd t413 2)) ∧ w34.cell? ⟨ad424.block, ad424.off + 3, none⟩ = some (.int .i64 (rd t413 3)) ∧ w34.cell? ad428 = some (.int .i64 (rd t417 0)) ∧ w34.cell? ⟨ad428.block, ad428.off + 1, none⟩ = some (.int .i64 (rd t417 1)) ∧ w34.cell? ⟨ad428.block, ad428.off + 2, none⟩ = some (.int .i64 (rd t417 2)) ∧ w34.cell? ⟨ad428.block, ad428.off + 3, none⟩ = some (.int .i64 (rd t417 3)) := hS_; refine norm_ (a' := ?_) ?_ ?_; rotate_left
            ·
             simp only [putAll, Act.put, List.setIfInBounds_toArray, List.set_cons_zero, List.set_cons_succ]; rfl
            refine one_ (i := 39) (N := none) #[true, true, true, true, true, true, true, true, true, true, true, true, true, true, true, true, true, true, true, true, true, true, true, true, true, true, true, true, true, true, true, true, true, true, true, true, true, true, true, true, false] rfl rfl (one_of HT_.out (by kernel_rfl)) (by decide) (fun K hK => ?_); have hs35 : w34.cell? ⟨gb437, 0, none⟩ = some (.int .i64 0) := (blk_cell BK437.out 0).trans rfl; have hfs35 := blk_frozen BK437.out 0; have hs36 : w34.cell? ⟨gb437, 1, none⟩ = some (.int .i64 0) := (blk_cell BK437.out 1).trans rfl; have hfs36 := blk_frozen BK437.out 1; have hs37 : w34.cell? ⟨gb437, 2, none⟩ = some (.int .i64 0) := (blk_cell BK437.out 2).trans rfl; have hfs37 := blk_frozen BK437.out 2; have hs38 : w34.cell? ⟨gb437, 3, none⟩ = some (.int .i64 0) := (blk_cell BK437.out 3).trans rfl; have hfs38 := blk_frozen BK437.out 3; refine skip_ (w1 := ?_) (by rfl) rfl ?_ ?_; rotate_left
            ·
             go_simp; rfl
            refine hK.out _ _ ⟨((cell_far (p := ⟨gb437, _, none⟩) (by first | exact Kd.own_blk (Kd.R_ne HO_7.out BK437.out (by decide)) | (rw [add_block]; exact Kd.own_blk (Kd.R_ne HO_7.out BK437.out (by decide))) | (show (Addr.add _ _).block ≠ _; rw [add_block]; exact Kd.own_blk (Kd.R_ne HO_7.out BK437.out (by decide))) | (dsimp only; exact Kd.own_blk (Kd.R_ne HO_7.out BK437.out (by decide)))) _).trans (((cell_far (p := ⟨gb437, _, none⟩) (by first | exact Kd.own_blk (Kd.R_ne HO_7.out BK437.out (by decide)) | (rw [add_block]; exact Kd.own_blk (Kd.R_ne HO_7.out BK437.out (by decide))) | (show (Addr.add _ _).block ≠ _; rw [add_block]; exact Kd.own_blk (Kd.R_ne HO_7.out BK437.out (by decide))) | (dsimp only; exact Kd.own_blk (Kd.R_ne HO_7.out BK437.out (by decide)))) _).trans (((cell_far (p := ⟨gb437, _, none⟩) (by first | exact Kd.own_blk (Kd.R_ne HO_7.out BK437.out (by decide)) | (rw [add_block]; exact Kd.own_blk (Kd.R_ne HO_7.out BK437.out (by decide))) | (show (Addr.add _ _).block ≠ _; rw [add_block]; exact Kd.own_blk (Kd.R_ne HO_7.out BK437.out (by decide))) | (dsimp only; exact Kd.own_blk (Kd.R_ne HO_7.out BK437.out (by decide)))) _).trans (((cell_far (p := ⟨gb437, _, none⟩) (by first | exact Kd.own_blk (Kd.R_ne HO_7.out BK437.out (by decide)) | (rw [add_block]; exact Kd.own_blk (Kd.R_ne HO_7.out BK437.out (by decide))) | (show (Addr.add _ _).block ≠ _; rw [add_block]; exact Kd.own_blk (Kd.R_ne HO_7.out BK437.out (by decide))) | (dsimp only; exact Kd.own_blk (Kd.R_ne HO_7.out BK437.out (by decide)))) _).trans (hHeld.1)))))))), ((cell_far (p := ⟨gb437, _, none⟩) (by first | exact Kd.own_blk (Kd.R_ne HO_7.out BK437.out (by decide)) | (rw [add_block]; exact Kd.own_blk (Kd.R_ne HO_7.out BK437.out (by decide))) | (show (Addr.add _ _).block ≠ _; rw [add_block]; exact Kd.own_blk (Kd.R_ne HO_7.out BK437.out (by decide))) | (dsimp only; exact Kd.own_blk (Kd.R_ne HO_7.out BK437.out (by decide)))) _).trans (((cell_far (p := ⟨gb437, _, none⟩) (by first | exact Kd.own_blk (Kd.R_ne HO_7.out BK437.out (by decide)) | (rw [add_block]; exact Kd.own_blk (Kd.R_ne HO_7.out BK437.out (by decide))) | (show (Addr.add _ _).block ≠ _; rw [add_block]; exact Kd.own_blk (Kd.R_ne HO_7.out BK437.out (by decide))) | (dsimp only; exact Kd.own_blk (Kd.R_ne HO_7.out BK437.out (by decide)))) _).trans (((cell_far (p := ⟨gb437, _, none⟩) (by first | exact Kd.own_blk (Kd.R_ne HO_7.out BK437.out (by decide)) | (rw [add_block]; exact Kd.own_blk (Kd.R_ne HO_7.out BK437.out (by decide))) | (show (Addr.add _ _).block ≠ _; rw [add_block]; exact Kd.own_blk (Kd.R_ne HO_7.out BK437.out (by decide))) | (dsimp only; exact Kd.own_blk (Kd.R_ne HO_7.out BK437.out (by decide)))) _).trans (((cell_far (p := ⟨gb437, _, none⟩) (by first | exact Kd.own_blk (Kd.R_ne HO_7.out BK437.out (by decide)) | (rw [add_block]; exact Kd.own_blk (Kd.R_ne HO_7.out BK437.out (by decide))) | (show (Addr.add _ _).block ≠ _; rw [add_block]; exact Kd.own_blk (Kd.R_ne HO_7.out BK437.out (by decide))) | (dsimp only; exact Kd.own_blk (Kd.R_ne HO_7.out BK437.out (by decide)))) _).trans (hHeld.2.1)))))))), ((cell_far (p := ⟨gb437, _, none⟩) (by first | exact Kd.own_blk (Kd.R_ne HO_7.out BK437.out (by decide)) | (rw [add_block]; exact Kd.own_blk (Kd.R_ne HO_7.out BK437.out (by decide))) | (show (Addr.add _ _).block ≠ _; rw [add_block]; exact Kd.own_blk (Kd.R_ne HO_7.out BK437.out (by decide))) | (dsimp only; exact Kd.own_blk (Kd.R_ne HO_7.out BK437.out (by decide)))) _).trans (((cell_far (p := ⟨gb437, _, none⟩) (by first | exact Kd.own_blk (Kd.R_ne HO_7.out BK437.out (by decide)) | (rw [add_block]; exact Kd.own_blk (Kd.R_ne HO_7.out BK437.out (by decide))) | (show (Addr.add _ _).block ≠ _; rw [add_block]; exact Kd.own_blk (Kd.R_ne HO_7.out BK437.out (by decide))) | (dsimp only; exact Kd.own_blk (Kd.R_ne HO_7.out BK437.out (by decide)))) _).trans (((cell_far (p := ⟨gb437, _, none⟩) (by first | exact Kd.own_blk (Kd.R_ne HO_7.out BK437.out (by decide)) | (rw [add_block]; exact Kd.own_blk (Kd.R_ne HO_7.out BK437.out (by decide))) | (show (Addr.add _ _).block ≠ _; rw [add_block]; exact Kd.own_blk (Kd.R_ne HO_7.out BK437.out (by decide))) | (dsimp only; exact Kd.own_blk (Kd.R_ne HO_7.out BK437.out (by decide)))) _).trans (((cell_far (p := ⟨gb437, _, none⟩) (by first | exact Kd.own_blk (Kd.R_ne HO_7.out BK437.out (by decide)) | (rw [add_block]; exact Kd.own_blk (Kd.R_ne HO_7.out BK437.out (by decide))) | (show (Addr.add _ _).block ≠ _; rw [add_block]; exact Kd.own_blk (Kd.R_ne HO_7.out BK437.out (by decide))) | (dsimp only; exact Kd.own_blk (Kd.R_ne HO_7.out BK437.out (by decide)))) _).trans (hHeld.2.2.1)))))))), ((cell_far (p := ⟨gb437, _, none⟩) (by first | exact Kd.own_blk (Kd.R_ne HO_7.out BK437.out (by decide)) | (rw [add_block]; exact Kd.own_blk (Kd.R_ne HO_7.out BK437.out (by decide))) | (show (Addr.add _ _).block ≠ _; rw [add_block]; exact Kd.own_blk (Kd.R_ne HO_7.out BK437.out (by decide))) | (dsimp only; exact Kd.own_blk (Kd.R_ne HO_7.out BK437.out (by decide)))) _).trans (((cell_far (p := ⟨gb437, _, none⟩) (by first | exact Kd.own_blk (Kd.R_ne HO_7.out BK437.out (by decide)) | (rw [add_block]; exact Kd.own_blk (Kd.R_ne HO_7.out BK437.out (by decide))) | (show (Addr.add _ _).block ≠ _; rw [add_block]; exact Kd.own_blk (Kd.R_ne HO_7.out BK437.out (by decide))) | (dsimp only; exact Kd.own_blk (Kd.R_ne HO_7.out BK437.out (by decide)))) _).trans (((cell_far (p := ⟨gb437, _, none⟩) (by first | exact Kd.own_blk (Kd.R_ne HO_7.out BK437.out (by decide)) | (rw [add_block]; exact Kd.own_blk (Kd.R_ne HO_7.out BK437.out (by decide))) | (show (Addr.add _ _).block ≠ _; rw [add_block]; exact Kd.own_blk (Kd.R_ne HO_7.out BK437.out (by decide))) | (dsimp only; exact Kd.own_blk (Kd.R_ne HO_7.out BK437.out (by decide)))) _).trans (((cell_far (p := ⟨gb437, _, none⟩) (by first | exact Kd.own_blk (Kd.R_ne HO_7.out BK437.out (by decide)) | (rw [add_block]; exact Kd.own_blk (Kd.R_ne HO_7.out BK437.out (by decide))) | (show (Addr.add _ _).block ≠ _; rw [add_block]; exact Kd.own_blk (Kd.R_ne HO_7.out BK437.out (by decide))) | (dsimp only; exact Kd.own_blk (Kd.R_ne HO_7.out BK437.out (by decide)))) _).trans (hHeld.2.2.2.1)))))))), ((cell_far (p := ⟨gb437, _, none⟩) (by first | exact Kd.own_blk (Kd.R_ne HO_9.out BK437.out (by decide)) | (rw [add_block]; exact Kd.own_blk (Kd.R_ne HO_9.out BK437.out (by decide))) | (show (Addr.add _ _).block ≠ _; rw [add_block]; exact Kd.own_blk (Kd.R_ne HO_9.out BK437.out (by decide))) | (dsimp only; exact Kd.own_blk (Kd.R_ne HO_9.out BK437.out (by decide)))) _).trans (((cell_far (p := ⟨gb437, _, none⟩) (by first | exact Kd.own_blk (Kd.R_ne HO_9.out BK437.out (by decide)) | (rw [add_block]; exact Kd.own_blk (Kd.R_ne HO_9.out BK437.out (by decide))) | (show (Addr.add _ _).block ≠ _; rw [add_block]; exact Kd.own_blk (Kd.R_ne HO_9.out BK437.out (by decide))) | (dsimp only; exact Kd.own_blk (Kd.R_ne HO_9.out BK437.out (by decide)))) _).trans (((cell_far (p := ⟨gb437, _, none⟩) (by first | exact Kd.own_blk (Kd.R_ne HO_9.out BK437.out (by decide)) | (rw [add_block]; exact Kd.own_blk (Kd.R_ne HO_9.out BK437.out (by decide))) | (show (Addr.add _ _).block ≠ _; rw [add_block]; exact Kd.own_blk (Kd.R_ne HO_9.out BK437.out (by decide))) | (dsimp only; exact Kd.own_blk (Kd.R_ne HO_9.out BK437.out (by decide)))) _).trans (((cell_far (p := ⟨gb437, _, none⟩) (by first | exact Kd.own_blk (Kd.R_ne HO_9.out BK437.out (by decide)) | (rw [add_block]; exact Kd.own_blk (Kd.R_ne HO_9.out BK437.out (by decide))) | (show (Addr.add _ _).block ≠ _; rw [add_block]; exact Kd.own_blk (Kd.R_ne HO_9.out BK437.out (by decide))) | (dsimp only; exact Kd.own_blk (Kd.R_ne HO_9.out BK437.out (by decide)))) _).trans (hHeld.2.2.2.2.1)))))))), ((cell_far (p := ⟨gb437, _, none⟩) (by first | exact Kd.own_blk (Kd.R_ne HO_9.out BK437.out (by decide)) | (rw [add_block]; exact Kd.own_blk (Kd.R_ne HO_9.out BK437.out (by decide))) | (show (Addr.add _ _).block ≠ _; rw [add_block]; exact Kd.own_blk (Kd.R_ne HO_9.out BK437.out (by decide))) | (dsimp only; exact Kd.own_blk (Kd.R_ne HO_9.out BK437.out (by decide)))) _).trans (((cell_far (p := ⟨gb437, _, none⟩) (by first | exact Kd.own_blk (Kd.R_ne HO_9.out BK437.out (by decide)) | (rw [add_block]; exact Kd.own_blk (Kd.R_ne HO_9.out BK437.out (by decide))) | (show (Addr.add _ _).block ≠ _; rw [add_block]; exact Kd.own_blk (Kd.R_ne HO_9.out BK437.out (by decide))) | (dsimp only; exact Kd.own_blk (Kd.R_ne HO_9.out BK437.out (by decide)))) _).trans (((cell_far (p := ⟨gb437, _, none⟩) (by first | exact Kd.own_blk (Kd.R_ne HO_9.out BK437.out (by decide)) | (rw [add_block]; exact Kd.own_blk (Kd.R_ne HO_9.out BK437.out (by decide))) | (show (Addr.add _ _).block ≠ _; rw [add_block]; exact Kd.own_blk (Kd.R_ne HO_9.out BK437.out (by decide))) | (dsimp only; exact Kd.own_blk (Kd.R_ne HO_9.out BK437.out (by decide)))) _).trans (((cell_far (p := ⟨gb437, _, none⟩) (by first | exact Kd.own_blk (Kd.R_ne HO_9.out BK437.out (by decide)) | (rw [add_block]; exact Kd.own_blk (Kd.R_ne HO_9.out BK437.out (by decide))) | (show (Addr.add _ _).block ≠ _; rw [add_block]; exact Kd.own_blk (Kd.R_ne HO_9.out BK437.out (by decide))) | (dsimp only; exact Kd.own_blk (Kd.R_ne HO_9.out BK437.out (by decide)))) _).trans (hHeld.2.2.2.2.2.1)))))))), ((cell_far (p := ⟨gb437, _, none⟩) (by first | exact Kd.own_blk (Kd.R_ne HO_9.out BK437.out (by decide)) | (rw [add_block]; exact Kd.own_blk (Kd.R_ne HO_9.out BK437.out (by decide))) | (show (Addr.add _ _).block ≠ _; rw [add_block]; exact Kd.own_blk (Kd.R_ne HO_9.out BK437.out (by decide))) | (dsimp only; exact Kd.own_blk (Kd.R_ne HO_9.out BK437.out (by decide)))) _).trans (((cell_far (p := ⟨gb437, _, none⟩) (by first | exact Kd.own_blk (Kd.R_ne HO_9.out BK437.out (by decide)) | (rw [add_block]; exact Kd.own_blk (Kd.R_ne HO_9.out BK437.out (by decide))) | (show (Addr.add _ _).block ≠ _; rw [add_block]; exact Kd.own_blk (Kd.R_ne HO_9.out BK437.out (by decide))) | (dsimp only; exact Kd.own_blk (Kd.R_ne HO_9.out BK437.out (by decide)))) _).trans (((cell_far (p := ⟨gb437, _, none⟩) (by first | exact Kd.own_blk (Kd.R_ne HO_9.out BK437.out (by decide)) | (rw [add_block]; exact Kd.own_blk (Kd.R_ne HO_9.out BK437.out (by decide))) | (show (Addr.add _ _).block ≠ _; rw [add_block]; exact Kd.own_blk (Kd.R_ne HO_9.out BK437.out (by decide))) | (dsimp only; exact Kd.own_blk (Kd.R_ne HO_9.out BK437.out (by decide)))) _).trans (((cell_far (p := ⟨gb437, _, none⟩) (by first | exact Kd.own_blk (Kd.R_ne HO_9.out BK437.out (by decide)) | (rw [add_block]; exact Kd.own_blk (Kd.R_ne HO_9.out BK437.out (by decide))) | (show (Addr.add _ _).block ≠ _; rw [add_block]; exact Kd.own_blk (Kd.R_ne HO_9.out BK437.out (by decide))) | (dsimp only; exact Kd.own_blk (Kd.R_ne HO_9.out BK437.out (by decide)))) _).trans (hHeld.2.2.2.2.2.2.1)))))))), ((cell_far (p := ⟨gb437, _, none⟩) (by first | exact Kd.own_blk (Kd.R_ne HO_9.out BK437.out (by decide)) | (rw [add_block]; exact Kd.own_blk (Kd.R_ne HO_9.out BK437.out (by decide))) | (show (Addr.add _ _).block ≠ _; rw [add_block]; exact Kd.own_blk (Kd.R_ne HO_9.out BK437.out (by decide))) | (dsimp only; exact Kd.own_blk (Kd.R_ne HO_9.out BK437.out (by decide)))) _).trans (((cell_far (p := ⟨gb437, _, none⟩) (by first | exact Kd.own_blk (Kd.R_ne HO_9.out BK437.out (by decide)) | (rw [add_block]; exact Kd.own_blk (Kd.R_ne HO_9.out BK437.out (by decide))) | (show (Addr.add _ _).block ≠ _; rw [add_block]; exact Kd.own_blk (Kd.R_ne HO_9.out BK437.out (by decide))) | (dsimp only; exact Kd.own_blk (Kd.R_ne HO_9.out BK437.out (by decide)))) _).trans (((cell_far (p := ⟨gb437, _, none⟩) (by first | exact Kd.own_blk (Kd.R_ne HO_9.out BK437.out (by decide)) | (rw [add_block]; exact Kd.own_blk (Kd.R_ne HO_9.out BK437.out (by decide))) | (show (Addr.add _ _).block ≠ _; rw [add_block]; exact Kd.own_blk (Kd.R_ne HO_9.out BK437.out (by decide))) | (dsimp only; exact Kd.own_blk (Kd.R_ne HO_9.out BK437.out (by decide)))) _).trans (((cell_far (p := ⟨gb437, _, none⟩) (by first | exact Kd.own_blk (Kd.R_ne HO_9.out BK437.out (by decide)) | (rw [add_block]; exact Kd.own_blk (Kd.R_ne HO_9.out BK437.out (by decide))) | (show (Addr.add _ _).block ≠ _; rw [add_block]; exact Kd.own_blk (Kd.R_ne HO_9.out BK437.out (by decide))) | (dsimp only; exact Kd.own_blk (Kd.R_ne HO_9.out BK437.out (by decide)))) _).trans (hHeld.2.2.2.2.2.2.2))))))))⟩ (fun hHeld => ?_)
            clear hK K; refine pure_ (i := 40) (N := some 12) (v := ?_) (a' := ?_) #[true, true, true, true, true, true, true, true, true, true, true, true, true, true, true, true, true, true, true, true, true, true, true, true, true, true, true, true, true, true, true, true, true, true, true, true, true, true, true, true, true] rfl rfl (any_of HT_.out (by kernel_rfl)) (fun _ _ _ h => h) (Or.inl ⟨by rfl, ?_⟩) ?_ ?_; rotate_left
            ·
             intro w'; go_simp; with_reducible rfl
            rotate_left
            ·
             simp only [Act.put, List.setIfInBounds_toArray, List.set_cons_zero, List.set_cons_succ, i64_w, i32_w]; rfl
            refine done_ (done_of HT_.out (by kernel_rfl)) ?_; go_upto_region 7 with (fail)
            go_cut [120] (fun v120 wc => ∃ (kq : Nat) (x120_27 : Bool), v120 = .bool x120_27 ∧ Aside0 (bellpulllaw04_NormEuler.j1 kq (Int.tmod (wrap64 (a0)) 100) (Int.tmod (wrap64 (a1)) 101) x120_27 t432 t433 t434 t435 = some r) ∧ Aside0 (kq ≤ kj4) ∧ Aside0 (wc.heap[gb437]? = some (.cells #[.int .i64 t432, .int .i64 t433, .int .i64 t434, .int .i64 t435] 23 (0, 0))) ∧ Aside0 (Below w.heap.size w wc))
            case first =>
             have H := HC28.out; clear HC28
             by_cases c39 : t436 = 0
             ·
              rw [if_pos c39] at H; have c39b0 : (t436 == 0) = true := beq_iff_eq.mpr c39; have c39b1 : (t436 != 0) = false := bne_eq_false_iff_eq.mpr c39; clear c39; (first | rw [c39b0] | (simp only [i64_w, i32_w]; rw [c39b0]) | skip)
              by_cases c40 : (Go.bits .and .i64 t432 1) = 0
              ·
               rw [if_pos c40] at H; have c40b0 : ((Go.bits .and .i64 t432 1) == 0) = true := beq_iff_eq.mpr c40; have c40b1 : ((Go.bits .and .i64 t432 1) != 0) = false := bne_eq_false_iff_eq.mpr c40; clear c40
               by_cases c41 : (Go.bits .and .i64 t433 1) = 0
               ·
                rw [if_pos c41] at H; have c41b0 : ((Go.bits .and .i64 t433 1) == 0) = true := beq_iff_eq.mpr c41; have c41b1 : ((Go.bits .and .i64 t433 1) != 0) = false := bne_eq_false_iff_eq.mpr c41; clear c41
                by_cases c42 : (Go.bits .and .i64 t434 1) = 0
                ·
                 rw [if_pos c42] at H; have c42b0 : ((Go.bits .and .i64 t434 1) == 0) = true := beq_iff_eq.mpr c42; have c42b1 : ((Go.bits .and .i64 t434 1) != 0) = false := bne_eq_false_iff_eq.mpr c42; clear c42; have H' := mk0 H; clear H; have hcz43_0 : w34.cell? ⟨gb437, 0, none⟩ = some (.int .i64 0) := (blk_cell BK437.out 0).trans rfl; have hcz43_1 : w34.cell? ⟨gb437, 1, none⟩ = some (.int .i64 0) := (blk_cell BK437.out 1).trans rfl; have hcz43_2 : w34.cell? ⟨gb437, 2, none⟩ = some (.int .i64 0) := (blk_cell BK437.out 2).trans rfl; have hcz43_3 : w34.cell? ⟨gb437, 3, none⟩ = some (.int .i64 0) := (blk_cell BK437.out 3).trans rfl; have hfz43_0 := blk_frozen BK437.out 0; have hfz43_1 := blk_frozen BK437.out 1; have hfz43_2 := blk_frozen BK437.out 2; have hfz43_3 := blk_frozen BK437.out 3; go_wp2; go_meet
                 case rel => exact ⟨_, (((Go.bits .and .i64 t435 1) != 0)), (by first | rfl | (simp; done) | (simp [*]; done)), H', ⟨by have := HJ4.out; first | omega | exact Nat.le_refl _⟩, ⟨by refine blk_put (cs := #[.int .i64 t432, .int .i64 t433, .int .i64 t434, .int .i64 0]) ?_ 3 _ rfl; refine blk_put (cs := #[.int .i64 t432, .int .i64 t433, .int .i64 0, .int .i64 0]) ?_ 2 _ rfl; refine blk_put (cs := #[.int .i64 t432, .int .i64 0, .int .i64 0, .int .i64 0]) ?_ 1 _ rfl; refine blk_put (cs := #[.int .i64 0, .int .i64 0, .int .i64 0, .int .i64 0]) ?_ 0 _ rfl; exact BK437.out⟩, ⟨by repeat (first | (with_reducible first | exact HB.out | apply below_alloc | apply pw_below_drewN | apply below_drew1 | refine below_set ?_ GE437.out) | exact HB.out)⟩⟩
                ·
                 rw [if_neg c42] at H; exact absurd H (by simp)
               ·
                rw [if_neg c41] at H; exact absurd H (by simp)
              ·
               rw [if_neg c40] at H; exact absurd H (by simp)
             ·
              rw [if_neg c39] at H; exact absurd H (by simp)
            case rest =>
             clear HC28; try clear p2
             try clear c3
             try clear c4
             try clear p4
             try clear q4
             try clear hx4
             try clear qi4
             try clear p6
             try clear c38
             try clear c39
             try clear c39b0
             try clear c39b1
             try clear c40
             try clear c40b0
             try clear c40b1
             try clear c41
             try clear c41b0
             try clear c41b1
             try clear c42
             try clear c42b0
             try clear c42b1
             try clear p42
             try clear q42
             try clear hx42
             try clear qi42
             try clear p43
             try clear q43
             try clear hx43
             try clear qi43
             try clear hcz43_0
             try clear hcz43_1
             try clear hcz43_2
             try clear hcz43_3
             try clear hfz43_0
             try clear hfz43_1
             try clear hfz43_2
             try clear hfz43_3
             try clear hx424_0
             try clear hx425_0
             try clear hx426_0
             try clear hx427_0
             try clear hx428_0
             try clear hx429_0
             try clear hx430_0
             try clear hx431_0
             try clear p428
             try clear p429
             try clear p430
             try clear p431
             try clear q428
             try clear q429
             try clear q430
             try clear q431
             obtain ⟨kq, x120_27, rfl, HA, HJ27, BK437, HB⟩ := hcut; cases kq with
             | zero => exact absurd HA.out (by simp [bellpulllaw04_NormEuler.j1])
             | succ kj27 =>
              have H := HA.out; clear HA; simp only [bellpulllaw04_NormEuler.j1] at H
              by_cases c44 : x120_27 = true
              ·
               subst c44; have H1 : (none) = some r := by rw [if_pos rfl] at H; exact H
               clear H; have H := H1; clear H1; exact absurd H (by simp)
              ·
               replace c44 := Bool.eq_false_iff.mpr c44; subst c44; have H1 : ((norm_Four.f kj27 (wrap64 ((Int.tmod (wrap64 (a0)) 100) * (Int.tmod (wrap64 (a1)) 101)))).bind fun bt438 => (if (wrap64 ((wrap64 ((wrap64 ((wrap64 ((wrap64 (Int.tdiv t432 2)) * (wrap64 (Int.tdiv t432 2)))) + (wrap64 ((wrap64 (Int.tdiv t433 2)) * (wrap64 (Int.tdiv t433 2)))))) + (wrap64 ((wrap64 (Int.tdiv t434 2)) * (wrap64 (Int.tdiv t434 2)))))) + (wrap64 ((wrap64 (Int.tdiv t435 2)) * (wrap64 (Int.tdiv t435 2)))))) = (wrap64 ((Int.tmod (wrap64 (a0)) 100) * (Int.tmod (wrap64 (a1)) 101))) then (if bt438.2 = 0 then ((bellpulllaw04_sum.f kj27 bt438.1 4 (wrap64 ((Int.tmod (wrap64 (a0)) 100) * (Int.tmod (wrap64 (a1)) 101)))).bind fun t442 => (some t442)) else (none)) else (none))) = some r := by rw [if_neg (show ¬ (false = true) by decide)] at H; exact H
               clear H; have H := H1; clear H1; replace H := Option.bind_eq_some_iff.mp H; obtain ⟨⟨t438, t439⟩, A450, H⟩ := H; (try dsimp only at H); have A45 := mk0 A450; clear A450
               by_cases c46 : (wrap64 ((wrap64 ((wrap64 ((wrap64 ((wrap64 (Int.tdiv t432 2)) * (wrap64 (Int.tdiv t432 2)))) + (wrap64 ((wrap64 (Int.tdiv t433 2)) * (wrap64 (Int.tdiv t433 2)))))) + (wrap64 ((wrap64 (Int.tdiv t434 2)) * (wrap64 (Int.tdiv t434 2)))))) + (wrap64 ((wrap64 (Int.tdiv t435 2)) * (wrap64 (Int.tdiv t435 2)))))) = (wrap64 ((Int.tmod (wrap64 (a0)) 100) * (Int.tmod (wrap64 (a1)) 101)))
               ·
                rw [if_pos c46] at H; have c46b0 : ((wrap64 ((wrap64 ((wrap64 ((wrap64 ((wrap64 (Int.tdiv t432 2)) * (wrap64 (Int.tdiv t432 2)))) + (wrap64 ((wrap64 (Int.tdiv t433 2)) * (wrap64 (Int.tdiv t433 2)))))) + (wrap64 ((wrap64 (Int.tdiv t434 2)) * (wrap64 (Int.tdiv t434 2)))))) + (wrap64 ((wrap64 (Int.tdiv t435 2)) * (wrap64 (Int.tdiv t435 2)))))) == (wrap64 ((Int.tmod (wrap64 (a0)) 100) * (Int.tmod (wrap64 (a1)) 101)))) = true := beq_iff_eq.mpr c46; have c46b1 : ((wrap64 ((wrap64 ((wrap64 ((wrap64 ((wrap64 (Int.tdiv t432 2)) * (wrap64 (Int.tdiv t432 2)))) + (wrap64 ((wrap64 (Int.tdiv t433 2)) * (wrap64 (Int.tdiv t433 2)))))) + (wrap64 ((wrap64 (Int.tdiv t434 2)) * (wrap64 (Int.tdiv t434 2)))))) + (wrap64 ((wrap64 (Int.tdiv t435 2)) * (wrap64 (Int.tdiv t435 2)))))) != (wrap64 ((Int.tmod (wrap64 (a0)) 100) * (Int.tmod (wrap64 (a1)) 101)))) = false := bne_eq_false_iff_eq.mpr c46; clear c46
                by_cases c47 : t439 = 0
                ·
                 rw [if_pos c47] at H; have c47b0 : (t439 == 0) = true := beq_iff_eq.mpr c47; have c47b1 : (t439 != 0) = false := bne_eq_false_iff_eq.mpr c47; clear c47; replace H := Option.bind_eq_some_iff.mp H; obtain ⟨t442, A480, H⟩ := H; (try dsimp only at H); have A48 := mk0 A480; clear A480; obtain rfl := Option.some.inj H; try go_wp2
                 replace BK437 := bdr BK437; replace HB := hdr HB; refine start_ (n := 16) (S := fun w' => w'.cell? ⟨gb437, 0, none⟩ = some (.int .i64 t432) ∧ w'.cell? ⟨gb437, 1, none⟩ = some (.int .i64 t433) ∧ w'.cell? ⟨gb437, 2, none⟩ = some (.int .i64 t434) ∧ w'.cell? ⟨gb437, 3, none⟩ = some (.int .i64 t435)) (ds := []) #[false, false, false, false, false, false, false, false, false, false, false, false, false, false, false, false] (by kernel_rfl) rfl rfl ⟨(blk_cell BK437.out 0).trans rfl, (blk_cell BK437.out 1).trans rfl, (blk_cell BK437.out 2).trans rfl, (blk_cell BK437.out 3).trans rfl⟩ (fun hHeld => ?_); refine with_tabW bellpulllaw04_NormEuler.tab9 bellpulllaw04_NormEuler.bits9 (fun HT_ HW_ => ?_); generalize wc.drew = w49 at BK437 HB hHeld ⊢; refine pure_ (i := 0) (N := some 121) (v := ?_) (a' := ?_) #[true, false, false, false, false, false, false, false, false, false, false, false, false, false, false, false] rfl rfl (any_of HT_.out (by kernel_rfl)) (fun _ _ _ h => h) (Or.inl ⟨by rfl, ?_⟩) ?_ ?_; rotate_left
                 ·
                  intro w'; go_simp; with_reducible rfl
                 rotate_left
                 ·
                  simp only [Act.put, List.setIfInBounds_toArray, List.set_cons_zero, List.set_cons_succ, i64_w, i32_w]; rfl
                 refine pure_ (i := 3) (N := some 124) (v := ?_) (a' := ?_) #[true, false, false, true, false, false, false, false, false, false, false, false, false, false, false, false] rfl rfl (any_of HT_.out (by kernel_rfl)) (fun _ _ _ h => h) (Or.inl ⟨by rfl, ?_⟩) ?_ ?_; rotate_left
                 ·
                  intro w'; go_simp; with_reducible rfl
                 rotate_left
                 ·
                  simp only [Act.put, List.setIfInBounds_toArray, List.set_cons_zero, List.set_cons_succ, i64_w, i32_w]; rfl
                 refine pure_ (i := 6) (N := some 127) (v := ?_) (a' := ?_) #[true, false, false, true, false, false, true, false, false, false, false, false, false, false, false, false] rfl rfl (any_of HT_.out (by kernel_rfl)) (fun _ _ _ h => h) (Or.inl ⟨by rfl, ?_⟩) ?_ ?_; rotate_left
                 ·
                  intro w'; go_simp; with_reducible rfl
                 rotate_left
                 ·
                  simp only [Act.put, List.setIfInBounds_toArray, List.set_cons_zero, List.set_cons_succ, i64_w, i32_w]; rfl
                 refine pure_ (i := 9) (N := some 130) (v := ?_) (a' := ?_) #[true, false, false, true, false, false, true, false, false, true, false, false, false, false, false, false] rfl rfl (any_of HT_.out (by kernel_rfl)) (fun _ _ _ h => h) (Or.inl ⟨by rfl, ?_⟩) ?_ ?_; rotate_left
                 ·
                  intro w'; go_simp; with_reducible rfl
                 rotate_left
                 ·
                  simp only [Act.put, List.setIfInBounds_toArray, List.set_cons_zero, List.set_cons_succ, i64_w, i32_w]; rfl
                 refine take_ (i := 1) (N := some 122) (v := ?_) (a' := ?_) #[true, true, false, true, false, false, true, false, false, true, false, false, false, false, false, false] rfl rfl (take_ofW HT_.out HW_.out (by kernel_rfl)) (fun _ _ _ h => h) (Or.inl ⟨by rfl, ?_⟩) hHeld ?_ ?_; rotate_left
                 ·
                  rintro w' ⟨s0, s1, s2, s3⟩; go_simp; with_reducible rfl
                 rotate_left
                 ·
                  simp only [Act.put, List.setIfInBounds_toArray, List.set_cons_zero, List.set_cons_succ, i64_w, i32_w]; rfl
                 refine pure_ (i := 2) (N := some 123) (v := ?_) (a' := ?_) #[true, true, true, true, false, false, true, false, false, true, false, false, false, false, false, false] rfl rfl (any_of HT_.out (by kernel_rfl)) (fun _ _ _ h => h) (Or.inl ⟨by rfl, ?_⟩) ?_ ?_; rotate_left
                 ·
                  intro w'; go_simp; with_reducible rfl
                 rotate_left
                 ·
                  simp only [Act.put, List.setIfInBounds_toArray, List.set_cons_zero, List.set_cons_succ, i64_w, i32_w]; rfl
                 refine pure_ (i := 12) (N := some 13) (v := ?_) (a' := ?_) #[true, true, true, true, false, false, true, false, false, true, false, false, true, false, false, false] rfl rfl (any_of HT_.out (by kernel_rfl)) (fun _ _ _ h => h) (Or.inl ⟨by rfl, ?_⟩) ?_ ?_; rotate_left
                 ·
                  intro w'; go_simp; with_reducible rfl
                 rotate_left
                 ·
                  simp only [Act.put, List.setIfInBounds_toArray, List.set_cons_zero, List.set_cons_succ, i64_w, i32_w]; rfl
                 refine take_ (i := 4) (N := some 125) (v := ?_) (a' := ?_) #[true, true, true, true, true, false, true, false, false, true, false, false, true, false, false, false] rfl rfl (take_ofW HT_.out HW_.out (by kernel_rfl)) (fun _ _ _ h => h) (Or.inl ⟨by rfl, ?_⟩) hHeld ?_ ?_; rotate_left
                 ·
                  rintro w' ⟨s0, s1, s2, s3⟩; go_simp; with_reducible rfl
                 rotate_left
                 ·
                  simp only [Act.put, List.setIfInBounds_toArray, List.set_cons_zero, List.set_cons_succ, i64_w, i32_w]; rfl
                 refine pure_ (i := 5) (N := some 126) (v := ?_) (a' := ?_) #[true, true, true, true, true, true, true, false, false, true, false, false, true, false, false, false] rfl rfl (any_of HT_.out (by kernel_rfl)) (fun _ _ _ h => h) (Or.inl ⟨by rfl, ?_⟩) ?_ ?_; rotate_left
                 ·
                  intro w'; go_simp; with_reducible rfl
                 rotate_left
                 ·
                  simp only [Act.put, List.setIfInBounds_toArray, List.set_cons_zero, List.set_cons_succ, i64_w, i32_w]; rfl
                 refine pure_ (i := 13) (N := some 14) (v := ?_) (a' := ?_) #[true, true, true, true, true, true, true, false, false, true, false, false, true, true, false, false] rfl rfl (any_of HT_.out (by kernel_rfl)) (fun _ _ _ h => h) (Or.inl ⟨by rfl, ?_⟩) ?_ ?_; rotate_left
                 ·
                  intro w'; go_simp; with_reducible rfl
                 rotate_left
                 ·
                  simp only [Act.put, List.setIfInBounds_toArray, List.set_cons_zero, List.set_cons_succ, i64_w, i32_w]; rfl
                 refine take_ (i := 7) (N := some 128) (v := ?_) (a' := ?_) #[true, true, true, true, true, true, true, true, false, true, false, false, true, true, false, false] rfl rfl (take_ofW HT_.out HW_.out (by kernel_rfl)) (fun _ _ _ h => h) (Or.inl ⟨by rfl, ?_⟩) hHeld ?_ ?_; rotate_left
                 ·
                  rintro w' ⟨s0, s1, s2, s3⟩; go_simp; with_reducible rfl
                 rotate_left
                 ·
                  simp only [Act.put, List.setIfInBounds_toArray, List.set_cons_zero, List.set_cons_succ, i64_w, i32_w]; rfl
                 refine pure_ (i := 8) (N := some 129) (v := ?_) (a' := ?_) #[true, true, true, true, true, true, true, true, true, true, false, false, true, true, false, false] rfl rfl (any_of HT_.out (by kernel_rfl)) (fun _ _ _ h => h) (Or.inl ⟨by rfl, ?_⟩) ?_ ?_; rotate_left
                 ·
                  intro w'; go_simp; with_reducible rfl
                 rotate_left
                 ·
                  simp only [Act.put, List.setIfInBounds_toArray, List.set_cons_zero, List.set_cons_succ, i64_w, i32_w]; rfl
                 refine pure_ (i := 14) (N := some 15) (v := ?_) (a' := ?_) #[true, true, true, true, true, true, true, true, true, true, false, false, true, true, true, false] rfl rfl (any_of HT_.out (by kernel_rfl)) (fun _ _ _ h => h) (Or.inl ⟨by rfl, ?_⟩) ?_ ?_; rotate_left
                 ·
                  intro w'; go_simp; with_reducible rfl
                 rotate_left
                 ·
                  simp only [Act.put, List.setIfInBounds_toArray, List.set_cons_zero, List.set_cons_succ, i64_w, i32_w]; rfl
                 refine take_ (i := 10) (N := some 131) (v := ?_) (a' := ?_) #[true, true, true, true, true, true, true, true, true, true, true, false, true, true, true, false] rfl rfl (take_ofW HT_.out HW_.out (by kernel_rfl)) (fun _ _ _ h => h) (Or.inl ⟨by rfl, ?_⟩) hHeld ?_ ?_; rotate_left
                 ·
                  rintro w' ⟨s0, s1, s2, s3⟩; go_simp; with_reducible rfl
                 rotate_left
                 ·
                  simp only [Act.put, List.setIfInBounds_toArray, List.set_cons_zero, List.set_cons_succ, i64_w, i32_w]; rfl
                 refine pure_ (i := 11) (N := some 132) (v := ?_) (a' := ?_) #[true, true, true, true, true, true, true, true, true, true, true, true, true, true, true, false] rfl rfl (any_of HT_.out (by kernel_rfl)) (fun _ _ _ h => h) (Or.inl ⟨by rfl, ?_⟩) ?_ ?_; rotate_left
                 ·
                  intro w'; go_simp; with_reducible rfl
                 rotate_left
                 ·
                  simp only [Act.put, List.setIfInBounds_toArray, List.set_cons_zero, List.set_cons_succ, i64_w, i32_w]; rfl
                 refine pure_ (i := 15) (N := some 16) (v := ?_) (a' := ?_) #[true, true, true, true, true, true, true, true, true, true, true, true, true, true, true, true] rfl rfl (any_of HT_.out (by kernel_rfl)) (fun _ _ _ h => h) (Or.inl ⟨by rfl, ?_⟩) ?_ ?_; rotate_left
                 ·
                  intro w'; go_simp; with_reducible rfl
                 rotate_left
                 ·
                  simp only [Act.put, List.setIfInBounds_toArray, List.set_cons_zero, List.set_cons_succ, i64_w, i32_w]; rfl
                 refine done_ (done_of HT_.out (by kernel_rfl)) ?_; try go_wp2_with (first | ((with_reducible refine gate_callee (f := 23) rfl ?_); refine goesL_ (some 137) rfl rfl Try.func23 (by kernel_rfl) rfl #[.int .i64 (wrap64 ((Int.tmod (wrap64 (a0)) 100) * (Int.tmod (wrap64 (a1)) 101)))] rfl (by (try simp only [List.map_toArray, List.map_cons, List.map_nil]); first | done | rfl | (simp only [List.length_drop, List.length_take]; rfl)) ?_; (with_reducible refine (norm_Four.calls kj27 (wrap64 ((Int.tmod (wrap64 (a0)) 100) * (Int.tmod (wrap64 (a1)) 101))) t438 t439 _ A45.out).mono ?_); rintro e w50 ⟨v440, rfl, ho0, hb⟩; refine ⟨_, rfl, ?_⟩; have HO441 := mk0 (Kd.R_lower ho0 (below_size (by repeat (first | (with_reducible first | exact HB.out | apply below_alloc | apply pw_below_drewN | apply below_drew1 | refine below_set ?_ GE437.out) | exact HB.out)))); replace BK437 := mk0 (blk_below (g := gb437) (o := .cells #[.int .i64 t432, .int .i64 t433, .int .i64 t434, .int .i64 t435] 23 (0, 0)) (by (with_reducible repeat (first | refine blk_drewN ?_ _ | refine blk_drew ?_ | refine blk_alloc ?_ _)); exact BK437.out) hb); replace HB := mk0 (below_step (by repeat (first | (with_reducible first | exact HB.out | apply below_alloc | apply pw_below_drewN | apply below_drew1 | refine below_set ?_ GE437.out) | exact HB.out)) hb); (try clear hb); (try clear ho0); obtain ⟨Ao51, co51, eo51⟩ := Kd.R_slice HO441.out; subst eo51) | (go_at_call 37; (with_reducible refine (bellpulllaw04_sum.calls kj27 _ _ t438 4 (wrap64 ((Int.tmod (wrap64 (a0)) 100) * (Int.tmod (wrap64 (a1)) 101))) t442 _ ?side1 ?side2 A48.out).mono ?_); (case side1 => repeat (first | exact (Kd.R_reads' HO441.out).2.2 | (with_reducible refine Kd.C_alloc ?_ _) | (with_reducible refine Kd.C_drewN ?_ _) | (with_reducible refine Kd.C_drew ?_))); (case side2 => exact (Kd.R_reads' HO441.out).2.1); rintro e w' ⟨rfl, ⟨nd, rfl⟩⟩))
                 go_ret; exact ⟨by first | rfl | (simp [errW_none, errW_some] <;> rfl) | (simp [*, errW_none, errW_some] <;> rfl), by repeat (first | (with_reducible first | exact HB.out | apply below_alloc | apply pw_below_drewN | apply below_drew1 | refine below_set ?_ GE437.out) | exact HB.out)⟩
                ·
                 rw [if_neg c47] at H; exact absurd H (by simp)
               ·
                rw [if_neg c46] at H; exact absurd H (by simp)
           ·
            rw [if_neg c26] at H; exact absurd H (by simp)
          ·
           rw [if_neg c25] at H; exact absurd H (by simp)
         ·
          rw [if_neg c24] at H; exact absurd H (by simp)
        ·
         rw [if_neg c23] at H; exact absurd H (by simp)
       ·
        rw [if_neg c22] at H; exact absurd H (by simp)
      ·
       rw [if_neg c21] at H; exact absurd H (by simp)
     ·
      rw [if_neg c20] at H; exact absurd H (by simp)
    ·
     rw [if_neg c19] at H; exact absurd H (by simp)
/-- THE ONE PURE STATEMENT of bellpulllaw04_NormEuler: yours. -/
def bellpulllaw04_NormEuler.Pure : Prop := ∀ (a0 : Int) (a1 : Int), (Lit.int .u8 a0).wf = true → (Lit.int .u8 a1).wf = true → ∃ k, bellpulllaw04_NormEuler.f k a0 a1 = some true
theorem bellpulllaw04_NormEuler.walk (P : bellpulllaw04_NormEuler.Pure) (a0 : Int) (a1 : Int) (w : World) (w0 : (Lit.int .u8 a0).wf = true) (w1 : (Lit.int .u8 a1).wf = true) :
    Calls Try.prog 11 #[.int .u8 a0, .int .u8 a1] w fun e w' => e = .returned (.bool true) ∧ Below w.heap.size w w' := by
  obtain ⟨k, h⟩ := P a0 a1 w0 w1
  refine (bellpulllaw04_NormEuler.calls k a0 a1 true w h).mono ?_
  rintro e w' ⟨rfl, hd⟩
  exact ⟨rfl, hd⟩

end Go.Proofs.Ytgfnmimfoicmmaa.PM
