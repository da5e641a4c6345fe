-- Written by pr2.py, a program of this session's, for this claim (through the kit's print).
import Derived.Test.YtgfnmimfoicmmaaPMx0
import Derived.Test.YtgfnmimfoicmmaaPMx1
import Derived.Test.YtgfnmimfoicmmaaPMx7
import Derived.Test.YtgfnmimfoicmmaaPMx12
import Derived.Test.YtgfnmimfoicmmaaPMx17
import Derived.Test.YtgfnmimfoicmmaaPMx20
import Derived.Test.YtgfnmimfoicmmaaPMx22
import Derived.Test.YtgfnmimfoicmmaaPMx26
import Derived.Test.YtgfnmimfoicmmaaPMx27
namespace Go.Proofs.Ytgfnmimfoicmmaa.PM
open Go.Proofs.MyWords Go.RowKit Go.Proofs.YtgfnmimfoicmmaaW.PrintWords Go.Proofs.YtgfnmimfoicmmaaW.PrintLast Go.Proofs.YtgfnmimfoicmmaaW.PrintMore
attribute [local go_sem] max2_int min2_int max_two min_two max_three min_three max_four min_four   -- for this text's walks alone
set_option linter.unusedVariables false
set_option linter.unusedSimpArgs false

attribute [local go_sem] idx67_0 idx67_1 idx67_2 idx67_3
attribute [local go_sem] eqGuard_slices eqlnil36 neqnil36
attribute [local go_sem high] eqA23
/-! ### bellpulllaw04_NormPrimes: function 13 -/
mutual
def bellpulllaw04_NormPrimes.j0 : Nat → Int → Option (Bool)
  | 0, _ => none
  | k + 1, x1 => (norm_Split.f k x1).bind fun bt624 => ((bellpullref01_In.f x1 2 10000).bind fun t630 => (if t630 = true then ((bellpullref04_Prime.f k x1).bind fun t631 => (bellpulllaw04_NormPrimes.j1 k x1 bt624.2.2.2.2 (!t631) bt624.1 bt624.2.1 bt624.2.2.1 bt624.2.2.2.1)) else (bellpulllaw04_NormPrimes.j1 k x1 bt624.2.2.2.2 true bt624.1 bt624.2.1 bt624.2.2.1 bt624.2.2.2.1)))
def bellpulllaw04_NormPrimes.j1 : Nat → Int → Int → Bool → Int → Int → Int → Int → Option (Bool)
  | 0, _, _, _, _, _, _, _ => none
  | k + 1, x1, x9, x48, x630000, x630001, x630002, x630003 => if x48 = true then (if (x630000 == 0 && (x630001 == 0 && (x630002 == 0 && (x630003 == 0)))) = true then (if x9 = 1 then ((bellpulllaw04_lives.f k).bind fun t632 => (some t632)) else (none)) else (none)) else ((bellpullref04_Squares.f k x1 4 100).bind fun t633 => (if 0 < (t633.length : Int) then (if 1 < (t633.length : Int) then (if 2 < (t633.length : Int) then (if 3 < (t633.length : Int) then (if (x630000 == (wrap64 (2 * (rd t633 0))) && (x630001 == (wrap64 (2 * (rd t633 1))) && (x630002 == (wrap64 (2 * (rd t633 2))) && (x630003 == (wrap64 (2 * (rd t633 3))))))) = true then (if x9 = 0 then ((bellpulllaw04_lives.f k).bind fun t640 => (some t640)) else (none)) else (none)) else (none)) else (none)) else (none)) else (none)))
end
def bellpulllaw04_NormPrimes.f (k : Nat) (a0_0 : Int) (a0_1 : Int) (a0_2 : Int) (a0_3 : Int) (a1 : Int) : Option (Bool) := (norm_Prime.f k a0_0 a0_1 a0_2 a0_3).bind fun bt616 => ((bellpullref04_Check.f k (([(⟨a0_0, a0_1, a0_2, a0_3⟩ : S23)] : List (S23)))).bind fun t621 => (if t621 = 0 then ((bellpullref04_Norm.f a0_0 a0_1 a0_2 a0_3).bind fun t622 => ((bellpullref04_Prime.f k t622).bind fun t623 => (if bt616.1 = true then (if t623 = true then (if bt616.2 = 0 then (bellpulllaw04_NormPrimes.j0 k a1) else (none)) else (none)) else (if t623 = true then (none) else (if bt616.2 = 0 then (bellpulllaw04_NormPrimes.j0 k a1) else (none)))))) else (if bt616.1 = true then (none) else (if bt616.2 = t621 then (bellpulllaw04_NormPrimes.j0 k a1) else (none)))))
theorem bellpulllaw04_NormPrimes.mono_l : ∀ k, (∀ y0, LeO (bellpulllaw04_NormPrimes.j0 k y0) (bellpulllaw04_NormPrimes.j0 (k + 1) y0)) ∧ (∀ y0 y1 y2 y3 y4 y5 y6, LeO (bellpulllaw04_NormPrimes.j1 k y0 y1 y2 y3 y4 y5 y6) (bellpulllaw04_NormPrimes.j1 (k + 1) y0 y1 y2 y3 y4 y5 y6))
  | 0 => ⟨fun _ r h => by simp [bellpulllaw04_NormPrimes.j0] at h, fun _ _ _ _ _ _ _ r h => by simp [bellpulllaw04_NormPrimes.j1] at h⟩
  | k + 1 => by
    obtain ⟨ih0, ih1⟩ := bellpulllaw04_NormPrimes.mono_l k
    refine ⟨?_, ?_⟩
    · intro y0
      unfold bellpulllaw04_NormPrimes.j0
      repeat' first
      | (with_reducible exact ih0 _)
      | (with_reducible exact ih1 _ _ _ _ _ _ _)
      | (with_reducible exact bellpulllaw04_lives.mono _)
      | (with_reducible exact bellpullref04_Check.mono _ _)
      | (with_reducible exact bellpullref04_Prime.mono _ _)
      | (with_reducible exact bellpullref04_Squares.mono _ _ _ _)
      | (with_reducible exact norm_Prime.mono _ _ _ _ _)
      | (with_reducible exact norm_Split.mono _ _)
      | (with_reducible exact LeO.refl _)
      | (with_reducible exact LeO.none _)
      | (with_reducible refine LeO.ite ?_ ?_)
      | (with_reducible refine LeO.bind ?_ (fun _ => ?_))
      | exact ih0 _
      | exact ih1 _ _ _ _ _ _ _
      | exact bellpulllaw04_lives.mono _
      | exact bellpullref04_Check.mono _ _
      | exact bellpullref04_Prime.mono _ _
      | exact bellpullref04_Squares.mono _ _ _ _
      | exact norm_Prime.mono _ _ _ _ _
      | exact norm_Split.mono _ _
      | exact LeO.none _
      | refine LeO.ite ?_ ?_
      | refine LeO.bind ?_ (fun _ => ?_)
    · intro y0 y1 y2 y3 y4 y5 y6
      unfold bellpulllaw04_NormPrimes.j1
      repeat' first
      | (with_reducible exact ih0 _)
      | (with_reducible exact ih1 _ _ _ _ _ _ _)
      | (with_reducible exact bellpulllaw04_lives.mono _)
      | (with_reducible exact bellpullref04_Check.mono _ _)
      | (with_reducible exact bellpullref04_Prime.mono _ _)
      | (with_reducible exact bellpullref04_Squares.mono _ _ _ _)
      | (with_reducible exact norm_Prime.mono _ _ _ _ _)
      | (with_reducible exact norm_Split.mono _ _)
      | (with_reducible exact LeO.refl _)
      | (with_reducible exact LeO.none _)
      | (with_reducible refine LeO.ite ?_ ?_)
      | (with_reducible refine LeO.bind ?_ (fun _ => ?_))
      | exact ih0 _
      | exact ih1 _ _ _ _ _ _ _
      | exact bellpulllaw04_lives.mono _
      | exact bellpullref04_Check.mono _ _
      | exact bellpullref04_Prime.mono _ _
      | exact bellpullref04_Squares.mono _ _ _ _
      | exact norm_Prime.mono _ _ _ _ _
      | exact norm_Split.mono _ _
      | exact LeO.none _
      | refine LeO.ite ?_ ?_
      | refine LeO.bind ?_ (fun _ => ?_)
theorem bellpulllaw04_NormPrimes.mono : ∀ a0 a1 a2 a3 a4 k, LeO (bellpulllaw04_NormPrimes.f k a0 a1 a2 a3 a4) (bellpulllaw04_NormPrimes.f (k + 1) a0 a1 a2 a3 a4) := by
  intro a0 a1 a2 a3 a4 k
  obtain ⟨ih0, ih1⟩ := bellpulllaw04_NormPrimes.mono_l k
  unfold bellpulllaw04_NormPrimes.f
  repeat' first
      | (with_reducible exact ih0 _)
      | (with_reducible exact ih1 _ _ _ _ _ _ _)
      | (with_reducible exact bellpulllaw04_lives.mono _)
      | (with_reducible exact bellpullref04_Check.mono _ _)
      | (with_reducible exact bellpullref04_Prime.mono _ _)
      | (with_reducible exact bellpullref04_Squares.mono _ _ _ _)
      | (with_reducible exact norm_Prime.mono _ _ _ _ _)
      | (with_reducible exact norm_Split.mono _ _)
      | (with_reducible exact LeO.refl _)
      | (with_reducible exact LeO.none _)
      | (with_reducible refine LeO.ite ?_ ?_)
      | (with_reducible refine LeO.bind ?_ (fun _ => ?_))
      | exact ih0 _
      | exact ih1 _ _ _ _ _ _ _
      | exact bellpulllaw04_lives.mono _
      | exact bellpullref04_Check.mono _ _
      | exact bellpullref04_Prime.mono _ _
      | exact bellpullref04_Squares.mono _ _ _ _
      | exact norm_Prime.mono _ _ _ _ _
      | exact norm_Split.mono _ _
      | exact LeO.none _
      | refine LeO.ite ?_ ?_
      | refine LeO.bind ?_ (fun _ => ?_)
def bellpulllaw04_NormPrimes.T12 : Bool × List (List Nat × List Nat) := (true, [([], []), ([], []), ([1], [1]), ([2], [2]), ([3], [3]), ([], []), ([5], [5]), ([6], [6]), ([7], [7]), ([], []), ([9], [9]), ([10], [10]), ([11], [11]), ([], []), ([13], [13]), ([14], [14]), ([15], [15]), ([4, 8, 12, 16], [4, 8, 12, 16]), ([0, 17], [0, 17]), ([18], [18]), ([19], [19]), ([20, 19], [19, 20]), ([19, 21], [19, 21]), ([22, 19], [22]), ([23, 23], [23]), ([23, 24], [23, 24]), ([25, 24, 0, 1, 2, 3, 4, 5, 6, 7, 8, 9, 10, 11, 12, 13, 14, 15, 16, 17, 18, 19, 20, 21, 22, 23, 24, 25], [25])])
def bellpulllaw04_NormPrimes.B12 : List Nat := [0, 0, 2, 6, 14, 0, 32, 96, 224, 0, 512, 1536, 3584, 0, 8192, 24576, 57344, 131070, 262143, 524287, 1048575, 2097151, 4194303, 8388607, 16777215, 33554431, 67108863]
theorem bellpulllaw04_NormPrimes.tab12 : rtab .any (opsOf Try.f13 12) = bellpulllaw04_NormPrimes.T12 := by kernel_rfl
theorem bellpulllaw04_NormPrimes.bits12 : waitsOk bellpulllaw04_NormPrimes.T12.2 bellpulllaw04_NormPrimes.B12 = true := by kernel_rfl
set_option maxHeartbeats 8000000 in
set_option maxRecDepth 100000 in
theorem bellpulllaw04_NormPrimes.calls (k : Nat) (a0_0 : Int) (a0_1 : Int) (a0_2 : Int) (a0_3 : Int) (a1 : Int) (r : Bool) (w : World) (h : bellpulllaw04_NormPrimes.f k a0_0 a0_1 a0_2 a0_3 a1 = some r) :
    Calls Try.prog 13 #[.agg #[.int .i64 a0_0, .int .i64 a0_1, .int .i64 a0_2, .int .i64 a0_3], .int .i64 a1] w fun e w' => e = .returned (.bool r) ∧ Below w.heap.size w w' := by
 have hu23 := Try.underlying23; have HB := mk0 (Below.refl w.heap.size w); have H : ((norm_Prime.f k a0_0 a0_1 a0_2 a0_3).bind fun bt616 => ((bellpullref04_Check.f k (([(⟨a0_0, a0_1, a0_2, a0_3⟩ : S23)] : List (S23)))).bind fun t621 => (if t621 = 0 then ((bellpullref04_Norm.f a0_0 a0_1 a0_2 a0_3).bind fun t622 => ((bellpullref04_Prime.f k t622).bind fun t623 => (if bt616.1 = true then (if t623 = true then (if bt616.2 = 0 then (bellpulllaw04_NormPrimes.j0 k a1) else (none)) else (none)) else (if t623 = true then (none) else (if bt616.2 = 0 then (bellpulllaw04_NormPrimes.j0 k a1) else (none)))))) else (if bt616.1 = true then (none) else (if bt616.2 = t621 then (bellpulllaw04_NormPrimes.j0 k a1) else (none)))))) = some r := h; clear h; replace H := Option.bind_eq_some_iff.mp H; obtain ⟨⟨t616, t617⟩, A30, H⟩ := H; (try dsimp only at H); have A3 := mk0 A30; clear A30; obtain ⟨y618, hy618⟩ : ∃ y_ : List (S23), y_ = (([(⟨a0_0, a0_1, a0_2, a0_3⟩ : S23)] : List (S23))) := ⟨_, rfl⟩
 replace H : ((bellpullref04_Check.f k y618).bind fun t621 => (if t621 = 0 then ((bellpullref04_Norm.f a0_0 a0_1 a0_2 a0_3).bind fun t622 => ((bellpullref04_Prime.f k t622).bind fun t623 => (if t616 = true then (if t623 = true then (if t617 = 0 then (bellpulllaw04_NormPrimes.j0 k a1) else (none)) else (none)) else (if t623 = true then (none) else (if t617 = 0 then (bellpulllaw04_NormPrimes.j0 k a1) else (none)))))) else (if t616 = true then (none) else (if t617 = t621 then (bellpulllaw04_NormPrimes.j0 k a1) else (none))))) = some r := by first | (rw [hy618]; with_reducible exact H) | (have H2_ := (Option.bind_some _ _).symm.trans H; rw [hy618]; with_reducible exact H2_) | (have H2_ := (Option.bind_some _ _).symm.trans H; with_reducible exact H2_) | with_reducible exact H | (rw [hy618]; exact H) | exact H
 have Ny618 := mk0 hy618; clear hy618; replace H := Option.bind_eq_some_iff.mp H; obtain ⟨t621, A40, H⟩ := H; (try dsimp only at H); have A4 := mk0 A40; clear A40; have HC5 := mk0 H; clear H; go_enter Try.func13, Try.ntmps13; go_upto_if 20 with (first | ((with_reducible refine gate_dst (N := 2) rfl ?_); refine box_event ?hg (N := 2) ?hd (cs := #[.int .i64 a0_0, .int .i64 a0_1, .int .i64 a0_2, .int .i64 a0_3]) (t := 23) ?hr ?_; (case hd => rfl); (case hg => rfl); (case hr => first | (go_simp; done) | (go_simp; rfl)); intro gb615 hg w6 hbox hb; have BK615 := mk0 (hbox); have GW615 := szw hg HB; have GE615 := GW615; replace HB := bst HB hb; clear hb hbox hg; have hcz7_0 : w6.cell? ⟨gb615, 0, none⟩ = some (.int .i64 a0_0) := (blk_cell BK615.out 0).trans rfl; have hcz7_1 : w6.cell? ⟨gb615, 1, none⟩ = some (.int .i64 a0_1) := (blk_cell BK615.out 1).trans rfl; have hcz7_2 : w6.cell? ⟨gb615, 2, none⟩ = some (.int .i64 a0_2) := (blk_cell BK615.out 2).trans rfl; have hcz7_3 : w6.cell? ⟨gb615, 3, none⟩ = some (.int .i64 a0_3) := (blk_cell BK615.out 3).trans rfl; have hfz7_0 := blk_frozen BK615.out 0; have hfz7_1 := blk_frozen BK615.out 1; have hfz7_2 := blk_frozen BK615.out 2; have hfz7_3 := blk_frozen BK615.out 3) | ((with_reducible refine gate_callee (f := 42) rfl ?_); refine goesL_ (some 13) rfl rfl Try.func42 (by kernel_rfl) rfl #[.agg #[.int .i64 a0_0, .int .i64 a0_1, .int .i64 a0_2, .int .i64 a0_3]] rfl (by (try simp only [List.map_toArray, List.map_cons, List.map_nil]); first | done | rfl | (simp only [List.length_drop, List.length_take]; rfl)) ?_; (with_reducible refine (norm_Prime.calls k a0_0 a0_1 a0_2 a0_3 t616 t617 _ A3.out).mono ?_); rintro e w8 ⟨rfl, hb⟩; refine ⟨_, rfl, ?_⟩; replace BK615 := bkb BK615 hb; replace HB := bst HB hb; (try clear hb); (try clear hk); have hcz9_0 : w8.cell? ⟨gb615, 0, none⟩ = some (.int .i64 a0_0) := (blk_cell BK615.out 0).trans rfl; have hcz9_1 : w8.cell? ⟨gb615, 1, none⟩ = some (.int .i64 a0_1) := (blk_cell BK615.out 1).trans rfl; have hcz9_2 : w8.cell? ⟨gb615, 2, none⟩ = some (.int .i64 a0_2) := (blk_cell BK615.out 2).trans rfl; have hcz9_3 : w8.cell? ⟨gb615, 3, none⟩ = some (.int .i64 a0_3) := (blk_cell BK615.out 3).trans rfl; have hfz9_0 := blk_frozen BK615.out 0; have hfz9_1 := blk_frozen BK615.out 1; have hfz9_2 := blk_frozen BK615.out 2; have hfz9_3 := blk_frozen BK615.out 3) | ((with_reducible refine gate_dst (N := 17) rfl ?_); refine Kd.R_lit k23 _ 23 ?hg (N := 17) ?hd (xs := ([(⟨a0_0, a0_1, a0_2, a0_3⟩ : S23)] : List (S23))) (inner := [.int .i64 a0_0, .int .i64 a0_1, .int .i64 a0_2, .int .i64 a0_3]) (ok := fun _ => True) (okp := fun _ => True) ?hr ?hp (fun _ hk => hk) trivial (Below.refl _ _) (Nat.le_refl _) (by simp) ?_; (case hd => rfl); (case hg => rfl); (case hr => first | (go_simp; done) | (go_simp; rfl)); (case hp => exact (Reps.c4 (show Kd.M k23 _ _ _ (⟨a0_0, a0_1, a0_2, a0_3⟩ : S23) [.int .i64 a0_0, .int .i64 a0_1, .int .i64 a0_2, .int .i64 a0_3] from (k23_mkM _ _ _ (⟨a0_0, a0_1, a0_2, a0_3⟩ : S23) )) (Reps.none _ _))); intro v619 w10 ho11 hb hg_ hnew_; clear hg_ hnew_; (first | rw [← Ny618.out] at ho11 | (simp only [Int.reduceToNat] at ho11; rw [← Ny618.out] at ho11)); have HO620 := mk0 (Kd.R_lower (Kd.R_newB ho11 (g := gb615) (o := .cells #[.int .i64 a0_0, .int .i64 a0_1, .int .i64 a0_2, .int .i64 a0_3] 23 (0, 0)) BK615.out) (below_size HB.out)); replace BK615 := bkb BK615 hb; replace HB := bst HB hb; clear hb ho11; obtain ⟨Ao12, co12, eo12⟩ := Kd.R_slice HO620.out; subst eo12) | ((with_reducible refine gate_callee (f := 18) rfl ?_); refine goesL_ (some 18) rfl rfl Try.func18 (by kernel_rfl) rfl #[.slice Ao12 y618.length co12] rfl (by (try simp only [List.map_toArray, List.map_cons, List.map_nil]); first | done | rfl | (simp only [List.length_drop, List.length_take]; rfl)) ?_; (with_reducible refine (bellpullref04_Check.calls k _ _ y618 t621 _ ?side1 ?side2 A4.out).mono ?_); (case side1 => repeat (first | exact (Kd.R_reads' HO620.out).2.2 | (with_reducible refine Kd.C_alloc ?_ _) | (with_reducible refine Kd.C_drewN ?_ _) | (with_reducible refine Kd.C_drew ?_))); (case side2 => exact (Kd.R_reads' HO620.out).2.1); rintro e w13 ⟨rfl, hb⟩; refine ⟨_, rfl, ?_⟩; replace HO620 := rbl HO620 hb; replace BK615 := bkb BK615 hb; replace HB := bst HB hb; (try clear hb); (try clear hk)))
 (try simp only [Act.put, List.setIfInBounds_toArray, List.set_cons_zero, List.set_cons_succ])
 go_cut [] (fun wc => ∃ (kq : Nat), Aside0 (bellpulllaw04_NormPrimes.j0 kq a1 = some r) ∧ Aside0 (kq ≤ k) ∧ Aside0 (wc.heap[gb615]? = some (.cells #[.int .i64 a0_0, .int .i64 a0_1, .int .i64 a0_2, .int .i64 a0_3] 23 (0, 0))) ∧ Aside0 (Below w.heap.size w wc))
 case first =>
  have H := HC5.out; clear HC5
  by_cases c14 : t621 = 0
  ·
   rw [if_pos c14] at H; have c14b0 : (t621 == 0) = true := beq_iff_eq.mpr c14; have c14b1 : (t621 != 0) = false := bne_eq_false_iff_eq.mpr c14; clear c14; (first | rw [c14b0] | (simp only [i64_w, i32_w]; rw [c14b0]) | skip); replace H := Option.bind_eq_some_iff.mp H; obtain ⟨t622, A150, H⟩ := H; (try dsimp only at H); have A15 := mk0 A150; clear A150; replace H := Option.bind_eq_some_iff.mp H; obtain ⟨t623, A160, H⟩ := H; (try dsimp only at H); have A16 := mk0 A160; clear A160
   by_cases c17 : t616 = true
   ·
    subst c17; have H1 : (if t623 = true then (if t617 = 0 then (bellpulllaw04_NormPrimes.j0 k a1) else (none)) else (none)) = some r := by rw [if_pos rfl] at H; exact H
    clear H; have H := H1; clear H1
    by_cases c18 : t623 = true
    ·
     subst c18; have H1 : (if t617 = 0 then (bellpulllaw04_NormPrimes.j0 k a1) else (none)) = some r := by rw [if_pos rfl] at H; exact H
     clear H; have H := H1; clear H1
     by_cases c19 : t617 = 0
     ·
      rw [if_pos c19] at H; have c19b0 : (t617 == 0) = true := beq_iff_eq.mpr c19; have c19b1 : (t617 != 0) = false := bne_eq_false_iff_eq.mpr c19; clear c19; have H' := mk0 H; clear H; have hcz20_0 : w13.cell? ⟨gb615, 0, none⟩ = some (.int .i64 a0_0) := (blk_cell BK615.out 0).trans rfl; have hcz20_1 : w13.cell? ⟨gb615, 1, none⟩ = some (.int .i64 a0_1) := (blk_cell BK615.out 1).trans rfl; have hcz20_2 : w13.cell? ⟨gb615, 2, none⟩ = some (.int .i64 a0_2) := (blk_cell BK615.out 2).trans rfl; have hcz20_3 : w13.cell? ⟨gb615, 3, none⟩ = some (.int .i64 a0_3) := (blk_cell BK615.out 3).trans rfl; have hfz20_0 := blk_frozen BK615.out 0; have hfz20_1 := blk_frozen BK615.out 1; have hfz20_2 := blk_frozen BK615.out 2; have hfz20_3 := blk_frozen BK615.out 3; go_wp2_with (first | ((with_reducible refine gate_callee (f := 34) rfl ?_); refine goesL_ (some 29) rfl rfl Try.func34 (by kernel_rfl) rfl #[.agg #[.int .i64 a0_0, .int .i64 a0_1, .int .i64 a0_2, .int .i64 a0_3]] rfl (by (try simp only [List.map_toArray, List.map_cons, List.map_nil]); first | done | rfl | (simp only [List.length_drop, List.length_take]; rfl)) ?_; (with_reducible refine (bellpullref04_Norm.calls a0_0 a0_1 a0_2 a0_3 t622 _ A15.out).mono ?_); rintro e w21 ⟨rfl, hb⟩; refine ⟨_, rfl, ?_⟩; replace HO620 := mk0 (Kd.R_below (by (with_reducible repeat (first | apply Kd.R_alloc | apply Kd.R_drewN | apply Kd.R_drew)); exact HO620.out) hb); replace BK615 := mk0 (blk_below (g := gb615) (o := .cells #[.int .i64 a0_0, .int .i64 a0_1, .int .i64 a0_2, .int .i64 a0_3] 23 (0, 0)) (by (with_reducible repeat (first | refine blk_drewN ?_ _ | refine blk_drew ?_ | refine blk_alloc ?_ _)); exact BK615.out) hb); replace HB := mk0 (below_step (by repeat (first | (with_reducible first | exact HB.out | apply below_alloc | apply pw_below_drewN | apply below_drew1 | refine below_set ?_ GE615.out) | exact HB.out)) hb); (try clear hb)) | ((with_reducible refine gate_callee (f := 43) rfl ?_); refine goesL_ (some 30) rfl rfl Try.func43 (by kernel_rfl) rfl #[.int .i64 t622] rfl (by (try simp only [List.map_toArray, List.map_cons, List.map_nil]); first | done | rfl | (simp only [List.length_drop, List.length_take]; rfl)) ?_; (with_reducible refine (bellpullref04_Prime.calls k t622 true _ A16.out).mono ?_); rintro e w' ⟨rfl, ⟨nd, rfl⟩⟩; refine ⟨_, rfl, ?_⟩)); go_meet
      case rel => exact ⟨_, H', ⟨by first | omega | exact Nat.le_refl _⟩, ⟨by exact BK615.out⟩, ⟨by repeat (first | (with_reducible first | exact HB.out | apply below_alloc | apply pw_below_drewN | apply below_drew1 | refine below_set ?_ GE615.out) | exact HB.out)⟩⟩
     ·
      rw [if_neg c19] at H; exact absurd H (by simp)
    ·
     replace c18 := Bool.eq_false_iff.mpr c18; subst c18; have H1 : (none) = some r := by rw [if_neg (show ¬ (false = true) by decide)] at H; exact H
     clear H; have H := H1; clear H1; exact absurd H (by simp)
   ·
    replace c17 := Bool.eq_false_iff.mpr c17; subst c17; have H1 : (if t623 = true then (none) else (if t617 = 0 then (bellpulllaw04_NormPrimes.j0 k a1) else (none))) = some r := by rw [if_neg (show ¬ (false = true) by decide)] at H; exact H
    clear H; have H := H1; clear H1
    by_cases c22 : t623 = true
    ·
     subst c22; have H1 : (none) = some r := by rw [if_pos rfl] at H; exact H
     clear H; have H := H1; clear H1; exact absurd H (by simp)
    ·
     replace c22 := Bool.eq_false_iff.mpr c22; subst c22; have H1 : (if t617 = 0 then (bellpulllaw04_NormPrimes.j0 k a1) else (none)) = some r := by rw [if_neg (show ¬ (false = true) by decide)] at H; exact H
     clear H; have H := H1; clear H1
     by_cases c23 : t617 = 0
     ·
      rw [if_pos c23] at H; have c23b0 : (t617 == 0) = true := beq_iff_eq.mpr c23; have c23b1 : (t617 != 0) = false := bne_eq_false_iff_eq.mpr c23; clear c23; have H' := mk0 H; clear H; have hcz24_0 : w13.cell? ⟨gb615, 0, none⟩ = some (.int .i64 a0_0) := (blk_cell BK615.out 0).trans rfl; have hcz24_1 : w13.cell? ⟨gb615, 1, none⟩ = some (.int .i64 a0_1) := (blk_cell BK615.out 1).trans rfl; have hcz24_2 : w13.cell? ⟨gb615, 2, none⟩ = some (.int .i64 a0_2) := (blk_cell BK615.out 2).trans rfl; have hcz24_3 : w13.cell? ⟨gb615, 3, none⟩ = some (.int .i64 a0_3) := (blk_cell BK615.out 3).trans rfl; have hfz24_0 := blk_frozen BK615.out 0; have hfz24_1 := blk_frozen BK615.out 1; have hfz24_2 := blk_frozen BK615.out 2; have hfz24_3 := blk_frozen BK615.out 3; go_wp2_with (first | ((with_reducible refine gate_callee (f := 34) rfl ?_); refine goesL_ (some 29) rfl rfl Try.func34 (by kernel_rfl) rfl #[.agg #[.int .i64 a0_0, .int .i64 a0_1, .int .i64 a0_2, .int .i64 a0_3]] rfl (by (try simp only [List.map_toArray, List.map_cons, List.map_nil]); first | done | rfl | (simp only [List.length_drop, List.length_take]; rfl)) ?_; (with_reducible refine (bellpullref04_Norm.calls a0_0 a0_1 a0_2 a0_3 t622 _ A15.out).mono ?_); rintro e w25 ⟨rfl, hb⟩; refine ⟨_, rfl, ?_⟩; replace HO620 := mk0 (Kd.R_below (by (with_reducible repeat (first | apply Kd.R_alloc | apply Kd.R_drewN | apply Kd.R_drew)); exact HO620.out) hb); replace BK615 := mk0 (blk_below (g := gb615) (o := .cells #[.int .i64 a0_0, .int .i64 a0_1, .int .i64 a0_2, .int .i64 a0_3] 23 (0, 0)) (by (with_reducible repeat (first | refine blk_drewN ?_ _ | refine blk_drew ?_ | refine blk_alloc ?_ _)); exact BK615.out) hb); replace HB := mk0 (below_step (by repeat (first | (with_reducible first | exact HB.out | apply below_alloc | apply pw_below_drewN | apply below_drew1 | refine below_set ?_ GE615.out) | exact HB.out)) hb); (try clear hb)) | ((with_reducible refine gate_callee (f := 43) rfl ?_); refine goesL_ (some 30) rfl rfl Try.func43 (by kernel_rfl) rfl #[.int .i64 t622] rfl (by (try simp only [List.map_toArray, List.map_cons, List.map_nil]); first | done | rfl | (simp only [List.length_drop, List.length_take]; rfl)) ?_; (with_reducible refine (bellpullref04_Prime.calls k t622 false _ A16.out).mono ?_); rintro e w' ⟨rfl, ⟨nd, rfl⟩⟩; refine ⟨_, rfl, ?_⟩)); go_meet
      case rel => exact ⟨_, H', ⟨by first | omega | exact Nat.le_refl _⟩, ⟨by exact BK615.out⟩, ⟨by repeat (first | (with_reducible first | exact HB.out | apply below_alloc | apply pw_below_drewN | apply below_drew1 | refine below_set ?_ GE615.out) | exact HB.out)⟩⟩
     ·
      rw [if_neg c23] at H; exact absurd H (by simp)
  ·
   rw [if_neg c14] at H; have c14b0 : (t621 == 0) = false := beq_eq_false_iff_ne.mpr c14; have c14b1 : (t621 != 0) = true := bne_iff_ne.mpr c14; (first | rw [c14b0] | (simp only [i64_w, i32_w]; rw [c14b0]) | skip)
   by_cases c26 : t616 = true
   ·
    subst c26; have H1 : (none) = some r := by rw [if_pos rfl] at H; exact H
    clear H; have H := H1; clear H1; exact absurd H (by simp)
   ·
    replace c26 := Bool.eq_false_iff.mpr c26; subst c26; have H1 : (if t617 = t621 then (bellpulllaw04_NormPrimes.j0 k a1) else (none)) = some r := by rw [if_neg (show ¬ (false = true) by decide)] at H; exact H
    clear H; have H := H1; clear H1
    by_cases c27 : t617 = t621
    ·
     rw [if_pos c27] at H; have c27b0 : (t617 == t621) = true := beq_iff_eq.mpr c27; have c27b1 : (t617 != t621) = false := bne_eq_false_iff_eq.mpr c27; clear c27; have H' := mk0 H; clear H; go_wp2; go_meet
     case rel => exact ⟨_, H', ⟨by first | omega | exact Nat.le_refl _⟩, ⟨by exact BK615.out⟩, ⟨by repeat (first | (with_reducible first | exact HB.out | apply below_alloc | apply pw_below_drewN | apply below_drew1 | refine below_set ?_ GE615.out) | exact HB.out)⟩⟩
    ·
     rw [if_neg c27] at H; exact absurd H (by simp)
 case rest =>
  clear HC5; try clear c1
  try clear c2
  try clear p2
  try clear c3
  try clear c4
  try clear c13
  try clear c14
  try clear c14b0
  try clear c14b1
  try clear c17
  try clear c18
  try clear c19
  try clear c19b0
  try clear c19b1
  try clear c22
  try clear c23
  try clear c23b0
  try clear c23b1
  try clear c26
  try clear c27
  try clear c27b0
  try clear c27b1
  try clear hcz20_0
  try clear hcz20_1
  try clear hcz20_2
  try clear hcz20_3
  try clear hcz24_0
  try clear hcz24_1
  try clear hcz24_2
  try clear hcz24_3
  try clear hcz7_0
  try clear hcz7_1
  try clear hcz7_2
  try clear hcz7_3
  try clear hcz9_0
  try clear hcz9_1
  try clear hcz9_2
  try clear hcz9_3
  try clear hfz20_0
  try clear hfz20_1
  try clear hfz20_2
  try clear hfz20_3
  try clear hfz24_0
  try clear hfz24_1
  try clear hfz24_2
  try clear hfz24_3
  try clear hfz7_0
  try clear hfz7_1
  try clear hfz7_2
  try clear hfz7_3
  try clear hfz9_0
  try clear hfz9_1
  try clear hfz9_2
  try clear hfz9_3
  obtain ⟨kq, HA, HJ4, BK615, HB⟩ := hcut; cases kq with
  | zero => exact absurd HA.out (by simp [bellpulllaw04_NormPrimes.j0])
  | succ kj4 =>
   have H := HA.out; clear HA; simp only [bellpulllaw04_NormPrimes.j0] at H; replace H := Option.bind_eq_some_iff.mp H; obtain ⟨⟨t624, t625, t626, t627, t628⟩, A280, H⟩ := H; (try dsimp only at H); have A28 := mk0 A280; clear A280; have HC29 := mk0 H; clear H; go_upto_region 9 with (first | ((with_reducible refine gate_callee (f := 44) rfl ?_); refine goesL_ (some 38) rfl rfl Try.func44 (by kernel_rfl) rfl #[.int .i64 a1] rfl (by (try simp only [List.map_toArray, List.map_cons, List.map_nil]); first | done | rfl | (simp only [List.length_drop, List.length_take]; rfl)) ?_; (with_reducible refine (norm_Split.calls kj4 a1 t624 t625 t626 t627 t628 _ A28.out).mono ?_); rintro e w30 ⟨rfl, hb⟩; refine ⟨_, rfl, ?_⟩; replace BK615 := bkb BK615 hb; replace HB := bst HB hb; (try clear hb)) | ((with_reducible refine gate_dst (N := 8) rfl ?_); refine box_event ?hg (N := 8) ?hd (cs := #[.int .i64 0, .int .i64 0, .int .i64 0, .int .i64 0]) (t := 23) ?hr ?_; (case hd => rfl); (case hg => rfl); (case hr => first | (go_simp; done) | (go_simp; rfl)); intro gb629 hg w31 hbox hb; have BK629 := mk0 (hbox); have GW629 := szw hg HB; have GE629 := GW629; have NB615_629 := nlt hg BK615; have NB629_615 := ngt hg BK615; replace BK615 := bkb BK615 hb; replace HB := bst HB hb; clear hb hbox hg; have hnb32 := NB629_615.out; have hnc32 := NB615_629.out; have hcz33_0 : w31.cell? ⟨gb629, 0, none⟩ = some (.int .i64 0) := (blk_cell BK629.out 0).trans rfl; have hcz33_1 : w31.cell? ⟨gb629, 1, none⟩ = some (.int .i64 0) := (blk_cell BK629.out 1).trans rfl; have hcz33_2 : w31.cell? ⟨gb629, 2, none⟩ = some (.int .i64 0) := (blk_cell BK629.out 2).trans rfl; have hcz33_3 : w31.cell? ⟨gb629, 3, none⟩ = some (.int .i64 0) := (blk_cell BK629.out 3).trans rfl; have hfz33_0 := blk_frozen BK629.out 0; have hfz33_1 := blk_frozen BK629.out 1; have hfz33_2 := blk_frozen BK629.out 2; have hfz33_3 := blk_frozen BK629.out 3)); (try simp only [Act.put, List.setIfInBounds_toArray, List.set_cons_zero, List.set_cons_succ])
   go_cut [48] (fun v48 wc => ∃ (kq : Nat) (x48_28 : Bool), v48 = .bool x48_28 ∧ Aside0 (bellpulllaw04_NormPrimes.j1 kq a1 t628 x48_28 t624 t625 t626 t627 = some r) ∧ Aside0 (kq ≤ kj4) ∧ Aside0 (wc.heap[gb615]? = some (.cells #[.int .i64 a0_0, .int .i64 a0_1, .int .i64 a0_2, .int .i64 a0_3] 23 (0, 0))) ∧ Aside0 (wc.heap[gb629]? = some (.cells #[.int .i64 t624, .int .i64 t625, .int .i64 t626, .int .i64 t627] 23 (0, 0))) ∧ Aside0 (Below w.heap.size w wc))
   case first =>
    have H := HC29.out; clear HC29; replace H := Option.bind_eq_some_iff.mp H; obtain ⟨t630, A340, H⟩ := H; (try dsimp only at H); have A34 := mk0 A340; clear A340
    by_cases c35 : t630 = true
    ·
     subst c35; have H1 : ((bellpullref04_Prime.f kj4 a1).bind fun t631 => (bellpulllaw04_NormPrimes.j1 kj4 a1 t628 (!t631) t624 t625 t626 t627)) = some r := by rw [if_pos rfl] at H; exact H
     clear H; have H := H1; clear H1; replace H := Option.bind_eq_some_iff.mp H; obtain ⟨t631, A360, H⟩ := H; (try dsimp only at H); have A36 := mk0 A360; clear A360; have H' := mk0 H; clear H; go_wp2_with (first | ((with_reducible refine gate_callee (f := 25) rfl ?_); refine goesL_ (some 42) rfl rfl Try.func25 (by kernel_rfl) rfl #[.int .i64 a1, .int .i64 2, .int .i64 10000] rfl (by (try simp only [List.map_toArray, List.map_cons, List.map_nil]); first | done | rfl | (simp only [List.length_drop, List.length_take]; rfl)) ?_; (with_reducible refine (bellpullref01_In.calls a1 2 10000 true _ A34.out).mono ?_); rintro e w' ⟨rfl, ⟨nd, rfl⟩⟩; refine ⟨_, rfl, ?_⟩) | (go_at_call 43; (with_reducible refine (bellpullref04_Prime.calls kj4 a1 t631 _ A36.out).mono ?_); rintro e w' ⟨rfl, ⟨nd, rfl⟩⟩)); go_meet
     case rel => exact ⟨_, (!t631), (by first | rfl | (simp; done) | (simp [*]; done)), H', ⟨by have := HJ4.out; first | omega | exact Nat.le_refl _⟩, ⟨by (iterate 4 refine blk_far ?_ NB615_629.out _); exact BK615.out⟩, ⟨by refine blk_put (cs := #[.int .i64 t624, .int .i64 t625, .int .i64 t626, .int .i64 0]) ?_ 3 _ rfl; refine blk_put (cs := #[.int .i64 t624, .int .i64 t625, .int .i64 0, .int .i64 0]) ?_ 2 _ rfl; refine blk_put (cs := #[.int .i64 t624, .int .i64 0, .int .i64 0, .int .i64 0]) ?_ 1 _ rfl; refine blk_put (cs := #[.int .i64 0, .int .i64 0, .int .i64 0, .int .i64 0]) ?_ 0 _ rfl; exact BK629.out⟩, ⟨by repeat (first | (with_reducible first | exact HB.out | apply below_alloc | apply pw_below_drewN | apply below_drew1 | refine below_set ?_ GE615.out | refine below_set ?_ GE629.out) | exact HB.out)⟩⟩
    ·
     replace c35 := Bool.eq_false_iff.mpr c35; subst c35; have H1 : (bellpulllaw04_NormPrimes.j1 kj4 a1 t628 true t624 t625 t626 t627) = some r := by rw [if_neg (show ¬ (false = true) by decide)] at H; exact H
     clear H; have H := H1; clear H1; have H' := mk0 H; clear H; go_wp2_with (first | ((with_reducible refine gate_callee (f := 25) rfl ?_); refine goesL_ (some 42) rfl rfl Try.func25 (by kernel_rfl) rfl #[.int .i64 a1, .int .i64 2, .int .i64 10000] rfl (by (try simp only [List.map_toArray, List.map_cons, List.map_nil]); first | done | rfl | (simp only [List.length_drop, List.length_take]; rfl)) ?_; (with_reducible refine (bellpullref01_In.calls a1 2 10000 false _ A34.out).mono ?_); rintro e w' ⟨rfl, ⟨nd, rfl⟩⟩; refine ⟨_, rfl, ?_⟩)); go_meet
     case rel => exact ⟨_, (true), (by first | rfl | (simp; done) | (simp [*]; done)), H', ⟨by have := HJ4.out; first | omega | exact Nat.le_refl _⟩, ⟨by (iterate 4 refine blk_far ?_ NB615_629.out _); exact BK615.out⟩, ⟨by refine blk_put (cs := #[.int .i64 t624, .int .i64 t625, .int .i64 t626, .int .i64 0]) ?_ 3 _ rfl; refine blk_put (cs := #[.int .i64 t624, .int .i64 t625, .int .i64 0, .int .i64 0]) ?_ 2 _ rfl; refine blk_put (cs := #[.int .i64 t624, .int .i64 0, .int .i64 0, .int .i64 0]) ?_ 1 _ rfl; refine blk_put (cs := #[.int .i64 0, .int .i64 0, .int .i64 0, .int .i64 0]) ?_ 0 _ rfl; exact BK629.out⟩, ⟨by repeat (first | (with_reducible first | exact HB.out | apply below_alloc | apply pw_below_drewN | apply below_drew1 | refine below_set ?_ GE615.out | refine below_set ?_ GE629.out) | exact HB.out)⟩⟩
   case rest =>
    clear HC29; try clear c1
    try clear c2
    try clear p2
    try clear c3
    try clear c4
    try clear c13
    try clear c14
    try clear c14b0
    try clear c14b1
    try clear c17
    try clear c18
    try clear c19
    try clear c19b0
    try clear c19b1
    try clear c22
    try clear c23
    try clear c23b0
    try clear c23b1
    try clear c25
    try clear c26
    try clear c27
    try clear c27b0
    try clear c27b1
    try clear c32
    try clear c34
    try clear c35
    try clear hcz20_0
    try clear hcz20_1
    try clear hcz20_2
    try clear hcz20_3
    try clear hcz24_0
    try clear hcz24_1
    try clear hcz24_2
    try clear hcz24_3
    try clear hcz33_0
    try clear hcz33_1
    try clear hcz33_2
    try clear hcz33_3
    try clear hcz7_0
    try clear hcz7_1
    try clear hcz7_2
    try clear hcz7_3
    try clear hcz9_0
    try clear hcz9_1
    try clear hcz9_2
    try clear hcz9_3
    try clear hfz20_0
    try clear hfz20_1
    try clear hfz20_2
    try clear hfz20_3
    try clear hfz24_0
    try clear hfz24_1
    try clear hfz24_2
    try clear hfz24_3
    try clear hfz33_0
    try clear hfz33_1
    try clear hfz33_2
    try clear hfz33_3
    try clear hfz7_0
    try clear hfz7_1
    try clear hfz7_2
    try clear hfz7_3
    try clear hfz9_0
    try clear hfz9_1
    try clear hfz9_2
    try clear hfz9_3
    try clear p2
    obtain ⟨kq, x48_28, rfl, HA, HJ28, BK615, BK629, HB⟩ := hcut; cases kq with
    | zero => exact absurd HA.out (by simp [bellpulllaw04_NormPrimes.j1])
    | succ kj28 =>
     have H := HA.out; clear HA; simp only [bellpulllaw04_NormPrimes.j1] at H
     by_cases c37 : x48_28 = true
     ·
      subst c37; have H1 : (if (t624 == 0 && (t625 == 0 && (t626 == 0 && (t627 == 0)))) = true then (if t628 = 1 then ((bellpulllaw04_lives.f kj28).bind fun t632 => (some t632)) else (none)) else (none)) = some r := by rw [if_pos rfl] at H; exact H
      clear H; have H := H1; clear H1
      by_cases c38 : (t624 == 0 && (t625 == 0 && (t626 == 0 && (t627 == 0)))) = true
      ·
       rw [if_pos c38] at H; have c38b0 : (t624 == 0 && (t625 == 0 && (t626 == 0 && (t627 == 0)))) = true := c38; (try (have c38b1 : decide (t624 = 0 && (t625 == 0 && (t626 == 0 && (t627 == 0)))) = true := by simpa using c38)); (try (have c38b2 : (t624 == 0 && (t625 == 0 && (t626 == 0 && (t627 == 0)))) = true := by simpa using c38)); clear c38
       by_cases c39 : t628 = 1
       ·
        rw [if_pos c39] at H; have c39b0 : (t628 == 1) = true := beq_iff_eq.mpr c39; have c39b1 : (t628 != 1) = false := bne_eq_false_iff_eq.mpr c39; clear c39; replace H := Option.bind_eq_some_iff.mp H; obtain ⟨t632, A400, H⟩ := H; (try dsimp only at H); have A40 := mk0 A400; clear A400; obtain rfl := Option.some.inj H; have hnb41 := NB629_615.out; have hnc41 := NB615_629.out; have hcz42_0 : wc.cell? ⟨gb629, 0, none⟩ = some (.int .i64 t624) := (blk_cell BK629.out 0).trans rfl; have hcz42_1 : wc.cell? ⟨gb629, 1, none⟩ = some (.int .i64 t625) := (blk_cell BK629.out 1).trans rfl; have hcz42_2 : wc.cell? ⟨gb629, 2, none⟩ = some (.int .i64 t626) := (blk_cell BK629.out 2).trans rfl; have hcz42_3 : wc.cell? ⟨gb629, 3, none⟩ = some (.int .i64 t627) := (blk_cell BK629.out 3).trans rfl; have hfz42_0 := blk_frozen BK629.out 0; have hfz42_1 := blk_frozen BK629.out 1; have hfz42_2 := blk_frozen BK629.out 2; have hfz42_3 := blk_frozen BK629.out 3; go_wp2_with (first | (go_at_call 19; (with_reducible refine (bellpulllaw04_lives.calls kj28  t632 _ A40.out).mono ?_); rintro e w43 ⟨rfl, hb⟩; replace BK615 := bkb BK615 hb; replace BK629 := bkb BK629 hb; replace HB := bst HB hb; (try clear hb))); go_ret; exact ⟨by first | rfl | (simp [errW_none, errW_some] <;> rfl) | (simp [*, errW_none, errW_some] <;> rfl), by repeat (first | (with_reducible first | exact HB.out | apply below_alloc | apply pw_below_drewN | apply below_drew1 | refine below_set ?_ GE615.out | refine below_set ?_ GE629.out) | exact HB.out)⟩
       ·
        rw [if_neg c39] at H; exact absurd H (by simp)
      ·
       rw [if_neg c38] at H; exact absurd H (by simp)
     ·
      replace c37 := Bool.eq_false_iff.mpr c37; subst c37; have H1 : ((bellpullref04_Squares.f kj28 a1 4 100).bind fun t633 => (if 0 < (t633.length : Int) then (if 1 < (t633.length : Int) then (if 2 < (t633.length : Int) then (if 3 < (t633.length : Int) then (if (t624 == (wrap64 (2 * (rd t633 0))) && (t625 == (wrap64 (2 * (rd t633 1))) && (t626 == (wrap64 (2 * (rd t633 2))) && (t627 == (wrap64 (2 * (rd t633 3))))))) = true then (if t628 = 0 then ((bellpulllaw04_lives.f kj28).bind fun t640 => (some t640)) else (none)) else (none)) else (none)) else (none)) else (none)) else (none))) = some r := by rw [if_neg (show ¬ (false = true) by decide)] at H; exact H
      clear H; have H := H1; clear H1; replace H := Option.bind_eq_some_iff.mp H; obtain ⟨t633, A440, H⟩ := H; (try dsimp only at H); have A44 := mk0 A440; clear A440
      by_cases c45 : 0 < (t633.length : Int)
      ·
       rw [if_pos c45] at H; have c45b0 : decide (0 < (t633.length : Int)) = true := decide_eq_true c45; have c45b1 : decide (0 < t633.length) = true := decide_eq_true (by omega); clear c45
       by_cases c46 : 1 < (t633.length : Int)
       ·
        rw [if_pos c46] at H; have c46b0 : decide (1 < (t633.length : Int)) = true := decide_eq_true c46; have c46b1 : decide (1 < t633.length) = true := decide_eq_true (by omega); clear c46
        by_cases c47 : 2 < (t633.length : Int)
        ·
         rw [if_pos c47] at H; have c47b0 : decide (2 < (t633.length : Int)) = true := decide_eq_true c47; have c47b1 : decide (2 < t633.length) = true := decide_eq_true (by omega); clear c47
         by_cases c48 : 3 < (t633.length : Int)
         ·
          rw [if_pos c48] at H; have c48b0 : decide (3 < (t633.length : Int)) = true := decide_eq_true c48; have c48b1 : decide (3 < t633.length) = true := decide_eq_true (by omega); clear c48
          by_cases c49 : (t624 == (wrap64 (2 * (rd t633 0))) && (t625 == (wrap64 (2 * (rd t633 1))) && (t626 == (wrap64 (2 * (rd t633 2))) && (t627 == (wrap64 (2 * (rd t633 3))))))) = true
          ·
           rw [if_pos c49] at H; have c49b0 : (t624 == (wrap64 (2 * (rd t633 0))) && (t625 == (wrap64 (2 * (rd t633 1))) && (t626 == (wrap64 (2 * (rd t633 2))) && (t627 == (wrap64 (2 * (rd t633 3))))))) = true := c49; (try (have c49b1 : decide (t624 = (wrap64 (2 * (rd t633 0))) && (t625 == (wrap64 (2 * (rd t633 1))) && (t626 == (wrap64 (2 * (rd t633 2))) && (t627 == (wrap64 (2 * (rd t633 3))))))) = true := by simpa using c49)); (try (have c49b2 : (t624 == (wrap64 (2 * (rd t633 0))) && (t625 == (wrap64 (2 * (rd t633 1))) && (t626 == (wrap64 (2 * (rd t633 2))) && (t627 == (wrap64 (2 * (rd t633 3))))))) = true := by simpa using c49)); clear c49
           by_cases c50 : t628 = 0
           ·
            rw [if_pos c50] at H; have c50b0 : (t628 == 0) = true := beq_iff_eq.mpr c50; have c50b1 : (t628 != 0) = false := bne_eq_false_iff_eq.mpr c50; clear c50; replace H := Option.bind_eq_some_iff.mp H; obtain ⟨t640, A510, H⟩ := H; (try dsimp only at H); have A51 := mk0 A510; clear A510; obtain rfl := Option.some.inj H; try go_wp2_with (first | ((with_reducible refine gate_callee (f := 27) rfl ?_); refine goesL_ (some 60) rfl rfl Try.func27 (by kernel_rfl) rfl #[.int .i64 a1, .int .i64 4, .int .i64 100] rfl (by (try simp only [List.map_toArray, List.map_cons, List.map_nil]); first | done | rfl | (simp only [List.length_drop, List.length_take]; rfl)) ?_; (with_reducible refine (bellpullref04_Squares.calls kj28 a1 4 100 t633 _ A44.out).mono ?_); rintro e w52 ⟨v634, rfl, ho0, hz0, hb⟩; refine ⟨_, rfl, ?_⟩; have HO635 := mk0 (Kd.R_lower ho0 (below_size HB.out)); have NZHO635 := mk0 (hz0); replace BK615 := bkb BK615 hb; replace BK629 := bkb BK629 hb; replace HB := bst HB hb; (try clear hb); (try clear ho0)))
            replace HO635 := rdr HO635; replace BK615 := bdr BK615; replace BK629 := bdr BK629; replace HB := hdr HB; obtain ⟨Ao54, co54, eo54⟩ := Kd.R_slice HO635.out; (first | subst eo54 | (injection eo54 with f1_ f2_ f3_; have f4_ := f1_.symm; have f5_ := f3_.symm; clear f1_ f2_ f3_; subst f4_; subst f5_)); have p636 : 0 ≤ (0 : Int) := (by omega)
            have q636 : 0 < (t633.length : Int) := of_decide_eq_true (by first | (with_reducible assumption) | assumption); obtain ⟨ad636, e636, hx636_0⟩ := Kd.at_int (Kd.R_reads' HO635.out).2.2 0 p636 q636; cases e636; have qi636 : (0 < t633.length) = True := eq_true (by omega); (try rw [show ((0 : Int)).toNat = 0 from rfl] at hx636_0); (try rw [Addr.add_zero'] at hx636_0); replace p636 := eq_true p636; replace q636 := eq_true q636; have p637 : 0 ≤ (1 : Int) := (by omega)
            have q637 : 1 < (t633.length : Int) := of_decide_eq_true (by first | (with_reducible assumption) | assumption); obtain ⟨ad637, e637, hx637_0⟩ := Kd.at_int (Kd.R_reads' HO635.out).2.2 1 p637 q637; obtain rfl : ad636 = ad637 := (by injection e637)
            (try simp only [show (1 : Int).toNat = 1 from rfl, Nat.reduceMul, Nat.reduceEqDiff, Go.Addr.add, ↓reduceIte] at hx637_0); have qi637 : (1 < t633.length) = True := eq_true (by omega); (try rw [show ((1 : Int)).toNat = 1 from rfl] at hx637_0); replace p637 := eq_true p637; replace q637 := eq_true q637; have p638 : 0 ≤ (2 : Int) := (by omega)
            have q638 : 2 < (t633.length : Int) := of_decide_eq_true (by first | (with_reducible assumption) | assumption); obtain ⟨ad638, e638, hx638_0⟩ := Kd.at_int (Kd.R_reads' HO635.out).2.2 2 p638 q638; obtain rfl : ad636 = ad638 := (by injection e638)
            (try simp only [show (2 : Int).toNat = 2 from rfl, Nat.reduceMul, Nat.reduceEqDiff, Go.Addr.add, ↓reduceIte] at hx638_0); have qi638 : (2 < t633.length) = True := eq_true (by omega); (try rw [show ((2 : Int)).toNat = 2 from rfl] at hx638_0); replace p638 := eq_true p638; replace q638 := eq_true q638; have p639 : 0 ≤ (3 : Int) := (by omega)
            have q639 : 3 < (t633.length : Int) := of_decide_eq_true (by first | (with_reducible assumption) | assumption); obtain ⟨ad639, e639, hx639_0⟩ := Kd.at_int (Kd.R_reads' HO635.out).2.2 3 p639 q639; obtain rfl : ad636 = ad639 := (by injection e639)
            (try simp only [show (3 : Int).toNat = 3 from rfl, Nat.reduceMul, Nat.reduceEqDiff, Go.Addr.add, ↓reduceIte] at hx639_0); have qi639 : (3 < t633.length) = True := eq_true (by omega); (try rw [show ((3 : Int)).toNat = 3 from rfl] at hx639_0); replace p639 := eq_true p639; replace q639 := eq_true q639; refine start_ (n := 27) (S := fun w' => w'.cell? ⟨gb629, 0, none⟩ = some (.int .i64 t624) ∧ w'.cell? ⟨gb629, 1, none⟩ = some (.int .i64 t625) ∧ w'.cell? ⟨gb629, 2, none⟩ = some (.int .i64 t626) ∧ w'.cell? ⟨gb629, 3, none⟩ = some (.int .i64 t627) ∧ w'.cell? ad636 = some (.int .i64 (rd t633 0)) ∧ w'.cell? ⟨ad636.block, ad636.off + 1, none⟩ = some (.int .i64 (rd t633 1)) ∧ w'.cell? ⟨ad636.block, ad636.off + 2, none⟩ = some (.int .i64 (rd t633 2)) ∧ w'.cell? ⟨ad636.block, ad636.off + 3, none⟩ = some (.int .i64 (rd t633 3))) (ds := []) #[false, false, false, false, false, false, false, false, false, false, false, false, false, false, false, false, false, false, false, false, false, false, false, false, false, false, false] (by kernel_rfl) rfl rfl ⟨(blk_cell BK629.out 0).trans rfl, (blk_cell BK629.out 1).trans rfl, (blk_cell BK629.out 2).trans rfl, (blk_cell BK629.out 3).trans rfl, hx636_0, hx637_0, hx638_0, hx639_0⟩ (fun hHeld => ?_); refine with_tabW bellpulllaw04_NormPrimes.tab12 bellpulllaw04_NormPrimes.bits12 (fun HT_ HW_ => ?_); generalize w52.drew = w53 at HO635 BK615 BK629 HB hx636_0 hx637_0 hx638_0 hx639_0 hHeld ⊢; refine pure_ (i := 1) (N := some 62) (v := ?_) (a' := ?_) #[false, true, false, false, false, false, false, false, false, false, false, false, false, false, false, false, false, false, false, false, false, false, false, false, false, false, false] rfl rfl (any_of HT_.out (by kernel_rfl)) (fun _ _ _ h => h) (Or.inl ⟨by rfl, ?_⟩) ?_ ?_; rotate_left
            ·
             intro w'; go_simp; with_reducible rfl
            rotate_left
            ·
             simp only [Act.put, List.setIfInBounds_toArray, List.set_cons_zero, List.set_cons_succ, i64_w, i32_w]; rfl
            refine pure_ (i := 2) (N := some 63) (v := ?_) (a' := ?_) #[false, true, true, false, false, false, false, false, false, false, false, false, false, false, false, false, false, false, false, false, false, false, false, false, false, false, false] rfl rfl (any_of HT_.out (by kernel_rfl)) (fun _ _ _ h => h) (Or.inl ⟨by rfl, ?_⟩) ?_ ?_; rotate_left
            ·
             intro w'; go_simp; with_reducible rfl
            rotate_left
            ·
             simp only [Act.put, List.setIfInBounds_toArray, List.set_cons_zero, List.set_cons_succ, i64_w, i32_w]; rfl
            refine pure_ (i := 5) (N := some 66) (v := ?_) (a' := ?_) #[false, true, true, false, false, true, false, false, false, false, false, false, false, false, false, false, false, false, false, false, false, false, false, false, false, false, false] rfl rfl (any_of HT_.out (by kernel_rfl)) (fun _ _ _ h => h) (Or.inl ⟨by rfl, ?_⟩) ?_ ?_; rotate_left
            ·
             intro w'; go_simp; with_reducible rfl
            rotate_left
            ·
             simp only [Act.put, List.setIfInBounds_toArray, List.set_cons_zero, List.set_cons_succ, i64_w, i32_w]; rfl
            refine pure_ (i := 6) (N := some 67) (v := ?_) (a' := ?_) #[false, true, true, false, false, true, true, false, false, false, false, false, false, false, false, false, false, false, false, false, false, false, false, false, false, false, false] rfl rfl (any_of HT_.out (by kernel_rfl)) (fun _ _ _ h => h) (Or.inl ⟨by rfl, ?_⟩) ?_ ?_; rotate_left
            ·
             intro w'; go_simp; with_reducible rfl
            rotate_left
            ·
             simp only [Act.put, List.setIfInBounds_toArray, List.set_cons_zero, List.set_cons_succ, i64_w, i32_w]; rfl
            refine pure_ (i := 9) (N := some 70) (v := ?_) (a' := ?_) #[false, true, true, false, false, true, true, false, false, true, false, false, false, false, false, false, false, false, false, false, false, false, false, false, false, false, false] rfl rfl (any_of HT_.out (by kernel_rfl)) (fun _ _ _ h => h) (Or.inl ⟨by rfl, ?_⟩) ?_ ?_; rotate_left
            ·
             intro w'; go_simp; with_reducible rfl
            rotate_left
            ·
             simp only [Act.put, List.setIfInBounds_toArray, List.set_cons_zero, List.set_cons_succ, i64_w, i32_w]; rfl
            refine pure_ (i := 10) (N := some 71) (v := ?_) (a' := ?_) #[false, true, true, false, false, true, true, false, false, true, true, false, false, false, false, false, false, false, false, false, false, false, false, false, false, false, false] rfl rfl (any_of HT_.out (by kernel_rfl)) (fun _ _ _ h => h) (Or.inl ⟨by rfl, ?_⟩) ?_ ?_; rotate_left
            ·
             intro w'; go_simp; with_reducible rfl
            rotate_left
            ·
             simp only [Act.put, List.setIfInBounds_toArray, List.set_cons_zero, List.set_cons_succ, i64_w, i32_w]; rfl
            refine pure_ (i := 13) (N := some 74) (v := ?_) (a' := ?_) #[false, true, true, false, false, true, true, false, false, true, true, false, false, true, false, false, false, false, false, false, false, false, false, false, false, false, false] rfl rfl (any_of HT_.out (by kernel_rfl)) (fun _ _ _ h => h) (Or.inl ⟨by rfl, ?_⟩) ?_ ?_; rotate_left
            ·
             intro w'; go_simp; with_reducible rfl
            rotate_left
            ·
             simp only [Act.put, List.setIfInBounds_toArray, List.set_cons_zero, List.set_cons_succ, i64_w, i32_w]; rfl
            refine pure_ (i := 14) (N := some 75) (v := ?_) (a' := ?_) #[false, true, true, false, false, true, true, false, false, true, true, false, false, true, true, false, false, false, false, false, false, false, false, false, false, false, false] rfl rfl (any_of HT_.out (by kernel_rfl)) (fun _ _ _ h => h) (Or.inl ⟨by rfl, ?_⟩) ?_ ?_; rotate_left
            ·
             intro w'; go_simp; with_reducible rfl
            rotate_left
            ·
             simp only [Act.put, List.setIfInBounds_toArray, List.set_cons_zero, List.set_cons_succ, i64_w, i32_w]; rfl
            refine take_ (i := 0) (N := some 61) (v := ?_) (a' := ?_) #[true, true, true, false, false, true, true, false, false, true, true, false, false, true, true, false, false, false, false, false, false, false, false, false, false, false, false] rfl rfl (take_ofW HT_.out HW_.out (by kernel_rfl)) (fun _ _ _ h => h) (Or.inl ⟨by rfl, ?_⟩) hHeld ?_ ?_; rotate_left
            ·
             rintro w' ⟨s0, s1, s2, s3, s4, s5, s6, s7⟩; go_simp; with_reducible rfl
            rotate_left
            ·
             simp only [Act.put, List.setIfInBounds_toArray, List.set_cons_zero, List.set_cons_succ, i64_w, i32_w]; rfl
            refine take_ (i := 3) (N := some 64) (v := ?_) (a' := ?_) #[true, true, true, true, false, true, true, false, false, true, true, false, false, true, true, false, false, false, false, false, false, false, false, false, false, false, false] rfl rfl (take_ofW HT_.out HW_.out (by kernel_rfl)) (fun _ _ _ h => h) (Or.inl ⟨by rfl, ?_⟩) hHeld ?_ ?_; rotate_left
            ·
             rintro w' ⟨s0, s1, s2, s3, s4, s5, s6, s7⟩; go_simp; with_reducible rfl
            rotate_left
            ·
             simp only [Act.put, List.setIfInBounds_toArray, List.set_cons_zero, List.set_cons_succ, i64_w, i32_w]; rfl
            refine pure_ (i := 4) (N := some 65) (v := ?_) (a' := ?_) #[true, true, true, true, true, true, true, false, false, true, true, false, false, true, true, false, false, false, false, false, false, false, false, false, false, false, false] rfl rfl (any_of HT_.out (by kernel_rfl)) (fun _ _ _ h => h) (Or.inl ⟨by rfl, ?_⟩) ?_ ?_; rotate_left
            ·
             intro w'; go_simp; with_reducible rfl
            rotate_left
            ·
             simp only [Act.put, List.setIfInBounds_toArray, List.set_cons_zero, List.set_cons_succ, i64_w, i32_w]; rfl
            refine take_ (i := 7) (N := some 68) (v := ?_) (a' := ?_) #[true, true, true, true, true, true, true, true, false, true, true, false, false, true, true, false, false, false, false, false, false, false, false, false, false, false, false] rfl rfl (take_ofW HT_.out HW_.out (by kernel_rfl)) (fun _ _ _ h => h) (Or.inl ⟨by rfl, ?_⟩) hHeld ?_ ?_; rotate_left
            ·
             rintro w' ⟨s0, s1, s2, s3, s4, s5, s6, s7⟩; go_simp; with_reducible rfl
            rotate_left
            ·
             simp only [Act.put, List.setIfInBounds_toArray, List.set_cons_zero, List.set_cons_succ, i64_w, i32_w]; rfl
            refine pure_ (i := 8) (N := some 69) (v := ?_) (a' := ?_) #[true, true, true, true, true, true, true, true, true, true, true, false, false, true, true, false, false, false, false, false, false, false, false, false, false, false, false] rfl rfl (any_of HT_.out (by kernel_rfl)) (fun _ _ _ h => h) (Or.inl ⟨by rfl, ?_⟩) ?_ ?_; rotate_left
            ·
             intro w'; go_simp; with_reducible rfl
            rotate_left
            ·
             simp only [Act.put, List.setIfInBounds_toArray, List.set_cons_zero, List.set_cons_succ, i64_w, i32_w]; rfl
            refine take_ (i := 11) (N := some 72) (v := ?_) (a' := ?_) #[true, true, true, true, true, true, true, true, true, true, true, true, false, true, true, false, false, false, false, false, false, false, false, false, false, false, false] rfl rfl (take_ofW HT_.out HW_.out (by kernel_rfl)) (fun _ _ _ h => h) (Or.inl ⟨by rfl, ?_⟩) hHeld ?_ ?_; rotate_left
            ·
             rintro w' ⟨s0, s1, s2, s3, s4, s5, s6, s7⟩; go_simp; with_reducible rfl
            rotate_left
            ·
             simp only [Act.put, List.setIfInBounds_toArray, List.set_cons_zero, List.set_cons_succ, i64_w, i32_w]; rfl
            refine pure_ (i := 12) (N := some 73) (v := ?_) (a' := ?_) #[true, true, true, true, true, true, true, true, true, true, true, true, true, true, true, false, false, false, false, false, false, false, false, false, false, false, false] rfl rfl (any_of HT_.out (by kernel_rfl)) (fun _ _ _ h => h) (Or.inl ⟨by rfl, ?_⟩) ?_ ?_; rotate_left
            ·
             intro w'; go_simp; with_reducible rfl
            rotate_left
            ·
             simp only [Act.put, List.setIfInBounds_toArray, List.set_cons_zero, List.set_cons_succ, i64_w, i32_w]; rfl
            refine take_ (i := 15) (N := some 76) (v := ?_) (a' := ?_) #[true, true, true, true, true, true, true, true, true, true, true, true, true, true, true, true, false, false, false, false, false, false, false, false, false, false, false] rfl rfl (take_ofW HT_.out HW_.out (by kernel_rfl)) (fun _ _ _ h => h) (Or.inl ⟨by rfl, ?_⟩) hHeld ?_ ?_; rotate_left
            ·
             rintro w' ⟨s0, s1, s2, s3, s4, s5, s6, s7⟩; go_simp; with_reducible rfl
            rotate_left
            ·
             simp only [Act.put, List.setIfInBounds_toArray, List.set_cons_zero, List.set_cons_succ, i64_w, i32_w]; rfl
            refine pure_ (i := 16) (N := some 77) (v := ?_) (a' := ?_) #[true, true, true, true, true, true, true, true, true, true, true, true, true, true, true, true, true, false, false, false, false, false, false, false, false, false, false] rfl rfl (any_of HT_.out (by kernel_rfl)) (fun _ _ _ h => h) (Or.inl ⟨by rfl, ?_⟩) ?_ ?_; rotate_left
            ·
             intro w'; go_simp; with_reducible rfl
            rotate_left
            ·
             simp only [Act.put, List.setIfInBounds_toArray, List.set_cons_zero, List.set_cons_succ, i64_w, i32_w]; rfl
            refine pure_ (i := 17) (N := some 78) (v := ?_) (a' := ?_) #[true, true, true, true, true, true, true, true, true, true, true, true, true, true, true, true, true, true, false, false, false, false, false, false, false, false, false] rfl rfl (any_of HT_.out (by kernel_rfl)) (fun _ _ _ h => h) (Or.inl ⟨by rfl, ?_⟩) ?_ ?_; rotate_left
            ·
             intro w'; go_simp; with_reducible rfl
            rotate_left
            ·
             simp only [Act.put, List.setIfInBounds_toArray, List.set_cons_zero, List.set_cons_succ, i64_w, i32_w]; rfl
            refine pure_ (i := 18) (N := some 79) (v := ?_) (a' := ?_) #[true, true, true, true, true, true, true, true, true, true, true, true, true, true, true, true, true, true, true, false, false, false, false, false, false, false, false] rfl rfl (any_of HT_.out (by kernel_rfl)) (fun _ _ _ h => h) (Or.inl ⟨by rfl, ?_⟩) ?_ ?_; rotate_left
            ·
             intro w'; go_simp; with_reducible rfl
            rotate_left
            ·
             simp only [Act.put, List.setIfInBounds_toArray, List.set_cons_zero, List.set_cons_succ, i64_w, i32_w]; rfl
            refine pure_ (i := 19) (N := some 80) (v := ?_) (a' := ?_) #[true, true, true, true, true, true, true, true, true, true, true, true, true, true, true, true, true, true, true, true, false, false, false, false, false, false, false] rfl rfl (any_of HT_.out (by kernel_rfl)) (fun _ _ _ h => h) (Or.inl ⟨by rfl, ?_⟩) ?_ ?_; rotate_left
            ·
             intro w'; go_simp; with_reducible rfl
            rotate_left
            ·
             simp only [Act.put, List.setIfInBounds_toArray, List.set_cons_zero, List.set_cons_succ, i64_w, i32_w]; rfl
            refine pure_ (i := 20) (N := some 81) (v := ?_) (a' := ?_) #[true, true, true, true, true, true, true, true, true, true, true, true, true, true, true, true, true, true, true, true, true, false, false, false, false, false, false] rfl rfl (any_of HT_.out (by kernel_rfl)) (fun _ _ _ h => h) (Or.inl ⟨by rfl, ?_⟩) ?_ ?_; rotate_left
            ·
             intro w'; go_simp; with_reducible rfl
            rotate_left
            ·
             simp only [Act.put, List.setIfInBounds_toArray, List.set_cons_zero, List.set_cons_succ, i64_w, i32_w]; rfl
            refine pure_ (i := 21) (N := some 82) (v := ?_) (a' := ?_) #[true, true, true, true, true, true, true, true, true, true, true, true, true, true, true, true, true, true, true, true, true, true, false, false, false, false, false] rfl rfl (any_of HT_.out (by kernel_rfl)) (fun _ _ _ h => h) (Or.inl ⟨by rfl, ?_⟩) ?_ ?_; rotate_left
            ·
             intro w'; go_simp; with_reducible rfl
            rotate_left
            ·
             simp only [Act.put, List.setIfInBounds_toArray, List.set_cons_zero, List.set_cons_succ, i64_w, i32_w]; rfl
            refine pure_ (i := 22) (N := some 83) (v := ?_) (a' := ?_) #[true, true, true, true, true, true, true, true, true, true, true, true, true, true, true, true, true, true, true, true, true, true, true, false, false, false, false] rfl rfl (any_of HT_.out (by kernel_rfl)) (fun _ _ _ h => h) (Or.inl ⟨by rfl, ?_⟩) ?_ ?_; rotate_left
            ·
             intro w'; go_simp; with_reducible rfl
            rotate_left
            ·
             simp only [Act.put, List.setIfInBounds_toArray, List.set_cons_zero, List.set_cons_succ, i64_w, i32_w]; rfl
            refine pure_ (i := 23) (N := some 84) (v := ?_) (a' := ?_) #[true, true, true, true, true, true, true, true, true, true, true, true, true, true, true, true, true, true, true, true, true, true, true, true, false, false, false] rfl rfl (any_of HT_.out (by kernel_rfl)) (fun _ _ _ h => h) (Or.inl ⟨by rfl, ?_⟩) ?_ ?_; rotate_left
            ·
             intro w'; go_simp; with_reducible rfl
            rotate_left
            ·
             simp only [Act.put, List.setIfInBounds_toArray, List.set_cons_zero, List.set_cons_succ, i64_w, i32_w]; rfl
            refine one_ (i := 24) (N := some 85) #[true, true, true, true, true, true, true, true, true, true, true, true, true, true, true, true, true, true, true, true, true, true, true, true, true, false, false] rfl rfl (one_of HT_.out (by kernel_rfl)) (by decide) (fun K hK => ?_); refine goes_ Try.func19 (by kernel_rfl) rfl #[] (by rfl) rfl rfl (by (try simp only [List.map_toArray, List.map_cons, List.map_nil]); first | done | rfl | (simp only [List.length_drop, List.length_take]; rfl)) ?_; with_reducible refine (bellpulllaw04_lives.calls kj28  t640 _ A51.out).mono ?_
            rintro e w55 ⟨rfl, hb⟩; have HS4_ := (hb.cell (World.block_lt_of_cell? _ _ (hHeld.2.2.2.2.1))).trans (hHeld.2.2.2.2.1); have HS5_ := (hb.cell (World.block_lt_of_cell? _ _ (hHeld.2.2.2.2.2.1))).trans (hHeld.2.2.2.2.2.1); have HS6_ := (hb.cell (World.block_lt_of_cell? _ _ (hHeld.2.2.2.2.2.2.1))).trans (hHeld.2.2.2.2.2.2.1); have HS7_ := (hb.cell (World.block_lt_of_cell? _ _ (hHeld.2.2.2.2.2.2.2))).trans (hHeld.2.2.2.2.2.2.2); refine ⟨_, rfl, ?_⟩; replace HO635 := rbl HO635 hb; replace BK615 := bkb BK615 hb; replace BK629 := bkb BK629 hb; replace HB := bst HB hb; (try clear hb); refine hK.out _ _ ⟨(blk_cell BK629.out 0).trans rfl, (blk_cell BK629.out 1).trans rfl, (blk_cell BK629.out 2).trans rfl, (blk_cell BK629.out 3).trans rfl, HS4_, HS5_, HS6_, HS7_⟩ (fun hHeld => ?_); clear hK K; refine norm_ (a' := ?_) ?_ ?_; rotate_left
            ·
             show Act.put _ (some 85) _ = _; simp only [Act.put, List.setIfInBounds_toArray, List.set_cons_zero, List.set_cons_succ, i64_w, i32_w]; rfl
            refine pure_ (i := 25) (N := some 86) (v := ?_) (a' := ?_) #[true, true, true, true, true, true, true, true, true, true, true, true, true, true, true, true, true, true, true, true, true, true, true, true, true, true, false] rfl rfl (any_of HT_.out (by kernel_rfl)) (fun _ _ _ h => h) (Or.inl ⟨by rfl, ?_⟩) ?_ ?_; rotate_left
            ·
             intro w'; go_simp; with_reducible rfl
            rotate_left
            ·
             simp only [Act.put, List.setIfInBounds_toArray, List.set_cons_zero, List.set_cons_succ, i64_w, i32_w]; rfl
            refine pure_ (i := 26) (N := some 4) (v := ?_) (a' := ?_) #[true, true, true, true, true, true, true, true, true, true, true, true, true, true, true, true, true, true, true, true, true, true, true, true, true, true, true] rfl rfl (any_of HT_.out (by kernel_rfl)) (fun _ _ _ h => h) (Or.inl ⟨by rfl, ?_⟩) ?_ ?_; rotate_left
            ·
             intro w'; go_simp; with_reducible rfl
            rotate_left
            ·
             simp only [Act.put, List.setIfInBounds_toArray, List.set_cons_zero, List.set_cons_succ, i64_w, i32_w]; rfl
            refine done_ (done_of HT_.out (by kernel_rfl)) ?_; try go_wp2
            go_ret; exact ⟨by first | rfl | (simp [errW_none, errW_some] <;> rfl) | (simp [*, errW_none, errW_some] <;> rfl), by repeat (first | (with_reducible first | exact HB.out | apply below_alloc | apply pw_below_drewN | apply below_drew1 | refine below_set ?_ GE615.out | refine below_set ?_ GE629.out) | exact HB.out)⟩
           ·
            rw [if_neg c50] at H; exact absurd H (by simp)
          ·
           rw [if_neg c49] at H; exact absurd H (by simp)
         ·
          rw [if_neg c48] at H; exact absurd H (by simp)
        ·
         rw [if_neg c47] at H; exact absurd H (by simp)
       ·
        rw [if_neg c46] at H; exact absurd H (by simp)
      ·
       rw [if_neg c45] at H; exact absurd H (by simp)
end Go.Proofs.Ytgfnmimfoicmmaa.PM
