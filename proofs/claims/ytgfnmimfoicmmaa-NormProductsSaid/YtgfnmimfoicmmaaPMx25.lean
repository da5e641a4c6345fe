-- Written by pr2.py, a program of this session's, for this claim (through the kit's print).
import Derived.Test.YtgfnmimfoicmmaaPMx0
import Derived.Test.YtgfnmimfoicmmaaPMx1
import Derived.Test.YtgfnmimfoicmmaaPMx7
import Derived.Test.YtgfnmimfoicmmaaPMx20
import Derived.Test.YtgfnmimfoicmmaaPMx21
import Derived.Test.YtgfnmimfoicmmaaPMx22
import Derived.Test.YtgfnmimfoicmmaaPMx23
import Derived.Test.YtgfnmimfoicmmaaPMx24
namespace Go.Proofs.Ytgfnmimfoicmmaa.PM
open Go.Proofs.MyWords Go.RowKit Go.Proofs.YtgfnmimfoicmmaaW.PrintWords Go.Proofs.YtgfnmimfoicmmaaW.PrintLast Go.Proofs.YtgfnmimfoicmmaaW.PrintMore
attribute [local go_sem] max2_int min2_int max_two min_two max_three min_three max_four min_four   -- for this text's walks alone
set_option linter.unusedVariables false
set_option linter.unusedSimpArgs false

attribute [local go_sem] idx67_0 idx67_1 idx67_2 idx67_3
attribute [local go_sem] eqGuard_slices eqlnil36 neqnil36
attribute [local go_sem high] eqA23
/-! ### bellpulllaw04_NormProducts: function 12 -/
def bellpulllaw04_NormProducts.j0 : Nat → Int → Int → Int → Int → Int → Int → Int → Int → Int → Int → Int → Int → Int → Option (Bool)
  | 0, _, _, _, _, _, _, _, _, _, _, _, _, _ => none
  | k + 1, x6, x531000, x531001, x531002, x531003, x532000, x532001, x532002, x532003, x538000, x538001, x538002, x538003 => (bellpullref04_Check.f k (([(⟨x531000, x531001, x531002, x531003⟩ : S23), (⟨x532000, x532001, x532002, x532003⟩ : S23)] : List (S23)))).bind fun t558 => (if t558 = 0 then ((bellpullref04_Mul.f x531000 x531001 x531002 x531003 x532000 x532001 x532002 x532003).bind fun bt559 => (if (x538000 == bt559.1 && (x538001 == bt559.2.1 && (x538002 == bt559.2.2.1 && (x538003 == bt559.2.2.2)))) = true then (if x6 = 0 then ((bellpulllaw04_lives.f k).bind fun t563 => (some t563)) else (none)) else (none))) else (if (x538000 == 0 && (x538001 == 0 && (x538002 == 0 && (x538003 == 0)))) = true then (if x6 = t558 then ((bellpulllaw04_lives.f k).bind fun t564 => (some t564)) else (none)) else (none)))
def bellpulllaw04_NormProducts.f (k : Nat) (a0_0 : Int) (a0_1 : Int) (a0_2 : Int) (a0_3 : Int) (a1_0 : Int) (a1_1 : Int) (a1_2 : Int) (a1_3 : Int) : Option (Bool) := (norm_Mul.f k a0_0 a0_1 a0_2 a0_3 a1_0 a1_1 a1_2 a1_3).bind fun bt532 => ((norm_Conj.f k a0_0 a0_1 a0_2 a0_3).bind fun bt538 => ((norm_Norm.f k a0_0 a0_1 a0_2 a0_3).bind fun bt544 => ((bellpullref04_Check.f k (([(⟨a0_0, a0_1, a0_2, a0_3⟩ : S23)] : List (S23)))).bind fun t549 => (if t549 = 0 then ((bellpullref04_Conj.f a0_0 a0_1 a0_2 a0_3).bind fun bt550 => (if (!(bt538.1 == bt550.1) || (!(bt538.2.1 == bt550.2.1) || (!(bt538.2.2.1 == bt550.2.2.1) || (!(bt538.2.2.2.1 == bt550.2.2.2))))) = true then (none) else ((bellpullref04_Norm.f a0_0 a0_1 a0_2 a0_3).bind fun t554 => (if bt544.1 = t554 then (if bt538.2.2.2.2 = 0 then (if bt544.2 = 0 then (bellpulllaw04_NormProducts.j0 k bt532.2.2.2.2 a0_0 a0_1 a0_2 a0_3 a1_0 a1_1 a1_2 a1_3 bt532.1 bt532.2.1 bt532.2.2.1 bt532.2.2.2.1) else (none)) else (none)) else (none))))) else (if (!(bt538.1 == 0) || (!(bt538.2.1 == 0) || (!(bt538.2.2.1 == 0) || (!(bt538.2.2.2.1 == 0))))) = true then (none) else (if bt544.1 = 0 then (if bt538.2.2.2.2 = t549 then (if bt544.2 = t549 then (bellpulllaw04_NormProducts.j0 k bt532.2.2.2.2 a0_0 a0_1 a0_2 a0_3 a1_0 a1_1 a1_2 a1_3 bt532.1 bt532.2.1 bt532.2.2.1 bt532.2.2.2.1) else (none)) else (none)) else (none)))))))
theorem bellpulllaw04_NormProducts.mono_l : ∀ k, (∀ y0 y1 y2 y3 y4 y5 y6 y7 y8 y9 y10 y11 y12, LeO (bellpulllaw04_NormProducts.j0 k y0 y1 y2 y3 y4 y5 y6 y7 y8 y9 y10 y11 y12) (bellpulllaw04_NormProducts.j0 (k + 1) y0 y1 y2 y3 y4 y5 y6 y7 y8 y9 y10 y11 y12))
  | 0 => fun _ _ _ _ _ _ _ _ _ _ _ _ _ r h => by simp [bellpulllaw04_NormProducts.j0] at h
  | k + 1 => by
    have ih0 := bellpulllaw04_NormProducts.mono_l k
    · intro y0 y1 y2 y3 y4 y5 y6 y7 y8 y9 y10 y11 y12
      unfold bellpulllaw04_NormProducts.j0
      repeat' first
      | (with_reducible exact ih0 _ _ _ _ _ _ _ _ _ _ _ _ _)
      | (with_reducible exact bellpulllaw04_lives.mono _)
      | (with_reducible exact bellpullref04_Check.mono _ _)
      | (with_reducible exact norm_Conj.mono _ _ _ _ _)
      | (with_reducible exact norm_Mul.mono _ _ _ _ _ _ _ _ _)
      | (with_reducible exact norm_Norm.mono _ _ _ _ _)
      | (with_reducible exact LeO.refl _)
      | (with_reducible exact LeO.none _)
      | (with_reducible refine LeO.ite ?_ ?_)
      | (with_reducible refine LeO.bind ?_ (fun _ => ?_))
      | exact ih0 _ _ _ _ _ _ _ _ _ _ _ _ _
      | exact bellpulllaw04_lives.mono _
      | exact bellpullref04_Check.mono _ _
      | exact norm_Conj.mono _ _ _ _ _
      | exact norm_Mul.mono _ _ _ _ _ _ _ _ _
      | exact norm_Norm.mono _ _ _ _ _
      | exact LeO.none _
      | refine LeO.ite ?_ ?_
      | refine LeO.bind ?_ (fun _ => ?_)
theorem bellpulllaw04_NormProducts.mono : ∀ a0 a1 a2 a3 a4 a5 a6 a7 k, LeO (bellpulllaw04_NormProducts.f k a0 a1 a2 a3 a4 a5 a6 a7) (bellpulllaw04_NormProducts.f (k + 1) a0 a1 a2 a3 a4 a5 a6 a7) := by
  intro a0 a1 a2 a3 a4 a5 a6 a7 k
  have ih0 := bellpulllaw04_NormProducts.mono_l k
  unfold bellpulllaw04_NormProducts.f
  repeat' first
      | (with_reducible exact ih0 _ _ _ _ _ _ _ _ _ _ _ _ _)
      | (with_reducible exact bellpulllaw04_lives.mono _)
      | (with_reducible exact bellpullref04_Check.mono _ _)
      | (with_reducible exact norm_Conj.mono _ _ _ _ _)
      | (with_reducible exact norm_Mul.mono _ _ _ _ _ _ _ _ _)
      | (with_reducible exact norm_Norm.mono _ _ _ _ _)
      | (with_reducible exact LeO.refl _)
      | (with_reducible exact LeO.none _)
      | (with_reducible refine LeO.ite ?_ ?_)
      | (with_reducible refine LeO.bind ?_ (fun _ => ?_))
      | exact ih0 _ _ _ _ _ _ _ _ _ _ _ _ _
      | exact bellpulllaw04_lives.mono _
      | exact bellpullref04_Check.mono _ _
      | exact norm_Conj.mono _ _ _ _ _
      | exact norm_Mul.mono _ _ _ _ _ _ _ _ _
      | exact norm_Norm.mono _ _ _ _ _
      | exact LeO.none _
      | refine LeO.ite ?_ ?_
      | refine LeO.bind ?_ (fun _ => ?_)
def bellpulllaw04_NormProducts.T8 : Bool × List (List Nat × List Nat) := (true, [([], []), ([], []), ([1], [1]), ([0, 2], [0, 2]), ([3, 2], [3]), ([4], [4]), ([4], [4]), ([6, 4, 4], [4, 6]), ([5, 7, 4], [4, 5, 7]), ([4, 8], [4, 8]), ([9, 7], [9]), ([10], [10]), ([11, 10], [10, 11]), ([10, 12], [10, 12]), ([13, 10], [13]), ([14], [14]), ([15, 14], [14, 15]), ([14, 16], [14, 16])])
def bellpulllaw04_NormProducts.B8 : List Nat := [0, 0, 2, 7, 15, 31, 31, 95, 255, 511, 1023, 2047, 4095, 8191, 16383, 32767, 65535, 131071]
theorem bellpulllaw04_NormProducts.tab8 : rtab .any (opsOf Try.f12 8) = bellpulllaw04_NormProducts.T8 := by kernel_rfl
theorem bellpulllaw04_NormProducts.bits8 : waitsOk bellpulllaw04_NormProducts.T8.2 bellpulllaw04_NormProducts.B8 = true := by kernel_rfl
def bellpulllaw04_NormProducts.T13 : Bool × List (List Nat × List Nat) := (true, [([], []), ([], []), ([], []), ([1, 2], [1, 2]), ([0, 3], [0, 3]), ([4, 3], [4]), ([5], [5]), ([6, 5], [5, 6]), ([5, 7], [5, 7]), ([8, 5], [8]), ([9, 9], [9]), ([9, 10], [9, 10]), ([11, 10, 0, 1, 2, 3, 4, 5, 6, 7, 8, 9, 10, 11], [11])])
def bellpulllaw04_NormProducts.B13 : List Nat := [0, 0, 0, 6, 15, 31, 63, 127, 255, 511, 1023, 2047, 4095]
theorem bellpulllaw04_NormProducts.tab13 : rtab .any (opsOf Try.f12 13) = bellpulllaw04_NormProducts.T13 := by kernel_rfl
theorem bellpulllaw04_NormProducts.bits13 : waitsOk bellpulllaw04_NormProducts.T13.2 bellpulllaw04_NormProducts.B13 = true := by kernel_rfl
set_option maxHeartbeats 8000000 in
set_option maxRecDepth 100000 in
theorem bellpulllaw04_NormProducts.calls (k : Nat) (a0_0 : Int) (a0_1 : Int) (a0_2 : Int) (a0_3 : Int) (a1_0 : Int) (a1_1 : Int) (a1_2 : Int) (a1_3 : Int) (r : Bool) (w : World) (h : bellpulllaw04_NormProducts.f k a0_0 a0_1 a0_2 a0_3 a1_0 a1_1 a1_2 a1_3 = some r) :
    Calls Try.prog 12 #[.agg #[.int .i64 a0_0, .int .i64 a0_1, .int .i64 a0_2, .int .i64 a0_3], .agg #[.int .i64 a1_0, .int .i64 a1_1, .int .i64 a1_2, .int .i64 a1_3]] w fun e w' => e = .returned (.bool r) ∧ Below w.heap.size w w' := by
 have hu23 := Try.underlying23; have HB := mk0 (Below.refl w.heap.size w); have H : ((norm_Mul.f k a0_0 a0_1 a0_2 a0_3 a1_0 a1_1 a1_2 a1_3).bind fun bt532 => ((norm_Conj.f k a0_0 a0_1 a0_2 a0_3).bind fun bt538 => ((norm_Norm.f k a0_0 a0_1 a0_2 a0_3).bind fun bt544 => ((bellpullref04_Check.f k (([(⟨a0_0, a0_1, a0_2, a0_3⟩ : S23)] : List (S23)))).bind fun t549 => (if t549 = 0 then ((bellpullref04_Conj.f a0_0 a0_1 a0_2 a0_3).bind fun bt550 => (if (!(bt538.1 == bt550.1) || (!(bt538.2.1 == bt550.2.1) || (!(bt538.2.2.1 == bt550.2.2.1) || (!(bt538.2.2.2.1 == bt550.2.2.2))))) = true then (none) else ((bellpullref04_Norm.f a0_0 a0_1 a0_2 a0_3).bind fun t554 => (if bt544.1 = t554 then (if bt538.2.2.2.2 = 0 then (if bt544.2 = 0 then (bellpulllaw04_NormProducts.j0 k bt532.2.2.2.2 a0_0 a0_1 a0_2 a0_3 a1_0 a1_1 a1_2 a1_3 bt532.1 bt532.2.1 bt532.2.2.1 bt532.2.2.2.1) else (none)) else (none)) else (none))))) else (if (!(bt538.1 == 0) || (!(bt538.2.1 == 0) || (!(bt538.2.2.1 == 0) || (!(bt538.2.2.2.1 == 0))))) = true then (none) else (if bt544.1 = 0 then (if bt538.2.2.2.2 = t549 then (if bt544.2 = t549 then (bellpulllaw04_NormProducts.j0 k bt532.2.2.2.2 a0_0 a0_1 a0_2 a0_3 a1_0 a1_1 a1_2 a1_3 bt532.1 bt532.2.1 bt532.2.2.1 bt532.2.2.2.1) else (none)) else (none)) else (none)))))))) = some r := h; clear h; replace H := Option.bind_eq_some_iff.mp H; obtain ⟨⟨t532, t533, t534, t535, t536⟩, A30, H⟩ := H; (try dsimp only at H); have A3 := mk0 A30; clear A30; replace H := Option.bind_eq_some_iff.mp H; obtain ⟨⟨t538, t539, t540, t541, t542⟩, A40, H⟩ := H; (try dsimp only at H); have A4 := mk0 A40; clear A40; replace H := Option.bind_eq_some_iff.mp H; obtain ⟨⟨t544, t545⟩, A50, H⟩ := H; (try dsimp only at H); have A5 := mk0 A50; clear A50; obtain ⟨y546, hy546⟩ : ∃ y_ : List (S23), y_ = (([(⟨a0_0, a0_1, a0_2, a0_3⟩ : S23)] : List (S23))) := ⟨_, rfl⟩
 replace H : ((bellpullref04_Check.f k y546).bind fun t549 => (if t549 = 0 then ((bellpullref04_Conj.f a0_0 a0_1 a0_2 a0_3).bind fun bt550 => (if (!(t538 == bt550.1) || (!(t539 == bt550.2.1) || (!(t540 == bt550.2.2.1) || (!(t541 == bt550.2.2.2))))) = true then (none) else ((bellpullref04_Norm.f a0_0 a0_1 a0_2 a0_3).bind fun t554 => (if t544 = t554 then (if t542 = 0 then (if t545 = 0 then (bellpulllaw04_NormProducts.j0 k t536 a0_0 a0_1 a0_2 a0_3 a1_0 a1_1 a1_2 a1_3 t532 t533 t534 t535) else (none)) else (none)) else (none))))) else (if (!(t538 == 0) || (!(t539 == 0) || (!(t540 == 0) || (!(t541 == 0))))) = true then (none) else (if t544 = 0 then (if t542 = t549 then (if t545 = t549 then (bellpulllaw04_NormProducts.j0 k t536 a0_0 a0_1 a0_2 a0_3 a1_0 a1_1 a1_2 a1_3 t532 t533 t534 t535) else (none)) else (none)) else (none))))) = some r := by first | (rw [hy546]; with_reducible exact H) | (have H2_ := (Option.bind_some _ _).symm.trans H; rw [hy546]; with_reducible exact H2_) | (have H2_ := (Option.bind_some _ _).symm.trans H; with_reducible exact H2_) | with_reducible exact H | (rw [hy546]; exact H) | exact H
 have Ny546 := mk0 hy546; clear hy546; replace H := Option.bind_eq_some_iff.mp H; obtain ⟨t549, A60, H⟩ := H; (try dsimp only at H); have A6 := mk0 A60; clear A60; have HC7 := mk0 H; clear H; go_enter Try.func12, Try.ntmps12; go_upto_if 33 with (first | ((with_reducible refine gate_dst (N := 2) rfl ?_); refine box_event ?hg (N := 2) ?hd (cs := #[.int .i64 a0_0, .int .i64 a0_1, .int .i64 a0_2, .int .i64 a0_3]) (t := 23) ?hr ?_; (case hd => rfl); (case hg => rfl); (case hr => first | (go_simp; done) | (go_simp; rfl)); intro gb530 hg w8 hbox hb; have BK530 := mk0 (hbox); have GW530 := szw hg HB; have GE530 := GW530; replace HB := bst HB hb; clear hb hbox hg) | ((with_reducible refine gate_dst (N := 3) rfl ?_); refine box_event ?hg (N := 3) ?hd (cs := #[.int .i64 a1_0, .int .i64 a1_1, .int .i64 a1_2, .int .i64 a1_3]) (t := 23) ?hr ?_; (case hd => rfl); (case hg => rfl); (case hr => first | (go_simp; done) | (go_simp; rfl)); intro gb531 hg w9 hbox hb; have BK531 := mk0 (hbox); have GW531 := szw hg HB; have GE531 := GW531; have NB530_531 := nlt hg BK530; have NB531_530 := ngt hg BK530; replace BK530 := bkb BK530 hb; replace HB := bst HB hb; clear hb hbox hg; have hnb10 := NB530_531.out; have hnc10 := NB531_530.out; have hcz11_0 : w9.cell? ⟨gb530, 0, none⟩ = some (.int .i64 a0_0) := (blk_cell BK530.out 0).trans rfl; have hcz11_1 : w9.cell? ⟨gb530, 1, none⟩ = some (.int .i64 a0_1) := (blk_cell BK530.out 1).trans rfl; have hcz11_2 : w9.cell? ⟨gb530, 2, none⟩ = some (.int .i64 a0_2) := (blk_cell BK530.out 2).trans rfl; have hcz11_3 : w9.cell? ⟨gb530, 3, none⟩ = some (.int .i64 a0_3) := (blk_cell BK530.out 3).trans rfl; have hfz11_0 := blk_frozen BK530.out 0; have hfz11_1 := blk_frozen BK530.out 1; have hfz11_2 := blk_frozen BK530.out 2; have hfz11_3 := blk_frozen BK530.out 3; have hcz12_0 : w9.cell? ⟨gb531, 0, none⟩ = some (.int .i64 a1_0) := (blk_cell BK531.out 0).trans rfl; have hcz12_1 : w9.cell? ⟨gb531, 1, none⟩ = some (.int .i64 a1_1) := (blk_cell BK531.out 1).trans rfl; have hcz12_2 : w9.cell? ⟨gb531, 2, none⟩ = some (.int .i64 a1_2) := (blk_cell BK531.out 2).trans rfl; have hcz12_3 : w9.cell? ⟨gb531, 3, none⟩ = some (.int .i64 a1_3) := (blk_cell BK531.out 3).trans rfl; have hfz12_0 := blk_frozen BK531.out 0; have hfz12_1 := blk_frozen BK531.out 1; have hfz12_2 := blk_frozen BK531.out 2; have hfz12_3 := blk_frozen BK531.out 3) | ((with_reducible refine gate_callee (f := 38) rfl ?_); refine goesL_ (some 16) rfl rfl Try.func38 (by kernel_rfl) rfl #[.agg #[.int .i64 a0_0, .int .i64 a0_1, .int .i64 a0_2, .int .i64 a0_3], .agg #[.int .i64 a1_0, .int .i64 a1_1, .int .i64 a1_2, .int .i64 a1_3]] rfl (by (try simp only [List.map_toArray, List.map_cons, List.map_nil]); first | done | rfl | (simp only [List.length_drop, List.length_take]; rfl)) ?_; (with_reducible refine (norm_Mul.calls k a0_0 a0_1 a0_2 a0_3 a1_0 a1_1 a1_2 a1_3 t532 t533 t534 t535 t536 _ A3.out).mono ?_); rintro e w13 ⟨rfl, hb⟩; refine ⟨_, rfl, ?_⟩; replace BK530 := bkb BK530 hb; replace BK531 := bkb BK531 hb; replace HB := bst HB hb; (try clear hb); (try clear hk)) | ((with_reducible refine gate_dst (N := 5) rfl ?_); refine box_event ?hg (N := 5) ?hd (cs := #[.int .i64 0, .int .i64 0, .int .i64 0, .int .i64 0]) (t := 23) ?hr ?_; (case hd => rfl); (case hg => rfl); (case hr => first | (go_simp; done) | (go_simp; rfl)); intro gb537 hg w14 hbox hb; have BK537 := mk0 (hbox); have GW537 := szw hg HB; have GE537 := GW537; have NB530_537 := nlt hg BK530; have NB537_530 := ngt hg BK530; have NB531_537 := nlt hg BK531; have NB537_531 := ngt hg BK531; replace BK530 := bkb BK530 hb; replace BK531 := bkb BK531 hb; replace HB := bst HB hb; clear hb hbox hg; have hnb15 := NB537_530.out; have hnc15 := NB530_537.out; have hnb16 := NB537_531.out; have hnc16 := NB531_537.out; have hcz17_0 : w14.cell? ⟨gb537, 0, none⟩ = some (.int .i64 0) := (blk_cell BK537.out 0).trans rfl; have hcz17_1 : w14.cell? ⟨gb537, 1, none⟩ = some (.int .i64 0) := (blk_cell BK537.out 1).trans rfl; have hcz17_2 : w14.cell? ⟨gb537, 2, none⟩ = some (.int .i64 0) := (blk_cell BK537.out 2).trans rfl; have hcz17_3 : w14.cell? ⟨gb537, 3, none⟩ = some (.int .i64 0) := (blk_cell BK537.out 3).trans rfl; have hfz17_0 := blk_frozen BK537.out 0; have hfz17_1 := blk_frozen BK537.out 1; have hfz17_2 := blk_frozen BK537.out 2; have hfz17_3 := blk_frozen BK537.out 3; have hcz18_0 : w14.cell? ⟨gb530, 0, none⟩ = some (.int .i64 a0_0) := (blk_cell BK530.out 0).trans rfl; have hcz18_1 : w14.cell? ⟨gb530, 1, none⟩ = some (.int .i64 a0_1) := (blk_cell BK530.out 1).trans rfl; have hcz18_2 : w14.cell? ⟨gb530, 2, none⟩ = some (.int .i64 a0_2) := (blk_cell BK530.out 2).trans rfl; have hcz18_3 : w14.cell? ⟨gb530, 3, none⟩ = some (.int .i64 a0_3) := (blk_cell BK530.out 3).trans rfl; have hfz18_0 := blk_frozen BK530.out 0; have hfz18_1 := blk_frozen BK530.out 1; have hfz18_2 := blk_frozen BK530.out 2; have hfz18_3 := blk_frozen BK530.out 3) | ((with_reducible refine gate_callee (f := 39) rfl ?_); refine goesL_ (some 21) rfl rfl Try.func39 (by kernel_rfl) rfl #[.agg #[.int .i64 a0_0, .int .i64 a0_1, .int .i64 a0_2, .int .i64 a0_3]] rfl (by (try simp only [List.map_toArray, List.map_cons, List.map_nil]); first | done | rfl | (simp only [List.length_drop, List.length_take]; rfl)) ?_; (with_reducible refine (norm_Conj.calls k a0_0 a0_1 a0_2 a0_3 t538 t539 t540 t541 t542 _ A4.out).mono ?_); rintro e w19 ⟨rfl, hb⟩; refine ⟨_, rfl, ?_⟩; replace BK530 := mk0 (blk_below (g := gb530) (o := .cells #[.int .i64 a0_0, .int .i64 a0_1, .int .i64 a0_2, .int .i64 a0_3] 23 (0, 0)) (by (iterate 4 refine blk_far ?_ NB530_537.out _); exact BK530.out) hb); replace BK531 := mk0 (blk_below (g := gb531) (o := .cells #[.int .i64 a1_0, .int .i64 a1_1, .int .i64 a1_2, .int .i64 a1_3] 23 (0, 0)) (by (iterate 4 refine blk_far ?_ NB531_537.out _); exact BK531.out) hb); replace BK537 := mk0 (blk_below (g := gb537) (o := .cells #[.int .i64 t532, .int .i64 t533, .int .i64 t534, .int .i64 t535] 23 (0, 0)) (by refine blk_put (cs := #[.int .i64 t532, .int .i64 t533, .int .i64 t534, .int .i64 0]) ?_ 3 _ rfl; refine blk_put (cs := #[.int .i64 t532, .int .i64 t533, .int .i64 0, .int .i64 0]) ?_ 2 _ rfl; refine blk_put (cs := #[.int .i64 t532, .int .i64 0, .int .i64 0, .int .i64 0]) ?_ 1 _ rfl; refine blk_put (cs := #[.int .i64 0, .int .i64 0, .int .i64 0, .int .i64 0]) ?_ 0 _ rfl; exact BK537.out) hb); replace HB := mk0 (below_step (by repeat (with_reducible first | exact HB.out | refine below_set ?_ GE530.out | refine below_set ?_ GE531.out | refine below_set ?_ GE537.out)) hb); (try clear hb); (try clear hk)) | ((with_reducible refine gate_dst (N := 7) rfl ?_); refine box_event ?hg (N := 7) ?hd (cs := #[.int .i64 0, .int .i64 0, .int .i64 0, .int .i64 0]) (t := 23) ?hr ?_; (case hd => rfl); (case hg => rfl); (case hr => first | (go_simp; done) | (go_simp; rfl)); intro gb543 hg w20 hbox hb; have BK543 := mk0 (hbox); have GW543 := szw hg HB; have GE543 := GW543; have NB530_543 := nlt hg BK530; have NB543_530 := ngt hg BK530; have NB531_543 := nlt hg BK531; have NB543_531 := ngt hg BK531; have NB537_543 := nlt hg BK537; have NB543_537 := ngt hg BK537; replace BK530 := bkb BK530 hb; replace BK531 := bkb BK531 hb; replace BK537 := bkb BK537 hb; replace HB := bst HB hb; clear hb hbox hg; have hnb21 := NB543_530.out; have hnc21 := NB530_543.out; have hnb22 := NB543_531.out; have hnc22 := NB531_543.out; have hnb23 := NB543_537.out; have hnc23 := NB537_543.out; have hcz24_0 : w20.cell? ⟨gb543, 0, none⟩ = some (.int .i64 0) := (blk_cell BK543.out 0).trans rfl; have hcz24_1 : w20.cell? ⟨gb543, 1, none⟩ = some (.int .i64 0) := (blk_cell BK543.out 1).trans rfl; have hcz24_2 : w20.cell? ⟨gb543, 2, none⟩ = some (.int .i64 0) := (blk_cell BK543.out 2).trans rfl; have hcz24_3 : w20.cell? ⟨gb543, 3, none⟩ = some (.int .i64 0) := (blk_cell BK543.out 3).trans rfl; have hfz24_0 := blk_frozen BK543.out 0; have hfz24_1 := blk_frozen BK543.out 1; have hfz24_2 := blk_frozen BK543.out 2; have hfz24_3 := blk_frozen BK543.out 3; have hcz25_0 : w20.cell? ⟨gb530, 0, none⟩ = some (.int .i64 a0_0) := (blk_cell BK530.out 0).trans rfl; have hcz25_1 : w20.cell? ⟨gb530, 1, none⟩ = some (.int .i64 a0_1) := (blk_cell BK530.out 1).trans rfl; have hcz25_2 : w20.cell? ⟨gb530, 2, none⟩ = some (.int .i64 a0_2) := (blk_cell BK530.out 2).trans rfl; have hcz25_3 : w20.cell? ⟨gb530, 3, none⟩ = some (.int .i64 a0_3) := (blk_cell BK530.out 3).trans rfl; have hfz25_0 := blk_frozen BK530.out 0; have hfz25_1 := blk_frozen BK530.out 1; have hfz25_2 := blk_frozen BK530.out 2; have hfz25_3 := blk_frozen BK530.out 3) | ((with_reducible refine gate_callee (f := 40) rfl ?_); refine goesL_ (some 26) rfl rfl Try.func40 (by kernel_rfl) rfl #[.agg #[.int .i64 a0_0, .int .i64 a0_1, .int .i64 a0_2, .int .i64 a0_3]] rfl (by (try simp only [List.map_toArray, List.map_cons, List.map_nil]); first | done | rfl | (simp only [List.length_drop, List.length_take]; rfl)) ?_; (with_reducible refine (norm_Norm.calls k a0_0 a0_1 a0_2 a0_3 t544 t545 _ A5.out).mono ?_); rintro e w26 ⟨rfl, hb⟩; refine ⟨_, rfl, ?_⟩; replace BK530 := mk0 (blk_below (g := gb530) (o := .cells #[.int .i64 a0_0, .int .i64 a0_1, .int .i64 a0_2, .int .i64 a0_3] 23 (0, 0)) (by (iterate 4 refine blk_far ?_ NB530_543.out _); exact BK530.out) hb); replace BK531 := mk0 (blk_below (g := gb531) (o := .cells #[.int .i64 a1_0, .int .i64 a1_1, .int .i64 a1_2, .int .i64 a1_3] 23 (0, 0)) (by (iterate 4 refine blk_far ?_ NB531_543.out _); exact BK531.out) hb); replace BK537 := mk0 (blk_below (g := gb537) (o := .cells #[.int .i64 t532, .int .i64 t533, .int .i64 t534, .int .i64 t535] 23 (0, 0)) (by (iterate 4 refine blk_far ?_ NB537_543.out _); exact BK537.out) hb); replace BK543 := mk0 (blk_below (g := gb543) (o := .cells #[.int .i64 t538, .int .i64 t539, .int .i64 t540, .int .i64 t541] 23 (0, 0)) (by refine blk_put (cs := #[.int .i64 t538, .int .i64 t539, .int .i64 t540, .int .i64 0]) ?_ 3 _ rfl; refine blk_put (cs := #[.int .i64 t538, .int .i64 t539, .int .i64 0, .int .i64 0]) ?_ 2 _ rfl; refine blk_put (cs := #[.int .i64 t538, .int .i64 0, .int .i64 0, .int .i64 0]) ?_ 1 _ rfl; refine blk_put (cs := #[.int .i64 0, .int .i64 0, .int .i64 0, .int .i64 0]) ?_ 0 _ rfl; exact BK543.out) hb); replace HB := mk0 (below_step (by repeat (with_reducible first | exact HB.out | refine below_set ?_ GE530.out | refine below_set ?_ GE531.out | refine below_set ?_ GE537.out | refine below_set ?_ GE543.out)) hb); (try clear hb); (try clear hk); have hcz27_0 : w26.cell? ⟨gb530, 0, none⟩ = some (.int .i64 a0_0) := (blk_cell BK530.out 0).trans rfl; have hcz27_1 : w26.cell? ⟨gb530, 1, none⟩ = some (.int .i64 a0_1) := (blk_cell BK530.out 1).trans rfl; have hcz27_2 : w26.cell? ⟨gb530, 2, none⟩ = some (.int .i64 a0_2) := (blk_cell BK530.out 2).trans rfl; have hcz27_3 : w26.cell? ⟨gb530, 3, none⟩ = some (.int .i64 a0_3) := (blk_cell BK530.out 3).trans rfl; have hfz27_0 := blk_frozen BK530.out 0; have hfz27_1 := blk_frozen BK530.out 1; have hfz27_2 := blk_frozen BK530.out 2; have hfz27_3 := blk_frozen BK530.out 3) | ((with_reducible refine gate_dst (N := 30) rfl ?_); refine Kd.R_lit k23 _ 23 ?hg (N := 30) ?hd (xs := ([(⟨a0_0, a0_1, a0_2, a0_3⟩ : S23)] : List (S23))) (inner := [.int .i64 a0_0, .int .i64 a0_1, .int .i64 a0_2, .int .i64 a0_3]) (ok := fun _ => True) (okp := fun _ => True) ?hr ?hp (fun _ hk => hk) trivial (Below.refl _ _) (Nat.le_refl _) (by simp) ?_; (case hd => rfl); (case hg => rfl); (case hr => first | (go_simp; done) | (go_simp; rfl)); (case hp => exact (Reps.c4 (show Kd.M k23 _ _ _ (⟨a0_0, a0_1, a0_2, a0_3⟩ : S23) [.int .i64 a0_0, .int .i64 a0_1, .int .i64 a0_2, .int .i64 a0_3] from (k23_mkM _ _ _ (⟨a0_0, a0_1, a0_2, a0_3⟩ : S23) )) (Reps.none _ _))); intro v547 w28 ho29 hb hg_ hnew_; clear hg_ hnew_; (first | rw [← Ny546.out] at ho29 | (simp only [Int.reduceToNat] at ho29; rw [← Ny546.out] at ho29)); have HO548 := mk0 (Kd.R_lower (Kd.R_newB (Kd.R_newB (Kd.R_newB (Kd.R_newB ho29 (g := gb530) (o := .cells #[.int .i64 a0_0, .int .i64 a0_1, .int .i64 a0_2, .int .i64 a0_3] 23 (0, 0)) BK530.out) (g := gb531) (o := .cells #[.int .i64 a1_0, .int .i64 a1_1, .int .i64 a1_2, .int .i64 a1_3] 23 (0, 0)) BK531.out) (g := gb537) (o := .cells #[.int .i64 t532, .int .i64 t533, .int .i64 t534, .int .i64 t535] 23 (0, 0)) BK537.out) (g := gb543) (o := .cells #[.int .i64 t538, .int .i64 t539, .int .i64 t540, .int .i64 t541] 23 (0, 0)) BK543.out) (below_size HB.out)); replace BK530 := bkb BK530 hb; replace BK531 := bkb BK531 hb; replace BK537 := bkb BK537 hb; replace BK543 := bkb BK543 hb; replace HB := bst HB hb; clear hb ho29; obtain ⟨Ao30, co30, eo30⟩ := Kd.R_slice HO548.out; subst eo30) | ((with_reducible refine gate_callee (f := 18) rfl ?_); refine goesL_ (some 31) rfl rfl Try.func18 (by kernel_rfl) rfl #[.slice Ao30 y546.length co30] rfl (by (try simp only [List.map_toArray, List.map_cons, List.map_nil]); first | done | rfl | (simp only [List.length_drop, List.length_take]; rfl)) ?_; (with_reducible refine (bellpullref04_Check.calls k _ _ y546 t549 _ ?side1 ?side2 A6.out).mono ?_); (case side1 => repeat (first | exact (Kd.R_reads' HO548.out).2.2 | (with_reducible refine Kd.C_alloc ?_ _) | (with_reducible refine Kd.C_drewN ?_ _) | (with_reducible refine Kd.C_drew ?_))); (case side2 => exact (Kd.R_reads' HO548.out).2.1); rintro e w31 ⟨rfl, hb⟩; refine ⟨_, rfl, ?_⟩; replace HO548 := rbl HO548 hb; replace BK530 := bkb BK530 hb; replace BK531 := bkb BK531 hb; replace BK537 := bkb BK537 hb; replace BK543 := bkb BK543 hb; replace HB := bst HB hb; (try clear hb); (try clear hk)))
 (try simp only [Act.put, List.setIfInBounds_toArray, List.set_cons_zero, List.set_cons_succ])
 go_cut [] (fun wc => ∃ (kq : Nat), Aside0 (bellpulllaw04_NormProducts.j0 kq t536 a0_0 a0_1 a0_2 a0_3 a1_0 a1_1 a1_2 a1_3 t532 t533 t534 t535 = some r) ∧ Aside0 (kq ≤ k) ∧ Aside0 (wc.heap[gb530]? = some (.cells #[.int .i64 a0_0, .int .i64 a0_1, .int .i64 a0_2, .int .i64 a0_3] 23 (0, 0))) ∧ Aside0 (wc.heap[gb531]? = some (.cells #[.int .i64 a1_0, .int .i64 a1_1, .int .i64 a1_2, .int .i64 a1_3] 23 (0, 0))) ∧ Aside0 (wc.heap[gb537]? = some (.cells #[.int .i64 t532, .int .i64 t533, .int .i64 t534, .int .i64 t535] 23 (0, 0))) ∧ Aside0 (wc.heap[gb543]? = some (.cells #[.int .i64 t538, .int .i64 t539, .int .i64 t540, .int .i64 t541] 23 (0, 0))) ∧ Aside0 (Below w.heap.size w wc))
 case first =>
  have H := HC7.out; clear HC7
  by_cases c32 : t549 = 0
  ·
   rw [if_pos c32] at H; have c32b0 : (t549 == 0) = true := beq_iff_eq.mpr c32; have c32b1 : (t549 != 0) = false := bne_eq_false_iff_eq.mpr c32; clear c32; (first | rw [c32b0] | (simp only [i64_w, i32_w]; rw [c32b0]) | skip); replace H := Option.bind_eq_some_iff.mp H; obtain ⟨⟨t550, t551, t552, t553⟩, A330, H⟩ := H; (try dsimp only at H); have A33 := mk0 A330; clear A330
   by_cases c34 : (!(t538 == t550) || (!(t539 == t551) || (!(t540 == t552) || (!(t541 == t553))))) = true
   ·
    rw [if_pos c34] at H; exact absurd H (by simp)
   ·
    rw [if_neg c34] at H; have c34b0 : (!(t538 == t550) || (!(t539 == t551) || (!(t540 == t552) || (!(t541 == t553))))) = false := by simpa using c34
    clear c34; replace H := Option.bind_eq_some_iff.mp H; obtain ⟨t554, A350, H⟩ := H; (try dsimp only at H); have A35 := mk0 A350; clear A350
    by_cases c36 : t544 = t554
    ·
     rw [if_pos c36] at H; have c36b0 : (t544 == t554) = true := beq_iff_eq.mpr c36; have c36b1 : (t544 != t554) = false := bne_eq_false_iff_eq.mpr c36; clear c36
     by_cases c37 : t542 = 0
     ·
      rw [if_pos c37] at H; have c37b0 : (t542 == 0) = true := beq_iff_eq.mpr c37; have c37b1 : (t542 != 0) = false := bne_eq_false_iff_eq.mpr c37; clear c37
      by_cases c38 : t545 = 0
      ·
       rw [if_pos c38] at H; have c38b0 : (t545 == 0) = true := beq_iff_eq.mpr c38; have c38b1 : (t545 != 0) = false := bne_eq_false_iff_eq.mpr c38; clear c38; have H' := mk0 H; clear H; try go_wp2
       replace HO548 := rdr HO548; replace BK530 := bdr BK530; replace BK531 := bdr BK531; replace BK537 := bdr BK537; replace BK543 := bdr BK543; replace HB := hdr HB; refine start_ (n := 18) (S := fun w' => w'.cell? ⟨gb543, 0, none⟩ = some (.int .i64 t538) ∧ w'.cell? ⟨gb543, 1, none⟩ = some (.int .i64 t539) ∧ w'.cell? ⟨gb543, 2, none⟩ = some (.int .i64 t540) ∧ w'.cell? ⟨gb543, 3, none⟩ = some (.int .i64 t541) ∧ w'.cell? ⟨gb530, 0, none⟩ = some (.int .i64 a0_0) ∧ w'.cell? ⟨gb530, 1, none⟩ = some (.int .i64 a0_1) ∧ w'.cell? ⟨gb530, 2, none⟩ = some (.int .i64 a0_2) ∧ w'.cell? ⟨gb530, 3, none⟩ = some (.int .i64 a0_3)) (ds := []) #[false, false, false, false, false, false, false, false, false, false, false, false, false, false, false, false, false, false] (by kernel_rfl) rfl rfl ⟨(blk_cell BK543.out 0).trans rfl, (blk_cell BK543.out 1).trans rfl, (blk_cell BK543.out 2).trans rfl, (blk_cell BK543.out 3).trans rfl, (blk_cell BK530.out 0).trans rfl, (blk_cell BK530.out 1).trans rfl, (blk_cell BK530.out 2).trans rfl, (blk_cell BK530.out 3).trans rfl⟩ (fun hHeld => ?_); refine with_tabW bellpulllaw04_NormProducts.tab8 bellpulllaw04_NormProducts.bits8 (fun HT_ HW_ => ?_); generalize w31.drew = w39 at HO548 BK530 BK531 BK537 BK543 HB hHeld ⊢; refine take_ (i := 0) (N := some 51) (v := ?_) (a' := ?_) #[true, false, false, false, false, false, false, false, false, false, false, false, false, false, false, false, false, false] rfl rfl (take_ofW HT_.out HW_.out (by kernel_rfl)) (fun _ _ _ h => h) (Or.inl ⟨by rfl, ?_⟩) hHeld ?_ ?_; rotate_left
       ·
        rintro w' ⟨s0, s1, s2, s3, s4, s5, s6, s7⟩; go_simp; with_reducible rfl
       rotate_left
       ·
        simp only [Act.put, List.setIfInBounds_toArray, List.set_cons_zero, List.set_cons_succ, i64_w, i32_w]; rfl
       refine take_ (i := 1) (N := some 52) (v := ?_) (a' := ?_) #[true, true, false, false, false, false, false, false, false, false, false, false, false, false, false, false, false, false] rfl rfl (take_ofW HT_.out HW_.out (by kernel_rfl)) (fun _ _ _ h => h) (Or.inl ⟨by rfl, ?_⟩) hHeld ?_ ?_; rotate_left
       ·
        rintro w' ⟨s0, s1, s2, s3, s4, s5, s6, s7⟩; go_simp; with_reducible rfl
       rotate_left
       ·
        simp only [Act.put, List.setIfInBounds_toArray, List.set_cons_zero, List.set_cons_succ, i64_w, i32_w]; rfl
       refine one_ (i := 2) (N := some 53) #[true, true, true, false, false, false, false, false, false, false, false, false, false, false, false, false, false, false] rfl rfl (one_of HT_.out (by kernel_rfl)) (by decide) (fun K hK => ?_); refine goes_ Try.func41 (by kernel_rfl) rfl #[.agg #[.int .i64 a0_0, .int .i64 a0_1, .int .i64 a0_2, .int .i64 a0_3]] (by rfl) rfl rfl (by (try simp only [List.map_toArray, List.map_cons, List.map_nil]); first | done | rfl | (simp only [List.length_drop, List.length_take]; rfl)) ?_; with_reducible refine (bellpullref04_Conj.calls a0_0 a0_1 a0_2 a0_3 t550 t551 t552 t553 _ A33.out).mono ?_
       rintro e w40 ⟨rfl, hb⟩; refine ⟨_, rfl, ?_⟩; replace HO548 := rbl HO548 hb; replace BK530 := bkb BK530 hb; replace BK531 := bkb BK531 hb; replace BK537 := bkb BK537 hb; replace BK543 := bkb BK543 hb; replace HB := bst HB hb; (try clear hb); refine hK.out _ _ ⟨(blk_cell BK543.out 0).trans rfl, (blk_cell BK543.out 1).trans rfl, (blk_cell BK543.out 2).trans rfl, (blk_cell BK543.out 3).trans rfl, (blk_cell BK530.out 0).trans rfl, (blk_cell BK530.out 1).trans rfl, (blk_cell BK530.out 2).trans rfl, (blk_cell BK530.out 3).trans rfl⟩ (fun hHeld => ?_); clear hK K; refine norm_ (a' := ?_) ?_ ?_; rotate_left
       ·
        show Act.put _ (some 53) _ = _; simp only [Act.put, List.setIfInBounds_toArray, List.set_cons_zero, List.set_cons_succ, i64_w, i32_w]; rfl
       refine pure_ (i := 3) (N := some 54) (v := ?_) (a' := ?_) #[true, true, true, true, false, false, false, false, false, false, false, false, false, false, false, false, false, false] rfl rfl (any_of HT_.out (by kernel_rfl)) (fun _ _ _ h => h) (Or.inl ⟨by rfl, ?_⟩) ?_ ?_; rotate_left
       ·
        intro w'; go_simp; with_reducible rfl
       rotate_left
       ·
        simp only [Act.put, List.setIfInBounds_toArray, List.set_cons_zero, List.set_cons_succ, i64_w, i32_w]; rfl
       refine pure_ (i := 4) (N := some 55) (v := ?_) (a' := ?_) #[true, true, true, true, true, false, false, false, false, false, false, false, false, false, false, false, false, false] rfl rfl (any_of HT_.out (by kernel_rfl)) (fun _ _ _ h => h) (Or.inl ⟨by rfl, ?_⟩) ?_ ?_; rotate_left
       ·
        intro w'; go_simp; with_reducible rfl
       rotate_left
       ·
        simp only [Act.put, List.setIfInBounds_toArray, List.set_cons_zero, List.set_cons_succ, i64_w, i32_w]; rfl
       refine pure_ (i := 5) (N := some 56) (v := ?_) (a' := ?_) #[true, true, true, true, true, true, false, false, false, false, false, false, false, false, false, false, false, false] rfl rfl (any_of HT_.out (by kernel_rfl)) (fun _ _ _ h => h) (Or.inl ⟨by rfl, ?_⟩) ?_ ?_; rotate_left
       ·
        intro w'; go_simp; with_reducible rfl
       rotate_left
       ·
        simp only [Act.put, List.setIfInBounds_toArray, List.set_cons_zero, List.set_cons_succ, i64_w, i32_w]; rfl
       refine take_ (i := 6) (N := some 57) (v := ?_) (a' := ?_) #[true, true, true, true, true, true, true, false, false, false, false, false, false, false, false, false, false, false] rfl rfl (take_ofW HT_.out HW_.out (by kernel_rfl)) (fun _ _ _ h => h) (Or.inl ⟨by rfl, ?_⟩) hHeld ?_ ?_; rotate_left
       ·
        rintro w' ⟨s0, s1, s2, s3, s4, s5, s6, s7⟩; go_simp; with_reducible rfl
       rotate_left
       ·
        simp only [Act.put, List.setIfInBounds_toArray, List.set_cons_zero, List.set_cons_succ, i64_w, i32_w]; rfl
       refine one_ (i := 7) (N := some 58) #[true, true, true, true, true, true, true, true, false, false, false, false, false, false, false, false, false, false] rfl rfl (one_of HT_.out (by kernel_rfl)) (by decide) (fun K hK => ?_); refine goes_ Try.func34 (by kernel_rfl) rfl #[.agg #[.int .i64 a0_0, .int .i64 a0_1, .int .i64 a0_2, .int .i64 a0_3]] (by rfl) rfl rfl (by (try simp only [List.map_toArray, List.map_cons, List.map_nil]); first | done | rfl | (simp only [List.length_drop, List.length_take]; rfl)) ?_; with_reducible refine (bellpullref04_Norm.calls a0_0 a0_1 a0_2 a0_3 t554 _ A35.out).mono ?_
       rintro e w41 ⟨rfl, hb⟩; refine ⟨_, rfl, ?_⟩; replace HO548 := rbl HO548 hb; replace BK530 := bkb BK530 hb; replace BK531 := bkb BK531 hb; replace BK537 := bkb BK537 hb; replace BK543 := bkb BK543 hb; replace HB := bst HB hb; (try clear hb); refine hK.out _ _ ⟨(blk_cell BK543.out 0).trans rfl, (blk_cell BK543.out 1).trans rfl, (blk_cell BK543.out 2).trans rfl, (blk_cell BK543.out 3).trans rfl, (blk_cell BK530.out 0).trans rfl, (blk_cell BK530.out 1).trans rfl, (blk_cell BK530.out 2).trans rfl, (blk_cell BK530.out 3).trans rfl⟩ (fun hHeld => ?_); clear hK K; refine norm_ (a' := ?_) ?_ ?_; rotate_left
       ·
        show Act.put _ (some 58) _ = _; simp only [Act.put, List.setIfInBounds_toArray, List.set_cons_zero, List.set_cons_succ, i64_w, i32_w]; rfl
       refine pure_ (i := 8) (N := some 59) (v := ?_) (a' := ?_) #[true, true, true, true, true, true, true, true, true, false, false, false, false, false, false, false, false, false] rfl rfl (any_of HT_.out (by kernel_rfl)) (fun _ _ _ h => h) (Or.inl ⟨by rfl, ?_⟩) ?_ ?_; rotate_left
       ·
        intro w'; go_simp; with_reducible rfl
       rotate_left
       ·
        simp only [Act.put, List.setIfInBounds_toArray, List.set_cons_zero, List.set_cons_succ, i64_w, i32_w]; rfl
       refine pure_ (i := 9) (N := some 60) (v := ?_) (a' := ?_) #[true, true, true, true, true, true, true, true, true, true, false, false, false, false, false, false, false, false] rfl rfl (any_of HT_.out (by kernel_rfl)) (fun _ _ _ h => h) (Or.inl ⟨by rfl, ?_⟩) ?_ ?_; rotate_left
       ·
        intro w'; go_simp; with_reducible rfl
       rotate_left
       ·
        simp only [Act.put, List.setIfInBounds_toArray, List.set_cons_zero, List.set_cons_succ, i64_w, i32_w]; rfl
       refine pure_ (i := 10) (N := some 61) (v := ?_) (a' := ?_) #[true, true, true, true, true, true, true, true, true, true, true, false, false, false, false, false, false, false] rfl rfl (any_of HT_.out (by kernel_rfl)) (fun _ _ _ h => h) (Or.inl ⟨by rfl, ?_⟩) ?_ ?_; rotate_left
       ·
        intro w'; go_simp; with_reducible rfl
       rotate_left
       ·
        simp only [Act.put, List.setIfInBounds_toArray, List.set_cons_zero, List.set_cons_succ, i64_w, i32_w]; rfl
       refine pure_ (i := 11) (N := some 62) (v := ?_) (a' := ?_) #[true, true, true, true, true, true, true, true, true, true, true, true, false, false, false, false, false, false] rfl rfl (any_of HT_.out (by kernel_rfl)) (fun _ _ _ h => h) (Or.inl ⟨by rfl, ?_⟩) ?_ ?_; rotate_left
       ·
        intro w'; go_simp; with_reducible rfl
       rotate_left
       ·
        simp only [Act.put, List.setIfInBounds_toArray, List.set_cons_zero, List.set_cons_succ, i64_w, i32_w]; rfl
       refine pure_ (i := 12) (N := some 63) (v := ?_) (a' := ?_) #[true, true, true, true, true, true, true, true, true, true, true, true, true, false, false, false, false, false] rfl rfl (any_of HT_.out (by kernel_rfl)) (fun _ _ _ h => h) (Or.inl ⟨by rfl, ?_⟩) ?_ ?_; rotate_left
       ·
        intro w'; go_simp; with_reducible rfl
       rotate_left
       ·
        simp only [Act.put, List.setIfInBounds_toArray, List.set_cons_zero, List.set_cons_succ, i64_w, i32_w]; rfl
       refine pure_ (i := 13) (N := some 64) (v := ?_) (a' := ?_) #[true, true, true, true, true, true, true, true, true, true, true, true, true, true, false, false, false, false] rfl rfl (any_of HT_.out (by kernel_rfl)) (fun _ _ _ h => h) (Or.inl ⟨by rfl, ?_⟩) ?_ ?_; rotate_left
       ·
        intro w'; go_simp; with_reducible rfl
       rotate_left
       ·
        simp only [Act.put, List.setIfInBounds_toArray, List.set_cons_zero, List.set_cons_succ, i64_w, i32_w]; rfl
       refine pure_ (i := 14) (N := some 65) (v := ?_) (a' := ?_) #[true, true, true, true, true, true, true, true, true, true, true, true, true, true, true, false, false, false] rfl rfl (any_of HT_.out (by kernel_rfl)) (fun _ _ _ h => h) (Or.inl ⟨by rfl, ?_⟩) ?_ ?_; rotate_left
       ·
        intro w'; go_simp; with_reducible rfl
       rotate_left
       ·
        simp only [Act.put, List.setIfInBounds_toArray, List.set_cons_zero, List.set_cons_succ, i64_w, i32_w]; rfl
       refine pure_ (i := 15) (N := some 66) (v := ?_) (a' := ?_) #[true, true, true, true, true, true, true, true, true, true, true, true, true, true, true, true, false, false] rfl rfl (any_of HT_.out (by kernel_rfl)) (fun _ _ _ h => h) (Or.inl ⟨by rfl, ?_⟩) ?_ ?_; rotate_left
       ·
        intro w'; go_simp; with_reducible rfl
       rotate_left
       ·
        simp only [Act.put, List.setIfInBounds_toArray, List.set_cons_zero, List.set_cons_succ, i64_w, i32_w]; rfl
       refine pure_ (i := 16) (N := some 67) (v := ?_) (a' := ?_) #[true, true, true, true, true, true, true, true, true, true, true, true, true, true, true, true, true, false] rfl rfl (any_of HT_.out (by kernel_rfl)) (fun _ _ _ h => h) (Or.inl ⟨by rfl, ?_⟩) ?_ ?_; rotate_left
       ·
        intro w'; go_simp; with_reducible rfl
       rotate_left
       ·
        simp only [Act.put, List.setIfInBounds_toArray, List.set_cons_zero, List.set_cons_succ, i64_w, i32_w]; rfl
       refine pure_ (i := 17) (N := some 68) (v := ?_) (a' := ?_) #[true, true, true, true, true, true, true, true, true, true, true, true, true, true, true, true, true, true] rfl rfl (any_of HT_.out (by kernel_rfl)) (fun _ _ _ h => h) (Or.inl ⟨by rfl, ?_⟩) ?_ ?_; rotate_left
       ·
        intro w'; go_simp; with_reducible rfl
       rotate_left
       ·
        simp only [Act.put, List.setIfInBounds_toArray, List.set_cons_zero, List.set_cons_succ, i64_w, i32_w]; rfl
       refine done_ (done_of HT_.out (by kernel_rfl)) ?_; try go_wp2
       go_meet
       case rel => exact ⟨_, H', ⟨by first | omega | exact Nat.le_refl _⟩, ⟨by exact BK530.out⟩, ⟨by exact BK531.out⟩, ⟨by exact BK537.out⟩, ⟨by exact BK543.out⟩, ⟨by repeat (first | (with_reducible first | exact HB.out | apply below_alloc | apply pw_below_drewN | apply below_drew1 | refine below_set ?_ GE530.out | refine below_set ?_ GE531.out | refine below_set ?_ GE537.out | refine below_set ?_ GE543.out) | exact HB.out)⟩⟩
      ·
       rw [if_neg c38] at H; exact absurd H (by simp)
     ·
      rw [if_neg c37] at H; exact absurd H (by simp)
    ·
     rw [if_neg c36] at H; exact absurd H (by simp)
  ·
   rw [if_neg c32] at H; have c32b0 : (t549 == 0) = false := beq_eq_false_iff_ne.mpr c32; have c32b1 : (t549 != 0) = true := bne_iff_ne.mpr c32; (first | rw [c32b0] | (simp only [i64_w, i32_w]; rw [c32b0]) | skip)
   by_cases c42 : (!(t538 == 0) || (!(t539 == 0) || (!(t540 == 0) || (!(t541 == 0))))) = true
   ·
    rw [if_pos c42] at H; exact absurd H (by simp)
   ·
    rw [if_neg c42] at H; have c42b0 : (!(t538 == 0) || (!(t539 == 0) || (!(t540 == 0) || (!(t541 == 0))))) = false := by simpa using c42
    clear c42
    by_cases c43 : t544 = 0
    ·
     rw [if_pos c43] at H; have c43b0 : (t544 == 0) = true := beq_iff_eq.mpr c43; have c43b1 : (t544 != 0) = false := bne_eq_false_iff_eq.mpr c43; clear c43
     by_cases c44 : t542 = t549
     ·
      rw [if_pos c44] at H; have c44b0 : (t542 == t549) = true := beq_iff_eq.mpr c44; have c44b1 : (t542 != t549) = false := bne_eq_false_iff_eq.mpr c44; clear c44
      by_cases c45 : t545 = t549
      ·
       rw [if_pos c45] at H; have c45b0 : (t545 == t549) = true := beq_iff_eq.mpr c45; have c45b1 : (t545 != t549) = false := bne_eq_false_iff_eq.mpr c45; clear c45; have H' := mk0 H; clear H; have hnb46 := NB543_530.out; have hnc46 := NB530_543.out; have hnb47 := NB543_531.out; have hnc47 := NB531_543.out; have hnb48 := NB543_537.out; have hnc48 := NB537_543.out; have hcz49_0 : w31.cell? ⟨gb543, 0, none⟩ = some (.int .i64 t538) := (blk_cell BK543.out 0).trans rfl; have hcz49_1 : w31.cell? ⟨gb543, 1, none⟩ = some (.int .i64 t539) := (blk_cell BK543.out 1).trans rfl; have hcz49_2 : w31.cell? ⟨gb543, 2, none⟩ = some (.int .i64 t540) := (blk_cell BK543.out 2).trans rfl; have hcz49_3 : w31.cell? ⟨gb543, 3, none⟩ = some (.int .i64 t541) := (blk_cell BK543.out 3).trans rfl; have hfz49_0 := blk_frozen BK543.out 0; have hfz49_1 := blk_frozen BK543.out 1; have hfz49_2 := blk_frozen BK543.out 2; have hfz49_3 := blk_frozen BK543.out 3; go_wp2; go_meet
       case rel => exact ⟨_, H', ⟨by first | omega | exact Nat.le_refl _⟩, ⟨by exact BK530.out⟩, ⟨by exact BK531.out⟩, ⟨by exact BK537.out⟩, ⟨by exact BK543.out⟩, ⟨by repeat (first | (with_reducible first | exact HB.out | apply below_alloc | apply pw_below_drewN | apply below_drew1 | refine below_set ?_ GE530.out | refine below_set ?_ GE531.out | refine below_set ?_ GE537.out | refine below_set ?_ GE543.out) | exact HB.out)⟩⟩
      ·
       rw [if_neg c45] at H; exact absurd H (by simp)
     ·
      rw [if_neg c44] at H; exact absurd H (by simp)
    ·
     rw [if_neg c43] at H; exact absurd H (by simp)
 case rest =>
  clear HC7; try clear c1
  try clear c2
  try clear p2
  try clear c3
  try clear c4
  try clear c10
  try clear c12
  try clear c15
  try clear c16
  try clear c18
  try clear c21
  try clear c22
  try clear c23
  try clear c32
  try clear c32b0
  try clear c32b1
  try clear c34
  try clear c34b0
  try clear c36
  try clear c36b0
  try clear c36b1
  try clear c37
  try clear c37b0
  try clear c37b1
  try clear c38
  try clear c38b0
  try clear c38b1
  try clear c39
  try clear c40
  try clear c41
  try clear c42
  try clear c42b0
  try clear c43
  try clear c43b0
  try clear c43b1
  try clear c44
  try clear c44b0
  try clear c44b1
  try clear c45
  try clear c45b0
  try clear c45b1
  try clear c46
  try clear c47
  try clear c48
  try clear hcz11_0
  try clear hcz11_1
  try clear hcz11_2
  try clear hcz11_3
  try clear hcz12_0
  try clear hcz12_1
  try clear hcz12_2
  try clear hcz12_3
  try clear hcz17_0
  try clear hcz17_1
  try clear hcz17_2
  try clear hcz17_3
  try clear hcz18_0
  try clear hcz18_1
  try clear hcz18_2
  try clear hcz18_3
  try clear hcz24_0
  try clear hcz24_1
  try clear hcz24_2
  try clear hcz24_3
  try clear hcz25_0
  try clear hcz25_1
  try clear hcz25_2
  try clear hcz25_3
  try clear hcz27_0
  try clear hcz27_1
  try clear hcz27_2
  try clear hcz27_3
  try clear hcz49_0
  try clear hcz49_1
  try clear hcz49_2
  try clear hcz49_3
  try clear hfz11_0
  try clear hfz11_1
  try clear hfz11_2
  try clear hfz11_3
  try clear hfz12_0
  try clear hfz12_1
  try clear hfz12_2
  try clear hfz12_3
  try clear hfz17_0
  try clear hfz17_1
  try clear hfz17_2
  try clear hfz17_3
  try clear hfz18_0
  try clear hfz18_1
  try clear hfz18_2
  try clear hfz18_3
  try clear hfz24_0
  try clear hfz24_1
  try clear hfz24_2
  try clear hfz24_3
  try clear hfz25_0
  try clear hfz25_1
  try clear hfz25_2
  try clear hfz25_3
  try clear hfz27_0
  try clear hfz27_1
  try clear hfz27_2
  try clear hfz27_3
  try clear hfz49_0
  try clear hfz49_1
  try clear hfz49_2
  try clear hfz49_3
  obtain ⟨kq, HA, HJ6, BK530, BK531, BK537, BK543, HB⟩ := hcut; cases kq with
  | zero => exact absurd HA.out (by simp [bellpulllaw04_NormProducts.j0])
  | succ kj6 =>
   have H := HA.out; clear HA; simp only [bellpulllaw04_NormProducts.j0] at H; obtain ⟨y555, hy555⟩ : ∃ y_ : List (S23), y_ = (([(⟨a0_0, a0_1, a0_2, a0_3⟩ : S23), (⟨a1_0, a1_1, a1_2, a1_3⟩ : S23)] : List (S23))) := ⟨_, rfl⟩
   replace H : ((bellpullref04_Check.f kj6 y555).bind fun t558 => (if t558 = 0 then ((bellpullref04_Mul.f a0_0 a0_1 a0_2 a0_3 a1_0 a1_1 a1_2 a1_3).bind fun bt559 => (if (t532 == bt559.1 && (t533 == bt559.2.1 && (t534 == bt559.2.2.1 && (t535 == bt559.2.2.2)))) = true then (if t536 = 0 then ((bellpulllaw04_lives.f kj6).bind fun t563 => (some t563)) else (none)) else (none))) else (if (t532 == 0 && (t533 == 0 && (t534 == 0 && (t535 == 0)))) = true then (if t536 = t558 then ((bellpulllaw04_lives.f kj6).bind fun t564 => (some t564)) else (none)) else (none)))) = some r := by first | (rw [hy555]; with_reducible exact H) | (have H2_ := (Option.bind_some _ _).symm.trans H; rw [hy555]; with_reducible exact H2_) | (have H2_ := (Option.bind_some _ _).symm.trans H; with_reducible exact H2_) | with_reducible exact H | (rw [hy555]; exact H) | exact H
   have Ny555 := mk0 hy555; clear hy555; replace H := Option.bind_eq_some_iff.mp H; obtain ⟨t558, A500, H⟩ := H; (try dsimp only at H); have A50 := mk0 A500; clear A500
   by_cases c51 : t558 = 0
   ·
    rw [if_pos c51] at H; have c51b0 : (t558 == 0) = true := beq_iff_eq.mpr c51; have c51b1 : (t558 != 0) = false := bne_eq_false_iff_eq.mpr c51; clear c51; replace H := Option.bind_eq_some_iff.mp H; obtain ⟨⟨t559, t560, t561, t562⟩, A520, H⟩ := H; (try dsimp only at H); have A52 := mk0 A520; clear A520
    by_cases c53 : (t532 == t559 && (t533 == t560 && (t534 == t561 && (t535 == t562)))) = true
    ·
     rw [if_pos c53] at H; have c53b0 : (t532 == t559 && (t533 == t560 && (t534 == t561 && (t535 == t562)))) = true := c53; (try (have c53b1 : decide (t532 = t559 && (t533 == t560 && (t534 == t561 && (t535 == t562)))) = true := by simpa using c53)); (try (have c53b2 : (t532 == t559 && (t533 == t560 && (t534 == t561 && (t535 == t562)))) = true := by simpa using c53)); clear c53
     by_cases c54 : t536 = 0
     ·
      rw [if_pos c54] at H; have c54b0 : (t536 == 0) = true := beq_iff_eq.mpr c54; have c54b1 : (t536 != 0) = false := bne_eq_false_iff_eq.mpr c54; clear c54; replace H := Option.bind_eq_some_iff.mp H; obtain ⟨t563, A550, H⟩ := H; (try dsimp only at H); have A55 := mk0 A550; clear A550; obtain rfl := Option.some.inj H; have hnb56 := NB530_531.out; have hnc56 := NB531_530.out; have hnb57 := NB530_537.out; have hnc57 := NB537_530.out; have hnb58 := NB530_543.out; have hnc58 := NB543_530.out; have hcz59_0 : wc.cell? ⟨gb530, 0, none⟩ = some (.int .i64 a0_0) := (blk_cell BK530.out 0).trans rfl; have hcz59_1 : wc.cell? ⟨gb530, 1, none⟩ = some (.int .i64 a0_1) := (blk_cell BK530.out 1).trans rfl; have hcz59_2 : wc.cell? ⟨gb530, 2, none⟩ = some (.int .i64 a0_2) := (blk_cell BK530.out 2).trans rfl; have hcz59_3 : wc.cell? ⟨gb530, 3, none⟩ = some (.int .i64 a0_3) := (blk_cell BK530.out 3).trans rfl; have hfz59_0 := blk_frozen BK530.out 0; have hfz59_1 := blk_frozen BK530.out 1; have hfz59_2 := blk_frozen BK530.out 2; have hfz59_3 := blk_frozen BK530.out 3; have hnb60 := NB531_537.out; have hnc60 := NB537_531.out; have hnb61 := NB531_543.out; have hnc61 := NB543_531.out; have hcz62_0 : wc.cell? ⟨gb531, 0, none⟩ = some (.int .i64 a1_0) := (blk_cell BK531.out 0).trans rfl; have hcz62_1 : wc.cell? ⟨gb531, 1, none⟩ = some (.int .i64 a1_1) := (blk_cell BK531.out 1).trans rfl; have hcz62_2 : wc.cell? ⟨gb531, 2, none⟩ = some (.int .i64 a1_2) := (blk_cell BK531.out 2).trans rfl; have hcz62_3 : wc.cell? ⟨gb531, 3, none⟩ = some (.int .i64 a1_3) := (blk_cell BK531.out 3).trans rfl; have hfz62_0 := blk_frozen BK531.out 0; have hfz62_1 := blk_frozen BK531.out 1; have hfz62_2 := blk_frozen BK531.out 2; have hfz62_3 := blk_frozen BK531.out 3; try go_wp2_with (first | ((with_reducible refine gate_dst (N := 71) rfl ?_); refine Kd.R_lit k23 _ 23 ?hg (N := 71) ?hd (xs := ([(⟨a0_0, a0_1, a0_2, a0_3⟩ : S23), (⟨a1_0, a1_1, a1_2, a1_3⟩ : S23)] : List (S23))) (inner := [.int .i64 a0_0, .int .i64 a0_1, .int .i64 a0_2, .int .i64 a0_3, .int .i64 a1_0, .int .i64 a1_1, .int .i64 a1_2, .int .i64 a1_3]) (ok := fun _ => True) (okp := fun _ => True) ?hr ?hp (fun _ hk => hk) trivial (Below.refl _ _) (Nat.le_refl _) (by simp) ?_; (case hd => rfl); (case hg => rfl); (case hr => first | (go_simp; done) | (go_simp; rfl)); (case hp => exact (Reps.c4 (show Kd.M k23 _ _ _ (⟨a0_0, a0_1, a0_2, a0_3⟩ : S23) [.int .i64 a0_0, .int .i64 a0_1, .int .i64 a0_2, .int .i64 a0_3] from (k23_mkM _ _ _ (⟨a0_0, a0_1, a0_2, a0_3⟩ : S23) )) (Reps.c4 (show Kd.M k23 _ _ _ (⟨a1_0, a1_1, a1_2, a1_3⟩ : S23) [.int .i64 a1_0, .int .i64 a1_1, .int .i64 a1_2, .int .i64 a1_3] from (k23_mkM _ _ _ (⟨a1_0, a1_1, a1_2, a1_3⟩ : S23) )) (Reps.none _ _)))); intro v556 w63 ho64 hb hg_ hnew_; clear hg_ hnew_; (first | rw [← Ny555.out] at ho64 | (simp only [Int.reduceToNat] at ho64; rw [← Ny555.out] at ho64)); have HO557 := mk0 (Kd.R_lower (Kd.R_newB (Kd.R_newB (Kd.R_newB (Kd.R_newB ho64 (g := gb530) (o := .cells #[.int .i64 a0_0, .int .i64 a0_1, .int .i64 a0_2, .int .i64 a0_3] 23 (0, 0)) BK530.out) (g := gb531) (o := .cells #[.int .i64 a1_0, .int .i64 a1_1, .int .i64 a1_2, .int .i64 a1_3] 23 (0, 0)) BK531.out) (g := gb537) (o := .cells #[.int .i64 t532, .int .i64 t533, .int .i64 t534, .int .i64 t535] 23 (0, 0)) BK537.out) (g := gb543) (o := .cells #[.int .i64 t538, .int .i64 t539, .int .i64 t540, .int .i64 t541] 23 (0, 0)) BK543.out) (below_size HB.out)); replace BK530 := bkb BK530 hb; replace BK531 := bkb BK531 hb; replace BK537 := bkb BK537 hb; replace BK543 := bkb BK543 hb; replace HB := bst HB hb; clear hb ho64; obtain ⟨Ao65, co65, eo65⟩ := Kd.R_slice HO557.out; subst eo65) | ((with_reducible refine gate_callee (f := 18) rfl ?_); refine goesL_ (some 72) rfl rfl Try.func18 (by kernel_rfl) rfl #[.slice Ao65 y555.length co65] rfl (by (try simp only [List.map_toArray, List.map_cons, List.map_nil]); first | done | rfl | (simp only [List.length_drop, List.length_take]; rfl)) ?_; (with_reducible refine (bellpullref04_Check.calls kj6 _ _ y555 t558 _ ?side1 ?side2 A50.out).mono ?_); (case side1 => repeat (first | exact (Kd.R_reads' HO557.out).2.2 | (with_reducible refine Kd.C_alloc ?_ _) | (with_reducible refine Kd.C_drewN ?_ _) | (with_reducible refine Kd.C_drew ?_))); (case side2 => exact (Kd.R_reads' HO557.out).2.1); rintro e w66 ⟨rfl, hb⟩; refine ⟨_, rfl, ?_⟩; replace HO557 := rbl HO557 hb; replace BK530 := bkb BK530 hb; replace BK531 := bkb BK531 hb; replace BK537 := bkb BK537 hb; replace BK543 := bkb BK543 hb; replace HB := bst HB hb; (try clear hb); (try clear hk)))
      replace HO557 := rdr HO557; replace BK530 := bdr BK530; replace BK531 := bdr BK531; replace BK537 := bdr BK537; replace BK543 := bdr BK543; replace HB := hdr HB; refine start_ (n := 13) (S := fun w' => w'.cell? ⟨gb537, 0, none⟩ = some (.int .i64 t532) ∧ w'.cell? ⟨gb537, 1, none⟩ = some (.int .i64 t533) ∧ w'.cell? ⟨gb537, 2, none⟩ = some (.int .i64 t534) ∧ w'.cell? ⟨gb537, 3, none⟩ = some (.int .i64 t535) ∧ w'.cell? ⟨gb530, 0, none⟩ = some (.int .i64 a0_0) ∧ w'.cell? ⟨gb530, 1, none⟩ = some (.int .i64 a0_1) ∧ w'.cell? ⟨gb530, 2, none⟩ = some (.int .i64 a0_2) ∧ w'.cell? ⟨gb530, 3, none⟩ = some (.int .i64 a0_3) ∧ w'.cell? ⟨gb531, 0, none⟩ = some (.int .i64 a1_0) ∧ w'.cell? ⟨gb531, 1, none⟩ = some (.int .i64 a1_1) ∧ w'.cell? ⟨gb531, 2, none⟩ = some (.int .i64 a1_2) ∧ w'.cell? ⟨gb531, 3, none⟩ = some (.int .i64 a1_3)) (ds := []) #[false, false, false, false, false, false, false, false, false, false, false, false, false] (by kernel_rfl) rfl rfl ⟨(blk_cell BK537.out 0).trans rfl, (blk_cell BK537.out 1).trans rfl, (blk_cell BK537.out 2).trans rfl, (blk_cell BK537.out 3).trans rfl, (blk_cell BK530.out 0).trans rfl, (blk_cell BK530.out 1).trans rfl, (blk_cell BK530.out 2).trans rfl, (blk_cell BK530.out 3).trans rfl, (blk_cell BK531.out 0).trans rfl, (blk_cell BK531.out 1).trans rfl, (blk_cell BK531.out 2).trans rfl, (blk_cell BK531.out 3).trans rfl⟩ (fun hHeld => ?_); refine with_tabW bellpulllaw04_NormProducts.tab13 bellpulllaw04_NormProducts.bits13 (fun HT_ HW_ => ?_); generalize w66.drew = w67 at HO557 BK530 BK531 BK537 BK543 HB hHeld ⊢; refine take_ (i := 0) (N := some 86) (v := ?_) (a' := ?_) #[true, false, false, false, false, false, false, false, false, false, false, false, false] rfl rfl (take_ofW HT_.out HW_.out (by kernel_rfl)) (fun _ _ _ h => h) (Or.inl ⟨by rfl, ?_⟩) hHeld ?_ ?_; rotate_left
      ·
       rintro w' ⟨s0, s1, s2, s3, s4, s5, s6, s7, s8, s9, s10, s11⟩; go_simp; with_reducible rfl
      rotate_left
      ·
       simp only [Act.put, List.setIfInBounds_toArray, List.set_cons_zero, List.set_cons_succ, i64_w, i32_w]; rfl
      refine take_ (i := 1) (N := some 87) (v := ?_) (a' := ?_) #[true, true, false, false, false, false, false, false, false, false, false, false, false] rfl rfl (take_ofW HT_.out HW_.out (by kernel_rfl)) (fun _ _ _ h => h) (Or.inl ⟨by rfl, ?_⟩) hHeld ?_ ?_; rotate_left
      ·
       rintro w' ⟨s0, s1, s2, s3, s4, s5, s6, s7, s8, s9, s10, s11⟩; go_simp; with_reducible rfl
      rotate_left
      ·
       simp only [Act.put, List.setIfInBounds_toArray, List.set_cons_zero, List.set_cons_succ, i64_w, i32_w]; rfl
      refine take_ (i := 2) (N := some 88) (v := ?_) (a' := ?_) #[true, true, true, false, false, false, false, false, false, false, false, false, false] rfl rfl (take_ofW HT_.out HW_.out (by kernel_rfl)) (fun _ _ _ h => h) (Or.inl ⟨by rfl, ?_⟩) hHeld ?_ ?_; rotate_left
      ·
       rintro w' ⟨s0, s1, s2, s3, s4, s5, s6, s7, s8, s9, s10, s11⟩; go_simp; with_reducible rfl
      rotate_left
      ·
       simp only [Act.put, List.setIfInBounds_toArray, List.set_cons_zero, List.set_cons_succ, i64_w, i32_w]; rfl
      refine one_ (i := 3) (N := some 89) #[true, true, true, true, false, false, false, false, false, false, false, false, false] rfl rfl (one_of HT_.out (by kernel_rfl)) (by decide) (fun K hK => ?_); refine goes_ Try.func33 (by kernel_rfl) rfl #[.agg #[.int .i64 a0_0, .int .i64 a0_1, .int .i64 a0_2, .int .i64 a0_3], .agg #[.int .i64 a1_0, .int .i64 a1_1, .int .i64 a1_2, .int .i64 a1_3]] (by rfl) rfl rfl (by (try simp only [List.map_toArray, List.map_cons, List.map_nil]); first | done | rfl | (simp only [List.length_drop, List.length_take]; rfl)) ?_; with_reducible refine (bellpullref04_Mul.calls a0_0 a0_1 a0_2 a0_3 a1_0 a1_1 a1_2 a1_3 t559 t560 t561 t562 _ A52.out).mono ?_
      rintro e w68 ⟨rfl, hb⟩; refine ⟨_, rfl, ?_⟩; replace HO557 := rbl HO557 hb; replace BK530 := bkb BK530 hb; replace BK531 := bkb BK531 hb; replace BK537 := bkb BK537 hb; replace BK543 := bkb BK543 hb; replace HB := bst HB hb; (try clear hb); refine hK.out _ _ ⟨(blk_cell BK537.out 0).trans rfl, (blk_cell BK537.out 1).trans rfl, (blk_cell BK537.out 2).trans rfl, (blk_cell BK537.out 3).trans rfl, (blk_cell BK530.out 0).trans rfl, (blk_cell BK530.out 1).trans rfl, (blk_cell BK530.out 2).trans rfl, (blk_cell BK530.out 3).trans rfl, (blk_cell BK531.out 0).trans rfl, (blk_cell BK531.out 1).trans rfl, (blk_cell BK531.out 2).trans rfl, (blk_cell BK531.out 3).trans rfl⟩ (fun hHeld => ?_); clear hK K; refine norm_ (a' := ?_) ?_ ?_; rotate_left
      ·
       show Act.put _ (some 89) _ = _; simp only [Act.put, List.setIfInBounds_toArray, List.set_cons_zero, List.set_cons_succ, i64_w, i32_w]; rfl
      refine pure_ (i := 4) (N := some 90) (v := ?_) (a' := ?_) #[true, true, true, true, true, false, false, false, false, false, false, false, false] rfl rfl (any_of HT_.out (by kernel_rfl)) (fun _ _ _ h => h) (Or.inl ⟨by rfl, ?_⟩) ?_ ?_; rotate_left
      ·
       intro w'; go_simp; with_reducible rfl
      rotate_left
      ·
       simp only [Act.put, List.setIfInBounds_toArray, List.set_cons_zero, List.set_cons_succ, i64_w, i32_w]; rfl
      refine pure_ (i := 5) (N := some 91) (v := ?_) (a' := ?_) #[true, true, true, true, true, true, false, false, false, false, false, false, false] rfl rfl (any_of HT_.out (by kernel_rfl)) (fun _ _ _ h => h) (Or.inl ⟨by rfl, ?_⟩) ?_ ?_; rotate_left
      ·
       intro w'; go_simp; with_reducible rfl
      rotate_left
      ·
       simp only [Act.put, List.setIfInBounds_toArray, List.set_cons_zero, List.set_cons_succ, i64_w, i32_w]; rfl
      refine pure_ (i := 6) (N := some 92) (v := ?_) (a' := ?_) #[true, true, true, true, true, true, true, false, false, false, false, false, false] rfl rfl (any_of HT_.out (by kernel_rfl)) (fun _ _ _ h => h) (Or.inl ⟨by rfl, ?_⟩) ?_ ?_; rotate_left
      ·
       intro w'; go_simp; with_reducible rfl
      rotate_left
      ·
       simp only [Act.put, List.setIfInBounds_toArray, List.set_cons_zero, List.set_cons_succ, i64_w, i32_w]; rfl
      refine pure_ (i := 7) (N := some 93) (v := ?_) (a' := ?_) #[true, true, true, true, true, true, true, true, false, false, false, false, false] rfl rfl (any_of HT_.out (by kernel_rfl)) (fun _ _ _ h => h) (Or.inl ⟨by rfl, ?_⟩) ?_ ?_; rotate_left
      ·
       intro w'; go_simp; with_reducible rfl
      rotate_left
      ·
       simp only [Act.put, List.setIfInBounds_toArray, List.set_cons_zero, List.set_cons_succ, i64_w, i32_w]; rfl
      refine pure_ (i := 8) (N := some 94) (v := ?_) (a' := ?_) #[true, true, true, true, true, true, true, true, true, false, false, false, false] rfl rfl (any_of HT_.out (by kernel_rfl)) (fun _ _ _ h => h) (Or.inl ⟨by rfl, ?_⟩) ?_ ?_; rotate_left
      ·
       intro w'; go_simp; with_reducible rfl
      rotate_left
      ·
       simp only [Act.put, List.setIfInBounds_toArray, List.set_cons_zero, List.set_cons_succ, i64_w, i32_w]; rfl
      refine pure_ (i := 9) (N := some 95) (v := ?_) (a' := ?_) #[true, true, true, true, true, true, true, true, true, true, false, false, false] rfl rfl (any_of HT_.out (by kernel_rfl)) (fun _ _ _ h => h) (Or.inl ⟨by rfl, ?_⟩) ?_ ?_; rotate_left
      ·
       intro w'; go_simp; with_reducible rfl
      rotate_left
      ·
       simp only [Act.put, List.setIfInBounds_toArray, List.set_cons_zero, List.set_cons_succ, i64_w, i32_w]; rfl
      refine one_ (i := 10) (N := some 96) #[true, true, true, true, true, true, true, true, true, true, true, false, false] rfl rfl (one_of HT_.out (by kernel_rfl)) (by decide) (fun K hK => ?_); refine goes_ Try.func19 (by kernel_rfl) rfl #[] (by rfl) rfl rfl (by (try simp only [List.map_toArray, List.map_cons, List.map_nil]); first | done | rfl | (simp only [List.length_drop, List.length_take]; rfl)) ?_; with_reducible refine (bellpulllaw04_lives.calls kj6  t563 _ A55.out).mono ?_
      rintro e w69 ⟨rfl, hb⟩; refine ⟨_, rfl, ?_⟩; replace HO557 := rbl HO557 hb; replace BK530 := bkb BK530 hb; replace BK531 := bkb BK531 hb; replace BK537 := bkb BK537 hb; replace BK543 := bkb BK543 hb; replace HB := bst HB hb; (try clear hb); refine hK.out _ _ ⟨(blk_cell BK537.out 0).trans rfl, (blk_cell BK537.out 1).trans rfl, (blk_cell BK537.out 2).trans rfl, (blk_cell BK537.out 3).trans rfl, (blk_cell BK530.out 0).trans rfl, (blk_cell BK530.out 1).trans rfl, (blk_cell BK530.out 2).trans rfl, (blk_cell BK530.out 3).trans rfl, (blk_cell BK531.out 0).trans rfl, (blk_cell BK531.out 1).trans rfl, (blk_cell BK531.out 2).trans rfl, (blk_cell BK531.out 3).trans rfl⟩ (fun hHeld => ?_); clear hK K; refine norm_ (a' := ?_) ?_ ?_; rotate_left
      ·
       show Act.put _ (some 96) _ = _; simp only [Act.put, List.setIfInBounds_toArray, List.set_cons_zero, List.set_cons_succ, i64_w, i32_w]; rfl
      refine pure_ (i := 11) (N := some 97) (v := ?_) (a' := ?_) #[true, true, true, true, true, true, true, true, true, true, true, true, false] rfl rfl (any_of HT_.out (by kernel_rfl)) (fun _ _ _ h => h) (Or.inl ⟨by rfl, ?_⟩) ?_ ?_; rotate_left
      ·
       intro w'; go_simp; with_reducible rfl
      rotate_left
      ·
       simp only [Act.put, List.setIfInBounds_toArray, List.set_cons_zero, List.set_cons_succ, i64_w, i32_w]; rfl
      refine pure_ (i := 12) (N := some 4) (v := ?_) (a' := ?_) #[true, true, true, true, true, true, true, true, true, true, true, true, true] rfl rfl (any_of HT_.out (by kernel_rfl)) (fun _ _ _ h => h) (Or.inl ⟨by rfl, ?_⟩) ?_ ?_; rotate_left
      ·
       intro w'; go_simp; with_reducible rfl
      rotate_left
      ·
       simp only [Act.put, List.setIfInBounds_toArray, List.set_cons_zero, List.set_cons_succ, i64_w, i32_w]; rfl
      refine done_ (done_of HT_.out (by kernel_rfl)) ?_; try go_wp2
      go_ret; exact ⟨by first | rfl | (simp [errW_none, errW_some] <;> rfl) | (simp [*, errW_none, errW_some] <;> rfl), by repeat (first | (with_reducible first | exact HB.out | apply below_alloc | apply pw_below_drewN | apply below_drew1 | refine below_set ?_ GE530.out | refine below_set ?_ GE531.out | refine below_set ?_ GE537.out | refine below_set ?_ GE543.out) | exact HB.out)⟩
     ·
      rw [if_neg c54] at H; exact absurd H (by simp)
    ·
     rw [if_neg c53] at H; exact absurd H (by simp)
   ·
    rw [if_neg c51] at H; have c51b0 : (t558 == 0) = false := beq_eq_false_iff_ne.mpr c51; have c51b1 : (t558 != 0) = true := bne_iff_ne.mpr c51
    by_cases c70 : (t532 == 0 && (t533 == 0 && (t534 == 0 && (t535 == 0)))) = true
    ·
     rw [if_pos c70] at H; have c70b0 : (t532 == 0 && (t533 == 0 && (t534 == 0 && (t535 == 0)))) = true := c70; (try (have c70b1 : decide (t532 = 0 && (t533 == 0 && (t534 == 0 && (t535 == 0)))) = true := by simpa using c70)); (try (have c70b2 : (t532 == 0 && (t533 == 0 && (t534 == 0 && (t535 == 0)))) = true := by simpa using c70)); clear c70
     by_cases c71 : t536 = t558
     ·
      rw [if_pos c71] at H; have c71b0 : (t536 == t558) = true := beq_iff_eq.mpr c71; have c71b1 : (t536 != t558) = false := bne_eq_false_iff_eq.mpr c71; clear c71; replace H := Option.bind_eq_some_iff.mp H; obtain ⟨t564, A720, H⟩ := H; (try dsimp only at H); have A72 := mk0 A720; clear A720; obtain rfl := Option.some.inj H; have hnb73 := NB530_531.out; have hnc73 := NB531_530.out; have hnb74 := NB530_537.out; have hnc74 := NB537_530.out; have hnb75 := NB530_543.out; have hnc75 := NB543_530.out; have hcz76_0 : wc.cell? ⟨gb530, 0, none⟩ = some (.int .i64 a0_0) := (blk_cell BK530.out 0).trans rfl; have hcz76_1 : wc.cell? ⟨gb530, 1, none⟩ = some (.int .i64 a0_1) := (blk_cell BK530.out 1).trans rfl; have hcz76_2 : wc.cell? ⟨gb530, 2, none⟩ = some (.int .i64 a0_2) := (blk_cell BK530.out 2).trans rfl; have hcz76_3 : wc.cell? ⟨gb530, 3, none⟩ = some (.int .i64 a0_3) := (blk_cell BK530.out 3).trans rfl; have hfz76_0 := blk_frozen BK530.out 0; have hfz76_1 := blk_frozen BK530.out 1; have hfz76_2 := blk_frozen BK530.out 2; have hfz76_3 := blk_frozen BK530.out 3; have hnb77 := NB531_537.out; have hnc77 := NB537_531.out; have hnb78 := NB531_543.out; have hnc78 := NB543_531.out; have hcz79_0 : wc.cell? ⟨gb531, 0, none⟩ = some (.int .i64 a1_0) := (blk_cell BK531.out 0).trans rfl; have hcz79_1 : wc.cell? ⟨gb531, 1, none⟩ = some (.int .i64 a1_1) := (blk_cell BK531.out 1).trans rfl; have hcz79_2 : wc.cell? ⟨gb531, 2, none⟩ = some (.int .i64 a1_2) := (blk_cell BK531.out 2).trans rfl; have hcz79_3 : wc.cell? ⟨gb531, 3, none⟩ = some (.int .i64 a1_3) := (blk_cell BK531.out 3).trans rfl; have hfz79_0 := blk_frozen BK531.out 0; have hfz79_1 := blk_frozen BK531.out 1; have hfz79_2 := blk_frozen BK531.out 2; have hfz79_3 := blk_frozen BK531.out 3; go_wp2_with (first | ((with_reducible refine gate_dst (N := 71) rfl ?_); refine Kd.R_lit k23 _ 23 ?hg (N := 71) ?hd (xs := ([(⟨a0_0, a0_1, a0_2, a0_3⟩ : S23), (⟨a1_0, a1_1, a1_2, a1_3⟩ : S23)] : List (S23))) (inner := [.int .i64 a0_0, .int .i64 a0_1, .int .i64 a0_2, .int .i64 a0_3, .int .i64 a1_0, .int .i64 a1_1, .int .i64 a1_2, .int .i64 a1_3]) (ok := fun _ => True) (okp := fun _ => True) ?hr ?hp (fun _ hk => hk) trivial (Below.refl _ _) (Nat.le_refl _) (by simp) ?_; (case hd => rfl); (case hg => rfl); (case hr => first | (go_simp; done) | (go_simp; rfl)); (case hp => exact (Reps.c4 (show Kd.M k23 _ _ _ (⟨a0_0, a0_1, a0_2, a0_3⟩ : S23) [.int .i64 a0_0, .int .i64 a0_1, .int .i64 a0_2, .int .i64 a0_3] from (k23_mkM _ _ _ (⟨a0_0, a0_1, a0_2, a0_3⟩ : S23) )) (Reps.c4 (show Kd.M k23 _ _ _ (⟨a1_0, a1_1, a1_2, a1_3⟩ : S23) [.int .i64 a1_0, .int .i64 a1_1, .int .i64 a1_2, .int .i64 a1_3] from (k23_mkM _ _ _ (⟨a1_0, a1_1, a1_2, a1_3⟩ : S23) )) (Reps.none _ _)))); intro v556 w80 ho81 hb hg_ hnew_; clear hg_ hnew_; (first | rw [← Ny555.out] at ho81 | (simp only [Int.reduceToNat] at ho81; rw [← Ny555.out] at ho81)); have HO557 := mk0 (Kd.R_lower (Kd.R_newB (Kd.R_newB (Kd.R_newB (Kd.R_newB ho81 (g := gb530) (o := .cells #[.int .i64 a0_0, .int .i64 a0_1, .int .i64 a0_2, .int .i64 a0_3] 23 (0, 0)) BK530.out) (g := gb531) (o := .cells #[.int .i64 a1_0, .int .i64 a1_1, .int .i64 a1_2, .int .i64 a1_3] 23 (0, 0)) BK531.out) (g := gb537) (o := .cells #[.int .i64 t532, .int .i64 t533, .int .i64 t534, .int .i64 t535] 23 (0, 0)) BK537.out) (g := gb543) (o := .cells #[.int .i64 t538, .int .i64 t539, .int .i64 t540, .int .i64 t541] 23 (0, 0)) BK543.out) (below_size HB.out)); replace BK530 := bkb BK530 hb; replace BK531 := bkb BK531 hb; replace BK537 := bkb BK537 hb; replace BK543 := bkb BK543 hb; replace HB := bst HB hb; clear hb ho81; obtain ⟨Ao82, co82, eo82⟩ := Kd.R_slice HO557.out; subst eo82) | ((with_reducible refine gate_callee (f := 18) rfl ?_); refine goesL_ (some 72) rfl rfl Try.func18 (by kernel_rfl) rfl #[.slice Ao82 y555.length co82] rfl (by (try simp only [List.map_toArray, List.map_cons, List.map_nil]); first | done | rfl | (simp only [List.length_drop, List.length_take]; rfl)) ?_; (with_reducible refine (bellpullref04_Check.calls kj6 _ _ y555 t558 _ ?side1 ?side2 A50.out).mono ?_); (case side1 => repeat (first | exact (Kd.R_reads' HO557.out).2.2 | (with_reducible refine Kd.C_alloc ?_ _) | (with_reducible refine Kd.C_drewN ?_ _) | (with_reducible refine Kd.C_drew ?_))); (case side2 => exact (Kd.R_reads' HO557.out).2.1); rintro e w83 ⟨rfl, hb⟩; refine ⟨_, rfl, ?_⟩; replace HO557 := rbl HO557 hb; replace BK530 := bkb BK530 hb; replace BK531 := bkb BK531 hb; replace BK537 := bkb BK537 hb; replace BK543 := bkb BK543 hb; replace HB := bst HB hb; (try clear hb); (try clear hk); have hnb84 := NB537_543.out; have hnc84 := NB543_537.out; have hcz85_0 : w83.cell? ⟨gb537, 0, none⟩ = some (.int .i64 t532) := (blk_cell BK537.out 0).trans rfl; have hcz85_1 : w83.cell? ⟨gb537, 1, none⟩ = some (.int .i64 t533) := (blk_cell BK537.out 1).trans rfl; have hcz85_2 : w83.cell? ⟨gb537, 2, none⟩ = some (.int .i64 t534) := (blk_cell BK537.out 2).trans rfl; have hcz85_3 : w83.cell? ⟨gb537, 3, none⟩ = some (.int .i64 t535) := (blk_cell BK537.out 3).trans rfl; have hfz85_0 := blk_frozen BK537.out 0; have hfz85_1 := blk_frozen BK537.out 1; have hfz85_2 := blk_frozen BK537.out 2; have hfz85_3 := blk_frozen BK537.out 3) | (go_at_call 19; (with_reducible refine (bellpulllaw04_lives.calls kj6  t564 _ A72.out).mono ?_); rintro e w86 ⟨rfl, hb⟩; replace HO557 := rbl HO557 hb; replace BK530 := bkb BK530 hb; replace BK531 := bkb BK531 hb; replace BK537 := bkb BK537 hb; replace BK543 := bkb BK543 hb; replace HB := bst HB hb; (try clear hb); (try clear hk)))
      go_ret; exact ⟨by first | rfl | (simp [errW_none, errW_some] <;> rfl) | (simp [*, errW_none, errW_some] <;> rfl), by repeat (first | (with_reducible first | exact HB.out | apply below_alloc | apply pw_below_drewN | apply below_drew1 | refine below_set ?_ GE530.out | refine below_set ?_ GE531.out | refine below_set ?_ GE537.out | refine below_set ?_ GE543.out) | exact HB.out)⟩
     ·
      rw [if_neg c71] at H; exact absurd H (by simp)
    ·
     rw [if_neg c70] at H; exact absurd H (by simp)
end Go.Proofs.Ytgfnmimfoicmmaa.PM
