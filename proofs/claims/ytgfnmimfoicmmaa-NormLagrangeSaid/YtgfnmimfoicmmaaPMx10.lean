-- Written by pr2.py, a program of this session's, for this claim (through the kit's print).
import Derived.Test.YtgfnmimfoicmmaaPMx0
import Derived.Test.YtgfnmimfoicmmaaPMx6
import Derived.Test.YtgfnmimfoicmmaaPMx7
import Derived.Test.YtgfnmimfoicmmaaPMx9
namespace Go.Proofs.Ytgfnmimfoicmmaa.PM
open Go.Proofs.MyWords Go.RowKit Go.Proofs.YtgfnmimfoicmmaaW.PrintWords Go.Proofs.YtgfnmimfoicmmaaW.PrintLast Go.Proofs.YtgfnmimfoicmmaaW.PrintMore
attribute [local go_sem] max2_int min2_int max_two min_two max_three min_three max_four min_four   -- for this text's walks alone
set_option linter.unusedVariables false
set_option linter.unusedSimpArgs false

attribute [local go_sem] idx67_0 idx67_1 idx67_2 idx67_3
attribute [local go_sem] eqGuard_slices eqlnil36 neqnil36
/-! ### bellpulllaw04_NormLagrange: function 9 -/
mutual
def bellpulllaw04_NormLagrange.j1 : Nat → Int → List Int → Int → List Int → Int → Int → Option (Bool)
  | 0, _, _, _, _, _, _ => none
  | k + 1, x3, x4, x5, x6, x7, x8 => if x5 = 0 then ((bellpulllaw04_sum.f k x4 4 x3).bind fun t410 => (if t410 = true then ((bellpulllaw04_lives.f k).bind fun t411 => (bellpulllaw04_NormLagrange.j2 k x3 x6 x7 x8 (!t411))) else (none))) else (none)
def bellpulllaw04_NormLagrange.j2 : Nat → Int → List Int → Int → Int → Bool → Option (Bool)
  | 0, _, _, _, _, _ => none
  | k + 1, x3, x6, x7, x8, x43 => if x43 = true then (none) else (if (Int.tmod x8 8) = 7 then (if x7 = 5 then (some ((x6.length : Int) == 0)) else (none)) else (if x7 = 0 then ((bellpulllaw04_sum.f k x6 3 x3).bind fun t412 => (some t412)) else (none)))
def bellpulllaw04_NormLagrange.l0 : Nat → Int → List Int → Int → List Int → Int → Int → Option (Bool)
  | 0, _, _, _, _, _, _ => none
  | k + 1, x3, x4, x5, x6, x7, x8 => if x8 > 0 then (if (Int.tmod x8 4) = 0 then (bellpulllaw04_NormLagrange.l0 k x3 x4 x5 x6 x7 (wrap64 (Int.tdiv x8 4))) else (bellpulllaw04_NormLagrange.j1 k x3 x4 x5 x6 x7 x8)) else (bellpulllaw04_NormLagrange.j1 k x3 x4 x5 x6 x7 x8)
end
def bellpulllaw04_NormLagrange.f (k : Nat) (a0 : Int) : Option (Bool) := (norm_Four.f k (Int.tmod (wrap64 (a0)) 10001)).bind fun bt402 => ((norm_Three.f k (Int.tmod (wrap64 (a0)) 10001)).bind fun bt406 => (bellpulllaw04_NormLagrange.l0 k (Int.tmod (wrap64 (a0)) 10001) bt402.1 bt402.2 bt406.1 bt406.2 (Int.tmod (wrap64 (a0)) 10001)))
theorem bellpulllaw04_NormLagrange.mono_l : ∀ k, (∀ y0 y1 y2 y3 y4 y5, LeO (bellpulllaw04_NormLagrange.j1 k y0 y1 y2 y3 y4 y5) (bellpulllaw04_NormLagrange.j1 (k + 1) y0 y1 y2 y3 y4 y5)) ∧ (∀ y0 y1 y2 y3 y4, LeO (bellpulllaw04_NormLagrange.j2 k y0 y1 y2 y3 y4) (bellpulllaw04_NormLagrange.j2 (k + 1) y0 y1 y2 y3 y4)) ∧ (∀ y0 y1 y2 y3 y4 y5, LeO (bellpulllaw04_NormLagrange.l0 k y0 y1 y2 y3 y4 y5) (bellpulllaw04_NormLagrange.l0 (k + 1) y0 y1 y2 y3 y4 y5))
  | 0 => ⟨fun _ _ _ _ _ _ r h => by simp [bellpulllaw04_NormLagrange.j1] at h, fun _ _ _ _ _ r h => by simp [bellpulllaw04_NormLagrange.j2] at h, fun _ _ _ _ _ _ r h => by simp [bellpulllaw04_NormLagrange.l0] at h⟩
  | k + 1 => by
    obtain ⟨ih0, ih1, ih2⟩ := bellpulllaw04_NormLagrange.mono_l k
    refine ⟨?_, ?_, ?_⟩
    · intro y0 y1 y2 y3 y4 y5
      unfold bellpulllaw04_NormLagrange.j1
      repeat' first
      | (with_reducible exact ih0 _ _ _ _ _ _)
      | (with_reducible exact ih1 _ _ _ _ _)
      | (with_reducible exact ih2 _ _ _ _ _ _)
      | (with_reducible exact bellpulllaw04_lives.mono _)
      | (with_reducible exact bellpulllaw04_sum.mono _ _ _ _)
      | (with_reducible exact norm_Four.mono _ _)
      | (with_reducible exact norm_Three.mono _ _)
      | (with_reducible exact LeO.refl _)
      | (with_reducible exact LeO.none _)
      | (with_reducible refine LeO.ite ?_ ?_)
      | (with_reducible refine LeO.bind ?_ (fun _ => ?_))
      | exact ih0 _ _ _ _ _ _
      | exact ih1 _ _ _ _ _
      | exact ih2 _ _ _ _ _ _
      | exact bellpulllaw04_lives.mono _
      | exact bellpulllaw04_sum.mono _ _ _ _
      | exact norm_Four.mono _ _
      | exact norm_Three.mono _ _
      | exact LeO.none _
      | refine LeO.ite ?_ ?_
      | refine LeO.bind ?_ (fun _ => ?_)
    · intro y0 y1 y2 y3 y4
      unfold bellpulllaw04_NormLagrange.j2
      repeat' first
      | (with_reducible exact ih0 _ _ _ _ _ _)
      | (with_reducible exact ih1 _ _ _ _ _)
      | (with_reducible exact ih2 _ _ _ _ _ _)
      | (with_reducible exact bellpulllaw04_lives.mono _)
      | (with_reducible exact bellpulllaw04_sum.mono _ _ _ _)
      | (with_reducible exact norm_Four.mono _ _)
      | (with_reducible exact norm_Three.mono _ _)
      | (with_reducible exact LeO.refl _)
      | (with_reducible exact LeO.none _)
      | (with_reducible refine LeO.ite ?_ ?_)
      | (with_reducible refine LeO.bind ?_ (fun _ => ?_))
      | exact ih0 _ _ _ _ _ _
      | exact ih1 _ _ _ _ _
      | exact ih2 _ _ _ _ _ _
      | exact bellpulllaw04_lives.mono _
      | exact bellpulllaw04_sum.mono _ _ _ _
      | exact norm_Four.mono _ _
      | exact norm_Three.mono _ _
      | exact LeO.none _
      | refine LeO.ite ?_ ?_
      | refine LeO.bind ?_ (fun _ => ?_)
    · intro y0 y1 y2 y3 y4 y5
      unfold bellpulllaw04_NormLagrange.l0
      repeat' first
      | (with_reducible exact ih0 _ _ _ _ _ _)
      | (with_reducible exact ih1 _ _ _ _ _)
      | (with_reducible exact ih2 _ _ _ _ _ _)
      | (with_reducible exact bellpulllaw04_lives.mono _)
      | (with_reducible exact bellpulllaw04_sum.mono _ _ _ _)
      | (with_reducible exact norm_Four.mono _ _)
      | (with_reducible exact norm_Three.mono _ _)
      | (with_reducible exact LeO.refl _)
      | (with_reducible exact LeO.none _)
      | (with_reducible refine LeO.ite ?_ ?_)
      | (with_reducible refine LeO.bind ?_ (fun _ => ?_))
      | exact ih0 _ _ _ _ _ _
      | exact ih1 _ _ _ _ _
      | exact ih2 _ _ _ _ _ _
      | exact bellpulllaw04_lives.mono _
      | exact bellpulllaw04_sum.mono _ _ _ _
      | exact norm_Four.mono _ _
      | exact norm_Three.mono _ _
      | exact LeO.none _
      | refine LeO.ite ?_ ?_
      | refine LeO.bind ?_ (fun _ => ?_)
theorem bellpulllaw04_NormLagrange.mono : ∀ a0 k, LeO (bellpulllaw04_NormLagrange.f k a0) (bellpulllaw04_NormLagrange.f (k + 1) a0) := by
  intro a0 k
  obtain ⟨ih0, ih1, ih2⟩ := bellpulllaw04_NormLagrange.mono_l k
  unfold bellpulllaw04_NormLagrange.f
  repeat' first
      | (with_reducible exact ih0 _ _ _ _ _ _)
      | (with_reducible exact ih1 _ _ _ _ _)
      | (with_reducible exact ih2 _ _ _ _ _ _)
      | (with_reducible exact bellpulllaw04_lives.mono _)
      | (with_reducible exact bellpulllaw04_sum.mono _ _ _ _)
      | (with_reducible exact norm_Four.mono _ _)
      | (with_reducible exact norm_Three.mono _ _)
      | (with_reducible exact LeO.refl _)
      | (with_reducible exact LeO.none _)
      | (with_reducible refine LeO.ite ?_ ?_)
      | (with_reducible refine LeO.bind ?_ (fun _ => ?_))
      | exact ih0 _ _ _ _ _ _
      | exact ih1 _ _ _ _ _
      | exact ih2 _ _ _ _ _ _
      | exact bellpulllaw04_lives.mono _
      | exact bellpulllaw04_sum.mono _ _ _ _
      | exact norm_Four.mono _ _
      | exact norm_Three.mono _ _
      | exact LeO.none _
      | refine LeO.ite ?_ ?_
      | refine LeO.bind ?_ (fun _ => ?_)
set_option maxHeartbeats 8000000 in
set_option maxRecDepth 100000 in
theorem bellpulllaw04_NormLagrange.calls (k : Nat) (a0 : Int) (r : Bool) (w : World) (h : bellpulllaw04_NormLagrange.f k a0 = some r) :
    Calls Try.prog 9 #[.int .u16 a0] w fun e w' => e = .returned (.bool r) ∧ Below w.heap.size w w' := by
 have HB := mk0 (Below.refl w.heap.size w); have H : ((norm_Four.f k (Int.tmod (wrap64 (a0)) 10001)).bind fun bt402 => ((norm_Three.f k (Int.tmod (wrap64 (a0)) 10001)).bind fun bt406 => (bellpulllaw04_NormLagrange.l0 k (Int.tmod (wrap64 (a0)) 10001) bt402.1 bt402.2 bt406.1 bt406.2 (Int.tmod (wrap64 (a0)) 10001)))) = some r := h; clear h; replace H := Option.bind_eq_some_iff.mp H; obtain ⟨⟨t402, t403⟩, A20, H⟩ := H; (try dsimp only at H); have A2 := mk0 A20; clear A20; replace H := Option.bind_eq_some_iff.mp H; obtain ⟨⟨t406, t407⟩, A30, H⟩ := H; (try dsimp only at H); have A3 := mk0 A30; clear A30; have HC4 := mk0 H; clear H; go_enter Try.func9, Try.ntmps9; go_upto_block 0 with (first | ((with_reducible refine gate_callee (f := 23) rfl ?_); refine goesL_ (some 14) rfl rfl Try.func23 (by kernel_rfl) rfl #[.int .i64 (Int.tmod (wrap64 (a0)) 10001)] rfl (by (try simp only [List.map_toArray, List.map_cons, List.map_nil]); first | done | rfl | (simp only [List.length_drop, List.length_take]; rfl)) ?_; (with_reducible refine (norm_Four.calls k (Int.tmod (wrap64 (a0)) 10001) t402 t403 _ A2.out).mono ?_); rintro e w5 ⟨v404, rfl, ho0, hb⟩; refine ⟨_, rfl, ?_⟩; have HO405 := mk0 (Kd.R_lower ho0 (below_size (by repeat (first | (with_reducible first | exact HB.out | apply below_alloc | apply pw_below_drewN | apply below_drew1) | exact HB.out)))); replace HB := mk0 (below_step (by repeat (first | (with_reducible first | exact HB.out | apply below_alloc | apply pw_below_drewN | apply below_drew1) | exact HB.out)) hb); (try clear hb); (try clear ho0)) | ((with_reducible refine gate_callee (f := 24) rfl ?_); refine goesL_ (some 19) rfl rfl Try.func24 (by kernel_rfl) rfl #[.int .i64 (Int.tmod (wrap64 (a0)) 10001)] rfl (by (try simp only [List.map_toArray, List.map_cons, List.map_nil]); first | done | rfl | (simp only [List.length_drop, List.length_take]; rfl)) ?_; (with_reducible refine (norm_Three.calls k (Int.tmod (wrap64 (a0)) 10001) t406 t407 _ A3.out).mono ?_); rintro e w6 ⟨v408, rfl, ho0, hb⟩; refine ⟨_, rfl, ?_⟩; have HO409 := mk0 (Kd.R_lower (Kd.R_new' ho0 (Kd.R_lt (by (with_reducible repeat (first | apply Kd.R_alloc | apply Kd.R_drewN | apply Kd.R_drew)); exact HO405.out))) (below_size (by repeat (first | (with_reducible first | exact HB.out | apply below_alloc | apply pw_below_drewN | apply below_drew1) | exact HB.out)))); replace HO405 := mk0 (Kd.R_elder' (by (with_reducible repeat (first | apply Kd.R_alloc | apply Kd.R_drewN | apply Kd.R_drew)); exact HO405.out) (Kd.R_base ho0) hb); replace HB := mk0 (below_step (by repeat (first | (with_reducible first | exact HB.out | apply below_alloc | apply pw_below_drewN | apply below_drew1) | exact HB.out)) hb); (try clear hb); (try clear ho0))); (try simp only [Act.put, List.setIfInBounds_toArray, List.set_cons_zero, List.set_cons_succ])
 go_cut [8] (fun v8 wc => ∃ (kq : Nat) (x8_3 : Int), v8 = .int .i64 x8_3 ∧ Aside0 (bellpulllaw04_NormLagrange.j1 kq (Int.tmod (wrap64 (a0)) 10001) t402 t403 t406 t407 x8_3 = some r) ∧ Aside0 (kq ≤ k) ∧ Aside0 (Kd.R (Kd.int .i64) 3 wc w.heap.size (fun k_ => some k_ ≠ (v408 : Value).ownBlock) v404 t402) ∧ Aside0 (Kd.R (Kd.int .i64) 3 wc w.heap.size (fun k_ => some k_ ≠ (v404 : Value).ownBlock) v408 t406) ∧ Aside0 (Below w.heap.size w wc))
 case first =>
  have H := HC4.out; clear HC4; have H' := mk0 H; clear H; go_wp2
  go_loopg [8] k (fun kq v8 w' => ∃ (x8_1 : Int), v8 = .int .i64 x8_1 ∧ Aside0 (bellpulllaw04_NormLagrange.l0 kq (Int.tmod (wrap64 (a0)) 10001) t402 t403 t406 t407 x8_1 = some r) ∧ Aside0 (kq ≤ k) ∧ Aside0 (Kd.R (Kd.int .i64) 3 w' w.heap.size (fun k_ => some k_ ≠ (v408 : Value).ownBlock) v404 t402) ∧ Aside0 (Kd.R (Kd.int .i64) 3 w' w.heap.size (fun k_ => some k_ ≠ (v404 : Value).ownBlock) v408 t406) ∧ Aside0 (Below w.heap.size w w'))
  case atStart => exact ⟨(Int.tmod (wrap64 (a0)) 10001), (by first | rfl | (simp; done) | (simp [*]; done)), H', ⟨Nat.le_refl _⟩, ⟨by (with_reducible repeat (first | apply Kd.R_alloc | apply Kd.R_drewN | apply Kd.R_drew)); exact Kd.R_mono HO405.out (fun _ hk => hk.2)⟩, ⟨by (with_reducible repeat (first | apply Kd.R_alloc | apply Kd.R_drewN | apply Kd.R_drew)); exact Kd.R_mono HO409.out (fun _ hk => hk.2)⟩, ⟨by repeat (first | (with_reducible first | exact HB.out | apply below_alloc | apply pw_below_drewN | apply below_drew1) | exact HB.out)⟩⟩
  case round =>
   clear H'; try clear c2
   try clear p2
   try clear p6
   obtain ⟨x8_1, rfl, HA, HK1, HO_4, HO_6, HB⟩ := hrel; cases gk with
   | zero => exact absurd HA.out (by simp [bellpulllaw04_NormLagrange.l0])
   | succ k1 =>
    have H := HA.out; clear HA; simp only [bellpulllaw04_NormLagrange.l0] at H
    by_cases c7 : x8_1 > 0
    ·
     rw [if_pos c7] at H; have c7b0 : decide (0 < x8_1) = true := decide_eq_true c7; clear c7; (first | rw [c7b0] | (simp only [i64_w, i32_w]; rw [c7b0]) | skip)
     by_cases c8 : (Int.tmod x8_1 4) = 0
     ·
      rw [if_pos c8] at H; have c8b0 : ((Int.tmod x8_1 4) == 0) = true := beq_iff_eq.mpr c8; have c8b1 : ((Int.tmod x8_1 4) != 0) = false := bne_eq_false_iff_eq.mpr c8; clear c8; have H' := mk0 H; clear H; go_wp2; go_roundg k1
      case measure => have := HK1.out; omega
      case rel => exact ⟨(wrap64 (Int.tdiv x8_1 4)), (by first | rfl | (simp; done) | (simp [*]; done)), H', ⟨by have := HK1.out; omega⟩, ⟨by (with_reducible repeat (first | apply Kd.R_alloc | apply Kd.R_drewN | apply Kd.R_drew)); exact HO_4.out⟩, ⟨by (with_reducible repeat (first | apply Kd.R_alloc | apply Kd.R_drewN | apply Kd.R_drew)); exact HO_6.out⟩, ⟨by repeat (first | (with_reducible first | exact HB.out | apply below_alloc | apply pw_below_drewN | apply below_drew1) | exact HB.out)⟩⟩
     ·
      rw [if_neg c8] at H; have c8b0 : ((Int.tmod x8_1 4) == 0) = false := beq_eq_false_iff_ne.mpr c8; have c8b1 : ((Int.tmod x8_1 4) != 0) = true := bne_iff_ne.mpr c8; have H' := mk0 H; clear H; go_wp2; go_meet
      case rel => exact ⟨_, (x8_1), (by first | rfl | (simp; done) | (simp [*]; done)), H', ⟨by have := HK1.out; first | omega | exact Nat.le_refl _⟩, ⟨by (with_reducible repeat (first | apply Kd.R_alloc | apply Kd.R_drewN | apply Kd.R_drew)); exact HO_4.out⟩, ⟨by (with_reducible repeat (first | apply Kd.R_alloc | apply Kd.R_drewN | apply Kd.R_drew)); exact HO_6.out⟩, ⟨by repeat (first | (with_reducible first | exact HB.out | apply below_alloc | apply pw_below_drewN | apply below_drew1) | exact HB.out)⟩⟩
    ·
     rw [if_neg c7] at H; have c7b0 : decide (0 < x8_1) = false := decide_eq_false c7; clear c7; (first | rw [c7b0] | (simp only [i64_w, i32_w]; rw [c7b0]) | skip); have H' := mk0 H; clear H; go_wp2; go_meet
     case rel => exact ⟨_, (x8_1), (by first | rfl | (simp; done) | (simp [*]; done)), H', ⟨by have := HK1.out; first | omega | exact Nat.le_refl _⟩, ⟨by (with_reducible repeat (first | apply Kd.R_alloc | apply Kd.R_drewN | apply Kd.R_drew)); exact HO_4.out⟩, ⟨by (with_reducible repeat (first | apply Kd.R_alloc | apply Kd.R_drewN | apply Kd.R_drew)); exact HO_6.out⟩, ⟨by repeat (first | (with_reducible first | exact HB.out | apply below_alloc | apply pw_below_drewN | apply below_drew1) | exact HB.out)⟩⟩
 case rest =>
  clear HC4; try clear c2
  try clear p2
  try clear p6
  try clear c7
  try clear c7b0
  try clear c8
  try clear c8b0
  try clear c8b1
  try clear p2
  try clear p6
  obtain ⟨kq, x8_3, rfl, HA, HJ3, HO_4, HO_6, HB⟩ := hcut; cases kq with
  | zero => exact absurd HA.out (by simp [bellpulllaw04_NormLagrange.j1])
  | succ kj3 =>
   have H := HA.out; clear HA; simp only [bellpulllaw04_NormLagrange.j1] at H; have HC9 := mk0 H; clear H; go_upto_region 7 with (fail)
   go_cut [43] (fun v43 wc => ∃ (kq : Nat) (x43_8 : Bool), v43 = .bool x43_8 ∧ Aside0 (bellpulllaw04_NormLagrange.j2 kq (Int.tmod (wrap64 (a0)) 10001) t406 t407 x8_3 x43_8 = some r) ∧ Aside0 (kq ≤ kj3) ∧ Aside0 (Kd.R (Kd.int .i64) 3 wc w.heap.size (fun _ => True) v408 t406) ∧ Aside0 (Below w.heap.size w wc))
   case first =>
    have H := HC9.out; clear HC9
    by_cases c10 : t403 = 0
    ·
     rw [if_pos c10] at H; have c10b0 : (t403 == 0) = true := beq_iff_eq.mpr c10; have c10b1 : (t403 != 0) = false := bne_eq_false_iff_eq.mpr c10; clear c10; (first | rw [c10b0] | (simp only [i64_w, i32_w]; rw [c10b0]) | skip); replace H := Option.bind_eq_some_iff.mp H; obtain ⟨t410, A110, H⟩ := H; (try dsimp only at H); have A11 := mk0 A110; clear A110
     by_cases c12 : t410 = true
     ·
      subst c12; have H1 : ((bellpulllaw04_lives.f kj3).bind fun t411 => (bellpulllaw04_NormLagrange.j2 kj3 (Int.tmod (wrap64 (a0)) 10001) t406 t407 x8_3 (!t411))) = some r := by rw [if_pos rfl] at H; exact H
      clear H; have H := H1; clear H1; replace H := Option.bind_eq_some_iff.mp H; obtain ⟨t411, A130, H⟩ := H; (try dsimp only at H); have A13 := mk0 A130; clear A130; have H' := mk0 H; clear H; obtain ⟨Ao14, co14, eo14⟩ := Kd.R_slice HO_4.out; subst eo14; go_wp2_with (first | (go_at_call 37; (with_reducible refine (bellpulllaw04_sum.calls kj3 _ _ t402 4 (Int.tmod (wrap64 (a0)) 10001) true _ ?side1 ?side2 A11.out).mono ?_); (case side1 => repeat (first | exact (Kd.R_reads' HO_4.out).2.2 | (with_reducible refine Kd.C_alloc ?_ _) | (with_reducible refine Kd.C_drewN ?_ _) | (with_reducible refine Kd.C_drew ?_))); (case side2 => exact (Kd.R_reads' HO_4.out).2.1); rintro e w' ⟨rfl, ⟨nd, rfl⟩⟩) | (go_at_call 19; (with_reducible refine (bellpulllaw04_lives.calls kj3  t411 _ A13.out).mono ?_); rintro e w15 ⟨rfl, hb⟩; replace HO_4 := mk0 (Kd.R_below (by (with_reducible repeat (first | apply Kd.R_alloc | apply Kd.R_drewN | apply Kd.R_drew)); exact HO_4.out) hb); replace HO_6 := mk0 (Kd.R_below (by (with_reducible repeat (first | apply Kd.R_alloc | apply Kd.R_drewN | apply Kd.R_drew)); exact HO_6.out) hb); replace HB := mk0 (below_step (by repeat (first | (with_reducible first | exact HB.out | apply below_alloc | apply pw_below_drewN | apply below_drew1) | exact HB.out)) hb); (try clear hb))); go_meet
      case rel => exact ⟨_, (!t411), (by first | rfl | (simp; done) | (simp [*]; done)), H', ⟨by have := HJ3.out; first | omega | exact Nat.le_refl _⟩, ⟨by (with_reducible repeat (first | apply Kd.R_alloc | apply Kd.R_drewN | apply Kd.R_drew)); exact Kd.R_mono HO_6.out (fun _ hk => trivial)⟩, ⟨by repeat (first | (with_reducible first | exact HB.out | apply below_alloc | apply pw_below_drewN | apply below_drew1) | exact HB.out)⟩⟩
     ·
      replace c12 := Bool.eq_false_iff.mpr c12; subst c12; have H1 : (none) = some r := by rw [if_neg (show ¬ (false = true) by decide)] at H; exact H
      clear H; have H := H1; clear H1; exact absurd H (by simp)
    ·
     rw [if_neg c10] at H; exact absurd H (by simp)
   case rest =>
    clear HC9; try clear c1
    try clear c2
    try clear p2
    try clear p6
    try clear c7
    try clear c7b0
    try clear c8
    try clear c8b0
    try clear c8b1
    try clear c9
    try clear c10
    try clear c10b0
    try clear c10b1
    try clear c12
    try clear p2
    try clear p6
    obtain ⟨kq, x43_8, rfl, HA, HJ8, HO_6, HB⟩ := hcut; cases kq with
    | zero => exact absurd HA.out (by simp [bellpulllaw04_NormLagrange.j2])
    | succ kj8 =>
     have H := HA.out; clear HA; simp only [bellpulllaw04_NormLagrange.j2] at H
     by_cases c16 : x43_8 = true
     ·
      subst c16; have H1 : (none) = some r := by rw [if_pos rfl] at H; exact H
      clear H; have H := H1; clear H1; exact absurd H (by simp)
     ·
      replace c16 := Bool.eq_false_iff.mpr c16; subst c16; have H1 : (if (Int.tmod x8_3 8) = 7 then (if t407 = 5 then (some ((t406.length : Int) == 0)) else (none)) else (if t407 = 0 then ((bellpulllaw04_sum.f kj8 t406 3 (Int.tmod (wrap64 (a0)) 10001)).bind fun t412 => (some t412)) else (none))) = some r := by rw [if_neg (show ¬ (false = true) by decide)] at H; exact H
      clear H; have H := H1; clear H1
      by_cases c17 : (Int.tmod x8_3 8) = 7
      ·
       rw [if_pos c17] at H; have c17b0 : ((Int.tmod x8_3 8) == 7) = true := beq_iff_eq.mpr c17; have c17b1 : ((Int.tmod x8_3 8) != 7) = false := bne_eq_false_iff_eq.mpr c17; clear c17
       by_cases c18 : t407 = 5
       ·
        rw [if_pos c18] at H; have c18b0 : (t407 == 5) = true := beq_iff_eq.mpr c18; have c18b1 : (t407 != 5) = false := bne_eq_false_iff_eq.mpr c18; clear c18; obtain rfl := Option.some.inj H; obtain ⟨Ao19, co19, eo19⟩ := Kd.R_slice HO_6.out; subst eo19; go_wp2; go_ret; exact ⟨by first | rfl | (simp [errW_none, errW_some] <;> rfl) | (simp [*, errW_none, errW_some] <;> rfl), by repeat (first | (with_reducible first | exact HB.out | apply below_alloc | apply pw_below_drewN | apply below_drew1) | exact HB.out)⟩
       ·
        rw [if_neg c18] at H; exact absurd H (by simp)
      ·
       rw [if_neg c17] at H; have c17b0 : ((Int.tmod x8_3 8) == 7) = false := beq_eq_false_iff_ne.mpr c17; have c17b1 : ((Int.tmod x8_3 8) != 7) = true := bne_iff_ne.mpr c17
       by_cases c20 : t407 = 0
       ·
        rw [if_pos c20] at H; have c20b0 : (t407 == 0) = true := beq_iff_eq.mpr c20; have c20b1 : (t407 != 0) = false := bne_eq_false_iff_eq.mpr c20; clear c20; replace H := Option.bind_eq_some_iff.mp H; obtain ⟨t412, A210, H⟩ := H; (try dsimp only at H); have A21 := mk0 A210; clear A210; obtain rfl := Option.some.inj H; obtain ⟨Ao22, co22, eo22⟩ := Kd.R_slice HO_6.out; subst eo22; go_wp2_with (first | (go_at_call 37; (with_reducible refine (bellpulllaw04_sum.calls kj8 _ _ t406 3 (Int.tmod (wrap64 (a0)) 10001) t412 _ ?side1 ?side2 A21.out).mono ?_); (case side1 => repeat (first | exact (Kd.R_reads' HO_6.out).2.2 | (with_reducible refine Kd.C_alloc ?_ _) | (with_reducible refine Kd.C_drewN ?_ _) | (with_reducible refine Kd.C_drew ?_))); (case side2 => exact (Kd.R_reads' HO_6.out).2.1); rintro e w' ⟨rfl, ⟨nd, rfl⟩⟩)); go_ret; exact ⟨by first | rfl | (simp [errW_none, errW_some] <;> rfl) | (simp [*, errW_none, errW_some] <;> rfl), by repeat (first | (with_reducible first | exact HB.out | apply below_alloc | apply pw_below_drewN | apply below_drew1) | exact HB.out)⟩
       ·
        rw [if_neg c20] at H; exact absurd H (by simp)
/-- THE ONE PURE STATEMENT of bellpulllaw04_NormLagrange: yours. -/
def bellpulllaw04_NormLagrange.Pure : Prop := ∀ (a0 : Int), (Lit.int .u16 a0).wf = true → ∃ k, bellpulllaw04_NormLagrange.f k a0 = some true
theorem bellpulllaw04_NormLagrange.walk (P : bellpulllaw04_NormLagrange.Pure) (a0 : Int) (w : World) (w0 : (Lit.int .u16 a0).wf = true) :
    Calls Try.prog 9 #[.int .u16 a0] w fun e w' => e = .returned (.bool true) ∧ Below w.heap.size w w' := by
  obtain ⟨k, h⟩ := P a0 w0
  refine (bellpulllaw04_NormLagrange.calls k a0 true w h).mono ?_
  rintro e w' ⟨rfl, hd⟩
  exact ⟨rfl, hd⟩

end Go.Proofs.Ytgfnmimfoicmmaa.PM
