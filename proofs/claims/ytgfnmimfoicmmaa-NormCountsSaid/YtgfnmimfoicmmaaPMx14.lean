-- Written by pr2.py, a program of this session's, for this claim (through the kit's print).
import Derived.Test.YtgfnmimfoicmmaaPMx0
import Derived.Test.YtgfnmimfoicmmaaPMx13
namespace Go.Proofs.Ytgfnmimfoicmmaa.PM
open Go.Proofs.MyWords Go.RowKit Go.Proofs.YtgfnmimfoicmmaaW.PrintWords Go.Proofs.YtgfnmimfoicmmaaW.PrintLast Go.Proofs.YtgfnmimfoicmmaaW.PrintMore
attribute [local go_sem] max2_int min2_int max_two min_two max_three min_three max_four min_four   -- for this text's walks alone
set_option linter.unusedVariables false
set_option linter.unusedSimpArgs false

attribute [local go_sem] idx67_0 idx67_1 idx67_2 idx67_3
attribute [local go_sem] eqGuard_slices eqlnil36 neqnil36
/-! ### bellpullref04_Count: function 30 -/
def bellpullref04_Count.l0 : Nat → Int → List Int → Int → Int → Option (Int)
  | 0, _, _, _, _ => none
  | k + 1, x0, x3, x4, x5 => if x5 ≤ x0 then (if 0 ≤ x5 then (if x5 < (x3.length : Int) then (if 0 ≤ (wrap64 (x0 - x5)) then (if (wrap64 (x0 - x5)) < (x3.length : Int) then (bellpullref04_Count.l0 k x0 x3 (wrap64 (x4 + (wrap64 ((rd x3 x5) * (rd x3 (wrap64 (x0 - x5))))))) (wrap64 (x5 + 1))) else (none)) else (none)) else (none)) else (none)) else (some x4)
def bellpullref04_Count.f (k : Nat) (a0 : Int) : Option (Int) := (bellpullref04_Pairs.f k a0 100 2).bind fun t450 => (bellpullref04_Count.l0 k a0 t450 0 0)
theorem bellpullref04_Count.mono_l : ∀ k, (∀ y0 y1 y2 y3, LeO (bellpullref04_Count.l0 k y0 y1 y2 y3) (bellpullref04_Count.l0 (k + 1) y0 y1 y2 y3))
  | 0 => fun _ _ _ _ r h => by simp [bellpullref04_Count.l0] at h
  | k + 1 => by
    have ih0 := bellpullref04_Count.mono_l k
    · intro y0 y1 y2 y3
      unfold bellpullref04_Count.l0
      repeat' first
      | (with_reducible exact ih0 _ _ _ _)
      | (with_reducible exact bellpullref04_Pairs.mono _ _ _ _)
      | (with_reducible exact LeO.refl _)
      | (with_reducible exact LeO.none _)
      | (with_reducible refine LeO.ite ?_ ?_)
      | (with_reducible refine LeO.bind ?_ (fun _ => ?_))
      | exact ih0 _ _ _ _
      | exact bellpullref04_Pairs.mono _ _ _ _
      | exact LeO.none _
      | refine LeO.ite ?_ ?_
      | refine LeO.bind ?_ (fun _ => ?_)
theorem bellpullref04_Count.mono : ∀ a0 k, LeO (bellpullref04_Count.f k a0) (bellpullref04_Count.f (k + 1) a0) := by
  intro a0 k
  have ih0 := bellpullref04_Count.mono_l k
  unfold bellpullref04_Count.f
  repeat' first
      | (with_reducible exact ih0 _ _ _ _)
      | (with_reducible exact bellpullref04_Pairs.mono _ _ _ _)
      | (with_reducible exact LeO.refl _)
      | (with_reducible exact LeO.none _)
      | (with_reducible refine LeO.ite ?_ ?_)
      | (with_reducible refine LeO.bind ?_ (fun _ => ?_))
      | exact ih0 _ _ _ _
      | exact bellpullref04_Pairs.mono _ _ _ _
      | exact LeO.none _
      | refine LeO.ite ?_ ?_
      | refine LeO.bind ?_ (fun _ => ?_)
set_option maxHeartbeats 8000000 in
set_option maxRecDepth 100000 in
theorem bellpullref04_Count.calls (k : Nat) (a0 : Int) (r : Int) (w : World) (h : bellpullref04_Count.f k a0 = some r) :
    Calls Try.prog 30 #[.int .i64 a0] w fun e w' => e = .returned (.int .i64 r) ∧ Below w.heap.size w w' := by
 have HB := mk0 (Below.refl w.heap.size w); have H : ((bellpullref04_Pairs.f k a0 100 2).bind fun t450 => (bellpullref04_Count.l0 k a0 t450 0 0)) = some r := h; clear h; replace H := Option.bind_eq_some_iff.mp H; obtain ⟨t450, A20, H⟩ := H; (try dsimp only at H); have A2 := mk0 A20; clear A20; have H' := mk0 H; clear H; go_enter Try.func30, Try.ntmps30; go_wp2_with (first | (go_at_call 64; (with_reducible refine (bellpullref04_Pairs.calls k a0 100 2 t450 _ A2.out).mono ?_); rintro e w3 ⟨v451, rfl, ho0, hb⟩; have HO452 := mk0 (Kd.R_lower ho0 (below_size HB.out)); replace HB := bst HB hb; (try clear hb); (try clear ho0))); repeat (go_quiet (first | (go_at_call 64; (with_reducible refine (bellpullref04_Pairs.calls k a0 100 2 t450 _ A2.out).mono ?_); rintro e w3 ⟨v451, rfl, ho0, hb⟩; have HO452 := mk0 (Kd.R_lower ho0 (below_size HB.out)); replace HB := bst HB hb; (try clear hb); (try clear ho0))); try go_wp2_with (first | (go_at_call 64; (with_reducible refine (bellpullref04_Pairs.calls k a0 100 2 t450 _ A2.out).mono ?_); rintro e w3 ⟨v451, rfl, ho0, hb⟩; have HO452 := mk0 (Kd.R_lower ho0 (below_size HB.out)); replace HB := bst HB hb; (try clear hb); (try clear ho0))))
 go_loopg [4, 5] k (fun kq v4 v5 w' => ∃ (x4_1 : Int) (x5_1 : Int), v4 = .int .i64 x4_1 ∧ v5 = .int .i64 x5_1 ∧ Aside0 (bellpullref04_Count.l0 kq a0 t450 x4_1 x5_1 = some r) ∧ Aside0 (kq ≤ k) ∧ Aside0 (Kd.R (Kd.int .i64) 3 w' w.heap.size (fun _ => True) v451 t450) ∧ Aside0 (Below w.heap.size w w'))
 case atStart => exact ⟨(0), (0), (by first | rfl | (simp; done) | (simp [*]; done)), (by first | rfl | (simp; done) | (simp [*]; done)), H', ⟨Nat.le_refl _⟩, ⟨by (with_reducible repeat (first | apply Kd.R_alloc | apply Kd.R_drewN | apply Kd.R_drew)); exact HO452.out⟩, ⟨by repeat (first | (with_reducible first | exact HB.out | apply below_alloc | apply pw_below_drewN | apply below_drew1) | exact HB.out)⟩⟩
 case round =>
  clear H'; try clear p2
  try clear c3
  obtain ⟨x4_1, x5_1, rfl, rfl, HA, HK1, HO_3, HB⟩ := hrel; cases gk with
  | zero => exact absurd HA.out (by simp [bellpullref04_Count.l0])
  | succ k1 =>
   have H := HA.out; clear HA; simp only [bellpullref04_Count.l0] at H
   by_cases c4 : x5_1 ≤ a0
   ·
    rw [if_pos c4] at H; have c4b0 : decide (x5_1 ≤ a0) = true := decide_eq_true c4; clear c4
    by_cases c5 : 0 ≤ x5_1
    ·
     rw [if_pos c5] at H; have c5b0 : decide (0 ≤ x5_1) = true := decide_eq_true c5; clear c5
     by_cases c6 : x5_1 < (t450.length : Int)
     ·
      rw [if_pos c6] at H; have c6b0 : decide (x5_1 < (t450.length : Int)) = true := decide_eq_true c6; clear c6; obtain ⟨ji7, hji7⟩ : ∃ j_ : Int, (wrap64 (a0 - x5_1)) = j_ := ⟨_, rfl⟩
      replace H : (if 0 ≤ (ji7) then (if (ji7) < (t450.length : Int) then (bellpullref04_Count.l0 k1 a0 t450 (wrap64 (x4_1 + (wrap64 ((rd t450 x5_1) * (rd t450 (ji7)))))) (wrap64 (x5_1 + 1))) else (none)) else (none)) = some r := by first | (rw [hji7] at H; exact H) | (simp only [hji7] at H ⊢; exact H)
      have hji7w : (IntKind.i64.wrap (a0 - x5_1)) = ji7 := (i64_w _).trans hji7
      by_cases c8 : 0 ≤ (ji7)
      ·
       rw [if_pos c8] at H; have c8b0 : decide (0 ≤ (ji7)) = true := decide_eq_true c8; clear c8
       by_cases c9 : (ji7) < (t450.length : Int)
       ·
        rw [if_pos c9] at H; have c9b0 : decide ((ji7) < (t450.length : Int)) = true := decide_eq_true c9; clear c9; have H' := mk0 H; clear H; obtain ⟨Ao10, co10, eo10⟩ := Kd.R_slice HO_3.out; subst eo10; have p453 : 0 ≤ (x5_1 : Int) := of_decide_eq_true (by first | (with_reducible assumption) | assumption); have q453 : x5_1 < (t450.length : Int) := of_decide_eq_true (by first | (with_reducible assumption) | assumption); obtain ⟨ad453, e453, hx453_0⟩ := Kd.at_int (Kd.R_reads' HO_3.out).2.2 x5_1 p453 q453; cases e453; replace p453 := eq_true p453; replace q453 := eq_true q453; have p454 : 0 ≤ ((ji7) : Int) := of_decide_eq_true (by first | (with_reducible assumption) | assumption); have q454 : (ji7) < (t450.length : Int) := of_decide_eq_true (by first | (with_reducible assumption) | assumption); obtain ⟨ad454, e454, hx454_0⟩ := Kd.at_int (Kd.R_reads' HO_3.out).2.2 (ji7) p454 q454; obtain rfl : ad453 = ad454 := (by injection e454)
        replace p454 := eq_true p454; replace q454 := eq_true q454; go_wp2; repeat (go_quiet (fail); try go_wp2)
        go_roundg k1
        case measure => have := HK1.out; omega
        case rel => exact ⟨(wrap64 (x4_1 + (wrap64 ((rd t450 x5_1) * (rd t450 (ji7)))))), (wrap64 (x5_1 + 1)), (by first | rfl | (simp; done) | (simp only [← hji7] <;> (first | rfl | simp)) | (simp [*]; done)), (by first | rfl | (simp; done) | (simp [*]; done)), H', ⟨by have := HK1.out; omega⟩, ⟨by (with_reducible repeat (first | apply Kd.R_alloc | apply Kd.R_drewN | apply Kd.R_drew)); exact HO_3.out⟩, ⟨by repeat (first | (with_reducible first | exact HB.out | apply below_alloc | apply pw_below_drewN | apply below_drew1) | exact HB.out)⟩⟩
       ·
        rw [if_neg c9] at H; exact absurd H (by simp)
      ·
       rw [if_neg c8] at H; exact absurd H (by simp)
     ·
      rw [if_neg c6] at H; exact absurd H (by simp)
    ·
     rw [if_neg c5] at H; exact absurd H (by simp)
   ·
    rw [if_neg c4] at H; have c4b0 : decide (x5_1 ≤ a0) = false := decide_eq_false c4; clear c4; obtain rfl := Option.some.inj H; go_wp2; repeat (go_quiet (fail); try go_wp2)
    go_ret; exact ⟨by first | rfl | (simp [errW_none, errW_some] <;> rfl) | (simp [*, errW_none, errW_some] <;> rfl), by repeat (first | (with_reducible first | exact HB.out | apply below_alloc | apply pw_below_drewN | apply below_drew1) | exact HB.out)⟩
end Go.Proofs.Ytgfnmimfoicmmaa.PM
