-- Written by pr2.py, a program of this session's, for this claim (through the kit's print).
import Derived.Test.YtgfnmimfoicmmaaPMx0
import Derived.Test.YtgfnmimfoicmmaaPMx13
import Derived.Test.YtgfnmimfoicmmaaPMx14
namespace Go.Proofs.Ytgfnmimfoicmmaa.PM
open Go.Proofs.MyWords Go.RowKit Go.Proofs.YtgfnmimfoicmmaaW.PrintWords Go.Proofs.YtgfnmimfoicmmaaW.PrintLast Go.Proofs.YtgfnmimfoicmmaaW.PrintMore
attribute [local go_sem] max2_int min2_int max_two min_two max_three min_three max_four min_four   -- for this text's walks alone
set_option linter.unusedVariables false
set_option linter.unusedSimpArgs false

attribute [local go_sem] idx67_0 idx67_1 idx67_2 idx67_3
attribute [local go_sem] eqGuard_slices eqlnil36 neqnil36
/-! ### bellpullref04_Hurwitz: function 31 -/
def bellpullref04_Hurwitz.l0 : Nat → Int → List Int → Int → Int → Option (Int)
  | 0, _, _, _, _ => none
  | k + 1, x0, x3, x4, x5 => if x5 ≤ (wrap64 (4 * x0)) then (if 0 ≤ x5 then (if x5 < (x3.length : Int) then (if 0 ≤ (wrap64 ((wrap64 (4 * x0)) - x5)) then (if (wrap64 ((wrap64 (4 * x0)) - x5)) < (x3.length : Int) then (bellpullref04_Hurwitz.l0 k x0 x3 (wrap64 (x4 + (wrap64 ((rd x3 x5) * (rd x3 (wrap64 ((wrap64 (4 * x0)) - x5))))))) (wrap64 (x5 + 1))) else (none)) else (none)) else (none)) else (none)) else (some x4)
def bellpullref04_Hurwitz.f (k : Nat) (a0 : Int) : Option (Int) := (bellpullref04_Pairs.f k (wrap64 (4 * a0)) 200 1).bind fun t455 => ((bellpullref04_Count.f k a0).bind fun t458 => (bellpullref04_Hurwitz.l0 k a0 t455 t458 0))
theorem bellpullref04_Hurwitz.mono_l : ∀ k, (∀ y0 y1 y2 y3, LeO (bellpullref04_Hurwitz.l0 k y0 y1 y2 y3) (bellpullref04_Hurwitz.l0 (k + 1) y0 y1 y2 y3))
  | 0 => fun _ _ _ _ r h => by simp [bellpullref04_Hurwitz.l0] at h
  | k + 1 => by
    have ih0 := bellpullref04_Hurwitz.mono_l k
    · intro y0 y1 y2 y3
      unfold bellpullref04_Hurwitz.l0
      repeat' first
      | (with_reducible exact ih0 _ _ _ _)
      | (with_reducible exact bellpullref04_Count.mono _ _)
      | (with_reducible exact bellpullref04_Pairs.mono _ _ _ _)
      | (with_reducible exact LeO.refl _)
      | (with_reducible exact LeO.none _)
      | (with_reducible refine LeO.ite ?_ ?_)
      | (with_reducible refine LeO.bind ?_ (fun _ => ?_))
      | exact ih0 _ _ _ _
      | exact bellpullref04_Count.mono _ _
      | exact bellpullref04_Pairs.mono _ _ _ _
      | exact LeO.none _
      | refine LeO.ite ?_ ?_
      | refine LeO.bind ?_ (fun _ => ?_)
theorem bellpullref04_Hurwitz.mono : ∀ a0 k, LeO (bellpullref04_Hurwitz.f k a0) (bellpullref04_Hurwitz.f (k + 1) a0) := by
  intro a0 k
  have ih0 := bellpullref04_Hurwitz.mono_l k
  unfold bellpullref04_Hurwitz.f
  repeat' first
      | (with_reducible exact ih0 _ _ _ _)
      | (with_reducible exact bellpullref04_Count.mono _ _)
      | (with_reducible exact bellpullref04_Pairs.mono _ _ _ _)
      | (with_reducible exact LeO.refl _)
      | (with_reducible exact LeO.none _)
      | (with_reducible refine LeO.ite ?_ ?_)
      | (with_reducible refine LeO.bind ?_ (fun _ => ?_))
      | exact ih0 _ _ _ _
      | exact bellpullref04_Count.mono _ _
      | exact bellpullref04_Pairs.mono _ _ _ _
      | exact LeO.none _
      | refine LeO.ite ?_ ?_
      | refine LeO.bind ?_ (fun _ => ?_)
set_option maxHeartbeats 8000000 in
set_option maxRecDepth 100000 in
theorem bellpullref04_Hurwitz.calls (k : Nat) (a0 : Int) (r : Int) (w : World) (h : bellpullref04_Hurwitz.f k a0 = some r) :
    Calls Try.prog 31 #[.int .i64 a0] w fun e w' => e = .returned (.int .i64 r) ∧ Below w.heap.size w w' := by
 have HB := mk0 (Below.refl w.heap.size w); have H : ((bellpullref04_Pairs.f k (wrap64 (4 * a0)) 200 1).bind fun t455 => ((bellpullref04_Count.f k a0).bind fun t458 => (bellpullref04_Hurwitz.l0 k a0 t455 t458 0))) = some r := h; clear h; replace H := Option.bind_eq_some_iff.mp H; obtain ⟨t455, A20, H⟩ := H; (try dsimp only at H); have A2 := mk0 A20; clear A20; replace H := Option.bind_eq_some_iff.mp H; obtain ⟨t458, A30, H⟩ := H; (try dsimp only at H); have A3 := mk0 A30; clear A30; have H' := mk0 H; clear H; go_enter Try.func31, Try.ntmps31; go_wp2_with (first | (go_at_call 64; (with_reducible refine (bellpullref04_Pairs.calls k (wrap64 (4 * a0)) 200 1 t455 _ A2.out).mono ?_); rintro e w4 ⟨v456, rfl, ho0, hb⟩; have HO457 := mk0 (Kd.R_lower ho0 (below_size HB.out)); replace HB := bst HB hb; (try clear hb); (try clear ho0)) | (go_at_call 30; (with_reducible refine (bellpullref04_Count.calls k a0 t458 _ A3.out).mono ?_); rintro e w5 ⟨rfl, hb⟩; replace HO457 := rbl HO457 hb; replace HB := bst HB hb; (try clear hb))); repeat (go_quiet (first | (go_at_call 64; (with_reducible refine (bellpullref04_Pairs.calls k (wrap64 (4 * a0)) 200 1 t455 _ A2.out).mono ?_); rintro e w4 ⟨v456, rfl, ho0, hb⟩; have HO457 := mk0 (Kd.R_lower ho0 (below_size HB.out)); replace HB := bst HB hb; (try clear hb); (try clear ho0)) | (go_at_call 30; (with_reducible refine (bellpullref04_Count.calls k a0 t458 _ A3.out).mono ?_); rintro e w5 ⟨rfl, hb⟩; replace HO457 := rbl HO457 hb; replace HB := bst HB hb; (try clear hb))); try go_wp2_with (first | (go_at_call 64; (with_reducible refine (bellpullref04_Pairs.calls k (wrap64 (4 * a0)) 200 1 t455 _ A2.out).mono ?_); rintro e w4 ⟨v456, rfl, ho0, hb⟩; have HO457 := mk0 (Kd.R_lower ho0 (below_size HB.out)); replace HB := bst HB hb; (try clear hb); (try clear ho0)) | (go_at_call 30; (with_reducible refine (bellpullref04_Count.calls k a0 t458 _ A3.out).mono ?_); rintro e w5 ⟨rfl, hb⟩; replace HO457 := rbl HO457 hb; replace HB := bst HB hb; (try clear hb))))
 go_loopg [4, 5] k (fun kq v4 v5 w' => ∃ (x4_1 : Int) (x5_1 : Int), v4 = .int .i64 x4_1 ∧ v5 = .int .i64 x5_1 ∧ Aside0 (bellpullref04_Hurwitz.l0 kq a0 t455 x4_1 x5_1 = some r) ∧ Aside0 (kq ≤ k) ∧ Aside0 (Kd.R (Kd.int .i64) 3 w' w.heap.size (fun _ => True) v456 t455) ∧ Aside0 (Below w.heap.size w w'))
 case atStart => exact ⟨(t458), (0), (by first | rfl | (simp; done) | (simp [*]; done)), (by first | rfl | (simp; done) | (simp [*]; done)), H', ⟨Nat.le_refl _⟩, ⟨by (with_reducible repeat (first | apply Kd.R_alloc | apply Kd.R_drewN | apply Kd.R_drew)); exact HO457.out⟩, ⟨by repeat (first | (with_reducible first | exact HB.out | apply below_alloc | apply pw_below_drewN | apply below_drew1) | exact HB.out)⟩⟩
 case round =>
  clear H'; try clear p2
  try clear c3
  obtain ⟨x4_1, x5_1, rfl, rfl, HA, HK1, HO_3, HB⟩ := hrel; cases gk with
  | zero => exact absurd HA.out (by simp [bellpullref04_Hurwitz.l0])
  | succ k1 =>
   have H := HA.out; clear HA; simp only [bellpullref04_Hurwitz.l0] at H
   by_cases c6 : x5_1 ≤ (wrap64 (4 * a0))
   ·
    rw [if_pos c6] at H; have c6b0 : decide (x5_1 ≤ (wrap64 (4 * a0))) = true := decide_eq_true c6; clear c6
    by_cases c7 : 0 ≤ x5_1
    ·
     rw [if_pos c7] at H; have c7b0 : decide (0 ≤ x5_1) = true := decide_eq_true c7; clear c7
     by_cases c8 : x5_1 < (t455.length : Int)
     ·
      rw [if_pos c8] at H; have c8b0 : decide (x5_1 < (t455.length : Int)) = true := decide_eq_true c8; clear c8; obtain ⟨ji9, hji9⟩ : ∃ j_ : Int, (wrap64 ((wrap64 (4 * a0)) - x5_1)) = j_ := ⟨_, rfl⟩
      replace H : (if 0 ≤ (ji9) then (if (ji9) < (t455.length : Int) then (bellpullref04_Hurwitz.l0 k1 a0 t455 (wrap64 (x4_1 + (wrap64 ((rd t455 x5_1) * (rd t455 (ji9)))))) (wrap64 (x5_1 + 1))) else (none)) else (none)) = some r := by first | (rw [hji9] at H; exact H) | (simp only [hji9] at H ⊢; exact H)
      have hji9w : (IntKind.i64.wrap ((wrap64 (4 * a0)) - x5_1)) = ji9 := (i64_w _).trans hji9
      by_cases c10 : 0 ≤ (ji9)
      ·
       rw [if_pos c10] at H; have c10b0 : decide (0 ≤ (ji9)) = true := decide_eq_true c10; clear c10
       by_cases c11 : (ji9) < (t455.length : Int)
       ·
        rw [if_pos c11] at H; have c11b0 : decide ((ji9) < (t455.length : Int)) = true := decide_eq_true c11; clear c11; have H' := mk0 H; clear H; obtain ⟨Ao12, co12, eo12⟩ := Kd.R_slice HO_3.out; subst eo12; have p459 : 0 ≤ (x5_1 : Int) := of_decide_eq_true (by first | (with_reducible assumption) | assumption); have q459 : x5_1 < (t455.length : Int) := of_decide_eq_true (by first | (with_reducible assumption) | assumption); obtain ⟨ad459, e459, hx459_0⟩ := Kd.at_int (Kd.R_reads' HO_3.out).2.2 x5_1 p459 q459; cases e459; replace p459 := eq_true p459; replace q459 := eq_true q459; have p460 : 0 ≤ ((ji9) : Int) := of_decide_eq_true (by first | (with_reducible assumption) | assumption); have q460 : (ji9) < (t455.length : Int) := of_decide_eq_true (by first | (with_reducible assumption) | assumption); obtain ⟨ad460, e460, hx460_0⟩ := Kd.at_int (Kd.R_reads' HO_3.out).2.2 (ji9) p460 q460; obtain rfl : ad459 = ad460 := (by injection e460)
        replace p460 := eq_true p460; replace q460 := eq_true q460; go_wp2; repeat (go_quiet (fail); try go_wp2)
        go_roundg k1
        case measure => have := HK1.out; omega
        case rel => exact ⟨(wrap64 (x4_1 + (wrap64 ((rd t455 x5_1) * (rd t455 (ji9)))))), (wrap64 (x5_1 + 1)), (by first | rfl | (simp; done) | (simp only [← hji9] <;> (first | rfl | simp)) | (simp [*]; done)), (by first | rfl | (simp; done) | (simp [*]; done)), H', ⟨by have := HK1.out; omega⟩, ⟨by (with_reducible repeat (first | apply Kd.R_alloc | apply Kd.R_drewN | apply Kd.R_drew)); exact HO_3.out⟩, ⟨by repeat (first | (with_reducible first | exact HB.out | apply below_alloc | apply pw_below_drewN | apply below_drew1) | exact HB.out)⟩⟩
       ·
        rw [if_neg c11] at H; exact absurd H (by simp)
      ·
       rw [if_neg c10] at H; exact absurd H (by simp)
     ·
      rw [if_neg c8] at H; exact absurd H (by simp)
    ·
     rw [if_neg c7] at H; exact absurd H (by simp)
   ·
    rw [if_neg c6] at H; have c6b0 : decide (x5_1 ≤ (wrap64 (4 * a0))) = false := decide_eq_false c6; clear c6; obtain rfl := Option.some.inj H; go_wp2; repeat (go_quiet (fail); try go_wp2)
    go_ret; exact ⟨by first | rfl | (simp [errW_none, errW_some] <;> rfl) | (simp [*, errW_none, errW_some] <;> rfl), by repeat (first | (with_reducible first | exact HB.out | apply below_alloc | apply pw_below_drewN | apply below_drew1) | exact HB.out)⟩
end Go.Proofs.Ytgfnmimfoicmmaa.PM
