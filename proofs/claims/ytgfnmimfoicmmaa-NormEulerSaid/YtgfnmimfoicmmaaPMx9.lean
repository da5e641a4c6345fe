-- Written by pr2.py, a program of this session's, for this claim (through the kit's print).
import Derived.Test.YtgfnmimfoicmmaaPMx0
namespace Go.Proofs.Ytgfnmimfoicmmaa.PM
open Go.Proofs.MyWords Go.RowKit Go.Proofs.YtgfnmimfoicmmaaW.PrintWords Go.Proofs.YtgfnmimfoicmmaaW.PrintLast Go.Proofs.YtgfnmimfoicmmaaW.PrintMore
attribute [local go_sem] max2_int min2_int max_two min_two max_three min_three max_four min_four   -- for this text's walks alone
set_option linter.unusedVariables false
set_option linter.unusedSimpArgs false

attribute [local go_sem] idx67_0 idx67_1 idx67_2 idx67_3
attribute [local go_sem] eqGuard_slices eqlnil36 neqnil36
/-! ### bellpulllaw04_sum: function 37 -/
def bellpulllaw04_sum.l0 : Nat → List Int → Int → Int → Int → Option (Bool)
  | 0, _, _, _, _ => none
  | k + 1, x0, x1, x2, x7 => if x7 < x1 then (if 0 ≤ x7 then (if x7 < (x0.length : Int) then (if (rd x0 x7) < 0 then (some false) else (if (rd x0 x7) > 100 then (some false) else (if x7 > 0 then (if 0 ≤ (wrap64 (x7 - 1)) then (if (wrap64 (x7 - 1)) < (x0.length : Int) then (if (rd x0 x7) > (rd x0 (wrap64 (x7 - 1))) then (some false) else (bellpulllaw04_sum.l0 k x0 x1 (wrap64 (x2 - (wrap64 ((rd x0 x7) * (rd x0 x7))))) (wrap64 (x7 + 1)))) else (none)) else (none)) else (bellpulllaw04_sum.l0 k x0 x1 (wrap64 (x2 - (wrap64 ((rd x0 x7) * (rd x0 x7))))) (wrap64 (x7 + 1)))))) else (none)) else (none)) else (some (x2 == 0))
def bellpulllaw04_sum.f (k : Nat) (l0 : List Int) (a1 : Int) (a2 : Int) : Option (Bool) := if (l0.length : Int) = a1 then (bellpulllaw04_sum.l0 k l0 a1 a2 0) else (some false)
theorem bellpulllaw04_sum.mono_l : ∀ k, (∀ y0 y1 y2 y3, LeO (bellpulllaw04_sum.l0 k y0 y1 y2 y3) (bellpulllaw04_sum.l0 (k + 1) y0 y1 y2 y3))
  | 0 => fun _ _ _ _ r h => by simp [bellpulllaw04_sum.l0] at h
  | k + 1 => by
    have ih0 := bellpulllaw04_sum.mono_l k
    · intro y0 y1 y2 y3
      unfold bellpulllaw04_sum.l0
      repeat' first
      | (with_reducible exact ih0 _ _ _ _)
      | (with_reducible exact LeO.refl _)
      | (with_reducible exact LeO.none _)
      | (with_reducible refine LeO.ite ?_ ?_)
      | (with_reducible refine LeO.bind ?_ (fun _ => ?_))
      | exact ih0 _ _ _ _
      | exact LeO.none _
      | refine LeO.ite ?_ ?_
      | refine LeO.bind ?_ (fun _ => ?_)
theorem bellpulllaw04_sum.mono : ∀ a0 a1 a2 k, LeO (bellpulllaw04_sum.f k a0 a1 a2) (bellpulllaw04_sum.f (k + 1) a0 a1 a2) := by
  intro a0 a1 a2 k
  have ih0 := bellpulllaw04_sum.mono_l k
  unfold bellpulllaw04_sum.f
  repeat' first
      | (with_reducible exact ih0 _ _ _ _)
      | (with_reducible exact LeO.refl _)
      | (with_reducible exact LeO.none _)
      | (with_reducible refine LeO.ite ?_ ?_)
      | (with_reducible refine LeO.bind ?_ (fun _ => ?_))
      | exact ih0 _ _ _ _
      | exact LeO.none _
      | refine LeO.ite ?_ ?_
      | refine LeO.bind ?_ (fun _ => ?_)
set_option maxHeartbeats 8000000 in
set_option maxRecDepth 100000 in
theorem bellpulllaw04_sum.calls (k : Nat) (A0 : Option Addr) (c0 : Nat) (l0 : List Int) (a1 : Int) (a2 : Int) (r : Bool) (w : World) (hr0 : Kd.C (Kd.int .i64) w A0 l0.length l0) (hc0 : l0.length ≤ c0) (h : bellpulllaw04_sum.f k l0 a1 a2 = some r) :
    Calls Try.prog 37 #[.slice A0 l0.length c0, .int .i64 a1, .int .i64 a2] w fun e w' => e = .returned (.bool r) ∧ Drawn0 w w' := by
 have HR0 := mk0 hr0; have HC0 := mk0 hc0; clear hr0 hc0; have H : (if (l0.length : Int) = a1 then (bellpulllaw04_sum.l0 k l0 a1 a2 0) else (some false)) = some r := h; clear h
 by_cases c4 : (l0.length : Int) = a1
 ·
  rw [if_pos c4] at H; have c4b0 : ((l0.length : Int) == a1) = true := beq_iff_eq.mpr c4; have c4b1 : ((l0.length : Int) != a1) = false := bne_eq_false_iff_eq.mpr c4; clear c4; have H' := mk0 H; clear H; go_enter Try.func37, Try.ntmps37; go_wp2; repeat (go_quiet (fail); try go_wp2)
  go_loopg [2, 7] k (fun kq v2 v7 w' => ∃ (x2_1 : Int) (x7_1 : Int), v2 = .int .i64 x2_1 ∧ v7 = .int .i64 x7_1 ∧ Aside0 (bellpulllaw04_sum.l0 kq l0 a1 x2_1 x7_1 = some r) ∧ Aside0 (kq ≤ k) ∧ Drawn0 w w')
  case atStart => exact ⟨(a2), (0), (by first | rfl | (simp; done) | (simp [*]; done)), (by first | rfl | (simp; done) | (simp [*]; done)), H', ⟨Nat.le_refl _⟩, by repeat (first | exact Drawn0.refl _ | apply Drawn0.step)⟩
  case round =>
   clear H'; try clear p2
   try clear c3
   try clear c4
   try clear c4b0
   try clear c4b1
   obtain ⟨x2_1, x7_1, rfl, rfl, HA, HK1, ⟨m1, rfl⟩⟩ := hrel; cases gk with
   | zero => exact absurd HA.out (by simp [bellpulllaw04_sum.l0])
   | succ k1 =>
    have H := HA.out; clear HA; simp only [bellpulllaw04_sum.l0] at H
    by_cases c5 : x7_1 < a1
    ·
     rw [if_pos c5] at H; have c5b0 : decide (x7_1 < a1) = true := decide_eq_true c5; clear c5
     by_cases c6 : 0 ≤ x7_1
     ·
      rw [if_pos c6] at H; have c6b0 : decide (0 ≤ x7_1) = true := decide_eq_true c6; clear c6
      by_cases c7 : x7_1 < (l0.length : Int)
      ·
       rw [if_pos c7] at H; have c7b0 : decide (x7_1 < (l0.length : Int)) = true := decide_eq_true c7; clear c7
       by_cases c8 : (rd l0 x7_1) < 0
       ·
        rw [if_pos c8] at H; have c8b0 : decide ((rd l0 x7_1) < 0) = true := decide_eq_true c8; clear c8; obtain rfl := Option.some.inj H; have p394 : 0 ≤ (x7_1 : Int) := of_decide_eq_true (by first | (with_reducible assumption) | assumption); have q394 : x7_1 < (l0.length : Int) := of_decide_eq_true (by first | (with_reducible assumption) | assumption); obtain ⟨ad394, e394, hx394_0⟩ := Kd.at_int HR0.out x7_1 p394 q394; cases e394; replace p394 := eq_true p394; replace q394 := eq_true q394; go_wp2; repeat (go_quiet (fail); try go_wp2)
        go_ret; exact ⟨by first | rfl | (simp; done) | (simp [*]; done), by repeat (first | exact Drawn0.refl _ | apply Drawn0.step)⟩
       ·
        rw [if_neg c8] at H; have c8b0 : decide ((rd l0 x7_1) < 0) = false := decide_eq_false c8; clear c8
        by_cases c9 : (rd l0 x7_1) > 100
        ·
         rw [if_pos c9] at H; have c9b0 : decide (100 < (rd l0 x7_1)) = true := decide_eq_true c9; clear c9; obtain rfl := Option.some.inj H; have p394 : 0 ≤ (x7_1 : Int) := of_decide_eq_true (by first | (with_reducible assumption) | assumption); have q394 : x7_1 < (l0.length : Int) := of_decide_eq_true (by first | (with_reducible assumption) | assumption); obtain ⟨ad394, e394, hx394_0⟩ := Kd.at_int HR0.out x7_1 p394 q394; cases e394; replace p394 := eq_true p394; replace q394 := eq_true q394; have p395 : 0 ≤ (x7_1 : Int) := of_decide_eq_true (by first | (with_reducible assumption) | assumption); have q395 : x7_1 < (l0.length : Int) := of_decide_eq_true (by first | (with_reducible assumption) | assumption); obtain ⟨ad395, e395, hx395_0⟩ := Kd.at_int HR0.out x7_1 p395 q395; obtain rfl : ad394 = ad395 := (by injection e395)
         replace p395 := eq_true p395; replace q395 := eq_true q395; go_wp2; repeat (go_quiet (fail); try go_wp2)
         go_ret; exact ⟨by first | rfl | (simp; done) | (simp [*]; done), by repeat (first | exact Drawn0.refl _ | apply Drawn0.step)⟩
        ·
         rw [if_neg c9] at H; have c9b0 : decide (100 < (rd l0 x7_1)) = false := decide_eq_false c9; clear c9
         by_cases c10 : x7_1 > 0
         ·
          rw [if_pos c10] at H; have c10b0 : decide (0 < x7_1) = true := decide_eq_true c10; clear c10; obtain ⟨ji11, hji11⟩ : ∃ j_ : Int, (wrap64 (x7_1 - 1)) = j_ := ⟨_, rfl⟩
          replace H : (if 0 ≤ (ji11) then (if (ji11) < (l0.length : Int) then (if (rd l0 x7_1) > (rd l0 (ji11)) then (some false) else (bellpulllaw04_sum.l0 k1 l0 a1 (wrap64 (x2_1 - (wrap64 ((rd l0 x7_1) * (rd l0 x7_1))))) (wrap64 (x7_1 + 1)))) else (none)) else (none)) = some r := by first | (rw [hji11] at H; exact H) | (simp only [hji11] at H ⊢; exact H)
          have hji11w : (IntKind.i64.wrap (x7_1 - 1)) = ji11 := (i64_w _).trans hji11
          by_cases c12 : 0 ≤ (ji11)
          ·
           rw [if_pos c12] at H; have c12b0 : decide (0 ≤ (ji11)) = true := decide_eq_true c12; clear c12
           by_cases c13 : (ji11) < (l0.length : Int)
           ·
            rw [if_pos c13] at H; have c13b0 : decide ((ji11) < (l0.length : Int)) = true := decide_eq_true c13; clear c13
            by_cases c14 : (rd l0 x7_1) > (rd l0 (ji11))
            ·
             rw [if_pos c14] at H; have c14b0 : decide ((rd l0 (ji11)) < (rd l0 x7_1)) = true := decide_eq_true c14; clear c14; obtain rfl := Option.some.inj H; have p394 : 0 ≤ (x7_1 : Int) := of_decide_eq_true (by first | (with_reducible assumption) | assumption); have q394 : x7_1 < (l0.length : Int) := of_decide_eq_true (by first | (with_reducible assumption) | assumption); obtain ⟨ad394, e394, hx394_0⟩ := Kd.at_int HR0.out x7_1 p394 q394; cases e394; replace p394 := eq_true p394; replace q394 := eq_true q394; have p395 : 0 ≤ (x7_1 : Int) := of_decide_eq_true (by first | (with_reducible assumption) | assumption); have q395 : x7_1 < (l0.length : Int) := of_decide_eq_true (by first | (with_reducible assumption) | assumption); obtain ⟨ad395, e395, hx395_0⟩ := Kd.at_int HR0.out x7_1 p395 q395; obtain rfl : ad394 = ad395 := (by injection e395)
             replace p395 := eq_true p395; replace q395 := eq_true q395; have p396 : 0 ≤ (x7_1 : Int) := of_decide_eq_true (by first | (with_reducible assumption) | assumption); have q396 : x7_1 < (l0.length : Int) := of_decide_eq_true (by first | (with_reducible assumption) | assumption); obtain ⟨ad396, e396, hx396_0⟩ := Kd.at_int HR0.out x7_1 p396 q396; obtain rfl : ad394 = ad396 := (by injection e396)
             replace p396 := eq_true p396; replace q396 := eq_true q396; have p397 : 0 ≤ ((ji11) : Int) := of_decide_eq_true (by first | (with_reducible assumption) | assumption); have q397 : (ji11) < (l0.length : Int) := of_decide_eq_true (by first | (with_reducible assumption) | assumption); obtain ⟨ad397, e397, hx397_0⟩ := Kd.at_int HR0.out (ji11) p397 q397; obtain rfl : ad394 = ad397 := (by injection e397)
             replace p397 := eq_true p397; replace q397 := eq_true q397; go_wp2; repeat (go_quiet (fail); try go_wp2)
             go_ret; exact ⟨by first | rfl | (simp; done) | (simp only [← hji11] <;> (first | rfl | simp)) | (simp [*]; done), by repeat (first | exact Drawn0.refl _ | apply Drawn0.step)⟩
            ·
             rw [if_neg c14] at H; have c14b0 : decide ((rd l0 (ji11)) < (rd l0 x7_1)) = false := decide_eq_false c14; clear c14; have H' := mk0 H; clear H; have p394 : 0 ≤ (x7_1 : Int) := of_decide_eq_true (by first | (with_reducible assumption) | assumption); have q394 : x7_1 < (l0.length : Int) := of_decide_eq_true (by first | (with_reducible assumption) | assumption); obtain ⟨ad394, e394, hx394_0⟩ := Kd.at_int HR0.out x7_1 p394 q394; cases e394; replace p394 := eq_true p394; replace q394 := eq_true q394; have p395 : 0 ≤ (x7_1 : Int) := of_decide_eq_true (by first | (with_reducible assumption) | assumption); have q395 : x7_1 < (l0.length : Int) := of_decide_eq_true (by first | (with_reducible assumption) | assumption); obtain ⟨ad395, e395, hx395_0⟩ := Kd.at_int HR0.out x7_1 p395 q395; obtain rfl : ad394 = ad395 := (by injection e395)
             replace p395 := eq_true p395; replace q395 := eq_true q395; have p396 : 0 ≤ (x7_1 : Int) := of_decide_eq_true (by first | (with_reducible assumption) | assumption); have q396 : x7_1 < (l0.length : Int) := of_decide_eq_true (by first | (with_reducible assumption) | assumption); obtain ⟨ad396, e396, hx396_0⟩ := Kd.at_int HR0.out x7_1 p396 q396; obtain rfl : ad394 = ad396 := (by injection e396)
             replace p396 := eq_true p396; replace q396 := eq_true q396; have p397 : 0 ≤ ((ji11) : Int) := of_decide_eq_true (by first | (with_reducible assumption) | assumption); have q397 : (ji11) < (l0.length : Int) := of_decide_eq_true (by first | (with_reducible assumption) | assumption); obtain ⟨ad397, e397, hx397_0⟩ := Kd.at_int HR0.out (ji11) p397 q397; obtain rfl : ad394 = ad397 := (by injection e397)
             replace p397 := eq_true p397; replace q397 := eq_true q397; have p398 : 0 ≤ (x7_1 : Int) := of_decide_eq_true (by first | (with_reducible assumption) | assumption); have q398 : x7_1 < (l0.length : Int) := of_decide_eq_true (by first | (with_reducible assumption) | assumption); obtain ⟨ad398, e398, hx398_0⟩ := Kd.at_int HR0.out x7_1 p398 q398; obtain rfl : ad394 = ad398 := (by injection e398)
             replace p398 := eq_true p398; replace q398 := eq_true q398; have p399 : 0 ≤ (x7_1 : Int) := of_decide_eq_true (by first | (with_reducible assumption) | assumption); have q399 : x7_1 < (l0.length : Int) := of_decide_eq_true (by first | (with_reducible assumption) | assumption); obtain ⟨ad399, e399, hx399_0⟩ := Kd.at_int HR0.out x7_1 p399 q399; obtain rfl : ad394 = ad399 := (by injection e399)
             replace p399 := eq_true p399; replace q399 := eq_true q399; go_wp2; repeat (go_quiet (fail); try go_wp2)
             go_roundg k1
             case measure => have := HK1.out; omega
             case rel => exact ⟨(wrap64 (x2_1 - (wrap64 ((rd l0 x7_1) * (rd l0 x7_1))))), (wrap64 (x7_1 + 1)), (by first | rfl | (simp; done) | (simp [*]; done)), (by first | rfl | (simp; done) | (simp [*]; done)), H', ⟨by have := HK1.out; omega⟩, by repeat (first | exact Drawn0.refl _ | apply Drawn0.step)⟩
           ·
            rw [if_neg c13] at H; exact absurd H (by simp)
          ·
           rw [if_neg c12] at H; exact absurd H (by simp)
         ·
          rw [if_neg c10] at H; have c10b0 : decide (0 < x7_1) = false := decide_eq_false c10; clear c10; have H' := mk0 H; clear H; have p394 : 0 ≤ (x7_1 : Int) := of_decide_eq_true (by first | (with_reducible assumption) | assumption); have q394 : x7_1 < (l0.length : Int) := of_decide_eq_true (by first | (with_reducible assumption) | assumption); obtain ⟨ad394, e394, hx394_0⟩ := Kd.at_int HR0.out x7_1 p394 q394; cases e394; replace p394 := eq_true p394; replace q394 := eq_true q394; have p395 : 0 ≤ (x7_1 : Int) := of_decide_eq_true (by first | (with_reducible assumption) | assumption); have q395 : x7_1 < (l0.length : Int) := of_decide_eq_true (by first | (with_reducible assumption) | assumption); obtain ⟨ad395, e395, hx395_0⟩ := Kd.at_int HR0.out x7_1 p395 q395; obtain rfl : ad394 = ad395 := (by injection e395)
          replace p395 := eq_true p395; replace q395 := eq_true q395; have p400 : 0 ≤ (x7_1 : Int) := of_decide_eq_true (by first | (with_reducible assumption) | assumption); have q400 : x7_1 < (l0.length : Int) := of_decide_eq_true (by first | (with_reducible assumption) | assumption); obtain ⟨ad400, e400, hx400_0⟩ := Kd.at_int HR0.out x7_1 p400 q400; obtain rfl : ad394 = ad400 := (by injection e400)
          replace p400 := eq_true p400; replace q400 := eq_true q400; have p401 : 0 ≤ (x7_1 : Int) := of_decide_eq_true (by first | (with_reducible assumption) | assumption); have q401 : x7_1 < (l0.length : Int) := of_decide_eq_true (by first | (with_reducible assumption) | assumption); obtain ⟨ad401, e401, hx401_0⟩ := Kd.at_int HR0.out x7_1 p401 q401; obtain rfl : ad394 = ad401 := (by injection e401)
          replace p401 := eq_true p401; replace q401 := eq_true q401; go_wp2; repeat (go_quiet (fail); try go_wp2)
          go_roundg k1
          case measure => have := HK1.out; omega
          case rel => exact ⟨(wrap64 (x2_1 - (wrap64 ((rd l0 x7_1) * (rd l0 x7_1))))), (wrap64 (x7_1 + 1)), (by first | rfl | (simp; done) | (simp [*]; done)), (by first | rfl | (simp; done) | (simp [*]; done)), H', ⟨by have := HK1.out; omega⟩, by repeat (first | exact Drawn0.refl _ | apply Drawn0.step)⟩
      ·
       rw [if_neg c7] at H; exact absurd H (by simp)
     ·
      rw [if_neg c6] at H; exact absurd H (by simp)
    ·
     rw [if_neg c5] at H; have c5b0 : decide (x7_1 < a1) = false := decide_eq_false c5; clear c5; obtain rfl := Option.some.inj H; go_wp2; repeat (go_quiet (fail); try go_wp2)
     go_ret; exact ⟨by first | rfl | (simp; done) | (simp [*]; done), by repeat (first | exact Drawn0.refl _ | apply Drawn0.step)⟩
 ·
  rw [if_neg c4] at H; have c4b0 : ((l0.length : Int) == a1) = false := beq_eq_false_iff_ne.mpr c4; have c4b1 : ((l0.length : Int) != a1) = true := bne_iff_ne.mpr c4; obtain rfl := Option.some.inj H; go_enter Try.func37, Try.ntmps37; go_wp2; repeat (go_quiet (fail); try go_wp2)
  go_ret; exact ⟨by first | rfl | (simp; done) | (simp [*]; done), by repeat (first | exact Drawn0.refl _ | apply Drawn0.step)⟩
end Go.Proofs.Ytgfnmimfoicmmaa.PM
