-- Written by pr2.py, a program of this session's, for this claim (through the kit's print).
import Derived.Test.YtgfnmimfoicmmaaPMx0
import Derived.Test.YtgfnmimfoicmmaaPMx7
import Derived.Test.YtgfnmimfoicmmaaPMx12
import Derived.Test.YtgfnmimfoicmmaaPMx14
import Derived.Test.YtgfnmimfoicmmaaPMx15
namespace Go.Proofs.Ytgfnmimfoicmmaa.PM
open Go.Proofs.MyWords Go.RowKit Go.Proofs.YtgfnmimfoicmmaaW.PrintWords Go.Proofs.YtgfnmimfoicmmaaW.PrintLast Go.Proofs.YtgfnmimfoicmmaaW.PrintMore
attribute [local go_sem] max2_int min2_int max_two min_two max_three min_three max_four min_four   -- for this text's walks alone
set_option linter.unusedVariables false
set_option linter.unusedSimpArgs false

attribute [local go_sem] idx67_0 idx67_1 idx67_2 idx67_3
attribute [local go_sem] eqGuard_slices eqlnil36 neqnil36
/-! ### bellpulllaw04_NormCounts: function 6 -/
def bellpulllaw04_NormCounts.j0 : Nat → Int → Int → Int → Bool → Option (Bool)
  | 0, _, _, _, _ => none
  | k + 1, x0, x5, x6, x48 => if x48 = true then (none) else (if x0 = 0 then (if x5 = 0 then (some (x6 == 1)) else (none)) else ((bellpullref04_Hurwitz.f k x0).bind fun t469 => (if x5 = t469 then (some (x6 == 0)) else (none))))
def bellpulllaw04_NormCounts.f (k : Nat) (a0 : Int) : Option (Bool) := (norm_Count.f k a0).bind fun bt461 => ((norm_Hurwitz.f k a0).bind fun bt463 => ((bellpullref01_In.f a0 0 10000).bind fun t465 => (if t465 = true then ((bellpullref04_Count.f k a0).bind fun t467 => (if bt461.1 = t467 then (if bt461.2 = 0 then ((bellpulllaw04_lives.f k).bind fun t468 => (bellpulllaw04_NormCounts.j0 k a0 bt463.1 bt463.2 (!t468))) else (none)) else (none))) else (if bt461.1 = 0 then (if bt463.1 = 0 then (if bt461.2 = 1 then (if bt463.2 = 1 then ((bellpulllaw04_lives.f k).bind fun t466 => (some t466)) else (none)) else (none)) else (none)) else (none)))))
theorem bellpulllaw04_NormCounts.mono_l : ∀ k, (∀ y0 y1 y2 y3, LeO (bellpulllaw04_NormCounts.j0 k y0 y1 y2 y3) (bellpulllaw04_NormCounts.j0 (k + 1) y0 y1 y2 y3))
  | 0 => fun _ _ _ _ r h => by simp [bellpulllaw04_NormCounts.j0] at h
  | k + 1 => by
    have ih0 := bellpulllaw04_NormCounts.mono_l k
    · intro y0 y1 y2 y3
      unfold bellpulllaw04_NormCounts.j0
      repeat' first
      | (with_reducible exact ih0 _ _ _ _)
      | (with_reducible exact bellpulllaw04_lives.mono _)
      | (with_reducible exact bellpullref04_Count.mono _ _)
      | (with_reducible exact bellpullref04_Hurwitz.mono _ _)
      | (with_reducible exact norm_Count.mono _ _)
      | (with_reducible exact norm_Hurwitz.mono _ _)
      | (with_reducible exact LeO.refl _)
      | (with_reducible exact LeO.none _)
      | (with_reducible refine LeO.ite ?_ ?_)
      | (with_reducible refine LeO.bind ?_ (fun _ => ?_))
      | exact ih0 _ _ _ _
      | exact bellpulllaw04_lives.mono _
      | exact bellpullref04_Count.mono _ _
      | exact bellpullref04_Hurwitz.mono _ _
      | exact norm_Count.mono _ _
      | exact norm_Hurwitz.mono _ _
      | exact LeO.none _
      | refine LeO.ite ?_ ?_
      | refine LeO.bind ?_ (fun _ => ?_)
theorem bellpulllaw04_NormCounts.mono : ∀ a0 k, LeO (bellpulllaw04_NormCounts.f k a0) (bellpulllaw04_NormCounts.f (k + 1) a0) := by
  intro a0 k
  have ih0 := bellpulllaw04_NormCounts.mono_l k
  unfold bellpulllaw04_NormCounts.f
  repeat' first
      | (with_reducible exact ih0 _ _ _ _)
      | (with_reducible exact bellpulllaw04_lives.mono _)
      | (with_reducible exact bellpullref04_Count.mono _ _)
      | (with_reducible exact bellpullref04_Hurwitz.mono _ _)
      | (with_reducible exact norm_Count.mono _ _)
      | (with_reducible exact norm_Hurwitz.mono _ _)
      | (with_reducible exact LeO.refl _)
      | (with_reducible exact LeO.none _)
      | (with_reducible refine LeO.ite ?_ ?_)
      | (with_reducible refine LeO.bind ?_ (fun _ => ?_))
      | exact ih0 _ _ _ _
      | exact bellpulllaw04_lives.mono _
      | exact bellpullref04_Count.mono _ _
      | exact bellpullref04_Hurwitz.mono _ _
      | exact norm_Count.mono _ _
      | exact norm_Hurwitz.mono _ _
      | exact LeO.none _
      | refine LeO.ite ?_ ?_
      | refine LeO.bind ?_ (fun _ => ?_)
set_option maxHeartbeats 8000000 in
set_option maxRecDepth 100000 in
theorem bellpulllaw04_NormCounts.calls (k : Nat) (a0 : Int) (r : Bool) (w : World) (h : bellpulllaw04_NormCounts.f k a0 = some r) :
    Calls Try.prog 6 #[.int .i64 a0] w fun e w' => e = .returned (.bool r) ∧ Below w.heap.size w w' := by
 have HB := mk0 (Below.refl w.heap.size w); have H : ((norm_Count.f k a0).bind fun bt461 => ((norm_Hurwitz.f k a0).bind fun bt463 => ((bellpullref01_In.f a0 0 10000).bind fun t465 => (if t465 = true then ((bellpullref04_Count.f k a0).bind fun t467 => (if bt461.1 = t467 then (if bt461.2 = 0 then ((bellpulllaw04_lives.f k).bind fun t468 => (bellpulllaw04_NormCounts.j0 k a0 bt463.1 bt463.2 (!t468))) else (none)) else (none))) else (if bt461.1 = 0 then (if bt463.1 = 0 then (if bt461.2 = 1 then (if bt463.2 = 1 then ((bellpulllaw04_lives.f k).bind fun t466 => (some t466)) else (none)) else (none)) else (none)) else (none)))))) = some r := h; clear h; replace H := Option.bind_eq_some_iff.mp H; obtain ⟨⟨t461, t462⟩, A20, H⟩ := H; (try dsimp only at H); have A2 := mk0 A20; clear A20; replace H := Option.bind_eq_some_iff.mp H; obtain ⟨⟨t463, t464⟩, A30, H⟩ := H; (try dsimp only at H); have A3 := mk0 A30; clear A30; replace H := Option.bind_eq_some_iff.mp H; obtain ⟨t465, A40, H⟩ := H; (try dsimp only at H); have A4 := mk0 A40; clear A40
 by_cases c5 : t465 = true
 ·
  subst c5; have H1 : ((bellpullref04_Count.f k a0).bind fun t467 => (if t461 = t467 then (if t462 = 0 then ((bellpulllaw04_lives.f k).bind fun t468 => (bellpulllaw04_NormCounts.j0 k a0 t463 t464 (!t468))) else (none)) else (none))) = some r := by rw [if_pos rfl] at H; exact H
  clear H; have H := H1; clear H1; have HC6 := mk0 H; clear H; go_enter Try.func6, Try.ntmps6; go_upto_region 5 with (first | ((with_reducible refine gate_callee (f := 28) rfl ?_); refine goesL_ (some 9) rfl rfl Try.func28 (by kernel_rfl) rfl #[.int .i64 a0] rfl (by (try simp only [List.map_toArray, List.map_cons, List.map_nil]); first | done | rfl | (simp only [List.length_drop, List.length_take]; rfl)) ?_; (with_reducible refine (norm_Count.calls k a0 t461 t462 _ A2.out).mono ?_); rintro e w7 ⟨rfl, hb⟩; refine ⟨_, rfl, ?_⟩; replace HB := mk0 (below_step (by repeat (first | (with_reducible first | exact HB.out | apply below_alloc | apply pw_below_drewN | apply below_drew1) | exact HB.out)) hb); (try clear hb)) | ((with_reducible refine gate_callee (f := 29) rfl ?_); refine goesL_ (some 14) rfl rfl Try.func29 (by kernel_rfl) rfl #[.int .i64 a0] rfl (by (try simp only [List.map_toArray, List.map_cons, List.map_nil]); first | done | rfl | (simp only [List.length_drop, List.length_take]; rfl)) ?_; (with_reducible refine (norm_Hurwitz.calls k a0 t463 t464 _ A3.out).mono ?_); rintro e w8 ⟨rfl, hb⟩; refine ⟨_, rfl, ?_⟩; replace HB := mk0 (below_step (by repeat (first | (with_reducible first | exact HB.out | apply below_alloc | apply pw_below_drewN | apply below_drew1) | exact HB.out)) hb); (try clear hb)) | ((with_reducible refine gate_callee (f := 25) rfl ?_); refine goesL_ (some 18) rfl rfl Try.func25 (by kernel_rfl) rfl #[.int .i64 a0, .int .i64 0, .int .i64 10000] rfl (by (try simp only [List.map_toArray, List.map_cons, List.map_nil]); first | done | rfl | (simp only [List.length_drop, List.length_take]; rfl)) ?_; (with_reducible refine (bellpullref01_In.calls a0 0 10000 true _ A4.out).mono ?_); rintro e w' ⟨rfl, ⟨nd, rfl⟩⟩; refine ⟨_, rfl, ?_⟩)); (try simp only [Act.put, List.setIfInBounds_toArray, List.set_cons_zero, List.set_cons_succ])
  go_cut [48] (fun v48 wc => ∃ (kq : Nat) (x48_5 : Bool), v48 = .bool x48_5 ∧ Aside0 (bellpulllaw04_NormCounts.j0 kq a0 t463 t464 x48_5 = some r) ∧ Aside0 (kq ≤ k) ∧ Aside0 (Below w.heap.size w wc))
  case first =>
   have H := HC6.out; clear HC6; replace H := Option.bind_eq_some_iff.mp H; obtain ⟨t467, A90, H⟩ := H; (try dsimp only at H); have A9 := mk0 A90; clear A90
   by_cases c10 : t461 = t467
   ·
    rw [if_pos c10] at H; have c10b0 : (t461 == t467) = true := beq_iff_eq.mpr c10; have c10b1 : (t461 != t467) = false := bne_eq_false_iff_eq.mpr c10; clear c10; (first | rw [c10b0] | (simp only [i64_w, i32_w]; rw [c10b0]) | skip)
    by_cases c11 : t462 = 0
    ·
     rw [if_pos c11] at H; have c11b0 : (t462 == 0) = true := beq_iff_eq.mpr c11; have c11b1 : (t462 != 0) = false := bne_eq_false_iff_eq.mpr c11; clear c11; replace H := Option.bind_eq_some_iff.mp H; obtain ⟨t468, A120, H⟩ := H; (try dsimp only at H); have A12 := mk0 A120; clear A120; have H' := mk0 H; clear H; go_wp2_with (first | ((with_reducible refine gate_callee (f := 30) rfl ?_); refine goesL_ (some 39) rfl rfl Try.func30 (by kernel_rfl) rfl #[.int .i64 a0] rfl (by (try simp only [List.map_toArray, List.map_cons, List.map_nil]); first | done | rfl | (simp only [List.length_drop, List.length_take]; rfl)) ?_; (with_reducible refine (bellpullref04_Count.calls k a0 t467 _ A9.out).mono ?_); rintro e w13 ⟨rfl, hb⟩; refine ⟨_, rfl, ?_⟩; replace HB := mk0 (below_step (by repeat (first | (with_reducible first | exact HB.out | apply below_alloc | apply pw_below_drewN | apply below_drew1) | exact HB.out)) hb); (try clear hb)) | (go_at_call 19; (with_reducible refine (bellpulllaw04_lives.calls k  t468 _ A12.out).mono ?_); rintro e w14 ⟨rfl, hb⟩; replace HB := mk0 (below_step (by repeat (first | (with_reducible first | exact HB.out | apply below_alloc | apply pw_below_drewN | apply below_drew1) | exact HB.out)) hb); (try clear hb))); go_meet
     case rel => exact ⟨_, (!t468), (by first | rfl | (simp; done) | (simp [*]; done)), H', ⟨by first | omega | exact Nat.le_refl _⟩, ⟨by repeat (first | (with_reducible first | exact HB.out | apply below_alloc | apply pw_below_drewN | apply below_drew1) | exact HB.out)⟩⟩
    ·
     rw [if_neg c11] at H; exact absurd H (by simp)
   ·
    rw [if_neg c10] at H; exact absurd H (by simp)
  case rest =>
   clear HC6; try clear c1
   try clear c2
   try clear p2
   try clear c3
   try clear c5
   try clear c6
   try clear c10
   try clear c10b0
   try clear c10b1
   try clear c11
   try clear c11b0
   try clear c11b1
   obtain ⟨kq, x48_5, rfl, HA, HJ5, HB⟩ := hcut; cases kq with
   | zero => exact absurd HA.out (by simp [bellpulllaw04_NormCounts.j0])
   | succ kj5 =>
    have H := HA.out; clear HA; simp only [bellpulllaw04_NormCounts.j0] at H
    by_cases c15 : x48_5 = true
    ·
     subst c15; have H1 : (none) = some r := by rw [if_pos rfl] at H; exact H
     clear H; have H := H1; clear H1; exact absurd H (by simp)
    ·
     replace c15 := Bool.eq_false_iff.mpr c15; subst c15; have H1 : (if a0 = 0 then (if t463 = 0 then (some (t464 == 1)) else (none)) else ((bellpullref04_Hurwitz.f kj5 a0).bind fun t469 => (if t463 = t469 then (some (t464 == 0)) else (none)))) = some r := by rw [if_neg (show ¬ (false = true) by decide)] at H; exact H
     clear H; have H := H1; clear H1
     by_cases c16 : a0 = 0
     ·
      rw [if_pos c16] at H; have c16b0 : (a0 == 0) = true := beq_iff_eq.mpr c16; have c16b1 : (a0 != 0) = false := bne_eq_false_iff_eq.mpr c16; clear c16
      by_cases c17 : t463 = 0
      ·
       rw [if_pos c17] at H; have c17b0 : (t463 == 0) = true := beq_iff_eq.mpr c17; have c17b1 : (t463 != 0) = false := bne_eq_false_iff_eq.mpr c17; clear c17; obtain rfl := Option.some.inj H; go_wp2; go_ret; exact ⟨by first | rfl | (simp [errW_none, errW_some] <;> rfl) | (simp [*, errW_none, errW_some] <;> rfl), by repeat (first | (with_reducible first | exact HB.out | apply below_alloc | apply pw_below_drewN | apply below_drew1) | exact HB.out)⟩
      ·
       rw [if_neg c17] at H; exact absurd H (by simp)
     ·
      rw [if_neg c16] at H; have c16b0 : (a0 == 0) = false := beq_eq_false_iff_ne.mpr c16; have c16b1 : (a0 != 0) = true := bne_iff_ne.mpr c16; replace H := Option.bind_eq_some_iff.mp H; obtain ⟨t469, A180, H⟩ := H; (try dsimp only at H); have A18 := mk0 A180; clear A180
      by_cases c19 : t463 = t469
      ·
       rw [if_pos c19] at H; have c19b0 : (t463 == t469) = true := beq_iff_eq.mpr c19; have c19b1 : (t463 != t469) = false := bne_eq_false_iff_eq.mpr c19; clear c19; obtain rfl := Option.some.inj H; go_wp2_with (first | ((with_reducible refine gate_callee (f := 31) rfl ?_); refine goesL_ (some 59) rfl rfl Try.func31 (by kernel_rfl) rfl #[.int .i64 a0] rfl (by (try simp only [List.map_toArray, List.map_cons, List.map_nil]); first | done | rfl | (simp only [List.length_drop, List.length_take]; rfl)) ?_; (with_reducible refine (bellpullref04_Hurwitz.calls kj5 a0 t469 _ A18.out).mono ?_); rintro e w20 ⟨rfl, hb⟩; refine ⟨_, rfl, ?_⟩; replace HB := mk0 (below_step (by repeat (first | (with_reducible first | exact HB.out | apply below_alloc | apply pw_below_drewN | apply below_drew1) | exact HB.out)) hb); (try clear hb))); go_ret; exact ⟨by first | rfl | (simp [errW_none, errW_some] <;> rfl) | (simp [*, errW_none, errW_some] <;> rfl), by repeat (first | (with_reducible first | exact HB.out | apply below_alloc | apply pw_below_drewN | apply below_drew1) | exact HB.out)⟩
      ·
       rw [if_neg c19] at H; exact absurd H (by simp)
 ·
  replace c5 := Bool.eq_false_iff.mpr c5; subst c5; have H1 : (if t461 = 0 then (if t463 = 0 then (if t462 = 1 then (if t464 = 1 then ((bellpulllaw04_lives.f k).bind fun t466 => (some t466)) else (none)) else (none)) else (none)) else (none)) = some r := by rw [if_neg (show ¬ (false = true) by decide)] at H; exact H
  clear H; have H := H1; clear H1
  by_cases c21 : t461 = 0
  ·
   rw [if_pos c21] at H; have c21b0 : (t461 == 0) = true := beq_iff_eq.mpr c21; have c21b1 : (t461 != 0) = false := bne_eq_false_iff_eq.mpr c21; clear c21
   by_cases c22 : t463 = 0
   ·
    rw [if_pos c22] at H; have c22b0 : (t463 == 0) = true := beq_iff_eq.mpr c22; have c22b1 : (t463 != 0) = false := bne_eq_false_iff_eq.mpr c22; clear c22
    by_cases c23 : t462 = 1
    ·
     rw [if_pos c23] at H; have c23b0 : (t462 == 1) = true := beq_iff_eq.mpr c23; have c23b1 : (t462 != 1) = false := bne_eq_false_iff_eq.mpr c23; clear c23
     by_cases c24 : t464 = 1
     ·
      rw [if_pos c24] at H; have c24b0 : (t464 == 1) = true := beq_iff_eq.mpr c24; have c24b1 : (t464 != 1) = false := bne_eq_false_iff_eq.mpr c24; clear c24; replace H := Option.bind_eq_some_iff.mp H; obtain ⟨t466, A250, H⟩ := H; (try dsimp only at H); have A25 := mk0 A250; clear A250; obtain rfl := Option.some.inj H; go_enter Try.func6, Try.ntmps6; go_wp2_with (first | ((with_reducible refine gate_callee (f := 28) rfl ?_); refine goesL_ (some 9) rfl rfl Try.func28 (by kernel_rfl) rfl #[.int .i64 a0] rfl (by (try simp only [List.map_toArray, List.map_cons, List.map_nil]); first | done | rfl | (simp only [List.length_drop, List.length_take]; rfl)) ?_; (with_reducible refine (norm_Count.calls k a0 t461 t462 _ A2.out).mono ?_); rintro e w26 ⟨rfl, hb⟩; refine ⟨_, rfl, ?_⟩; replace HB := mk0 (below_step (by repeat (first | (with_reducible first | exact HB.out | apply below_alloc | apply pw_below_drewN | apply below_drew1) | exact HB.out)) hb); (try clear hb)) | ((with_reducible refine gate_callee (f := 29) rfl ?_); refine goesL_ (some 14) rfl rfl Try.func29 (by kernel_rfl) rfl #[.int .i64 a0] rfl (by (try simp only [List.map_toArray, List.map_cons, List.map_nil]); first | done | rfl | (simp only [List.length_drop, List.length_take]; rfl)) ?_; (with_reducible refine (norm_Hurwitz.calls k a0 t463 t464 _ A3.out).mono ?_); rintro e w27 ⟨rfl, hb⟩; refine ⟨_, rfl, ?_⟩; replace HB := mk0 (below_step (by repeat (first | (with_reducible first | exact HB.out | apply below_alloc | apply pw_below_drewN | apply below_drew1) | exact HB.out)) hb); (try clear hb)) | ((with_reducible refine gate_callee (f := 25) rfl ?_); refine goesL_ (some 18) rfl rfl Try.func25 (by kernel_rfl) rfl #[.int .i64 a0, .int .i64 0, .int .i64 10000] rfl (by (try simp only [List.map_toArray, List.map_cons, List.map_nil]); first | done | rfl | (simp only [List.length_drop, List.length_take]; rfl)) ?_; (with_reducible refine (bellpullref01_In.calls a0 0 10000 false _ A4.out).mono ?_); rintro e w' ⟨rfl, ⟨nd, rfl⟩⟩; refine ⟨_, rfl, ?_⟩) | (go_at_call 19; (with_reducible refine (bellpulllaw04_lives.calls k  t466 _ A25.out).mono ?_); rintro e w28 ⟨rfl, hb⟩; replace HB := mk0 (below_step (by repeat (first | (with_reducible first | exact HB.out | apply below_alloc | apply pw_below_drewN | apply below_drew1) | exact HB.out)) hb); (try clear hb))); go_ret; exact ⟨by first | rfl | (simp [errW_none, errW_some] <;> rfl) | (simp [*, errW_none, errW_some] <;> rfl), by repeat (first | (with_reducible first | exact HB.out | apply below_alloc | apply pw_below_drewN | apply below_drew1) | exact HB.out)⟩
     ·
      rw [if_neg c24] at H; exact absurd H (by simp)
    ·
     rw [if_neg c23] at H; exact absurd H (by simp)
   ·
    rw [if_neg c22] at H; exact absurd H (by simp)
  ·
   rw [if_neg c21] at H; exact absurd H (by simp)
/-- THE ONE PURE STATEMENT of bellpulllaw04_NormCounts: yours. -/
def bellpulllaw04_NormCounts.Pure : Prop := ∀ (a0 : Int), (Lit.int .i64 a0).wf = true → ∃ k, bellpulllaw04_NormCounts.f k a0 = some true
theorem bellpulllaw04_NormCounts.walk (P : bellpulllaw04_NormCounts.Pure) (a0 : Int) (w : World) (w0 : (Lit.int .i64 a0).wf = true) :
    Calls Try.prog 6 #[.int .i64 a0] w fun e w' => e = .returned (.bool true) ∧ Below w.heap.size w w' := by
  obtain ⟨k, h⟩ := P a0 w0
  refine (bellpulllaw04_NormCounts.calls k a0 true w h).mono ?_
  rintro e w' ⟨rfl, hd⟩
  exact ⟨rfl, hd⟩

end Go.Proofs.Ytgfnmimfoicmmaa.PM
