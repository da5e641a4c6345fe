-- Written by pr2.py, a program of this session's, for this claim (through the kit's print).
import Derived.Test.YtgfnmimfoicmmaaPMx0
import Derived.Test.YtgfnmimfoicmmaaPMx6
import Derived.Test.YtgfnmimfoicmmaaPMx7
import Derived.Test.YtgfnmimfoicmmaaPMx12
import Derived.Test.YtgfnmimfoicmmaaPMx17
namespace Go.Proofs.Ytgfnmimfoicmmaa.PM
open Go.Proofs.MyWords Go.RowKit Go.Proofs.YtgfnmimfoicmmaaW.PrintWords Go.Proofs.YtgfnmimfoicmmaaW.PrintLast Go.Proofs.YtgfnmimfoicmmaaW.PrintMore
attribute [local go_sem] max2_int min2_int max_two min_two max_three min_three max_four min_four   -- for this text's walks alone
set_option linter.unusedVariables false
set_option linter.unusedSimpArgs false

attribute [local go_sem] idx67_0 idx67_1 idx67_2 idx67_3
attribute [local go_sem] eqGuard_slices eqlnil36 neqnil36
/-! ### bellpulllaw04_NormSquares: function 5 -/
def bellpulllaw04_NormSquares.j0 : Nat → Int → List Int → Int → Bool → Option (Bool)
  | 0, _, _, _, _ => none
  | k + 1, x0, x5, x6, x50 => if x50 = true then (none) else ((bellpullref04_Squares.f k x0 3 100).bind fun t485 => (if 0 < (t485.length : Int) then ((bellpullref01_Same.f k x5 t485).bind fun t489 => (if t489 = true then (some (x6 == 0)) else (none))) else (if (x5.length : Int) = 0 then (some (x6 == 5)) else (none))))
def bellpulllaw04_NormSquares.f (k : Nat) (a0 : Int) : Option (Bool) := (norm_Four.f k a0).bind fun bt470 => ((norm_Three.f k a0).bind fun bt474 => ((bellpullref01_In.f a0 0 10000).bind fun t478 => (if t478 = true then ((bellpullref04_Squares.f k a0 4 100).bind fun t480 => ((bellpullref01_Same.f k bt470.1 t480).bind fun t483 => (if t483 = true then (if bt470.2 = 0 then ((bellpulllaw04_lives.f k).bind fun t484 => (bellpulllaw04_NormSquares.j0 k a0 bt474.1 bt474.2 (!t484))) else (none)) else (none)))) else (if (wrap64 ((bt470.1.length : Int) + (bt474.1.length : Int))) = 0 then (if bt470.2 = 1 then (if bt474.2 = 1 then ((bellpulllaw04_lives.f k).bind fun t479 => (some t479)) else (none)) else (none)) else (none)))))
theorem bellpulllaw04_NormSquares.mono_l : ∀ k, (∀ y0 y1 y2 y3, LeO (bellpulllaw04_NormSquares.j0 k y0 y1 y2 y3) (bellpulllaw04_NormSquares.j0 (k + 1) y0 y1 y2 y3))
  | 0 => fun _ _ _ _ r h => by simp [bellpulllaw04_NormSquares.j0] at h
  | k + 1 => by
    have ih0 := bellpulllaw04_NormSquares.mono_l k
    · intro y0 y1 y2 y3
      unfold bellpulllaw04_NormSquares.j0
      repeat' first
      | (with_reducible exact ih0 _ _ _ _)
      | (with_reducible exact bellpulllaw04_lives.mono _)
      | (with_reducible exact bellpullref01_Same.mono _ _ _)
      | (with_reducible exact bellpullref04_Squares.mono _ _ _ _)
      | (with_reducible exact norm_Four.mono _ _)
      | (with_reducible exact norm_Three.mono _ _)
      | (with_reducible exact LeO.refl _)
      | (with_reducible exact LeO.none _)
      | (with_reducible refine LeO.ite ?_ ?_)
      | (with_reducible refine LeO.bind ?_ (fun _ => ?_))
      | exact ih0 _ _ _ _
      | exact bellpulllaw04_lives.mono _
      | exact bellpullref01_Same.mono _ _ _
      | exact bellpullref04_Squares.mono _ _ _ _
      | exact norm_Four.mono _ _
      | exact norm_Three.mono _ _
      | exact LeO.none _
      | refine LeO.ite ?_ ?_
      | refine LeO.bind ?_ (fun _ => ?_)
theorem bellpulllaw04_NormSquares.mono : ∀ a0 k, LeO (bellpulllaw04_NormSquares.f k a0) (bellpulllaw04_NormSquares.f (k + 1) a0) := by
  intro a0 k
  have ih0 := bellpulllaw04_NormSquares.mono_l k
  unfold bellpulllaw04_NormSquares.f
  repeat' first
      | (with_reducible exact ih0 _ _ _ _)
      | (with_reducible exact bellpulllaw04_lives.mono _)
      | (with_reducible exact bellpullref01_Same.mono _ _ _)
      | (with_reducible exact bellpullref04_Squares.mono _ _ _ _)
      | (with_reducible exact norm_Four.mono _ _)
      | (with_reducible exact norm_Three.mono _ _)
      | (with_reducible exact LeO.refl _)
      | (with_reducible exact LeO.none _)
      | (with_reducible refine LeO.ite ?_ ?_)
      | (with_reducible refine LeO.bind ?_ (fun _ => ?_))
      | exact ih0 _ _ _ _
      | exact bellpulllaw04_lives.mono _
      | exact bellpullref01_Same.mono _ _ _
      | exact bellpullref04_Squares.mono _ _ _ _
      | exact norm_Four.mono _ _
      | exact norm_Three.mono _ _
      | exact LeO.none _
      | refine LeO.ite ?_ ?_
      | refine LeO.bind ?_ (fun _ => ?_)
set_option maxHeartbeats 8000000 in
set_option maxRecDepth 100000 in
theorem bellpulllaw04_NormSquares.calls (k : Nat) (a0 : Int) (r : Bool) (w : World) (h : bellpulllaw04_NormSquares.f k a0 = some r) :
    Calls Try.prog 5 #[.int .i64 a0] w fun e w' => e = .returned (.bool r) ∧ Below w.heap.size w w' := by
 have HB := mk0 (Below.refl w.heap.size w); have H : ((norm_Four.f k a0).bind fun bt470 => ((norm_Three.f k a0).bind fun bt474 => ((bellpullref01_In.f a0 0 10000).bind fun t478 => (if t478 = true then ((bellpullref04_Squares.f k a0 4 100).bind fun t480 => ((bellpullref01_Same.f k bt470.1 t480).bind fun t483 => (if t483 = true then (if bt470.2 = 0 then ((bellpulllaw04_lives.f k).bind fun t484 => (bellpulllaw04_NormSquares.j0 k a0 bt474.1 bt474.2 (!t484))) else (none)) else (none)))) else (if (wrap64 ((bt470.1.length : Int) + (bt474.1.length : Int))) = 0 then (if bt470.2 = 1 then (if bt474.2 = 1 then ((bellpulllaw04_lives.f k).bind fun t479 => (some t479)) else (none)) else (none)) else (none)))))) = some r := h; clear h; replace H := Option.bind_eq_some_iff.mp H; obtain ⟨⟨t470, t471⟩, A20, H⟩ := H; (try dsimp only at H); have A2 := mk0 A20; clear A20; replace H := Option.bind_eq_some_iff.mp H; obtain ⟨⟨t474, t475⟩, A30, H⟩ := H; (try dsimp only at H); have A3 := mk0 A30; clear A30; replace H := Option.bind_eq_some_iff.mp H; obtain ⟨t478, A40, H⟩ := H; (try dsimp only at H); have A4 := mk0 A40; clear A40
 by_cases c5 : t478 = true
 ·
  subst c5; have H1 : ((bellpullref04_Squares.f k a0 4 100).bind fun t480 => ((bellpullref01_Same.f k t470 t480).bind fun t483 => (if t483 = true then (if t471 = 0 then ((bellpulllaw04_lives.f k).bind fun t484 => (bellpulllaw04_NormSquares.j0 k a0 t474 t475 (!t484))) else (none)) else (none)))) = some r := by rw [if_pos rfl] at H; exact H
  clear H; have H := H1; clear H1; have HC6 := mk0 H; clear H; go_enter Try.func5, Try.ntmps5; go_upto_region 5 with (first | ((with_reducible refine gate_callee (f := 23) rfl ?_); refine goesL_ (some 10) rfl rfl Try.func23 (by kernel_rfl) rfl #[.int .i64 a0] rfl (by (try simp only [List.map_toArray, List.map_cons, List.map_nil]); first | done | rfl | (simp only [List.length_drop, List.length_take]; rfl)) ?_; (with_reducible refine (norm_Four.calls k a0 t470 t471 _ A2.out).mono ?_); rintro e w7 ⟨v472, rfl, ho0, hb⟩; refine ⟨_, rfl, ?_⟩; have HO473 := mk0 (Kd.R_lower ho0 (below_size (by repeat (first | (with_reducible first | exact HB.out | apply below_alloc | apply pw_below_drewN | apply below_drew1) | exact HB.out)))); replace HB := mk0 (below_step (by repeat (first | (with_reducible first | exact HB.out | apply below_alloc | apply pw_below_drewN | apply below_drew1) | exact HB.out)) hb); (try clear hb); (try clear ho0)) | ((with_reducible refine gate_callee (f := 24) rfl ?_); refine goesL_ (some 15) rfl rfl Try.func24 (by kernel_rfl) rfl #[.int .i64 a0] rfl (by (try simp only [List.map_toArray, List.map_cons, List.map_nil]); first | done | rfl | (simp only [List.length_drop, List.length_take]; rfl)) ?_; (with_reducible refine (norm_Three.calls k a0 t474 t475 _ A3.out).mono ?_); rintro e w8 ⟨v476, rfl, ho0, hb⟩; refine ⟨_, rfl, ?_⟩; have HO477 := mk0 (Kd.R_lower (Kd.R_new' ho0 (Kd.R_lt (by (with_reducible repeat (first | apply Kd.R_alloc | apply Kd.R_drewN | apply Kd.R_drew)); exact HO473.out))) (below_size (by repeat (first | (with_reducible first | exact HB.out | apply below_alloc | apply pw_below_drewN | apply below_drew1) | exact HB.out)))); replace HO473 := mk0 (Kd.R_elder' (by (with_reducible repeat (first | apply Kd.R_alloc | apply Kd.R_drewN | apply Kd.R_drew)); exact HO473.out) (Kd.R_base ho0) hb); replace HB := mk0 (below_step (by repeat (first | (with_reducible first | exact HB.out | apply below_alloc | apply pw_below_drewN | apply below_drew1) | exact HB.out)) hb); (try clear hb); (try clear ho0)) | ((with_reducible refine gate_callee (f := 25) rfl ?_); refine goesL_ (some 19) rfl rfl Try.func25 (by kernel_rfl) rfl #[.int .i64 a0, .int .i64 0, .int .i64 10000] rfl (by (try simp only [List.map_toArray, List.map_cons, List.map_nil]); first | done | rfl | (simp only [List.length_drop, List.length_take]; rfl)) ?_; (with_reducible refine (bellpullref01_In.calls a0 0 10000 true _ A4.out).mono ?_); rintro e w' ⟨rfl, ⟨nd, rfl⟩⟩; refine ⟨_, rfl, ?_⟩)); (try simp only [Act.put, List.setIfInBounds_toArray, List.set_cons_zero, List.set_cons_succ])
  go_cut [50] (fun v50 wc => ∃ (kq : Nat) (x50_5 : Bool), v50 = .bool x50_5 ∧ Aside0 (bellpulllaw04_NormSquares.j0 kq a0 t474 t475 x50_5 = some r) ∧ Aside0 (kq ≤ k) ∧ Aside0 (Kd.R (Kd.int .i64) 3 wc w.heap.size (fun _ => True) v476 t474) ∧ Aside0 (Below w.heap.size w wc))
  case first =>
   have H := HC6.out; clear HC6; replace H := Option.bind_eq_some_iff.mp H; obtain ⟨t480, A90, H⟩ := H; (try dsimp only at H); have A9 := mk0 A90; clear A90; replace H := Option.bind_eq_some_iff.mp H; obtain ⟨t483, A100, H⟩ := H; (try dsimp only at H); have A10 := mk0 A100; clear A100
   by_cases c11 : t483 = true
   ·
    subst c11; have H1 : (if t471 = 0 then ((bellpulllaw04_lives.f k).bind fun t484 => (bellpulllaw04_NormSquares.j0 k a0 t474 t475 (!t484))) else (none)) = some r := by rw [if_pos rfl] at H; exact H
    clear H; have H := H1; clear H1
    by_cases c12 : t471 = 0
    ·
     rw [if_pos c12] at H; have c12b0 : (t471 == 0) = true := beq_iff_eq.mpr c12; have c12b1 : (t471 != 0) = false := bne_eq_false_iff_eq.mpr c12; clear c12; (first | rw [c12b0] | (simp only [i64_w, i32_w]; rw [c12b0]) | skip); replace H := Option.bind_eq_some_iff.mp H; obtain ⟨t484, A130, H⟩ := H; (try dsimp only at H); have A13 := mk0 A130; clear A130; have H' := mk0 H; clear H; go_wp2_with (first | ((with_reducible refine gate_callee (f := 27) rfl ?_); refine goesL_ (some 40) rfl rfl Try.func27 (by kernel_rfl) rfl #[.int .i64 a0, .int .i64 4, .int .i64 100] rfl (by (try simp only [List.map_toArray, List.map_cons, List.map_nil]); first | done | rfl | (simp only [List.length_drop, List.length_take]; rfl)) ?_; (with_reducible refine (bellpullref04_Squares.calls k a0 4 100 t480 _ A9.out).mono ?_); rintro e w14 ⟨v481, rfl, ho0, hz0, hb⟩; refine ⟨_, rfl, ?_⟩; have HO482 := mk0 (Kd.R_lower (Kd.R_new' (Kd.R_new' ho0 (Kd.R_lt (by (with_reducible repeat (first | apply Kd.R_alloc | apply Kd.R_drewN | apply Kd.R_drew)); exact HO473.out))) (Kd.R_lt (by (with_reducible repeat (first | apply Kd.R_alloc | apply Kd.R_drewN | apply Kd.R_drew)); exact HO477.out))) (below_size (by repeat (first | (with_reducible first | exact HB.out | apply below_alloc | apply pw_below_drewN | apply below_drew1) | exact HB.out)))); have NZHO482 := mk0 (hz0); replace HO473 := mk0 (Kd.R_elder' (by (with_reducible repeat (first | apply Kd.R_alloc | apply Kd.R_drewN | apply Kd.R_drew)); exact HO473.out) (Kd.R_base ho0) hb); replace HO477 := mk0 (Kd.R_elder' (by (with_reducible repeat (first | apply Kd.R_alloc | apply Kd.R_drewN | apply Kd.R_drew)); exact HO477.out) (Kd.R_base ho0) hb); replace HB := mk0 (below_step (by repeat (first | (with_reducible first | exact HB.out | apply below_alloc | apply pw_below_drewN | apply below_drew1) | exact HB.out)) hb); (try clear hb); (try clear ho0); obtain ⟨Ao15, co15, eo15⟩ := Kd.R_slice HO473.out; subst eo15; obtain ⟨Ao16, co16, eo16⟩ := Kd.R_slice HO482.out; subst eo16) | ((with_reducible refine gate_callee (f := 26) rfl ?_); refine goesL_ (some 41) rfl rfl Try.func26 (by kernel_rfl) rfl #[.slice Ao15 t470.length co15, .slice Ao16 t480.length co16] rfl (by (try simp only [List.map_toArray, List.map_cons, List.map_nil]); first | done | rfl | (simp only [List.length_drop, List.length_take]; rfl)) ?_; (with_reducible refine (bellpullref01_Same.calls k _ _ t470 _ _ t480 true _ ?side1 ?side2 ?side3 ?side4 A10.out).mono ?_); (case side1 => repeat (first | exact (Kd.R_reads' HO473.out).2.2 | (with_reducible refine Kd.C_alloc ?_ _) | (with_reducible refine Kd.C_drewN ?_ _) | (with_reducible refine Kd.C_drew ?_))); (case side2 => exact (Kd.R_reads' HO473.out).2.1); (case side3 => repeat (first | exact (Kd.R_reads' HO482.out).2.2 | (with_reducible refine Kd.C_alloc ?_ _) | (with_reducible refine Kd.C_drewN ?_ _) | (with_reducible refine Kd.C_drew ?_))); (case side4 => exact (Kd.R_reads' HO482.out).2.1); rintro e w' ⟨rfl, ⟨nd, rfl⟩⟩; refine ⟨_, rfl, ?_⟩) | (go_at_call 19; (with_reducible refine (bellpulllaw04_lives.calls k  t484 _ A13.out).mono ?_); rintro e w17 ⟨rfl, hb⟩; replace HO473 := mk0 (Kd.R_below (by (with_reducible repeat (first | apply Kd.R_alloc | apply Kd.R_drewN | apply Kd.R_drew)); exact HO473.out) hb); replace HO477 := mk0 (Kd.R_below (by (with_reducible repeat (first | apply Kd.R_alloc | apply Kd.R_drewN | apply Kd.R_drew)); exact HO477.out) hb); replace HO482 := mk0 (Kd.R_below (by (with_reducible repeat (first | apply Kd.R_alloc | apply Kd.R_drewN | apply Kd.R_drew)); exact HO482.out) hb); replace HB := mk0 (below_step (by repeat (first | (with_reducible first | exact HB.out | apply below_alloc | apply pw_below_drewN | apply below_drew1) | exact HB.out)) hb); (try clear hb))); go_meet
     case rel => exact ⟨_, (!t484), (by first | rfl | (simp; done) | (simp [*]; done)), H', ⟨by first | omega | exact Nat.le_refl _⟩, ⟨by (with_reducible repeat (first | apply Kd.R_alloc | apply Kd.R_drewN | apply Kd.R_drew)); exact Kd.R_mono HO477.out (fun _ hk => trivial)⟩, ⟨by repeat (first | (with_reducible first | exact HB.out | apply below_alloc | apply pw_below_drewN | apply below_drew1) | exact HB.out)⟩⟩
    ·
     rw [if_neg c12] at H; exact absurd H (by simp)
   ·
    replace c11 := Bool.eq_false_iff.mpr c11; subst c11; have H1 : (none) = some r := by rw [if_neg (show ¬ (false = true) by decide)] at H; exact H
    clear H; have H := H1; clear H1; exact absurd H (by simp)
  case rest =>
   clear HC6; try clear c1
   try clear c2
   try clear p2
   try clear c5
   try clear p6
   try clear c11
   try clear c12
   try clear c12b0
   try clear c12b1
   obtain ⟨kq, x50_5, rfl, HA, HJ5, HO_5, HB⟩ := hcut; cases kq with
   | zero => exact absurd HA.out (by simp [bellpulllaw04_NormSquares.j0])
   | succ kj5 =>
    have H := HA.out; clear HA; simp only [bellpulllaw04_NormSquares.j0] at H
    by_cases c18 : x50_5 = true
    ·
     subst c18; have H1 : (none) = some r := by rw [if_pos rfl] at H; exact H
     clear H; have H := H1; clear H1; exact absurd H (by simp)
    ·
     replace c18 := Bool.eq_false_iff.mpr c18; subst c18; have H1 : ((bellpullref04_Squares.f kj5 a0 3 100).bind fun t485 => (if 0 < (t485.length : Int) then ((bellpullref01_Same.f kj5 t474 t485).bind fun t489 => (if t489 = true then (some (t475 == 0)) else (none))) else (if (t474.length : Int) = 0 then (some (t475 == 5)) else (none)))) = some r := by rw [if_neg (show ¬ (false = true) by decide)] at H; exact H
     clear H; have H := H1; clear H1; replace H := Option.bind_eq_some_iff.mp H; obtain ⟨t485, A190, H⟩ := H; (try dsimp only at H); have A19 := mk0 A190; clear A190
     by_cases c20 : 0 < (t485.length : Int)
     ·
      rw [if_pos c20] at H; have c20b0 : decide (0 < (t485.length : Int)) = true := decide_eq_true c20; have c20b1 : decide (0 < t485.length) = true := decide_eq_true (by omega); clear c20; replace H := Option.bind_eq_some_iff.mp H; obtain ⟨t489, A210, H⟩ := H; (try dsimp only at H); have A21 := mk0 A210; clear A210
      by_cases c22 : t489 = true
      ·
       subst c22; have H1 : (some (t475 == 0)) = some r := by rw [if_pos rfl] at H; exact H
       clear H; have H := H1; clear H1; obtain rfl := Option.some.inj H; go_wp2_with (first | ((with_reducible refine gate_callee (f := 27) rfl ?_); refine goesL_ (some 52) rfl rfl Try.func27 (by kernel_rfl) rfl #[.int .i64 a0, .int .i64 3, .int .i64 100] rfl (by (try simp only [List.map_toArray, List.map_cons, List.map_nil]); first | done | rfl | (simp only [List.length_drop, List.length_take]; rfl)) ?_; (with_reducible refine (bellpullref04_Squares.calls kj5 a0 3 100 t485 _ A19.out).mono ?_); rintro e w23 ⟨v486, rfl, ho0, hz0, hb⟩; refine ⟨_, rfl, ?_⟩; have HO487 := mk0 (Kd.R_lower (Kd.R_new' ho0 (Kd.R_lt (by (with_reducible repeat (first | apply Kd.R_alloc | apply Kd.R_drewN | apply Kd.R_drew)); exact HO_5.out))) (below_size (by repeat (first | (with_reducible first | exact HB.out | apply below_alloc | apply pw_below_drewN | apply below_drew1) | exact HB.out)))); have NZHO487 := mk0 (hz0); replace HO_5 := mk0 (Kd.R_elder' (by (with_reducible repeat (first | apply Kd.R_alloc | apply Kd.R_drewN | apply Kd.R_drew)); exact HO_5.out) (Kd.R_base ho0) hb); replace HB := mk0 (below_step (by repeat (first | (with_reducible first | exact HB.out | apply below_alloc | apply pw_below_drewN | apply below_drew1) | exact HB.out)) hb); (try clear hb); (try clear ho0); obtain ⟨Ao24, co24, eo24⟩ := Kd.R_slice HO487.out; subst eo24; have p488 : 0 ≤ (0 : Int) := (by omega); have q488 : 0 < (t485.length : Int) := of_decide_eq_true (by first | (with_reducible assumption) | assumption); obtain ⟨ad488, e488, hx488_0⟩ := Kd.at_int (Kd.R_reads' HO487.out).2.2 0 p488 q488; cases e488; have qi488 : (0 < t485.length) = True := eq_true (by omega); (try rw [show ((0 : Int)).toNat = 0 from rfl] at hx488_0); (try rw [Addr.add_zero'] at hx488_0); replace p488 := eq_true p488; replace q488 := eq_true q488; obtain ⟨Ao25, co25, eo25⟩ := Kd.R_slice HO_5.out; subst eo25) | ((with_reducible refine gate_callee (f := 26) rfl ?_); refine goesL_ (some 57) rfl rfl Try.func26 (by kernel_rfl) rfl #[.slice Ao25 t474.length co25, .slice (some ad488) t485.length co24] rfl (by (try simp only [List.map_toArray, List.map_cons, List.map_nil]); first | done | rfl | (simp only [List.length_drop, List.length_take]; rfl)) ?_; (with_reducible refine (bellpullref01_Same.calls kj5 _ _ t474 _ _ t485 true _ ?side1 ?side2 ?side3 ?side4 A21.out).mono ?_); (case side1 => repeat (first | exact (Kd.R_reads' HO_5.out).2.2 | (with_reducible refine Kd.C_alloc ?_ _) | (with_reducible refine Kd.C_drewN ?_ _) | (with_reducible refine Kd.C_drew ?_))); (case side2 => exact (Kd.R_reads' HO_5.out).2.1); (case side3 => repeat (first | exact (Kd.R_reads' HO487.out).2.2 | (with_reducible refine Kd.C_alloc ?_ _) | (with_reducible refine Kd.C_drewN ?_ _) | (with_reducible refine Kd.C_drew ?_))); (case side4 => exact (Kd.R_reads' HO487.out).2.1); rintro e w' ⟨rfl, ⟨nd, rfl⟩⟩; refine ⟨_, rfl, ?_⟩)); go_ret; exact ⟨by first | rfl | (simp [errW_none, errW_some] <;> rfl) | (simp [*, errW_none, errW_some] <;> rfl), by repeat (first | (with_reducible first | exact HB.out | apply below_alloc | apply pw_below_drewN | apply below_drew1) | exact HB.out)⟩
      ·
       replace c22 := Bool.eq_false_iff.mpr c22; subst c22; have H1 : (none) = some r := by rw [if_neg (show ¬ (false = true) by decide)] at H; exact H
       clear H; have H := H1; clear H1; exact absurd H (by simp)
     ·
      rw [if_neg c20] at H; have c20b0 : decide (0 < (t485.length : Int)) = false := decide_eq_false c20; have c20b1 : decide (0 < t485.length) = false := decide_eq_false (by omega); clear c20
      by_cases c26 : (t474.length : Int) = 0
      ·
       rw [if_pos c26] at H; have c26b0 : ((t474.length : Int) == 0) = true := beq_iff_eq.mpr c26; have c26b1 : ((t474.length : Int) != 0) = false := bne_eq_false_iff_eq.mpr c26; clear c26; obtain rfl := Option.some.inj H; go_wp2_with (first | ((with_reducible refine gate_callee (f := 27) rfl ?_); refine goesL_ (some 52) rfl rfl Try.func27 (by kernel_rfl) rfl #[.int .i64 a0, .int .i64 3, .int .i64 100] rfl (by (try simp only [List.map_toArray, List.map_cons, List.map_nil]); first | done | rfl | (simp only [List.length_drop, List.length_take]; rfl)) ?_; (with_reducible refine (bellpullref04_Squares.calls kj5 a0 3 100 t485 _ A19.out).mono ?_); rintro e w27 ⟨v486, rfl, ho0, hz0, hb⟩; refine ⟨_, rfl, ?_⟩; have HO487 := mk0 (Kd.R_lower (Kd.R_new' ho0 (Kd.R_lt (by (with_reducible repeat (first | apply Kd.R_alloc | apply Kd.R_drewN | apply Kd.R_drew)); exact HO_5.out))) (below_size (by repeat (first | (with_reducible first | exact HB.out | apply below_alloc | apply pw_below_drewN | apply below_drew1) | exact HB.out)))); have NZHO487 := mk0 (hz0); replace HO_5 := mk0 (Kd.R_elder' (by (with_reducible repeat (first | apply Kd.R_alloc | apply Kd.R_drewN | apply Kd.R_drew)); exact HO_5.out) (Kd.R_base ho0) hb); replace HB := mk0 (below_step (by repeat (first | (with_reducible first | exact HB.out | apply below_alloc | apply pw_below_drewN | apply below_drew1) | exact HB.out)) hb); (try clear hb); (try clear ho0); have hz_ := NZHO487.out (List.length_eq_zero_iff.mp (Nat.eq_zero_of_not_pos (of_decide_eq_false (show decide (0 < t485.length) = false by assumption)))); subst hz_; obtain ⟨Ao28, co28, eo28⟩ := Kd.R_slice HO_5.out; subst eo28)); go_ret; exact ⟨by first | rfl | (simp [errW_none, errW_some] <;> rfl) | (simp [*, errW_none, errW_some] <;> rfl), by repeat (first | (with_reducible first | exact HB.out | apply below_alloc | apply pw_below_drewN | apply below_drew1) | exact HB.out)⟩
      ·
       rw [if_neg c26] at H; exact absurd H (by simp)
 ·
  replace c5 := Bool.eq_false_iff.mpr c5; subst c5; have H1 : (if (wrap64 ((t470.length : Int) + (t474.length : Int))) = 0 then (if t471 = 1 then (if t475 = 1 then ((bellpulllaw04_lives.f k).bind fun t479 => (some t479)) else (none)) else (none)) else (none)) = some r := by rw [if_neg (show ¬ (false = true) by decide)] at H; exact H
  clear H; have H := H1; clear H1
  by_cases c29 : (wrap64 ((t470.length : Int) + (t474.length : Int))) = 0
  ·
   rw [if_pos c29] at H; have c29b0 : ((wrap64 ((t470.length : Int) + (t474.length : Int))) == 0) = true := beq_iff_eq.mpr c29; have c29b1 : ((wrap64 ((t470.length : Int) + (t474.length : Int))) != 0) = false := bne_eq_false_iff_eq.mpr c29; clear c29
   by_cases c30 : t471 = 1
   ·
    rw [if_pos c30] at H; have c30b0 : (t471 == 1) = true := beq_iff_eq.mpr c30; have c30b1 : (t471 != 1) = false := bne_eq_false_iff_eq.mpr c30; clear c30
    by_cases c31 : t475 = 1
    ·
     rw [if_pos c31] at H; have c31b0 : (t475 == 1) = true := beq_iff_eq.mpr c31; have c31b1 : (t475 != 1) = false := bne_eq_false_iff_eq.mpr c31; clear c31; replace H := Option.bind_eq_some_iff.mp H; obtain ⟨t479, A320, H⟩ := H; (try dsimp only at H); have A32 := mk0 A320; clear A320; obtain rfl := Option.some.inj H; go_enter Try.func5, Try.ntmps5; go_wp2_with (first | ((with_reducible refine gate_callee (f := 23) rfl ?_); refine goesL_ (some 10) rfl rfl Try.func23 (by kernel_rfl) rfl #[.int .i64 a0] rfl (by (try simp only [List.map_toArray, List.map_cons, List.map_nil]); first | done | rfl | (simp only [List.length_drop, List.length_take]; rfl)) ?_; (with_reducible refine (norm_Four.calls k a0 t470 t471 _ A2.out).mono ?_); rintro e w33 ⟨v472, rfl, ho0, hb⟩; refine ⟨_, rfl, ?_⟩; have HO473 := mk0 (Kd.R_lower ho0 (below_size (by repeat (first | (with_reducible first | exact HB.out | apply below_alloc | apply pw_below_drewN | apply below_drew1) | exact HB.out)))); replace HB := mk0 (below_step (by repeat (first | (with_reducible first | exact HB.out | apply below_alloc | apply pw_below_drewN | apply below_drew1) | exact HB.out)) hb); (try clear hb); (try clear ho0)) | ((with_reducible refine gate_callee (f := 24) rfl ?_); refine goesL_ (some 15) rfl rfl Try.func24 (by kernel_rfl) rfl #[.int .i64 a0] rfl (by (try simp only [List.map_toArray, List.map_cons, List.map_nil]); first | done | rfl | (simp only [List.length_drop, List.length_take]; rfl)) ?_; (with_reducible refine (norm_Three.calls k a0 t474 t475 _ A3.out).mono ?_); rintro e w34 ⟨v476, rfl, ho0, hb⟩; refine ⟨_, rfl, ?_⟩; have HO477 := mk0 (Kd.R_lower (Kd.R_new' ho0 (Kd.R_lt (by (with_reducible repeat (first | apply Kd.R_alloc | apply Kd.R_drewN | apply Kd.R_drew)); exact HO473.out))) (below_size (by repeat (first | (with_reducible first | exact HB.out | apply below_alloc | apply pw_below_drewN | apply below_drew1) | exact HB.out)))); replace HO473 := mk0 (Kd.R_elder' (by (with_reducible repeat (first | apply Kd.R_alloc | apply Kd.R_drewN | apply Kd.R_drew)); exact HO473.out) (Kd.R_base ho0) hb); replace HB := mk0 (below_step (by repeat (first | (with_reducible first | exact HB.out | apply below_alloc | apply pw_below_drewN | apply below_drew1) | exact HB.out)) hb); (try clear hb); (try clear ho0)) | ((with_reducible refine gate_callee (f := 25) rfl ?_); refine goesL_ (some 19) rfl rfl Try.func25 (by kernel_rfl) rfl #[.int .i64 a0, .int .i64 0, .int .i64 10000] rfl (by (try simp only [List.map_toArray, List.map_cons, List.map_nil]); first | done | rfl | (simp only [List.length_drop, List.length_take]; rfl)) ?_; (with_reducible refine (bellpullref01_In.calls a0 0 10000 false _ A4.out).mono ?_); rintro e w' ⟨rfl, ⟨nd, rfl⟩⟩; refine ⟨_, rfl, ?_⟩; obtain ⟨Ao35, co35, eo35⟩ := Kd.R_slice HO473.out; subst eo35; obtain ⟨Ao36, co36, eo36⟩ := Kd.R_slice HO477.out; subst eo36) | (go_at_call 19; (with_reducible refine (bellpulllaw04_lives.calls k  t479 _ A32.out).mono ?_); rintro e w37 ⟨rfl, hb⟩; replace HO473 := mk0 (Kd.R_below (by (with_reducible repeat (first | apply Kd.R_alloc | apply Kd.R_drewN | apply Kd.R_drew)); exact HO473.out) hb); replace HO477 := mk0 (Kd.R_below (by (with_reducible repeat (first | apply Kd.R_alloc | apply Kd.R_drewN | apply Kd.R_drew)); exact HO477.out) hb); replace HB := mk0 (below_step (by repeat (first | (with_reducible first | exact HB.out | apply below_alloc | apply pw_below_drewN | apply below_drew1) | exact HB.out)) hb); (try clear hb))); go_ret; exact ⟨by first | rfl | (simp [errW_none, errW_some] <;> rfl) | (simp [*, errW_none, errW_some] <;> rfl), by repeat (first | (with_reducible first | exact HB.out | apply below_alloc | apply pw_below_drewN | apply below_drew1) | exact HB.out)⟩
    ·
     rw [if_neg c31] at H; exact absurd H (by simp)
   ·
    rw [if_neg c30] at H; exact absurd H (by simp)
  ·
   rw [if_neg c29] at H; exact absurd H (by simp)
/-- THE ONE PURE STATEMENT of bellpulllaw04_NormSquares: yours. -/
def bellpulllaw04_NormSquares.Pure : Prop := ∀ (a0 : Int), (Lit.int .i64 a0).wf = true → ∃ k, bellpulllaw04_NormSquares.f k a0 = some true
theorem bellpulllaw04_NormSquares.walk (P : bellpulllaw04_NormSquares.Pure) (a0 : Int) (w : World) (w0 : (Lit.int .i64 a0).wf = true) :
    Calls Try.prog 5 #[.int .i64 a0] w fun e w' => e = .returned (.bool true) ∧ Below w.heap.size w w' := by
  obtain ⟨k, h⟩ := P a0 w0
  refine (bellpulllaw04_NormSquares.calls k a0 true w h).mono ?_
  rintro e w' ⟨rfl, hd⟩
  exact ⟨rfl, hd⟩

end Go.Proofs.Ytgfnmimfoicmmaa.PM
