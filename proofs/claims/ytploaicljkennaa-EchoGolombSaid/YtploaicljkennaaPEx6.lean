-- Written by pr2.py, a program of this session's, for this claim (through the kit's print).
import Derived.Test.YtploaicljkennaaPEx0
import Derived.Test.YtploaicljkennaaPEx1
import Derived.Test.YtploaicljkennaaPEx4
import Derived.Test.YtploaicljkennaaPEx5
namespace Go.Proofs.Ytploaicljkennaa.PE
open Go.RowKit Go.Proofs.YtploaicljkennaaW.PrintWords Go.Proofs.YtploaicljkennaaW.PrintLast Go.Proofs.YtploaicljkennaaW.PrintMore
attribute [local go_sem] max2_int min2_int max_two min_two max_three min_three max_four min_four   -- for this text's walks alone
set_option linter.unusedVariables false
set_option linter.unusedSimpArgs false

/-! ### bellpulllaw02_EchoGolomb: function 5 -/
mutual
def bellpulllaw02_EchoGolomb.j0 : Nat → Int → List Int → Bool → Option (Bool)
  | 0, _, _, _ => none
  | k + 1, x3, x4, x35 => if x35 = true then (none) else (if 0 ≤ (wrap64 (x3 + 2)) then (if (wrap64 (x3 + 2) : Int).toNat ≤ 35184372088832 then (bellpulllaw02_EchoGolomb.l0 k x3 x4 (List.replicate (wrap64 (x3 + 2) : Int).toNat 0) 0) else (none)) else (none))
def bellpulllaw02_EchoGolomb.l0 : Nat → Int → List Int → List Int → Int → Option (Bool)
  | 0, _, _, _, _ => none
  | k + 1, x3, x4, x6, x7 => if x7 < x3 then (if 0 ≤ x7 then (if x7 < (x4.length : Int) then (if (rd x4 x7) < 1 then (none) else (if (rd x4 x7) > (wrap64 (x7 + 1)) then (none) else (if x7 > 0 then (if 0 ≤ (wrap64 (x7 - 1)) then (if (wrap64 (x7 - 1)) < (x4.length : Int) then (if (rd x4 x7) < (rd x4 (wrap64 (x7 - 1))) then (none) else (if (rd x4 x7) > (wrap64 ((rd x4 (wrap64 (x7 - 1))) + 1)) then (none) else (if 0 ≤ (rd x4 x7) then (if (rd x4 x7) < (x6.length : Int) then (bellpulllaw02_EchoGolomb.l0 k x3 x4 (x6.set ((rd x4 x7) : Int).toNat (wrap64 ((rd x6 (rd x4 x7)) + 1))) (wrap64 (x7 + 1))) else (none)) else (none)))) else (none)) else (none)) else (if 0 ≤ (rd x4 x7) then (if (rd x4 x7) < (x6.length : Int) then (bellpulllaw02_EchoGolomb.l0 k x3 x4 (x6.set ((rd x4 x7) : Int).toNat (wrap64 ((rd x6 (rd x4 x7)) + 1))) (wrap64 (x7 + 1))) else (none)) else (none))))) else (none)) else (none)) else (bellpulllaw02_EchoGolomb.l1 k x3 x4 x6 1)
def bellpulllaw02_EchoGolomb.l1 : Nat → Int → List Int → List Int → Int → Option (Bool)
  | 0, _, _, _, _ => none
  | k + 1, x3, x4, x6, x8 => if 0 ≤ (wrap64 (x3 - 1)) then (if (wrap64 (x3 - 1)) < (x4.length : Int) then (if x8 < (rd x4 (wrap64 (x3 - 1))) then (if 0 ≤ x8 then (if x8 < (x6.length : Int) then (if 0 ≤ (wrap64 (x8 - 1)) then (if (wrap64 (x8 - 1)) < (x4.length : Int) then (if (rd x6 x8) = (rd x4 (wrap64 (x8 - 1))) then (bellpulllaw02_EchoGolomb.l1 k x3 x4 x6 (wrap64 (x8 + 1))) else (none)) else (none)) else (none)) else (none)) else (none)) else (bellpulllaw02_EchoGolomb.l2 k x3 x4 1)) else (none)) else (none)
def bellpulllaw02_EchoGolomb.l2 : Nat → Int → List Int → Int → Option (Bool)
  | 0, _, _, _ => none
  | k + 1, x3, x4, x9 => if x9 < x3 then (if 0 ≤ (wrap64 (x9 - 1)) then (if (wrap64 (x9 - 1)) < (x4.length : Int) then (if 0 ≤ (wrap64 ((rd x4 (wrap64 (x9 - 1))) - 1)) then (if (wrap64 ((rd x4 (wrap64 (x9 - 1))) - 1)) < (x4.length : Int) then (if (wrap64 ((wrap64 (x9 + 1)) - (rd x4 (wrap64 ((rd x4 (wrap64 (x9 - 1))) - 1))))) < 1 then (none) else (if (wrap64 ((wrap64 (x9 + 1)) - (rd x4 (wrap64 ((rd x4 (wrap64 (x9 - 1))) - 1))))) > x3 then (none) else (if 0 ≤ x9 then (if x9 < (x4.length : Int) then (if 0 ≤ (wrap64 ((wrap64 ((wrap64 (x9 + 1)) - (rd x4 (wrap64 ((rd x4 (wrap64 (x9 - 1))) - 1))))) - 1)) then (if (wrap64 ((wrap64 ((wrap64 (x9 + 1)) - (rd x4 (wrap64 ((rd x4 (wrap64 (x9 - 1))) - 1))))) - 1)) < (x4.length : Int) then (if (rd x4 x9) = (wrap64 (1 + (rd x4 (wrap64 ((wrap64 ((wrap64 (x9 + 1)) - (rd x4 (wrap64 ((rd x4 (wrap64 (x9 - 1))) - 1))))) - 1))))) then (bellpulllaw02_EchoGolomb.l2 k x3 x4 (wrap64 (x9 + 1))) else (none)) else (none)) else (none)) else (none)) else (none)))) else (none)) else (none)) else (none)) else (none)) else (some true)
end
def bellpulllaw02_EchoGolomb.f (k : Nat) (a0 : Int) : Option (Bool) := (bellpulllaw02_between.f a0 1 2000).bind fun t279 => ((echo_Golomb.f k t279).bind fun bt280 => (if bt280.2 = 0 then (if (bt280.1.length : Int) = t279 then (if 0 < (bt280.1.length : Int) then (if (rd bt280.1 0) = 1 then ((bellpulllaw02_lives.f k).bind fun t285 => (bellpulllaw02_EchoGolomb.j0 k t279 bt280.1 (!t285))) else (none)) else (none)) else (none)) else (none)))
theorem bellpulllaw02_EchoGolomb.mono_l : ∀ k, (∀ y0 y1 y2, LeO (bellpulllaw02_EchoGolomb.j0 k y0 y1 y2) (bellpulllaw02_EchoGolomb.j0 (k + 1) y0 y1 y2)) ∧ (∀ y0 y1 y2 y3, LeO (bellpulllaw02_EchoGolomb.l0 k y0 y1 y2 y3) (bellpulllaw02_EchoGolomb.l0 (k + 1) y0 y1 y2 y3)) ∧ (∀ y0 y1 y2 y3, LeO (bellpulllaw02_EchoGolomb.l1 k y0 y1 y2 y3) (bellpulllaw02_EchoGolomb.l1 (k + 1) y0 y1 y2 y3)) ∧ (∀ y0 y1 y2, LeO (bellpulllaw02_EchoGolomb.l2 k y0 y1 y2) (bellpulllaw02_EchoGolomb.l2 (k + 1) y0 y1 y2))
  | 0 => ⟨fun _ _ _ r h => by simp [bellpulllaw02_EchoGolomb.j0] at h, fun _ _ _ _ r h => by simp [bellpulllaw02_EchoGolomb.l0] at h, fun _ _ _ _ r h => by simp [bellpulllaw02_EchoGolomb.l1] at h, fun _ _ _ r h => by simp [bellpulllaw02_EchoGolomb.l2] at h⟩
  | k + 1 => by
    obtain ⟨ih0, ih1, ih2, ih3⟩ := bellpulllaw02_EchoGolomb.mono_l k
    refine ⟨?_, ?_, ?_, ?_⟩
    · intro y0 y1 y2
      unfold bellpulllaw02_EchoGolomb.j0
      repeat' first
      | (with_reducible exact ih0 _ _ _)
      | (with_reducible exact ih1 _ _ _ _)
      | (with_reducible exact ih2 _ _ _ _)
      | (with_reducible exact ih3 _ _ _)
      | (with_reducible exact bellpulllaw02_lives.mono _)
      | (with_reducible exact echo_Golomb.mono _ _)
      | (with_reducible exact LeO.refl _)
      | (with_reducible exact LeO.none _)
      | (with_reducible refine LeO.ite ?_ ?_)
      | (with_reducible refine LeO.bind ?_ (fun _ => ?_))
      | exact ih0 _ _ _
      | exact ih1 _ _ _ _
      | exact ih2 _ _ _ _
      | exact ih3 _ _ _
      | exact bellpulllaw02_lives.mono _
      | exact echo_Golomb.mono _ _
      | exact LeO.none _
      | refine LeO.ite ?_ ?_
      | refine LeO.bind ?_ (fun _ => ?_)
    · intro y0 y1 y2 y3
      unfold bellpulllaw02_EchoGolomb.l0
      repeat' first
      | (with_reducible exact ih0 _ _ _)
      | (with_reducible exact ih1 _ _ _ _)
      | (with_reducible exact ih2 _ _ _ _)
      | (with_reducible exact ih3 _ _ _)
      | (with_reducible exact bellpulllaw02_lives.mono _)
      | (with_reducible exact echo_Golomb.mono _ _)
      | (with_reducible exact LeO.refl _)
      | (with_reducible exact LeO.none _)
      | (with_reducible refine LeO.ite ?_ ?_)
      | (with_reducible refine LeO.bind ?_ (fun _ => ?_))
      | exact ih0 _ _ _
      | exact ih1 _ _ _ _
      | exact ih2 _ _ _ _
      | exact ih3 _ _ _
      | exact bellpulllaw02_lives.mono _
      | exact echo_Golomb.mono _ _
      | exact LeO.none _
      | refine LeO.ite ?_ ?_
      | refine LeO.bind ?_ (fun _ => ?_)
    · intro y0 y1 y2 y3
      unfold bellpulllaw02_EchoGolomb.l1
      repeat' first
      | (with_reducible exact ih0 _ _ _)
      | (with_reducible exact ih1 _ _ _ _)
      | (with_reducible exact ih2 _ _ _ _)
      | (with_reducible exact ih3 _ _ _)
      | (with_reducible exact bellpulllaw02_lives.mono _)
      | (with_reducible exact echo_Golomb.mono _ _)
      | (with_reducible exact LeO.refl _)
      | (with_reducible exact LeO.none _)
      | (with_reducible refine LeO.ite ?_ ?_)
      | (with_reducible refine LeO.bind ?_ (fun _ => ?_))
      | exact ih0 _ _ _
      | exact ih1 _ _ _ _
      | exact ih2 _ _ _ _
      | exact ih3 _ _ _
      | exact bellpulllaw02_lives.mono _
      | exact echo_Golomb.mono _ _
      | exact LeO.none _
      | refine LeO.ite ?_ ?_
      | refine LeO.bind ?_ (fun _ => ?_)
    · intro y0 y1 y2
      unfold bellpulllaw02_EchoGolomb.l2
      repeat' first
      | (with_reducible exact ih0 _ _ _)
      | (with_reducible exact ih1 _ _ _ _)
      | (with_reducible exact ih2 _ _ _ _)
      | (with_reducible exact ih3 _ _ _)
      | (with_reducible exact bellpulllaw02_lives.mono _)
      | (with_reducible exact echo_Golomb.mono _ _)
      | (with_reducible exact LeO.refl _)
      | (with_reducible exact LeO.none _)
      | (with_reducible refine LeO.ite ?_ ?_)
      | (with_reducible refine LeO.bind ?_ (fun _ => ?_))
      | exact ih0 _ _ _
      | exact ih1 _ _ _ _
      | exact ih2 _ _ _ _
      | exact ih3 _ _ _
      | exact bellpulllaw02_lives.mono _
      | exact echo_Golomb.mono _ _
      | exact LeO.none _
      | refine LeO.ite ?_ ?_
      | refine LeO.bind ?_ (fun _ => ?_)
theorem bellpulllaw02_EchoGolomb.mono : ∀ a0 k, LeO (bellpulllaw02_EchoGolomb.f k a0) (bellpulllaw02_EchoGolomb.f (k + 1) a0) := by
  intro a0 k
  obtain ⟨ih0, ih1, ih2, ih3⟩ := bellpulllaw02_EchoGolomb.mono_l k
  unfold bellpulllaw02_EchoGolomb.f
  repeat' first
      | (with_reducible exact ih0 _ _ _)
      | (with_reducible exact ih1 _ _ _ _)
      | (with_reducible exact ih2 _ _ _ _)
      | (with_reducible exact ih3 _ _ _)
      | (with_reducible exact bellpulllaw02_lives.mono _)
      | (with_reducible exact echo_Golomb.mono _ _)
      | (with_reducible exact LeO.refl _)
      | (with_reducible exact LeO.none _)
      | (with_reducible refine LeO.ite ?_ ?_)
      | (with_reducible refine LeO.bind ?_ (fun _ => ?_))
      | exact ih0 _ _ _
      | exact ih1 _ _ _ _
      | exact ih2 _ _ _ _
      | exact ih3 _ _ _
      | exact bellpulllaw02_lives.mono _
      | exact echo_Golomb.mono _ _
      | exact LeO.none _
      | refine LeO.ite ?_ ?_
      | refine LeO.bind ?_ (fun _ => ?_)
set_option maxHeartbeats 8000000 in
set_option maxRecDepth 100000 in
theorem bellpulllaw02_EchoGolomb.calls (k : Nat) (a0 : Int) (r : Bool) (w : World) (h : bellpulllaw02_EchoGolomb.f k a0 = some r) :
    Calls Try.prog 5 #[.int .u16 a0] w fun e w' => e = .returned (.bool r) ∧ Below w.heap.size w w' := by
  have HB := Aside0.mk (Below.refl w.heap.size w)
  have H : ((bellpulllaw02_between.f a0 1 2000).bind fun t279 => ((echo_Golomb.f k t279).bind fun bt280 => (if bt280.2 = 0 then (if (bt280.1.length : Int) = t279 then (if 0 < (bt280.1.length : Int) then (if (rd bt280.1 0) = 1 then ((bellpulllaw02_lives.f k).bind fun t285 => (bellpulllaw02_EchoGolomb.j0 k t279 bt280.1 (!t285))) else (none)) else (none)) else (none)) else (none)))) = some r := h
  clear h
  replace H := Option.bind_eq_some_iff.mp H
  obtain ⟨t279, A20, H⟩ := H
  replace H : ((echo_Golomb.f k t279).bind fun bt280 => (if bt280.2 = 0 then (if (bt280.1.length : Int) = t279 then (if 0 < (bt280.1.length : Int) then (if (rd bt280.1 0) = 1 then ((bellpulllaw02_lives.f k).bind fun t285 => (bellpulllaw02_EchoGolomb.j0 k t279 bt280.1 (!t285))) else (none)) else (none)) else (none)) else (none))) = some r := H
  have A2 := Aside0.mk A20
  clear A20
  replace H := Option.bind_eq_some_iff.mp H
  obtain ⟨⟨t280, t283⟩, A30, H⟩ := H
  replace H : (if t283 = 0 then (if (t280.length : Int) = t279 then (if 0 < (t280.length : Int) then (if (rd t280 0) = 1 then ((bellpulllaw02_lives.f k).bind fun t285 => (bellpulllaw02_EchoGolomb.j0 k t279 t280 (!t285))) else (none)) else (none)) else (none)) else (none)) = some r := H
  have A3 := Aside0.mk A30
  clear A30
  have HC4 := Aside0.mk H
  clear H
  go_enter Try.func5, Try.ntmps5
  go_upto_region 3 with (first | (go_at_call 24; (with_reducible refine (bellpulllaw02_between.calls a0 1 2000 t279 _ A2.out).mono ?_); rintro e w' ⟨rfl, ⟨nd, rfl⟩⟩; (try first | exact ⟨rfl, _, World.drewN_drewN _ _ _⟩ | exact ⟨rfl, _, Eq.trans (World.drewN_drewN _ _ _) (congrArg (World.drewN _) (Nat.add_assoc _ _ _))⟩)) | (go_at_call 16; (with_reducible refine (echo_Golomb.calls k t279 t280 t283 _ A3.out).mono ?_); rintro e w5 ⟨v281, rfl, ho0, hb⟩; have n0_ := Aside0.mk (Kd.V_lower (Kd.V_mono (ok' := fun k_ => True) ho0 (fun k_ hk_ => trivial)) (below_size (by repeat (first | (with_reducible first | exact HB.out | apply below_alloc | apply pw_below_drewN | apply below_drew1) | exact HB.out)))); have n1_ := Aside0.mk (below_step (by repeat (first | (with_reducible first | exact HB.out | apply below_alloc | apply pw_below_drewN | apply below_drew1) | exact HB.out)) hb); clear HB; have HO282 := n0_; have HB := n1_; clear n0_ n1_; (try clear hb); (try clear hb2); (try clear hk); (try clear hi); (try clear ho0)))
  repeat (go_quiet (first | (go_at_call 24; (with_reducible refine (bellpulllaw02_between.calls a0 1 2000 t279 _ A2.out).mono ?_); rintro e w' ⟨rfl, ⟨nd, rfl⟩⟩; (try first | exact ⟨rfl, _, World.drewN_drewN _ _ _⟩ | exact ⟨rfl, _, Eq.trans (World.drewN_drewN _ _ _) (congrArg (World.drewN _) (Nat.add_assoc _ _ _))⟩)) | (go_at_call 16; (with_reducible refine (echo_Golomb.calls k t279 t280 t283 _ A3.out).mono ?_); rintro e w5 ⟨v281, rfl, ho0, hb⟩; have n0_ := Aside0.mk (Kd.V_lower (Kd.V_mono (ok' := fun k_ => True) ho0 (fun k_ hk_ => trivial)) (below_size (by repeat (first | (with_reducible first | exact HB.out | apply below_alloc | apply pw_below_drewN | apply below_drew1) | exact HB.out)))); have n1_ := Aside0.mk (below_step (by repeat (first | (with_reducible first | exact HB.out | apply below_alloc | apply pw_below_drewN | apply below_drew1) | exact HB.out)) hb); clear HB; have HO282 := n0_; have HB := n1_; clear n0_ n1_; (try clear hb); (try clear hb2); (try clear hk); (try clear hi); (try clear ho0))); go_upto_region 3 with (first | (go_at_call 24; (with_reducible refine (bellpulllaw02_between.calls a0 1 2000 t279 _ A2.out).mono ?_); rintro e w' ⟨rfl, ⟨nd, rfl⟩⟩; (try first | exact ⟨rfl, _, World.drewN_drewN _ _ _⟩ | exact ⟨rfl, _, Eq.trans (World.drewN_drewN _ _ _) (congrArg (World.drewN _) (Nat.add_assoc _ _ _))⟩)) | (go_at_call 16; (with_reducible refine (echo_Golomb.calls k t279 t280 t283 _ A3.out).mono ?_); rintro e w5 ⟨v281, rfl, ho0, hb⟩; have n0_ := Aside0.mk (Kd.V_lower (Kd.V_mono (ok' := fun k_ => True) ho0 (fun k_ hk_ => trivial)) (below_size (by repeat (first | (with_reducible first | exact HB.out | apply below_alloc | apply pw_below_drewN | apply below_drew1) | exact HB.out)))); have n1_ := Aside0.mk (below_step (by repeat (first | (with_reducible first | exact HB.out | apply below_alloc | apply pw_below_drewN | apply below_drew1) | exact HB.out)) hb); clear HB; have HO282 := n0_; have HB := n1_; clear n0_ n1_; (try clear hb); (try clear hb2); (try clear hk); (try clear hi); (try clear ho0))))
  (try simp only [Act.put, List.setIfInBounds_toArray, List.set_cons_zero, List.set_cons_succ])
  go_cut [35] (fun v35 wc => ∃ (kq : Nat) (x35_3 : Bool), v35 = .bool x35_3 ∧ Aside0 (bellpulllaw02_EchoGolomb.j0 kq t279 t280 x35_3 = some r) ∧ Aside0 (kq ≤ k) ∧ Aside0 (Kd.V (Kd.int .i64) 3 wc w.heap.size (fun _ => True) v281 t280) ∧ Aside0 (Below w.heap.size w wc))
  case first =>
    have H := HC4.out
    clear HC4
    by_cases c6 : t283 = 0
    · rw [if_pos c6] at H
      have c6b0 : (t283 == 0) = true := beq_iff_eq.mpr c6
      have c6b1 : (t283 != 0) = false := bne_eq_false_iff_eq.mpr c6
      clear c6
      (first | rw [c6b0] | (simp only [i64_w, i32_w]; rw [c6b0]) | skip)
      by_cases c7 : (t280.length : Int) = t279
      · rw [if_pos c7] at H
        have c7b0 : ((t280.length : Int) == t279) = true := beq_iff_eq.mpr c7
        have c7b1 : ((t280.length : Int) != t279) = false := bne_eq_false_iff_eq.mpr c7
        clear c7
        by_cases c8 : 0 < (t280.length : Int)
        · rw [if_pos c8] at H
          have c8b0 : decide (0 < (t280.length : Int)) = true := decide_eq_true c8
          have c8b1 : decide (0 < t280.length) = true := decide_eq_true (by omega)
          clear c8
          by_cases c9 : (rd t280 0) = 1
          · rw [if_pos c9] at H
            have c9b0 : ((rd t280 0) == 1) = true := beq_iff_eq.mpr c9
            have c9b1 : ((rd t280 0) != 1) = false := bne_eq_false_iff_eq.mpr c9
            clear c9
            replace H := Option.bind_eq_some_iff.mp H
            obtain ⟨t285, A100, H⟩ := H
            replace H : (bellpulllaw02_EchoGolomb.j0 k t279 t280 (!t285)) = some r := H
            have A10 := Aside0.mk A100
            clear A100
            have H' := Aside0.mk H
            clear H
            obtain ⟨Ao11, co11, eo11⟩ := Kd.V_slice HO282.out
            subst eo11
            have p284 : 0 ≤ (0 : Int) := (by omega)
            have q284 : 0 < (t280.length : Int) := of_decide_eq_true (by first | (with_reducible assumption) | assumption)
            obtain ⟨ad284, e284, hx284_0⟩ := Kd.at_int (Kd.V_reads' HO282.out).2.2 0 p284 q284
            cases e284
            have qi284 : (0 < t280.length) = True := eq_true (by omega)
            (try rw [show ((0 : Int)).toNat = 0 from rfl] at hx284_0)
            (try rw [Addr.add_zero'] at hx284_0)
            replace p284 := eq_true p284
            replace q284 := eq_true q284
            go_wp2_with (first | (go_at_call 19; (with_reducible refine (bellpulllaw02_lives.calls k  t285 _ A10.out).mono ?_); rintro e w12 ⟨rfl, hb⟩; have n0_ := Aside0.mk (Kd.V_below (by (with_reducible repeat (first | apply Kd.V_alloc | apply Kd.V_drewN | apply Kd.V_drew)); exact HO282.out) hb); have n1_ := Aside0.mk (below_step (by repeat (first | (with_reducible first | exact HB.out | apply below_alloc | apply pw_below_drewN | apply below_drew1) | exact HB.out)) hb); clear HO282; clear HB; have HO282 := n0_; have HB := n1_; clear n0_ n1_; (try clear hb); (try clear hb2); (try clear hk); (try clear hi)))
            repeat (go_quiet (first | (go_at_call 19; (with_reducible refine (bellpulllaw02_lives.calls k  t285 _ A10.out).mono ?_); rintro e w12 ⟨rfl, hb⟩; have n0_ := Aside0.mk (Kd.V_below (by (with_reducible repeat (first | apply Kd.V_alloc | apply Kd.V_drewN | apply Kd.V_drew)); exact HO282.out) hb); have n1_ := Aside0.mk (below_step (by repeat (first | (with_reducible first | exact HB.out | apply below_alloc | apply pw_below_drewN | apply below_drew1) | exact HB.out)) hb); clear HO282; clear HB; have HO282 := n0_; have HB := n1_; clear n0_ n1_; (try clear hb); (try clear hb2); (try clear hk); (try clear hi))); try go_wp2_with (first | (go_at_call 19; (with_reducible refine (bellpulllaw02_lives.calls k  t285 _ A10.out).mono ?_); rintro e w12 ⟨rfl, hb⟩; have n0_ := Aside0.mk (Kd.V_below (by (with_reducible repeat (first | apply Kd.V_alloc | apply Kd.V_drewN | apply Kd.V_drew)); exact HO282.out) hb); have n1_ := Aside0.mk (below_step (by repeat (first | (with_reducible first | exact HB.out | apply below_alloc | apply pw_below_drewN | apply below_drew1) | exact HB.out)) hb); clear HO282; clear HB; have HO282 := n0_; have HB := n1_; clear n0_ n1_; (try clear hb); (try clear hb2); (try clear hk); (try clear hi))))
            go_meet
            case rel => exact ⟨_, (!t285), (by first | rfl | (simp; done) | (simp [*]; done)), H', ⟨by first | omega | exact Nat.le_refl _⟩, ⟨by (with_reducible repeat (first | apply Kd.V_alloc | apply Kd.V_drewN | apply Kd.V_drew)); exact HO282.out⟩, ⟨by repeat (first | (with_reducible first | exact HB.out | apply below_alloc | apply pw_below_drewN | apply below_drew1) | exact HB.out)⟩⟩
          · rw [if_neg c9] at H
            exact absurd H (by simp)
        · rw [if_neg c8] at H
          exact absurd H (by simp)
      · rw [if_neg c7] at H
        exact absurd H (by simp)
    · rw [if_neg c6] at H
      exact absurd H (by simp)
  case rest =>
    clear HC4
    try clear p2
    try clear q2
    try clear hx2
    try clear qi2
    try clear c5
    try clear c6
    try clear c6b0
    try clear c6b1
    try clear c7
    try clear c7b0
    try clear c7b1
    try clear c8
    try clear c8b0
    try clear c8b1
    try clear c9
    try clear c9b0
    try clear c9b1
    try clear hx284_0
    try clear p284
    try clear q284
    obtain ⟨kq, x35_3, rfl, HA, HJ3, HO_4, HB⟩ := hcut
    cases kq with
    | zero => exact absurd HA.out (by simp [bellpulllaw02_EchoGolomb.j0])
    | succ kj3 =>
      have H := HA.out
      clear HA
      simp only [bellpulllaw02_EchoGolomb.j0] at H
      by_cases c13 : x35_3 = true
      · subst c13
        have H1 : (none) = some r := by rw [if_pos rfl] at H; exact H
        clear H
        have H := H1
        clear H1
        exact absurd H (by simp)
      · replace c13 := Bool.eq_false_iff.mpr c13
        subst c13
        have H1 : (if 0 ≤ (wrap64 (t279 + 2)) then (if (wrap64 (t279 + 2) : Int).toNat ≤ 35184372088832 then (bellpulllaw02_EchoGolomb.l0 kj3 t279 t280 (List.replicate (wrap64 (t279 + 2) : Int).toNat 0) 0) else (none)) else (none)) = some r := by rw [if_neg (show ¬ (false = true) by decide)] at H; exact H
        clear H
        have H := H1
        clear H1
        obtain ⟨ji14, hji14⟩ : ∃ j_ : Int, (wrap64 (t279 + 2)) = j_ := ⟨_, rfl⟩
        replace H : (if 0 ≤ (ji14) then (if (ji14 : Int).toNat ≤ 35184372088832 then (bellpulllaw02_EchoGolomb.l0 kj3 t279 t280 (List.replicate (ji14 : Int).toNat 0) 0) else (none)) else (none)) = some r := by first | (rw [hji14] at H; exact H) | (simp only [hji14] at H ⊢; exact H)
        have hji14w : (IntKind.i64.wrap (t279 + 2)) = ji14 := (i64_w _).trans hji14
        by_cases c15 : 0 ≤ (ji14)
        · rw [if_pos c15] at H
          have c15b0 := eq_true c15
          have c15b1 : decide (0 ≤ (ji14)) = true := decide_eq_true c15
          clear c15
          by_cases c16 : (ji14 : Int).toNat ≤ 35184372088832
          · rw [if_pos c16] at H
            have c16b0 := eq_true c16
            have c16b1 : decide ((ji14 : Int).toNat ≤ 35184372088832) = true := decide_eq_true c16
            clear c16
            obtain ⟨y286, hy286⟩ : ∃ y_ : List Int, y_ = (List.replicate (ji14 : Int).toNat 0) := ⟨_, rfl⟩
            replace H : (bellpulllaw02_EchoGolomb.l0 kj3 t279 t280 y286 0) = some r := by first | (rw [hy286]; with_reducible exact H) | (have H2_ := (Option.bind_some _ _).symm.trans H; rw [hy286]; with_reducible exact H2_) | (have H2_ := (Option.bind_some _ _).symm.trans H; with_reducible exact H2_) | with_reducible exact H | (rw [hy286]; exact H) | exact H
            have Ny286 := Aside0.mk hy286
            clear hy286
            have H' := Aside0.mk H
            clear H
            go_wp2_with (first | ((with_reducible refine gate_dst (N := 38) rfl ?_); (try (refine gate_guard (by rfl) ?_; dsimp only)); refine Kd.R_make (Kd.int .i64) _ 3 rfl (N := 38) rfl 22 _ _ rfl ji14 rfl rfl Try.underlying22 (.int .i64 0) 8 info3 rfl (by decide) (by omega) 0 (ok := fun _ => True) (okp := fun _ => True) rfl (fun _ hk => hk) trivial (of_decide_eq_true (by first | (with_reducible assumption) | assumption)) (Nat.le_trans (Nat.mul_le_mul_right _ (of_decide_eq_true (by first | (with_reducible assumption) | assumption) : ji14.toNat ≤ 35184372088832)) (by omega)) (Below.refl _ _) (Nat.le_refl _) ?_; intro v287 w17 ho18 hb hg_ hnew_; clear hg_ hnew_; (first | rw [← Ny286.out] at ho18 | (simp only [Int.reduceToNat] at ho18; rw [← Ny286.out] at ho18)); have n0_ := Aside0.mk (Kd.V_elder' (by (with_reducible repeat (first | apply Kd.V_alloc | apply Kd.V_drewN | apply Kd.V_drew)); exact HO_4.out) (Kd.R_base ho18) hb); have n1_ := Aside0.mk (Kd.R_lower ho18 (below_size (by repeat (first | (with_reducible first | exact HB.out | apply below_alloc | apply pw_below_drewN | apply below_drew1) | exact HB.out)))); have n2_ := Aside0.mk (below_step (by repeat (first | (with_reducible first | exact HB.out | apply below_alloc | apply pw_below_drewN | apply below_drew1) | exact HB.out)) hb); clear HO_4; clear HB; have HO_4 := n0_; have HO288 := n1_; have HB := n2_; clear n0_ n1_ n2_; clear hb ho18))
            repeat (go_quiet (first | ((with_reducible refine gate_dst (N := 38) rfl ?_); (try (refine gate_guard (by rfl) ?_; dsimp only)); refine Kd.R_make (Kd.int .i64) _ 3 rfl (N := 38) rfl 22 _ _ rfl ji14 rfl rfl Try.underlying22 (.int .i64 0) 8 info3 rfl (by decide) (by omega) 0 (ok := fun _ => True) (okp := fun _ => True) rfl (fun _ hk => hk) trivial (of_decide_eq_true (by first | (with_reducible assumption) | assumption)) (Nat.le_trans (Nat.mul_le_mul_right _ (of_decide_eq_true (by first | (with_reducible assumption) | assumption) : ji14.toNat ≤ 35184372088832)) (by omega)) (Below.refl _ _) (Nat.le_refl _) ?_; intro v287 w17 ho18 hb hg_ hnew_; clear hg_ hnew_; (first | rw [← Ny286.out] at ho18 | (simp only [Int.reduceToNat] at ho18; rw [← Ny286.out] at ho18)); have n0_ := Aside0.mk (Kd.V_elder' (by (with_reducible repeat (first | apply Kd.V_alloc | apply Kd.V_drewN | apply Kd.V_drew)); exact HO_4.out) (Kd.R_base ho18) hb); have n1_ := Aside0.mk (Kd.R_lower ho18 (below_size (by repeat (first | (with_reducible first | exact HB.out | apply below_alloc | apply pw_below_drewN | apply below_drew1) | exact HB.out)))); have n2_ := Aside0.mk (below_step (by repeat (first | (with_reducible first | exact HB.out | apply below_alloc | apply pw_below_drewN | apply below_drew1) | exact HB.out)) hb); clear HO_4; clear HB; have HO_4 := n0_; have HO288 := n1_; have HB := n2_; clear n0_ n1_ n2_; clear hb ho18)); try go_wp2_with (first | ((with_reducible refine gate_dst (N := 38) rfl ?_); (try (refine gate_guard (by rfl) ?_; dsimp only)); refine Kd.R_make (Kd.int .i64) _ 3 rfl (N := 38) rfl 22 _ _ rfl ji14 rfl rfl Try.underlying22 (.int .i64 0) 8 info3 rfl (by decide) (by omega) 0 (ok := fun _ => True) (okp := fun _ => True) rfl (fun _ hk => hk) trivial (of_decide_eq_true (by first | (with_reducible assumption) | assumption)) (Nat.le_trans (Nat.mul_le_mul_right _ (of_decide_eq_true (by first | (with_reducible assumption) | assumption) : ji14.toNat ≤ 35184372088832)) (by omega)) (Below.refl _ _) (Nat.le_refl _) ?_; intro v287 w17 ho18 hb hg_ hnew_; clear hg_ hnew_; (first | rw [← Ny286.out] at ho18 | (simp only [Int.reduceToNat] at ho18; rw [← Ny286.out] at ho18)); have n0_ := Aside0.mk (Kd.V_elder' (by (with_reducible repeat (first | apply Kd.V_alloc | apply Kd.V_drewN | apply Kd.V_drew)); exact HO_4.out) (Kd.R_base ho18) hb); have n1_ := Aside0.mk (Kd.R_lower ho18 (below_size (by repeat (first | (with_reducible first | exact HB.out | apply below_alloc | apply pw_below_drewN | apply below_drew1) | exact HB.out)))); have n2_ := Aside0.mk (below_step (by repeat (first | (with_reducible first | exact HB.out | apply below_alloc | apply pw_below_drewN | apply below_drew1) | exact HB.out)) hb); clear HO_4; clear HB; have HO_4 := n0_; have HO288 := n1_; have HB := n2_; clear n0_ n1_ n2_; clear hb ho18)))
            go_loopg [7] kj3 (fun kq v7 w' => ∃ (x6_2 : List Int) (x7_2 : Int), v7 = .int .i64 x7_2 ∧ Aside0 (bellpulllaw02_EchoGolomb.l0 kq t279 t280 x6_2 x7_2 = some r) ∧ Aside0 (kq ≤ kj3) ∧ Aside0 (Kd.V (Kd.int .i64) 3 w' w.heap.size (fun k_ => some k_ ≠ (v287 : Value).ownBlock) v281 t280) ∧ Aside0 (Kd.R (Kd.int .i64) 3 w' w.heap.size (fun _ => True) v287 x6_2) ∧ Aside0 (Below w.heap.size w w'))
            case atStart => exact ⟨(y286), (0), (by first | rfl | (simp; done) | (simp [*]; done)), H', ⟨Nat.le_refl _⟩, ⟨by (with_reducible repeat (first | apply Kd.V_alloc | apply Kd.V_drewN | apply Kd.V_drew)); exact Kd.V_mono HO_4.out (fun _ hk => hk.2)⟩, ⟨by (with_reducible repeat (first | apply Kd.R_alloc | apply Kd.R_drewN | apply Kd.R_drew)); exact HO288.out⟩, ⟨by repeat (first | (with_reducible first | exact HB.out | apply below_alloc | apply pw_below_drewN | apply below_drew1) | exact HB.out)⟩⟩
            case round =>
              clear H'
              try clear c1
              try clear p2
              try clear q2
              try clear hx2
              try clear qi2
              try clear c5
              try clear c6
              try clear c6b0
              try clear c6b1
              try clear p6
              try clear c7
              try clear c7b0
              try clear c7b1
              try clear c8
              try clear c8b0
              try clear c8b1
              try clear c9
              try clear c9b0
              try clear c9b1
              try clear c13
              try clear c15
              try clear c15b0
              try clear c15b1
              try clear c16
              try clear c16b0
              try clear c16b1
              try clear hx284_0
              try clear p2
              try clear p284
              try clear q2
              try clear q284
              obtain ⟨x6_2, x7_2, rfl, HA, HK2, HO_4, HO_6, HB⟩ := hrel
              cases gk with
              | zero => exact absurd HA.out (by simp [bellpulllaw02_EchoGolomb.l0])
              | succ k2 =>
                have H := HA.out
                clear HA
                simp only [bellpulllaw02_EchoGolomb.l0] at H
                by_cases c19 : x7_2 < t279
                · rw [if_pos c19] at H
                  have c19b0 : decide (x7_2 < t279) = true := decide_eq_true c19
                  clear c19
                  by_cases c20 : 0 ≤ x7_2
                  · rw [if_pos c20] at H
                    have c20b0 : decide (0 ≤ x7_2) = true := decide_eq_true c20
                    clear c20
                    by_cases c21 : x7_2 < (t280.length : Int)
                    · rw [if_pos c21] at H
                      have c21b0 : decide (x7_2 < (t280.length : Int)) = true := decide_eq_true c21
                      clear c21
                      by_cases c22 : (rd t280 x7_2) < 1
                      · rw [if_pos c22] at H
                        exact absurd H (by simp)
                      · rw [if_neg c22] at H
                        have c22b0 : decide ((rd t280 x7_2) < 1) = false := decide_eq_false c22
                        clear c22
                        by_cases c23 : (rd t280 x7_2) > (wrap64 (x7_2 + 1))
                        · rw [if_pos c23] at H
                          exact absurd H (by simp)
                        · rw [if_neg c23] at H
                          have c23b0 : decide ((wrap64 (x7_2 + 1)) < (rd t280 x7_2)) = false := decide_eq_false c23
                          clear c23
                          by_cases c24 : x7_2 > 0
                          · rw [if_pos c24] at H
                            have c24b0 : decide (0 < x7_2) = true := decide_eq_true c24
                            clear c24
                            obtain ⟨ji25, hji25⟩ : ∃ j_ : Int, (wrap64 (x7_2 - 1)) = j_ := ⟨_, rfl⟩
                            replace H : (if 0 ≤ (ji25) then (if (ji25) < (t280.length : Int) then (if (rd t280 x7_2) < (rd t280 (ji25)) then (none) else (if (rd t280 x7_2) > (wrap64 ((rd t280 (ji25)) + 1)) then (none) else (if 0 ≤ (rd t280 x7_2) then (if (rd t280 x7_2) < (x6_2.length : Int) then (bellpulllaw02_EchoGolomb.l0 k2 t279 t280 (x6_2.set ((rd t280 x7_2) : Int).toNat (wrap64 ((rd x6_2 (rd t280 x7_2)) + 1))) (wrap64 (x7_2 + 1))) else (none)) else (none)))) else (none)) else (none)) = some r := by first | (rw [hji25] at H; exact H) | (simp only [hji25] at H ⊢; exact H)
                            have hji25w : (IntKind.i64.wrap (x7_2 - 1)) = ji25 := (i64_w _).trans hji25
                            by_cases c26 : 0 ≤ (ji25)
                            · rw [if_pos c26] at H
                              have c26b0 : decide (0 ≤ (ji25)) = true := decide_eq_true c26
                              clear c26
                              by_cases c27 : (ji25) < (t280.length : Int)
                              · rw [if_pos c27] at H
                                have c27b0 : decide ((ji25) < (t280.length : Int)) = true := decide_eq_true c27
                                clear c27
                                by_cases c28 : (rd t280 x7_2) < (rd t280 (ji25))
                                · rw [if_pos c28] at H
                                  exact absurd H (by simp)
                                · rw [if_neg c28] at H
                                  have c28b0 : decide ((rd t280 x7_2) < (rd t280 (ji25))) = false := decide_eq_false c28
                                  clear c28
                                  by_cases c29 : (rd t280 x7_2) > (wrap64 ((rd t280 (ji25)) + 1))
                                  · rw [if_pos c29] at H
                                    exact absurd H (by simp)
                                  · rw [if_neg c29] at H
                                    have c29b0 : decide ((wrap64 ((rd t280 (ji25)) + 1)) < (rd t280 x7_2)) = false := decide_eq_false c29
                                    clear c29
                                    by_cases c30 : 0 ≤ (rd t280 x7_2)
                                    · rw [if_pos c30] at H
                                      have c30b0 : decide (0 ≤ (rd t280 x7_2)) = true := decide_eq_true c30
                                      clear c30
                                      by_cases c31 : (rd t280 x7_2) < (x6_2.length : Int)
                                      · rw [if_pos c31] at H
                                        have c31b0 : decide ((rd t280 x7_2) < (x6_2.length : Int)) = true := decide_eq_true c31
                                        clear c31
                                        obtain ⟨y297, hy297⟩ : ∃ y_ : List Int, y_ = (x6_2.set ((rd t280 x7_2) : Int).toNat (wrap64 ((rd x6_2 (rd t280 x7_2)) + 1))) := ⟨_, rfl⟩
                                        replace H : (bellpulllaw02_EchoGolomb.l0 k2 t279 t280 y297 (wrap64 (x7_2 + 1))) = some r := by first | (rw [hy297]; with_reducible exact H) | (have H2_ := (Option.bind_some _ _).symm.trans H; rw [hy297]; with_reducible exact H2_) | (have H2_ := (Option.bind_some _ _).symm.trans H; with_reducible exact H2_) | with_reducible exact H | (rw [hy297]; exact H) | exact H
                                        have Ny297 := Aside0.mk hy297
                                        clear hy297
                                        have H' := Aside0.mk H
                                        clear H
                                        obtain ⟨Ao33, co33, eo33⟩ := Kd.V_slice HO_4.out
                                        subst eo33
                                        have p289 : 0 ≤ (x7_2 : Int) := of_decide_eq_true (by first | (with_reducible assumption) | assumption)
                                        have q289 : x7_2 < (t280.length : Int) := of_decide_eq_true (by first | (with_reducible assumption) | assumption)
                                        obtain ⟨ad289, e289, hx289_0⟩ := Kd.at_int (Kd.V_reads' HO_4.out).2.2 x7_2 p289 q289
                                        cases e289
                                        replace p289 := eq_true p289
                                        replace q289 := eq_true q289
                                        have p290 : 0 ≤ (x7_2 : Int) := of_decide_eq_true (by first | (with_reducible assumption) | assumption)
                                        have q290 : x7_2 < (t280.length : Int) := of_decide_eq_true (by first | (with_reducible assumption) | assumption)
                                        obtain ⟨ad290, e290, hx290_0⟩ := Kd.at_int (Kd.V_reads' HO_4.out).2.2 x7_2 p290 q290
                                        obtain rfl : ad289 = ad290 := (by injection e290)
                                        replace p290 := eq_true p290
                                        replace q290 := eq_true q290
                                        have p291 : 0 ≤ (x7_2 : Int) := of_decide_eq_true (by first | (with_reducible assumption) | assumption)
                                        have q291 : x7_2 < (t280.length : Int) := of_decide_eq_true (by first | (with_reducible assumption) | assumption)
                                        obtain ⟨ad291, e291, hx291_0⟩ := Kd.at_int (Kd.V_reads' HO_4.out).2.2 x7_2 p291 q291
                                        obtain rfl : ad289 = ad291 := (by injection e291)
                                        replace p291 := eq_true p291
                                        replace q291 := eq_true q291
                                        have p292 : 0 ≤ ((ji25) : Int) := of_decide_eq_true (by first | (with_reducible assumption) | assumption)
                                        have q292 : (ji25) < (t280.length : Int) := of_decide_eq_true (by first | (with_reducible assumption) | assumption)
                                        obtain ⟨ad292, e292, hx292_0⟩ := Kd.at_int (Kd.V_reads' HO_4.out).2.2 (ji25) p292 q292
                                        obtain rfl : ad289 = ad292 := (by injection e292)
                                        replace p292 := eq_true p292
                                        replace q292 := eq_true q292
                                        have p293 : 0 ≤ (x7_2 : Int) := of_decide_eq_true (by first | (with_reducible assumption) | assumption)
                                        have q293 : x7_2 < (t280.length : Int) := of_decide_eq_true (by first | (with_reducible assumption) | assumption)
                                        obtain ⟨ad293, e293, hx293_0⟩ := Kd.at_int (Kd.V_reads' HO_4.out).2.2 x7_2 p293 q293
                                        obtain rfl : ad289 = ad293 := (by injection e293)
                                        replace p293 := eq_true p293
                                        replace q293 := eq_true q293
                                        have p294 : 0 ≤ ((ji25) : Int) := of_decide_eq_true (by first | (with_reducible assumption) | assumption)
                                        have q294 : (ji25) < (t280.length : Int) := of_decide_eq_true (by first | (with_reducible assumption) | assumption)
                                        obtain ⟨ad294, e294, hx294_0⟩ := Kd.at_int (Kd.V_reads' HO_4.out).2.2 (ji25) p294 q294
                                        obtain rfl : ad289 = ad294 := (by injection e294)
                                        replace p294 := eq_true p294
                                        replace q294 := eq_true q294
                                        have p295 : 0 ≤ (x7_2 : Int) := of_decide_eq_true (by first | (with_reducible assumption) | assumption)
                                        have q295 : x7_2 < (t280.length : Int) := of_decide_eq_true (by first | (with_reducible assumption) | assumption)
                                        obtain ⟨ad295, e295, hx295_0⟩ := Kd.at_int (Kd.V_reads' HO_4.out).2.2 x7_2 p295 q295
                                        obtain rfl : ad289 = ad295 := (by injection e295)
                                        replace p295 := eq_true p295
                                        replace q295 := eq_true q295
                                        obtain ⟨Ao34, co34, eo34⟩ := Kd.R_slice HO_6.out
                                        subst eo34
                                        have p296 : 0 ≤ ((rd t280 x7_2) : Int) := of_decide_eq_true (by first | (with_reducible assumption) | assumption)
                                        have q296 : (rd t280 x7_2) < (x6_2.length : Int) := of_decide_eq_true (by first | (with_reducible assumption) | assumption)
                                        obtain ⟨ad296, e296, hx296_0⟩ := Kd.at_int (Kd.R_reads' HO_6.out).2.2 (rd t280 x7_2) p296 q296
                                        cases e296
                                        replace p296 := eq_true p296
                                        replace q296 := eq_true q296
                                        have p32 : 0 ≤ ((rd t280 x7_2) : Int) := of_decide_eq_true (by first | (with_reducible assumption) | assumption)
                                        have q32 : ((rd t280 x7_2) : Int) < ((x6_2.length : Int) : Int) := of_decide_eq_true (by first | (with_reducible assumption) | assumption)
                                        obtain ⟨go32, co32, eo32, gb32, gl32, cl32, HG32⟩ := Kd.R_form HO_6.out (by omega)
                                        (first | cases eo32 | (injection eo32 with ea_ en_ ec_; (first | subst ea_ | (injection ea_ with ea_; subst ea_)); subst ec_; clear en_))
                                        have GB32 := Aside0.mk gb32
                                        have GG32 := Aside0.mk HG32
                                        clear gb32 gl32 HG32
                                        (first | simp only [add_plain] at hx296_0 | skip)
                                        obtain ⟨hx32_0, hf32_0⟩ := Kd.R_celln 0 HO_6.out ((rd t280 x7_2) : Int) p32 q32
                                        replace p32 := eq_true p32
                                        replace q32 := eq_true q32
                                        have HP35 := Kd.R_putg HO_6.out ((rd t280 x7_2) : Int) (wrap64 ((rd x6_2 (rd t280 x7_2)) + 1))
                                        go_wp2_with (first | ((with_reducible refine gate_store (t := 3) (p := 95) rfl ?_); (try (rw [drewN_self wr]; generalize hq_ : World.drewN wr _ = wr; have n0_ := Aside0.mk (Go.Proofs.MyWords.V_at hq_ HO_4.out); have n1_ := Aside0.mk (Kd.R_at hq_ HO_6.out); have n2_ := Aside0.mk (below_at hq_ HB.out); clear hq_ HO_4 HO_6 HB; have HO_4 := n0_; have HO_6 := n1_; have HB := n2_; clear n0_ n1_ n2_; (try (obtain ⟨hx32_0, hf32_0⟩ := Kd.R_celln 0 HO_6.out ((rd t280 x7_2) : Int) (of_eq_true p32) (of_eq_true q32))); (try (have HP35 := Kd.R_putg HO_6.out ((rd t280 x7_2) : Int) (wrap64 ((rd x6_2 (rd t280 x7_2)) + 1)))))); refine store_event (t := 3) (p := 95) (v := ?vo_w36) (w1 := (wr.setCell ⟨go32, ((rd t280 x7_2) : Int).toNat, none⟩ (.int .i64 (wrap64 ((rd x6_2 (rd t280 x7_2)) + 1))))) ?hg ?ho ?hn ?hr ?_; (case ho => rfl); (case hg => rfl); (case hn => rfl); (case hr => first | (go_simp; done) | (go_simp; rfl)); intro w36 hw; have hg : wr.grownBy w36 (some go32) := (by rw [hw]; exact HP35.2); have hp_ : Kd.R (Kd.int .i64) 3 w36 w.heap.size (fun _ => True) (.slice (some ⟨go32, 0, none⟩) x6_2.length co34) y297 := (by rw [hw, Ny297.out]; exact HP35.1); clear HP35; have n0_ := Aside0.mk (Kd.V_afterv (v := (.slice (some ⟨go32, 0, none⟩) x6_2.length co34)) (v1 := (.slice (some ⟨go32, 0, none⟩) x6_2.length co34)) (ok := (fun _ => True)) (by (with_reducible repeat (first | apply Kd.V_alloc | apply Kd.V_drewN | apply Kd.V_drew)); exact Kd.V_mono HO_4.out (fun _ hk => ⟨trivial, hk⟩)) hg (.inl rfl)); have n1_ := Aside0.mk (hp_); have n2_ := Aside0.mk ((by rw [hw]; exact below_set (HB.out) GB32.out : Below w.heap.size w w36)); clear HO_4; clear HO_6; clear HB; have HO_4 := n0_; have HO_6 := n1_; have HB := n2_; clear n0_ n1_ n2_; clear hg hw hp_))
                                        repeat (go_quiet (first | ((with_reducible refine gate_store (t := 3) (p := 95) rfl ?_); (try (rw [drewN_self wr]; generalize hq_ : World.drewN wr _ = wr; have n0_ := Aside0.mk (Go.Proofs.MyWords.V_at hq_ HO_4.out); have n1_ := Aside0.mk (Kd.R_at hq_ HO_6.out); have n2_ := Aside0.mk (below_at hq_ HB.out); clear hq_ HO_4 HO_6 HB; have HO_4 := n0_; have HO_6 := n1_; have HB := n2_; clear n0_ n1_ n2_; (try (obtain ⟨hx32_0, hf32_0⟩ := Kd.R_celln 0 HO_6.out ((rd t280 x7_2) : Int) (of_eq_true p32) (of_eq_true q32))); (try (have HP35 := Kd.R_putg HO_6.out ((rd t280 x7_2) : Int) (wrap64 ((rd x6_2 (rd t280 x7_2)) + 1)))))); refine store_event (t := 3) (p := 95) (v := ?vo_w36) (w1 := (wr.setCell ⟨go32, ((rd t280 x7_2) : Int).toNat, none⟩ (.int .i64 (wrap64 ((rd x6_2 (rd t280 x7_2)) + 1))))) ?hg ?ho ?hn ?hr ?_; (case ho => rfl); (case hg => rfl); (case hn => rfl); (case hr => first | (go_simp; done) | (go_simp; rfl)); intro w36 hw; have hg : wr.grownBy w36 (some go32) := (by rw [hw]; exact HP35.2); have hp_ : Kd.R (Kd.int .i64) 3 w36 w.heap.size (fun _ => True) (.slice (some ⟨go32, 0, none⟩) x6_2.length co34) y297 := (by rw [hw, Ny297.out]; exact HP35.1); clear HP35; have n0_ := Aside0.mk (Kd.V_afterv (v := (.slice (some ⟨go32, 0, none⟩) x6_2.length co34)) (v1 := (.slice (some ⟨go32, 0, none⟩) x6_2.length co34)) (ok := (fun _ => True)) (by (with_reducible repeat (first | apply Kd.V_alloc | apply Kd.V_drewN | apply Kd.V_drew)); exact Kd.V_mono HO_4.out (fun _ hk => ⟨trivial, hk⟩)) hg (.inl rfl)); have n1_ := Aside0.mk (hp_); have n2_ := Aside0.mk ((by rw [hw]; exact below_set (HB.out) GB32.out : Below w.heap.size w w36)); clear HO_4; clear HO_6; clear HB; have HO_4 := n0_; have HO_6 := n1_; have HB := n2_; clear n0_ n1_ n2_; clear hg hw hp_)); try go_wp2_with (first | ((with_reducible refine gate_store (t := 3) (p := 95) rfl ?_); (try (rw [drewN_self wr]; generalize hq_ : World.drewN wr _ = wr; have n0_ := Aside0.mk (Go.Proofs.MyWords.V_at hq_ HO_4.out); have n1_ := Aside0.mk (Kd.R_at hq_ HO_6.out); have n2_ := Aside0.mk (below_at hq_ HB.out); clear hq_ HO_4 HO_6 HB; have HO_4 := n0_; have HO_6 := n1_; have HB := n2_; clear n0_ n1_ n2_; (try (obtain ⟨hx32_0, hf32_0⟩ := Kd.R_celln 0 HO_6.out ((rd t280 x7_2) : Int) (of_eq_true p32) (of_eq_true q32))); (try (have HP35 := Kd.R_putg HO_6.out ((rd t280 x7_2) : Int) (wrap64 ((rd x6_2 (rd t280 x7_2)) + 1)))))); refine store_event (t := 3) (p := 95) (v := ?vo_w36) (w1 := (wr.setCell ⟨go32, ((rd t280 x7_2) : Int).toNat, none⟩ (.int .i64 (wrap64 ((rd x6_2 (rd t280 x7_2)) + 1))))) ?hg ?ho ?hn ?hr ?_; (case ho => rfl); (case hg => rfl); (case hn => rfl); (case hr => first | (go_simp; done) | (go_simp; rfl)); intro w36 hw; have hg : wr.grownBy w36 (some go32) := (by rw [hw]; exact HP35.2); have hp_ : Kd.R (Kd.int .i64) 3 w36 w.heap.size (fun _ => True) (.slice (some ⟨go32, 0, none⟩) x6_2.length co34) y297 := (by rw [hw, Ny297.out]; exact HP35.1); clear HP35; have n0_ := Aside0.mk (Kd.V_afterv (v := (.slice (some ⟨go32, 0, none⟩) x6_2.length co34)) (v1 := (.slice (some ⟨go32, 0, none⟩) x6_2.length co34)) (ok := (fun _ => True)) (by (with_reducible repeat (first | apply Kd.V_alloc | apply Kd.V_drewN | apply Kd.V_drew)); exact Kd.V_mono HO_4.out (fun _ hk => ⟨trivial, hk⟩)) hg (.inl rfl)); have n1_ := Aside0.mk (hp_); have n2_ := Aside0.mk ((by rw [hw]; exact below_set (HB.out) GB32.out : Below w.heap.size w w36)); clear HO_4; clear HO_6; clear HB; have HO_4 := n0_; have HO_6 := n1_; have HB := n2_; clear n0_ n1_ n2_; clear hg hw hp_)))
                                        go_roundg k2
                                        case measure => have := HJ3.out; have := HK2.out; omega
                                        case rel => exact ⟨(y297), (wrap64 (x7_2 + 1)), (by first | rfl | (simp; done) | (simp [*]; done)), H', ⟨by have := HJ3.out; have := HK2.out; omega⟩, ⟨by (with_reducible repeat (first | apply Kd.V_alloc | apply Kd.V_drewN | apply Kd.V_drew)); exact Kd.V_mono HO_4.out (fun _ hk => hk.2)⟩, ⟨by (with_reducible repeat (first | apply Kd.R_alloc | apply Kd.R_drewN | apply Kd.R_drew)); exact HO_6.out⟩, ⟨by repeat (first | (with_reducible first | exact HB.out | apply below_alloc | apply pw_below_drewN | apply below_drew1) | exact HB.out)⟩⟩
                                      · rw [if_neg c31] at H
                                        exact absurd H (by simp)
                                    · rw [if_neg c30] at H
                                      exact absurd H (by simp)
                              · rw [if_neg c27] at H
                                exact absurd H (by simp)
                            · rw [if_neg c26] at H
                              exact absurd H (by simp)
                          · rw [if_neg c24] at H
                            have c24b0 : decide (0 < x7_2) = false := decide_eq_false c24
                            clear c24
                            by_cases c37 : 0 ≤ (rd t280 x7_2)
                            · rw [if_pos c37] at H
                              have c37b0 : decide (0 ≤ (rd t280 x7_2)) = true := decide_eq_true c37
                              clear c37
                              by_cases c38 : (rd t280 x7_2) < (x6_2.length : Int)
                              · rw [if_pos c38] at H
                                have c38b0 : decide ((rd t280 x7_2) < (x6_2.length : Int)) = true := decide_eq_true c38
                                clear c38
                                obtain ⟨y300, hy300⟩ : ∃ y_ : List Int, y_ = (x6_2.set ((rd t280 x7_2) : Int).toNat (wrap64 ((rd x6_2 (rd t280 x7_2)) + 1))) := ⟨_, rfl⟩
                                replace H : (bellpulllaw02_EchoGolomb.l0 k2 t279 t280 y300 (wrap64 (x7_2 + 1))) = some r := by first | (rw [hy300]; with_reducible exact H) | (have H2_ := (Option.bind_some _ _).symm.trans H; rw [hy300]; with_reducible exact H2_) | (have H2_ := (Option.bind_some _ _).symm.trans H; with_reducible exact H2_) | with_reducible exact H | (rw [hy300]; exact H) | exact H
                                have Ny300 := Aside0.mk hy300
                                clear hy300
                                have H' := Aside0.mk H
                                clear H
                                obtain ⟨Ao40, co40, eo40⟩ := Kd.V_slice HO_4.out
                                subst eo40
                                have p289 : 0 ≤ (x7_2 : Int) := of_decide_eq_true (by first | (with_reducible assumption) | assumption)
                                have q289 : x7_2 < (t280.length : Int) := of_decide_eq_true (by first | (with_reducible assumption) | assumption)
                                obtain ⟨ad289, e289, hx289_0⟩ := Kd.at_int (Kd.V_reads' HO_4.out).2.2 x7_2 p289 q289
                                cases e289
                                replace p289 := eq_true p289
                                replace q289 := eq_true q289
                                have p290 : 0 ≤ (x7_2 : Int) := of_decide_eq_true (by first | (with_reducible assumption) | assumption)
                                have q290 : x7_2 < (t280.length : Int) := of_decide_eq_true (by first | (with_reducible assumption) | assumption)
                                obtain ⟨ad290, e290, hx290_0⟩ := Kd.at_int (Kd.V_reads' HO_4.out).2.2 x7_2 p290 q290
                                obtain rfl : ad289 = ad290 := (by injection e290)
                                replace p290 := eq_true p290
                                replace q290 := eq_true q290
                                have p298 : 0 ≤ (x7_2 : Int) := of_decide_eq_true (by first | (with_reducible assumption) | assumption)
                                have q298 : x7_2 < (t280.length : Int) := of_decide_eq_true (by first | (with_reducible assumption) | assumption)
                                obtain ⟨ad298, e298, hx298_0⟩ := Kd.at_int (Kd.V_reads' HO_4.out).2.2 x7_2 p298 q298
                                obtain rfl : ad289 = ad298 := (by injection e298)
                                replace p298 := eq_true p298
                                replace q298 := eq_true q298
                                obtain ⟨Ao41, co41, eo41⟩ := Kd.R_slice HO_6.out
                                subst eo41
                                have p299 : 0 ≤ ((rd t280 x7_2) : Int) := of_decide_eq_true (by first | (with_reducible assumption) | assumption)
                                have q299 : (rd t280 x7_2) < (x6_2.length : Int) := of_decide_eq_true (by first | (with_reducible assumption) | assumption)
                                obtain ⟨ad299, e299, hx299_0⟩ := Kd.at_int (Kd.R_reads' HO_6.out).2.2 (rd t280 x7_2) p299 q299
                                cases e299
                                replace p299 := eq_true p299
                                replace q299 := eq_true q299
                                have p39 : 0 ≤ ((rd t280 x7_2) : Int) := of_decide_eq_true (by first | (with_reducible assumption) | assumption)
                                have q39 : ((rd t280 x7_2) : Int) < ((x6_2.length : Int) : Int) := of_decide_eq_true (by first | (with_reducible assumption) | assumption)
                                obtain ⟨go39, co39, eo39, gb39, gl39, cl39, HG39⟩ := Kd.R_form HO_6.out (by omega)
                                (first | cases eo39 | (injection eo39 with ea_ en_ ec_; (first | subst ea_ | (injection ea_ with ea_; subst ea_)); subst ec_; clear en_))
                                have GB39 := Aside0.mk gb39
                                have GG39 := Aside0.mk HG39
                                clear gb39 gl39 HG39
                                (first | simp only [add_plain] at hx299_0 | skip)
                                obtain ⟨hx39_0, hf39_0⟩ := Kd.R_celln 0 HO_6.out ((rd t280 x7_2) : Int) p39 q39
                                replace p39 := eq_true p39
                                replace q39 := eq_true q39
                                have HP42 := Kd.R_putg HO_6.out ((rd t280 x7_2) : Int) (wrap64 ((rd x6_2 (rd t280 x7_2)) + 1))
                                go_wp2_with (first | ((with_reducible refine gate_store (t := 3) (p := 95) rfl ?_); (try (rw [drewN_self wr]; generalize hq_ : World.drewN wr _ = wr; have n0_ := Aside0.mk (Go.Proofs.MyWords.V_at hq_ HO_4.out); have n1_ := Aside0.mk (Kd.R_at hq_ HO_6.out); have n2_ := Aside0.mk (below_at hq_ HB.out); clear hq_ HO_4 HO_6 HB; have HO_4 := n0_; have HO_6 := n1_; have HB := n2_; clear n0_ n1_ n2_; (try (obtain ⟨hx39_0, hf39_0⟩ := Kd.R_celln 0 HO_6.out ((rd t280 x7_2) : Int) (of_eq_true p39) (of_eq_true q39))); (try (have HP42 := Kd.R_putg HO_6.out ((rd t280 x7_2) : Int) (wrap64 ((rd x6_2 (rd t280 x7_2)) + 1)))))); refine store_event (t := 3) (p := 95) (v := ?vo_w43) (w1 := (wr.setCell ⟨go39, ((rd t280 x7_2) : Int).toNat, none⟩ (.int .i64 (wrap64 ((rd x6_2 (rd t280 x7_2)) + 1))))) ?hg ?ho ?hn ?hr ?_; (case ho => rfl); (case hg => rfl); (case hn => rfl); (case hr => first | (go_simp; done) | (go_simp; rfl)); intro w43 hw; have hg : wr.grownBy w43 (some go39) := (by rw [hw]; exact HP42.2); have hp_ : Kd.R (Kd.int .i64) 3 w43 w.heap.size (fun _ => True) (.slice (some ⟨go39, 0, none⟩) x6_2.length co41) y300 := (by rw [hw, Ny300.out]; exact HP42.1); clear HP42; have n0_ := Aside0.mk (Kd.V_afterv (v := (.slice (some ⟨go39, 0, none⟩) x6_2.length co41)) (v1 := (.slice (some ⟨go39, 0, none⟩) x6_2.length co41)) (ok := (fun _ => True)) (by (with_reducible repeat (first | apply Kd.V_alloc | apply Kd.V_drewN | apply Kd.V_drew)); exact Kd.V_mono HO_4.out (fun _ hk => ⟨trivial, hk⟩)) hg (.inl rfl)); have n1_ := Aside0.mk (hp_); have n2_ := Aside0.mk ((by rw [hw]; exact below_set (HB.out) GB39.out : Below w.heap.size w w43)); clear HO_4; clear HO_6; clear HB; have HO_4 := n0_; have HO_6 := n1_; have HB := n2_; clear n0_ n1_ n2_; clear hg hw hp_))
                                repeat (go_quiet (first | ((with_reducible refine gate_store (t := 3) (p := 95) rfl ?_); (try (rw [drewN_self wr]; generalize hq_ : World.drewN wr _ = wr; have n0_ := Aside0.mk (Go.Proofs.MyWords.V_at hq_ HO_4.out); have n1_ := Aside0.mk (Kd.R_at hq_ HO_6.out); have n2_ := Aside0.mk (below_at hq_ HB.out); clear hq_ HO_4 HO_6 HB; have HO_4 := n0_; have HO_6 := n1_; have HB := n2_; clear n0_ n1_ n2_; (try (obtain ⟨hx39_0, hf39_0⟩ := Kd.R_celln 0 HO_6.out ((rd t280 x7_2) : Int) (of_eq_true p39) (of_eq_true q39))); (try (have HP42 := Kd.R_putg HO_6.out ((rd t280 x7_2) : Int) (wrap64 ((rd x6_2 (rd t280 x7_2)) + 1)))))); refine store_event (t := 3) (p := 95) (v := ?vo_w43) (w1 := (wr.setCell ⟨go39, ((rd t280 x7_2) : Int).toNat, none⟩ (.int .i64 (wrap64 ((rd x6_2 (rd t280 x7_2)) + 1))))) ?hg ?ho ?hn ?hr ?_; (case ho => rfl); (case hg => rfl); (case hn => rfl); (case hr => first | (go_simp; done) | (go_simp; rfl)); intro w43 hw; have hg : wr.grownBy w43 (some go39) := (by rw [hw]; exact HP42.2); have hp_ : Kd.R (Kd.int .i64) 3 w43 w.heap.size (fun _ => True) (.slice (some ⟨go39, 0, none⟩) x6_2.length co41) y300 := (by rw [hw, Ny300.out]; exact HP42.1); clear HP42; have n0_ := Aside0.mk (Kd.V_afterv (v := (.slice (some ⟨go39, 0, none⟩) x6_2.length co41)) (v1 := (.slice (some ⟨go39, 0, none⟩) x6_2.length co41)) (ok := (fun _ => True)) (by (with_reducible repeat (first | apply Kd.V_alloc | apply Kd.V_drewN | apply Kd.V_drew)); exact Kd.V_mono HO_4.out (fun _ hk => ⟨trivial, hk⟩)) hg (.inl rfl)); have n1_ := Aside0.mk (hp_); have n2_ := Aside0.mk ((by rw [hw]; exact below_set (HB.out) GB39.out : Below w.heap.size w w43)); clear HO_4; clear HO_6; clear HB; have HO_4 := n0_; have HO_6 := n1_; have HB := n2_; clear n0_ n1_ n2_; clear hg hw hp_)); try go_wp2_with (first | ((with_reducible refine gate_store (t := 3) (p := 95) rfl ?_); (try (rw [drewN_self wr]; generalize hq_ : World.drewN wr _ = wr; have n0_ := Aside0.mk (Go.Proofs.MyWords.V_at hq_ HO_4.out); have n1_ := Aside0.mk (Kd.R_at hq_ HO_6.out); have n2_ := Aside0.mk (below_at hq_ HB.out); clear hq_ HO_4 HO_6 HB; have HO_4 := n0_; have HO_6 := n1_; have HB := n2_; clear n0_ n1_ n2_; (try (obtain ⟨hx39_0, hf39_0⟩ := Kd.R_celln 0 HO_6.out ((rd t280 x7_2) : Int) (of_eq_true p39) (of_eq_true q39))); (try (have HP42 := Kd.R_putg HO_6.out ((rd t280 x7_2) : Int) (wrap64 ((rd x6_2 (rd t280 x7_2)) + 1)))))); refine store_event (t := 3) (p := 95) (v := ?vo_w43) (w1 := (wr.setCell ⟨go39, ((rd t280 x7_2) : Int).toNat, none⟩ (.int .i64 (wrap64 ((rd x6_2 (rd t280 x7_2)) + 1))))) ?hg ?ho ?hn ?hr ?_; (case ho => rfl); (case hg => rfl); (case hn => rfl); (case hr => first | (go_simp; done) | (go_simp; rfl)); intro w43 hw; have hg : wr.grownBy w43 (some go39) := (by rw [hw]; exact HP42.2); have hp_ : Kd.R (Kd.int .i64) 3 w43 w.heap.size (fun _ => True) (.slice (some ⟨go39, 0, none⟩) x6_2.length co41) y300 := (by rw [hw, Ny300.out]; exact HP42.1); clear HP42; have n0_ := Aside0.mk (Kd.V_afterv (v := (.slice (some ⟨go39, 0, none⟩) x6_2.length co41)) (v1 := (.slice (some ⟨go39, 0, none⟩) x6_2.length co41)) (ok := (fun _ => True)) (by (with_reducible repeat (first | apply Kd.V_alloc | apply Kd.V_drewN | apply Kd.V_drew)); exact Kd.V_mono HO_4.out (fun _ hk => ⟨trivial, hk⟩)) hg (.inl rfl)); have n1_ := Aside0.mk (hp_); have n2_ := Aside0.mk ((by rw [hw]; exact below_set (HB.out) GB39.out : Below w.heap.size w w43)); clear HO_4; clear HO_6; clear HB; have HO_4 := n0_; have HO_6 := n1_; have HB := n2_; clear n0_ n1_ n2_; clear hg hw hp_)))
                                go_roundg k2
                                case measure => have := HJ3.out; have := HK2.out; omega
                                case rel => exact ⟨(y300), (wrap64 (x7_2 + 1)), (by first | rfl | (simp; done) | (simp [*]; done)), H', ⟨by have := HJ3.out; have := HK2.out; omega⟩, ⟨by (with_reducible repeat (first | apply Kd.V_alloc | apply Kd.V_drewN | apply Kd.V_drew)); exact Kd.V_mono HO_4.out (fun _ hk => hk.2)⟩, ⟨by (with_reducible repeat (first | apply Kd.R_alloc | apply Kd.R_drewN | apply Kd.R_drew)); exact HO_6.out⟩, ⟨by repeat (first | (with_reducible first | exact HB.out | apply below_alloc | apply pw_below_drewN | apply below_drew1) | exact HB.out)⟩⟩
                              · rw [if_neg c38] at H
                                exact absurd H (by simp)
                            · rw [if_neg c37] at H
                              exact absurd H (by simp)
                    · rw [if_neg c21] at H
                      exact absurd H (by simp)
                  · rw [if_neg c20] at H
                    exact absurd H (by simp)
                · rw [if_neg c19] at H
                  have c19b0 : decide (x7_2 < t279) = false := decide_eq_false c19
                  clear c19
                  have H' := Aside0.mk H
                  clear H
                  go_wp2
                  repeat (go_quiet (fail); try go_wp2)
                  go_loopg [8] k2 (fun kq v8 w' => ∃ (x8_3 : Int), v8 = .int .i64 x8_3 ∧ Aside0 (bellpulllaw02_EchoGolomb.l1 kq t279 t280 x6_2 x8_3 = some r) ∧ Aside0 (kq ≤ k2) ∧ Aside0 (Kd.V (Kd.int .i64) 3 w' w.heap.size (fun k_ => some k_ ≠ (v287 : Value).ownBlock) v281 t280) ∧ Aside0 (Kd.R (Kd.int .i64) 3 w' w.heap.size (fun _ => True) v287 x6_2) ∧ Aside0 (Below w.heap.size w w'))
                  case atStart => exact ⟨(1), (by first | rfl | (simp; done) | (simp [*]; done)), H', ⟨Nat.le_refl _⟩, ⟨by (with_reducible repeat (first | apply Kd.V_alloc | apply Kd.V_drewN | apply Kd.V_drew)); exact HO_4.out⟩, ⟨by (with_reducible repeat (first | apply Kd.R_alloc | apply Kd.R_drewN | apply Kd.R_drew)); exact HO_6.out⟩, ⟨by repeat (first | (with_reducible first | exact HB.out | apply below_alloc | apply pw_below_drewN | apply below_drew1) | exact HB.out)⟩⟩
                  case round =>
                    clear H'
                    try clear c1
                    try clear c2
                    try clear p2
                    try clear q2
                    try clear hx2
                    try clear qi2
                    try clear c3
                    try clear p3
                    try clear q3
                    try clear hx3
                    try clear hf3
                    try clear c5
                    try clear c6
                    try clear c6b0
                    try clear c6b1
                    try clear p6
                    try clear c7
                    try clear c7b0
                    try clear c7b1
                    try clear c8
                    try clear c8b0
                    try clear c8b1
                    try clear c9
                    try clear c9b0
                    try clear c9b1
                    try clear c13
                    try clear c15
                    try clear c15b0
                    try clear c15b1
                    try clear c16
                    try clear c16b0
                    try clear c16b1
                    try clear c19
                    try clear c19b0
                    try clear c20
                    try clear c20b0
                    try clear c21
                    try clear c21b0
                    try clear c22
                    try clear c22b0
                    try clear c23
                    try clear c23b0
                    try clear c24
                    try clear c24b0
                    try clear c26
                    try clear c26b0
                    try clear c27
                    try clear c27b0
                    try clear c28
                    try clear c28b0
                    try clear p28
                    try clear q28
                    try clear hx28
                    try clear qi28
                    try clear c29
                    try clear c29b0
                    try clear p29
                    try clear q29
                    try clear hx29
                    try clear c30
                    try clear c30b0
                    try clear c31
                    try clear c31b0
                    try clear p32
                    try clear q32
                    try clear hx32
                    try clear hf32
                    try clear c37
                    try clear c37b0
                    try clear c38
                    try clear c38b0
                    try clear p39
                    try clear q39
                    try clear hx39
                    try clear hf39
                    try clear hx284_0
                    try clear hx289_0
                    try clear hx290_0
                    try clear hx291_0
                    try clear hx292_0
                    try clear hx293_0
                    try clear hx294_0
                    try clear hx295_0
                    try clear hx296_0
                    try clear hx298_0
                    try clear hx299_0
                    try clear hx32_0
                    try clear hx39_0
                    try clear p2
                    try clear p284
                    try clear p289
                    try clear p290
                    try clear p291
                    try clear p292
                    try clear p293
                    try clear p294
                    try clear p295
                    try clear p296
                    try clear p298
                    try clear p299
                    try clear p32
                    try clear p39
                    try clear p6
                    try clear q2
                    try clear q284
                    try clear q289
                    try clear q290
                    try clear q291
                    try clear q292
                    try clear q293
                    try clear q294
                    try clear q295
                    try clear q296
                    try clear q298
                    try clear q299
                    try clear q32
                    try clear q39
                    obtain ⟨x8_3, rfl, HA, HK3, HO_4, HO_6, HB⟩ := hrel
                    cases gk with
                    | zero => exact absurd HA.out (by simp [bellpulllaw02_EchoGolomb.l1])
                    | succ k3 =>
                      have H := HA.out
                      clear HA
                      simp only [bellpulllaw02_EchoGolomb.l1] at H
                      obtain ⟨ji44, hji44⟩ : ∃ j_ : Int, (wrap64 (t279 - 1)) = j_ := ⟨_, rfl⟩
                      replace H : (if 0 ≤ (ji44) then (if (ji44) < (t280.length : Int) then (if x8_3 < (rd t280 (ji44)) then (if 0 ≤ x8_3 then (if x8_3 < (x6_2.length : Int) then (if 0 ≤ (wrap64 (x8_3 - 1)) then (if (wrap64 (x8_3 - 1)) < (t280.length : Int) then (if (rd x6_2 x8_3) = (rd t280 (wrap64 (x8_3 - 1))) then (bellpulllaw02_EchoGolomb.l1 k3 t279 t280 x6_2 (wrap64 (x8_3 + 1))) else (none)) else (none)) else (none)) else (none)) else (none)) else (bellpulllaw02_EchoGolomb.l2 k3 t279 t280 1)) else (none)) else (none)) = some r := by first | (rw [hji44] at H; exact H) | (simp only [hji44] at H ⊢; exact H)
                      have hji44w : (IntKind.i64.wrap (t279 - 1)) = ji44 := (i64_w _).trans hji44
                      by_cases c45 : 0 ≤ (ji44)
                      · rw [if_pos c45] at H
                        have c45b0 : decide (0 ≤ (ji44)) = true := decide_eq_true c45
                        clear c45
                        by_cases c46 : (ji44) < (t280.length : Int)
                        · rw [if_pos c46] at H
                          have c46b0 : decide ((ji44) < (t280.length : Int)) = true := decide_eq_true c46
                          clear c46
                          by_cases c47 : x8_3 < (rd t280 (ji44))
                          · rw [if_pos c47] at H
                            have c47b0 : decide (x8_3 < (rd t280 (ji44))) = true := decide_eq_true c47
                            clear c47
                            by_cases c48 : 0 ≤ x8_3
                            · rw [if_pos c48] at H
                              have c48b0 : decide (0 ≤ x8_3) = true := decide_eq_true c48
                              clear c48
                              by_cases c49 : x8_3 < (x6_2.length : Int)
                              · rw [if_pos c49] at H
                                have c49b0 : decide (x8_3 < (x6_2.length : Int)) = true := decide_eq_true c49
                                clear c49
                                obtain ⟨ji50, hji50⟩ : ∃ j_ : Int, (wrap64 (x8_3 - 1)) = j_ := ⟨_, rfl⟩
                                replace H : (if 0 ≤ (ji50) then (if (ji50) < (t280.length : Int) then (if (rd x6_2 x8_3) = (rd t280 (ji50)) then (bellpulllaw02_EchoGolomb.l1 k3 t279 t280 x6_2 (wrap64 (x8_3 + 1))) else (none)) else (none)) else (none)) = some r := by first | (rw [hji50] at H; exact H) | (simp only [hji50] at H ⊢; exact H)
                                have hji50w : (IntKind.i64.wrap (x8_3 - 1)) = ji50 := (i64_w _).trans hji50
                                by_cases c51 : 0 ≤ (ji50)
                                · rw [if_pos c51] at H
                                  have c51b0 : decide (0 ≤ (ji50)) = true := decide_eq_true c51
                                  clear c51
                                  by_cases c52 : (ji50) < (t280.length : Int)
                                  · rw [if_pos c52] at H
                                    have c52b0 : decide ((ji50) < (t280.length : Int)) = true := decide_eq_true c52
                                    clear c52
                                    by_cases c53 : (rd x6_2 x8_3) = (rd t280 (ji50))
                                    · rw [if_pos c53] at H
                                      have c53b0 : ((rd x6_2 x8_3) == (rd t280 (ji50))) = true := beq_iff_eq.mpr c53
                                      have c53b1 : ((rd x6_2 x8_3) != (rd t280 (ji50))) = false := bne_eq_false_iff_eq.mpr c53
                                      clear c53
                                      have H' := Aside0.mk H
                                      clear H
                                      obtain ⟨Ao54, co54, eo54⟩ := Kd.V_slice HO_4.out
                                      subst eo54
                                      have p301 : 0 ≤ ((ji44) : Int) := of_decide_eq_true (by first | (with_reducible assumption) | assumption)
                                      have q301 : (ji44) < (t280.length : Int) := of_decide_eq_true (by first | (with_reducible assumption) | assumption)
                                      obtain ⟨ad301, e301, hx301_0⟩ := Kd.at_int (Kd.V_reads' HO_4.out).2.2 (ji44) p301 q301
                                      cases e301
                                      replace p301 := eq_true p301
                                      replace q301 := eq_true q301
                                      obtain ⟨Ao55, co55, eo55⟩ := Kd.R_slice HO_6.out
                                      subst eo55
                                      have p302 : 0 ≤ (x8_3 : Int) := of_decide_eq_true (by first | (with_reducible assumption) | assumption)
                                      have q302 : x8_3 < (x6_2.length : Int) := of_decide_eq_true (by first | (with_reducible assumption) | assumption)
                                      obtain ⟨ad302, e302, hx302_0⟩ := Kd.at_int (Kd.R_reads' HO_6.out).2.2 x8_3 p302 q302
                                      cases e302
                                      replace p302 := eq_true p302
                                      replace q302 := eq_true q302
                                      have p303 : 0 ≤ ((ji50) : Int) := of_decide_eq_true (by first | (with_reducible assumption) | assumption)
                                      have q303 : (ji50) < (t280.length : Int) := of_decide_eq_true (by first | (with_reducible assumption) | assumption)
                                      obtain ⟨ad303, e303, hx303_0⟩ := Kd.at_int (Kd.V_reads' HO_4.out).2.2 (ji50) p303 q303
                                      obtain rfl : ad301 = ad303 := (by injection e303)
                                      replace p303 := eq_true p303
                                      replace q303 := eq_true q303
                                      go_wp2
                                      repeat (go_quiet (fail); try go_wp2)
                                      go_roundg k3
                                      case measure => have := HJ3.out; have := HK2.out; have := HK3.out; omega
                                      case rel => exact ⟨(wrap64 (x8_3 + 1)), (by first | rfl | (simp; done) | (simp [*]; done)), H', ⟨by have := HJ3.out; have := HK2.out; have := HK3.out; omega⟩, ⟨by (with_reducible repeat (first | apply Kd.V_alloc | apply Kd.V_drewN | apply Kd.V_drew)); exact HO_4.out⟩, ⟨by (with_reducible repeat (first | apply Kd.R_alloc | apply Kd.R_drewN | apply Kd.R_drew)); exact HO_6.out⟩, ⟨by repeat (first | (with_reducible first | exact HB.out | apply below_alloc | apply pw_below_drewN | apply below_drew1) | exact HB.out)⟩⟩
                                    · rw [if_neg c53] at H
                                      exact absurd H (by simp)
                                  · rw [if_neg c52] at H
                                    exact absurd H (by simp)
                                · rw [if_neg c51] at H
                                  exact absurd H (by simp)
                              · rw [if_neg c49] at H
                                exact absurd H (by simp)
                            · rw [if_neg c48] at H
                              exact absurd H (by simp)
                          · rw [if_neg c47] at H
                            have c47b0 : decide (x8_3 < (rd t280 (ji44))) = false := decide_eq_false c47
                            clear c47
                            have H' := Aside0.mk H
                            clear H
                            obtain ⟨Ao56, co56, eo56⟩ := Kd.V_slice HO_4.out
                            subst eo56
                            have p301 : 0 ≤ ((ji44) : Int) := of_decide_eq_true (by first | (with_reducible assumption) | assumption)
                            have q301 : (ji44) < (t280.length : Int) := of_decide_eq_true (by first | (with_reducible assumption) | assumption)
                            obtain ⟨ad301, e301, hx301_0⟩ := Kd.at_int (Kd.V_reads' HO_4.out).2.2 (ji44) p301 q301
                            cases e301
                            replace p301 := eq_true p301
                            replace q301 := eq_true q301
                            go_wp2
                            repeat (go_quiet (fail); try go_wp2)
                            go_loopg [9] k3 (fun kq v9 w' => ∃ (x9_4 : Int), v9 = .int .i64 x9_4 ∧ Aside0 (bellpulllaw02_EchoGolomb.l2 kq t279 t280 x9_4 = some r) ∧ Aside0 (kq ≤ k3) ∧ Aside0 (Kd.V (Kd.int .i64) 3 w' w.heap.size (fun _ => True) (.slice (some ad301) t280.length co56) t280) ∧ Aside0 (Below w.heap.size w w'))
                            case atStart => exact ⟨(1), (by first | rfl | (simp; done) | (simp [*]; done)), H', ⟨Nat.le_refl _⟩, ⟨by (with_reducible repeat (first | apply Kd.V_alloc | apply Kd.V_drewN | apply Kd.V_drew)); exact Kd.V_mono HO_4.out (fun _ hk => trivial)⟩, ⟨by repeat (first | (with_reducible first | exact HB.out | apply below_alloc | apply pw_below_drewN | apply below_drew1) | exact HB.out)⟩⟩
                            case round =>
                              clear H'
                              try clear c1
                              try clear c2
                              try clear p2
                              try clear q2
                              try clear hx2
                              try clear qi2
                              try clear c3
                              try clear p3
                              try clear q3
                              try clear hx3
                              try clear hf3
                              try clear c4
                              try clear c5
                              try clear c6
                              try clear c6b0
                              try clear c6b1
                              try clear p6
                              try clear c7
                              try clear c7b0
                              try clear c7b1
                              try clear c8
                              try clear c8b0
                              try clear c8b1
                              try clear c9
                              try clear c9b0
                              try clear c9b1
                              try clear c13
                              try clear c15
                              try clear c15b0
                              try clear c15b1
                              try clear c16
                              try clear c16b0
                              try clear c16b1
                              try clear c19
                              try clear c19b0
                              try clear c20
                              try clear c20b0
                              try clear c21
                              try clear c21b0
                              try clear c22
                              try clear c22b0
                              try clear c23
                              try clear c23b0
                              try clear c24
                              try clear c24b0
                              try clear c26
                              try clear c26b0
                              try clear c27
                              try clear c27b0
                              try clear c28
                              try clear c28b0
                              try clear p28
                              try clear q28
                              try clear hx28
                              try clear qi28
                              try clear c29
                              try clear c29b0
                              try clear p29
                              try clear q29
                              try clear hx29
                              try clear c30
                              try clear c30b0
                              try clear p30
                              try clear q30
                              try clear hx30
                              try clear c31
                              try clear c31b0
                              try clear p32
                              try clear q32
                              try clear hx32
                              try clear hf32
                              try clear c37
                              try clear c37b0
                              try clear c38
                              try clear c38b0
                              try clear p39
                              try clear q39
                              try clear hx39
                              try clear hf39
                              try clear c45
                              try clear c45b0
                              try clear c46
                              try clear c46b0
                              try clear c47
                              try clear c47b0
                              try clear c48
                              try clear c48b0
                              try clear c49
                              try clear c49b0
                              try clear c51
                              try clear c51b0
                              try clear c52
                              try clear c52b0
                              try clear c53
                              try clear c53b0
                              try clear c53b1
                              try clear hx284_0
                              try clear hx289_0
                              try clear hx290_0
                              try clear hx291_0
                              try clear hx292_0
                              try clear hx293_0
                              try clear hx294_0
                              try clear hx295_0
                              try clear hx296_0
                              try clear hx298_0
                              try clear hx299_0
                              try clear hx301_0
                              try clear hx302_0
                              try clear hx303_0
                              try clear hx32_0
                              try clear hx39_0
                              try clear p2
                              try clear p28
                              try clear p284
                              try clear p289
                              try clear p29
                              try clear p290
                              try clear p291
                              try clear p292
                              try clear p293
                              try clear p294
                              try clear p295
                              try clear p296
                              try clear p298
                              try clear p299
                              try clear p3
                              try clear p301
                              try clear p302
                              try clear p303
                              try clear p32
                              try clear p39
                              try clear p6
                              try clear q2
                              try clear q28
                              try clear q284
                              try clear q289
                              try clear q29
                              try clear q290
                              try clear q291
                              try clear q292
                              try clear q293
                              try clear q294
                              try clear q295
                              try clear q296
                              try clear q298
                              try clear q299
                              try clear q3
                              try clear q301
                              try clear q302
                              try clear q303
                              try clear q32
                              try clear q39
                              obtain ⟨x9_4, rfl, HA, HK4, HO_4, HB⟩ := hrel
                              cases gk with
                              | zero => exact absurd HA.out (by simp [bellpulllaw02_EchoGolomb.l2])
                              | succ k4 =>
                                have H := HA.out
                                clear HA
                                simp only [bellpulllaw02_EchoGolomb.l2] at H
                                by_cases c57 : x9_4 < t279
                                · rw [if_pos c57] at H
                                  have c57b0 : decide (x9_4 < t279) = true := decide_eq_true c57
                                  clear c57
                                  obtain ⟨ji58, hji58⟩ : ∃ j_ : Int, (wrap64 (x9_4 - 1)) = j_ := ⟨_, rfl⟩
                                  replace H : (if 0 ≤ (ji58) then (if (ji58) < (t280.length : Int) then (if 0 ≤ (wrap64 ((rd t280 (ji58)) - 1)) then (if (wrap64 ((rd t280 (ji58)) - 1)) < (t280.length : Int) then (if (wrap64 ((wrap64 (x9_4 + 1)) - (rd t280 (wrap64 ((rd t280 (ji58)) - 1))))) < 1 then (none) else (if (wrap64 ((wrap64 (x9_4 + 1)) - (rd t280 (wrap64 ((rd t280 (ji58)) - 1))))) > t279 then (none) else (if 0 ≤ x9_4 then (if x9_4 < (t280.length : Int) then (if 0 ≤ (wrap64 ((wrap64 ((wrap64 (x9_4 + 1)) - (rd t280 (wrap64 ((rd t280 (ji58)) - 1))))) - 1)) then (if (wrap64 ((wrap64 ((wrap64 (x9_4 + 1)) - (rd t280 (wrap64 ((rd t280 (ji58)) - 1))))) - 1)) < (t280.length : Int) then (if (rd t280 x9_4) = (wrap64 (1 + (rd t280 (wrap64 ((wrap64 ((wrap64 (x9_4 + 1)) - (rd t280 (wrap64 ((rd t280 (ji58)) - 1))))) - 1))))) then (bellpulllaw02_EchoGolomb.l2 k4 t279 t280 (wrap64 (x9_4 + 1))) else (none)) else (none)) else (none)) else (none)) else (none)))) else (none)) else (none)) else (none)) else (none)) = some r := by first | (rw [hji58] at H; exact H) | (simp only [hji58] at H ⊢; exact H)
                                  have hji58w : (IntKind.i64.wrap (x9_4 - 1)) = ji58 := (i64_w _).trans hji58
                                  by_cases c59 : 0 ≤ (ji58)
                                  · rw [if_pos c59] at H
                                    have c59b0 : decide (0 ≤ (ji58)) = true := decide_eq_true c59
                                    clear c59
                                    by_cases c60 : (ji58) < (t280.length : Int)
                                    · rw [if_pos c60] at H
                                      have c60b0 : decide ((ji58) < (t280.length : Int)) = true := decide_eq_true c60
                                      clear c60
                                      obtain ⟨ji61, hji61⟩ : ∃ j_ : Int, (wrap64 ((rd t280 (ji58)) - 1)) = j_ := ⟨_, rfl⟩
                                      replace H : (if 0 ≤ (ji61) then (if (ji61) < (t280.length : Int) then (if (wrap64 ((wrap64 (x9_4 + 1)) - (rd t280 (ji61)))) < 1 then (none) else (if (wrap64 ((wrap64 (x9_4 + 1)) - (rd t280 (ji61)))) > t279 then (none) else (if 0 ≤ x9_4 then (if x9_4 < (t280.length : Int) then (if 0 ≤ (wrap64 ((wrap64 ((wrap64 (x9_4 + 1)) - (rd t280 (ji61)))) - 1)) then (if (wrap64 ((wrap64 ((wrap64 (x9_4 + 1)) - (rd t280 (ji61)))) - 1)) < (t280.length : Int) then (if (rd t280 x9_4) = (wrap64 (1 + (rd t280 (wrap64 ((wrap64 ((wrap64 (x9_4 + 1)) - (rd t280 (ji61)))) - 1))))) then (bellpulllaw02_EchoGolomb.l2 k4 t279 t280 (wrap64 (x9_4 + 1))) else (none)) else (none)) else (none)) else (none)) else (none)))) else (none)) else (none)) = some r := by first | (rw [hji61] at H; exact H) | (simp only [hji61] at H ⊢; exact H)
                                      have hji61w : (IntKind.i64.wrap ((rd t280 (ji58)) - 1)) = ji61 := (i64_w _).trans hji61
                                      by_cases c62 : 0 ≤ (ji61)
                                      · rw [if_pos c62] at H
                                        have c62b0 : decide (0 ≤ (ji61)) = true := decide_eq_true c62
                                        clear c62
                                        by_cases c63 : (ji61) < (t280.length : Int)
                                        · rw [if_pos c63] at H
                                          have c63b0 : decide ((ji61) < (t280.length : Int)) = true := decide_eq_true c63
                                          clear c63
                                          by_cases c64 : (wrap64 ((wrap64 (x9_4 + 1)) - (rd t280 (ji61)))) < 1
                                          · rw [if_pos c64] at H
                                            exact absurd H (by simp)
                                          · rw [if_neg c64] at H
                                            have c64b0 : decide ((wrap64 ((wrap64 (x9_4 + 1)) - (rd t280 (ji61)))) < 1) = false := decide_eq_false c64
                                            clear c64
                                            by_cases c65 : (wrap64 ((wrap64 (x9_4 + 1)) - (rd t280 (ji61)))) > t279
                                            · rw [if_pos c65] at H
                                              exact absurd H (by simp)
                                            · rw [if_neg c65] at H
                                              have c65b0 : decide (t279 < (wrap64 ((wrap64 (x9_4 + 1)) - (rd t280 (ji61))))) = false := decide_eq_false c65
                                              clear c65
                                              by_cases c66 : 0 ≤ x9_4
                                              · rw [if_pos c66] at H
                                                have c66b0 : decide (0 ≤ x9_4) = true := decide_eq_true c66
                                                clear c66
                                                by_cases c67 : x9_4 < (t280.length : Int)
                                                · rw [if_pos c67] at H
                                                  have c67b0 : decide (x9_4 < (t280.length : Int)) = true := decide_eq_true c67
                                                  clear c67
                                                  obtain ⟨ji68, hji68⟩ : ∃ j_ : Int, (wrap64 ((wrap64 ((wrap64 (x9_4 + 1)) - (rd t280 (ji61)))) - 1)) = j_ := ⟨_, rfl⟩
                                                  replace H : (if 0 ≤ (ji68) then (if (ji68) < (t280.length : Int) then (if (rd t280 x9_4) = (wrap64 (1 + (rd t280 (ji68)))) then (bellpulllaw02_EchoGolomb.l2 k4 t279 t280 (wrap64 (x9_4 + 1))) else (none)) else (none)) else (none)) = some r := by first | (rw [hji68] at H; exact H) | (simp only [hji68] at H ⊢; exact H)
                                                  have hji68w : (IntKind.i64.wrap ((wrap64 ((wrap64 (x9_4 + 1)) - (rd t280 (ji61)))) - 1)) = ji68 := (i64_w _).trans hji68
                                                  by_cases c69 : 0 ≤ (ji68)
                                                  · rw [if_pos c69] at H
                                                    have c69b0 : decide (0 ≤ (ji68)) = true := decide_eq_true c69
                                                    clear c69
                                                    by_cases c70 : (ji68) < (t280.length : Int)
                                                    · rw [if_pos c70] at H
                                                      have c70b0 : decide ((ji68) < (t280.length : Int)) = true := decide_eq_true c70
                                                      clear c70
                                                      by_cases c71 : (rd t280 x9_4) = (wrap64 (1 + (rd t280 (ji68))))
                                                      · rw [if_pos c71] at H
                                                        have c71b0 : ((rd t280 x9_4) == (wrap64 (1 + (rd t280 (ji68))))) = true := beq_iff_eq.mpr c71
                                                        have c71b1 : ((rd t280 x9_4) != (wrap64 (1 + (rd t280 (ji68))))) = false := bne_eq_false_iff_eq.mpr c71
                                                        clear c71
                                                        have H' := Aside0.mk H
                                                        clear H
                                                        have p304 : 0 ≤ ((ji58) : Int) := of_decide_eq_true (by first | (with_reducible assumption) | assumption)
                                                        have q304 : (ji58) < (t280.length : Int) := of_decide_eq_true (by first | (with_reducible assumption) | assumption)
                                                        obtain ⟨ad304, e304, hx304_0⟩ := Kd.at_int (Kd.V_reads' HO_4.out).2.2 (ji58) p304 q304
                                                        obtain rfl : ad301 = ad304 := (by injection e304)
                                                        replace p304 := eq_true p304
                                                        replace q304 := eq_true q304
                                                        have p305 : 0 ≤ ((ji61) : Int) := of_decide_eq_true (by first | (with_reducible assumption) | assumption)
                                                        have q305 : (ji61) < (t280.length : Int) := of_decide_eq_true (by first | (with_reducible assumption) | assumption)
                                                        obtain ⟨ad305, e305, hx305_0⟩ := Kd.at_int (Kd.V_reads' HO_4.out).2.2 (ji61) p305 q305
                                                        obtain rfl : ad301 = ad305 := (by injection e305)
                                                        replace p305 := eq_true p305
                                                        replace q305 := eq_true q305
                                                        have p306 : 0 ≤ (x9_4 : Int) := of_decide_eq_true (by first | (with_reducible assumption) | assumption)
                                                        have q306 : x9_4 < (t280.length : Int) := of_decide_eq_true (by first | (with_reducible assumption) | assumption)
                                                        obtain ⟨ad306, e306, hx306_0⟩ := Kd.at_int (Kd.V_reads' HO_4.out).2.2 x9_4 p306 q306
                                                        obtain rfl : ad301 = ad306 := (by injection e306)
                                                        replace p306 := eq_true p306
                                                        replace q306 := eq_true q306
                                                        have p307 : 0 ≤ ((ji68) : Int) := of_decide_eq_true (by first | (with_reducible assumption) | assumption)
                                                        have q307 : (ji68) < (t280.length : Int) := of_decide_eq_true (by first | (with_reducible assumption) | assumption)
                                                        obtain ⟨ad307, e307, hx307_0⟩ := Kd.at_int (Kd.V_reads' HO_4.out).2.2 (ji68) p307 q307
                                                        obtain rfl : ad301 = ad307 := (by injection e307)
                                                        replace p307 := eq_true p307
                                                        replace q307 := eq_true q307
                                                        go_wp2
                                                        repeat (go_quiet (fail); try go_wp2)
                                                        go_roundg k4
                                                        case measure => have := HJ3.out; have := HK2.out; have := HK3.out; have := HK4.out; omega
                                                        case rel => exact ⟨(wrap64 (x9_4 + 1)), (by first | rfl | (simp; done) | (simp [*]; done)), H', ⟨by have := HJ3.out; have := HK2.out; have := HK3.out; have := HK4.out; omega⟩, ⟨by (with_reducible repeat (first | apply Kd.V_alloc | apply Kd.V_drewN | apply Kd.V_drew)); exact HO_4.out⟩, ⟨by repeat (first | (with_reducible first | exact HB.out | apply below_alloc | apply pw_below_drewN | apply below_drew1) | exact HB.out)⟩⟩
                                                      · rw [if_neg c71] at H
                                                        exact absurd H (by simp)
                                                    · rw [if_neg c70] at H
                                                      exact absurd H (by simp)
                                                  · rw [if_neg c69] at H
                                                    exact absurd H (by simp)
                                                · rw [if_neg c67] at H
                                                  exact absurd H (by simp)
                                              · rw [if_neg c66] at H
                                                exact absurd H (by simp)
                                        · rw [if_neg c63] at H
                                          exact absurd H (by simp)
                                      · rw [if_neg c62] at H
                                        exact absurd H (by simp)
                                    · rw [if_neg c60] at H
                                      exact absurd H (by simp)
                                  · rw [if_neg c59] at H
                                    exact absurd H (by simp)
                                · rw [if_neg c57] at H
                                  have c57b0 : decide (x9_4 < t279) = false := decide_eq_false c57
                                  clear c57
                                  obtain rfl := Option.some.inj H
                                  go_wp2
                                  repeat (go_quiet (fail); try go_wp2)
                                  go_ret
                                  exact ⟨by first | rfl | (simp [errW_none, errW_some] <;> rfl) | (simp only [← hji14, ← hji44]; first | rfl | (simp [errW_none, errW_some] <;> rfl)) | (simp [*, errW_none, errW_some] <;> rfl), by repeat (first | (with_reducible first | exact HB.out | apply below_alloc | apply pw_below_drewN | apply below_drew1) | exact HB.out)⟩
                        · rw [if_neg c46] at H
                          exact absurd H (by simp)
                      · rw [if_neg c45] at H
                        exact absurd H (by simp)
          · rw [if_neg c16] at H
            exact absurd H (by simp)
        · rw [if_neg c15] at H
          exact absurd H (by simp)

/-- THE ONE PURE STATEMENT of bellpulllaw02_EchoGolomb: yours. -/
def bellpulllaw02_EchoGolomb.Pure : Prop := ∀ (a0 : Int), (Lit.int .u16 a0).wf = true → ∃ k, bellpulllaw02_EchoGolomb.f k a0 = some true
theorem bellpulllaw02_EchoGolomb.walk (P : bellpulllaw02_EchoGolomb.Pure) (a0 : Int) (w : World) (w0 : (Lit.int .u16 a0).wf = true) :
    Calls Try.prog 5 #[.int .u16 a0] w fun e w' => e = .returned (.bool true) ∧ Below w.heap.size w w' := by
  obtain ⟨k, h⟩ := P a0 w0
  refine (bellpulllaw02_EchoGolomb.calls k a0 true w h).mono ?_
  rintro e w' ⟨rfl, hd⟩
  exact ⟨rfl, hd⟩

end Go.Proofs.Ytploaicljkennaa.PE
