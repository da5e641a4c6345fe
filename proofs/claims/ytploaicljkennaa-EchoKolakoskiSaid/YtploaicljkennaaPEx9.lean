-- Written by pr2.py, a program of this session's, for this claim (through the kit's print).
import Derived.Test.YtploaicljkennaaPEx0
import Derived.Test.YtploaicljkennaaPEx1
import Derived.Test.YtploaicljkennaaPEx2
import Derived.Test.YtploaicljkennaaPEx4
import Derived.Test.YtploaicljkennaaPEx5
namespace Go.Proofs.Ytploaicljkennaa.PE
open Go.RowKit Go.Proofs.YtploaicljkennaaW.PrintWords Go.Proofs.YtploaicljkennaaW.PrintLast Go.Proofs.YtploaicljkennaaW.PrintMore
attribute [local go_sem] max2_int min2_int max_two min_two max_three min_three max_four min_four   -- for this text's walks alone
set_option linter.unusedVariables false
set_option linter.unusedSimpArgs false

/-! ### bellpulllaw02_two: function 23 -/
def bellpulllaw02_two.f (a0 : Int) : Option (Int × Int) := some (wrap64 ((Int.tmod (wrap64 (a0)) 9) + 1), wrap64 ((Int.tmod (wrap64 ((wrap64 ((Int.tmod (wrap64 (a0)) 9) + 1)) + (Int.tmod (wrap64 (Int.tdiv (wrap64 (a0)) 9)) 8))) 9) + 1))
set_option maxHeartbeats 8000000 in
set_option maxRecDepth 100000 in
theorem bellpulllaw02_two.calls (a0 : Int) (r1 : Int) (r2 : Int) (w : World) (h : bellpulllaw02_two.f a0 = some (r1, r2)) :
    Calls Try.prog 23 #[.int .u8 a0] w fun e w' => e = .returned (.tuple #[.int .i64 r1, .int .i64 r2]) ∧ Drawn0 w w' := by
  have H : (some (wrap64 ((Int.tmod (wrap64 (a0)) 9) + 1), wrap64 ((Int.tmod (wrap64 ((wrap64 ((Int.tmod (wrap64 (a0)) 9) + 1)) + (Int.tmod (wrap64 (Int.tdiv (wrap64 (a0)) 9)) 8))) 9) + 1))) = some (r1, r2) := h
  clear h
  simp only [Option.some.injEq, Prod.mk.injEq] at H
  obtain ⟨rfl, rfl⟩ := H
  go_enter Try.func23, Try.ntmps23
  go_wp2
  go_ret2
  exact ⟨by first | rfl | (simp; done) | (simp [*]; done), by repeat (first | exact Drawn0.refl _ | apply Drawn0.step)⟩

/-! ### bellpulllaw02_EchoKolakoski: function 4 -/
mutual
def bellpulllaw02_EchoKolakoski.j0 : Nat → Int → Int → Int → List Int → Bool → Option (Bool)
  | 0, _, _, _, _, _ => none
  | k + 1, x7, x8, x10, x13, x80 => if x80 = true then (none) else (bellpulllaw02_EchoKolakoski.l0 k x7 x8 x10 x13 0)
def bellpulllaw02_EchoKolakoski.l0 : Nat → Int → Int → Int → List Int → Int → Option (Bool)
  | 0, _, _, _, _, _ => none
  | k + 1, x7, x8, x10, x13, x15 => if x15 < x10 then (if 0 ≤ x15 then (if x15 < (x13.length : Int) then (if (rd x13 x15) = x7 then (bellpulllaw02_EchoKolakoski.l0 k x7 x8 x10 x13 (wrap64 (x15 + 1))) else (if (rd x13 x15) = x8 then (bellpulllaw02_EchoKolakoski.l0 k x7 x8 x10 x13 (wrap64 (x15 + 1))) else (none))) else (none)) else (none)) else ((bellpullref02_Runs.f k x13).bind fun t404 => (if (t404.length : Int) > (x13.length : Int) then (none) else (if 0 ≤ (wrap64 ((t404.length : Int) - 1)) then (if (wrap64 ((t404.length : Int) - 1)) ≤ (t404.length : Int) then (if (wrap64 ((t404.length : Int) - 1)) ≤ (x13.length : Int) then ((bellpullref01_Same.f k (t404.take ((wrap64 ((t404.length : Int) - 1)) : Int).toNat) (x13.take ((wrap64 ((t404.length : Int) - 1)) : Int).toNat)).bind fun t417 => (some t417)) else (none)) else (none)) else (none))))
end
def bellpulllaw02_EchoKolakoski.f (k : Nat) (a0 : Int) (a1 : Int) (a2 : Int) : Option (Bool) := (bellpulllaw02_two.f a0).bind fun bt382 => ((bellpulllaw02_between.f a1 1 400).bind fun t384 => ((bellpulllaw02_between.f a2 0 400).bind fun t385 => ((echo_Kolakoski.f k bt382.1 bt382.2 t384).bind fun bt386 => ((echo_Kolakoski.f k bt382.1 bt382.2 (wrap64 (t384 + t385))).bind fun bt390 => (if bt386.2 = 0 then (if bt390.2 = 0 then (if (bt386.1.length : Int) = t384 then (if (bt390.1.length : Int) = (wrap64 (t384 + t385)) then (if 0 ≤ t384 then (if t384 ≤ (bt390.1.length : Int) then ((bellpullref01_Same.f k bt386.1 (bt390.1.take (t384 : Int).toNat)).bind fun t399 => (if t399 = true then (if 0 < (bt386.1.length : Int) then (if (rd bt386.1 0) = bt382.1 then ((bellpulllaw02_lives.f k).bind fun t401 => (bellpulllaw02_EchoKolakoski.j0 k bt382.1 bt382.2 (wrap64 (t384 + t385)) bt390.1 (!t401))) else (none)) else (none)) else (none))) else (none)) else (none)) else (none)) else (none)) else (none)) else (none))))))
theorem bellpulllaw02_EchoKolakoski.mono_l : ∀ k, (∀ y0 y1 y2 y3 y4, LeO (bellpulllaw02_EchoKolakoski.j0 k y0 y1 y2 y3 y4) (bellpulllaw02_EchoKolakoski.j0 (k + 1) y0 y1 y2 y3 y4)) ∧ (∀ y0 y1 y2 y3 y4, LeO (bellpulllaw02_EchoKolakoski.l0 k y0 y1 y2 y3 y4) (bellpulllaw02_EchoKolakoski.l0 (k + 1) y0 y1 y2 y3 y4))
  | 0 => ⟨fun _ _ _ _ _ r h => by simp [bellpulllaw02_EchoKolakoski.j0] at h, fun _ _ _ _ _ r h => by simp [bellpulllaw02_EchoKolakoski.l0] at h⟩
  | k + 1 => by
    obtain ⟨ih0, ih1⟩ := bellpulllaw02_EchoKolakoski.mono_l k
    refine ⟨?_, ?_⟩
    · intro y0 y1 y2 y3 y4
      unfold bellpulllaw02_EchoKolakoski.j0
      repeat' first
      | (with_reducible exact ih0 _ _ _ _ _)
      | (with_reducible exact ih1 _ _ _ _ _)
      | (with_reducible exact bellpulllaw02_lives.mono _)
      | (with_reducible exact bellpullref01_Same.mono _ _ _)
      | (with_reducible exact bellpullref02_Runs.mono _ _)
      | (with_reducible exact echo_Kolakoski.mono _ _ _ _)
      | (with_reducible exact LeO.refl _)
      | (with_reducible exact LeO.none _)
      | (with_reducible refine LeO.ite ?_ ?_)
      | (with_reducible refine LeO.bind ?_ (fun _ => ?_))
      | exact ih0 _ _ _ _ _
      | exact ih1 _ _ _ _ _
      | exact bellpulllaw02_lives.mono _
      | exact bellpullref01_Same.mono _ _ _
      | exact bellpullref02_Runs.mono _ _
      | exact echo_Kolakoski.mono _ _ _ _
      | exact LeO.none _
      | refine LeO.ite ?_ ?_
      | refine LeO.bind ?_ (fun _ => ?_)
    · intro y0 y1 y2 y3 y4
      unfold bellpulllaw02_EchoKolakoski.l0
      repeat' first
      | (with_reducible exact ih0 _ _ _ _ _)
      | (with_reducible exact ih1 _ _ _ _ _)
      | (with_reducible exact bellpulllaw02_lives.mono _)
      | (with_reducible exact bellpullref01_Same.mono _ _ _)
      | (with_reducible exact bellpullref02_Runs.mono _ _)
      | (with_reducible exact echo_Kolakoski.mono _ _ _ _)
      | (with_reducible exact LeO.refl _)
      | (with_reducible exact LeO.none _)
      | (with_reducible refine LeO.ite ?_ ?_)
      | (with_reducible refine LeO.bind ?_ (fun _ => ?_))
      | exact ih0 _ _ _ _ _
      | exact ih1 _ _ _ _ _
      | exact bellpulllaw02_lives.mono _
      | exact bellpullref01_Same.mono _ _ _
      | exact bellpullref02_Runs.mono _ _
      | exact echo_Kolakoski.mono _ _ _ _
      | exact LeO.none _
      | refine LeO.ite ?_ ?_
      | refine LeO.bind ?_ (fun _ => ?_)
theorem bellpulllaw02_EchoKolakoski.mono : ∀ a0 a1 a2 k, LeO (bellpulllaw02_EchoKolakoski.f k a0 a1 a2) (bellpulllaw02_EchoKolakoski.f (k + 1) a0 a1 a2) := by
  intro a0 a1 a2 k
  obtain ⟨ih0, ih1⟩ := bellpulllaw02_EchoKolakoski.mono_l k
  unfold bellpulllaw02_EchoKolakoski.f
  repeat' first
      | (with_reducible exact ih0 _ _ _ _ _)
      | (with_reducible exact ih1 _ _ _ _ _)
      | (with_reducible exact bellpulllaw02_lives.mono _)
      | (with_reducible exact bellpullref01_Same.mono _ _ _)
      | (with_reducible exact bellpullref02_Runs.mono _ _)
      | (with_reducible exact echo_Kolakoski.mono _ _ _ _)
      | (with_reducible exact LeO.refl _)
      | (with_reducible exact LeO.none _)
      | (with_reducible refine LeO.ite ?_ ?_)
      | (with_reducible refine LeO.bind ?_ (fun _ => ?_))
      | exact ih0 _ _ _ _ _
      | exact ih1 _ _ _ _ _
      | exact bellpulllaw02_lives.mono _
      | exact bellpullref01_Same.mono _ _ _
      | exact bellpullref02_Runs.mono _ _
      | exact echo_Kolakoski.mono _ _ _ _
      | exact LeO.none _
      | refine LeO.ite ?_ ?_
      | refine LeO.bind ?_ (fun _ => ?_)
set_option maxHeartbeats 8000000 in
set_option maxRecDepth 100000 in
theorem bellpulllaw02_EchoKolakoski.calls (k : Nat) (a0 : Int) (a1 : Int) (a2 : Int) (r : Bool) (w : World) (h : bellpulllaw02_EchoKolakoski.f k a0 a1 a2 = some r) :
    Calls Try.prog 4 #[.int .u8 a0, .int .u16 a1, .int .u16 a2] w fun e w' => e = .returned (.bool r) ∧ Below w.heap.size w w' := by
  have HB := Aside0.mk (Below.refl w.heap.size w)
  have H : ((bellpulllaw02_two.f a0).bind fun bt382 => ((bellpulllaw02_between.f a1 1 400).bind fun t384 => ((bellpulllaw02_between.f a2 0 400).bind fun t385 => ((echo_Kolakoski.f k bt382.1 bt382.2 t384).bind fun bt386 => ((echo_Kolakoski.f k bt382.1 bt382.2 (wrap64 (t384 + t385))).bind fun bt390 => (if bt386.2 = 0 then (if bt390.2 = 0 then (if (bt386.1.length : Int) = t384 then (if (bt390.1.length : Int) = (wrap64 (t384 + t385)) then (if 0 ≤ t384 then (if t384 ≤ (bt390.1.length : Int) then ((bellpullref01_Same.f k bt386.1 (bt390.1.take (t384 : Int).toNat)).bind fun t399 => (if t399 = true then (if 0 < (bt386.1.length : Int) then (if (rd bt386.1 0) = bt382.1 then ((bellpulllaw02_lives.f k).bind fun t401 => (bellpulllaw02_EchoKolakoski.j0 k bt382.1 bt382.2 (wrap64 (t384 + t385)) bt390.1 (!t401))) else (none)) else (none)) else (none))) else (none)) else (none)) else (none)) else (none)) else (none)) else (none))))))) = some r := h
  clear h
  replace H := Option.bind_eq_some_iff.mp H
  obtain ⟨⟨t382, t383⟩, A40, H⟩ := H
  replace H : ((bellpulllaw02_between.f a1 1 400).bind fun t384 => ((bellpulllaw02_between.f a2 0 400).bind fun t385 => ((echo_Kolakoski.f k t382 t383 t384).bind fun bt386 => ((echo_Kolakoski.f k t382 t383 (wrap64 (t384 + t385))).bind fun bt390 => (if bt386.2 = 0 then (if bt390.2 = 0 then (if (bt386.1.length : Int) = t384 then (if (bt390.1.length : Int) = (wrap64 (t384 + t385)) then (if 0 ≤ t384 then (if t384 ≤ (bt390.1.length : Int) then ((bellpullref01_Same.f k bt386.1 (bt390.1.take (t384 : Int).toNat)).bind fun t399 => (if t399 = true then (if 0 < (bt386.1.length : Int) then (if (rd bt386.1 0) = t382 then ((bellpulllaw02_lives.f k).bind fun t401 => (bellpulllaw02_EchoKolakoski.j0 k t382 t383 (wrap64 (t384 + t385)) bt390.1 (!t401))) else (none)) else (none)) else (none))) else (none)) else (none)) else (none)) else (none)) else (none)) else (none)))))) = some r := H
  have A4 := Aside0.mk A40
  clear A40
  replace H := Option.bind_eq_some_iff.mp H
  obtain ⟨t384, A50, H⟩ := H
  replace H : ((bellpulllaw02_between.f a2 0 400).bind fun t385 => ((echo_Kolakoski.f k t382 t383 t384).bind fun bt386 => ((echo_Kolakoski.f k t382 t383 (wrap64 (t384 + t385))).bind fun bt390 => (if bt386.2 = 0 then (if bt390.2 = 0 then (if (bt386.1.length : Int) = t384 then (if (bt390.1.length : Int) = (wrap64 (t384 + t385)) then (if 0 ≤ t384 then (if t384 ≤ (bt390.1.length : Int) then ((bellpullref01_Same.f k bt386.1 (bt390.1.take (t384 : Int).toNat)).bind fun t399 => (if t399 = true then (if 0 < (bt386.1.length : Int) then (if (rd bt386.1 0) = t382 then ((bellpulllaw02_lives.f k).bind fun t401 => (bellpulllaw02_EchoKolakoski.j0 k t382 t383 (wrap64 (t384 + t385)) bt390.1 (!t401))) else (none)) else (none)) else (none))) else (none)) else (none)) else (none)) else (none)) else (none)) else (none))))) = some r := H
  have A5 := Aside0.mk A50
  clear A50
  replace H := Option.bind_eq_some_iff.mp H
  obtain ⟨t385, A60, H⟩ := H
  replace H : ((echo_Kolakoski.f k t382 t383 t384).bind fun bt386 => ((echo_Kolakoski.f k t382 t383 (wrap64 (t384 + t385))).bind fun bt390 => (if bt386.2 = 0 then (if bt390.2 = 0 then (if (bt386.1.length : Int) = t384 then (if (bt390.1.length : Int) = (wrap64 (t384 + t385)) then (if 0 ≤ t384 then (if t384 ≤ (bt390.1.length : Int) then ((bellpullref01_Same.f k bt386.1 (bt390.1.take (t384 : Int).toNat)).bind fun t399 => (if t399 = true then (if 0 < (bt386.1.length : Int) then (if (rd bt386.1 0) = t382 then ((bellpulllaw02_lives.f k).bind fun t401 => (bellpulllaw02_EchoKolakoski.j0 k t382 t383 (wrap64 (t384 + t385)) bt390.1 (!t401))) else (none)) else (none)) else (none))) else (none)) else (none)) else (none)) else (none)) else (none)) else (none)))) = some r := H
  have A6 := Aside0.mk A60
  clear A60
  replace H := Option.bind_eq_some_iff.mp H
  obtain ⟨⟨t386, t389⟩, A70, H⟩ := H
  replace H : ((echo_Kolakoski.f k t382 t383 (wrap64 (t384 + t385))).bind fun bt390 => (if t389 = 0 then (if bt390.2 = 0 then (if (t386.length : Int) = t384 then (if (bt390.1.length : Int) = (wrap64 (t384 + t385)) then (if 0 ≤ t384 then (if t384 ≤ (bt390.1.length : Int) then ((bellpullref01_Same.f k t386 (bt390.1.take (t384 : Int).toNat)).bind fun t399 => (if t399 = true then (if 0 < (t386.length : Int) then (if (rd t386 0) = t382 then ((bellpulllaw02_lives.f k).bind fun t401 => (bellpulllaw02_EchoKolakoski.j0 k t382 t383 (wrap64 (t384 + t385)) bt390.1 (!t401))) else (none)) else (none)) else (none))) else (none)) else (none)) else (none)) else (none)) else (none)) else (none))) = some r := H
  have A7 := Aside0.mk A70
  clear A70
  replace H := Option.bind_eq_some_iff.mp H
  obtain ⟨⟨t390, t393⟩, A80, H⟩ := H
  replace H : (if t389 = 0 then (if t393 = 0 then (if (t386.length : Int) = t384 then (if (t390.length : Int) = (wrap64 (t384 + t385)) then (if 0 ≤ t384 then (if t384 ≤ (t390.length : Int) then ((bellpullref01_Same.f k t386 (t390.take (t384 : Int).toNat)).bind fun t399 => (if t399 = true then (if 0 < (t386.length : Int) then (if (rd t386 0) = t382 then ((bellpulllaw02_lives.f k).bind fun t401 => (bellpulllaw02_EchoKolakoski.j0 k t382 t383 (wrap64 (t384 + t385)) t390 (!t401))) else (none)) else (none)) else (none))) else (none)) else (none)) else (none)) else (none)) else (none)) else (none)) = some r := H
  have A8 := Aside0.mk A80
  clear A80
  have HC9 := Aside0.mk H
  clear H
  go_enter Try.func4, Try.ntmps4
  go_upto_region 6 with (first | (go_at_call 23; (with_reducible refine (bellpulllaw02_two.calls a0 t382 t383 _ A4.out).mono ?_); rintro e w' ⟨rfl, ⟨nd, rfl⟩⟩; (try first | exact ⟨rfl, _, World.drewN_drewN _ _ _⟩ | exact ⟨rfl, _, Eq.trans (World.drewN_drewN _ _ _) (congrArg (World.drewN _) (Nat.add_assoc _ _ _))⟩)) | (go_at_call 24; (with_reducible refine (bellpulllaw02_between.calls a1 1 400 t384 _ A5.out).mono ?_); rintro e w' ⟨rfl, ⟨nd, rfl⟩⟩; (try first | exact ⟨rfl, _, World.drewN_drewN _ _ _⟩ | exact ⟨rfl, _, Eq.trans (World.drewN_drewN _ _ _) (congrArg (World.drewN _) (Nat.add_assoc _ _ _))⟩)) | (go_at_call 24; (with_reducible refine (bellpulllaw02_between.calls a2 0 400 t385 _ A6.out).mono ?_); rintro e w' ⟨rfl, ⟨nd, rfl⟩⟩; (try first | exact ⟨rfl, _, World.drewN_drewN _ _ _⟩ | exact ⟨rfl, _, Eq.trans (World.drewN_drewN _ _ _) (congrArg (World.drewN _) (Nat.add_assoc _ _ _))⟩)) | (go_at_call 15; (with_reducible refine (echo_Kolakoski.calls k t382 t383 t384 t386 t389 _ A7.out).mono ?_); rintro e w10 ⟨v387, rfl, ho0, hb⟩; have n0_ := Aside0.mk (Kd.V_lower (Kd.V_mono (ok' := fun k_ => True) ho0 (fun k_ hk_ => trivial)) (below_size (by repeat (first | (with_reducible first | exact HB.out | apply below_alloc | apply pw_below_drewN | apply below_drew1) | exact HB.out)))); have n1_ := Aside0.mk (below_step (by repeat (first | (with_reducible first | exact HB.out | apply below_alloc | apply pw_below_drewN | apply below_drew1) | exact HB.out)) hb); clear HB; have HO388 := n0_; have HB := n1_; clear n0_ n1_; (try clear hb); (try clear hb2); (try clear hk); (try clear hi); (try clear ho0)) | (go_at_call 15; (with_reducible refine (echo_Kolakoski.calls k t382 t383 (wrap64 (t384 + t385)) t390 t393 _ A8.out).mono ?_); rintro e w11 ⟨v391, rfl, ho0, hb⟩; have n0_ := Aside0.mk (Kd.V_below (by (with_reducible repeat (first | apply Kd.V_alloc | apply Kd.V_drewN | apply Kd.V_drew)); exact HO388.out) hb); have n1_ := Aside0.mk (Kd.V_lower (Kd.V_mono (ok' := fun k_ => True) ho0 (fun k_ hk_ => trivial)) (below_size (by repeat (first | (with_reducible first | exact HB.out | apply below_alloc | apply pw_below_drewN | apply below_drew1) | exact HB.out)))); have n2_ := Aside0.mk (below_step (by repeat (first | (with_reducible first | exact HB.out | apply below_alloc | apply pw_below_drewN | apply below_drew1) | exact HB.out)) hb); clear HO388; clear HB; have HO388 := n0_; have HO392 := n1_; have HB := n2_; clear n0_ n1_ n2_; (try clear hb); (try clear hb2); (try clear hk); (try clear hi); (try clear ho0)))
  repeat (go_quiet (first | (go_at_call 23; (with_reducible refine (bellpulllaw02_two.calls a0 t382 t383 _ A4.out).mono ?_); rintro e w' ⟨rfl, ⟨nd, rfl⟩⟩; (try first | exact ⟨rfl, _, World.drewN_drewN _ _ _⟩ | exact ⟨rfl, _, Eq.trans (World.drewN_drewN _ _ _) (congrArg (World.drewN _) (Nat.add_assoc _ _ _))⟩)) | (go_at_call 24; (with_reducible refine (bellpulllaw02_between.calls a1 1 400 t384 _ A5.out).mono ?_); rintro e w' ⟨rfl, ⟨nd, rfl⟩⟩; (try first | exact ⟨rfl, _, World.drewN_drewN _ _ _⟩ | exact ⟨rfl, _, Eq.trans (World.drewN_drewN _ _ _) (congrArg (World.drewN _) (Nat.add_assoc _ _ _))⟩)) | (go_at_call 24; (with_reducible refine (bellpulllaw02_between.calls a2 0 400 t385 _ A6.out).mono ?_); rintro e w' ⟨rfl, ⟨nd, rfl⟩⟩; (try first | exact ⟨rfl, _, World.drewN_drewN _ _ _⟩ | exact ⟨rfl, _, Eq.trans (World.drewN_drewN _ _ _) (congrArg (World.drewN _) (Nat.add_assoc _ _ _))⟩)) | (go_at_call 15; (with_reducible refine (echo_Kolakoski.calls k t382 t383 t384 t386 t389 _ A7.out).mono ?_); rintro e w10 ⟨v387, rfl, ho0, hb⟩; have n0_ := Aside0.mk (Kd.V_lower (Kd.V_mono (ok' := fun k_ => True) ho0 (fun k_ hk_ => trivial)) (below_size (by repeat (first | (with_reducible first | exact HB.out | apply below_alloc | apply pw_below_drewN | apply below_drew1) | exact HB.out)))); have n1_ := Aside0.mk (below_step (by repeat (first | (with_reducible first | exact HB.out | apply below_alloc | apply pw_below_drewN | apply below_drew1) | exact HB.out)) hb); clear HB; have HO388 := n0_; have HB := n1_; clear n0_ n1_; (try clear hb); (try clear hb2); (try clear hk); (try clear hi); (try clear ho0)) | (go_at_call 15; (with_reducible refine (echo_Kolakoski.calls k t382 t383 (wrap64 (t384 + t385)) t390 t393 _ A8.out).mono ?_); rintro e w11 ⟨v391, rfl, ho0, hb⟩; have n0_ := Aside0.mk (Kd.V_below (by (with_reducible repeat (first | apply Kd.V_alloc | apply Kd.V_drewN | apply Kd.V_drew)); exact HO388.out) hb); have n1_ := Aside0.mk (Kd.V_lower (Kd.V_mono (ok' := fun k_ => True) ho0 (fun k_ hk_ => trivial)) (below_size (by repeat (first | (with_reducible first | exact HB.out | apply below_alloc | apply pw_below_drewN | apply below_drew1) | exact HB.out)))); have n2_ := Aside0.mk (below_step (by repeat (first | (with_reducible first | exact HB.out | apply below_alloc | apply pw_below_drewN | apply below_drew1) | exact HB.out)) hb); clear HO388; clear HB; have HO388 := n0_; have HO392 := n1_; have HB := n2_; clear n0_ n1_ n2_; (try clear hb); (try clear hb2); (try clear hk); (try clear hi); (try clear ho0))); go_upto_region 6 with (first | (go_at_call 23; (with_reducible refine (bellpulllaw02_two.calls a0 t382 t383 _ A4.out).mono ?_); rintro e w' ⟨rfl, ⟨nd, rfl⟩⟩; (try first | exact ⟨rfl, _, World.drewN_drewN _ _ _⟩ | exact ⟨rfl, _, Eq.trans (World.drewN_drewN _ _ _) (congrArg (World.drewN _) (Nat.add_assoc _ _ _))⟩)) | (go_at_call 24; (with_reducible refine (bellpulllaw02_between.calls a1 1 400 t384 _ A5.out).mono ?_); rintro e w' ⟨rfl, ⟨nd, rfl⟩⟩; (try first | exact ⟨rfl, _, World.drewN_drewN _ _ _⟩ | exact ⟨rfl, _, Eq.trans (World.drewN_drewN _ _ _) (congrArg (World.drewN _) (Nat.add_assoc _ _ _))⟩)) | (go_at_call 24; (with_reducible refine (bellpulllaw02_between.calls a2 0 400 t385 _ A6.out).mono ?_); rintro e w' ⟨rfl, ⟨nd, rfl⟩⟩; (try first | exact ⟨rfl, _, World.drewN_drewN _ _ _⟩ | exact ⟨rfl, _, Eq.trans (World.drewN_drewN _ _ _) (congrArg (World.drewN _) (Nat.add_assoc _ _ _))⟩)) | (go_at_call 15; (with_reducible refine (echo_Kolakoski.calls k t382 t383 t384 t386 t389 _ A7.out).mono ?_); rintro e w10 ⟨v387, rfl, ho0, hb⟩; have n0_ := Aside0.mk (Kd.V_lower (Kd.V_mono (ok' := fun k_ => True) ho0 (fun k_ hk_ => trivial)) (below_size (by repeat (first | (with_reducible first | exact HB.out | apply below_alloc | apply pw_below_drewN | apply below_drew1) | exact HB.out)))); have n1_ := Aside0.mk (below_step (by repeat (first | (with_reducible first | exact HB.out | apply below_alloc | apply pw_below_drewN | apply below_drew1) | exact HB.out)) hb); clear HB; have HO388 := n0_; have HB := n1_; clear n0_ n1_; (try clear hb); (try clear hb2); (try clear hk); (try clear hi); (try clear ho0)) | (go_at_call 15; (with_reducible refine (echo_Kolakoski.calls k t382 t383 (wrap64 (t384 + t385)) t390 t393 _ A8.out).mono ?_); rintro e w11 ⟨v391, rfl, ho0, hb⟩; have n0_ := Aside0.mk (Kd.V_below (by (with_reducible repeat (first | apply Kd.V_alloc | apply Kd.V_drewN | apply Kd.V_drew)); exact HO388.out) hb); have n1_ := Aside0.mk (Kd.V_lower (Kd.V_mono (ok' := fun k_ => True) ho0 (fun k_ hk_ => trivial)) (below_size (by repeat (first | (with_reducible first | exact HB.out | apply below_alloc | apply pw_below_drewN | apply below_drew1) | exact HB.out)))); have n2_ := Aside0.mk (below_step (by repeat (first | (with_reducible first | exact HB.out | apply below_alloc | apply pw_below_drewN | apply below_drew1) | exact HB.out)) hb); clear HO388; clear HB; have HO388 := n0_; have HO392 := n1_; have HB := n2_; clear n0_ n1_ n2_; (try clear hb); (try clear hb2); (try clear hk); (try clear hi); (try clear ho0))))
  (try simp only [Act.put, List.setIfInBounds_toArray, List.set_cons_zero, List.set_cons_succ])
  go_cut [80] (fun v80 wc => ∃ (kq : Nat) (x80_8 : Bool), v80 = .bool x80_8 ∧ Aside0 (bellpulllaw02_EchoKolakoski.j0 kq t382 t383 (wrap64 (t384 + t385)) t390 x80_8 = some r) ∧ Aside0 (kq ≤ k) ∧ Aside0 (Kd.V (Kd.int .i64) 3 wc w.heap.size (fun _ => True) v391 t390) ∧ Aside0 (Below w.heap.size w wc))
  case first =>
    have H := HC9.out
    clear HC9
    by_cases c12 : t389 = 0
    · rw [if_pos c12] at H
      have c12b0 : (t389 == 0) = true := beq_iff_eq.mpr c12
      have c12b1 : (t389 != 0) = false := bne_eq_false_iff_eq.mpr c12
      clear c12
      (first | rw [c12b0] | (simp only [i64_w, i32_w]; rw [c12b0]) | skip)
      by_cases c13 : t393 = 0
      · rw [if_pos c13] at H
        have c13b0 : (t393 == 0) = true := beq_iff_eq.mpr c13
        have c13b1 : (t393 != 0) = false := bne_eq_false_iff_eq.mpr c13
        clear c13
        by_cases c14 : (t386.length : Int) = t384
        · rw [if_pos c14] at H
          have c14b0 : ((t386.length : Int) == t384) = true := beq_iff_eq.mpr c14
          have c14b1 : ((t386.length : Int) != t384) = false := bne_eq_false_iff_eq.mpr c14
          clear c14
          by_cases c15 : (t390.length : Int) = (wrap64 (t384 + t385))
          · rw [if_pos c15] at H
            have c15b0 : ((t390.length : Int) == (wrap64 (t384 + t385))) = true := beq_iff_eq.mpr c15
            have c15b1 : ((t390.length : Int) != (wrap64 (t384 + t385))) = false := bne_eq_false_iff_eq.mpr c15
            clear c15
            by_cases c16 : 0 ≤ t384
            · rw [if_pos c16] at H
              have c16b0 := eq_true c16
              have c16b1 : decide (0 ≤ t384) = true := decide_eq_true c16
              clear c16
              by_cases c17 : t384 ≤ (t390.length : Int)
              · rw [if_pos c17] at H
                have c17b0 := eq_true c17
                have c17b1 : decide (t384 ≤ (t390.length : Int)) = true := decide_eq_true c17
                clear c17
                obtain ⟨y394, hy394⟩ : ∃ y_ : List Int, y_ = (t390.take (t384 : Int).toNat) := ⟨_, rfl⟩
                replace H : ((bellpullref01_Same.f k t386 y394).bind fun t399 => (if t399 = true then (if 0 < (t386.length : Int) then (if (rd t386 0) = t382 then ((bellpulllaw02_lives.f k).bind fun t401 => (bellpulllaw02_EchoKolakoski.j0 k t382 t383 (wrap64 (t384 + t385)) t390 (!t401))) else (none)) else (none)) else (none))) = some r := by first | (rw [hy394]; with_reducible exact H) | (have H2_ := (Option.bind_some _ _).symm.trans H; rw [hy394]; with_reducible exact H2_) | (have H2_ := (Option.bind_some _ _).symm.trans H; with_reducible exact H2_) | with_reducible exact H | (rw [hy394]; exact H) | exact H
                have Ny394 := Aside0.mk hy394
                clear hy394
                replace H := Option.bind_eq_some_iff.mp H
                obtain ⟨t399, A180, H⟩ := H
                replace H : (if t399 = true then (if 0 < (t386.length : Int) then (if (rd t386 0) = t382 then ((bellpulllaw02_lives.f k).bind fun t401 => (bellpulllaw02_EchoKolakoski.j0 k t382 t383 (wrap64 (t384 + t385)) t390 (!t401))) else (none)) else (none)) else (none)) = some r := H
                have A18 := Aside0.mk A180
                clear A180
                by_cases c19 : t399 = true
                · subst c19
                  have H1 : (if 0 < (t386.length : Int) then (if (rd t386 0) = t382 then ((bellpulllaw02_lives.f k).bind fun t401 => (bellpulllaw02_EchoKolakoski.j0 k t382 t383 (wrap64 (t384 + t385)) t390 (!t401))) else (none)) else (none)) = some r := by rw [if_pos rfl] at H; exact H
                  clear H
                  have H := H1
                  clear H1
                  by_cases c20 : 0 < (t386.length : Int)
                  · rw [if_pos c20] at H
                    have c20b0 : decide (0 < (t386.length : Int)) = true := decide_eq_true c20
                    have c20b1 : decide (0 < t386.length) = true := decide_eq_true (by omega)
                    clear c20
                    by_cases c21 : (rd t386 0) = t382
                    · rw [if_pos c21] at H
                      have c21b0 : ((rd t386 0) == t382) = true := beq_iff_eq.mpr c21
                      have c21b1 : ((rd t386 0) != t382) = false := bne_eq_false_iff_eq.mpr c21
                      clear c21
                      replace H := Option.bind_eq_some_iff.mp H
                      obtain ⟨t401, A220, H⟩ := H
                      replace H : (bellpulllaw02_EchoKolakoski.j0 k t382 t383 (wrap64 (t384 + t385)) t390 (!t401)) = some r := H
                      have A22 := Aside0.mk A220
                      clear A220
                      have H' := Aside0.mk H
                      clear H
                      obtain ⟨Ao23, co23, eo23⟩ := Kd.V_slice HO388.out
                      subst eo23
                      obtain ⟨Ao24, co24, eo24⟩ := Kd.V_slice HO392.out
                      subst eo24
                      have q25 : (t384 : Int) ≤ ((t390.length : Int) : Int) := of_decide_eq_true (by first | (with_reducible assumption) | assumption)
                      obtain ⟨i025, hi025, _, hsz25, _⟩ := info_parts info3
                      have hroom25 : t390.length ≤ co24 := (Kd.V_reads' HO392.out).2.1
                      have hC25 : Kd.F (Kd.int .i64) _ _ Ao24 t390.length t390 := (Kd.V_at (base := w.heap.size) HO392.out).2.2
                      have hcut25 := Go.Proofs.MyWords.cut_to_m (P := Try.prog) 22 3 .i64 .i64 Try.underlying22 hi025 Ao24 t390.length co24 t384 (of_decide_eq_true (by first | (with_reducible assumption) | assumption)) q25 hroom25
                      have hr25 := Kd.F_take (m := (t384 : Int).toNat) hC25 (by omega)
                      have hy25 : y394.length = (t384 : Int).toNat := (by rw [Ny394.out, List.length_take]; omega)
                      rw [← Ny394.out] at hr25
                      rw [← hy25] at hcut25
                      have HO398 := Aside0.mk (show Kd.V (Kd.int .i64) 3 _ w.heap.size _ (.slice Ao24 y394.length y394.length) y394 from Kd.V_mk (Nat.le_refl _) hr25)
                      have HC398 := Aside0.mk (show y394.length ≤ y394.length from Nat.le_refl _)
                      clear hr25 hC25 hroom25 hi025 hsz25
                      have KY25 := Aside0.mk hy25
                      clear hy25
                      replace q25 := eq_true q25
                      go_wp2_with (first | (go_at_call 20; (with_reducible refine (bellpullref01_Same.calls k _ _ t386 _ _ y394 true _ ?side1 ?side2 ?side3 ?side4 A18.out).mono ?_); (case side1 => repeat (first | exact (Kd.V_reads' HO388.out).2.2 | (with_reducible refine Kd.C_alloc ?_ _) | (with_reducible refine Kd.C_drewN ?_ _) | (with_reducible refine Kd.C_drew ?_))); (case side2 => exact (Kd.V_reads' HO388.out).2.1); (case side3 => repeat (first | exact (Kd.V_reads' HO398.out).2.2 | (with_reducible refine Kd.C_alloc ?_ _) | (with_reducible refine Kd.C_drewN ?_ _) | (with_reducible refine Kd.C_drew ?_))); (case side4 => exact (Kd.V_reads' HO398.out).2.1); rintro e w' ⟨rfl, ⟨nd, rfl⟩⟩; (try first | exact ⟨rfl, _, World.drewN_drewN _ _ _⟩ | exact ⟨rfl, _, Eq.trans (World.drewN_drewN _ _ _) (congrArg (World.drewN _) (Nat.add_assoc _ _ _))⟩); have p400 : 0 ≤ (0 : Int) := (by omega); have q400 : 0 < (t386.length : Int) := of_decide_eq_true (by first | (with_reducible assumption) | assumption); obtain ⟨ad400, e400, hx400_0⟩ := Kd.at_int (Kd.V_reads' HO388.out).2.2 0 p400 q400; cases e400; have qi400 : (0 < t386.length) = True := eq_true (by omega); (try rw [show ((0 : Int)).toNat = 0 from rfl] at hx400_0); (try rw [Addr.add_zero'] at hx400_0); replace p400 := eq_true p400; replace q400 := eq_true q400) | (go_at_call 19; (with_reducible refine (bellpulllaw02_lives.calls k  t401 _ A22.out).mono ?_); rintro e w26 ⟨rfl, hb⟩; have n0_ := Aside0.mk (Kd.V_below (by (with_reducible repeat (first | apply Kd.V_alloc | apply Kd.V_drewN | apply Kd.V_drew)); exact HO388.out) hb); have n1_ := Aside0.mk (Kd.V_below (by (with_reducible repeat (first | apply Kd.V_alloc | apply Kd.V_drewN | apply Kd.V_drew)); exact HO392.out) hb); have n2_ := Aside0.mk (Kd.V_below (by (with_reducible repeat (first | apply Kd.V_alloc | apply Kd.V_drewN | apply Kd.V_drew)); exact HO398.out) hb); have n3_ := Aside0.mk (below_step (by repeat (first | (with_reducible first | exact HB.out | apply below_alloc | apply pw_below_drewN | apply below_drew1) | exact HB.out)) hb); clear HO388; clear HO392; clear HO398; clear HB; have HO388 := n0_; have HO392 := n1_; have HO398 := n2_; have HB := n3_; clear n0_ n1_ n2_ n3_; (try clear hb); (try clear hb2); (try clear hk); (try clear hi)))
                      repeat (go_quiet (first | (go_at_call 20; (with_reducible refine (bellpullref01_Same.calls k _ _ t386 _ _ y394 true _ ?side1 ?side2 ?side3 ?side4 A18.out).mono ?_); (case side1 => repeat (first | exact (Kd.V_reads' HO388.out).2.2 | (with_reducible refine Kd.C_alloc ?_ _) | (with_reducible refine Kd.C_drewN ?_ _) | (with_reducible refine Kd.C_drew ?_))); (case side2 => exact (Kd.V_reads' HO388.out).2.1); (case side3 => repeat (first | exact (Kd.V_reads' HO398.out).2.2 | (with_reducible refine Kd.C_alloc ?_ _) | (with_reducible refine Kd.C_drewN ?_ _) | (with_reducible refine Kd.C_drew ?_))); (case side4 => exact (Kd.V_reads' HO398.out).2.1); rintro e w' ⟨rfl, ⟨nd, rfl⟩⟩; (try first | exact ⟨rfl, _, World.drewN_drewN _ _ _⟩ | exact ⟨rfl, _, Eq.trans (World.drewN_drewN _ _ _) (congrArg (World.drewN _) (Nat.add_assoc _ _ _))⟩); have p400 : 0 ≤ (0 : Int) := (by omega); have q400 : 0 < (t386.length : Int) := of_decide_eq_true (by first | (with_reducible assumption) | assumption); obtain ⟨ad400, e400, hx400_0⟩ := Kd.at_int (Kd.V_reads' HO388.out).2.2 0 p400 q400; cases e400; have qi400 : (0 < t386.length) = True := eq_true (by omega); (try rw [show ((0 : Int)).toNat = 0 from rfl] at hx400_0); (try rw [Addr.add_zero'] at hx400_0); replace p400 := eq_true p400; replace q400 := eq_true q400) | (go_at_call 19; (with_reducible refine (bellpulllaw02_lives.calls k  t401 _ A22.out).mono ?_); rintro e w26 ⟨rfl, hb⟩; have n0_ := Aside0.mk (Kd.V_below (by (with_reducible repeat (first | apply Kd.V_alloc | apply Kd.V_drewN | apply Kd.V_drew)); exact HO388.out) hb); have n1_ := Aside0.mk (Kd.V_below (by (with_reducible repeat (first | apply Kd.V_alloc | apply Kd.V_drewN | apply Kd.V_drew)); exact HO392.out) hb); have n2_ := Aside0.mk (Kd.V_below (by (with_reducible repeat (first | apply Kd.V_alloc | apply Kd.V_drewN | apply Kd.V_drew)); exact HO398.out) hb); have n3_ := Aside0.mk (below_step (by repeat (first | (with_reducible first | exact HB.out | apply below_alloc | apply pw_below_drewN | apply below_drew1) | exact HB.out)) hb); clear HO388; clear HO392; clear HO398; clear HB; have HO388 := n0_; have HO392 := n1_; have HO398 := n2_; have HB := n3_; clear n0_ n1_ n2_ n3_; (try clear hb); (try clear hb2); (try clear hk); (try clear hi))); try go_wp2_with (first | (go_at_call 20; (with_reducible refine (bellpullref01_Same.calls k _ _ t386 _ _ y394 true _ ?side1 ?side2 ?side3 ?side4 A18.out).mono ?_); (case side1 => repeat (first | exact (Kd.V_reads' HO388.out).2.2 | (with_reducible refine Kd.C_alloc ?_ _) | (with_reducible refine Kd.C_drewN ?_ _) | (with_reducible refine Kd.C_drew ?_))); (case side2 => exact (Kd.V_reads' HO388.out).2.1); (case side3 => repeat (first | exact (Kd.V_reads' HO398.out).2.2 | (with_reducible refine Kd.C_alloc ?_ _) | (with_reducible refine Kd.C_drewN ?_ _) | (with_reducible refine Kd.C_drew ?_))); (case side4 => exact (Kd.V_reads' HO398.out).2.1); rintro e w' ⟨rfl, ⟨nd, rfl⟩⟩; (try first | exact ⟨rfl, _, World.drewN_drewN _ _ _⟩ | exact ⟨rfl, _, Eq.trans (World.drewN_drewN _ _ _) (congrArg (World.drewN _) (Nat.add_assoc _ _ _))⟩); have p400 : 0 ≤ (0 : Int) := (by omega); have q400 : 0 < (t386.length : Int) := of_decide_eq_true (by first | (with_reducible assumption) | assumption); obtain ⟨ad400, e400, hx400_0⟩ := Kd.at_int (Kd.V_reads' HO388.out).2.2 0 p400 q400; cases e400; have qi400 : (0 < t386.length) = True := eq_true (by omega); (try rw [show ((0 : Int)).toNat = 0 from rfl] at hx400_0); (try rw [Addr.add_zero'] at hx400_0); replace p400 := eq_true p400; replace q400 := eq_true q400) | (go_at_call 19; (with_reducible refine (bellpulllaw02_lives.calls k  t401 _ A22.out).mono ?_); rintro e w26 ⟨rfl, hb⟩; have n0_ := Aside0.mk (Kd.V_below (by (with_reducible repeat (first | apply Kd.V_alloc | apply Kd.V_drewN | apply Kd.V_drew)); exact HO388.out) hb); have n1_ := Aside0.mk (Kd.V_below (by (with_reducible repeat (first | apply Kd.V_alloc | apply Kd.V_drewN | apply Kd.V_drew)); exact HO392.out) hb); have n2_ := Aside0.mk (Kd.V_below (by (with_reducible repeat (first | apply Kd.V_alloc | apply Kd.V_drewN | apply Kd.V_drew)); exact HO398.out) hb); have n3_ := Aside0.mk (below_step (by repeat (first | (with_reducible first | exact HB.out | apply below_alloc | apply pw_below_drewN | apply below_drew1) | exact HB.out)) hb); clear HO388; clear HO392; clear HO398; clear HB; have HO388 := n0_; have HO392 := n1_; have HO398 := n2_; have HB := n3_; clear n0_ n1_ n2_ n3_; (try clear hb); (try clear hb2); (try clear hk); (try clear hi))))
                      go_meet
                      case rel => exact ⟨_, (!t401), (by first | rfl | (simp; done) | (simp [*]; done)), H', ⟨by first | omega | exact Nat.le_refl _⟩, ⟨by (with_reducible repeat (first | apply Kd.V_alloc | apply Kd.V_drewN | apply Kd.V_drew)); exact HO392.out⟩, ⟨by repeat (first | (with_reducible first | exact HB.out | apply below_alloc | apply pw_below_drewN | apply below_drew1) | exact HB.out)⟩⟩
                    · rw [if_neg c21] at H
                      exact absurd H (by simp)
                  · rw [if_neg c20] at H
                    exact absurd H (by simp)
                · replace c19 := Bool.eq_false_iff.mpr c19
                  subst c19
                  have H1 : (none) = some r := by rw [if_neg (show ¬ (false = true) by decide)] at H; exact H
                  clear H
                  have H := H1
                  clear H1
                  exact absurd H (by simp)
              · rw [if_neg c17] at H
                exact absurd H (by simp)
            · rw [if_neg c16] at H
              exact absurd H (by simp)
          · rw [if_neg c15] at H
            exact absurd H (by simp)
        · rw [if_neg c14] at H
          exact absurd H (by simp)
      · rw [if_neg c13] at H
        exact absurd H (by simp)
    · rw [if_neg c12] at H
      exact absurd H (by simp)
  case rest =>
    clear HC9
    try clear c1
    try clear c2
    try clear p2
    try clear q2
    try clear c4
    try clear p4
    try clear q4
    try clear hx4
    try clear qi4
    try clear p6
    try clear c12
    try clear c12b0
    try clear c12b1
    try clear c13
    try clear c13b0
    try clear c13b1
    try clear c14
    try clear c14b0
    try clear c14b1
    try clear c15
    try clear c15b0
    try clear c15b1
    try clear c16
    try clear c16b0
    try clear c16b1
    try clear c17
    try clear c17b0
    try clear c17b1
    try clear c19
    try clear c20
    try clear c20b0
    try clear c20b1
    try clear c21
    try clear c21b0
    try clear c21b1
    try clear q25
    try clear hx400_0
    try clear p400
    try clear q25
    try clear q400
    obtain ⟨kq, x80_8, rfl, HA, HJ8, HO_13, HB⟩ := hcut
    cases kq with
    | zero => exact absurd HA.out (by simp [bellpulllaw02_EchoKolakoski.j0])
    | succ kj8 =>
      have H := HA.out
      clear HA
      simp only [bellpulllaw02_EchoKolakoski.j0] at H
      by_cases c27 : x80_8 = true
      · subst c27
        have H1 : (none) = some r := by rw [if_pos rfl] at H; exact H
        clear H
        have H := H1
        clear H1
        exact absurd H (by simp)
      · replace c27 := Bool.eq_false_iff.mpr c27
        subst c27
        have H1 : (bellpulllaw02_EchoKolakoski.l0 kj8 t382 t383 (wrap64 (t384 + t385)) t390 0) = some r := by rw [if_neg (show ¬ (false = true) by decide)] at H; exact H
        clear H
        have H := H1
        clear H1
        have H' := Aside0.mk H
        clear H
        go_wp2
        repeat (go_quiet (fail); try go_wp2)
        go_loopg [15] kj8 (fun kq v15 w' => ∃ (x15_2 : Int), v15 = .int .i64 x15_2 ∧ Aside0 (bellpulllaw02_EchoKolakoski.l0 kq t382 t383 (wrap64 (t384 + t385)) t390 x15_2 = some r) ∧ Aside0 (kq ≤ kj8) ∧ Aside0 (Kd.V (Kd.int .i64) 3 w' w.heap.size (fun _ => True) v391 t390) ∧ Aside0 (Below w.heap.size w w'))
        case atStart => exact ⟨(0), (by first | rfl | (simp; done) | (simp [*]; done)), H', ⟨Nat.le_refl _⟩, ⟨by (with_reducible repeat (first | apply Kd.V_alloc | apply Kd.V_drewN | apply Kd.V_drew)); exact HO_13.out⟩, ⟨by repeat (first | (with_reducible first | exact HB.out | apply below_alloc | apply pw_below_drewN | apply below_drew1) | exact HB.out)⟩⟩
        case round =>
          clear H'
          try clear c1
          try clear c2
          try clear p2
          try clear q2
          try clear c4
          try clear p4
          try clear q4
          try clear hx4
          try clear qi4
          try clear p6
          try clear c12
          try clear c12b0
          try clear c12b1
          try clear c13
          try clear c13b0
          try clear c13b1
          try clear c14
          try clear c14b0
          try clear c14b1
          try clear c15
          try clear c15b0
          try clear c15b1
          try clear c16
          try clear c16b0
          try clear c16b1
          try clear c17
          try clear c17b0
          try clear c17b1
          try clear c19
          try clear c20
          try clear c20b0
          try clear c20b1
          try clear c21
          try clear c21b0
          try clear c21b1
          try clear q25
          try clear c27
          try clear hx400_0
          try clear p2
          try clear p4
          try clear p400
          try clear p6
          try clear q2
          try clear q25
          try clear q4
          try clear q400
          obtain ⟨x15_2, rfl, HA, HK2, HO_13, HB⟩ := hrel
          cases gk with
          | zero => exact absurd HA.out (by simp [bellpulllaw02_EchoKolakoski.l0])
          | succ k2 =>
            have H := HA.out
            clear HA
            simp only [bellpulllaw02_EchoKolakoski.l0] at H
            by_cases c28 : x15_2 < (wrap64 (t384 + t385))
            · rw [if_pos c28] at H
              have c28b0 : decide (x15_2 < (wrap64 (t384 + t385))) = true := decide_eq_true c28
              clear c28
              by_cases c29 : 0 ≤ x15_2
              · rw [if_pos c29] at H
                have c29b0 : decide (0 ≤ x15_2) = true := decide_eq_true c29
                clear c29
                by_cases c30 : x15_2 < (t390.length : Int)
                · rw [if_pos c30] at H
                  have c30b0 : decide (x15_2 < (t390.length : Int)) = true := decide_eq_true c30
                  clear c30
                  by_cases c31 : (rd t390 x15_2) = t382
                  · rw [if_pos c31] at H
                    have c31b0 : ((rd t390 x15_2) == t382) = true := beq_iff_eq.mpr c31
                    have c31b1 : ((rd t390 x15_2) != t382) = false := bne_eq_false_iff_eq.mpr c31
                    clear c31
                    have H' := Aside0.mk H
                    clear H
                    obtain ⟨Ao32, co32, eo32⟩ := Kd.V_slice HO_13.out
                    subst eo32
                    have p402 : 0 ≤ (x15_2 : Int) := of_decide_eq_true (by first | (with_reducible assumption) | assumption)
                    have q402 : x15_2 < (t390.length : Int) := of_decide_eq_true (by first | (with_reducible assumption) | assumption)
                    obtain ⟨ad402, e402, hx402_0⟩ := Kd.at_int (Kd.V_reads' HO_13.out).2.2 x15_2 p402 q402
                    cases e402
                    replace p402 := eq_true p402
                    replace q402 := eq_true q402
                    go_wp2
                    repeat (go_quiet (fail); try go_wp2)
                    go_roundg k2
                    case measure => have := HJ8.out; have := HK2.out; omega
                    case rel => exact ⟨(wrap64 (x15_2 + 1)), (by first | rfl | (simp; done) | (simp [*]; done)), H', ⟨by have := HJ8.out; have := HK2.out; omega⟩, ⟨by (with_reducible repeat (first | apply Kd.V_alloc | apply Kd.V_drewN | apply Kd.V_drew)); exact HO_13.out⟩, ⟨by repeat (first | (with_reducible first | exact HB.out | apply below_alloc | apply pw_below_drewN | apply below_drew1) | exact HB.out)⟩⟩
                  · rw [if_neg c31] at H
                    have c31b0 : ((rd t390 x15_2) == t382) = false := beq_eq_false_iff_ne.mpr c31
                    have c31b1 : ((rd t390 x15_2) != t382) = true := bne_iff_ne.mpr c31
                    by_cases c33 : (rd t390 x15_2) = t383
                    · rw [if_pos c33] at H
                      have c33b0 : ((rd t390 x15_2) == t383) = true := beq_iff_eq.mpr c33
                      have c33b1 : ((rd t390 x15_2) != t383) = false := bne_eq_false_iff_eq.mpr c33
                      clear c33
                      have H' := Aside0.mk H
                      clear H
                      obtain ⟨Ao34, co34, eo34⟩ := Kd.V_slice HO_13.out
                      subst eo34
                      have p402 : 0 ≤ (x15_2 : Int) := of_decide_eq_true (by first | (with_reducible assumption) | assumption)
                      have q402 : x15_2 < (t390.length : Int) := of_decide_eq_true (by first | (with_reducible assumption) | assumption)
                      obtain ⟨ad402, e402, hx402_0⟩ := Kd.at_int (Kd.V_reads' HO_13.out).2.2 x15_2 p402 q402
                      cases e402
                      replace p402 := eq_true p402
                      replace q402 := eq_true q402
                      have p403 : 0 ≤ (x15_2 : Int) := of_decide_eq_true (by first | (with_reducible assumption) | assumption)
                      have q403 : x15_2 < (t390.length : Int) := of_decide_eq_true (by first | (with_reducible assumption) | assumption)
                      obtain ⟨ad403, e403, hx403_0⟩ := Kd.at_int (Kd.V_reads' HO_13.out).2.2 x15_2 p403 q403
                      obtain rfl : ad402 = ad403 := (by injection e403)
                      replace p403 := eq_true p403
                      replace q403 := eq_true q403
                      go_wp2
                      repeat (go_quiet (fail); try go_wp2)
                      go_roundg k2
                      case measure => have := HJ8.out; have := HK2.out; omega
                      case rel => exact ⟨(wrap64 (x15_2 + 1)), (by first | rfl | (simp; done) | (simp [*]; done)), H', ⟨by have := HJ8.out; have := HK2.out; omega⟩, ⟨by (with_reducible repeat (first | apply Kd.V_alloc | apply Kd.V_drewN | apply Kd.V_drew)); exact HO_13.out⟩, ⟨by repeat (first | (with_reducible first | exact HB.out | apply below_alloc | apply pw_below_drewN | apply below_drew1) | exact HB.out)⟩⟩
                    · rw [if_neg c33] at H
                      exact absurd H (by simp)
                · rw [if_neg c30] at H
                  exact absurd H (by simp)
              · rw [if_neg c29] at H
                exact absurd H (by simp)
            · rw [if_neg c28] at H
              have c28b0 : decide (x15_2 < (wrap64 (t384 + t385))) = false := decide_eq_false c28
              clear c28
              replace H := Option.bind_eq_some_iff.mp H
              obtain ⟨t404, A350, H⟩ := H
              replace H : (if (t404.length : Int) > (t390.length : Int) then (none) else (if 0 ≤ (wrap64 ((t404.length : Int) - 1)) then (if (wrap64 ((t404.length : Int) - 1)) ≤ (t404.length : Int) then (if (wrap64 ((t404.length : Int) - 1)) ≤ (t390.length : Int) then ((bellpullref01_Same.f k2 (t404.take ((wrap64 ((t404.length : Int) - 1)) : Int).toNat) (t390.take ((wrap64 ((t404.length : Int) - 1)) : Int).toNat)).bind fun t417 => (some t417)) else (none)) else (none)) else (none))) = some r := H
              have A35 := Aside0.mk A350
              clear A350
              by_cases c36 : (t404.length : Int) > (t390.length : Int)
              · rw [if_pos c36] at H
                exact absurd H (by simp)
              · rw [if_neg c36] at H
                have c36b0 : decide ((t390.length : Int) < (t404.length : Int)) = false := decide_eq_false c36
                have c36b1 : decide (t390.length < t404.length) = false := decide_eq_false (fun h => c36 (Int.ofNat_lt.mpr h))
                clear c36
                obtain ⟨ji37, hji37⟩ : ∃ j_ : Int, (wrap64 ((t404.length : Int) - 1)) = j_ := ⟨_, rfl⟩
                replace H : (if 0 ≤ (ji37) then (if (ji37) ≤ (t404.length : Int) then (if (ji37) ≤ (t390.length : Int) then ((bellpullref01_Same.f k2 (t404.take ((ji37) : Int).toNat) (t390.take ((ji37) : Int).toNat)).bind fun t417 => (some t417)) else (none)) else (none)) else (none)) = some r := by first | (rw [hji37] at H; exact H) | (simp only [hji37] at H ⊢; exact H)
                (try rw [hji37] at A35)
                have hji37w : (IntKind.i64.wrap ((t404.length : Int) - 1)) = ji37 := (i64_w _).trans hji37
                by_cases c38 : 0 ≤ (ji37)
                · rw [if_pos c38] at H
                  have c38b0 := eq_true c38
                  have c38b1 : decide (0 ≤ (ji37)) = true := decide_eq_true c38
                  clear c38
                  by_cases c39 : (ji37) ≤ (t404.length : Int)
                  · rw [if_pos c39] at H
                    have c39b0 := eq_true c39
                    have c39b1 : decide ((ji37) ≤ (t404.length : Int)) = true := decide_eq_true c39
                    clear c39
                    obtain ⟨y407, hy407⟩ : ∃ y_ : List Int, y_ = (t404.take ((ji37) : Int).toNat) := ⟨_, rfl⟩
                    replace H : (if (ji37) ≤ (t390.length : Int) then ((bellpullref01_Same.f k2 y407 (t390.take ((ji37) : Int).toNat)).bind fun t417 => (some t417)) else (none)) = some r := by first | (rw [hy407]; with_reducible exact H) | (have H2_ := (Option.bind_some _ _).symm.trans H; rw [hy407]; with_reducible exact H2_) | (have H2_ := (Option.bind_some _ _).symm.trans H; with_reducible exact H2_) | with_reducible exact H | (rw [hy407]; exact H) | exact H
                    have Ny407 := Aside0.mk hy407
                    clear hy407
                    have c40b0 := eq_true (of_decide_eq_true (by first | (with_reducible assumption) | assumption) : 0 ≤ (ji37))
                    by_cases c41 : (ji37) ≤ (t390.length : Int)
                    · rw [if_pos c41] at H
                      have c41b0 := eq_true c41
                      have c41b1 : decide ((ji37) ≤ (t390.length : Int)) = true := decide_eq_true c41
                      clear c41
                      obtain ⟨y412, hy412⟩ : ∃ y_ : List Int, y_ = (t390.take ((ji37) : Int).toNat) := ⟨_, rfl⟩
                      replace H : ((bellpullref01_Same.f k2 y407 y412).bind fun t417 => (some t417)) = some r := by first | (rw [hy412]; with_reducible exact H) | (have H2_ := (Option.bind_some _ _).symm.trans H; rw [hy412]; with_reducible exact H2_) | (have H2_ := (Option.bind_some _ _).symm.trans H; with_reducible exact H2_) | with_reducible exact H | (rw [hy412]; exact H) | exact H
                      have Ny412 := Aside0.mk hy412
                      clear hy412
                      replace H := Option.bind_eq_some_iff.mp H
                      obtain ⟨t417, A420, H⟩ := H
                      replace H : (some t417) = some r := H
                      have A42 := Aside0.mk A420
                      clear A420
                      obtain rfl := Option.some.inj H
                      obtain ⟨Ao43, co43, eo43⟩ := Kd.V_slice HO_13.out
                      subst eo43
                      go_wp2_with (first | (go_at_call 25; (with_reducible refine (bellpullref02_Runs.calls k2 _ _ t390 t404 _ ?side1 ?side2 A35.out).mono ?_); (case side1 => repeat (first | exact (Kd.V_reads' HO_13.out).2.2 | (with_reducible refine Kd.C_alloc ?_ _) | (with_reducible refine Kd.C_drewN ?_ _) | (with_reducible refine Kd.C_drew ?_))); (case side2 => exact (Kd.V_reads' HO_13.out).2.1); rintro e w44 ⟨v405, rfl, ho0, hb⟩; have n0_ := Aside0.mk (Kd.V_elder' (by (with_reducible repeat (first | apply Kd.V_alloc | apply Kd.V_drewN | apply Kd.V_drew)); exact HO_13.out) (Kd.R_base ho0) hb); have n1_ := Aside0.mk (Kd.R_lower ho0 (below_size (by repeat (first | (with_reducible first | exact HB.out | apply below_alloc | apply pw_below_drewN | apply below_drew1) | exact HB.out)))); have n2_ := Aside0.mk (below_step (by repeat (first | (with_reducible first | exact HB.out | apply below_alloc | apply pw_below_drewN | apply below_drew1) | exact HB.out)) hb); clear HO_13; clear HB; have HO_13 := n0_; have HO406 := n1_; have HB := n2_; clear n0_ n1_ n2_; (try clear hb); (try clear hb2); (try clear hk); (try clear hi); (try clear ho0); obtain ⟨Ao45, co45, eo45⟩ := Kd.R_slice HO406.out; subst eo45; have q46 : ((ji37) : Int) ≤ ((t404.length : Int) : Int) := of_decide_eq_true (by first | (with_reducible assumption) | assumption); obtain ⟨i046, hi046, _, hsz46, _⟩ := info_parts info3; have hroom46 : t404.length ≤ co45 := (Kd.R_reads' HO406.out).2.1; have hC46 : Kd.F (Kd.int .i64) _ _ Ao45 t404.length t404 := (Kd.V_at (base := w.heap.size) (Kd.R_V HO406.out)).2.2; have hcut46 := Go.Proofs.MyWords.cut_to_m (P := Try.prog) 22 3 .i64 .i64 Try.underlying22 hi046 Ao45 t404.length co45 (ji37) (of_decide_eq_true (by first | (with_reducible assumption) | assumption)) q46 hroom46; have hr46 := Kd.F_take (m := ((ji37) : Int).toNat) hC46 (by omega); have hy46 : y407.length = ((ji37) : Int).toNat := (by rw [Ny407.out, List.length_take]; omega); rw [← Ny407.out] at hr46; rw [← hy46] at hcut46; have HO411 := Aside0.mk (show Kd.V (Kd.int .i64) 3 _ w.heap.size _ (.slice Ao45 y407.length y407.length) y407 from Kd.V_mk (Nat.le_refl _) hr46); have HC411 := Aside0.mk (show y407.length ≤ y407.length from Nat.le_refl _); clear hr46 hC46 hroom46 hi046 hsz46; have KY46 := Aside0.mk hy46; clear hy46; replace q46 := eq_true q46; have q47 : ((ji37) : Int) ≤ ((t390.length : Int) : Int) := of_decide_eq_true (by first | (with_reducible assumption) | assumption); obtain ⟨i047, hi047, _, hsz47, _⟩ := info_parts info3; have hroom47 : t390.length ≤ co43 := (Kd.V_reads' HO_13.out).2.1; have hC47 : Kd.F (Kd.int .i64) _ _ Ao43 t390.length t390 := (Kd.V_at (base := w.heap.size) HO_13.out).2.2; have hcut47 := Go.Proofs.MyWords.cut_to_m (P := Try.prog) 22 3 .i64 .i64 Try.underlying22 hi047 Ao43 t390.length co43 (ji37) (of_decide_eq_true (by first | (with_reducible assumption) | assumption)) q47 hroom47; have hr47 := Kd.F_take (m := ((ji37) : Int).toNat) hC47 (by omega); have hy47 : y412.length = ((ji37) : Int).toNat := (by rw [Ny412.out, List.length_take]; omega); rw [← Ny412.out] at hr47; rw [← hy47] at hcut47; have HO416 := Aside0.mk (show Kd.V (Kd.int .i64) 3 _ w.heap.size _ (.slice Ao43 y412.length y412.length) y412 from Kd.V_mk (Nat.le_refl _) hr47); have HC416 := Aside0.mk (show y412.length ≤ y412.length from Nat.le_refl _); clear hr47 hC47 hroom47 hi047 hsz47; have KY47 := Aside0.mk hy47; clear hy47; replace q47 := eq_true q47) | (go_at_call 20; (with_reducible refine (bellpullref01_Same.calls k2 _ _ y407 _ _ y412 t417 _ ?side1 ?side2 ?side3 ?side4 A42.out).mono ?_); (case side1 => repeat (first | exact (Kd.V_reads' HO411.out).2.2 | (with_reducible refine Kd.C_alloc ?_ _) | (with_reducible refine Kd.C_drewN ?_ _) | (with_reducible refine Kd.C_drew ?_))); (case side2 => exact (Kd.V_reads' HO411.out).2.1); (case side3 => repeat (first | exact (Kd.V_reads' HO416.out).2.2 | (with_reducible refine Kd.C_alloc ?_ _) | (with_reducible refine Kd.C_drewN ?_ _) | (with_reducible refine Kd.C_drew ?_))); (case side4 => exact (Kd.V_reads' HO416.out).2.1); rintro e w' ⟨rfl, ⟨nd, rfl⟩⟩; (try first | exact ⟨rfl, _, World.drewN_drewN _ _ _⟩ | exact ⟨rfl, _, Eq.trans (World.drewN_drewN _ _ _) (congrArg (World.drewN _) (Nat.add_assoc _ _ _))⟩)))
                      repeat (go_quiet (first | (go_at_call 25; (with_reducible refine (bellpullref02_Runs.calls k2 _ _ t390 t404 _ ?side1 ?side2 A35.out).mono ?_); (case side1 => repeat (first | exact (Kd.V_reads' HO_13.out).2.2 | (with_reducible refine Kd.C_alloc ?_ _) | (with_reducible refine Kd.C_drewN ?_ _) | (with_reducible refine Kd.C_drew ?_))); (case side2 => exact (Kd.V_reads' HO_13.out).2.1); rintro e w44 ⟨v405, rfl, ho0, hb⟩; have n0_ := Aside0.mk (Kd.V_elder' (by (with_reducible repeat (first | apply Kd.V_alloc | apply Kd.V_drewN | apply Kd.V_drew)); exact HO_13.out) (Kd.R_base ho0) hb); have n1_ := Aside0.mk (Kd.R_lower ho0 (below_size (by repeat (first | (with_reducible first | exact HB.out | apply below_alloc | apply pw_below_drewN | apply below_drew1) | exact HB.out)))); have n2_ := Aside0.mk (below_step (by repeat (first | (with_reducible first | exact HB.out | apply below_alloc | apply pw_below_drewN | apply below_drew1) | exact HB.out)) hb); clear HO_13; clear HB; have HO_13 := n0_; have HO406 := n1_; have HB := n2_; clear n0_ n1_ n2_; (try clear hb); (try clear hb2); (try clear hk); (try clear hi); (try clear ho0); obtain ⟨Ao45, co45, eo45⟩ := Kd.R_slice HO406.out; subst eo45; have q46 : ((ji37) : Int) ≤ ((t404.length : Int) : Int) := of_decide_eq_true (by first | (with_reducible assumption) | assumption); obtain ⟨i046, hi046, _, hsz46, _⟩ := info_parts info3; have hroom46 : t404.length ≤ co45 := (Kd.R_reads' HO406.out).2.1; have hC46 : Kd.F (Kd.int .i64) _ _ Ao45 t404.length t404 := (Kd.V_at (base := w.heap.size) (Kd.R_V HO406.out)).2.2; have hcut46 := Go.Proofs.MyWords.cut_to_m (P := Try.prog) 22 3 .i64 .i64 Try.underlying22 hi046 Ao45 t404.length co45 (ji37) (of_decide_eq_true (by first | (with_reducible assumption) | assumption)) q46 hroom46; have hr46 := Kd.F_take (m := ((ji37) : Int).toNat) hC46 (by omega); have hy46 : y407.length = ((ji37) : Int).toNat := (by rw [Ny407.out, List.length_take]; omega); rw [← Ny407.out] at hr46; rw [← hy46] at hcut46; have HO411 := Aside0.mk (show Kd.V (Kd.int .i64) 3 _ w.heap.size _ (.slice Ao45 y407.length y407.length) y407 from Kd.V_mk (Nat.le_refl _) hr46); have HC411 := Aside0.mk (show y407.length ≤ y407.length from Nat.le_refl _); clear hr46 hC46 hroom46 hi046 hsz46; have KY46 := Aside0.mk hy46; clear hy46; replace q46 := eq_true q46; have q47 : ((ji37) : Int) ≤ ((t390.length : Int) : Int) := of_decide_eq_true (by first | (with_reducible assumption) | assumption); obtain ⟨i047, hi047, _, hsz47, _⟩ := info_parts info3; have hroom47 : t390.length ≤ co43 := (Kd.V_reads' HO_13.out).2.1; have hC47 : Kd.F (Kd.int .i64) _ _ Ao43 t390.length t390 := (Kd.V_at (base := w.heap.size) HO_13.out).2.2; have hcut47 := Go.Proofs.MyWords.cut_to_m (P := Try.prog) 22 3 .i64 .i64 Try.underlying22 hi047 Ao43 t390.length co43 (ji37) (of_decide_eq_true (by first | (with_reducible assumption) | assumption)) q47 hroom47; have hr47 := Kd.F_take (m := ((ji37) : Int).toNat) hC47 (by omega); have hy47 : y412.length = ((ji37) : Int).toNat := (by rw [Ny412.out, List.length_take]; omega); rw [← Ny412.out] at hr47; rw [← hy47] at hcut47; have HO416 := Aside0.mk (show Kd.V (Kd.int .i64) 3 _ w.heap.size _ (.slice Ao43 y412.length y412.length) y412 from Kd.V_mk (Nat.le_refl _) hr47); have HC416 := Aside0.mk (show y412.length ≤ y412.length from Nat.le_refl _); clear hr47 hC47 hroom47 hi047 hsz47; have KY47 := Aside0.mk hy47; clear hy47; replace q47 := eq_true q47) | (go_at_call 20; (with_reducible refine (bellpullref01_Same.calls k2 _ _ y407 _ _ y412 t417 _ ?side1 ?side2 ?side3 ?side4 A42.out).mono ?_); (case side1 => repeat (first | exact (Kd.V_reads' HO411.out).2.2 | (with_reducible refine Kd.C_alloc ?_ _) | (with_reducible refine Kd.C_drewN ?_ _) | (with_reducible refine Kd.C_drew ?_))); (case side2 => exact (Kd.V_reads' HO411.out).2.1); (case side3 => repeat (first | exact (Kd.V_reads' HO416.out).2.2 | (with_reducible refine Kd.C_alloc ?_ _) | (with_reducible refine Kd.C_drewN ?_ _) | (with_reducible refine Kd.C_drew ?_))); (case side4 => exact (Kd.V_reads' HO416.out).2.1); rintro e w' ⟨rfl, ⟨nd, rfl⟩⟩; (try first | exact ⟨rfl, _, World.drewN_drewN _ _ _⟩ | exact ⟨rfl, _, Eq.trans (World.drewN_drewN _ _ _) (congrArg (World.drewN _) (Nat.add_assoc _ _ _))⟩))); try go_wp2_with (first | (go_at_call 25; (with_reducible refine (bellpullref02_Runs.calls k2 _ _ t390 t404 _ ?side1 ?side2 A35.out).mono ?_); (case side1 => repeat (first | exact (Kd.V_reads' HO_13.out).2.2 | (with_reducible refine Kd.C_alloc ?_ _) | (with_reducible refine Kd.C_drewN ?_ _) | (with_reducible refine Kd.C_drew ?_))); (case side2 => exact (Kd.V_reads' HO_13.out).2.1); rintro e w44 ⟨v405, rfl, ho0, hb⟩; have n0_ := Aside0.mk (Kd.V_elder' (by (with_reducible repeat (first | apply Kd.V_alloc | apply Kd.V_drewN | apply Kd.V_drew)); exact HO_13.out) (Kd.R_base ho0) hb); have n1_ := Aside0.mk (Kd.R_lower ho0 (below_size (by repeat (first | (with_reducible first | exact HB.out | apply below_alloc | apply pw_below_drewN | apply below_drew1) | exact HB.out)))); have n2_ := Aside0.mk (below_step (by repeat (first | (with_reducible first | exact HB.out | apply below_alloc | apply pw_below_drewN | apply below_drew1) | exact HB.out)) hb); clear HO_13; clear HB; have HO_13 := n0_; have HO406 := n1_; have HB := n2_; clear n0_ n1_ n2_; (try clear hb); (try clear hb2); (try clear hk); (try clear hi); (try clear ho0); obtain ⟨Ao45, co45, eo45⟩ := Kd.R_slice HO406.out; subst eo45; have q46 : ((ji37) : Int) ≤ ((t404.length : Int) : Int) := of_decide_eq_true (by first | (with_reducible assumption) | assumption); obtain ⟨i046, hi046, _, hsz46, _⟩ := info_parts info3; have hroom46 : t404.length ≤ co45 := (Kd.R_reads' HO406.out).2.1; have hC46 : Kd.F (Kd.int .i64) _ _ Ao45 t404.length t404 := (Kd.V_at (base := w.heap.size) (Kd.R_V HO406.out)).2.2; have hcut46 := Go.Proofs.MyWords.cut_to_m (P := Try.prog) 22 3 .i64 .i64 Try.underlying22 hi046 Ao45 t404.length co45 (ji37) (of_decide_eq_true (by first | (with_reducible assumption) | assumption)) q46 hroom46; have hr46 := Kd.F_take (m := ((ji37) : Int).toNat) hC46 (by omega); have hy46 : y407.length = ((ji37) : Int).toNat := (by rw [Ny407.out, List.length_take]; omega); rw [← Ny407.out] at hr46; rw [← hy46] at hcut46; have HO411 := Aside0.mk (show Kd.V (Kd.int .i64) 3 _ w.heap.size _ (.slice Ao45 y407.length y407.length) y407 from Kd.V_mk (Nat.le_refl _) hr46); have HC411 := Aside0.mk (show y407.length ≤ y407.length from Nat.le_refl _); clear hr46 hC46 hroom46 hi046 hsz46; have KY46 := Aside0.mk hy46; clear hy46; replace q46 := eq_true q46; have q47 : ((ji37) : Int) ≤ ((t390.length : Int) : Int) := of_decide_eq_true (by first | (with_reducible assumption) | assumption); obtain ⟨i047, hi047, _, hsz47, _⟩ := info_parts info3; have hroom47 : t390.length ≤ co43 := (Kd.V_reads' HO_13.out).2.1; have hC47 : Kd.F (Kd.int .i64) _ _ Ao43 t390.length t390 := (Kd.V_at (base := w.heap.size) HO_13.out).2.2; have hcut47 := Go.Proofs.MyWords.cut_to_m (P := Try.prog) 22 3 .i64 .i64 Try.underlying22 hi047 Ao43 t390.length co43 (ji37) (of_decide_eq_true (by first | (with_reducible assumption) | assumption)) q47 hroom47; have hr47 := Kd.F_take (m := ((ji37) : Int).toNat) hC47 (by omega); have hy47 : y412.length = ((ji37) : Int).toNat := (by rw [Ny412.out, List.length_take]; omega); rw [← Ny412.out] at hr47; rw [← hy47] at hcut47; have HO416 := Aside0.mk (show Kd.V (Kd.int .i64) 3 _ w.heap.size _ (.slice Ao43 y412.length y412.length) y412 from Kd.V_mk (Nat.le_refl _) hr47); have HC416 := Aside0.mk (show y412.length ≤ y412.length from Nat.le_refl _); clear hr47 hC47 hroom47 hi047 hsz47; have KY47 := Aside0.mk hy47; clear hy47; replace q47 := eq_true q47) | (go_at_call 20; (with_reducible refine (bellpullref01_Same.calls k2 _ _ y407 _ _ y412 t417 _ ?side1 ?side2 ?side3 ?side4 A42.out).mono ?_); (case side1 => repeat (first | exact (Kd.V_reads' HO411.out).2.2 | (with_reducible refine Kd.C_alloc ?_ _) | (with_reducible refine Kd.C_drewN ?_ _) | (with_reducible refine Kd.C_drew ?_))); (case side2 => exact (Kd.V_reads' HO411.out).2.1); (case side3 => repeat (first | exact (Kd.V_reads' HO416.out).2.2 | (with_reducible refine Kd.C_alloc ?_ _) | (with_reducible refine Kd.C_drewN ?_ _) | (with_reducible refine Kd.C_drew ?_))); (case side4 => exact (Kd.V_reads' HO416.out).2.1); rintro e w' ⟨rfl, ⟨nd, rfl⟩⟩; (try first | exact ⟨rfl, _, World.drewN_drewN _ _ _⟩ | exact ⟨rfl, _, Eq.trans (World.drewN_drewN _ _ _) (congrArg (World.drewN _) (Nat.add_assoc _ _ _))⟩))))
                      go_ret
                      exact ⟨by first | rfl | (simp [errW_none, errW_some] <;> rfl) | (simp only [← hji37]; first | rfl | (simp [errW_none, errW_some] <;> rfl)) | (simp [*, errW_none, errW_some] <;> rfl), by repeat (first | (with_reducible first | exact HB.out | apply below_alloc | apply pw_below_drewN | apply below_drew1) | exact HB.out)⟩
                    · rw [if_neg c41] at H
                      exact absurd H (by simp)
                  · rw [if_neg c39] at H
                    exact absurd H (by simp)
                · rw [if_neg c38] at H
                  exact absurd H (by simp)

/-- THE ONE PURE STATEMENT of bellpulllaw02_EchoKolakoski: yours. -/
def bellpulllaw02_EchoKolakoski.Pure : Prop := ∀ (a0 : Int) (a1 : Int) (a2 : Int), (Lit.int .u8 a0).wf = true → (Lit.int .u16 a1).wf = true → (Lit.int .u16 a2).wf = true → ∃ k, bellpulllaw02_EchoKolakoski.f k a0 a1 a2 = some true
theorem bellpulllaw02_EchoKolakoski.walk (P : bellpulllaw02_EchoKolakoski.Pure) (a0 : Int) (a1 : Int) (a2 : Int) (w : World) (w0 : (Lit.int .u8 a0).wf = true) (w1 : (Lit.int .u16 a1).wf = true) (w2 : (Lit.int .u16 a2).wf = true) :
    Calls Try.prog 4 #[.int .u8 a0, .int .u16 a1, .int .u16 a2] w fun e w' => e = .returned (.bool true) ∧ Below w.heap.size w w' := by
  obtain ⟨k, h⟩ := P a0 a1 a2 w0 w1 w2
  refine (bellpulllaw02_EchoKolakoski.calls k a0 a1 a2 true w h).mono ?_
  rintro e w' ⟨rfl, hd⟩
  exact ⟨rfl, hd⟩

end Go.Proofs.Ytploaicljkennaa.PE
