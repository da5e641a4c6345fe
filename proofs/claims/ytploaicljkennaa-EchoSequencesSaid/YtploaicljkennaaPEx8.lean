-- Written by pr2.py, a program of this session's, for this claim (through the kit's print).
import Derived.Test.YtploaicljkennaaPEx0
import Derived.Test.YtploaicljkennaaPEx1
import Derived.Test.YtploaicljkennaaPEx2
import Derived.Test.YtploaicljkennaaPEx4
import Derived.Test.YtploaicljkennaaPEx7
namespace Go.Proofs.Ytploaicljkennaa.PE
open Go.RowKit Go.Proofs.YtploaicljkennaaW.PrintWords Go.Proofs.YtploaicljkennaaW.PrintLast Go.Proofs.YtploaicljkennaaW.PrintMore
attribute [local go_sem] max2_int min2_int max_two min_two max_three min_three max_four min_four   -- for this text's walks alone
set_option linter.unusedVariables false
set_option linter.unusedSimpArgs false

/-! ### bellpulllaw02_EchoSequences: function 3 -/
mutual
def bellpulllaw02_EchoSequences.j0 : Nat → Int → Int → Int → List Int → Int → List Int → Int → Int → Int → Bool → Option (Bool)
  | 0, _, _, _, _, _, _, _, _, _, _ => none
  | k + 1, x0, x1, x2, x7, x8, x9, x10, x11, x12, x14 => if x10 = 0 then (if x12 = 0 then (if (x9.length : Int) = x2 then (if x14 = true then (if x8 = 0 then (if (x7.length : Int) = x2 then ((bellpulllaw02_lives.f k).bind fun t349 => (bellpulllaw02_EchoSequences.j1 k x0 x1 x2 x7 x9 x11 x14 (!t349))) else (none)) else (none)) else (if x8 = 1 then (if (x7.length : Int) = 0 then ((bellpulllaw02_lives.f k).bind fun t350 => (bellpulllaw02_EchoSequences.j1 k x0 x1 x2 x7 x9 x11 x14 (!t350))) else (none)) else (none))) else (none)) else (none)) else (none)
def bellpulllaw02_EchoSequences.j1 : Nat → Int → Int → Int → List Int → List Int → Int → Bool → Bool → Option (Bool)
  | 0, _, _, _, _, _, _, _, _ => none
  | k + 1, x0, x1, x2, x7, x9, x11, x14, x117 => if x117 = true then (none) else (if x14 = true then (if 0 ≤ (mn x2 3000) then (if (mn x2 3000) ≤ (x7.length : Int) then ((bellpullref02_Kolakoski.f k x0 x1 (mn x2 3000)).bind fun t356 => ((bellpullref01_Same.f k (x7.take ((mn x2 3000) : Int).toNat) t356).bind fun t359 => (if t359 = true then (if (mn x2 3000) ≤ (x9.length : Int) then ((bellpullref02_Golomb.f k (mn x2 3000)).bind fun t365 => ((bellpullref01_Same.f k (x9.take ((mn x2 3000) : Int).toNat) t365).bind fun t368 => (bellpulllaw02_EchoSequences.j2 k x2 x11 (mn x2 3000) (!t368)))) else (none)) else (none)))) else (none)) else (none)) else (if 0 ≤ (mn x2 3000) then (if (mn x2 3000) ≤ (x9.length : Int) then ((bellpullref02_Golomb.f k (mn x2 3000)).bind fun t374 => ((bellpullref01_Same.f k (x9.take ((mn x2 3000) : Int).toNat) t374).bind fun t377 => (bellpulllaw02_EchoSequences.j2 k x2 x11 (mn x2 3000) (!t377)))) else (none)) else (none)))
def bellpulllaw02_EchoSequences.j2 : Nat → Int → Int → Int → Bool → Option (Bool)
  | 0, _, _, _, _ => none
  | k + 1, x2, x11, x15, x142 => if x142 = true then (none) else ((bellpullref02_Kolakoski.f k 1 2 x15).bind fun t378 => (bellpulllaw02_EchoSequences.l0 k x2 x11 x15 0 t378 0))
def bellpulllaw02_EchoSequences.l0 : Nat → Int → Int → Int → Int → List Int → Int → Option (Bool)
  | 0, _, _, _, _, _, _ => none
  | k + 1, x2, x11, x15, x16, x17, x18 => if x18 < x15 then (if 0 ≤ x18 then (if x18 < (x17.length : Int) then (if (rd x17 x18) = 1 then (bellpulllaw02_EchoSequences.l0 k x2 x11 x15 (wrap64 (x16 + 1)) x17 (wrap64 (x18 + 1))) else (bellpulllaw02_EchoSequences.l0 k x2 x11 x15 x16 x17 (wrap64 (x18 + 1)))) else (none)) else (none)) else (if x2 > x15 then (some true) else (some (x11 == x16)))
end
def bellpulllaw02_EchoSequences.f (k : Nat) (a0 : Int) (a1 : Int) (a2 : Int) : Option (Bool) := (echo_Kolakoski.f k a0 a1 a2).bind fun bt335 => ((echo_Golomb.f k a2).bind fun bt339 => ((echo_Ones.f k a2).bind fun bt343 => ((bellpullref01_In.f a2 0 100000).bind fun t345 => (if t345 = true then (if a0 = a1 then (bellpulllaw02_EchoSequences.j0 k a0 a1 a2 bt335.1 bt335.2 bt339.1 bt339.2 bt343.1 bt343.2 false) else ((bellpullref01_In.f a0 1 9).bind fun t347 => (if t347 = true then ((bellpullref01_In.f a1 1 9).bind fun t348 => (bellpulllaw02_EchoSequences.j0 k a0 a1 a2 bt335.1 bt335.2 bt339.1 bt339.2 bt343.1 bt343.2 t348)) else (bellpulllaw02_EchoSequences.j0 k a0 a1 a2 bt335.1 bt335.2 bt339.1 bt339.2 bt343.1 bt343.2 false)))) else (if (wrap64 ((bt335.1.length : Int) + (bt339.1.length : Int))) = 0 then (if bt343.1 = 0 then (if bt335.2 = 1 then (if bt339.2 = 1 then (if bt343.2 = 1 then ((bellpulllaw02_lives.f k).bind fun t346 => (some t346)) else (none)) else (none)) else (none)) else (none)) else (none))))))
theorem bellpulllaw02_EchoSequences.mono_l : ∀ k, (∀ y0 y1 y2 y3 y4 y5 y6 y7 y8 y9, LeO (bellpulllaw02_EchoSequences.j0 k y0 y1 y2 y3 y4 y5 y6 y7 y8 y9) (bellpulllaw02_EchoSequences.j0 (k + 1) y0 y1 y2 y3 y4 y5 y6 y7 y8 y9)) ∧ (∀ y0 y1 y2 y3 y4 y5 y6 y7, LeO (bellpulllaw02_EchoSequences.j1 k y0 y1 y2 y3 y4 y5 y6 y7) (bellpulllaw02_EchoSequences.j1 (k + 1) y0 y1 y2 y3 y4 y5 y6 y7)) ∧ (∀ y0 y1 y2 y3, LeO (bellpulllaw02_EchoSequences.j2 k y0 y1 y2 y3) (bellpulllaw02_EchoSequences.j2 (k + 1) y0 y1 y2 y3)) ∧ (∀ y0 y1 y2 y3 y4 y5, LeO (bellpulllaw02_EchoSequences.l0 k y0 y1 y2 y3 y4 y5) (bellpulllaw02_EchoSequences.l0 (k + 1) y0 y1 y2 y3 y4 y5))
  | 0 => ⟨fun _ _ _ _ _ _ _ _ _ _ r h => by simp [bellpulllaw02_EchoSequences.j0] at h, fun _ _ _ _ _ _ _ _ r h => by simp [bellpulllaw02_EchoSequences.j1] at h, fun _ _ _ _ r h => by simp [bellpulllaw02_EchoSequences.j2] at h, fun _ _ _ _ _ _ r h => by simp [bellpulllaw02_EchoSequences.l0] at h⟩
  | k + 1 => by
    obtain ⟨ih0, ih1, ih2, ih3⟩ := bellpulllaw02_EchoSequences.mono_l k
    refine ⟨?_, ?_, ?_, ?_⟩
    · intro y0 y1 y2 y3 y4 y5 y6 y7 y8 y9
      unfold bellpulllaw02_EchoSequences.j0
      repeat' first
      | (with_reducible exact ih0 _ _ _ _ _ _ _ _ _ _)
      | (with_reducible exact ih1 _ _ _ _ _ _ _ _)
      | (with_reducible exact ih2 _ _ _ _)
      | (with_reducible exact ih3 _ _ _ _ _ _)
      | (with_reducible exact bellpulllaw02_lives.mono _)
      | (with_reducible exact bellpullref01_Same.mono _ _ _)
      | (with_reducible exact bellpullref02_Golomb.mono _ _)
      | (with_reducible exact bellpullref02_Kolakoski.mono _ _ _ _)
      | (with_reducible exact echo_Golomb.mono _ _)
      | (with_reducible exact echo_Kolakoski.mono _ _ _ _)
      | (with_reducible exact echo_Ones.mono _ _)
      | (with_reducible exact LeO.refl _)
      | (with_reducible exact LeO.none _)
      | (with_reducible refine LeO.ite ?_ ?_)
      | (with_reducible refine LeO.bind ?_ (fun _ => ?_))
      | exact ih0 _ _ _ _ _ _ _ _ _ _
      | exact ih1 _ _ _ _ _ _ _ _
      | exact ih2 _ _ _ _
      | exact ih3 _ _ _ _ _ _
      | exact bellpulllaw02_lives.mono _
      | exact bellpullref01_Same.mono _ _ _
      | exact bellpullref02_Golomb.mono _ _
      | exact bellpullref02_Kolakoski.mono _ _ _ _
      | exact echo_Golomb.mono _ _
      | exact echo_Kolakoski.mono _ _ _ _
      | exact echo_Ones.mono _ _
      | exact LeO.none _
      | refine LeO.ite ?_ ?_
      | refine LeO.bind ?_ (fun _ => ?_)
    · intro y0 y1 y2 y3 y4 y5 y6 y7
      unfold bellpulllaw02_EchoSequences.j1
      repeat' first
      | (with_reducible exact ih0 _ _ _ _ _ _ _ _ _ _)
      | (with_reducible exact ih1 _ _ _ _ _ _ _ _)
      | (with_reducible exact ih2 _ _ _ _)
      | (with_reducible exact ih3 _ _ _ _ _ _)
      | (with_reducible exact bellpulllaw02_lives.mono _)
      | (with_reducible exact bellpullref01_Same.mono _ _ _)
      | (with_reducible exact bellpullref02_Golomb.mono _ _)
      | (with_reducible exact bellpullref02_Kolakoski.mono _ _ _ _)
      | (with_reducible exact echo_Golomb.mono _ _)
      | (with_reducible exact echo_Kolakoski.mono _ _ _ _)
      | (with_reducible exact echo_Ones.mono _ _)
      | (with_reducible exact LeO.refl _)
      | (with_reducible exact LeO.none _)
      | (with_reducible refine LeO.ite ?_ ?_)
      | (with_reducible refine LeO.bind ?_ (fun _ => ?_))
      | exact ih0 _ _ _ _ _ _ _ _ _ _
      | exact ih1 _ _ _ _ _ _ _ _
      | exact ih2 _ _ _ _
      | exact ih3 _ _ _ _ _ _
      | exact bellpulllaw02_lives.mono _
      | exact bellpullref01_Same.mono _ _ _
      | exact bellpullref02_Golomb.mono _ _
      | exact bellpullref02_Kolakoski.mono _ _ _ _
      | exact echo_Golomb.mono _ _
      | exact echo_Kolakoski.mono _ _ _ _
      | exact echo_Ones.mono _ _
      | exact LeO.none _
      | refine LeO.ite ?_ ?_
      | refine LeO.bind ?_ (fun _ => ?_)
    · intro y0 y1 y2 y3
      unfold bellpulllaw02_EchoSequences.j2
      repeat' first
      | (with_reducible exact ih0 _ _ _ _ _ _ _ _ _ _)
      | (with_reducible exact ih1 _ _ _ _ _ _ _ _)
      | (with_reducible exact ih2 _ _ _ _)
      | (with_reducible exact ih3 _ _ _ _ _ _)
      | (with_reducible exact bellpulllaw02_lives.mono _)
      | (with_reducible exact bellpullref01_Same.mono _ _ _)
      | (with_reducible exact bellpullref02_Golomb.mono _ _)
      | (with_reducible exact bellpullref02_Kolakoski.mono _ _ _ _)
      | (with_reducible exact echo_Golomb.mono _ _)
      | (with_reducible exact echo_Kolakoski.mono _ _ _ _)
      | (with_reducible exact echo_Ones.mono _ _)
      | (with_reducible exact LeO.refl _)
      | (with_reducible exact LeO.none _)
      | (with_reducible refine LeO.ite ?_ ?_)
      | (with_reducible refine LeO.bind ?_ (fun _ => ?_))
      | exact ih0 _ _ _ _ _ _ _ _ _ _
      | exact ih1 _ _ _ _ _ _ _ _
      | exact ih2 _ _ _ _
      | exact ih3 _ _ _ _ _ _
      | exact bellpulllaw02_lives.mono _
      | exact bellpullref01_Same.mono _ _ _
      | exact bellpullref02_Golomb.mono _ _
      | exact bellpullref02_Kolakoski.mono _ _ _ _
      | exact echo_Golomb.mono _ _
      | exact echo_Kolakoski.mono _ _ _ _
      | exact echo_Ones.mono _ _
      | exact LeO.none _
      | refine LeO.ite ?_ ?_
      | refine LeO.bind ?_ (fun _ => ?_)
    · intro y0 y1 y2 y3 y4 y5
      unfold bellpulllaw02_EchoSequences.l0
      repeat' first
      | (with_reducible exact ih0 _ _ _ _ _ _ _ _ _ _)
      | (with_reducible exact ih1 _ _ _ _ _ _ _ _)
      | (with_reducible exact ih2 _ _ _ _)
      | (with_reducible exact ih3 _ _ _ _ _ _)
      | (with_reducible exact bellpulllaw02_lives.mono _)
      | (with_reducible exact bellpullref01_Same.mono _ _ _)
      | (with_reducible exact bellpullref02_Golomb.mono _ _)
      | (with_reducible exact bellpullref02_Kolakoski.mono _ _ _ _)
      | (with_reducible exact echo_Golomb.mono _ _)
      | (with_reducible exact echo_Kolakoski.mono _ _ _ _)
      | (with_reducible exact echo_Ones.mono _ _)
      | (with_reducible exact LeO.refl _)
      | (with_reducible exact LeO.none _)
      | (with_reducible refine LeO.ite ?_ ?_)
      | (with_reducible refine LeO.bind ?_ (fun _ => ?_))
      | exact ih0 _ _ _ _ _ _ _ _ _ _
      | exact ih1 _ _ _ _ _ _ _ _
      | exact ih2 _ _ _ _
      | exact ih3 _ _ _ _ _ _
      | exact bellpulllaw02_lives.mono _
      | exact bellpullref01_Same.mono _ _ _
      | exact bellpullref02_Golomb.mono _ _
      | exact bellpullref02_Kolakoski.mono _ _ _ _
      | exact echo_Golomb.mono _ _
      | exact echo_Kolakoski.mono _ _ _ _
      | exact echo_Ones.mono _ _
      | exact LeO.none _
      | refine LeO.ite ?_ ?_
      | refine LeO.bind ?_ (fun _ => ?_)
theorem bellpulllaw02_EchoSequences.mono : ∀ a0 a1 a2 k, LeO (bellpulllaw02_EchoSequences.f k a0 a1 a2) (bellpulllaw02_EchoSequences.f (k + 1) a0 a1 a2) := by
  intro a0 a1 a2 k
  obtain ⟨ih0, ih1, ih2, ih3⟩ := bellpulllaw02_EchoSequences.mono_l k
  unfold bellpulllaw02_EchoSequences.f
  repeat' first
      | (with_reducible exact ih0 _ _ _ _ _ _ _ _ _ _)
      | (with_reducible exact ih1 _ _ _ _ _ _ _ _)
      | (with_reducible exact ih2 _ _ _ _)
      | (with_reducible exact ih3 _ _ _ _ _ _)
      | (with_reducible exact bellpulllaw02_lives.mono _)
      | (with_reducible exact bellpullref01_Same.mono _ _ _)
      | (with_reducible exact bellpullref02_Golomb.mono _ _)
      | (with_reducible exact bellpullref02_Kolakoski.mono _ _ _ _)
      | (with_reducible exact echo_Golomb.mono _ _)
      | (with_reducible exact echo_Kolakoski.mono _ _ _ _)
      | (with_reducible exact echo_Ones.mono _ _)
      | (with_reducible exact LeO.refl _)
      | (with_reducible exact LeO.none _)
      | (with_reducible refine LeO.ite ?_ ?_)
      | (with_reducible refine LeO.bind ?_ (fun _ => ?_))
      | exact ih0 _ _ _ _ _ _ _ _ _ _
      | exact ih1 _ _ _ _ _ _ _ _
      | exact ih2 _ _ _ _
      | exact ih3 _ _ _ _ _ _
      | exact bellpulllaw02_lives.mono _
      | exact bellpullref01_Same.mono _ _ _
      | exact bellpullref02_Golomb.mono _ _
      | exact bellpullref02_Kolakoski.mono _ _ _ _
      | exact echo_Golomb.mono _ _
      | exact echo_Kolakoski.mono _ _ _ _
      | exact echo_Ones.mono _ _
      | exact LeO.none _
      | refine LeO.ite ?_ ?_
      | refine LeO.bind ?_ (fun _ => ?_)
def bellpulllaw02_EchoSequences.T11 : Bool × List (List Nat × List Nat) := (true, [([], []), ([0], [0]), ([1], [1]), ([1], [1]), ([1], [1]), ([2, 3, 4, 1], [1, 2, 3, 4]), ([1], [1]), ([1], [1]), ([1], [1]), ([6, 7, 8, 1, 1], [1, 6, 7, 8]), ([5, 9, 9, 1], [1, 5, 9]), ([10, 1], [1, 10]), ([1, 11], [1, 11]), ([12, 10], [12]), ([13], [13]), ([13], [13]), ([13], [13]), ([14, 15, 16, 13], [13, 14, 15, 16]), ([13], [13]), ([18, 13, 13], [13, 18]), ([17, 19, 19, 13], [13, 17, 19]), ([20, 13], [13, 20]), ([13, 21], [13, 21])])
def bellpulllaw02_EchoSequences.B11 : List Nat := [0, 1, 3, 3, 3, 31, 3, 3, 3, 451, 1023, 2047, 4095, 8191, 16383, 16383, 16383, 131071, 16383, 278527, 1048575, 2097151, 4194303]
theorem bellpulllaw02_EchoSequences.tab11 : rtab .any (opsOf Try.f3 11) = bellpulllaw02_EchoSequences.T11 := by kernel_rfl
theorem bellpulllaw02_EchoSequences.bits11 : waitsOk bellpulllaw02_EchoSequences.T11.2 bellpulllaw02_EchoSequences.B11 = true := by kernel_rfl
set_option maxHeartbeats 8000000 in
set_option maxRecDepth 100000 in
theorem bellpulllaw02_EchoSequences.calls (k : Nat) (a0 : Int) (a1 : Int) (a2 : Int) (r : Bool) (w : World) (h : bellpulllaw02_EchoSequences.f k a0 a1 a2 = some r) :
    Calls Try.prog 3 #[.int .i64 a0, .int .i64 a1, .int .i64 a2] w fun e w' => e = .returned (.bool r) ∧ Below w.heap.size w w' := by
  have HB := Aside0.mk (Below.refl w.heap.size w)
  have H : ((echo_Kolakoski.f k a0 a1 a2).bind fun bt335 => ((echo_Golomb.f k a2).bind fun bt339 => ((echo_Ones.f k a2).bind fun bt343 => ((bellpullref01_In.f a2 0 100000).bind fun t345 => (if t345 = true then (if a0 = a1 then (bellpulllaw02_EchoSequences.j0 k a0 a1 a2 bt335.1 bt335.2 bt339.1 bt339.2 bt343.1 bt343.2 false) else ((bellpullref01_In.f a0 1 9).bind fun t347 => (if t347 = true then ((bellpullref01_In.f a1 1 9).bind fun t348 => (bellpulllaw02_EchoSequences.j0 k a0 a1 a2 bt335.1 bt335.2 bt339.1 bt339.2 bt343.1 bt343.2 t348)) else (bellpulllaw02_EchoSequences.j0 k a0 a1 a2 bt335.1 bt335.2 bt339.1 bt339.2 bt343.1 bt343.2 false)))) else (if (wrap64 ((bt335.1.length : Int) + (bt339.1.length : Int))) = 0 then (if bt343.1 = 0 then (if bt335.2 = 1 then (if bt339.2 = 1 then (if bt343.2 = 1 then ((bellpulllaw02_lives.f k).bind fun t346 => (some t346)) else (none)) else (none)) else (none)) else (none)) else (none))))))) = some r := h
  clear h
  replace H := Option.bind_eq_some_iff.mp H
  obtain ⟨⟨t335, t338⟩, A40, H⟩ := H
  replace H : ((echo_Golomb.f k a2).bind fun bt339 => ((echo_Ones.f k a2).bind fun bt343 => ((bellpullref01_In.f a2 0 100000).bind fun t345 => (if t345 = true then (if a0 = a1 then (bellpulllaw02_EchoSequences.j0 k a0 a1 a2 t335 t338 bt339.1 bt339.2 bt343.1 bt343.2 false) else ((bellpullref01_In.f a0 1 9).bind fun t347 => (if t347 = true then ((bellpullref01_In.f a1 1 9).bind fun t348 => (bellpulllaw02_EchoSequences.j0 k a0 a1 a2 t335 t338 bt339.1 bt339.2 bt343.1 bt343.2 t348)) else (bellpulllaw02_EchoSequences.j0 k a0 a1 a2 t335 t338 bt339.1 bt339.2 bt343.1 bt343.2 false)))) else (if (wrap64 ((t335.length : Int) + (bt339.1.length : Int))) = 0 then (if bt343.1 = 0 then (if t338 = 1 then (if bt339.2 = 1 then (if bt343.2 = 1 then ((bellpulllaw02_lives.f k).bind fun t346 => (some t346)) else (none)) else (none)) else (none)) else (none)) else (none)))))) = some r := H
  have A4 := Aside0.mk A40
  clear A40
  replace H := Option.bind_eq_some_iff.mp H
  obtain ⟨⟨t339, t342⟩, A50, H⟩ := H
  replace H : ((echo_Ones.f k a2).bind fun bt343 => ((bellpullref01_In.f a2 0 100000).bind fun t345 => (if t345 = true then (if a0 = a1 then (bellpulllaw02_EchoSequences.j0 k a0 a1 a2 t335 t338 t339 t342 bt343.1 bt343.2 false) else ((bellpullref01_In.f a0 1 9).bind fun t347 => (if t347 = true then ((bellpullref01_In.f a1 1 9).bind fun t348 => (bellpulllaw02_EchoSequences.j0 k a0 a1 a2 t335 t338 t339 t342 bt343.1 bt343.2 t348)) else (bellpulllaw02_EchoSequences.j0 k a0 a1 a2 t335 t338 t339 t342 bt343.1 bt343.2 false)))) else (if (wrap64 ((t335.length : Int) + (t339.length : Int))) = 0 then (if bt343.1 = 0 then (if t338 = 1 then (if t342 = 1 then (if bt343.2 = 1 then ((bellpulllaw02_lives.f k).bind fun t346 => (some t346)) else (none)) else (none)) else (none)) else (none)) else (none))))) = some r := H
  have A5 := Aside0.mk A50
  clear A50
  replace H := Option.bind_eq_some_iff.mp H
  obtain ⟨⟨t343, t344⟩, A60, H⟩ := H
  replace H : ((bellpullref01_In.f a2 0 100000).bind fun t345 => (if t345 = true then (if a0 = a1 then (bellpulllaw02_EchoSequences.j0 k a0 a1 a2 t335 t338 t339 t342 t343 t344 false) else ((bellpullref01_In.f a0 1 9).bind fun t347 => (if t347 = true then ((bellpullref01_In.f a1 1 9).bind fun t348 => (bellpulllaw02_EchoSequences.j0 k a0 a1 a2 t335 t338 t339 t342 t343 t344 t348)) else (bellpulllaw02_EchoSequences.j0 k a0 a1 a2 t335 t338 t339 t342 t343 t344 false)))) else (if (wrap64 ((t335.length : Int) + (t339.length : Int))) = 0 then (if t343 = 0 then (if t338 = 1 then (if t342 = 1 then (if t344 = 1 then ((bellpulllaw02_lives.f k).bind fun t346 => (some t346)) else (none)) else (none)) else (none)) else (none)) else (none)))) = some r := H
  have A6 := Aside0.mk A60
  clear A60
  replace H := Option.bind_eq_some_iff.mp H
  obtain ⟨t345, A70, H⟩ := H
  replace H : (if t345 = true then (if a0 = a1 then (bellpulllaw02_EchoSequences.j0 k a0 a1 a2 t335 t338 t339 t342 t343 t344 false) else ((bellpullref01_In.f a0 1 9).bind fun t347 => (if t347 = true then ((bellpullref01_In.f a1 1 9).bind fun t348 => (bellpulllaw02_EchoSequences.j0 k a0 a1 a2 t335 t338 t339 t342 t343 t344 t348)) else (bellpulllaw02_EchoSequences.j0 k a0 a1 a2 t335 t338 t339 t342 t343 t344 false)))) else (if (wrap64 ((t335.length : Int) + (t339.length : Int))) = 0 then (if t343 = 0 then (if t338 = 1 then (if t342 = 1 then (if t344 = 1 then ((bellpulllaw02_lives.f k).bind fun t346 => (some t346)) else (none)) else (none)) else (none)) else (none)) else (none))) = some r := H
  have A7 := Aside0.mk A70
  clear A70
  by_cases c8 : t345 = true
  · subst c8
    have H1 : (if a0 = a1 then (bellpulllaw02_EchoSequences.j0 k a0 a1 a2 t335 t338 t339 t342 t343 t344 false) else ((bellpullref01_In.f a0 1 9).bind fun t347 => (if t347 = true then ((bellpullref01_In.f a1 1 9).bind fun t348 => (bellpulllaw02_EchoSequences.j0 k a0 a1 a2 t335 t338 t339 t342 t343 t344 t348)) else (bellpulllaw02_EchoSequences.j0 k a0 a1 a2 t335 t338 t339 t342 t343 t344 false)))) = some r := by rw [if_pos rfl] at H; exact H
    clear H
    have H := H1
    clear H1
    have HC9 := Aside0.mk H
    clear H
    go_enter Try.func3, Try.ntmps3
    go_upto_region 7 with (first | ((with_reducible refine gate_callee (f := 15) rfl ?_); refine goesL_ (some 23) rfl rfl Try.func15 (by kernel_rfl) rfl #[.int .i64 a0, .int .i64 a1, .int .i64 a2] rfl (by (try simp only [List.map_toArray, List.map_cons, List.map_nil]); first | done | rfl | (simp only [List.length_drop, List.length_take]; rfl)) ?_; (with_reducible refine (echo_Kolakoski.calls k a0 a1 a2 t335 t338 _ A4.out).mono ?_); rintro e w10 ⟨v336, rfl, ho0, hb⟩; refine ⟨_, rfl, ?_⟩; have n0_ := Aside0.mk (Kd.V_lower (Kd.V_mono (ok' := fun k_ => True) ho0 (fun k_ hk_ => trivial)) (below_size (by repeat (first | (with_reducible first | exact HB.out | apply below_alloc | apply pw_below_drewN | apply below_drew1) | exact HB.out)))); have n1_ := Aside0.mk (below_step (by repeat (first | (with_reducible first | exact HB.out | apply below_alloc | apply pw_below_drewN | apply below_drew1) | exact HB.out)) hb); clear HB; have HO337 := n0_; have HB := n1_; clear n0_ n1_; (try clear hb); (try clear hb2); (try clear hk); (try clear hi); (try clear ho0)) | ((with_reducible refine gate_callee (f := 16) rfl ?_); refine goesL_ (some 28) rfl rfl Try.func16 (by kernel_rfl) rfl #[.int .i64 a2] rfl (by (try simp only [List.map_toArray, List.map_cons, List.map_nil]); first | done | rfl | (simp only [List.length_drop, List.length_take]; rfl)) ?_; (with_reducible refine (echo_Golomb.calls k a2 t339 t342 _ A5.out).mono ?_); rintro e w11 ⟨v340, rfl, ho0, hb⟩; refine ⟨_, rfl, ?_⟩; have n0_ := Aside0.mk (Kd.V_below (by (with_reducible repeat (first | apply Kd.V_alloc | apply Kd.V_drewN | apply Kd.V_drew)); exact HO337.out) hb); have n1_ := Aside0.mk (Kd.V_lower (Kd.V_mono (ok' := fun k_ => True) ho0 (fun k_ hk_ => trivial)) (below_size (by repeat (first | (with_reducible first | exact HB.out | apply below_alloc | apply pw_below_drewN | apply below_drew1) | exact HB.out)))); have n2_ := Aside0.mk (below_step (by repeat (first | (with_reducible first | exact HB.out | apply below_alloc | apply pw_below_drewN | apply below_drew1) | exact HB.out)) hb); clear HO337; clear HB; have HO337 := n0_; have HO341 := n1_; have HB := n2_; clear n0_ n1_ n2_; (try clear hb); (try clear hb2); (try clear hk); (try clear hi); (try clear ho0)) | ((with_reducible refine gate_callee (f := 17) rfl ?_); refine goesL_ (some 33) rfl rfl Try.func17 (by kernel_rfl) rfl #[.int .i64 a2] rfl (by (try simp only [List.map_toArray, List.map_cons, List.map_nil]); first | done | rfl | (simp only [List.length_drop, List.length_take]; rfl)) ?_; (with_reducible refine (echo_Ones.calls k a2 t343 t344 _ A6.out).mono ?_); rintro e w12 ⟨rfl, hb⟩; refine ⟨_, rfl, ?_⟩; have n0_ := Aside0.mk (Kd.V_below (by (with_reducible repeat (first | apply Kd.V_alloc | apply Kd.V_drewN | apply Kd.V_drew)); exact HO337.out) hb); have n1_ := Aside0.mk (Kd.V_below (by (with_reducible repeat (first | apply Kd.V_alloc | apply Kd.V_drewN | apply Kd.V_drew)); exact HO341.out) hb); have n2_ := Aside0.mk (below_step (by repeat (first | (with_reducible first | exact HB.out | apply below_alloc | apply pw_below_drewN | apply below_drew1) | exact HB.out)) hb); clear HO337; clear HO341; clear HB; have HO337 := n0_; have HO341 := n1_; have HB := n2_; clear n0_ n1_ n2_; (try clear hb); (try clear hb2); (try clear hk); (try clear hi)) | ((with_reducible refine gate_callee (f := 18) rfl ?_); refine goesL_ (some 37) rfl rfl Try.func18 (by kernel_rfl) rfl #[.int .i64 a2, .int .i64 0, .int .i64 100000] rfl (by (try simp only [List.map_toArray, List.map_cons, List.map_nil]); first | done | rfl | (simp only [List.length_drop, List.length_take]; rfl)) ?_; (with_reducible refine (bellpullref01_In.calls a2 0 100000 true _ A7.out).mono ?_); rintro e w' ⟨rfl, ⟨nd, rfl⟩⟩; refine ⟨_, rfl, ?_⟩))
    (try simp only [Act.put, List.setIfInBounds_toArray, List.set_cons_zero, List.set_cons_succ])
    go_cut [14] (fun v14 wc => ∃ (kq : Nat) (x14_8 : Bool), v14 = .bool x14_8 ∧ Aside0 (bellpulllaw02_EchoSequences.j0 kq a0 a1 a2 t335 t338 t339 t342 t343 t344 x14_8 = some r) ∧ Aside0 (kq ≤ k) ∧ Aside0 (Kd.V (Kd.int .i64) 3 wc w.heap.size (fun _ => True) v336 t335) ∧ Aside0 (Kd.V (Kd.int .i64) 3 wc w.heap.size (fun _ => True) v340 t339) ∧ Aside0 (Below w.heap.size w wc))
    case first =>
      have H := HC9.out
      clear HC9
      by_cases c13 : a0 = a1
      · rw [if_pos c13] at H
        have c13b0 : (a0 == a1) = true := beq_iff_eq.mpr c13
        have c13b1 : (a0 != a1) = false := bne_eq_false_iff_eq.mpr c13
        clear c13
        (first | rw [c13b0] | (simp only [i64_w, i32_w]; rw [c13b0]) | skip)
        have H' := Aside0.mk H
        clear H
        go_wp2
        go_meet
        case rel => exact ⟨_, (false), (by first | rfl | (simp; done) | (simp [*]; done)), H', ⟨by first | omega | exact Nat.le_refl _⟩, ⟨by (with_reducible repeat (first | apply Kd.V_alloc | apply Kd.V_drewN | apply Kd.V_drew)); exact HO337.out⟩, ⟨by (with_reducible repeat (first | apply Kd.V_alloc | apply Kd.V_drewN | apply Kd.V_drew)); exact HO341.out⟩, ⟨by repeat (first | (with_reducible first | exact HB.out | apply below_alloc | apply pw_below_drewN | apply below_drew1) | exact HB.out)⟩⟩
      · rw [if_neg c13] at H
        have c13b0 : (a0 == a1) = false := beq_eq_false_iff_ne.mpr c13
        have c13b1 : (a0 != a1) = true := bne_iff_ne.mpr c13
        (first | rw [c13b0] | (simp only [i64_w, i32_w]; rw [c13b0]) | skip)
        replace H := Option.bind_eq_some_iff.mp H
        obtain ⟨t347, A140, H⟩ := H
        replace H : (if t347 = true then ((bellpullref01_In.f a1 1 9).bind fun t348 => (bellpulllaw02_EchoSequences.j0 k a0 a1 a2 t335 t338 t339 t342 t343 t344 t348)) else (bellpulllaw02_EchoSequences.j0 k a0 a1 a2 t335 t338 t339 t342 t343 t344 false)) = some r := H
        have A14 := Aside0.mk A140
        clear A140
        by_cases c15 : t347 = true
        · subst c15
          have H1 : ((bellpullref01_In.f a1 1 9).bind fun t348 => (bellpulllaw02_EchoSequences.j0 k a0 a1 a2 t335 t338 t339 t342 t343 t344 t348)) = some r := by rw [if_pos rfl] at H; exact H
          clear H
          have H := H1
          clear H1
          replace H := Option.bind_eq_some_iff.mp H
          obtain ⟨t348, A160, H⟩ := H
          replace H : (bellpulllaw02_EchoSequences.j0 k a0 a1 a2 t335 t338 t339 t342 t343 t344 t348) = some r := H
          have A16 := Aside0.mk A160
          clear A160
          have H' := Aside0.mk H
          clear H
          go_wp2_with (first | (go_at_call 18; (with_reducible refine (bellpullref01_In.calls a0 1 9 true _ A14.out).mono ?_); rintro e w' ⟨rfl, ⟨nd, rfl⟩⟩) | (go_at_call 18; (with_reducible refine (bellpullref01_In.calls a1 1 9 t348 _ A16.out).mono ?_); rintro e w' ⟨rfl, ⟨nd, rfl⟩⟩))
          go_meet
          case rel => exact ⟨_, (t348), (by first | rfl | (simp; done) | (simp [*]; done)), H', ⟨by first | omega | exact Nat.le_refl _⟩, ⟨by (with_reducible repeat (first | apply Kd.V_alloc | apply Kd.V_drewN | apply Kd.V_drew)); exact HO337.out⟩, ⟨by (with_reducible repeat (first | apply Kd.V_alloc | apply Kd.V_drewN | apply Kd.V_drew)); exact HO341.out⟩, ⟨by repeat (first | (with_reducible first | exact HB.out | apply below_alloc | apply pw_below_drewN | apply below_drew1) | exact HB.out)⟩⟩
        · replace c15 := Bool.eq_false_iff.mpr c15
          subst c15
          have H1 : (bellpulllaw02_EchoSequences.j0 k a0 a1 a2 t335 t338 t339 t342 t343 t344 false) = some r := by rw [if_neg (show ¬ (false = true) by decide)] at H; exact H
          clear H
          have H := H1
          clear H1
          have H' := Aside0.mk H
          clear H
          go_wp2_with (first | (go_at_call 18; (with_reducible refine (bellpullref01_In.calls a0 1 9 false _ A14.out).mono ?_); rintro e w' ⟨rfl, ⟨nd, rfl⟩⟩))
          go_meet
          case rel => exact ⟨_, (false), (by first | rfl | (simp; done) | (simp [*]; done)), H', ⟨by first | omega | exact Nat.le_refl _⟩, ⟨by (with_reducible repeat (first | apply Kd.V_alloc | apply Kd.V_drewN | apply Kd.V_drew)); exact HO337.out⟩, ⟨by (with_reducible repeat (first | apply Kd.V_alloc | apply Kd.V_drewN | apply Kd.V_drew)); exact HO341.out⟩, ⟨by repeat (first | (with_reducible first | exact HB.out | apply below_alloc | apply pw_below_drewN | apply below_drew1) | exact HB.out)⟩⟩
    case rest =>
      clear HC9
      try clear c1
      try clear p2
      try clear c3
      try clear p6
      try clear c8
      try clear c13
      try clear c13b0
      try clear c13b1
      try clear c15
      try clear c16
      obtain ⟨kq, x14_8, rfl, HA, HJ8, HO_7, HO_9, HB⟩ := hcut
      cases kq with
      | zero => exact absurd HA.out (by simp [bellpulllaw02_EchoSequences.j0])
      | succ kj8 =>
        have H := HA.out
        clear HA
        simp only [bellpulllaw02_EchoSequences.j0] at H
        have HC17 := Aside0.mk H
        clear H
        go_upto_region 8 with (fail)
        go_cut [117] (fun v117 wc => ∃ (kq : Nat) (x117_16 : Bool), v117 = .bool x117_16 ∧ Aside0 (bellpulllaw02_EchoSequences.j1 kq a0 a1 a2 t335 t339 t343 x14_8 x117_16 = some r) ∧ Aside0 (kq ≤ kj8) ∧ Aside0 (Kd.V (Kd.int .i64) 3 wc w.heap.size (fun _ => True) v336 t335) ∧ Aside0 (Kd.V (Kd.int .i64) 3 wc w.heap.size (fun _ => True) v340 t339) ∧ Aside0 (Below w.heap.size w wc))
        case first =>
          have H := HC17.out
          clear HC17
          by_cases c18 : t342 = 0
          · rw [if_pos c18] at H
            have c18b0 : (t342 == 0) = true := beq_iff_eq.mpr c18
            have c18b1 : (t342 != 0) = false := bne_eq_false_iff_eq.mpr c18
            clear c18
            (first | rw [c18b0] | (simp only [i64_w, i32_w]; rw [c18b0]) | skip)
            by_cases c19 : t344 = 0
            · rw [if_pos c19] at H
              have c19b0 : (t344 == 0) = true := beq_iff_eq.mpr c19
              have c19b1 : (t344 != 0) = false := bne_eq_false_iff_eq.mpr c19
              clear c19
              by_cases c20 : (t339.length : Int) = a2
              · rw [if_pos c20] at H
                have c20b0 : ((t339.length : Int) == a2) = true := beq_iff_eq.mpr c20
                have c20b1 : ((t339.length : Int) != a2) = false := bne_eq_false_iff_eq.mpr c20
                clear c20
                by_cases c21 : x14_8 = true
                · subst c21
                  have H1 : (if t338 = 0 then (if (t335.length : Int) = a2 then ((bellpulllaw02_lives.f kj8).bind fun t349 => (bellpulllaw02_EchoSequences.j1 kj8 a0 a1 a2 t335 t339 t343 true (!t349))) else (none)) else (none)) = some r := by rw [if_pos rfl] at H; exact H
                  clear H
                  have H := H1
                  clear H1
                  by_cases c22 : t338 = 0
                  · rw [if_pos c22] at H
                    have c22b0 : (t338 == 0) = true := beq_iff_eq.mpr c22
                    have c22b1 : (t338 != 0) = false := bne_eq_false_iff_eq.mpr c22
                    clear c22
                    by_cases c23 : (t335.length : Int) = a2
                    · rw [if_pos c23] at H
                      have c23b0 : ((t335.length : Int) == a2) = true := beq_iff_eq.mpr c23
                      have c23b1 : ((t335.length : Int) != a2) = false := bne_eq_false_iff_eq.mpr c23
                      clear c23
                      replace H := Option.bind_eq_some_iff.mp H
                      obtain ⟨t349, A240, H⟩ := H
                      replace H : (bellpulllaw02_EchoSequences.j1 kj8 a0 a1 a2 t335 t339 t343 true (!t349)) = some r := H
                      have A24 := Aside0.mk A240
                      clear A240
                      have H' := Aside0.mk H
                      clear H
                      obtain ⟨Ao25, co25, eo25⟩ := Kd.V_slice HO_9.out
                      subst eo25
                      obtain ⟨Ao26, co26, eo26⟩ := Kd.V_slice HO_7.out
                      subst eo26
                      go_wp2_with (first | (go_at_call 19; (with_reducible refine (bellpulllaw02_lives.calls kj8  t349 _ A24.out).mono ?_); rintro e w27 ⟨rfl, hb⟩; have n0_ := Aside0.mk (Kd.V_below (by (with_reducible repeat (first | apply Kd.V_alloc | apply Kd.V_drewN | apply Kd.V_drew)); exact HO_7.out) hb); have n1_ := Aside0.mk (Kd.V_below (by (with_reducible repeat (first | apply Kd.V_alloc | apply Kd.V_drewN | apply Kd.V_drew)); exact HO_9.out) hb); have n2_ := Aside0.mk (below_step (by repeat (first | (with_reducible first | exact HB.out | apply below_alloc | apply pw_below_drewN | apply below_drew1) | exact HB.out)) hb); clear HO_7; clear HO_9; clear HB; have HO_7 := n0_; have HO_9 := n1_; have HB := n2_; clear n0_ n1_ n2_; (try clear hb); (try clear hb2); (try clear hk); (try clear hi)))
                      go_meet
                      case rel => exact ⟨_, (!t349), (by first | rfl | (simp; done) | (simp [*]; done)), H', ⟨by have := HJ8.out; first | omega | exact Nat.le_refl _⟩, ⟨by (with_reducible repeat (first | apply Kd.V_alloc | apply Kd.V_drewN | apply Kd.V_drew)); exact HO_7.out⟩, ⟨by (with_reducible repeat (first | apply Kd.V_alloc | apply Kd.V_drewN | apply Kd.V_drew)); exact HO_9.out⟩, ⟨by repeat (first | (with_reducible first | exact HB.out | apply below_alloc | apply pw_below_drewN | apply below_drew1) | exact HB.out)⟩⟩
                    · rw [if_neg c23] at H
                      exact absurd H (by simp)
                  · rw [if_neg c22] at H
                    exact absurd H (by simp)
                · replace c21 := Bool.eq_false_iff.mpr c21
                  subst c21
                  have H1 : (if t338 = 1 then (if (t335.length : Int) = 0 then ((bellpulllaw02_lives.f kj8).bind fun t350 => (bellpulllaw02_EchoSequences.j1 kj8 a0 a1 a2 t335 t339 t343 false (!t350))) else (none)) else (none)) = some r := by rw [if_neg (show ¬ (false = true) by decide)] at H; exact H
                  clear H
                  have H := H1
                  clear H1
                  by_cases c28 : t338 = 1
                  · rw [if_pos c28] at H
                    have c28b0 : (t338 == 1) = true := beq_iff_eq.mpr c28
                    have c28b1 : (t338 != 1) = false := bne_eq_false_iff_eq.mpr c28
                    clear c28
                    by_cases c29 : (t335.length : Int) = 0
                    · rw [if_pos c29] at H
                      have c29b0 : ((t335.length : Int) == 0) = true := beq_iff_eq.mpr c29
                      have c29b1 : ((t335.length : Int) != 0) = false := bne_eq_false_iff_eq.mpr c29
                      clear c29
                      replace H := Option.bind_eq_some_iff.mp H
                      obtain ⟨t350, A300, H⟩ := H
                      replace H : (bellpulllaw02_EchoSequences.j1 kj8 a0 a1 a2 t335 t339 t343 false (!t350)) = some r := H
                      have A30 := Aside0.mk A300
                      clear A300
                      have H' := Aside0.mk H
                      clear H
                      obtain ⟨Ao31, co31, eo31⟩ := Kd.V_slice HO_9.out
                      subst eo31
                      obtain ⟨Ao32, co32, eo32⟩ := Kd.V_slice HO_7.out
                      subst eo32
                      go_wp2_with (first | (go_at_call 19; (with_reducible refine (bellpulllaw02_lives.calls kj8  t350 _ A30.out).mono ?_); rintro e w33 ⟨rfl, hb⟩; have n0_ := Aside0.mk (Kd.V_below (by (with_reducible repeat (first | apply Kd.V_alloc | apply Kd.V_drewN | apply Kd.V_drew)); exact HO_7.out) hb); have n1_ := Aside0.mk (Kd.V_below (by (with_reducible repeat (first | apply Kd.V_alloc | apply Kd.V_drewN | apply Kd.V_drew)); exact HO_9.out) hb); have n2_ := Aside0.mk (below_step (by repeat (first | (with_reducible first | exact HB.out | apply below_alloc | apply pw_below_drewN | apply below_drew1) | exact HB.out)) hb); clear HO_7; clear HO_9; clear HB; have HO_7 := n0_; have HO_9 := n1_; have HB := n2_; clear n0_ n1_ n2_; (try clear hb); (try clear hb2); (try clear hk); (try clear hi)))
                      go_meet
                      case rel => exact ⟨_, (!t350), (by first | rfl | (simp; done) | (simp [*]; done)), H', ⟨by have := HJ8.out; first | omega | exact Nat.le_refl _⟩, ⟨by (with_reducible repeat (first | apply Kd.V_alloc | apply Kd.V_drewN | apply Kd.V_drew)); exact HO_7.out⟩, ⟨by (with_reducible repeat (first | apply Kd.V_alloc | apply Kd.V_drewN | apply Kd.V_drew)); exact HO_9.out⟩, ⟨by repeat (first | (with_reducible first | exact HB.out | apply below_alloc | apply pw_below_drewN | apply below_drew1) | exact HB.out)⟩⟩
                    · rw [if_neg c29] at H
                      exact absurd H (by simp)
                  · rw [if_neg c28] at H
                    exact absurd H (by simp)
              · rw [if_neg c20] at H
                exact absurd H (by simp)
            · rw [if_neg c19] at H
              exact absurd H (by simp)
          · rw [if_neg c18] at H
            exact absurd H (by simp)
        case rest =>
          clear HC17
          try clear c1
          try clear c2
          try clear p2
          try clear c3
          try clear p6
          try clear c8
          try clear c13
          try clear c13b0
          try clear c13b1
          try clear c15
          try clear c16
          try clear c17
          try clear c18
          try clear c18b0
          try clear c18b1
          try clear c19
          try clear c19b0
          try clear c19b1
          try clear c20
          try clear c20b0
          try clear c20b1
          try clear c21
          try clear c22
          try clear c22b0
          try clear c22b1
          try clear c23
          try clear c23b0
          try clear c23b1
          try clear c28
          try clear c28b0
          try clear c28b1
          try clear c29
          try clear c29b0
          try clear c29b1
          try clear p2
          try clear p6
          obtain ⟨kq, x117_16, rfl, HA, HJ16, HO_7, HO_9, HB⟩ := hcut
          cases kq with
          | zero => exact absurd HA.out (by simp [bellpulllaw02_EchoSequences.j1])
          | succ kj16 =>
            have H := HA.out
            clear HA
            simp only [bellpulllaw02_EchoSequences.j1] at H
            by_cases c34 : x117_16 = true
            · subst c34
              have H1 : (none) = some r := by rw [if_pos rfl] at H; exact H
              clear H
              have H := H1
              clear H1
              exact absurd H (by simp)
            · replace c34 := Bool.eq_false_iff.mpr c34
              subst c34
              have H1 : (if x14_8 = true then (if 0 ≤ (mn a2 3000) then (if (mn a2 3000) ≤ (t335.length : Int) then ((bellpullref02_Kolakoski.f kj16 a0 a1 (mn a2 3000)).bind fun t356 => ((bellpullref01_Same.f kj16 (t335.take ((mn a2 3000) : Int).toNat) t356).bind fun t359 => (if t359 = true then (if (mn a2 3000) ≤ (t339.length : Int) then ((bellpullref02_Golomb.f kj16 (mn a2 3000)).bind fun t365 => ((bellpullref01_Same.f kj16 (t339.take ((mn a2 3000) : Int).toNat) t365).bind fun t368 => (bellpulllaw02_EchoSequences.j2 kj16 a2 t343 (mn a2 3000) (!t368)))) else (none)) else (none)))) else (none)) else (none)) else (if 0 ≤ (mn a2 3000) then (if (mn a2 3000) ≤ (t339.length : Int) then ((bellpullref02_Golomb.f kj16 (mn a2 3000)).bind fun t374 => ((bellpullref01_Same.f kj16 (t339.take ((mn a2 3000) : Int).toNat) t374).bind fun t377 => (bellpulllaw02_EchoSequences.j2 kj16 a2 t343 (mn a2 3000) (!t377)))) else (none)) else (none))) = some r := by rw [if_neg (show ¬ (false = true) by decide)] at H; exact H
              clear H
              have H := H1
              clear H1
              obtain ⟨ji35, hji35⟩ : ∃ j_ : Int, (mn a2 3000) = j_ := ⟨_, rfl⟩
              replace H : (if x14_8 = true then (if 0 ≤ (ji35) then (if (ji35) ≤ (t335.length : Int) then ((bellpullref02_Kolakoski.f kj16 a0 a1 (ji35)).bind fun t356 => ((bellpullref01_Same.f kj16 (t335.take ((ji35) : Int).toNat) t356).bind fun t359 => (if t359 = true then (if (ji35) ≤ (t339.length : Int) then ((bellpullref02_Golomb.f kj16 (ji35)).bind fun t365 => ((bellpullref01_Same.f kj16 (t339.take ((ji35) : Int).toNat) t365).bind fun t368 => (bellpulllaw02_EchoSequences.j2 kj16 a2 t343 ji35 (!t368)))) else (none)) else (none)))) else (none)) else (none)) else (if 0 ≤ (ji35) then (if (ji35) ≤ (t339.length : Int) then ((bellpullref02_Golomb.f kj16 (ji35)).bind fun t374 => ((bellpullref01_Same.f kj16 (t339.take ((ji35) : Int).toNat) t374).bind fun t377 => (bellpulllaw02_EchoSequences.j2 kj16 a2 t343 ji35 (!t377)))) else (none)) else (none))) = some r := by first | (rw [hji35] at H; exact H) | (simp only [hji35] at H ⊢; exact H)
              have hji35_ : (if 3000 < a2 then 3000 else a2) = ji35 := hji35
              have HC36 := Aside0.mk H
              clear H
              go_upto_region 11 with (fail)
              go_cut [142] (fun v142 wc => ∃ (kq : Nat) (x142_35 : Bool), v142 = .bool x142_35 ∧ Aside0 (bellpulllaw02_EchoSequences.j2 kq a2 t343 ji35 x142_35 = some r) ∧ Aside0 (kq ≤ kj16) ∧ Aside0 (Below w.heap.size w wc))
              case first =>
                have H := HC36.out
                clear HC36
                by_cases c37 : x14_8 = true
                · subst c37
                  have H1 : (if 0 ≤ (ji35) then (if (ji35) ≤ (t335.length : Int) then ((bellpullref02_Kolakoski.f kj16 a0 a1 (ji35)).bind fun t356 => ((bellpullref01_Same.f kj16 (t335.take ((ji35) : Int).toNat) t356).bind fun t359 => (if t359 = true then (if (ji35) ≤ (t339.length : Int) then ((bellpullref02_Golomb.f kj16 (ji35)).bind fun t365 => ((bellpullref01_Same.f kj16 (t339.take ((ji35) : Int).toNat) t365).bind fun t368 => (bellpulllaw02_EchoSequences.j2 kj16 a2 t343 ji35 (!t368)))) else (none)) else (none)))) else (none)) else (none)) = some r := by rw [if_pos rfl] at H; exact H
                  clear H
                  have H := H1
                  clear H1
                  by_cases c38 : 0 ≤ (ji35)
                  · rw [if_pos c38] at H
                    have c38b0 := eq_true c38
                    have c38b1 : decide (0 ≤ (ji35)) = true := decide_eq_true c38
                    clear c38
                    by_cases c39 : (ji35) ≤ (t335.length : Int)
                    · rw [if_pos c39] at H
                      have c39b0 := eq_true c39
                      have c39b1 : decide ((ji35) ≤ (t335.length : Int)) = true := decide_eq_true c39
                      clear c39
                      obtain ⟨y351, hy351⟩ : ∃ y_ : List Int, y_ = (t335.take ((ji35) : Int).toNat) := ⟨_, rfl⟩
                      replace H : ((bellpullref02_Kolakoski.f kj16 a0 a1 (ji35)).bind fun t356 => ((bellpullref01_Same.f kj16 y351 t356).bind fun t359 => (if t359 = true then (if (ji35) ≤ (t339.length : Int) then ((bellpullref02_Golomb.f kj16 (ji35)).bind fun t365 => ((bellpullref01_Same.f kj16 (t339.take ((ji35) : Int).toNat) t365).bind fun t368 => (bellpulllaw02_EchoSequences.j2 kj16 a2 t343 ji35 (!t368)))) else (none)) else (none)))) = some r := by first | (rw [hy351]; with_reducible exact H) | (have H2_ := (Option.bind_some _ _).symm.trans H; rw [hy351]; with_reducible exact H2_) | (have H2_ := (Option.bind_some _ _).symm.trans H; with_reducible exact H2_) | with_reducible exact H | (rw [hy351]; exact H) | exact H
                      have Ny351 := Aside0.mk hy351
                      clear hy351
                      replace H := Option.bind_eq_some_iff.mp H
                      obtain ⟨t356, A400, H⟩ := H
                      replace H : ((bellpullref01_Same.f kj16 y351 t356).bind fun t359 => (if t359 = true then (if (ji35) ≤ (t339.length : Int) then ((bellpullref02_Golomb.f kj16 (ji35)).bind fun t365 => ((bellpullref01_Same.f kj16 (t339.take ((ji35) : Int).toNat) t365).bind fun t368 => (bellpulllaw02_EchoSequences.j2 kj16 a2 t343 ji35 (!t368)))) else (none)) else (none))) = some r := H
                      have A40 := Aside0.mk A400
                      clear A400
                      replace H := Option.bind_eq_some_iff.mp H
                      obtain ⟨t359, A410, H⟩ := H
                      replace H : (if t359 = true then (if (ji35) ≤ (t339.length : Int) then ((bellpullref02_Golomb.f kj16 (ji35)).bind fun t365 => ((bellpullref01_Same.f kj16 (t339.take ((ji35) : Int).toNat) t365).bind fun t368 => (bellpulllaw02_EchoSequences.j2 kj16 a2 t343 ji35 (!t368)))) else (none)) else (none)) = some r := H
                      have A41 := Aside0.mk A410
                      clear A410
                      by_cases c42 : t359 = true
                      · subst c42
                        have H1 : (if (ji35) ≤ (t339.length : Int) then ((bellpullref02_Golomb.f kj16 (ji35)).bind fun t365 => ((bellpullref01_Same.f kj16 (t339.take ((ji35) : Int).toNat) t365).bind fun t368 => (bellpulllaw02_EchoSequences.j2 kj16 a2 t343 ji35 (!t368)))) else (none)) = some r := by rw [if_pos rfl] at H; exact H
                        clear H
                        have H := H1
                        clear H1
                        have c43b0 := eq_true (of_decide_eq_true (by first | (with_reducible assumption) | assumption) : 0 ≤ (ji35))
                        by_cases c44 : (ji35) ≤ (t339.length : Int)
                        · rw [if_pos c44] at H
                          have c44b0 := eq_true c44
                          have c44b1 : decide ((ji35) ≤ (t339.length : Int)) = true := decide_eq_true c44
                          clear c44
                          obtain ⟨y360, hy360⟩ : ∃ y_ : List Int, y_ = (t339.take ((ji35) : Int).toNat) := ⟨_, rfl⟩
                          replace H : ((bellpullref02_Golomb.f kj16 (ji35)).bind fun t365 => ((bellpullref01_Same.f kj16 y360 t365).bind fun t368 => (bellpulllaw02_EchoSequences.j2 kj16 a2 t343 ji35 (!t368)))) = some r := by first | (rw [hy360]; with_reducible exact H) | (have H2_ := (Option.bind_some _ _).symm.trans H; rw [hy360]; with_reducible exact H2_) | (have H2_ := (Option.bind_some _ _).symm.trans H; with_reducible exact H2_) | with_reducible exact H | (rw [hy360]; exact H) | exact H
                          have Ny360 := Aside0.mk hy360
                          clear hy360
                          replace H := Option.bind_eq_some_iff.mp H
                          obtain ⟨t365, A450, H⟩ := H
                          replace H : ((bellpullref01_Same.f kj16 y360 t365).bind fun t368 => (bellpulllaw02_EchoSequences.j2 kj16 a2 t343 ji35 (!t368))) = some r := H
                          have A45 := Aside0.mk A450
                          clear A450
                          replace H := Option.bind_eq_some_iff.mp H
                          obtain ⟨t368, A460, H⟩ := H
                          replace H : (bellpulllaw02_EchoSequences.j2 kj16 a2 t343 ji35 (!t368)) = some r := H
                          have A46 := Aside0.mk A460
                          clear A460
                          have H' := Aside0.mk H
                          clear H
                          try go_wp2
                          have n0_ := Aside0.mk (Kd.V_drew HO_7.out)
                          have n1_ := Aside0.mk (Kd.V_drew HO_9.out)
                          have n2_ := Aside0.mk (below_drew1 HB.out)
                          clear HO_7
                          clear HO_9
                          clear HB
                          have HO_7 := n0_
                          have HO_9 := n1_
                          have HB := n2_
                          clear n0_ n1_ n2_
                          obtain ⟨Ao49, co49, eo49⟩ := Kd.V_slice HO_7.out
                          (first | subst eo49 | (injection eo49 with f1_ f2_ f3_; have f4_ := f1_.symm; have f5_ := f3_.symm; clear f1_ f2_ f3_; subst f4_; subst f5_))
                          have q48 : ((ji35) : Int) ≤ ((t335.length : Int) : Int) := of_decide_eq_true (by first | (with_reducible assumption) | assumption)
                          obtain ⟨i048, hi048, _, hsz48, _⟩ := info_parts info3
                          have hroom48 : t335.length ≤ co49 := (Kd.V_reads' HO_7.out).2.1
                          have hC48 : Kd.F (Kd.int .i64) _ _ Ao49 t335.length t335 := (Kd.V_at (base := w.heap.size) HO_7.out).2.2
                          have hcut48 := Go.Proofs.MyWords.cut_to_m (P := Try.prog) 22 3 .i64 .i64 Try.underlying22 hi048 Ao49 t335.length co49 (ji35) (of_decide_eq_true (by first | (with_reducible assumption) | assumption)) q48 hroom48
                          have hr48 := Kd.F_take (m := ((ji35) : Int).toNat) hC48 (by omega)
                          have hy48 : y351.length = ((ji35) : Int).toNat := (by rw [Ny351.out, List.length_take]; omega)
                          rw [← Ny351.out] at hr48
                          rw [← hy48] at hcut48
                          have HO355 := Aside0.mk (show Kd.V (Kd.int .i64) 3 _ w.heap.size _ (.slice Ao49 y351.length y351.length) y351 from Kd.V_mk (Nat.le_refl _) hr48)
                          have HC355 := Aside0.mk (show y351.length ≤ y351.length from Nat.le_refl _)
                          clear hr48 hC48 hroom48 hi048 hsz48
                          have KY48 := Aside0.mk hy48
                          clear hy48
                          replace q48 := eq_true q48
                          refine start_ (n := 23) (S := fun w' => True) (ds := []) #[false, false, false, false, false, false, false, false, false, false, false, false, false, false, false, false, false, false, false, false, false, false, false] (by kernel_rfl) rfl rfl trivial (fun hHeld => ?_); refine with_tabW bellpulllaw02_EchoSequences.tab11 bellpulllaw02_EchoSequences.bits11 (fun HT_ HW_ => ?_)
                          generalize wc.drew = w47 at HO_7 HO_9 HB HO355 hHeld ⊢
                          refine pure_ (i := 0) (N := some 120) (v := ?_) (a' := ?_) #[true, false, false, false, false, false, false, false, false, false, false, false, false, false, false, false, false, false, false, false, false, false, false] rfl rfl (any_of HT_.out (by kernel_rfl)) (fun _ _ _ h => h) (Or.inl ⟨by rfl, ?_⟩) ?_ ?_
                          rotate_left
                          · intro w'
                            go_simp
                            with_reducible rfl
                          rotate_left
                          · simp only [Act.put, List.setIfInBounds_toArray, List.set_cons_zero, List.set_cons_succ, i64_w, i32_w]
                            rfl
                          refine pure_ (i := 1) (N := some 121) (v := ?_) (a' := ?_) #[true, true, false, false, false, false, false, false, false, false, false, false, false, false, false, false, false, false, false, false, false, false, false] rfl rfl (any_of HT_.out (by kernel_rfl)) (fun _ _ _ h => h) (Or.inl ⟨by rfl, ?_⟩) ?_ ?_
                          rotate_left
                          · intro w'
                            go_simp
                            with_reducible rfl
                          rotate_left
                          · simp only [Act.put, List.setIfInBounds_toArray, List.set_cons_zero, List.set_cons_succ, i64_w, i32_w]
                            rfl
                          refine pure_ (i := 2) (N := some 122) (v := ?_) (a' := ?_) #[true, true, true, false, false, false, false, false, false, false, false, false, false, false, false, false, false, false, false, false, false, false, false] rfl rfl (any_of HT_.out (by kernel_rfl)) (fun _ _ _ h => h) (Or.inl ⟨by rfl, ?_⟩) ?_ ?_
                          rotate_left
                          · intro w'
                            go_simp
                            with_reducible rfl
                          rotate_left
                          · simp only [Act.put, List.setIfInBounds_toArray, List.set_cons_zero, List.set_cons_succ, i64_w, i32_w]
                            rfl
                          refine pure_ (i := 3) (N := some 123) (v := ?_) (a' := ?_) #[true, true, true, true, false, false, false, false, false, false, false, false, false, false, false, false, false, false, false, false, false, false, false] rfl rfl (any_of HT_.out (by kernel_rfl)) (fun _ _ _ h => h) (Or.inl ⟨by rfl, ?_⟩) ?_ ?_
                          rotate_left
                          · intro w'
                            go_simp
                            with_reducible rfl
                          rotate_left
                          · simp only [Act.put, List.setIfInBounds_toArray, List.set_cons_zero, List.set_cons_succ, i64_w, i32_w]
                            rfl
                          refine pure_ (i := 4) (N := some 124) (v := ?_) (a' := ?_) #[true, true, true, true, true, false, false, false, false, false, false, false, false, false, false, false, false, false, false, false, false, false, false] rfl rfl (any_of HT_.out (by kernel_rfl)) (fun _ _ _ h => h) (Or.inl ⟨by rfl, ?_⟩) ?_ ?_
                          rotate_left
                          · intro w'
                            go_simp
                            with_reducible rfl
                          rotate_left
                          · simp only [Act.put, List.setIfInBounds_toArray, List.set_cons_zero, List.set_cons_succ, i64_w, i32_w]
                            rfl
                          refine pure_ (i := 5) (N := some 125) (v := ?_) (a' := ?_) #[true, true, true, true, true, true, false, false, false, false, false, false, false, false, false, false, false, false, false, false, false, false, false] rfl rfl (any_of HT_.out (by kernel_rfl)) (fun _ _ _ h => h) (Or.inl ⟨by rfl, ?_⟩) ?_ ?_
                          rotate_left
                          · intro w'
                            go_simp
                            with_reducible rfl
                          rotate_left
                          · simp only [Act.put, List.setIfInBounds_toArray, List.set_cons_zero, List.set_cons_succ, i64_w, i32_w]
                            rfl
                          refine pure_ (i := 6) (N := some 126) (v := ?_) (a' := ?_) #[true, true, true, true, true, true, true, false, false, false, false, false, false, false, false, false, false, false, false, false, false, false, false] rfl rfl (any_of HT_.out (by kernel_rfl)) (fun _ _ _ h => h) (Or.inl ⟨by rfl, ?_⟩) ?_ ?_
                          rotate_left
                          · intro w'
                            go_simp
                            with_reducible rfl
                          rotate_left
                          · simp only [Act.put, List.setIfInBounds_toArray, List.set_cons_zero, List.set_cons_succ, i64_w, i32_w]
                            rfl
                          refine pure_ (i := 7) (N := some 127) (v := ?_) (a' := ?_) #[true, true, true, true, true, true, true, true, false, false, false, false, false, false, false, false, false, false, false, false, false, false, false] rfl rfl (any_of HT_.out (by kernel_rfl)) (fun _ _ _ h => h) (Or.inl ⟨by rfl, ?_⟩) ?_ ?_
                          rotate_left
                          · intro w'
                            go_simp
                            with_reducible rfl
                          rotate_left
                          · simp only [Act.put, List.setIfInBounds_toArray, List.set_cons_zero, List.set_cons_succ, i64_w, i32_w]
                            rfl
                          refine pure_ (i := 8) (N := some 128) (v := ?_) (a' := ?_) #[true, true, true, true, true, true, true, true, true, false, false, false, false, false, false, false, false, false, false, false, false, false, false] rfl rfl (any_of HT_.out (by kernel_rfl)) (fun _ _ _ h => h) (Or.inl ⟨by rfl, ?_⟩) ?_ ?_
                          rotate_left
                          · intro w'
                            go_simp
                            with_reducible rfl
                          rotate_left
                          · simp only [Act.put, List.setIfInBounds_toArray, List.set_cons_zero, List.set_cons_succ, i64_w, i32_w]
                            rfl
                          refine one_ (i := 9) (N := some 129) #[true, true, true, true, true, true, true, true, true, true, false, false, false, false, false, false, false, false, false, false, false, false, false] rfl rfl (one_of HT_.out (by kernel_rfl)) (by decide) (fun K hK => ?_)
                          refine goes_ Try.func21 (by kernel_rfl) rfl #[.int .i64 a0, .int .i64 a1, .int .i64 ji35] (by rfl) rfl rfl (by (try simp only [List.map_toArray, List.map_cons, List.map_nil]); first | done | (simp only [hji35]; rfl) | rfl | (simp only [List.length_drop, List.length_take]; rfl)) ?_
                          with_reducible refine (bellpullref02_Kolakoski.calls kj16 a0 a1 ji35 t356 _ A40.out).mono ?_
                          rintro e w50 ⟨v357, rfl, ho0, hb⟩
                          refine ⟨_, rfl, ?_⟩
                          have n0_ := Aside0.mk (Kd.V_below (by (with_reducible repeat (first | apply Kd.V_alloc | apply Kd.V_drewN | apply Kd.V_drew)); exact HO_7.out) hb)
                          have n1_ := Aside0.mk (Kd.V_below (by (with_reducible repeat (first | apply Kd.V_alloc | apply Kd.V_drewN | apply Kd.V_drew)); exact HO_9.out) hb)
                          have n2_ := Aside0.mk (Kd.V_below (by (with_reducible repeat (first | apply Kd.V_alloc | apply Kd.V_drewN | apply Kd.V_drew)); exact HO355.out) hb)
                          have n3_ := Aside0.mk (Kd.V_lower (Kd.V_mono (ok' := fun k_ => True) ho0 (fun k_ hk_ => trivial)) (below_size (by repeat (first | (with_reducible first | exact HB.out | apply below_alloc | apply pw_below_drewN | apply below_drew1) | exact HB.out))))
                          have n4_ := Aside0.mk (below_step (by repeat (first | (with_reducible first | exact HB.out | apply below_alloc | apply pw_below_drewN | apply below_drew1) | exact HB.out)) hb)
                          clear HO_7
                          clear HO_9
                          clear HO355
                          clear HB
                          have HO_7 := n0_
                          have HO_9 := n1_
                          have HO355 := n2_
                          have HO358 := n3_
                          have HB := n4_
                          clear n0_ n1_ n2_ n3_ n4_
                          (try clear hb)
                          (try clear hb2)
                          (try clear hk)
                          (try clear hi)
                          (try clear ho0)
                          obtain ⟨Ao51, co51, eo51⟩ := Kd.V_slice HO358.out
                          (first | subst eo51 | (injection eo51 with f1_ f2_ f3_; have f4_ := f1_.symm; have f5_ := f3_.symm; clear f1_ f2_ f3_; subst f4_; subst f5_))
                          refine hK.out _ _ trivial (fun hHeld => ?_)
                          clear hK K
                          refine norm_ (a' := ?_) ?_ ?_
                          rotate_left
                          · show Act.put _ (some 129) _ = _
                            simp only [Act.put, List.setIfInBounds_toArray, List.set_cons_zero, List.set_cons_succ, i64_w, i32_w]
                            rfl
                          refine one_ (i := 10) (N := some 130) #[true, true, true, true, true, true, true, true, true, true, true, false, false, false, false, false, false, false, false, false, false, false, false] rfl rfl (one_of HT_.out (by kernel_rfl)) (by decide) (fun K hK => ?_)
                          refine goes_ Try.func20 (by kernel_rfl) rfl #[.slice Ao49 y351.length y351.length, .slice Ao51 t356.length co51] (by rfl) rfl rfl (by (try simp only [List.map_toArray, List.map_cons, List.map_nil]); first | done | rfl | (simp only [List.length_drop, List.length_take]; rfl)) ?_
                          with_reducible refine (bellpullref01_Same.calls kj16 _ _ y351 _ _ t356 true _ ?side1 ?side2 ?side3 ?side4 A41.out).mono ?_
                          (case side1 => repeat (first | exact (Kd.V_reads' HO355.out).2.2 | (with_reducible refine Kd.C_alloc ?_ _) | (with_reducible refine Kd.C_drewN ?_ _) | (with_reducible refine Kd.C_drew ?_)))
                          (case side2 => exact (Kd.V_reads' HO355.out).2.1)
                          (case side3 => repeat (first | exact (Kd.V_reads' HO358.out).2.2 | (with_reducible refine Kd.C_alloc ?_ _) | (with_reducible refine Kd.C_drewN ?_ _) | (with_reducible refine Kd.C_drew ?_)))
                          (case side4 => exact (Kd.V_reads' HO358.out).2.1)
                          rintro e w' ⟨rfl, ⟨nd, rfl⟩⟩
                          refine ⟨_, rfl, ?_⟩
                          obtain ⟨Ao53, co53, eo53⟩ := Kd.V_slice HO_9.out
                          (first | subst eo53 | (injection eo53 with f1_ f2_ f3_; have f4_ := f1_.symm; have f5_ := f3_.symm; clear f1_ f2_ f3_; subst f4_; subst f5_))
                          have q52 : ((ji35) : Int) ≤ ((t339.length : Int) : Int) := of_decide_eq_true (by first | (with_reducible assumption) | assumption)
                          obtain ⟨i052, hi052, _, hsz52, _⟩ := info_parts info3
                          have hroom52 : t339.length ≤ co53 := (Kd.V_reads' HO_9.out).2.1
                          have hC52 : Kd.F (Kd.int .i64) _ _ Ao53 t339.length t339 := (Kd.V_at (base := w.heap.size) HO_9.out).2.2
                          have hcut52 := Go.Proofs.MyWords.cut_to_m (P := Try.prog) 22 3 .i64 .i64 Try.underlying22 hi052 Ao53 t339.length co53 (ji35) (of_decide_eq_true (by first | (with_reducible assumption) | assumption)) q52 hroom52
                          have hr52 := Kd.F_take (m := ((ji35) : Int).toNat) hC52 (by omega)
                          have hy52 : y360.length = ((ji35) : Int).toNat := (by rw [Ny360.out, List.length_take]; omega)
                          rw [← Ny360.out] at hr52
                          rw [← hy52] at hcut52
                          have HO364 := Aside0.mk (show Kd.V (Kd.int .i64) 3 _ w.heap.size _ (.slice Ao53 y360.length y360.length) y360 from Kd.V_mk (Nat.le_refl _) hr52)
                          have HC364 := Aside0.mk (show y360.length ≤ y360.length from Nat.le_refl _)
                          clear hr52 hC52 hroom52 hi052 hsz52
                          have KY52 := Aside0.mk hy52
                          clear hy52
                          replace q52 := eq_true q52
                          refine hK.out _ _ trivial (fun hHeld => ?_)
                          clear hK K
                          refine norm_ (a' := ?_) ?_ ?_
                          rotate_left
                          · show Act.put _ (some 130) _ = _
                            simp only [Act.put, List.setIfInBounds_toArray, List.set_cons_zero, List.set_cons_succ, i64_w, i32_w]
                            rfl
                          refine pure_ (i := 11) (N := some 131) (v := ?_) (a' := ?_) #[true, true, true, true, true, true, true, true, true, true, true, true, false, false, false, false, false, false, false, false, false, false, false] rfl rfl (any_of HT_.out (by kernel_rfl)) (fun _ _ _ h => h) (Or.inl ⟨by rfl, ?_⟩) ?_ ?_
                          rotate_left
                          · intro w'
                            go_simp
                            with_reducible rfl
                          rotate_left
                          · simp only [Act.put, List.setIfInBounds_toArray, List.set_cons_zero, List.set_cons_succ, i64_w, i32_w]
                            rfl
                          refine pure_ (i := 12) (N := some 132) (v := ?_) (a' := ?_) #[true, true, true, true, true, true, true, true, true, true, true, true, true, false, false, false, false, false, false, false, false, false, false] rfl rfl (any_of HT_.out (by kernel_rfl)) (fun _ _ _ h => h) (Or.inl ⟨by rfl, ?_⟩) ?_ ?_
                          rotate_left
                          · intro w'
                            go_simp
                            with_reducible rfl
                          rotate_left
                          · simp only [Act.put, List.setIfInBounds_toArray, List.set_cons_zero, List.set_cons_succ, i64_w, i32_w]
                            rfl
                          refine pure_ (i := 13) (N := some 133) (v := ?_) (a' := ?_) #[true, true, true, true, true, true, true, true, true, true, true, true, true, true, false, false, false, false, false, false, false, false, false] rfl rfl (any_of HT_.out (by kernel_rfl)) (fun _ _ _ h => h) (Or.inl ⟨by rfl, ?_⟩) ?_ ?_
                          rotate_left
                          · intro w'
                            go_simp
                            with_reducible rfl
                          rotate_left
                          · simp only [Act.put, List.setIfInBounds_toArray, List.set_cons_zero, List.set_cons_succ, i64_w, i32_w]
                            rfl
                          refine pure_ (i := 14) (N := some 134) (v := ?_) (a' := ?_) #[true, true, true, true, true, true, true, true, true, true, true, true, true, true, true, false, false, false, false, false, false, false, false] rfl rfl (any_of HT_.out (by kernel_rfl)) (fun _ _ _ h => h) (Or.inl ⟨by rfl, ?_⟩) ?_ ?_
                          rotate_left
                          · intro w'
                            go_simp
                            with_reducible rfl
                          rotate_left
                          · simp only [Act.put, List.setIfInBounds_toArray, List.set_cons_zero, List.set_cons_succ, i64_w, i32_w]
                            rfl
                          refine pure_ (i := 15) (N := some 135) (v := ?_) (a' := ?_) #[true, true, true, true, true, true, true, true, true, true, true, true, true, true, true, true, false, false, false, false, false, false, false] rfl rfl (any_of HT_.out (by kernel_rfl)) (fun _ _ _ h => h) (Or.inl ⟨by rfl, ?_⟩) ?_ ?_
                          rotate_left
                          · intro w'
                            go_simp
                            with_reducible rfl
                          rotate_left
                          · simp only [Act.put, List.setIfInBounds_toArray, List.set_cons_zero, List.set_cons_succ, i64_w, i32_w]
                            rfl
                          refine pure_ (i := 16) (N := some 136) (v := ?_) (a' := ?_) #[true, true, true, true, true, true, true, true, true, true, true, true, true, true, true, true, true, false, false, false, false, false, false] rfl rfl (any_of HT_.out (by kernel_rfl)) (fun _ _ _ h => h) (Or.inl ⟨by rfl, ?_⟩) ?_ ?_
                          rotate_left
                          · intro w'
                            go_simp
                            with_reducible rfl
                          rotate_left
                          · simp only [Act.put, List.setIfInBounds_toArray, List.set_cons_zero, List.set_cons_succ, i64_w, i32_w]
                            rfl
                          refine pure_ (i := 17) (N := some 137) (v := ?_) (a' := ?_) #[true, true, true, true, true, true, true, true, true, true, true, true, true, true, true, true, true, true, false, false, false, false, false] rfl rfl (any_of HT_.out (by kernel_rfl)) (fun _ _ _ h => h) (Or.inl ⟨by rfl, ?_⟩) ?_ ?_
                          rotate_left
                          · intro w'
                            go_simp
                            with_reducible rfl
                          rotate_left
                          · simp only [Act.put, List.setIfInBounds_toArray, List.set_cons_zero, List.set_cons_succ, i64_w, i32_w]
                            rfl
                          refine pure_ (i := 18) (N := some 138) (v := ?_) (a' := ?_) #[true, true, true, true, true, true, true, true, true, true, true, true, true, true, true, true, true, true, true, false, false, false, false] rfl rfl (any_of HT_.out (by kernel_rfl)) (fun _ _ _ h => h) (Or.inl ⟨by rfl, ?_⟩) ?_ ?_
                          rotate_left
                          · intro w'
                            go_simp
                            with_reducible rfl
                          rotate_left
                          · simp only [Act.put, List.setIfInBounds_toArray, List.set_cons_zero, List.set_cons_succ, i64_w, i32_w]
                            rfl
                          refine one_ (i := 19) (N := some 139) #[true, true, true, true, true, true, true, true, true, true, true, true, true, true, true, true, true, true, true, true, false, false, false] rfl rfl (one_of HT_.out (by kernel_rfl)) (by decide) (fun K hK => ?_)
                          refine goes_ Try.func22 (by kernel_rfl) rfl #[.int .i64 ji35] (by rfl) rfl rfl (by (try simp only [List.map_toArray, List.map_cons, List.map_nil]); first | done | (simp only [hji35]; rfl) | rfl | (simp only [List.length_drop, List.length_take]; rfl)) ?_
                          with_reducible refine (bellpullref02_Golomb.calls kj16 ji35 t365 _ A45.out).mono ?_
                          rintro e w54 ⟨v366, rfl, ho0, hb⟩
                          refine ⟨_, rfl, ?_⟩
                          have n0_ := Aside0.mk (Kd.V_below (by (with_reducible repeat (first | apply Kd.V_alloc | apply Kd.V_drewN | apply Kd.V_drew)); exact HO_7.out) hb)
                          have n1_ := Aside0.mk (Kd.V_below (by (with_reducible repeat (first | apply Kd.V_alloc | apply Kd.V_drewN | apply Kd.V_drew)); exact HO_9.out) hb)
                          have n2_ := Aside0.mk (Kd.V_below (by (with_reducible repeat (first | apply Kd.V_alloc | apply Kd.V_drewN | apply Kd.V_drew)); exact HO355.out) hb)
                          have n3_ := Aside0.mk (Kd.V_below (by (with_reducible repeat (first | apply Kd.V_alloc | apply Kd.V_drewN | apply Kd.V_drew)); exact HO358.out) hb)
                          have n4_ := Aside0.mk (Kd.V_below (by (with_reducible repeat (first | apply Kd.V_alloc | apply Kd.V_drewN | apply Kd.V_drew)); exact HO364.out) hb)
                          have n5_ := Aside0.mk (Kd.V_lower (Kd.V_mono (ok' := fun k_ => True) ho0 (fun k_ hk_ => trivial)) (below_size (by repeat (first | (with_reducible first | exact HB.out | apply below_alloc | apply pw_below_drewN | apply below_drew1) | exact HB.out))))
                          have n6_ := Aside0.mk (below_step (by repeat (first | (with_reducible first | exact HB.out | apply below_alloc | apply pw_below_drewN | apply below_drew1) | exact HB.out)) hb)
                          clear HO_7
                          clear HO_9
                          clear HO355
                          clear HO358
                          clear HO364
                          clear HB
                          have HO_7 := n0_
                          have HO_9 := n1_
                          have HO355 := n2_
                          have HO358 := n3_
                          have HO364 := n4_
                          have HO367 := n5_
                          have HB := n6_
                          clear n0_ n1_ n2_ n3_ n4_ n5_ n6_
                          (try clear hb)
                          (try clear hb2)
                          (try clear hk)
                          (try clear hi)
                          (try clear ho0)
                          obtain ⟨Ao55, co55, eo55⟩ := Kd.V_slice HO367.out
                          (first | subst eo55 | (injection eo55 with f1_ f2_ f3_; have f4_ := f1_.symm; have f5_ := f3_.symm; clear f1_ f2_ f3_; subst f4_; subst f5_))
                          refine hK.out _ _ trivial (fun hHeld => ?_)
                          clear hK K
                          refine norm_ (a' := ?_) ?_ ?_
                          rotate_left
                          · show Act.put _ (some 139) _ = _
                            simp only [Act.put, List.setIfInBounds_toArray, List.set_cons_zero, List.set_cons_succ, i64_w, i32_w]
                            rfl
                          refine one_ (i := 20) (N := some 140) #[true, true, true, true, true, true, true, true, true, true, true, true, true, true, true, true, true, true, true, true, true, false, false] rfl rfl (one_of HT_.out (by kernel_rfl)) (by decide) (fun K hK => ?_)
                          refine goes_ Try.func20 (by kernel_rfl) rfl #[.slice Ao53 y360.length y360.length, .slice Ao55 t365.length co55] (by rfl) rfl rfl (by (try simp only [List.map_toArray, List.map_cons, List.map_nil]); first | done | rfl | (simp only [List.length_drop, List.length_take]; rfl)) ?_
                          with_reducible refine (bellpullref01_Same.calls kj16 _ _ y360 _ _ t365 t368 _ ?side1 ?side2 ?side3 ?side4 A46.out).mono ?_
                          (case side1 => repeat (first | exact (Kd.V_reads' HO364.out).2.2 | (with_reducible refine Kd.C_alloc ?_ _) | (with_reducible refine Kd.C_drewN ?_ _) | (with_reducible refine Kd.C_drew ?_)))
                          (case side2 => exact (Kd.V_reads' HO364.out).2.1)
                          (case side3 => repeat (first | exact (Kd.V_reads' HO367.out).2.2 | (with_reducible refine Kd.C_alloc ?_ _) | (with_reducible refine Kd.C_drewN ?_ _) | (with_reducible refine Kd.C_drew ?_)))
                          (case side4 => exact (Kd.V_reads' HO367.out).2.1)
                          rintro e w' ⟨rfl, ⟨nd, rfl⟩⟩
                          refine ⟨_, rfl, ?_⟩
                          refine hK.out _ _ trivial (fun hHeld => ?_)
                          clear hK K
                          refine norm_ (a' := ?_) ?_ ?_
                          rotate_left
                          · show Act.put _ (some 140) _ = _
                            simp only [Act.put, List.setIfInBounds_toArray, List.set_cons_zero, List.set_cons_succ, i64_w, i32_w]
                            rfl
                          refine pure_ (i := 21) (N := some 141) (v := ?_) (a' := ?_) #[true, true, true, true, true, true, true, true, true, true, true, true, true, true, true, true, true, true, true, true, true, true, false] rfl rfl (any_of HT_.out (by kernel_rfl)) (fun _ _ _ h => h) (Or.inl ⟨by rfl, ?_⟩) ?_ ?_
                          rotate_left
                          · intro w'
                            go_simp
                            with_reducible rfl
                          rotate_left
                          · simp only [Act.put, List.setIfInBounds_toArray, List.set_cons_zero, List.set_cons_succ, i64_w, i32_w]
                            rfl
                          refine pure_ (i := 22) (N := some 142) (v := ?_) (a' := ?_) #[true, true, true, true, true, true, true, true, true, true, true, true, true, true, true, true, true, true, true, true, true, true, true] rfl rfl (any_of HT_.out (by kernel_rfl)) (fun _ _ _ h => h) (Or.inl ⟨by rfl, ?_⟩) ?_ ?_
                          rotate_left
                          · intro w'
                            go_simp
                            with_reducible rfl
                          rotate_left
                          · simp only [Act.put, List.setIfInBounds_toArray, List.set_cons_zero, List.set_cons_succ, i64_w, i32_w]
                            rfl
                          refine done_ (done_of HT_.out (by kernel_rfl)) ?_
                          try go_wp2
                          go_meet
                          case rel => exact ⟨_, (!t368), (by first | rfl | (simp; done) | (simp [*]; done)), H', ⟨by have := HJ8.out; have := HJ16.out; first | omega | exact Nat.le_refl _⟩, ⟨by repeat (first | (with_reducible first | exact HB.out | apply below_alloc | apply pw_below_drewN | apply below_drew1) | exact HB.out)⟩⟩
                        · rw [if_neg c44] at H
                          exact absurd H (by simp)
                      · replace c42 := Bool.eq_false_iff.mpr c42
                        subst c42
                        have H1 : (none) = some r := by rw [if_neg (show ¬ (false = true) by decide)] at H; exact H
                        clear H
                        have H := H1
                        clear H1
                        exact absurd H (by simp)
                    · rw [if_neg c39] at H
                      exact absurd H (by simp)
                  · rw [if_neg c38] at H
                    exact absurd H (by simp)
                · replace c37 := Bool.eq_false_iff.mpr c37
                  subst c37
                  have H1 : (if 0 ≤ (ji35) then (if (ji35) ≤ (t339.length : Int) then ((bellpullref02_Golomb.f kj16 (ji35)).bind fun t374 => ((bellpullref01_Same.f kj16 (t339.take ((ji35) : Int).toNat) t374).bind fun t377 => (bellpulllaw02_EchoSequences.j2 kj16 a2 t343 ji35 (!t377)))) else (none)) else (none)) = some r := by rw [if_neg (show ¬ (false = true) by decide)] at H; exact H
                  clear H
                  have H := H1
                  clear H1
                  by_cases c56 : 0 ≤ (ji35)
                  · rw [if_pos c56] at H
                    have c56b0 := eq_true c56
                    have c56b1 : decide (0 ≤ (ji35)) = true := decide_eq_true c56
                    clear c56
                    by_cases c57 : (ji35) ≤ (t339.length : Int)
                    · rw [if_pos c57] at H
                      have c57b0 := eq_true c57
                      have c57b1 : decide ((ji35) ≤ (t339.length : Int)) = true := decide_eq_true c57
                      clear c57
                      obtain ⟨y369, hy369⟩ : ∃ y_ : List Int, y_ = (t339.take ((ji35) : Int).toNat) := ⟨_, rfl⟩
                      replace H : ((bellpullref02_Golomb.f kj16 (ji35)).bind fun t374 => ((bellpullref01_Same.f kj16 y369 t374).bind fun t377 => (bellpulllaw02_EchoSequences.j2 kj16 a2 t343 ji35 (!t377)))) = some r := by first | (rw [hy369]; with_reducible exact H) | (have H2_ := (Option.bind_some _ _).symm.trans H; rw [hy369]; with_reducible exact H2_) | (have H2_ := (Option.bind_some _ _).symm.trans H; with_reducible exact H2_) | with_reducible exact H | (rw [hy369]; exact H) | exact H
                      have Ny369 := Aside0.mk hy369
                      clear hy369
                      replace H := Option.bind_eq_some_iff.mp H
                      obtain ⟨t374, A580, H⟩ := H
                      replace H : ((bellpullref01_Same.f kj16 y369 t374).bind fun t377 => (bellpulllaw02_EchoSequences.j2 kj16 a2 t343 ji35 (!t377))) = some r := H
                      have A58 := Aside0.mk A580
                      clear A580
                      replace H := Option.bind_eq_some_iff.mp H
                      obtain ⟨t377, A590, H⟩ := H
                      replace H : (bellpulllaw02_EchoSequences.j2 kj16 a2 t343 ji35 (!t377)) = some r := H
                      have A59 := Aside0.mk A590
                      clear A590
                      have H' := Aside0.mk H
                      clear H
                      try go_wp2
                      have n0_ := Aside0.mk (Kd.V_drew HO_7.out)
                      have n1_ := Aside0.mk (Kd.V_drew HO_9.out)
                      have n2_ := Aside0.mk (below_drew1 HB.out)
                      clear HO_7
                      clear HO_9
                      clear HB
                      have HO_7 := n0_
                      have HO_9 := n1_
                      have HB := n2_
                      clear n0_ n1_ n2_
                      obtain ⟨Ao62, co62, eo62⟩ := Kd.V_slice HO_9.out
                      (first | subst eo62 | (injection eo62 with f1_ f2_ f3_; have f4_ := f1_.symm; have f5_ := f3_.symm; clear f1_ f2_ f3_; subst f4_; subst f5_))
                      have q61 : ((ji35) : Int) ≤ ((t339.length : Int) : Int) := of_decide_eq_true (by first | (with_reducible assumption) | assumption)
                      obtain ⟨i061, hi061, _, hsz61, _⟩ := info_parts info3
                      have hroom61 : t339.length ≤ co62 := (Kd.V_reads' HO_9.out).2.1
                      have hC61 : Kd.F (Kd.int .i64) _ _ Ao62 t339.length t339 := (Kd.V_at (base := w.heap.size) HO_9.out).2.2
                      have hcut61 := Go.Proofs.MyWords.cut_to_m (P := Try.prog) 22 3 .i64 .i64 Try.underlying22 hi061 Ao62 t339.length co62 (ji35) (of_decide_eq_true (by first | (with_reducible assumption) | assumption)) q61 hroom61
                      have hr61 := Kd.F_take (m := ((ji35) : Int).toNat) hC61 (by omega)
                      have hy61 : y369.length = ((ji35) : Int).toNat := (by rw [Ny369.out, List.length_take]; omega)
                      rw [← Ny369.out] at hr61
                      rw [← hy61] at hcut61
                      have HO373 := Aside0.mk (show Kd.V (Kd.int .i64) 3 _ w.heap.size _ (.slice Ao62 y369.length y369.length) y369 from Kd.V_mk (Nat.le_refl _) hr61)
                      have HC373 := Aside0.mk (show y369.length ≤ y369.length from Nat.le_refl _)
                      clear hr61 hC61 hroom61 hi061 hsz61
                      have KY61 := Aside0.mk hy61
                      clear hy61
                      replace q61 := eq_true q61
                      refine start_ (n := 23) (S := fun w' => True) (ds := []) #[false, false, false, false, false, false, false, false, false, false, false, false, false, false, false, false, false, false, false, false, false, false, false] (by kernel_rfl) rfl rfl trivial (fun hHeld => ?_); refine with_tabW bellpulllaw02_EchoSequences.tab11 bellpulllaw02_EchoSequences.bits11 (fun HT_ HW_ => ?_)
                      generalize wc.drew = w60 at HO_7 HO_9 HB HO373 hHeld ⊢
                      refine pure_ (i := 0) (N := some 120) (v := ?_) (a' := ?_) #[true, false, false, false, false, false, false, false, false, false, false, false, false, false, false, false, false, false, false, false, false, false, false] rfl rfl (any_of HT_.out (by kernel_rfl)) (fun _ _ _ h => h) (Or.inl ⟨by rfl, ?_⟩) ?_ ?_
                      rotate_left
                      · intro w'
                        go_simp
                        with_reducible rfl
                      rotate_left
                      · simp only [Act.put, List.setIfInBounds_toArray, List.set_cons_zero, List.set_cons_succ, i64_w, i32_w]
                        rfl
                      refine pure_ (i := 1) (N := some 121) (v := ?_) (a' := ?_) #[true, true, false, false, false, false, false, false, false, false, false, false, false, false, false, false, false, false, false, false, false, false, false] rfl rfl (any_of HT_.out (by kernel_rfl)) (fun _ _ _ h => h) (Or.inl ⟨by rfl, ?_⟩) ?_ ?_
                      rotate_left
                      · intro w'
                        go_simp
                        with_reducible rfl
                      rotate_left
                      · simp only [Act.put, List.setIfInBounds_toArray, List.set_cons_zero, List.set_cons_succ, i64_w, i32_w]
                        rfl
                      refine pure_ (i := 2) (N := some 122) (v := undef) (a' := ?_) #[true, true, true, false, false, false, false, false, false, false, false, false, false, false, false, false, false, false, false, false, false, false, false] rfl rfl (any_of HT_.out (by kernel_rfl)) (fun _ _ _ h => h) (Or.inr ⟨by rfl, rfl⟩) ?_ ?_
                      rotate_left
                      · simp only [Act.put, List.setIfInBounds_toArray, List.set_cons_zero, List.set_cons_succ, i64_w, i32_w]
                        rfl
                      refine pure_ (i := 3) (N := some 123) (v := undef) (a' := ?_) #[true, true, true, true, false, false, false, false, false, false, false, false, false, false, false, false, false, false, false, false, false, false, false] rfl rfl (any_of HT_.out (by kernel_rfl)) (fun _ _ _ h => h) (Or.inr ⟨by rfl, rfl⟩) ?_ ?_
                      rotate_left
                      · simp only [Act.put, List.setIfInBounds_toArray, List.set_cons_zero, List.set_cons_succ, i64_w, i32_w]
                        rfl
                      refine pure_ (i := 4) (N := some 124) (v := undef) (a' := ?_) #[true, true, true, true, true, false, false, false, false, false, false, false, false, false, false, false, false, false, false, false, false, false, false] rfl rfl (any_of HT_.out (by kernel_rfl)) (fun _ _ _ h => h) (Or.inr ⟨by rfl, rfl⟩) ?_ ?_
                      rotate_left
                      · simp only [Act.put, List.setIfInBounds_toArray, List.set_cons_zero, List.set_cons_succ, i64_w, i32_w]
                        rfl
                      refine pure_ (i := 5) (N := some 125) (v := undef) (a' := ?_) #[true, true, true, true, true, true, false, false, false, false, false, false, false, false, false, false, false, false, false, false, false, false, false] rfl rfl (any_of HT_.out (by kernel_rfl)) (fun _ _ _ h => h) (Or.inr ⟨by rfl, rfl⟩) ?_ ?_
                      rotate_left
                      · simp only [Act.put, List.setIfInBounds_toArray, List.set_cons_zero, List.set_cons_succ, i64_w, i32_w]
                        rfl
                      refine pure_ (i := 6) (N := some 126) (v := undef) (a' := ?_) #[true, true, true, true, true, true, true, false, false, false, false, false, false, false, false, false, false, false, false, false, false, false, false] rfl rfl (any_of HT_.out (by kernel_rfl)) (fun _ _ _ h => h) (Or.inr ⟨by rfl, rfl⟩) ?_ ?_
                      rotate_left
                      · simp only [Act.put, List.setIfInBounds_toArray, List.set_cons_zero, List.set_cons_succ, i64_w, i32_w]
                        rfl
                      refine pure_ (i := 7) (N := some 127) (v := undef) (a' := ?_) #[true, true, true, true, true, true, true, true, false, false, false, false, false, false, false, false, false, false, false, false, false, false, false] rfl rfl (any_of HT_.out (by kernel_rfl)) (fun _ _ _ h => h) (Or.inr ⟨by rfl, rfl⟩) ?_ ?_
                      rotate_left
                      · simp only [Act.put, List.setIfInBounds_toArray, List.set_cons_zero, List.set_cons_succ, i64_w, i32_w]
                        rfl
                      refine pure_ (i := 8) (N := some 128) (v := undef) (a' := ?_) #[true, true, true, true, true, true, true, true, true, false, false, false, false, false, false, false, false, false, false, false, false, false, false] rfl rfl (any_of HT_.out (by kernel_rfl)) (fun _ _ _ h => h) (Or.inr ⟨by rfl, rfl⟩) ?_ ?_
                      rotate_left
                      · simp only [Act.put, List.setIfInBounds_toArray, List.set_cons_zero, List.set_cons_succ, i64_w, i32_w]
                        rfl
                      refine pure_ (i := 9) (N := some 129) (v := undef) (a' := ?_) #[true, true, true, true, true, true, true, true, true, true, false, false, false, false, false, false, false, false, false, false, false, false, false] rfl rfl (any_of HT_.out (by kernel_rfl)) (fun _ _ _ h => h) (Or.inr ⟨by rfl, rfl⟩) ?_ ?_
                      rotate_left
                      · simp only [Act.put, List.setIfInBounds_toArray, List.set_cons_zero, List.set_cons_succ, i64_w, i32_w]
                        rfl
                      refine pure_ (i := 10) (N := some 130) (v := undef) (a' := ?_) #[true, true, true, true, true, true, true, true, true, true, true, false, false, false, false, false, false, false, false, false, false, false, false] rfl rfl (any_of HT_.out (by kernel_rfl)) (fun _ _ _ h => h) (Or.inr ⟨by rfl, rfl⟩) ?_ ?_
                      rotate_left
                      · simp only [Act.put, List.setIfInBounds_toArray, List.set_cons_zero, List.set_cons_succ, i64_w, i32_w]
                        rfl
                      refine pure_ (i := 11) (N := some 131) (v := undef) (a' := ?_) #[true, true, true, true, true, true, true, true, true, true, true, true, false, false, false, false, false, false, false, false, false, false, false] rfl rfl (any_of HT_.out (by kernel_rfl)) (fun _ _ _ h => h) (Or.inr ⟨by rfl, rfl⟩) ?_ ?_
                      rotate_left
                      · simp only [Act.put, List.setIfInBounds_toArray, List.set_cons_zero, List.set_cons_succ, i64_w, i32_w]
                        rfl
                      refine pure_ (i := 12) (N := some 132) (v := ?_) (a' := ?_) #[true, true, true, true, true, true, true, true, true, true, true, true, true, false, false, false, false, false, false, false, false, false, false] rfl rfl (any_of HT_.out (by kernel_rfl)) (fun _ _ _ h => h) (Or.inl ⟨by rfl, ?_⟩) ?_ ?_
                      rotate_left
                      · intro w'
                        go_simp
                        with_reducible rfl
                      rotate_left
                      · simp only [Act.put, List.setIfInBounds_toArray, List.set_cons_zero, List.set_cons_succ, i64_w, i32_w]
                        rfl
                      refine pure_ (i := 13) (N := some 133) (v := ?_) (a' := ?_) #[true, true, true, true, true, true, true, true, true, true, true, true, true, true, false, false, false, false, false, false, false, false, false] rfl rfl (any_of HT_.out (by kernel_rfl)) (fun _ _ _ h => h) (Or.inl ⟨by rfl, ?_⟩) ?_ ?_
                      rotate_left
                      · intro w'
                        go_simp
                        with_reducible rfl
                      rotate_left
                      · simp only [Act.put, List.setIfInBounds_toArray, List.set_cons_zero, List.set_cons_succ, i64_w, i32_w]
                        rfl
                      refine pure_ (i := 14) (N := some 134) (v := ?_) (a' := ?_) #[true, true, true, true, true, true, true, true, true, true, true, true, true, true, true, false, false, false, false, false, false, false, false] rfl rfl (any_of HT_.out (by kernel_rfl)) (fun _ _ _ h => h) (Or.inl ⟨by rfl, ?_⟩) ?_ ?_
                      rotate_left
                      · intro w'
                        go_simp
                        with_reducible rfl
                      rotate_left
                      · simp only [Act.put, List.setIfInBounds_toArray, List.set_cons_zero, List.set_cons_succ, i64_w, i32_w]
                        rfl
                      refine pure_ (i := 15) (N := some 135) (v := ?_) (a' := ?_) #[true, true, true, true, true, true, true, true, true, true, true, true, true, true, true, true, false, false, false, false, false, false, false] rfl rfl (any_of HT_.out (by kernel_rfl)) (fun _ _ _ h => h) (Or.inl ⟨by rfl, ?_⟩) ?_ ?_
                      rotate_left
                      · intro w'
                        go_simp
                        with_reducible rfl
                      rotate_left
                      · simp only [Act.put, List.setIfInBounds_toArray, List.set_cons_zero, List.set_cons_succ, i64_w, i32_w]
                        rfl
                      refine pure_ (i := 16) (N := some 136) (v := ?_) (a' := ?_) #[true, true, true, true, true, true, true, true, true, true, true, true, true, true, true, true, true, false, false, false, false, false, false] rfl rfl (any_of HT_.out (by kernel_rfl)) (fun _ _ _ h => h) (Or.inl ⟨by rfl, ?_⟩) ?_ ?_
                      rotate_left
                      · intro w'
                        go_simp
                        with_reducible rfl
                      rotate_left
                      · simp only [Act.put, List.setIfInBounds_toArray, List.set_cons_zero, List.set_cons_succ, i64_w, i32_w]
                        rfl
                      refine pure_ (i := 17) (N := some 137) (v := ?_) (a' := ?_) #[true, true, true, true, true, true, true, true, true, true, true, true, true, true, true, true, true, true, false, false, false, false, false] rfl rfl (any_of HT_.out (by kernel_rfl)) (fun _ _ _ h => h) (Or.inl ⟨by rfl, ?_⟩) ?_ ?_
                      rotate_left
                      · intro w'
                        go_simp
                        with_reducible rfl
                      rotate_left
                      · simp only [Act.put, List.setIfInBounds_toArray, List.set_cons_zero, List.set_cons_succ, i64_w, i32_w]
                        rfl
                      refine pure_ (i := 18) (N := some 138) (v := ?_) (a' := ?_) #[true, true, true, true, true, true, true, true, true, true, true, true, true, true, true, true, true, true, true, false, false, false, false] rfl rfl (any_of HT_.out (by kernel_rfl)) (fun _ _ _ h => h) (Or.inl ⟨by rfl, ?_⟩) ?_ ?_
                      rotate_left
                      · intro w'
                        go_simp
                        with_reducible rfl
                      rotate_left
                      · simp only [Act.put, List.setIfInBounds_toArray, List.set_cons_zero, List.set_cons_succ, i64_w, i32_w]
                        rfl
                      refine one_ (i := 19) (N := some 139) #[true, true, true, true, true, true, true, true, true, true, true, true, true, true, true, true, true, true, true, true, false, false, false] rfl rfl (one_of HT_.out (by kernel_rfl)) (by decide) (fun K hK => ?_)
                      refine goes_ Try.func22 (by kernel_rfl) rfl #[.int .i64 ji35] (by rfl) rfl rfl (by (try simp only [List.map_toArray, List.map_cons, List.map_nil]); first | done | (simp only [hji35]; rfl) | rfl | (simp only [List.length_drop, List.length_take]; rfl)) ?_
                      with_reducible refine (bellpullref02_Golomb.calls kj16 ji35 t374 _ A58.out).mono ?_
                      rintro e w63 ⟨v375, rfl, ho0, hb⟩
                      refine ⟨_, rfl, ?_⟩
                      have n0_ := Aside0.mk (Kd.V_below (by (with_reducible repeat (first | apply Kd.V_alloc | apply Kd.V_drewN | apply Kd.V_drew)); exact HO_7.out) hb)
                      have n1_ := Aside0.mk (Kd.V_below (by (with_reducible repeat (first | apply Kd.V_alloc | apply Kd.V_drewN | apply Kd.V_drew)); exact HO_9.out) hb)
                      have n2_ := Aside0.mk (Kd.V_below (by (with_reducible repeat (first | apply Kd.V_alloc | apply Kd.V_drewN | apply Kd.V_drew)); exact HO373.out) hb)
                      have n3_ := Aside0.mk (Kd.V_lower (Kd.V_mono (ok' := fun k_ => True) ho0 (fun k_ hk_ => trivial)) (below_size (by repeat (first | (with_reducible first | exact HB.out | apply below_alloc | apply pw_below_drewN | apply below_drew1) | exact HB.out))))
                      have n4_ := Aside0.mk (below_step (by repeat (first | (with_reducible first | exact HB.out | apply below_alloc | apply pw_below_drewN | apply below_drew1) | exact HB.out)) hb)
                      clear HO_7
                      clear HO_9
                      clear HO373
                      clear HB
                      have HO_7 := n0_
                      have HO_9 := n1_
                      have HO373 := n2_
                      have HO376 := n3_
                      have HB := n4_
                      clear n0_ n1_ n2_ n3_ n4_
                      (try clear hb)
                      (try clear hb2)
                      (try clear hk)
                      (try clear hi)
                      (try clear ho0)
                      obtain ⟨Ao64, co64, eo64⟩ := Kd.V_slice HO376.out
                      (first | subst eo64 | (injection eo64 with f1_ f2_ f3_; have f4_ := f1_.symm; have f5_ := f3_.symm; clear f1_ f2_ f3_; subst f4_; subst f5_))
                      refine hK.out _ _ trivial (fun hHeld => ?_)
                      clear hK K
                      refine norm_ (a' := ?_) ?_ ?_
                      rotate_left
                      · show Act.put _ (some 139) _ = _
                        simp only [Act.put, List.setIfInBounds_toArray, List.set_cons_zero, List.set_cons_succ, i64_w, i32_w]
                        rfl
                      refine one_ (i := 20) (N := some 140) #[true, true, true, true, true, true, true, true, true, true, true, true, true, true, true, true, true, true, true, true, true, false, false] rfl rfl (one_of HT_.out (by kernel_rfl)) (by decide) (fun K hK => ?_)
                      refine goes_ Try.func20 (by kernel_rfl) rfl #[.slice Ao62 y369.length y369.length, .slice Ao64 t374.length co64] (by rfl) rfl rfl (by (try simp only [List.map_toArray, List.map_cons, List.map_nil]); first | done | rfl | (simp only [List.length_drop, List.length_take]; rfl)) ?_
                      with_reducible refine (bellpullref01_Same.calls kj16 _ _ y369 _ _ t374 t377 _ ?side1 ?side2 ?side3 ?side4 A59.out).mono ?_
                      (case side1 => repeat (first | exact (Kd.V_reads' HO373.out).2.2 | (with_reducible refine Kd.C_alloc ?_ _) | (with_reducible refine Kd.C_drewN ?_ _) | (with_reducible refine Kd.C_drew ?_)))
                      (case side2 => exact (Kd.V_reads' HO373.out).2.1)
                      (case side3 => repeat (first | exact (Kd.V_reads' HO376.out).2.2 | (with_reducible refine Kd.C_alloc ?_ _) | (with_reducible refine Kd.C_drewN ?_ _) | (with_reducible refine Kd.C_drew ?_)))
                      (case side4 => exact (Kd.V_reads' HO376.out).2.1)
                      rintro e w' ⟨rfl, ⟨nd, rfl⟩⟩
                      refine ⟨_, rfl, ?_⟩
                      refine hK.out _ _ trivial (fun hHeld => ?_)
                      clear hK K
                      refine norm_ (a' := ?_) ?_ ?_
                      rotate_left
                      · show Act.put _ (some 140) _ = _
                        simp only [Act.put, List.setIfInBounds_toArray, List.set_cons_zero, List.set_cons_succ, i64_w, i32_w]
                        rfl
                      refine pure_ (i := 21) (N := some 141) (v := ?_) (a' := ?_) #[true, true, true, true, true, true, true, true, true, true, true, true, true, true, true, true, true, true, true, true, true, true, false] rfl rfl (any_of HT_.out (by kernel_rfl)) (fun _ _ _ h => h) (Or.inl ⟨by rfl, ?_⟩) ?_ ?_
                      rotate_left
                      · intro w'
                        go_simp
                        with_reducible rfl
                      rotate_left
                      · simp only [Act.put, List.setIfInBounds_toArray, List.set_cons_zero, List.set_cons_succ, i64_w, i32_w]
                        rfl
                      refine pure_ (i := 22) (N := some 142) (v := ?_) (a' := ?_) #[true, true, true, true, true, true, true, true, true, true, true, true, true, true, true, true, true, true, true, true, true, true, true] rfl rfl (any_of HT_.out (by kernel_rfl)) (fun _ _ _ h => h) (Or.inl ⟨by rfl, ?_⟩) ?_ ?_
                      rotate_left
                      · intro w'
                        go_simp
                        with_reducible rfl
                      rotate_left
                      · simp only [Act.put, List.setIfInBounds_toArray, List.set_cons_zero, List.set_cons_succ, i64_w, i32_w]
                        rfl
                      refine done_ (done_of HT_.out (by kernel_rfl)) ?_
                      try go_wp2
                      go_meet
                      case rel => exact ⟨_, (!t377), (by first | rfl | (simp; done) | (simp [*]; done)), H', ⟨by have := HJ8.out; have := HJ16.out; first | omega | exact Nat.le_refl _⟩, ⟨by repeat (first | (with_reducible first | exact HB.out | apply below_alloc | apply pw_below_drewN | apply below_drew1) | exact HB.out)⟩⟩
                    · rw [if_neg c57] at H
                      exact absurd H (by simp)
                  · rw [if_neg c56] at H
                    exact absurd H (by simp)
              case rest =>
                clear HC36
                try clear c2
                try clear p2
                try clear c3
                try clear c4
                try clear q4
                try clear c5
                try clear q5
                try clear q6
                try clear c20
                try clear c21
                try clear c22
                try clear c37
                try clear c38
                try clear c39
                try clear c42
                try clear c43
                try clear c43b0
                try clear c44
                try clear c44b0
                try clear c44b1
                try clear q48
                try clear q52
                try clear c56
                try clear c56b0
                try clear c56b1
                try clear c57
                try clear c57b0
                try clear c57b1
                try clear q61
                try clear q48
                try clear q52
                try clear q61
                obtain ⟨kq, x142_35, rfl, HA, HJ35, HB⟩ := hcut
                cases kq with
                | zero => exact absurd HA.out (by simp [bellpulllaw02_EchoSequences.j2])
                | succ kj35 =>
                  have H := HA.out
                  clear HA
                  simp only [bellpulllaw02_EchoSequences.j2] at H
                  by_cases c65 : x142_35 = true
                  · subst c65
                    have H1 : (none) = some r := by rw [if_pos rfl] at H; exact H
                    clear H
                    have H := H1
                    clear H1
                    exact absurd H (by simp)
                  · replace c65 := Bool.eq_false_iff.mpr c65
                    subst c65
                    have H1 : ((bellpullref02_Kolakoski.f kj35 1 2 ji35).bind fun t378 => (bellpulllaw02_EchoSequences.l0 kj35 a2 t343 ji35 0 t378 0)) = some r := by rw [if_neg (show ¬ (false = true) by decide)] at H; exact H
                    clear H
                    have H := H1
                    clear H1
                    replace H := Option.bind_eq_some_iff.mp H
                    obtain ⟨t378, A660, H⟩ := H
                    replace H : (bellpulllaw02_EchoSequences.l0 kj35 a2 t343 ji35 0 t378 0) = some r := H
                    have A66 := Aside0.mk A660
                    clear A660
                    have H' := Aside0.mk H
                    clear H
                    go_wp2_with (first | ((with_reducible refine gate_callee (f := 21) rfl ?_); refine goesL_ (some 144) rfl rfl Try.func21 (by kernel_rfl) rfl #[.int .i64 1, .int .i64 2, .int .i64 ji35] rfl (by (try simp only [List.map_toArray, List.map_cons, List.map_nil]); first | done | (simp only [hji35]; rfl) | rfl | (simp only [List.length_drop, List.length_take]; rfl)) ?_; (with_reducible refine (bellpullref02_Kolakoski.calls kj35 1 2 ji35 t378 _ A66.out).mono ?_); rintro e w67 ⟨v379, rfl, ho0, hb⟩; refine ⟨_, rfl, ?_⟩; have n0_ := Aside0.mk (Kd.V_lower (Kd.V_mono (ok' := fun k_ => True) ho0 (fun k_ hk_ => trivial)) (below_size (by repeat (first | (with_reducible first | exact HB.out | apply below_alloc | apply pw_below_drewN | apply below_drew1) | exact HB.out)))); have n1_ := Aside0.mk (below_step (by repeat (first | (with_reducible first | exact HB.out | apply below_alloc | apply pw_below_drewN | apply below_drew1) | exact HB.out)) hb); clear HB; have HO380 := n0_; have HB := n1_; clear n0_ n1_; (try clear hb); (try clear hb2); (try clear hk); (try clear hi); (try clear ho0)))
                    go_loopg [16, 18] kj35 (fun kq v16 v18 w' => ∃ (x16_4 : Int) (x18_4 : Int), v16 = .int .i64 x16_4 ∧ v18 = .int .i64 x18_4 ∧ Aside0 (bellpulllaw02_EchoSequences.l0 kq a2 t343 ji35 x16_4 t378 x18_4 = some r) ∧ Aside0 (kq ≤ kj35) ∧ Aside0 (Kd.V (Kd.int .i64) 3 w' w.heap.size (fun _ => True) v379 t378) ∧ Aside0 (Below w.heap.size w w'))
                    case atStart => exact ⟨(0), (0), (by first | rfl | (simp; done) | (simp [*]; done)), (by first | rfl | (simp; done) | (simp [*]; done)), H', ⟨Nat.le_refl _⟩, ⟨by (with_reducible repeat (first | apply Kd.V_alloc | apply Kd.V_drewN | apply Kd.V_drew)); exact HO380.out⟩, ⟨by repeat (first | (with_reducible first | exact HB.out | apply below_alloc | apply pw_below_drewN | apply below_drew1) | exact HB.out)⟩⟩
                    case round =>
                      clear H'
                      try clear c2
                      try clear p2
                      try clear c3
                      try clear c4
                      try clear q4
                      try clear c5
                      try clear q5
                      try clear c6
                      try clear q6
                      try clear c20
                      try clear c21
                      try clear c22
                      try clear c37
                      try clear c38
                      try clear c39
                      try clear c42
                      try clear c43
                      try clear c43b0
                      try clear c44
                      try clear c44b0
                      try clear c44b1
                      try clear q48
                      try clear q52
                      try clear c56
                      try clear c56b0
                      try clear c56b1
                      try clear c57
                      try clear c57b0
                      try clear c57b1
                      try clear q61
                      try clear c65
                      try clear p2
                      try clear q4
                      try clear q48
                      try clear q5
                      try clear q52
                      try clear q6
                      try clear q61
                      obtain ⟨x16_4, x18_4, rfl, rfl, HA, HK4, HO_17, HB⟩ := hrel
                      cases gk with
                      | zero => exact absurd HA.out (by simp [bellpulllaw02_EchoSequences.l0])
                      | succ k4 =>
                        have H := HA.out
                        clear HA
                        simp only [bellpulllaw02_EchoSequences.l0] at H
                        by_cases c68 : x18_4 < ji35
                        · rw [if_pos c68] at H
                          have c68b0 : decide (x18_4 < ji35) = true := decide_eq_true c68
                          clear c68
                          by_cases c69 : 0 ≤ x18_4
                          · rw [if_pos c69] at H
                            have c69b0 : decide (0 ≤ x18_4) = true := decide_eq_true c69
                            clear c69
                            by_cases c70 : x18_4 < (t378.length : Int)
                            · rw [if_pos c70] at H
                              have c70b0 : decide (x18_4 < (t378.length : Int)) = true := decide_eq_true c70
                              clear c70
                              by_cases c71 : (rd t378 x18_4) = 1
                              · rw [if_pos c71] at H
                                have c71b0 : ((rd t378 x18_4) == 1) = true := beq_iff_eq.mpr c71
                                have c71b1 : ((rd t378 x18_4) != 1) = false := bne_eq_false_iff_eq.mpr c71
                                clear c71
                                have H' := Aside0.mk H
                                clear H
                                obtain ⟨Ao72, co72, eo72⟩ := Kd.V_slice HO_17.out
                                subst eo72
                                have p381 : 0 ≤ (x18_4 : Int) := of_decide_eq_true (by first | (with_reducible assumption) | assumption)
                                have q381 : x18_4 < (t378.length : Int) := of_decide_eq_true (by first | (with_reducible assumption) | assumption)
                                obtain ⟨ad381, e381, hx381_0⟩ := Kd.at_int (Kd.V_reads' HO_17.out).2.2 x18_4 p381 q381
                                cases e381
                                replace p381 := eq_true p381
                                replace q381 := eq_true q381
                                go_wp2
                                go_roundg k4
                                case measure => have := HJ8.out; have := HJ16.out; have := HJ35.out; have := HK4.out; omega
                                case rel => exact ⟨(wrap64 (x16_4 + 1)), (wrap64 (x18_4 + 1)), (by first | rfl | (simp; done) | (simp [*]; done)), (by first | rfl | (simp; done) | (simp [*]; done)), H', ⟨by have := HJ8.out; have := HJ16.out; have := HJ35.out; have := HK4.out; omega⟩, ⟨by (with_reducible repeat (first | apply Kd.V_alloc | apply Kd.V_drewN | apply Kd.V_drew)); exact HO_17.out⟩, ⟨by repeat (first | (with_reducible first | exact HB.out | apply below_alloc | apply pw_below_drewN | apply below_drew1) | exact HB.out)⟩⟩
                              · rw [if_neg c71] at H
                                have c71b0 : ((rd t378 x18_4) == 1) = false := beq_eq_false_iff_ne.mpr c71
                                have c71b1 : ((rd t378 x18_4) != 1) = true := bne_iff_ne.mpr c71
                                have H' := Aside0.mk H
                                clear H
                                obtain ⟨Ao73, co73, eo73⟩ := Kd.V_slice HO_17.out
                                subst eo73
                                have p381 : 0 ≤ (x18_4 : Int) := of_decide_eq_true (by first | (with_reducible assumption) | assumption)
                                have q381 : x18_4 < (t378.length : Int) := of_decide_eq_true (by first | (with_reducible assumption) | assumption)
                                obtain ⟨ad381, e381, hx381_0⟩ := Kd.at_int (Kd.V_reads' HO_17.out).2.2 x18_4 p381 q381
                                cases e381
                                replace p381 := eq_true p381
                                replace q381 := eq_true q381
                                go_wp2
                                go_roundg k4
                                case measure => have := HJ8.out; have := HJ16.out; have := HJ35.out; have := HK4.out; omega
                                case rel => exact ⟨(x16_4), (wrap64 (x18_4 + 1)), (by first | rfl | (simp; done) | (simp [*]; done)), (by first | rfl | (simp; done) | (simp [*]; done)), H', ⟨by have := HJ8.out; have := HJ16.out; have := HJ35.out; have := HK4.out; omega⟩, ⟨by (with_reducible repeat (first | apply Kd.V_alloc | apply Kd.V_drewN | apply Kd.V_drew)); exact HO_17.out⟩, ⟨by repeat (first | (with_reducible first | exact HB.out | apply below_alloc | apply pw_below_drewN | apply below_drew1) | exact HB.out)⟩⟩
                            · rw [if_neg c70] at H
                              exact absurd H (by simp)
                          · rw [if_neg c69] at H
                            exact absurd H (by simp)
                        · rw [if_neg c68] at H
                          have c68b0 : decide (x18_4 < ji35) = false := decide_eq_false c68
                          clear c68
                          by_cases c74 : a2 > ji35
                          · rw [if_pos c74] at H
                            have c74b0 : decide (ji35 < a2) = true := decide_eq_true c74
                            clear c74
                            obtain rfl := Option.some.inj H
                            go_wp2
                            go_ret
                            exact ⟨by first | rfl | (simp [errW_none, errW_some] <;> rfl) | (simp only [← hji35]; first | rfl | (simp [errW_none, errW_some] <;> rfl)) | (simp [*, errW_none, errW_some] <;> rfl), by repeat (first | (with_reducible first | exact HB.out | apply below_alloc | apply pw_below_drewN | apply below_drew1) | exact HB.out)⟩
                          · rw [if_neg c74] at H
                            have c74b0 : decide (ji35 < a2) = false := decide_eq_false c74
                            clear c74
                            obtain rfl := Option.some.inj H
                            go_wp2
                            go_ret
                            exact ⟨by first | rfl | (simp [errW_none, errW_some] <;> rfl) | (simp only [← hji35]; first | rfl | (simp [errW_none, errW_some] <;> rfl)) | (simp [*, errW_none, errW_some] <;> rfl), by repeat (first | (with_reducible first | exact HB.out | apply below_alloc | apply pw_below_drewN | apply below_drew1) | exact HB.out)⟩
  · replace c8 := Bool.eq_false_iff.mpr c8
    subst c8
    have H1 : (if (wrap64 ((t335.length : Int) + (t339.length : Int))) = 0 then (if t343 = 0 then (if t338 = 1 then (if t342 = 1 then (if t344 = 1 then ((bellpulllaw02_lives.f k).bind fun t346 => (some t346)) else (none)) else (none)) else (none)) else (none)) else (none)) = some r := by rw [if_neg (show ¬ (false = true) by decide)] at H; exact H
    clear H
    have H := H1
    clear H1
    by_cases c75 : (wrap64 ((t335.length : Int) + (t339.length : Int))) = 0
    · rw [if_pos c75] at H
      have c75b0 : ((wrap64 ((t335.length : Int) + (t339.length : Int))) == 0) = true := beq_iff_eq.mpr c75
      have c75b1 : ((wrap64 ((t335.length : Int) + (t339.length : Int))) != 0) = false := bne_eq_false_iff_eq.mpr c75
      clear c75
      by_cases c76 : t343 = 0
      · rw [if_pos c76] at H
        have c76b0 : (t343 == 0) = true := beq_iff_eq.mpr c76
        have c76b1 : (t343 != 0) = false := bne_eq_false_iff_eq.mpr c76
        clear c76
        by_cases c77 : t338 = 1
        · rw [if_pos c77] at H
          have c77b0 : (t338 == 1) = true := beq_iff_eq.mpr c77
          have c77b1 : (t338 != 1) = false := bne_eq_false_iff_eq.mpr c77
          clear c77
          by_cases c78 : t342 = 1
          · rw [if_pos c78] at H
            have c78b0 : (t342 == 1) = true := beq_iff_eq.mpr c78
            have c78b1 : (t342 != 1) = false := bne_eq_false_iff_eq.mpr c78
            clear c78
            by_cases c79 : t344 = 1
            · rw [if_pos c79] at H
              have c79b0 : (t344 == 1) = true := beq_iff_eq.mpr c79
              have c79b1 : (t344 != 1) = false := bne_eq_false_iff_eq.mpr c79
              clear c79
              replace H := Option.bind_eq_some_iff.mp H
              obtain ⟨t346, A800, H⟩ := H
              replace H : (some t346) = some r := H
              have A80 := Aside0.mk A800
              clear A800
              obtain rfl := Option.some.inj H
              go_enter Try.func3, Try.ntmps3
              go_wp2_with (first | ((with_reducible refine gate_callee (f := 15) rfl ?_); refine goesL_ (some 23) rfl rfl Try.func15 (by kernel_rfl) rfl #[.int .i64 a0, .int .i64 a1, .int .i64 a2] rfl (by (try simp only [List.map_toArray, List.map_cons, List.map_nil]); first | done | rfl | (simp only [List.length_drop, List.length_take]; rfl)) ?_; (with_reducible refine (echo_Kolakoski.calls k a0 a1 a2 t335 t338 _ A4.out).mono ?_); rintro e w81 ⟨v336, rfl, ho0, hb⟩; refine ⟨_, rfl, ?_⟩; have n0_ := Aside0.mk (Kd.V_lower (Kd.V_mono (ok' := fun k_ => True) ho0 (fun k_ hk_ => trivial)) (below_size (by repeat (first | (with_reducible first | exact HB.out | apply below_alloc | apply pw_below_drewN | apply below_drew1) | exact HB.out)))); have n1_ := Aside0.mk (below_step (by repeat (first | (with_reducible first | exact HB.out | apply below_alloc | apply pw_below_drewN | apply below_drew1) | exact HB.out)) hb); clear HB; have HO337 := n0_; have HB := n1_; clear n0_ n1_; (try clear hb); (try clear hb2); (try clear hk); (try clear hi); (try clear ho0)) | ((with_reducible refine gate_callee (f := 16) rfl ?_); refine goesL_ (some 28) rfl rfl Try.func16 (by kernel_rfl) rfl #[.int .i64 a2] rfl (by (try simp only [List.map_toArray, List.map_cons, List.map_nil]); first | done | rfl | (simp only [List.length_drop, List.length_take]; rfl)) ?_; (with_reducible refine (echo_Golomb.calls k a2 t339 t342 _ A5.out).mono ?_); rintro e w82 ⟨v340, rfl, ho0, hb⟩; refine ⟨_, rfl, ?_⟩; have n0_ := Aside0.mk (Kd.V_below (by (with_reducible repeat (first | apply Kd.V_alloc | apply Kd.V_drewN | apply Kd.V_drew)); exact HO337.out) hb); have n1_ := Aside0.mk (Kd.V_lower (Kd.V_mono (ok' := fun k_ => True) ho0 (fun k_ hk_ => trivial)) (below_size (by repeat (first | (with_reducible first | exact HB.out | apply below_alloc | apply pw_below_drewN | apply below_drew1) | exact HB.out)))); have n2_ := Aside0.mk (below_step (by repeat (first | (with_reducible first | exact HB.out | apply below_alloc | apply pw_below_drewN | apply below_drew1) | exact HB.out)) hb); clear HO337; clear HB; have HO337 := n0_; have HO341 := n1_; have HB := n2_; clear n0_ n1_ n2_; (try clear hb); (try clear hb2); (try clear hk); (try clear hi); (try clear ho0)) | ((with_reducible refine gate_callee (f := 17) rfl ?_); refine goesL_ (some 33) rfl rfl Try.func17 (by kernel_rfl) rfl #[.int .i64 a2] rfl (by (try simp only [List.map_toArray, List.map_cons, List.map_nil]); first | done | rfl | (simp only [List.length_drop, List.length_take]; rfl)) ?_; (with_reducible refine (echo_Ones.calls k a2 t343 t344 _ A6.out).mono ?_); rintro e w83 ⟨rfl, hb⟩; refine ⟨_, rfl, ?_⟩; have n0_ := Aside0.mk (Kd.V_below (by (with_reducible repeat (first | apply Kd.V_alloc | apply Kd.V_drewN | apply Kd.V_drew)); exact HO337.out) hb); have n1_ := Aside0.mk (Kd.V_below (by (with_reducible repeat (first | apply Kd.V_alloc | apply Kd.V_drewN | apply Kd.V_drew)); exact HO341.out) hb); have n2_ := Aside0.mk (below_step (by repeat (first | (with_reducible first | exact HB.out | apply below_alloc | apply pw_below_drewN | apply below_drew1) | exact HB.out)) hb); clear HO337; clear HO341; clear HB; have HO337 := n0_; have HO341 := n1_; have HB := n2_; clear n0_ n1_ n2_; (try clear hb); (try clear hb2); (try clear hk); (try clear hi)) | ((with_reducible refine gate_callee (f := 18) rfl ?_); refine goesL_ (some 37) rfl rfl Try.func18 (by kernel_rfl) rfl #[.int .i64 a2, .int .i64 0, .int .i64 100000] rfl (by (try simp only [List.map_toArray, List.map_cons, List.map_nil]); first | done | rfl | (simp only [List.length_drop, List.length_take]; rfl)) ?_; (with_reducible refine (bellpullref01_In.calls a2 0 100000 false _ A7.out).mono ?_); rintro e w' ⟨rfl, ⟨nd, rfl⟩⟩; refine ⟨_, rfl, ?_⟩; obtain ⟨Ao84, co84, eo84⟩ := Kd.V_slice HO337.out; subst eo84; obtain ⟨Ao85, co85, eo85⟩ := Kd.V_slice HO341.out; subst eo85) | (go_at_call 19; (with_reducible refine (bellpulllaw02_lives.calls k  t346 _ A80.out).mono ?_); rintro e w86 ⟨rfl, hb⟩; have n0_ := Aside0.mk (Kd.V_below (by (with_reducible repeat (first | apply Kd.V_alloc | apply Kd.V_drewN | apply Kd.V_drew)); exact HO337.out) hb); have n1_ := Aside0.mk (Kd.V_below (by (with_reducible repeat (first | apply Kd.V_alloc | apply Kd.V_drewN | apply Kd.V_drew)); exact HO341.out) hb); have n2_ := Aside0.mk (below_step (by repeat (first | (with_reducible first | exact HB.out | apply below_alloc | apply pw_below_drewN | apply below_drew1) | exact HB.out)) hb); clear HO337; clear HO341; clear HB; have HO337 := n0_; have HO341 := n1_; have HB := n2_; clear n0_ n1_ n2_; (try clear hb); (try clear hb2); (try clear hk); (try clear hi)))
              go_ret
              exact ⟨by first | rfl | (simp [errW_none, errW_some] <;> rfl) | (simp [*, errW_none, errW_some] <;> rfl), by repeat (first | (with_reducible first | exact HB.out | apply below_alloc | apply pw_below_drewN | apply below_drew1) | exact HB.out)⟩
            · rw [if_neg c79] at H
              exact absurd H (by simp)
          · rw [if_neg c78] at H
            exact absurd H (by simp)
        · rw [if_neg c77] at H
          exact absurd H (by simp)
      · rw [if_neg c76] at H
        exact absurd H (by simp)
    · rw [if_neg c75] at H
      exact absurd H (by simp)

/-- THE ONE PURE STATEMENT of bellpulllaw02_EchoSequences: yours. -/
def bellpulllaw02_EchoSequences.Pure : Prop := ∀ (a0 : Int) (a1 : Int) (a2 : Int), (Lit.int .i64 a0).wf = true → (Lit.int .i64 a1).wf = true → (Lit.int .i64 a2).wf = true → ∃ k, bellpulllaw02_EchoSequences.f k a0 a1 a2 = some true
theorem bellpulllaw02_EchoSequences.walk (P : bellpulllaw02_EchoSequences.Pure) (a0 : Int) (a1 : Int) (a2 : Int) (w : World) (w0 : (Lit.int .i64 a0).wf = true) (w1 : (Lit.int .i64 a1).wf = true) (w2 : (Lit.int .i64 a2).wf = true) :
    Calls Try.prog 3 #[.int .i64 a0, .int .i64 a1, .int .i64 a2] w fun e w' => e = .returned (.bool true) ∧ Below w.heap.size w w' := by
  obtain ⟨k, h⟩ := P a0 a1 a2 w0 w1 w2
  refine (bellpulllaw02_EchoSequences.calls k a0 a1 a2 true w h).mono ?_
  rintro e w' ⟨rfl, hd⟩
  exact ⟨rfl, hd⟩

end Go.Proofs.Ytploaicljkennaa.PE
