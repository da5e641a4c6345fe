-- Written by pr2.py, a program of this session's, for this claim (through the kit's print).
import Derived.Test.YtploaicljkennaaPEx0
import Derived.Test.YtploaicljkennaaPEx2
import Derived.Test.YtploaicljkennaaPEx3
import Derived.Test.YtploaicljkennaaPEx4
import Derived.Test.YtploaicljkennaaPEx10
import Derived.Test.YtploaicljkennaaPEx12
namespace Go.Proofs.Ytploaicljkennaa.PE
open Go.RowKit Go.Proofs.YtploaicljkennaaW.PrintWords Go.Proofs.YtploaicljkennaaW.PrintLast Go.Proofs.YtploaicljkennaaW.PrintMore
attribute [local go_sem] max2_int min2_int max_two min_two max_three min_three max_four min_four   -- for this text's walks alone
set_option linter.unusedVariables false
set_option linter.unusedSimpArgs false

/-! ### bellpulllaw02_EchoDerivatives: function 11 -/
mutual
def bellpulllaw02_EchoDerivatives.j0 : Nat → List Int → List Int → Int → Bool → Int → Int → Int → List Int → Int → Int → Int → Option (Bool)
  | 0, _, _, _, _, _, _, _, _, _, _, _ => none
  | k + 1, x3, x4, x5, x6, x7, x8, x9, x10, x11, x12, x13 => if x13 = 0 then (bellpulllaw02_EchoDerivatives.j1 k x3 x4 x5 x6 x7 x8 x9 x10 x11 x12 x13 false) else (if (x10.length : Int) = 0 then (bellpulllaw02_EchoDerivatives.j1 k x3 x4 x5 x6 x7 x8 x9 x10 x11 x12 x13 (x11 != x13)) else (none))
def bellpulllaw02_EchoDerivatives.j1 : Nat → List Int → List Int → Int → Bool → Int → Int → Int → List Int → Int → Int → Int → Bool → Option (Bool)
  | 0, _, _, _, _, _, _, _, _, _, _, _, _ => none
  | k + 1, x3, x4, x5, x6, x7, x8, x9, x10, x11, x12, x13, x58 => if x58 = true then (none) else (if x12 = 0 then ((bellpullref02_Derivative.f k x3).bind fun bt602 => ((bellpullref02_Height.f k x3).bind fun t606 => (if bt602.2 = true then ((bellpullref01_Same.f k x4 bt602.1).bind fun t607 => (if t607 = true then (if x5 = 0 then (if x6 = true then (if t606 ≥ 0 then (if x7 = 0 then (if x8 = t606 then (if x9 = 0 then (if t606 < 0 then (if x8 = 0 then (if x9 = 5 then ((bellpulllaw02_lives.f k).bind fun t608 => (bellpulllaw02_EchoDerivatives.j2 k x3 x10 x11 x13 (!t608))) else (none)) else (none)) else ((bellpulllaw02_lives.f k).bind fun t609 => (bellpulllaw02_EchoDerivatives.j2 k x3 x10 x11 x13 (!t609)))) else (none)) else (none)) else (none)) else (none)) else (if t606 ≥ 0 then (none) else (if x7 = 0 then (if t606 < 0 then (if x8 = 0 then (if x9 = 5 then ((bellpulllaw02_lives.f k).bind fun t610 => (bellpulllaw02_EchoDerivatives.j2 k x3 x10 x11 x13 (!t610))) else (none)) else (none)) else ((bellpulllaw02_lives.f k).bind fun t611 => (bellpulllaw02_EchoDerivatives.j2 k x3 x10 x11 x13 (!t611)))) else (none)))) else (none)) else (none))) else (if (x4.length : Int) = 0 then (if x5 = 5 then (if x6 = true then (if t606 ≥ 0 then (if x7 = 0 then (if x8 = t606 then (if x9 = 0 then (if t606 < 0 then (if x8 = 0 then (if x9 = 5 then ((bellpulllaw02_lives.f k).bind fun t612 => (bellpulllaw02_EchoDerivatives.j2 k x3 x10 x11 x13 (!t612))) else (none)) else (none)) else ((bellpulllaw02_lives.f k).bind fun t613 => (bellpulllaw02_EchoDerivatives.j2 k x3 x10 x11 x13 (!t613)))) else (none)) else (none)) else (none)) else (none)) else (if t606 ≥ 0 then (none) else (if x7 = 0 then (if t606 < 0 then (if x8 = 0 then (if x9 = 5 then ((bellpulllaw02_lives.f k).bind fun t614 => (bellpulllaw02_EchoDerivatives.j2 k x3 x10 x11 x13 (!t614))) else (none)) else (none)) else ((bellpulllaw02_lives.f k).bind fun t615 => (bellpulllaw02_EchoDerivatives.j2 k x3 x10 x11 x13 (!t615)))) else (none)))) else (none)) else (none))))) else (if (x4.length : Int) = 0 then (if x6 = true then (none) else (if x8 = 0 then (if x5 = x12 then (if x7 = x12 then (if x9 = x12 then ((bellpulllaw02_lives.f k).bind fun t601 => (some t601)) else (none)) else (none)) else (none)) else (none))) else (none)))
def bellpulllaw02_EchoDerivatives.j2 : Nat → List Int → List Int → Int → Int → Bool → Option (Bool)
  | 0, _, _, _, _, _ => none
  | k + 1, x3, x10, x11, x13, x159 => if x159 = true then (none) else (if x13 = 0 then (bellpulllaw02_EchoDerivatives.l0 k x3 x10 x11 (([] : List Int)) 1) else (some true))
def bellpulllaw02_EchoDerivatives.l0 : Nat → List Int → List Int → Int → List Int → Int → Option (Bool)
  | 0, _, _, _, _, _ => none
  | k + 1, x3, x10, x11, x17, x18 => if x18 ≤ 2 then ((some (([] : List Int) : List Int)).bind fun y619 => (if y619.length + x3.length < 17592186044416 then ((some (y619 ++ x3 : List Int)).bind fun y622 => (if y622.length < 17592186044416 then ((bellpullref02_Height.f k (y622 ++ [x18])).bind fun t628 => (if t628 ≥ 0 then (if x17.length < 17592186044416 then (bellpulllaw02_EchoDerivatives.l0 k x3 x10 x11 (x17 ++ [x18]) (wrap64 (x18 + 1))) else (none)) else (bellpulllaw02_EchoDerivatives.l0 k x3 x10 x11 x17 (wrap64 (x18 + 1))))) else (none))) else (none))) else ((bellpullref01_Same.f k x10 x17).bind fun t632 => (if t632 = true then (some (x11 == 0)) else (none)))
end
def bellpulllaw02_EchoDerivatives.f (k : Nat) (l0 : List Int) : Option (Bool) := (bellpulllaw02_cut.f l0).bind fun t585 => ((echo_Derivative.f k t585).bind fun bt588 => ((echo_Smooth.f k t585).bind fun bt592 => ((echo_Height.f k t585).bind fun bt594 => ((echo_Extend.f k t585).bind fun bt596 => ((bellpullref02_Word.f k t585 2).bind fun t600 => (if (t585.length : Int) ≥ 200 then (bellpulllaw02_EchoDerivatives.j0 k t585 bt588.1 bt588.2 bt592.1 bt592.2 bt594.1 bt594.2 bt596.1 bt596.2 t600 3) else (bellpulllaw02_EchoDerivatives.j0 k t585 bt588.1 bt588.2 bt592.1 bt592.2 bt594.1 bt594.2 bt596.1 bt596.2 t600 t600)))))))
theorem bellpulllaw02_EchoDerivatives.mono_l : ∀ k, (∀ y0 y1 y2 y3 y4 y5 y6 y7 y8 y9 y10, LeO (bellpulllaw02_EchoDerivatives.j0 k y0 y1 y2 y3 y4 y5 y6 y7 y8 y9 y10) (bellpulllaw02_EchoDerivatives.j0 (k + 1) y0 y1 y2 y3 y4 y5 y6 y7 y8 y9 y10)) ∧ (∀ y0 y1 y2 y3 y4 y5 y6 y7 y8 y9 y10 y11, LeO (bellpulllaw02_EchoDerivatives.j1 k y0 y1 y2 y3 y4 y5 y6 y7 y8 y9 y10 y11) (bellpulllaw02_EchoDerivatives.j1 (k + 1) y0 y1 y2 y3 y4 y5 y6 y7 y8 y9 y10 y11)) ∧ (∀ y0 y1 y2 y3 y4, LeO (bellpulllaw02_EchoDerivatives.j2 k y0 y1 y2 y3 y4) (bellpulllaw02_EchoDerivatives.j2 (k + 1) y0 y1 y2 y3 y4)) ∧ (∀ y0 y1 y2 y3 y4, LeO (bellpulllaw02_EchoDerivatives.l0 k y0 y1 y2 y3 y4) (bellpulllaw02_EchoDerivatives.l0 (k + 1) y0 y1 y2 y3 y4))
  | 0 => ⟨fun _ _ _ _ _ _ _ _ _ _ _ r h => by simp [bellpulllaw02_EchoDerivatives.j0] at h, fun _ _ _ _ _ _ _ _ _ _ _ _ r h => by simp [bellpulllaw02_EchoDerivatives.j1] at h, fun _ _ _ _ _ r h => by simp [bellpulllaw02_EchoDerivatives.j2] at h, fun _ _ _ _ _ r h => by simp [bellpulllaw02_EchoDerivatives.l0] at h⟩
  | k + 1 => by
    obtain ⟨ih0, ih1, ih2, ih3⟩ := bellpulllaw02_EchoDerivatives.mono_l k
    refine ⟨?_, ?_, ?_, ?_⟩
    · intro y0 y1 y2 y3 y4 y5 y6 y7 y8 y9 y10
      unfold bellpulllaw02_EchoDerivatives.j0
      repeat' first
      | (with_reducible exact ih0 _ _ _ _ _ _ _ _ _ _ _)
      | (with_reducible exact ih1 _ _ _ _ _ _ _ _ _ _ _ _)
      | (with_reducible exact ih2 _ _ _ _ _)
      | (with_reducible exact ih3 _ _ _ _ _)
      | (with_reducible exact bellpulllaw02_lives.mono _)
      | (with_reducible exact bellpullref01_Same.mono _ _ _)
      | (with_reducible exact bellpullref02_Derivative.mono _ _)
      | (with_reducible exact bellpullref02_Height.mono _ _)
      | (with_reducible exact bellpullref02_Word.mono _ _ _)
      | (with_reducible exact echo_Derivative.mono _ _)
      | (with_reducible exact echo_Extend.mono _ _)
      | (with_reducible exact echo_Height.mono _ _)
      | (with_reducible exact echo_Smooth.mono _ _)
      | (with_reducible exact LeO.refl _)
      | (with_reducible exact LeO.none _)
      | (with_reducible refine LeO.ite ?_ ?_)
      | (with_reducible refine LeO.bind ?_ (fun _ => ?_))
      | exact ih0 _ _ _ _ _ _ _ _ _ _ _
      | exact ih1 _ _ _ _ _ _ _ _ _ _ _ _
      | exact ih2 _ _ _ _ _
      | exact ih3 _ _ _ _ _
      | exact bellpulllaw02_lives.mono _
      | exact bellpullref01_Same.mono _ _ _
      | exact bellpullref02_Derivative.mono _ _
      | exact bellpullref02_Height.mono _ _
      | exact bellpullref02_Word.mono _ _ _
      | exact echo_Derivative.mono _ _
      | exact echo_Extend.mono _ _
      | exact echo_Height.mono _ _
      | exact echo_Smooth.mono _ _
      | exact LeO.none _
      | refine LeO.ite ?_ ?_
      | refine LeO.bind ?_ (fun _ => ?_)
    · intro y0 y1 y2 y3 y4 y5 y6 y7 y8 y9 y10 y11
      unfold bellpulllaw02_EchoDerivatives.j1
      repeat' first
      | (with_reducible exact ih0 _ _ _ _ _ _ _ _ _ _ _)
      | (with_reducible exact ih1 _ _ _ _ _ _ _ _ _ _ _ _)
      | (with_reducible exact ih2 _ _ _ _ _)
      | (with_reducible exact ih3 _ _ _ _ _)
      | (with_reducible exact bellpulllaw02_lives.mono _)
      | (with_reducible exact bellpullref01_Same.mono _ _ _)
      | (with_reducible exact bellpullref02_Derivative.mono _ _)
      | (with_reducible exact bellpullref02_Height.mono _ _)
      | (with_reducible exact bellpullref02_Word.mono _ _ _)
      | (with_reducible exact echo_Derivative.mono _ _)
      | (with_reducible exact echo_Extend.mono _ _)
      | (with_reducible exact echo_Height.mono _ _)
      | (with_reducible exact echo_Smooth.mono _ _)
      | (with_reducible exact LeO.refl _)
      | (with_reducible exact LeO.none _)
      | (with_reducible refine LeO.ite ?_ ?_)
      | (with_reducible refine LeO.bind ?_ (fun _ => ?_))
      | exact ih0 _ _ _ _ _ _ _ _ _ _ _
      | exact ih1 _ _ _ _ _ _ _ _ _ _ _ _
      | exact ih2 _ _ _ _ _
      | exact ih3 _ _ _ _ _
      | exact bellpulllaw02_lives.mono _
      | exact bellpullref01_Same.mono _ _ _
      | exact bellpullref02_Derivative.mono _ _
      | exact bellpullref02_Height.mono _ _
      | exact bellpullref02_Word.mono _ _ _
      | exact echo_Derivative.mono _ _
      | exact echo_Extend.mono _ _
      | exact echo_Height.mono _ _
      | exact echo_Smooth.mono _ _
      | exact LeO.none _
      | refine LeO.ite ?_ ?_
      | refine LeO.bind ?_ (fun _ => ?_)
    · intro y0 y1 y2 y3 y4
      unfold bellpulllaw02_EchoDerivatives.j2
      repeat' first
      | (with_reducible exact ih0 _ _ _ _ _ _ _ _ _ _ _)
      | (with_reducible exact ih1 _ _ _ _ _ _ _ _ _ _ _ _)
      | (with_reducible exact ih2 _ _ _ _ _)
      | (with_reducible exact ih3 _ _ _ _ _)
      | (with_reducible exact bellpulllaw02_lives.mono _)
      | (with_reducible exact bellpullref01_Same.mono _ _ _)
      | (with_reducible exact bellpullref02_Derivative.mono _ _)
      | (with_reducible exact bellpullref02_Height.mono _ _)
      | (with_reducible exact bellpullref02_Word.mono _ _ _)
      | (with_reducible exact echo_Derivative.mono _ _)
      | (with_reducible exact echo_Extend.mono _ _)
      | (with_reducible exact echo_Height.mono _ _)
      | (with_reducible exact echo_Smooth.mono _ _)
      | (with_reducible exact LeO.refl _)
      | (with_reducible exact LeO.none _)
      | (with_reducible refine LeO.ite ?_ ?_)
      | (with_reducible refine LeO.bind ?_ (fun _ => ?_))
      | exact ih0 _ _ _ _ _ _ _ _ _ _ _
      | exact ih1 _ _ _ _ _ _ _ _ _ _ _ _
      | exact ih2 _ _ _ _ _
      | exact ih3 _ _ _ _ _
      | exact bellpulllaw02_lives.mono _
      | exact bellpullref01_Same.mono _ _ _
      | exact bellpullref02_Derivative.mono _ _
      | exact bellpullref02_Height.mono _ _
      | exact bellpullref02_Word.mono _ _ _
      | exact echo_Derivative.mono _ _
      | exact echo_Extend.mono _ _
      | exact echo_Height.mono _ _
      | exact echo_Smooth.mono _ _
      | exact LeO.none _
      | refine LeO.ite ?_ ?_
      | refine LeO.bind ?_ (fun _ => ?_)
    · intro y0 y1 y2 y3 y4
      unfold bellpulllaw02_EchoDerivatives.l0
      repeat' first
      | (with_reducible exact ih0 _ _ _ _ _ _ _ _ _ _ _)
      | (with_reducible exact ih1 _ _ _ _ _ _ _ _ _ _ _ _)
      | (with_reducible exact ih2 _ _ _ _ _)
      | (with_reducible exact ih3 _ _ _ _ _)
      | (with_reducible exact bellpulllaw02_lives.mono _)
      | (with_reducible exact bellpullref01_Same.mono _ _ _)
      | (with_reducible exact bellpullref02_Derivative.mono _ _)
      | (with_reducible exact bellpullref02_Height.mono _ _)
      | (with_reducible exact bellpullref02_Word.mono _ _ _)
      | (with_reducible exact echo_Derivative.mono _ _)
      | (with_reducible exact echo_Extend.mono _ _)
      | (with_reducible exact echo_Height.mono _ _)
      | (with_reducible exact echo_Smooth.mono _ _)
      | (with_reducible exact LeO.refl _)
      | (with_reducible exact LeO.none _)
      | (with_reducible refine LeO.ite ?_ ?_)
      | (with_reducible refine LeO.bind ?_ (fun _ => ?_))
      | exact ih0 _ _ _ _ _ _ _ _ _ _ _
      | exact ih1 _ _ _ _ _ _ _ _ _ _ _ _
      | exact ih2 _ _ _ _ _
      | exact ih3 _ _ _ _ _
      | exact bellpulllaw02_lives.mono _
      | exact bellpullref01_Same.mono _ _ _
      | exact bellpullref02_Derivative.mono _ _
      | exact bellpullref02_Height.mono _ _
      | exact bellpullref02_Word.mono _ _ _
      | exact echo_Derivative.mono _ _
      | exact echo_Extend.mono _ _
      | exact echo_Height.mono _ _
      | exact echo_Smooth.mono _ _
      | exact LeO.none _
      | refine LeO.ite ?_ ?_
      | refine LeO.bind ?_ (fun _ => ?_)
theorem bellpulllaw02_EchoDerivatives.mono : ∀ a0 k, LeO (bellpulllaw02_EchoDerivatives.f k a0) (bellpulllaw02_EchoDerivatives.f (k + 1) a0) := by
  intro a0 k
  obtain ⟨ih0, ih1, ih2, ih3⟩ := bellpulllaw02_EchoDerivatives.mono_l k
  unfold bellpulllaw02_EchoDerivatives.f
  repeat' first
      | (with_reducible exact ih0 _ _ _ _ _ _ _ _ _ _ _)
      | (with_reducible exact ih1 _ _ _ _ _ _ _ _ _ _ _ _)
      | (with_reducible exact ih2 _ _ _ _ _)
      | (with_reducible exact ih3 _ _ _ _ _)
      | (with_reducible exact bellpulllaw02_lives.mono _)
      | (with_reducible exact bellpullref01_Same.mono _ _ _)
      | (with_reducible exact bellpullref02_Derivative.mono _ _)
      | (with_reducible exact bellpullref02_Height.mono _ _)
      | (with_reducible exact bellpullref02_Word.mono _ _ _)
      | (with_reducible exact echo_Derivative.mono _ _)
      | (with_reducible exact echo_Extend.mono _ _)
      | (with_reducible exact echo_Height.mono _ _)
      | (with_reducible exact echo_Smooth.mono _ _)
      | (with_reducible exact LeO.refl _)
      | (with_reducible exact LeO.none _)
      | (with_reducible refine LeO.ite ?_ ?_)
      | (with_reducible refine LeO.bind ?_ (fun _ => ?_))
      | exact ih0 _ _ _ _ _ _ _ _ _ _ _
      | exact ih1 _ _ _ _ _ _ _ _ _ _ _ _
      | exact ih2 _ _ _ _ _
      | exact ih3 _ _ _ _ _
      | exact bellpulllaw02_lives.mono _
      | exact bellpullref01_Same.mono _ _ _
      | exact bellpullref02_Derivative.mono _ _
      | exact bellpullref02_Height.mono _ _
      | exact bellpullref02_Word.mono _ _ _
      | exact echo_Derivative.mono _ _
      | exact echo_Extend.mono _ _
      | exact echo_Height.mono _ _
      | exact echo_Smooth.mono _ _
      | exact LeO.none _
      | refine LeO.ite ?_ ?_
      | refine LeO.bind ?_ (fun _ => ?_)
set_option maxHeartbeats 8000000 in
set_option maxRecDepth 100000 in
theorem bellpulllaw02_EchoDerivatives.calls (k : Nat) (A0 : Option Addr) (c0 : Nat) (l0 : List Int) (r : Bool) (w : World) (hr0 : Kd.C (Kd.int .i64) w A0 l0.length l0) (hc0 : l0.length ≤ c0) (h : bellpulllaw02_EchoDerivatives.f k l0 = some r) :
    Calls Try.prog 11 #[.slice A0 l0.length c0] w fun e w' => e = .returned (.bool r) ∧ Below w.heap.size w w' := by
  have HR0 := Aside0.mk hr0
  have HC0 := Aside0.mk hc0
  clear hr0 hc0
  have HB := Aside0.mk (Below.refl w.heap.size w)
  have H : ((bellpulllaw02_cut.f l0).bind fun t585 => ((echo_Derivative.f k t585).bind fun bt588 => ((echo_Smooth.f k t585).bind fun bt592 => ((echo_Height.f k t585).bind fun bt594 => ((echo_Extend.f k t585).bind fun bt596 => ((bellpullref02_Word.f k t585 2).bind fun t600 => (if (t585.length : Int) ≥ 200 then (bellpulllaw02_EchoDerivatives.j0 k t585 bt588.1 bt588.2 bt592.1 bt592.2 bt594.1 bt594.2 bt596.1 bt596.2 t600 3) else (bellpulllaw02_EchoDerivatives.j0 k t585 bt588.1 bt588.2 bt592.1 bt592.2 bt594.1 bt594.2 bt596.1 bt596.2 t600 t600)))))))) = some r := h
  clear h
  replace H := Option.bind_eq_some_iff.mp H
  obtain ⟨t585, A20, H⟩ := H
  replace H : ((echo_Derivative.f k t585).bind fun bt588 => ((echo_Smooth.f k t585).bind fun bt592 => ((echo_Height.f k t585).bind fun bt594 => ((echo_Extend.f k t585).bind fun bt596 => ((bellpullref02_Word.f k t585 2).bind fun t600 => (if (t585.length : Int) ≥ 200 then (bellpulllaw02_EchoDerivatives.j0 k t585 bt588.1 bt588.2 bt592.1 bt592.2 bt594.1 bt594.2 bt596.1 bt596.2 t600 3) else (bellpulllaw02_EchoDerivatives.j0 k t585 bt588.1 bt588.2 bt592.1 bt592.2 bt594.1 bt594.2 bt596.1 bt596.2 t600 t600))))))) = some r := H
  have A2 := Aside0.mk A20
  clear A20
  replace H := Option.bind_eq_some_iff.mp H
  obtain ⟨⟨t588, t589⟩, A30, H⟩ := H
  replace H : ((echo_Smooth.f k t585).bind fun bt592 => ((echo_Height.f k t585).bind fun bt594 => ((echo_Extend.f k t585).bind fun bt596 => ((bellpullref02_Word.f k t585 2).bind fun t600 => (if (t585.length : Int) ≥ 200 then (bellpulllaw02_EchoDerivatives.j0 k t585 t588 t589 bt592.1 bt592.2 bt594.1 bt594.2 bt596.1 bt596.2 t600 3) else (bellpulllaw02_EchoDerivatives.j0 k t585 t588 t589 bt592.1 bt592.2 bt594.1 bt594.2 bt596.1 bt596.2 t600 t600)))))) = some r := H
  have A3 := Aside0.mk A30
  clear A30
  replace H := Option.bind_eq_some_iff.mp H
  obtain ⟨⟨t592, t593⟩, A40, H⟩ := H
  replace H : ((echo_Height.f k t585).bind fun bt594 => ((echo_Extend.f k t585).bind fun bt596 => ((bellpullref02_Word.f k t585 2).bind fun t600 => (if (t585.length : Int) ≥ 200 then (bellpulllaw02_EchoDerivatives.j0 k t585 t588 t589 t592 t593 bt594.1 bt594.2 bt596.1 bt596.2 t600 3) else (bellpulllaw02_EchoDerivatives.j0 k t585 t588 t589 t592 t593 bt594.1 bt594.2 bt596.1 bt596.2 t600 t600))))) = some r := H
  have A4 := Aside0.mk A40
  clear A40
  replace H := Option.bind_eq_some_iff.mp H
  obtain ⟨⟨t594, t595⟩, A50, H⟩ := H
  replace H : ((echo_Extend.f k t585).bind fun bt596 => ((bellpullref02_Word.f k t585 2).bind fun t600 => (if (t585.length : Int) ≥ 200 then (bellpulllaw02_EchoDerivatives.j0 k t585 t588 t589 t592 t593 t594 t595 bt596.1 bt596.2 t600 3) else (bellpulllaw02_EchoDerivatives.j0 k t585 t588 t589 t592 t593 t594 t595 bt596.1 bt596.2 t600 t600)))) = some r := H
  have A5 := Aside0.mk A50
  clear A50
  replace H := Option.bind_eq_some_iff.mp H
  obtain ⟨⟨t596, t597⟩, A60, H⟩ := H
  replace H : ((bellpullref02_Word.f k t585 2).bind fun t600 => (if (t585.length : Int) ≥ 200 then (bellpulllaw02_EchoDerivatives.j0 k t585 t588 t589 t592 t593 t594 t595 t596 t597 t600 3) else (bellpulllaw02_EchoDerivatives.j0 k t585 t588 t589 t592 t593 t594 t595 t596 t597 t600 t600))) = some r := H
  have A6 := Aside0.mk A60
  clear A60
  replace H := Option.bind_eq_some_iff.mp H
  obtain ⟨t600, A70, H⟩ := H
  replace H : (if (t585.length : Int) ≥ 200 then (bellpulllaw02_EchoDerivatives.j0 k t585 t588 t589 t592 t593 t594 t595 t596 t597 t600 3) else (bellpulllaw02_EchoDerivatives.j0 k t585 t588 t589 t592 t593 t594 t595 t596 t597 t600 t600)) = some r := H
  have A7 := Aside0.mk A70
  clear A70
  have HC8 := Aside0.mk H
  clear H
  go_enter Try.func11, Try.ntmps11
  go_upto_if 46 with (first | ((with_reducible refine gate_callee (f := 31) rfl ?_); refine goesL_ (some 20) rfl rfl Try.func31 (by kernel_rfl) rfl #[.slice A0 l0.length c0] rfl (by (try simp only [List.map_toArray, List.map_cons, List.map_nil]); first | done | rfl | (simp only [List.length_drop, List.length_take]; rfl)) ?_; (with_reducible refine (bellpulllaw02_cut.calls _ _ l0 t585 _ ?side1 ?side2 A2.out).mono ?_); (case side1 => repeat (first | exact HR0.out | (with_reducible refine Kd.C_alloc ?_ _) | (with_reducible refine Kd.C_drewN ?_ _) | (with_reducible refine Kd.C_drew ?_))); (case side2 => exact HC0.out); rintro e w9 ⟨v586, rfl, ho0, hb⟩; refine ⟨_, rfl, ?_⟩; have n0_ := Aside0.mk (Kd.R_lower ho0 (below_size (by repeat (first | (with_reducible first | exact HB.out | apply below_alloc | apply pw_below_drewN | apply below_drew1) | exact HB.out)))); have n1_ := Aside0.mk (below_step (by repeat (first | (with_reducible first | exact HB.out | apply below_alloc | apply pw_below_drewN | apply below_drew1) | exact HB.out)) hb); clear HB; have HO587 := n0_; have HB := n1_; clear n0_ n1_; (try clear hb); (try clear hb2); (try clear hk); (try clear hi); (try clear ho0); obtain ⟨Ao10, co10, eo10⟩ := Kd.R_slice HO587.out; subst eo10) | ((with_reducible refine gate_callee (f := 29) rfl ?_); refine goesL_ (some 23) rfl rfl Try.func29 (by kernel_rfl) rfl #[.slice Ao10 t585.length co10] rfl (by (try simp only [List.map_toArray, List.map_cons, List.map_nil]); first | done | rfl | (simp only [List.length_drop, List.length_take]; rfl)) ?_; (with_reducible refine (echo_Derivative.calls k _ _ t585 t588 t589 _ ?side1 ?side2 A3.out).mono ?_); (case side1 => repeat (first | exact (Kd.R_reads' HO587.out).2.2 | (with_reducible refine Kd.C_alloc ?_ _) | (with_reducible refine Kd.C_drewN ?_ _) | (with_reducible refine Kd.C_drew ?_))); (case side2 => exact (Kd.R_reads' HO587.out).2.1); rintro e w11 ⟨v590, rfl, ho0, hb⟩; refine ⟨_, rfl, ?_⟩; have n0_ := Aside0.mk (Kd.R_elder' (by (with_reducible repeat (first | apply Kd.R_alloc | apply Kd.R_drewN | apply Kd.R_drew)); exact HO587.out) (Kd.Q_base ho0) hb); have n1_ := Aside0.mk (Kd.Q_lower (Kd.Q_new' ho0 (Kd.R_lt (by (with_reducible repeat (first | apply Kd.R_alloc | apply Kd.R_drewN | apply Kd.R_drew)); exact HO587.out))) (below_size (by repeat (first | (with_reducible first | exact HB.out | apply below_alloc | apply pw_below_drewN | apply below_drew1) | exact HB.out)))); have n2_ := Aside0.mk (below_step (by repeat (first | (with_reducible first | exact HB.out | apply below_alloc | apply pw_below_drewN | apply below_drew1) | exact HB.out)) hb); clear HO587; clear HB; have HO587 := n0_; have HO591 := n1_; have HB := n2_; clear n0_ n1_ n2_; (try clear hb); (try clear hb2); (try clear hk); (try clear hi); (try clear ho0)) | ((with_reducible refine gate_callee (f := 28) rfl ?_); refine goesL_ (some 28) rfl rfl Try.func28 (by kernel_rfl) rfl #[.slice Ao10 t585.length co10] rfl (by (try simp only [List.map_toArray, List.map_cons, List.map_nil]); first | done | rfl | (simp only [List.length_drop, List.length_take]; rfl)) ?_; (with_reducible refine (echo_Smooth.calls k _ _ t585 t592 t593 _ ?side1 ?side2 A4.out).mono ?_); (case side1 => repeat (first | exact (Kd.R_reads' HO587.out).2.2 | (with_reducible refine Kd.C_alloc ?_ _) | (with_reducible refine Kd.C_drewN ?_ _) | (with_reducible refine Kd.C_drew ?_))); (case side2 => exact (Kd.R_reads' HO587.out).2.1); rintro e w12 ⟨rfl, hb⟩; refine ⟨_, rfl, ?_⟩; have n0_ := Aside0.mk (Kd.R_below (by (with_reducible repeat (first | apply Kd.R_alloc | apply Kd.R_drewN | apply Kd.R_drew)); exact HO587.out) hb); have n1_ := Aside0.mk (Kd.Q_below (by (with_reducible repeat (first | apply Kd.Q_alloc | apply Kd.Q_drewN | apply Kd.Q_drew)); exact HO591.out) hb); have n2_ := Aside0.mk (below_step (by repeat (first | (with_reducible first | exact HB.out | apply below_alloc | apply pw_below_drewN | apply below_drew1) | exact HB.out)) hb); clear HO587; clear HO591; clear HB; have HO587 := n0_; have HO591 := n1_; have HB := n2_; clear n0_ n1_ n2_; (try clear hb); (try clear hb2); (try clear hk); (try clear hi)) | ((with_reducible refine gate_callee (f := 30) rfl ?_); refine goesL_ (some 33) rfl rfl Try.func30 (by kernel_rfl) rfl #[.slice Ao10 t585.length co10] rfl (by (try simp only [List.map_toArray, List.map_cons, List.map_nil]); first | done | rfl | (simp only [List.length_drop, List.length_take]; rfl)) ?_; (with_reducible refine (echo_Height.calls k _ _ t585 t594 t595 _ ?side1 ?side2 A5.out).mono ?_); (case side1 => repeat (first | exact (Kd.R_reads' HO587.out).2.2 | (with_reducible refine Kd.C_alloc ?_ _) | (with_reducible refine Kd.C_drewN ?_ _) | (with_reducible refine Kd.C_drew ?_))); (case side2 => exact (Kd.R_reads' HO587.out).2.1); rintro e w13 ⟨rfl, hb⟩; refine ⟨_, rfl, ?_⟩; have n0_ := Aside0.mk (Kd.R_below (by (with_reducible repeat (first | apply Kd.R_alloc | apply Kd.R_drewN | apply Kd.R_drew)); exact HO587.out) hb); have n1_ := Aside0.mk (Kd.Q_below (by (with_reducible repeat (first | apply Kd.Q_alloc | apply Kd.Q_drewN | apply Kd.Q_drew)); exact HO591.out) hb); have n2_ := Aside0.mk (below_step (by repeat (first | (with_reducible first | exact HB.out | apply below_alloc | apply pw_below_drewN | apply below_drew1) | exact HB.out)) hb); clear HO587; clear HO591; clear HB; have HO587 := n0_; have HO591 := n1_; have HB := n2_; clear n0_ n1_ n2_; (try clear hb); (try clear hb2); (try clear hk); (try clear hi)) | ((with_reducible refine gate_callee (f := 34) rfl ?_); refine goesL_ (some 38) rfl rfl Try.func34 (by kernel_rfl) rfl #[.slice Ao10 t585.length co10] rfl (by (try simp only [List.map_toArray, List.map_cons, List.map_nil]); first | done | rfl | (simp only [List.length_drop, List.length_take]; rfl)) ?_; (with_reducible refine (echo_Extend.calls k _ _ t585 t596 t597 _ ?side1 ?side2 A6.out).mono ?_); (case side1 => repeat (first | exact (Kd.R_reads' HO587.out).2.2 | (with_reducible refine Kd.C_alloc ?_ _) | (with_reducible refine Kd.C_drewN ?_ _) | (with_reducible refine Kd.C_drew ?_))); (case side2 => exact (Kd.R_reads' HO587.out).2.1); rintro e w14 ⟨v598, rfl, ho0, hb⟩; refine ⟨_, rfl, ?_⟩; have n0_ := Aside0.mk (Kd.R_elder' (by (with_reducible repeat (first | apply Kd.R_alloc | apply Kd.R_drewN | apply Kd.R_drew)); exact HO587.out) (Kd.R_base ho0) hb); have n1_ := Aside0.mk (Kd.Q_elder' (by (with_reducible repeat (first | apply Kd.Q_alloc | apply Kd.Q_drewN | apply Kd.Q_drew)); exact HO591.out) (Kd.R_base ho0) hb); have n2_ := Aside0.mk (Kd.R_lower (Kd.R_new' (Kd.R_new' ho0 (Kd.R_lt (by (with_reducible repeat (first | apply Kd.R_alloc | apply Kd.R_drewN | apply Kd.R_drew)); exact HO587.out))) (Kd.Q_lt (by (with_reducible repeat (first | apply Kd.Q_alloc | apply Kd.Q_drewN | apply Kd.Q_drew)); exact HO591.out))) (below_size (by repeat (first | (with_reducible first | exact HB.out | apply below_alloc | apply pw_below_drewN | apply below_drew1) | exact HB.out)))); have n3_ := Aside0.mk (below_step (by repeat (first | (with_reducible first | exact HB.out | apply below_alloc | apply pw_below_drewN | apply below_drew1) | exact HB.out)) hb); clear HO587; clear HO591; clear HB; have HO587 := n0_; have HO591 := n1_; have HO599 := n2_; have HB := n3_; clear n0_ n1_ n2_ n3_; (try clear hb); (try clear hb2); (try clear hk); (try clear hi); (try clear ho0)) | ((with_reducible refine gate_callee (f := 33) rfl ?_); refine goesL_ (some 42) rfl rfl Try.func33 (by kernel_rfl) rfl #[.slice Ao10 t585.length co10, .int .i64 2] rfl (by (try simp only [List.map_toArray, List.map_cons, List.map_nil]); first | done | rfl | (simp only [List.length_drop, List.length_take]; rfl)) ?_; (with_reducible refine (bellpullref02_Word.calls k _ _ t585 2 t600 _ ?side1 ?side2 A7.out).mono ?_); (case side1 => repeat (first | exact (Kd.R_reads' HO587.out).2.2 | (with_reducible refine Kd.C_alloc ?_ _) | (with_reducible refine Kd.C_drewN ?_ _) | (with_reducible refine Kd.C_drew ?_))); (case side2 => exact (Kd.R_reads' HO587.out).2.1); rintro e w' ⟨rfl, ⟨nd, rfl⟩⟩; refine ⟨_, rfl, ?_⟩))
  (try simp only [Act.put, List.setIfInBounds_toArray, List.set_cons_zero, List.set_cons_succ])
  go_cut [13] (fun v13 wc => ∃ (kq : Nat) (x13_7 : Int), v13 = .int .i64 x13_7 ∧ Aside0 (bellpulllaw02_EchoDerivatives.j0 kq t585 t588 t589 t592 t593 t594 t595 t596 t597 t600 x13_7 = some r) ∧ Aside0 (kq ≤ k) ∧ Aside0 (Kd.R (Kd.int .i64) 3 wc w.heap.size (fun k_ => some k_ ≠ (v590 : Value).ownBlock ∧ some k_ ≠ (v598 : Value).ownBlock) (.slice Ao10 t585.length co10) t585) ∧ Aside0 (Kd.Q (Kd.int .i64) 3 wc w.heap.size (fun k_ => some k_ ≠ ((.slice Ao10 t585.length co10) : Value).ownBlock ∧ some k_ ≠ (v598 : Value).ownBlock) v590 t588) ∧ Aside0 (Kd.R (Kd.int .i64) 3 wc w.heap.size (fun k_ => some k_ ≠ ((.slice Ao10 t585.length co10) : Value).ownBlock ∧ some k_ ≠ (v590 : Value).ownBlock) v598 t596) ∧ Aside0 (Below w.heap.size w wc))
  case first =>
    have H := HC8.out
    clear HC8
    by_cases c15 : (t585.length : Int) ≥ 200
    · rw [if_pos c15] at H
      have c15b0 : decide (200 ≤ (t585.length : Int)) = true := decide_eq_true c15
      have c15b1 : decide (200 ≤ t585.length) = true := decide_eq_true (by omega)
      clear c15
      (first | rw [c15b0] | (simp only [i64_w, i32_w]; rw [c15b0]) | skip)
      have H' := Aside0.mk H
      clear H
      go_wp2
      go_meet
      case rel => exact ⟨_, (3), (by first | rfl | (simp; done) | (simp [*]; done)), H', ⟨by first | omega | exact Nat.le_refl _⟩, ⟨by (with_reducible repeat (first | apply Kd.R_alloc | apply Kd.R_drewN | apply Kd.R_drew)); exact Kd.R_mono HO587.out (fun _ hk => ⟨hk.1.2, hk.2⟩)⟩, ⟨by (with_reducible repeat (first | apply Kd.Q_alloc | apply Kd.Q_drewN | apply Kd.Q_drew)); exact Kd.Q_mono HO591.out (fun _ hk => ⟨hk.1.2, hk.2⟩)⟩, ⟨by (with_reducible repeat (first | apply Kd.R_alloc | apply Kd.R_drewN | apply Kd.R_drew)); exact Kd.R_mono HO599.out (fun _ hk => ⟨hk.1.2, hk.2⟩)⟩, ⟨by repeat (first | (with_reducible first | exact HB.out | apply below_alloc | apply pw_below_drewN | apply below_drew1) | exact HB.out)⟩⟩
    · rw [if_neg c15] at H
      have c15b0 : decide (200 ≤ (t585.length : Int)) = false := decide_eq_false c15
      have c15b1 : decide (200 ≤ t585.length) = false := decide_eq_false (by omega)
      clear c15
      (first | rw [c15b0] | (simp only [i64_w, i32_w]; rw [c15b0]) | skip)
      have H' := Aside0.mk H
      clear H
      go_wp2
      go_meet
      case rel => exact ⟨_, (t600), (by first | rfl | (simp; done) | (simp [*]; done)), H', ⟨by first | omega | exact Nat.le_refl _⟩, ⟨by (with_reducible repeat (first | apply Kd.R_alloc | apply Kd.R_drewN | apply Kd.R_drew)); exact Kd.R_mono HO587.out (fun _ hk => ⟨hk.1.2, hk.2⟩)⟩, ⟨by (with_reducible repeat (first | apply Kd.Q_alloc | apply Kd.Q_drewN | apply Kd.Q_drew)); exact Kd.Q_mono HO591.out (fun _ hk => ⟨hk.1.2, hk.2⟩)⟩, ⟨by (with_reducible repeat (first | apply Kd.R_alloc | apply Kd.R_drewN | apply Kd.R_drew)); exact Kd.R_mono HO599.out (fun _ hk => ⟨hk.1.2, hk.2⟩)⟩, ⟨by repeat (first | (with_reducible first | exact HB.out | apply below_alloc | apply pw_below_drewN | apply below_drew1) | exact HB.out)⟩⟩
  case rest =>
    clear HC8
    try clear c1
    try clear c2
    try clear p2
    try clear c3
    try clear c11
    try clear c15
    try clear c15b0
    try clear c15b1
    obtain ⟨kq, x13_7, rfl, HA, HJ7, HO_3, HO_4, HO_10, HB⟩ := hcut
    cases kq with
    | zero => exact absurd HA.out (by simp [bellpulllaw02_EchoDerivatives.j0])
    | succ kj7 =>
      have H := HA.out
      clear HA
      simp only [bellpulllaw02_EchoDerivatives.j0] at H
      have HC16 := Aside0.mk H
      clear H
      go_upto_region 10 with (fail)
      go_cut [58] (fun v58 wc => ∃ (kq : Nat) (x58_15 : Bool), v58 = .bool x58_15 ∧ Aside0 (bellpulllaw02_EchoDerivatives.j1 kq t585 t588 t589 t592 t593 t594 t595 t596 t597 t600 x13_7 x58_15 = some r) ∧ Aside0 (kq ≤ kj7) ∧ Aside0 (Kd.R (Kd.int .i64) 3 wc w.heap.size (fun k_ => some k_ ≠ (v590 : Value).ownBlock ∧ some k_ ≠ (v598 : Value).ownBlock) (.slice Ao10 t585.length co10) t585) ∧ Aside0 (Kd.Q (Kd.int .i64) 3 wc w.heap.size (fun k_ => some k_ ≠ ((.slice Ao10 t585.length co10) : Value).ownBlock ∧ some k_ ≠ (v598 : Value).ownBlock) v590 t588) ∧ Aside0 (Kd.R (Kd.int .i64) 3 wc w.heap.size (fun k_ => some k_ ≠ ((.slice Ao10 t585.length co10) : Value).ownBlock ∧ some k_ ≠ (v590 : Value).ownBlock) v598 t596) ∧ Aside0 (Below w.heap.size w wc))
      case first =>
        have H := HC16.out
        clear HC16
        by_cases c17 : x13_7 = 0
        · rw [if_pos c17] at H
          have c17b0 : (x13_7 == 0) = true := beq_iff_eq.mpr c17
          have c17b1 : (x13_7 != 0) = false := bne_eq_false_iff_eq.mpr c17
          clear c17
          (first | rw [c17b0] | (simp only [i64_w, i32_w]; rw [c17b0]) | skip)
          have H' := Aside0.mk H
          clear H
          go_wp2
          go_meet
          case rel => exact ⟨_, (false), (by first | rfl | (simp; done) | (simp [*]; done)), H', ⟨by have := HJ7.out; first | omega | exact Nat.le_refl _⟩, ⟨by (with_reducible repeat (first | apply Kd.R_alloc | apply Kd.R_drewN | apply Kd.R_drew)); exact HO_3.out⟩, ⟨by (with_reducible repeat (first | apply Kd.Q_alloc | apply Kd.Q_drewN | apply Kd.Q_drew)); exact HO_4.out⟩, ⟨by (with_reducible repeat (first | apply Kd.R_alloc | apply Kd.R_drewN | apply Kd.R_drew)); exact HO_10.out⟩, ⟨by repeat (first | (with_reducible first | exact HB.out | apply below_alloc | apply pw_below_drewN | apply below_drew1) | exact HB.out)⟩⟩
        · rw [if_neg c17] at H
          have c17b0 : (x13_7 == 0) = false := beq_eq_false_iff_ne.mpr c17
          have c17b1 : (x13_7 != 0) = true := bne_iff_ne.mpr c17
          (first | rw [c17b0] | (simp only [i64_w, i32_w]; rw [c17b0]) | skip)
          by_cases c18 : (t596.length : Int) = 0
          · rw [if_pos c18] at H
            have c18b0 : ((t596.length : Int) == 0) = true := beq_iff_eq.mpr c18
            have c18b1 : ((t596.length : Int) != 0) = false := bne_eq_false_iff_eq.mpr c18
            clear c18
            have H' := Aside0.mk H
            clear H
            obtain ⟨Ao19, co19, eo19⟩ := Kd.R_slice HO_10.out
            subst eo19
            go_wp2
            go_meet
            case rel => exact ⟨_, ((t597 != x13_7)), (by first | rfl | (simp; done) | (simp [*]; done)), H', ⟨by have := HJ7.out; first | omega | exact Nat.le_refl _⟩, ⟨by (with_reducible repeat (first | apply Kd.R_alloc | apply Kd.R_drewN | apply Kd.R_drew)); exact HO_3.out⟩, ⟨by (with_reducible repeat (first | apply Kd.Q_alloc | apply Kd.Q_drewN | apply Kd.Q_drew)); exact HO_4.out⟩, ⟨by (with_reducible repeat (first | apply Kd.R_alloc | apply Kd.R_drewN | apply Kd.R_drew)); exact HO_10.out⟩, ⟨by repeat (first | (with_reducible first | exact HB.out | apply below_alloc | apply pw_below_drewN | apply below_drew1) | exact HB.out)⟩⟩
          · rw [if_neg c18] at H
            exact absurd H (by simp)
      case rest =>
        clear HC16
        try clear c1
        try clear c2
        try clear p2
        try clear c3
        try clear c11
        try clear c15
        try clear c15b0
        try clear c15b1
        try clear c17
        try clear c17b0
        try clear c17b1
        try clear c18
        try clear c18b0
        try clear c18b1
        try clear p2
        obtain ⟨kq, x58_15, rfl, HA, HJ15, HO_3, HO_4, HO_10, HB⟩ := hcut
        cases kq with
        | zero => exact absurd HA.out (by simp [bellpulllaw02_EchoDerivatives.j1])
        | succ kj15 =>
          have H := HA.out
          clear HA
          simp only [bellpulllaw02_EchoDerivatives.j1] at H
          by_cases c20 : x58_15 = true
          · subst c20
            have H1 : (none) = some r := by rw [if_pos rfl] at H; exact H
            clear H
            have H := H1
            clear H1
            exact absurd H (by simp)
          · replace c20 := Bool.eq_false_iff.mpr c20
            subst c20
            have H1 : (if t600 = 0 then ((bellpullref02_Derivative.f kj15 t585).bind fun bt602 => ((bellpullref02_Height.f kj15 t585).bind fun t606 => (if bt602.2 = true then ((bellpullref01_Same.f kj15 t588 bt602.1).bind fun t607 => (if t607 = true then (if t589 = 0 then (if t592 = true then (if t606 ≥ 0 then (if t593 = 0 then (if t594 = t606 then (if t595 = 0 then (if t606 < 0 then (if t594 = 0 then (if t595 = 5 then ((bellpulllaw02_lives.f kj15).bind fun t608 => (bellpulllaw02_EchoDerivatives.j2 kj15 t585 t596 t597 x13_7 (!t608))) else (none)) else (none)) else ((bellpulllaw02_lives.f kj15).bind fun t609 => (bellpulllaw02_EchoDerivatives.j2 kj15 t585 t596 t597 x13_7 (!t609)))) else (none)) else (none)) else (none)) else (none)) else (if t606 ≥ 0 then (none) else (if t593 = 0 then (if t606 < 0 then (if t594 = 0 then (if t595 = 5 then ((bellpulllaw02_lives.f kj15).bind fun t610 => (bellpulllaw02_EchoDerivatives.j2 kj15 t585 t596 t597 x13_7 (!t610))) else (none)) else (none)) else ((bellpulllaw02_lives.f kj15).bind fun t611 => (bellpulllaw02_EchoDerivatives.j2 kj15 t585 t596 t597 x13_7 (!t611)))) else (none)))) else (none)) else (none))) else (if (t588.length : Int) = 0 then (if t589 = 5 then (if t592 = true then (if t606 ≥ 0 then (if t593 = 0 then (if t594 = t606 then (if t595 = 0 then (if t606 < 0 then (if t594 = 0 then (if t595 = 5 then ((bellpulllaw02_lives.f kj15).bind fun t612 => (bellpulllaw02_EchoDerivatives.j2 kj15 t585 t596 t597 x13_7 (!t612))) else (none)) else (none)) else ((bellpulllaw02_lives.f kj15).bind fun t613 => (bellpulllaw02_EchoDerivatives.j2 kj15 t585 t596 t597 x13_7 (!t613)))) else (none)) else (none)) else (none)) else (none)) else (if t606 ≥ 0 then (none) else (if t593 = 0 then (if t606 < 0 then (if t594 = 0 then (if t595 = 5 then ((bellpulllaw02_lives.f kj15).bind fun t614 => (bellpulllaw02_EchoDerivatives.j2 kj15 t585 t596 t597 x13_7 (!t614))) else (none)) else (none)) else ((bellpulllaw02_lives.f kj15).bind fun t615 => (bellpulllaw02_EchoDerivatives.j2 kj15 t585 t596 t597 x13_7 (!t615)))) else (none)))) else (none)) else (none))))) else (if (t588.length : Int) = 0 then (if t592 = true then (none) else (if t594 = 0 then (if t589 = t600 then (if t593 = t600 then (if t595 = t600 then ((bellpulllaw02_lives.f kj15).bind fun t601 => (some t601)) else (none)) else (none)) else (none)) else (none))) else (none))) = some r := by rw [if_neg (show ¬ (false = true) by decide)] at H; exact H
            clear H
            have H := H1
            clear H1
            by_cases c21 : t600 = 0
            · rw [if_pos c21] at H
              have c21b0 : (t600 == 0) = true := beq_iff_eq.mpr c21
              have c21b1 : (t600 != 0) = false := bne_eq_false_iff_eq.mpr c21
              clear c21
              replace H := Option.bind_eq_some_iff.mp H
              obtain ⟨⟨t602, t603⟩, A220, H⟩ := H
              replace H : ((bellpullref02_Height.f kj15 t585).bind fun t606 => (if t603 = true then ((bellpullref01_Same.f kj15 t588 t602).bind fun t607 => (if t607 = true then (if t589 = 0 then (if t592 = true then (if t606 ≥ 0 then (if t593 = 0 then (if t594 = t606 then (if t595 = 0 then (if t606 < 0 then (if t594 = 0 then (if t595 = 5 then ((bellpulllaw02_lives.f kj15).bind fun t608 => (bellpulllaw02_EchoDerivatives.j2 kj15 t585 t596 t597 x13_7 (!t608))) else (none)) else (none)) else ((bellpulllaw02_lives.f kj15).bind fun t609 => (bellpulllaw02_EchoDerivatives.j2 kj15 t585 t596 t597 x13_7 (!t609)))) else (none)) else (none)) else (none)) else (none)) else (if t606 ≥ 0 then (none) else (if t593 = 0 then (if t606 < 0 then (if t594 = 0 then (if t595 = 5 then ((bellpulllaw02_lives.f kj15).bind fun t610 => (bellpulllaw02_EchoDerivatives.j2 kj15 t585 t596 t597 x13_7 (!t610))) else (none)) else (none)) else ((bellpulllaw02_lives.f kj15).bind fun t611 => (bellpulllaw02_EchoDerivatives.j2 kj15 t585 t596 t597 x13_7 (!t611)))) else (none)))) else (none)) else (none))) else (if (t588.length : Int) = 0 then (if t589 = 5 then (if t592 = true then (if t606 ≥ 0 then (if t593 = 0 then (if t594 = t606 then (if t595 = 0 then (if t606 < 0 then (if t594 = 0 then (if t595 = 5 then ((bellpulllaw02_lives.f kj15).bind fun t612 => (bellpulllaw02_EchoDerivatives.j2 kj15 t585 t596 t597 x13_7 (!t612))) else (none)) else (none)) else ((bellpulllaw02_lives.f kj15).bind fun t613 => (bellpulllaw02_EchoDerivatives.j2 kj15 t585 t596 t597 x13_7 (!t613)))) else (none)) else (none)) else (none)) else (none)) else (if t606 ≥ 0 then (none) else (if t593 = 0 then (if t606 < 0 then (if t594 = 0 then (if t595 = 5 then ((bellpulllaw02_lives.f kj15).bind fun t614 => (bellpulllaw02_EchoDerivatives.j2 kj15 t585 t596 t597 x13_7 (!t614))) else (none)) else (none)) else ((bellpulllaw02_lives.f kj15).bind fun t615 => (bellpulllaw02_EchoDerivatives.j2 kj15 t585 t596 t597 x13_7 (!t615)))) else (none)))) else (none)) else (none)))) = some r := H
              have A22 := Aside0.mk A220
              clear A220
              replace H := Option.bind_eq_some_iff.mp H
              obtain ⟨t606, A230, H⟩ := H
              replace H : (if t603 = true then ((bellpullref01_Same.f kj15 t588 t602).bind fun t607 => (if t607 = true then (if t589 = 0 then (if t592 = true then (if t606 ≥ 0 then (if t593 = 0 then (if t594 = t606 then (if t595 = 0 then (if t606 < 0 then (if t594 = 0 then (if t595 = 5 then ((bellpulllaw02_lives.f kj15).bind fun t608 => (bellpulllaw02_EchoDerivatives.j2 kj15 t585 t596 t597 x13_7 (!t608))) else (none)) else (none)) else ((bellpulllaw02_lives.f kj15).bind fun t609 => (bellpulllaw02_EchoDerivatives.j2 kj15 t585 t596 t597 x13_7 (!t609)))) else (none)) else (none)) else (none)) else (none)) else (if t606 ≥ 0 then (none) else (if t593 = 0 then (if t606 < 0 then (if t594 = 0 then (if t595 = 5 then ((bellpulllaw02_lives.f kj15).bind fun t610 => (bellpulllaw02_EchoDerivatives.j2 kj15 t585 t596 t597 x13_7 (!t610))) else (none)) else (none)) else ((bellpulllaw02_lives.f kj15).bind fun t611 => (bellpulllaw02_EchoDerivatives.j2 kj15 t585 t596 t597 x13_7 (!t611)))) else (none)))) else (none)) else (none))) else (if (t588.length : Int) = 0 then (if t589 = 5 then (if t592 = true then (if t606 ≥ 0 then (if t593 = 0 then (if t594 = t606 then (if t595 = 0 then (if t606 < 0 then (if t594 = 0 then (if t595 = 5 then ((bellpulllaw02_lives.f kj15).bind fun t612 => (bellpulllaw02_EchoDerivatives.j2 kj15 t585 t596 t597 x13_7 (!t612))) else (none)) else (none)) else ((bellpulllaw02_lives.f kj15).bind fun t613 => (bellpulllaw02_EchoDerivatives.j2 kj15 t585 t596 t597 x13_7 (!t613)))) else (none)) else (none)) else (none)) else (none)) else (if t606 ≥ 0 then (none) else (if t593 = 0 then (if t606 < 0 then (if t594 = 0 then (if t595 = 5 then ((bellpulllaw02_lives.f kj15).bind fun t614 => (bellpulllaw02_EchoDerivatives.j2 kj15 t585 t596 t597 x13_7 (!t614))) else (none)) else (none)) else ((bellpulllaw02_lives.f kj15).bind fun t615 => (bellpulllaw02_EchoDerivatives.j2 kj15 t585 t596 t597 x13_7 (!t615)))) else (none)))) else (none)) else (none))) = some r := H
              have A23 := Aside0.mk A230
              clear A230
              have HC24 := Aside0.mk H
              clear H
              go_upto_region 16 with (first | ((with_reducible refine gate_callee (f := 35) rfl ?_); refine goesL_ (some 92) rfl rfl Try.func35 (by kernel_rfl) rfl #[.slice Ao10 t585.length co10] rfl (by (try simp only [List.map_toArray, List.map_cons, List.map_nil]); first | done | rfl | (simp only [List.length_drop, List.length_take]; rfl)) ?_; (with_reducible refine (bellpullref02_Derivative.calls kj15 _ _ t585 t602 t603 _ ?side1 ?side2 A22.out).mono ?_); (case side1 => repeat (first | exact (Kd.R_reads' HO_3.out).2.2 | (with_reducible refine Kd.C_alloc ?_ _) | (with_reducible refine Kd.C_drewN ?_ _) | (with_reducible refine Kd.C_drew ?_))); (case side2 => exact (Kd.R_reads' HO_3.out).2.1); rintro e w25 ⟨v604, rfl, ho0, hb⟩; refine ⟨_, rfl, ?_⟩; have n0_ := Aside0.mk (Kd.R_elder' (by (with_reducible repeat (first | apply Kd.R_alloc | apply Kd.R_drewN | apply Kd.R_drew)); exact HO_3.out) (Kd.R_base ho0) hb); have n1_ := Aside0.mk (Kd.Q_elder' (by (with_reducible repeat (first | apply Kd.Q_alloc | apply Kd.Q_drewN | apply Kd.Q_drew)); exact HO_4.out) (Kd.R_base ho0) hb); have n2_ := Aside0.mk (Kd.R_elder' (by (with_reducible repeat (first | apply Kd.R_alloc | apply Kd.R_drewN | apply Kd.R_drew)); exact HO_10.out) (Kd.R_base ho0) hb); have n3_ := Aside0.mk (Kd.R_lower (Kd.R_new' (Kd.R_new' (Kd.R_new' ho0 (Kd.R_lt (by (with_reducible repeat (first | apply Kd.R_alloc | apply Kd.R_drewN | apply Kd.R_drew)); exact HO_3.out))) (Kd.Q_lt (by (with_reducible repeat (first | apply Kd.Q_alloc | apply Kd.Q_drewN | apply Kd.Q_drew)); exact HO_4.out))) (Kd.R_lt (by (with_reducible repeat (first | apply Kd.R_alloc | apply Kd.R_drewN | apply Kd.R_drew)); exact HO_10.out))) (below_size (by repeat (first | (with_reducible first | exact HB.out | apply below_alloc | apply pw_below_drewN | apply below_drew1) | exact HB.out)))); have n4_ := Aside0.mk (below_step (by repeat (first | (with_reducible first | exact HB.out | apply below_alloc | apply pw_below_drewN | apply below_drew1) | exact HB.out)) hb); clear HO_3; clear HO_4; clear HO_10; clear HB; have HO_3 := n0_; have HO_4 := n1_; have HO_10 := n2_; have HO605 := n3_; have HB := n4_; clear n0_ n1_ n2_ n3_ n4_; (try clear hb); (try clear hb2); (try clear hk); (try clear hi); (try clear ho0)) | ((with_reducible refine gate_callee (f := 36) rfl ?_); refine goesL_ (some 96) rfl rfl Try.func36 (by kernel_rfl) rfl #[.slice Ao10 t585.length co10] rfl (by (try simp only [List.map_toArray, List.map_cons, List.map_nil]); first | done | rfl | (simp only [List.length_drop, List.length_take]; rfl)) ?_; (with_reducible refine (bellpullref02_Height.calls kj15 (fun k_ => some k_ = (.slice Ao10 t585.length co10 : Value).ownBlock) _ _ t585 t606 _ ?side1 A23.out).mono ?_); (case side1 => exact Kd.R_V (Kd.R_tight rfl (HO_3.out))); rintro e w26 ⟨rfl, hb⟩; refine ⟨_, rfl, ?_⟩; have n0_ := Aside0.mk (Kd.R_below (by (with_reducible repeat (first | apply Kd.R_alloc | apply Kd.R_drewN | apply Kd.R_drew)); exact HO_3.out) hb); have n1_ := Aside0.mk (Kd.Q_below (by (with_reducible repeat (first | apply Kd.Q_alloc | apply Kd.Q_drewN | apply Kd.Q_drew)); exact HO_4.out) hb); have n2_ := Aside0.mk (Kd.R_below (by (with_reducible repeat (first | apply Kd.R_alloc | apply Kd.R_drewN | apply Kd.R_drew)); exact HO_10.out) hb); have n3_ := Aside0.mk (Kd.R_below (by (with_reducible repeat (first | apply Kd.R_alloc | apply Kd.R_drewN | apply Kd.R_drew)); exact HO605.out) hb); have n4_ := Aside0.mk (below_step (by repeat (first | (with_reducible first | exact HB.out | apply below_alloc | apply pw_below_drewN | apply below_drew1) | exact HB.out)) hb); clear HO_3; clear HO_4; clear HO_10; clear HO605; clear HB; have HO_3 := n0_; have HO_4 := n1_; have HO_10 := n2_; have HO605 := n3_; have HB := n4_; clear n0_ n1_ n2_ n3_ n4_; (try clear hb); (try clear hb2); (try clear hk); (try clear hi)))
              (try simp only [Act.put, List.setIfInBounds_toArray, List.set_cons_zero, List.set_cons_succ])
              go_cut [159] (fun v159 wc => ∃ (kq : Nat) (x159_23 : Bool), v159 = .bool x159_23 ∧ Aside0 (bellpulllaw02_EchoDerivatives.j2 kq t585 t596 t597 x13_7 x159_23 = some r) ∧ Aside0 (kq ≤ kj15) ∧ Aside0 (Kd.R (Kd.int .i64) 3 wc w.heap.size (fun k_ => some k_ ≠ (v598 : Value).ownBlock) (.slice Ao10 t585.length co10) t585) ∧ Aside0 (Kd.R (Kd.int .i64) 3 wc w.heap.size (fun k_ => some k_ ≠ ((.slice Ao10 t585.length co10) : Value).ownBlock) v598 t596) ∧ Aside0 (Below w.heap.size w wc))
              case first =>
                have H := HC24.out
                clear HC24
                by_cases c27 : t603 = true
                · subst c27
                  have H1 : ((bellpullref01_Same.f kj15 t588 t602).bind fun t607 => (if t607 = true then (if t589 = 0 then (if t592 = true then (if t606 ≥ 0 then (if t593 = 0 then (if t594 = t606 then (if t595 = 0 then (if t606 < 0 then (if t594 = 0 then (if t595 = 5 then ((bellpulllaw02_lives.f kj15).bind fun t608 => (bellpulllaw02_EchoDerivatives.j2 kj15 t585 t596 t597 x13_7 (!t608))) else (none)) else (none)) else ((bellpulllaw02_lives.f kj15).bind fun t609 => (bellpulllaw02_EchoDerivatives.j2 kj15 t585 t596 t597 x13_7 (!t609)))) else (none)) else (none)) else (none)) else (none)) else (if t606 ≥ 0 then (none) else (if t593 = 0 then (if t606 < 0 then (if t594 = 0 then (if t595 = 5 then ((bellpulllaw02_lives.f kj15).bind fun t610 => (bellpulllaw02_EchoDerivatives.j2 kj15 t585 t596 t597 x13_7 (!t610))) else (none)) else (none)) else ((bellpulllaw02_lives.f kj15).bind fun t611 => (bellpulllaw02_EchoDerivatives.j2 kj15 t585 t596 t597 x13_7 (!t611)))) else (none)))) else (none)) else (none))) = some r := by rw [if_pos rfl] at H; exact H
                  clear H
                  have H := H1
                  clear H1
                  replace H := Option.bind_eq_some_iff.mp H
                  obtain ⟨t607, A280, H⟩ := H
                  replace H : (if t607 = true then (if t589 = 0 then (if t592 = true then (if t606 ≥ 0 then (if t593 = 0 then (if t594 = t606 then (if t595 = 0 then (if t606 < 0 then (if t594 = 0 then (if t595 = 5 then ((bellpulllaw02_lives.f kj15).bind fun t608 => (bellpulllaw02_EchoDerivatives.j2 kj15 t585 t596 t597 x13_7 (!t608))) else (none)) else (none)) else ((bellpulllaw02_lives.f kj15).bind fun t609 => (bellpulllaw02_EchoDerivatives.j2 kj15 t585 t596 t597 x13_7 (!t609)))) else (none)) else (none)) else (none)) else (none)) else (if t606 ≥ 0 then (none) else (if t593 = 0 then (if t606 < 0 then (if t594 = 0 then (if t595 = 5 then ((bellpulllaw02_lives.f kj15).bind fun t610 => (bellpulllaw02_EchoDerivatives.j2 kj15 t585 t596 t597 x13_7 (!t610))) else (none)) else (none)) else ((bellpulllaw02_lives.f kj15).bind fun t611 => (bellpulllaw02_EchoDerivatives.j2 kj15 t585 t596 t597 x13_7 (!t611)))) else (none)))) else (none)) else (none)) = some r := H
                  have A28 := Aside0.mk A280
                  clear A280
                  by_cases c29 : t607 = true
                  · subst c29
                    have H1 : (if t589 = 0 then (if t592 = true then (if t606 ≥ 0 then (if t593 = 0 then (if t594 = t606 then (if t595 = 0 then (if t606 < 0 then (if t594 = 0 then (if t595 = 5 then ((bellpulllaw02_lives.f kj15).bind fun t608 => (bellpulllaw02_EchoDerivatives.j2 kj15 t585 t596 t597 x13_7 (!t608))) else (none)) else (none)) else ((bellpulllaw02_lives.f kj15).bind fun t609 => (bellpulllaw02_EchoDerivatives.j2 kj15 t585 t596 t597 x13_7 (!t609)))) else (none)) else (none)) else (none)) else (none)) else (if t606 ≥ 0 then (none) else (if t593 = 0 then (if t606 < 0 then (if t594 = 0 then (if t595 = 5 then ((bellpulllaw02_lives.f kj15).bind fun t610 => (bellpulllaw02_EchoDerivatives.j2 kj15 t585 t596 t597 x13_7 (!t610))) else (none)) else (none)) else ((bellpulllaw02_lives.f kj15).bind fun t611 => (bellpulllaw02_EchoDerivatives.j2 kj15 t585 t596 t597 x13_7 (!t611)))) else (none)))) else (none)) = some r := by rw [if_pos rfl] at H; exact H
                    clear H
                    have H := H1
                    clear H1
                    by_cases c30 : t589 = 0
                    · rw [if_pos c30] at H
                      have c30b0 : (t589 == 0) = true := beq_iff_eq.mpr c30
                      have c30b1 : (t589 != 0) = false := bne_eq_false_iff_eq.mpr c30
                      clear c30
                      (first | rw [c30b0] | (simp only [i64_w, i32_w]; rw [c30b0]) | skip)
                      by_cases c31 : t592 = true
                      · subst c31
                        have H1 : (if t606 ≥ 0 then (if t593 = 0 then (if t594 = t606 then (if t595 = 0 then (if t606 < 0 then (if t594 = 0 then (if t595 = 5 then ((bellpulllaw02_lives.f kj15).bind fun t608 => (bellpulllaw02_EchoDerivatives.j2 kj15 t585 t596 t597 x13_7 (!t608))) else (none)) else (none)) else ((bellpulllaw02_lives.f kj15).bind fun t609 => (bellpulllaw02_EchoDerivatives.j2 kj15 t585 t596 t597 x13_7 (!t609)))) else (none)) else (none)) else (none)) else (none)) = some r := by rw [if_pos rfl] at H; exact H
                        clear H
                        have H := H1
                        clear H1
                        by_cases c32 : t606 ≥ 0
                        · rw [if_pos c32] at H
                          have c32b0 : decide (0 ≤ t606) = true := decide_eq_true c32
                          clear c32
                          by_cases c33 : t593 = 0
                          · rw [if_pos c33] at H
                            have c33b0 : (t593 == 0) = true := beq_iff_eq.mpr c33
                            have c33b1 : (t593 != 0) = false := bne_eq_false_iff_eq.mpr c33
                            clear c33
                            by_cases c34 : t594 = t606
                            · rw [if_pos c34] at H
                              have c34b0 : (t594 == t606) = true := beq_iff_eq.mpr c34
                              have c34b1 : (t594 != t606) = false := bne_eq_false_iff_eq.mpr c34
                              clear c34
                              by_cases c35 : t595 = 0
                              · rw [if_pos c35] at H
                                have c35b0 : (t595 == 0) = true := beq_iff_eq.mpr c35
                                have c35b1 : (t595 != 0) = false := bne_eq_false_iff_eq.mpr c35
                                clear c35
                                by_cases c36 : t606 < 0
                                · rw [if_pos c36] at H
                                  have c36b0 : decide (t606 < 0) = true := decide_eq_true c36
                                  clear c36
                                  by_cases c37 : t594 = 0
                                  · rw [if_pos c37] at H
                                    have c37b0 : (t594 == 0) = true := beq_iff_eq.mpr c37
                                    have c37b1 : (t594 != 0) = false := bne_eq_false_iff_eq.mpr c37
                                    clear c37
                                    by_cases c38 : t595 = 5
                                    · rw [if_pos c38] at H
                                      have c38b0 : (t595 == 5) = true := beq_iff_eq.mpr c38
                                      have c38b1 : (t595 != 5) = false := bne_eq_false_iff_eq.mpr c38
                                      clear c38
                                      replace H := Option.bind_eq_some_iff.mp H
                                      obtain ⟨t608, A390, H⟩ := H
                                      replace H : (bellpulllaw02_EchoDerivatives.j2 kj15 t585 t596 t597 x13_7 (!t608)) = some r := H
                                      have A39 := Aside0.mk A390
                                      clear A390
                                      have H' := Aside0.mk H
                                      clear H
                                      obtain ⟨Ao40, co40, eo40, _⟩ := Kd.Q_slice HO_4.out
                                      subst eo40
                                      obtain ⟨Ao41, co41, eo41⟩ := Kd.R_slice HO605.out
                                      subst eo41
                                      go_wp2_with (first | (go_at_call 20; (with_reducible refine (bellpullref01_Same.calls kj15 _ _ t588 _ _ t602 true _ ?side1 ?side2 ?side3 ?side4 A28.out).mono ?_); (case side1 => repeat (first | exact (Kd.Q_reads' HO_4.out).2.2 | (with_reducible refine Kd.C_alloc ?_ _) | (with_reducible refine Kd.C_drewN ?_ _) | (with_reducible refine Kd.C_drew ?_))); (case side2 => exact (Kd.Q_reads' HO_4.out).2.1); (case side3 => repeat (first | exact (Kd.R_reads' HO605.out).2.2 | (with_reducible refine Kd.C_alloc ?_ _) | (with_reducible refine Kd.C_drewN ?_ _) | (with_reducible refine Kd.C_drew ?_))); (case side4 => exact (Kd.R_reads' HO605.out).2.1); rintro e w' ⟨rfl, ⟨nd, rfl⟩⟩) | (go_at_call 19; (with_reducible refine (bellpulllaw02_lives.calls kj15  t608 _ A39.out).mono ?_); rintro e w42 ⟨rfl, hb⟩; have n0_ := Aside0.mk (Kd.R_below (by (with_reducible repeat (first | apply Kd.R_alloc | apply Kd.R_drewN | apply Kd.R_drew)); exact HO_3.out) hb); have n1_ := Aside0.mk (Kd.Q_below (by (with_reducible repeat (first | apply Kd.Q_alloc | apply Kd.Q_drewN | apply Kd.Q_drew)); exact HO_4.out) hb); have n2_ := Aside0.mk (Kd.R_below (by (with_reducible repeat (first | apply Kd.R_alloc | apply Kd.R_drewN | apply Kd.R_drew)); exact HO_10.out) hb); have n3_ := Aside0.mk (Kd.R_below (by (with_reducible repeat (first | apply Kd.R_alloc | apply Kd.R_drewN | apply Kd.R_drew)); exact HO605.out) hb); have n4_ := Aside0.mk (below_step (by repeat (first | (with_reducible first | exact HB.out | apply below_alloc | apply pw_below_drewN | apply below_drew1) | exact HB.out)) hb); clear HO_3; clear HO_4; clear HO_10; clear HO605; clear HB; have HO_3 := n0_; have HO_4 := n1_; have HO_10 := n2_; have HO605 := n3_; have HB := n4_; clear n0_ n1_ n2_ n3_ n4_; (try clear hb); (try clear hb2); (try clear hk); (try clear hi)))
                                      go_meet
                                      case rel => exact ⟨_, (!t608), (by first | rfl | (simp; done) | (simp [*]; done)), H', ⟨by have := HJ7.out; have := HJ15.out; first | omega | exact Nat.le_refl _⟩, ⟨by (with_reducible repeat (first | apply Kd.R_alloc | apply Kd.R_drewN | apply Kd.R_drew)); exact Kd.R_mono HO_3.out (fun _ hk => hk.1.2)⟩, ⟨by (with_reducible repeat (first | apply Kd.R_alloc | apply Kd.R_drewN | apply Kd.R_drew)); exact Kd.R_mono HO_10.out (fun _ hk => hk.1.1)⟩, ⟨by repeat (first | (with_reducible first | exact HB.out | apply below_alloc | apply pw_below_drewN | apply below_drew1) | exact HB.out)⟩⟩
                                    · rw [if_neg c38] at H
                                      exact absurd H (by simp)
                                  · rw [if_neg c37] at H
                                    exact absurd H (by simp)
                                · rw [if_neg c36] at H
                                  have c36b0 : decide (t606 < 0) = false := decide_eq_false c36
                                  clear c36
                                  replace H := Option.bind_eq_some_iff.mp H
                                  obtain ⟨t609, A430, H⟩ := H
                                  replace H : (bellpulllaw02_EchoDerivatives.j2 kj15 t585 t596 t597 x13_7 (!t609)) = some r := H
                                  have A43 := Aside0.mk A430
                                  clear A430
                                  have H' := Aside0.mk H
                                  clear H
                                  obtain ⟨Ao44, co44, eo44, _⟩ := Kd.Q_slice HO_4.out
                                  subst eo44
                                  obtain ⟨Ao45, co45, eo45⟩ := Kd.R_slice HO605.out
                                  subst eo45
                                  go_wp2_with (first | (go_at_call 20; (with_reducible refine (bellpullref01_Same.calls kj15 _ _ t588 _ _ t602 true _ ?side1 ?side2 ?side3 ?side4 A28.out).mono ?_); (case side1 => repeat (first | exact (Kd.Q_reads' HO_4.out).2.2 | (with_reducible refine Kd.C_alloc ?_ _) | (with_reducible refine Kd.C_drewN ?_ _) | (with_reducible refine Kd.C_drew ?_))); (case side2 => exact (Kd.Q_reads' HO_4.out).2.1); (case side3 => repeat (first | exact (Kd.R_reads' HO605.out).2.2 | (with_reducible refine Kd.C_alloc ?_ _) | (with_reducible refine Kd.C_drewN ?_ _) | (with_reducible refine Kd.C_drew ?_))); (case side4 => exact (Kd.R_reads' HO605.out).2.1); rintro e w' ⟨rfl, ⟨nd, rfl⟩⟩) | (go_at_call 19; (with_reducible refine (bellpulllaw02_lives.calls kj15  t609 _ A43.out).mono ?_); rintro e w46 ⟨rfl, hb⟩; have n0_ := Aside0.mk (Kd.R_below (by (with_reducible repeat (first | apply Kd.R_alloc | apply Kd.R_drewN | apply Kd.R_drew)); exact HO_3.out) hb); have n1_ := Aside0.mk (Kd.Q_below (by (with_reducible repeat (first | apply Kd.Q_alloc | apply Kd.Q_drewN | apply Kd.Q_drew)); exact HO_4.out) hb); have n2_ := Aside0.mk (Kd.R_below (by (with_reducible repeat (first | apply Kd.R_alloc | apply Kd.R_drewN | apply Kd.R_drew)); exact HO_10.out) hb); have n3_ := Aside0.mk (Kd.R_below (by (with_reducible repeat (first | apply Kd.R_alloc | apply Kd.R_drewN | apply Kd.R_drew)); exact HO605.out) hb); have n4_ := Aside0.mk (below_step (by repeat (first | (with_reducible first | exact HB.out | apply below_alloc | apply pw_below_drewN | apply below_drew1) | exact HB.out)) hb); clear HO_3; clear HO_4; clear HO_10; clear HO605; clear HB; have HO_3 := n0_; have HO_4 := n1_; have HO_10 := n2_; have HO605 := n3_; have HB := n4_; clear n0_ n1_ n2_ n3_ n4_; (try clear hb); (try clear hb2); (try clear hk); (try clear hi)))
                                  go_meet
                                  case rel => exact ⟨_, (!t609), (by first | rfl | (simp; done) | (simp [*]; done)), H', ⟨by have := HJ7.out; have := HJ15.out; first | omega | exact Nat.le_refl _⟩, ⟨by (with_reducible repeat (first | apply Kd.R_alloc | apply Kd.R_drewN | apply Kd.R_drew)); exact Kd.R_mono HO_3.out (fun _ hk => hk.1.2)⟩, ⟨by (with_reducible repeat (first | apply Kd.R_alloc | apply Kd.R_drewN | apply Kd.R_drew)); exact Kd.R_mono HO_10.out (fun _ hk => hk.1.1)⟩, ⟨by repeat (first | (with_reducible first | exact HB.out | apply below_alloc | apply pw_below_drewN | apply below_drew1) | exact HB.out)⟩⟩
                              · rw [if_neg c35] at H
                                exact absurd H (by simp)
                            · rw [if_neg c34] at H
                              exact absurd H (by simp)
                          · rw [if_neg c33] at H
                            exact absurd H (by simp)
                        · rw [if_neg c32] at H
                          exact absurd H (by simp)
                      · replace c31 := Bool.eq_false_iff.mpr c31
                        subst c31
                        have H1 : (if t606 ≥ 0 then (none) else (if t593 = 0 then (if t606 < 0 then (if t594 = 0 then (if t595 = 5 then ((bellpulllaw02_lives.f kj15).bind fun t610 => (bellpulllaw02_EchoDerivatives.j2 kj15 t585 t596 t597 x13_7 (!t610))) else (none)) else (none)) else ((bellpulllaw02_lives.f kj15).bind fun t611 => (bellpulllaw02_EchoDerivatives.j2 kj15 t585 t596 t597 x13_7 (!t611)))) else (none))) = some r := by rw [if_neg (show ¬ (false = true) by decide)] at H; exact H
                        clear H
                        have H := H1
                        clear H1
                        by_cases c47 : t606 ≥ 0
                        · rw [if_pos c47] at H
                          exact absurd H (by simp)
                        · rw [if_neg c47] at H
                          have c47b0 : decide (0 ≤ t606) = false := decide_eq_false c47
                          clear c47
                          by_cases c48 : t593 = 0
                          · rw [if_pos c48] at H
                            have c48b0 : (t593 == 0) = true := beq_iff_eq.mpr c48
                            have c48b1 : (t593 != 0) = false := bne_eq_false_iff_eq.mpr c48
                            clear c48
                            by_cases c49 : t606 < 0
                            · rw [if_pos c49] at H
                              have c49b0 : decide (t606 < 0) = true := decide_eq_true c49
                              clear c49
                              by_cases c50 : t594 = 0
                              · rw [if_pos c50] at H
                                have c50b0 : (t594 == 0) = true := beq_iff_eq.mpr c50
                                have c50b1 : (t594 != 0) = false := bne_eq_false_iff_eq.mpr c50
                                clear c50
                                by_cases c51 : t595 = 5
                                · rw [if_pos c51] at H
                                  have c51b0 : (t595 == 5) = true := beq_iff_eq.mpr c51
                                  have c51b1 : (t595 != 5) = false := bne_eq_false_iff_eq.mpr c51
                                  clear c51
                                  replace H := Option.bind_eq_some_iff.mp H
                                  obtain ⟨t610, A520, H⟩ := H
                                  replace H : (bellpulllaw02_EchoDerivatives.j2 kj15 t585 t596 t597 x13_7 (!t610)) = some r := H
                                  have A52 := Aside0.mk A520
                                  clear A520
                                  have H' := Aside0.mk H
                                  clear H
                                  obtain ⟨Ao53, co53, eo53, _⟩ := Kd.Q_slice HO_4.out
                                  subst eo53
                                  obtain ⟨Ao54, co54, eo54⟩ := Kd.R_slice HO605.out
                                  subst eo54
                                  go_wp2_with (first | (go_at_call 20; (with_reducible refine (bellpullref01_Same.calls kj15 _ _ t588 _ _ t602 true _ ?side1 ?side2 ?side3 ?side4 A28.out).mono ?_); (case side1 => repeat (first | exact (Kd.Q_reads' HO_4.out).2.2 | (with_reducible refine Kd.C_alloc ?_ _) | (with_reducible refine Kd.C_drewN ?_ _) | (with_reducible refine Kd.C_drew ?_))); (case side2 => exact (Kd.Q_reads' HO_4.out).2.1); (case side3 => repeat (first | exact (Kd.R_reads' HO605.out).2.2 | (with_reducible refine Kd.C_alloc ?_ _) | (with_reducible refine Kd.C_drewN ?_ _) | (with_reducible refine Kd.C_drew ?_))); (case side4 => exact (Kd.R_reads' HO605.out).2.1); rintro e w' ⟨rfl, ⟨nd, rfl⟩⟩) | (go_at_call 19; (with_reducible refine (bellpulllaw02_lives.calls kj15  t610 _ A52.out).mono ?_); rintro e w55 ⟨rfl, hb⟩; have n0_ := Aside0.mk (Kd.R_below (by (with_reducible repeat (first | apply Kd.R_alloc | apply Kd.R_drewN | apply Kd.R_drew)); exact HO_3.out) hb); have n1_ := Aside0.mk (Kd.Q_below (by (with_reducible repeat (first | apply Kd.Q_alloc | apply Kd.Q_drewN | apply Kd.Q_drew)); exact HO_4.out) hb); have n2_ := Aside0.mk (Kd.R_below (by (with_reducible repeat (first | apply Kd.R_alloc | apply Kd.R_drewN | apply Kd.R_drew)); exact HO_10.out) hb); have n3_ := Aside0.mk (Kd.R_below (by (with_reducible repeat (first | apply Kd.R_alloc | apply Kd.R_drewN | apply Kd.R_drew)); exact HO605.out) hb); have n4_ := Aside0.mk (below_step (by repeat (first | (with_reducible first | exact HB.out | apply below_alloc | apply pw_below_drewN | apply below_drew1) | exact HB.out)) hb); clear HO_3; clear HO_4; clear HO_10; clear HO605; clear HB; have HO_3 := n0_; have HO_4 := n1_; have HO_10 := n2_; have HO605 := n3_; have HB := n4_; clear n0_ n1_ n2_ n3_ n4_; (try clear hb); (try clear hb2); (try clear hk); (try clear hi)))
                                  go_meet
                                  case rel => exact ⟨_, (!t610), (by first | rfl | (simp; done) | (simp [*]; done)), H', ⟨by have := HJ7.out; have := HJ15.out; first | omega | exact Nat.le_refl _⟩, ⟨by (with_reducible repeat (first | apply Kd.R_alloc | apply Kd.R_drewN | apply Kd.R_drew)); exact Kd.R_mono HO_3.out (fun _ hk => hk.1.2)⟩, ⟨by (with_reducible repeat (first | apply Kd.R_alloc | apply Kd.R_drewN | apply Kd.R_drew)); exact Kd.R_mono HO_10.out (fun _ hk => hk.1.1)⟩, ⟨by repeat (first | (with_reducible first | exact HB.out | apply below_alloc | apply pw_below_drewN | apply below_drew1) | exact HB.out)⟩⟩
                                · rw [if_neg c51] at H
                                  exact absurd H (by simp)
                              · rw [if_neg c50] at H
                                exact absurd H (by simp)
                            · rw [if_neg c49] at H
                              have c49b0 : decide (t606 < 0) = false := decide_eq_false c49
                              clear c49
                              replace H := Option.bind_eq_some_iff.mp H
                              obtain ⟨t611, A560, H⟩ := H
                              replace H : (bellpulllaw02_EchoDerivatives.j2 kj15 t585 t596 t597 x13_7 (!t611)) = some r := H
                              have A56 := Aside0.mk A560
                              clear A560
                              have H' := Aside0.mk H
                              clear H
                              obtain ⟨Ao57, co57, eo57, _⟩ := Kd.Q_slice HO_4.out
                              subst eo57
                              obtain ⟨Ao58, co58, eo58⟩ := Kd.R_slice HO605.out
                              subst eo58
                              go_wp2_with (first | (go_at_call 20; (with_reducible refine (bellpullref01_Same.calls kj15 _ _ t588 _ _ t602 true _ ?side1 ?side2 ?side3 ?side4 A28.out).mono ?_); (case side1 => repeat (first | exact (Kd.Q_reads' HO_4.out).2.2 | (with_reducible refine Kd.C_alloc ?_ _) | (with_reducible refine Kd.C_drewN ?_ _) | (with_reducible refine Kd.C_drew ?_))); (case side2 => exact (Kd.Q_reads' HO_4.out).2.1); (case side3 => repeat (first | exact (Kd.R_reads' HO605.out).2.2 | (with_reducible refine Kd.C_alloc ?_ _) | (with_reducible refine Kd.C_drewN ?_ _) | (with_reducible refine Kd.C_drew ?_))); (case side4 => exact (Kd.R_reads' HO605.out).2.1); rintro e w' ⟨rfl, ⟨nd, rfl⟩⟩) | (go_at_call 19; (with_reducible refine (bellpulllaw02_lives.calls kj15  t611 _ A56.out).mono ?_); rintro e w59 ⟨rfl, hb⟩; have n0_ := Aside0.mk (Kd.R_below (by (with_reducible repeat (first | apply Kd.R_alloc | apply Kd.R_drewN | apply Kd.R_drew)); exact HO_3.out) hb); have n1_ := Aside0.mk (Kd.Q_below (by (with_reducible repeat (first | apply Kd.Q_alloc | apply Kd.Q_drewN | apply Kd.Q_drew)); exact HO_4.out) hb); have n2_ := Aside0.mk (Kd.R_below (by (with_reducible repeat (first | apply Kd.R_alloc | apply Kd.R_drewN | apply Kd.R_drew)); exact HO_10.out) hb); have n3_ := Aside0.mk (Kd.R_below (by (with_reducible repeat (first | apply Kd.R_alloc | apply Kd.R_drewN | apply Kd.R_drew)); exact HO605.out) hb); have n4_ := Aside0.mk (below_step (by repeat (first | (with_reducible first | exact HB.out | apply below_alloc | apply pw_below_drewN | apply below_drew1) | exact HB.out)) hb); clear HO_3; clear HO_4; clear HO_10; clear HO605; clear HB; have HO_3 := n0_; have HO_4 := n1_; have HO_10 := n2_; have HO605 := n3_; have HB := n4_; clear n0_ n1_ n2_ n3_ n4_; (try clear hb); (try clear hb2); (try clear hk); (try clear hi)))
                              go_meet
                              case rel => exact ⟨_, (!t611), (by first | rfl | (simp; done) | (simp [*]; done)), H', ⟨by have := HJ7.out; have := HJ15.out; first | omega | exact Nat.le_refl _⟩, ⟨by (with_reducible repeat (first | apply Kd.R_alloc | apply Kd.R_drewN | apply Kd.R_drew)); exact Kd.R_mono HO_3.out (fun _ hk => hk.1.2)⟩, ⟨by (with_reducible repeat (first | apply Kd.R_alloc | apply Kd.R_drewN | apply Kd.R_drew)); exact Kd.R_mono HO_10.out (fun _ hk => hk.1.1)⟩, ⟨by repeat (first | (with_reducible first | exact HB.out | apply below_alloc | apply pw_below_drewN | apply below_drew1) | exact HB.out)⟩⟩
                          · rw [if_neg c48] at H
                            exact absurd H (by simp)
                    · rw [if_neg c30] at H
                      exact absurd H (by simp)
                  · replace c29 := Bool.eq_false_iff.mpr c29
                    subst c29
                    have H1 : (none) = some r := by rw [if_neg (show ¬ (false = true) by decide)] at H; exact H
                    clear H
                    have H := H1
                    clear H1
                    exact absurd H (by simp)
                · replace c27 := Bool.eq_false_iff.mpr c27
                  subst c27
                  have H1 : (if (t588.length : Int) = 0 then (if t589 = 5 then (if t592 = true then (if t606 ≥ 0 then (if t593 = 0 then (if t594 = t606 then (if t595 = 0 then (if t606 < 0 then (if t594 = 0 then (if t595 = 5 then ((bellpulllaw02_lives.f kj15).bind fun t612 => (bellpulllaw02_EchoDerivatives.j2 kj15 t585 t596 t597 x13_7 (!t612))) else (none)) else (none)) else ((bellpulllaw02_lives.f kj15).bind fun t613 => (bellpulllaw02_EchoDerivatives.j2 kj15 t585 t596 t597 x13_7 (!t613)))) else (none)) else (none)) else (none)) else (none)) else (if t606 ≥ 0 then (none) else (if t593 = 0 then (if t606 < 0 then (if t594 = 0 then (if t595 = 5 then ((bellpulllaw02_lives.f kj15).bind fun t614 => (bellpulllaw02_EchoDerivatives.j2 kj15 t585 t596 t597 x13_7 (!t614))) else (none)) else (none)) else ((bellpulllaw02_lives.f kj15).bind fun t615 => (bellpulllaw02_EchoDerivatives.j2 kj15 t585 t596 t597 x13_7 (!t615)))) else (none)))) else (none)) else (none)) = some r := by rw [if_neg (show ¬ (false = true) by decide)] at H; exact H
                  clear H
                  have H := H1
                  clear H1
                  by_cases c60 : (t588.length : Int) = 0
                  · rw [if_pos c60] at H
                    have c60b0 : ((t588.length : Int) == 0) = true := beq_iff_eq.mpr c60
                    have c60b1 : ((t588.length : Int) != 0) = false := bne_eq_false_iff_eq.mpr c60
                    clear c60
                    by_cases c61 : t589 = 5
                    · rw [if_pos c61] at H
                      have c61b0 : (t589 == 5) = true := beq_iff_eq.mpr c61
                      have c61b1 : (t589 != 5) = false := bne_eq_false_iff_eq.mpr c61
                      clear c61
                      by_cases c62 : t592 = true
                      · subst c62
                        have H1 : (if t606 ≥ 0 then (if t593 = 0 then (if t594 = t606 then (if t595 = 0 then (if t606 < 0 then (if t594 = 0 then (if t595 = 5 then ((bellpulllaw02_lives.f kj15).bind fun t612 => (bellpulllaw02_EchoDerivatives.j2 kj15 t585 t596 t597 x13_7 (!t612))) else (none)) else (none)) else ((bellpulllaw02_lives.f kj15).bind fun t613 => (bellpulllaw02_EchoDerivatives.j2 kj15 t585 t596 t597 x13_7 (!t613)))) else (none)) else (none)) else (none)) else (none)) = some r := by rw [if_pos rfl] at H; exact H
                        clear H
                        have H := H1
                        clear H1
                        by_cases c63 : t606 ≥ 0
                        · rw [if_pos c63] at H
                          have c63b0 : decide (0 ≤ t606) = true := decide_eq_true c63
                          clear c63
                          by_cases c64 : t593 = 0
                          · rw [if_pos c64] at H
                            have c64b0 : (t593 == 0) = true := beq_iff_eq.mpr c64
                            have c64b1 : (t593 != 0) = false := bne_eq_false_iff_eq.mpr c64
                            clear c64
                            by_cases c65 : t594 = t606
                            · rw [if_pos c65] at H
                              have c65b0 : (t594 == t606) = true := beq_iff_eq.mpr c65
                              have c65b1 : (t594 != t606) = false := bne_eq_false_iff_eq.mpr c65
                              clear c65
                              by_cases c66 : t595 = 0
                              · rw [if_pos c66] at H
                                have c66b0 : (t595 == 0) = true := beq_iff_eq.mpr c66
                                have c66b1 : (t595 != 0) = false := bne_eq_false_iff_eq.mpr c66
                                clear c66
                                by_cases c67 : t606 < 0
                                · rw [if_pos c67] at H
                                  have c67b0 : decide (t606 < 0) = true := decide_eq_true c67
                                  clear c67
                                  by_cases c68 : t594 = 0
                                  · rw [if_pos c68] at H
                                    have c68b0 : (t594 == 0) = true := beq_iff_eq.mpr c68
                                    have c68b1 : (t594 != 0) = false := bne_eq_false_iff_eq.mpr c68
                                    clear c68
                                    by_cases c69 : t595 = 5
                                    · rw [if_pos c69] at H
                                      have c69b0 : (t595 == 5) = true := beq_iff_eq.mpr c69
                                      have c69b1 : (t595 != 5) = false := bne_eq_false_iff_eq.mpr c69
                                      clear c69
                                      replace H := Option.bind_eq_some_iff.mp H
                                      obtain ⟨t612, A700, H⟩ := H
                                      replace H : (bellpulllaw02_EchoDerivatives.j2 kj15 t585 t596 t597 x13_7 (!t612)) = some r := H
                                      have A70 := Aside0.mk A700
                                      clear A700
                                      have H' := Aside0.mk H
                                      clear H
                                      obtain ⟨Ao71, co71, eo71, _⟩ := Kd.Q_slice HO_4.out
                                      subst eo71
                                      go_wp2_with (first | (go_at_call 19; (with_reducible refine (bellpulllaw02_lives.calls kj15  t612 _ A70.out).mono ?_); rintro e w72 ⟨rfl, hb⟩; have n0_ := Aside0.mk (Kd.R_below (by (with_reducible repeat (first | apply Kd.R_alloc | apply Kd.R_drewN | apply Kd.R_drew)); exact HO_3.out) hb); have n1_ := Aside0.mk (Kd.Q_below (by (with_reducible repeat (first | apply Kd.Q_alloc | apply Kd.Q_drewN | apply Kd.Q_drew)); exact HO_4.out) hb); have n2_ := Aside0.mk (Kd.R_below (by (with_reducible repeat (first | apply Kd.R_alloc | apply Kd.R_drewN | apply Kd.R_drew)); exact HO_10.out) hb); have n3_ := Aside0.mk (Kd.R_below (by (with_reducible repeat (first | apply Kd.R_alloc | apply Kd.R_drewN | apply Kd.R_drew)); exact HO605.out) hb); have n4_ := Aside0.mk (below_step (by repeat (first | (with_reducible first | exact HB.out | apply below_alloc | apply pw_below_drewN | apply below_drew1) | exact HB.out)) hb); clear HO_3; clear HO_4; clear HO_10; clear HO605; clear HB; have HO_3 := n0_; have HO_4 := n1_; have HO_10 := n2_; have HO605 := n3_; have HB := n4_; clear n0_ n1_ n2_ n3_ n4_; (try clear hb); (try clear hb2); (try clear hk); (try clear hi)))
                                      go_meet
                                      case rel => exact ⟨_, (!t612), (by first | rfl | (simp; done) | (simp [*]; done)), H', ⟨by have := HJ7.out; have := HJ15.out; first | omega | exact Nat.le_refl _⟩, ⟨by (with_reducible repeat (first | apply Kd.R_alloc | apply Kd.R_drewN | apply Kd.R_drew)); exact Kd.R_mono HO_3.out (fun _ hk => hk.1.2)⟩, ⟨by (with_reducible repeat (first | apply Kd.R_alloc | apply Kd.R_drewN | apply Kd.R_drew)); exact Kd.R_mono HO_10.out (fun _ hk => hk.1.1)⟩, ⟨by repeat (first | (with_reducible first | exact HB.out | apply below_alloc | apply pw_below_drewN | apply below_drew1) | exact HB.out)⟩⟩
                                    · rw [if_neg c69] at H
                                      exact absurd H (by simp)
                                  · rw [if_neg c68] at H
                                    exact absurd H (by simp)
                                · rw [if_neg c67] at H
                                  have c67b0 : decide (t606 < 0) = false := decide_eq_false c67
                                  clear c67
                                  replace H := Option.bind_eq_some_iff.mp H
                                  obtain ⟨t613, A730, H⟩ := H
                                  replace H : (bellpulllaw02_EchoDerivatives.j2 kj15 t585 t596 t597 x13_7 (!t613)) = some r := H
                                  have A73 := Aside0.mk A730
                                  clear A730
                                  have H' := Aside0.mk H
                                  clear H
                                  obtain ⟨Ao74, co74, eo74, _⟩ := Kd.Q_slice HO_4.out
                                  subst eo74
                                  go_wp2_with (first | (go_at_call 19; (with_reducible refine (bellpulllaw02_lives.calls kj15  t613 _ A73.out).mono ?_); rintro e w75 ⟨rfl, hb⟩; have n0_ := Aside0.mk (Kd.R_below (by (with_reducible repeat (first | apply Kd.R_alloc | apply Kd.R_drewN | apply Kd.R_drew)); exact HO_3.out) hb); have n1_ := Aside0.mk (Kd.Q_below (by (with_reducible repeat (first | apply Kd.Q_alloc | apply Kd.Q_drewN | apply Kd.Q_drew)); exact HO_4.out) hb); have n2_ := Aside0.mk (Kd.R_below (by (with_reducible repeat (first | apply Kd.R_alloc | apply Kd.R_drewN | apply Kd.R_drew)); exact HO_10.out) hb); have n3_ := Aside0.mk (Kd.R_below (by (with_reducible repeat (first | apply Kd.R_alloc | apply Kd.R_drewN | apply Kd.R_drew)); exact HO605.out) hb); have n4_ := Aside0.mk (below_step (by repeat (first | (with_reducible first | exact HB.out | apply below_alloc | apply pw_below_drewN | apply below_drew1) | exact HB.out)) hb); clear HO_3; clear HO_4; clear HO_10; clear HO605; clear HB; have HO_3 := n0_; have HO_4 := n1_; have HO_10 := n2_; have HO605 := n3_; have HB := n4_; clear n0_ n1_ n2_ n3_ n4_; (try clear hb); (try clear hb2); (try clear hk); (try clear hi)))
                                  go_meet
                                  case rel => exact ⟨_, (!t613), (by first | rfl | (simp; done) | (simp [*]; done)), H', ⟨by have := HJ7.out; have := HJ15.out; first | omega | exact Nat.le_refl _⟩, ⟨by (with_reducible repeat (first | apply Kd.R_alloc | apply Kd.R_drewN | apply Kd.R_drew)); exact Kd.R_mono HO_3.out (fun _ hk => hk.1.2)⟩, ⟨by (with_reducible repeat (first | apply Kd.R_alloc | apply Kd.R_drewN | apply Kd.R_drew)); exact Kd.R_mono HO_10.out (fun _ hk => hk.1.1)⟩, ⟨by repeat (first | (with_reducible first | exact HB.out | apply below_alloc | apply pw_below_drewN | apply below_drew1) | exact HB.out)⟩⟩
                              · rw [if_neg c66] at H
                                exact absurd H (by simp)
                            · rw [if_neg c65] at H
                              exact absurd H (by simp)
                          · rw [if_neg c64] at H
                            exact absurd H (by simp)
                        · rw [if_neg c63] at H
                          exact absurd H (by simp)
                      · replace c62 := Bool.eq_false_iff.mpr c62
                        subst c62
                        have H1 : (if t606 ≥ 0 then (none) else (if t593 = 0 then (if t606 < 0 then (if t594 = 0 then (if t595 = 5 then ((bellpulllaw02_lives.f kj15).bind fun t614 => (bellpulllaw02_EchoDerivatives.j2 kj15 t585 t596 t597 x13_7 (!t614))) else (none)) else (none)) else ((bellpulllaw02_lives.f kj15).bind fun t615 => (bellpulllaw02_EchoDerivatives.j2 kj15 t585 t596 t597 x13_7 (!t615)))) else (none))) = some r := by rw [if_neg (show ¬ (false = true) by decide)] at H; exact H
                        clear H
                        have H := H1
                        clear H1
                        by_cases c76 : t606 ≥ 0
                        · rw [if_pos c76] at H
                          exact absurd H (by simp)
                        · rw [if_neg c76] at H
                          have c76b0 : decide (0 ≤ t606) = false := decide_eq_false c76
                          clear c76
                          by_cases c77 : t593 = 0
                          · rw [if_pos c77] at H
                            have c77b0 : (t593 == 0) = true := beq_iff_eq.mpr c77
                            have c77b1 : (t593 != 0) = false := bne_eq_false_iff_eq.mpr c77
                            clear c77
                            by_cases c78 : t606 < 0
                            · rw [if_pos c78] at H
                              have c78b0 : decide (t606 < 0) = true := decide_eq_true c78
                              clear c78
                              by_cases c79 : t594 = 0
                              · rw [if_pos c79] at H
                                have c79b0 : (t594 == 0) = true := beq_iff_eq.mpr c79
                                have c79b1 : (t594 != 0) = false := bne_eq_false_iff_eq.mpr c79
                                clear c79
                                by_cases c80 : t595 = 5
                                · rw [if_pos c80] at H
                                  have c80b0 : (t595 == 5) = true := beq_iff_eq.mpr c80
                                  have c80b1 : (t595 != 5) = false := bne_eq_false_iff_eq.mpr c80
                                  clear c80
                                  replace H := Option.bind_eq_some_iff.mp H
                                  obtain ⟨t614, A810, H⟩ := H
                                  replace H : (bellpulllaw02_EchoDerivatives.j2 kj15 t585 t596 t597 x13_7 (!t614)) = some r := H
                                  have A81 := Aside0.mk A810
                                  clear A810
                                  have H' := Aside0.mk H
                                  clear H
                                  obtain ⟨Ao82, co82, eo82, _⟩ := Kd.Q_slice HO_4.out
                                  subst eo82
                                  go_wp2_with (first | (go_at_call 19; (with_reducible refine (bellpulllaw02_lives.calls kj15  t614 _ A81.out).mono ?_); rintro e w83 ⟨rfl, hb⟩; have n0_ := Aside0.mk (Kd.R_below (by (with_reducible repeat (first | apply Kd.R_alloc | apply Kd.R_drewN | apply Kd.R_drew)); exact HO_3.out) hb); have n1_ := Aside0.mk (Kd.Q_below (by (with_reducible repeat (first | apply Kd.Q_alloc | apply Kd.Q_drewN | apply Kd.Q_drew)); exact HO_4.out) hb); have n2_ := Aside0.mk (Kd.R_below (by (with_reducible repeat (first | apply Kd.R_alloc | apply Kd.R_drewN | apply Kd.R_drew)); exact HO_10.out) hb); have n3_ := Aside0.mk (Kd.R_below (by (with_reducible repeat (first | apply Kd.R_alloc | apply Kd.R_drewN | apply Kd.R_drew)); exact HO605.out) hb); have n4_ := Aside0.mk (below_step (by repeat (first | (with_reducible first | exact HB.out | apply below_alloc | apply pw_below_drewN | apply below_drew1) | exact HB.out)) hb); clear HO_3; clear HO_4; clear HO_10; clear HO605; clear HB; have HO_3 := n0_; have HO_4 := n1_; have HO_10 := n2_; have HO605 := n3_; have HB := n4_; clear n0_ n1_ n2_ n3_ n4_; (try clear hb); (try clear hb2); (try clear hk); (try clear hi)))
                                  go_meet
                                  case rel => exact ⟨_, (!t614), (by first | rfl | (simp; done) | (simp [*]; done)), H', ⟨by have := HJ7.out; have := HJ15.out; first | omega | exact Nat.le_refl _⟩, ⟨by (with_reducible repeat (first | apply Kd.R_alloc | apply Kd.R_drewN | apply Kd.R_drew)); exact Kd.R_mono HO_3.out (fun _ hk => hk.1.2)⟩, ⟨by (with_reducible repeat (first | apply Kd.R_alloc | apply Kd.R_drewN | apply Kd.R_drew)); exact Kd.R_mono HO_10.out (fun _ hk => hk.1.1)⟩, ⟨by repeat (first | (with_reducible first | exact HB.out | apply below_alloc | apply pw_below_drewN | apply below_drew1) | exact HB.out)⟩⟩
                                · rw [if_neg c80] at H
                                  exact absurd H (by simp)
                              · rw [if_neg c79] at H
                                exact absurd H (by simp)
                            · rw [if_neg c78] at H
                              have c78b0 : decide (t606 < 0) = false := decide_eq_false c78
                              clear c78
                              replace H := Option.bind_eq_some_iff.mp H
                              obtain ⟨t615, A840, H⟩ := H
                              replace H : (bellpulllaw02_EchoDerivatives.j2 kj15 t585 t596 t597 x13_7 (!t615)) = some r := H
                              have A84 := Aside0.mk A840
                              clear A840
                              have H' := Aside0.mk H
                              clear H
                              obtain ⟨Ao85, co85, eo85, _⟩ := Kd.Q_slice HO_4.out
                              subst eo85
                              go_wp2_with (first | (go_at_call 19; (with_reducible refine (bellpulllaw02_lives.calls kj15  t615 _ A84.out).mono ?_); rintro e w86 ⟨rfl, hb⟩; have n0_ := Aside0.mk (Kd.R_below (by (with_reducible repeat (first | apply Kd.R_alloc | apply Kd.R_drewN | apply Kd.R_drew)); exact HO_3.out) hb); have n1_ := Aside0.mk (Kd.Q_below (by (with_reducible repeat (first | apply Kd.Q_alloc | apply Kd.Q_drewN | apply Kd.Q_drew)); exact HO_4.out) hb); have n2_ := Aside0.mk (Kd.R_below (by (with_reducible repeat (first | apply Kd.R_alloc | apply Kd.R_drewN | apply Kd.R_drew)); exact HO_10.out) hb); have n3_ := Aside0.mk (Kd.R_below (by (with_reducible repeat (first | apply Kd.R_alloc | apply Kd.R_drewN | apply Kd.R_drew)); exact HO605.out) hb); have n4_ := Aside0.mk (below_step (by repeat (first | (with_reducible first | exact HB.out | apply below_alloc | apply pw_below_drewN | apply below_drew1) | exact HB.out)) hb); clear HO_3; clear HO_4; clear HO_10; clear HO605; clear HB; have HO_3 := n0_; have HO_4 := n1_; have HO_10 := n2_; have HO605 := n3_; have HB := n4_; clear n0_ n1_ n2_ n3_ n4_; (try clear hb); (try clear hb2); (try clear hk); (try clear hi)))
                              go_meet
                              case rel => exact ⟨_, (!t615), (by first | rfl | (simp; done) | (simp [*]; done)), H', ⟨by have := HJ7.out; have := HJ15.out; first | omega | exact Nat.le_refl _⟩, ⟨by (with_reducible repeat (first | apply Kd.R_alloc | apply Kd.R_drewN | apply Kd.R_drew)); exact Kd.R_mono HO_3.out (fun _ hk => hk.1.2)⟩, ⟨by (with_reducible repeat (first | apply Kd.R_alloc | apply Kd.R_drewN | apply Kd.R_drew)); exact Kd.R_mono HO_10.out (fun _ hk => hk.1.1)⟩, ⟨by repeat (first | (with_reducible first | exact HB.out | apply below_alloc | apply pw_below_drewN | apply below_drew1) | exact HB.out)⟩⟩
                          · rw [if_neg c77] at H
                            exact absurd H (by simp)
                    · rw [if_neg c61] at H
                      exact absurd H (by simp)
                  · rw [if_neg c60] at H
                    exact absurd H (by simp)
              case rest =>
                clear HC24
                try clear c1
                try clear c2
                try clear p2
                try clear c3
                try clear c4
                try clear c5
                try clear c6
                try clear c7
                try clear c8
                try clear c11
                try clear c15
                try clear c15b0
                try clear c15b1
                try clear c17
                try clear c17b0
                try clear c17b1
                try clear c18
                try clear c18b0
                try clear c18b1
                try clear c20
                try clear c21
                try clear c21b0
                try clear c21b1
                try clear c27
                try clear c28
                try clear c29
                try clear c30
                try clear c30b0
                try clear c30b1
                try clear c31
                try clear c32
                try clear c32b0
                try clear c33
                try clear c33b0
                try clear c33b1
                try clear c34
                try clear c34b0
                try clear c34b1
                try clear c35
                try clear c35b0
                try clear c35b1
                try clear c36
                try clear c36b0
                try clear c37
                try clear c37b0
                try clear c37b1
                try clear c38
                try clear c38b0
                try clear c38b1
                try clear c47
                try clear c47b0
                try clear c48
                try clear c48b0
                try clear c48b1
                try clear c49
                try clear c49b0
                try clear c50
                try clear c50b0
                try clear c50b1
                try clear c51
                try clear c51b0
                try clear c51b1
                try clear c60
                try clear c60b0
                try clear c60b1
                try clear c61
                try clear c61b0
                try clear c61b1
                try clear c62
                try clear c63
                try clear c63b0
                try clear c64
                try clear c64b0
                try clear c64b1
                try clear c65
                try clear c65b0
                try clear c65b1
                try clear c66
                try clear c66b0
                try clear c66b1
                try clear c67
                try clear c67b0
                try clear c68
                try clear c68b0
                try clear c68b1
                try clear c69
                try clear c69b0
                try clear c69b1
                try clear c76
                try clear c76b0
                try clear c77
                try clear c77b0
                try clear c77b1
                try clear c78
                try clear c78b0
                try clear c79
                try clear c79b0
                try clear c79b1
                try clear c80
                try clear c80b0
                try clear c80b1
                try clear p2
                obtain ⟨kq, x159_23, rfl, HA, HJ23, HO_3, HO_10, HB⟩ := hcut
                cases kq with
                | zero => exact absurd HA.out (by simp [bellpulllaw02_EchoDerivatives.j2])
                | succ kj23 =>
                  have H := HA.out
                  clear HA
                  simp only [bellpulllaw02_EchoDerivatives.j2] at H
                  by_cases c87 : x159_23 = true
                  · subst c87
                    have H1 : (none) = some r := by rw [if_pos rfl] at H; exact H
                    clear H
                    have H := H1
                    clear H1
                    exact absurd H (by simp)
                  · replace c87 := Bool.eq_false_iff.mpr c87
                    subst c87
                    have H1 : (if x13_7 = 0 then (bellpulllaw02_EchoDerivatives.l0 kj23 t585 t596 t597 (([] : List Int)) 1) else (some true)) = some r := by rw [if_neg (show ¬ (false = true) by decide)] at H; exact H
                    clear H
                    have H := H1
                    clear H1
                    by_cases c88 : x13_7 = 0
                    · rw [if_pos c88] at H
                      have c88b0 : (x13_7 == 0) = true := beq_iff_eq.mpr c88
                      have c88b1 : (x13_7 != 0) = false := bne_eq_false_iff_eq.mpr c88
                      clear c88
                      obtain ⟨y616, hy616⟩ : ∃ y_ : List Int, y_ = (([] : List Int)) := ⟨_, rfl⟩
                      replace H : (bellpulllaw02_EchoDerivatives.l0 kj23 t585 t596 t597 y616 1) = some r := by first | (rw [hy616]; with_reducible exact H) | (have H2_ := (Option.bind_some _ _).symm.trans H; rw [hy616]; with_reducible exact H2_) | (have H2_ := (Option.bind_some _ _).symm.trans H; with_reducible exact H2_) | with_reducible exact H | (rw [hy616]; exact H) | exact H
                      have Ny616 := Aside0.mk hy616
                      clear hy616
                      have H' := Aside0.mk H
                      clear H
                      go_wp2_with (first | ((with_reducible refine gate_dst (N := 162) rfl ?_); (try (refine gate_guard (by rfl) ?_; dsimp only)); refine Kd.R_lit (Kd.int .i64) _ 3 ?hg (N := 162) ?hd (xs := ([] : List Int)) (inner := []) (ok := fun _ => True) (okp := fun _ => True) ?hr ?hp (fun _ hk => hk) trivial (Below.refl _ _) (Nat.le_refl _) (by simp) ?_; (case hd => rfl); (case hg => rfl); (case hr => first | (go_simp; done) | (go_simp; rfl)); (case hp => exact (Reps.none _ _)); intro v617 w89 ho90 hb hg_ hnew_; clear hg_ hnew_; (first | rw [← Ny616.out] at ho90 | (simp only [Int.reduceToNat] at ho90; rw [← Ny616.out] at ho90)); have n0_ := Aside0.mk (Kd.R_elder' (by (with_reducible repeat (first | apply Kd.R_alloc | apply Kd.R_drewN | apply Kd.R_drew)); exact HO_3.out) (Kd.R_base ho90) hb); have n1_ := Aside0.mk (Kd.R_elder' (by (with_reducible repeat (first | apply Kd.R_alloc | apply Kd.R_drewN | apply Kd.R_drew)); exact HO_10.out) (Kd.R_base ho90) hb); have n2_ := Aside0.mk (Kd.R_lower (Kd.R_new' (Kd.R_new' ho90 (Kd.R_lt (by (with_reducible repeat (first | apply Kd.R_alloc | apply Kd.R_drewN | apply Kd.R_drew)); exact HO_3.out))) (Kd.R_lt (by (with_reducible repeat (first | apply Kd.R_alloc | apply Kd.R_drewN | apply Kd.R_drew)); exact HO_10.out))) (below_size (by repeat (first | (with_reducible first | exact HB.out | apply below_alloc | apply pw_below_drewN | apply below_drew1) | exact HB.out)))); have n3_ := Aside0.mk (below_step (by repeat (first | (with_reducible first | exact HB.out | apply below_alloc | apply pw_below_drewN | apply below_drew1) | exact HB.out)) hb); clear HO_3; clear HO_10; clear HB; have HO_3 := n0_; have HO_10 := n1_; have HO618 := n2_; have HB := n3_; clear n0_ n1_ n2_ n3_; clear hb ho90))
                      go_loopg [17, 18] kj23 (fun kq v17 v18 w' => ∃ (x17_4 : List Int) (x18_4 : Int), v18 = .int .i64 x18_4 ∧ Aside0 (bellpulllaw02_EchoDerivatives.l0 kq t585 t596 t597 x17_4 x18_4 = some r) ∧ Aside0 (kq ≤ kj23) ∧ Aside0 (Kd.R (Kd.int .i64) 3 w' w.heap.size (fun k_ => some k_ ≠ (v598 : Value).ownBlock ∧ some k_ ≠ (v17 : Value).ownBlock) (.slice Ao10 t585.length co10) t585) ∧ Aside0 (Kd.R (Kd.int .i64) 3 w' w.heap.size (fun k_ => some k_ ≠ ((.slice Ao10 t585.length co10) : Value).ownBlock ∧ some k_ ≠ (v17 : Value).ownBlock) v598 t596) ∧ Aside0 (Kd.R (Kd.int .i64) 3 w' w.heap.size (fun k_ => some k_ ≠ ((.slice Ao10 t585.length co10) : Value).ownBlock ∧ some k_ ≠ (v598 : Value).ownBlock) v17 x17_4) ∧ Aside0 (Below w.heap.size w w'))
                      case atStart => exact ⟨(y616), (1), (by first | rfl | (simp; done) | (simp [*]; done)), H', ⟨Nat.le_refl _⟩, ⟨by (with_reducible repeat (first | apply Kd.R_alloc | apply Kd.R_drewN | apply Kd.R_drew)); exact HO_3.out⟩, ⟨by (with_reducible repeat (first | apply Kd.R_alloc | apply Kd.R_drewN | apply Kd.R_drew)); exact HO_10.out⟩, ⟨by (with_reducible repeat (first | apply Kd.R_alloc | apply Kd.R_drewN | apply Kd.R_drew)); exact Kd.R_mono HO618.out (fun _ hk => ⟨hk.1.2, hk.2⟩)⟩, ⟨by repeat (first | (with_reducible first | exact HB.out | apply below_alloc | apply pw_below_drewN | apply below_drew1) | exact HB.out)⟩⟩
                      case round =>
                        clear H'
                        try clear c1
                        try clear c2
                        try clear p2
                        try clear c3
                        try clear c4
                        try clear c5
                        try clear c6
                        try clear c7
                        try clear c8
                        try clear c11
                        try clear c15
                        try clear c15b0
                        try clear c15b1
                        try clear c17
                        try clear c17b0
                        try clear c17b1
                        try clear c18
                        try clear c18b0
                        try clear c18b1
                        try clear c20
                        try clear c21
                        try clear c21b0
                        try clear c21b1
                        try clear c27
                        try clear c28
                        try clear c29
                        try clear c30
                        try clear c30b0
                        try clear c30b1
                        try clear c31
                        try clear c32
                        try clear c32b0
                        try clear c33
                        try clear c33b0
                        try clear c33b1
                        try clear c34
                        try clear c34b0
                        try clear c34b1
                        try clear c35
                        try clear c35b0
                        try clear c35b1
                        try clear c36
                        try clear c36b0
                        try clear c37
                        try clear c37b0
                        try clear c37b1
                        try clear c38
                        try clear c38b0
                        try clear c38b1
                        try clear c47
                        try clear c47b0
                        try clear c48
                        try clear c48b0
                        try clear c48b1
                        try clear c49
                        try clear c49b0
                        try clear c50
                        try clear c50b0
                        try clear c50b1
                        try clear c51
                        try clear c51b0
                        try clear c51b1
                        try clear c60
                        try clear c60b0
                        try clear c60b1
                        try clear c61
                        try clear c61b0
                        try clear c61b1
                        try clear c62
                        try clear c63
                        try clear c63b0
                        try clear c64
                        try clear c64b0
                        try clear c64b1
                        try clear c65
                        try clear c65b0
                        try clear c65b1
                        try clear c66
                        try clear c66b0
                        try clear c66b1
                        try clear c67
                        try clear c67b0
                        try clear c68
                        try clear c68b0
                        try clear c68b1
                        try clear c69
                        try clear c69b0
                        try clear c69b1
                        try clear c76
                        try clear c76b0
                        try clear c77
                        try clear c77b0
                        try clear c77b1
                        try clear c78
                        try clear c78b0
                        try clear c79
                        try clear c79b0
                        try clear c79b1
                        try clear c80
                        try clear c80b0
                        try clear c80b1
                        try clear c87
                        try clear c88
                        try clear c88b0
                        try clear c88b1
                        try clear p2
                        obtain ⟨x17_4, x18_4, rfl, HA, HK4, HO_3, HO_10, HO_17, HB⟩ := hrel
                        cases gk with
                        | zero => exact absurd HA.out (by simp [bellpulllaw02_EchoDerivatives.l0])
                        | succ k4 =>
                          have H := HA.out
                          clear HA
                          simp only [bellpulllaw02_EchoDerivatives.l0] at H
                          by_cases c91 : x18_4 ≤ 2
                          · rw [if_pos c91] at H
                            have c91b0 : decide (x18_4 ≤ 2) = true := decide_eq_true c91
                            clear c91
                            obtain ⟨y619, hy619⟩ : ∃ y_ : List Int, y_ = (([] : List Int)) := ⟨_, rfl⟩
                            replace H : (if y619.length + t585.length < 17592186044416 then ((some (y619 ++ t585 : List Int)).bind fun y622 => (if y622.length < 17592186044416 then ((bellpullref02_Height.f k4 (y622 ++ [x18_4])).bind fun t628 => (if t628 ≥ 0 then (if x17_4.length < 17592186044416 then (bellpulllaw02_EchoDerivatives.l0 k4 t585 t596 t597 (x17_4 ++ [x18_4]) (wrap64 (x18_4 + 1))) else (none)) else (bellpulllaw02_EchoDerivatives.l0 k4 t585 t596 t597 x17_4 (wrap64 (x18_4 + 1))))) else (none))) else (none)) = some r := by first | (rw [hy619]; with_reducible exact H) | (have H2_ := (Option.bind_some _ _).symm.trans H; rw [hy619]; with_reducible exact H2_) | (have H2_ := (Option.bind_some _ _).symm.trans H; with_reducible exact H2_) | with_reducible exact H | (rw [hy619]; exact H) | exact H
                            have Ny619 := Aside0.mk hy619
                            clear hy619
                            by_cases c92 : y619.length + t585.length < 17592186044416
                            · rw [if_pos c92] at H
                              have LMc92 := Aside0.mk c92
                              clear c92
                              obtain ⟨y622, hy622⟩ : ∃ y_ : List Int, y_ = (y619 ++ t585) := ⟨_, rfl⟩
                              replace H : (if y622.length < 17592186044416 then ((bellpullref02_Height.f k4 (y622 ++ [x18_4])).bind fun t628 => (if t628 ≥ 0 then (if x17_4.length < 17592186044416 then (bellpulllaw02_EchoDerivatives.l0 k4 t585 t596 t597 (x17_4 ++ [x18_4]) (wrap64 (x18_4 + 1))) else (none)) else (bellpulllaw02_EchoDerivatives.l0 k4 t585 t596 t597 x17_4 (wrap64 (x18_4 + 1))))) else (none)) = some r := by first | (rw [hy622]; with_reducible exact H) | (have H2_ := (Option.bind_some _ _).symm.trans H; rw [hy622]; with_reducible exact H2_) | (have H2_ := (Option.bind_some _ _).symm.trans H; with_reducible exact H2_) | with_reducible exact H | (rw [hy622]; exact H) | exact H
                              have Ny622 := Aside0.mk hy622
                              clear hy622
                              by_cases c93 : y622.length < 17592186044416
                              · rw [if_pos c93] at H
                                have LMc93 := Aside0.mk c93
                                clear c93
                                obtain ⟨y625, hy625⟩ : ∃ y_ : List Int, y_ = (y622 ++ [x18_4]) := ⟨_, rfl⟩
                                replace H : ((bellpullref02_Height.f k4 y625).bind fun t628 => (if t628 ≥ 0 then (if x17_4.length < 17592186044416 then (bellpulllaw02_EchoDerivatives.l0 k4 t585 t596 t597 (x17_4 ++ [x18_4]) (wrap64 (x18_4 + 1))) else (none)) else (bellpulllaw02_EchoDerivatives.l0 k4 t585 t596 t597 x17_4 (wrap64 (x18_4 + 1))))) = some r := by first | (rw [hy625]; with_reducible exact H) | (have H2_ := (Option.bind_some _ _).symm.trans H; rw [hy625]; with_reducible exact H2_) | (have H2_ := (Option.bind_some _ _).symm.trans H; with_reducible exact H2_) | with_reducible exact H | (rw [hy625]; exact H) | exact H
                                have Ny625 := Aside0.mk hy625
                                clear hy625
                                replace H := Option.bind_eq_some_iff.mp H
                                obtain ⟨t628, A940, H⟩ := H
                                replace H : (if t628 ≥ 0 then (if x17_4.length < 17592186044416 then (bellpulllaw02_EchoDerivatives.l0 k4 t585 t596 t597 (x17_4 ++ [x18_4]) (wrap64 (x18_4 + 1))) else (none)) else (bellpulllaw02_EchoDerivatives.l0 k4 t585 t596 t597 x17_4 (wrap64 (x18_4 + 1)))) = some r := H
                                have A94 := Aside0.mk A940
                                clear A940
                                by_cases c95 : t628 ≥ 0
                                · rw [if_pos c95] at H
                                  have c95b0 : decide (0 ≤ t628) = true := decide_eq_true c95
                                  clear c95
                                  by_cases c96 : x17_4.length < 17592186044416
                                  · rw [if_pos c96] at H
                                    have LMc96 := Aside0.mk c96
                                    clear c96
                                    obtain ⟨y629, hy629⟩ : ∃ y_ : List Int, y_ = (x17_4 ++ [x18_4]) := ⟨_, rfl⟩
                                    replace H : (bellpulllaw02_EchoDerivatives.l0 k4 t585 t596 t597 y629 (wrap64 (x18_4 + 1))) = some r := by first | (rw [hy629]; with_reducible exact H) | (have H2_ := (Option.bind_some _ _).symm.trans H; rw [hy629]; with_reducible exact H2_) | (have H2_ := (Option.bind_some _ _).symm.trans H; with_reducible exact H2_) | with_reducible exact H | (rw [hy629]; exact H) | exact H
                                    have Ny629 := Aside0.mk hy629
                                    clear hy629
                                    have H' := Aside0.mk H
                                    clear H
                                    go_wp2_with (first | ((with_reducible refine gate_dst (N := 167) rfl ?_); (try (refine gate_guard (by rfl) ?_; dsimp only)); refine Kd.R_lit (Kd.int .i64) _ 3 ?hg (N := 167) ?hd (xs := ([] : List Int)) (inner := []) (ok := fun _ => True) (okp := fun _ => True) ?hr ?hp (fun _ hk => hk) trivial (Below.refl _ _) (Nat.le_refl _) (by simp) ?_; (case hd => rfl); (case hg => rfl); (case hr => first | (go_simp; done) | (go_simp; rfl)); (case hp => exact (Reps.none _ _)); intro v620 w97 ho98 hb hg_ hnew_; clear hg_ hnew_; (first | rw [← Ny619.out] at ho98 | (simp only [Int.reduceToNat] at ho98; rw [← Ny619.out] at ho98)); have n0_ := Aside0.mk (Kd.R_elder' (by (with_reducible repeat (first | apply Kd.R_alloc | apply Kd.R_drewN | apply Kd.R_drew)); exact HO_3.out) (Kd.R_base ho98) hb); have n1_ := Aside0.mk (Kd.R_elder' (by (with_reducible repeat (first | apply Kd.R_alloc | apply Kd.R_drewN | apply Kd.R_drew)); exact HO_10.out) (Kd.R_base ho98) hb); have n2_ := Aside0.mk (Kd.R_elder' (by (with_reducible repeat (first | apply Kd.R_alloc | apply Kd.R_drewN | apply Kd.R_drew)); exact HO_17.out) (Kd.R_base ho98) hb); have n3_ := Aside0.mk (Kd.R_lower (Kd.R_new' (Kd.R_new' (Kd.R_new' ho98 (Kd.R_lt (by (with_reducible repeat (first | apply Kd.R_alloc | apply Kd.R_drewN | apply Kd.R_drew)); exact HO_3.out))) (Kd.R_lt (by (with_reducible repeat (first | apply Kd.R_alloc | apply Kd.R_drewN | apply Kd.R_drew)); exact HO_10.out))) (Kd.R_lt (by (with_reducible repeat (first | apply Kd.R_alloc | apply Kd.R_drewN | apply Kd.R_drew)); exact HO_17.out))) (below_size (by repeat (first | (with_reducible first | exact HB.out | apply below_alloc | apply pw_below_drewN | apply below_drew1) | exact HB.out)))); have n4_ := Aside0.mk (below_step (by repeat (first | (with_reducible first | exact HB.out | apply below_alloc | apply pw_below_drewN | apply below_drew1) | exact HB.out)) hb); clear HO_3; clear HO_10; clear HO_17; clear HB; have HO_3 := n0_; have HO_10 := n1_; have HO_17 := n2_; have HO621 := n3_; have HB := n4_; clear n0_ n1_ n2_ n3_ n4_; clear hb ho98) | ((with_reducible refine gate_builtin (b := .append) (xs := #[.tmp 167, .tmp 168]) rfl ?_); (try (refine gate_guard (by rfl) ?_; dsimp only)); at_builtin; refine Kd.R_append_rows (Kd.int .i64) (w0 := w) w.heap.size rfl (.tmp 167) (.tmp 168) 22 3 (.int .i64 0) 8 rfl Try.underlying22 info3 rfl (by decide) (by omega) v620 y619 t585 _ _ _ (fun k_ => some k_ ≠ (.slice Ao10 t585.length co10 : Value).ownBlock ∧ some k_ ≠ (v598 : Value).ownBlock ∧ some k_ ≠ (u17 : Value).ownBlock) (fun _ => False) rfl rfl ?aO ?aR (fun _ _ h => h) (fun _ h => h.elim) ?aF ?aB ?aS ?aL ?_; (case aR => repeat (first | exact (Kd.R_reads' HO_3.out).2.2 | (with_reducible refine Kd.C_alloc ?_ _) | (with_reducible refine Kd.C_drewN ?_ _) | (with_reducible refine Kd.C_drew ?_))); (case aB => exact (by repeat (first | (with_reducible first | exact HB.out | apply below_alloc | apply pw_below_drewN | apply below_drew1) | exact HB.out))); (case aF => exact (fun k_ hk => ⟨Kd.fresh' (Kd.R_lt (by (with_reducible repeat (first | apply Kd.R_alloc | apply Kd.R_drewN | apply Kd.R_drew)); exact HO_3.out)) k_ hk, Kd.fresh' (Kd.R_lt (by (with_reducible repeat (first | apply Kd.R_alloc | apply Kd.R_drewN | apply Kd.R_drew)); exact HO_10.out)) k_ hk, Kd.fresh' (Kd.R_lt (by (with_reducible repeat (first | apply Kd.R_alloc | apply Kd.R_drewN | apply Kd.R_drew)); exact HO_17.out)) k_ hk⟩)); (case aO => exact (by (with_reducible repeat (first | apply Kd.R_alloc | apply Kd.R_drewN | apply Kd.R_drew)); exact Kd.R_mono HO621.out (fun _ hk => ⟨hk.1.1.2, ⟨hk.1.2, hk.2⟩⟩))); (case aS => exact (below_size (by repeat (first | (with_reducible first | exact HB.out | apply below_alloc | apply pw_below_drewN | apply below_drew1) | exact HB.out)))); (case aL => have := LMc92.out; omega); intro v623 w99 ho hb hg hat; rw [← Ny622.out] at ho; have n0_ := Aside0.mk (Kd.R_after (ok := (fun k_ => some k_ ≠ (v598 : Value).ownBlock ∧ some k_ ≠ (u17 : Value).ownBlock)) (by (with_reducible repeat (first | apply Kd.R_alloc | apply Kd.R_drewN | apply Kd.R_drew)); exact HO_3.out) hg hat); have n1_ := Aside0.mk (Kd.R_after (ok := (fun k_ => some k_ ≠ (.slice Ao10 t585.length co10 : Value).ownBlock ∧ some k_ ≠ (u17 : Value).ownBlock)) (by (with_reducible repeat (first | apply Kd.R_alloc | apply Kd.R_drewN | apply Kd.R_drew)); exact HO_10.out) hg hat); have n2_ := Aside0.mk (Kd.R_after (ok := (fun k_ => some k_ ≠ (.slice Ao10 t585.length co10 : Value).ownBlock ∧ some k_ ≠ (v598 : Value).ownBlock)) (by (with_reducible repeat (first | apply Kd.R_alloc | apply Kd.R_drewN | apply Kd.R_drew)); exact HO_17.out) hg hat); have n3_ := Aside0.mk (hb); have n4_ := Aside0.mk (ho); clear HO_3; clear HO_10; clear HO_17; clear HB; clear HO621; have HO_3 := n0_; have HO_10 := n1_; have HO_17 := n2_; have HB := n3_; have HO624 := n4_; clear n0_ n1_ n2_ n3_ n4_; clear ho hb hg hat) | ((with_reducible refine gate_builtin (b := .append) (xs := #[.tmp 169, .tmp 171]) rfl ?_); (try (refine gate_guard (by rfl) ?_; dsimp only)); at_builtin; refine Kd.R_append (Kd.int .i64) (w0 := w) w.heap.size rfl (.tmp 169) (.tmp 171) 22 3 (.int .i64 0) 8 rfl Try.underlying22 info3 rfl (by decide) (by omega) v623 y622 x18_4 [.int .i64 x18_4] (fun k_ => some k_ ≠ (.slice Ao10 t585.length co10 : Value).ownBlock ∧ some k_ ≠ (v598 : Value).ownBlock ∧ some k_ ≠ (u17 : Value).ownBlock) (fun _ => False) rfl rfl ?aP (fun _ hk => hk.elim) ?aF ?aO ?aB ?aS ?aL ?_; (case aP => exact rfl); (case aB => exact (by repeat (first | (with_reducible first | exact HB.out | apply below_alloc | apply pw_below_drewN | apply below_drew1) | exact HB.out))); (case aF => exact (fun k_ hk => ⟨Kd.fresh' (Kd.R_lt (by (with_reducible repeat (first | apply Kd.R_alloc | apply Kd.R_drewN | apply Kd.R_drew)); exact HO_3.out)) k_ hk, Kd.fresh' (Kd.R_lt (by (with_reducible repeat (first | apply Kd.R_alloc | apply Kd.R_drewN | apply Kd.R_drew)); exact HO_10.out)) k_ hk, Kd.fresh' (Kd.R_lt (by (with_reducible repeat (first | apply Kd.R_alloc | apply Kd.R_drewN | apply Kd.R_drew)); exact HO_17.out)) k_ hk⟩)); (case aO => exact (by (with_reducible repeat (first | apply Kd.R_alloc | apply Kd.R_drewN | apply Kd.R_drew)); exact HO624.out)); (case aS => exact (below_size (by repeat (first | (with_reducible first | exact HB.out | apply below_alloc | apply pw_below_drewN | apply below_drew1) | exact HB.out)))); (case aL => have := LMc93.out; omega); intro v626 w100 ho hb hg hat; rw [← Ny625.out] at ho; have n0_ := Aside0.mk (Kd.R_after (ok := (fun k_ => some k_ ≠ (v598 : Value).ownBlock ∧ some k_ ≠ (u17 : Value).ownBlock)) (by (with_reducible repeat (first | apply Kd.R_alloc | apply Kd.R_drewN | apply Kd.R_drew)); exact HO_3.out) hg hat); have n1_ := Aside0.mk (Kd.R_after (ok := (fun k_ => some k_ ≠ (.slice Ao10 t585.length co10 : Value).ownBlock ∧ some k_ ≠ (u17 : Value).ownBlock)) (by (with_reducible repeat (first | apply Kd.R_alloc | apply Kd.R_drewN | apply Kd.R_drew)); exact HO_10.out) hg hat); have n2_ := Aside0.mk (Kd.R_after (ok := (fun k_ => some k_ ≠ (.slice Ao10 t585.length co10 : Value).ownBlock ∧ some k_ ≠ (v598 : Value).ownBlock)) (by (with_reducible repeat (first | apply Kd.R_alloc | apply Kd.R_drewN | apply Kd.R_drew)); exact HO_17.out) hg hat); have n3_ := Aside0.mk (hb); have n4_ := Aside0.mk (ho); clear HO_3; clear HO_10; clear HO_17; clear HB; clear HO624; have HO_3 := n0_; have HO_10 := n1_; have HO_17 := n2_; have HB := n3_; have HO627 := n4_; clear n0_ n1_ n2_ n3_ n4_; clear ho hb hg hat; obtain ⟨Ao101, co101, eo101⟩ := Kd.R_slice HO627.out; subst eo101) | ((with_reducible refine gate_callee (f := 36) rfl ?_); refine goesL_ (some 173) rfl rfl Try.func36 (by kernel_rfl) rfl #[.slice Ao101 y625.length co101] rfl (by (try simp only [List.map_toArray, List.map_cons, List.map_nil]); first | done | rfl | (simp only [List.length_drop, List.length_take]; rfl)) ?_; (with_reducible refine (bellpullref02_Height.calls k4 (fun k_ => some k_ = (.slice Ao101 y625.length co101 : Value).ownBlock) _ _ y625 t628 _ ?side1 A94.out).mono ?_); (case side1 => exact Kd.R_V (Kd.R_tight rfl (HO627.out))); rintro e w102 ⟨rfl, hb⟩; refine ⟨_, rfl, ?_⟩; have n0_ := Aside0.mk (Kd.R_below (by (with_reducible repeat (first | apply Kd.R_alloc | apply Kd.R_drewN | apply Kd.R_drew)); exact HO_3.out) hb); have n1_ := Aside0.mk (Kd.R_below (by (with_reducible repeat (first | apply Kd.R_alloc | apply Kd.R_drewN | apply Kd.R_drew)); exact HO_10.out) hb); have n2_ := Aside0.mk (Kd.R_below (by (with_reducible repeat (first | apply Kd.R_alloc | apply Kd.R_drewN | apply Kd.R_drew)); exact HO_17.out) hb); have n3_ := Aside0.mk (Kd.R_below (by (with_reducible repeat (first | apply Kd.R_alloc | apply Kd.R_drewN | apply Kd.R_drew)); exact HO627.out) hb); have n4_ := Aside0.mk (below_step (by repeat (first | (with_reducible first | exact HB.out | apply below_alloc | apply pw_below_drewN | apply below_drew1) | exact HB.out)) hb); clear HO_3; clear HO_10; clear HO_17; clear HO627; clear HB; have HO_3 := n0_; have HO_10 := n1_; have HO_17 := n2_; have HO627 := n3_; have HB := n4_; clear n0_ n1_ n2_ n3_ n4_; (try clear hb); (try clear hb2); (try clear hk); (try clear hi)) | ((with_reducible refine gate_builtin (b := .append) (xs := #[.tmp 175, .tmp 177]) rfl ?_); (try (refine gate_guard (by rfl) ?_; dsimp only)); at_builtin; refine Kd.R_append (Kd.int .i64) (w0 := w) w.heap.size rfl (.tmp 175) (.tmp 177) 22 3 (.int .i64 0) 8 rfl Try.underlying22 info3 rfl (by decide) (by omega) u17 x17_4 x18_4 [.int .i64 x18_4] (fun k_ => some k_ ≠ (.slice Ao10 t585.length co10 : Value).ownBlock ∧ some k_ ≠ (v598 : Value).ownBlock ∧ some k_ ≠ (.slice Ao101 y625.length co101 : Value).ownBlock) (fun _ => False) rfl rfl ?aP (fun _ hk => hk.elim) ?aF ?aO ?aB ?aS ?aL ?_; (case aP => exact rfl); (case aB => exact (by repeat (first | (with_reducible first | exact HB.out | apply below_alloc | apply pw_below_drewN | apply below_drew1) | exact HB.out))); (case aF => exact (fun k_ hk => ⟨Kd.fresh' (Kd.R_lt (by (with_reducible repeat (first | apply Kd.R_alloc | apply Kd.R_drewN | apply Kd.R_drew)); exact HO_3.out)) k_ hk, Kd.fresh' (Kd.R_lt (by (with_reducible repeat (first | apply Kd.R_alloc | apply Kd.R_drewN | apply Kd.R_drew)); exact HO_10.out)) k_ hk, Kd.fresh' (Kd.R_lt (by (with_reducible repeat (first | apply Kd.R_alloc | apply Kd.R_drewN | apply Kd.R_drew)); exact HO627.out)) k_ hk⟩)); (case aO => exact (by (with_reducible repeat (first | apply Kd.R_alloc | apply Kd.R_drewN | apply Kd.R_drew)); exact Kd.R_mono HO_17.out (fun _ hk => ⟨hk.1.1, ⟨hk.1.2, hk.2⟩⟩))); (case aS => exact (below_size (by repeat (first | (with_reducible first | exact HB.out | apply below_alloc | apply pw_below_drewN | apply below_drew1) | exact HB.out)))); (case aL => have := LMc96.out; omega); intro v630 w103 ho hb hg hat; rw [← Ny629.out] at ho; have n0_ := Aside0.mk (Kd.R_after (ok := (fun k_ => some k_ ≠ (v598 : Value).ownBlock ∧ some k_ ≠ (.slice Ao101 y625.length co101 : Value).ownBlock)) (by (with_reducible repeat (first | apply Kd.R_alloc | apply Kd.R_drewN | apply Kd.R_drew)); exact Kd.R_mono HO_3.out (fun _ hk => ⟨⟨hk.1.1, hk.2⟩, hk.1.2⟩)) hg hat); have n1_ := Aside0.mk (Kd.R_after (ok := (fun k_ => some k_ ≠ (.slice Ao10 t585.length co10 : Value).ownBlock ∧ some k_ ≠ (.slice Ao101 y625.length co101 : Value).ownBlock)) (by (with_reducible repeat (first | apply Kd.R_alloc | apply Kd.R_drewN | apply Kd.R_drew)); exact Kd.R_mono HO_10.out (fun _ hk => ⟨⟨hk.1.1, hk.2⟩, hk.1.2⟩)) hg hat); have n2_ := Aside0.mk (Kd.R_after (ok := (fun k_ => some k_ ≠ (.slice Ao10 t585.length co10 : Value).ownBlock ∧ some k_ ≠ (v598 : Value).ownBlock)) (by (with_reducible repeat (first | apply Kd.R_alloc | apply Kd.R_drewN | apply Kd.R_drew)); exact Kd.R_mono HO627.out (fun _ hk => ⟨⟨hk.1, hk.2.1⟩, hk.2.2⟩)) hg hat); have n3_ := Aside0.mk (hb); have n4_ := Aside0.mk (ho); clear HO_3; clear HO_10; clear HO627; clear HB; clear HO_17; have HO_3 := n0_; have HO_10 := n1_; have HO627 := n2_; have HB := n3_; have HO631 := n4_; clear n0_ n1_ n2_ n3_ n4_; clear ho hb hg hat))
                                    go_roundg k4
                                    case measure => have := HJ7.out; have := HJ15.out; have := HJ23.out; have := HK4.out; omega
                                    case rel => exact ⟨(y629), (wrap64 (x18_4 + 1)), (by first | rfl | (simp; done) | (simp [*]; done)), H', ⟨by have := HJ7.out; have := HJ15.out; have := HJ23.out; have := HK4.out; omega⟩, ⟨by (with_reducible repeat (first | apply Kd.R_alloc | apply Kd.R_drewN | apply Kd.R_drew)); exact Kd.R_mono HO_3.out (fun _ hk => ⟨hk.1.1, hk.2⟩)⟩, ⟨by (with_reducible repeat (first | apply Kd.R_alloc | apply Kd.R_drewN | apply Kd.R_drew)); exact Kd.R_mono HO_10.out (fun _ hk => ⟨hk.1.1, hk.2⟩)⟩, ⟨by (with_reducible repeat (first | apply Kd.R_alloc | apply Kd.R_drewN | apply Kd.R_drew)); exact Kd.R_mono HO631.out (fun _ hk => ⟨hk.1, hk.2.1⟩)⟩, ⟨by repeat (first | (with_reducible first | exact HB.out | apply below_alloc | apply pw_below_drewN | apply below_drew1) | exact HB.out)⟩⟩
                                  · rw [if_neg c96] at H
                                    exact absurd H (by simp)
                                · rw [if_neg c95] at H
                                  have c95b0 : decide (0 ≤ t628) = false := decide_eq_false c95
                                  clear c95
                                  have H' := Aside0.mk H
                                  clear H
                                  go_wp2_with (first | ((with_reducible refine gate_dst (N := 167) rfl ?_); (try (refine gate_guard (by rfl) ?_; dsimp only)); refine Kd.R_lit (Kd.int .i64) _ 3 ?hg (N := 167) ?hd (xs := ([] : List Int)) (inner := []) (ok := fun _ => True) (okp := fun _ => True) ?hr ?hp (fun _ hk => hk) trivial (Below.refl _ _) (Nat.le_refl _) (by simp) ?_; (case hd => rfl); (case hg => rfl); (case hr => first | (go_simp; done) | (go_simp; rfl)); (case hp => exact (Reps.none _ _)); intro v620 w104 ho105 hb hg_ hnew_; clear hg_ hnew_; (first | rw [← Ny619.out] at ho105 | (simp only [Int.reduceToNat] at ho105; rw [← Ny619.out] at ho105)); have n0_ := Aside0.mk (Kd.R_elder' (by (with_reducible repeat (first | apply Kd.R_alloc | apply Kd.R_drewN | apply Kd.R_drew)); exact HO_3.out) (Kd.R_base ho105) hb); have n1_ := Aside0.mk (Kd.R_elder' (by (with_reducible repeat (first | apply Kd.R_alloc | apply Kd.R_drewN | apply Kd.R_drew)); exact HO_10.out) (Kd.R_base ho105) hb); have n2_ := Aside0.mk (Kd.R_elder' (by (with_reducible repeat (first | apply Kd.R_alloc | apply Kd.R_drewN | apply Kd.R_drew)); exact HO_17.out) (Kd.R_base ho105) hb); have n3_ := Aside0.mk (Kd.R_lower (Kd.R_new' (Kd.R_new' (Kd.R_new' ho105 (Kd.R_lt (by (with_reducible repeat (first | apply Kd.R_alloc | apply Kd.R_drewN | apply Kd.R_drew)); exact HO_3.out))) (Kd.R_lt (by (with_reducible repeat (first | apply Kd.R_alloc | apply Kd.R_drewN | apply Kd.R_drew)); exact HO_10.out))) (Kd.R_lt (by (with_reducible repeat (first | apply Kd.R_alloc | apply Kd.R_drewN | apply Kd.R_drew)); exact HO_17.out))) (below_size (by repeat (first | (with_reducible first | exact HB.out | apply below_alloc | apply pw_below_drewN | apply below_drew1) | exact HB.out)))); have n4_ := Aside0.mk (below_step (by repeat (first | (with_reducible first | exact HB.out | apply below_alloc | apply pw_below_drewN | apply below_drew1) | exact HB.out)) hb); clear HO_3; clear HO_10; clear HO_17; clear HB; have HO_3 := n0_; have HO_10 := n1_; have HO_17 := n2_; have HO621 := n3_; have HB := n4_; clear n0_ n1_ n2_ n3_ n4_; clear hb ho105) | ((with_reducible refine gate_builtin (b := .append) (xs := #[.tmp 167, .tmp 168]) rfl ?_); (try (refine gate_guard (by rfl) ?_; dsimp only)); at_builtin; refine Kd.R_append_rows (Kd.int .i64) (w0 := w) w.heap.size rfl (.tmp 167) (.tmp 168) 22 3 (.int .i64 0) 8 rfl Try.underlying22 info3 rfl (by decide) (by omega) v620 y619 t585 _ _ _ (fun k_ => some k_ ≠ (.slice Ao10 t585.length co10 : Value).ownBlock ∧ some k_ ≠ (v598 : Value).ownBlock ∧ some k_ ≠ (u17 : Value).ownBlock) (fun _ => False) rfl rfl ?aO ?aR (fun _ _ h => h) (fun _ h => h.elim) ?aF ?aB ?aS ?aL ?_; (case aR => repeat (first | exact (Kd.R_reads' HO_3.out).2.2 | (with_reducible refine Kd.C_alloc ?_ _) | (with_reducible refine Kd.C_drewN ?_ _) | (with_reducible refine Kd.C_drew ?_))); (case aB => exact (by repeat (first | (with_reducible first | exact HB.out | apply below_alloc | apply pw_below_drewN | apply below_drew1) | exact HB.out))); (case aF => exact (fun k_ hk => ⟨Kd.fresh' (Kd.R_lt (by (with_reducible repeat (first | apply Kd.R_alloc | apply Kd.R_drewN | apply Kd.R_drew)); exact HO_3.out)) k_ hk, Kd.fresh' (Kd.R_lt (by (with_reducible repeat (first | apply Kd.R_alloc | apply Kd.R_drewN | apply Kd.R_drew)); exact HO_10.out)) k_ hk, Kd.fresh' (Kd.R_lt (by (with_reducible repeat (first | apply Kd.R_alloc | apply Kd.R_drewN | apply Kd.R_drew)); exact HO_17.out)) k_ hk⟩)); (case aO => exact (by (with_reducible repeat (first | apply Kd.R_alloc | apply Kd.R_drewN | apply Kd.R_drew)); exact Kd.R_mono HO621.out (fun _ hk => ⟨hk.1.1.2, ⟨hk.1.2, hk.2⟩⟩))); (case aS => exact (below_size (by repeat (first | (with_reducible first | exact HB.out | apply below_alloc | apply pw_below_drewN | apply below_drew1) | exact HB.out)))); (case aL => have := LMc92.out; omega); intro v623 w106 ho hb hg hat; rw [← Ny622.out] at ho; have n0_ := Aside0.mk (Kd.R_after (ok := (fun k_ => some k_ ≠ (v598 : Value).ownBlock ∧ some k_ ≠ (u17 : Value).ownBlock)) (by (with_reducible repeat (first | apply Kd.R_alloc | apply Kd.R_drewN | apply Kd.R_drew)); exact HO_3.out) hg hat); have n1_ := Aside0.mk (Kd.R_after (ok := (fun k_ => some k_ ≠ (.slice Ao10 t585.length co10 : Value).ownBlock ∧ some k_ ≠ (u17 : Value).ownBlock)) (by (with_reducible repeat (first | apply Kd.R_alloc | apply Kd.R_drewN | apply Kd.R_drew)); exact HO_10.out) hg hat); have n2_ := Aside0.mk (Kd.R_after (ok := (fun k_ => some k_ ≠ (.slice Ao10 t585.length co10 : Value).ownBlock ∧ some k_ ≠ (v598 : Value).ownBlock)) (by (with_reducible repeat (first | apply Kd.R_alloc | apply Kd.R_drewN | apply Kd.R_drew)); exact HO_17.out) hg hat); have n3_ := Aside0.mk (hb); have n4_ := Aside0.mk (ho); clear HO_3; clear HO_10; clear HO_17; clear HB; clear HO621; have HO_3 := n0_; have HO_10 := n1_; have HO_17 := n2_; have HB := n3_; have HO624 := n4_; clear n0_ n1_ n2_ n3_ n4_; clear ho hb hg hat) | ((with_reducible refine gate_builtin (b := .append) (xs := #[.tmp 169, .tmp 171]) rfl ?_); (try (refine gate_guard (by rfl) ?_; dsimp only)); at_builtin; refine Kd.R_append (Kd.int .i64) (w0 := w) w.heap.size rfl (.tmp 169) (.tmp 171) 22 3 (.int .i64 0) 8 rfl Try.underlying22 info3 rfl (by decide) (by omega) v623 y622 x18_4 [.int .i64 x18_4] (fun k_ => some k_ ≠ (.slice Ao10 t585.length co10 : Value).ownBlock ∧ some k_ ≠ (v598 : Value).ownBlock ∧ some k_ ≠ (u17 : Value).ownBlock) (fun _ => False) rfl rfl ?aP (fun _ hk => hk.elim) ?aF ?aO ?aB ?aS ?aL ?_; (case aP => exact rfl); (case aB => exact (by repeat (first | (with_reducible first | exact HB.out | apply below_alloc | apply pw_below_drewN | apply below_drew1) | exact HB.out))); (case aF => exact (fun k_ hk => ⟨Kd.fresh' (Kd.R_lt (by (with_reducible repeat (first | apply Kd.R_alloc | apply Kd.R_drewN | apply Kd.R_drew)); exact HO_3.out)) k_ hk, Kd.fresh' (Kd.R_lt (by (with_reducible repeat (first | apply Kd.R_alloc | apply Kd.R_drewN | apply Kd.R_drew)); exact HO_10.out)) k_ hk, Kd.fresh' (Kd.R_lt (by (with_reducible repeat (first | apply Kd.R_alloc | apply Kd.R_drewN | apply Kd.R_drew)); exact HO_17.out)) k_ hk⟩)); (case aO => exact (by (with_reducible repeat (first | apply Kd.R_alloc | apply Kd.R_drewN | apply Kd.R_drew)); exact HO624.out)); (case aS => exact (below_size (by repeat (first | (with_reducible first | exact HB.out | apply below_alloc | apply pw_below_drewN | apply below_drew1) | exact HB.out)))); (case aL => have := LMc93.out; omega); intro v626 w107 ho hb hg hat; rw [← Ny625.out] at ho; have n0_ := Aside0.mk (Kd.R_after (ok := (fun k_ => some k_ ≠ (v598 : Value).ownBlock ∧ some k_ ≠ (u17 : Value).ownBlock)) (by (with_reducible repeat (first | apply Kd.R_alloc | apply Kd.R_drewN | apply Kd.R_drew)); exact HO_3.out) hg hat); have n1_ := Aside0.mk (Kd.R_after (ok := (fun k_ => some k_ ≠ (.slice Ao10 t585.length co10 : Value).ownBlock ∧ some k_ ≠ (u17 : Value).ownBlock)) (by (with_reducible repeat (first | apply Kd.R_alloc | apply Kd.R_drewN | apply Kd.R_drew)); exact HO_10.out) hg hat); have n2_ := Aside0.mk (Kd.R_after (ok := (fun k_ => some k_ ≠ (.slice Ao10 t585.length co10 : Value).ownBlock ∧ some k_ ≠ (v598 : Value).ownBlock)) (by (with_reducible repeat (first | apply Kd.R_alloc | apply Kd.R_drewN | apply Kd.R_drew)); exact HO_17.out) hg hat); have n3_ := Aside0.mk (hb); have n4_ := Aside0.mk (ho); clear HO_3; clear HO_10; clear HO_17; clear HB; clear HO624; have HO_3 := n0_; have HO_10 := n1_; have HO_17 := n2_; have HB := n3_; have HO627 := n4_; clear n0_ n1_ n2_ n3_ n4_; clear ho hb hg hat; obtain ⟨Ao108, co108, eo108⟩ := Kd.R_slice HO627.out; subst eo108) | ((with_reducible refine gate_callee (f := 36) rfl ?_); refine goesL_ (some 173) rfl rfl Try.func36 (by kernel_rfl) rfl #[.slice Ao108 y625.length co108] rfl (by (try simp only [List.map_toArray, List.map_cons, List.map_nil]); first | done | rfl | (simp only [List.length_drop, List.length_take]; rfl)) ?_; (with_reducible refine (bellpullref02_Height.calls k4 (fun k_ => some k_ = (.slice Ao108 y625.length co108 : Value).ownBlock) _ _ y625 t628 _ ?side1 A94.out).mono ?_); (case side1 => exact Kd.R_V (Kd.R_tight rfl (HO627.out))); rintro e w109 ⟨rfl, hb⟩; refine ⟨_, rfl, ?_⟩; have n0_ := Aside0.mk (Kd.R_below (by (with_reducible repeat (first | apply Kd.R_alloc | apply Kd.R_drewN | apply Kd.R_drew)); exact HO_3.out) hb); have n1_ := Aside0.mk (Kd.R_below (by (with_reducible repeat (first | apply Kd.R_alloc | apply Kd.R_drewN | apply Kd.R_drew)); exact HO_10.out) hb); have n2_ := Aside0.mk (Kd.R_below (by (with_reducible repeat (first | apply Kd.R_alloc | apply Kd.R_drewN | apply Kd.R_drew)); exact HO_17.out) hb); have n3_ := Aside0.mk (Kd.R_below (by (with_reducible repeat (first | apply Kd.R_alloc | apply Kd.R_drewN | apply Kd.R_drew)); exact HO627.out) hb); have n4_ := Aside0.mk (below_step (by repeat (first | (with_reducible first | exact HB.out | apply below_alloc | apply pw_below_drewN | apply below_drew1) | exact HB.out)) hb); clear HO_3; clear HO_10; clear HO_17; clear HO627; clear HB; have HO_3 := n0_; have HO_10 := n1_; have HO_17 := n2_; have HO627 := n3_; have HB := n4_; clear n0_ n1_ n2_ n3_ n4_; (try clear hb); (try clear hb2); (try clear hk); (try clear hi)))
                                  go_roundg k4
                                  case measure => have := HJ7.out; have := HJ15.out; have := HJ23.out; have := HK4.out; omega
                                  case rel => exact ⟨(x17_4), (wrap64 (x18_4 + 1)), (by first | rfl | (simp; done) | (simp [*]; done)), H', ⟨by have := HJ7.out; have := HJ15.out; have := HJ23.out; have := HK4.out; omega⟩, ⟨by (with_reducible repeat (first | apply Kd.R_alloc | apply Kd.R_drewN | apply Kd.R_drew)); exact Kd.R_mono HO_3.out (fun _ hk => ⟨hk.1.1, hk.1.2⟩)⟩, ⟨by (with_reducible repeat (first | apply Kd.R_alloc | apply Kd.R_drewN | apply Kd.R_drew)); exact Kd.R_mono HO_10.out (fun _ hk => ⟨hk.1.1, hk.1.2⟩)⟩, ⟨by (with_reducible repeat (first | apply Kd.R_alloc | apply Kd.R_drewN | apply Kd.R_drew)); exact Kd.R_mono HO_17.out (fun _ hk => ⟨hk.1.1, hk.1.2⟩)⟩, ⟨by repeat (first | (with_reducible first | exact HB.out | apply below_alloc | apply pw_below_drewN | apply below_drew1) | exact HB.out)⟩⟩
                              · rw [if_neg c93] at H
                                exact absurd H (by simp)
                            · rw [if_neg c92] at H
                              exact absurd H (by simp)
                          · rw [if_neg c91] at H
                            have c91b0 : decide (x18_4 ≤ 2) = false := decide_eq_false c91
                            clear c91
                            replace H := Option.bind_eq_some_iff.mp H
                            obtain ⟨t632, A1100, H⟩ := H
                            replace H : (if t632 = true then (some (t597 == 0)) else (none)) = some r := H
                            have A110 := Aside0.mk A1100
                            clear A1100
                            by_cases c111 : t632 = true
                            · subst c111
                              have H1 : (some (t597 == 0)) = some r := by rw [if_pos rfl] at H; exact H
                              clear H
                              have H := H1
                              clear H1
                              obtain rfl := Option.some.inj H
                              obtain ⟨Ao112, co112, eo112⟩ := Kd.R_slice HO_10.out
                              subst eo112
                              obtain ⟨Ao113, co113, eo113⟩ := Kd.R_slice HO_17.out
                              subst eo113
                              go_wp2_with (first | ((with_reducible refine gate_callee (f := 20) rfl ?_); refine goesL_ (some 181) rfl rfl Try.func20 (by kernel_rfl) rfl #[.slice Ao112 t596.length co112, .slice Ao113 x17_4.length co113] rfl (by (try simp only [List.map_toArray, List.map_cons, List.map_nil]); first | done | rfl | (simp only [List.length_drop, List.length_take]; rfl)) ?_; (with_reducible refine (bellpullref01_Same.calls k4 _ _ t596 _ _ x17_4 true _ ?side1 ?side2 ?side3 ?side4 A110.out).mono ?_); (case side1 => repeat (first | exact (Kd.R_reads' HO_10.out).2.2 | (with_reducible refine Kd.C_alloc ?_ _) | (with_reducible refine Kd.C_drewN ?_ _) | (with_reducible refine Kd.C_drew ?_))); (case side2 => exact (Kd.R_reads' HO_10.out).2.1); (case side3 => repeat (first | exact (Kd.R_reads' HO_17.out).2.2 | (with_reducible refine Kd.C_alloc ?_ _) | (with_reducible refine Kd.C_drewN ?_ _) | (with_reducible refine Kd.C_drew ?_))); (case side4 => exact (Kd.R_reads' HO_17.out).2.1); rintro e w' ⟨rfl, ⟨nd, rfl⟩⟩; refine ⟨_, rfl, ?_⟩))
                              go_ret
                              exact ⟨by first | rfl | (simp [errW_none, errW_some] <;> rfl) | (simp [*, errW_none, errW_some] <;> rfl), by repeat (first | (with_reducible first | exact HB.out | apply below_alloc | apply pw_below_drewN | apply below_drew1) | exact HB.out)⟩
                            · replace c111 := Bool.eq_false_iff.mpr c111
                              subst c111
                              have H1 : (none) = some r := by rw [if_neg (show ¬ (false = true) by decide)] at H; exact H
                              clear H
                              have H := H1
                              clear H1
                              exact absurd H (by simp)
                    · rw [if_neg c88] at H
                      have c88b0 : (x13_7 == 0) = false := beq_eq_false_iff_ne.mpr c88
                      have c88b1 : (x13_7 != 0) = true := bne_iff_ne.mpr c88
                      obtain rfl := Option.some.inj H
                      go_wp2
                      go_ret
                      exact ⟨by first | rfl | (simp [errW_none, errW_some] <;> rfl) | (simp [*, errW_none, errW_some] <;> rfl), by repeat (first | (with_reducible first | exact HB.out | apply below_alloc | apply pw_below_drewN | apply below_drew1) | exact HB.out)⟩
            · rw [if_neg c21] at H
              have c21b0 : (t600 == 0) = false := beq_eq_false_iff_ne.mpr c21
              have c21b1 : (t600 != 0) = true := bne_iff_ne.mpr c21
              by_cases c114 : (t588.length : Int) = 0
              · rw [if_pos c114] at H
                have c114b0 : ((t588.length : Int) == 0) = true := beq_iff_eq.mpr c114
                have c114b1 : ((t588.length : Int) != 0) = false := bne_eq_false_iff_eq.mpr c114
                clear c114
                by_cases c115 : t592 = true
                · subst c115
                  have H1 : (none) = some r := by rw [if_pos rfl] at H; exact H
                  clear H
                  have H := H1
                  clear H1
                  exact absurd H (by simp)
                · replace c115 := Bool.eq_false_iff.mpr c115
                  subst c115
                  have H1 : (if t594 = 0 then (if t589 = t600 then (if t593 = t600 then (if t595 = t600 then ((bellpulllaw02_lives.f kj15).bind fun t601 => (some t601)) else (none)) else (none)) else (none)) else (none)) = some r := by rw [if_neg (show ¬ (false = true) by decide)] at H; exact H
                  clear H
                  have H := H1
                  clear H1
                  by_cases c116 : t594 = 0
                  · rw [if_pos c116] at H
                    have c116b0 : (t594 == 0) = true := beq_iff_eq.mpr c116
                    have c116b1 : (t594 != 0) = false := bne_eq_false_iff_eq.mpr c116
                    clear c116
                    by_cases c117 : t589 = t600
                    · rw [if_pos c117] at H
                      have c117b0 : (t589 == t600) = true := beq_iff_eq.mpr c117
                      have c117b1 : (t589 != t600) = false := bne_eq_false_iff_eq.mpr c117
                      clear c117
                      by_cases c118 : t593 = t600
                      · rw [if_pos c118] at H
                        have c118b0 : (t593 == t600) = true := beq_iff_eq.mpr c118
                        have c118b1 : (t593 != t600) = false := bne_eq_false_iff_eq.mpr c118
                        clear c118
                        by_cases c119 : t595 = t600
                        · rw [if_pos c119] at H
                          have c119b0 : (t595 == t600) = true := beq_iff_eq.mpr c119
                          have c119b1 : (t595 != t600) = false := bne_eq_false_iff_eq.mpr c119
                          clear c119
                          replace H := Option.bind_eq_some_iff.mp H
                          obtain ⟨t601, A1200, H⟩ := H
                          replace H : (some t601) = some r := H
                          have A120 := Aside0.mk A1200
                          clear A1200
                          obtain rfl := Option.some.inj H
                          obtain ⟨Ao121, co121, eo121, _⟩ := Kd.Q_slice HO_4.out
                          subst eo121
                          go_wp2_with (first | (go_at_call 19; (with_reducible refine (bellpulllaw02_lives.calls kj15  t601 _ A120.out).mono ?_); rintro e w122 ⟨rfl, hb⟩; have n0_ := Aside0.mk (Kd.R_below (by (with_reducible repeat (first | apply Kd.R_alloc | apply Kd.R_drewN | apply Kd.R_drew)); exact HO_3.out) hb); have n1_ := Aside0.mk (Kd.Q_below (by (with_reducible repeat (first | apply Kd.Q_alloc | apply Kd.Q_drewN | apply Kd.Q_drew)); exact HO_4.out) hb); have n2_ := Aside0.mk (Kd.R_below (by (with_reducible repeat (first | apply Kd.R_alloc | apply Kd.R_drewN | apply Kd.R_drew)); exact HO_10.out) hb); have n3_ := Aside0.mk (below_step (by repeat (first | (with_reducible first | exact HB.out | apply below_alloc | apply pw_below_drewN | apply below_drew1) | exact HB.out)) hb); clear HO_3; clear HO_4; clear HO_10; clear HB; have HO_3 := n0_; have HO_4 := n1_; have HO_10 := n2_; have HB := n3_; clear n0_ n1_ n2_ n3_; (try clear hb); (try clear hb2); (try clear hk); (try clear hi)))
                          go_ret
                          exact ⟨by first | rfl | (simp [errW_none, errW_some] <;> rfl) | (simp [*, errW_none, errW_some] <;> rfl), by repeat (first | (with_reducible first | exact HB.out | apply below_alloc | apply pw_below_drewN | apply below_drew1) | exact HB.out)⟩
                        · rw [if_neg c119] at H
                          exact absurd H (by simp)
                      · rw [if_neg c118] at H
                        exact absurd H (by simp)
                    · rw [if_neg c117] at H
                      exact absurd H (by simp)
                  · rw [if_neg c116] at H
                    exact absurd H (by simp)
              · rw [if_neg c114] at H
                exact absurd H (by simp)

/-- THE ONE PURE STATEMENT of bellpulllaw02_EchoDerivatives: yours. -/
def bellpulllaw02_EchoDerivatives.Pure : Prop := ∀ (l0 : List Int), l0.length ≤ maxLen → l0.length * 8 ≤ 140737488351232 → (∀ x ∈ l0, (Lit.int .i64 x).wf = true) → ∃ k, bellpulllaw02_EchoDerivatives.f k l0 = some true
theorem bellpulllaw02_EchoDerivatives.walk (P : bellpulllaw02_EchoDerivatives.Pure) (a0 : Option Addr) (len0 cap0 : Nat) (z0 : List Int) (w : World) (w0 : (a0 = none ∧ len0 = 0 ∧ cap0 = 0 ∧ z0 = []) ∨ ∃ x, a0 = some x ∧ len0 ≤ cap0 ∧ cap0 ≤ maxLen ∧ z0.length = cap0 ∧ (∀ i, i < z0.length → w.cell? (x.add i) = some (.int .i64 (z0.getD i 0))) ∧ ∀ n ∈ z0, (Lit.int .i64 n).wf = true) (y0 : len0 * 8 ≤ 140737488351232) :
    Calls Try.prog 11 #[.slice a0 len0 cap0] w fun e w' => e = .returned (.bool true) ∧ Below w.heap.size w w' := by
  obtain ⟨l0, rfl, hr0, hm0, hw0, hc0⟩ := ReadsInt.ofRowC w0
  obtain ⟨k, h⟩ := P l0 hm0 y0 hw0
  refine (bellpulllaw02_EchoDerivatives.calls k _ _ l0 true w (Kd.C_of_reads (d := (0 : Int)) (h1 := fun _ => rfl) hr0) hc0 h).mono ?_
  rintro e w' ⟨rfl, hd⟩
  exact ⟨rfl, hd⟩

end Go.Proofs.Ytploaicljkennaa.PE
