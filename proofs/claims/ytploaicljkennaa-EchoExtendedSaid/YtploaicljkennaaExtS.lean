/- What Extend answers. -/
import Derived.Test.YtploaicljkennaaPEx12
import Derived.Test.YtploaicljkennaaSmoothS
set_option linter.unusedVariables false
set_option linter.unusedSimpArgs false
namespace Go.Proofs.Ytploaicljkennaa.Pure
open Go.RowKit Go.Proofs.YtploaicljkennaaW.PrintWords Go.Proofs.Ytploaicljkennaa.PE
def extS (l : List Int) : List Int := (if smoothS (l ++ [1]) = true then [1] else []) ++ (if smoothS (l ++ [2]) = true then [2] else [])
theorem Extend_round (l : List Int) (hl : l.length ≤ 300) (out : List Int) (ho : out.length ≤ 10) (x : Nat) (hx : x ≤ 2) (r : List Int × Int)
    (h : Ev (fun k => echo_Extend.l0 k l (out ++ if smoothS (l ++ [(x : Int)]) = true then [(x : Int)] else []) ((x + 1 : Nat) : Int)) r) : Ev (fun k => echo_Extend.l0 k l out (x : Int)) r := by
  refine Ev.succ ?_
  have hw : wrap64 ((x : Int) + 1) = ((x + 1 : Nat) : Int) := by rw [wrap_id] <;> omega
  simp only [echo_Extend.l0, hw]
  have hc : clipAppend.f l (x : Int) = some (l ++ [(x : Int)]) := by unfold clipAppend.f; rw [if_pos (by omega)]
  refine Ev.pos (by omega) (Ev.bindc hc (Ev.bind (echo_smooth_ev _ (by unfold Fits; simp; omega)) ?_))
  by_cases hs : smoothS (l ++ [(x : Int)]) = true
  · rw [if_pos hs] at h
    exact Ev.pos hs (Ev.pos (by omega) h)
  · rw [if_neg hs, List.append_nil] at h
    exact Ev.neg hs h
theorem echo_Extend_good (l : List Int) (hl : l.length < 200) (hc : checkS l 2 = 0) : Ev (fun k => echo_Extend.f k l) (extS l, 0) := by
  unfold echo_Extend.f
  refine Ev.neg (by omega) (Ev.bindc (echo_check_eq l 2) (Ev.pos hc ?_))
  refine Extend_round l (by omega) [] (by simp) 1 (by omega) _ (Extend_round l (by omega) _ (by split <;> simp) 2 (by omega) _ (Ev.succ ?_))
  simp only [echo_Extend.l0]
  refine Ev.neg (by omega) ?_
  unfold extS
  exact Ev.now _
theorem echo_Extend_bad (l : List Int) (h : ¬ (l.length < 200 ∧ checkS l 2 = 0)) : Ev (fun k => echo_Extend.f k l) ([], if l.length ≥ 200 then 3 else checkS l 2) := by
  unfold echo_Extend.f
  by_cases h1 : l.length ≥ 200
  · rw [if_pos h1]
    exact Ev.pos (by omega) (Ev.now _)
  · rw [if_neg h1]
    exact Ev.neg (by omega) (Ev.bindc (echo_check_eq l 2) (Ev.neg (fun e => h ⟨by omega, e⟩) (Ev.now _)))
end Go.Proofs.Ytploaicljkennaa.Pure
