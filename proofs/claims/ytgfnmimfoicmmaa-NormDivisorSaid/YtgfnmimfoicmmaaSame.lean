/- Rows compared with themselves; In. -/
import Derived.Test.YtgfnmimfoicmmaaPMx6
import Derived.Test.YtgfnmimfoicmmaaPMx12
import Derived.Test.YtgfnmimfoicmmaaDivS
set_option linter.unusedVariables false
set_option linter.unusedSimpArgs false
namespace Go.Proofs.Ytgfnmimfoicmmaa.Pure
open Go.RowKit Go.Proofs.Ytgfnmimfoicmmaa.PM Go.Proofs.YtgfnmimfoicmmaaW.PrintWords Go.Proofs.YtgfnmimfoicmmaaW.PrintLast

theorem In_yes {a l h : Int} (h0 : l ≤ a) (h1 : a ≤ h) : bellpullref01_In.f a l h = some true := by
  unfold bellpullref01_In.f
  rw [if_pos (by omega), decide_eq_true h1]
theorem In_no {a l h : Int} (hn : ¬ (l ≤ a ∧ a ≤ h)) : bellpullref01_In.f a l h = some false := by
  unfold bellpullref01_In.f
  by_cases h0 : a ≥ l
  · rw [if_pos h0, decide_eq_false (by omega)]
  · rw [if_neg h0]
end Go.Proofs.Ytgfnmimfoicmmaa.Pure
