/- Rows compared with themselves; In. -/
import Derived.Test.YtgfnmimfoicmmaaPMx6
import Derived.Test.YtgfnmimfoicmmaaPMx12
import Derived.Test.YtgfnmimfoicmmaaDivS
set_option linter.unusedVariables false
set_option linter.unusedSimpArgs false
namespace Go.Proofs.Ytgfnmimfoicmmaa.Pure
open Go.RowKit Go.Proofs.Ytgfnmimfoicmmaa.PM Go.Proofs.YtgfnmimfoicmmaaW.PrintWords Go.Proofs.YtgfnmimfoicmmaaW.PrintLast

theorem Before_loop (l : List Int) (hl : l.length ≤ 100000) : ∀ (j i : Nat), i + j = l.length → Ev (fun k => bellpullref01_Before.l0 k l l (i : Int)) false
  | 0, i, h => by
    refine Ev.succ ?_
    simp only [bellpullref01_Before.l0]
    refine Ev.neg (by omega) (Ev.succ ?_)
    simp only [bellpullref01_Before.j1]
    refine Ev.neg (by simp) ?_
    simpa using Ev.now false
  | j + 1, i, h => by
    refine Ev.succ ?_
    simp only [bellpullref01_Before.l0]
    refine Ev.pos (by omega) (Ev.succ ?_)
    simp only [bellpullref01_Before.j1]
    have hw : wrap64 ((i : Int) + 1) = ((i + 1 : Nat) : Int) := by rw [wrap_id (by omega) (by omega)]; omega
    rw [hw]
    exact Ev.pos (decide_eq_true (by omega)) (Ev.pos (by omega) (Ev.pos (by omega) (Ev.pos (by omega) (Ev.pos trivial (Before_loop l hl j (i + 1) (by omega))))))
theorem Same_self (l : List Int) (hl : l.length ≤ 100000) : Ev (fun k => bellpullref01_Same.f k l l) true := by
  unfold bellpullref01_Same.f bellpullref01_Before.f
  have h := Before_loop l hl l.length 0 (by omega)
  exact Ev.bind h (Ev.neg (by simp) (Ev.bind h (Ev.now _)))
end Go.Proofs.Ytgfnmimfoicmmaa.Pure
