import Derived.Test.YtgfnmimfoicmmaaPMx18
import Derived.Test.YtgfnmimfoicmmaaSqR
import Derived.Test.YtgfnmimfoicmmaaSame
set_option linter.unusedVariables false
set_option linter.unusedSimpArgs false
namespace Go.Proofs.Ytgfnmimfoicmmaa.Pure
open Go.RowKit Go.Proofs.Ytgfnmimfoicmmaa.PM Go.Proofs.YtgfnmimfoicmmaaW.PrintWords Go.Proofs.YtgfnmimfoicmmaaW.PrintLast
open Go.Proofs.Ytgfnmimfoicmmaa.Sq

theorem NormSquares : bellpulllaw04_NormSquares.Pure := by
  intro a0 ha
  refine Ev.rounds ?_
  unfold bellpulllaw04_NormSquares.f
  by_cases hin : 0 ≤ a0 ∧ a0 ≤ 10000
  · obtain ⟨n, rfl⟩ : ∃ n : Nat, a0 = (n : Int) := ⟨a0.toNat, by omega⟩
    have hn : n ≤ 10000 := by omega
    obtain ⟨l, hl⟩ := four_some n hn
    refine Ev.bind (Four_ev n hn) (Ev.bind (Three_ev n hn) (Ev.bindc (In_yes hin.1 hin.2) (Ev.pos rfl ?_)))
    refine Ev.bind (Squares_ev 3 n (by omega) hn) ?_
    rw [hl]
    refine Ev.bind (Same_self l (by have := sq_len hl; omega)) (Ev.pos rfl (Ev.pos rfl (Ev.bind lives_ev (Ev.succ ?_))))
    simp only [bellpulllaw04_NormSquares.j0]
    refine Ev.neg (by simp) (Ev.bind (Squares_ev 2 n (by omega) hn) ?_)
    rcases hm : sq 3 n 100 with _ | m
    · exact Ev.neg (by simp) (Ev.pos (by simp) (Ev.now _))
    · have := sq_len hm
      exact Ev.pos (by simp [this]) (Ev.bind (Same_self m (by omega)) (Ev.pos rfl (Ev.now _)))
  · refine Ev.bind (Four_no a0 hin) (Ev.bind (Three_no a0 hin) (Ev.bindc (In_no hin) (Ev.neg (by simp) ?_)))
    exact Ev.pos (by simp [wrap64]) (Ev.pos rfl (Ev.pos rfl (Ev.bind lives_ev (Ev.now _))))
end Go.Proofs.Ytgfnmimfoicmmaa.Pure
