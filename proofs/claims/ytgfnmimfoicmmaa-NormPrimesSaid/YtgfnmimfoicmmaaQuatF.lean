/- Sums of four squares as quaternions; what Mul, Conj and Norm return. -/
import Derived.Test.YtgfnmimfoicmmaaPMx3
import Derived.Test.YtgfnmimfoicmmaaPMx7
import Derived.Test.YtgfnmimfoicmmaaPMx21
import Derived.Test.YtgfnmimfoicmmaaPMx23
import Derived.Test.YtgfnmimfoicmmaaChkR
import Derived.Test.YtgfnmimfoicmmaaSqE
set_option linter.unusedVariables false
set_option linter.unusedSimpArgs false
namespace Go.Proofs.Ytgfnmimfoicmmaa.Pure
open Go.RowKit Go.Proofs.Ytgfnmimfoicmmaa.PM Go.Proofs.YtgfnmimfoicmmaaW.PrintWords Go.Proofs.YtgfnmimfoicmmaaW.PrintLast
open Go.Proofs.Ytgfnmimfoicmmaa.Sq

theorem sq_pos (x : Int) : 0 ≤ x * x := by
  rcases Int.le_total 0 x with h | h
  · exact Int.mul_nonneg h h
  · have := Int.mul_nonneg (show 0 ≤ -x by omega) (show 0 ≤ -x by omega)
    rwa [Int.neg_mul_neg] at this
theorem four_list {n : Nat} {l : List Int} (h : sq 4 n 100 = some l) : ∃ a b c d : Int, l = [a, b, c, d] ∧ (0 ≤ a ∧ a ≤ 100) ∧ (0 ≤ b ∧ b ≤ 100) ∧ (0 ≤ c ∧ c ≤ 100) ∧ (0 ≤ d ∧ d ≤ 100) ∧ N4 a b c d = (n : Int) := by
  obtain ⟨a, t1, rfl, a0, a1, b, t2, rfl, b0, b1, c, t3, rfl, c0, c1, d, t4, rfl, d0, d1, rfl, he⟩ := sq_good _ _ _ _ h
  exact ⟨a, b, c, d, rfl, ⟨a0, by omega⟩, ⟨b0, by omega⟩, ⟨c0, by omega⟩, ⟨d0, by omega⟩, by unfold N4; omega⟩
theorem twice_wrap {x : Int} (h : -1000000 ≤ x ∧ x ≤ 1000000) : wrap64 (2 * x) = 2 * x := wrap_id (by omega) (by omega)
end Go.Proofs.Ytgfnmimfoicmmaa.Pure
