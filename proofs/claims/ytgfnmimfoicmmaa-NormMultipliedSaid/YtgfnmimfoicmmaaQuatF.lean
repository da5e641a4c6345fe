/- Sums of four squares as quaternions; what Mul, Conj and Norm return. -/
import Derived.Test.YtgfnmimfoicmmaaPMx3
import Derived.Test.YtgfnmimfoicmmaaPMx7
import Derived.Test.YtgfnmimfoicmmaaPMx21
import Derived.Test.YtgfnmimfoicmmaaPMx23
import Derived.Test.YtgfnmimfoicmmaaChkR
import Derived.Test.YtgfnmimfoicmmaaSqE
set_option linter.unusedVariables false
set_option linter.unusedSimpArgs false
namespace Go.Proofs.Ytgfnmimfoicmmaa.Pure
open Go.RowKit Go.Proofs.Ytgfnmimfoicmmaa.PM Go.Proofs.YtgfnmimfoicmmaaW.PrintWords Go.Proofs.YtgfnmimfoicmmaaW.PrintLast
open Go.Proofs.Ytgfnmimfoicmmaa.Sq

theorem tdiv_two (x : Int) : Int.tdiv (2 * x) 2 = x := by rw [Int.mul_comm, Int.mul_tdiv_cancel _ (by omega)]
theorem Conj_yes {a b c d : Int} (hc : chk [⟨a, b, c, d⟩] = 0) : Ev (fun k => norm_Conj.f k a b c d) (a, wrap64 (-b), wrap64 (-c), wrap64 (-d), 0) := by
  unfold norm_Conj.f
  exact Ev.bind (check_ev _ (by simp)) (Ev.pos hc (Ev.bindc rfl (Ev.bindc rfl (Ev.bindc rfl (Ev.now _)))))
theorem Norm_yes {a b c d n : Int} (hc : chk [⟨a, b, c, d⟩] = 0) (hn : norm_quat_norm.f a b c d = some n) : Ev (fun k => norm_Norm.f k a b c d) (n, 0) := by
  unfold norm_Norm.f
  exact Ev.bind (check_ev _ (by simp)) (Ev.pos hc (Ev.bindc rfl (Ev.bindc hn (Ev.now _))))
end Go.Proofs.Ytgfnmimfoicmmaa.Pure
