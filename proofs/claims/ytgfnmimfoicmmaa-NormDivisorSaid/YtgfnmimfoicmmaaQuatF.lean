/- Sums of four squares as quaternions; what Mul, Conj and Norm return. -/
import Derived.Test.YtgfnmimfoicmmaaPMx3
import Derived.Test.YtgfnmimfoicmmaaPMx7
import Derived.Test.YtgfnmimfoicmmaaPMx21
import Derived.Test.YtgfnmimfoicmmaaPMx23
import Derived.Test.YtgfnmimfoicmmaaChkR
import Derived.Test.YtgfnmimfoicmmaaSqE
set_option linter.unusedVariables false
set_option linter.unusedSimpArgs false
namespace Go.Proofs.Ytgfnmimfoicmmaa.Pure
open Go.RowKit Go.Proofs.Ytgfnmimfoicmmaa.PM Go.Proofs.YtgfnmimfoicmmaaW.PrintWords Go.Proofs.YtgfnmimfoicmmaaW.PrintLast
open Go.Proofs.Ytgfnmimfoicmmaa.Sq

theorem sq_pos (x : Int) : 0 ≤ x * x := by
  rcases Int.le_total 0 x with h | h
  · exact Int.mul_nonneg h h
  · have := Int.mul_nonneg (show 0 ≤ -x by omega) (show 0 ≤ -x by omega)
    rwa [Int.neg_mul_neg] at this
theorem tdiv_two (x : Int) : Int.tdiv (2 * x) 2 = x := by rw [Int.mul_comm, Int.mul_tdiv_cancel _ (by omega)]
theorem refMul_eq {a b c d e f g h : Int} (r : Int × Int × Int × Int) (hr : norm_quat_double.f a b c d e f g h = some r) : bellpullref04_Mul.f a b c d e f g h = some (wrap64 (Int.tdiv r.1 2), wrap64 (Int.tdiv r.2.1 2), wrap64 (Int.tdiv r.2.2.1 2), wrap64 (Int.tdiv r.2.2.2 2)) := by
  unfold norm_quat_double.f at hr
  obtain rfl := Option.some.inj hr
  rfl
theorem refMul_ev {A B a b c d e f g h : Int} (hAB : A * B ≤ 1000000000000000000) (ha : sm A a) (hb : sm A b) (hc : sm A c) (hd : sm A d) (he : sm B e) (hf : sm B f) (hg : sm B g) (hh : sm B h) :
    bellpullref04_Mul.f a b c d e f g h = some (wrap64 (Int.tdiv (D0 a b c d e f g h) 2), wrap64 (Int.tdiv (D1 a b c d e f g h) 2), wrap64 (Int.tdiv (D2 a b c d e f g h) 2), wrap64 (Int.tdiv (D3 a b c d e f g h) 2)) := refMul_eq _ (double_ev hAB ha hb hc hd he hf hg hh)
end Go.Proofs.Ytgfnmimfoicmmaa.Pure
