/- Sums of four squares as quaternions; what Mul, Conj and Norm return. -/
import Derived.Test.YtgfnmimfoicmmaaPMx3
import Derived.Test.YtgfnmimfoicmmaaPMx7
import Derived.Test.YtgfnmimfoicmmaaPMx21
import Derived.Test.YtgfnmimfoicmmaaPMx23
import Derived.Test.YtgfnmimfoicmmaaChkR
import Derived.Test.YtgfnmimfoicmmaaSqE
set_option linter.unusedVariables false
set_option linter.unusedSimpArgs false
namespace Go.Proofs.Ytgfnmimfoicmmaa.Pure
open Go.RowKit Go.Proofs.Ytgfnmimfoicmmaa.PM Go.Proofs.YtgfnmimfoicmmaaW.PrintWords Go.Proofs.YtgfnmimfoicmmaaW.PrintLast
open Go.Proofs.Ytgfnmimfoicmmaa.Sq

theorem four_list {n : Nat} {l : List Int} (h : sq 4 n 100 = some l) : ∃ a b c d : Int, l = [a, b, c, d] ∧ (0 ≤ a ∧ a ≤ 100) ∧ (0 ≤ b ∧ b ≤ 100) ∧ (0 ≤ c ∧ c ≤ 100) ∧ (0 ≤ d ∧ d ≤ 100) ∧ N4 a b c d = (n : Int) := by
  obtain ⟨a, t1, rfl, a0, a1, b, t2, rfl, b0, b1, c, t3, rfl, c0, c1, d, t4, rfl, d0, d1, rfl, he⟩ := sq_good _ _ _ _ h
  exact ⟨a, b, c, d, rfl, ⟨a0, by omega⟩, ⟨b0, by omega⟩, ⟨c0, by omega⟩, ⟨d0, by omega⟩, by unfold N4; omega⟩
theorem twice_wrap {x : Int} (h : -1000000 ≤ x ∧ x ≤ 1000000) : wrap64 (2 * x) = 2 * x := wrap_id (by omega) (by omega)
theorem tdiv_two (x : Int) : Int.tdiv (2 * x) 2 = x := by rw [Int.mul_comm, Int.mul_tdiv_cancel _ (by omega)]
theorem Conj_yes {a b c d : Int} (hc : chk [⟨a, b, c, d⟩] = 0) : Ev (fun k => norm_Conj.f k a b c d) (a, wrap64 (-b), wrap64 (-c), wrap64 (-d), 0) := by
  unfold norm_Conj.f
  exact Ev.bind (check_ev _ (by simp)) (Ev.pos hc (Ev.bindc rfl (Ev.bindc rfl (Ev.bindc rfl (Ev.now _)))))
theorem u_mod (a m : Int) (ha : 0 ≤ a ∧ a ≤ 65535) (hm : 0 < m) (hm2 : m ≤ 100000) : ∃ n : Nat, Int.tmod (wrap64 a) m = (n : Int) ∧ (n : Int) < m := by
  rw [wrap_id (x := a) (by omega) (by omega), Int.tmod_eq_emod_of_nonneg (by omega)]
  have h0 := Int.emod_nonneg a (show m ≠ 0 by omega)
  have h1 := Int.emod_lt_of_pos a hm
  exact ⟨(a % m).toNat, by omega, by omega⟩
end Go.Proofs.Ytgfnmimfoicmmaa.Pure
