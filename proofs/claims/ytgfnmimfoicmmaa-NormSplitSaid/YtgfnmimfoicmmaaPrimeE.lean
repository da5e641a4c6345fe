/- Primes: the program's and the reference's; Split. -/
import Derived.Test.YtgfnmimfoicmmaaPMx3
import Derived.Test.YtgfnmimfoicmmaaPMx7
import Derived.Test.YtgfnmimfoicmmaaPMx22
import Derived.Test.YtgfnmimfoicmmaaPMx26
import Derived.Test.YtgfnmimfoicmmaaPMx27
import Derived.Test.YtgfnmimfoicmmaaQuatF
set_option linter.unusedVariables false
set_option linter.unusedSimpArgs false
namespace Go.Proofs.Ytgfnmimfoicmmaa.Pure
open Go.RowKit Go.Proofs.Ytgfnmimfoicmmaa.PM Go.Proofs.YtgfnmimfoicmmaaW.PrintWords Go.Proofs.YtgfnmimfoicmmaaW.PrintLast
open Go.Proofs.Ytgfnmimfoicmmaa.Sq

/-- Both loops go the same way, and end. -/
theorem prime_loop (n : Int) (hn : n ≤ 1000000) : ∀ (j d : Nat), d + j = 1001 → 2 ≤ d → ∃ b, Ev (fun k => norm_prime.l0 k n (d : Int)) b ∧ Ev (fun k => bellpullref04_Prime.l0 k n (d : Int)) b
  | j, d, h, hd => by
    have hdd : d * d ≤ 1001 * 1001 := Nat.mul_le_mul (by omega) (by omega)
    have hv : wrap64 ((d : Int) * (d : Int)) = ((d * d : Nat) : Int) := by rw [← Int.natCast_mul, wrap_id (by omega) (by omega)]
    have hw : wrap64 ((d : Int) + 1) = ((d + 1 : Nat) : Int) := by rw [wrap_id (by omega) (by omega)]; omega
    by_cases hc : ((d * d : Nat) : Int) ≤ n
    · by_cases ht : Int.tmod n (d : Int) = 0
      · refine ⟨false, Ev.succ ?_, Ev.succ ?_⟩
        · simp only [norm_prime.l0]
          rw [hv]
          exact Ev.pos hc (Ev.neg (by omega) (Ev.pos ht (Ev.now _)))
        · simp only [bellpullref04_Prime.l0]
          rw [hv]
          exact Ev.pos hc (Ev.neg (by omega) (Ev.pos ht (Ev.now _)))
      · match j, h with
        | 0, h =>
          obtain rfl : d = 1001 := by omega
          omega
        | j + 1, h =>
          obtain ⟨b, h1, h2⟩ := prime_loop n hn j (d + 1) (by omega) (by omega)
          refine ⟨b, Ev.succ ?_, Ev.succ ?_⟩
          · simp only [norm_prime.l0]
            rw [hv, hw]
            exact Ev.pos hc (Ev.neg (by omega) (Ev.neg ht h1))
          · simp only [bellpullref04_Prime.l0]
            rw [hv, hw]
            exact Ev.pos hc (Ev.neg (by omega) (Ev.neg ht h2))
    · refine ⟨decide (n > 1), Ev.succ ?_, Ev.succ ?_⟩
      · simp only [norm_prime.l0]
        rw [hv]
        exact Ev.neg hc (Ev.now _)
      · simp only [bellpullref04_Prime.l0]
        rw [hv]
        refine Ev.neg hc ?_
        rw [show decide (n ≥ 2) = decide (n > 1) from by rw [decide_eq_decide]; omega]
        exact Ev.now _
theorem prime_ev (n : Int) (hn : n ≤ 1000000) : ∃ b, Ev (fun k => norm_prime.f k n) b ∧ Ev (fun k => bellpullref04_Prime.f k n) b := prime_loop n hn 999 2 (by omega) (by omega)
theorem Prime_yes {a b c d n : Int} {p : Bool} (hc : chk [⟨a, b, c, d⟩] = 0) (hn : norm_quat_norm.f a b c d = some n) (hp : Ev (fun k => norm_prime.f k n) p) : Ev (fun k => norm_Prime.f k a b c d) (p, 0) := by
  unfold norm_Prime.f
  exact Ev.bind (check_ev _ (by simp)) (Ev.pos hc (Ev.bindc rfl (Ev.bindc hn (Ev.bind hp (Ev.now _)))))
/-- Split of a prime: twice the greatest sum of four squares. -/
theorem Split_yes (p : Nat) (h2 : 2 ≤ p) (hp : p ≤ 10000) (hpr : Ev (fun k => norm_prime.f k (p : Int)) true) : ∃ a b c d : Int, sq 4 p 100 = some [a, b, c, d] ∧ (0 ≤ a ∧ a ≤ 100) ∧ (0 ≤ b ∧ b ≤ 100) ∧ (0 ≤ c ∧ c ≤ 100) ∧ (0 ≤ d ∧ d ≤ 100) ∧ N4 a b c d = (p : Int) ∧
    Ev (fun k => norm_Split.f k (p : Int)) (2 * a, 2 * b, 2 * c, 2 * d, 0) := by
  obtain ⟨l, hl⟩ := four_some p hp
  obtain ⟨a, b, c, d, rfl, ra, rb, rc, rd', hs⟩ := four_list hl
  refine ⟨a, b, c, d, hl, ra, rb, rc, rd', hs, ?_⟩
  unfold norm_Split.f
  refine Ev.bindc (counted_yes _ 2 (by omega) (by omega)) (Ev.pos rfl (Ev.bind hpr (Ev.succ ?_)))
  simp only [norm_Split.j0]
  obtain ⟨r, h0, h1, h3⟩ := root_ev p hp
  refine Ev.neg (by simp) (Ev.bind h3 (Ev.bind (squares_ev 3 p r (by omega) hp h0 h1) ?_))
  rw [hl]
  simp only [Option.getD_some]
  have r0 : ∀ x y z t : Int, rd [x, y, z, t] 0 = x ∧ rd [x, y, z, t] 1 = y ∧ rd [x, y, z, t] 2 = z ∧ rd [x, y, z, t] 3 = t := fun _ _ _ _ => ⟨rfl, rfl, rfl, rfl⟩
  simp only [r0]
  rw [twice_wrap (x := a) (by omega), twice_wrap (x := b) (by omega), twice_wrap (x := c) (by omega), twice_wrap (x := d) (by omega)]
  exact Ev.pos (by simp) (Ev.pos (by simp) (Ev.pos (by simp) (Ev.pos (by simp) (Ev.now _))))
theorem Split_no (p : Int) (h : ¬ (2 ≤ p ∧ p ≤ 10000) ∨ Ev (fun k => norm_prime.f k p) false) : Ev (fun k => norm_Split.f k p) (0, 0, 0, 0, 1) := by
  unfold norm_Split.f
  by_cases hc : 2 ≤ p ∧ p ≤ 10000
  · have hp := h.resolve_left (fun c => c hc)
    refine Ev.bindc (counted_yes _ 2 hc.1 hc.2) (Ev.pos rfl (Ev.bind hp (Ev.succ ?_)))
    simp only [norm_Split.j0]
    exact Ev.pos rfl (Ev.now _)
  · refine Ev.bindc (counted_no _ 2 hc) (Ev.neg (by simp) (Ev.succ ?_))
    simp only [norm_Split.j0]
    exact Ev.pos trivial (Ev.now _)
end Go.Proofs.Ytgfnmimfoicmmaa.Pure
