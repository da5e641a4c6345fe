/- 'sum' of a sum of squares: true. -/
import Derived.Test.YtgfnmimfoicmmaaPMx9
import Derived.Test.YtgfnmimfoicmmaaSqE
set_option linter.unusedVariables false
set_option linter.unusedSimpArgs false
namespace Go.Proofs.Ytgfnmimfoicmmaa.Pure
open Go.RowKit Go.Proofs.Ytgfnmimfoicmmaa.PM Go.Proofs.YtgfnmimfoicmmaaW.PrintWords Go.Proofs.YtgfnmimfoicmmaaW.PrintLast
open Go.Proofs.Ytgfnmimfoicmmaa.Sq

theorem sum_loop (l : List Int) (K : Int) (hK : K ≤ 100) : ∀ (j : Nat) (m b : Int) (t pre : List Int), Sq.Good j m b t → l = pre ++ t → (pre.length : Int) + (j : Int) = K → 0 ≤ m → m ≤ 10000 → b ≤ 100 → (pre = [] ∨ ∃ p, pre = p ++ [b]) → Ev (fun k => bellpulllaw04_sum.l0 k l K m (pre.length : Int)) true
  | 0, m, b, t, pre, hg, hl, hk, h0, h1, hb, hp => by
    refine Ev.succ ?_
    simp only [bellpulllaw04_sum.l0]
    refine Ev.neg (by omega) ?_
    rw [hg.2]
    exact Ev.now _
  | j + 1, m, b, t, pre, ⟨x, t', ht, hx0, hx1, hg⟩, hl, hk, h0, h1, hb, hp => by
    refine Ev.succ ?_
    simp only [bellpulllaw04_sum.l0]
    have hxx : x * x ≤ 100 * 100 := Int.mul_le_mul (by omega) (by omega) hx0 (by omega)
    have hx2 : 0 ≤ x * x := Int.mul_nonneg hx0 hx0
    have hrd : rd l (pre.length : Int) = x := by rw [hl, ht, rd_app]
    have hlen : (pre.length : Int) < (l.length : Int) := by rw [hl, ht]; simp; omega
    have hw1 : wrap64 ((pre.length : Int) + 1) = (((pre ++ [x]).length : Nat) : Int) := by rw [wrap_id (by omega) (by omega)]; simp
    have hge : m - x * x ≥ 0 := by
      have gl : ∀ (k : Nat) (n b : Int) (l : List Int), Sq.Good k n b l → 0 ≤ n := by
        intro k
        induction k with
        | zero => intro n b l h; rw [h.2]; omega
        | succ k ih => intro n b l ⟨x, t, _, h0, _, h2⟩; have := ih _ _ _ h2; have := Int.mul_nonneg h0 h0; omega
      exact gl _ _ _ _ hg
    have hw2 : wrap64 (m - wrap64 (x * x)) = m - x * x := by rw [wrap_id (x := x * x) (by omega) (by omega), wrap_id (by omega) (by omega)]
    have ih := sum_loop l K hK j (m - x * x) x t' (pre ++ [x]) hg (by rw [hl, ht]; simp) (by simp; omega) hge (by omega) (by omega) (.inr ⟨pre, rfl⟩)
    rw [hrd, hw1, hw2]
    refine Ev.pos (by omega) (Ev.pos (by omega) (Ev.pos hlen (Ev.neg (by omega) (Ev.neg (by omega) ?_))))
    rcases hp with rfl | ⟨p, rfl⟩
    · exact Ev.neg (by simp) ih
    · have e1 : wrap64 (((p ++ [b]).length : Int) - 1) = (p.length : Int) := by rw [wrap_id (by omega) (by omega)]; simp
      rw [e1]
      have hr2 : rd l (p.length : Int) = b := by rw [hl]; rw [List.append_assoc]; exact rd_app p b t
      rw [hr2]
      refine Ev.pos (by simp) (Ev.pos (by omega) (Ev.pos ?_ (Ev.neg (by omega) ih)))
      have : ((p ++ [b]).length : Int) = (p.length : Int) + 1 := by simp
      omega
theorem sum_ev {k n b : Nat} {l : List Int} (hk : k ≤ 100) (hn : n ≤ 10000) (hb : b ≤ 100) (h : sq k n b = some l) : Ev (fun r => bellpulllaw04_sum.f r l (k : Int) (n : Int)) true := by
  unfold bellpulllaw04_sum.f
  refine Ev.pos (by rw [sq_len h]) ?_
  exact sum_loop l k (by omega) k n b l [] (sq_good _ _ _ _ h) rfl (by simp) (by omega) (by omega) (by omega) (.inl rfl)
theorem u_mod (a m : Int) (ha : 0 ≤ a ∧ a ≤ 65535) (hm : 0 < m) (hm2 : m ≤ 100000) : ∃ n : Nat, Int.tmod (wrap64 a) m = (n : Int) ∧ (n : Int) < m := by
  rw [wrap_id (x := a) (by omega) (by omega), Int.tmod_eq_emod_of_nonneg (by omega)]
  have h0 := Int.emod_nonneg a (show m ≠ 0 by omega)
  have h1 := Int.emod_lt_of_pos a hm
  exact ⟨(a % m).toNat, by omega, by omega⟩
end Go.Proofs.Ytgfnmimfoicmmaa.Pure
