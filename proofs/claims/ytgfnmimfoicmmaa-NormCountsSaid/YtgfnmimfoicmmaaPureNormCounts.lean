import Derived.Test.YtgfnmimfoicmmaaPMx16
import Derived.Test.YtgfnmimfoicmmaaCountE
set_option linter.unusedVariables false
set_option linter.unusedSimpArgs false
namespace Go.Proofs.Ytgfnmimfoicmmaa.Pure
open Go.RowKit Go.Proofs.Ytgfnmimfoicmmaa.PM Go.Proofs.YtgfnmimfoicmmaaW.PrintWords Go.Proofs.YtgfnmimfoicmmaaW.PrintLast
open Go.Proofs.Ytgfnmimfoicmmaa.Jac

theorem tmod_nat (n m : Nat) : Int.tmod (n : Int) (m : Int) = ((n % m : Nat) : Int) := by
  rw [Int.tmod_eq_emod_of_nonneg (by omega), Int.natCast_emod]
theorem dm_dsum (n : Nat) (hn : n ≤ 10000) (q : Int → Bool) (g : Nat → Bool) (hq : ∀ d : Nat, q (d : Int) = g d) : ∀ m, m ≤ n → dm (n : Int) m q = ((S (fun i => if n % (i + 1) = 0 ∧ g (i + 1) = true then i + 1 else 0) m : Nat) : Int)
  | 0, _ => rfl
  | m + 1, hm => by
    have ih := dm_dsum n hn q g hq m (by omega)
    have ht : Int.tmod (n : Int) ((m : Int) + 1) = ((n % (m + 1) : Nat) : Int) := by
      have := tmod_nat n (m + 1)
      rwa [show ((m + 1 : Nat) : Int) = (m : Int) + 1 by omega] at this
    have hqm : q ((m : Int) + 1) = g (m + 1) := by
      rw [← hq (m + 1)]
      rfl
    have hb : S (fun i => if n % (i + 1) = 0 ∧ g (i + 1) = true then i + 1 else 0) m ≤ m * 10000 := by
      have : S (fun i => if n % (i + 1) = 0 ∧ g (i + 1) = true then i + 1 else 0) m ≤ S (fun _ => 10000) m := S_le m (fun i hi => by split <;> omega)
      rwa [S_const] at this
    rw [S]
    by_cases h : n % (m + 1) = 0 ∧ g (m + 1) = true
    · rw [if_pos h, dm_yes (by rw [ht, h.1]; rfl) (by rw [hqm, h.2]), ih, wrap_id (by omega) (by omega)]
      omega
    · rw [if_neg h, dm_no (by
        rcases Nat.eq_zero_or_pos (n % (m + 1)) with h0 | h0
        · exact .inr (by rw [hqm]; exact Bool.eq_false_iff.mpr (fun c => h ⟨h0, c⟩))
        · exact .inl (by rw [ht]; omega)), ih]
      omega
theorem ds_dsum (n : Nat) (hn : n ≤ 10000) (q : Int → Bool) (g : Nat → Bool) (hq : ∀ d : Nat, q (d : Int) = g d) : ds n q = ((dsum g n : Nat) : Int) := dm_dsum n hn q g hq n (Nat.le_refl _)
theorem q4_g4 (d : Nat) : q4 (d : Int) = g4 d := by
  unfold q4 g4
  have := tmod_nat d 4
  rw [show ((4 : Nat) : Int) = 4 from rfl] at this
  rw [this]
  by_cases h : d % 4 = 0
  · simp [h]
  · have h2 : ¬ (((d % 4 : Nat) : Int) = 0) := by omega
    rw [decide_eq_false h2]
    simp [h]
theorem q2_g2 (d : Nat) : q2 (d : Int) = g2 d := by
  unfold q2 g2
  have := tmod_nat d 2
  rw [show ((2 : Nat) : Int) = 2 from rfl] at this
  rw [this]
  by_cases h : d % 2 = 1
  · simp [h]
  · have h2 : ¬ (((d % 2 : Nat) : Int) = 1) := by omega
    rw [decide_eq_false h2]
    simp [h]
theorem NormCounts : bellpulllaw04_NormCounts.Pure := by
  intro a0 ha
  refine Ev.rounds ?_
  unfold bellpulllaw04_NormCounts.f
  by_cases hin : 0 ≤ a0 ∧ a0 ≤ 10000
  · obtain ⟨n, rfl⟩ : ∃ n : Nat, a0 = (n : Int) := ⟨a0.toNat, by omega⟩
    have hn : n ≤ 10000 := by omega
    by_cases h0 : n = 0
    · subst h0
      refine Ev.bind Count_zero (Ev.bind (Hurwitz_no _ (by omega)) (Ev.bindc (In_yes hin.1 hin.2) (Ev.pos rfl (Ev.bind (refCount_ev 0 hn) ?_))))
      refine Ev.pos rfl (Ev.pos rfl (Ev.bind lives_ev (Ev.succ ?_)))
      simp only [bellpulllaw04_NormCounts.j0]
      exact Ev.neg (by simp) (Ev.pos rfl (Ev.pos trivial (Ev.now _)))
    · have b1 := dsum_le g4 n
      have b2 := dsum_le g2 n
      have b3 : n * n ≤ 10000 * 10000 := Nat.mul_le_mul hn hn
      refine Ev.bind (Count_ev n hn (by omega)) (Ev.bind (Hurwitz_ev n hn (by omega)) (Ev.bindc (In_yes hin.1 hin.2) (Ev.pos rfl (Ev.bind (refCount_ev n hn) ?_))))
      refine Ev.pos ?_ (Ev.pos rfl (Ev.bind lives_ev (Ev.succ ?_)))
      · rw [ds_dsum n hn q4 g4 q4_g4, wrap_id (by omega) (by omega)]
        unfold jac
        rw [if_neg h0]
        omega
      · simp only [bellpulllaw04_NormCounts.j0]
        refine Ev.neg (by simp) (Ev.neg (by omega) (Ev.bind (refHurwitz_ev n hn (by omega)) (Ev.pos ?_ (Ev.now _))))
        rw [ds_dsum n hn q2 g2 q2_g2, wrap_id (by omega) (by omega)]
        omega
  · refine Ev.bind (Count_no a0 hin) (Ev.bind (Hurwitz_no a0 (by omega)) (Ev.bindc (In_no hin) (Ev.neg (by simp) ?_)))
    exact Ev.pos rfl (Ev.pos rfl (Ev.pos rfl (Ev.pos rfl (Ev.bind lives_ev (Ev.now _)))))
end Go.Proofs.Ytgfnmimfoicmmaa.Pure
