import Derived.Test.YtgfnmimfoicmmaaPMx8
import Derived.Test.YtgfnmimfoicmmaaDivS
set_option linter.unusedVariables false
set_option linter.unusedSimpArgs false
namespace Go.Proofs.Ytgfnmimfoicmmaa.Pure
open Go.RowKit Go.Proofs.Ytgfnmimfoicmmaa.PM Go.Proofs.YtgfnmimfoicmmaaW.PrintWords Go.Proofs.YtgfnmimfoicmmaaW.PrintLast

theorem jacobi_loop (n : Int) (N : Nat) (hN : (N : Int) = n) (hn : n ≤ 10000) : ∀ (j m : Nat), m + j = N → Ev (fun k => bellpulllaw04_NormJacobi.l0 k n (wrap64 (8 * dm n N q4)) 0 (wrap64 (24 * dm n N q2)) 0 (dm n m q4) (dm n m q2) ((m : Int) + 1)) true
  | 0, m, h => by
    refine Ev.succ ?_
    simp only [bellpulllaw04_NormJacobi.l0]
    obtain rfl : m = N := by omega
    exact Ev.neg (by omega) (Ev.pos trivial (Ev.pos trivial (Ev.pos rfl (Ev.pos rfl (Ev.bind lives_ev (Ev.now _))))))
  | j + 1, m, h => by
    refine Ev.succ ?_
    simp only [bellpulllaw04_NormJacobi.l0]
    have hw : wrap64 ((m : Int) + 1 + 1) = ((m + 1 : Nat) : Int) + 1 := by rw [wrap_id (by omega) (by omega)]; omega
    have ih := jacobi_loop n N hN hn j (m + 1) (by omega)
    refine Ev.pos (by omega) (Ev.neg (by omega) ?_)
    by_cases hd : Int.tmod n ((m : Int) + 1) = 0
    · refine Ev.pos hd (Ev.succ ?_)
      simp only [bellpulllaw04_NormJacobi.j1]
      rw [hw]
      by_cases h4 : Int.tmod ((m : Int) + 1) 4 = 0
      · have e4 : dm n (m + 1) q4 = dm n m q4 := dm_no (.inr (by simp [q4, h4]))
        refine Ev.neg (by simp [h4]) (Ev.neg (by omega) (Ev.pos hd ?_))
        by_cases h2 : Int.tmod ((m : Int) + 1) 2 = 1
        · have e2 : dm n (m + 1) q2 = _ := dm_yes hd (by simp [q2, h2])
          rw [e4, e2] at ih
          exact Ev.pos h2 ih
        · have e2 : dm n (m + 1) q2 = dm n m q2 := dm_no (.inr (by simp [q2, h2]))
          rw [e4, e2] at ih
          exact Ev.neg h2 ih
      · have e4 : dm n (m + 1) q4 = _ := dm_yes hd (by simp [q4, h4])
        refine Ev.pos (by simp [h4]) (Ev.neg (by omega) (Ev.pos hd ?_))
        by_cases h2 : Int.tmod ((m : Int) + 1) 2 = 1
        · have e2 : dm n (m + 1) q2 = _ := dm_yes hd (by simp [q2, h2])
          rw [e4, e2] at ih
          exact Ev.pos h2 ih
        · have e2 : dm n (m + 1) q2 = dm n m q2 := dm_no (.inr (by simp [q2, h2]))
          rw [e4, e2] at ih
          exact Ev.neg h2 ih
    · refine Ev.neg hd (Ev.succ ?_)
      simp only [bellpulllaw04_NormJacobi.j1]
      have e4 : dm n (m + 1) q4 = dm n m q4 := dm_no (.inl hd)
      have e2 : dm n (m + 1) q2 = dm n m q2 := dm_no (.inl hd)
      rw [e4, e2] at ih
      rw [hw]
      exact Ev.neg (by simp) (Ev.neg (by omega) (Ev.neg hd ih))
theorem NormJacobi : bellpulllaw04_NormJacobi.Pure := by
  intro a0 ha
  refine Ev.rounds ?_
  have hb := wf_u16 ha
  obtain ⟨n, hn⟩ : ∃ n : Nat, wrap64 ((Int.tmod (wrap64 a0) 10000) + 1) = (n : Int) ∧ 0 < n ∧ n ≤ 10000 := by
    rw [wrap_id (x := a0) (by omega) (by omega), Int.tmod_eq_emod_of_nonneg (by omega), wrap_id (by omega) (by omega)]
    exact ⟨(a0 % 10000 + 1).toNat, by omega, by omega, by omega⟩
  obtain ⟨e, h0, h1⟩ := hn
  unfold bellpulllaw04_NormJacobi.f
  rw [e]
  refine Ev.bind (Count_ev n h1 h0) (Ev.bind (Hurwitz_ev n h1 h0) ?_)
  exact jacobi_loop (n : Int) n rfl (by omega) n 0 (by omega)
end Go.Proofs.Ytgfnmimfoicmmaa.Pure
