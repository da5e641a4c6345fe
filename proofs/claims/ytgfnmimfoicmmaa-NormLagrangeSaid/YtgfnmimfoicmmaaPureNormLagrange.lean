import Derived.Test.YtgfnmimfoicmmaaPMx10
import Derived.Test.YtgfnmimfoicmmaaSumE
set_option linter.unusedVariables false
set_option linter.unusedSimpArgs false
namespace Go.Proofs.Ytgfnmimfoicmmaa.Pure
open Go.RowKit Go.Proofs.Ytgfnmimfoicmmaa.PM Go.Proofs.YtgfnmimfoicmmaaW.PrintWords Go.Proofs.YtgfnmimfoicmmaaW.PrintLast
open Go.Proofs.Ytgfnmimfoicmmaa.Sq

theorem lag_end (n : Nat) (hn : n ≤ 10000) (r : Nat) (hr : r = red n) : Ev (fun k => bellpulllaw04_NormLagrange.j1 k (n : Int) ((sq 4 n 100).getD []) 0 (match sq 3 n 100 with | some l => (l, (0 : Int)) | none => ([], 5)).1 (match sq 3 n 100 with | some l => (l, (0 : Int)) | none => ([], 5)).2 (r : Int)) true := by
  refine Ev.succ ?_
  simp only [bellpulllaw04_NormLagrange.j1]
  obtain ⟨l, hl⟩ := four_some n hn
  rw [hl]
  refine Ev.pos trivial (Ev.bind (by simpa using sum_ev (k := 4) (by omega) hn (by omega) hl) (Ev.pos rfl (Ev.bind lives_ev (Ev.succ ?_))))
  simp only [bellpulllaw04_NormLagrange.j2]
  refine Ev.neg (by simp) ?_
  have ht : Int.tmod (r : Int) 8 = ((r % 8 : Nat) : Int) := by rw [Int.tmod_eq_emod_of_nonneg (by omega)]; omega
  rw [ht]
  by_cases h7 : red n % 8 = 7
  · rw [three_none n h7]
    exact Ev.pos (by rw [hr, h7]; rfl) (Ev.pos rfl (Ev.now _))
  · obtain ⟨m, hm⟩ := three_some n hn (.inr h7)
    rw [hm]
    exact Ev.neg (by rw [hr]; omega) (Ev.pos rfl (Ev.bind (by simpa using sum_ev (k := 3) (by omega) hn (by omega) hm) (Ev.now _)))
theorem lag_loop (n : Nat) (hn : n ≤ 10000) (x : Nat) (hx : x ≤ 10000) (hr : red x = red n) : Ev (fun k => bellpulllaw04_NormLagrange.l0 k (n : Int) ((sq 4 n 100).getD []) 0 (match sq 3 n 100 with | some l => (l, (0 : Int)) | none => ([], 5)).1 (match sq 3 n 100 with | some l => (l, (0 : Int)) | none => ([], 5)).2 (x : Int)) true := by
  induction x using Nat.strongRecOn with
  | _ x ih =>
    refine Ev.succ ?_
    simp only [bellpulllaw04_NormLagrange.l0]
    have ht : Int.tmod (x : Int) 4 = ((x % 4 : Nat) : Int) := by rw [Int.tmod_eq_emod_of_nonneg (by omega)]; omega
    have hd : wrap64 (Int.tdiv (x : Int) 4) = ((x / 4 : Nat) : Int) := by
      rw [Int.tdiv_eq_ediv_of_nonneg (by omega), wrap_id (by omega) (by omega)]; omega
    rw [ht, hd]
    by_cases h0 : 0 < x
    · by_cases h4 : x % 4 = 0
      · rw [red, if_pos ⟨h0, h4⟩] at hr
        exact Ev.pos (by omega) (Ev.pos (by omega) (ih (x / 4) (by omega) (by omega) hr))
      · rw [red, if_neg (by omega)] at hr
        exact Ev.pos (by omega) (Ev.neg (by omega) (lag_end n hn x hr))
    · rw [red, if_neg (by omega)] at hr
      exact Ev.neg (by omega) (lag_end n hn x hr)
theorem NormLagrange : bellpulllaw04_NormLagrange.Pure := by
  intro a0 ha
  refine Ev.rounds ?_
  obtain ⟨n, e, hn⟩ := u_mod a0 10001 (wf_u16 ha) (by omega) (by omega)
  unfold bellpulllaw04_NormLagrange.f
  rw [e]
  refine Ev.bind (Four_ev n (by omega)) (Ev.bind (Three_ev n (by omega)) ?_)
  exact lag_loop n (by omega) n (by omega) rfl
end Go.Proofs.Ytgfnmimfoicmmaa.Pure
