import Derived.Test.YtgfnmimfoicmmaaPMx29
import Derived.Test.YtgfnmimfoicmmaaPrimeE
import Derived.Test.YtgfnmimfoicmmaaSqR
set_option linter.unusedVariables false
set_option linter.unusedSimpArgs false
namespace Go.Proofs.Ytgfnmimfoicmmaa.Pure
open Go.RowKit Go.Proofs.Ytgfnmimfoicmmaa.PM Go.Proofs.YtgfnmimfoicmmaaW.PrintWords Go.Proofs.YtgfnmimfoicmmaaW.PrintLast
open Go.Proofs.Ytgfnmimfoicmmaa.Sq

theorem primes_end (p : Int) : Ev (fun k => bellpulllaw04_NormPrimes.j0 k p) true := by
  refine Ev.succ ?_
  simp only [bellpulllaw04_NormPrimes.j0]
  by_cases hin : 2 ≤ p ∧ p ≤ 10000
  · obtain ⟨b, hb, hb2⟩ := prime_ev p (by omega)
    obtain ⟨n, rfl⟩ : ∃ n : Nat, p = (n : Int) := ⟨p.toNat, by omega⟩
    cases b with
    | true =>
      obtain ⟨a, b, c, d, hl, ra, rb, rc, rd', hs, hsp⟩ := Split_yes n (by omega) (by omega) hb
      refine Ev.bind hsp (Ev.bindc (In_yes hin.1 hin.2) (Ev.pos rfl (Ev.bind hb2 (Ev.succ ?_))))
      simp only [bellpulllaw04_NormPrimes.j1]
      refine Ev.neg (by simp) (Ev.bind (Squares_ev 3 n (by omega) (by omega)) ?_)
      rw [hl]
      have r0 : ∀ x y z t : Int, rd [x, y, z, t] 0 = x ∧ rd [x, y, z, t] 1 = y ∧ rd [x, y, z, t] 2 = z ∧ rd [x, y, z, t] 3 = t := fun _ _ _ _ => ⟨rfl, rfl, rfl, rfl⟩
      simp only [Option.getD_some, r0]
      rw [twice_wrap (x := a) (by omega), twice_wrap (x := b) (by omega), twice_wrap (x := c) (by omega), twice_wrap (x := d) (by omega)]
      exact Ev.pos (by simp) (Ev.pos (by simp) (Ev.pos (by simp) (Ev.pos (by simp) (Ev.pos (by simp) (Ev.pos trivial (Ev.bind lives_ev (Ev.now _)))))))
    | false =>
      refine Ev.bind (Split_no _ (.inr hb)) (Ev.bindc (In_yes hin.1 hin.2) (Ev.pos rfl (Ev.bind hb2 (Ev.succ ?_))))
      simp only [bellpulllaw04_NormPrimes.j1]
      exact Ev.pos (by simp) (Ev.pos (by simp) (Ev.pos trivial (Ev.bind lives_ev (Ev.now _))))
  · refine Ev.bind (Split_no _ (.inl hin)) (Ev.bindc (In_no hin) (Ev.neg (by simp) (Ev.succ ?_)))
    simp only [bellpulllaw04_NormPrimes.j1]
    exact Ev.pos (by simp) (Ev.pos (by simp) (Ev.pos trivial (Ev.bind lives_ev (Ev.now _))))
theorem NormPrimes : ∀ (a0_0 a0_1 a0_2 a0_3 a1 : Int), (Lit.int .i64 a0_0).wf = true → (Lit.int .i64 a0_1).wf = true → (Lit.int .i64 a0_2).wf = true → (Lit.int .i64 a0_3).wf = true → (Lit.int .i64 a1).wf = true → ∃ k, bellpulllaw04_NormPrimes.f k a0_0 a0_1 a0_2 a0_3 a1 = some true := by
  intro a b c d p _ _ _ _ _
  refine Ev.rounds ?_
  unfold bellpulllaw04_NormPrimes.f
  have fin := primes_end p
  by_cases hc : chk [⟨a, b, c, d⟩] = 0
  · obtain ⟨h1, h2⟩ := chk1_rng hc
    obtain ⟨s0, s1, s2, s3⟩ := sm_of h2
    have hn := norm_ev (A := 1000) (by omega) s0 s1 s2 s3
    obtain ⟨q, hq, hq2⟩ := prime_ev (Int.tdiv (N4 a b c d) 4) (norm_le h2)
    refine Ev.bind (Prime_yes hc hn hq) (Ev.bind (refCheck_ev _ (by simp)) (Ev.pos hc (Ev.bindc (by rw [refNorm_eq]; exact hn) (Ev.bind hq2 ?_))))
    cases q with
    | true => exact Ev.pos rfl (Ev.pos rfl (Ev.pos rfl fin))
    | false => exact Ev.neg (by simp) (Ev.neg (by simp) (Ev.pos rfl fin))
  · exact Ev.bind (Prime_no hc) (Ev.bind (refCheck_ev _ (by simp)) (Ev.neg hc (Ev.neg (by simp) (Ev.pos rfl fin))))
end Go.Proofs.Ytgfnmimfoicmmaa.Pure
