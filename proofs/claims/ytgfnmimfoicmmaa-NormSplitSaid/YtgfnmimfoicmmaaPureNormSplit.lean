import Derived.Test.YtgfnmimfoicmmaaPMx28
import Derived.Test.YtgfnmimfoicmmaaPrimeE
set_option linter.unusedVariables false
set_option linter.unusedSimpArgs false
namespace Go.Proofs.Ytgfnmimfoicmmaa.Pure
open Go.RowKit Go.Proofs.Ytgfnmimfoicmmaa.PM Go.Proofs.YtgfnmimfoicmmaaW.PrintWords Go.Proofs.YtgfnmimfoicmmaaW.PrintLast
open Go.Proofs.Ytgfnmimfoicmmaa.Sq

theorem D_conj (a b c d : Int) : D0 (2 * a) (2 * b) (2 * c) (2 * d) (2 * a) (-(2 * b)) (-(2 * c)) (-(2 * d)) = 2 * (2 * N4 a b c d) ∧ D1 (2 * a) (2 * b) (2 * c) (2 * d) (2 * a) (-(2 * b)) (-(2 * c)) (-(2 * d)) = 0 ∧ D2 (2 * a) (2 * b) (2 * c) (2 * d) (2 * a) (-(2 * b)) (-(2 * c)) (-(2 * d)) = 0 ∧ D3 (2 * a) (2 * b) (2 * c) (2 * d) (2 * a) (-(2 * b)) (-(2 * c)) (-(2 * d)) = 0 := by
  unfold D0 D1 D2 D3 N4
  refine ⟨?_, ?_, ?_, ?_⟩ <;> grind
theorem N4_twice (a b c d : Int) : N4 (2 * a) (2 * b) (2 * c) (2 * d) = 4 * N4 a b c d := by
  unfold N4
  grind
theorem split_n (a0 : Int) (h : 0 ≤ a0 ∧ a0 ≤ 65535) : ∃ p : Nat, wrap64 ((Int.tmod (wrap64 a0) 9999) + 2) = (p : Int) ∧ 2 ≤ p ∧ p ≤ 10000 := by
  obtain ⟨m, em, hm⟩ := u_mod a0 9999 h (by omega) (by omega)
  exact ⟨m + 2, by rw [em, wrap_id (by omega) (by omega)]; omega, by omega, by omega⟩
theorem neg_wrap {x : Int} (h : -1000 ≤ x ∧ x ≤ 1000) : wrap64 (-x) = -x := wrap_id (by omega) (by omega)
theorem NormSplit : bellpulllaw04_NormSplit.Pure := by
  intro a0 ha
  refine Ev.rounds ?_
  obtain ⟨p, e, h2, hp⟩ := split_n a0 (wf_u16 ha)
  unfold bellpulllaw04_NormSplit.f
  rw [e]
  obtain ⟨b, hb, hb2⟩ := prime_ev (p : Int) (by omega)
  cases b with
  | false =>
    refine Ev.bind (Split_no _ (.inr hb)) (Ev.neg (by simp) (Ev.pos rfl (Ev.bind hb2 ?_)))
    exact Ev.neg (by simp) (Ev.bind lives_ev (Ev.now _))
  | true =>
    obtain ⟨a, b, c, d, hl, ra, rb, rc, rd', hs, hsp⟩ := Split_yes p h2 hp hb
    have hr : rng (2 * a) (2 * b) (2 * c) (2 * d) := by unfold rng; omega
    have hi : itg (2 * a) (2 * b) (2 * c) (2 * d) := by unfold itg; omega
    have hc := chk1_ok hi hr
    have hr2 : rng (2 * a) (-(2 * b)) (-(2 * c)) (-(2 * d)) := by unfold rng; omega
    have hi2 : itg (2 * a) (-(2 * b)) (-(2 * c)) (-(2 * d)) := by unfold itg; omega
    have hM := Mul_ev hi hr hi2 hr2
    obtain ⟨d0, d1, d2, d3⟩ := D_conj a b c d
    rw [d0, d1, d2, d3, tdiv_two, hs] at hM
    have hC := Conj_yes hc
    rw [neg_wrap (x := 2 * b) (by omega), neg_wrap (x := 2 * c) (by omega), neg_wrap (x := 2 * d) (by omega)] at hC
    obtain ⟨s0, s1, s2, s3⟩ := sm_of hr
    have hn := norm_ev (A := 1000) (by omega) s0 s1 s2 s3
    have t4 : Int.tdiv (4 * (p : Int)) 4 = (p : Int) := by rw [Int.mul_comm, Int.mul_tdiv_cancel _ (by omega)]
    rw [N4_twice, hs, t4] at hn
    have hw : wrap64 (2 * (p : Int)) = 2 * (p : Int) := wrap_id (by omega) (by omega)
    have hz : wrap64 (Int.tdiv 0 2) = 0 := by simp [wrap64]
    rw [hw, hz] at hM
    refine Ev.bind hsp (Ev.pos rfl (Ev.bind hC (Ev.bind hM (Ev.bind (Prime_yes hc hn hb) (Ev.bind (Four_ev p hp) ?_)))))
    rw [hl]
    have r0 : ∀ x y z t : Int, rd [x, y, z, t] 0 = x ∧ rd [x, y, z, t] 1 = y ∧ rd [x, y, z, t] 2 = z ∧ rd [x, y, z, t] 3 = t := fun _ _ _ _ => ⟨rfl, rfl, rfl, rfl⟩
    simp only [Option.getD_some, r0]
    refine Ev.pos trivial (Ev.pos trivial (Ev.pos trivial (Ev.pos trivial (Ev.pos (by simp) (Ev.bind hb2 (Ev.pos rfl (Ev.pos trivial ?_)))))))
    rw [hw]
    refine Ev.pos (by simp) (Ev.bindc rfl (Ev.pos (by simp) (Ev.pos (by simp) (Ev.pos (by simp) (Ev.pos (by simp) ?_)))))
    rw [twice_wrap (x := a) (by omega), twice_wrap (x := b) (by omega), twice_wrap (x := c) (by omega), twice_wrap (x := d) (by omega)]
    exact Ev.bind (Same_self _ (by simp)) (Ev.pos rfl (Ev.bind lives_ev (Ev.now _)))
end Go.Proofs.Ytgfnmimfoicmmaa.Pure
