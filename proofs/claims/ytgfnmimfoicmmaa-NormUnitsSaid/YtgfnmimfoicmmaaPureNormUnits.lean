/- NormUnits in plain Lean: each pair of units, by the kernel. -/
import Derived.Test.YtgfnmimfoicmmaaPMx35
set_option linter.unusedVariables false
set_option linter.unusedSimpArgs false
namespace Go.Proofs.Ytgfnmimfoicmmaa.Pure
open Go.RowKit Go.Proofs.Ytgfnmimfoicmmaa.PM Go.Proofs.YtgfnmimfoicmmaaW.PrintWords Go.Proofs.YtgfnmimfoicmmaaW.PrintLast

theorem mod24 {x : Int} (h : 0 ≤ x ∧ x ≤ 255) : Int.tmod (wrap64 x) 24 = Int.tmod (wrap64 (x % 24)) 24 := by
  have hw : ∀ y : Int, 0 ≤ y → y ≤ 255 → wrap64 y = y := fun y h1 h2 => by unfold wrap64; omega
  rw [hw x h.1 h.2, hw (x % 24) (by omega) (by omega), Int.tmod_eq_emod_of_nonneg h.1, Int.tmod_eq_emod_of_nonneg (by omega)]
  omega
theorem l0_mod {x y : Int} (hx : 0 ≤ x ∧ x ≤ 255) (hy : 0 ≤ y ∧ y ≤ 255) (u : List S23) : ∀ k i, bellpulllaw04_NormUnits.l0 k x y u i = bellpulllaw04_NormUnits.l0 k (x % 24) (y % 24) u i
  | 0, i => by simp only [bellpulllaw04_NormUnits.l0]
  | k + 1, i => by simp only [bellpulllaw04_NormUnits.l0, mod24 hx, mod24 hy, l0_mod hx hy u k]
theorem f_mod {x y : Int} (hx : 0 ≤ x ∧ x ≤ 255) (hy : 0 ≤ y ∧ y ≤ 255) : ∀ k, bellpulllaw04_NormUnits.f k x y = bellpulllaw04_NormUnits.f k (x % 24) (y % 24)
  | 0 => by unfold bellpulllaw04_NormUnits.f; simp only [bellpulllaw04_NormUnits.j0]
  | k + 1 => by unfold bellpulllaw04_NormUnits.f; simp only [bellpulllaw04_NormUnits.j0, l0_mod hx hy]
set_option maxHeartbeats 100000000 in
set_option maxRecDepth 100000 in
theorem units_pairs : ∀ i ∈ List.range 24, ∀ j ∈ List.range 24, bellpulllaw04_NormUnits.f 3000 ((i : Nat) : Int) ((j : Nat) : Int) = some true := by decide +kernel
theorem NormUnits : bellpulllaw04_NormUnits.Pure := by
  intro x y hx hy
  have hx' : 0 ≤ x ∧ x ≤ 255 := by
    simp only [Lit.wf, Bool.and_eq_true, decide_eq_true_eq] at hx
    exact hx
  have hy' : 0 ≤ y ∧ y ≤ 255 := by
    simp only [Lit.wf, Bool.and_eq_true, decide_eq_true_eq] at hy
    exact hy
  refine ⟨3000, ?_⟩
  rw [f_mod hx' hy']
  obtain ⟨i, hi, e⟩ : ∃ i : Nat, i < 24 ∧ x % 24 = (i : Int) := ⟨(x % 24).toNat, by omega, by omega⟩
  obtain ⟨j, hj, e'⟩ : ∃ j : Nat, j < 24 ∧ y % 24 = (j : Int) := ⟨(y % 24).toNat, by omega, by omega⟩
  rw [e, e']
  exact units_pairs i (List.mem_range.2 hi) j (List.mem_range.2 hj)
end Go.Proofs.Ytgfnmimfoicmmaa.Pure
