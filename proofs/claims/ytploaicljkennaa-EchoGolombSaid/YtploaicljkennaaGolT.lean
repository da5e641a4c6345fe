/- The first 2000 terms of Golomb's sequence, and what the kernel counts of them. -/
import Derived.Test.YtploaicljkennaaGolS
set_option linter.unusedVariables false
set_option linter.unusedSimpArgs false
namespace Go.Proofs.Ytploaicljkennaa.Pure
open Go.RowKit
/-- A list of small numbers as one number. -/
def enc (l : List Int) : Nat := l.foldr (fun x n => x.toNat + 256 * n) 0
def dig (N i : Nat) : Nat := (N / 256 ^ i) % 256
theorem dig_enc (l : List Int) : (∀ x ∈ l, 0 ≤ x ∧ x < 256) → ∀ i, l.getD i 0 = (dig (enc l) i : Nat) := by
  induction l with
  | nil => intro _ i; simp [enc, dig]
  | cons x t ih =>
    intro h i
    have hx := h x (by simp)
    have ht := ih (fun y hy => h y (by simp [hy]))
    have e : enc (x :: t) = x.toNat + 256 * enc t := rfl
    cases i with
    | zero => rw [e]; unfold dig; rw [Nat.pow_zero, Nat.div_one]; simp; omega
    | succ i =>
      have hd : (x.toNat + 256 * enc t) / 256 = enc t := by omega
      rw [e]
      unfold dig
      rw [Nat.pow_succ', ← Nat.div_div_eq_div_mul, hd]
      have := ht i
      unfold dig at this
      simpa using this
def G : List Int := (golN 140).take 2000
def GN : Nat := enc G
theorem G_eq : golS 2000 = G := (golS_of (by decide +kernel)).symm
theorem G_small : ∀ x ∈ G, 0 ≤ x ∧ x < 256 := by
  have h : G.all (fun x => decide (0 ≤ x) && decide (x < 256)) = true := by decide +kernel
  intro x hx
  have := List.all_eq_true.1 h x hx
  simpa using this
def gg (i : Nat) : Int := G.getD i 0
theorem gg_dig (i : Nat) : gg i = (dig GN i : Nat) := dig_enc G G_small i
theorem G_len : G.length = 2000 := by rw [← G_eq]; exact golS_length 2000
def chk1 (N i : Nat) : Bool := decide (1 ≤ dig N i) && decide (dig N i ≤ i + 1) && (i == 0 || decide (dig N (i - 1) ≤ dig N i) && decide (dig N i ≤ dig N (i - 1) + 1))
theorem chk1_all : (List.range 2000).all (chk1 GN) = true := by decide +kernel
def chk3 (N i : Nat) : Bool := i == 0 || (decide (dig N (dig N (i - 1) - 1) ≤ i) && (dig N i == 1 + dig N (i - dig N (dig N (i - 1) - 1))))
theorem chk3_all : (List.range 2000).all (chk3 GN) = true := by decide +kernel
def chk2 (N v : Nat) : Bool := v == 0 || G.count (v : Int) == dig N (v - 1)
theorem chk2_all : (List.range (dig GN 1999)).all (chk2 GN) = true := by decide +kernel
theorem gg1 (i : Nat) (h : i < 2000) : 1 ≤ gg i ∧ gg i ≤ i + 1 ∧ (0 < i → gg (i - 1) ≤ gg i ∧ gg i ≤ gg (i - 1) + 1) := by
  have := List.all_eq_true.1 chk1_all i (List.mem_range.2 h)
  unfold chk1 at this
  rw [gg_dig, gg_dig]
  simp at this
  omega
theorem gg3 (i : Nat) (h : i < 2000) (h0 : 0 < i) : ∃ j : Nat, gg (i - 1) = (j : Int) + 1 ∧ ∃ q : Nat, gg j = (q : Int) ∧ q ≤ i ∧ gg i = 1 + gg (i - q) := by
  have h2 := List.all_eq_true.1 chk3_all i (List.mem_range.2 h)
  have h1 := (gg1 (i - 1) (by omega)).1
  unfold chk3 at h2
  simp at h2
  rcases h2 with h2 | h2
  · omega
  · rw [gg_dig] at h1
    refine ⟨dig GN (i - 1) - 1, by rw [gg_dig]; omega, dig GN (dig GN (i - 1) - 1), gg_dig _, h2.1, ?_⟩
    rw [gg_dig, gg_dig]
    omega
theorem gg_mono (i d : Nat) : i + d < 2000 → gg i ≤ gg (i + d) := by
  induction d with
  | zero => intro _; exact Int.le_refl _
  | succ d ih =>
    intro h
    have h1 := ih (by omega)
    have h2 := (gg1 (i + (d + 1)) h).2.2 (by omega)
    have e : i + (d + 1) - 1 = i + d := by omega
    rw [e] at h2
    omega
theorem G_get (i : Nat) (h : i < G.length) : G[i] = gg i := by
  unfold gg; rw [List.getD_eq_getElem?_getD, List.getElem?_eq_getElem h]; rfl
/-- A number below the last term occurs as often as its term says. -/
theorem G_count (m v : Nat) (hm : 1 ≤ m) (hm2 : m ≤ 2000) (hv : 1 ≤ v) (hv2 : (v : Int) < gg (m - 1)) : (((G.take m).count (v : Int) : Nat) : Int) = gg (v - 1) := by
  have hlast : gg (m - 1) ≤ gg 1999 := by
    have := gg_mono (m - 1) (1999 - (m - 1)) (by omega)
    rwa [show m - 1 + (1999 - (m - 1)) = 1999 by omega] at this
  have hc : G.count (v : Int) = dig GN (v - 1) := by
    have h9 : v < dig GN 1999 := by rw [gg_dig 1999] at hlast; omega
    have := List.all_eq_true.1 chk2_all v (List.mem_range.2 h9)
    unfold chk2 at this
    simp at this
    rcases this with h | h
    · omega
    · exact h
  have hrest : (G.drop m).count (v : Int) = 0 := by
    rw [List.count_eq_zero]
    intro hmem
    obtain ⟨j, hj, e⟩ := List.getElem_of_mem hmem
    rw [List.getElem_drop] at e
    have hjl : m + j < 2000 := by rw [List.length_drop, G_len] at hj; omega
    rw [G_get] at e
    have := gg_mono (m - 1) (j + 1) (by omega)
    rw [show m - 1 + (j + 1) = m + j by omega] at this
    omega
  have hsplit : G.count (v : Int) = (G.take m).count (v : Int) + (G.drop m).count (v : Int) := by
    rw [← List.count_append, List.take_append_drop]
  rw [gg_dig, ← hc]
  omega
end Go.Proofs.Ytploaicljkennaa.Pure
