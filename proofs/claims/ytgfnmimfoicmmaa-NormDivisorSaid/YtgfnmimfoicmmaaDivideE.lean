/- divide: what the program chooses. -/
import Derived.Test.YtgfnmimfoicmmaaPMx3
import Derived.Test.YtgfnmimfoicmmaaDvS
import Derived.Test.YtgfnmimfoicmmaaAlgS
import Derived.Test.YtgfnmimfoicmmaaQuatF
set_option linter.unusedVariables false
set_option linter.unusedSimpArgs false
namespace Go.Proofs.Ytgfnmimfoicmmaa.Pure
open Go.RowKit Go.Proofs.Ytgfnmimfoicmmaa.PM Go.Proofs.YtgfnmimfoicmmaaW.PrintWords Go.Proofs.YtgfnmimfoicmmaaW.PrintLast
open Go.Proofs.Ytgfnmimfoicmmaa.Dv

theorem quot_sm {a m t B : Int} (hm : 0 < m) (ha : sm B a) (h1 : t * m - m < a) (h2 : a < t * m + m) : sm B t := by
  unfold sm at *
  constructor
  · rcases Int.lt_or_le t (-B) with c | c
    · have : (t + 1) * m ≤ (-B) * m := Int.mul_le_mul_of_nonneg_right (by omega) (by omega)
      have e : (t + 1) * m = t * m + m := by grind
      have : B * 1 ≤ B * m := Int.mul_le_mul_of_nonneg_left (by omega) (by omega)
      have e2 : (-B) * m = -(B * m) := by grind
      omega
    · omega
  · rcases Int.lt_or_le B t with c | c
    · have : B * m ≤ (t - 1) * m := Int.mul_le_mul_of_nonneg_right (by omega) (by omega)
      have e : (t - 1) * m = t * m - m := by grind
      have : B * 1 ≤ B * m := Int.mul_le_mul_of_nonneg_left (by omega) (by omega)
      omega
    · omega
theorem floor_ev {a m : Int} (hm : 0 < m) (ha : sm 100000000 a) (hmb : m ≤ 100000000) : ∃ f, norm_floor.f a m = some f ∧ f * m ≤ a ∧ a < f * m + m ∧ sm 100000000 f := by
  obtain ⟨f1, f2, f3⟩ := floor_eq (a := a) hm
  unfold norm_floor.f
  rw [if_neg (by omega)]
  by_cases h0 : Int.tmod a m = 0
  · have e := f1 h0
    have hs := quot_sm hm ha (t := Int.tdiv a m) (by omega) (by omega)
    rw [if_pos h0]
    unfold sm at hs
    exact ⟨_, by rw [wrap_id (by omega) (by omega)], by omega, by omega, hs⟩
  · rw [if_neg h0]
    by_cases hn : a < 0
    · have e := f3 h0 hn
      have hs := quot_sm hm ha (t := Int.tdiv a m) (by omega) (by omega)
      have e1 : (Int.tdiv a m - 1) * m = Int.tdiv a m * m - m := by grind
      have hs2 := quot_sm hm ha (t := Int.tdiv a m - 1) (by omega) (by omega)
      rw [if_pos hn]
      have hs' := hs
      unfold sm at hs
      exact ⟨_, by rw [wrap_id (x := Int.tdiv a m) (by omega) (by omega), wrap_id (by omega) (by omega)], by omega, by omega, hs2⟩
    · have e := f2 h0 (by omega)
      have hs := quot_sm hm ha (t := Int.tdiv a m) (by omega) (by omega)
      rw [if_neg hn]
      have hs' := hs
      unfold sm at hs
      exact ⟨_, by rw [wrap_id (by omega) (by omega)], by omega, by omega, hs'⟩
theorem near_pick {a m par l : Int} (hm : 0 < m) (ha : sm 100000000 a) (hmb : m ≤ 100000000) (hl : sm 100000001 l) (hpar : l % 2 = par) (h1 : l * m ≤ a) (h2 : a < l * m + 2 * m) :
    ∃ q, (if (wrap64 (a - (wrap64 (l * m)))) > (wrap64 ((wrap64 ((wrap64 (l + 2)) * m)) - a)) then (some (wrap64 (l + 2))) else (some l)) = some q ∧ q % 2 = par ∧ -m < a - q * m ∧ a - q * m ≤ m := by
  have e2 := add_two_mul l m
  unfold sm at *
  rw [wrap_id (x := l + 2) (by omega) (by omega), wrap_id (x := l * m) (by omega) (by omega), wrap_id (x := (l + 2) * m) (by omega) (by omega), wrap_id (x := a - l * m) (by omega) (by omega), wrap_id (x := (l + 2) * m - a) (by omega) (by omega)]
  by_cases hc : a - l * m > (l + 2) * m - a
  · exact ⟨l + 2, by rw [if_pos hc], by omega, by omega, by omega⟩
  · exact ⟨l, by rw [if_neg hc], hpar, by omega, by omega⟩
theorem nearest_ev {p n par : Int} (hn : 0 < n) (hnb : n ≤ 1000000) (hp : sm 10000000 p) (hpar : par = 0 ∨ par = 1) : ∃ q, norm_nearest.f (2 * p) (2 * n) par = some q ∧ Near p n par q := by
  obtain ⟨f, hf, h1, h2, hs⟩ := floor_ev (a := 2 * p) (m := 2 * n) (by omega) (by unfold sm at *; omega) (by omega)
  have fin : ∀ q, q % 2 = par → -(2 * n) < 2 * p - q * (2 * n) → 2 * p - q * (2 * n) ≤ 2 * n → Near p n par q := fun q a b c => by
    have e : q * (2 * n) = 2 * (q * n) := by grind
    exact ⟨a, by omega, by omega⟩
  unfold norm_nearest.f
  rw [hf, Option.bind_some, bit1]
  by_cases hc : f % 2 = par
  · rw [if_pos hc]
    obtain ⟨q, e, a, b, c⟩ := near_pick (a := 2 * p) (m := 2 * n) (par := par) (l := f) (by omega) (by unfold sm at *; omega) (by omega) (by unfold sm at *; omega) hc h1 (by omega)
    exact ⟨q, e, fin q a b c⟩
  · rw [if_neg hc]
    have e1 : (f - 1) * (2 * n) = f * (2 * n) - 2 * n := by grind
    have hw : wrap64 (f - 1) = f - 1 := by unfold sm at hs; exact wrap_id (by omega) (by omega)
    rw [hw]
    obtain ⟨q, e, a, b, c⟩ := near_pick (a := 2 * p) (m := 2 * n) (par := par) (l := f - 1) (by omega) (by unfold sm at *; omega) (by omega) (by unfold sm at *; omega) (by omega) (by omega) (by omega)
    exact ⟨q, e, fin q a b c⟩
theorem near_sm {p n par q : Int} (hn : 0 < n) (hp : sm 10000000 p) (h : Near p n par q) : sm 10000001 q := by
  obtain ⟨_, h1, h2⟩ := h
  rcases Int.lt_or_le (p - q * n) n with c | c
  · have := quot_sm hn hp (t := q) (by omega) (by omega)
    unfold sm at *; omega
  · have e : (q + 1) * n = q * n + n := by grind
    have := quot_sm hn hp (t := q + 1) (by omega) (by omega)
    unfold sm at *; omega
/-- The miss of one coordinate, and its square. -/
theorem miss_ev {p n q par : Int} (hn : 0 < n) (hnb : n ≤ 1000000) (hp : sm 10000000 p) (h : Near p n par q) :
    wrap64 (2 * p - wrap64 (wrap64 (q * 2) * n)) = 2 * (p - q * n) ∧ wrap64 (2 * (p - q * n) * (2 * (p - q * n))) = 4 * ((p - q * n) * (p - q * n)) ∧ 0 ≤ (p - q * n) * (p - q * n) ∧ (p - q * n) * (p - q * n) ≤ 1000000000000 := by
  have hq := near_sm hn hp h
  obtain ⟨_, h1, h2⟩ := h
  have e : q * 2 * n = 2 * (q * n) := by grind
  have e3 : 2 * (p - q * n) * (2 * (p - q * n)) = 4 * ((p - q * n) * (p - q * n)) := by grind
  have hd : sm 1000000 (p - q * n) := by unfold sm; omega
  have hdd := mul_sm hd hd
  have hp2 := sq_pos (p - q * n)
  unfold sm at hq hp hdd
  refine ⟨?_, ?_, hp2, by omega⟩
  · rw [wrap_id (x := q * 2) (by omega) (by omega), wrap_id (x := q * 2 * n) (by omega) (by omega), wrap_id (by omega) (by omega)]
    omega
  · rw [e3, wrap_id (by omega) (by omega)]
end Go.Proofs.Ytgfnmimfoicmmaa.Pure
