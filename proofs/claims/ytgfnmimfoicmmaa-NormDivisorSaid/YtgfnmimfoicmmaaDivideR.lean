/- The reference's Divide finds the best quotient. -/
import Derived.Test.YtgfnmimfoicmmaaPMx6
import Derived.Test.YtgfnmimfoicmmaaPMx19
import Derived.Test.YtgfnmimfoicmmaaPMx33
import Derived.Test.YtgfnmimfoicmmaaPMx36
import Derived.Test.YtgfnmimfoicmmaaPMx37
import Derived.Test.YtgfnmimfoicmmaaDivideG
set_option linter.unusedVariables false
set_option linter.unusedSimpArgs false
namespace Go.Proofs.Ytgfnmimfoicmmaa.Pure
open Go.RowKit Go.Proofs.Ytgfnmimfoicmmaa.PM Go.Proofs.YtgfnmimfoicmmaaW.PrintWords Go.Proofs.YtgfnmimfoicmmaaW.PrintLast
open Go.Proofs.Ytgfnmimfoicmmaa.Dv

theorem below_step {p n par q : Int} (hn : 0 < n) (hnb : n ≤ 1000000) (hp : sm 10000000 p) (hpar : par = 0 ∨ par = 1) (h1 : q * n ≤ p) (h2 : p < q * n + n) : ∃ v, Ev (fun k => bellpullref04_below.l0 k p n par q) v ∧ Low p n par v := by
  have hq := quot_sm hn hp (t := q) (by omega) (by omega)
  have e1 : (q - 1) * n = q * n - n := by grind
  unfold sm at hp hq
  by_cases hc : q % 2 = par
  · refine ⟨q, Ev.succ ?_, hc, by omega, by omega⟩
    simp only [bellpullref04_below.l0, bit1]
    rw [wrap_id (x := q * n) (by omega) (by omega)]
    exact Ev.neg (by omega) (Ev.pos hc (Ev.now _))
  · refine ⟨q - 1, Ev.succ ?_, by omega, by omega, by omega⟩
    simp only [bellpullref04_below.l0, bit1]
    rw [wrap_id (x := q * n) (by omega) (by omega), wrap_id (x := q - 1) (by omega) (by omega)]
    refine Ev.neg (by omega) (Ev.neg hc (Ev.succ ?_))
    simp only [bellpullref04_below.l0, bit1]
    rw [wrap_id (x := (q - 1) * n) (by omega) (by omega)]
    exact Ev.neg (by omega) (Ev.pos (by omega) (Ev.now _))
theorem below_ev {p n par : Int} (hn : 0 < n) (hnb : n ≤ 1000000) (hp : sm 10000000 p) (hpar : par = 0 ∨ par = 1) : ∃ v, Ev (fun k => bellpullref04_below.f k p n par) v ∧ Low p n par v := by
  obtain ⟨f1, f2, f3⟩ := floor_eq (a := p) hn
  have hcase : (Int.tdiv p n * n ≤ p ∧ p < Int.tdiv p n * n + n) ∨ (Int.tdiv p n * n - n < p ∧ p < Int.tdiv p n * n) := by
    by_cases h0 : Int.tmod p n = 0
    · have := f1 h0; omega
    · by_cases h1 : p < 0
      · exact .inr (f3 h0 h1)
      · exact .inl (f2 h0 (by omega))
  have hq := quot_sm hn hp (t := Int.tdiv p n) (by omega) (by omega)
  unfold bellpullref04_below.f
  have hw : wrap64 (Int.tdiv p n) = Int.tdiv p n := by unfold sm at hq; exact wrap_id (by omega) (by omega)
  rw [hw]
  generalize Int.tdiv p n = t at *
  rcases hcase with h | h
  · obtain ⟨v, h1, h2⟩ := below_step hn hnb hp hpar h.1 h.2
    exact ⟨v, Ev.neg (by omega) h1, h2⟩
  · have e1 : (t - 1) * n = t * n - n := by grind
    obtain ⟨v, h1, h2⟩ := below_step (q := t - 1) hn hnb hp hpar (by omega) (by omega)
    refine ⟨v, Ev.neg (by omega) (Ev.succ ?_), h2⟩
    simp only [bellpullref04_below.l0, bit1]
    unfold sm at hp hq
    rw [wrap_id (x := t * n) (by omega) (by omega), wrap_id (x := t - 1) (by omega) (by omega)]
    exact Ev.pos (by omega) h1
theorem Bef_loop (l m : List Int) (hl : l.length = 4) (hm : m.length = 4) (i : Nat) (hi : i < 4) (t : Bool)
    (h : (rd l i = rd m i ∧ Ev (fun k => bellpullref01_Before.l0 k l m ((i + 1 : Nat) : Int)) t) ∨ (rd l i ≠ rd m i ∧ t = decide (rd l i < rd m i))) : Ev (fun k => bellpullref01_Before.l0 k l m (i : Int)) t := by
  refine Ev.succ ?_
  simp only [bellpullref01_Before.l0]
  refine Ev.pos (by omega) (Ev.succ ?_)
  simp only [bellpullref01_Before.j1]
  have hw : wrap64 ((i : Int) + 1) = ((i + 1 : Nat) : Int) := by rw [wrap_id (by omega) (by omega)]; omega
  rw [hw]
  refine Ev.pos (decide_eq_true (by omega)) (Ev.pos (by omega) (Ev.pos (by omega) (Ev.pos (by omega) ?_)))
  rcases h with ⟨h, hn⟩ | ⟨h, rfl⟩
  · exact Ev.pos h hn
  · exact Ev.neg h (Ev.now _)
theorem Less_ev (a b c d e f g h : Int) : ∃ t, Ev (fun k => bellpullref04_Less.f k a b c d e f g h) t ∧ (t = true ↔ lt4 a b c d e f g h) := by
  have L := fun (i : Nat) (hi : i < 4) (t : Bool) hh => Bef_loop [a, b, c, d] [e, f, g, h] rfl rfl i hi t hh
  have last : Ev (fun k => bellpullref01_Before.l0 k [a, b, c, d] [e, f, g, h] ((4 : Nat) : Int)) false := by
    refine Ev.succ ?_
    simp only [bellpullref01_Before.l0]
    refine Ev.neg (by simp) (Ev.succ ?_)
    simp only [bellpullref01_Before.j1]
    exact Ev.neg (by simp) (Ev.now _)
  have key : ∃ t, Ev (fun k => bellpullref01_Before.l0 k [a, b, c, d] [e, f, g, h] ((0 : Nat) : Int)) t ∧ (t = true ↔ lt4 a b c d e f g h) := by
    unfold lt4
    by_cases h0 : a = e
    · by_cases h1 : b = f
      · by_cases h2 : c = g
        · by_cases h3 : d = h
          · exact ⟨false, L 0 (by omega) _ (.inl ⟨h0, L 1 (by omega) _ (.inl ⟨h1, L 2 (by omega) _ (.inl ⟨h2, L 3 (by omega) _ (.inl ⟨h3, last⟩)⟩)⟩)⟩), by simp; omega⟩
          · exact ⟨decide (d < h), L 0 (by omega) _ (.inl ⟨h0, L 1 (by omega) _ (.inl ⟨h1, L 2 (by omega) _ (.inl ⟨h2, L 3 (by omega) _ (.inr ⟨h3, rfl⟩)⟩)⟩)⟩), by rw [decide_eq_true_eq]; omega⟩
        · exact ⟨decide (c < g), L 0 (by omega) _ (.inl ⟨h0, L 1 (by omega) _ (.inl ⟨h1, L 2 (by omega) _ (.inr ⟨h2, rfl⟩)⟩)⟩), by rw [decide_eq_true_eq]; omega⟩
      · exact ⟨decide (b < f), L 0 (by omega) _ (.inl ⟨h0, L 1 (by omega) _ (.inr ⟨h1, rfl⟩)⟩), by rw [decide_eq_true_eq]; omega⟩
    · exact ⟨decide (a < e), L 0 (by omega) _ (.inr ⟨h0, rfl⟩), by rw [decide_eq_true_eq]; omega⟩
  obtain ⟨t, h1, h2⟩ := key
  refine ⟨t, ?_, h2⟩
  unfold bellpullref04_Less.f bellpullref04_Parts.f bellpullref01_Before.f
  exact Ev.bindc rfl (Ev.bindc rfl (Ev.bind h1 (Ev.now _)))
section
variable {n least par u x0 x1 x2 x3 y0 y1 y2 y3 p0 p1 p2 p3 b0 b1 b2 b3 v0 v1 v2 v3 : Int} {found : Bool} {r : Int × Int × Int × Int × Int × Int × Int × Int}
end
end Go.Proofs.Ytgfnmimfoicmmaa.Pure
