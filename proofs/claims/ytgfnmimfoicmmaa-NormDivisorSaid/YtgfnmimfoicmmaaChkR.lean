/- The reference's check. -/
import Derived.Test.YtgfnmimfoicmmaaPMx0
import Derived.Test.YtgfnmimfoicmmaaPMx12
import Derived.Test.YtgfnmimfoicmmaaPMx19
import Derived.Test.YtgfnmimfoicmmaaPMx20
import Derived.Test.YtgfnmimfoicmmaaMulE
import Derived.Test.YtgfnmimfoicmmaaSame
set_option linter.unusedVariables false
set_option linter.unusedSimpArgs false
namespace Go.Proofs.Ytgfnmimfoicmmaa.Pure
open Go.RowKit Go.Proofs.Ytgfnmimfoicmmaa.PM Go.Proofs.YtgfnmimfoicmmaaW.PrintWords Go.Proofs.YtgfnmimfoicmmaaW.PrintLast

theorem In_ev (a l h : Int) : bellpullref01_In.f a l h = some (decide (l ≤ a ∧ a ≤ h)) := by
  by_cases hc : l ≤ a ∧ a ≤ h
  · rw [In_yes hc.1 hc.2, decide_eq_true hc]
  · rw [In_no hc, decide_eq_false hc]
theorem refC_parity (l : List S23) (i a b c d : Int) (r : Int) (h : Ev (fun k => bellpullref04_Check.l0 k l (wrap64 (i + 1))) r) (hi : itg a b c d) : Ev (fun k => bellpullref04_Check.l1 k l i [a, b, c, d] 1) r := by
  obtain ⟨h1, h2, h3⟩ := hi
  iterate 4 (refine Ev.succ ?_; simp [bellpullref04_Check.l1, bit1, rd, wrap64, h1, h2, h3])
  simpa [wrap64] using h
theorem refC_parity_no (l : List S23) (i a b c d : Int) (hi : ¬ itg a b c d) : Ev (fun k => bellpullref04_Check.l1 k l i [a, b, c, d] 1) 2 := by
  by_cases h1 : b % 2 = a % 2
  · by_cases h2 : c % 2 = a % 2
    · have h3 : ¬ d % 2 = a % 2 := fun h3 => hi ⟨h1, h2, h3⟩
      iterate 3 (refine Ev.succ ?_; simp [bellpullref04_Check.l1, bit1, rd, wrap64, h1, h2, h3])
      exact Ev.now _
    · iterate 2 (refine Ev.succ ?_; simp [bellpullref04_Check.l1, bit1, rd, wrap64, h1, h2])
      exact Ev.now _
  · iterate 1 (refine Ev.succ ?_; simp [bellpullref04_Check.l1, bit1, rd, wrap64, h1])
    exact Ev.now _
theorem refC_range (l : List S23) (i a b c d : Int) (r : Int) (h : Ev (fun k => bellpullref04_Check.l2 k l (wrap64 (i + 1))) r) (hi : rng a b c d) : Ev (fun k => bellpullref04_Check.l3 k l i [a, b, c, d] 0) r := by
  obtain ⟨h1, h2, h3, h4⟩ := hi
  iterate 5 (refine Ev.succ ?_; simp [bellpullref04_Check.l3, In_ev, rd, wrap64, h1, h2, h3, h4])
  simpa [wrap64] using h
theorem refC_range_no (l : List S23) (i a b c d : Int) (hi : ¬ rng a b c d) : Ev (fun k => bellpullref04_Check.l3 k l i [a, b, c, d] 0) 1 := by
  by_cases h1 : -1000 ≤ a ∧ a ≤ 1000
  · by_cases h2 : -1000 ≤ b ∧ b ≤ 1000
    · by_cases h3 : -1000 ≤ c ∧ c ≤ 1000
      · have h4 : ¬ (-1000 ≤ d ∧ d ≤ 1000) := fun h4 => hi ⟨h1, h2, h3, h4⟩
        have e : decide (-1000 ≤ d ∧ d ≤ 1000) = false := decide_eq_false h4
        iterate 3 (refine Ev.succ ?_; simp [bellpullref04_Check.l3, In_ev, rd, wrap64, h1, h2, h3])
        refine Ev.succ ?_
        simp only [bellpullref04_Check.l3, In_ev]
        refine Ev.pos (by omega) (Ev.pos (by omega) (Ev.pos (by simp) ?_))
        rw [show rd [a, b, c, d] 3 = d from rfl, e]
        exact Ev.bindc rfl (Ev.neg (by simp) (Ev.now _))
      · have e : decide (-1000 ≤ c ∧ c ≤ 1000) = false := decide_eq_false h3
        iterate 2 (refine Ev.succ ?_; simp [bellpullref04_Check.l3, In_ev, rd, wrap64, h1, h2])
        refine Ev.succ ?_
        simp only [bellpullref04_Check.l3, In_ev]
        refine Ev.pos (by omega) (Ev.pos (by omega) (Ev.pos (by simp) ?_))
        rw [show rd [a, b, c, d] 2 = c from rfl, e]
        exact Ev.bindc rfl (Ev.neg (by simp) (Ev.now _))
    · have e : decide (-1000 ≤ b ∧ b ≤ 1000) = false := decide_eq_false h2
      iterate 1 (refine Ev.succ ?_; simp [bellpullref04_Check.l3, In_ev, rd, wrap64, h1])
      refine Ev.succ ?_
      simp only [bellpullref04_Check.l3, In_ev]
      refine Ev.pos (by omega) (Ev.pos (by omega) (Ev.pos (by simp) ?_))
      rw [show rd [a, b, c, d] 1 = b from rfl, e]
      exact Ev.bindc rfl (Ev.neg (by simp) (Ev.now _))
  · have e : decide (-1000 ≤ a ∧ a ≤ 1000) = false := decide_eq_false h1
    refine Ev.succ ?_
    simp only [bellpullref04_Check.l3, In_ev]
    refine Ev.pos (by omega) (Ev.pos (by omega) (Ev.pos (by simp) ?_))
    rw [show rd [a, b, c, d] 0 = a from rfl, e]
    exact Ev.bindc rfl (Ev.neg (by simp) (Ev.now _))
theorem refCheck_loop2 (l : List S23) (hl : l.length ≤ 1000) : ∀ (j i : Nat), i + j = l.length → Ev (fun k => bellpullref04_Check.l2 k l (i : Int)) (if ∀ x ∈ l.drop i, rng x.f0 x.f1 x.f2 x.f3 then 0 else 1)
  | 0, i, h => by
    refine Ev.succ ?_
    simp only [bellpullref04_Check.l2]
    refine Ev.neg (by omega) ?_
    rw [List.drop_eq_nil_of_le (by omega)]
    simpa using Ev.now (0 : Int)
  | j + 1, i, h => by
    have hi : i < l.length := by omega
    have ih := refCheck_loop2 l hl j (i + 1) (by omega)
    refine Ev.succ ?_
    simp only [bellpullref04_Check.l2, bellpullref04_Parts.f]
    have hw : wrap64 ((i : Int) + 1) = ((i + 1 : Nat) : Int) := by rw [wrap_id (by omega) (by omega)]; omega
    rw [rd23 l i hi, List.drop_eq_getElem_cons hi]
    refine Ev.pos (by omega) (Ev.pos (by omega) (Ev.bindc rfl ?_))
    by_cases hr : rng l[i].f0 l[i].f1 l[i].f2 l[i].f3
    · have e : (∀ x ∈ l[i] :: l.drop (i + 1), rng x.f0 x.f1 x.f2 x.f3) ↔ ∀ x ∈ l.drop (i + 1), rng x.f0 x.f1 x.f2 x.f3 := ⟨fun h x hx => h x (List.mem_cons_of_mem _ hx), fun h x hx => (List.mem_cons.mp hx).elim (fun e => by rw [e]; exact hr) (h x)⟩
      simp only [e]
      exact refC_range l i _ _ _ _ _ (by rw [hw]; exact ih) hr
    · rw [if_neg (fun c => hr (c _ List.mem_cons_self))]
      exact refC_range_no l i _ _ _ _ hr
theorem refCheck_loop0 (l : List S23) (hl : l.length ≤ 1000) : ∀ (j i : Nat), i + j = l.length → Ev (fun k => bellpullref04_Check.l0 k l (i : Int)) (if ∀ x ∈ l.drop i, itg x.f0 x.f1 x.f2 x.f3 then (if ∀ x ∈ l, rng x.f0 x.f1 x.f2 x.f3 then 0 else 1) else 2)
  | 0, i, h => by
    refine Ev.succ ?_
    simp only [bellpullref04_Check.l0]
    refine Ev.neg (by omega) ?_
    rw [List.drop_eq_nil_of_le (by omega), if_pos (by simp)]
    have := refCheck_loop2 l hl l.length 0 (by omega)
    simpa using this
  | j + 1, i, h => by
    have hi : i < l.length := by omega
    have ih := refCheck_loop0 l hl j (i + 1) (by omega)
    refine Ev.succ ?_
    simp only [bellpullref04_Check.l0, bellpullref04_Parts.f]
    have hw : wrap64 ((i : Int) + 1) = ((i + 1 : Nat) : Int) := by rw [wrap_id (by omega) (by omega)]; omega
    rw [rd23 l i hi, List.drop_eq_getElem_cons hi]
    refine Ev.pos (by omega) (Ev.pos (by omega) (Ev.bindc rfl ?_))
    by_cases hr : itg l[i].f0 l[i].f1 l[i].f2 l[i].f3
    · have e : (∀ x ∈ l[i] :: l.drop (i + 1), itg x.f0 x.f1 x.f2 x.f3) ↔ ∀ x ∈ l.drop (i + 1), itg x.f0 x.f1 x.f2 x.f3 := ⟨fun h x hx => h x (List.mem_cons_of_mem _ hx), fun h x hx => (List.mem_cons.mp hx).elim (fun e => by rw [e]; exact hr) (h x)⟩
      simp only [e]
      exact refC_parity l i _ _ _ _ _ (by rw [hw]; exact ih) hr
    · rw [if_neg (fun c => hr (c _ List.mem_cons_self))]
      exact refC_parity_no l i _ _ _ _ hr
theorem refCheck_ev (l : List S23) (hl : l.length ≤ 1000) : Ev (fun k => bellpullref04_Check.f k l) (chk l) := by
  have := refCheck_loop0 l hl l.length 0 (by omega)
  simpa [bellpullref04_Check.f, chk] using this
end Go.Proofs.Ytgfnmimfoicmmaa.Pure
