/- The divisors of a number, and what Count and Hurwitz return of them: no loop, no rounds. -/
import Derived.Test.YtgfnmimfoicmmaaPMx6
import Derived.Test.YtgfnmimfoicmmaaPMx7
import Derived.Test.YtgfnmimfoicmmaaTools
set_option linter.unusedVariables false
set_option linter.unusedSimpArgs false
namespace Go.Proofs.Ytgfnmimfoicmmaa.Pure
open Go.RowKit Go.Proofs.Ytgfnmimfoicmmaa.PM Go.Proofs.YtgfnmimfoicmmaaW.PrintWords Go.Proofs.YtgfnmimfoicmmaaW.PrintLast

theorem lives_ev : Ev (fun k => bellpulllaw04_lives.f k) true := Ev.of (fun k => bellpulllaw04_lives.mono k) (k := 1200) (by decide +kernel)

/-- The divisors of n that are at most m. -/
def dv (n : Int) : Nat → List Int
  | 0 => []
  | m + 1 => if Int.tmod n ((m : Int) + 1) = 0 then dv n m ++ [(m : Int) + 1] else dv n m
theorem dv_len (n : Int) : ∀ m, (dv n m).length ≤ m
  | 0 => Nat.le_refl _
  | m + 1 => by
    rw [dv]
    split
    · rw [List.length_append]; have := dv_len n m; simp; omega
    · have := dv_len n m; omega
theorem divisors_loop (n : Int) (hn : n ≤ 10000) : ∀ (j m : Nat), ((m + j : Nat) : Int) = n → Ev (fun k => norm_divisors.l0 k n (dv n m) ((m : Int) + 1)) (dv n (m + j))
  | 0, m, h => by
    refine Ev.succ ?_
    simp only [norm_divisors.l0]
    exact Ev.neg (by omega) (Ev.now _)
  | j + 1, m, h => by
    refine Ev.succ ?_
    simp only [norm_divisors.l0]
    have hw : wrap64 ((m : Int) + 1 + 1) = ((m + 1 : Nat) : Int) + 1 := by rw [wrap_id (by omega) (by omega)]; omega
    have ih := divisors_loop n hn j (m + 1) (by omega)
    refine Ev.pos (by omega) (Ev.neg (by omega) ?_)
    rw [hw, show m + (j + 1) = m + 1 + j by omega]
    rw [dv] at ih
    by_cases hd : Int.tmod n ((m : Int) + 1) = 0
    · rw [if_pos hd] at ih
      exact Ev.pos hd (Ev.pos (by have := dv_len n m; omega) ih)
    · rw [if_neg hd] at ih
      exact Ev.neg hd ih
theorem divisors_ev (n : Nat) (hn : n ≤ 10000) : Ev (fun k => norm_divisors.f k (n : Int)) (dv n n) := by
  have := divisors_loop (n : Int) (by omega) n 0 (by omega)
  simpa [norm_divisors.f, dv] using this
theorem dv_ne (n : Int) : ∀ m, 0 < m → (dv n m).length ≠ 0
  | 1, _ => by simp [dv]
  | m + 2, _ => by
    rw [dv]
    have := dv_ne n (m + 1) (by omega)
    split
    · simp
    · exact this
/-- The sum of a number's good divisors, as the program sums. -/
def ds (n : Nat) (q : Int → Bool) : Int := sumW ((dv n n).filter q)
theorem total_ev (n : Nat) (hn : n ≤ 10000) (h0 : 0 < n) (q : Int → Bool) : Ev (fun k => totalF k (n : Int) q) (ds n q) := by
  refine Ev.bind (divisors_ev n hn) ?_
  exact Ev.neg (dv_ne _ n h0) (Ev.now _)
def q4 (d : Int) : Bool := !decide (Int.tmod d 4 = 0)
def q2 (d : Int) : Bool := decide (Int.tmod d 2 = 1)
theorem counted_yes (n : Int) (l : Int) (h0 : l ≤ n) (h1 : n ≤ 10000) : norm_counted.f n l = some true := by
  unfold norm_counted.f
  rw [if_pos (by omega), decide_eq_true h1]
theorem counted_no (n : Int) (l : Int) (h : ¬ (l ≤ n ∧ n ≤ 10000)) : norm_counted.f n l = some false := by
  unfold norm_counted.f
  by_cases h0 : n ≥ l
  · rw [if_pos h0, decide_eq_false (by omega)]
  · rw [if_neg h0]
theorem Count_ev (n : Nat) (hn : n ≤ 10000) (h0 : 0 < n) : Ev (fun k => norm_Count.f k (n : Int)) (wrap64 (8 * ds n q4), 0) := by
  unfold norm_Count.f
  refine Ev.bindc (counted_yes _ 0 (by omega) (by omega)) (Ev.pos rfl (Ev.neg (by omega) ?_))
  exact Ev.bind (total_ev n hn h0 q4) (Ev.now _)
theorem Count_zero : Ev (fun k => norm_Count.f k 0) (1, 0) := by
  unfold norm_Count.f
  exact Ev.bindc (counted_yes _ 0 (by omega) (by omega)) (Ev.pos rfl (Ev.pos rfl (Ev.now _)))
theorem Count_no (n : Int) (h : ¬ (0 ≤ n ∧ n ≤ 10000)) : Ev (fun k => norm_Count.f k n) (0, 1) := by
  unfold norm_Count.f
  exact Ev.bindc (counted_no _ 0 h) (Ev.neg (by simp) (Ev.now _))
theorem Hurwitz_ev (n : Nat) (hn : n ≤ 10000) (h0 : 0 < n) : Ev (fun k => norm_Hurwitz.f k (n : Int)) (wrap64 (24 * ds n q2), 0) := by
  unfold norm_Hurwitz.f
  refine Ev.bindc (counted_yes _ 1 (by omega) (by omega)) (Ev.pos rfl ?_)
  exact Ev.bind (total_ev n hn h0 q2) (Ev.now _)
theorem Hurwitz_no (n : Int) (h : ¬ (1 ≤ n ∧ n ≤ 10000)) : Ev (fun k => norm_Hurwitz.f k n) (0, 1) := by
  unfold norm_Hurwitz.f
  exact Ev.bindc (counted_no _ 1 h) (Ev.neg (by simp) (Ev.now _))
theorem sumW_snoc (l : List Int) (d : Int) : sumW (l ++ [d]) = wrap64 (sumW l + d) := by
  rw [sumW, sumW, List.foldl_append]
  rfl
/-- The sum of the good divisors that are at most m: one more. -/
def dm (n : Int) (m : Nat) (q : Int → Bool) : Int := sumW ((dv n m).filter q)
theorem dm_yes {n : Int} {m : Nat} {q : Int → Bool} (hd : Int.tmod n ((m : Int) + 1) = 0) (hq : q ((m : Int) + 1) = true) : dm n (m + 1) q = wrap64 (dm n m q + ((m : Int) + 1)) := by
  rw [dm, dv, if_pos hd, List.filter_append, List.filter_cons, if_pos hq, List.filter_nil, sumW_snoc]
  rfl
theorem dm_no {n : Int} {m : Nat} {q : Int → Bool} (h : Int.tmod n ((m : Int) + 1) ≠ 0 ∨ q ((m : Int) + 1) = false) : dm n (m + 1) q = dm n m q := by
  rw [dm, dv]
  by_cases hd : Int.tmod n ((m : Int) + 1) = 0
  · have hq := h.resolve_left (fun c => c hd)
    rw [if_pos hd, List.filter_append, List.filter_cons, if_neg (by simp [hq]), List.filter_nil, List.append_nil]
    rfl
  · rw [if_neg hd]
    rfl
end Go.Proofs.Ytgfnmimfoicmmaa.Pure
