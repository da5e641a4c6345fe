/- The reference's sums of squares. -/
import Derived.Test.YtgfnmimfoicmmaaPMx17
import Derived.Test.YtgfnmimfoicmmaaSqE
set_option linter.unusedVariables false
set_option linter.unusedSimpArgs false
namespace Go.Proofs.Ytgfnmimfoicmmaa.Pure
open Go.RowKit Go.Proofs.Ytgfnmimfoicmmaa.PM Go.Proofs.YtgfnmimfoicmmaaW.PrintWords Go.Proofs.YtgfnmimfoicmmaaW.PrintLast
open Go.Proofs.Ytgfnmimfoicmmaa.Sq

theorem sqrN_loop1 (k n : Nat) (hk : k + 1 ≤ 4) (hn : n ≤ 10000) (ih : ∀ n b : Nat, n ≤ 10000 → b ≤ 100 → Ev (fun r => sqrN.f r n k b) (sq k n b)) :
    ∀ j : Nat, j ≤ 101 → (∀ i, i < j → i * i ≤ n) → Ev (fun r => sqrN.l1 r (n : Int) ((k + 1 : Nat) : Int) ((j : Int) - 1)) (go (sq k) n j)
  | 0, _, _ => by
    refine Ev.succ ?_
    simp only [sqrN.l1]
    refine Ev.neg (by omega) (Ev.succ ?_)
    simp only [sqrN.j2]
    exact Ev.neg (by simp) (Ev.now _)
  | j + 1, hj, hi => by
    refine Ev.succ ?_
    simp only [sqrN.l1]
    have e : ((j + 1 : Nat) : Int) - 1 = (j : Int) := by omega
    rw [e, cut_val (k + 1) j n hk (by omega)]
    have hrec := sqrN_loop1 k n hk hn ih j (by omega) (fun i h => hi i (by omega))
    have hjn : j * j ≤ n := hi j (by omega)
    refine Ev.pos (by omega) (Ev.succ ?_)
    simp only [sqrN.j2]
    have hw : wrap64 ((j : Int) - 1) = (j : Int) - 1 := wrap_id (by omega) (by omega)
    rw [sq_val j (by omega), hw]
    by_cases hc : ((((k + 1) * (j * j) : Nat)) : Int) ≥ (n : Int)
    · refine Ev.pos (decide_eq_true hc) ?_
      rw [go]
      have hs : wrap64 ((n : Int) - ((j * j : Nat) : Int)) = ((n - j * j : Nat) : Int) := by rw [wrap_id (by omega) (by omega)]; omega
      have hk1 : wrap64 (((k + 1 : Nat) : Int) - 1) = (k : Int) := by rw [wrap_id (by omega) (by omega)]; omega
      rw [hs, hk1, if_pos hjn]
      refine Ev.bind (ih (n - j * j) j (by omega) (by omega)) ?_
      rcases hr : sq k (n - j * j) j with _ | l
      · exact Ev.neg (by simp) hrec
      · refine Ev.pos (by simp) ?_
        have hl := sq_len hr
        simp only [Option.getD_some, Option.bind_some]
        exact Ev.pos (by simp [hl]; omega) (Ev.now _)
    · rw [go_little k n (j + 1) (by simp only [Nat.add_sub_cancel]; omega)]
      exact Ev.neg (by simpa using hc) (Ev.now _)
theorem sqrN_loop0 (k n : Nat) (hk : k + 1 ≤ 4) (hn : n ≤ 10000) (ih : ∀ n b : Nat, n ≤ 10000 → b ≤ 100 → Ev (fun r => sqrN.f r n k b) (sq k n b)) :
    ∀ j : Nat, j ≤ 100 → Ev (fun r => sqrN.l0 r (n : Int) ((k + 1 : Nat) : Int) (j : Int)) (go (sq k) n (j + 1))
  | j, hj => by
    refine Ev.succ ?_
    simp only [sqrN.l0]
    rw [sq_val j (by omega)]
    by_cases hjn : j * j ≤ n
    · have := sqrN_loop1 k n hk hn ih (j + 1) (by omega) (fun i h => Nat.le_trans (Nat.mul_le_mul (by omega) (by omega)) hjn)
      rw [show ((j + 1 : Nat) : Int) - 1 = (j : Int) by omega] at this
      exact Ev.neg (by omega) this
    · match j with
      | 0 => omega
      | j + 1 =>
        have hw : wrap64 (((j + 1 : Nat) : Int) - 1) = (j : Int) := by rw [wrap_id (by omega) (by omega)]; omega
        rw [hw, go, if_neg hjn]
        exact Ev.pos (by omega) (sqrN_loop0 k n hk hn ih j (by omega))
theorem sqrN_ev : ∀ (k : Nat), k ≤ 4 → ∀ n b : Nat, n ≤ 10000 → b ≤ 100 → Ev (fun r => sqrN.f r n k b) (sq k n b)
  | 0, _, n, b, hn, hb => by
    refine Ev.succ ?_
    simp only [sqrN.f]
    refine Ev.pos rfl ?_
    rw [sq]
    by_cases h : n = 0
    · rw [if_pos h]; exact Ev.pos (by omega) (Ev.now _)
    · rw [if_neg h]; exact Ev.neg (by omega) (Ev.now _)
  | k + 1, hk, n, b, hn, hb => by
    refine Ev.succ ?_
    simp only [sqrN.f]
    refine Ev.neg (by omega) ?_
    exact sqrN_loop0 k n hk hn (sqrN_ev k (by omega)) b hb
theorem Squares_ev (k n : Nat) (hk : k + 1 ≤ 4) (hn : n ≤ 10000) : Ev (fun q => bellpullref04_Squares.f q (n : Int) ((k + 1 : Nat) : Int) 100) ((sq (k + 1) n 100).getD []) := by
  unfold bellpullref04_Squares.f
  refine Ev.neg (by omega) ?_
  exact Ev.bind (sqrN_ev (k + 1) hk n 100 hn (by omega)) (Ev.now _)
end Go.Proofs.Ytgfnmimfoicmmaa.Pure
