/- The program's and the reference's sums of squares are the specification's. -/
import Derived.Test.YtgfnmimfoicmmaaPMx6
import Derived.Test.YtgfnmimfoicmmaaSqS
import Derived.Test.YtgfnmimfoicmmaaDivS
set_option linter.unusedVariables false
set_option linter.unusedSimpArgs false
namespace Go.Proofs.Ytgfnmimfoicmmaa.Pure
open Go.RowKit Go.Proofs.Ytgfnmimfoicmmaa.PM Go.Proofs.YtgfnmimfoicmmaaW.PrintWords Go.Proofs.YtgfnmimfoicmmaaW.PrintLast
open Go.Proofs.Ytgfnmimfoicmmaa.Sq

theorem wrap_nat {n : Nat} (h : n ≤ 9223372036854775807) : wrap64 (n : Int) = (n : Int) := wrap_id (by omega) (by omega)
theorem sq_len {k n b : Nat} {l : List Int} (h : sq k n b = some l) : l.length = k := (sq_good _ _ _ _ h).len
theorem mul_b {a b A B : Nat} (ha : a ≤ A) (hb : b ≤ B) : a * b ≤ A * B := Nat.mul_le_mul ha hb
theorem cut_val (k j n : Nat) (hk : k ≤ 4) (hj : j ≤ 100) : wrap64 ((wrap64 ((k : Int) * (j : Int))) * (j : Int)) = ((k * (j * j) : Nat) : Int) := by
  have h1 : k * j ≤ 4 * 100 := mul_b hk hj
  have h2 : k * j * j ≤ 4 * 100 * 100 := mul_b h1 hj
  rw [← Int.natCast_mul, wrap_nat (by omega), ← Int.natCast_mul, wrap_nat (by omega), Nat.mul_assoc]
theorem sq_val (j : Nat) (hj : j ≤ 100) : wrap64 ((j : Int) * (j : Int)) = ((j * j : Nat) : Int) := by
  have h1 : j * j ≤ 100 * 100 := mul_b hj hj
  rw [← Int.natCast_mul, wrap_nat (by omega)]
theorem sqN_loop (k n : Nat) (hk : k + 1 ≤ 4) (hn : n ≤ 10000) (ih : ∀ n b : Nat, n ≤ 10000 → b ≤ 100 → Ev (fun r => sqN.f r n k b) (sq k n b)) :
    ∀ j : Nat, j ≤ 101 → Ev (fun r => sqN.l0 r (n : Int) ((k + 1 : Nat) : Int) ((j : Int) - 1)) (go (sq k) n j)
  | 0, _ => by
    refine Ev.succ ?_
    simp only [sqN.l0]
    refine Ev.neg (by omega) (Ev.succ ?_)
    simp only [sqN.j1]
    exact Ev.neg (by simp) (Ev.now _)
  | j + 1, hj => by
    refine Ev.succ ?_
    simp only [sqN.l0]
    have e : ((j + 1 : Nat) : Int) - 1 = (j : Int) := by omega
    rw [e, cut_val (k + 1) j n hk (by omega)]
    have hrec := sqN_loop k n hk hn ih j (by omega)
    refine Ev.pos (by omega) (Ev.succ ?_)
    simp only [sqN.j1]
    have hw : wrap64 ((j : Int) - 1) = (j : Int) - 1 := wrap_id (by omega) (by omega)
    rw [sq_val j (by omega), hw]
    by_cases hc : ((((k + 1) * (j * j) : Nat)) : Int) ≥ (n : Int)
    · refine Ev.pos (decide_eq_true hc) ?_
      rw [go]
      by_cases hjn : j * j ≤ n
      · refine Ev.neg (by omega) ?_
        have hs : wrap64 ((n : Int) - ((j * j : Nat) : Int)) = ((n - j * j : Nat) : Int) := by rw [wrap_id (by omega) (by omega)]; omega
        have hk1 : wrap64 (((k + 1 : Nat) : Int) - 1) = (k : Int) := by rw [wrap_id (by omega) (by omega)]; omega
        rw [hs, hk1, if_pos hjn]
        refine Ev.bind (ih (n - j * j) j (by omega) (by omega)) ?_
        rcases hr : sq k (n - j * j) j with _ | l
        · exact Ev.neg (by simp) hrec
        · refine Ev.pos (by simp) ?_
          have hl := sq_len hr
          simp only [Option.getD_some, Option.bind_some]
          exact Ev.pos (by simp [hl]; omega) (Ev.now _)
      · rw [if_neg hjn]
        exact Ev.pos (by omega) hrec
    · rw [go_little k n (j + 1) (by simp only [Nat.add_sub_cancel]; omega)]
      exact Ev.neg (by simpa using hc) (Ev.now _)
theorem sqN_ev : ∀ (k : Nat), k ≤ 4 → ∀ n b : Nat, n ≤ 10000 → b ≤ 100 → Ev (fun r => sqN.f r n k b) (sq k n b)
  | 0, _, n, b, hn, hb => by
    refine Ev.succ ?_
    simp only [sqN.f]
    refine Ev.pos rfl ?_
    rw [sq]
    by_cases h : n = 0
    · rw [if_pos h]; exact Ev.pos (by omega) (Ev.now _)
    · rw [if_neg h]; exact Ev.neg (by omega) (Ev.now _)
  | k + 1, hk, n, b, hn, hb => by
    refine Ev.succ ?_
    simp only [sqN.f]
    refine Ev.neg (by omega) ?_
    have := sqN_loop k n hk hn (sqN_ev k (by omega)) (b + 1) (by omega)
    rw [show ((b + 1 : Nat) : Int) - 1 = (b : Int) by omega] at this
    exact this
theorem root_loop (n : Nat) (hn : n ≤ 10000) : ∀ (d x : Nat), x + d = 100 → x * x ≤ n → ∃ r : Nat, r ≤ 100 ∧ r * r ≤ n ∧ n < (r + 1) * (r + 1) ∧ Ev (fun k => norm_root.l0 k (n : Int) (x : Int)) (r : Int)
  | d, x, hd, hx => by
    have hw : wrap64 ((x : Int) + 1) = ((x + 1 : Nat) : Int) := by rw [wrap_id (by omega) (by omega)]; omega
    have h2 : (x + 1) * (x + 1) ≤ 101 * 101 := mul_b (by omega) (by omega)
    have hv : wrap64 (((x + 1 : Nat) : Int) * ((x + 1 : Nat) : Int)) = (((x + 1) * (x + 1) : Nat) : Int) := by rw [← Int.natCast_mul, wrap_nat (by omega)]
    by_cases hc : (x + 1) * (x + 1) ≤ n
    · match d, hd with
      | 0, hd => obtain rfl : x = 100 := by omega
                 omega
      | d + 1, hd =>
        obtain ⟨r, h0, h1, h3, h4⟩ := root_loop n hn d (x + 1) (by omega) hc
        refine ⟨r, h0, h1, h3, Ev.succ ?_⟩
        simp only [norm_root.l0]
        rw [hw, hv]
        exact Ev.pos (by omega) h4
    · refine ⟨x, by omega, hx, by omega, Ev.succ ?_⟩
      simp only [norm_root.l0]
      rw [hw, hv]
      exact Ev.neg (by omega) (Ev.now _)
theorem root_ev (n : Nat) (hn : n ≤ 10000) : ∃ r : Nat, r ≤ 100 ∧ n < (r + 1) * (r + 1) ∧ Ev (fun k => norm_root.f k (n : Int)) (r : Int) := by
  obtain ⟨r, h0, h1, h2, h3⟩ := root_loop n hn 100 0 (by omega) (by omega)
  exact ⟨r, h0, h2, h3⟩
theorem squares_ev (k n r : Nat) (hk : k + 1 ≤ 4) (hn : n ≤ 10000) (hr : r ≤ 100) (h : n < (r + 1) * (r + 1)) : Ev (fun q => norm_squares.f q (n : Int) ((k + 1 : Nat) : Int) (r : Int)) ((sq (k + 1) n 100).getD []) := by
  unfold norm_squares.f
  refine Ev.neg (by omega) ?_
  have := sqN_ev (k + 1) hk n r hn hr
  rw [sq_bound k n r 100 h (by omega)] at this
  exact Ev.bind this (Ev.now _)
theorem Four_ev (n : Nat) (hn : n ≤ 10000) : Ev (fun k => norm_Four.f k (n : Int)) ((sq 4 n 100).getD [], 0) := by
  unfold norm_Four.f
  obtain ⟨r, h0, h1, h2⟩ := root_ev n hn
  refine Ev.bindc (counted_yes _ 0 (by omega) (by omega)) (Ev.pos rfl (Ev.bind h2 ?_))
  exact Ev.bind (squares_ev 3 n r (by omega) hn h0 h1) (Ev.now _)
end Go.Proofs.Ytgfnmimfoicmmaa.Pure
