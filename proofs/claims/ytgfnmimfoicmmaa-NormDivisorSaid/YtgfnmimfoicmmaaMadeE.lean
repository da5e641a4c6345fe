/- made: an integral quaternion of small coordinates. -/
import Derived.Test.YtgfnmimfoicmmaaPMx31
import Derived.Test.YtgfnmimfoicmmaaQuatF
set_option linter.unusedVariables false
set_option linter.unusedSimpArgs false
namespace Go.Proofs.Ytgfnmimfoicmmaa.Pure
open Go.RowKit Go.Proofs.Ytgfnmimfoicmmaa.PM Go.Proofs.YtgfnmimfoicmmaaW.PrintWords Go.Proofs.YtgfnmimfoicmmaaW.PrintLast

theorem tmod_small (x m : Int) (hm : 0 < m) : -m < Int.tmod x m ∧ Int.tmod x m < m := by
  rcases Int.le_total 0 x with h | h
  · rw [Int.tmod_eq_emod_of_nonneg h]
    have := Int.emod_nonneg x (show m ≠ 0 by omega)
    have := Int.emod_lt_of_pos x hm
    omega
  · have e : Int.tmod x m = -Int.tmod (-x) m := by rw [Int.neg_tmod, Int.neg_neg]
    rw [e, Int.tmod_eq_emod_of_nonneg (by omega)]
    have := Int.emod_nonneg (-x) (show m ≠ 0 by omega)
    have := Int.emod_lt_of_pos (-x) hm
    omega
/-- One coordinate of what made makes. -/
def mk (M x x0 : Int) : Int := if Int.tmod x (M + 1) % 2 = x0 % 2 then Int.tmod x (M + 1) else if Int.tmod x (M + 1) - 1 < -M then Int.tmod x (M + 1) + 1 else Int.tmod x (M + 1) - 1
theorem mk_ok {M : Int} (hM : 0 < M) (x x0 : Int) : (-M ≤ mk M x x0 ∧ mk M x x0 ≤ M) ∧ mk M x x0 % 2 = x0 % 2 := by
  have ht := tmod_small x (M + 1) (by omega)
  unfold mk
  generalize Int.tmod x (M + 1) = v at *
  split
  · omega
  · split <;> omega
theorem made_one {α : Type} {M x x0 : Int} {l : List Int} {f : Nat → List Int → Option α} {r : α} (hM : 0 < M) (hM2 : M ≤ 1000) (hx : -32768 ≤ x ∧ x ≤ 32767) (hx0 : -32768 ≤ x0 ∧ x0 ≤ 32767) (hl : l.length ≤ 10)
    (hf : Ev (fun k => f k (l ++ [mk M x x0])) r) :
    Ev (fun k => (if (wrap64 (M + 1)) = 0 then (none) else (if (Go.bits .and .i64 (Int.tmod (wrap64 (x)) (wrap64 (M + 1))) 1) = (Go.bits .and .i64 (wrap64 (x0)) 1) then (if l.length < 17592186044416 then (f k (l ++ [Int.tmod (wrap64 (x)) (wrap64 (M + 1))])) else (none)) else (if (wrap64 ((Int.tmod (wrap64 (x)) (wrap64 (M + 1))) - 1)) < (wrap64 (-M)) then (if l.length < 17592186044416 then (f k (l ++ [wrap64 ((wrap64 ((Int.tmod (wrap64 (x)) (wrap64 (M + 1))) - 1)) + 2)])) else (none)) else (if l.length < 17592186044416 then (f k (l ++ [wrap64 ((Int.tmod (wrap64 (x)) (wrap64 (M + 1))) - 1)])) else (none)))))) r := by
  rw [wrap_id (x := M + 1) (by omega) (by omega), wrap_id (x := x) (by omega) (by omega), wrap_id (x := x0) (by omega) (by omega), wrap_id (x := -M) (by omega) (by omega)]
  have ht := tmod_small x (M + 1) (by omega)
  unfold mk at hf
  generalize Int.tmod x (M + 1) = v at *
  simp only [bit1]
  by_cases hp : v % 2 = x0 % 2
  · rw [if_pos hp] at hf
    exact Ev.neg (by omega) (Ev.pos hp (Ev.pos (by omega) hf))
  · rw [if_neg hp] at hf
    rw [wrap_id (x := v - 1) (by omega) (by omega), wrap_id (x := v - 1 + 2) (by omega) (by omega), show v - 1 + 2 = v + 1 by omega]
    by_cases hlt : v - 1 < -M
    · rw [if_pos hlt] at hf
      exact Ev.neg (by omega) (Ev.neg hp (Ev.pos hlt (Ev.pos (by omega) hf)))
    · rw [if_neg hlt] at hf
      exact Ev.neg (by omega) (Ev.neg hp (Ev.neg hlt (Ev.pos (by omega) hf)))
theorem made_ev {M a b c d : Int} (hM : 0 < M) (hM2 : M ≤ 1000) (ha : -32768 ≤ a ∧ a ≤ 32767) (hb : -32768 ≤ b ∧ b ≤ 32767) (hc : -32768 ≤ c ∧ c ≤ 32767) (hd : -32768 ≤ d ∧ d ≤ 32767) :
    Ev (fun k => bellpulllaw04_made.f k a b c d M) (mk M a a, mk M b a, mk M c a, mk M d a) := by
  have o0 := mk_ok hM a a; have o1 := mk_ok hM b a; have o2 := mk_ok hM c a; have o3 := mk_ok hM d a
  have hk : chk [⟨mk M a a, mk M b a, mk M c a, mk M d a⟩] = 0 := chk1_ok (by unfold itg; omega) (by unfold rng; omega)
  unfold bellpulllaw04_made.f
  refine Ev.succ ?_
  simp only [bellpulllaw04_made.l0]
  refine Ev.pos (by omega) (Ev.pos trivial (made_one (f := fun k l => bellpulllaw04_made.l0 k M l 1 a b c d) hM hM2 ha ha (by simp) (Ev.succ ?_)))
  simp only [bellpulllaw04_made.l0]
  refine Ev.pos (by omega) (Ev.neg (by omega) (Ev.pos trivial (made_one (f := fun k l => bellpulllaw04_made.l0 k M l 2 a b c d) hM hM2 hb ha (by simp) (Ev.succ ?_))))
  simp only [bellpulllaw04_made.l0]
  refine Ev.pos (by omega) (Ev.neg (by omega) (Ev.neg (by omega) (Ev.pos trivial (made_one (f := fun k l => bellpulllaw04_made.l0 k M l 3 a b c d) hM hM2 hc ha (by simp) (Ev.succ ?_)))))
  simp only [bellpulllaw04_made.l0]
  refine Ev.pos (by omega) (Ev.neg (by omega) (Ev.neg (by omega) (Ev.neg (by omega) (Ev.pos trivial (made_one (f := fun k l => bellpulllaw04_made.l0 k M l 4 a b c d) hM hM2 hd ha (by simp) (Ev.succ ?_))))))
  simp only [bellpulllaw04_made.l0]
  refine Ev.neg (by omega) (Ev.bindc (x := (mk M a a, mk M b a, mk M c a, mk M d a)) rfl ?_)
  exact Ev.bind (refCheck_ev _ (by simp)) (Ev.pos hk (Ev.now _))
end Go.Proofs.Ytgfnmimfoicmmaa.Pure
