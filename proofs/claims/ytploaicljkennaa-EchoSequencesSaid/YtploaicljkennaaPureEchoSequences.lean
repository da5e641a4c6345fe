/- EchoSequences: for all numbers the law returns true; no condition. -/
import Derived.Test.YtploaicljkennaaPEx8
import Derived.Test.YtploaicljkennaaGolS
import Derived.Test.YtploaicljkennaaWordS
set_option linter.unusedVariables false
set_option linter.unusedSimpArgs false
namespace Go.Proofs.Ytploaicljkennaa.Pure
open Go.RowKit Go.Proofs.YtploaicljkennaaW.PrintWords Go.Proofs.Ytploaicljkennaa.PE
theorem seq_ones (l : List Int) (hl : l.length ≤ 100000) (n o : Int) (ho : n ≤ l.length → o = (onesS l : Nat)) : ∀ (d i c : Nat), l.length - i = d → i ≤ l.length → c ≤ i → c + onesS (l.drop i) = onesS l →
    Ev (fun k => bellpulllaw02_EchoSequences.l0 k n o (l.length : Int) (c : Int) l (i : Int)) true := by
  intro d
  induction d with
  | zero =>
    intro i c hd hi hc he
    obtain rfl : i = l.length := by omega
    rw [List.drop_length] at he
    have he' : c = onesS l := by simpa [onesS] using he
    refine Ev.succ ?_
    simp only [bellpulllaw02_EchoSequences.l0]
    refine Ev.neg (by omega) ?_
    by_cases hn : n > (l.length : Int)
    · exact Ev.pos hn (Ev.now _)
    · refine Ev.neg hn ?_
      rw [ho (by omega), he', beq_self_eq_true]
      exact Ev.now _
  | succ d ih =>
    intro i c hd hi hc he
    have hlt : i < l.length := by omega
    have c0 : (i : Int) < (l.length : Int) ∧ (0 : Int) ≤ i := by omega
    rw [ones_drop l i hlt] at he
    have n1 : l[i] = 1 → Ev (fun k => bellpulllaw02_EchoSequences.l0 k n o (l.length : Int) ((c + 1 : Nat) : Int) l ((i + 1 : Nat) : Int)) true := fun h1 => by
      rw [if_pos h1] at he
      exact ih (i + 1) (c + 1) (by omega) (by omega) (by omega) (by omega)
    have n2 : ¬ l[i] = 1 → Ev (fun k => bellpulllaw02_EchoSequences.l0 k n o (l.length : Int) (c : Int) l ((i + 1 : Nat) : Int)) true := fun h1 => by
      rw [if_neg h1] at he
      exact ih (i + 1) c (by omega) (by omega) (by omega) (by omega)
    have hr := rd_nat l i hlt
    have hw1 : wrap64 ((i : Int) + 1) = ((i + 1 : Nat) : Int) := by rw [wrap_id] <;> omega
    have hw2 : wrap64 ((c : Int) + 1) = ((c + 1 : Nat) : Int) := by clear hw1; rw [wrap_id] <;> omega
    refine Ev.succ ?_
    simp only [bellpulllaw02_EchoSequences.l0, hr, hw1, hw2]
    refine Ev.pos c0.1 (Ev.pos c0.2 (Ev.pos c0.1 ?_))
    by_cases h1 : l[i] = 1
    · exact Ev.pos h1 (n1 h1)
    · exact Ev.neg h1 (n2 h1)
theorem seq_j2 (n m : Nat) (hn : n ≤ 100000) (hm : m = min n 3000) : Ev (fun k => bellpulllaw02_EchoSequences.j2 k (n : Int) ((onesS (kolS 1 2 n) : Nat) : Int) (m : Int) false) true := by
  have hl := kolS_length n12 m
  refine Ev.succ ?_
  simp only [bellpulllaw02_EchoSequences.j2]
  refine Ev.neg (by simp) (Ev.bind (ref_Kolakoski_ev n12 m (by omega)) ?_)
  have := seq_ones (kolS 1 2 m) (by omega) (n : Int) ((onesS (kolS 1 2 n) : Nat) : Int) (by
    intro h
    have e : m = n := by omega
    rw [e]) _ 0 0 rfl (Nat.zero_le _) (Nat.le_refl _) (by simp)
  rw [hl] at this
  exact this
theorem mn3000 (n : Nat) : mn (n : Int) 3000 = ((min n 3000 : Nat) : Int) := by rw [mn_eq]; omega
theorem seq_j1_pair {a b : Int} (h : Nums a b) (n : Nat) (hn : n ≤ 100000) : Ev (fun k => bellpulllaw02_EchoSequences.j1 k a b (n : Int) (kolS a b n) (golS n) ((onesS (kolS 1 2 n) : Nat) : Int) true false) true := by
  have hl1 := kolS_length h n
  have hl2 := golS_length n
  have c : min n 3000 ≤ n ∧ min n 3000 ≤ 100000 ∧ (0 : Int) ≤ ((min n 3000 : Nat) : Int) ∧ ((min n 3000 : Nat) : Int) ≤ (n : Int) := by omega
  refine Ev.succ ?_
  simp only [bellpulllaw02_EchoSequences.j1, mn3000, Int.toNat_natCast, kolS_take h c.1, golS_take c.1]
  refine Ev.neg (by simp) (Ev.pos trivial (Ev.pos c.2.2.1 (Ev.pos (by rw [hl1]; exact c.2.2.2) ?_)))
  refine Ev.bind (ref_Kolakoski_ev h _ c.2.1) (Ev.bind (Same_self _ (by unfold Fits; rw [kolS_length h]; omega)) (Ev.pos rfl (Ev.pos (by rw [hl2]; exact c.2.2.2) ?_)))
  exact Ev.bind (ref_Golomb_ev _ c.2.1) (Ev.bind (Same_self _ (by unfold Fits; rw [golS_length]; omega)) (seq_j2 n _ hn rfl))
theorem seq_j1_no {a b : Int} (l : List Int) (n : Nat) (hn : n ≤ 100000) : Ev (fun k => bellpulllaw02_EchoSequences.j1 k a b (n : Int) l (golS n) ((onesS (kolS 1 2 n) : Nat) : Int) false false) true := by
  have hl2 := golS_length n
  have c : min n 3000 ≤ n ∧ min n 3000 ≤ 100000 ∧ (0 : Int) ≤ ((min n 3000 : Nat) : Int) ∧ ((min n 3000 : Nat) : Int) ≤ (n : Int) := by omega
  refine Ev.succ ?_
  simp only [bellpulllaw02_EchoSequences.j1, mn3000, Int.toNat_natCast, golS_take c.1]
  refine Ev.neg (by simp) (Ev.neg (by simp) (Ev.pos c.2.2.1 (Ev.pos (by rw [hl2]; exact c.2.2.2) ?_)))
  exact Ev.bind (ref_Golomb_ev _ c.2.1) (Ev.bind (Same_self _ (by unfold Fits; rw [golS_length]; omega)) (seq_j2 n _ hn rfl))
theorem EchoSequences_ev (a b n : Int) : Ev (fun k => bellpulllaw02_EchoSequences.f k a b n) true := by
  unfold bellpulllaw02_EchoSequences.f
  by_cases hn : 0 ≤ n ∧ n ≤ 100000
  · obtain ⟨n, rfl⟩ := Int.eq_ofNat_of_zero_le hn.1
    have hn' : n ≤ 100000 := by omega
    have hl2 := golS_length n
    have fin0 : Ev (fun k => (bellpulllaw02_lives.f k).bind fun t349 => bellpulllaw02_EchoSequences.j1 k a b (n : Int) [] (golS n) ((onesS (kolS 1 2 n) : Nat) : Int) false (!t349)) true := Ev.bind lives_ev (seq_j1_no [] n hn')
    by_cases hp : a ≠ b ∧ (1 ≤ a ∧ a ≤ 9) ∧ (1 ≤ b ∧ b ≤ 9)
    · have h : Nums a b := ⟨hp.2.1.1, hp.2.1.2, hp.2.2.1, hp.2.2.2⟩
      have hl1 := kolS_length h n
      refine Ev.bind (echo_Kolakoski_good h hp.1 n hn') (Ev.bind (echo_Golomb_good n hn') (Ev.bind (echo_Ones_good n hn') (Ev.bindc (In_eq _ _ _) ?_)))
      refine Ev.pos (decide_eq_true hn) (Ev.neg hp.1 (Ev.bindc (In_eq _ _ _) (Ev.pos (decide_eq_true hp.2.1) (Ev.bindc (In_eq _ _ _) ?_))))
      rw [decide_eq_true hp.2.2]
      refine Ev.succ ?_
      simp only [bellpulllaw02_EchoSequences.j0]
      refine Ev.pos trivial (Ev.pos trivial (Ev.pos (by rw [hl2]) (Ev.pos trivial (Ev.pos trivial (Ev.pos (by rw [hl1]) ?_)))))
      exact Ev.bind lives_ev (seq_j1_pair h n hn')
    · refine Ev.bind (echo_Kolakoski_bad (by omega)) (Ev.bind (echo_Golomb_good n hn') (Ev.bind (echo_Ones_good n hn') (Ev.bindc (In_eq _ _ _) ?_)))
      refine Ev.pos (decide_eq_true hn) ?_
      have last : Ev (fun k => bellpulllaw02_EchoSequences.j0 k a b (n : Int) [] 1 (golS n) 0 ((onesS (kolS 1 2 n) : Nat) : Int) 0 false) true := by
        refine Ev.succ ?_
        simp only [bellpulllaw02_EchoSequences.j0]
        refine Ev.pos trivial (Ev.pos trivial (Ev.pos (by rw [hl2]) (Ev.neg (by simp) (Ev.pos trivial (Ev.pos (by simp) fin0)))))
      by_cases h1 : a = b
      · exact Ev.pos h1 last
      · refine Ev.neg h1 (Ev.bindc (In_eq _ _ _) ?_)
        by_cases h2 : 1 ≤ a ∧ a ≤ 9
        · refine Ev.pos (decide_eq_true h2) (Ev.bindc (In_eq _ _ _) ?_)
          rw [decide_eq_false (fun h3 => hp ⟨h1, h2, h3⟩)]
          exact last
        · exact Ev.neg (by simpa using h2) last
  · refine Ev.bind (echo_Kolakoski_bad (by omega)) (Ev.bind (echo_Golomb_bad hn) (Ev.bind (echo_Ones_bad hn) (Ev.bindc (In_eq _ _ _) ?_)))
    refine Ev.neg (by simpa using hn) (Ev.pos (by rw [wrap_id] <;> simp) (Ev.pos rfl (Ev.pos rfl (Ev.pos rfl (Ev.pos rfl (Ev.bind lives_ev (Ev.now _)))))))
theorem EchoSequences : bellpulllaw02_EchoSequences.Pure := fun a b n _ _ _ => (EchoSequences_ev a b n).rounds
end Go.Proofs.Ytploaicljkennaa.Pure
