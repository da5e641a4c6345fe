/- What is asked of a word: the program's check, the reference's Word; the laws' cut; the document's examples. -/
import Derived.Test.YtploaicljkennaaPEx4
import Derived.Test.YtploaicljkennaaDerivS
set_option linter.unusedVariables false
set_option linter.unusedSimpArgs false
namespace Go.Proofs.Ytploaicljkennaa.Pure
open Go.RowKit Go.Proofs.YtploaicljkennaaW.PrintWords Go.Proofs.Ytploaicljkennaa.PE

theorem lives_ev : Ev (fun k => bellpulllaw02_lives.f k) true :=
  Ev.of (fun k => bellpulllaw02_lives.mono k) (k := 200) (by decide +kernel)

theorem In_eq (v a b : Int) : bellpullref01_In.f v a b = some (decide (a ≤ v ∧ v ≤ b)) := by
  unfold bellpullref01_In.f
  by_cases h : v ≥ a
  · rw [if_pos h]; congr 1; rw [Bool.eq_iff_iff]; simp; omega
  · rw [if_neg h]; congr 1; symm; simp; omega

theorem Word_loop (l : List Int) (m : Int) (hl : Fits l) : ∀ (d i : Nat), l.length - i = d → i ≤ l.length → (∀ j, j < i → ∀ h : j < l.length, ¬ (l[j] < 1 ∨ m < l[j])) →
    Ev (fun k => bellpullref02_Word.l0 k l m (i : Int)) (if l.any (fun x => decide (x < 1) || decide (m < x)) = true then 2 else 0) := by
  unfold Fits at hl
  intro d
  induction d with
  | zero =>
    intro i hd hi hpre
    obtain rfl : i = l.length := by omega
    refine Ev.succ ?_
    simp only [bellpullref02_Word.l0]
    refine Ev.neg (by omega) ?_
    rw [if_neg]
    · exact Ev.now _
    · simp only [List.any_eq_true, not_exists, not_and, Bool.or_eq_true, decide_eq_true_eq]
      intro x hx
      obtain ⟨j, hj, rfl⟩ := List.getElem_of_mem hx
      exact hpre j hj hj
  | succ d ih =>
    intro i hd hi hpre
    refine Ev.succ ?_
    have hr := rd_nat l i (by omega)
    have hw : wrap64 ((i : Int) + 1) = ((i + 1 : Nat) : Int) := by rw [wrap_id] <;> omega
    simp only [bellpullref02_Word.l0, hr, hw]
    refine Ev.pos (by omega) (Ev.pos (by omega) (Ev.bindc (In_eq _ _ _) ?_))
    by_cases h2 : 1 ≤ l[i] ∧ l[i] ≤ m
    · refine Ev.pos (decide_eq_true h2) ?_
      refine ih (i + 1) (by omega) (by omega) (fun j hj h => ?_)
      by_cases e : j = i
      · subst e; omega
      · exact hpre j (by omega) h
    · refine Ev.neg (by simpa using h2) ?_
      rw [if_pos]
      · exact Ev.now _
      · refine List.any_eq_true.2 ⟨l[i], List.getElem_mem _, ?_⟩
        simp only [Bool.or_eq_true, decide_eq_true_eq]; omega
theorem ref_Word_ev (l : List Int) (m : Int) (hl : Fits l) : Ev (fun k => bellpullref02_Word.f k l m) (checkS l m) := by
  unfold bellpullref02_Word.f checkS
  by_cases h : (l.length : Int) > 200
  · rw [if_pos h]; exact Ev.pos h (Ev.now _)
  · rw [if_neg h]; exact Ev.neg h (Word_loop l m hl _ 0 rfl (Nat.zero_le _) (fun j hj => absurd hj (by omega)))

def cutS (l : List Int) : List Int := l.take 201
theorem cut_eq (l : List Int) : bellpulllaw02_cut.f l = some (cutS l) := by
  have hm : mn (l.length : Int) 201 = min (l.length : Int) 201 := by unfold mn; omega
  have ht : l.take (min (l.length : Int) 201).toNat = l.take 201 := by
    by_cases h : l.length ≤ 201
    · rw [show (min (l.length : Int) 201).toNat = l.length by omega, List.take_length, List.take_of_length_le h]
    · rw [show (min (l.length : Int) 201).toNat = 201 by omega]
  unfold bellpulllaw02_cut.f
  simp only [hm, ht, Option.bind_some, List.nil_append, List.length_nil, Nat.zero_add]
  rw [if_pos (by omega), if_pos (by omega), if_pos (by rw [List.length_take]; omega)]
  rfl
theorem cut_fits (l : List Int) : Fits (cutS l) := by unfold Fits cutS; rw [List.length_take]; omega

theorem echo_Runs_ev (l : List Int) (hl : Fits l) : Ev (fun k => echo_Runs.f k l) (if checkS l 9 = 0 then (runsS l, 0) else ([], checkS l 9)) := by
  unfold echo_Runs.f
  refine Ev.bindc (echo_check_eq l 9) ?_
  by_cases h : checkS l 9 = 0
  · rw [if_pos h]
    exact Ev.pos h (Ev.bind (echo_runs_ev l hl) (Ev.now _))
  · rw [if_neg h]
    exact Ev.neg h (Ev.now _)

theorem EchoRuns_ev (l : List Int) : Ev (fun k => bellpulllaw02_EchoRuns.f k l) true := by
  unfold bellpulllaw02_EchoRuns.f
  refine Ev.bindc (cut_eq l) ?_
  have hf := cut_fits l
  generalize cutS l = t at *
  refine Ev.bind (echo_Runs_ev t hf) (Ev.bind (ref_Word_ev t 9 hf) ?_)
  by_cases h : checkS t 9 = 0
  · simp only [if_pos h]
    refine Ev.bind (ref_Runs_ev t hf) (Ev.bind (Same_self _ hf.runs) ?_)
    exact Ev.pos rfl (Ev.pos trivial (Ev.bind lives_ev (Ev.now _)))
  · simp only [if_neg h]
    exact Ev.pos (by simp) (Ev.pos trivial (Ev.bind lives_ev (Ev.now _)))

end Go.Proofs.Ytploaicljkennaa.Pure
