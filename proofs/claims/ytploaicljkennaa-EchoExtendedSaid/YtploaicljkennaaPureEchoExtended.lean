/- EchoExtended: for every slice of bytes the law returns true; no condition beside the form's own reach. -/
import Derived.Test.YtploaicljkennaaPEx14
import Derived.Test.YtploaicljkennaaExtS
set_option linter.unusedVariables false
set_option linter.unusedSimpArgs false
namespace Go.Proofs.Ytploaicljkennaa.Pure
open Go.RowKit Go.Proofs.YtploaicljkennaaW.PrintWords Go.Proofs.Ytploaicljkennaa.PE
theorem Has_loop (l : List Int) (v : Int) (hl : l.length ≤ 100000) : ∀ (d i : Nat), l.length - i = d → i ≤ l.length → (∀ j, j < i → ∀ h : j < l.length, l[j] ≠ v) →
    Ev (fun k => bellpullref01_Has.l0 k l v (i : Int)) (decide (v ∈ l)) := by
  intro d
  induction d with
  | zero =>
    intro i hd hi hpre
    obtain rfl : i = l.length := by omega
    refine Ev.succ ?_
    simp only [bellpullref01_Has.l0]
    refine Ev.neg (by omega) ?_
    rw [decide_eq_false]
    · exact Ev.now _
    · intro hv
      obtain ⟨j, hj, e⟩ := List.getElem_of_mem hv
      exact hpre j hj hj e
  | succ d ih =>
    intro i hd hi hpre
    have hlt : i < l.length := by omega
    have c1 : (i : Int) < (l.length : Int) ∧ (0 : Int) ≤ i := by omega
    have q1 : l.length - (i + 1) = d := by omega
    have hr := rd_nat l i hlt
    have hw1 : wrap64 ((i : Int) + 1) = ((i + 1 : Nat) : Int) := by rw [wrap_id] <;> omega
    refine Ev.succ ?_
    simp only [bellpullref01_Has.l0, hr, hw1]
    refine Ev.pos c1.1 (Ev.pos c1.2 ?_)
    by_cases h : l[i] = v
    · refine Ev.pos h ?_
      rw [decide_eq_true (by rw [← h]; exact List.getElem_mem _)]
      exact Ev.now _
    · refine Ev.neg h (ih (i + 1) q1 hlt (fun j hj hjl => ?_))
      by_cases e : j = i
      · subst e; exact h
      · exact hpre j (by clear hw1 hr; omega) hjl
theorem Has_ev (l : List Int) (v : Int) (hl : l.length ≤ 100000) : Ev (fun k => bellpullref01_Has.f k l v) (decide (v ∈ l)) :=
  Has_loop l v hl _ 0 rfl (Nat.zero_le _) (fun j hj => absurd hj (by omega))
theorem ext_mem (l : List Int) (x : Int) (hx : x = 1 ∨ x = 2) : x ∈ extS l ↔ smoothS (l ++ [x]) = true := by
  unfold extS
  rcases hx with rfl | rfl
  · by_cases h1 : smoothS (l ++ [1]) = true <;> by_cases h2 : smoothS (l ++ [2]) = true <;> simp [h1, h2]
  · by_cases h1 : smoothS (l ++ [1]) = true <;> by_cases h2 : smoothS (l ++ [2]) = true <;> simp [h1, h2]
theorem ext_round (t : List Int) (hl : t.length ≤ 80) (hw : Word12 t) (x : Nat) (hx : x = 1 ∨ x = 2)
    (h : Ev (fun k => bellpulllaw02_EchoExtended.l0 k t (extS t) ((x + 1 : Nat) : Int)) true) : Ev (fun k => bellpulllaw02_EchoExtended.l0 k t (extS t) (x : Int)) true := by
  have hlen : (extS t).length ≤ 100000 := by unfold extS; split <;> split <;> simp
  have hxi : (x : Int) = 1 ∨ (x : Int) = 2 := by omega
  have hc := check12 (word_snoc hw hxi) (by rw [List.length_append, List.length_singleton]; omega)
  have hf : Fits (t ++ [(x : Int)]) := by unfold Fits; rw [List.length_append, List.length_singleton]; omega
  have c1 : (x : Int) ≤ 2 ∧ t.length < 17592186044416 := by omega
  have hw1 : wrap64 ((x : Int) + 1) = ((x + 1 : Nat) : Int) := by rw [wrap_id] <;> omega
  refine Ev.succ ?_
  simp only [bellpulllaw02_EchoExtended.l0, hw1, Option.bind_some, List.nil_append, List.length_nil, Nat.zero_add]
  refine Ev.pos c1.1 (Ev.pos c1.2 (Ev.pos c1.2 (Ev.bind (echo_Smooth_ev _ hf) ?_)))
  simp only [if_pos hc]
  refine Ev.pos trivial (Ev.bind (Has_ev _ _ hlen) ?_)
  by_cases hs : smoothS (t ++ [(x : Int)]) = true
  · have hm := (ext_mem t x hxi).2 hs
    exact Ev.pos hs (Ev.pos (decide_eq_true hm) h)
  · have hm := fun e => hs ((ext_mem t x hxi).1 e)
    exact Ev.neg hs (Ev.neg (by simpa using hm) h)
theorem EchoExtended_ev (z : List Int) (t : List Int) (hz : Ev (fun k => bellpulllaw02_smooth.f k z 80) t) (hl : t.length ≤ 80) (hw : Word12 t) (hs : smoothS t = true) : Ev (fun k => bellpulllaw02_EchoExtended.f k z) true := by
  unfold bellpulllaw02_EchoExtended.f
  have hc := check12 hw (by omega)
  refine Ev.bind hz (Ev.bind (echo_Extend_good t (by omega) hc) ?_)
  have hext := smooth_extend t.length t (Nat.le_refl _) hw hs
  have hlen : 1 ≤ (extS t).length ∧ (extS t).length ≤ 2 := by
    unfold extS
    rcases hext with h | h
    · rw [if_pos h]; split <;> simp
    · rw [if_pos h]; split <;> simp
  refine Ev.pos rfl (Ev.neg (show ¬ ((extS t).length : Int) < 1 by omega) (Ev.neg (show ¬ ((extS t).length : Int) > 2 by omega) (Ev.bind lives_ev ?_)))
  refine Ev.succ ?_
  simp only [bellpulllaw02_EchoExtended.j0]
  refine Ev.neg (by simp) ?_
  refine ext_round t hl hw 1 (.inl rfl) (ext_round t hl hw 2 (.inr rfl) (Ev.succ ?_))
  simp only [bellpulllaw02_EchoExtended.l0]
  exact Ev.neg (by omega) (Ev.now _)
theorem EchoExtended : bellpulllaw02_EchoExtended.Pure := by
  intro z _ hz hw
  obtain ⟨t, ht, h1, h2, h3⟩ := law_smooth z hz hw 80 (by omega)
  exact (EchoExtended_ev z t ht h1 h2 h3).rounds
end Go.Proofs.Ytploaicljkennaa.Pure
