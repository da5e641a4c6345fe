/- EchoDerivatives: for every slice of numbers the law returns true; no condition beside the form's own reach. -/
import Derived.Test.YtploaicljkennaaPEx13
import Derived.Test.YtploaicljkennaaExtS
set_option linter.unusedVariables false
set_option linter.unusedSimpArgs false
namespace Go.Proofs.Ytploaicljkennaa.Pure
open Go.RowKit Go.Proofs.YtploaicljkennaaW.PrintWords Go.Proofs.Ytploaicljkennaa.PE
theorem der_round (t ext out : List Int) (hl : t.length < 200) (ho : out.length ≤ 10) (x : Nat) (hx : x = 1 ∨ x = 2) (r : Bool)
    (h : Ev (fun k => bellpulllaw02_EchoDerivatives.l0 k t ext 0 (out ++ if smoothS (t ++ [(x : Int)]) = true then [(x : Int)] else []) ((x + 1 : Nat) : Int)) r) : Ev (fun k => bellpulllaw02_EchoDerivatives.l0 k t ext 0 out (x : Int)) r := by
  have hf : Fits (t ++ [(x : Int)]) := by unfold Fits; rw [List.length_append, List.length_singleton]; omega
  have c1 : (x : Int) ≤ 2 ∧ t.length < 17592186044416 ∧ out.length < 17592186044416 := by omega
  have hw1 : wrap64 ((x : Int) + 1) = ((x + 1 : Nat) : Int) := by rw [wrap_id] <;> omega
  refine Ev.succ ?_
  simp only [bellpulllaw02_EchoDerivatives.l0, hw1, Option.bind_some, List.nil_append, List.length_nil, Nat.zero_add]
  refine Ev.pos c1.1 (Ev.pos c1.2.1 (Ev.pos c1.2.1 (Ev.bind (ref_Height_ev _ hf) ?_)))
  by_cases hs : smoothS (t ++ [(x : Int)]) = true
  · rw [if_pos hs] at h
    exact Ev.pos ((heightI_smooth _).2 hs) (Ev.pos c1.2.2 h)
  · rw [if_neg hs, List.append_nil] at h
    exact Ev.neg (fun e => hs ((heightI_smooth _).1 e)) h
theorem der_last (t : List Int) (hl : t.length < 200) : Ev (fun k => bellpulllaw02_EchoDerivatives.l0 k t (extS t) 0 [] 1) true := by
  have hf : Fits (extS t) := by unfold Fits extS; split <;> split <;> simp
  refine der_round t (extS t) [] hl (by simp) 1 (.inl rfl) true (der_round t (extS t) _ hl (by split <;> simp) 2 (.inr rfl) true (Ev.succ ?_))
  simp only [bellpulllaw02_EchoDerivatives.l0]
  refine Ev.neg (by omega) ?_
  have e : ([] ++ if smoothS (t ++ [((1 : Nat) : Int)]) = true then [((1 : Nat) : Int)] else []) ++ (if smoothS (t ++ [((2 : Nat) : Int)]) = true then [((2 : Nat) : Int)] else []) = extS t := rfl
  rw [e]
  exact Ev.bind (Same_self _ hf) (Ev.pos rfl (Ev.now _))
theorem der_good (t : List Int) (m : Int) (he : m = if t.length < 200 then 0 else 3) (hc : checkS t 2 = 0) (hl : t.length ≤ 201) (ext : List Int) (hx : t.length < 200 → ext = extS t) (e2 : Int) (he2 : t.length < 200 → e2 = 0) :
    Ev (fun k => bellpulllaw02_EchoDerivatives.j2 k t ext e2 m false) true := by
  refine Ev.succ ?_
  simp only [bellpulllaw02_EchoDerivatives.j2]
  refine Ev.neg (by simp) ?_
  by_cases h : t.length < 200
  · rw [if_pos h] at he
    rw [hx h, he2 h]
    exact Ev.pos he (der_last t h)
  · rw [if_neg h] at he
    exact Ev.neg (by omega) (Ev.now _)
theorem der_mid (t : List Int) (hl : t.length ≤ 201) (m : Int) (ext : List Int) (e2 : Int) (he : checkS t 2 = 0 → m = if t.length < 200 then 0 else 3)
    (hx : checkS t 2 = 0 → t.length < 200 → ext = extS t) (he2 : checkS t 2 = 0 → t.length < 200 → e2 = 0) :
    Ev (fun k => bellpulllaw02_EchoDerivatives.j1 k t (if checkS t 2 = 0 then (if bad t = true then ([], 5) else (D t, 0)) else ([], checkS t 2)).1 (if checkS t 2 = 0 then (if bad t = true then (([] : List Int), (5 : Int)) else (D t, 0)) else ([], checkS t 2)).2
      (if checkS t 2 = 0 then (smoothS t, (0 : Int)) else (false, checkS t 2)).1 (if checkS t 2 = 0 then (smoothS t, (0 : Int)) else (false, checkS t 2)).2
      (if checkS t 2 = 0 then (match heightS t with | some h => ((h : Int), (0 : Int)) | none => (0, 5)) else (0, checkS t 2)).1 (if checkS t 2 = 0 then (match heightS t with | some h => ((h : Int), (0 : Int)) | none => (0, 5)) else (0, checkS t 2)).2
      ext e2 (checkS t 2) m false) true := by
  have hf : Fits t := by unfold Fits; omega
  refine Ev.succ ?_
  simp only [bellpulllaw02_EchoDerivatives.j1]
  refine Ev.neg (by simp) ?_
  by_cases hc : checkS t 2 = 0
  · simp only [if_pos hc]
    have fin := der_good t m (he hc) hc hl ext (hx hc) e2 (he2 hc)
    try refine Ev.pos hc ?_
    refine Ev.bind (ref_Derivative_ev t hf) ?_
    refine Ev.bind (ref_Height_ev t hf) ?_
    have hfin : Ev (fun k => (bellpulllaw02_lives.f k).bind fun t608 => bellpulllaw02_EchoDerivatives.j2 k t ext e2 m (!t608)) true := Ev.bind lives_ev fin
    have rest : ∀ (hs : smoothS t = true) , ∃ q : Nat, heightS t = some q ∧ heightI t = (q : Int) := by
      intro hs
      obtain ⟨q, hq⟩ := Option.isSome_iff_exists.1 hs
      exact ⟨q, hq, by unfold heightI; rw [hq]⟩
    have rest2 : ¬ smoothS t = true → heightS t = none ∧ heightI t = -1 := by
      intro hs
      have : heightS t = none := by
        unfold smoothS at hs
        rcases e : heightS t with _ | q
        · rfl
        · rw [e] at hs; simp at hs
      exact ⟨this, by unfold heightI; rw [this]⟩
    unfold derivS
    by_cases hb : bad t = true
    · simp only [if_pos hb]
      refine Ev.neg (by simp) (Ev.pos rfl (Ev.pos trivial ?_))
      have hs : ¬ smoothS t = true := by
        intro hs
        by_cases hn : t = []
        · subst hn; exact absurd hb (by decide +kernel)
        · have := ((smooth_iff hn).1 hs).1; rw [this] at hb; cases hb
      obtain ⟨h1, h2⟩ := rest2 hs
      rw [h1, h2]
      refine Ev.neg hs (Ev.neg (by omega) (Ev.pos trivial (Ev.pos (by omega) (Ev.pos rfl (Ev.pos rfl hfin)))))
    · simp only [if_neg hb]
      refine Ev.pos trivial (Ev.bind (Same_self _ hf.D) (Ev.pos rfl (Ev.pos trivial ?_)))
      by_cases hs : smoothS t = true
      · obtain ⟨q, h1, h2⟩ := rest hs
        rw [h1, h2]
        refine Ev.pos hs (Ev.pos (by omega) (Ev.pos trivial (Ev.pos rfl (Ev.pos rfl (Ev.neg (by omega) hfin)))))
      · obtain ⟨h1, h2⟩ := rest2 hs
        rw [h1, h2]
        refine Ev.neg hs (Ev.neg (by omega) (Ev.pos trivial (Ev.pos (by omega) (Ev.pos rfl (Ev.pos rfl hfin)))))
  · simp only [if_neg hc]
    refine Ev.pos rfl (Ev.neg (by simp) (Ev.pos trivial (Ev.pos trivial (Ev.pos trivial (Ev.pos trivial (Ev.bind lives_ev (Ev.now _)))))))
theorem EchoDerivatives_ev (l : List Int) : Ev (fun k => bellpulllaw02_EchoDerivatives.f k l) true := by
  unfold bellpulllaw02_EchoDerivatives.f
  refine Ev.bindc (cut_eq l) ?_
  have hf := cut_fits l
  have hl : (cutS l).length ≤ 201 := by unfold cutS; rw [List.length_take]; omega
  generalize cutS l = t at *
  by_cases hg : t.length < 200 ∧ checkS t 2 = 0
  · refine Ev.bind (echo_Derivative_ev t hf) (Ev.bind (echo_Smooth_ev t hf) (Ev.bind (echo_Height_ev t hf) (Ev.bind (echo_Extend_good t hg.1 hg.2) (Ev.bind (ref_Word_ev t 2 hf) ?_))))
    refine Ev.neg (by omega) (Ev.succ ?_)
    simp only [bellpulllaw02_EchoDerivatives.j0]
    refine Ev.pos hg.2 ?_
    exact der_mid t hl (checkS t 2) (extS t) 0 (fun h => by rw [if_pos hg.1]; exact hg.2) (fun _ _ => rfl) (fun _ _ => rfl)
  · refine Ev.bind (echo_Derivative_ev t hf) (Ev.bind (echo_Smooth_ev t hf) (Ev.bind (echo_Height_ev t hf) (Ev.bind (echo_Extend_bad t hg) (Ev.bind (ref_Word_ev t 2 hf) ?_))))
    by_cases h2 : t.length ≥ 200
    · rw [if_pos h2]
      refine Ev.pos (by omega) (Ev.succ ?_)
      simp only [bellpulllaw02_EchoDerivatives.j0]
      refine Ev.neg (by omega) (Ev.pos (by simp) ?_)
      exact der_mid t hl 3 [] 3 (fun h => by rw [if_neg (by omega)]) (fun _ h => absurd h (by omega)) (fun _ h => absurd h (by omega))
    · rw [if_neg h2]
      have hc : ¬ checkS t 2 = 0 := fun h => hg ⟨by omega, h⟩
      refine Ev.neg (by omega) (Ev.succ ?_)
      simp only [bellpulllaw02_EchoDerivatives.j0]
      refine Ev.neg hc (Ev.pos (by simp) ?_)
      have e : (checkS t 2 != checkS t 2) = false := by simp
      rw [e]
      exact der_mid t hl (checkS t 2) [] (checkS t 2) (fun h => absurd h hc) (fun h => absurd h hc) (fun h => absurd h hc)
theorem EchoDerivatives : bellpulllaw02_EchoDerivatives.Pure := fun l _ _ _ => (EchoDerivatives_ev l).rounds
end Go.Proofs.Ytploaicljkennaa.Pure
