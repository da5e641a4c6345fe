/- EchoDerived: for every slice of bytes the law returns true; no condition beside the form's own reach. -/
import Derived.Test.YtploaicljkennaaPEx12
import Derived.Test.YtploaicljkennaaSmoothS
set_option linter.unusedVariables false
set_option linter.unusedSimpArgs false
namespace Go.Proofs.Ytploaicljkennaa.Pure
open Go.RowKit Go.Proofs.YtploaicljkennaaW.PrintWords Go.Proofs.Ytploaicljkennaa.PE
theorem EchoDerived_ev (z : List Int) (t : List Int) (hz : Ev (fun k => bellpulllaw02_smooth.f k z 100) t) (hl : t.length ≤ 100) (hw : Word12 t) (hs : smoothS t = true) : Ev (fun k => bellpulllaw02_EchoDerived.f k z) true := by
  unfold bellpulllaw02_EchoDerived.f
  have hf : Fits t := by unfold Fits; omega
  have hc := check12 hw (by omega)
  refine Ev.bind hz (Ev.bind (echo_Derivative_ev t hf) (Ev.bind (echo_Height_ev t hf) ?_))
  simp only [if_pos hc]
  have hb : bad t = false := by
    by_cases hn : t = []
    · subst hn; rfl
    · exact ((smooth_iff hn).1 hs).1
  have hDs : smoothS (D t) = true := by
    by_cases hn : t = []
    · subst hn; rfl
    · exact ((smooth_iff hn).1 hs).2
  have hDl := D_length_le t
  have hDf : Fits (D t) := hf.D
  have hDw := D_word hb
  have hDc := check12 hDw (by omega)
  have hb' : ¬ bad t = true := by rw [hb]; simp
  simp only [if_neg hb']
  refine Ev.bind (echo_Smooth_ev (D t) hDf) (Ev.bind (echo_Height_ev (D t) hDf) ?_)
  simp only [if_pos hDc, hDs]
  obtain ⟨q, hq⟩ : ∃ q, heightS (D t) = some q := Option.isSome_iff_exists.1 hDs
  have hqle := heightS_le _ (D t) (Nat.le_refl _) q hq
  by_cases hn : t = []
  · subst hn
    have : q = 0 := by simp [D, runsS, stripS, stripL, stripR] at hqle; omega
    subst this
    rw [hq, heightS_nil]
    refine Ev.pos trivial (Ev.pos rfl (Ev.pos trivial (Ev.pos rfl (Ev.pos trivial (Ev.pos rfl (Ev.pos ?_ (Ev.pos rfl (Ev.pos rfl ?_))))))))
    · rfl
    · exact Ev.bind lives_ev (Ev.now _)
  · have hstep := heightS_step hn
    rw [if_neg hb', hq] at hstep
    have hlt := D_length_lt hn
    have hpos : 0 < t.length := List.length_pos_iff.2 hn
    rw [hq, hstep]
    have hw1 : wrap64 (((q + 1 : Nat) : Int) - 1) = (q : Int) := by rw [wrap_id] <;> omega
    simp only [Option.map_some, hw1]
    refine Ev.pos trivial (Ev.pos trivial (Ev.pos trivial (Ev.pos trivial (Ev.pos trivial (Ev.neg (by omega) (Ev.pos (by omega) (Ev.pos (by omega) (Ev.pos trivial ?_))))))))
    exact Ev.bind lives_ev (Ev.now _)
theorem EchoDerived : bellpulllaw02_EchoDerived.Pure := by
  intro z _ hz hw
  obtain ⟨t, ht, h1, h2, h3⟩ := law_smooth z hz hw 100 (by omega)
  exact (EchoDerived_ev z t ht h1 h2 h3).rounds
end Go.Proofs.Ytploaicljkennaa.Pure
