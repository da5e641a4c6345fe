/- EchoOnes: for every number the law returns true; no condition. -/
import Derived.Test.YtploaicljkennaaPEx12
import Derived.Test.YtploaicljkennaaKolS
set_option linter.unusedVariables false
set_option linter.unusedSimpArgs false
namespace Go.Proofs.Ytploaicljkennaa.Pure
open Go.RowKit Go.Proofs.YtploaicljkennaaW.PrintWords Go.Proofs.Ytploaicljkennaa.PE
theorem lives_ev' : Ev (fun k => bellpulllaw02_lives.f k) true :=
  Ev.of (fun k => bellpulllaw02_lives.mono k) (k := 200) (by decide +kernel)
theorem EchoOnes_loop (l : List Int) (hl : l.length ≤ 100000) (o : Int) (ho : o = (onesS l : Nat)) : ∀ (d i c : Nat), l.length - i = d → i ≤ l.length → c ≤ i → c + onesS (l.drop i) = onesS l →
    Ev (fun k => bellpulllaw02_EchoOnes.l0 k (l.length : Int) l 0 o 0 (c : Int) (i : Int)) true := by
  intro d
  induction d with
  | zero =>
    intro i c hd hi hc he
    obtain rfl : i = l.length := by omega
    rw [List.drop_length] at he
    have he' : c = onesS l := by simpa [onesS] using he
    refine Ev.succ ?_
    simp only [bellpulllaw02_EchoOnes.l0]
    refine Ev.neg (by omega) (Ev.pos trivial (Ev.pos trivial (Ev.pos trivial (Ev.pos (by omega) ?_))))
    exact Ev.bind lives_ev' (Ev.now _)
  | succ d ih =>
    intro i c hd hi hc he
    have hlt : i < l.length := by omega
    refine Ev.succ ?_
    have hr := rd_nat l i hlt
    have hw1 : wrap64 ((i : Int) + 1) = ((i + 1 : Nat) : Int) := by rw [wrap_id] <;> omega
    have hw2 : wrap64 ((c : Int) + 1) = ((c + 1 : Nat) : Int) := by rw [wrap_id] <;> omega
    simp only [bellpulllaw02_EchoOnes.l0, hr, hw1, hw2]
    refine Ev.pos (by omega) (Ev.pos (by omega) ?_)
    rw [ones_drop l i hlt] at he
    by_cases h1 : l[i] = 1
    · rw [if_pos h1] at he
      exact Ev.pos h1 (ih (i + 1) (c + 1) (by omega) (by omega) (by omega) (by omega))
    · rw [if_neg h1] at he
      exact Ev.neg h1 (ih (i + 1) c (by omega) (by omega) (by omega) (by omega))
theorem EchoOnes_ev (n : Nat) (hn : n ≤ 65535) : Ev (fun k => bellpulllaw02_EchoOnes.f k (n : Int)) true := by
  unfold bellpulllaw02_EchoOnes.f
  have hw : wrap64 (n : Int) = (n : Int) := by rw [wrap_id] <;> omega
  simp only [hw]
  refine Ev.bind (echo_Kolakoski_good n12 (by omega) n (by omega)) (Ev.bind (echo_Ones_good n (by omega)) ?_)
  have hl := kolS_length n12 n
  have := EchoOnes_loop (kolS 1 2 n) (by omega) _ rfl _ 0 0 rfl (Nat.zero_le _) (Nat.le_refl _) (by simp)
  rw [hl] at this
  exact this
theorem EchoOnes : bellpulllaw02_EchoOnes.Pure := by
  intro a h
  have hb := wf_u16 h
  obtain ⟨n, rfl⟩ := Int.eq_ofNat_of_zero_le hb.1
  exact (EchoOnes_ev n (by omega)).rounds
end Go.Proofs.Ytploaicljkennaa.Pure
