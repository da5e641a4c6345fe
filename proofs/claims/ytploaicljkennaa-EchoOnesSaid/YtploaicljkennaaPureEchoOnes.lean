/- EchoOnes: for every number the law returns true; no condition. -/
import Derived.Test.YtploaicljkennaaPEx12
import Derived.Test.YtploaicljkennaaKolS
set_option linter.unusedVariables false
set_option linter.unusedSimpArgs false
namespace Go.Proofs.Ytploaicljkennaa.Pure
open Go.RowKit Go.Proofs.YtploaicljkennaaW.PrintWords Go.Proofs.Ytploaicljkennaa.PE
theorem lives_ev' : Ev (fun k => bellpulllaw02_lives.f k) true :=
  Ev.of (fun k => bellpulllaw02_lives.mono k) (k := 200) (by decide +kernel)
theorem wrap_nat1 (i : Nat) (h : (i : Int) < 100000) : wrap64 ((i : Int) + 1) = ((i + 1 : Nat) : Int) := by
  have e : ((i + 1 : Nat) : Int) = (i : Int) + 1 := by omega
  rw [e, wrap_id] <;> omega
theorem EchoOnes_loop (l : List Int) (hl : l.length ≤ 100000) (o : Int) (ho : o = (onesS l : Nat)) : ∀ (d i c : Nat), l.length - i = d → i ≤ l.length → c ≤ i → c + onesS (l.drop i) = onesS l →
    Ev (fun k => bellpulllaw02_EchoOnes.l0 k (l.length : Int) l 0 o 0 (c : Int) (i : Int)) true := by
  intro d
  induction d with
  | zero =>
    intro i c hd hi hc he
    obtain rfl : i = l.length := by omega
    rw [List.drop_length] at he
    have he' : c = onesS l := by simpa [onesS] using he
    refine Ev.succ ?_
    simp only [bellpulllaw02_EchoOnes.l0]
    refine Ev.neg (by omega) (Ev.pos trivial (Ev.pos trivial (Ev.pos trivial (Ev.pos (by omega) ?_))))
    exact Ev.bind lives_ev' (Ev.now _)
  | succ d ih =>
    intro i c hd hi hc he
    have hlt : i < l.length := by omega
    refine Ev.succ ?_
    have g1 : (i : Int) < (l.length : Int) := by omega
    have g2 : (i : Int) < 100000 := by omega
    have g3 : (c : Int) < 100000 := by omega
    have a1 : l.length - (i + 1) = d := by omega
    have a2 : i + 1 ≤ l.length := by omega
    have a3 : c + 1 ≤ i + 1 := by omega
    have a4 : c ≤ i + 1 := by omega
    have g0 : (0 : Int) ≤ (i : Int) := by omega
    rw [ones_drop l i hlt] at he
    have hr := rd_nat l i hlt
    have hw1 := wrap_nat1 i g2
    have hw2 := wrap_nat1 c g3
    simp only [bellpulllaw02_EchoOnes.l0, hr, hw1, hw2]
    refine Ev.pos (by first | exact g1 | exact g0) (Ev.pos (by first | exact g1 | exact g0) ?_)
    clear hr hw1 hw2
    by_cases h1 : l[i] = 1
    · rw [if_pos h1] at he
      have a5 : c + 1 + onesS (l.drop (i + 1)) = onesS l := by omega
      exact Ev.pos h1 (ih (i + 1) (c + 1) a1 a2 a3 a5)
    · rw [if_neg h1] at he
      have a5 : c + onesS (l.drop (i + 1)) = onesS l := by omega
      exact Ev.neg h1 (ih (i + 1) c a1 a2 a4 a5)
theorem EchoOnes_ev (n : Nat) (hn : n ≤ 65535) : Ev (fun k => bellpulllaw02_EchoOnes.f k (n : Int)) true := by
  unfold bellpulllaw02_EchoOnes.f
  have hw : wrap64 (n : Int) = (n : Int) := by rw [wrap_id] <;> omega
  simp only [hw]
  refine Ev.bind (echo_Kolakoski_good n12 (by omega) n (by omega)) (Ev.bind (echo_Ones_good n (by omega)) ?_)
  have hl := kolS_length n12 n
  have := EchoOnes_loop (kolS 1 2 n) (by omega) _ rfl _ 0 0 rfl (Nat.zero_le _) (Nat.le_refl _) (by simp)
  rw [hl] at this
  exact this
theorem EchoOnes : bellpulllaw02_EchoOnes.Pure := by
  intro a h
  have hb := wf_u16 h
  obtain ⟨n, rfl⟩ := Int.eq_ofNat_of_zero_le hb.1
  exact (EchoOnes_ev n (by omega)).rounds
end Go.Proofs.Ytploaicljkennaa.Pure
