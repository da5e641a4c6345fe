/- EchoCounts in plain Lean: each of the eleven lengths, by the kernel. -/
import Derived.Test.YtploaicljkennaaPWx36
set_option linter.unusedVariables false
namespace Go.Proofs.Ytploaicljkennaa.Pure
open Go.RowKit Go.Proofs.Ytploaicljkennaa.PW Go.Proofs.YtploaicljkennaaW.PrintWords Go.Proofs.YtploaicljkennaaW.PrintLast

def counts_rest (k : Nat) (m : Int) : Option Bool := (echo_Words.f k m).bind fun bt355 => ((echo_Count.f k m).bind fun bt359 => ((echo_Count.f k (wrap64 (m + 1))).bind fun bt361 => (if bt355.2 = 0 then (if bt359.2 = 0 then (if bt361.2 = 0 then (if (bt355.1.length : Int) = bt359.1 then (if bt361.1 < bt359.1 then (none) else (if bt361.1 > (wrap64 (2 * bt359.1)) then (none) else ((bellpulllaw02_lives.f k).bind fun t363 => (bellpulllaw02_EchoCounts.j0 k m bt355.1 (!t363))))) else (none)) else (none)) else (none)) else (none))))
theorem counts_all : (List.range 11).all (fun m => counts_rest 400 (m : Int) == some true) = true := by decide +kernel
theorem EchoCounts : bellpulllaw02_EchoCounts.Pure := by
  intro a0 h0
  have ha : 0 ≤ a0 ∧ a0 ≤ 65535 := by
    simp only [Lit.wf, Bool.and_eq_true, decide_eq_true_eq] at h0
    exact h0
  have hw : ∀ x : Int, -9223372036854775808 ≤ x → x ≤ 9223372036854775807 → wrap64 x = x := fun x h1 h2 => by unfold wrap64; omega
  have h11 : wrap64 (wrap64 (10 - 0) + 1) = 11 := by rw [hw (10 - 0) (by omega) (by omega), hw _ (by omega) (by omega)]; rfl
  have hb : bellpulllaw02_between.f a0 0 10 = some (a0 % 11) := by
    unfold bellpulllaw02_between.f
    rw [h11, if_neg (by omega), hw a0 (by omega) (by omega), Int.tmod_eq_emod_of_nonneg ha.1, hw _ (by omega) (by omega), Int.zero_add]
  obtain ⟨m, hm, e⟩ : ∃ m : Nat, m < 11 ∧ a0 % 11 = (m : Int) := ⟨(a0 % 11).toNat, by omega, by omega⟩
  refine ⟨400, ?_⟩
  unfold bellpulllaw02_EchoCounts.f
  rw [hb, Option.bind_some, e]
  have := List.all_eq_true.1 counts_all m (List.mem_range.2 hm)
  exact eq_of_beq this
end Go.Proofs.Ytploaicljkennaa.Pure
