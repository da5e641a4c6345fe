/- EchoWords in plain Lean: each of the seventeen lengths, by the kernel. -/
import Derived.Test.YtploaicljkennaaPWx33
import Derived.Test.YtploaicljkennaaPureWordsB
set_option linter.unusedVariables false
set_option linter.unusedSimpArgs false
namespace Go.Proofs.Ytploaicljkennaa.Pure
open Go.RowKit Go.Proofs.Ytploaicljkennaa.PW Go.Proofs.YtploaicljkennaaW.PrintWords Go.Proofs.YtploaicljkennaaW.PrintLast

set_option maxHeartbeats 100000000 in
set_option maxRecDepth 100000 in
theorem words_a : ∀ m ∈ List.range 11, bellpulllaw02_EchoWords.f 4000 ((m : Nat) : Int) = some true := by decide +kernel
set_option maxHeartbeats 100000000 in
set_option maxRecDepth 100000 in
theorem count_11 : echo_Count.f 4000 11 = some (62, 0) := by decide +kernel
set_option maxHeartbeats 100000000 in
set_option maxRecDepth 100000 in
theorem ref_11 : (bellpullref02_Words.f 3999 11).map List.length = some 62 := by decide +kernel
set_option maxHeartbeats 100000000 in
set_option maxRecDepth 100000 in
theorem count_12 : echo_Count.f 4000 12 = some (78, 0) := by decide +kernel
set_option maxHeartbeats 100000000 in
set_option maxRecDepth 100000 in
theorem ref_12 : (bellpullref02_Words.f 3999 12).map List.length = some 78 := by decide +kernel
set_option maxHeartbeats 100000000 in
set_option maxRecDepth 100000 in
theorem count_13 : echo_Count.f 4000 13 = some (94, 0) := by decide +kernel
set_option maxHeartbeats 100000000 in
set_option maxRecDepth 100000 in
theorem ref_13 : (bellpullref02_Words.f 3999 13).map List.length = some 94 := by decide +kernel
set_option maxHeartbeats 100000000 in
set_option maxRecDepth 100000 in
theorem count_14 : echo_Count.f 4000 14 = some (110, 0) := by decide +kernel
set_option maxHeartbeats 100000000 in
set_option maxRecDepth 100000 in
theorem ref_14 : (bellpullref02_Words.f 3999 14).map List.length = some 110 := by decide +kernel
set_option maxHeartbeats 100000000 in
set_option maxRecDepth 100000 in
theorem ref_15 : (bellpullref02_Words.f 3999 15).map List.length = some 126 := by decide +kernel
theorem words_lives : bellpulllaw02_lives.f 4000 = some true := by decide +kernel
theorem in_eq (a l h : Int) : bellpullref01_In.f a l h = some (decide (l ≤ a ∧ a ≤ h)) := by
  unfold bellpullref01_In.f
  by_cases h1 : l ≤ a <;> simp [h1]
theorem words_hi {m : Int} (h1 : 10 < m) (h2 : m ≤ 16) {c : Nat} (e2 : echo_Count.f 4000 m = some ((c : Int), 0)) (e3 : (bellpullref02_Words.f 3999 m).map List.length = some c) : bellpulllaw02_EchoWords.f 4000 m = some true := by
  have e1 : echo_Words.f 4000 m = some ([], 1) := by
    unfold echo_Words.f
    rw [if_neg (by omega), if_pos (by omega)]
  have hI1 : bellpullref01_In.f m 0 10 = some false := by rw [in_eq, decide_eq_false (by omega)]
  have hI2 : bellpullref01_In.f m 0 16 = some true := by rw [in_eq, decide_eq_true (by omega)]
  rcases hr : bellpullref02_Words.f 3999 m with _ | L
  · rw [hr] at e3; cases e3
  · rw [hr] at e3
    have hL : L.length = c := Option.some.inj e3
    unfold bellpulllaw02_EchoWords.f
    rw [e1, e2]
    simp only [Option.bind_some]
    rw [hI1, hI2]
    simp only [Option.bind_some, List.length_nil, words_lives, bellpulllaw02_EchoWords.j0, hI1, hI2, hr, Bool.not_true, Bool.false_eq_true, if_false, if_true, Int.ofNat_zero]
    simp [hL]
theorem EchoWords : bellpulllaw02_EchoWords.Pure := by
  intro a0 h0
  refine ⟨4000, ?_⟩
  by_cases h : 0 ≤ a0 ∧ a0 < 17
  · by_cases h1 : a0 < 11
    · obtain ⟨m, hm, rfl⟩ : ∃ m : Nat, m < 11 ∧ a0 = (m : Int) := ⟨a0.toNat, by omega, by omega⟩
      exact words_a m (List.mem_range.2 hm)
    · rcases (show a0 = 11 ∨ a0 = 12 ∨ a0 = 13 ∨ a0 = 14 ∨ a0 = 15 ∨ a0 = 16 by omega) with rfl | rfl | rfl | rfl | rfl | rfl
      · exact words_hi (by omega) (by omega) count_11 ref_11
      · exact words_hi (by omega) (by omega) count_12 ref_12
      · exact words_hi (by omega) (by omega) count_13 ref_13
      · exact words_hi (by omega) (by omega) count_14 ref_14
      · exact words_hi (by omega) (by omega) count_15 ref_15
      · exact words_hi (by omega) (by omega) count_16 ref_16
  · have hI1 : bellpullref01_In.f a0 0 10 = some false := by rw [in_eq, decide_eq_false (by omega)]
    have hI2 : bellpullref01_In.f a0 0 16 = some false := by rw [in_eq, decide_eq_false (by omega)]
    have e1 : echo_Words.f 4000 a0 = some ([], 1) := by
      unfold echo_Words.f
      by_cases h1 : a0 < 0
      · rw [if_pos h1]
      · rw [if_neg h1, if_pos (by omega)]
    have e2 : echo_Count.f 4000 a0 = some (0, 1) := by
      unfold echo_Count.f
      by_cases h1 : a0 < 0
      · rw [if_pos h1]
      · rw [if_neg h1, if_pos (by omega)]
    unfold bellpulllaw02_EchoWords.f
    rw [e1, e2]
    simp only [Option.bind_some]
    rw [hI1, hI2]
    simp only [Option.bind_some, List.length_nil, words_lives, bellpulllaw02_EchoWords.j0, hI1, hI2, Bool.not_true, Bool.false_eq_true, if_false, if_true, Int.ofNat_zero]
    try simp
end Go.Proofs.Ytploaicljkennaa.Pure
