/- The algebra of quaternions, by their doubled coordinates. -/
import Derived.Test.YtgfnmimfoicmmaaMulE
set_option linter.unusedVariables false
namespace Go.Proofs.Ytgfnmimfoicmmaa.Pure
theorem par {a b : Int} (h : b % 2 = a % 2) : ∃ c, b = a + 2 * c := ⟨(b - a) / 2, by omega⟩
theorem D_par {a b c d e f g h : Int} (h1 : itg a b c d) (h2 : itg e f g h) : ∃ L K1 K2 K3 : Int, D0 a b c d e f g h = 2 * L ∧ D1 a b c d e f g h = 2 * (L + 2 * K1) ∧ D2 a b c d e f g h = 2 * (L + 2 * K2) ∧ D3 a b c d e f g h = 2 * (L + 2 * K3) := by
  obtain ⟨p1, p2, p3⟩ := h1
  obtain ⟨q1, q2, q3⟩ := h2
  obtain ⟨b', rfl⟩ := par p1
  obtain ⟨c', rfl⟩ := par p2
  obtain ⟨d', rfl⟩ := par p3
  obtain ⟨f', rfl⟩ := par q1
  obtain ⟨g', rfl⟩ := par q2
  obtain ⟨h', rfl⟩ := par q3
  refine ⟨-(a * e + a * f' + b' * e + a * g' + c' * e + a * h' + d' * e + 2 * (b' * f' + c' * g' + d' * h')),
    a * e + a * f' + b' * e + a * h' + c' * e + c' * h' - d' * g' + b' * f' + c' * g' + d' * h',
    a * e + a * g' + c' * e + a * f' + d' * e - b' * h' + d' * f' + b' * f' + c' * g' + d' * h',
    a * e + a * h' + a * g' + b' * e + d' * e + b' * g' - c' * f' + b' * f' + c' * g' + d' * h', ?_, ?_, ?_, ?_⟩ <;> simp only [D0, D1, D2, D3] <;> grind
theorem N4_par {a b c d : Int} (h1 : itg a b c d) : ∃ n : Int, N4 a b c d = 4 * n := by
  obtain ⟨p1, p2, p3⟩ := h1
  obtain ⟨b', rfl⟩ := par p1
  obtain ⟨c', rfl⟩ := par p2
  obtain ⟨d', rfl⟩ := par p3
  exact ⟨a * a + a * (b' + c' + d') + b' * b' + c' * c' + d' * d', by unfold N4; grind⟩
theorem N4_twice2 (a b c d : Int) : N4 (2 * a) (2 * b) (2 * c) (2 * d) = 4 * N4 a b c d := by
  unfold N4
  grind
end Go.Proofs.Ytgfnmimfoicmmaa.Pure
