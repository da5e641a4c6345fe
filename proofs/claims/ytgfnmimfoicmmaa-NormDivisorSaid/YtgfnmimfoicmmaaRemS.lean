/- The remainder's norm. -/
import Derived.Test.YtgfnmimfoicmmaaAlgS
import Derived.Test.YtgfnmimfoicmmaaDvT
set_option linter.unusedVariables false
namespace Go.Proofs.Ytgfnmimfoicmmaa.Pure
open Go.Proofs.Ytgfnmimfoicmmaa.Dv

theorem mul_conj (q0 q1 q2 q3 y0 y1 y2 y3 : Int) :
    D0 (D0 q0 q1 q2 q3 y0 y1 y2 y3) (D1 q0 q1 q2 q3 y0 y1 y2 y3) (D2 q0 q1 q2 q3 y0 y1 y2 y3) (D3 q0 q1 q2 q3 y0 y1 y2 y3) y0 (-y1) (-y2) (-y3) = q0 * N4 y0 y1 y2 y3 ∧
    D1 (D0 q0 q1 q2 q3 y0 y1 y2 y3) (D1 q0 q1 q2 q3 y0 y1 y2 y3) (D2 q0 q1 q2 q3 y0 y1 y2 y3) (D3 q0 q1 q2 q3 y0 y1 y2 y3) y0 (-y1) (-y2) (-y3) = q1 * N4 y0 y1 y2 y3 ∧
    D2 (D0 q0 q1 q2 q3 y0 y1 y2 y3) (D1 q0 q1 q2 q3 y0 y1 y2 y3) (D2 q0 q1 q2 q3 y0 y1 y2 y3) (D3 q0 q1 q2 q3 y0 y1 y2 y3) y0 (-y1) (-y2) (-y3) = q2 * N4 y0 y1 y2 y3 ∧
    D3 (D0 q0 q1 q2 q3 y0 y1 y2 y3) (D1 q0 q1 q2 q3 y0 y1 y2 y3) (D2 q0 q1 q2 q3 y0 y1 y2 y3) (D3 q0 q1 q2 q3 y0 y1 y2 y3) y0 (-y1) (-y2) (-y3) = q3 * N4 y0 y1 y2 y3 := by
  unfold D0 D1 D2 D3 N4
  refine ⟨?_, ?_, ?_, ?_⟩ <;> grind
theorem D_lin (x0 x1 x2 x3 m0 m1 m2 m3 a b c d : Int) :
    2 * D0 (x0 - m0) (x1 - m1) (x2 - m2) (x3 - m3) a b c d = 2 * D0 x0 x1 x2 x3 a b c d - D0 (2 * m0) (2 * m1) (2 * m2) (2 * m3) a b c d ∧
    2 * D1 (x0 - m0) (x1 - m1) (x2 - m2) (x3 - m3) a b c d = 2 * D1 x0 x1 x2 x3 a b c d - D1 (2 * m0) (2 * m1) (2 * m2) (2 * m3) a b c d ∧
    2 * D2 (x0 - m0) (x1 - m1) (x2 - m2) (x3 - m3) a b c d = 2 * D2 x0 x1 x2 x3 a b c d - D2 (2 * m0) (2 * m1) (2 * m2) (2 * m3) a b c d ∧
    2 * D3 (x0 - m0) (x1 - m1) (x2 - m2) (x3 - m3) a b c d = 2 * D3 x0 x1 x2 x3 a b c d - D3 (2 * m0) (2 * m1) (2 * m2) (2 * m3) a b c d := by
  unfold D0 D1 D2 D3
  refine ⟨?_, ?_, ?_, ?_⟩ <;> grind
theorem N4_conj (a b c d : Int) : N4 a (-b) (-c) (-d) = N4 a b c d := by
  unfold N4
  grind
/-- The remainder's norm times the divisor's is what the quotient misses by. -/
theorem rem_norm {x0 x1 x2 x3 y0 y1 y2 y3 q0 q1 q2 q3 m0 m1 m2 m3 p0 p1 p2 p3 n : Int} (hn : N4 y0 y1 y2 y3 = 4 * n)
    (e0 : D0 q0 q1 q2 q3 y0 y1 y2 y3 = 2 * m0) (e1 : D1 q0 q1 q2 q3 y0 y1 y2 y3 = 2 * m1) (e2 : D2 q0 q1 q2 q3 y0 y1 y2 y3 = 2 * m2) (e3 : D3 q0 q1 q2 q3 y0 y1 y2 y3 = 2 * m3)
    (f0 : D0 x0 x1 x2 x3 y0 (-y1) (-y2) (-y3) = 2 * p0) (f1 : D1 x0 x1 x2 x3 y0 (-y1) (-y2) (-y3) = 2 * p1) (f2 : D2 x0 x1 x2 x3 y0 (-y1) (-y2) (-y3) = 2 * p2) (f3 : D3 x0 x1 x2 x3 y0 (-y1) (-y2) (-y3) = 2 * p3) :
    N4 (x0 - m0) (x1 - m1) (x2 - m2) (x3 - m3) * n = far p0 p1 p2 p3 n q0 q1 q2 q3 := by
  obtain ⟨c0, c1, c2, c3⟩ := mul_conj q0 q1 q2 q3 y0 y1 y2 y3
  rw [e0, e1, e2, e3, hn] at c0 c1 c2 c3
  obtain ⟨l0, l1, l2, l3⟩ := D_lin x0 x1 x2 x3 m0 m1 m2 m3 y0 (-y1) (-y2) (-y3)
  rw [c0, f0] at l0
  rw [c1, f1] at l1
  rw [c2, f2] at l2
  rw [c3, f3] at l3
  have he := euler (x0 - m0) (x1 - m1) (x2 - m2) (x3 - m3) y0 (-y1) (-y2) (-y3)
  rw [N4_conj, hn] at he
  have z : ∀ d p q : Int, 2 * d = 2 * (2 * p) - q * (4 * n) → d = 2 * (p - q * n) := fun d p q h => by
    have e : q * (4 * n) = 4 * (q * n) := by grind
    omega
  rw [z _ _ _ l0, z _ _ _ l1, z _ _ _ l2, z _ _ _ l3, N4_twice2] at he
  have e : N4 (x0 - m0) (x1 - m1) (x2 - m2) (x3 - m3) * (4 * n) = 4 * (N4 (x0 - m0) (x1 - m1) (x2 - m2) (x3 - m3) * n) := by grind
  unfold far
  unfold N4 at he e ⊢
  omega
end Go.Proofs.Ytgfnmimfoicmmaa.Pure
