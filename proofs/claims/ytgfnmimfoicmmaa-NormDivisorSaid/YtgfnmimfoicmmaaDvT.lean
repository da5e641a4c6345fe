/- The best quotient misses by at most half. -/
import Derived.Test.YtgfnmimfoicmmaaDvS
namespace Go.Proofs.Ytgfnmimfoicmmaa.Dv
/-- Of one coordinate: the even number and the odd one that are nearest share the distance. -/
theorem near_both {p n a b : Int} (hn : 0 < n) (ha : Near p n 0 a) (hb : Near p n 1 b) : ∃ u, 0 ≤ u ∧ u ≤ n ∧ (p - a * n) * (p - a * n) ≤ n * u ∧ (p - b * n) * (p - b * n) ≤ n * (n - u) := by
  obtain ⟨a1, a2, a3⟩ := ha
  obtain ⟨b1, b2, b3⟩ := hb
  have lo : a - 2 < b := by
    rcases Int.lt_or_le (a - 2) b with c | c
    · exact c
    · have : b * n ≤ (a - 2) * n := Int.mul_le_mul_of_nonneg_right c (by omega)
      have e : (a - 2) * n = a * n - 2 * n := by grind
      omega
  have hi : b < a + 2 := by
    rcases Int.lt_or_le b (a + 2) with c | c
    · exact c
    · have : (a + 2) * n ≤ b * n := Int.mul_le_mul_of_nonneg_right c (by omega)
      have e : (a + 2) * n = a * n + 2 * n := by grind
      omega
  have key : ∀ u : Int, 0 ≤ u → u ≤ n → u * u ≤ n * u ∧ (n - u) * (n - u) ≤ n * (n - u) := fun u h0 h1 =>
    ⟨Int.mul_le_mul_of_nonneg_right h1 h0, Int.mul_le_mul_of_nonneg_right (by omega) (by omega)⟩
  generalize hs : p - a * n = s at *
  rcases (show b = a + 1 ∨ b = a - 1 by omega) with rfl | rfl
  · have e : (a + 1) * n = a * n + n := by grind
    have e2 : p - (a + 1) * n = s - n := by omega
    rw [e2] at b2 b3 ⊢
    obtain ⟨k1, k2⟩ := key s (by omega) (by omega)
    exact ⟨s, by omega, by omega, k1, by have : (s - n) * (s - n) = (n - s) * (n - s) := by grind
                                         omega⟩
  · have e : (a - 1) * n = a * n - n := by grind
    have e2 : p - (a - 1) * n = s + n := by omega
    rw [e2] at b2 b3 ⊢
    obtain ⟨k1, k2⟩ := key (-s) (by omega) (by omega)
    exact ⟨-s, by omega, by omega, by have : s * s = -s * -s := by grind
                                      omega, by have : (s + n) * (s + n) = (n - -s) * (n - -s) := by grind
                                                omega⟩
theorem far_half {p0 p1 p2 p3 n a0 a1 a2 a3 b0 b1 b2 b3 : Int} (hn : 0 < n) (x0 : Near p0 n 0 a0) (x1 : Near p1 n 0 a1) (x2 : Near p2 n 0 a2) (x3 : Near p3 n 0 a3) (y0 : Near p0 n 1 b0) (y1 : Near p1 n 1 b1) (y2 : Near p2 n 1 b2) (y3 : Near p3 n 1 b3) :
    far p0 p1 p2 p3 n a0 a1 a2 a3 ≤ 2 * (n * n) ∨ far p0 p1 p2 p3 n b0 b1 b2 b3 ≤ 2 * (n * n) := by
  obtain ⟨u0, _, _, s0, t0⟩ := near_both hn x0 y0
  obtain ⟨u1, _, _, s1, t1⟩ := near_both hn x1 y1
  obtain ⟨u2, _, _, s2, t2⟩ := near_both hn x2 y2
  obtain ⟨u3, _, _, s3, t3⟩ := near_both hn x3 y3
  unfold far
  rcases Int.le_total (u0 + u1 + u2 + u3) (2 * n) with h | h
  · left
    have : n * (u0 + u1 + u2 + u3) ≤ n * (2 * n) := Int.mul_le_mul_of_nonneg_left h (by omega)
    have e : n * (u0 + u1 + u2 + u3) = n * u0 + n * u1 + n * u2 + n * u3 := by grind
    have e2 : n * (2 * n) = 2 * (n * n) := by grind
    omega
  · right
    have : n * (4 * n - (u0 + u1 + u2 + u3)) ≤ n * (2 * n) := Int.mul_le_mul_of_nonneg_left (by omega) (by omega)
    have e : n * (4 * n - (u0 + u1 + u2 + u3)) = n * (n - u0) + n * (n - u1) + n * (n - u2) + n * (n - u3) := by grind
    have e2 : n * (2 * n) = 2 * (n * n) := by grind
    omega
end Go.Proofs.Ytgfnmimfoicmmaa.Dv
