/- Right divisors: the laws that Euclid's steps need. -/
import Derived.Test.YtgfnmimfoicmmaaQuatF
import Derived.Test.YtgfnmimfoicmmaaAlgS
import Derived.Test.YtgfnmimfoicmmaaDvS
set_option linter.unusedVariables false
set_option linter.unusedSimpArgs false
namespace Go.Proofs.Ytgfnmimfoicmmaa.Pure
open Go.Proofs.Ytgfnmimfoicmmaa.Dv

/-- g divides a from the right (all doubled). -/
def RD (g0 g1 g2 g3 a0 a1 a2 a3 : Int) : Prop := ∃ k0 k1 k2 k3 : Int, itg k0 k1 k2 k3 ∧ D0 k0 k1 k2 k3 g0 g1 g2 g3 = 2 * a0 ∧ D1 k0 k1 k2 k3 g0 g1 g2 g3 = 2 * a1 ∧ D2 k0 k1 k2 k3 g0 g1 g2 g3 = 2 * a2 ∧ D3 k0 k1 k2 k3 g0 g1 g2 g3 = 2 * a3
theorem RD_refl (g0 g1 g2 g3 : Int) : RD g0 g1 g2 g3 g0 g1 g2 g3 := ⟨2, 0, 0, 0, by unfold itg; omega, by unfold D0; omega, by unfold D1; omega, by unfold D2; omega, by unfold D3; omega⟩
theorem RD_zero (g0 g1 g2 g3 : Int) : RD g0 g1 g2 g3 0 0 0 0 := ⟨0, 0, 0, 0, by unfold itg; omega, by unfold D0; omega, by unfold D1; omega, by unfold D2; omega, by unfold D3; omega⟩
theorem RD_sub {g0 g1 g2 g3 a0 a1 a2 a3 b0 b1 b2 b3 : Int} (h : RD g0 g1 g2 g3 a0 a1 a2 a3) (k : RD g0 g1 g2 g3 b0 b1 b2 b3) : RD g0 g1 g2 g3 (a0 - b0) (a1 - b1) (a2 - b2) (a3 - b3) := by
  obtain ⟨k0, k1, k2, k3, ik, e0, e1, e2, e3⟩ := h
  obtain ⟨l0, l1, l2, l3, il, f0, f1, f2, f3⟩ := k
  refine ⟨k0 - l0, k1 - l1, k2 - l2, k3 - l3, by unfold itg at *; omega, ?_, ?_, ?_, ?_⟩
  · unfold D0 at *; grind
  · unfold D1 at *; grind
  · unfold D2 at *; grind
  · unfold D3 at *; grind
theorem RD_neg {g0 g1 g2 g3 a0 a1 a2 a3 : Int} (h : RD g0 g1 g2 g3 a0 a1 a2 a3) : RD g0 g1 g2 g3 (0 - a0) (0 - a1) (0 - a2) (0 - a3) := RD_sub (RD_zero _ _ _ _) h
theorem RD_add {g0 g1 g2 g3 a0 a1 a2 a3 b0 b1 b2 b3 c0 c1 c2 c3 : Int} (h : RD g0 g1 g2 g3 a0 a1 a2 a3) (k : RD g0 g1 g2 g3 b0 b1 b2 b3) (e0 : c0 = a0 + b0) (e1 : c1 = a1 + b1) (e2 : c2 = a2 + b2) (e3 : c3 = a3 + b3) : RD g0 g1 g2 g3 c0 c1 c2 c3 := by
  have := RD_sub h (RD_neg k)
  rwa [show a0 - (0 - b0) = c0 by omega, show a1 - (0 - b1) = c1 by omega, show a2 - (0 - b2) = c2 by omega, show a3 - (0 - b3) = c3 by omega] at this
/-- The product of doubled quaternions: associative. -/
theorem D_assoc (q0 q1 q2 q3 k0 k1 k2 k3 g0 g1 g2 g3 : Int) :
    D0 (D0 q0 q1 q2 q3 k0 k1 k2 k3) (D1 q0 q1 q2 q3 k0 k1 k2 k3) (D2 q0 q1 q2 q3 k0 k1 k2 k3) (D3 q0 q1 q2 q3 k0 k1 k2 k3) g0 g1 g2 g3 = D0 q0 q1 q2 q3 (D0 k0 k1 k2 k3 g0 g1 g2 g3) (D1 k0 k1 k2 k3 g0 g1 g2 g3) (D2 k0 k1 k2 k3 g0 g1 g2 g3) (D3 k0 k1 k2 k3 g0 g1 g2 g3) ∧
    D1 (D0 q0 q1 q2 q3 k0 k1 k2 k3) (D1 q0 q1 q2 q3 k0 k1 k2 k3) (D2 q0 q1 q2 q3 k0 k1 k2 k3) (D3 q0 q1 q2 q3 k0 k1 k2 k3) g0 g1 g2 g3 = D1 q0 q1 q2 q3 (D0 k0 k1 k2 k3 g0 g1 g2 g3) (D1 k0 k1 k2 k3 g0 g1 g2 g3) (D2 k0 k1 k2 k3 g0 g1 g2 g3) (D3 k0 k1 k2 k3 g0 g1 g2 g3) ∧
    D2 (D0 q0 q1 q2 q3 k0 k1 k2 k3) (D1 q0 q1 q2 q3 k0 k1 k2 k3) (D2 q0 q1 q2 q3 k0 k1 k2 k3) (D3 q0 q1 q2 q3 k0 k1 k2 k3) g0 g1 g2 g3 = D2 q0 q1 q2 q3 (D0 k0 k1 k2 k3 g0 g1 g2 g3) (D1 k0 k1 k2 k3 g0 g1 g2 g3) (D2 k0 k1 k2 k3 g0 g1 g2 g3) (D3 k0 k1 k2 k3 g0 g1 g2 g3) ∧
    D3 (D0 q0 q1 q2 q3 k0 k1 k2 k3) (D1 q0 q1 q2 q3 k0 k1 k2 k3) (D2 q0 q1 q2 q3 k0 k1 k2 k3) (D3 q0 q1 q2 q3 k0 k1 k2 k3) g0 g1 g2 g3 = D3 q0 q1 q2 q3 (D0 k0 k1 k2 k3 g0 g1 g2 g3) (D1 k0 k1 k2 k3 g0 g1 g2 g3) (D2 k0 k1 k2 k3 g0 g1 g2 g3) (D3 k0 k1 k2 k3 g0 g1 g2 g3) := by
  unfold D0 D1 D2 D3
  refine ⟨?_, ?_, ?_, ?_⟩ <;> grind
theorem D_two (q0 q1 q2 q3 a0 a1 a2 a3 : Int) : D0 q0 q1 q2 q3 (2 * a0) (2 * a1) (2 * a2) (2 * a3) = 2 * D0 q0 q1 q2 q3 a0 a1 a2 a3 ∧ D1 q0 q1 q2 q3 (2 * a0) (2 * a1) (2 * a2) (2 * a3) = 2 * D1 q0 q1 q2 q3 a0 a1 a2 a3 ∧ D2 q0 q1 q2 q3 (2 * a0) (2 * a1) (2 * a2) (2 * a3) = 2 * D2 q0 q1 q2 q3 a0 a1 a2 a3 ∧ D3 q0 q1 q2 q3 (2 * a0) (2 * a1) (2 * a2) (2 * a3) = 2 * D3 q0 q1 q2 q3 a0 a1 a2 a3 := by
  unfold D0 D1 D2 D3
  refine ⟨?_, ?_, ?_, ?_⟩ <;> grind
theorem two_D (q0 q1 q2 q3 a0 a1 a2 a3 : Int) : D0 (2 * q0) (2 * q1) (2 * q2) (2 * q3) a0 a1 a2 a3 = 2 * D0 q0 q1 q2 q3 a0 a1 a2 a3 ∧ D1 (2 * q0) (2 * q1) (2 * q2) (2 * q3) a0 a1 a2 a3 = 2 * D1 q0 q1 q2 q3 a0 a1 a2 a3 ∧ D2 (2 * q0) (2 * q1) (2 * q2) (2 * q3) a0 a1 a2 a3 = 2 * D2 q0 q1 q2 q3 a0 a1 a2 a3 ∧ D3 (2 * q0) (2 * q1) (2 * q2) (2 * q3) a0 a1 a2 a3 = 2 * D3 q0 q1 q2 q3 a0 a1 a2 a3 := by
  unfold D0 D1 D2 D3
  refine ⟨?_, ?_, ?_, ?_⟩ <;> grind
theorem RD_mul {g0 g1 g2 g3 a0 a1 a2 a3 q0 q1 q2 q3 m0 m1 m2 m3 : Int} (h : RD g0 g1 g2 g3 a0 a1 a2 a3) (iq : itg q0 q1 q2 q3)
    (e0 : D0 q0 q1 q2 q3 a0 a1 a2 a3 = 2 * m0) (e1 : D1 q0 q1 q2 q3 a0 a1 a2 a3 = 2 * m1) (e2 : D2 q0 q1 q2 q3 a0 a1 a2 a3 = 2 * m2) (e3 : D3 q0 q1 q2 q3 a0 a1 a2 a3 = 2 * m3) : RD g0 g1 g2 g3 m0 m1 m2 m3 := by
  obtain ⟨k0, k1, k2, k3, ik, f0, f1, f2, f3⟩ := h
  obtain ⟨L, K1, K2, K3, p0, p1, p2, p3⟩ := D_par iq ik
  obtain ⟨s0, s1, s2, s3⟩ := D_assoc q0 q1 q2 q3 k0 k1 k2 k3 g0 g1 g2 g3
  obtain ⟨t0, t1, t2, t3⟩ := D_two q0 q1 q2 q3 a0 a1 a2 a3
  obtain ⟨u0, u1, u2, u3⟩ := two_D L (L + 2 * K1) (L + 2 * K2) (L + 2 * K3) g0 g1 g2 g3
  rw [f0, f1, f2, f3, p0, p1, p2, p3] at s0 s1 s2 s3
  exact ⟨L, L + 2 * K1, L + 2 * K2, L + 2 * K3, by unfold itg; omega, by omega, by omega, by omega, by omega⟩
theorem RD_trans {g0 g1 g2 g3 a0 a1 a2 a3 m0 m1 m2 m3 : Int} (h : RD g0 g1 g2 g3 a0 a1 a2 a3) (k : RD a0 a1 a2 a3 m0 m1 m2 m3) : RD g0 g1 g2 g3 m0 m1 m2 m3 := by
  obtain ⟨k0, k1, k2, k3, ik, f0, f1, f2, f3⟩ := k
  exact RD_mul h ik f0 f1 f2 f3
theorem N4_nn (a b c d : Int) : 0 ≤ N4 a b c d := by
  have g0 := sq_pos a; have g1 := sq_pos b; have g2 := sq_pos c; have g3 := sq_pos d
  unfold N4; omega
theorem N4_zero {a b c d : Int} (h : N4 a b c d ≤ 0) : a = 0 ∧ b = 0 ∧ c = 0 ∧ d = 0 := by
  have g0 := sq_pos a; have g1 := sq_pos b; have g2 := sq_pos c; have g3 := sq_pos d
  have z : ∀ y : Int, y * y = 0 → y = 0 := fun y hy => by
    rcases Int.mul_eq_zero.mp hy with h | h <;> exact h
  unfold N4 at h
  exact ⟨z _ (by omega), z _ (by omega), z _ (by omega), z _ (by omega)⟩
theorem RD_N4 {g0 g1 g2 g3 a0 a1 a2 a3 : Int} (h : RD g0 g1 g2 g3 a0 a1 a2 a3) (h0 : ¬ (a0 = 0 ∧ a1 = 0 ∧ a2 = 0 ∧ a3 = 0)) : N4 g0 g1 g2 g3 ≤ N4 a0 a1 a2 a3 := by
  obtain ⟨k0, k1, k2, k3, ik, f0, f1, f2, f3⟩ := h
  have he := euler k0 k1 k2 k3 g0 g1 g2 g3
  rw [f0, f1, f2, f3, N4_twice2] at he
  obtain ⟨n, hn⟩ := N4_par ik
  have hk := N4_nn k0 k1 k2 k3
  have hg := N4_nn g0 g1 g2 g3
  rw [hn] at he hk
  rcases Int.lt_or_le 0 n with c | c
  · have : 4 * N4 g0 g1 g2 g3 ≤ 4 * n * N4 g0 g1 g2 g3 := Int.mul_le_mul_of_nonneg_right (by omega) hg
    omega
  · exfalso
    have : n = 0 := by omega
    subst this
    exact h0 (N4_zero (by simp at he; omega))
theorem RD_of_zero {a0 a1 a2 a3 : Int} (h : RD 0 0 0 0 a0 a1 a2 a3) : a0 = 0 ∧ a1 = 0 ∧ a2 = 0 ∧ a3 = 0 := by
  obtain ⟨k0, k1, k2, k3, ik, f0, f1, f2, f3⟩ := h
  unfold D0 at f0; unfold D1 at f1; unfold D2 at f2; unfold D3 at f3
  simp at f0 f1 f2 f3
  omega
theorem lt4_trans {a b c d e f g h i j k l : Int} (h1 : lt4 a b c d e f g h) (h2 : lt4 e f g h i j k l) : lt4 a b c d i j k l := by unfold lt4 at *; omega
theorem lt4_irrefl (a b c d : Int) : ¬ lt4 a b c d a b c d := by unfold lt4; omega
/-- The remainder of what g divides is 0. -/
theorem rem_zero {g0 g1 g2 g3 a0 a1 a2 a3 q0 q1 q2 q3 m0 m1 m2 m3 : Int} (h : RD g0 g1 g2 g3 a0 a1 a2 a3) (iq : itg q0 q1 q2 q3)
    (e : D0 q0 q1 q2 q3 g0 g1 g2 g3 = 2 * m0 ∧ D1 q0 q1 q2 q3 g0 g1 g2 g3 = 2 * m1 ∧ D2 q0 q1 q2 q3 g0 g1 g2 g3 = 2 * m2 ∧ D3 q0 q1 q2 q3 g0 g1 g2 g3 = 2 * m3)
    (hg : ¬ (g0 = 0 ∧ g1 = 0 ∧ g2 = 0 ∧ g3 = 0)) (hle : 2 * N4 (a0 - m0) (a1 - m1) (a2 - m2) (a3 - m3) ≤ N4 g0 g1 g2 g3) : a0 - m0 = 0 ∧ a1 - m1 = 0 ∧ a2 - m2 = 0 ∧ a3 - m3 = 0 := by
  have hm : RD g0 g1 g2 g3 m0 m1 m2 m3 := ⟨q0, q1, q2, q3, iq, e.1, e.2.1, e.2.2.1, e.2.2.2⟩
  have hr := RD_sub h hm
  apply Classical.byContradiction
  intro hne
  have := RD_N4 hr hne
  have hp := N4_nn (a0 - m0) (a1 - m1) (a2 - m2) (a3 - m3)
  exact hg (N4_zero (by omega))
/-- A unit's multiple. -/
theorem unit_back {u0 u1 u2 u3 g0 g1 g2 g3 c0 c1 c2 c3 : Int} (iu : itg u0 u1 u2 u3) (hu : N4 u0 u1 u2 u3 = 4)
    (e : D0 u0 u1 u2 u3 g0 g1 g2 g3 = 2 * c0 ∧ D1 u0 u1 u2 u3 g0 g1 g2 g3 = 2 * c1 ∧ D2 u0 u1 u2 u3 g0 g1 g2 g3 = 2 * c2 ∧ D3 u0 u1 u2 u3 g0 g1 g2 g3 = 2 * c3) :
    RD g0 g1 g2 g3 c0 c1 c2 c3 ∧ RD c0 c1 c2 c3 g0 g1 g2 g3 ∧ N4 c0 c1 c2 c3 = N4 g0 g1 g2 g3 := by
  refine ⟨⟨u0, u1, u2, u3, iu, e⟩, ?_, ?_⟩
  · obtain ⟨s0, s1, s2, s3⟩ := D_assoc u0 (-u1) (-u2) (-u3) u0 u1 u2 u3 g0 g1 g2 g3
    have hc : D0 u0 (-u1) (-u2) (-u3) u0 u1 u2 u3 = 4 ∧ D1 u0 (-u1) (-u2) (-u3) u0 u1 u2 u3 = 0 ∧ D2 u0 (-u1) (-u2) (-u3) u0 u1 u2 u3 = 0 ∧ D3 u0 (-u1) (-u2) (-u3) u0 u1 u2 u3 = 0 := by
      rw [← hu]; unfold D0 D1 D2 D3 N4
      refine ⟨?_, ?_, ?_, ?_⟩ <;> grind
    obtain ⟨t0, t1, t2, t3⟩ := D_two u0 (-u1) (-u2) (-u3) c0 c1 c2 c3
    rw [hc.1, hc.2.1, hc.2.2.1, hc.2.2.2, e.1, e.2.1, e.2.2.1, e.2.2.2] at s0 s1 s2 s3
    refine ⟨u0, -u1, -u2, -u3, by unfold itg at *; omega, ?_, ?_, ?_, ?_⟩
    · have : D0 4 0 0 0 g0 g1 g2 g3 = 4 * g0 := by unfold D0; omega
      omega
    · have : D1 4 0 0 0 g0 g1 g2 g3 = 4 * g1 := by unfold D1; omega
      omega
    · have : D2 4 0 0 0 g0 g1 g2 g3 = 4 * g2 := by unfold D2; omega
      omega
    · have : D3 4 0 0 0 g0 g1 g2 g3 = 4 * g3 := by unfold D3; omega
      omega
  · have he := euler u0 u1 u2 u3 g0 g1 g2 g3
    rw [e.1, e.2.1, e.2.2.1, e.2.2.2, N4_twice2, hu] at he
    omega
end Go.Proofs.Ytgfnmimfoicmmaa.Pure
