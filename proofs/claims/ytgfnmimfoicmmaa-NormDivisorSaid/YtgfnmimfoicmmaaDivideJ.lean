/- Both divide alike, beyond the range, too; and the remainder is small. -/
import Derived.Test.YtgfnmimfoicmmaaPMx3
import Derived.Test.YtgfnmimfoicmmaaPMx4
import Derived.Test.YtgfnmimfoicmmaaDivideH
import Derived.Test.YtgfnmimfoicmmaaRemS
set_option linter.unusedVariables false
set_option linter.unusedSimpArgs false
namespace Go.Proofs.Ytgfnmimfoicmmaa.Pure
open Go.RowKit Go.Proofs.Ytgfnmimfoicmmaa.PM Go.Proofs.YtgfnmimfoicmmaaW.PrintWords Go.Proofs.YtgfnmimfoicmmaaW.PrintLast
open Go.Proofs.Ytgfnmimfoicmmaa.Dv

theorem one_divide2 {x0 x1 x2 x3 y0 y1 y2 y3 : Int} (h1 : itg x0 x1 x2 x3) (s0 : sm 2000 x0) (s1 : sm 2000 x1) (s2 : sm 2000 x2) (s3 : sm 2000 x3) (h3 : itg y0 y1 y2 y3) (t0 : sm 2000 y0) (t1 : sm 2000 y1) (t2 : sm 2000 y2) (t3 : sm 2000 y3) (hN4 : N4 y0 y1 y2 y3 ≤ 4000000) (h0 : ¬ (y0 = 0 ∧ y1 = 0 ∧ y2 = 0 ∧ y3 = 0)) :
    ∃ q0 q1 q2 q3 r0 r1 r2 r3 m0 m1 m2 m3 : Int, Ev (fun k => norm_divide.f k x0 x1 x2 x3 y0 y1 y2 y3) (q0, q1, q2, q3, r0, r1, r2, r3) ∧
      itg q0 q1 q2 q3 ∧ itg r0 r1 r2 r3 ∧ 2 * N4 r0 r1 r2 r3 ≤ N4 y0 y1 y2 y3 ∧ (D0 q0 q1 q2 q3 y0 y1 y2 y3 = 2 * m0 ∧ D1 q0 q1 q2 q3 y0 y1 y2 y3 = 2 * m1 ∧ D2 q0 q1 q2 q3 y0 y1 y2 y3 = 2 * m2 ∧ D3 q0 q1 q2 q3 y0 y1 y2 y3 = 2 * m3) ∧
      (r0 = x0 - m0 ∧ r1 = x1 - m1 ∧ r2 = x2 - m2 ∧ r3 = x3 - m3) := by
  obtain ⟨n, hN⟩ := N4_par h3
  have pos : 0 < n ∧ n ≤ 1000000 := by
    have g0 := sq_pos y0; have g1 := sq_pos y1; have g2 := sq_pos y2; have g3 := sq_pos y3
    have z : ∀ y : Int, y * y = 0 → y = 0 := fun y hy => by
      rcases Int.mul_eq_zero.mp hy with h | h <;> exact h
    have z0 := z y0; have z1 := z y1; have z2 := z y2; have z3 := z y3
    unfold N4 at hN hN4
    omega
  obtain ⟨hn, hnb⟩ := pos
  have i4 := neg_itg2 h3
  obtain ⟨L, K1, K2, K3, e0, e1, e2, e3⟩ := D_par h1 i4
  have m1 : sm 2000 (-y1) := by unfold sm at *; omega
  have m2 : sm 2000 (-y2) := by unfold sm at *; omega
  have m3 : sm 2000 (-y3) := by unfold sm at *; omega
  have hD := double_ev (A := 2000) (B := 2000) (by omega) s0 s1 s2 s3 t0 m1 m2 m3
  obtain ⟨b0, b1, b2, b3⟩ := D_sm s0 s1 s2 s3 t0 m1 m2 m3
  rw [e0, e1, e2, e3] at hD
  rw [e0] at b0
  rw [e1] at b1
  rw [e2] at b2
  rw [e3] at b3
  generalize L + 2 * K1 = p1 at *
  generalize L + 2 * K2 = p2 at *
  generalize L + 2 * K3 = p3 at *
  have c0 : sm 10000000 L := by unfold sm at *; omega
  have c1 : sm 10000000 p1 := by unfold sm at *; omega
  have c2 : sm 10000000 p2 := by unfold sm at *; omega
  have c3 : sm 10000000 p3 := by unfold sm at *; omega
  have hnorm := norm_ev (A := 2000) (by omega) t0 t1 t2 t3
  rw [hN, Int.mul_comm 4 n, Int.mul_tdiv_cancel _ (by omega)] at hnorm
  obtain ⟨par, q0, q1, q2, q3, hpar, n0, n1, n2, n3, hs, hev⟩ := dl_all (x0 := x0) (x1 := x1) (x2 := x2) (x3 := x3) (y0 := y0) (y1 := y1) (y2 := y2) (y3 := y3) hn hnb c0 c1 c2 c3
  have hq := double_ev (A := 10000001) (B := 2000) (by omega) (near_sm hn c0 n0) (near_sm hn c1 n1) (near_sm hn c2 n2) (near_sm hn c3 n3) t0 t1 t2 t3
  have w : ∀ y : Int, sm 2000 y → wrap64 (-y) = -y := fun y hy => by unfold sm at hy; exact wrap_id (by omega) (by omega)
  have hh : ∀ p : Int, sm 10000000 p → wrap64 (Int.tdiv (2 * p) 2) = p := fun p hp => half_self2 (by unfold sm at *; omega)
  have iq : itg q0 q1 q2 q3 := by
    have := n0.1; have := n1.1; have := n2.1; have := n3.1
    unfold itg; omega
  obtain ⟨M, J1, J2, J3, g0, g1, g2, g3⟩ := D_par iq h3
  obtain ⟨w0, w1, w2, w3⟩ := D_sm (near_sm hn c0 n0) (near_sm hn c1 n1) (near_sm hn c2 n2) (near_sm hn c3 n3) t0 t1 t2 t3
  rw [g0] at w0
  rw [g1] at w1
  rw [g2] at w2
  rw [g3] at w3
  have ir : itg (x0 - M) (x1 - (M + 2 * J1)) (x2 - (M + 2 * J2)) (x3 - (M + 2 * J3)) := by unfold itg at *; omega
  have hrem := rem_norm hN g0 g1 g2 g3 e0 e1 e2 e3
  have hfar : far L p1 p2 p3 n q0 q1 q2 q3 ≤ 2 * (n * n) := by
    obtain ⟨a0, _, na0⟩ := nearest_ev hn hnb c0 (par := 0) (.inl rfl)
    obtain ⟨a1, _, na1⟩ := nearest_ev hn hnb c1 (par := 0) (.inl rfl)
    obtain ⟨a2, _, na2⟩ := nearest_ev hn hnb c2 (par := 0) (.inl rfl)
    obtain ⟨a3, _, na3⟩ := nearest_ev hn hnb c3 (par := 0) (.inl rfl)
    obtain ⟨d0, _, nb0⟩ := nearest_ev hn hnb c0 (par := 1) (.inr rfl)
    obtain ⟨d1, _, nb1⟩ := nearest_ev hn hnb c1 (par := 1) (.inr rfl)
    obtain ⟨d2, _, nb2⟩ := nearest_ev hn hnb c2 (par := 1) (.inr rfl)
    obtain ⟨d3, _, nb3⟩ := nearest_ev hn hnb c3 (par := 1) (.inr rfl)
    have le : ∀ (par' c0' c1' c2' c3' : Int), (par' = 0 ∨ par' = 1) → Near L n par' c0' → Near p1 n par' c1' → Near p2 n par' c2' → Near p3 n par' c3' → far L p1 p2 p3 n q0 q1 q2 q3 ≤ far L p1 p2 p3 n c0' c1' c2' c3' := fun par' c0' c1' c2' c3' hp k0 k1 k2 k3 => by
      obtain ⟨v0, _, l0⟩ := below_ev hn hnb c0 hp
      obtain ⟨v1, _, l1⟩ := below_ev hn hnb c1 hp
      obtain ⟨v2, _, l2⟩ := below_ev hn hnb c2 hp
      obtain ⟨v3, _, l3⟩ := below_ev hn hnb c3 hp
      rcases hs par' v0 v1 v2 v3 c0' c1' c2' c3' hp l0 l1 l2 l3 (near_low hn k0 l0) (near_low hn k1 l1) (near_low hn k2 l2) (near_low hn k3 l3) with ⟨rfl, rfl, rfl, rfl⟩ | h
      · exact Int.le_refl _
      · unfold Better at h; omega
    have f1 := le 0 a0 a1 a2 a3 (.inl rfl) na0 na1 na2 na3
    have f2 := le 1 d0 d1 d2 d3 (.inr rfl) nb0 nb1 nb2 nb3
    rcases far_half hn na0 na1 na2 na3 nb0 nb1 nb2 nb3 with h | h <;> omega
  have hle : 2 * N4 (x0 - M) (x1 - (M + 2 * J1)) (x2 - (M + 2 * J2)) (x3 - (M + 2 * J3)) ≤ N4 y0 y1 y2 y3 := by
    rw [hN]
    rcases Int.lt_or_le (2 * n) (N4 (x0 - M) (x1 - (M + 2 * J1)) (x2 - (M + 2 * J2)) (x3 - (M + 2 * J3))) with c | c
    · exfalso
      have : (2 * n + 1) * n ≤ N4 (x0 - M) (x1 - (M + 2 * J1)) (x2 - (M + 2 * J2)) (x3 - (M + 2 * J3)) * n := Int.mul_le_mul_of_nonneg_right (by omega) (by omega)
      have e : (2 * n + 1) * n = 2 * (n * n) + n := by grind
      omega
    · omega
  have eans : answer x0 x1 x2 x3 q0 q1 q2 q3 (D0 q0 q1 q2 q3 y0 y1 y2 y3, D1 q0 q1 q2 q3 y0 y1 y2 y3, D2 q0 q1 q2 q3 y0 y1 y2 y3, D3 q0 q1 q2 q3 y0 y1 y2 y3) = (q0, q1, q2, q3, x0 - M, x1 - (M + 2 * J1), x2 - (M + 2 * J2), x3 - (M + 2 * J3)) := by
    unfold answer
    unfold sm at w0 w1 w2 w3 s0 s1 s2 s3
    dsimp only
    rw [g0, g1, g2, g3, tdiv_two, tdiv_two, tdiv_two, tdiv_two]
    rw [wrap_id (x := M) (by omega) (by omega), wrap_id (x := M + 2 * J1) (by omega) (by omega), wrap_id (x := M + 2 * J2) (by omega) (by omega), wrap_id (x := M + 2 * J3) (by omega) (by omega), wrap_id (x := x0 - M) (by omega) (by omega), wrap_id (x := x1 - (M + 2 * J1)) (by omega) (by omega), wrap_id (x := x2 - (M + 2 * J2)) (by omega) (by omega), wrap_id (x := x3 - (M + 2 * J3)) (by omega) (by omega)]
  refine ⟨q0, q1, q2, q3, _, _, _, _, _, _, _, _, ?_, iq, ir, hle, ⟨g0, g1, g2, g3⟩, rfl, rfl, rfl, rfl⟩
  rw [← eans]
  unfold norm_divide.f
  refine Ev.bindc hnorm (Ev.bindc (x := (y0, -y1, -y2, -y3)) ?_ (Ev.bindc hD (hev _ hq)))
  unfold norm_quat_conj.f
  rw [w y1 t1, w y2 t2, w y3 t3]
end Go.Proofs.Ytgfnmimfoicmmaa.Pure
