/- NormDivisor in plain Lean: Gcd is a greatest common right divisor. -/
import Derived.Test.YtgfnmimfoicmmaaPMx5
import Derived.Test.YtgfnmimfoicmmaaPMx6
import Derived.Test.YtgfnmimfoicmmaaPMx21
import Derived.Test.YtgfnmimfoicmmaaPMx43
import Derived.Test.YtgfnmimfoicmmaaPMx44
import Derived.Test.YtgfnmimfoicmmaaMadeE
import Derived.Test.YtgfnmimfoicmmaaGcdH
set_option linter.unusedVariables false
set_option linter.unusedSimpArgs false
namespace Go.Proofs.Ytgfnmimfoicmmaa.Pure
open Go.RowKit Go.Proofs.Ytgfnmimfoicmmaa.PM Go.Proofs.YtgfnmimfoicmmaaW.PrintWords Go.Proofs.YtgfnmimfoicmmaaW.PrintLast
open Go.Proofs.Ytgfnmimfoicmmaa.Dv

theorem divides_ev {g0 g1 g2 g3 a0 a1 a2 a3 : Int} (h1 : itg a0 a1 a2 a3) (h2 : rng a0 a1 a2 a3) (h3 : itg g0 g1 g2 g3) (h4 : rng g0 g1 g2 g3) (h : RD g0 g1 g2 g3 a0 a1 a2 a3) : Ev (fun k => bellpulllaw04_divides.f k g0 g1 g2 g3 a0 a1 a2 a3) true := by
  unfold bellpulllaw04_divides.f
  by_cases h0 : g0 = 0 ∧ g1 = 0 ∧ g2 = 0 ∧ g3 = 0
  · obtain ⟨rfl, rfl, rfl, rfl⟩ := h0
    obtain ⟨rfl, rfl, rfl, rfl⟩ := RD_of_zero h
    exact Ev.pos (by simp) (Ev.now _)
  · have hz : ¬ ((g0 == 0 && (g1 == 0 && (g2 == 0 && (g3 == 0)))) = true) := by simp; omega
    have hk := check_ev [⟨a0, a1, a2, a3⟩, ⟨g0, g1, g2, g3⟩] (by simp)
    rw [chk2_ok h1 h2 h3 h4] at hk
    have up : ∀ x : Int, -1000 ≤ x ∧ x ≤ 1000 → sm 2000 x := fun x hx => by unfold sm; omega
    have hN : N4 g0 g1 g2 g3 ≤ 4000000 := by
      have := N4_le2 (B := 1000) h4.1 h4.2.1 h4.2.2.1 h4.2.2.2
      omega
    obtain ⟨q0, q1, q2, q3, r0, r1, r2, r3, m0, m1, m2, m3, d1, iq, ir, hle, hD, rfl, rfl, rfl, rfl⟩ := one_divide2 h1 (up _ h2.1) (up _ h2.2.1) (up _ h2.2.2.1) (up _ h2.2.2.2) h3 (up _ h4.1) (up _ h4.2.1) (up _ h4.2.2.1) (up _ h4.2.2.2) hN h0
    obtain ⟨z0, z1, z2, z3⟩ := rem_zero h iq hD h0 hle
    have hd : Ev (fun k => norm_Divide.f k a0 a1 a2 a3 g0 g1 g2 g3) (q0, q1, q2, q3, a0 - m0, a1 - m1, a2 - m2, a3 - m3, 0) := by
      unfold norm_Divide.f
      exact Ev.bind hk (Ev.pos rfl (Ev.bindc rfl (Ev.neg hz (Ev.bindc rfl (Ev.bindc rfl (Ev.bind d1 (Ev.bindc rfl (Ev.bindc rfl (Ev.now _)))))))))
    refine Ev.neg hz (Ev.bind hd (Ev.pos rfl ?_))
    dsimp only
    rw [z0, z1, z2, z3]
    exact Ev.now _
theorem rng_of_sm {a b c d : Int} (h : sm 1000 a ∧ sm 1000 b ∧ sm 1000 c ∧ sm 1000 d) : rng a b c d := h
theorem NormDivisor : ∀ (a0_0 a0_1 a0_2 a0_3 a1_0 a1_1 a1_2 a1_3 a2_0 a2_1 a2_2 a2_3 : Int), (Lit.int .i16 a0_0).wf = true → (Lit.int .i16 a0_1).wf = true → (Lit.int .i16 a0_2).wf = true → (Lit.int .i16 a0_3).wf = true → (Lit.int .i16 a1_0).wf = true → (Lit.int .i16 a1_1).wf = true → (Lit.int .i16 a1_2).wf = true → (Lit.int .i16 a1_3).wf = true → (Lit.int .i16 a2_0).wf = true → (Lit.int .i16 a2_1).wf = true → (Lit.int .i16 a2_2).wf = true → (Lit.int .i16 a2_3).wf = true → ∃ k, bellpulllaw04_NormDivisor.f k a0_0 a0_1 a0_2 a0_3 a1_0 a1_1 a1_2 a1_3 a2_0 a2_1 a2_2 a2_3 = some true := by
  intro x0 x1 x2 x3 y0 y1 y2 y3 z0 z1 z2 z3 w0 w1 w2 w3 v0 v1 v2 v3 u0 u1 u2 u3
  refine Ev.rounds ?_
  have p0 := mk_ok (M := 15) (by omega) x0 x0; have p1 := mk_ok (M := 15) (by omega) x1 x0; have p2 := mk_ok (M := 15) (by omega) x2 x0; have p3 := mk_ok (M := 15) (by omega) x3 x0
  have q0 := mk_ok (M := 15) (by omega) y0 y0; have q1 := mk_ok (M := 15) (by omega) y1 y0; have q2 := mk_ok (M := 15) (by omega) y2 y0; have q3 := mk_ok (M := 15) (by omega) y3 y0
  have s0 := mk_ok (M := 15) (by omega) z0 z0; have s1 := mk_ok (M := 15) (by omega) z1 z0; have s2 := mk_ok (M := 15) (by omega) z2 z0; have s3 := mk_ok (M := 15) (by omega) z3 z0
  have hp := made_ev (M := 15) (by omega) (by omega) (wf_i16 w0) (wf_i16 w1) (wf_i16 w2) (wf_i16 w3)
  have hq := made_ev (M := 15) (by omega) (by omega) (wf_i16 v0) (wf_i16 v1) (wf_i16 v2) (wf_i16 v3)
  have hs := made_ev (M := 15) (by omega) (by omega) (wf_i16 u0) (wf_i16 u1) (wf_i16 u2) (wf_i16 u3)
  unfold bellpulllaw04_NormDivisor.f
  generalize mk 15 x0 x0 = p at *
  generalize mk 15 x1 x0 = p' at *
  generalize mk 15 x2 x0 = p'' at *
  generalize mk 15 x3 x0 = p''' at *
  generalize mk 15 y0 y0 = q at *
  generalize mk 15 y1 y0 = q' at *
  generalize mk 15 y2 y0 = q'' at *
  generalize mk 15 y3 y0 = q''' at *
  generalize mk 15 z0 z0 = e at *
  generalize mk 15 z1 z0 = f at *
  generalize mk 15 z2 z0 = g at *
  generalize mk 15 z3 z0 = h at *
  have i1 : itg p p' p'' p''' := by unfold itg; omega
  have i2 : itg q q' q'' q''' := by unfold itg; omega
  have i3 : itg e f g h := by unfold itg; omega
  have t1 : sm 15 p ∧ sm 15 p' ∧ sm 15 p'' ∧ sm 15 p''' := by unfold sm; omega
  have t2 : sm 15 q ∧ sm 15 q' ∧ sm 15 q'' ∧ sm 15 q''' := by unfold sm; omega
  have t3 : sm 15 e ∧ sm 15 f ∧ sm 15 g ∧ sm 15 h := by unfold sm; omega
  clear p0 p1 p2 p3 q0 q1 q2 q3 s0 s1 s2 s3 w0 w1 w2 w3 v0 v1 v2 v3 u0 u1 u2 u3
  have prod : ∀ a b c d : Int, itg a b c d → sm 15 a ∧ sm 15 b ∧ sm 15 c ∧ sm 15 d → ∃ m0 m1 m2 m3 : Int, bellpullref04_Mul.f a b c d e f g h = some (m0, m1, m2, m3) ∧ itg m0 m1 m2 m3 ∧ RD e f g h m0 m1 m2 m3 ∧ (sm 450 m0 ∧ sm 450 m1 ∧ sm 450 m2 ∧ sm 450 m3) := fun a b c d ia sa => by
    obtain ⟨L, K1, K2, K3, e0, e1, e2, e3⟩ := D_par ia i3
    obtain ⟨b0, b1, b2, b3⟩ := D_sm sa.1 sa.2.1 sa.2.2.1 sa.2.2.2 t3.1 t3.2.1 t3.2.2.1 t3.2.2.2
    have hM := refMul_ev (A := 15) (B := 15) (by omega) sa.1 sa.2.1 sa.2.2.1 sa.2.2.2 t3.1 t3.2.1 t3.2.2.1 t3.2.2.2
    rw [e0] at b0
    rw [e1] at b1
    rw [e2] at b2
    rw [e3] at b3
    unfold sm at b0 b1 b2 b3
    rw [e0, e1, e2, e3, tdiv_two, tdiv_two, tdiv_two, tdiv_two] at hM
    rw [wrap_id (x := L) (by omega) (by omega), wrap_id (x := L + 2 * K1) (by omega) (by omega), wrap_id (x := L + 2 * K2) (by omega) (by omega), wrap_id (x := L + 2 * K3) (by omega) (by omega)] at hM
    exact ⟨_, _, _, _, hM, by unfold itg; omega, ⟨a, b, c, d, ia, e0, e1, e2, e3⟩, by unfold sm; omega⟩
  obtain ⟨a0, a1, a2, a3, ma, ia, da, sa⟩ := prod _ _ _ _ i1 t1
  obtain ⟨c0, c1, c2, c3, mc, ic, dc, sc⟩ := prod _ _ _ _ i2 t2
  clear prod
  have ra : rng a0 a1 a2 a3 := rng_of_sm (by unfold sm at *; omega)
  have rc : rng c0 c1 c2 c3 := rng_of_sm (by unfold sm at *; omega)
  have rd : rng e f g h := rng_of_sm (by unfold sm at *; omega)
  refine Ev.bind hp (Ev.bind hq (Ev.bind hs (Ev.bindc ma (Ev.bindc mc ?_))))
  have key : ¬ ((a0 = 0 ∧ a1 = 0 ∧ a2 = 0 ∧ a3 = 0) ∧ c0 = 0 ∧ c1 = 0 ∧ c2 = 0 ∧ c3 = 0) → Ev (fun k => bellpulllaw04_NormDivisor.j0 k false e f g h a0 a1 a2 a3 c0 c1 c2 c3) true := fun h0 => by
    obtain ⟨g0, g1, g2, g3, hg, ig, k1, k2, k3, _⟩ := Gcd_ev ia ra ic rc h0
    have hN : N4 g0 g1 g2 g3 ≤ 900 * 900 := by
      have la := N4_le2 sa.1 sa.2.1 sa.2.2.1 sa.2.2.2
      have lc := N4_le2 sc.1 sc.2.1 sc.2.2.1 sc.2.2.2
      by_cases ha : a0 = 0 ∧ a1 = 0 ∧ a2 = 0 ∧ a3 = 0
      · have := RD_N4 k2 (fun hc => h0 ⟨ha, hc⟩)
        omega
      · have := RD_N4 k1 ha
        omega
    have sg := N4_sm2 (by omega) hN
    have rg : rng g0 g1 g2 g3 := rng_of_sm (by unfold sm at *; omega)
    refine Ev.succ ?_
    simp only [bellpulllaw04_NormDivisor.j0]
    refine Ev.neg (by simp) (Ev.bind hg (Ev.pos rfl (Ev.bind (refCheck_ev _ (by simp)) (Ev.pos (chk1_ok ig rg) (Ev.bind (divides_ev ia ra ig rg k1) (Ev.pos rfl (Ev.bind (divides_ev ic rc ig rg k2) (Ev.pos rfl (Ev.bind (divides_ev ig rg i3 rd (k3 _ _ _ _ da dc)) (Ev.pos rfl (Ev.bind lives_ev (Ev.succ ?_))))))))))))
    simp only [bellpulllaw04_NormDivisor.j1]
    refine Ev.neg (by simp) ?_
    by_cases ha : a0 = 0 ∧ a1 = 0 ∧ a2 = 0 ∧ a3 = 0
    · obtain ⟨rfl, rfl, rfl, rfl⟩ := ha
      exact Ev.pos (by simp) (Ev.now _)
    · have i0 : itg 0 0 0 0 := by unfold itg; omega
      have r0 : rng 0 0 0 0 := by unfold rng; omega
      obtain ⟨h0', h1', h2', h3', hh, ih, m1, _, _, m4⟩ := Gcd_ev ia ra i0 r0 (fun x => ha x.1)
      obtain ⟨hn, hl⟩ := m4 ⟨rfl, rfl, rfl, rfl⟩
      have la := N4_le2 sa.1 sa.2.1 sa.2.2.1 sa.2.2.2
      have sh : sm 900 h0' ∧ sm 900 h1' ∧ sm 900 h2' ∧ sm 900 h3' := N4_sm2 (by omega) (by omega)
      have rh : rng h0' h1' h2' h3' := rng_of_sm (by unfold sm at *; omega)
      have nh := norm_ev (A := 900) (by omega) sh.1 sh.2.1 sh.2.2.1 sh.2.2.2
      have na := norm_ev (A := 450) (by omega) sa.1 sa.2.1 sa.2.2.1 sa.2.2.2
      obtain ⟨t, ht1, ht2⟩ := Less_ev h0' h1' h2' h3' a0 a1 a2 a3
      have ht : t = false := by
        cases t with
        | false => rfl
        | true => exact absurd (ht2.mp rfl) hl
      subst ht
      refine Ev.neg (by simp; omega) (Ev.bind hh (Ev.pos rfl (Ev.bindc nh (Ev.bindc na (Ev.pos (by rw [hn]) (Ev.bind (divides_ev ia ra ih rh m1) (Ev.pos rfl (Ev.bind ht1 (Ev.now _)))))))))
  by_cases ha : (a0 == 0 && (a1 == 0 && (a2 == 0 && (a3 == 0)))) = true
  · refine Ev.pos ha ?_
    by_cases hc : (c0 == 0 && (c1 == 0 && (c2 == 0 && (c3 == 0)))) = true
    · have hk := check_ev [⟨a0, a1, a2, a3⟩, ⟨c0, c1, c2, c3⟩] (by simp)
      rw [chk2_ok ia ra ic rc] at hk
      have hg : Ev (fun k => norm_Gcd.f k a0 a1 a2 a3 c0 c1 c2 c3) (0, 0, 0, 0, 5) := by
        unfold norm_Gcd.f
        refine Ev.bind hk (Ev.pos rfl (Ev.bindc rfl (Ev.bindc rfl (Ev.pos ha (Ev.succ ?_)))))
        simp only [norm_Gcd.j0]
        exact Ev.pos hc (Ev.now _)
      dsimp only
      rw [hc]
      refine Ev.succ ?_
      simp only [bellpulllaw04_NormDivisor.j0]
      exact Ev.pos trivial (Ev.bind hg (Ev.pos rfl (Ev.bind lives_ev (Ev.now _))))
    · dsimp only
      rw [Bool.eq_false_iff.mpr hc]
      refine key (fun hh => hc ?_)
      obtain ⟨_, rfl, rfl, rfl, rfl⟩ := hh
      rfl
  · refine Ev.neg ha (key (fun hh => ha ?_))
    obtain ⟨⟨rfl, rfl, rfl, rfl⟩, _⟩ := hh
    rfl
end Go.Proofs.Ytgfnmimfoicmmaa.Pure
