/- NormDivision in plain Lean: x is q y + r, and the norm of r is at most half of y's. -/
import Derived.Test.YtgfnmimfoicmmaaPMx42
import Derived.Test.YtgfnmimfoicmmaaMadeE
import Derived.Test.YtgfnmimfoicmmaaDivideI
set_option linter.unusedVariables false
set_option linter.unusedSimpArgs false
namespace Go.Proofs.Ytgfnmimfoicmmaa.Pure
open Go.RowKit Go.Proofs.Ytgfnmimfoicmmaa.PM Go.Proofs.YtgfnmimfoicmmaaW.PrintWords Go.Proofs.YtgfnmimfoicmmaaW.PrintLast

theorem sq_nn (x : Int) : 0 ≤ x * x := by
  rcases Int.le_total 0 x with h | h
  · exact Int.mul_nonneg h h
  · have := Int.mul_nonneg (show 0 ≤ -x by omega) (show 0 ≤ -x by omega)
    rwa [Int.neg_mul_neg] at this
theorem sq_sm {q B : Int} (hB : 0 ≤ B) (h : q * q ≤ B * B) : sm B q := by
  unfold sm
  have e : (B + 1) * (B + 1) = B * B + 2 * B + 1 := by grind
  constructor
  · rcases Int.lt_or_le q (-B) with h0 | h0
    · have h1 : B + 1 ≤ -q := by omega
      have := Int.mul_le_mul h1 h1 (by omega) (by omega)
      rw [Int.neg_mul_neg] at this; omega
    · exact h0
  · rcases Int.lt_or_le B q with h0 | h0
    · have h1 : B + 1 ≤ q := by omega
      have := Int.mul_le_mul h1 h1 (by omega) (by omega)
      omega
    · exact h0
theorem N4_sm {a b c d B : Int} (hB : 0 ≤ B) (h : N4 a b c d ≤ B * B) : sm B a ∧ sm B b ∧ sm B c ∧ sm B d := by
  unfold N4 at h
  have h0 := sq_nn a; have h1 := sq_nn b; have h2 := sq_nn c; have h3 := sq_nn d
  exact ⟨sq_sm hB (by omega), sq_sm hB (by omega), sq_sm hB (by omega), sq_sm hB (by omega)⟩
theorem N4_le {a b c d B : Int} (ha : sm B a) (hb : sm B b) (hc : sm B c) (hd : sm B d) : N4 a b c d ≤ 4 * (B * B) := by
  have q0 := mul_sm ha ha; have q1 := mul_sm hb hb; have q2 := mul_sm hc hc; have q3 := mul_sm hd hd
  unfold sm N4 at *
  omega
theorem quot_bd {q0 q1 q2 q3 y0 y1 y2 y3 m0 m1 m2 m3 B : Int} (hB : 0 ≤ B) (h0 : ¬ (y0 = 0 ∧ y1 = 0 ∧ y2 = 0 ∧ y3 = 0))
    (e : D0 q0 q1 q2 q3 y0 y1 y2 y3 = 2 * m0 ∧ D1 q0 q1 q2 q3 y0 y1 y2 y3 = 2 * m1 ∧ D2 q0 q1 q2 q3 y0 y1 y2 y3 = 2 * m2 ∧ D3 q0 q1 q2 q3 y0 y1 y2 y3 = 2 * m3)
    (hm : sm B m0 ∧ sm B m1 ∧ sm B m2 ∧ sm B m3) : sm (4 * B) q0 ∧ sm (4 * B) q1 ∧ sm (4 * B) q2 ∧ sm (4 * B) q3 := by
  have he := euler q0 q1 q2 q3 y0 y1 y2 y3
  rw [e.1, e.2.1, e.2.2.1, e.2.2.2] at he
  have hl := N4_le hm.1 hm.2.1 hm.2.2.1 hm.2.2.2
  have h4 : N4 (2 * m0) (2 * m1) (2 * m2) (2 * m3) = 4 * N4 m0 m1 m2 m3 := by unfold N4; grind
  have hp : 1 ≤ N4 y0 y1 y2 y3 := by
    have a0 := sq_nn y0; have a1 := sq_nn y1; have a2 := sq_nn y2; have a3 := sq_nn y3
    rcases Int.lt_or_le 0 (N4 y0 y1 y2 y3) with h | h
    · omega
    · exfalso; unfold N4 at h
      have z : ∀ x : Int, x * x = 0 → x = 0 := fun x hx => by rcases Int.mul_eq_zero.mp hx with h | h <;> exact h
      exact h0 ⟨z _ (by omega), z _ (by omega), z _ (by omega), z _ (by omega)⟩
  have hq : 0 ≤ N4 q0 q1 q2 q3 := by have a0 := sq_nn q0; have a1 := sq_nn q1; have a2 := sq_nn q2; have a3 := sq_nn q3; unfold N4; omega
  have hle := Int.mul_le_mul_of_nonneg_left hp hq
  refine N4_sm (by omega) ?_
  have e4 : 4 * B * (4 * B) = 16 * (B * B) := by grind
  rw [Int.mul_one] at hle
  omega
theorem NormDivision : ∀ (a0_0 a0_1 a0_2 a0_3 a1_0 a1_1 a1_2 a1_3 : Int), (Lit.int .i16 a0_0).wf = true → (Lit.int .i16 a0_1).wf = true → (Lit.int .i16 a0_2).wf = true → (Lit.int .i16 a0_3).wf = true → (Lit.int .i16 a1_0).wf = true → (Lit.int .i16 a1_1).wf = true → (Lit.int .i16 a1_2).wf = true → (Lit.int .i16 a1_3).wf = true → ∃ k, bellpulllaw04_NormDivision.f k a0_0 a0_1 a0_2 a0_3 a1_0 a1_1 a1_2 a1_3 = some true := by
  intro x0 x1 x2 x3 y0 y1 y2 y3 w0 w1 w2 w3 v0 v1 v2 v3
  refine Ev.rounds ?_
  have p0 := mk_ok (M := 1000) (by omega) x0 x0; have p1 := mk_ok (M := 1000) (by omega) x1 x0; have p2 := mk_ok (M := 1000) (by omega) x2 x0; have p3 := mk_ok (M := 1000) (by omega) x3 x0
  have q0 := mk_ok (M := 40) (by omega) y0 y0; have q1 := mk_ok (M := 40) (by omega) y1 y0; have q2 := mk_ok (M := 40) (by omega) y2 y0; have q3 := mk_ok (M := 40) (by omega) y3 y0
  have hp := made_ev (M := 1000) (by omega) (by omega) (wf_i16 w0) (wf_i16 w1) (wf_i16 w2) (wf_i16 w3)
  have hq := made_ev (M := 40) (by omega) (by omega) (wf_i16 v0) (wf_i16 v1) (wf_i16 v2) (wf_i16 v3)
  unfold bellpulllaw04_NormDivision.f
  generalize mk 1000 x0 x0 = a at *
  generalize mk 1000 x1 x0 = b at *
  generalize mk 1000 x2 x0 = c at *
  generalize mk 1000 x3 x0 = d at *
  generalize mk 40 y0 y0 = e at *
  generalize mk 40 y1 y0 = f at *
  generalize mk 40 y2 y0 = g at *
  generalize mk 40 y3 y0 = h at *
  have i1 : itg a b c d := by unfold itg; omega
  have i2 : itg e f g h := by unfold itg; omega
  have r1 : rng a b c d := by unfold rng; omega
  have r2 : rng e f g h := by unfold rng; omega
  have s1 : sm 1000 a ∧ sm 1000 b ∧ sm 1000 c ∧ sm 1000 d := sm_of r1
  have s2 : sm 40 e ∧ sm 40 f ∧ sm 40 g ∧ sm 40 h := by unfold sm; omega
  have hc := chk2_ok i1 r1 i2 r2
  have hk := check_ev [⟨a, b, c, d⟩, ⟨e, f, g, h⟩] (by simp)
  rw [hc] at hk
  clear p0 p1 p2 p3 q0 q1 q2 q3 w0 w1 w2 w3 v0 v1 v2 v3
  refine Ev.bind hp (Ev.bind hq ?_)
  by_cases h0 : e = 0 ∧ f = 0 ∧ g = 0 ∧ h = 0
  · obtain ⟨rfl, rfl, rfl, rfl⟩ := h0
    have hd : Ev (fun k => norm_Divide.f k a b c d 0 0 0 0) (0, 0, 0, 0, 0, 0, 0, 0, 5) := by
      unfold norm_Divide.f
      exact Ev.bind hk (Ev.pos rfl (Ev.bindc rfl (Ev.pos (by simp) (Ev.now _))))
    exact Ev.pos (by simp) (Ev.bind hd (Ev.pos rfl (Ev.bind lives_ev (Ev.now _))))
  · have hz : ¬ ((e == 0 && (f == 0 && (g == 0 && (h == 0)))) = true) := by simp; omega
    have le2 : ∀ x : Int, sm 1000 x → sm 2000 x := fun x hx => by unfold sm at *; omega
    have le3 : ∀ x : Int, sm 40 x → sm 2000 x := fun x hx => by unfold sm at *; omega
    have hN := N4_le s2.1 s2.2.1 s2.2.2.1 s2.2.2.2
    obtain ⟨q0, q1, q2, q3, t0, t1, t2, t3, m0, m1, m2, m3, d1, _, iq, it, hn, hD, hr⟩ := both_divide2 i1 (le2 _ s1.1) (le2 _ s1.2.1) (le2 _ s1.2.2.1) (le2 _ s1.2.2.2) i2 (le3 _ s2.1) (le3 _ s2.2.1) (le3 _ s2.2.2.1) (le3 _ s2.2.2.2) (by omega) h0
    have st : sm 80 t0 ∧ sm 80 t1 ∧ sm 80 t2 ∧ sm 80 t3 := N4_sm (by omega) (by omega)
    have smm : sm 1080 m0 ∧ sm 1080 m1 ∧ sm 1080 m2 ∧ sm 1080 m3 := by unfold sm at *; omega
    obtain ⟨u0, u1, u2, u3⟩ := quot_bd (by omega) h0 hD smm
    have hM := refMul_ev (A := 4 * 1080) (B := 40) (by omega) u0 u1 u2 u3 s2.1 s2.2.1 s2.2.2.1 s2.2.2.2
    rw [hD.1, hD.2.1, hD.2.2.1, hD.2.2.2, tdiv_two, tdiv_two, tdiv_two, tdiv_two] at hM
    have rt : rng t0 t1 t2 t3 := by unfold rng sm at *; omega
    have hd : Ev (fun k => norm_Divide.f k a b c d e f g h) (q0, q1, q2, q3, t0, t1, t2, t3, 0) := by
      unfold norm_Divide.f
      exact Ev.bind hk (Ev.pos rfl (Ev.bindc rfl (Ev.neg hz (Ev.bindc rfl (Ev.bindc rfl (Ev.bind d1 (Ev.bindc rfl (Ev.bindc rfl (Ev.now _)))))))))
    refine Ev.neg hz (Ev.bind hd (Ev.pos rfl (Ev.bind (refCheck_ev _ (by simp)) (Ev.pos (chk1_ok it rt) (Ev.bind lives_ev (Ev.succ ?_))))))
    simp only [bellpulllaw04_NormDivision.j0]
    have nt := norm_ev (A := 80) (by omega) st.1 st.2.1 st.2.2.1 st.2.2.2
    have ny := norm_ev (A := 40) (by omega) s2.1 s2.2.1 s2.2.2.1 s2.2.2.2
    obtain ⟨n1, hn1⟩ := N4_par it
    obtain ⟨n2, hn2⟩ := N4_par i2
    rw [hn1, Int.mul_comm, Int.mul_tdiv_cancel _ (by omega)] at nt
    rw [hn2, Int.mul_comm, Int.mul_tdiv_cancel _ (by omega)] at ny
    have hnt := N4_le st.1 st.2.1 st.2.2.1 st.2.2.2
    have hnt0 : 0 ≤ N4 t0 t1 t2 t3 := by have a0 := sq_nn t0; have a1 := sq_nn t1; have a2 := sq_nn t2; have a3 := sq_nn t3; unfold N4; omega
    unfold itg at iq
    simp only [bit1]
    have ex : ∀ {m t x : Int}, sm 1080 m → sm 1000 x → t = x - m → wrap64 (wrap64 m + t) = x := fun {m t x} hm hx ht => by
      subst ht; unfold sm at *; rw [wrap_id (x := m) (by omega) (by omega), wrap_id (by omega) (by omega)]; omega
    refine Ev.neg (by simp) (Ev.bindc hM (Ev.pos (by omega) (Ev.pos (by omega) (Ev.pos (by omega) (Ev.pos ?_ (Ev.bindc nt (Ev.bindc ny ?_)))))))
    · simp only [ex smm.1 s1.1 hr.1, ex smm.2.1 s1.2.1 hr.2.1, ex smm.2.2.1 s1.2.2.1 hr.2.2.1, ex smm.2.2.2 s1.2.2.2 hr.2.2.2, beq_self_eq_true, Bool.and_self]
    · have hw : wrap64 (2 * n1) = 2 * n1 := wrap_id (by omega) (by omega)
      rw [hw, decide_eq_true (by omega)]
      exact Ev.now _
end Go.Proofs.Ytgfnmimfoicmmaa.Pure
