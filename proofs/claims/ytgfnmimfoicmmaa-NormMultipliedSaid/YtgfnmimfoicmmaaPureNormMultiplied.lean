import Derived.Test.YtgfnmimfoicmmaaPMx7
import Derived.Test.YtgfnmimfoicmmaaPMx23
import Derived.Test.YtgfnmimfoicmmaaPMx32
import Derived.Test.YtgfnmimfoicmmaaAlgS
import Derived.Test.YtgfnmimfoicmmaaMadeE
set_option linter.unusedVariables false
set_option linter.unusedSimpArgs false
namespace Go.Proofs.Ytgfnmimfoicmmaa.Pure
open Go.RowKit Go.Proofs.Ytgfnmimfoicmmaa.PM Go.Proofs.YtgfnmimfoicmmaaW.PrintWords Go.Proofs.YtgfnmimfoicmmaaW.PrintLast

theorem neg_itg {a b c d : Int} (h : itg a b c d) : itg a (-b) (-c) (-d) := by unfold itg at *; omega
theorem neg_rng {a b c d : Int} (h : rng a b c d) : rng a (-b) (-c) (-d) := by unfold rng at *; omega
theorem Conj_small {a b c d : Int} (hi : itg a b c d) (hr : rng a b c d) : Ev (fun k => norm_Conj.f k a b c d) (a, -b, -c, -d, 0) := by
  have h := Conj_yes (chk1_ok hi hr)
  obtain ⟨_, hb, hc, hd⟩ := hr
  rwa [wrap_id (x := -b) (by omega) (by omega), wrap_id (x := -c) (by omega) (by omega), wrap_id (x := -d) (by omega) (by omega)] at h
theorem Mul_half {a b c d e f g h m0 m1 m2 m3 : Int} (h1 : itg a b c d) (h2 : rng a b c d) (h3 : itg e f g h) (h4 : rng e f g h) (e0 : D0 a b c d e f g h = 2 * m0) (e1 : D1 a b c d e f g h = 2 * m1) (e2 : D2 a b c d e f g h = 2 * m2) (e3 : D3 a b c d e f g h = 2 * m3)
    (hm : sm 1000000 m0 ∧ sm 1000000 m1 ∧ sm 1000000 m2 ∧ sm 1000000 m3) : Ev (fun k => norm_Mul.f k a b c d e f g h) (m0, m1, m2, m3, 0) := by
  have hM := Mul_ev h1 h2 h3 h4
  rw [e0, e1, e2, e3, tdiv_two, tdiv_two, tdiv_two, tdiv_two] at hM
  unfold sm at hm
  obtain ⟨s0, s1, s2, s3⟩ := hm
  rwa [wrap_id (x := m0) (by omega) (by omega), wrap_id (x := m1) (by omega) (by omega), wrap_id (x := m2) (by omega) (by omega), wrap_id (x := m3) (by omega) (by omega)] at hM
theorem Norm_small {a b c d n : Int} (hi : itg a b c d) (hr : rng a b c d) (hn : N4 a b c d = 4 * n) : Ev (fun k => norm_Norm.f k a b c d) (n, 0) := by
  obtain ⟨s0, s1, s2, s3⟩ := sm_of hr
  have h := norm_ev (A := 1000) (by omega) s0 s1 s2 s3
  rw [hn, Int.mul_comm, Int.mul_tdiv_cancel _ (by omega)] at h
  exact Norm_yes (chk1_ok hi hr) h
theorem half_sm {M m x : Int} (h : sm (4 * M) x) (e : x = 2 * m) : sm (2 * M) m := by unfold sm at *; omega
theorem rng_of {a b c d : Int} (ha : sm 1000 a) (hb : sm 1000 b) (hc : sm 1000 c) (hd : sm 1000 d) : rng a b c d := ⟨ha, hb, hc, hd⟩
theorem sm_le {M L x : Int} (h : sm M x) (hl : M ≤ L) : sm L x := by unfold sm at *; omega
theorem mult_all (a b c d e f g h : Int) (i1 : itg a b c d) (i2 : itg e f g h) (ra : sm 21 a) (rb : sm 21 b) (rc : sm 21 c) (rd' : sm 21 d) (re : sm 21 e) (rf : sm 21 f) (rg : sm 21 g) (rh : sm 21 h) :
    ∃ m0 m1 m2 m3 n1 n2 : Int, itg m0 m1 m2 m3 ∧ rng m0 m1 m2 m3 ∧ N4 m0 m1 m2 m3 = 4 * (n1 * n2) ∧ wrap64 (n1 * n2) = n1 * n2 ∧ sm 1000000 (2 * n1) ∧ N4 a b c d = 4 * n1 ∧ N4 e f g h = 4 * n2 ∧
      D0 a b c d e f g h = 2 * m0 ∧ D1 a b c d e f g h = 2 * m1 ∧ D2 a b c d e f g h = 2 * m2 ∧ D3 a b c d e f g h = 2 * m3 := by
  obtain ⟨L, K1, K2, K3, e0, e1, e2, e3⟩ := D_par i1 i2
  obtain ⟨n1, hn1⟩ := N4_par i1
  obtain ⟨n2, hn2⟩ := N4_par i2
  obtain ⟨s0, s1, s2, s3⟩ := D_sm ra rb rc rd' re rf rg rh
  have t0 := sm_le (half_sm s0 e0) (show 2 * (21 * 21) ≤ (1000 : Int) by omega)
  have t1 := sm_le (half_sm s1 e1) (show 2 * (21 * 21) ≤ (1000 : Int) by omega)
  have t2 := sm_le (half_sm s2 e2) (show 2 * (21 * 21) ≤ (1000 : Int) by omega)
  have t3 := sm_le (half_sm s3 e3) (show 2 * (21 * 21) ≤ (1000 : Int) by omega)
  have he := euler a b c d e f g h
  rw [e0, e1, e2, e3, hn1, hn2, N4_twice2] at he
  have bn : ∀ x y z t n : Int, sm 21 x → sm 21 y → sm 21 z → sm 21 t → N4 x y z t = 4 * n → sm 441 n := fun x y z t n hx hy hz ht hn => by
    have q0 := mul_sm hx hx; have q1 := mul_sm hy hy; have q2 := mul_sm hz hz; have q3 := mul_sm ht ht
    unfold sm N4 at *
    omega
  have b1 := bn a b c d n1 ra rb rc rd' hn1
  have b2 := bn e f g h n2 re rf rg rh hn2
  have b3 := mul_sm b1 b2
  refine ⟨_, _, _, _, n1, n2, ?_, rng_of t0 t1 t2 t3, ?_, ?_, ?_, hn1, hn2, e0, e1, e2, e3⟩
  · unfold itg; omega
  · generalize N4 L (L + 2 * K1) (L + 2 * K2) (L + 2 * K3) = z at *
    have : 4 * n1 * (4 * n2) = 4 * (4 * (n1 * n2)) := by grind
    omega
  · unfold sm at b3; exact wrap_id (by omega) (by omega)
  · unfold sm at *; omega
theorem NormMultiplied : ∀ (a0_0 a0_1 a0_2 a0_3 a1_0 a1_1 a1_2 a1_3 : Int), (Lit.int .i16 a0_0).wf = true → (Lit.int .i16 a0_1).wf = true → (Lit.int .i16 a0_2).wf = true → (Lit.int .i16 a0_3).wf = true → (Lit.int .i16 a1_0).wf = true → (Lit.int .i16 a1_1).wf = true → (Lit.int .i16 a1_2).wf = true → (Lit.int .i16 a1_3).wf = true → ∃ k, bellpulllaw04_NormMultiplied.f k a0_0 a0_1 a0_2 a0_3 a1_0 a1_1 a1_2 a1_3 = some true := by
  intro x0 x1 x2 x3 y0 y1 y2 y3 w0 w1 w2 w3 v0 v1 v2 v3
  refine Ev.rounds ?_
  have p0 := mk_ok (M := 21) (by omega) x0 x0; have p1 := mk_ok (M := 21) (by omega) x1 x0; have p2 := mk_ok (M := 21) (by omega) x2 x0; have p3 := mk_ok (M := 21) (by omega) x3 x0
  have q0 := mk_ok (M := 21) (by omega) y0 y0; have q1 := mk_ok (M := 21) (by omega) y1 y0; have q2 := mk_ok (M := 21) (by omega) y2 y0; have q3 := mk_ok (M := 21) (by omega) y3 y0
  have hp := made_ev (M := 21) (by omega) (by omega) (wf_i16 w0) (wf_i16 w1) (wf_i16 w2) (wf_i16 w3)
  have hq := made_ev (M := 21) (by omega) (by omega) (wf_i16 v0) (wf_i16 v1) (wf_i16 v2) (wf_i16 v3)
  unfold bellpulllaw04_NormMultiplied.f
  generalize mk 21 x0 x0 = a at *
  generalize mk 21 x1 x0 = b at *
  generalize mk 21 x2 x0 = c at *
  generalize mk 21 x3 x0 = d at *
  generalize mk 21 y0 y0 = e at *
  generalize mk 21 y1 y0 = f at *
  generalize mk 21 y2 y0 = g at *
  generalize mk 21 y3 y0 = h at *
  have i1 : itg a b c d := by unfold itg; omega
  have i2 : itg e f g h := by unfold itg; omega
  have r1 : rng a b c d := by unfold rng; omega
  have r2 : rng e f g h := by unfold rng; omega
  obtain ⟨m0, m1, m2, m3, n1, n2, im, rm, hm, hw, hs, hn1, hn2, e0, e1, e2, e3⟩ := mult_all a b c d e f g h i1 i2 p0.1 p1.1 p2.1 p3.1 q0.1 q1.1 q2.1 q3.1
  obtain ⟨z0, z1, z2, z3⟩ := sm_of rm
  have s6 : ∀ x : Int, sm 1000 x → sm 1000000 x ∧ sm 1000000 (-x) := fun x hx => by unfold sm at *; omega
  obtain ⟨c0, c1, c2, c3⟩ := conj_conj a b c d e f g h
  obtain ⟨u0, u1, u2, u3⟩ := self_conj a b c d
  have neg2 : ∀ x : Int, -(2 * x) = 2 * (-x) := fun x => by omega
  rw [e0] at c0
  rw [e1, neg2] at c1
  rw [e2, neg2] at c2
  rw [e3, neg2] at c3
  rw [hn1, show 4 * n1 = 2 * (2 * n1) by omega] at u0
  have hz : sm 1000000 0 := by unfold sm; omega
  refine Ev.bind hp (Ev.bind hq (Ev.bind (Mul_half i1 r1 i2 r2 e0 e1 e2 e3 ⟨(s6 _ z0).1, (s6 _ z1).1, (s6 _ z2).1, (s6 _ z3).1⟩) (Ev.bind (Norm_small im rm hm) (Ev.bind (Conj_small im rm) (Ev.bind (Conj_small i1 r1) (Ev.bind (Conj_small i2 r2) ?_))))))
  refine Ev.bind (Mul_half (neg_itg i2) (neg_rng r2) (neg_itg i1) (neg_rng r1) c0 c1 c2 c3 ⟨(s6 _ z0).1, (s6 _ z1).2, (s6 _ z2).2, (s6 _ z3).2⟩) ?_
  refine Ev.bind (Mul_half i1 r1 (neg_itg i1) (neg_rng r1) u0 (u1.trans (by omega : (0 : Int) = 2 * 0)) (u2.trans (by omega : (0 : Int) = 2 * 0)) (u3.trans (by omega : (0 : Int) = 2 * 0)) ⟨hs, hz, hz, hz⟩) ?_
  refine Ev.bind (Norm_small i1 r1 hn1) (Ev.bind (Norm_small i2 r2 hn2) ?_)
  have hw2 : wrap64 (2 * n1) = 2 * n1 := by unfold sm at hs; exact wrap_id (by omega) (by omega)
  refine Ev.pos rfl (Ev.pos rfl (Ev.pos rfl (Ev.pos rfl (Ev.pos rfl (Ev.pos rfl (Ev.pos rfl (Ev.pos rfl (Ev.pos rfl ?_))))))))
  exact Ev.pos hw.symm (Ev.pos (by simp) (Ev.pos (by rw [hw2]; simp) (Ev.bind lives_ev (Ev.now _))))
end Go.Proofs.Ytgfnmimfoicmmaa.Pure
