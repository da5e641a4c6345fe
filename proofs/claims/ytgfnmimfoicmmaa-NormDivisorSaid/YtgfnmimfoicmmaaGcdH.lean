/- norm.Gcd alone: a greatest common right divisor. -/
import Derived.Test.YtgfnmimfoicmmaaPMx0
import Derived.Test.YtgfnmimfoicmmaaPMx3
import Derived.Test.YtgfnmimfoicmmaaPMx5
import Derived.Test.YtgfnmimfoicmmaaPMx6
import Derived.Test.YtgfnmimfoicmmaaGcdG
import Derived.Test.YtgfnmimfoicmmaaDivideJ
set_option linter.unusedVariables false
set_option linter.unusedSimpArgs false
namespace Go.Proofs.Ytgfnmimfoicmmaa.Pure
open Go.RowKit Go.Proofs.Ytgfnmimfoicmmaa.PM Go.Proofs.YtgfnmimfoicmmaaW.PrintWords Go.Proofs.YtgfnmimfoicmmaaW.PrintLast
open Go.Proofs.Ytgfnmimfoicmmaa.Dv

theorem Compare_ev3 (a b c d e f g h : Int) : ∃ t, Ev (fun k => slices_Compare_int_int.f k [a, b, c, d] [e, f, g, h]) t ∧ (0 < t ↔ lt4 e f g h a b c d) := by
  have L := fun (i : Nat) (hi : i < 4) (t : Int) hh => Cmp_loop [a, b, c, d] [e, f, g, h] rfl rfl i hi t hh
  have last : Ev (fun k => slices_Compare_int_int.l0 k [a, b, c, d] [e, f, g, h] [a, b, c, d] 4 ((4 : Nat) : Int)) 0 := by
    refine Ev.succ ?_
    simp only [slices_Compare_int_int.l0]
    exact Ev.neg (by omega) (Ev.neg (by simp) (Ev.now _))
  have pick : ∀ (x y : Int), x ≠ y → ∃ t : Int, ((x < y ∧ t = -1) ∨ (x > y ∧ t = 1)) := fun x y hxy => by
    rcases Int.lt_or_lt_of_ne hxy with h | h
    · exact ⟨-1, .inl ⟨h, rfl⟩⟩
    · exact ⟨1, .inr ⟨h, rfl⟩⟩
  unfold lt4
  show ∃ t, Ev (fun k => slices_Compare_int_int.l0 k [a, b, c, d] [e, f, g, h] [a, b, c, d] 4 ((0 : Nat) : Int)) t ∧ _
  by_cases h0 : a = e
  · by_cases h1 : b = f
    · by_cases h2 : c = g
      · by_cases h3 : d = h
        · exact ⟨0, L 0 (by omega) 0 (.inl ⟨h0, L 1 (by omega) 0 (.inl ⟨h1, L 2 (by omega) 0 (.inl ⟨h2, L 3 (by omega) 0 (.inl ⟨h3, last⟩)⟩)⟩)⟩), by omega⟩
        · obtain ⟨t, ht⟩ := pick d h h3
          exact ⟨t, L 0 (by omega) t (.inl ⟨h0, L 1 (by omega) t (.inl ⟨h1, L 2 (by omega) t (.inl ⟨h2, L 3 (by omega) t (.inr ht)⟩)⟩)⟩), by omega⟩
      · obtain ⟨t, ht⟩ := pick c g h2
        exact ⟨t, L 0 (by omega) t (.inl ⟨h0, L 1 (by omega) t (.inl ⟨h1, L 2 (by omega) t (.inr ht)⟩)⟩), by omega⟩
    · obtain ⟨t, ht⟩ := pick b f h1
      exact ⟨t, L 0 (by omega) t (.inl ⟨h0, L 1 (by omega) t (.inr ht)⟩), by omega⟩
  · obtain ⟨t, ht⟩ := pick a e h0
    exact ⟨t, L 0 (by omega) t (.inr ht), by omega⟩
theorem sq_sm2 {q B : Int} (hB : 0 ≤ B) (h : q * q ≤ B * B) : sm B q := by
  unfold sm
  have e : (B + 1) * (B + 1) = B * B + 2 * B + 1 := by grind
  constructor
  · rcases Int.lt_or_le q (-B) with h0 | h0
    · have h1 : B + 1 ≤ -q := by omega
      have := Int.mul_le_mul h1 h1 (by omega) (by omega)
      rw [Int.neg_mul_neg] at this; omega
    · exact h0
  · rcases Int.lt_or_le B q with h0 | h0
    · have h1 : B + 1 ≤ q := by omega
      have := Int.mul_le_mul h1 h1 (by omega) (by omega)
      omega
    · exact h0
theorem N4_sm2 {a b c d B : Int} (hB : 0 ≤ B) (h : N4 a b c d ≤ B * B) : sm B a ∧ sm B b ∧ sm B c ∧ sm B d := by
  unfold N4 at h
  have h0 := sq_pos a; have h1 := sq_pos b; have h2 := sq_pos c; have h3 := sq_pos d
  exact ⟨sq_sm2 hB (by omega), sq_sm2 hB (by omega), sq_sm2 hB (by omega), sq_sm2 hB (by omega)⟩
theorem N4_le2 {a b c d B : Int} (ha : sm B a) (hb : sm B b) (hc : sm B c) (hd : sm B d) : N4 a b c d ≤ 4 * (B * B) := by
  have q0 := mul_sm ha ha; have q1 := mul_sm hb hb; have q2 := mul_sm hc hc; have q3 := mul_sm hd hd
  unfold sm N4 at *
  omega
theorem euclid2 : ∀ (m : Nat) (a0 a1 a2 a3 b0 b1 b2 b3 : Int), itg a0 a1 a2 a3 → itg b0 b1 b2 b3 → (sm 2000 a0 ∧ sm 2000 a1 ∧ sm 2000 a2 ∧ sm 2000 a3) → N4 b0 b1 b2 b3 ≤ 4000000 → N4 b0 b1 b2 b3 < (m : Int) →
    ∃ g0 g1 g2 g3 : Int, itg g0 g1 g2 g3 ∧ (sm 2000 g0 ∧ sm 2000 g1 ∧ sm 2000 g2 ∧ sm 2000 g3) ∧
      (∀ r, Ev (fun k => (norm_units.f k).bind fun t => norm_Gcd.l1 k t (t.length : Int) 0 g0 g1 g2 g3 g0 g1 g2 g3) r → Ev (fun k => norm_Gcd.l0 k a0 a1 a2 a3 b0 b1 b2 b3) r) ∧
      RD g0 g1 g2 g3 a0 a1 a2 a3 ∧ RD g0 g1 g2 g3 b0 b1 b2 b3 ∧ (∀ d0 d1 d2 d3, RD d0 d1 d2 d3 a0 a1 a2 a3 → RD d0 d1 d2 d3 b0 b1 b2 b3 → RD d0 d1 d2 d3 g0 g1 g2 g3)
  | 0, a0, a1, a2, a3, b0, b1, b2, b3, _, _, _, _, h => by
    have := N4_nn b0 b1 b2 b3
    omega
  | m + 1, a0, a1, a2, a3, b0, b1, b2, b3, ia, ib, sa, hb, h => by
    by_cases h0 : b0 = 0 ∧ b1 = 0 ∧ b2 = 0 ∧ b3 = 0
    · obtain ⟨rfl, rfl, rfl, rfl⟩ := h0
      refine ⟨a0, a1, a2, a3, ia, sa, fun r hr => Ev.succ ?_, RD_refl _ _ _ _, RD_zero _ _ _ _, fun _ _ _ _ h _ => h⟩
      simp only [norm_Gcd.l0]
      exact Ev.neg (by simp) hr
    · have sb := N4_sm2 (B := 2000) (by omega) hb
      obtain ⟨q0, q1, q2, q3, r0, r1, r2, r3, m0, m1, m2, m3, d1, iq, ir, hle, hD, rfl, rfl, rfl, rfl⟩ := one_divide2 ia sa.1 sa.2.1 sa.2.2.1 sa.2.2.2 ib sb.1 sb.2.1 sb.2.2.1 sb.2.2.2 hb h0
      have hp : 0 < N4 b0 b1 b2 b3 := by
        rcases Int.lt_or_le 0 (N4 b0 b1 b2 b3) with c | c
        · exact c
        · exact absurd (N4_zero c) h0
      have hz : (!(b0 == 0) || (!(b1 == 0) || (!(b2 == 0) || (!(b3 == 0))))) = true := by simp; omega
      obtain ⟨g0, g1, g2, g3, ig, sg, e1, k1, k2, k3⟩ := euclid2 m b0 b1 b2 b3 (a0 - m0) (a1 - m1) (a2 - m2) (a3 - m3) ib ir sb (by omega) (by omega)
      have km := RD_mul k1 iq hD.1 hD.2.1 hD.2.2.1 hD.2.2.2
      refine ⟨g0, g1, g2, g3, ig, sg, fun r hr => Ev.succ ?_, RD_add k2 km (by omega) (by omega) (by omega) (by omega), k1, fun d0 d1' d2 d3 ha hb' => k3 _ _ _ _ hb' (RD_sub ha (RD_mul hb' iq hD.1 hD.2.1 hD.2.2.1 hD.2.2.2))⟩
      simp only [norm_Gcd.l0]
      exact Ev.pos hz (Ev.bind d1 (e1 r hr))
/-- What the fold over the units makes of g. -/
def Made (g0 g1 g2 g3 c0 c1 c2 c3 : Int) : Prop := itg c0 c1 c2 c3 ∧ RD g0 g1 g2 g3 c0 c1 c2 c3 ∧ RD c0 c1 c2 c3 g0 g1 g2 g3 ∧ N4 c0 c1 c2 c3 = N4 g0 g1 g2 g3
theorem units_fold2 (U : List (Int × Int × Int × Int)) (hl : U.length ≤ 100) (hU : ∀ u ∈ U, (sm 2 u.1 ∧ sm 2 u.2.1 ∧ sm 2 u.2.2.1 ∧ sm 2 u.2.2.2) ∧ itg u.1 u.2.1 u.2.2.1 u.2.2.2 ∧ N4 u.1 u.2.1 u.2.2.1 u.2.2.2 = 4) {g0 g1 g2 g3 : Int} (ig : itg g0 g1 g2 g3) (hg : sm 2000 g0 ∧ sm 2000 g1 ∧ sm 2000 g2 ∧ sm 2000 g3) :
    ∀ (j i : Nat) (b0 b1 b2 b3 : Int), i + j = U.length → Made g0 g1 g2 g3 b0 b1 b2 b3 → ∃ c0 c1 c2 c3 : Int,
      Ev (fun k => norm_Gcd.l1 k (U.map fun x => ⟨x.1, x.2.1, x.2.2.1, x.2.2.2⟩) (U.length : Int) (i : Int) g0 g1 g2 g3 b0 b1 b2 b3) (c0, c1, c2, c3, 0) ∧ Made g0 g1 g2 g3 c0 c1 c2 c3 ∧ ¬ lt4 c0 c1 c2 c3 b0 b1 b2 b3
  | 0, i, b0, b1, b2, b3, h, hb => by
    refine ⟨b0, b1, b2, b3, Ev.succ ?_, hb, lt4_irrefl _ _ _ _⟩
    simp only [norm_Gcd.l1]
    exact Ev.neg (by omega) (Ev.bindc rfl (Ev.now _))
  | j + 1, i, b0, b1, b2, b3, h, hb => by
    have hi : i < U.length := by omega
    have e7 : rd_T67 (U.map fun x => (⟨x.1, x.2.1, x.2.2.1, x.2.2.2⟩ : S67)) (i : Int) = ⟨U[i].1, U[i].2.1, U[i].2.2.1, U[i].2.2.2⟩ := by
      rw [rd67 _ i (by simp; omega)]; simp
    have hu := hU U[i] (List.getElem_mem hi)
    have hw : wrap64 ((i : Int) + 1) = ((i + 1 : Nat) : Int) := by rw [wrap_id (by omega) (by omega)]; omega
    generalize U[i] = u at *
    obtain ⟨u0, u1, u2, u3⟩ := u
    obtain ⟨su, iu, nu⟩ := hu
    dsimp only at su iu nu
    have hd := double_ev (A := 2) (B := 2000) (by omega) su.1 su.2.1 su.2.2.1 su.2.2.2 hg.1 hg.2.1 hg.2.2.1 hg.2.2.2
    have up : ∀ x : Int, sm 2 x → sm 1000000000 x := fun x hx => by unfold sm at *; omega
    have hp := product_ev2 (up _ su.1) (up _ su.2.1) (up _ su.2.2.1) (up _ su.2.2.2) _ hd
    obtain ⟨L, K1, K2, K3, p0, p1, p2, p3⟩ := D_par iu ig
    obtain ⟨s0, s1, s2, s3⟩ := D_sm su.1 su.2.1 su.2.2.1 su.2.2.2 hg.1 hg.2.1 hg.2.2.1 hg.2.2.2
    have hbk := unit_back iu nu ⟨p0, p1, p2, p3⟩
    dsimp only at hp e7
    rw [p0] at s0
    rw [p1] at s1
    rw [p2] at s2
    rw [p3] at s3
    rw [p0, p1, p2, p3, tdiv_two, tdiv_two, tdiv_two, tdiv_two] at hp
    unfold sm at s0 s1 s2 s3
    rw [wrap_id (x := L) (by omega) (by omega), wrap_id (x := L + 2 * K1) (by omega) (by omega), wrap_id (x := L + 2 * K2) (by omega) (by omega), wrap_id (x := L + 2 * K3) (by omega) (by omega)] at hp
    have id : itg L (L + 2 * K1) (L + 2 * K2) (L + 2 * K3) := by unfold itg; omega
    generalize L + 2 * K1 = d1 at *
    generalize L + 2 * K2 = d2 at *
    generalize L + 2 * K3 = d3 at *
    obtain ⟨t, ht1, ht2⟩ := Compare_ev3 L d1 d2 d3 b0 b1 b2 b3
    by_cases hc : lt4 b0 b1 b2 b3 L d1 d2 d3
    · obtain ⟨c0, c1, c2, c3, h1, h2, h3⟩ := units_fold2 U hl hU ig hg j (i + 1) L d1 d2 d3 (by omega) ⟨id, hbk⟩
      refine ⟨c0, c1, c2, c3, Ev.succ ?_, h2, fun hh => h3 (lt4_trans hh hc)⟩
      simp only [norm_Gcd.l1, e7, hw]
      exact Ev.pos (by omega) (Ev.pos (by omega) (Ev.pos (by simp; omega) (Ev.bind hp (Ev.bind ht1 (Ev.pos (ht2.mpr hc) h1)))))
    · obtain ⟨c0, c1, c2, c3, h1, h2, h3⟩ := units_fold2 U hl hU ig hg j (i + 1) b0 b1 b2 b3 (by omega) hb
      refine ⟨c0, c1, c2, c3, Ev.succ ?_, h2, h3⟩
      simp only [norm_Gcd.l1, e7, hw]
      exact Ev.pos (by omega) (Ev.pos (by omega) (Ev.pos (by simp; omega) (Ev.bind hp (Ev.bind ht1 (Ev.neg (fun x => hc (ht2.mp x)) h1)))))
/-- The units, doubled, in lexicographic order. -/
def V4 : List (Int × Int × Int × Int) := [(-2, 0, 0, 0), (-1, -1, -1, -1), (-1, -1, -1, 1), (-1, -1, 1, -1), (-1, -1, 1, 1), (-1, 1, -1, -1), (-1, 1, -1, 1), (-1, 1, 1, -1), (-1, 1, 1, 1), (0, -2, 0, 0), (0, 0, -2, 0), (0, 0, 0, -2), (0, 0, 0, 2), (0, 0, 2, 0), (0, 2, 0, 0), (1, -1, -1, -1), (1, -1, -1, 1), (1, -1, 1, -1), (1, -1, 1, 1), (1, 1, -1, -1), (1, 1, -1, 1), (1, 1, 1, -1), (1, 1, 1, 1), (2, 0, 0, 0)]
theorem units_run4 : ((norm_units.f 1200).map fun l => l.map fun x => (x.f0, x.f1, x.f2, x.f3)) = some V4 := by decide +kernel
theorem units_ev4 : Ev (fun k => norm_units.f k) (V4.map fun x => ⟨x.1, x.2.1, x.2.2.1, x.2.2.2⟩) := by
  refine Ev.of (fun k => norm_units.mono k) (k := 1200) ?_
  have h := units_run4
  rcases hl : norm_units.f 1200 with _ | l
  · rw [hl] at h; cases h
  · rw [hl] at h
    have := Option.some.inj h
    rw [← this, List.map_map]
    congr 1
    exact (List.map_id'' (fun x => rfl) l).symm
theorem V4_ok : ∀ u ∈ V4, (sm 2 u.1 ∧ sm 2 u.2.1 ∧ sm 2 u.2.2.1 ∧ sm 2 u.2.2.2) ∧ itg u.1 u.2.1 u.2.2.1 u.2.2.2 ∧ N4 u.1 u.2.1 u.2.2.1 u.2.2.2 = 4 := by
  unfold sm itg N4
  decide
/-- The end of norm.Gcd, behind Euclid's steps. -/
theorem gcd_tail {g0 g1 g2 g3 : Int} (ig : itg g0 g1 g2 g3) (hg : sm 2000 g0 ∧ sm 2000 g1 ∧ sm 2000 g2 ∧ sm 2000 g3) : ∃ c0 c1 c2 c3 : Int,
    Ev (fun k => (norm_units.f k).bind fun t => norm_Gcd.l1 k t (t.length : Int) 0 g0 g1 g2 g3 g0 g1 g2 g3) (c0, c1, c2, c3, 0) ∧ Made g0 g1 g2 g3 c0 c1 c2 c3 ∧ ¬ lt4 c0 c1 c2 c3 g0 g1 g2 g3 := by
  obtain ⟨c0, c1, c2, c3, h1, h2, h3⟩ := units_fold2 V4 (by decide) V4_ok ig hg 24 0 g0 g1 g2 g3 rfl ⟨ig, RD_refl _ _ _ _, RD_refl _ _ _ _, rfl⟩
  refine ⟨c0, c1, c2, c3, Ev.bind units_ev4 ?_, h2, h3⟩
  rw [List.length_map]
  exact h1
/-- norm.Gcd of two that are not both 0. -/
theorem Gcd_ev {a b c d e f g h : Int} (h1 : itg a b c d) (h2 : rng a b c d) (h3 : itg e f g h) (h4 : rng e f g h) (h0 : ¬ ((a = 0 ∧ b = 0 ∧ c = 0 ∧ d = 0) ∧ e = 0 ∧ f = 0 ∧ g = 0 ∧ h = 0)) : ∃ c0 c1 c2 c3 : Int,
    Ev (fun k => norm_Gcd.f k a b c d e f g h) (c0, c1, c2, c3, 0) ∧ itg c0 c1 c2 c3 ∧ RD c0 c1 c2 c3 a b c d ∧ RD c0 c1 c2 c3 e f g h ∧ (∀ d0 d1 d2 d3, RD d0 d1 d2 d3 a b c d → RD d0 d1 d2 d3 e f g h → RD d0 d1 d2 d3 c0 c1 c2 c3) ∧
      ((e = 0 ∧ f = 0 ∧ g = 0 ∧ h = 0) → N4 c0 c1 c2 c3 = N4 a b c d ∧ ¬ lt4 c0 c1 c2 c3 a b c d) := by
  have hk := check_ev [⟨a, b, c, d⟩, ⟨e, f, g, h⟩] (by simp)
  rw [chk2_ok h1 h2 h3 h4] at hk
  have up : ∀ x : Int, -1000 ≤ x ∧ x ≤ 1000 → sm 2000 x := fun x hx => by unfold sm; omega
  have sa : sm 2000 a ∧ sm 2000 b ∧ sm 2000 c ∧ sm 2000 d := ⟨up _ h2.1, up _ h2.2.1, up _ h2.2.2.1, up _ h2.2.2.2⟩
  have head : ∀ r, Ev (fun k => norm_Gcd.l0 k a b c d e f g h) r → Ev (fun k => norm_Gcd.f k a b c d e f g h) r := fun r hr => by
    unfold norm_Gcd.f
    refine Ev.bind hk (Ev.pos rfl (Ev.bindc rfl (Ev.bindc rfl ?_)))
    by_cases ha : (a == 0 && (b == 0 && (c == 0 && (d == 0)))) = true
    · refine Ev.pos ha (Ev.succ ?_)
      simp only [norm_Gcd.j0]
      refine Ev.neg (fun hb => h0 ?_) hr
      simp at ha hb
      omega
    · refine Ev.neg ha (Ev.succ ?_)
      simp only [norm_Gcd.j0]
      exact Ev.neg (by simp) hr
  by_cases hz : e = 0 ∧ f = 0 ∧ g = 0 ∧ h = 0
  · obtain ⟨rfl, rfl, rfl, rfl⟩ := hz
    obtain ⟨c0, c1, c2, c3, t1, ⟨ic, r1, r2, hn⟩, hlt⟩ := gcd_tail h1 sa
    refine ⟨c0, c1, c2, c3, head _ (Ev.succ ?_), ic, r2, RD_zero _ _ _ _, fun _ _ _ _ k1 _ => RD_trans k1 r1, fun _ => ⟨hn, hlt⟩⟩
    simp only [norm_Gcd.l0]
    exact Ev.neg (by simp) t1
  · have hb : N4 e f g h ≤ 4000000 := by
      have := N4_le2 (B := 1000) h4.1 h4.2.1 h4.2.2.1 h4.2.2.2
      omega
    have hp := N4_nn e f g h
    obtain ⟨g0, g1, g2, g3, ig, sg, e1, k1, k2, k3⟩ := euclid2 ((N4 e f g h).toNat + 1) a b c d e f g h h1 h3 sa hb (by omega)
    obtain ⟨c0, c1, c2, c3, t1, ⟨ic, r1, r2, hn⟩, hlt⟩ := gcd_tail ig sg
    exact ⟨c0, c1, c2, c3, head _ (e1 _ t1), ic, RD_trans r2 k1, RD_trans r2 k2, fun _ _ _ _ m1 m2 => RD_trans (k3 _ _ _ _ m1 m2) r1, fun hh => absurd hh hz⟩
end Go.Proofs.Ytgfnmimfoicmmaa.Pure
