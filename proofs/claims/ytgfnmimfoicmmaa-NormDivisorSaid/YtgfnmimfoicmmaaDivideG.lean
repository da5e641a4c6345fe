/- divide: the chosen quotient is the best of all. -/
import Derived.Test.YtgfnmimfoicmmaaPMx3
import Derived.Test.YtgfnmimfoicmmaaPMx4
import Derived.Test.YtgfnmimfoicmmaaDivideF
set_option linter.unusedVariables false
set_option linter.unusedSimpArgs false
namespace Go.Proofs.Ytgfnmimfoicmmaa.Pure
open Go.RowKit Go.Proofs.Ytgfnmimfoicmmaa.PM Go.Proofs.YtgfnmimfoicmmaaW.PrintWords Go.Proofs.YtgfnmimfoicmmaaW.PrintLast
open Go.Proofs.Ytgfnmimfoicmmaa.Dv

/-- The best one: it is at least as good as each number beside the rational one. -/
def Star (p0 p1 p2 p3 n q0 q1 q2 q3 : Int) : Prop :=
  ∀ par v0 v1 v2 v3 c0 c1 c2 c3 : Int, (par = 0 ∨ par = 1) → Low p0 n par v0 → Low p1 n par v1 → Low p2 n par v2 → Low p3 n par v3 → (c0 = v0 ∨ c0 = v0 + 2) → (c1 = v1 ∨ c1 = v1 + 2) → (c2 = v2 ∨ c2 = v2 + 2) → (c3 = v3 ∨ c3 = v3 + 2) →
    (q0 = c0 ∧ q1 = c1 ∧ q2 = c2 ∧ q3 = c3) ∨ Better (far p0 p1 p2 p3 n q0 q1 q2 q3) q0 q1 q2 q3 (far p0 p1 p2 p3 n c0 c1 c2 c3) c0 c1 c2 c3
theorem star_of {p0 p1 p2 p3 n a0 a1 a2 a3 b0 b1 b2 b3 q0 q1 q2 q3 : Int} (hn : 0 < n) (x0 : Near p0 n 0 a0) (x1 : Near p1 n 0 a1) (x2 : Near p2 n 0 a2) (x3 : Near p3 n 0 a3) (y0 : Near p0 n 1 b0) (y1 : Near p1 n 1 b1) (y2 : Near p2 n 1 b2) (y3 : Near p3 n 1 b3)
    (ha : (q0 = a0 ∧ q1 = a1 ∧ q2 = a2 ∧ q3 = a3) ∨ Better (far p0 p1 p2 p3 n q0 q1 q2 q3) q0 q1 q2 q3 (far p0 p1 p2 p3 n a0 a1 a2 a3) a0 a1 a2 a3)
    (hb : (q0 = b0 ∧ q1 = b1 ∧ q2 = b2 ∧ q3 = b3) ∨ Better (far p0 p1 p2 p3 n q0 q1 q2 q3) q0 q1 q2 q3 (far p0 p1 p2 p3 n b0 b1 b2 b3) b0 b1 b2 b3) : Star p0 p1 p2 p3 n q0 q1 q2 q3 := by
  intro par v0 v1 v2 v3 c0 c1 c2 c3 hpar l0 l1 l2 l3 h0 h1 h2 h3
  have go : ∀ d0 d1 d2 d3 : Int, ((q0 = d0 ∧ q1 = d1 ∧ q2 = d2 ∧ q3 = d3) ∨ Better (far p0 p1 p2 p3 n q0 q1 q2 q3) q0 q1 q2 q3 (far p0 p1 p2 p3 n d0 d1 d2 d3) d0 d1 d2 d3) →
      ((d0 = c0 ∧ d1 = c1 ∧ d2 = c2 ∧ d3 = c3) ∨ Better (far p0 p1 p2 p3 n d0 d1 d2 d3) d0 d1 d2 d3 (far p0 p1 p2 p3 n c0 c1 c2 c3) c0 c1 c2 c3) →
      (q0 = c0 ∧ q1 = c1 ∧ q2 = c2 ∧ q3 = c3) ∨ Better (far p0 p1 p2 p3 n q0 q1 q2 q3) q0 q1 q2 q3 (far p0 p1 p2 p3 n c0 c1 c2 c3) c0 c1 c2 c3 := by
    rintro d0 d1 d2 d3 (⟨rfl, rfl, rfl, rfl⟩ | hx) (⟨rfl, rfl, rfl, rfl⟩ | hy)
    · exact .inl ⟨rfl, rfl, rfl, rfl⟩
    · exact .inr hy
    · exact .inr hx
    · exact .inr (hx.trans hy)
  rcases hpar with rfl | rfl
  · exact go _ _ _ _ ha (best4 hn x0 x1 x2 x3 l0 l1 l2 l3 h0 h1 h2 h3)
  · exact go _ _ _ _ hb (best4 hn y0 y1 y2 y3 l0 l1 l2 l3 h0 h1 h2 h3)
/-- What divide returns for a quotient. -/
def answer (x0 x1 x2 x3 q0 q1 q2 q3 : Int) (r : Int × Int × Int × Int) : Int × Int × Int × Int × Int × Int × Int × Int :=
  (q0, q1, q2, q3, wrap64 (x0 - wrap64 (Int.tdiv r.1 2)), wrap64 (x1 - wrap64 (Int.tdiv r.2.1 2)), wrap64 (x2 - wrap64 (Int.tdiv r.2.2.1 2)), wrap64 (x3 - wrap64 (Int.tdiv r.2.2.2 2)))
theorem dl_end {n least x0 x1 x2 x3 y0 y1 y2 y3 z0 z1 z2 z3 q0 q1 q2 q3 : Int} (h0 : sm 1000000000 q0) (h1 : sm 1000000000 q1) (h2 : sm 1000000000 q2) (h3 : sm 1000000000 q3) (r : Int × Int × Int × Int) (hr : norm_quat_double.f q0 q1 q2 q3 y0 y1 y2 y3 = some r) :
    Ev (fun k => norm_divide.l0 k n least 2 x0 x1 x2 x3 y0 y1 y2 y3 z0 z1 z2 z3 q0 q1 q2 q3) (answer x0 x1 x2 x3 q0 q1 q2 q3 r) := by
  refine Ev.succ ?_
  simp only [norm_divide.l0]
  refine Ev.neg (by omega) (Ev.bind (product_ev2 h0 h1 h2 h3 r hr) (Ev.bind (minus_ev _ _ _ _ _ _ _ _) ?_))
  exact Ev.now _
theorem dl_all {n x0 x1 x2 x3 y0 y1 y2 y3 p0 p1 p2 p3 : Int} (hn : 0 < n) (hnb : n ≤ 1000000) (hp0 : sm 10000000 p0) (hp1 : sm 10000000 p1) (hp2 : sm 10000000 p2) (hp3 : sm 10000000 p3) :
    ∃ par q0 q1 q2 q3 : Int, (par = 0 ∨ par = 1) ∧ Near p0 n par q0 ∧ Near p1 n par q1 ∧ Near p2 n par q2 ∧ Near p3 n par q3 ∧ Star p0 p1 p2 p3 n q0 q1 q2 q3 ∧
      ∀ r, norm_quat_double.f q0 q1 q2 q3 y0 y1 y2 y3 = some r → Ev (fun k => norm_divide.l0 k n (-1) 0 x0 x1 x2 x3 y0 y1 y2 y3 (2 * p0) (2 * p1) (2 * p2) (2 * p3) 0 0 0 0) (answer x0 x1 x2 x3 q0 q1 q2 q3 r) := by
  obtain ⟨a0, fa0, na0⟩ := nearest_ev hn hnb hp0 (par := 0) (.inl rfl)
  obtain ⟨a1, fa1, na1⟩ := nearest_ev hn hnb hp1 (par := 0) (.inl rfl)
  obtain ⟨a2, fa2, na2⟩ := nearest_ev hn hnb hp2 (par := 0) (.inl rfl)
  obtain ⟨a3, fa3, na3⟩ := nearest_ev hn hnb hp3 (par := 0) (.inl rfl)
  obtain ⟨b0, fb0, nb0⟩ := nearest_ev hn hnb hp0 (par := 1) (.inr rfl)
  obtain ⟨b1, fb1, nb1⟩ := nearest_ev hn hnb hp1 (par := 1) (.inr rfl)
  obtain ⟨b2, fb2, nb2⟩ := nearest_ev hn hnb hp2 (par := 1) (.inr rfl)
  obtain ⟨b3, fb3, nb3⟩ := nearest_ev hn hnb hp3 (par := 1) (.inr rfl)
  have up : ∀ {p par q : Int}, sm 10000000 p → Near p n par q → sm 1000000000 q := fun hp h => by
    have := near_sm hn hp h
    unfold sm at *; omega
  have w1 : wrap64 (0 + 1) = 1 := by simp [wrap64]
  have w2 : wrap64 (1 + 1) = 2 := by simp [wrap64]
  have fpos : ¬ 4 * far p0 p1 p2 p3 n a0 a1 a2 a3 < 0 := by
    have g0 := sq_pos (p0 - a0 * n); have g1 := sq_pos (p1 - a1 * n); have g2 := sq_pos (p2 - a2 * n); have g3 := sq_pos (p3 - a3 * n)
    unfold far; omega
  by_cases hc : 4 * far p0 p1 p2 p3 n b0 b1 b2 b3 < 4 * far p0 p1 p2 p3 n a0 a1 a2 a3 ∨ (4 * far p0 p1 p2 p3 n b0 b1 b2 b3 = 4 * far p0 p1 p2 p3 n a0 a1 a2 a3 ∧ lt4 b0 b1 b2 b3 a0 a1 a2 a3)
  · refine ⟨1, b0, b1, b2, b3, .inr rfl, nb0, nb1, nb2, nb3, star_of hn na0 na1 na2 na3 nb0 nb1 nb2 nb3 (.inr ?_) (.inl ⟨rfl, rfl, rfl, rfl⟩), fun r hr => ?_⟩
    · unfold Better
      rcases hc with hc | hc
      · exact .inl (by omega)
      · exact .inr ⟨by omega, hc.2⟩
    · refine Ev.succ ?_
      simp only [norm_divide.l0]
      refine Ev.pos (by omega) (dl1 hn hnb hp0 hp1 hp2 hp3 fa0 fa1 fa2 fa3 na0 na1 na2 na3 (fun _ => ?_) (fun c => absurd (.inl (by omega)) c))
      rw [w1]
      refine Ev.succ ?_
      simp only [norm_divide.l0]
      refine Ev.pos (by omega) (dl1 hn hnb hp0 hp1 hp2 hp3 fb0 fb1 fb2 fb3 nb0 nb1 nb2 nb3 (fun _ => ?_) (fun c => absurd (.inr hc) c))
      rw [w2]
      exact dl_end (up hp0 nb0) (up hp1 nb1) (up hp2 nb2) (up hp3 nb3) r hr
  · refine ⟨0, a0, a1, a2, a3, .inl rfl, na0, na1, na2, na3, star_of hn na0 na1 na2 na3 nb0 nb1 nb2 nb3 (.inl ⟨rfl, rfl, rfl, rfl⟩) (.inr ?_), fun r hr => ?_⟩
    · rcases Better.tri (far p0 p1 p2 p3 n a0 a1 a2 a3) a0 a1 a2 a3 (far p0 p1 p2 p3 n b0 b1 b2 b3) b0 b1 b2 b3 with h | h | h
      · exact h
      · exfalso
        unfold Better at h
        rcases h with h | h
        · exact hc (.inl (by omega))
        · exact hc (.inr ⟨by omega, h.2⟩)
      · exfalso
        have := na0.1
        have := nb0.1
        have := h.2.1
        omega
    · refine Ev.succ ?_
      simp only [norm_divide.l0]
      refine Ev.pos (by omega) (dl1 hn hnb hp0 hp1 hp2 hp3 fa0 fa1 fa2 fa3 na0 na1 na2 na3 (fun _ => ?_) (fun c => absurd (.inl (by omega)) c))
      rw [w1]
      refine Ev.succ ?_
      simp only [norm_divide.l0]
      refine Ev.pos (by omega) (dl1 hn hnb hp0 hp1 hp2 hp3 fb0 fb1 fb2 fb3 nb0 nb1 nb2 nb3 (fun c => absurd (c.resolve_left fpos) hc) (fun _ => ?_))
      rw [w2]
      exact dl_end (up hp0 na0) (up hp1 na1) (up hp2 na2) (up hp3 na3) r hr
end Go.Proofs.Ytgfnmimfoicmmaa.Pure
