/- The reference's Divide finds the best quotient. -/
import Derived.Test.YtgfnmimfoicmmaaPMx6
import Derived.Test.YtgfnmimfoicmmaaPMx19
import Derived.Test.YtgfnmimfoicmmaaPMx33
import Derived.Test.YtgfnmimfoicmmaaPMx36
import Derived.Test.YtgfnmimfoicmmaaPMx37
import Derived.Test.YtgfnmimfoicmmaaDivideG
set_option linter.unusedVariables false
set_option linter.unusedSimpArgs false
namespace Go.Proofs.Ytgfnmimfoicmmaa.Pure
open Go.RowKit Go.Proofs.Ytgfnmimfoicmmaa.PM Go.Proofs.YtgfnmimfoicmmaaW.PrintWords Go.Proofs.YtgfnmimfoicmmaaW.PrintLast
open Go.Proofs.Ytgfnmimfoicmmaa.Dv

theorem below_step {p n par q : Int} (hn : 0 < n) (hnb : n ≤ 1000000) (hp : sm 10000000 p) (hpar : par = 0 ∨ par = 1) (h1 : q * n ≤ p) (h2 : p < q * n + n) : ∃ v, Ev (fun k => bellpullref04_below.l0 k p n par q) v ∧ Low p n par v := by
  have hq := quot_sm hn hp (t := q) (by omega) (by omega)
  have e1 : (q - 1) * n = q * n - n := by grind
  unfold sm at hp hq
  by_cases hc : q % 2 = par
  · refine ⟨q, Ev.succ ?_, hc, by omega, by omega⟩
    simp only [bellpullref04_below.l0, bit1]
    rw [wrap_id (x := q * n) (by omega) (by omega)]
    exact Ev.neg (by omega) (Ev.pos hc (Ev.now _))
  · refine ⟨q - 1, Ev.succ ?_, by omega, by omega, by omega⟩
    simp only [bellpullref04_below.l0, bit1]
    rw [wrap_id (x := q * n) (by omega) (by omega), wrap_id (x := q - 1) (by omega) (by omega)]
    refine Ev.neg (by omega) (Ev.neg hc (Ev.succ ?_))
    simp only [bellpullref04_below.l0, bit1]
    rw [wrap_id (x := (q - 1) * n) (by omega) (by omega)]
    exact Ev.neg (by omega) (Ev.pos (by omega) (Ev.now _))
theorem below_ev {p n par : Int} (hn : 0 < n) (hnb : n ≤ 1000000) (hp : sm 10000000 p) (hpar : par = 0 ∨ par = 1) : ∃ v, Ev (fun k => bellpullref04_below.f k p n par) v ∧ Low p n par v := by
  obtain ⟨f1, f2, f3⟩ := floor_eq (a := p) hn
  have hcase : (Int.tdiv p n * n ≤ p ∧ p < Int.tdiv p n * n + n) ∨ (Int.tdiv p n * n - n < p ∧ p < Int.tdiv p n * n) := by
    by_cases h0 : Int.tmod p n = 0
    · have := f1 h0; omega
    · by_cases h1 : p < 0
      · exact .inr (f3 h0 h1)
      · exact .inl (f2 h0 (by omega))
  have hq := quot_sm hn hp (t := Int.tdiv p n) (by omega) (by omega)
  unfold bellpullref04_below.f
  have hw : wrap64 (Int.tdiv p n) = Int.tdiv p n := by unfold sm at hq; exact wrap_id (by omega) (by omega)
  rw [hw]
  generalize Int.tdiv p n = t at *
  rcases hcase with h | h
  · obtain ⟨v, h1, h2⟩ := below_step hn hnb hp hpar h.1 h.2
    exact ⟨v, Ev.neg (by omega) h1, h2⟩
  · have e1 : (t - 1) * n = t * n - n := by grind
    obtain ⟨v, h1, h2⟩ := below_step (q := t - 1) hn hnb hp hpar (by omega) (by omega)
    refine ⟨v, Ev.neg (by omega) (Ev.succ ?_), h2⟩
    simp only [bellpullref04_below.l0, bit1]
    unfold sm at hp hq
    rw [wrap_id (x := t * n) (by omega) (by omega), wrap_id (x := t - 1) (by omega) (by omega)]
    exact Ev.pos (by omega) h1
theorem Bef_loop (l m : List Int) (hl : l.length = 4) (hm : m.length = 4) (i : Nat) (hi : i < 4) (t : Bool)
    (h : (rd l i = rd m i ∧ Ev (fun k => bellpullref01_Before.l0 k l m ((i + 1 : Nat) : Int)) t) ∨ (rd l i ≠ rd m i ∧ t = decide (rd l i < rd m i))) : Ev (fun k => bellpullref01_Before.l0 k l m (i : Int)) t := by
  refine Ev.succ ?_
  simp only [bellpullref01_Before.l0]
  refine Ev.pos (by omega) (Ev.succ ?_)
  simp only [bellpullref01_Before.j1]
  have hw : wrap64 ((i : Int) + 1) = ((i + 1 : Nat) : Int) := by rw [wrap_id (by omega) (by omega)]; omega
  rw [hw]
  refine Ev.pos (decide_eq_true (by omega)) (Ev.pos (by omega) (Ev.pos (by omega) (Ev.pos (by omega) ?_)))
  rcases h with ⟨h, hn⟩ | ⟨h, rfl⟩
  · exact Ev.pos h hn
  · exact Ev.neg h (Ev.now _)
theorem Less_ev (a b c d e f g h : Int) : ∃ t, Ev (fun k => bellpullref04_Less.f k a b c d e f g h) t ∧ (t = true ↔ lt4 a b c d e f g h) := by
  have L := fun (i : Nat) (hi : i < 4) (t : Bool) hh => Bef_loop [a, b, c, d] [e, f, g, h] rfl rfl i hi t hh
  have last : Ev (fun k => bellpullref01_Before.l0 k [a, b, c, d] [e, f, g, h] ((4 : Nat) : Int)) false := by
    refine Ev.succ ?_
    simp only [bellpullref01_Before.l0]
    refine Ev.neg (by simp) (Ev.succ ?_)
    simp only [bellpullref01_Before.j1]
    exact Ev.neg (by simp) (Ev.now _)
  have key : ∃ t, Ev (fun k => bellpullref01_Before.l0 k [a, b, c, d] [e, f, g, h] ((0 : Nat) : Int)) t ∧ (t = true ↔ lt4 a b c d e f g h) := by
    unfold lt4
    by_cases h0 : a = e
    · by_cases h1 : b = f
      · by_cases h2 : c = g
        · by_cases h3 : d = h
          · exact ⟨false, L 0 (by omega) _ (.inl ⟨h0, L 1 (by omega) _ (.inl ⟨h1, L 2 (by omega) _ (.inl ⟨h2, L 3 (by omega) _ (.inl ⟨h3, last⟩)⟩)⟩)⟩), by simp; omega⟩
          · exact ⟨decide (d < h), L 0 (by omega) _ (.inl ⟨h0, L 1 (by omega) _ (.inl ⟨h1, L 2 (by omega) _ (.inl ⟨h2, L 3 (by omega) _ (.inr ⟨h3, rfl⟩)⟩)⟩)⟩), by rw [decide_eq_true_eq]; omega⟩
        · exact ⟨decide (c < g), L 0 (by omega) _ (.inl ⟨h0, L 1 (by omega) _ (.inl ⟨h1, L 2 (by omega) _ (.inr ⟨h2, rfl⟩)⟩)⟩), by rw [decide_eq_true_eq]; omega⟩
      · exact ⟨decide (b < f), L 0 (by omega) _ (.inl ⟨h0, L 1 (by omega) _ (.inr ⟨h1, rfl⟩)⟩), by rw [decide_eq_true_eq]; omega⟩
    · exact ⟨decide (a < e), L 0 (by omega) _ (.inr ⟨h0, rfl⟩), by rw [decide_eq_true_eq]; omega⟩
  obtain ⟨t, h1, h2⟩ := key
  refine ⟨t, ?_, h2⟩
  unfold bellpullref04_Less.f bellpullref04_Parts.f bellpullref01_Before.f
  exact Ev.bindc rfl (Ev.bindc rfl (Ev.bind h1 (Ev.now _)))
/-- The bit k of a number, as the reference takes it. -/
def bt (u k : Int) : Int := Go.bits .and .i64 (shr .i64 u k) 1
theorem bt_01 (u k : Int) : bt u k = 0 ∨ bt u k = 1 := by
  unfold bt
  rw [bit1]
  omega
theorem bt_all (e0 e1 e2 e3 : Int) (h0 : e0 = 0 ∨ e0 = 1) (h1 : e1 = 0 ∨ e1 = 1) (h2 : e2 = 0 ∨ e2 = 1) (h3 : e3 = 0 ∨ e3 = 1) : ∃ u : Nat, u < 16 ∧ bt u 0 = e0 ∧ bt u 1 = e1 ∧ bt u 2 = e2 ∧ bt u 3 = e3 := by
  rcases h0 with rfl | rfl <;> rcases h1 with rfl | rfl <;> rcases h2 with rfl | rfl <;> rcases h3 with rfl | rfl
  · exact ⟨0, by decide +kernel⟩
  · exact ⟨8, by decide +kernel⟩
  · exact ⟨4, by decide +kernel⟩
  · exact ⟨12, by decide +kernel⟩
  · exact ⟨2, by decide +kernel⟩
  · exact ⟨10, by decide +kernel⟩
  · exact ⟨6, by decide +kernel⟩
  · exact ⟨14, by decide +kernel⟩
  · exact ⟨1, by decide +kernel⟩
  · exact ⟨9, by decide +kernel⟩
  · exact ⟨5, by decide +kernel⟩
  · exact ⟨13, by decide +kernel⟩
  · exact ⟨3, by decide +kernel⟩
  · exact ⟨11, by decide +kernel⟩
  · exact ⟨7, by decide +kernel⟩
  · exact ⟨15, by decide +kernel⟩
theorem cand_ev {p n par v b : Int} (hn : 0 < n) (hnb : n ≤ 1000000) (hp : sm 10000000 p) (hl : Low p n par v) (hb : b = 0 ∨ b = 1) :
    wrap64 (v + wrap64 (2 * b)) = v + 2 * b ∧ wrap64 (p - wrap64 ((v + 2 * b) * n)) = p - (v + 2 * b) * n ∧ wrap64 ((p - (v + 2 * b) * n) * (p - (v + 2 * b) * n)) = (p - (v + 2 * b) * n) * (p - (v + 2 * b) * n) ∧
      0 ≤ (p - (v + 2 * b) * n) * (p - (v + 2 * b) * n) ∧ (p - (v + 2 * b) * n) * (p - (v + 2 * b) * n) ≤ 4000000000000 := by
  obtain ⟨_, h1, h2⟩ := hl
  have e1 : (v + 1) * n = v * n + n := by grind
  have hv : sm 10000001 v := by
    rcases Int.lt_or_le (p - v * n) n with c | c
    · have := quot_sm hn hp (t := v) (by omega) (by omega)
      unfold sm at *; omega
    · have := quot_sm hn hp (t := v + 1) (by omega) (by omega)
      unfold sm at *; omega
  have e2 : (v + 2 * b) * n = v * n + (2 * b) * n := by grind
  have hbn : (2 * b) * n = 0 ∨ (2 * b) * n = 2 * n := by rcases hb with rfl | rfl <;> simp
  have hd : sm 2000000 (p - (v + 2 * b) * n) := by unfold sm; omega
  have hdd := mul_sm hd hd
  have hpos := sq_pos (p - (v + 2 * b) * n)
  unfold sm at hv hp hdd hd
  generalize (p - (v + 2 * b) * n) * (p - (v + 2 * b) * n) = s at *
  refine ⟨?_, ?_, wrap_id (by omega) (by omega), hpos, by omega⟩
  · rw [wrap_id (x := 2 * b) (by omega) (by omega), wrap_id (by omega) (by omega)]
  · rw [wrap_id (x := (v + 2 * b) * n) (by omega) (by omega), wrap_id (by omega) (by omega)]
section
variable {n least par u x0 x1 x2 x3 y0 y1 y2 y3 p0 p1 p2 p3 b0 b1 b2 b3 v0 v1 v2 v3 : Int} {found : Bool} {r : Int × Int × Int × Int × Int × Int × Int × Int}
/-- One candidate: it is made, and compared. -/
theorem rl2 (hn : 0 < n) (hnb : n ≤ 1000000) (hp0 : sm 10000000 p0) (hp1 : sm 10000000 p1) (hp2 : sm 10000000 p2) (hp3 : sm 10000000 p3)
    (f0 : Ev (fun k => bellpullref04_below.f k p0 n par) v0) (f1 : Ev (fun k => bellpullref04_below.f k p1 n par) v1) (f2 : Ev (fun k => bellpullref04_below.f k p2 n par) v2) (f3 : Ev (fun k => bellpullref04_below.f k p3 n par) v3)
    (l0 : Low p0 n par v0) (l1 : Low p1 n par v1) (l2 : Low p2 n par v2) (l3 : Low p3 n par v3) (c0 c1 c2 c3 : Int) (e0 : c0 = v0 + 2 * bt u 0) (e1 : c1 = v1 + 2 * bt u 1) (e2 : c2 = v2 + 2 * bt u 2) (e3 : c3 = v3 + 2 * bt u 3)
    (hr : (found = false ∨ Better (far p0 p1 p2 p3 n c0 c1 c2 c3) c0 c1 c2 c3 least b0 b1 b2 b3) → Ev (fun k => bellpullref04_Divide.l1 k [p0, p1, p2, p3] n (far p0 p1 p2 p3 n c0 c1 c2 c3) true par (wrap64 (u + 1)) x0 x1 x2 x3 y0 y1 y2 y3 c0 c1 c2 c3) r)
    (hr2 : ¬ (found = false ∨ Better (far p0 p1 p2 p3 n c0 c1 c2 c3) c0 c1 c2 c3 least b0 b1 b2 b3) → Ev (fun k => bellpullref04_Divide.l1 k [p0, p1, p2, p3] n least found par (wrap64 (u + 1)) x0 x1 x2 x3 y0 y1 y2 y3 b0 b1 b2 b3) r) :
    Ev (fun k => bellpullref04_Divide.l2 k [p0, p1, p2, p3] n least found par u [] 0 0 x0 x1 x2 x3 y0 y1 y2 y3 b0 b1 b2 b3) r := by
  have g0 := cand_ev hn hnb hp0 l0 (bt_01 u 0)
  have g1 := cand_ev hn hnb hp1 l1 (bt_01 u 1)
  have g2 := cand_ev hn hnb hp2 l2 (bt_01 u 2)
  have g3 := cand_ev hn hnb hp3 l3 (bt_01 u 3)
  rw [← e0] at g0
  rw [← e1] at g1
  rw [← e2] at g2
  rw [← e3] at g3
  unfold bt at g0 g1 g2 g3
  have r0 : ∀ x y z t : Int, rd [x, y, z, t] 0 = x ∧ rd [x, y, z, t] 1 = y ∧ rd [x, y, z, t] 2 = z ∧ rd [x, y, z, t] 3 = t := fun _ _ _ _ => ⟨rfl, rfl, rfl, rfl⟩
  have w1 : wrap64 (0 + 1) = 1 := by simp [wrap64]
  have w2 : wrap64 (1 + 1) = 2 := by simp [wrap64]
  have w3 : wrap64 (2 + 1) = 3 := by simp [wrap64]
  have w4 : wrap64 (3 + 1) = 4 := by simp [wrap64]
  unfold Better far at *
  refine Ev.succ ?_
  simp only [bellpullref04_Divide.l2, r0]
  refine Ev.pos (by omega) (Ev.pos (by omega) (Ev.pos (by simp) (Ev.bind f0 (Ev.pos (by simp) ?_))))
  rw [g0.1, g0.2.1, g0.2.2.1, w1]
  refine Ev.succ ?_
  simp only [bellpullref04_Divide.l2, r0]
  refine Ev.pos (by omega) (Ev.pos (by omega) (Ev.pos (by simp) (Ev.bind f1 (Ev.pos (by simp) ?_))))
  rw [g1.1, g1.2.1, g1.2.2.1, w2]
  refine Ev.succ ?_
  simp only [bellpullref04_Divide.l2, r0]
  refine Ev.pos (by omega) (Ev.pos (by omega) (Ev.pos (by simp) (Ev.bind f2 (Ev.pos (by simp) ?_))))
  rw [g2.1, g2.2.1, g2.2.2.1, w3]
  refine Ev.succ ?_
  simp only [bellpullref04_Divide.l2, r0]
  refine Ev.pos (by omega) (Ev.pos (by omega) (Ev.pos (by simp) (Ev.bind f3 (Ev.pos (by simp) ?_))))
  rw [g3.1, g3.2.1, g3.2.2.1, w4]
  refine Ev.succ ?_
  simp only [bellpullref04_Divide.l2]
  refine Ev.neg (by omega) (Ev.bindc (x := (c0, c1, c2, c3)) rfl ?_)
  have z0 := g0.2.2.2; have z1 := g1.2.2.2; have z2 := g2.2.2.2; have z3 := g3.2.2.2
  clear g0 g1 g2 g3 f0 f1 f2 f3 l0 l1 l2 l3 e0 e1 e2 e3
  generalize (p0 - c0 * n) * (p0 - c0 * n) = s0 at *
  generalize (p1 - c1 * n) * (p1 - c1 * n) = s1 at *
  generalize (p2 - c2 * n) * (p2 - c2 * n) = s2 at *
  generalize (p3 - c3 * n) * (p3 - c3 * n) = s3 at *
  have ht : wrap64 (wrap64 (wrap64 (wrap64 (0 + s0) + s1) + s2) + s3) = s0 + s1 + s2 + s3 := by
    rw [wrap_id (x := 0 + s0) (by omega) (by omega), wrap_id (x := 0 + s0 + s1) (by omega) (by omega), wrap_id (x := 0 + s0 + s1 + s2) (by omega) (by omega), wrap_id (by omega) (by omega)]
    omega
  rw [ht]
  generalize s0 + s1 + s2 + s3 = F at *
  cases found with
  | false => exact Ev.neg (by simp) (hr (.inl rfl))
  | true =>
    refine Ev.pos rfl ?_
    by_cases k1 : F < least
    · exact Ev.pos k1 (hr (.inr (.inl k1)))
    · refine Ev.neg k1 ?_
      by_cases k2 : F = least
      · obtain ⟨t, ht1, ht2⟩ := Less_ev c0 c1 c2 c3 b0 b1 b2 b3
        refine Ev.pos k2 (Ev.bind ht1 ?_)
        by_cases k3 : t = true
        · exact Ev.pos k3 (hr (.inr (.inr ⟨k2, ht2.mp k3⟩)))
        · exact Ev.neg k3 (hr2 (fun c => c.elim (by simp) (fun c => c.elim k1 (fun c => k3 (ht2.mpr c.2)))))
      · exact Ev.neg k2 (hr2 (fun c => c.elim (by simp) (fun c => c.elim k1 (fun c => k2 c.1))))
end
end Go.Proofs.Ytgfnmimfoicmmaa.Pure
