/- The nearest numbers of a parity, and the order of quaternions: plain numbers. -/
namespace Go.Proofs.Ytgfnmimfoicmmaa.Dv
/-- q is the number of the parity par that is nearest to p / n (of two the lesser one). -/
def Near (p n par q : Int) : Prop := q % 2 = par ∧ -n < p - q * n ∧ p - q * n ≤ n
/-- v is the greatest number of the parity that is at most p / n. -/
def Low (p n par v : Int) : Prop := v % 2 = par ∧ 0 ≤ p - v * n ∧ p - v * n < 2 * n
theorem add_two_mul (v n : Int) : (v + 2) * n = v * n + 2 * n := by grind
theorem near_low {p n par q v : Int} (hn : 0 < n) (h : Near p n par q) (hl : Low p n par v) : q = v ∨ q = v + 2 := by
  obtain ⟨h1, h2, h3⟩ := h
  obtain ⟨l1, l2, l3⟩ := hl
  have lo : v - 1 < q := by
    rcases Int.lt_or_le (v - 1) q with c | c
    · exact c
    · have : q * n ≤ (v - 2) * n := Int.mul_le_mul_of_nonneg_right (by omega) (by omega)
      have e : (v - 2) * n = v * n - 2 * n := by grind
      omega
  have hi : q < v + 3 := by
    rcases Int.lt_or_le q (v + 3) with c | c
    · exact c
    · have : (v + 3) * n ≤ q * n := Int.mul_le_mul_of_nonneg_right c (by omega)
      have e : (v + 3) * n = v * n + 3 * n := by grind
      omega
  omega
/-- The nearest one misses least; of two that miss as much it is the lesser one. -/
theorem near_best {p n par q v c : Int} (hn : 0 < n) (h : Near p n par q) (hl : Low p n par v) (hc : c = v ∨ c = v + 2) :
    q = c ∨ (p - q * n) * (p - q * n) < (p - c * n) * (p - c * n) ∨ ((p - q * n) * (p - q * n) = (p - c * n) * (p - c * n) ∧ q < c) := by
  have hq := near_low hn h hl
  obtain ⟨h1, h2, h3⟩ := h
  obtain ⟨l1, l2, l3⟩ := hl
  have e2 := add_two_mul v n
  rcases hq with rfl | rfl <;> rcases hc with rfl | rfl
  · exact .inl rfl
  · right
    rw [e2]
    generalize hs : p - q * n = s at *
    have e : p - (q * n + 2 * n) = s - 2 * n := by omega
    rw [e]
    have key : (s - 2 * n) * (s - 2 * n) = s * s + 4 * (n * (n - s)) := by grind
    have : 0 ≤ n * (n - s) := Int.mul_nonneg (by omega) (by omega)
    rcases Int.lt_or_le 0 (n * (n - s)) with c | c
    · exact .inl (by omega)
    · exact .inr ⟨by omega, by omega⟩
  · right
    rw [e2] at h2 h3 ⊢
    generalize hs : p - c * n = s at *
    have e : p - (c * n + 2 * n) = s - 2 * n := by omega
    rw [e] at h2 h3 ⊢
    have key : s * s = (s - 2 * n) * (s - 2 * n) + 4 * (n * (s - n)) := by grind
    have : 0 < n * (s - n) := Int.mul_pos hn (by omega)
    exact .inl (by omega)
  · exact .inl rfl
/-- Lexicographically less. -/
def lt4 (a b c d e f g h : Int) : Prop := a < e ∨ (a = e ∧ (b < f ∨ (b = f ∧ (c < g ∨ (c = g ∧ d < h)))))
/-- How much four numbers miss. -/
def far (p0 p1 p2 p3 n q0 q1 q2 q3 : Int) : Int := (p0 - q0 * n) * (p0 - q0 * n) + (p1 - q1 * n) * (p1 - q1 * n) + (p2 - q2 * n) * (p2 - q2 * n) + (p3 - q3 * n) * (p3 - q3 * n)
/-- Better: misses less, or as much and stands ahead. -/
def Better (s a b c d t e f g h : Int) : Prop := s < t ∨ (s = t ∧ lt4 a b c d e f g h)
theorem best4 {p0 p1 p2 p3 n par q0 q1 q2 q3 v0 v1 v2 v3 c0 c1 c2 c3 : Int} (hn : 0 < n)
    (n0 : Near p0 n par q0) (n1 : Near p1 n par q1) (n2 : Near p2 n par q2) (n3 : Near p3 n par q3) (l0 : Low p0 n par v0) (l1 : Low p1 n par v1) (l2 : Low p2 n par v2) (l3 : Low p3 n par v3)
    (h0 : c0 = v0 ∨ c0 = v0 + 2) (h1 : c1 = v1 ∨ c1 = v1 + 2) (h2 : c2 = v2 ∨ c2 = v2 + 2) (h3 : c3 = v3 ∨ c3 = v3 + 2) :
    (q0 = c0 ∧ q1 = c1 ∧ q2 = c2 ∧ q3 = c3) ∨ Better (far p0 p1 p2 p3 n q0 q1 q2 q3) q0 q1 q2 q3 (far p0 p1 p2 p3 n c0 c1 c2 c3) c0 c1 c2 c3 := by
  have b0 := near_best hn n0 l0 h0
  have b1 := near_best hn n1 l1 h1
  have b2 := near_best hn n2 l2 h2
  have b3 := near_best hn n3 l3 h3
  unfold Better lt4 far
  have t : ∀ p q c : Int, q = c → (p - q * n) * (p - q * n) = (p - c * n) * (p - c * n) := fun p q c e => by rw [e]
  have t0 := t p0 q0 c0; have t1 := t p1 q1 c1; have t2 := t p2 q2 c2; have t3 := t p3 q3 c3
  generalize (p0 - q0 * n) * (p0 - q0 * n) = x0 at *
  generalize (p1 - q1 * n) * (p1 - q1 * n) = x1 at *
  generalize (p2 - q2 * n) * (p2 - q2 * n) = x2 at *
  generalize (p3 - q3 * n) * (p3 - q3 * n) = x3 at *
  generalize (p0 - c0 * n) * (p0 - c0 * n) = y0 at *
  generalize (p1 - c1 * n) * (p1 - c1 * n) = y1 at *
  generalize (p2 - c2 * n) * (p2 - c2 * n) = y2 at *
  generalize (p3 - c3 * n) * (p3 - c3 * n) = y3 at *
  clear n0 n1 n2 n3 l0 l1 l2 l3 h0 h1 h2 h3 t
  have d0 : (q0 = c0 ∧ x0 = y0) ∨ x0 < y0 ∨ (x0 = y0 ∧ q0 < c0) := b0.elim (fun e => .inl ⟨e, t0 e⟩) .inr
  have d1 : (q1 = c1 ∧ x1 = y1) ∨ x1 < y1 ∨ (x1 = y1 ∧ q1 < c1) := b1.elim (fun e => .inl ⟨e, t1 e⟩) .inr
  have d2 : (q2 = c2 ∧ x2 = y2) ∨ x2 < y2 ∨ (x2 = y2 ∧ q2 < c2) := b2.elim (fun e => .inl ⟨e, t2 e⟩) .inr
  have d3 : (q3 = c3 ∧ x3 = y3) ∨ x3 < y3 ∨ (x3 = y3 ∧ q3 < c3) := b3.elim (fun e => .inl ⟨e, t3 e⟩) .inr
  clear b0 b1 b2 b3 t0 t1 t2 t3
  rcases d0 with ⟨e0, z0⟩ | z0 | ⟨z0, e0⟩ <;> rcases d1 with ⟨e1, z1⟩ | z1 | ⟨z1, e1⟩ <;> rcases d2 with ⟨e2, z2⟩ | z2 | ⟨z2, e2⟩ <;> rcases d3 with ⟨e3, z3⟩ | z3 | ⟨z3, e3⟩ <;> omega
theorem Better.trans {s a b c d t e f g h u i j k l : Int} (h1 : Better s a b c d t e f g h) (h2 : Better t e f g h u i j k l) : Better s a b c d u i j k l := by
  unfold Better lt4 at *
  rcases h1 with h1 | ⟨h1, h1'⟩ <;> rcases h2 with h2 | ⟨h2, h2'⟩
  · exact .inl (by omega)
  · exact .inl (by omega)
  · exact .inl (by omega)
  · exact .inr ⟨by omega, by omega⟩
theorem Better.tri (s a b c d t e f g h : Int) : Better s a b c d t e f g h ∨ Better t e f g h s a b c d ∨ (s = t ∧ a = e ∧ b = f ∧ c = g ∧ d = h) := by
  unfold Better lt4
  omega
/-- The floor of a fraction, by the machine's quotient. -/
theorem floor_eq {a m : Int} (hm : 0 < m) : (Int.tmod a m = 0 → Int.tdiv a m * m = a) ∧ (Int.tmod a m ≠ 0 → 0 ≤ a → Int.tdiv a m * m ≤ a ∧ a < Int.tdiv a m * m + m) ∧ (Int.tmod a m ≠ 0 → a < 0 → Int.tdiv a m * m - m < a ∧ a < Int.tdiv a m * m) := by
  have e := Int.mul_tdiv_add_tmod a m
  rw [Int.mul_comm] at e
  have b : -m < Int.tmod a m ∧ Int.tmod a m < m ∧ (0 ≤ a → 0 ≤ Int.tmod a m) ∧ (a ≤ 0 → Int.tmod a m ≤ 0) := by
    rcases Int.le_total 0 a with h | h
    · rw [Int.tmod_eq_emod_of_nonneg h]
      have := Int.emod_nonneg a (show m ≠ 0 by omega)
      have := Int.emod_lt_of_pos a hm
      refine ⟨by omega, by omega, fun _ => by omega, fun h2 => ?_⟩
      have : a = 0 := by omega
      subst this
      simp
    · have e2 : Int.tmod a m = -Int.tmod (-a) m := by rw [Int.neg_tmod, Int.neg_neg]
      rw [e2, Int.tmod_eq_emod_of_nonneg (by omega)]
      have := Int.emod_nonneg (-a) (show m ≠ 0 by omega)
      have := Int.emod_lt_of_pos (-a) hm
      refine ⟨by omega, by omega, fun h2 => ?_, fun _ => by omega⟩
      have : a = 0 := by omega
      subst this
      simp
  generalize Int.tdiv a m * m = t at *
  generalize Int.tmod a m = r at *
  omega
end Go.Proofs.Ytgfnmimfoicmmaa.Dv
