/- divide: the two rounds. -/
import Derived.Test.YtgfnmimfoicmmaaPMx0
import Derived.Test.YtgfnmimfoicmmaaPMx3
import Derived.Test.YtgfnmimfoicmmaaPMx4
import Derived.Test.YtgfnmimfoicmmaaDivideE
set_option linter.unusedVariables false
set_option linter.unusedSimpArgs false
namespace Go.Proofs.Ytgfnmimfoicmmaa.Pure
open Go.RowKit Go.Proofs.Ytgfnmimfoicmmaa.PM Go.Proofs.YtgfnmimfoicmmaaW.PrintWords Go.Proofs.YtgfnmimfoicmmaaW.PrintLast
open Go.Proofs.Ytgfnmimfoicmmaa.Dv

theorem cmp_eq (a b : Int) : cmp_Compare_int.f a b = some (if a < b then -1 else if a > b then 1 else 0) := by
  unfold cmp_Compare_int.f cmp_isNaN_int.f
  simp
  split
  · rfl
  · split <;> rfl
theorem Cmp_loop (l m : List Int) (hl : l.length = 4) (hm : m.length = 4) (i : Nat) (hi : i < 4) (t : Int)
    (h : (rd l i = rd m i ∧ Ev (fun k => slices_Compare_int_int.l0 k l m l 4 ((i + 1 : Nat) : Int)) t) ∨ (rd l i < rd m i ∧ t = -1) ∨ (rd l i > rd m i ∧ t = 1)) : Ev (fun k => slices_Compare_int_int.l0 k l m l 4 (i : Int)) t := by
  refine Ev.succ ?_
  simp only [slices_Compare_int_int.l0, cmp_eq]
  have hw : wrap64 ((i : Int) + 1) = ((i + 1 : Nat) : Int) := by rw [wrap_id (by omega) (by omega)]; omega
  rw [hw]
  refine Ev.pos (by omega) (Ev.pos (by omega) (Ev.pos (by omega) (Ev.neg (by omega) (Ev.pos (by omega) (Ev.bindc rfl ?_)))))
  rcases h with ⟨h, hn⟩ | ⟨h, rfl⟩ | ⟨h, rfl⟩
  · rw [h, if_neg (by omega), if_neg (by omega)]
    exact Ev.pos rfl hn
  · rw [if_pos h]
    exact Ev.neg (by omega) (Ev.now _)
  · rw [if_neg (by omega), if_pos h]
    exact Ev.neg (by omega) (Ev.now _)
theorem Compare_ev (a b c d e f g h : Int) : ∃ t, Ev (fun k => slices_Compare_int_int.f k [a, b, c, d] [e, f, g, h]) t ∧ (t < 0 ↔ lt4 a b c d e f g h) := by
  have L := fun (i : Nat) (hi : i < 4) (t : Int) hh => Cmp_loop [a, b, c, d] [e, f, g, h] rfl rfl i hi t hh
  have last : Ev (fun k => slices_Compare_int_int.l0 k [a, b, c, d] [e, f, g, h] [a, b, c, d] 4 ((4 : Nat) : Int)) 0 := by
    refine Ev.succ ?_
    simp only [slices_Compare_int_int.l0]
    exact Ev.neg (by omega) (Ev.neg (by simp) (Ev.now _))
  have pick : ∀ (x y : Int), x ≠ y → ∃ t : Int, ((x < y ∧ t = -1) ∨ (x > y ∧ t = 1)) := fun x y hxy => by
    rcases Int.lt_or_lt_of_ne hxy with h | h
    · exact ⟨-1, .inl ⟨h, rfl⟩⟩
    · exact ⟨1, .inr ⟨h, rfl⟩⟩
  unfold lt4
  show ∃ t, Ev (fun k => slices_Compare_int_int.l0 k [a, b, c, d] [e, f, g, h] [a, b, c, d] 4 ((0 : Nat) : Int)) t ∧ _
  by_cases h0 : a = e
  · by_cases h1 : b = f
    · by_cases h2 : c = g
      · by_cases h3 : d = h
        · exact ⟨0, L 0 (by omega) 0 (.inl ⟨h0, L 1 (by omega) 0 (.inl ⟨h1, L 2 (by omega) 0 (.inl ⟨h2, L 3 (by omega) 0 (.inl ⟨h3, last⟩)⟩)⟩)⟩), by omega⟩
        · obtain ⟨t, ht⟩ := pick d h h3
          exact ⟨t, L 0 (by omega) t (.inl ⟨h0, L 1 (by omega) t (.inl ⟨h1, L 2 (by omega) t (.inl ⟨h2, L 3 (by omega) t (.inr ht)⟩)⟩)⟩), by omega⟩
      · obtain ⟨t, ht⟩ := pick c g h2
        exact ⟨t, L 0 (by omega) t (.inl ⟨h0, L 1 (by omega) t (.inl ⟨h1, L 2 (by omega) t (.inr ht)⟩)⟩), by omega⟩
    · obtain ⟨t, ht⟩ := pick b f h1
      exact ⟨t, L 0 (by omega) t (.inl ⟨h0, L 1 (by omega) t (.inr ht)⟩), by omega⟩
  · obtain ⟨t, ht⟩ := pick a e h0
    exact ⟨t, L 0 (by omega) t (.inr ht), by omega⟩
section
variable {n least par x0 x1 x2 x3 y0 y1 y2 y3 p0 p1 p2 p3 b0 b1 b2 b3 q0 q1 q2 q3 : Int} {r : Int × Int × Int × Int × Int × Int × Int × Int}
/-- The four coordinates of one parity; then what is compared. -/
theorem dl1 (hn : 0 < n) (hnb : n ≤ 1000000) (hp0 : sm 10000000 p0) (hp1 : sm 10000000 p1) (hp2 : sm 10000000 p2) (hp3 : sm 10000000 p3)
    (f0 : norm_nearest.f (2 * p0) (2 * n) par = some q0) (f1 : norm_nearest.f (2 * p1) (2 * n) par = some q1) (f2 : norm_nearest.f (2 * p2) (2 * n) par = some q2) (f3 : norm_nearest.f (2 * p3) (2 * n) par = some q3)
    (n0 : Near p0 n par q0) (n1 : Near p1 n par q1) (n2 : Near p2 n par q2) (n3 : Near p3 n par q3)
    (hr : (least < 0 ∨ 4 * far p0 p1 p2 p3 n q0 q1 q2 q3 < least ∨ (4 * far p0 p1 p2 p3 n q0 q1 q2 q3 = least ∧ lt4 q0 q1 q2 q3 b0 b1 b2 b3)) → Ev (fun k => norm_divide.l0 k n (4 * far p0 p1 p2 p3 n q0 q1 q2 q3) (wrap64 (par + 1)) x0 x1 x2 x3 y0 y1 y2 y3 (2 * p0) (2 * p1) (2 * p2) (2 * p3) q0 q1 q2 q3) r)
    (hr2 : ¬ (least < 0 ∨ 4 * far p0 p1 p2 p3 n q0 q1 q2 q3 < least ∨ (4 * far p0 p1 p2 p3 n q0 q1 q2 q3 = least ∧ lt4 q0 q1 q2 q3 b0 b1 b2 b3)) → Ev (fun k => norm_divide.l0 k n least (wrap64 (par + 1)) x0 x1 x2 x3 y0 y1 y2 y3 (2 * p0) (2 * p1) (2 * p2) (2 * p3) b0 b1 b2 b3) r) :
    Ev (fun k => norm_divide.l1 k n least par 0 par 0 (2 * p3) (2 * p2) (2 * p1) (2 * p0) x0 x1 x2 x3 y0 y1 y2 y3 (2 * p0) (2 * p1) (2 * p2) (2 * p3) b0 b1 b2 b3 0 0 0 0) r := by
  have hw : wrap64 (2 * n) = 2 * n := wrap_id (by omega) (by omega)
  obtain ⟨m0, s0, z0, u0⟩ := miss_ev hn hnb hp0 n0
  obtain ⟨m1, s1, z1, u1⟩ := miss_ev hn hnb hp1 n1
  obtain ⟨m2, s2, z2, u2⟩ := miss_ev hn hnb hp2 n2
  obtain ⟨m3, s3, z3, u3⟩ := miss_ev hn hnb hp3 n3
  unfold far at *
  refine Ev.succ ?_
  simp only [norm_divide.l1, hw]
  refine Ev.pos (by omega) (Ev.pos trivial (Ev.bindc f0 (Ev.succ ?_)))
  simp only [norm_divide.l1, hw, m0, s0]
  refine Ev.pos (by omega) (Ev.neg (by omega) (Ev.pos trivial (Ev.bindc f1 (Ev.succ ?_))))
  simp only [norm_divide.l1, hw, m1, s1]
  refine Ev.pos (by omega) (Ev.neg (by omega) (Ev.neg (by omega) (Ev.pos trivial (Ev.bindc f2 (Ev.succ ?_)))))
  simp only [norm_divide.l1, hw, m2, s2]
  refine Ev.pos (by omega) (Ev.neg (by omega) (Ev.neg (by omega) (Ev.neg (by omega) (Ev.pos trivial (Ev.bindc f3 (Ev.succ ?_))))))
  simp only [norm_divide.l1, hw, m3, s3]
  generalize (p0 - q0 * n) * (p0 - q0 * n) = e0 at *
  generalize (p1 - q1 * n) * (p1 - q1 * n) = e1 at *
  generalize (p2 - q2 * n) * (p2 - q2 * n) = e2 at *
  generalize (p3 - q3 * n) * (p3 - q3 * n) = e3 at *
  have ht : wrap64 (wrap64 (wrap64 (wrap64 (0 + 4 * e0) + 4 * e1) + 4 * e2) + 4 * e3) = 4 * (e0 + e1 + e2 + e3) := by
    rw [wrap_id (x := 0 + 4 * e0) (by omega) (by omega), wrap_id (x := 0 + 4 * e0 + 4 * e1) (by omega) (by omega), wrap_id (x := 0 + 4 * e0 + 4 * e1 + 4 * e2) (by omega) (by omega), wrap_id (by omega) (by omega)]
    omega
  rw [ht]
  refine Ev.neg (by omega) ?_
  by_cases c1 : least < 0
  · exact Ev.pos c1 (hr (.inl c1))
  · refine Ev.neg c1 ?_
    by_cases c2 : 4 * (e0 + e1 + e2 + e3) < least
    · exact Ev.pos c2 (hr (.inr (.inl c2)))
    · refine Ev.neg c2 ?_
      by_cases c3 : 4 * (e0 + e1 + e2 + e3) = least
      · obtain ⟨t, ht1, ht2⟩ := Compare_ev q0 q1 q2 q3 b0 b1 b2 b3
        refine Ev.pos c3 (Ev.bind ht1 ?_)
        by_cases c4 : t < 0
        · exact Ev.pos c4 (hr (.inr (.inr ⟨c3, ht2.mp c4⟩)))
        · exact Ev.neg c4 (hr2 (fun c => c.elim c1 (fun c => c.elim c2 (fun c => c4 (ht2.mpr c.2)))))
      · exact Ev.neg c3 (hr2 (fun c => c.elim c1 (fun c => c.elim c2 (fun c => c3 c.1))))
end
theorem minus_ev (a b c d e f g h : Int) : Ev (fun k => norm_quat_minus.f k a b c d e f g h) (wrap64 (a - e), wrap64 (b - f), wrap64 (c - g), wrap64 (d - h)) := by
  unfold norm_quat_minus.f
  iterate 5 (refine Ev.succ ?_; simp [norm_quat_minus.l0])
  exact Ev.now _
theorem half_self2 {a : Int} (h : sm 1000000000 a) : wrap64 (Int.tdiv (2 * a) 2) = a := by
  unfold sm at h
  rw [Int.mul_comm, Int.mul_tdiv_cancel _ (by omega), wrap_id (by omega) (by omega)]
theorem double_self2 {a b c d : Int} (h0 : sm 1000000000 a) (h1 : sm 1000000000 b) (h2 : sm 1000000000 c) (h3 : sm 1000000000 d) : norm_quat_double.f 2 0 0 0 a b c d = some (2 * a, 2 * b, 2 * c, 2 * d) := by
  unfold sm at *
  unfold norm_quat_double.f
  simp only [Int.zero_mul]
  congr 2
  · unfold wrap64; omega
  congr 1
  · unfold wrap64; omega
  congr 1
  · unfold wrap64; omega
  · unfold wrap64; omega
theorem product_ev2 {a b c d e f g h : Int} (h0 : sm 1000000000 a) (h1 : sm 1000000000 b) (h2 : sm 1000000000 c) (h3 : sm 1000000000 d) (r : Int × Int × Int × Int) (hr : norm_quat_double.f a b c d e f g h = some r) :
    Ev (fun k => norm_product.f k [(⟨a, b, c, d⟩ : S67), (⟨e, f, g, h⟩ : S67)]) (wrap64 (Int.tdiv r.1 2), wrap64 (Int.tdiv r.2.1 2), wrap64 (Int.tdiv r.2.2.1 2), wrap64 (Int.tdiv r.2.2.2 2)) := by
  have e0 : rd_T67 [(⟨a, b, c, d⟩ : S67), (⟨e, f, g, h⟩ : S67)] 0 = ⟨a, b, c, d⟩ := rfl
  have e1 : rd_T67 [(⟨a, b, c, d⟩ : S67), (⟨e, f, g, h⟩ : S67)] (wrap64 (0 + 1)) = ⟨e, f, g, h⟩ := by simp [rd_T67, wrap64]
  unfold norm_product.f
  refine Ev.succ ?_
  simp only [norm_product.l0, e0]
  refine Ev.pos (by simp) (Ev.pos (by omega) (Ev.pos (by simp) ?_))
  refine Ev.bindc (double_self2 h0 h1 h2 h3) ?_
  refine halves _ _ _ _ _ _ _ _ ?_
  dsimp only
  rw [half_self2 h0, half_self2 h1, half_self2 h2, half_self2 h3]
  refine Ev.succ ?_
  simp only [norm_product.l0, e1]
  refine Ev.pos (by simp [wrap64]) (Ev.pos (by simp [wrap64]) (Ev.pos (by simp [wrap64]) ?_))
  refine Ev.bindc hr ?_
  refine halves _ _ _ _ _ _ _ _ ?_
  refine Ev.succ ?_
  simp only [norm_product.l0]
  exact Ev.neg (by simp [wrap64]) (Ev.now _)
end Go.Proofs.Ytgfnmimfoicmmaa.Pure
