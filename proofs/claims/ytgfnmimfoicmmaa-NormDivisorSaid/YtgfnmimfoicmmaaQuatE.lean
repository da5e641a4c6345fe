/- Quaternions: check, the product of two, the norm: without rounds. -/
import Derived.Test.YtgfnmimfoicmmaaPMx0
import Derived.Test.YtgfnmimfoicmmaaPMx3
import Derived.Test.YtgfnmimfoicmmaaBits
set_option linter.unusedVariables false
set_option linter.unusedSimpArgs false
namespace Go.Proofs.Ytgfnmimfoicmmaa.Pure
open Go.RowKit Go.Proofs.Ytgfnmimfoicmmaa.PM Go.Proofs.YtgfnmimfoicmmaaW.PrintWords Go.Proofs.YtgfnmimfoicmmaaW.PrintLast

/-- All even, or all odd. -/
def itg (a b c d : Int) : Prop := b % 2 = a % 2 ∧ c % 2 = a % 2 ∧ d % 2 = a % 2
def rng (a b c d : Int) : Prop := (-1000 ≤ a ∧ a ≤ 1000) ∧ (-1000 ≤ b ∧ b ≤ 1000) ∧ (-1000 ≤ c ∧ c ≤ 1000) ∧ (-1000 ≤ d ∧ d ≤ 1000)
instance (a b c d : Int) : Decidable (itg a b c d) := by unfold itg; infer_instance
instance (a b c d : Int) : Decidable (rng a b c d) := by unfold rng; infer_instance
theorem integral_yes {a b c d : Int} (h : itg a b c d) : Ev (fun k => norm_quat_integral.f k a b c d) true := by
  obtain ⟨h1, h2, h3⟩ := h
  unfold norm_quat_integral.f
  iterate 5 (refine Ev.succ ?_; simp only [norm_quat_integral.l0, bit1, h1, h2, h3])
  exact Ev.now _
theorem integral_no {a b c d : Int} (h : ¬ itg a b c d) : Ev (fun k => norm_quat_integral.f k a b c d) false := by
  unfold norm_quat_integral.f
  refine Ev.succ ?_
  simp only [norm_quat_integral.l0, bit1]
  by_cases h1 : b % 2 = a % 2
  · by_cases h2 : c % 2 = a % 2
    · have h3 : ¬ d % 2 = a % 2 := fun h3 => h ⟨h1, h2, h3⟩
      iterate 3 (refine Ev.succ ?_; simp only [norm_quat_integral.l0, bit1, h1, h2, h3])
      exact Ev.now _
    · iterate 2 (refine Ev.succ ?_; simp only [norm_quat_integral.l0, bit1, h1, h2])
      exact Ev.now _
  · iterate 1 (refine Ev.succ ?_; simp only [norm_quat_integral.l0, bit1, h1])
    exact Ev.now _
theorem Min_ev (a b c d : Int) : Ev (fun k => slices_Min_int_int.f k [a, b, c, d]) (mn (mn (mn a b) c) d) := by
  unfold slices_Min_int_int.f
  refine Ev.neg (by simp) (Ev.pos (by simp) ?_)
  iterate 4 (refine Ev.succ ?_; simp [slices_Min_int_int.l0, rd, wrap64])
  exact Ev.now _
theorem Max_ev (a b c d : Int) : Ev (fun k => slices_Max_int_int.f k [a, b, c, d]) (mx (mx (mx a b) c) d) := by
  unfold slices_Max_int_int.f
  refine Ev.neg (by simp) (Ev.pos (by simp) ?_)
  iterate 4 (refine Ev.succ ?_; simp [slices_Max_int_int.l0, rd, wrap64])
  exact Ev.now _
/-- What check returns: the number of the error. -/
def chk (l : List S23) : Int := if ∀ x ∈ l, itg x.f0 x.f1 x.f2 x.f3 then (if ∀ x ∈ l, rng x.f0 x.f1 x.f2 x.f3 then 0 else 1) else 2
theorem rd23 (l : List S23) (i : Nat) (h : i < l.length) : rd_T23 l (i : Int) = l[i] := by
  simp [rd_T23, List.getD_eq_getElem?_getD, List.getElem?_eq_getElem h]
theorem mn_le (a b : Int) : mn a b ≤ a ∧ mn a b ≤ b ∧ (mn a b = a ∨ mn a b = b) := by
  unfold mn; split <;> omega
theorem mx_ge (a b : Int) : a ≤ mx a b ∧ b ≤ mx a b ∧ (mx a b = a ∨ mx a b = b) := by
  unfold mx; split <;> omega
theorem rng_mnmx (a b c d : Int) : rng a b c d ↔ ¬ mn (mn (mn a b) c) d < -1000 ∧ ¬ mx (mx (mx a b) c) d > 1000 := by
  have h1 := mn_le a b
  have h2 := mn_le (mn a b) c
  have h3 := mn_le (mn (mn a b) c) d
  have g1 := mx_ge a b
  have g2 := mx_ge (mx a b) c
  have g3 := mx_ge (mx (mx a b) c) d
  unfold rng
  omega
theorem check_loop1 (l : List S23) (hl : l.length ≤ 1000) : ∀ (j i : Nat), i + j = l.length → Ev (fun k => norm_check.l1 k l (l.length : Int) (i : Int)) (if ∀ x ∈ l.drop i, rng x.f0 x.f1 x.f2 x.f3 then 0 else 1)
  | 0, i, h => by
    refine Ev.succ ?_
    simp only [norm_check.l1]
    refine Ev.neg (by omega) ?_
    rw [List.drop_eq_nil_of_le (by omega)]
    simpa using Ev.now (0 : Int)
  | j + 1, i, h => by
    have hi : i < l.length := by omega
    have ih := check_loop1 l hl j (i + 1) (by omega)
    refine Ev.succ ?_
    simp only [norm_check.l1, norm_of.f]
    have hw : wrap64 ((i : Int) + 1) = ((i + 1 : Nat) : Int) := by rw [wrap_id (by omega) (by omega)]; omega
    rw [rd23 l i hi, hw]
    rw [List.drop_eq_getElem_cons hi]
    refine Ev.pos (by omega) (Ev.pos (by omega) (Ev.pos (by omega) (Ev.bindc rfl (Ev.bind (Min_ev _ _ _ _) ?_))))
    by_cases hr : rng l[i].f0 l[i].f1 l[i].f2 l[i].f3
    · have e : (∀ x ∈ l[i] :: l.drop (i + 1), rng x.f0 x.f1 x.f2 x.f3) ↔ ∀ x ∈ l.drop (i + 1), rng x.f0 x.f1 x.f2 x.f3 := ⟨fun h x hx => h x (List.mem_cons_of_mem _ hx), fun h x hx => (List.mem_cons.mp hx).elim (fun e => by rw [e]; exact hr) (h x)⟩
      simp only [e]
      have hr2 := (rng_mnmx _ _ _ _).mp hr
      exact Ev.neg hr2.1 (Ev.bind (Max_ev _ _ _ _) (Ev.neg hr2.2 ih))
    · rw [if_neg (fun c => hr (c _ List.mem_cons_self))]
      by_cases hm : mn (mn (mn l[i].f0 l[i].f1) l[i].f2) l[i].f3 < -1000
      · exact Ev.pos hm (Ev.now _)
      · refine Ev.neg hm (Ev.bind (Max_ev _ _ _ _) (Ev.pos ?_ (Ev.now _)))
        exact Decidable.byContradiction (fun c => hr ((rng_mnmx _ _ _ _).mpr ⟨hm, c⟩))
theorem check_loop0 (l : List S23) (hl : l.length ≤ 1000) : ∀ (j i : Nat), i + j = l.length → Ev (fun k => norm_check.l0 k l l (l.length : Int) (i : Int)) (if ∀ x ∈ l.drop i, itg x.f0 x.f1 x.f2 x.f3 then (if ∀ x ∈ l, rng x.f0 x.f1 x.f2 x.f3 then 0 else 1) else 2)
  | 0, i, h => by
    refine Ev.succ ?_
    simp only [norm_check.l0]
    refine Ev.neg (by omega) ?_
    rw [List.drop_eq_nil_of_le (by omega), if_pos (by simp)]
    have := check_loop1 l hl l.length 0 (by omega)
    simpa using this
  | j + 1, i, h => by
    have hi : i < l.length := by omega
    have ih := check_loop0 l hl j (i + 1) (by omega)
    refine Ev.succ ?_
    simp only [norm_check.l0, norm_of.f]
    have hw : wrap64 ((i : Int) + 1) = ((i + 1 : Nat) : Int) := by rw [wrap_id (by omega) (by omega)]; omega
    rw [rd23 l i hi, hw, List.drop_eq_getElem_cons hi]
    refine Ev.pos (by omega) (Ev.pos (by omega) (Ev.pos (by omega) (Ev.bindc rfl ?_)))
    by_cases hr : itg l[i].f0 l[i].f1 l[i].f2 l[i].f3
    · have e : (∀ x ∈ l[i] :: l.drop (i + 1), itg x.f0 x.f1 x.f2 x.f3) ↔ ∀ x ∈ l.drop (i + 1), itg x.f0 x.f1 x.f2 x.f3 := ⟨fun h x hx => h x (List.mem_cons_of_mem _ hx), fun h x hx => (List.mem_cons.mp hx).elim (fun e => by rw [e]; exact hr) (h x)⟩
      simp only [e]
      exact Ev.bind (integral_yes hr) (Ev.pos rfl ih)
    · rw [if_neg (fun c => hr (c _ List.mem_cons_self))]
      exact Ev.bind (integral_no hr) (Ev.neg (by simp) (Ev.now _))
theorem check_ev (l : List S23) (hl : l.length ≤ 1000) : Ev (fun k => norm_check.f k l) (chk l) := by
  have := check_loop0 l hl l.length 0 (by omega)
  simpa [norm_check.f, chk] using this
/-- Half of a number with its sign, as the machine halves. -/
def hf (x : Int) : Int := wrap64 (Int.tdiv (wrap64 x) 2)
theorem rd67 (l : List S67) (i : Nat) (h : i < l.length) : rd_T67 l (i : Int) = l[i] := by
  simp [rd_T67, List.getD_eq_getElem?_getD, List.getElem?_eq_getElem h]
theorem halves (l : List S67) (n i a b c d : Int) (r : Int × Int × Int × Int)
    (h : Ev (fun k => norm_product.l0 k l n (wrap64 (i + 1)) (wrap64 (Int.tdiv a 2)) (wrap64 (Int.tdiv b 2)) (wrap64 (Int.tdiv c 2)) (wrap64 (Int.tdiv d 2))) r) : Ev (fun k => norm_product.l1 k l n i 0 a b c d) r := by
  iterate 5 (refine Ev.succ ?_; simp [norm_product.l1])
  exact h
/-- The product's coordinates, four times as great (doubled twice). -/
def D0 (a b c d e f g h : Int) : Int := a * e - b * f - c * g - d * h
def D1 (a b c d e f g h : Int) : Int := a * f + b * e + c * h - d * g
def D2 (a b c d e f g h : Int) : Int := a * g - b * h + c * e + d * f
def D3 (a b c d e f g h : Int) : Int := a * h + b * g - c * f + d * e
def sm (M x : Int) : Prop := -M ≤ x ∧ x ≤ M
theorem mul_sm {A B x y : Int} (hx : sm A x) (hy : sm B y) : sm (A * B) (x * y) := by
  obtain ⟨x0, x1⟩ := hx
  obtain ⟨y0, y1⟩ := hy
  have hA : 0 ≤ A := by omega
  have hB : 0 ≤ B := by omega
  have key : ∀ (x y A B : Int), 0 ≤ x → x ≤ A → 0 ≤ y → y ≤ B → 0 ≤ x * y ∧ x * y ≤ A * B := fun x y A B h0 h1 h2 h3 => ⟨Int.mul_nonneg h0 h2, Int.mul_le_mul h1 h3 h2 (by omega)⟩
  rcases Int.le_total 0 x with hx | hx <;> rcases Int.le_total 0 y with hy | hy
  · have := key x y A B hx x1 hy y1; unfold sm; omega
  · have := key x (-y) A B hx x1 (by omega) (by omega); rw [Int.mul_neg] at this; unfold sm; omega
  · have := key (-x) y A B (by omega) (by omega) hy y1; rw [Int.neg_mul] at this; unfold sm; omega
  · have := key (-x) (-y) A B (by omega) (by omega) (by omega) (by omega); rw [Int.neg_mul_neg] at this; unfold sm; omega
/-- Numbers that are small enough: the machine's products are the numbers' products. -/
theorem double_ev {A B a b c d e f g h : Int} (hAB : A * B ≤ 1000000000000000000) (ha : sm A a) (hb : sm A b) (hc : sm A c) (hd : sm A d) (he : sm B e) (hf : sm B f) (hg : sm B g) (hh : sm B h) :
    norm_quat_double.f a b c d e f g h = some (D0 a b c d e f g h, D1 a b c d e f g h, D2 a b c d e f g h, D3 a b c d e f g h) := by
  have w1 : ∀ x y, sm A x → sm B y → wrap64 (x * y) = x * y ∧ sm 1000000000000000000 (x * y) := fun x y hx hy => by
    have h1 := mul_sm hx hy
    unfold sm at h1 ⊢
    exact ⟨wrap_id (by omega) (by omega), by omega⟩
  have w2 : ∀ x y, sm 4000000000000000000 x → sm 1000000000000000000 y → wrap64 (x + y) = x + y ∧ wrap64 (x - y) = x - y := fun x y hx hy => by
    unfold sm at hx hy
    exact ⟨wrap_id (by omega) (by omega), wrap_id (by omega) (by omega)⟩
  have p := fun x y hx hy => (w1 x y hx hy).2
  unfold norm_quat_double.f D0 D1 D2 D3
  rw [(w1 a e ha he).1, (w1 b f hb hf).1, (w1 c g hc hg).1, (w1 d h hd hh).1, (w1 a f ha hf).1, (w1 b e hb he).1, (w1 c h hc hh).1, (w1 d g hd hg).1, (w1 a g ha hg).1, (w1 b h hb hh).1, (w1 c e hc he).1, (w1 d f hd hf).1, (w1 a h ha hh).1, (w1 b g hb hg).1, (w1 c f hc hf).1, (w1 d e hd he).1]
  have q1 := p a e ha he; have q2 := p b f hb hf; have q3 := p c g hc hg; have q4 := p d h hd hh
  have q5 := p a f ha hf; have q6 := p b e hb he; have q7 := p c h hc hh; have q8 := p d g hd hg
  have q9 := p a g ha hg; have q10 := p b h hb hh; have q11 := p c e hc he; have q12 := p d f hd hf
  have q13 := p a h ha hh; have q14 := p b g hb hg; have q15 := p c f hc hf; have q16 := p d e hd he
  unfold sm at q1 q2 q3 q4 q5 q6 q7 q8 q9 q10 q11 q12 q13 q14 q15 q16
  have r : ∀ x y z t : Int, sm 1000000000000000000 x → sm 1000000000000000000 y → sm 1000000000000000000 z → sm 1000000000000000000 t →
      wrap64 (wrap64 (wrap64 (x - y) - z) - t) = x - y - z - t ∧ wrap64 (wrap64 (wrap64 (x + y) + z) - t) = x + y + z - t ∧ wrap64 (wrap64 (wrap64 (x - y) + z) + t) = x - y + z + t ∧ wrap64 (wrap64 (wrap64 (x + y) - z) + t) = x + y - z + t := fun x y z t hx hy hz ht => by
    unfold sm at hx hy hz ht
    refine ⟨?_, ?_, ?_, ?_⟩
    · rw [wrap_id (x := x - y) (by omega) (by omega), wrap_id (x := x - y - z) (by omega) (by omega), wrap_id (by omega) (by omega)]
    · rw [wrap_id (x := x + y) (by omega) (by omega), wrap_id (x := x + y + z) (by omega) (by omega), wrap_id (by omega) (by omega)]
    · rw [wrap_id (x := x - y) (by omega) (by omega), wrap_id (x := x - y + z) (by omega) (by omega), wrap_id (by omega) (by omega)]
    · rw [wrap_id (x := x + y) (by omega) (by omega), wrap_id (x := x + y - z) (by omega) (by omega), wrap_id (by omega) (by omega)]
  rw [(r _ _ _ _ q1 q2 q3 q4).1, (r _ _ _ _ q5 q6 q7 q8).2.1, (r _ _ _ _ q9 q10 q11 q12).2.2.1, (r _ _ _ _ q13 q14 q15 q16).2.2.2]
end Go.Proofs.Ytgfnmimfoicmmaa.Pure
