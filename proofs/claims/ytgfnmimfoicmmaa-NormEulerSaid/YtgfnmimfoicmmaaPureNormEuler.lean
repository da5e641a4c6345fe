import Derived.Test.YtgfnmimfoicmmaaPMx11
import Derived.Test.YtgfnmimfoicmmaaMulE
import Derived.Test.YtgfnmimfoicmmaaSumE
set_option linter.unusedVariables false
set_option linter.unusedSimpArgs false
namespace Go.Proofs.Ytgfnmimfoicmmaa.Pure
open Go.RowKit Go.Proofs.Ytgfnmimfoicmmaa.PM Go.Proofs.YtgfnmimfoicmmaaW.PrintWords Go.Proofs.YtgfnmimfoicmmaaW.PrintLast
open Go.Proofs.Ytgfnmimfoicmmaa.Sq

theorem sq_pos (x : Int) : 0 ≤ x * x := by
  rcases Int.le_total 0 x with h | h
  · exact Int.mul_nonneg h h
  · have := Int.mul_nonneg (show 0 ≤ -x by omega) (show 0 ≤ -x by omega)
    rwa [Int.neg_mul_neg] at this
theorem four_list {n : Nat} {l : List Int} (h : sq 4 n 100 = some l) : ∃ a b c d : Int, l = [a, b, c, d] ∧ (0 ≤ a ∧ a ≤ 100) ∧ (0 ≤ b ∧ b ≤ 100) ∧ (0 ≤ c ∧ c ≤ 100) ∧ (0 ≤ d ∧ d ≤ 100) ∧ N4 a b c d = (n : Int) := by
  obtain ⟨a, t1, rfl, a0, a1, b, t2, rfl, b0, b1, c, t3, rfl, c0, c1, d, t4, rfl, d0, d1, rfl, he⟩ := sq_good _ _ _ _ h
  exact ⟨a, b, c, d, rfl, ⟨a0, by omega⟩, ⟨b0, by omega⟩, ⟨c0, by omega⟩, ⟨d0, by omega⟩, by unfold N4; omega⟩
theorem twice_wrap {x : Int} (h : -1000000 ≤ x ∧ x ≤ 1000000) : wrap64 (2 * x) = 2 * x := wrap_id (by omega) (by omega)
theorem D_twice (a b c d e f g h : Int) : D0 (2 * a) (2 * b) (2 * c) (2 * d) (2 * e) (2 * f) (2 * g) (2 * h) = 2 * (2 * D0 a b c d e f g h) ∧ D1 (2 * a) (2 * b) (2 * c) (2 * d) (2 * e) (2 * f) (2 * g) (2 * h) = 2 * (2 * D1 a b c d e f g h) ∧ D2 (2 * a) (2 * b) (2 * c) (2 * d) (2 * e) (2 * f) (2 * g) (2 * h) = 2 * (2 * D2 a b c d e f g h) ∧ D3 (2 * a) (2 * b) (2 * c) (2 * d) (2 * e) (2 * f) (2 * g) (2 * h) = 2 * (2 * D3 a b c d e f g h) := by
  unfold D0 D1 D2 D3
  refine ⟨?_, ?_, ?_, ?_⟩ <;> grind
theorem tdiv_two (x : Int) : Int.tdiv (2 * x) 2 = x := by rw [Int.mul_comm, Int.mul_tdiv_cancel _ (by omega)]
theorem sq_small {x : Int} (h : sm 40000 x) : wrap64 (x * x) = x * x ∧ 0 ≤ x * x ∧ x * x ≤ 1600000000 := by
  have := mul_sm h h
  have h0 := sq_pos x
  unfold sm at this
  exact ⟨wrap_id (by omega) (by omega), h0, by omega⟩
theorem mn_val (m n : Nat) (hm : (m : Int) < 100) (hn : (n : Int) < 101) : wrap64 ((m : Int) * (n : Int)) = ((m * n : Nat) : Int) ∧ m * n ≤ 10000 := by
  have hmn : m * n ≤ 99 * 100 := Nat.mul_le_mul (by omega) (by omega)
  exact ⟨by rw [← Int.natCast_mul, wrap_id (by omega) (by omega)], by omega⟩
theorem sum4 {a b c d : Int} (ha : 0 ≤ a ∧ a ≤ 1600000000) (hb : 0 ≤ b ∧ b ≤ 1600000000) (hc : 0 ≤ c ∧ c ≤ 1600000000) (hd : 0 ≤ d ∧ d ≤ 1600000000) : wrap64 (wrap64 (wrap64 (a + b) + c) + d) = a + b + c + d := by
  rw [wrap_id (x := a + b) (by omega) (by omega), wrap_id (x := a + b + c) (by omega) (by omega), wrap_id (by omega) (by omega)]
theorem sm_wrap {x : Int} (h : sm 40000 x) : wrap64 x = x := by
  unfold sm at h
  exact wrap_id (by omega) (by omega)
theorem sm_twice {x : Int} (h : sm 40000 x) : wrap64 (2 * x) = 2 * x := by
  unfold sm at h
  exact wrap_id (by omega) (by omega)
theorem NormEuler : bellpulllaw04_NormEuler.Pure := by
  intro a0 a1 ha0 ha1
  refine Ev.rounds ?_
  have w0 := wf_u8 ha0
  have w1 := wf_u8 ha1
  obtain ⟨m, em, hm⟩ := u_mod a0 100 (by omega) (by omega) (by omega)
  obtain ⟨n, en, hn⟩ := u_mod a1 101 (by omega) (by omega) (by omega)
  obtain ⟨e1, hmn⟩ := mn_val m n hm hn
  unfold bellpulllaw04_NormEuler.f
  rw [em, en]
  obtain ⟨l, hl⟩ := four_some m (by omega)
  obtain ⟨p, hp⟩ := four_some n (by omega)
  refine Ev.bind (Four_ev m (by omega)) (Ev.bind (Four_ev n (by omega)) ?_)
  rw [hl, hp]
  refine Ev.pos rfl (Ev.pos rfl (Ev.bind (by simpa using sum_ev (k := 4) (by omega) (by omega) (by omega) hl) (Ev.pos rfl (Ev.bind (by simpa using sum_ev (k := 4) (by omega) (by omega) (by omega) hp) (Ev.pos rfl (Ev.bind lives_ev (Ev.succ ?_)))))))
  simp only [bellpulllaw04_NormEuler.j0]
  obtain ⟨a, b, c, d, rfl, ra, rb, rc, rd', hs⟩ := four_list hl
  obtain ⟨e, f, g, h, rfl, re, rf, rg, rh, ht⟩ := four_list hp
  have r0 : ∀ x y z t : Int, rd [x, y, z, t] 0 = x ∧ rd [x, y, z, t] 1 = y ∧ rd [x, y, z, t] 2 = z ∧ rd [x, y, z, t] 3 = t := fun _ _ _ _ => ⟨rfl, rfl, rfl, rfl⟩
  simp only [Option.getD_some, r0]
  rw [twice_wrap (x := a) (by omega), twice_wrap (x := b) (by omega), twice_wrap (x := c) (by omega), twice_wrap (x := d) (by omega), twice_wrap (x := e) (by omega), twice_wrap (x := f) (by omega), twice_wrap (x := g) (by omega), twice_wrap (x := h) (by omega)]
  refine Ev.neg (by simp) (Ev.pos (by simp) (Ev.pos (by simp) (Ev.pos (by simp) (Ev.pos (by simp) (Ev.pos (by simp) (Ev.pos (by simp) (Ev.pos (by simp) (Ev.pos (by simp) ?_))))))))
  have hM := Mul_ev (a := 2 * a) (b := 2 * b) (c := 2 * c) (d := 2 * d) (e := 2 * e) (f := 2 * f) (g := 2 * g) (h := 2 * h) (by unfold itg; omega) (by unfold rng; omega) (by unfold itg; omega) (by unfold rng; omega)
  obtain ⟨t0, t1, t2, t3⟩ := D_twice a b c d e f g h
  rw [t0, t1, t2, t3, tdiv_two, tdiv_two, tdiv_two, tdiv_two] at hM
  obtain ⟨s0, s1, s2, s3⟩ := D_sm (A := 100) (B := 100) (a := a) (b := b) (c := c) (d := d) (e := e) (f := f) (g := g) (h := h) (by unfold sm; omega) (by unfold sm; omega) (by unfold sm; omega) (by unfold sm; omega) (by unfold sm; omega) (by unfold sm; omega) (by unfold sm; omega) (by unfold sm; omega)
  have he := euler a b c d e f g h
  rw [hs, ht] at he
  generalize D0 a b c d e f g h = x0 at *
  generalize D1 a b c d e f g h = x1 at *
  generalize D2 a b c d e f g h = x2 at *
  generalize D3 a b c d e f g h = x3 at *
  have v0 : sm 40000 x0 := s0
  have v1 : sm 40000 x1 := s1
  have v2 : sm 40000 x2 := s2
  have v3 : sm 40000 x3 := s3
  rw [sm_twice v0, sm_twice v1, sm_twice v2, sm_twice v3] at hM
  refine Ev.bind hM ?_
  have hb : ∀ x : Int, Go.bits .and .i64 (2 * x) 1 = 0 := fun x => by rw [bit1]; omega
  simp only [hb]
  refine Ev.pos trivial (Ev.pos trivial (Ev.pos trivial (Ev.pos trivial (Ev.succ ?_))))
  simp only [bellpulllaw04_NormEuler.j1, tdiv_two]
  rw [e1]
  obtain ⟨l2, hl2⟩ := four_some (m * n) hmn
  refine Ev.neg (by simp) (Ev.bind (Four_ev (m * n) hmn) ?_)
  rw [hl2]
  have z0 := sq_small v0; have z1 := sq_small v1; have z2 := sq_small v2; have z3 := sq_small v3
  rw [sm_wrap v0, sm_wrap v1, sm_wrap v2, sm_wrap v3, z0.1, z1.1, z2.1, z3.1]
  refine Ev.pos ?_ (Ev.pos rfl (Ev.bind (by simpa using sum_ev (k := 4) (by decide) hmn (by decide) hl2) (Ev.now _)))
  unfold N4 at he
  rw [sum4 z0.2 z1.2 z2.2 z3.2, he, Int.natCast_mul]
end Go.Proofs.Ytgfnmimfoicmmaa.Pure
