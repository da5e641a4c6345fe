import Derived.Test.YtgfnmimfoicmmaaPMx3
import Derived.Test.YtgfnmimfoicmmaaPMx7
import Derived.Test.YtgfnmimfoicmmaaPMx21
import Derived.Test.YtgfnmimfoicmmaaPMx23
import Derived.Test.YtgfnmimfoicmmaaPMx25
import Derived.Test.YtgfnmimfoicmmaaChkR
set_option linter.unusedVariables false
set_option linter.unusedSimpArgs false
namespace Go.Proofs.Ytgfnmimfoicmmaa.Pure
open Go.RowKit Go.Proofs.Ytgfnmimfoicmmaa.PM Go.Proofs.YtgfnmimfoicmmaaW.PrintWords Go.Proofs.YtgfnmimfoicmmaaW.PrintLast

theorem Mul_no {a b c d e f g h : Int} (hc : chk [⟨a, b, c, d⟩, ⟨e, f, g, h⟩] ≠ 0) : Ev (fun k => norm_Mul.f k a b c d e f g h) (0, 0, 0, 0, chk [⟨a, b, c, d⟩, ⟨e, f, g, h⟩]) := by
  unfold norm_Mul.f
  exact Ev.bind (check_ev _ (by simp)) (Ev.neg hc (Ev.now _))
theorem Conj_yes {a b c d : Int} (hc : chk [⟨a, b, c, d⟩] = 0) : Ev (fun k => norm_Conj.f k a b c d) (a, wrap64 (-b), wrap64 (-c), wrap64 (-d), 0) := by
  unfold norm_Conj.f
  exact Ev.bind (check_ev _ (by simp)) (Ev.pos hc (Ev.bindc rfl (Ev.bindc rfl (Ev.bindc rfl (Ev.now _)))))
theorem Conj_no {a b c d : Int} (hc : chk [⟨a, b, c, d⟩] ≠ 0) : Ev (fun k => norm_Conj.f k a b c d) (0, 0, 0, 0, chk [⟨a, b, c, d⟩]) := by
  unfold norm_Conj.f
  exact Ev.bind (check_ev _ (by simp)) (Ev.neg hc (Ev.now _))
theorem Norm_yes {a b c d n : Int} (hc : chk [⟨a, b, c, d⟩] = 0) (hn : norm_quat_norm.f a b c d = some n) : Ev (fun k => norm_Norm.f k a b c d) (n, 0) := by
  unfold norm_Norm.f
  exact Ev.bind (check_ev _ (by simp)) (Ev.pos hc (Ev.bindc rfl (Ev.bindc hn (Ev.now _))))
theorem Norm_no {a b c d : Int} (hc : chk [⟨a, b, c, d⟩] ≠ 0) : Ev (fun k => norm_Norm.f k a b c d) (0, chk [⟨a, b, c, d⟩]) := by
  unfold norm_Norm.f
  exact Ev.bind (check_ev _ (by simp)) (Ev.neg hc (Ev.now _))
theorem refMul_eq {a b c d e f g h : Int} (r : Int × Int × Int × Int) (hr : norm_quat_double.f a b c d e f g h = some r) : bellpullref04_Mul.f a b c d e f g h = some (wrap64 (Int.tdiv r.1 2), wrap64 (Int.tdiv r.2.1 2), wrap64 (Int.tdiv r.2.2.1 2), wrap64 (Int.tdiv r.2.2.2 2)) := by
  unfold norm_quat_double.f at hr
  obtain rfl := Option.some.inj hr
  rfl
theorem refMul_ev {A B a b c d e f g h : Int} (hAB : A * B ≤ 1000000000000000000) (ha : sm A a) (hb : sm A b) (hc : sm A c) (hd : sm A d) (he : sm B e) (hf : sm B f) (hg : sm B g) (hh : sm B h) :
    bellpullref04_Mul.f a b c d e f g h = some (wrap64 (Int.tdiv (D0 a b c d e f g h) 2), wrap64 (Int.tdiv (D1 a b c d e f g h) 2), wrap64 (Int.tdiv (D2 a b c d e f g h) 2), wrap64 (Int.tdiv (D3 a b c d e f g h) 2)) := refMul_eq _ (double_ev hAB ha hb hc hd he hf hg hh)
theorem prod_end (a b c d e f g h : Int) (m : Int × Int × Int × Int × Int) (hm : Ev (fun k => norm_Mul.f k a b c d e f g h) m) : Ev (fun k => bellpulllaw04_NormProducts.j0 k m.2.2.2.2 a b c d e f g h m.1 m.2.1 m.2.2.1 m.2.2.2.1) true := by
  refine Ev.succ ?_
  simp only [bellpulllaw04_NormProducts.j0]
  refine Ev.bind (refCheck_ev _ (by simp)) ?_
  by_cases hc : chk [⟨a, b, c, d⟩, ⟨e, f, g, h⟩] = 0
  · obtain ⟨⟨h1, h2⟩, h3, h4⟩ := chk2_rng hc
    obtain rfl := Ev.uniq hm (Mul_ev h1 h2 h3 h4)
    obtain ⟨s0, s1, s2, s3⟩ := sm_of h2
    obtain ⟨t0, t1, t2, t3⟩ := sm_of h4
    refine Ev.pos hc (Ev.bindc (refMul_ev (A := 1000) (B := 1000) (by omega) s0 s1 s2 s3 t0 t1 t2 t3) ?_)
    exact Ev.pos (by simp) (Ev.pos rfl (Ev.bind lives_ev (Ev.now _)))
  · obtain rfl := Ev.uniq hm (Mul_no hc)
    exact Ev.neg hc (Ev.pos (by simp) (Ev.pos rfl (Ev.bind lives_ev (Ev.now _))))
theorem Mul_some (a b c d e f g h : Int) : ∃ m, Ev (fun k => norm_Mul.f k a b c d e f g h) m := by
  by_cases hc : chk [⟨a, b, c, d⟩, ⟨e, f, g, h⟩] = 0
  · obtain ⟨⟨h1, h2⟩, h3, h4⟩ := chk2_rng hc
    exact ⟨_, Mul_ev h1 h2 h3 h4⟩
  · exact ⟨_, Mul_no hc⟩
theorem NormProducts : ∀ (a0_0 a0_1 a0_2 a0_3 a1_0 a1_1 a1_2 a1_3 : Int), (Lit.int .i64 a0_0).wf = true → (Lit.int .i64 a0_1).wf = true → (Lit.int .i64 a0_2).wf = true → (Lit.int .i64 a0_3).wf = true → (Lit.int .i64 a1_0).wf = true → (Lit.int .i64 a1_1).wf = true → (Lit.int .i64 a1_2).wf = true → (Lit.int .i64 a1_3).wf = true → ∃ k, bellpulllaw04_NormProducts.f k a0_0 a0_1 a0_2 a0_3 a1_0 a1_1 a1_2 a1_3 = some true := by
  intro a b c d e f g h _ _ _ _ _ _ _ _
  refine Ev.rounds ?_
  unfold bellpulllaw04_NormProducts.f
  obtain ⟨m, hm⟩ := Mul_some a b c d e f g h
  have fin := prod_end a b c d e f g h m hm
  refine Ev.bind hm ?_
  by_cases hc : chk [⟨a, b, c, d⟩] = 0
  · refine Ev.bind (Conj_yes hc) (Ev.bind (Norm_yes hc rfl) (Ev.bind (refCheck_ev _ (by simp)) (Ev.pos hc (Ev.bindc rfl ?_))))
    exact Ev.neg (by simp) (Ev.bindc rfl (Ev.pos rfl (Ev.pos rfl (Ev.pos rfl fin))))
  · refine Ev.bind (Conj_no hc) (Ev.bind (Norm_no hc) (Ev.bind (refCheck_ev _ (by simp)) (Ev.neg hc ?_)))
    exact Ev.neg (by simp) (Ev.pos rfl (Ev.pos rfl (Ev.pos rfl fin)))
end Go.Proofs.Ytgfnmimfoicmmaa.Pure
