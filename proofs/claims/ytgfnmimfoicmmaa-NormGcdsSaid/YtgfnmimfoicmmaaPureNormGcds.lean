import Derived.Test.YtgfnmimfoicmmaaPMx6
import Derived.Test.YtgfnmimfoicmmaaPMx40
import Derived.Test.YtgfnmimfoicmmaaPMx41
import Derived.Test.YtgfnmimfoicmmaaGcdF
set_option linter.unusedVariables false
set_option linter.unusedSimpArgs false
namespace Go.Proofs.Ytgfnmimfoicmmaa.Pure
open Go.RowKit Go.Proofs.Ytgfnmimfoicmmaa.PM Go.Proofs.YtgfnmimfoicmmaaW.PrintWords Go.Proofs.YtgfnmimfoicmmaaW.PrintLast

theorem U4_sm : ∀ u ∈ U4, sm 2 u.1 ∧ sm 2 u.2.1 ∧ sm 2 u.2.2.1 ∧ sm 2 u.2.2.2 := by
  unfold sm
  decide
theorem sm_up {a b c d : Int} (h : rng a b c d) : sm 2000 a ∧ sm 2000 b ∧ sm 2000 c ∧ sm 2000 d := by
  unfold rng at h
  unfold sm
  omega
theorem norm_rng {a b c d : Int} (h : rng a b c d) : N4 a b c d ≤ 4000000 := by
  obtain ⟨s0, s1, s2, s3⟩ := sm_of h
  have q0 := mul_sm s0 s0; have q1 := mul_sm s1 s1; have q2 := mul_sm s2 s2; have q3 := mul_sm s3 s3
  unfold sm at q0 q1 q2 q3
  unfold N4
  omega
/-- The loops of both, from the start on. -/
theorem gcd_loops {a b c d e f g h : Int} (h1 : itg a b c d) (h2 : rng a b c d) (h3 : itg e f g h) (h4 : rng e f g h) : ∃ c0 c1 c2 c3 : Int,
    Ev (fun k => norm_Gcd.l0 k a b c d e f g h) (c0, c1, c2, c3, 0) ∧ Ev (fun k => bellpullref04_Gcd.f k a b c d e f g h) (c0, c1, c2, c3) := by
  have hb := norm_rng h4
  have hp : 0 ≤ N4 e f g h := by
    have g0 := sq_pos e; have g1 := sq_pos f; have g2 := sq_pos g; have g3 := sq_pos h
    unfold N4; omega
  obtain ⟨g0, g1, g2, g3, ig, sg, e1, e2⟩ := euclid ((N4 e f g h).toNat + 1) a b c d e f g h h1 h3 (sm_up h2) hb (by omega)
  obtain ⟨c0, c1, c2, c3, f1, f2⟩ := units_fold U4 (by decide) U4_sm sg 24 0 g0 g1 g2 g3 rfl
  refine ⟨c0, c1, c2, c3, e1 _ (Ev.bind units_ev ?_), e2 _ (Ev.bind refUnits_ev f2)⟩
  rw [List.length_map]
  exact f1
theorem NormGcds : ∀ (a0_0 a0_1 a0_2 a0_3 a1_0 a1_1 a1_2 a1_3 : Int), (Lit.int .i64 a0_0).wf = true → (Lit.int .i64 a0_1).wf = true → (Lit.int .i64 a0_2).wf = true → (Lit.int .i64 a0_3).wf = true → (Lit.int .i64 a1_0).wf = true → (Lit.int .i64 a1_1).wf = true → (Lit.int .i64 a1_2).wf = true → (Lit.int .i64 a1_3).wf = true → ∃ k, bellpulllaw04_NormGcds.f k a0_0 a0_1 a0_2 a0_3 a1_0 a1_1 a1_2 a1_3 = some true := by
  intro a b c d e f g h _ _ _ _ _ _ _ _
  refine Ev.rounds ?_
  unfold bellpulllaw04_NormGcds.f
  have hk := check_ev [⟨a, b, c, d⟩, ⟨e, f, g, h⟩] (by simp)
  by_cases hc : chk [⟨a, b, c, d⟩, ⟨e, f, g, h⟩] = 0
  · obtain ⟨⟨h1, h2⟩, h3, h4⟩ := chk2_rng hc
    obtain ⟨c0, c1, c2, c3, l1, l2⟩ := gcd_loops h1 h2 h3 h4
    have fin : Ev (fun k => bellpulllaw04_NormGcds.j1 k 0 0 a b c d e f g h c0 c1 c2 c3) true := by
      refine Ev.succ ?_
      simp only [bellpulllaw04_NormGcds.j1]
      exact Ev.pos trivial (Ev.bind l2 (Ev.pos (by simp) (Ev.pos trivial (Ev.bind lives_ev (Ev.now _)))))
    by_cases ha : (a == 0 && (b == 0 && (c == 0 && (d == 0)))) = true
    · by_cases hb : (e == 0 && (f == 0 && (g == 0 && (h == 0)))) = true
      · have hg : Ev (fun k => norm_Gcd.f k a b c d e f g h) (0, 0, 0, 0, 5) := by
          unfold norm_Gcd.f
          refine Ev.bind hk (Ev.pos hc (Ev.bindc rfl (Ev.bindc rfl (Ev.pos ha (Ev.succ ?_)))))
          simp only [norm_Gcd.j0]
          exact Ev.pos hb (Ev.now _)
        refine Ev.bind hg (Ev.bind (refCheck_ev _ (by simp)) (Ev.pos hc (Ev.pos ha (Ev.succ ?_))))
        simp only [bellpulllaw04_NormGcds.j0]
        refine Ev.pos hb (Ev.succ ?_)
        simp only [bellpulllaw04_NormGcds.j1]
        exact Ev.neg (by omega) (Ev.pos (by simp) (Ev.pos trivial (Ev.bind lives_ev (Ev.now _))))
      · have hg : Ev (fun k => norm_Gcd.f k a b c d e f g h) (c0, c1, c2, c3, 0) := by
          unfold norm_Gcd.f
          refine Ev.bind hk (Ev.pos hc (Ev.bindc rfl (Ev.bindc rfl (Ev.pos ha (Ev.succ ?_)))))
          simp only [norm_Gcd.j0]
          exact Ev.neg hb l1
        refine Ev.bind hg (Ev.bind (refCheck_ev _ (by simp)) (Ev.pos hc (Ev.pos ha (Ev.succ ?_))))
        simp only [bellpulllaw04_NormGcds.j0]
        rw [hc]
        exact Ev.neg hb fin
    · have hg : Ev (fun k => norm_Gcd.f k a b c d e f g h) (c0, c1, c2, c3, 0) := by
        unfold norm_Gcd.f
        refine Ev.bind hk (Ev.pos hc (Ev.bindc rfl (Ev.bindc rfl (Ev.neg ha (Ev.succ ?_)))))
        simp only [norm_Gcd.j0]
        exact Ev.neg (by simp) l1
      refine Ev.bind hg (Ev.bind (refCheck_ev _ (by simp)) (Ev.pos hc (Ev.neg ha (Ev.succ ?_))))
      simp only [bellpulllaw04_NormGcds.j0]
      rw [hc]
      exact Ev.neg (by simp) fin
  · have hg : Ev (fun k => norm_Gcd.f k a b c d e f g h) (0, 0, 0, 0, chk [⟨a, b, c, d⟩, ⟨e, f, g, h⟩]) := by
      unfold norm_Gcd.f
      exact Ev.bind hk (Ev.neg hc (Ev.now _))
    refine Ev.bind hg (Ev.bind (refCheck_ev _ (by simp)) (Ev.neg hc (Ev.succ ?_)))
    simp only [bellpulllaw04_NormGcds.j0]
    refine Ev.neg (by simp) (Ev.succ ?_)
    simp only [bellpulllaw04_NormGcds.j1]
    exact Ev.neg hc (Ev.pos (by simp) (Ev.pos trivial (Ev.bind lives_ev (Ev.now _))))
end Go.Proofs.Ytgfnmimfoicmmaa.Pure
