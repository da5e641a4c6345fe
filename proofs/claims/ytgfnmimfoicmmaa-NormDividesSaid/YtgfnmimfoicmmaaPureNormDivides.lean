import Derived.Test.YtgfnmimfoicmmaaPMx5
import Derived.Test.YtgfnmimfoicmmaaPMx38
import Derived.Test.YtgfnmimfoicmmaaDivideH
set_option linter.unusedVariables false
set_option linter.unusedSimpArgs false
namespace Go.Proofs.Ytgfnmimfoicmmaa.Pure
open Go.RowKit Go.Proofs.Ytgfnmimfoicmmaa.PM Go.Proofs.YtgfnmimfoicmmaaW.PrintWords Go.Proofs.YtgfnmimfoicmmaaW.PrintLast
theorem NormDivides:∀ (a0_0 a0_1 a0_2 a0_3 a1_0 a1_1 a1_2 a1_3:Int),(Lit.int .i64 a0_0).wf=true → (Lit.int .i64 a0_1).wf=true → (Lit.int .i64 a0_2).wf=true → (Lit.int .i64 a0_3).wf=true → (Lit.int .i64 a1_0).wf=true → (Lit.int .i64 a1_1).wf=true → (Lit.int .i64 a1_2).wf=true → (Lit.int .i64 a1_3).wf=true → ∃ k,bellpulllaw04_NormDivides.f k a0_0 a0_1 a0_2 a0_3 a1_0 a1_1 a1_2 a1_3=some true:=by
  intro a b c d e f g h _ _ _ _ _ _ _ _
  refine Ev.rounds ?_
  unfold bellpulllaw04_NormDivides.f
  have hk:=check_ev [⟨a,b,c,d⟩,⟨e,f,g,h⟩] (by simp)
  by_cases hc:chk [⟨a,b,c,d⟩,⟨e,f,g,h⟩]=0
  · obtain ⟨⟨h1,h2⟩,h3,h4⟩:=chk2_rng hc
    by_cases h0:e=0∧f=0∧g=0∧h=0
    · obtain ⟨rfl,rfl,rfl,rfl⟩:=h0
      have hd:Ev (fun k=>norm_Divide.f k a b c d 0 0 0 0) (0,0,0,0,0,0,0,0,5):=by
        unfold norm_Divide.f
        exact Ev.bind hk (Ev.pos hc (Ev.bindc rfl (Ev.pos (by simp) (Ev.now _))))
      refine Ev.bind hd (Ev.bind (refCheck_ev _ (by simp)) (Ev.pos hc (Ev.succ ?_)))
      simp only [bellpulllaw04_NormDivides.j0]
      refine Ev.pos (by simp) (Ev.succ ?_)
      simp only [bellpulllaw04_NormDivides.j1]
      exact Ev.neg (by omega) (Ev.pos (by simp) (Ev.pos (by simp) (Ev.pos trivial (Ev.bind lives_ev (Ev.now _)))))
    · obtain ⟨⟨q0,q1,q2,q3,r0,r1,r2,r3⟩,d1,d2⟩:=both_divide h1 h2 h3 h4 h0
      have hz:¬ ((e == 0 && (f == 0 && (g == 0 && (h == 0))))=true):=by simp;omega
      have hd:Ev (fun k=>norm_Divide.f k a b c d e f g h) (q0,q1,q2,q3,r0,r1,r2,r3,0):=by
        unfold norm_Divide.f
        exact Ev.bind hk (Ev.pos hc (Ev.bindc rfl (Ev.neg hz (Ev.bindc rfl (Ev.bindc rfl (Ev.bind d1 (Ev.bindc rfl (Ev.bindc rfl (Ev.now _)))))))))
      refine Ev.bind hd (Ev.bind (refCheck_ev _ (by simp)) (Ev.pos hc (Ev.succ ?_)))
      simp only [bellpulllaw04_NormDivides.j0]
      refine Ev.neg hz (Ev.succ ?_)
      simp only [bellpulllaw04_NormDivides.j1]
      exact Ev.pos hc (Ev.bind d2 (Ev.pos (by simp) (Ev.pos (by simp) (Ev.pos trivial (Ev.bind lives_ev (Ev.now _))))))
  · have hd:Ev (fun k=>norm_Divide.f k a b c d e f g h) (0,0,0,0,0,0,0,0,chk [⟨a,b,c,d⟩,⟨e,f,g,h⟩]):=by
      unfold norm_Divide.f
      exact Ev.bind hk (Ev.neg hc (Ev.now _))
    refine Ev.bind hd (Ev.bind (refCheck_ev _ (by simp)) (Ev.neg hc (Ev.succ ?_)))
    simp only [bellpulllaw04_NormDivides.j0]
    refine Ev.neg (by simp) (Ev.succ ?_)
    simp only [bellpulllaw04_NormDivides.j1]
    exact Ev.neg hc (Ev.pos (by simp) (Ev.pos (by simp) (Ev.pos trivial (Ev.bind lives_ev (Ev.now _)))))
end Go.Proofs.Ytgfnmimfoicmmaa.Pure
