-- Written by pr2.py, a program of this session's, for this claim (through the kit's print).
import Derived.Test.YtgfnmimfoicmmaaPMx0
namespace Go.Proofs.Ytgfnmimfoicmmaa.PM
open Go.Proofs.MyWords Go.RowKit Go.Proofs.YtgfnmimfoicmmaaW.PrintWords Go.Proofs.YtgfnmimfoicmmaaW.PrintLast Go.Proofs.YtgfnmimfoicmmaaW.PrintMore
attribute [local go_sem] max2_int min2_int max_two min_two max_three min_three max_four min_four   -- for this text's walks alone
set_option linter.unusedVariables false
set_option linter.unusedSimpArgs false

attribute [local go_sem] idx67_0 idx67_1 idx67_2 idx67_3
attribute [local go_sem] eqGuard_slices eqlnil36 neqnil36
/-! ### bellpullref04_below: function 51 -/
def bellpullref04_below.l0:Nat → Int → Int → Int → Int → Option (Int)
  | 0,_,_,_,_=>none
  | k + 1,x0,x1,x2,x7=>if (wrap64 (x7 * x1)) > x0 then (bellpullref04_below.l0 k x0 x1 x2 (wrap64 (x7 - 1))) else (if (Go.bits .and .i64 x7 1)=x2 then (some x7) else (bellpullref04_below.l0 k x0 x1 x2 (wrap64 (x7 - 1))))
def bellpullref04_below.f (k:Nat) (a0:Int) (a1:Int) (a2:Int):Option (Int):=if a1=0 then (none) else (bellpullref04_below.l0 k a0 a1 a2 (wrap64 (Int.tdiv a0 a1)))
theorem bellpullref04_below.mono_l:∀ k,(∀ y0 y1 y2 y3,LeO (bellpullref04_below.l0 k y0 y1 y2 y3) (bellpullref04_below.l0 (k + 1) y0 y1 y2 y3))
  | 0=>fun _ _ _ _ r h=>by simp [bellpullref04_below.l0] at h
  | k + 1=>by
    have ih0:=bellpullref04_below.mono_l k
    · intro y0 y1 y2 y3
      unfold bellpullref04_below.l0
      with_reducible repeat' first|exact ih0 _ _ _ _|exact LeO.refl _|exact LeO.none _|refine LeO.ite ?_ ?_|refine LeO.bind ?_ (fun _=>?_)
theorem bellpullref04_below.mono:∀ a0 a1 a2 k,LeO (bellpullref04_below.f k a0 a1 a2) (bellpullref04_below.f (k + 1) a0 a1 a2):=by
  intro a0 a1 a2 k
  have ih0:=bellpullref04_below.mono_l k
  unfold bellpullref04_below.f
  with_reducible repeat' first|exact ih0 _ _ _ _|exact LeO.refl _|exact LeO.none _|refine LeO.ite ?_ ?_|refine LeO.bind ?_ (fun _=>?_)
end Go.Proofs.Ytgfnmimfoicmmaa.PM
