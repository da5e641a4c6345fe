-- Written by pr2.py, a program of this session's, for this claim (through the kit's print).
import Derived.Test.YtgfnmimfoicmmaaPMx0
import Derived.Test.YtgfnmimfoicmmaaPMx3
import Derived.Test.YtgfnmimfoicmmaaPMx4
namespace Go.Proofs.Ytgfnmimfoicmmaa.PM
open Go.Proofs.MyWords Go.RowKit Go.Proofs.YtgfnmimfoicmmaaW.PrintWords Go.Proofs.YtgfnmimfoicmmaaW.PrintLast Go.Proofs.YtgfnmimfoicmmaaW.PrintMore
attribute [local go_sem] max2_int min2_int max_two min_two max_three min_three max_four min_four   -- for this text's walks alone
set_option linter.unusedVariables false
set_option linter.unusedSimpArgs false

attribute [local go_sem] idx67_0 idx67_1 idx67_2 idx67_3
attribute [local go_sem] eqGuard_slices eqlnil36 neqnil36
/-! ### norm_Conj: function 39 -/
def norm_Conj.f (k:Nat) (a0_0:Int) (a0_1:Int) (a0_2:Int) (a0_3:Int):Option (Int × Int × Int × Int × Int):=(norm_check.f k (([(⟨a0_0,a0_1,a0_2,a0_3⟩:S23)]:List (S23)))).bind fun t515=>(if t515=0 then ((norm_of.f a0_0 a0_1 a0_2 a0_3).bind fun bt516=>((norm_quat_conj.f bt516.1 bt516.2.1 bt516.2.2.1 bt516.2.2.2).bind fun bt520=>((norm_quat_api.f bt520.1 bt520.2.1 bt520.2.2.1 bt520.2.2.2).bind fun bt524=>(some (bt524.1,bt524.2.1,bt524.2.2.1,bt524.2.2.2,0))))) else (some (0,0,0,0,t515)))
theorem norm_Conj.mono:∀ a0 a1 a2 a3 k,LeO (norm_Conj.f k a0 a1 a2 a3) (norm_Conj.f (k + 1) a0 a1 a2 a3):=by
  intro a0 a1 a2 a3 k
  unfold norm_Conj.f
  with_reducible repeat' first|exact norm_check.mono _ _|exact LeO.refl _|exact LeO.none _|refine LeO.ite ?_ ?_|refine LeO.bind ?_ (fun _=>?_)
end Go.Proofs.Ytgfnmimfoicmmaa.PM
