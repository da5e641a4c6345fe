-- Written by pr2.py, a program of this session's, for this claim (through the kit's print).
import Derived.Test.YtgfnmimfoicmmaaPMx0
namespace Go.Proofs.Ytgfnmimfoicmmaa.PM
open Go.Proofs.MyWords Go.RowKit Go.Proofs.YtgfnmimfoicmmaaW.PrintWords Go.Proofs.YtgfnmimfoicmmaaW.PrintLast Go.Proofs.YtgfnmimfoicmmaaW.PrintMore
attribute [local go_sem] max2_int min2_int max_two min_two max_three min_three max_four min_four   -- for this text's walks alone
set_option linter.unusedVariables false
set_option linter.unusedSimpArgs false

attribute [local go_sem] idx67_0 idx67_1 idx67_2 idx67_3
attribute [local go_sem] eqGuard_slices eqlnil36 neqnil36
/-! ### bellpullref04_Conj: function 41 -/
def bellpullref04_Conj.f (a0_0:Int) (a0_1:Int) (a0_2:Int) (a0_3:Int):Option (Int × Int × Int × Int):=some (a0_0,wrap64 (-a0_1),wrap64 (-a0_2),wrap64 (-a0_3))
end Go.Proofs.Ytgfnmimfoicmmaa.PM
