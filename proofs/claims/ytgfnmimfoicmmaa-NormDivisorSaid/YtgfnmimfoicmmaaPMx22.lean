-- Written by pr2.py, a program of this session's, for this claim (through the kit's print).
import Derived.Test.YtgfnmimfoicmmaaPMx0
namespace Go.Proofs.Ytgfnmimfoicmmaa.PM
open Go.Proofs.MyWords Go.RowKit Go.Proofs.YtgfnmimfoicmmaaW.PrintWords Go.Proofs.YtgfnmimfoicmmaaW.PrintLast Go.Proofs.YtgfnmimfoicmmaaW.PrintMore
attribute [local go_sem] max2_int min2_int max_two min_two max_three min_three max_four min_four   -- for this text's walks alone
set_option linter.unusedVariables false
set_option linter.unusedSimpArgs false

attribute [local go_sem] idx67_0 idx67_1 idx67_2 idx67_3
attribute [local go_sem] eqGuard_slices eqlnil36 neqnil36
/-! ### bellpullref04_Norm: function 34 -/
def bellpullref04_Norm.f (a0_0:Int) (a0_1:Int) (a0_2:Int) (a0_3:Int):Option (Int):=some (wrap64 (Int.tdiv (wrap64 ((wrap64 ((wrap64 ((wrap64 (a0_0 * a0_0)) + (wrap64 (a0_1 * a0_1)))) + (wrap64 (a0_2 * a0_2)))) + (wrap64 (a0_3 * a0_3)))) 4))
set_option maxHeartbeats 8000000 in
set_option maxRecDepth 100000 in
theorem bellpullref04_Norm.calls (C:Int) (D:Int) (E:Int) (F:Int) (r:Int) (w:World) (h:bellpullref04_Norm.f C D E F=some r) :
    Calls Try.prog 34 #[.agg #[.int .i64 C,.int .i64 D,.int .i64 E,.int .i64 F]] w fun e w'=>e=.returned (.int .i64 r)∧Below w.heap.size w w':=by
 have Z:=Try.underlying23;have G:=mk0 (Below.refl w.heap.size w);have H:(some (wrap64 (Int.tdiv (wrap64 ((wrap64 ((wrap64 ((wrap64 (C * C)) + (wrap64 (D * D)))) + (wrap64 (E * E)))) + (wrap64 (F * F)))) 4)))=some r:=h;clear h;obtain rfl:=Option.some.inj H;go_enter Try.func34,Try.ntmps34;go_wp2_with (first|((with_reducible refine gate_dst (N:=1) rfl ?_);refine box_event ?hg (N:=1) ?hd (cs:=#[.int .i64 C,.int .i64 D,.int .i64 E,.int .i64 F]) (t:=23) ?hr ?_;(case hd=>rfl);(case hg=>rfl);(case hr=>first|(go_simp;done)|(go_simp;rfl));intro Y hg w2 I hb;have B:=mk0 (I);have J:=szw hg G;have L:=J;replace G:=bst G hb;clear hb I hg;have M:=q0_ B;have O:=q1_ B;have Q:=q2_ B;have R:=q3_ B;have T:=blk_frozen B.1 0;have U:=blk_frozen B.1 1;have V:=blk_frozen B.1 2;have X:=blk_frozen B.1 3));go_ret;exact ⟨by first|rfl|(simp [errW_none,errW_some] <;> rfl)|(simp [*,errW_none,errW_some] <;> rfl),by repeat (first|(with_reducible first|exact G.1|apply below_alloc|apply pw_below_drewN|apply below_drew1|refine below_set ?_ L.1)|exact G.1)⟩
end Go.Proofs.Ytgfnmimfoicmmaa.PM
