import Derived.Test.YtgfnmimfoicmmaaPMx0
namespace Go.Proofs.Ytgfnmimfoicmmaa.PM
open Go.Proofs.MyWords Go.RowKit Go.Proofs.YtgfnmimfoicmmaaW.PrintWords Go.Proofs.YtgfnmimfoicmmaaW.PrintLast Go.Proofs.YtgfnmimfoicmmaaW.PrintMore
set_option linter.unusedVariables false
set_option linter.unusedSimpArgs false
attribute [local go_sem] idx67_0 idx67_1 idx67_2 idx67_3
attribute [local go_sem] eqGuard_slices eqlnil36 neqnil36
/-! ### bellpullref04_Norm: function 34 -/
def bellpullref04_Norm.f (a0_0:Int) (a0_1:Int) (a0_2:Int) (a0_3:Int):Option (Int):=some (wrap64 (Int.tdiv (wrap64 ((wrap64 ((wrap64 ((wrap64 (a0_0 * a0_0)) + (wrap64 (a0_1 * a0_1)))) + (wrap64 (a0_2 * a0_2)))) + (wrap64 (a0_3 * a0_3)))) 4))
set_option maxHeartbeats 8000000 in
set_option maxRecDepth 100000 in
theorem bellpullref04_Norm.calls (a0_0:Int) (a0_1:Int) (a0_2:Int) (a0_3:Int) (r:Int) (w:World) (h:bellpullref04_Norm.f a0_0 a0_1 a0_2 a0_3=some r) :
    Calls Try.prog 34 #[.agg #[.int .i64 a0_0,.int .i64 a0_1,.int .i64 a0_2,.int .i64 a0_3]] w fun e w'=>e=.returned (.int .i64 r)∧Below w.heap.size w w':=by
 have hu23:=Try.underlying23;have HB:=mk0 (Below.refl w.heap.size w);have H:(some (wrap64 (Int.tdiv (wrap64 ((wrap64 ((wrap64 ((wrap64 (a0_0 * a0_0)) + (wrap64 (a0_1 * a0_1)))) + (wrap64 (a0_2 * a0_2)))) + (wrap64 (a0_3 * a0_3)))) 4)))=some r:=h;clear h;obtain rfl:=Option.some.inj H;go_enter Try.func34,Try.ntmps34;go_wp2_with (first|((with_reducible refine gate_dst (N:=1) rfl ?_);refine box_event ?hg (N:=1) ?hd (cs:=#[.int .i64 a0_0,.int .i64 a0_1,.int .i64 a0_2,.int .i64 a0_3]) (t:=23) ?hr ?_;(case hd=>rfl);(case hg=>rfl);(case hr=>first|(go_simp;done)|(go_simp;rfl));intro gb509 hg w2 hbox hb;have BK509:=mk0 (hbox);have GW509:=szw hg HB;have GE509:=GW509;replace HB:=bst HB hb;clear hb hbox hg;have hcz3_0:w2.cell? ⟨gb509,0,none⟩=some (.int .i64 a0_0):=(blk_cell BK509.out 0).trans rfl;have hcz3_1:w2.cell? ⟨gb509,1,none⟩=some (.int .i64 a0_1):=(blk_cell BK509.out 1).trans rfl;have hcz3_2:w2.cell? ⟨gb509,2,none⟩=some (.int .i64 a0_2):=(blk_cell BK509.out 2).trans rfl;have hcz3_3:w2.cell? ⟨gb509,3,none⟩=some (.int .i64 a0_3):=(blk_cell BK509.out 3).trans rfl;have hfz3_0:=blk_frozen BK509.out 0;have hfz3_1:=blk_frozen BK509.out 1;have hfz3_2:=blk_frozen BK509.out 2;have hfz3_3:=blk_frozen BK509.out 3));go_ret;exact ⟨by first|rfl|(simp [errW_none,errW_some] <;> rfl)|(simp [*,errW_none,errW_some] <;> rfl),by repeat (first|(with_reducible first|exact HB.out|apply below_alloc|apply pw_below_drewN|apply below_drew1|refine below_set ?_ GE509.out)|exact HB.out)⟩
end Go.Proofs.Ytgfnmimfoicmmaa.PM
