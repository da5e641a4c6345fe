-- Written by pr2.py, a program of this session's, for this claim (through the kit's print).
import Derived.Test.YtgfnmimfoicmmaaPMx0
namespace Go.Proofs.Ytgfnmimfoicmmaa.PM
open Go.Proofs.MyWords Go.RowKit Go.Proofs.YtgfnmimfoicmmaaW.PrintWords Go.Proofs.YtgfnmimfoicmmaaW.PrintLast Go.Proofs.YtgfnmimfoicmmaaW.PrintMore
attribute [local go_sem] max2_int min2_int max_two min_two max_three min_three max_four min_four   -- for this text's walks alone
set_option linter.unusedVariables false
set_option linter.unusedSimpArgs false

attribute [local go_sem] idx67_0 idx67_1 idx67_2 idx67_3
attribute [local go_sem] eqGuard_slices eqlnil36 neqnil36
/-! ### bellpullref04_Conj: function 41 -/
def bellpullref04_Conj.f (a0_0:Int) (a0_1:Int) (a0_2:Int) (a0_3:Int):Option (Int × Int × Int × Int):=some (a0_0,wrap64 (-a0_1),wrap64 (-a0_2),wrap64 (-a0_3))
set_option maxHeartbeats 8000000 in
set_option maxRecDepth 100000 in
theorem bellpullref04_Conj.calls (D:Int) (E:Int) (F:Int) (G:Int) (V:Int) (X:Int) (Y:Int) (Z:Int) (w:World) (h:bellpullref04_Conj.f D E F G=some (V,X,Y,Z)) :
    Calls Try.prog 41 #[.agg #[.int .i64 D,.int .i64 E,.int .i64 F,.int .i64 G]] w fun e w'=>e=.returned (.agg #[.int .i64 V,.int .i64 X,.int .i64 Y,.int .i64 Z])∧Below w.heap.size w w':=by
 have b7:=Try.underlying23;have J:=mk0 (Below.refl w.heap.size w);have H:(some (D,wrap64 (-E),wrap64 (-F),wrap64 (-G)))=some (V,X,Y,Z):=h;clear h;simp only [Option.some.injEq,Prod.mk.injEq] at H;obtain ⟨rfl,rfl,rfl,rfl⟩:=H;go_enter Try.func41,Try.ntmps41;go_wp2_with (first|((with_reducible refine gate_dst (N:=1) rfl ?_);refine box_event ?hg (N:=1) ?hd (cs:=#[.int .i64 D,.int .i64 E,.int .i64 F,.int .i64 G]) (t:=23) ?hr ?_;(case hd=>rfl);(case hg=>rfl);(case hr=>first|(go_simp;done)|(go_simp;rfl));intro b6 hg w2 I hb;have B:=mk0 (I);have O:=szw hg J;have Q:=O;replace J:=bst J hb;clear hb I hg)|((with_reducible refine gate_dst (N:=2) rfl ?_);refine box_event ?hg (N:=2) ?hd (cs:=#[.int .i64 0,.int .i64 0,.int .i64 0,.int .i64 0]) (t:=23) ?hr ?_;(case hd=>rfl);(case hg=>rfl);(case hr=>first|(go_simp;done)|(go_simp;rfl));intro R hg w3 I hb;have C:=mk0 (I);have T:=szw hg J;have U:=T;have L:=nlt hg B;have M:=ngt hg B;replace B:=bkb B hb;replace J:=bst J hb;clear hb I hg;have b8:=L.1;have b9:=M.1;have a0:=q0_ B;have a1:=q1_ B;have a2:=q2_ B;have a3:=q3_ B;have a4:=blk_frozen B.1 0;have a5:=blk_frozen B.1 1;have a6:=blk_frozen B.1 2;have a7:=blk_frozen B.1 3;have a8:=q0_ C;have a9:=q1_ C;have b0:=q2_ C;have b1:=q3_ C;have b2:=blk_frozen C.1 0;have b3:=blk_frozen C.1 1;have b4:=blk_frozen C.1 2;have b5:=blk_frozen C.1 3));refine bodyPost_ret (results_cell_row rfl _ _ R 23 #[.int .i64 D,.int .i64 (wrap64 (-E)),.int .i64 (wrap64 (-F)),.int .i64 (wrap64 (-G))] (0,0) _ rfl (by refine blk_put (cs:=#[.int .i64 D,.int .i64 (wrap64 (-E)),.int .i64 (wrap64 (-F)),.int .i64 0]) ?_ 3 _ rfl;refine blk_put (cs:=#[.int .i64 D,.int .i64 (wrap64 (-E)),.int .i64 0,.int .i64 0]) ?_ 2 _ rfl;refine blk_put (cs:=#[.int .i64 D,.int .i64 0,.int .i64 0,.int .i64 0]) ?_ 1 _ rfl;refine blk_put (cs:=#[.int .i64 0,.int .i64 0,.int .i64 0,.int .i64 0]) ?_ 0 _ rfl;exact C.1) Try.underlying23 rfl (by kernel_rfl)) rfl ?_;exact ⟨by first|rfl|(simp [errW_none,errW_some] <;> rfl)|(simp [*,errW_none,errW_some] <;> rfl),by repeat (first|(with_reducible first|exact J.1|apply below_alloc|apply pw_below_drewN|apply below_drew1|refine below_set ?_ Q.1|refine below_set ?_ U.1)|exact J.1)⟩
end Go.Proofs.Ytgfnmimfoicmmaa.PM
