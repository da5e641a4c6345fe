-- Written by pr2.py, a program of this session's, for this claim (through the kit's print).
import Derived.Test.YtgfnmimfoicmmaaPMx0
namespace Go.Proofs.Ytgfnmimfoicmmaa.PM
open Go.Proofs.MyWords Go.RowKit Go.Proofs.YtgfnmimfoicmmaaW.PrintWords Go.Proofs.YtgfnmimfoicmmaaW.PrintLast Go.Proofs.YtgfnmimfoicmmaaW.PrintMore
attribute [local go_sem] max2_int min2_int max_two min_two max_three min_three max_four min_four   -- for this text's walks alone
set_option linter.unusedVariables false
set_option linter.unusedSimpArgs false

attribute [local go_sem] idx67_0 idx67_1 idx67_2 idx67_3
attribute [local go_sem] eqGuard_slices eqlnil36 neqnil36
/-! ### bellpullref04_Parts: function 45 -/
def bellpullref04_Parts.f (a0_0:Int) (a0_1:Int) (a0_2:Int) (a0_3:Int):Option (List Int):=some (([a0_0,a0_1,a0_2,a0_3]:List Int))
set_option maxHeartbeats 8000000 in
set_option maxRecDepth 100000 in
theorem bellpullref04_Parts.calls (C:Int) (D:Int) (E:Int) (F:Int) (r:List Int) (w:World) (h:bellpullref04_Parts.f C D E F=some r) :
    Calls Try.prog 45 #[.agg #[.int .i64 C,.int .i64 D,.int .i64 E,.int .i64 F]] w fun e w'=>∃ Y:Value,e=.returned (Y)∧Kd.R (Kd.int .i64) 3 w' w.heap.size (fun _=>True) Y r∧Below w.heap.size w w':=by
 have a9:=Try.underlying23;have I:=mk0 (Below.refl w.heap.size w);have H:(some (([C,D,E,F]:List Int)))=some r:=h;clear h;obtain ⟨Z,G⟩:∃ y_:List Int,y_=(([C,D,E,F]:List Int)):=⟨_,rfl⟩
 replace H:(some Z)=some r:=by first|(rw [G];with_reducible exact H)|(have O:=(Option.bind_some _ _).symm.trans H;rw [G];with_reducible exact O)|(have O:=(Option.bind_some _ _).symm.trans H;with_reducible exact O)|with_reducible exact H|(rw [G];exact H)|exact H
 have L:=mk0 G;clear G;obtain rfl:=Option.some.inj H;go_enter Try.func45,Try.ntmps45;go_wp2_with (first|((with_reducible refine gate_dst (N:=1) rfl ?_);refine box_event ?hg (N:=1) ?hd (cs:=#[.int .i64 C,.int .i64 D,.int .i64 E,.int .i64 F]) (t:=23) ?hr ?_;(case hd=>rfl);(case hg=>rfl);(case hr=>first|(go_simp;done)|(go_simp;rfl));intro a8 hg w2 Q hb;have B:=mk0 (Q);have T:=szw hg I;have U:=T;replace I:=bst I hb;clear hb Q hg;have a0:=q0_ B;have a1:=q1_ B;have a2:=q2_ B;have a3:=q3_ B;have a4:=blk_frozen B.1 0;have a5:=blk_frozen B.1 1;have a6:=blk_frozen B.1 2;have a7:=blk_frozen B.1 3)|((with_reducible refine gate_dst (N:=11) rfl ?_);refine Kd.R_lit (Kd.int .i64) _ 3 ?hg (N:=11) ?hd (xs:=([C,D,E,F]:List Int)) (inner:=[.int .i64 C,.int .i64 D,.int .i64 E,.int .i64 F]) (ok:=fun _=>True) (okp:=fun _=>True) ?hr ?hp (fun _ hk=>hk) trivial (Below.refl _ _) (Nat.le_refl _) (by simp) ?_;(case hd=>rfl);(case hg=>rfl);(case hr=>first|(go_simp;done)|(go_simp;rfl));(case hp=>exact (Reps.one (show Kd.M (Kd.int .i64) _ _ _ C [.int .i64 C] from rfl) (Reps.one (show Kd.M (Kd.int .i64) _ _ _ D [.int .i64 D] from rfl) (Reps.one (show Kd.M (Kd.int .i64) _ _ _ E [.int .i64 E] from rfl) (Reps.one (show Kd.M (Kd.int .i64) _ _ _ F [.int .i64 F] from rfl) (Reps.none _ _))))));intro b0 w4 J hb hg_ V;clear hg_ V;(first|rw [← L.1] at J|(simp only [Int.reduceToNat] at J;rw [← L.1] at J));have X:=mk0 (Kd.R_lower J (below_size I.1));replace B:=bkb B hb;replace I:=bst I hb;clear hb J));go_ret;exact ⟨_,by first|rfl|(simp [errW_none,errW_some] <;> rfl)|(simp [*,errW_none,errW_some] <;> rfl),by (with_reducible repeat (first|apply Kd.R_alloc|apply Kd.R_drewN|apply Kd.R_drew));exact X.1,by repeat (first|(with_reducible first|exact I.1|apply below_alloc|apply pw_below_drewN|apply below_drew1|refine below_set ?_ U.1)|exact I.1)⟩
end Go.Proofs.Ytgfnmimfoicmmaa.PM
