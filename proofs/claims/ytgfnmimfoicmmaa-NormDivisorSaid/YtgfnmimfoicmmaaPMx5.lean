-- Written by pr2.py, a program of this session's, for this claim (through the kit's print).
import Derived.Test.YtgfnmimfoicmmaaPMx0
import Derived.Test.YtgfnmimfoicmmaaPMx2
import Derived.Test.YtgfnmimfoicmmaaPMx3
import Derived.Test.YtgfnmimfoicmmaaPMx4
namespace Go.Proofs.Ytgfnmimfoicmmaa.PM
open Go.Proofs.MyWords Go.RowKit Go.Proofs.YtgfnmimfoicmmaaW.PrintWords Go.Proofs.YtgfnmimfoicmmaaW.PrintLast Go.Proofs.YtgfnmimfoicmmaaW.PrintMore
attribute [local go_sem] max2_int min2_int max_two min_two max_three min_three max_four min_four   -- for this text's walks alone
set_option linter.unusedVariables false
set_option linter.unusedSimpArgs false

attribute [local go_sem] idx67_0 idx67_1 idx67_2 idx67_3
attribute [local go_sem] eqGuard_slices eqlnil36 neqnil36
attribute [local go_sem high] eqA67
/-! ### norm_Divide: function 17 -/
def norm_Divide.f (k:Nat) (a0_0:Int) (a0_1:Int) (a0_2:Int) (a0_3:Int) (a1_0:Int) (a1_1:Int) (a1_2:Int) (a1_3:Int):Option (Int × Int × Int × Int × Int × Int × Int × Int × Int):=(norm_check.f k (([(⟨a0_0,a0_1,a0_2,a0_3⟩:S23),(⟨a1_0,a1_1,a1_2,a1_3⟩:S23)]:List (S23)))).bind fun t188=>(if t188=0 then ((norm_of.f a1_0 a1_1 a1_2 a1_3).bind fun bt189=>(if (bt189.1 == 0 && (bt189.2.1 == 0 && (bt189.2.2.1 == 0 && (bt189.2.2.2 == 0))))=true then (some (0,0,0,0,0,0,0,0,5)) else ((norm_of.f a0_0 a0_1 a0_2 a0_3).bind fun bt193=>((norm_of.f a1_0 a1_1 a1_2 a1_3).bind fun bt197=>((norm_divide.f k bt193.1 bt193.2.1 bt193.2.2.1 bt193.2.2.2 bt197.1 bt197.2.1 bt197.2.2.1 bt197.2.2.2).bind fun bt201=>((norm_quat_api.f bt201.1 bt201.2.1 bt201.2.2.1 bt201.2.2.2.1).bind fun bt211=>((norm_quat_api.f bt201.2.2.2.2.1 bt201.2.2.2.2.2.1 bt201.2.2.2.2.2.2.1 bt201.2.2.2.2.2.2.2).bind fun bt215=>(some (bt211.1,bt211.2.1,bt211.2.2.1,bt211.2.2.2,bt215.1,bt215.2.1,bt215.2.2.1,bt215.2.2.2,0))))))))) else (some (0,0,0,0,0,0,0,0,t188)))
theorem norm_Divide.mono:∀ a0 a1 a2 a3 a4 a5 a6 a7 k,LeO (norm_Divide.f k a0 a1 a2 a3 a4 a5 a6 a7) (norm_Divide.f (k + 1) a0 a1 a2 a3 a4 a5 a6 a7):=by
  intro a0 a1 a2 a3 a4 a5 a6 a7 k
  unfold norm_Divide.f
  with_reducible repeat' first|exact norm_check.mono _ _|exact norm_divide.mono _ _ _ _ _ _ _ _ _|exact LeO.refl _|exact LeO.none _|refine LeO.ite ?_ ?_|refine LeO.bind ?_ (fun _=>?_)
def norm_Divide.T6:Bool × List (List Nat × List Nat):=(true,[([],[]),([0],[0]),([],[]),([2,1],[2]),([1,3,3],[1,3]),([4],[4]),([5],[5]),([5],[5]),([],[]),([],[]),([8,6,4,0,1,2,3,4,5,6,8,9],[6,8]),([9,7,10,0,1,2,3,4,5,6,7,8,9,10],[7,9])])
def norm_Divide.B6:List Nat:=[0,1,0,7,15,31,63,63,0,0,895,2047]
theorem norm_Divide.tab6:rtab .any (opsOf Try.f17 6)=norm_Divide.T6:=by kernel_rfl
theorem norm_Divide.bits6:waitsOk norm_Divide.T6.2 norm_Divide.B6=true:=by kernel_rfl
set_option maxHeartbeats 8000000 in
set_option maxRecDepth 100000 in
theorem norm_Divide.calls (k:Nat) (b9:Int) (c0:Int) (c1:Int) (c2:Int) (b5:Int) (b6:Int) (b7:Int) (b8:Int) (r1:Int) (r2:Int) (r3:Int) (r4:Int) (r5:Int) (r6:Int) (r7:Int) (r8:Int) (r9:Int) (w:World) (h:norm_Divide.f k b9 c0 c1 c2 b5 b6 b7 b8=some (r1,r2,r3,r4,r5,r6,r7,r8,r9)) :
    Calls Try.prog 17 #[.agg #[.int .i64 b9,.int .i64 c0,.int .i64 c1,.int .i64 c2],.agg #[.int .i64 b5,.int .i64 b6,.int .i64 b7,.int .i64 b8]] w fun e w'=>e=.returned (.tuple #[.agg #[.int .i64 r1,.int .i64 r2,.int .i64 r3,.int .i64 r4],.agg #[.int .i64 r5,.int .i64 r6,.int .i64 r7,.int .i64 r8],.int .i64 r9])∧Below w.heap.size w w':=by
 have O8:=Try.underlying23;have O9:=Try.underlying67;have Q:=mk0 (Below.refl w.heap.size w);have H:((norm_check.f k (([(⟨b9,c0,c1,c2⟩:S23),(⟨b5,b6,b7,b8⟩:S23)]:List (S23)))).bind fun g5=>(if g5=0 then ((norm_of.f b5 b6 b7 b8).bind fun g8=>(if (g8.1 == 0 && (g8.2.1 == 0 && (g8.2.2.1 == 0 && (g8.2.2.2 == 0))))=true then (some (0,0,0,0,0,0,0,0,5)) else ((norm_of.f b9 c0 c1 c2).bind fun g9=>((norm_of.f b5 b6 b7 b8).bind fun h0=>((norm_divide.f k g9.1 g9.2.1 g9.2.2.1 g9.2.2.2 h0.1 h0.2.1 h0.2.2.1 h0.2.2.2).bind fun e7=>((norm_quat_api.f e7.1 e7.2.1 e7.2.2.1 e7.2.2.2.1).bind fun h1=>((norm_quat_api.f e7.2.2.2.2.1 e7.2.2.2.2.2.1 e7.2.2.2.2.2.2.1 e7.2.2.2.2.2.2.2).bind fun h2=>(some (h1.1,h1.2.1,h1.2.2.1,h1.2.2.2,h2.1,h2.2.1,h2.2.2.1,h2.2.2.2,0))))))))) else (some (0,0,0,0,0,0,0,0,g5))))=some (r1,r2,r3,r4,r5,r6,r7,r8,r9):=h;clear h;obtain ⟨d3,i7⟩:∃ y_:List (S23),y_=(([(⟨b9,c0,c1,c2⟩:S23),(⟨b5,b6,b7,b8⟩:S23)]:List (S23))):=⟨_,rfl⟩
 replace H:((norm_check.f k d3).bind fun g5=>(if g5=0 then ((norm_of.f b5 b6 b7 b8).bind fun g8=>(if (g8.1 == 0 && (g8.2.1 == 0 && (g8.2.2.1 == 0 && (g8.2.2.2 == 0))))=true then (some (0,0,0,0,0,0,0,0,5)) else ((norm_of.f b9 c0 c1 c2).bind fun g9=>((norm_of.f b5 b6 b7 b8).bind fun h0=>((norm_divide.f k g9.1 g9.2.1 g9.2.2.1 g9.2.2.2 h0.1 h0.2.1 h0.2.2.1 h0.2.2.2).bind fun e7=>((norm_quat_api.f e7.1 e7.2.1 e7.2.2.1 e7.2.2.2.1).bind fun h1=>((norm_quat_api.f e7.2.2.2.2.1 e7.2.2.2.2.2.1 e7.2.2.2.2.2.2.1 e7.2.2.2.2.2.2.2).bind fun h2=>(some (h1.1,h1.2.1,h1.2.2.1,h1.2.2.2,h2.1,h2.2.1,h2.2.2.1,h2.2.2.2,0))))))))) else (some (0,0,0,0,0,0,0,0,g5))))=some (r1,r2,r3,r4,r5,r6,r7,r8,r9):=by first|(rw [i7];with_reducible exact H)|(have m6:=(Option.bind_some _ _).symm.trans H;rw [i7];with_reducible exact m6)|(have m6:=(Option.bind_some _ _).symm.trans H;with_reducible exact m6)|with_reducible exact H|(rw [i7];exact H)|exact H
 have i1:=mk0 i7;clear i7;replace H:=Option.bind_eq_some_iff.mp H;obtain ⟨g5,l8,H⟩:=H;(try dsimp only at H);have A3:=mk0 l8;clear l8
 by_cases c4:g5=0
 ·
  rw [if_pos c4] at H;have c4b0:(g5 == 0)=true:=beq_iff_eq.mpr c4;have c4b1:(g5 != 0)=false:=bne_eq_false_iff_eq.mpr c4;clear c4;replace H:=Option.bind_eq_some_iff.mp H;obtain ⟨⟨h3,h4,h5,h6⟩,p3,H⟩:=H;(try dsimp only at H);have A5:=mk0 p3;clear p3
  by_cases c6:(h3 == 0 && (h4 == 0 && (h5 == 0 && (h6 == 0))))=true
  ·
   rw [if_pos c6] at H;have c6b0:(h3 == 0 && (h4 == 0 && (h5 == 0 && (h6 == 0))))=true:=c6;(try (have c6b1:decide (h3=0 && (h4 == 0 && (h5 == 0 && (h6 == 0))))=true:=by simpa using c6));(try (have c6b2:(h3 == 0 && (h4 == 0 && (h5 == 0 && (h6 == 0))))=true:=by simpa using c6));clear c6;simp only [Option.some.injEq,Prod.mk.injEq] at H;obtain ⟨rfl,rfl,rfl,rfl,rfl,rfl,rfl,rfl,rfl⟩:=H;go_enter Try.func17,Try.ntmps17;go_wp2_with (first|((with_reducible refine gate_dst (N:=2) rfl ?_);refine box_event ?hg (N:=2) ?hd (cs:=#[.int .i64 b9,.int .i64 c0,.int .i64 c1,.int .i64 c2]) (t:=23) ?hr ?_;(case hd=>rfl);(case hg=>rfl);(case hr=>first|(go_simp;done)|(go_simp;rfl));intro G hg w7 a7 hb;have C:=mk0 (a7);have i8:=szw hg Q;have i2:=i8;replace Q:=bst Q hb;clear hb a7 hg)|((with_reducible refine gate_dst (N:=3) rfl ?_);refine box_event ?hg (N:=3) ?hd (cs:=#[.int .i64 b5,.int .i64 b6,.int .i64 b7,.int .i64 b8]) (t:=23) ?hr ?_;(case hd=>rfl);(case hg=>rfl);(case hr=>first|(go_simp;done)|(go_simp;rfl));intro I hg w8 a7 hb;have B:=mk0 (a7);have i9:=szw hg Q;have i3:=i9;have g6:=nlt hg C;have g7:=ngt hg C;replace C:=bkb C hb;replace Q:=bst Q hb;clear hb a7 hg)|((with_reducible refine gate_dst (N:=4) rfl ?_);refine box_event ?hg (N:=4) ?hd (cs:=#[.int .i64 0,.int .i64 0,.int .i64 0,.int .i64 0]) (t:=23) ?hr ?_;(case hd=>rfl);(case hg=>rfl);(case hr=>first|(go_simp;done)|(go_simp;rfl));intro X hg w9 a7 hb;have D:=mk0 (a7);have j0:=szw hg Q;have i4:=j0;have f7:=nlt hg C;have f8:=ngt hg C;have f9:=nlt hg B;have g0:=ngt hg B;replace C:=bkb C hb;replace B:=bkb B hb;replace Q:=bst Q hb;clear hb a7 hg)|((with_reducible refine gate_dst (N:=5) rfl ?_);refine box_event ?hg (N:=5) ?hd (cs:=#[.int .i64 0,.int .i64 0,.int .i64 0,.int .i64 0]) (t:=23) ?hr ?_;(case hd=>rfl);(case hg=>rfl);(case hr=>first|(go_simp;done)|(go_simp;rfl));intro Y hg R6 a7 hb;have E:=mk0 (a7);have j1:=szw hg Q;have i5:=j1;have g1:=nlt hg C;have g2:=ngt hg C;have g3:=nlt hg B;have g4:=ngt hg B;have e8:=nlt hg D;have e9:=ngt hg D;replace C:=bkb C hb;replace B:=bkb B hb;replace D:=bkb D hb;replace Q:=bst Q hb;clear hb a7 hg;have I8:=g6.1;have I9:=g7.1;have J0:=f7.1;have J1:=f8.1;have J2:=g1.1;have J3:=g2.1;have t0:=q0_ C;have t1:=q1_ C;have t2:=q2_ C;have t3:=q3_ C;have t4:=blk_frozen C.1 0;have t5:=blk_frozen C.1 1;have t6:=blk_frozen C.1 2;have t7:=blk_frozen C.1 3;have J4:=f9.1;have J5:=g0.1;have J6:=g3.1;have J7:=g4.1;have t8:=q0_ B;have t9:=q1_ B;have u0:=q2_ B;have u1:=q3_ B;have u2:=blk_frozen B.1 0;have u3:=blk_frozen B.1 1;have u4:=blk_frozen B.1 2;have u5:=blk_frozen B.1 3)|((with_reducible refine gate_dst (N:=12) rfl ?_);refine Kd.R_lit k23 _ 23 ?hg (N:=12) ?hd (xs:=([(⟨b9,c0,c1,c2⟩:S23),(⟨b5,b6,b7,b8⟩:S23)]:List (S23))) (inner:=[.int .i64 b9,.int .i64 c0,.int .i64 c1,.int .i64 c2,.int .i64 b5,.int .i64 b6,.int .i64 b7,.int .i64 b8]) (ok:=fun _=>True) (okp:=fun _=>True) ?hr ?hp (fun _ hk=>hk) trivial (Below.refl _ _) (Nat.le_refl _) (by simp) ?_;(case hd=>rfl);(case hg=>rfl);(case hr=>first|(go_simp;done)|(go_simp;rfl));(case hp=>exact (Reps.c4 (show Kd.M k23 _ _ _ (⟨b9,c0,c1,c2⟩:S23) [.int .i64 b9,.int .i64 c0,.int .i64 c1,.int .i64 c2] from (k23_mkM _ _ _ (⟨b9,c0,c1,c2⟩:S23) )) (Reps.c4 (show Kd.M k23 _ _ _ (⟨b5,b6,b7,b8⟩:S23) [.int .i64 b5,.int .i64 b6,.int .i64 b7,.int .i64 b8] from (k23_mkM _ _ _ (⟨b5,b6,b7,b8⟩:S23) )) (Reps.none _ _))));intro m7 R7 j7 hb hg_ j2;clear hg_ j2;(first|rw [← i1.1] at j7|(simp only [Int.reduceToNat] at j7;rw [← i1.1] at j7));have F:=mk0 (Kd.R_lower (Kd.R_newB (Kd.R_newB (Kd.R_newB (Kd.R_newB j7 (g:=G) (o:=.cells #[.int .i64 b9,.int .i64 c0,.int .i64 c1,.int .i64 c2] 23 (0,0)) C.1) (g:=I) (o:=.cells #[.int .i64 b5,.int .i64 b6,.int .i64 b7,.int .i64 b8] 23 (0,0)) B.1) (g:=X) (o:=.cells #[.int .i64 0,.int .i64 0,.int .i64 0,.int .i64 0] 23 (0,0)) D.1) (g:=Y) (o:=.cells #[.int .i64 0,.int .i64 0,.int .i64 0,.int .i64 0] 23 (0,0)) E.1) (below_size Q.1));replace C:=bkb C hb;replace B:=bkb B hb;replace D:=bkb D hb;replace E:=bkb E hb;replace Q:=bst Q hb;clear hb j7;obtain ⟨p8,p9,q0⟩:=Kd.R_slice F.1;subst q0)|((with_reducible refine gate_callee (f:=47) rfl ?_);refine goesL_ (some 13) rfl rfl Try.func47 (by kernel_rfl) rfl #[.slice p8 d3.length p9] rfl (by (try simp only [m0_,m1_,m2_]);first|done|rfl|(simp only [l0_,l1_];rfl)) ?_;(with_reducible refine (norm_check.calls k _ _ d3 g5 _ ?side1 ?side2 A3.1).mono ?_);(case side1=>repeat (first|exact (Kd.R_reads' F.1).2.2|(with_reducible refine Kd.C_alloc ?_ _)|(with_reducible refine Kd.C_drewN ?_ _)|(with_reducible refine Kd.C_drew ?_)));(case side2=>exact (Kd.R_reads' F.1).2.1);rintro e R8 ⟨rfl,hb⟩;refine ⟨_,rfl,?_⟩;replace F:=rbl F hb;replace C:=bkb C hb;replace B:=bkb B hb;replace D:=bkb D hb;replace E:=bkb E hb;replace Q:=bst Q hb;(try clear hb);(try clear hk);have u6:=q0_ B;have u7:=q1_ B;have u8:=q2_ B;have u9:=q3_ B;have v0:=blk_frozen B.1 0;have v1:=blk_frozen B.1 1;have v2:=blk_frozen B.1 2;have v3:=blk_frozen B.1 3)|((with_reducible refine gate_callee (f:=48) rfl ?_);refine goesL_ (some 20) rfl rfl Try.func48 (by kernel_rfl) rfl #[.agg #[.int .i64 b5,.int .i64 b6,.int .i64 b7,.int .i64 b8]] rfl (by (try simp only [m0_,m1_,m2_]);first|done|rfl|(simp only [l0_,l1_];rfl)) ?_;(with_reducible refine (norm_of.calls b5 b6 b7 b8 h3 h4 h5 h6 _ A5.1).mono ?_);rintro e R9 ⟨rfl,hb⟩;refine ⟨_,rfl,?_⟩;replace F:=rbl F hb;replace C:=bkb C hb;replace B:=bkb B hb;replace D:=bkb D hb;replace E:=bkb E hb;replace Q:=bst Q hb;(try clear hb);(try clear hk);have J8:=e8.1;have J9:=e9.1;have v4:=q0_ D;have v5:=q1_ D;have v6:=q2_ D;have v7:=q3_ D;have v8:=blk_frozen D.1 0;have v9:=blk_frozen D.1 1;have x0:=blk_frozen D.1 2;have x1:=blk_frozen D.1 3;have x2:=q0_ E;have x3:=q1_ E;have x4:=q2_ E;have x5:=q3_ E;have x6:=blk_frozen E.1 0;have x7:=blk_frozen E.1 1;have x8:=blk_frozen E.1 2;have x9:=blk_frozen E.1 3))
   refine bodyPost_ret (results_list (rs:=[.cell 4 23,.cell 5 23,.tmp 6]) rfl (by simp) (.cell X 23 #[.int .i64 0,.int .i64 0,.int .i64 0,.int .i64 0] (0,0) _ rfl (by (iterate 4 refine blk_far ?_ e8.1 _);refine blk_put (cs:=#[.int .i64 0,.int .i64 0,.int .i64 0,.int .i64 0]) ?_ 3 _ rfl;refine blk_put (cs:=#[.int .i64 0,.int .i64 0,.int .i64 0,.int .i64 0]) ?_ 2 _ rfl;refine blk_put (cs:=#[.int .i64 0,.int .i64 0,.int .i64 0,.int .i64 0]) ?_ 1 _ rfl;refine blk_put (cs:=#[.int .i64 0,.int .i64 0,.int .i64 0,.int .i64 0]) ?_ 0 _ rfl;exact D.1) Try.underlying23 rfl (by kernel_rfl) (.cell Y 23 #[.int .i64 0,.int .i64 0,.int .i64 0,.int .i64 0] (0,0) _ rfl (by refine blk_put (cs:=#[.int .i64 0,.int .i64 0,.int .i64 0,.int .i64 0]) ?_ 3 _ rfl;refine blk_put (cs:=#[.int .i64 0,.int .i64 0,.int .i64 0,.int .i64 0]) ?_ 2 _ rfl;refine blk_put (cs:=#[.int .i64 0,.int .i64 0,.int .i64 0,.int .i64 0]) ?_ 1 _ rfl;refine blk_put (cs:=#[.int .i64 0,.int .i64 0,.int .i64 0,.int .i64 0]) ?_ 0 _ rfl;(iterate 4 refine blk_far ?_ e9.1 _);exact E.1) Try.underlying23 rfl (by kernel_rfl) (.tmp .nil)))) rfl ?_;exact ⟨by first|rfl|(simp [errW_none,errW_some] <;> rfl)|(simp [*,errW_none,errW_some] <;> rfl),by repeat (first|(with_reducible first|exact Q.1|apply below_alloc|apply pw_below_drewN|apply below_drew1|refine below_set ?_ i2.1|refine below_set ?_ i3.1|refine below_set ?_ i4.1|refine below_set ?_ i5.1)|exact Q.1)⟩
  ·
   rw [if_neg c6] at H;have c6b0:(h3 == 0 && (h4 == 0 && (h5 == 0 && (h6 == 0))))=false:=by simpa using c6
   (try (have c6b1:decide (h3=0 && (h4 == 0 && (h5 == 0 && (h6 == 0))))=false:=by simpa using c6));(try (have c6b2:(h3 == 0 && (h4 == 0 && (h5 == 0 && (h6 == 0))))=false:=by simpa using c6));(try (have c6b3:¬ (h3=0 && (h4 == 0 && (h5 == 0 && (h6 == 0)))):=by simpa using c6));clear c6;replace H:=Option.bind_eq_some_iff.mp H;obtain ⟨⟨e2,e3,e4,e5⟩,m8,H⟩:=H;(try dsimp only at H);have l9:=mk0 m8;clear m8;replace H:=Option.bind_eq_some_iff.mp H;obtain ⟨⟨f1,f2,f3,f4⟩,m9,H⟩:=H;(try dsimp only at H);have m0:=mk0 m9;clear m9;replace H:=Option.bind_eq_some_iff.mp H;obtain ⟨⟨d4,d6,d8,e0,d5,d7,d9,e1⟩,n0,H⟩:=H;(try dsimp only at H);have m1:=mk0 n0;clear n0;replace H:=Option.bind_eq_some_iff.mp H;obtain ⟨⟨j8,l4,l6,n1⟩,n2,H⟩:=H;(try dsimp only at H);have l8:=mk0 n2;clear n2;replace H:=Option.bind_eq_some_iff.mp H;obtain ⟨⟨j9,l5,l7,n3⟩,n4,H⟩:=H;(try dsimp only at H);have I2:=mk0 n4;clear n4;simp only [Option.some.injEq,Prod.mk.injEq] at H;obtain ⟨rfl,rfl,rfl,rfl,rfl,rfl,rfl,rfl,rfl⟩:=H;go_enter Try.func17,Try.ntmps17;try go_wp2_with (first|((with_reducible refine gate_dst (N:=2) rfl ?_);refine box_event ?hg (N:=2) ?hd (cs:=#[.int .i64 b9,.int .i64 c0,.int .i64 c1,.int .i64 c2]) (t:=23) ?hr ?_;(case hd=>rfl);(case hg=>rfl);(case hr=>first|(go_simp;done)|(go_simp;rfl));intro G hg T0 a7 hb;have C:=mk0 (a7);have i8:=szw hg Q;have i2:=i8;replace Q:=bst Q hb;clear hb a7 hg)|((with_reducible refine gate_dst (N:=3) rfl ?_);refine box_event ?hg (N:=3) ?hd (cs:=#[.int .i64 b5,.int .i64 b6,.int .i64 b7,.int .i64 b8]) (t:=23) ?hr ?_;(case hd=>rfl);(case hg=>rfl);(case hr=>first|(go_simp;done)|(go_simp;rfl));intro I hg T1 a7 hb;have B:=mk0 (a7);have i9:=szw hg Q;have i3:=i9;have g6:=nlt hg C;have g7:=ngt hg C;replace C:=bkb C hb;replace Q:=bst Q hb;clear hb a7 hg)|((with_reducible refine gate_dst (N:=4) rfl ?_);refine box_event ?hg (N:=4) ?hd (cs:=#[.int .i64 0,.int .i64 0,.int .i64 0,.int .i64 0]) (t:=23) ?hr ?_;(case hd=>rfl);(case hg=>rfl);(case hr=>first|(go_simp;done)|(go_simp;rfl));intro X hg T2 a7 hb;have D:=mk0 (a7);have j0:=szw hg Q;have i4:=j0;have f7:=nlt hg C;have f8:=ngt hg C;have f9:=nlt hg B;have g0:=ngt hg B;replace C:=bkb C hb;replace B:=bkb B hb;replace Q:=bst Q hb;clear hb a7 hg)|((with_reducible refine gate_dst (N:=5) rfl ?_);refine box_event ?hg (N:=5) ?hd (cs:=#[.int .i64 0,.int .i64 0,.int .i64 0,.int .i64 0]) (t:=23) ?hr ?_;(case hd=>rfl);(case hg=>rfl);(case hr=>first|(go_simp;done)|(go_simp;rfl));intro Y hg T3 a7 hb;have E:=mk0 (a7);have j1:=szw hg Q;have i5:=j1;have g1:=nlt hg C;have g2:=ngt hg C;have g3:=nlt hg B;have g4:=ngt hg B;have e8:=nlt hg D;have e9:=ngt hg D;replace C:=bkb C hb;replace B:=bkb B hb;replace D:=bkb D hb;replace Q:=bst Q hb;clear hb a7 hg;have L0:=g6.1;have L1:=g7.1;have L2:=f7.1;have L3:=f8.1;have L4:=g1.1;have L5:=g2.1;have y0:=q0_ C;have y1:=q1_ C;have y2:=q2_ C;have y3:=q3_ C;have y4:=blk_frozen C.1 0;have y5:=blk_frozen C.1 1;have y6:=blk_frozen C.1 2;have y7:=blk_frozen C.1 3;have L6:=f9.1;have L7:=g0.1;have L8:=g3.1;have L9:=g4.1;have y8:=q0_ B;have y9:=q1_ B;have z0:=q2_ B;have z1:=q3_ B;have z2:=blk_frozen B.1 0;have z3:=blk_frozen B.1 1;have z4:=blk_frozen B.1 2;have z5:=blk_frozen B.1 3)|((with_reducible refine gate_dst (N:=12) rfl ?_);refine Kd.R_lit k23 _ 23 ?hg (N:=12) ?hd (xs:=([(⟨b9,c0,c1,c2⟩:S23),(⟨b5,b6,b7,b8⟩:S23)]:List (S23))) (inner:=[.int .i64 b9,.int .i64 c0,.int .i64 c1,.int .i64 c2,.int .i64 b5,.int .i64 b6,.int .i64 b7,.int .i64 b8]) (ok:=fun _=>True) (okp:=fun _=>True) ?hr ?hp (fun _ hk=>hk) trivial (Below.refl _ _) (Nat.le_refl _) (by simp) ?_;(case hd=>rfl);(case hg=>rfl);(case hr=>first|(go_simp;done)|(go_simp;rfl));(case hp=>exact (Reps.c4 (show Kd.M k23 _ _ _ (⟨b9,c0,c1,c2⟩:S23) [.int .i64 b9,.int .i64 c0,.int .i64 c1,.int .i64 c2] from (k23_mkM _ _ _ (⟨b9,c0,c1,c2⟩:S23) )) (Reps.c4 (show Kd.M k23 _ _ _ (⟨b5,b6,b7,b8⟩:S23) [.int .i64 b5,.int .i64 b6,.int .i64 b7,.int .i64 b8] from (k23_mkM _ _ _ (⟨b5,b6,b7,b8⟩:S23) )) (Reps.none _ _))));intro m7 T4 l0 hb hg_ j2;clear hg_ j2;(first|rw [← i1.1] at l0|(simp only [Int.reduceToNat] at l0;rw [← i1.1] at l0));have F:=mk0 (Kd.R_lower (Kd.R_newB (Kd.R_newB (Kd.R_newB (Kd.R_newB l0 (g:=G) (o:=.cells #[.int .i64 b9,.int .i64 c0,.int .i64 c1,.int .i64 c2] 23 (0,0)) C.1) (g:=I) (o:=.cells #[.int .i64 b5,.int .i64 b6,.int .i64 b7,.int .i64 b8] 23 (0,0)) B.1) (g:=X) (o:=.cells #[.int .i64 0,.int .i64 0,.int .i64 0,.int .i64 0] 23 (0,0)) D.1) (g:=Y) (o:=.cells #[.int .i64 0,.int .i64 0,.int .i64 0,.int .i64 0] 23 (0,0)) E.1) (below_size Q.1));replace C:=bkb C hb;replace B:=bkb B hb;replace D:=bkb D hb;replace E:=bkb E hb;replace Q:=bst Q hb;clear hb l0;obtain ⟨f5,f6,q1⟩:=Kd.R_slice F.1;subst q1)|((with_reducible refine gate_callee (f:=47) rfl ?_);refine goesL_ (some 13) rfl rfl Try.func47 (by kernel_rfl) rfl #[.slice f5 d3.length f6] rfl (by (try simp only [m0_,m1_,m2_]);first|done|rfl|(simp only [l0_,l1_];rfl)) ?_;(with_reducible refine (norm_check.calls k _ _ d3 g5 _ ?side1 ?side2 A3.1).mono ?_);(case side1=>repeat (first|exact (Kd.R_reads' F.1).2.2|(with_reducible refine Kd.C_alloc ?_ _)|(with_reducible refine Kd.C_drewN ?_ _)|(with_reducible refine Kd.C_drew ?_)));(case side2=>exact (Kd.R_reads' F.1).2.1);rintro e T5 ⟨rfl,hb⟩;refine ⟨_,rfl,?_⟩;replace F:=rbl F hb;replace C:=bkb C hb;replace B:=bkb B hb;replace D:=bkb D hb;replace E:=bkb E hb;replace Q:=bst Q hb;(try clear hb);(try clear hk);have z6:=q0_ B;have z7:=q1_ B;have z8:=q2_ B;have z9:=q3_ B;have A0:=blk_frozen B.1 0;have A1:=blk_frozen B.1 1;have A2:=blk_frozen B.1 2;have A4:=blk_frozen B.1 3)|((with_reducible refine gate_callee (f:=48) rfl ?_);refine goesL_ (some 20) rfl rfl Try.func48 (by kernel_rfl) rfl #[.agg #[.int .i64 b5,.int .i64 b6,.int .i64 b7,.int .i64 b8]] rfl (by (try simp only [m0_,m1_,m2_]);first|done|rfl|(simp only [l0_,l1_];rfl)) ?_;(with_reducible refine (norm_of.calls b5 b6 b7 b8 h3 h4 h5 h6 _ A5.1).mono ?_);rintro e I3 ⟨rfl,hb⟩;refine ⟨_,rfl,?_⟩;replace F:=rbl F hb;replace C:=bkb C hb;replace B:=bkb B hb;replace D:=bkb D hb;replace E:=bkb E hb;replace Q:=bst Q hb;(try clear hb);(try clear hk)))
   replace F:=rdr F;replace C:=bdr C;replace B:=bdr B;replace D:=bdr D;replace E:=bdr E;replace Q:=hdr Q;refine start_ (n:=12) (S:=fun w'=>w'.cell? ⟨G,0,none⟩=some (.int .i64 b9)∧w'.cell? ⟨G,1,none⟩=some (.int .i64 c0)∧w'.cell? ⟨G,2,none⟩=some (.int .i64 c1)∧w'.cell? ⟨G,3,none⟩=some (.int .i64 c2)∧w'.cell? ⟨I,0,none⟩=some (.int .i64 b5)∧w'.cell? ⟨I,1,none⟩=some (.int .i64 b6)∧w'.cell? ⟨I,2,none⟩=some (.int .i64 b7)∧w'.cell? ⟨I,3,none⟩=some (.int .i64 b8)) (ds:=[]) #[n_,n_,n_,n_,n_,n_,n_,n_,n_,n_,n_,n_] (by kernel_rfl) rfl rfl ⟨q0_ C,q1_ C,q2_ C,q3_ C,q0_ B,q1_ B,q2_ B,q3_ B⟩ (fun J=>?_);refine with_tabW norm_Divide.tab6 norm_Divide.bits6 (fun e6 p4=>?_);generalize I3.drew=T6 at F C B D E Q J ⊢;refine take_ (i:=0) (N:=some 26) (v:=?_) (a':=?_) #[y_,n_,n_,n_,n_,n_,n_,n_,n_,n_,n_,n_] rfl rfl (take_ofW e6.1 p4.1 (by kernel_rfl)) (fun _ _ _ h=>h) (Or.inl ⟨by rfl,?_⟩) J ?_ ?_;rotate_left
   ·
    rintro w' ⟨s0,s1,s2,s3,s4,s5,s6,s7⟩;go_simp;with_reducible rfl
   rotate_left
   ·
    simp only [Act.put,s0_,s1_,s2_,i64_w,i32_w];rfl
   refine take_ (i:=2) (N:=some 28) (v:=?_) (a':=?_) #[y_,n_,y_,n_,n_,n_,n_,n_,n_,n_,n_,n_] rfl rfl (take_ofW e6.1 p4.1 (by kernel_rfl)) (fun _ _ _ h=>h) (Or.inl ⟨by rfl,?_⟩) J ?_ ?_;rotate_left
   ·
    rintro w' ⟨s0,s1,s2,s3,s4,s5,s6,s7⟩;go_simp;with_reducible rfl
   rotate_left
   ·
    simp only [Act.put,s0_,s1_,s2_,i64_w,i32_w];rfl
   refine join_ (σ:=Nat × Nat) 2 #[y_,y_,y_,y_,y_,y_,y_,y_,y_,y_,n_,n_] (fun s_=>[(27,.agg #[.int .i64 e2,.int .i64 e3,.int .i64 e4,.int .i64 e5]),(29,.agg #[.int .i64 f1,.int .i64 f2,.int .i64 f3,.int .i64 f4]),(30,.tuple #[.agg #[.int .i64 d4,.int .i64 d6,.int .i64 d8,.int .i64 e0],.agg #[.int .i64 d5,.int .i64 d7,.int .i64 d9,.int .i64 e1]]),(8,.pointer (some ⟨s_.1,0,none⟩)),(9,.pointer (some ⟨s_.2,0,none⟩)),(25,.tuple #[.agg #[.int .i64 d4,.int .i64 d6,.int .i64 d8,.int .i64 e0],.agg #[.int .i64 d5,.int .i64 d7,.int .i64 d9,.int .i64 e1]]),(31,.agg #[.int .i64 d4,.int .i64 d6,.int .i64 d8,.int .i64 e0]),(32,.agg #[.int .i64 d5,.int .i64 d7,.int .i64 d9,.int .i64 e1])]) (fun s_ w'=>(w'.cell? ⟨G,0,none⟩=some (.int .i64 b9)∧w'.cell? ⟨G,1,none⟩=some (.int .i64 c0)∧w'.cell? ⟨G,2,none⟩=some (.int .i64 c1)∧w'.cell? ⟨G,3,none⟩=some (.int .i64 c2)∧w'.cell? ⟨I,0,none⟩=some (.int .i64 b5)∧w'.cell? ⟨I,1,none⟩=some (.int .i64 b6)∧w'.cell? ⟨I,2,none⟩=some (.int .i64 b7)∧w'.cell? ⟨I,3,none⟩=some (.int .i64 b8))∧(Kd.R k23 23 w' w.heap.size (fun k_=>k_ ≠ G∧k_ ≠ I∧k_ ≠ X∧k_ ≠ Y) (.slice f5 d3.length f6) d3)∧(Q4_ w' G b9 c0 c1 c2 23)∧(Q4_ w' I b5 b6 b7 b8 23)∧(Q4_ w' X 0 0 0 0 23)∧(Q4_ w' Y 0 0 0 0 23)∧(Q4_ w' s_.1 0 0 0 0 67)∧(Q4_ w' s_.2 0 0 0 0 67)∧(w.heap.size ≤ s_.1)∧(w.heap.size ≤ s_.1)∧(G ≠ s_.1)∧(s_.1 ≠ G)∧(I ≠ s_.1)∧(s_.1 ≠ I)∧(X ≠ s_.1)∧(s_.1 ≠ X)∧(Y ≠ s_.1)∧(s_.1 ≠ Y)∧(s_.2 ≠ s_.1)∧(s_.1 ≠ s_.2)∧(w.heap.size ≤ s_.2)∧(w.heap.size ≤ s_.2)∧(G ≠ s_.2)∧(s_.2 ≠ G)∧(I ≠ s_.2)∧(s_.2 ≠ I)∧(X ≠ s_.2)∧(s_.2 ≠ X)∧(Y ≠ s_.2)∧(s_.2 ≠ Y)∧(Below w.heap.size w w')) ?_ ?_;rotate_left
   ·
    intro h7;refine join_ (σ:=Nat) 3 #[y_,y_,y_,y_,y_,y_,y_,y_,y_,n_,n_,n_] (fun s_=>[(27,.agg #[.int .i64 e2,.int .i64 e3,.int .i64 e4,.int .i64 e5]),(29,.agg #[.int .i64 f1,.int .i64 f2,.int .i64 f3,.int .i64 f4]),(30,.tuple #[.agg #[.int .i64 d4,.int .i64 d6,.int .i64 d8,.int .i64 e0],.agg #[.int .i64 d5,.int .i64 d7,.int .i64 d9,.int .i64 e1]]),(8,.pointer (some ⟨s_,0,none⟩)),(25,.tuple #[.agg #[.int .i64 d4,.int .i64 d6,.int .i64 d8,.int .i64 e0],.agg #[.int .i64 d5,.int .i64 d7,.int .i64 d9,.int .i64 e1]]),(31,.agg #[.int .i64 d4,.int .i64 d6,.int .i64 d8,.int .i64 e0]),(32,.agg #[.int .i64 d5,.int .i64 d7,.int .i64 d9,.int .i64 e1])]) (fun s_ w'=>(w'.cell? ⟨G,0,none⟩=some (.int .i64 b9)∧w'.cell? ⟨G,1,none⟩=some (.int .i64 c0)∧w'.cell? ⟨G,2,none⟩=some (.int .i64 c1)∧w'.cell? ⟨G,3,none⟩=some (.int .i64 c2)∧w'.cell? ⟨I,0,none⟩=some (.int .i64 b5)∧w'.cell? ⟨I,1,none⟩=some (.int .i64 b6)∧w'.cell? ⟨I,2,none⟩=some (.int .i64 b7)∧w'.cell? ⟨I,3,none⟩=some (.int .i64 b8))∧(Kd.R k23 23 w' w.heap.size (fun k_=>k_ ≠ G∧k_ ≠ I∧k_ ≠ X∧k_ ≠ Y) (.slice f5 d3.length f6) d3)∧(Q4_ w' G b9 c0 c1 c2 23)∧(Q4_ w' I b5 b6 b7 b8 23)∧(Q4_ w' X 0 0 0 0 23)∧(Q4_ w' Y 0 0 0 0 23)∧(Q4_ w' s_ 0 0 0 0 67)∧(w.heap.size ≤ s_)∧(w.heap.size ≤ s_)∧(G ≠ s_)∧(s_ ≠ G)∧(I ≠ s_)∧(s_ ≠ I)∧(X ≠ s_)∧(s_ ≠ X)∧(Y ≠ s_)∧(s_ ≠ Y)∧(Below w.heap.size w w')) ?_ ?_;rotate_left
    ·
     intro j5;refine join_ (σ:=Nat) 3 #[y_,y_,y_,y_,y_,y_,y_,y_,n_,y_,n_,n_] (fun s_=>[(27,.agg #[.int .i64 e2,.int .i64 e3,.int .i64 e4,.int .i64 e5]),(29,.agg #[.int .i64 f1,.int .i64 f2,.int .i64 f3,.int .i64 f4]),(30,.tuple #[.agg #[.int .i64 d4,.int .i64 d6,.int .i64 d8,.int .i64 e0],.agg #[.int .i64 d5,.int .i64 d7,.int .i64 d9,.int .i64 e1]]),(9,.pointer (some ⟨s_,0,none⟩)),(25,.tuple #[.agg #[.int .i64 d4,.int .i64 d6,.int .i64 d8,.int .i64 e0],.agg #[.int .i64 d5,.int .i64 d7,.int .i64 d9,.int .i64 e1]]),(31,.agg #[.int .i64 d4,.int .i64 d6,.int .i64 d8,.int .i64 e0]),(32,.agg #[.int .i64 d5,.int .i64 d7,.int .i64 d9,.int .i64 e1])]) (fun s_ w'=>(w'.cell? ⟨G,0,none⟩=some (.int .i64 b9)∧w'.cell? ⟨G,1,none⟩=some (.int .i64 c0)∧w'.cell? ⟨G,2,none⟩=some (.int .i64 c1)∧w'.cell? ⟨G,3,none⟩=some (.int .i64 c2)∧w'.cell? ⟨I,0,none⟩=some (.int .i64 b5)∧w'.cell? ⟨I,1,none⟩=some (.int .i64 b6)∧w'.cell? ⟨I,2,none⟩=some (.int .i64 b7)∧w'.cell? ⟨I,3,none⟩=some (.int .i64 b8))∧(Kd.R k23 23 w' w.heap.size (fun k_=>k_ ≠ G∧k_ ≠ I∧k_ ≠ X∧k_ ≠ Y) (.slice f5 d3.length f6) d3)∧(Q4_ w' G b9 c0 c1 c2 23)∧(Q4_ w' I b5 b6 b7 b8 23)∧(Q4_ w' X 0 0 0 0 23)∧(Q4_ w' Y 0 0 0 0 23)∧(Q4_ w' s_ 0 0 0 0 67)∧(w.heap.size ≤ s_)∧(w.heap.size ≤ s_)∧(G ≠ s_)∧(s_ ≠ G)∧(I ≠ s_)∧(s_ ≠ I)∧(X ≠ s_)∧(s_ ≠ X)∧(Y ≠ s_)∧(s_ ≠ Y)∧(Below w.heap.size w w')) ?_ ?_;rotate_left
     ·
      intro j6;refine join_ (σ:=Nat × Nat) 6 #[y_,y_,y_,y_,n_,n_,n_,n_,y_,y_,n_,n_] (fun s_=>[(27,.agg #[.int .i64 e2,.int .i64 e3,.int .i64 e4,.int .i64 e5]),(29,.agg #[.int .i64 f1,.int .i64 f2,.int .i64 f3,.int .i64 f4]),(8,.pointer (some ⟨s_.1,0,none⟩)),(9,.pointer (some ⟨s_.2,0,none⟩))]) (fun s_ w'=>(w'.cell? ⟨G,0,none⟩=some (.int .i64 b9)∧w'.cell? ⟨G,1,none⟩=some (.int .i64 c0)∧w'.cell? ⟨G,2,none⟩=some (.int .i64 c1)∧w'.cell? ⟨G,3,none⟩=some (.int .i64 c2)∧w'.cell? ⟨I,0,none⟩=some (.int .i64 b5)∧w'.cell? ⟨I,1,none⟩=some (.int .i64 b6)∧w'.cell? ⟨I,2,none⟩=some (.int .i64 b7)∧w'.cell? ⟨I,3,none⟩=some (.int .i64 b8))∧(Kd.R k23 23 w' w.heap.size (fun k_=>k_ ≠ G∧k_ ≠ I∧k_ ≠ X∧k_ ≠ Y) (.slice f5 d3.length f6) d3)∧(Q4_ w' G b9 c0 c1 c2 23)∧(Q4_ w' I b5 b6 b7 b8 23)∧(Q4_ w' X 0 0 0 0 23)∧(Q4_ w' Y 0 0 0 0 23)∧(Q4_ w' s_.1 0 0 0 0 67)∧(Q4_ w' s_.2 0 0 0 0 67)∧(w.heap.size ≤ s_.1)∧(w.heap.size ≤ s_.1)∧(G ≠ s_.1)∧(s_.1 ≠ G)∧(I ≠ s_.1)∧(s_.1 ≠ I)∧(X ≠ s_.1)∧(s_.1 ≠ X)∧(Y ≠ s_.1)∧(s_.1 ≠ Y)∧(s_.2 ≠ s_.1)∧(s_.1 ≠ s_.2)∧(w.heap.size ≤ s_.2)∧(w.heap.size ≤ s_.2)∧(G ≠ s_.2)∧(s_.2 ≠ G)∧(I ≠ s_.2)∧(s_.2 ≠ I)∧(X ≠ s_.2)∧(s_.2 ≠ X)∧(Y ≠ s_.2)∧(s_.2 ≠ Y)∧(Below w.heap.size w w')) ?_ ?_;rotate_left
      ·
       intro h9;refine join_ (σ:=Unit) 4 #[y_,y_,y_,y_,y_,y_,y_,y_,n_,n_,n_,n_] (fun s_=>[(27,.agg #[.int .i64 e2,.int .i64 e3,.int .i64 e4,.int .i64 e5]),(29,.agg #[.int .i64 f1,.int .i64 f2,.int .i64 f3,.int .i64 f4]),(30,.tuple #[.agg #[.int .i64 d4,.int .i64 d6,.int .i64 d8,.int .i64 e0],.agg #[.int .i64 d5,.int .i64 d7,.int .i64 d9,.int .i64 e1]]),(25,.tuple #[.agg #[.int .i64 d4,.int .i64 d6,.int .i64 d8,.int .i64 e0],.agg #[.int .i64 d5,.int .i64 d7,.int .i64 d9,.int .i64 e1]]),(31,.agg #[.int .i64 d4,.int .i64 d6,.int .i64 d8,.int .i64 e0]),(32,.agg #[.int .i64 d5,.int .i64 d7,.int .i64 d9,.int .i64 e1])]) (fun s_ w'=>(w'.cell? ⟨G,0,none⟩=some (.int .i64 b9)∧w'.cell? ⟨G,1,none⟩=some (.int .i64 c0)∧w'.cell? ⟨G,2,none⟩=some (.int .i64 c1)∧w'.cell? ⟨G,3,none⟩=some (.int .i64 c2)∧w'.cell? ⟨I,0,none⟩=some (.int .i64 b5)∧w'.cell? ⟨I,1,none⟩=some (.int .i64 b6)∧w'.cell? ⟨I,2,none⟩=some (.int .i64 b7)∧w'.cell? ⟨I,3,none⟩=some (.int .i64 b8))∧(Kd.R k23 23 w' w.heap.size (fun k_=>k_ ≠ G∧k_ ≠ I∧k_ ≠ X∧k_ ≠ Y) (.slice f5 d3.length f6) d3)∧(Q4_ w' G b9 c0 c1 c2 23)∧(Q4_ w' I b5 b6 b7 b8 23)∧(Q4_ w' X 0 0 0 0 23)∧(Q4_ w' Y 0 0 0 0 23)∧(Below w.heap.size w w')) ?_ ?_;rotate_left
       ·
        intro m5;refine join_ (σ:=Nat) 7 #[y_,y_,y_,y_,n_,n_,n_,n_,y_,n_,n_,n_] (fun s_=>[(27,.agg #[.int .i64 e2,.int .i64 e3,.int .i64 e4,.int .i64 e5]),(29,.agg #[.int .i64 f1,.int .i64 f2,.int .i64 f3,.int .i64 f4]),(8,.pointer (some ⟨s_,0,none⟩))]) (fun s_ w'=>(w'.cell? ⟨G,0,none⟩=some (.int .i64 b9)∧w'.cell? ⟨G,1,none⟩=some (.int .i64 c0)∧w'.cell? ⟨G,2,none⟩=some (.int .i64 c1)∧w'.cell? ⟨G,3,none⟩=some (.int .i64 c2)∧w'.cell? ⟨I,0,none⟩=some (.int .i64 b5)∧w'.cell? ⟨I,1,none⟩=some (.int .i64 b6)∧w'.cell? ⟨I,2,none⟩=some (.int .i64 b7)∧w'.cell? ⟨I,3,none⟩=some (.int .i64 b8))∧(Kd.R k23 23 w' w.heap.size (fun k_=>k_ ≠ G∧k_ ≠ I∧k_ ≠ X∧k_ ≠ Y) (.slice f5 d3.length f6) d3)∧(Q4_ w' G b9 c0 c1 c2 23)∧(Q4_ w' I b5 b6 b7 b8 23)∧(Q4_ w' X 0 0 0 0 23)∧(Q4_ w' Y 0 0 0 0 23)∧(Q4_ w' s_ 0 0 0 0 67)∧(w.heap.size ≤ s_)∧(w.heap.size ≤ s_)∧(G ≠ s_)∧(s_ ≠ G)∧(I ≠ s_)∧(s_ ≠ I)∧(X ≠ s_)∧(s_ ≠ X)∧(Y ≠ s_)∧(s_ ≠ Y)∧(Below w.heap.size w w')) ?_ ?_;rotate_left
        ·
         intro l2;refine join_ (σ:=Nat) 7 #[y_,y_,y_,y_,n_,n_,n_,n_,n_,y_,n_,n_] (fun s_=>[(27,.agg #[.int .i64 e2,.int .i64 e3,.int .i64 e4,.int .i64 e5]),(29,.agg #[.int .i64 f1,.int .i64 f2,.int .i64 f3,.int .i64 f4]),(9,.pointer (some ⟨s_,0,none⟩))]) (fun s_ w'=>(w'.cell? ⟨G,0,none⟩=some (.int .i64 b9)∧w'.cell? ⟨G,1,none⟩=some (.int .i64 c0)∧w'.cell? ⟨G,2,none⟩=some (.int .i64 c1)∧w'.cell? ⟨G,3,none⟩=some (.int .i64 c2)∧w'.cell? ⟨I,0,none⟩=some (.int .i64 b5)∧w'.cell? ⟨I,1,none⟩=some (.int .i64 b6)∧w'.cell? ⟨I,2,none⟩=some (.int .i64 b7)∧w'.cell? ⟨I,3,none⟩=some (.int .i64 b8))∧(Kd.R k23 23 w' w.heap.size (fun k_=>k_ ≠ G∧k_ ≠ I∧k_ ≠ X∧k_ ≠ Y) (.slice f5 d3.length f6) d3)∧(Q4_ w' G b9 c0 c1 c2 23)∧(Q4_ w' I b5 b6 b7 b8 23)∧(Q4_ w' X 0 0 0 0 23)∧(Q4_ w' Y 0 0 0 0 23)∧(Q4_ w' s_ 0 0 0 0 67)∧(w.heap.size ≤ s_)∧(w.heap.size ≤ s_)∧(G ≠ s_)∧(s_ ≠ G)∧(I ≠ s_)∧(s_ ≠ I)∧(X ≠ s_)∧(s_ ≠ X)∧(Y ≠ s_)∧(s_ ≠ Y)∧(Below w.heap.size w w')) ?_ ?_;rotate_left
         ·
          intro l3;refine join_ (σ:=Nat × Nat) 7 #[y_,y_,y_,n_,n_,n_,n_,n_,y_,y_,n_,n_] (fun s_=>[(27,.agg #[.int .i64 e2,.int .i64 e3,.int .i64 e4,.int .i64 e5]),(8,.pointer (some ⟨s_.1,0,none⟩)),(9,.pointer (some ⟨s_.2,0,none⟩))]) (fun s_ w'=>(w'.cell? ⟨G,0,none⟩=some (.int .i64 b9)∧w'.cell? ⟨G,1,none⟩=some (.int .i64 c0)∧w'.cell? ⟨G,2,none⟩=some (.int .i64 c1)∧w'.cell? ⟨G,3,none⟩=some (.int .i64 c2)∧w'.cell? ⟨I,0,none⟩=some (.int .i64 b5)∧w'.cell? ⟨I,1,none⟩=some (.int .i64 b6)∧w'.cell? ⟨I,2,none⟩=some (.int .i64 b7)∧w'.cell? ⟨I,3,none⟩=some (.int .i64 b8))∧(Kd.R k23 23 w' w.heap.size (fun k_=>k_ ≠ G∧k_ ≠ I∧k_ ≠ X∧k_ ≠ Y) (.slice f5 d3.length f6) d3)∧(Q4_ w' G b9 c0 c1 c2 23)∧(Q4_ w' I b5 b6 b7 b8 23)∧(Q4_ w' X 0 0 0 0 23)∧(Q4_ w' Y 0 0 0 0 23)∧(Q4_ w' s_.1 0 0 0 0 67)∧(Q4_ w' s_.2 0 0 0 0 67)∧(w.heap.size ≤ s_.1)∧(w.heap.size ≤ s_.1)∧(G ≠ s_.1)∧(s_.1 ≠ G)∧(I ≠ s_.1)∧(s_.1 ≠ I)∧(X ≠ s_.1)∧(s_.1 ≠ X)∧(Y ≠ s_.1)∧(s_.1 ≠ Y)∧(s_.2 ≠ s_.1)∧(s_.1 ≠ s_.2)∧(w.heap.size ≤ s_.2)∧(w.heap.size ≤ s_.2)∧(G ≠ s_.2)∧(s_.2 ≠ G)∧(I ≠ s_.2)∧(s_.2 ≠ I)∧(X ≠ s_.2)∧(s_.2 ≠ X)∧(Y ≠ s_.2)∧(s_.2 ≠ Y)∧(Below w.heap.size w w')) ?_ ?_;rotate_left
          ·
           intro j4;refine join_ (σ:=Unit) 8 #[y_,y_,y_,y_,n_,n_,n_,n_,n_,n_,n_,n_] (fun s_=>[(27,.agg #[.int .i64 e2,.int .i64 e3,.int .i64 e4,.int .i64 e5]),(29,.agg #[.int .i64 f1,.int .i64 f2,.int .i64 f3,.int .i64 f4])]) (fun s_ w'=>(w'.cell? ⟨G,0,none⟩=some (.int .i64 b9)∧w'.cell? ⟨G,1,none⟩=some (.int .i64 c0)∧w'.cell? ⟨G,2,none⟩=some (.int .i64 c1)∧w'.cell? ⟨G,3,none⟩=some (.int .i64 c2)∧w'.cell? ⟨I,0,none⟩=some (.int .i64 b5)∧w'.cell? ⟨I,1,none⟩=some (.int .i64 b6)∧w'.cell? ⟨I,2,none⟩=some (.int .i64 b7)∧w'.cell? ⟨I,3,none⟩=some (.int .i64 b8))∧(Kd.R k23 23 w' w.heap.size (fun k_=>k_ ≠ G∧k_ ≠ I∧k_ ≠ X∧k_ ≠ Y) (.slice f5 d3.length f6) d3)∧(Q4_ w' G b9 c0 c1 c2 23)∧(Q4_ w' I b5 b6 b7 b8 23)∧(Q4_ w' X 0 0 0 0 23)∧(Q4_ w' Y 0 0 0 0 23)∧(Below w.heap.size w w')) ?_ ?_;rotate_left
           ·
            intro p2;refine join_ (σ:=Nat) 8 #[y_,y_,y_,n_,n_,n_,n_,n_,y_,n_,n_,n_] (fun s_=>[(27,.agg #[.int .i64 e2,.int .i64 e3,.int .i64 e4,.int .i64 e5]),(8,.pointer (some ⟨s_,0,none⟩))]) (fun s_ w'=>(w'.cell? ⟨G,0,none⟩=some (.int .i64 b9)∧w'.cell? ⟨G,1,none⟩=some (.int .i64 c0)∧w'.cell? ⟨G,2,none⟩=some (.int .i64 c1)∧w'.cell? ⟨G,3,none⟩=some (.int .i64 c2)∧w'.cell? ⟨I,0,none⟩=some (.int .i64 b5)∧w'.cell? ⟨I,1,none⟩=some (.int .i64 b6)∧w'.cell? ⟨I,2,none⟩=some (.int .i64 b7)∧w'.cell? ⟨I,3,none⟩=some (.int .i64 b8))∧(Kd.R k23 23 w' w.heap.size (fun k_=>k_ ≠ G∧k_ ≠ I∧k_ ≠ X∧k_ ≠ Y) (.slice f5 d3.length f6) d3)∧(Q4_ w' G b9 c0 c1 c2 23)∧(Q4_ w' I b5 b6 b7 b8 23)∧(Q4_ w' X 0 0 0 0 23)∧(Q4_ w' Y 0 0 0 0 23)∧(Q4_ w' s_ 0 0 0 0 67)∧(w.heap.size ≤ s_)∧(w.heap.size ≤ s_)∧(G ≠ s_)∧(s_ ≠ G)∧(I ≠ s_)∧(s_ ≠ I)∧(X ≠ s_)∧(s_ ≠ X)∧(Y ≠ s_)∧(s_ ≠ Y)∧(Below w.heap.size w w')) ?_ ?_;rotate_left
            ·
             intro m2;refine join_ (σ:=Nat) 8 #[y_,y_,y_,n_,n_,n_,n_,n_,n_,y_,n_,n_] (fun s_=>[(27,.agg #[.int .i64 e2,.int .i64 e3,.int .i64 e4,.int .i64 e5]),(9,.pointer (some ⟨s_,0,none⟩))]) (fun s_ w'=>(w'.cell? ⟨G,0,none⟩=some (.int .i64 b9)∧w'.cell? ⟨G,1,none⟩=some (.int .i64 c0)∧w'.cell? ⟨G,2,none⟩=some (.int .i64 c1)∧w'.cell? ⟨G,3,none⟩=some (.int .i64 c2)∧w'.cell? ⟨I,0,none⟩=some (.int .i64 b5)∧w'.cell? ⟨I,1,none⟩=some (.int .i64 b6)∧w'.cell? ⟨I,2,none⟩=some (.int .i64 b7)∧w'.cell? ⟨I,3,none⟩=some (.int .i64 b8))∧(Kd.R k23 23 w' w.heap.size (fun k_=>k_ ≠ G∧k_ ≠ I∧k_ ≠ X∧k_ ≠ Y) (.slice f5 d3.length f6) d3)∧(Q4_ w' G b9 c0 c1 c2 23)∧(Q4_ w' I b5 b6 b7 b8 23)∧(Q4_ w' X 0 0 0 0 23)∧(Q4_ w' Y 0 0 0 0 23)∧(Q4_ w' s_ 0 0 0 0 67)∧(w.heap.size ≤ s_)∧(w.heap.size ≤ s_)∧(G ≠ s_)∧(s_ ≠ G)∧(I ≠ s_)∧(s_ ≠ I)∧(X ≠ s_)∧(s_ ≠ X)∧(Y ≠ s_)∧(s_ ≠ Y)∧(Below w.heap.size w w')) ?_ ?_;rotate_left
             ·
              intro m3;refine join_ (σ:=Nat × Nat) 8 #[y_,n_,y_,n_,n_,n_,n_,n_,y_,y_,n_,n_] (fun s_=>[(8,.pointer (some ⟨s_.1,0,none⟩)),(9,.pointer (some ⟨s_.2,0,none⟩))]) (fun s_ w'=>(w'.cell? ⟨G,0,none⟩=some (.int .i64 b9)∧w'.cell? ⟨G,1,none⟩=some (.int .i64 c0)∧w'.cell? ⟨G,2,none⟩=some (.int .i64 c1)∧w'.cell? ⟨G,3,none⟩=some (.int .i64 c2)∧w'.cell? ⟨I,0,none⟩=some (.int .i64 b5)∧w'.cell? ⟨I,1,none⟩=some (.int .i64 b6)∧w'.cell? ⟨I,2,none⟩=some (.int .i64 b7)∧w'.cell? ⟨I,3,none⟩=some (.int .i64 b8))∧(Kd.R k23 23 w' w.heap.size (fun k_=>k_ ≠ G∧k_ ≠ I∧k_ ≠ X∧k_ ≠ Y) (.slice f5 d3.length f6) d3)∧(Q4_ w' G b9 c0 c1 c2 23)∧(Q4_ w' I b5 b6 b7 b8 23)∧(Q4_ w' X 0 0 0 0 23)∧(Q4_ w' Y 0 0 0 0 23)∧(Q4_ w' s_.1 0 0 0 0 67)∧(Q4_ w' s_.2 0 0 0 0 67)∧(w.heap.size ≤ s_.1)∧(w.heap.size ≤ s_.1)∧(G ≠ s_.1)∧(s_.1 ≠ G)∧(I ≠ s_.1)∧(s_.1 ≠ I)∧(X ≠ s_.1)∧(s_.1 ≠ X)∧(Y ≠ s_.1)∧(s_.1 ≠ Y)∧(s_.2 ≠ s_.1)∧(s_.1 ≠ s_.2)∧(w.heap.size ≤ s_.2)∧(w.heap.size ≤ s_.2)∧(G ≠ s_.2)∧(s_.2 ≠ G)∧(I ≠ s_.2)∧(s_.2 ≠ I)∧(X ≠ s_.2)∧(s_.2 ≠ X)∧(Y ≠ s_.2)∧(s_.2 ≠ Y)∧(Below w.heap.size w w')) ?_ ?_;rotate_left
              ·
               intro m4;refine join_ (σ:=Unit) 9 #[y_,y_,y_,n_,n_,n_,n_,n_,n_,n_,n_,n_] (fun s_=>[(27,.agg #[.int .i64 e2,.int .i64 e3,.int .i64 e4,.int .i64 e5])]) (fun s_ w'=>(w'.cell? ⟨G,0,none⟩=some (.int .i64 b9)∧w'.cell? ⟨G,1,none⟩=some (.int .i64 c0)∧w'.cell? ⟨G,2,none⟩=some (.int .i64 c1)∧w'.cell? ⟨G,3,none⟩=some (.int .i64 c2)∧w'.cell? ⟨I,0,none⟩=some (.int .i64 b5)∧w'.cell? ⟨I,1,none⟩=some (.int .i64 b6)∧w'.cell? ⟨I,2,none⟩=some (.int .i64 b7)∧w'.cell? ⟨I,3,none⟩=some (.int .i64 b8))∧(Kd.R k23 23 w' w.heap.size (fun k_=>k_ ≠ G∧k_ ≠ I∧k_ ≠ X∧k_ ≠ Y) (.slice f5 d3.length f6) d3)∧(Q4_ w' G b9 c0 c1 c2 23)∧(Q4_ w' I b5 b6 b7 b8 23)∧(Q4_ w' X 0 0 0 0 23)∧(Q4_ w' Y 0 0 0 0 23)∧(Below w.heap.size w w')) ?_ ?_;rotate_left
               ·
                intro I4;refine join_ (σ:=Nat) 9 #[y_,n_,y_,n_,n_,n_,n_,n_,y_,n_,n_,n_] (fun s_=>[(8,.pointer (some ⟨s_,0,none⟩))]) (fun s_ w'=>(w'.cell? ⟨G,0,none⟩=some (.int .i64 b9)∧w'.cell? ⟨G,1,none⟩=some (.int .i64 c0)∧w'.cell? ⟨G,2,none⟩=some (.int .i64 c1)∧w'.cell? ⟨G,3,none⟩=some (.int .i64 c2)∧w'.cell? ⟨I,0,none⟩=some (.int .i64 b5)∧w'.cell? ⟨I,1,none⟩=some (.int .i64 b6)∧w'.cell? ⟨I,2,none⟩=some (.int .i64 b7)∧w'.cell? ⟨I,3,none⟩=some (.int .i64 b8))∧(Kd.R k23 23 w' w.heap.size (fun k_=>k_ ≠ G∧k_ ≠ I∧k_ ≠ X∧k_ ≠ Y) (.slice f5 d3.length f6) d3)∧(Q4_ w' G b9 c0 c1 c2 23)∧(Q4_ w' I b5 b6 b7 b8 23)∧(Q4_ w' X 0 0 0 0 23)∧(Q4_ w' Y 0 0 0 0 23)∧(Q4_ w' s_ 0 0 0 0 67)∧(w.heap.size ≤ s_)∧(w.heap.size ≤ s_)∧(G ≠ s_)∧(s_ ≠ G)∧(I ≠ s_)∧(s_ ≠ I)∧(X ≠ s_)∧(s_ ≠ X)∧(Y ≠ s_)∧(s_ ≠ Y)∧(Below w.heap.size w w')) ?_ ?_;rotate_left
                ·
                 intro I5;refine join_ (σ:=Nat) 9 #[y_,n_,y_,n_,n_,n_,n_,n_,n_,y_,n_,n_] (fun s_=>[(9,.pointer (some ⟨s_,0,none⟩))]) (fun s_ w'=>(w'.cell? ⟨G,0,none⟩=some (.int .i64 b9)∧w'.cell? ⟨G,1,none⟩=some (.int .i64 c0)∧w'.cell? ⟨G,2,none⟩=some (.int .i64 c1)∧w'.cell? ⟨G,3,none⟩=some (.int .i64 c2)∧w'.cell? ⟨I,0,none⟩=some (.int .i64 b5)∧w'.cell? ⟨I,1,none⟩=some (.int .i64 b6)∧w'.cell? ⟨I,2,none⟩=some (.int .i64 b7)∧w'.cell? ⟨I,3,none⟩=some (.int .i64 b8))∧(Kd.R k23 23 w' w.heap.size (fun k_=>k_ ≠ G∧k_ ≠ I∧k_ ≠ X∧k_ ≠ Y) (.slice f5 d3.length f6) d3)∧(Q4_ w' G b9 c0 c1 c2 23)∧(Q4_ w' I b5 b6 b7 b8 23)∧(Q4_ w' X 0 0 0 0 23)∧(Q4_ w' Y 0 0 0 0 23)∧(Q4_ w' s_ 0 0 0 0 67)∧(w.heap.size ≤ s_)∧(w.heap.size ≤ s_)∧(G ≠ s_)∧(s_ ≠ G)∧(I ≠ s_)∧(s_ ≠ I)∧(X ≠ s_)∧(s_ ≠ X)∧(Y ≠ s_)∧(s_ ≠ Y)∧(Below w.heap.size w w')) ?_ ?_;rotate_left
                 ·
                  intro I6;refine three_ (i:=1) (j:=8) (k:=9) (Ni:=some 27) (Nj:=some 8) (Nk:=some 9) #[y_,y_,y_,n_,n_,n_,n_,n_,n_,n_,n_,n_] #[y_,n_,y_,n_,n_,n_,n_,n_,y_,n_,n_,n_] #[y_,n_,y_,n_,n_,n_,n_,n_,n_,y_,n_,n_] rfl rfl rfl rfl rfl rfl (three_of e6.1 (by kernel_rfl)) (by decide) (by decide) (by decide) (fun K hK=>?_) (fun K hK=>?_) (fun K hK=>?_)
                  ·
                   skip
                   refine goes_ Try.func48 (by kernel_rfl) rfl #[.agg #[.int .i64 b9,.int .i64 c0,.int .i64 c1,.int .i64 c2]] (by rfl) rfl rfl (by (try simp only [m0_,m1_,m2_]);first|done|rfl|(simp only [l0_,l1_];rfl)) ?_;with_reducible refine (norm_of.calls b9 c0 c1 c2 e2 e3 e4 e5 _ l9.1).mono ?_
                   rintro e p5 ⟨rfl,hb⟩;refine ⟨_,rfl,?_⟩;replace F:=rbl F hb;replace C:=bkb C hb;replace B:=bkb B hb;replace D:=bkb D hb;replace E:=bkb E hb;replace Q:=bst Q hb;(try clear hb);refine hK.out _ _ ⟨q0_ C,q1_ C,q2_ C,q3_ C,q0_ B,q1_ B,q2_ B,q3_ B⟩ (fun J=>?_);clear hK K;refine norm_ (a':=?_) ?_ ?_;rotate_left
                   ·
                    show Act.put _ (some 27) _=_;simp only [Act.put,s0_,s1_,s2_,i64_w,i32_w];rfl
                   exact norm_ (by simp only [putAll,Act.put,s0_,s1_,s2_] <;> rfl) (I4 () _ ⟨J,(by (with_reducible repeat (first|apply Kd.R_alloc|apply Kd.R_drewN|apply Kd.R_drew));exact Kd.R_mono F.1 (fun _ hk=>⟨hk.1.1.1.2,⟨hk.1.1.2,⟨hk.1.2,hk.2⟩⟩⟩)),C.1,B.1,D.1,E.1,Q.1⟩)
                  ·
                   skip
                   refine box_step ?hg (N:=8) ?hd (cs:=#[.int .i64 0,.int .i64 0,.int .i64 0,.int .i64 0]) (t:=67) ?hr ?_;(case hd=>rfl);(case hg=>rfl);(case hr=>first|(go_simp;done)|(go_simp;rfl));intro T hg p5 a7 hb;have L:=mk0 (a7);have d1:=szw hg Q;have c9:=szw hg Q;have Z:=nlt hg C;have b1:=ngt hg C;have a0:=nlt hg B;have b2:=ngt hg B;have a8:=nlt hg D;have a1:=ngt hg D;have a9:=nlt hg E;have a2:=ngt hg E;replace F:=rbl F hb;replace C:=bkb C hb;replace B:=bkb B hb;replace D:=bkb D hb;replace E:=bkb E hb;replace Q:=bst Q hb;clear hb a7 hg;refine hK.out _ _ ⟨q0_ C,q1_ C,q2_ C,q3_ C,q0_ B,q1_ B,q2_ B,q3_ B⟩ (fun J=>?_);clear hK K;refine norm_ (a':=?_) ?_ ?_;rotate_left
                   ·
                    show Act.put _ (some 8) _=_;simp only [Act.put,s0_,s1_,s2_,i64_w,i32_w];rfl
                   exact norm_ (by simp only [putAll,Act.put,s0_,s1_,s2_] <;> rfl) (I5 (T) _ ⟨J,(by (with_reducible repeat (first|apply Kd.R_alloc|apply Kd.R_drewN|apply Kd.R_drew));exact Kd.R_mono F.1 (fun _ hk=>⟨hk.1.1.1.2,⟨hk.1.1.2,⟨hk.1.2,hk.2⟩⟩⟩)),C.1,B.1,D.1,E.1,L.1,d1.1,c9.1,Z.1,b1.1,a0.1,b2.1,a8.1,a1.1,a9.1,a2.1,Q.1⟩)
                  ·
                   skip
                   refine box_step ?hg (N:=9) ?hd (cs:=#[.int .i64 0,.int .i64 0,.int .i64 0,.int .i64 0]) (t:=67) ?hr ?_;(case hd=>rfl);(case hg=>rfl);(case hr=>first|(go_simp;done)|(go_simp;rfl));intro U hg p5 a7 hb;have O:=mk0 (a7);have d2:=szw hg Q;have d0:=szw hg Q;have a3:=nlt hg C;have b3:=ngt hg C;have a4:=nlt hg B;have b4:=ngt hg B;have b0:=nlt hg D;have a5:=ngt hg D;have a6:=nlt hg E;have V:=ngt hg E;replace F:=rbl F hb;replace C:=bkb C hb;replace B:=bkb B hb;replace D:=bkb D hb;replace E:=bkb E hb;replace Q:=bst Q hb;clear hb a7 hg;refine hK.out _ _ ⟨q0_ C,q1_ C,q2_ C,q3_ C,q0_ B,q1_ B,q2_ B,q3_ B⟩ (fun J=>?_);clear hK K;refine norm_ (a':=?_) ?_ ?_;rotate_left
                   ·
                    show Act.put _ (some 9) _=_;simp only [Act.put,s0_,s1_,s2_,i64_w,i32_w];rfl
                   exact norm_ (by simp only [putAll,Act.put,s0_,s1_,s2_] <;> rfl) (I6 (U) _ ⟨J,(by (with_reducible repeat (first|apply Kd.R_alloc|apply Kd.R_drewN|apply Kd.R_drew));exact Kd.R_mono F.1 (fun _ hk=>⟨hk.1.1.1.2,⟨hk.1.1.2,⟨hk.1.2,hk.2⟩⟩⟩)),C.1,B.1,D.1,E.1,O.1,d2.1,d0.1,a3.1,b3.1,a4.1,b4.1,b0.1,a5.1,a6.1,V.1,Q.1⟩)
                 ·
                  skip
                  clear F C B D E Q;rintro U p6 c8;replace c8:=h_ (m4_ (m4_ (m4_ (m4_ l_)))) c8;obtain ⟨f0,F,C,B,D,E,O,d2,d0,a3,b3,a4,b4,b0,a5,a6,V,Q⟩:=c8;have J:=f0;refine norm_ (a':=?_) ?_ ?_;rotate_left
                  ·
                   simp only [putAll,Act.put,s0_,s1_,s2_];rfl
                  refine two_ (i:=1) (j:=8) (Ni:=some 27) (Nj:=some 8) #[y_,y_,y_,n_,n_,n_,n_,n_,n_,y_,n_,n_] #[y_,n_,y_,n_,n_,n_,n_,n_,y_,y_,n_,n_] rfl rfl rfl rfl (two_of e6.1 (by kernel_rfl)) (by decide) (by decide) (fun K hK=>?_) (fun K hK=>?_)
                  ·
                   skip
                   refine goes_ Try.func48 (by kernel_rfl) rfl #[.agg #[.int .i64 b9,.int .i64 c0,.int .i64 c1,.int .i64 c2]] (by rfl) rfl rfl (by (try simp only [m0_,m1_,m2_]);first|done|rfl|(simp only [l0_,l1_];rfl)) ?_;with_reducible refine (norm_of.calls b9 c0 c1 c2 e2 e3 e4 e5 _ l9.1).mono ?_
                   rintro e i6 ⟨rfl,hb⟩;refine ⟨_,rfl,?_⟩;replace F:=rbl F hb;replace C:=bkb C hb;replace B:=bkb B hb;replace D:=bkb D hb;replace E:=bkb E hb;replace O:=bkb O hb;replace Q:=bst Q hb;(try clear hb);(try clear hk);refine hK.out _ _ ⟨q0_ C,q1_ C,q2_ C,q3_ C,q0_ B,q1_ B,q2_ B,q3_ B⟩ (fun J=>?_);clear hK K;refine norm_ (a':=?_) ?_ ?_;rotate_left
                   ·
                    show Act.put _ (some 27) _=_;simp only [Act.put,s0_,s1_,s2_,i64_w,i32_w];rfl
                   exact norm_ (by simp only [putAll,Act.put,s0_,s1_,s2_] <;> rfl) (m3 (U) _ ⟨J,F.1,C.1,B.1,D.1,E.1,O.1,d2.1,d0.1,a3.1,b3.1,a4.1,b4.1,b0.1,a5.1,a6.1,V.1,Q.1⟩)
                  ·
                   skip
                   refine box_step ?hg (N:=8) ?hd (cs:=#[.int .i64 0,.int .i64 0,.int .i64 0,.int .i64 0]) (t:=67) ?hr ?_;(case hd=>rfl);(case hg=>rfl);(case hr=>first|(go_simp;done)|(go_simp;rfl));intro T hg i6 a7 hb;have L:=mk0 (a7);have d1:=szw hg Q;have c9:=szw hg Q;have Z:=nlt hg C;have b1:=ngt hg C;have a0:=nlt hg B;have b2:=ngt hg B;have a8:=nlt hg D;have a1:=ngt hg D;have a9:=nlt hg E;have a2:=ngt hg E;have c3:=nlt hg O;have c5:=ngt hg O;replace F:=rbl F hb;replace C:=bkb C hb;replace B:=bkb B hb;replace D:=bkb D hb;replace E:=bkb E hb;replace O:=bkb O hb;replace Q:=bst Q hb;clear hb a7 hg;refine hK.out _ _ ⟨q0_ C,q1_ C,q2_ C,q3_ C,q0_ B,q1_ B,q2_ B,q3_ B⟩ (fun J=>?_);clear hK K;refine norm_ (a':=?_) ?_ ?_;rotate_left
                   ·
                    show Act.put _ (some 8) _=_;simp only [Act.put,s0_,s1_,s2_,i64_w,i32_w];rfl
                   exact norm_ (by simp only [putAll,Act.put,s0_,s1_,s2_] <;> rfl) (m4 (T,U) _ ⟨J,F.1,C.1,B.1,D.1,E.1,L.1,O.1,d1.1,c9.1,Z.1,b1.1,a0.1,b2.1,a8.1,a1.1,a9.1,a2.1,c3.1,c5.1,d2.1,d0.1,a3.1,b3.1,a4.1,b4.1,b0.1,a5.1,a6.1,V.1,Q.1⟩)
                ·
                 skip
                 clear F C B D E Q;rintro T p6 c8;replace c8:=h_ (m4_ (m4_ (m4_ (m4_ l_)))) c8;obtain ⟨f0,F,C,B,D,E,L,d1,c9,Z,b1,a0,b2,a8,a1,a9,a2,Q⟩:=c8;have J:=f0;refine norm_ (a':=?_) ?_ ?_;rotate_left
                 ·
                  simp only [putAll,Act.put,s0_,s1_,s2_];rfl
                 refine two_ (i:=1) (j:=9) (Ni:=some 27) (Nj:=some 9) #[y_,y_,y_,n_,n_,n_,n_,n_,y_,n_,n_,n_] #[y_,n_,y_,n_,n_,n_,n_,n_,y_,y_,n_,n_] rfl rfl rfl rfl (two_of e6.1 (by kernel_rfl)) (by decide) (by decide) (fun K hK=>?_) (fun K hK=>?_)
                 ·
                  skip
                  refine goes_ Try.func48 (by kernel_rfl) rfl #[.agg #[.int .i64 b9,.int .i64 c0,.int .i64 c1,.int .i64 c2]] (by rfl) rfl rfl (by (try simp only [m0_,m1_,m2_]);first|done|rfl|(simp only [l0_,l1_];rfl)) ?_;with_reducible refine (norm_of.calls b9 c0 c1 c2 e2 e3 e4 e5 _ l9.1).mono ?_
                  rintro e i6 ⟨rfl,hb⟩;refine ⟨_,rfl,?_⟩;replace F:=rbl F hb;replace C:=bkb C hb;replace B:=bkb B hb;replace D:=bkb D hb;replace E:=bkb E hb;replace L:=bkb L hb;replace Q:=bst Q hb;(try clear hb);refine hK.out _ _ ⟨q0_ C,q1_ C,q2_ C,q3_ C,q0_ B,q1_ B,q2_ B,q3_ B⟩ (fun J=>?_);clear hK K;refine norm_ (a':=?_) ?_ ?_;rotate_left
                  ·
                   show Act.put _ (some 27) _=_;simp only [Act.put,s0_,s1_,s2_,i64_w,i32_w];rfl
                  exact norm_ (by simp only [putAll,Act.put,s0_,s1_,s2_] <;> rfl) (m2 (T) _ ⟨J,F.1,C.1,B.1,D.1,E.1,L.1,d1.1,c9.1,Z.1,b1.1,a0.1,b2.1,a8.1,a1.1,a9.1,a2.1,Q.1⟩)
                 ·
                  skip
                  refine box_step ?hg (N:=9) ?hd (cs:=#[.int .i64 0,.int .i64 0,.int .i64 0,.int .i64 0]) (t:=67) ?hr ?_;(case hd=>rfl);(case hg=>rfl);(case hr=>first|(go_simp;done)|(go_simp;rfl));intro U hg i6 a7 hb;have O:=mk0 (a7);have d2:=szw hg Q;have d0:=szw hg Q;have a3:=nlt hg C;have b3:=ngt hg C;have a4:=nlt hg B;have b4:=ngt hg B;have b0:=nlt hg D;have a5:=ngt hg D;have a6:=nlt hg E;have V:=ngt hg E;have c5:=nlt hg L;have c3:=ngt hg L;replace F:=rbl F hb;replace C:=bkb C hb;replace B:=bkb B hb;replace D:=bkb D hb;replace E:=bkb E hb;replace L:=bkb L hb;replace Q:=bst Q hb;clear hb a7 hg;refine hK.out _ _ ⟨q0_ C,q1_ C,q2_ C,q3_ C,q0_ B,q1_ B,q2_ B,q3_ B⟩ (fun J=>?_);clear hK K;refine norm_ (a':=?_) ?_ ?_;rotate_left
                  ·
                   show Act.put _ (some 9) _=_;simp only [Act.put,s0_,s1_,s2_,i64_w,i32_w];rfl
                  exact norm_ (by simp only [putAll,Act.put,s0_,s1_,s2_] <;> rfl) (m4 (T,U) _ ⟨J,F.1,C.1,B.1,D.1,E.1,L.1,O.1,d1.1,c9.1,Z.1,b1.1,a0.1,b2.1,a8.1,a1.1,a9.1,a2.1,c3.1,c5.1,d2.1,d0.1,a3.1,b3.1,a4.1,b4.1,b0.1,a5.1,a6.1,V.1,Q.1⟩)
               ·
                skip
                clear F C B D E Q;rintro _ p6 c8;replace c8:=h_ (m4_ (m_ l_)) c8;obtain ⟨f0,F,C,B,D,E,Q⟩:=c8;have J:=f0;refine norm_ (a':=?_) ?_ ?_;rotate_left
                ·
                 simp only [putAll,Act.put,s0_,s1_,s2_];rfl
                refine three_ (i:=3) (j:=8) (k:=9) (Ni:=some 29) (Nj:=some 8) (Nk:=some 9) #[y_,y_,y_,y_,n_,n_,n_,n_,n_,n_,n_,n_] #[y_,y_,y_,n_,n_,n_,n_,n_,y_,n_,n_,n_] #[y_,y_,y_,n_,n_,n_,n_,n_,n_,y_,n_,n_] rfl rfl rfl rfl rfl rfl (three_of e6.1 (by kernel_rfl)) (by decide) (by decide) (by decide) (fun K hK=>?_) (fun K hK=>?_) (fun K hK=>?_)
                ·
                 skip
                 refine goes_ Try.func48 (by kernel_rfl) rfl #[.agg #[.int .i64 b5,.int .i64 b6,.int .i64 b7,.int .i64 b8]] (by rfl) rfl rfl (by (try simp only [m0_,m1_,m2_]);first|done|rfl|(simp only [l0_,l1_];rfl)) ?_;with_reducible refine (norm_of.calls b5 b6 b7 b8 f1 f2 f3 f4 _ m0.1).mono ?_
                 rintro e i6 ⟨rfl,hb⟩;refine ⟨_,rfl,?_⟩;replace F:=rbl F hb;replace C:=bkb C hb;replace B:=bkb B hb;replace D:=bkb D hb;replace E:=bkb E hb;replace Q:=bst Q hb;(try clear hb);refine hK.out _ _ ⟨q0_ C,q1_ C,q2_ C,q3_ C,q0_ B,q1_ B,q2_ B,q3_ B⟩ (fun J=>?_);clear hK K;refine norm_ (a':=?_) ?_ ?_;rotate_left
                 ·
                  show Act.put _ (some 29) _=_;simp only [Act.put,s0_,s1_,s2_,i64_w,i32_w];rfl
                 exact norm_ (by simp only [putAll,Act.put,s0_,s1_,s2_] <;> rfl) (p2 () _ ⟨J,F.1,C.1,B.1,D.1,E.1,Q.1⟩)
                ·
                 skip
                 refine box_step ?hg (N:=8) ?hd (cs:=#[.int .i64 0,.int .i64 0,.int .i64 0,.int .i64 0]) (t:=67) ?hr ?_;(case hd=>rfl);(case hg=>rfl);(case hr=>first|(go_simp;done)|(go_simp;rfl));intro T hg i6 a7 hb;have L:=mk0 (a7);have d1:=szw hg Q;have c9:=szw hg Q;have Z:=nlt hg C;have b1:=ngt hg C;have a0:=nlt hg B;have b2:=ngt hg B;have a8:=nlt hg D;have a1:=ngt hg D;have a9:=nlt hg E;have a2:=ngt hg E;replace F:=rbl F hb;replace C:=bkb C hb;replace B:=bkb B hb;replace D:=bkb D hb;replace E:=bkb E hb;replace Q:=bst Q hb;clear hb a7 hg;refine hK.out _ _ ⟨q0_ C,q1_ C,q2_ C,q3_ C,q0_ B,q1_ B,q2_ B,q3_ B⟩ (fun J=>?_);clear hK K;refine norm_ (a':=?_) ?_ ?_;rotate_left
                 ·
                  show Act.put _ (some 8) _=_;simp only [Act.put,s0_,s1_,s2_,i64_w,i32_w];rfl
                 exact norm_ (by simp only [putAll,Act.put,s0_,s1_,s2_] <;> rfl) (m2 (T) _ ⟨J,F.1,C.1,B.1,D.1,E.1,L.1,d1.1,c9.1,Z.1,b1.1,a0.1,b2.1,a8.1,a1.1,a9.1,a2.1,Q.1⟩)
                ·
                 skip
                 refine box_step ?hg (N:=9) ?hd (cs:=#[.int .i64 0,.int .i64 0,.int .i64 0,.int .i64 0]) (t:=67) ?hr ?_;(case hd=>rfl);(case hg=>rfl);(case hr=>first|(go_simp;done)|(go_simp;rfl));intro U hg i6 a7 hb;have O:=mk0 (a7);have d2:=szw hg Q;have d0:=szw hg Q;have a3:=nlt hg C;have b3:=ngt hg C;have a4:=nlt hg B;have b4:=ngt hg B;have b0:=nlt hg D;have a5:=ngt hg D;have a6:=nlt hg E;have V:=ngt hg E;replace F:=rbl F hb;replace C:=bkb C hb;replace B:=bkb B hb;replace D:=bkb D hb;replace E:=bkb E hb;replace Q:=bst Q hb;clear hb a7 hg;refine hK.out _ _ ⟨q0_ C,q1_ C,q2_ C,q3_ C,q0_ B,q1_ B,q2_ B,q3_ B⟩ (fun J=>?_);clear hK K;refine norm_ (a':=?_) ?_ ?_;rotate_left
                 ·
                  show Act.put _ (some 9) _=_;simp only [Act.put,s0_,s1_,s2_,i64_w,i32_w];rfl
                 exact norm_ (by simp only [putAll,Act.put,s0_,s1_,s2_] <;> rfl) (m3 (U) _ ⟨J,F.1,C.1,B.1,D.1,E.1,O.1,d2.1,d0.1,a3.1,b3.1,a4.1,b4.1,b0.1,a5.1,a6.1,V.1,Q.1⟩)
              ·
               skip
               clear F C B D E Q;rintro ⟨T,U⟩ i6 c8;(try dsimp only at c8);replace c8:=h_ (m4_ (m4_ (m4_ (m4_ (m4_ (m4_ (m4_ (m_ l_)))))))) c8;obtain ⟨f0,F,C,B,D,E,L,O,d1,c9,Z,b1,a0,b2,a8,a1,a9,a2,c3,c5,d2,d0,a3,b3,a4,b4,b0,a5,a6,V,Q⟩:=c8;have J:=f0;refine norm_ (a':=?_) ?_ ?_;rotate_left
               ·
                simp only [putAll,Act.put,s0_,s1_,s2_];rfl
               refine one_ (i:=1) (N:=some 27) #[y_,y_,y_,n_,n_,n_,n_,n_,y_,y_,n_,n_] rfl rfl (one_of e6.1 (by kernel_rfl)) (by decide) (fun K hK=>?_);refine goes_ Try.func48 (by kernel_rfl) rfl #[.agg #[.int .i64 b9,.int .i64 c0,.int .i64 c1,.int .i64 c2]] (by rfl) rfl rfl (by (try simp only [m0_,m1_,m2_]);first|done|rfl|(simp only [l0_,l1_];rfl)) ?_;with_reducible refine (norm_of.calls b9 c0 c1 c2 e2 e3 e4 e5 _ l9.1).mono ?_
               rintro e i0 ⟨rfl,hb⟩;refine ⟨_,rfl,?_⟩;replace F:=rbl F hb;replace C:=bkb C hb;replace B:=bkb B hb;replace D:=bkb D hb;replace E:=bkb E hb;replace L:=bkb L hb;replace O:=bkb O hb;replace Q:=bst Q hb;(try clear hb);refine hK.out _ _ ⟨q0_ C,q1_ C,q2_ C,q3_ C,q0_ B,q1_ B,q2_ B,q3_ B⟩ (fun J=>?_);clear hK K;refine norm_ (a':=?_) ?_ ?_;rotate_left
               ·
                show Act.put _ (some 27) _=_;simp only [Act.put,s0_,s1_,s2_,i64_w,i32_w];rfl
               exact norm_ (by simp only [putAll,Act.put,s0_,s1_,s2_] <;> rfl) (j4 (T,U) _ ⟨J,F.1,C.1,B.1,D.1,E.1,L.1,O.1,d1.1,c9.1,Z.1,b1.1,a0.1,b2.1,a8.1,a1.1,a9.1,a2.1,c3.1,c5.1,d2.1,d0.1,a3.1,b3.1,a4.1,b4.1,b0.1,a5.1,a6.1,V.1,Q.1⟩)
             ·
              skip
              clear F C B D E Q;rintro U i6 c8;replace c8:=h_ (m4_ (m4_ (m4_ (m4_ l_)))) c8;obtain ⟨f0,F,C,B,D,E,O,d2,d0,a3,b3,a4,b4,b0,a5,a6,V,Q⟩:=c8;have J:=f0;refine norm_ (a':=?_) ?_ ?_;rotate_left
              ·
               simp only [putAll,Act.put,s0_,s1_,s2_];rfl
              refine two_ (i:=3) (j:=8) (Ni:=some 29) (Nj:=some 8) #[y_,y_,y_,y_,n_,n_,n_,n_,n_,y_,n_,n_] #[y_,y_,y_,n_,n_,n_,n_,n_,y_,y_,n_,n_] rfl rfl rfl rfl (two_of e6.1 (by kernel_rfl)) (by decide) (by decide) (fun K hK=>?_) (fun K hK=>?_)
              ·
               skip
               refine goes_ Try.func48 (by kernel_rfl) rfl #[.agg #[.int .i64 b5,.int .i64 b6,.int .i64 b7,.int .i64 b8]] (by rfl) rfl rfl (by (try simp only [m0_,m1_,m2_]);first|done|rfl|(simp only [l0_,l1_];rfl)) ?_;with_reducible refine (norm_of.calls b5 b6 b7 b8 f1 f2 f3 f4 _ m0.1).mono ?_
               rintro e i0 ⟨rfl,hb⟩;refine ⟨_,rfl,?_⟩;replace F:=rbl F hb;replace C:=bkb C hb;replace B:=bkb B hb;replace D:=bkb D hb;replace E:=bkb E hb;replace O:=bkb O hb;replace Q:=bst Q hb;(try clear hb);refine hK.out _ _ ⟨q0_ C,q1_ C,q2_ C,q3_ C,q0_ B,q1_ B,q2_ B,q3_ B⟩ (fun J=>?_);clear hK K;refine norm_ (a':=?_) ?_ ?_;rotate_left
               ·
                show Act.put _ (some 29) _=_;simp only [Act.put,s0_,s1_,s2_,i64_w,i32_w];rfl
               exact norm_ (by simp only [putAll,Act.put,s0_,s1_,s2_] <;> rfl) (l3 (U) _ ⟨J,F.1,C.1,B.1,D.1,E.1,O.1,d2.1,d0.1,a3.1,b3.1,a4.1,b4.1,b0.1,a5.1,a6.1,V.1,Q.1⟩)
              ·
               skip
               refine box_step ?hg (N:=8) ?hd (cs:=#[.int .i64 0,.int .i64 0,.int .i64 0,.int .i64 0]) (t:=67) ?hr ?_;(case hd=>rfl);(case hg=>rfl);(case hr=>first|(go_simp;done)|(go_simp;rfl));intro T hg i0 a7 hb;have L:=mk0 (a7);have d1:=szw hg Q;have c9:=szw hg Q;have Z:=nlt hg C;have b1:=ngt hg C;have a0:=nlt hg B;have b2:=ngt hg B;have a8:=nlt hg D;have a1:=ngt hg D;have a9:=nlt hg E;have a2:=ngt hg E;have c3:=nlt hg O;have c5:=ngt hg O;replace F:=rbl F hb;replace C:=bkb C hb;replace B:=bkb B hb;replace D:=bkb D hb;replace E:=bkb E hb;replace O:=bkb O hb;replace Q:=bst Q hb;clear hb a7 hg;refine hK.out _ _ ⟨q0_ C,q1_ C,q2_ C,q3_ C,q0_ B,q1_ B,q2_ B,q3_ B⟩ (fun J=>?_);clear hK K;refine norm_ (a':=?_) ?_ ?_;rotate_left
               ·
                show Act.put _ (some 8) _=_;simp only [Act.put,s0_,s1_,s2_,i64_w,i32_w];rfl
               exact norm_ (by simp only [putAll,Act.put,s0_,s1_,s2_] <;> rfl) (j4 (T,U) _ ⟨J,F.1,C.1,B.1,D.1,E.1,L.1,O.1,d1.1,c9.1,Z.1,b1.1,a0.1,b2.1,a8.1,a1.1,a9.1,a2.1,c3.1,c5.1,d2.1,d0.1,a3.1,b3.1,a4.1,b4.1,b0.1,a5.1,a6.1,V.1,Q.1⟩)
            ·
             skip
             clear F C B D E Q;rintro T i6 c8;replace c8:=h_ (m4_ (m4_ (m4_ (m4_ l_)))) c8;obtain ⟨f0,F,C,B,D,E,L,d1,c9,Z,b1,a0,b2,a8,a1,a9,a2,Q⟩:=c8;have J:=f0;refine norm_ (a':=?_) ?_ ?_;rotate_left
             ·
              simp only [putAll,Act.put,s0_,s1_,s2_];rfl
             refine two_ (i:=3) (j:=9) (Ni:=some 29) (Nj:=some 9) #[y_,y_,y_,y_,n_,n_,n_,n_,y_,n_,n_,n_] #[y_,y_,y_,n_,n_,n_,n_,n_,y_,y_,n_,n_] rfl rfl rfl rfl (two_of e6.1 (by kernel_rfl)) (by decide) (by decide) (fun K hK=>?_) (fun K hK=>?_)
             ·
              skip
              refine goes_ Try.func48 (by kernel_rfl) rfl #[.agg #[.int .i64 b5,.int .i64 b6,.int .i64 b7,.int .i64 b8]] (by rfl) rfl rfl (by (try simp only [m0_,m1_,m2_]);first|done|rfl|(simp only [l0_,l1_];rfl)) ?_;with_reducible refine (norm_of.calls b5 b6 b7 b8 f1 f2 f3 f4 _ m0.1).mono ?_
              rintro e i0 ⟨rfl,hb⟩;refine ⟨_,rfl,?_⟩;replace F:=rbl F hb;replace C:=bkb C hb;replace B:=bkb B hb;replace D:=bkb D hb;replace E:=bkb E hb;replace L:=bkb L hb;replace Q:=bst Q hb;(try clear hb);refine hK.out _ _ ⟨q0_ C,q1_ C,q2_ C,q3_ C,q0_ B,q1_ B,q2_ B,q3_ B⟩ (fun J=>?_);clear hK K;refine norm_ (a':=?_) ?_ ?_;rotate_left
              ·
               show Act.put _ (some 29) _=_;simp only [Act.put,s0_,s1_,s2_,i64_w,i32_w];rfl
              exact norm_ (by simp only [putAll,Act.put,s0_,s1_,s2_] <;> rfl) (l2 (T) _ ⟨J,F.1,C.1,B.1,D.1,E.1,L.1,d1.1,c9.1,Z.1,b1.1,a0.1,b2.1,a8.1,a1.1,a9.1,a2.1,Q.1⟩)
             ·
              skip
              refine box_step ?hg (N:=9) ?hd (cs:=#[.int .i64 0,.int .i64 0,.int .i64 0,.int .i64 0]) (t:=67) ?hr ?_;(case hd=>rfl);(case hg=>rfl);(case hr=>first|(go_simp;done)|(go_simp;rfl));intro U hg i0 a7 hb;have O:=mk0 (a7);have d2:=szw hg Q;have d0:=szw hg Q;have a3:=nlt hg C;have b3:=ngt hg C;have a4:=nlt hg B;have b4:=ngt hg B;have b0:=nlt hg D;have a5:=ngt hg D;have a6:=nlt hg E;have V:=ngt hg E;have c5:=nlt hg L;have c3:=ngt hg L;replace F:=rbl F hb;replace C:=bkb C hb;replace B:=bkb B hb;replace D:=bkb D hb;replace E:=bkb E hb;replace L:=bkb L hb;replace Q:=bst Q hb;clear hb a7 hg;refine hK.out _ _ ⟨q0_ C,q1_ C,q2_ C,q3_ C,q0_ B,q1_ B,q2_ B,q3_ B⟩ (fun J=>?_);clear hK K;refine norm_ (a':=?_) ?_ ?_;rotate_left
              ·
               show Act.put _ (some 9) _=_;simp only [Act.put,s0_,s1_,s2_,i64_w,i32_w];rfl
              exact norm_ (by simp only [putAll,Act.put,s0_,s1_,s2_] <;> rfl) (j4 (T,U) _ ⟨J,F.1,C.1,B.1,D.1,E.1,L.1,O.1,d1.1,c9.1,Z.1,b1.1,a0.1,b2.1,a8.1,a1.1,a9.1,a2.1,c3.1,c5.1,d2.1,d0.1,a3.1,b3.1,a4.1,b4.1,b0.1,a5.1,a6.1,V.1,Q.1⟩)
           ·
            skip
            clear F C B D E Q;rintro _ i6 c8;replace c8:=h_ (m4_ (m_ l_)) c8;obtain ⟨f0,F,C,B,D,E,Q⟩:=c8;have J:=f0;refine norm_ (a':=?_) ?_ ?_;rotate_left
            ·
             simp only [putAll,Act.put,s0_,s1_,s2_];rfl
            refine three_ (i:=4) (j:=8) (k:=9) (Ni:=some 30) (Nj:=some 8) (Nk:=some 9) #[y_,y_,y_,y_,y_,n_,n_,n_,n_,n_,n_,n_] #[y_,y_,y_,y_,n_,n_,n_,n_,y_,n_,n_,n_] #[y_,y_,y_,y_,n_,n_,n_,n_,n_,y_,n_,n_] rfl rfl rfl rfl rfl rfl (three_of e6.1 (by kernel_rfl)) (by decide) (by decide) (by decide) (fun K hK=>?_) (fun K hK=>?_) (fun K hK=>?_)
            ·
             skip
             refine goes_ Try.func49 (by kernel_rfl) rfl #[.agg #[.int .i64 e2,.int .i64 e3,.int .i64 e4,.int .i64 e5],.agg #[.int .i64 f1,.int .i64 f2,.int .i64 f3,.int .i64 f4]] (by rfl) rfl rfl (by (try simp only [m0_,m1_,m2_]);first|done|rfl|(simp only [l0_,l1_];rfl)) ?_;with_reducible refine (norm_divide.calls k e2 e3 e4 e5 f1 f2 f3 f4 d4 d6 d8 e0 d5 d7 d9 e1 _ m1.1).mono ?_
             rintro e i0 ⟨rfl,hb⟩;refine ⟨_,rfl,?_⟩;replace F:=rbl F hb;replace C:=bkb C hb;replace B:=bkb B hb;replace D:=bkb D hb;replace E:=bkb E hb;replace Q:=bst Q hb;(try clear hb);refine hK.out _ _ ⟨q0_ C,q1_ C,q2_ C,q3_ C,q0_ B,q1_ B,q2_ B,q3_ B⟩ (fun J=>?_);clear hK K;refine norm_ (a':=?_) ?_ ?_;rotate_left
             ·
              show Act.put _ (some 30) _=_;simp only [Act.put,s0_,s1_,s2_,i64_w,i32_w];rfl
             refine pure_ (i:=5) (N:=some 25) (v:=?_) (a':=?_) #[y_,y_,y_,y_,y_,y_,n_,n_,n_,n_,n_,n_] rfl rfl (any_of e6.1 (by kernel_rfl)) (fun _ _ _ h=>h) (Or.inl ⟨by rfl,?_⟩) ?_ ?_;rotate_left
             ·
              intro w';go_simp;with_reducible rfl
             rotate_left
             ·
              simp only [Act.put,s0_,s1_,s2_,i64_w,i32_w];rfl
             refine pure_ (i:=6) (N:=some 31) (v:=?_) (a':=?_) #[y_,y_,y_,y_,y_,y_,y_,n_,n_,n_,n_,n_] rfl rfl (any_of e6.1 (by kernel_rfl)) (fun _ _ _ h=>h) (Or.inl ⟨by rfl,?_⟩) ?_ ?_;rotate_left
             ·
              intro w';go_simp;with_reducible rfl
             rotate_left
             ·
              simp only [Act.put,s0_,s1_,s2_,i64_w,i32_w];rfl
             refine pure_ (i:=7) (N:=some 32) (v:=?_) (a':=?_) #[y_,y_,y_,y_,y_,y_,y_,y_,n_,n_,n_,n_] rfl rfl (any_of e6.1 (by kernel_rfl)) (fun _ _ _ h=>h) (Or.inl ⟨by rfl,?_⟩) ?_ ?_;rotate_left
             ·
              intro w';go_simp;with_reducible rfl
             rotate_left
             ·
              simp only [Act.put,s0_,s1_,s2_,i64_w,i32_w];rfl
             exact norm_ (by simp only [putAll,Act.put,s0_,s1_,s2_] <;> rfl) (m5 () _ ⟨J,F.1,C.1,B.1,D.1,E.1,Q.1⟩)
            ·
             skip
             refine box_step ?hg (N:=8) ?hd (cs:=#[.int .i64 0,.int .i64 0,.int .i64 0,.int .i64 0]) (t:=67) ?hr ?_;(case hd=>rfl);(case hg=>rfl);(case hr=>first|(go_simp;done)|(go_simp;rfl));intro T hg i0 a7 hb;have L:=mk0 (a7);have d1:=szw hg Q;have c9:=szw hg Q;have Z:=nlt hg C;have b1:=ngt hg C;have a0:=nlt hg B;have b2:=ngt hg B;have a8:=nlt hg D;have a1:=ngt hg D;have a9:=nlt hg E;have a2:=ngt hg E;replace F:=rbl F hb;replace C:=bkb C hb;replace B:=bkb B hb;replace D:=bkb D hb;replace E:=bkb E hb;replace Q:=bst Q hb;clear hb a7 hg;refine hK.out _ _ ⟨q0_ C,q1_ C,q2_ C,q3_ C,q0_ B,q1_ B,q2_ B,q3_ B⟩ (fun J=>?_);clear hK K;refine norm_ (a':=?_) ?_ ?_;rotate_left
             ·
              show Act.put _ (some 8) _=_;simp only [Act.put,s0_,s1_,s2_,i64_w,i32_w];rfl
             exact norm_ (by simp only [putAll,Act.put,s0_,s1_,s2_] <;> rfl) (l2 (T) _ ⟨J,F.1,C.1,B.1,D.1,E.1,L.1,d1.1,c9.1,Z.1,b1.1,a0.1,b2.1,a8.1,a1.1,a9.1,a2.1,Q.1⟩)
            ·
             skip
             refine box_step ?hg (N:=9) ?hd (cs:=#[.int .i64 0,.int .i64 0,.int .i64 0,.int .i64 0]) (t:=67) ?hr ?_;(case hd=>rfl);(case hg=>rfl);(case hr=>first|(go_simp;done)|(go_simp;rfl));intro U hg i0 a7 hb;have O:=mk0 (a7);have d2:=szw hg Q;have d0:=szw hg Q;have a3:=nlt hg C;have b3:=ngt hg C;have a4:=nlt hg B;have b4:=ngt hg B;have b0:=nlt hg D;have a5:=ngt hg D;have a6:=nlt hg E;have V:=ngt hg E;replace F:=rbl F hb;replace C:=bkb C hb;replace B:=bkb B hb;replace D:=bkb D hb;replace E:=bkb E hb;replace Q:=bst Q hb;clear hb a7 hg;refine hK.out _ _ ⟨q0_ C,q1_ C,q2_ C,q3_ C,q0_ B,q1_ B,q2_ B,q3_ B⟩ (fun J=>?_);clear hK K;refine norm_ (a':=?_) ?_ ?_;rotate_left
             ·
              show Act.put _ (some 9) _=_;simp only [Act.put,s0_,s1_,s2_,i64_w,i32_w];rfl
             exact norm_ (by simp only [putAll,Act.put,s0_,s1_,s2_] <;> rfl) (l3 (U) _ ⟨J,F.1,C.1,B.1,D.1,E.1,O.1,d2.1,d0.1,a3.1,b3.1,a4.1,b4.1,b0.1,a5.1,a6.1,V.1,Q.1⟩)
          ·
           skip
           clear F C B D E Q;rintro ⟨T,U⟩ i0 c8;(try dsimp only at c8);replace c8:=h_ (m4_ (m4_ (m4_ (m4_ (m4_ (m4_ (m4_ (m_ l_)))))))) c8;obtain ⟨f0,F,C,B,D,E,L,O,d1,c9,Z,b1,a0,b2,a8,a1,a9,a2,c3,c5,d2,d0,a3,b3,a4,b4,b0,a5,a6,V,Q⟩:=c8;have J:=f0;refine norm_ (a':=?_) ?_ ?_;rotate_left
           ·
            simp only [putAll,Act.put,s0_,s1_,s2_];rfl
           refine one_ (i:=3) (N:=some 29) #[y_,y_,y_,y_,n_,n_,n_,n_,y_,y_,n_,n_] rfl rfl (one_of e6.1 (by kernel_rfl)) (by decide) (fun K hK=>?_);refine goes_ Try.func48 (by kernel_rfl) rfl #[.agg #[.int .i64 b5,.int .i64 b6,.int .i64 b7,.int .i64 b8]] (by rfl) rfl rfl (by (try simp only [m0_,m1_,m2_]);first|done|rfl|(simp only [l0_,l1_];rfl)) ?_;with_reducible refine (norm_of.calls b5 b6 b7 b8 f1 f2 f3 f4 _ m0.1).mono ?_
           rintro e j3 ⟨rfl,hb⟩;refine ⟨_,rfl,?_⟩;replace F:=rbl F hb;replace C:=bkb C hb;replace B:=bkb B hb;replace D:=bkb D hb;replace E:=bkb E hb;replace L:=bkb L hb;replace O:=bkb O hb;replace Q:=bst Q hb;(try clear hb);refine hK.out _ _ ⟨q0_ C,q1_ C,q2_ C,q3_ C,q0_ B,q1_ B,q2_ B,q3_ B⟩ (fun J=>?_);clear hK K;refine norm_ (a':=?_) ?_ ?_;rotate_left
           ·
            show Act.put _ (some 29) _=_;simp only [Act.put,s0_,s1_,s2_,i64_w,i32_w];rfl
           exact norm_ (by simp only [putAll,Act.put,s0_,s1_,s2_] <;> rfl) (h9 (T,U) _ ⟨J,F.1,C.1,B.1,D.1,E.1,L.1,O.1,d1.1,c9.1,Z.1,b1.1,a0.1,b2.1,a8.1,a1.1,a9.1,a2.1,c3.1,c5.1,d2.1,d0.1,a3.1,b3.1,a4.1,b4.1,b0.1,a5.1,a6.1,V.1,Q.1⟩)
         ·
          skip
          clear F C B D E Q;rintro U i0 c8;replace c8:=h_ (m4_ (m4_ (m4_ (m4_ l_)))) c8;obtain ⟨f0,F,C,B,D,E,O,d2,d0,a3,b3,a4,b4,b0,a5,a6,V,Q⟩:=c8;have J:=f0;refine norm_ (a':=?_) ?_ ?_;rotate_left
          ·
           simp only [putAll,Act.put,s0_,s1_,s2_];rfl
          refine two_ (i:=4) (j:=8) (Ni:=some 30) (Nj:=some 8) #[y_,y_,y_,y_,y_,n_,n_,n_,n_,y_,n_,n_] #[y_,y_,y_,y_,n_,n_,n_,n_,y_,y_,n_,n_] rfl rfl rfl rfl (two_of e6.1 (by kernel_rfl)) (by decide) (by decide) (fun K hK=>?_) (fun K hK=>?_)
          ·
           skip
           refine goes_ Try.func49 (by kernel_rfl) rfl #[.agg #[.int .i64 e2,.int .i64 e3,.int .i64 e4,.int .i64 e5],.agg #[.int .i64 f1,.int .i64 f2,.int .i64 f3,.int .i64 f4]] (by rfl) rfl rfl (by (try simp only [m0_,m1_,m2_]);first|done|rfl|(simp only [l0_,l1_];rfl)) ?_;with_reducible refine (norm_divide.calls k e2 e3 e4 e5 f1 f2 f3 f4 d4 d6 d8 e0 d5 d7 d9 e1 _ m1.1).mono ?_
           rintro e j3 ⟨rfl,hb⟩;refine ⟨_,rfl,?_⟩;replace F:=rbl F hb;replace C:=bkb C hb;replace B:=bkb B hb;replace D:=bkb D hb;replace E:=bkb E hb;replace O:=bkb O hb;replace Q:=bst Q hb;(try clear hb);refine hK.out _ _ ⟨q0_ C,q1_ C,q2_ C,q3_ C,q0_ B,q1_ B,q2_ B,q3_ B⟩ (fun J=>?_);clear hK K;refine norm_ (a':=?_) ?_ ?_;rotate_left
           ·
            show Act.put _ (some 30) _=_;simp only [Act.put,s0_,s1_,s2_,i64_w,i32_w];rfl
           refine pure_ (i:=5) (N:=some 25) (v:=?_) (a':=?_) #[y_,y_,y_,y_,y_,y_,n_,n_,n_,y_,n_,n_] rfl rfl (any_of e6.1 (by kernel_rfl)) (fun _ _ _ h=>h) (Or.inl ⟨by rfl,?_⟩) ?_ ?_;rotate_left
           ·
            intro w';go_simp;with_reducible rfl
           rotate_left
           ·
            simp only [Act.put,s0_,s1_,s2_,i64_w,i32_w];rfl
           refine pure_ (i:=6) (N:=some 31) (v:=?_) (a':=?_) #[y_,y_,y_,y_,y_,y_,y_,n_,n_,y_,n_,n_] rfl rfl (any_of e6.1 (by kernel_rfl)) (fun _ _ _ h=>h) (Or.inl ⟨by rfl,?_⟩) ?_ ?_;rotate_left
           ·
            intro w';go_simp;with_reducible rfl
           rotate_left
           ·
            simp only [Act.put,s0_,s1_,s2_,i64_w,i32_w];rfl
           refine pure_ (i:=7) (N:=some 32) (v:=?_) (a':=?_) #[y_,y_,y_,y_,y_,y_,y_,y_,n_,y_,n_,n_] rfl rfl (any_of e6.1 (by kernel_rfl)) (fun _ _ _ h=>h) (Or.inl ⟨by rfl,?_⟩) ?_ ?_;rotate_left
           ·
            intro w';go_simp;with_reducible rfl
           rotate_left
           ·
            simp only [Act.put,s0_,s1_,s2_,i64_w,i32_w];rfl
           exact norm_ (by simp only [putAll,Act.put,s0_,s1_,s2_] <;> rfl) (j6 (U) _ ⟨J,F.1,C.1,B.1,D.1,E.1,O.1,d2.1,d0.1,a3.1,b3.1,a4.1,b4.1,b0.1,a5.1,a6.1,V.1,Q.1⟩)
          ·
           skip
           refine box_step ?hg (N:=8) ?hd (cs:=#[.int .i64 0,.int .i64 0,.int .i64 0,.int .i64 0]) (t:=67) ?hr ?_;(case hd=>rfl);(case hg=>rfl);(case hr=>first|(go_simp;done)|(go_simp;rfl));intro T hg j3 a7 hb;have L:=mk0 (a7);have d1:=szw hg Q;have c9:=szw hg Q;have Z:=nlt hg C;have b1:=ngt hg C;have a0:=nlt hg B;have b2:=ngt hg B;have a8:=nlt hg D;have a1:=ngt hg D;have a9:=nlt hg E;have a2:=ngt hg E;have c3:=nlt hg O;have c5:=ngt hg O;replace F:=rbl F hb;replace C:=bkb C hb;replace B:=bkb B hb;replace D:=bkb D hb;replace E:=bkb E hb;replace O:=bkb O hb;replace Q:=bst Q hb;clear hb a7 hg;refine hK.out _ _ ⟨q0_ C,q1_ C,q2_ C,q3_ C,q0_ B,q1_ B,q2_ B,q3_ B⟩ (fun J=>?_);clear hK K;refine norm_ (a':=?_) ?_ ?_;rotate_left
           ·
            show Act.put _ (some 8) _=_;simp only [Act.put,s0_,s1_,s2_,i64_w,i32_w];rfl
           exact norm_ (by simp only [putAll,Act.put,s0_,s1_,s2_] <;> rfl) (h9 (T,U) _ ⟨J,F.1,C.1,B.1,D.1,E.1,L.1,O.1,d1.1,c9.1,Z.1,b1.1,a0.1,b2.1,a8.1,a1.1,a9.1,a2.1,c3.1,c5.1,d2.1,d0.1,a3.1,b3.1,a4.1,b4.1,b0.1,a5.1,a6.1,V.1,Q.1⟩)
        ·
         skip
         clear F C B D E Q;rintro T i0 c8;replace c8:=h_ (m4_ (m4_ (m4_ (m4_ l_)))) c8;obtain ⟨f0,F,C,B,D,E,L,d1,c9,Z,b1,a0,b2,a8,a1,a9,a2,Q⟩:=c8;have J:=f0;refine norm_ (a':=?_) ?_ ?_;rotate_left
         ·
          simp only [putAll,Act.put,s0_,s1_,s2_];rfl
         refine two_ (i:=4) (j:=9) (Ni:=some 30) (Nj:=some 9) #[y_,y_,y_,y_,y_,n_,n_,n_,y_,n_,n_,n_] #[y_,y_,y_,y_,n_,n_,n_,n_,y_,y_,n_,n_] rfl rfl rfl rfl (two_of e6.1 (by kernel_rfl)) (by decide) (by decide) (fun K hK=>?_) (fun K hK=>?_)
         ·
          skip
          refine goes_ Try.func49 (by kernel_rfl) rfl #[.agg #[.int .i64 e2,.int .i64 e3,.int .i64 e4,.int .i64 e5],.agg #[.int .i64 f1,.int .i64 f2,.int .i64 f3,.int .i64 f4]] (by rfl) rfl rfl (by (try simp only [m0_,m1_,m2_]);first|done|rfl|(simp only [l0_,l1_];rfl)) ?_;with_reducible refine (norm_divide.calls k e2 e3 e4 e5 f1 f2 f3 f4 d4 d6 d8 e0 d5 d7 d9 e1 _ m1.1).mono ?_
          rintro e j3 ⟨rfl,hb⟩;refine ⟨_,rfl,?_⟩;replace F:=rbl F hb;replace C:=bkb C hb;replace B:=bkb B hb;replace D:=bkb D hb;replace E:=bkb E hb;replace L:=bkb L hb;replace Q:=bst Q hb;(try clear hb);refine hK.out _ _ ⟨q0_ C,q1_ C,q2_ C,q3_ C,q0_ B,q1_ B,q2_ B,q3_ B⟩ (fun J=>?_);clear hK K;refine norm_ (a':=?_) ?_ ?_;rotate_left
          ·
           show Act.put _ (some 30) _=_;simp only [Act.put,s0_,s1_,s2_,i64_w,i32_w];rfl
          refine pure_ (i:=5) (N:=some 25) (v:=?_) (a':=?_) #[y_,y_,y_,y_,y_,y_,n_,n_,y_,n_,n_,n_] rfl rfl (any_of e6.1 (by kernel_rfl)) (fun _ _ _ h=>h) (Or.inl ⟨by rfl,?_⟩) ?_ ?_;rotate_left
          ·
           intro w';go_simp;with_reducible rfl
          rotate_left
          ·
           simp only [Act.put,s0_,s1_,s2_,i64_w,i32_w];rfl
          refine pure_ (i:=6) (N:=some 31) (v:=?_) (a':=?_) #[y_,y_,y_,y_,y_,y_,y_,n_,y_,n_,n_,n_] rfl rfl (any_of e6.1 (by kernel_rfl)) (fun _ _ _ h=>h) (Or.inl ⟨by rfl,?_⟩) ?_ ?_;rotate_left
          ·
           intro w';go_simp;with_reducible rfl
          rotate_left
          ·
           simp only [Act.put,s0_,s1_,s2_,i64_w,i32_w];rfl
          refine pure_ (i:=7) (N:=some 32) (v:=?_) (a':=?_) #[y_,y_,y_,y_,y_,y_,y_,y_,y_,n_,n_,n_] rfl rfl (any_of e6.1 (by kernel_rfl)) (fun _ _ _ h=>h) (Or.inl ⟨by rfl,?_⟩) ?_ ?_;rotate_left
          ·
           intro w';go_simp;with_reducible rfl
          rotate_left
          ·
           simp only [Act.put,s0_,s1_,s2_,i64_w,i32_w];rfl
          exact norm_ (by simp only [putAll,Act.put,s0_,s1_,s2_] <;> rfl) (j5 (T) _ ⟨J,F.1,C.1,B.1,D.1,E.1,L.1,d1.1,c9.1,Z.1,b1.1,a0.1,b2.1,a8.1,a1.1,a9.1,a2.1,Q.1⟩)
         ·
          skip
          refine box_step ?hg (N:=9) ?hd (cs:=#[.int .i64 0,.int .i64 0,.int .i64 0,.int .i64 0]) (t:=67) ?hr ?_;(case hd=>rfl);(case hg=>rfl);(case hr=>first|(go_simp;done)|(go_simp;rfl));intro U hg j3 a7 hb;have O:=mk0 (a7);have d2:=szw hg Q;have d0:=szw hg Q;have a3:=nlt hg C;have b3:=ngt hg C;have a4:=nlt hg B;have b4:=ngt hg B;have b0:=nlt hg D;have a5:=ngt hg D;have a6:=nlt hg E;have V:=ngt hg E;have c5:=nlt hg L;have c3:=ngt hg L;replace F:=rbl F hb;replace C:=bkb C hb;replace B:=bkb B hb;replace D:=bkb D hb;replace E:=bkb E hb;replace L:=bkb L hb;replace Q:=bst Q hb;clear hb a7 hg;refine hK.out _ _ ⟨q0_ C,q1_ C,q2_ C,q3_ C,q0_ B,q1_ B,q2_ B,q3_ B⟩ (fun J=>?_);clear hK K;refine norm_ (a':=?_) ?_ ?_;rotate_left
          ·
           show Act.put _ (some 9) _=_;simp only [Act.put,s0_,s1_,s2_,i64_w,i32_w];rfl
          exact norm_ (by simp only [putAll,Act.put,s0_,s1_,s2_] <;> rfl) (h9 (T,U) _ ⟨J,F.1,C.1,B.1,D.1,E.1,L.1,O.1,d1.1,c9.1,Z.1,b1.1,a0.1,b2.1,a8.1,a1.1,a9.1,a2.1,c3.1,c5.1,d2.1,d0.1,a3.1,b3.1,a4.1,b4.1,b0.1,a5.1,a6.1,V.1,Q.1⟩)
       ·
        skip
        clear F C B D E Q;rintro _ i0 c8;replace c8:=h_ (m4_ (m_ l_)) c8;obtain ⟨f0,F,C,B,D,E,Q⟩:=c8;have J:=f0;refine norm_ (a':=?_) ?_ ?_;rotate_left
        ·
         simp only [putAll,Act.put,s0_,s1_,s2_];rfl
        refine two_ (i:=8) (j:=9) (Ni:=some 8) (Nj:=some 9) #[y_,y_,y_,y_,y_,y_,y_,y_,y_,n_,n_,n_] #[y_,y_,y_,y_,y_,y_,y_,y_,n_,y_,n_,n_] rfl rfl rfl rfl (two_of e6.1 (by kernel_rfl)) (by decide) (by decide) (fun K hK=>?_) (fun K hK=>?_)
        ·
         skip
         refine box_step ?hg (N:=8) ?hd (cs:=#[.int .i64 0,.int .i64 0,.int .i64 0,.int .i64 0]) (t:=67) ?hr ?_;(case hd=>rfl);(case hg=>rfl);(case hr=>first|(go_simp;done)|(go_simp;rfl));intro T hg j3 a7 hb;have L:=mk0 (a7);have d1:=szw hg Q;have c9:=szw hg Q;have Z:=nlt hg C;have b1:=ngt hg C;have a0:=nlt hg B;have b2:=ngt hg B;have a8:=nlt hg D;have a1:=ngt hg D;have a9:=nlt hg E;have a2:=ngt hg E;replace F:=rbl F hb;replace C:=bkb C hb;replace B:=bkb B hb;replace D:=bkb D hb;replace E:=bkb E hb;replace Q:=bst Q hb;clear hb a7 hg;refine hK.out _ _ ⟨q0_ C,q1_ C,q2_ C,q3_ C,q0_ B,q1_ B,q2_ B,q3_ B⟩ (fun J=>?_);clear hK K;refine norm_ (a':=?_) ?_ ?_;rotate_left
         ·
          show Act.put _ (some 8) _=_;simp only [Act.put,s0_,s1_,s2_,i64_w,i32_w];rfl
         exact norm_ (by simp only [putAll,Act.put,s0_,s1_,s2_] <;> rfl) (j5 (T) _ ⟨J,F.1,C.1,B.1,D.1,E.1,L.1,d1.1,c9.1,Z.1,b1.1,a0.1,b2.1,a8.1,a1.1,a9.1,a2.1,Q.1⟩)
        ·
         skip
         refine box_step ?hg (N:=9) ?hd (cs:=#[.int .i64 0,.int .i64 0,.int .i64 0,.int .i64 0]) (t:=67) ?hr ?_;(case hd=>rfl);(case hg=>rfl);(case hr=>first|(go_simp;done)|(go_simp;rfl));intro U hg j3 a7 hb;have O:=mk0 (a7);have d2:=szw hg Q;have d0:=szw hg Q;have a3:=nlt hg C;have b3:=ngt hg C;have a4:=nlt hg B;have b4:=ngt hg B;have b0:=nlt hg D;have a5:=ngt hg D;have a6:=nlt hg E;have V:=ngt hg E;replace F:=rbl F hb;replace C:=bkb C hb;replace B:=bkb B hb;replace D:=bkb D hb;replace E:=bkb E hb;replace Q:=bst Q hb;clear hb a7 hg;refine hK.out _ _ ⟨q0_ C,q1_ C,q2_ C,q3_ C,q0_ B,q1_ B,q2_ B,q3_ B⟩ (fun J=>?_);clear hK K;refine norm_ (a':=?_) ?_ ?_;rotate_left
         ·
          show Act.put _ (some 9) _=_;simp only [Act.put,s0_,s1_,s2_,i64_w,i32_w];rfl
         exact norm_ (by simp only [putAll,Act.put,s0_,s1_,s2_] <;> rfl) (j6 (U) _ ⟨J,F.1,C.1,B.1,D.1,E.1,O.1,d2.1,d0.1,a3.1,b3.1,a4.1,b4.1,b0.1,a5.1,a6.1,V.1,Q.1⟩)
      ·
       skip
       clear F C B D E Q;rintro ⟨T,U⟩ j3 c8;(try dsimp only at c8);replace c8:=h_ (m4_ (m4_ (m4_ (m4_ (m4_ (m4_ (m4_ (m_ l_)))))))) c8;obtain ⟨f0,F,C,B,D,E,L,O,d1,c9,Z,b1,a0,b2,a8,a1,a9,a2,c3,c5,d2,d0,a3,b3,a4,b4,b0,a5,a6,V,Q⟩:=c8;have J:=f0;refine norm_ (a':=?_) ?_ ?_;rotate_left
       ·
        simp only [putAll,Act.put,s0_,s1_,s2_];rfl
       refine one_ (i:=4) (N:=some 30) #[y_,y_,y_,y_,y_,n_,n_,n_,y_,y_,n_,n_] rfl rfl (one_of e6.1 (by kernel_rfl)) (by decide) (fun K hK=>?_);refine goes_ Try.func49 (by kernel_rfl) rfl #[.agg #[.int .i64 e2,.int .i64 e3,.int .i64 e4,.int .i64 e5],.agg #[.int .i64 f1,.int .i64 f2,.int .i64 f3,.int .i64 f4]] (by rfl) rfl rfl (by (try simp only [m0_,m1_,m2_]);first|done|rfl|(simp only [l0_,l1_];rfl)) ?_;with_reducible refine (norm_divide.calls k e2 e3 e4 e5 f1 f2 f3 f4 d4 d6 d8 e0 d5 d7 d9 e1 _ m1.1).mono ?_
       rintro e h8 ⟨rfl,hb⟩;refine ⟨_,rfl,?_⟩;replace F:=rbl F hb;replace C:=bkb C hb;replace B:=bkb B hb;replace D:=bkb D hb;replace E:=bkb E hb;replace L:=bkb L hb;replace O:=bkb O hb;replace Q:=bst Q hb;(try clear hb);refine hK.out _ _ ⟨q0_ C,q1_ C,q2_ C,q3_ C,q0_ B,q1_ B,q2_ B,q3_ B⟩ (fun J=>?_);clear hK K;refine norm_ (a':=?_) ?_ ?_;rotate_left
       ·
        show Act.put _ (some 30) _=_;simp only [Act.put,s0_,s1_,s2_,i64_w,i32_w];rfl
       refine pure_ (i:=5) (N:=some 25) (v:=?_) (a':=?_) #[y_,y_,y_,y_,y_,y_,n_,n_,y_,y_,n_,n_] rfl rfl (any_of e6.1 (by kernel_rfl)) (fun _ _ _ h=>h) (Or.inl ⟨by rfl,?_⟩) ?_ ?_;rotate_left
       ·
        intro w';go_simp;with_reducible rfl
       rotate_left
       ·
        simp only [Act.put,s0_,s1_,s2_,i64_w,i32_w];rfl
       refine pure_ (i:=6) (N:=some 31) (v:=?_) (a':=?_) #[y_,y_,y_,y_,y_,y_,y_,n_,y_,y_,n_,n_] rfl rfl (any_of e6.1 (by kernel_rfl)) (fun _ _ _ h=>h) (Or.inl ⟨by rfl,?_⟩) ?_ ?_;rotate_left
       ·
        intro w';go_simp;with_reducible rfl
       rotate_left
       ·
        simp only [Act.put,s0_,s1_,s2_,i64_w,i32_w];rfl
       refine pure_ (i:=7) (N:=some 32) (v:=?_) (a':=?_) #[y_,y_,y_,y_,y_,y_,y_,y_,y_,y_,n_,n_] rfl rfl (any_of e6.1 (by kernel_rfl)) (fun _ _ _ h=>h) (Or.inl ⟨by rfl,?_⟩) ?_ ?_;rotate_left
       ·
        intro w';go_simp;with_reducible rfl
       rotate_left
       ·
        simp only [Act.put,s0_,s1_,s2_,i64_w,i32_w];rfl
       exact norm_ (by simp only [putAll,Act.put,s0_,s1_,s2_] <;> rfl) (h7 (T,U) _ ⟨J,F.1,C.1,B.1,D.1,E.1,L.1,O.1,d1.1,c9.1,Z.1,b1.1,a0.1,b2.1,a8.1,a1.1,a9.1,a2.1,c3.1,c5.1,d2.1,d0.1,a3.1,b3.1,a4.1,b4.1,b0.1,a5.1,a6.1,V.1,Q.1⟩)
     ·
      skip
      clear F C B D E Q;rintro U j3 c8;replace c8:=h_ (m4_ (m4_ (m4_ (m4_ l_)))) c8;obtain ⟨f0,F,C,B,D,E,O,d2,d0,a3,b3,a4,b4,b0,a5,a6,V,Q⟩:=c8;have J:=f0;refine norm_ (a':=?_) ?_ ?_;rotate_left
      ·
       simp only [putAll,Act.put,s0_,s1_,s2_];rfl
      refine one_ (i:=8) (N:=some 8) #[y_,y_,y_,y_,y_,y_,y_,y_,y_,y_,n_,n_] rfl rfl (one_of e6.1 (by kernel_rfl)) (by decide) (fun K hK=>?_);refine box_step ?hg (N:=8) ?hd (cs:=#[.int .i64 0,.int .i64 0,.int .i64 0,.int .i64 0]) (t:=67) ?hr ?_;(case hd=>rfl);(case hg=>rfl);(case hr=>first|(go_simp;done)|(go_simp;rfl));intro T hg h8 a7 hb;have L:=mk0 (a7);have d1:=szw hg Q;have c9:=szw hg Q;have Z:=nlt hg C;have b1:=ngt hg C;have a0:=nlt hg B;have b2:=ngt hg B;have a8:=nlt hg D;have a1:=ngt hg D;have a9:=nlt hg E;have a2:=ngt hg E;have c3:=nlt hg O;have c5:=ngt hg O;replace F:=rbl F hb;replace C:=bkb C hb;replace B:=bkb B hb;replace D:=bkb D hb;replace E:=bkb E hb;replace O:=bkb O hb;replace Q:=bst Q hb;clear hb a7 hg;refine hK.out _ _ ⟨q0_ C,q1_ C,q2_ C,q3_ C,q0_ B,q1_ B,q2_ B,q3_ B⟩ (fun J=>?_);clear hK K;refine norm_ (a':=?_) ?_ ?_;rotate_left
      ·
       show Act.put _ (some 8) _=_;simp only [Act.put,s0_,s1_,s2_,i64_w,i32_w];rfl
      exact norm_ (by simp only [putAll,Act.put,s0_,s1_,s2_] <;> rfl) (h7 (T,U) _ ⟨J,F.1,C.1,B.1,D.1,E.1,L.1,O.1,d1.1,c9.1,Z.1,b1.1,a0.1,b2.1,a8.1,a1.1,a9.1,a2.1,c3.1,c5.1,d2.1,d0.1,a3.1,b3.1,a4.1,b4.1,b0.1,a5.1,a6.1,V.1,Q.1⟩)
    ·
     skip
     clear F C B D E Q;rintro T j3 c8;replace c8:=h_ (m4_ (m4_ (m4_ (m4_ l_)))) c8;obtain ⟨f0,F,C,B,D,E,L,d1,c9,Z,b1,a0,b2,a8,a1,a9,a2,Q⟩:=c8;have J:=f0;refine norm_ (a':=?_) ?_ ?_;rotate_left
     ·
      simp only [putAll,Act.put,s0_,s1_,s2_];rfl
     refine one_ (i:=9) (N:=some 9) #[y_,y_,y_,y_,y_,y_,y_,y_,y_,y_,n_,n_] rfl rfl (one_of e6.1 (by kernel_rfl)) (by decide) (fun K hK=>?_);refine box_step ?hg (N:=9) ?hd (cs:=#[.int .i64 0,.int .i64 0,.int .i64 0,.int .i64 0]) (t:=67) ?hr ?_;(case hd=>rfl);(case hg=>rfl);(case hr=>first|(go_simp;done)|(go_simp;rfl));intro U hg h8 a7 hb;have O:=mk0 (a7);have d2:=szw hg Q;have d0:=szw hg Q;have a3:=nlt hg C;have b3:=ngt hg C;have a4:=nlt hg B;have b4:=ngt hg B;have b0:=nlt hg D;have a5:=ngt hg D;have a6:=nlt hg E;have V:=ngt hg E;have c5:=nlt hg L;have c3:=ngt hg L;replace F:=rbl F hb;replace C:=bkb C hb;replace B:=bkb B hb;replace D:=bkb D hb;replace E:=bkb E hb;replace L:=bkb L hb;replace Q:=bst Q hb;clear hb a7 hg;refine hK.out _ _ ⟨q0_ C,q1_ C,q2_ C,q3_ C,q0_ B,q1_ B,q2_ B,q3_ B⟩ (fun J=>?_);clear hK K;refine norm_ (a':=?_) ?_ ?_;rotate_left
     ·
      show Act.put _ (some 9) _=_;simp only [Act.put,s0_,s1_,s2_,i64_w,i32_w];rfl
     exact norm_ (by simp only [putAll,Act.put,s0_,s1_,s2_] <;> rfl) (h7 (T,U) _ ⟨J,F.1,C.1,B.1,D.1,E.1,L.1,O.1,d1.1,c9.1,Z.1,b1.1,a0.1,b2.1,a8.1,a1.1,a9.1,a2.1,c3.1,c5.1,d2.1,d0.1,a3.1,b3.1,a4.1,b4.1,b0.1,a5.1,a6.1,V.1,Q.1⟩)
   clear F C B D E Q;rintro ⟨T,U⟩ h8 c8;(try dsimp only at c8);replace c8:=h_ (m4_ (m4_ (m4_ (m4_ (m4_ (m4_ (m4_ (m_ l_)))))))) c8;obtain ⟨f0,F,C,B,D,E,L,O,d1,c9,Z,b1,a0,b2,a8,a1,a9,a2,c3,c5,d2,d0,a3,b3,a4,b4,b0,a5,a6,V,Q⟩:=c8;have J:=f0;refine norm_ (a':=?_) ?_ ?_;rotate_left
   ·
    simp only [putAll,Act.put,s0_,s1_,s2_];rfl
   refine one_ (i:=10) (N:=none) #[y_,y_,y_,y_,y_,y_,y_,y_,y_,y_,y_,n_] rfl rfl (one_of e6.1 (by kernel_rfl)) (by decide) (fun K hK=>?_);have Q0:=q0_ L;have M0:=blk_frozen L.1 0;have A6:=Z.1;have A7:=a0.1;have A8:=a8.1;have A9:=a9.1;have B0:=c3.1;have B1:=b1.1;have B2:=b2.1;have B3:=a1.1;have B4:=a2.1;have B5:=c5.1;have Q1:=q1_ L;have M1:=blk_frozen L.1 1;have Q2:=q2_ L;have M2:=blk_frozen L.1 2;have Q3:=q3_ L;have M3:=blk_frozen L.1 3;refine skip_ (w1:=?_) (by rfl) rfl ?_ ?_;rotate_left
   ·
    go_simp;rfl
   refine hK.out _ _ ⟨f4_ Z J.1,f4_ Z J.2.1,f4_ Z J.2.2.1,f4_ Z J.2.2.2.1,f4_ a0 J.2.2.2.2.1,f4_ a0 J.2.2.2.2.2.1,f4_ a0 J.2.2.2.2.2.2.1,f4_ a0 J.2.2.2.2.2.2.2⟩ (fun J=>?_);clear hK K;refine one_ (i:=11) (N:=none) #[y_,y_,y_,y_,y_,y_,y_,y_,y_,y_,y_,y_] rfl rfl (one_of e6.1 (by kernel_rfl)) (by decide) (fun K hK=>?_);have Q4:=q0_ O;have M4:=blk_frozen O.1 0;have B6:=a3.1;have B7:=a4.1;have B8:=b0.1;have B9:=a6.1;have C0:=c5.1;have C1:=b3.1;have C2:=b4.1;have C3:=a5.1;have C4:=V.1;have C5:=c3.1;have Q5:=q1_ O;have M5:=blk_frozen O.1 1;have Q6:=q2_ O;have M6:=blk_frozen O.1 2;have Q7:=q3_ O;have M7:=blk_frozen O.1 3
   have C6:=V.1;have C7:=c3.1;refine skip_ (w1:=?_) (by rfl) rfl ?_ ?_;rotate_left
   ·
    go_simp;rfl
   refine hK.out _ _ ⟨f4_ a3 J.1,f4_ a3 J.2.1,f4_ a3 J.2.2.1,f4_ a3 J.2.2.2.1,f4_ a4 J.2.2.2.2.1,f4_ a4 J.2.2.2.2.2.1,f4_ a4 J.2.2.2.2.2.2.1,f4_ a4 J.2.2.2.2.2.2.2⟩ (fun J=>?_);clear hK K;refine done_ (done_of e6.1 (by kernel_rfl)) ?_;try go_wp2
   have n5:Aside0 (Kd.R k23 23 ((((((((h8.setCell ⟨T,0,none⟩ (.int .i64 d4)).setCell ⟨T,1,none⟩ (.int .i64 d6)).setCell ⟨T,2,none⟩ (.int .i64 d8)).setCell ⟨T,3,none⟩ (.int .i64 e0)).setCell ⟨U,0,none⟩ (.int .i64 d5)).setCell ⟨U,1,none⟩ (.int .i64 d7)).setCell ⟨U,2,none⟩ (.int .i64 d9)).setCell ⟨U,3,none⟩ (.int .i64 e1)) w.heap.size (fun k_=>k_ ≠ G∧k_ ≠ I∧k_ ≠ X∧k_ ≠ Y) (.slice f5 d3.length f6) d3):=⟨by (with_reducible repeat (first|apply Kd.R_alloc|apply Kd.R_drewN|apply Kd.R_drew));exact Kd.R_mono (Kd.R_far (p:=⟨U,3,none⟩) (Kd.R_far (p:=⟨U,2,none⟩) (Kd.R_far (p:=⟨U,1,none⟩) (Kd.R_far (p:=⟨U,0,none⟩) (Kd.R_far (p:=⟨T,3,none⟩) (Kd.R_far (p:=⟨T,2,none⟩) (Kd.R_far (p:=⟨T,1,none⟩) (Kd.R_far (p:=⟨T,0,none⟩) (Kd.R_types (Kd.R_types F.1 L.1 (by decide)) O.1 (by decide)) (fun _ hk=>hk.1.2) (.int .i64 d4)) (fun _ hk=>hk.1.2) (.int .i64 d6)) (fun _ hk=>hk.1.2) (.int .i64 d8)) (fun _ hk=>hk.1.2) (.int .i64 e0)) (fun _ hk=>hk.2) (.int .i64 d5)) (fun _ hk=>hk.2) (.int .i64 d7)) (fun _ hk=>hk.2) (.int .i64 d9)) (fun _ hk=>hk.2) (.int .i64 e1)) (fun _ hk=>⟨hk.1.1.1,⟨hk.1.1.2.1,⟨hk.1.1.2.2.1,hk.1.1.2.2.2⟩⟩⟩)⟩
   have n6:Aside0 (((((((((h8.setCell ⟨T,0,none⟩ (.int .i64 d4)).setCell ⟨T,1,none⟩ (.int .i64 d6)).setCell ⟨T,2,none⟩ (.int .i64 d8)).setCell ⟨T,3,none⟩ (.int .i64 e0)).setCell ⟨U,0,none⟩ (.int .i64 d5)).setCell ⟨U,1,none⟩ (.int .i64 d7)).setCell ⟨U,2,none⟩ (.int .i64 d9)).setCell ⟨U,3,none⟩ (.int .i64 e1)).heap[G]?=some (.cells #[.int .i64 b9,.int .i64 c0,.int .i64 c1,.int .i64 c2] 23 (0,0))):=⟨by (iterate 4 refine blk_far ?_ a3.1 _);(iterate 4 refine blk_far ?_ Z.1 _);exact C.1⟩
   have n7:Aside0 (((((((((h8.setCell ⟨T,0,none⟩ (.int .i64 d4)).setCell ⟨T,1,none⟩ (.int .i64 d6)).setCell ⟨T,2,none⟩ (.int .i64 d8)).setCell ⟨T,3,none⟩ (.int .i64 e0)).setCell ⟨U,0,none⟩ (.int .i64 d5)).setCell ⟨U,1,none⟩ (.int .i64 d7)).setCell ⟨U,2,none⟩ (.int .i64 d9)).setCell ⟨U,3,none⟩ (.int .i64 e1)).heap[I]?=some (.cells #[.int .i64 b5,.int .i64 b6,.int .i64 b7,.int .i64 b8] 23 (0,0))):=⟨by (iterate 4 refine blk_far ?_ a4.1 _);(iterate 4 refine blk_far ?_ a0.1 _);exact B.1⟩
   have n8:Aside0 (((((((((h8.setCell ⟨T,0,none⟩ (.int .i64 d4)).setCell ⟨T,1,none⟩ (.int .i64 d6)).setCell ⟨T,2,none⟩ (.int .i64 d8)).setCell ⟨T,3,none⟩ (.int .i64 e0)).setCell ⟨U,0,none⟩ (.int .i64 d5)).setCell ⟨U,1,none⟩ (.int .i64 d7)).setCell ⟨U,2,none⟩ (.int .i64 d9)).setCell ⟨U,3,none⟩ (.int .i64 e1)).heap[X]?=some (.cells #[.int .i64 0,.int .i64 0,.int .i64 0,.int .i64 0] 23 (0,0))):=⟨by (iterate 4 refine blk_far ?_ b0.1 _);(iterate 4 refine blk_far ?_ a8.1 _);exact D.1⟩
   have n9:Aside0 (((((((((h8.setCell ⟨T,0,none⟩ (.int .i64 d4)).setCell ⟨T,1,none⟩ (.int .i64 d6)).setCell ⟨T,2,none⟩ (.int .i64 d8)).setCell ⟨T,3,none⟩ (.int .i64 e0)).setCell ⟨U,0,none⟩ (.int .i64 d5)).setCell ⟨U,1,none⟩ (.int .i64 d7)).setCell ⟨U,2,none⟩ (.int .i64 d9)).setCell ⟨U,3,none⟩ (.int .i64 e1)).heap[Y]?=some (.cells #[.int .i64 0,.int .i64 0,.int .i64 0,.int .i64 0] 23 (0,0))):=⟨by (iterate 4 refine blk_far ?_ a6.1 _);(iterate 4 refine blk_far ?_ a9.1 _);exact E.1⟩
   have o0:Aside0 (((((((((h8.setCell ⟨T,0,none⟩ (.int .i64 d4)).setCell ⟨T,1,none⟩ (.int .i64 d6)).setCell ⟨T,2,none⟩ (.int .i64 d8)).setCell ⟨T,3,none⟩ (.int .i64 e0)).setCell ⟨U,0,none⟩ (.int .i64 d5)).setCell ⟨U,1,none⟩ (.int .i64 d7)).setCell ⟨U,2,none⟩ (.int .i64 d9)).setCell ⟨U,3,none⟩ (.int .i64 e1)).heap[T]?=some (.cells #[.int .i64 d4,.int .i64 d6,.int .i64 d8,.int .i64 e0] 67 (0,0))):=⟨by (iterate 4 refine blk_far ?_ c5.1 _);refine blk_put (cs:=#[.int .i64 d4,.int .i64 d6,.int .i64 d8,.int .i64 0]) ?_ 3 _ rfl;refine blk_put (cs:=#[.int .i64 d4,.int .i64 d6,.int .i64 0,.int .i64 0]) ?_ 2 _ rfl;refine blk_put (cs:=#[.int .i64 d4,.int .i64 0,.int .i64 0,.int .i64 0]) ?_ 1 _ rfl;refine blk_put (cs:=#[.int .i64 0,.int .i64 0,.int .i64 0,.int .i64 0]) ?_ 0 _ rfl;exact L.1⟩
   have o1:Aside0 (((((((((h8.setCell ⟨T,0,none⟩ (.int .i64 d4)).setCell ⟨T,1,none⟩ (.int .i64 d6)).setCell ⟨T,2,none⟩ (.int .i64 d8)).setCell ⟨T,3,none⟩ (.int .i64 e0)).setCell ⟨U,0,none⟩ (.int .i64 d5)).setCell ⟨U,1,none⟩ (.int .i64 d7)).setCell ⟨U,2,none⟩ (.int .i64 d9)).setCell ⟨U,3,none⟩ (.int .i64 e1)).heap[U]?=some (.cells #[.int .i64 d5,.int .i64 d7,.int .i64 d9,.int .i64 e1] 67 (0,0))):=⟨by refine blk_put (cs:=#[.int .i64 d5,.int .i64 d7,.int .i64 d9,.int .i64 0]) ?_ 3 _ rfl;refine blk_put (cs:=#[.int .i64 d5,.int .i64 d7,.int .i64 0,.int .i64 0]) ?_ 2 _ rfl;refine blk_put (cs:=#[.int .i64 d5,.int .i64 0,.int .i64 0,.int .i64 0]) ?_ 1 _ rfl;refine blk_put (cs:=#[.int .i64 0,.int .i64 0,.int .i64 0,.int .i64 0]) ?_ 0 _ rfl;(iterate 4 refine blk_far ?_ c3.1 _);exact O.1⟩
   have o2:Aside0 (Below w.heap.size w ((((((((h8.setCell ⟨T,0,none⟩ (.int .i64 d4)).setCell ⟨T,1,none⟩ (.int .i64 d6)).setCell ⟨T,2,none⟩ (.int .i64 d8)).setCell ⟨T,3,none⟩ (.int .i64 e0)).setCell ⟨U,0,none⟩ (.int .i64 d5)).setCell ⟨U,1,none⟩ (.int .i64 d7)).setCell ⟨U,2,none⟩ (.int .i64 d9)).setCell ⟨U,3,none⟩ (.int .i64 e1))):=⟨by repeat (first|(with_reducible first|exact Q.1|apply below_alloc|apply pw_below_drewN|apply below_drew1|refine below_set ?_ i2.1|refine below_set ?_ i3.1|refine below_set ?_ i4.1|refine below_set ?_ i5.1|refine below_set ?_ c9.1|refine below_set ?_ d0.1)|exact Q.1)⟩
   (try clear F);(try clear C);(try clear B);(try clear D);(try clear E);(try clear L);(try clear O);(try clear Q);generalize ((((((((h8.setCell ⟨T,0,none⟩ (.int .i64 d4)).setCell ⟨T,1,none⟩ (.int .i64 d6)).setCell ⟨T,2,none⟩ (.int .i64 d8)).setCell ⟨T,3,none⟩ (.int .i64 e0)).setCell ⟨U,0,none⟩ (.int .i64 d5)).setCell ⟨U,1,none⟩ (.int .i64 d7)).setCell ⟨U,2,none⟩ (.int .i64 d9)).setCell ⟨U,3,none⟩ (.int .i64 e1))=I7 at n5 n6 n7 n8 n9 o0 o1 o2 ⊢;have F:=n5;have C:=n6;have B:=n7;have D:=n8;have E:=n9;have L:=o0;have O:=o1;have Q:=o2;clear n5 n6 n7 n8 n9 o0 o1 o2;replace F:=rdr F;replace C:=bdr C;replace B:=bdr B;replace D:=bdr D;replace E:=bdr E;replace L:=bdr L;replace O:=bdr O;replace Q:=hdr Q;refine start_ (n:=7) (S:=fun w'=>w'.cell? ⟨T,0,none⟩=some (.int .i64 d4)∧w'.cell? ⟨T,1,none⟩=some (.int .i64 d6)∧w'.cell? ⟨T,2,none⟩=some (.int .i64 d8)∧w'.cell? ⟨T,3,none⟩=some (.int .i64 e0)∧w'.cell? ⟨U,0,none⟩=some (.int .i64 d5)∧w'.cell? ⟨U,1,none⟩=some (.int .i64 d7)∧w'.cell? ⟨U,2,none⟩=some (.int .i64 d9)∧w'.cell? ⟨U,3,none⟩=some (.int .i64 e1)) (ds:=[]) #[n_,n_,n_,n_,n_,n_,n_] (by kernel_rfl) rfl rfl ⟨q0_ L,q1_ L,q2_ L,q3_ L,q0_ O,q1_ O,q2_ O,q3_ O⟩ (fun J=>?_);generalize I7.drew=T7 at F C B D E L O Q J ⊢;refine take_ (i:=0) (N:=some 33) (v:=?_) (a':=?_) #[y_,n_,n_,n_,n_,n_,n_] rfl rfl (by kernel_rfl) (fun _ _ _ h=>h) (Or.inl ⟨by rfl,?_⟩) J ?_ ?_;rotate_left
   ·
    rintro w' ⟨s0,s1,s2,s3,s4,s5,s6,s7⟩;go_simp;with_reducible rfl
   rotate_left
   ·
    simp only [Act.put,s0_,s1_,s2_,i64_w,i32_w];rfl
   refine take_ (i:=2) (N:=some 35) (v:=?_) (a':=?_) #[y_,n_,y_,n_,n_,n_,n_] rfl rfl (by kernel_rfl) (fun _ _ _ h=>h) (Or.inl ⟨by rfl,?_⟩) J ?_ ?_;rotate_left
   ·
    rintro w' ⟨s0,s1,s2,s3,s4,s5,s6,s7⟩;go_simp;with_reducible rfl
   rotate_left
   ·
    simp only [Act.put,s0_,s1_,s2_,i64_w,i32_w];rfl
   refine one_ (i:=1) (N:=some 34) #[y_,y_,y_,n_,n_,n_,n_] rfl rfl (by kernel_rfl) (by decide) (fun K hK=>?_);refine goes_ Try.func50 (by kernel_rfl) rfl #[.agg #[.int .i64 d4,.int .i64 d6,.int .i64 d8,.int .i64 e0]] (by rfl) rfl rfl (by (try simp only [m0_,m1_,m2_]);first|done|rfl|(simp only [l0_,l1_];rfl)) ?_;with_reducible refine (norm_quat_api.calls d4 d6 d8 e0 j8 l4 l6 n1 _ l8.1).mono ?_
   rintro e T8 ⟨rfl,hb⟩;refine ⟨_,rfl,?_⟩;replace F:=rbl F hb;replace C:=bkb C hb;replace B:=bkb B hb;replace D:=bkb D hb;replace E:=bkb E hb;replace L:=bkb L hb;replace O:=bkb O hb;replace Q:=bst Q hb;(try clear hb);refine hK.out _ _ ⟨q0_ L,q1_ L,q2_ L,q3_ L,q0_ O,q1_ O,q2_ O,q3_ O⟩ (fun J=>?_);clear hK K;refine norm_ (a':=?_) ?_ ?_;rotate_left
   ·
    show Act.put _ (some 34) _=_;simp only [Act.put,s0_,s1_,s2_,i64_w,i32_w];rfl
   refine one_ (i:=3) (N:=some 36) #[y_,y_,y_,y_,n_,n_,n_] rfl rfl (by kernel_rfl) (by decide) (fun K hK=>?_);refine goes_ Try.func50 (by kernel_rfl) rfl #[.agg #[.int .i64 d5,.int .i64 d7,.int .i64 d9,.int .i64 e1]] (by rfl) rfl rfl (by (try simp only [m0_,m1_,m2_]);first|done|rfl|(simp only [l0_,l1_];rfl)) ?_;with_reducible refine (norm_quat_api.calls d5 d7 d9 e1 j9 l5 l7 n3 _ I2.1).mono ?_
   rintro e T9 ⟨rfl,hb⟩;refine ⟨_,rfl,?_⟩;replace F:=rbl F hb;replace C:=bkb C hb;replace B:=bkb B hb;replace D:=bkb D hb;replace E:=bkb E hb;replace L:=bkb L hb;replace O:=bkb O hb;replace Q:=bst Q hb;(try clear hb);refine hK.out _ _ ⟨q0_ L,q1_ L,q2_ L,q3_ L,q0_ O,q1_ O,q2_ O,q3_ O⟩ (fun J=>?_);clear hK K;refine norm_ (a':=?_) ?_ ?_;rotate_left
   ·
    show Act.put _ (some 36) _=_;simp only [Act.put,s0_,s1_,s2_,i64_w,i32_w];rfl
   refine one_ (i:=4) (N:=none) #[y_,y_,y_,y_,y_,n_,n_] rfl rfl (by kernel_rfl) (by decide) (fun K hK=>?_);have Q8:=q0_ D;have M8:=blk_frozen D.1 0;have C8:=f7.1;have C9:=f9.1;have D0:=e9.1;have D1:=a1.1;have D2:=a5.1;have D3:=f8.1;have D4:=g0.1;have D5:=e8.1;have D6:=a8.1;have D7:=b0.1;have Q9:=q1_ D;have M9:=blk_frozen D.1 1;have R0:=q2_ D;have N0:=blk_frozen D.1 2;have R1:=q3_ D;have N1:=blk_frozen D.1 3;refine skip_ (w1:=?_) (by rfl) rfl ?_ ?_;rotate_left
   ·
    go_simp;rfl
   refine hK.out _ _ ⟨f4_ a1 J.1,f4_ a1 J.2.1,f4_ a1 J.2.2.1,f4_ a1 J.2.2.2.1,f4_ a5 J.2.2.2.2.1,f4_ a5 J.2.2.2.2.2.1,f4_ a5 J.2.2.2.2.2.2.1,f4_ a5 J.2.2.2.2.2.2.2⟩ (fun J=>?_);clear hK K;refine one_ (i:=5) (N:=none) #[y_,y_,y_,y_,y_,y_,n_] rfl rfl (by kernel_rfl) (by decide) (fun K hK=>?_);have R2:=q0_ E;have N2:=blk_frozen E.1 0;have D8:=g1.1;have D9:=g3.1;have E0:=e8.1;have E1:=a2.1;have E2:=V.1;have E3:=g2.1;have E4:=g4.1;have E5:=e9.1;have E6:=a9.1;have E7:=a6.1;have R3:=q1_ E;have N3:=blk_frozen E.1 1;have R4:=q2_ E;have N4:=blk_frozen E.1 2;have R5:=q3_ E;have N5:=blk_frozen E.1 3
   have E8:=a6.1;refine skip_ (w1:=?_) (by rfl) rfl ?_ ?_;rotate_left
   ·
    go_simp;rfl
   refine hK.out _ _ ⟨f4_ a2 J.1,f4_ a2 J.2.1,f4_ a2 J.2.2.1,f4_ a2 J.2.2.2.1,f4_ V J.2.2.2.2.1,f4_ V J.2.2.2.2.2.1,f4_ V J.2.2.2.2.2.2.1,f4_ V J.2.2.2.2.2.2.2⟩ (fun J=>?_);clear hK K;refine pure_ (i:=6) (N:=some 6) (v:=?_) (a':=?_) #[y_,y_,y_,y_,y_,y_,y_] rfl rfl (by kernel_rfl) (fun _ _ _ h=>h) (Or.inl ⟨by rfl,?_⟩) ?_ ?_;rotate_left
   ·
    intro w';go_simp;with_reducible rfl
   rotate_left
   ·
    simp only [Act.put,s0_,s1_,s2_,i64_w,i32_w];rfl
   refine done_ (by kernel_rfl) ?_;try go_wp2
   refine bodyPost_ret (results_list (rs:=[.cell 4 23,.cell 5 23,.tmp 6]) rfl (by simp) (.cell X 23 #[.int .i64 j8,.int .i64 l4,.int .i64 l6,.int .i64 n1] (0,0) _ rfl (by (iterate 4 refine blk_far ?_ e8.1 _);refine blk_put (cs:=#[.int .i64 j8,.int .i64 l4,.int .i64 l6,.int .i64 0]) ?_ 3 _ rfl;refine blk_put (cs:=#[.int .i64 j8,.int .i64 l4,.int .i64 0,.int .i64 0]) ?_ 2 _ rfl;refine blk_put (cs:=#[.int .i64 j8,.int .i64 0,.int .i64 0,.int .i64 0]) ?_ 1 _ rfl;refine blk_put (cs:=#[.int .i64 0,.int .i64 0,.int .i64 0,.int .i64 0]) ?_ 0 _ rfl;exact D.1) Try.underlying23 rfl (by kernel_rfl) (.cell Y 23 #[.int .i64 j9,.int .i64 l5,.int .i64 l7,.int .i64 n3] (0,0) _ rfl (by refine blk_put (cs:=#[.int .i64 j9,.int .i64 l5,.int .i64 l7,.int .i64 0]) ?_ 3 _ rfl;refine blk_put (cs:=#[.int .i64 j9,.int .i64 l5,.int .i64 0,.int .i64 0]) ?_ 2 _ rfl;refine blk_put (cs:=#[.int .i64 j9,.int .i64 0,.int .i64 0,.int .i64 0]) ?_ 1 _ rfl;refine blk_put (cs:=#[.int .i64 0,.int .i64 0,.int .i64 0,.int .i64 0]) ?_ 0 _ rfl;(iterate 4 refine blk_far ?_ e9.1 _);exact E.1) Try.underlying23 rfl (by kernel_rfl) (.tmp .nil)))) rfl ?_;exact ⟨by first|rfl|(simp [errW_none,errW_some] <;> rfl)|(simp [*,errW_none,errW_some] <;> rfl),by repeat (first|(with_reducible first|exact Q.1|apply below_alloc|apply pw_below_drewN|apply below_drew1|refine below_set ?_ i2.1|refine below_set ?_ i3.1|refine below_set ?_ i4.1|refine below_set ?_ i5.1|refine below_set ?_ c9.1|refine below_set ?_ d0.1)|exact Q.1)⟩
 ·
  rw [if_neg c4] at H;have c4b0:(g5 == 0)=false:=beq_eq_false_iff_ne.mpr c4;have c4b1:(g5 != 0)=true:=bne_iff_ne.mpr c4;simp only [Option.some.injEq,Prod.mk.injEq] at H;obtain ⟨rfl,rfl,rfl,rfl,rfl,rfl,rfl,rfl,rfl⟩:=H;go_enter Try.func17,Try.ntmps17;go_wp2_with (first|((with_reducible refine gate_dst (N:=2) rfl ?_);refine box_event ?hg (N:=2) ?hd (cs:=#[.int .i64 b9,.int .i64 c0,.int .i64 c1,.int .i64 c2]) (t:=23) ?hr ?_;(case hd=>rfl);(case hg=>rfl);(case hr=>first|(go_simp;done)|(go_simp;rfl));intro G hg U0 a7 hb;have C:=mk0 (a7);have i8:=szw hg Q;have i2:=i8;replace Q:=bst Q hb;clear hb a7 hg)|((with_reducible refine gate_dst (N:=3) rfl ?_);refine box_event ?hg (N:=3) ?hd (cs:=#[.int .i64 b5,.int .i64 b6,.int .i64 b7,.int .i64 b8]) (t:=23) ?hr ?_;(case hd=>rfl);(case hg=>rfl);(case hr=>first|(go_simp;done)|(go_simp;rfl));intro I hg U1 a7 hb;have B:=mk0 (a7);have i9:=szw hg Q;have i3:=i9;have g6:=nlt hg C;have g7:=ngt hg C;replace C:=bkb C hb;replace Q:=bst Q hb;clear hb a7 hg)|((with_reducible refine gate_dst (N:=4) rfl ?_);refine box_event ?hg (N:=4) ?hd (cs:=#[.int .i64 0,.int .i64 0,.int .i64 0,.int .i64 0]) (t:=23) ?hr ?_;(case hd=>rfl);(case hg=>rfl);(case hr=>first|(go_simp;done)|(go_simp;rfl));intro X hg U2 a7 hb;have D:=mk0 (a7);have j0:=szw hg Q;have i4:=j0;have f7:=nlt hg C;have f8:=ngt hg C;have f9:=nlt hg B;have g0:=ngt hg B;replace C:=bkb C hb;replace B:=bkb B hb;replace Q:=bst Q hb;clear hb a7 hg)|((with_reducible refine gate_dst (N:=5) rfl ?_);refine box_event ?hg (N:=5) ?hd (cs:=#[.int .i64 0,.int .i64 0,.int .i64 0,.int .i64 0]) (t:=23) ?hr ?_;(case hd=>rfl);(case hg=>rfl);(case hr=>first|(go_simp;done)|(go_simp;rfl));intro Y hg U3 a7 hb;have E:=mk0 (a7);have j1:=szw hg Q;have i5:=j1;have g1:=nlt hg C;have g2:=ngt hg C;have g3:=nlt hg B;have g4:=ngt hg B;have e8:=nlt hg D;have e9:=ngt hg D;replace C:=bkb C hb;replace B:=bkb B hb;replace D:=bkb D hb;replace Q:=bst Q hb;clear hb a7 hg;have N6:=g6.1;have N7:=g7.1;have N8:=f7.1;have N9:=f8.1;have O0:=g1.1;have O1:=g2.1;have E9:=q0_ C;have F0:=q1_ C;have F1:=q2_ C;have F2:=q3_ C;have F3:=blk_frozen C.1 0;have F4:=blk_frozen C.1 1;have F5:=blk_frozen C.1 2;have F6:=blk_frozen C.1 3;have O2:=f9.1;have O3:=g0.1;have O4:=g3.1;have O5:=g4.1;have F7:=q0_ B;have F8:=q1_ B;have F9:=q2_ B;have G0:=q3_ B;have G1:=blk_frozen B.1 0;have G2:=blk_frozen B.1 1;have G3:=blk_frozen B.1 2;have G4:=blk_frozen B.1 3)|((with_reducible refine gate_dst (N:=12) rfl ?_);refine Kd.R_lit k23 _ 23 ?hg (N:=12) ?hd (xs:=([(⟨b9,c0,c1,c2⟩:S23),(⟨b5,b6,b7,b8⟩:S23)]:List (S23))) (inner:=[.int .i64 b9,.int .i64 c0,.int .i64 c1,.int .i64 c2,.int .i64 b5,.int .i64 b6,.int .i64 b7,.int .i64 b8]) (ok:=fun _=>True) (okp:=fun _=>True) ?hr ?hp (fun _ hk=>hk) trivial (Below.refl _ _) (Nat.le_refl _) (by simp) ?_;(case hd=>rfl);(case hg=>rfl);(case hr=>first|(go_simp;done)|(go_simp;rfl));(case hp=>exact (Reps.c4 (show Kd.M k23 _ _ _ (⟨b9,c0,c1,c2⟩:S23) [.int .i64 b9,.int .i64 c0,.int .i64 c1,.int .i64 c2] from (k23_mkM _ _ _ (⟨b9,c0,c1,c2⟩:S23) )) (Reps.c4 (show Kd.M k23 _ _ _ (⟨b5,b6,b7,b8⟩:S23) [.int .i64 b5,.int .i64 b6,.int .i64 b7,.int .i64 b8] from (k23_mkM _ _ _ (⟨b5,b6,b7,b8⟩:S23) )) (Reps.none _ _))));intro m7 U4 l1 hb hg_ j2;clear hg_ j2;(first|rw [← i1.1] at l1|(simp only [Int.reduceToNat] at l1;rw [← i1.1] at l1));have F:=mk0 (Kd.R_lower (Kd.R_newB (Kd.R_newB (Kd.R_newB (Kd.R_newB l1 (g:=G) (o:=.cells #[.int .i64 b9,.int .i64 c0,.int .i64 c1,.int .i64 c2] 23 (0,0)) C.1) (g:=I) (o:=.cells #[.int .i64 b5,.int .i64 b6,.int .i64 b7,.int .i64 b8] 23 (0,0)) B.1) (g:=X) (o:=.cells #[.int .i64 0,.int .i64 0,.int .i64 0,.int .i64 0] 23 (0,0)) D.1) (g:=Y) (o:=.cells #[.int .i64 0,.int .i64 0,.int .i64 0,.int .i64 0] 23 (0,0)) E.1) (below_size Q.1));replace C:=bkb C hb;replace B:=bkb B hb;replace D:=bkb D hb;replace E:=bkb E hb;replace Q:=bst Q hb;clear hb l1;obtain ⟨r0,s8,s9⟩:=Kd.R_slice F.1;subst s9)|((with_reducible refine gate_callee (f:=47) rfl ?_);refine goesL_ (some 13) rfl rfl Try.func47 (by kernel_rfl) rfl #[.slice r0 d3.length s8] rfl (by (try simp only [m0_,m1_,m2_]);first|done|rfl|(simp only [l0_,l1_];rfl)) ?_;(with_reducible refine (norm_check.calls k _ _ d3 g5 _ ?side1 ?side2 A3.1).mono ?_);(case side1=>repeat (first|exact (Kd.R_reads' F.1).2.2|(with_reducible refine Kd.C_alloc ?_ _)|(with_reducible refine Kd.C_drewN ?_ _)|(with_reducible refine Kd.C_drew ?_)));(case side2=>exact (Kd.R_reads' F.1).2.1);rintro e U5 ⟨rfl,hb⟩;refine ⟨_,rfl,?_⟩;replace F:=rbl F hb;replace C:=bkb C hb;replace B:=bkb B hb;replace D:=bkb D hb;replace E:=bkb E hb;replace Q:=bst Q hb;(try clear hb);(try clear hk);have O6:=e8.1;have O7:=e9.1;have G5:=q0_ D;have G6:=q1_ D;have G7:=q2_ D;have G8:=q3_ D;have G9:=blk_frozen D.1 0;have H0:=blk_frozen D.1 1;have H1:=blk_frozen D.1 2;have H2:=blk_frozen D.1 3;have H3:=q0_ E;have H4:=q1_ E;have H5:=q2_ E;have H6:=q3_ E;have H7:=blk_frozen E.1 0;have H8:=blk_frozen E.1 1;have H9:=blk_frozen E.1 2;have I0:=blk_frozen E.1 3))
  refine bodyPost_ret (results_list (rs:=[.cell 4 23,.cell 5 23,.tmp 6]) rfl (by simp) (.cell X 23 #[.int .i64 0,.int .i64 0,.int .i64 0,.int .i64 0] (0,0) _ rfl (by (iterate 4 refine blk_far ?_ e8.1 _);refine blk_put (cs:=#[.int .i64 0,.int .i64 0,.int .i64 0,.int .i64 0]) ?_ 3 _ rfl;refine blk_put (cs:=#[.int .i64 0,.int .i64 0,.int .i64 0,.int .i64 0]) ?_ 2 _ rfl;refine blk_put (cs:=#[.int .i64 0,.int .i64 0,.int .i64 0,.int .i64 0]) ?_ 1 _ rfl;refine blk_put (cs:=#[.int .i64 0,.int .i64 0,.int .i64 0,.int .i64 0]) ?_ 0 _ rfl;exact D.1) Try.underlying23 rfl (by kernel_rfl) (.cell Y 23 #[.int .i64 0,.int .i64 0,.int .i64 0,.int .i64 0] (0,0) _ rfl (by refine blk_put (cs:=#[.int .i64 0,.int .i64 0,.int .i64 0,.int .i64 0]) ?_ 3 _ rfl;refine blk_put (cs:=#[.int .i64 0,.int .i64 0,.int .i64 0,.int .i64 0]) ?_ 2 _ rfl;refine blk_put (cs:=#[.int .i64 0,.int .i64 0,.int .i64 0,.int .i64 0]) ?_ 1 _ rfl;refine blk_put (cs:=#[.int .i64 0,.int .i64 0,.int .i64 0,.int .i64 0]) ?_ 0 _ rfl;(iterate 4 refine blk_far ?_ e9.1 _);exact E.1) Try.underlying23 rfl (by kernel_rfl) (.tmp .nil)))) rfl ?_;exact ⟨by first|rfl|(simp [errW_none,errW_some] <;> rfl)|(simp [*,errW_none,errW_some] <;> rfl),by repeat (first|(with_reducible first|exact Q.1|apply below_alloc|apply pw_below_drewN|apply below_drew1|refine below_set ?_ i2.1|refine below_set ?_ i3.1|refine below_set ?_ i4.1|refine below_set ?_ i5.1)|exact Q.1)⟩
/-! ### norm_units: function 53 -/
mutual
def norm_units.l0:Nat → List (S67) → Int → Option ((List (S67)))
  | 0,_,_=>none
  | k + 1,x1,x2=>if x2 ≤ 2 then (norm_units.l1 k x1 x2 (-2)) else (some x1)
def norm_units.l1:Nat → List (S67) → Int → Int → Option ((List (S67)))
  | 0,_,_,_=>none
  | k + 1,x1,x2,x3=>if x3 ≤ 2 then (norm_units.l2 k x1 x2 x3 (-2)) else (norm_units.l0 k x1 (wrap64 (x2 + 1)))
def norm_units.l2:Nat → List (S67) → Int → Int → Int → Option ((List (S67)))
  | 0,_,_,_,_=>none
  | k + 1,x1,x2,x3,x4=>if x4 ≤ 2 then (norm_units.l3 k x1 x2 x3 x4 (-2)) else (norm_units.l1 k x1 x2 (wrap64 (x3 + 1)))
def norm_units.l3:Nat → List (S67) → Int → Int → Int → Int → Option ((List (S67)))
  | 0,_,_,_,_,_=>none
  | k + 1,x1,x2,x3,x4,x5=>if x5 ≤ 2 then ((norm_quat_integral.f k x2 x3 x4 x5).bind fun t220=>(if t220=true then ((norm_quat_norm.f x2 x3 x4 x5).bind fun t221=>(if t221=1 then (if x1.length < 4398046511104 then (norm_units.l3 k (x1 ++ [(⟨x2,x3,x4,x5⟩:S67)]) x2 x3 x4 (wrap64 (x5 + 1))) else (none)) else (norm_units.l3 k x1 x2 x3 x4 (wrap64 (x5 + 1))))) else (norm_units.l3 k x1 x2 x3 x4 (wrap64 (x5 + 1))))) else (norm_units.l2 k x1 x2 x3 (wrap64 (x4 + 1)))
end
def norm_units.f (k:Nat) :Option ((List (S67))):=norm_units.l0 k ([]:List (S67)) (-2)
theorem norm_units.mono_l:∀ k,(∀ B C,LeO (norm_units.l0 k B C) (norm_units.l0 (k + 1) B C))∧(∀ B C D,LeO (norm_units.l1 k B C D) (norm_units.l1 (k + 1) B C D))∧(∀ B C D E,LeO (norm_units.l2 k B C D E) (norm_units.l2 (k + 1) B C D E))∧(∀ B C D E L,LeO (norm_units.l3 k B C D E L) (norm_units.l3 (k + 1) B C D E L))
  | 0=>⟨fun _ _ r h=>by simp [norm_units.l0] at h,fun _ _ _ r h=>by simp [norm_units.l1] at h,fun _ _ _ _ r h=>by simp [norm_units.l2] at h,fun _ _ _ _ _ r h=>by simp [norm_units.l3] at h⟩
  | k + 1=>by
    obtain ⟨F,G,I,J⟩:=norm_units.mono_l k
    refine ⟨?_,?_,?_,?_⟩
    · intro B C
      unfold norm_units.l0
      with_reducible repeat' first|exact F _ _|exact G _ _ _|exact I _ _ _ _|exact J _ _ _ _ _|exact norm_quat_integral.mono _ _ _ _ _|exact LeO.refl _|exact LeO.none _|refine LeO.ite ?_ ?_|refine LeO.bind ?_ (fun _=>?_)
    · intro B C D
      unfold norm_units.l1
      with_reducible repeat' first|exact F _ _|exact G _ _ _|exact I _ _ _ _|exact J _ _ _ _ _|exact norm_quat_integral.mono _ _ _ _ _|exact LeO.refl _|exact LeO.none _|refine LeO.ite ?_ ?_|refine LeO.bind ?_ (fun _=>?_)
    · intro B C D E
      unfold norm_units.l2
      with_reducible repeat' first|exact F _ _|exact G _ _ _|exact I _ _ _ _|exact J _ _ _ _ _|exact norm_quat_integral.mono _ _ _ _ _|exact LeO.refl _|exact LeO.none _|refine LeO.ite ?_ ?_|refine LeO.bind ?_ (fun _=>?_)
    · intro B C D E L
      unfold norm_units.l3
      with_reducible repeat' first|exact F _ _|exact G _ _ _|exact I _ _ _ _|exact J _ _ _ _ _|exact norm_quat_integral.mono _ _ _ _ _|exact LeO.refl _|exact LeO.none _|refine LeO.ite ?_ ?_|refine LeO.bind ?_ (fun _=>?_)
theorem norm_units.mono:∀ k,LeO (norm_units.f k ) (norm_units.f (k + 1) ):=by
  intro  k
  obtain ⟨ih0,ih1,ih2,ih3⟩:=norm_units.mono_l k
  unfold norm_units.f
  with_reducible repeat' first|exact ih0 _ _|exact ih1 _ _ _|exact ih2 _ _ _ _|exact ih3 _ _ _ _ _|exact norm_quat_integral.mono _ _ _ _ _|exact LeO.refl _|exact LeO.none _|refine LeO.ite ?_ ?_|refine LeO.bind ?_ (fun _=>?_)
set_option maxHeartbeats 8000000 in
set_option maxRecDepth 100000 in
theorem norm_units.calls (k:Nat)  (r:List (S67)) (w:World) (h:norm_units.f k =some r) :
    Calls Try.prog 53 #[] w fun e w'=>∃ b0:Value,e=.returned (b0)∧Kd.R k67 67 w' w.heap.size (fun _=>True) b0 r∧Below w.heap.size w w':=by
 have h2:=Try.underlying67;have J:=mk0 (Below.refl w.heap.size w);have H:(norm_units.l0 k ([]:List (S67)) (-2))=some r:=h;clear h;have H':=mk0 H;clear H;go_enter Try.func53,Try.ntmps53;go_wp2
 go_loopg [1,2] k (fun kq v1 v2 w'=>∃ (a2:List (S67)) (C:Int),v2=.int .i64 C∧Aside0 (norm_units.l0 kq a2 C=some r)∧Aside0 (kq ≤ k)∧Aside0 (Kd.R k67 67 w' w.heap.size (fun _=>True) v1 a2)∧Aside0 (Below w.heap.size w w'))
 case atStart=>exact ⟨(([]:List (S67))),((-2)),(by first|rfl|(simp;done)|(simp [*];done)),H',⟨Nat.le_refl _⟩,⟨by first|exact Kd.R_nil _ _ _ _ _|exact Kd.N_nil _ _ _ _ _|exact Kd.V_nil _ _ _ _ _|exact Kd.Q_nil _ _ _ _ _|exact Kd.S_nil _ _ _ _ _⟩,⟨by repeat (first|(with_reducible first|exact J.1|apply below_alloc|apply pw_below_drewN|apply below_drew1)|exact J.1)⟩⟩
 case round =>
  clear H';obtain ⟨a2,C,rfl,HA,Q,I,J⟩:=hrel;cases gk with
  | zero=>exact absurd HA.1 (by simp [norm_units.l0])
  | succ k1 =>
   have H:=HA.1;clear HA;simp only [norm_units.l0] at H
   by_cases c1:C ≤ 2
   ·
    rw [if_pos c1] at H;have c1b0:decide (C ≤ 2)=true:=decide_eq_true c1;clear c1;have H':=mk0 H;clear H;go_wp2
    go_loopg [1,3] k1 (fun kq v1 v3 w'=>∃ (a0:List (S67)) (D:Int),v3=.int .i64 D∧Aside0 (norm_units.l1 kq a0 C D=some r)∧Aside0 (kq ≤ k1)∧Aside0 (Kd.R k67 67 w' w.heap.size (fun _=>True) v1 a0)∧Aside0 (Below w.heap.size w w'))
    case atStart=>exact ⟨(a2),((-2)),(by first|rfl|(simp;done)|(simp [*];done)),H',⟨Nat.le_refl _⟩,⟨by (with_reducible repeat (first|apply Kd.R_alloc|apply Kd.R_drewN|apply Kd.R_drew));exact I.1⟩,⟨by repeat (first|(with_reducible first|exact J.1|apply below_alloc|apply pw_below_drewN|apply below_drew1)|exact J.1)⟩⟩
    case round =>
     clear H';try clear c1
     try clear c1b0
     obtain ⟨a0,D,rfl,HA,T,I,J⟩:=hrel;cases gk with
     | zero=>exact absurd HA.1 (by simp [norm_units.l1])
     | succ k2 =>
      have H:=HA.1;clear HA;simp only [norm_units.l1] at H
      by_cases c2:D ≤ 2
      ·
       rw [if_pos c2] at H;have c2b0:decide (D ≤ 2)=true:=decide_eq_true c2;clear c2;have H':=mk0 H;clear H;go_wp2
       go_loopg [1,4] k2 (fun kq v1 v4 w'=>∃ (a1:List (S67)) (E:Int),v4=.int .i64 E∧Aside0 (norm_units.l2 kq a1 C D E=some r)∧Aside0 (kq ≤ k2)∧Aside0 (Kd.R k67 67 w' w.heap.size (fun _=>True) v1 a1)∧Aside0 (Below w.heap.size w w'))
       case atStart=>exact ⟨(a0),((-2)),(by first|rfl|(simp;done)|(simp [*];done)),H',⟨Nat.le_refl _⟩,⟨by (with_reducible repeat (first|apply Kd.R_alloc|apply Kd.R_drewN|apply Kd.R_drew));exact I.1⟩,⟨by repeat (first|(with_reducible first|exact J.1|apply below_alloc|apply pw_below_drewN|apply below_drew1)|exact J.1)⟩⟩
       case round =>
        clear H';try clear c1
        try clear c1b0
        try clear c2
        try clear c2b0
        try clear p2
        obtain ⟨a1,E,rfl,HA,V,I,J⟩:=hrel;cases gk with
        | zero=>exact absurd HA.1 (by simp [norm_units.l2])
        | succ k3 =>
         have H:=HA.1;clear HA;simp only [norm_units.l2] at H
         by_cases c3:E ≤ 2
         ·
          rw [if_pos c3] at H;have c3b0:decide (E ≤ 2)=true:=decide_eq_true c3;clear c3;have H':=mk0 H;clear H;go_wp2
          go_loopg [1,5] k3 (fun kq v1 v5 w'=>∃ (L:List (S67)) (F:Int),v5=.int .i64 F∧Aside0 (norm_units.l3 kq L C D E F=some r)∧Aside0 (kq ≤ k3)∧Aside0 (Kd.R k67 67 w' w.heap.size (fun _=>True) v1 L)∧Aside0 (Below w.heap.size w w'))
          case atStart=>exact ⟨(a1),((-2)),(by first|rfl|(simp;done)|(simp [*];done)),H',⟨Nat.le_refl _⟩,⟨by (with_reducible repeat (first|apply Kd.R_alloc|apply Kd.R_drewN|apply Kd.R_drew));exact I.1⟩,⟨by repeat (first|(with_reducible first|exact J.1|apply below_alloc|apply pw_below_drewN|apply below_drew1)|exact J.1)⟩⟩
          case round =>
           clear H';try clear c1
           try clear c1b0
           try clear c2
           try clear c2b0
           try clear p2
           try clear c3
           try clear c3b0
           try clear p2
           obtain ⟨L,F,rfl,HA,Z,I,J⟩:=hrel;cases gk with
           | zero=>exact absurd HA.1 (by simp [norm_units.l3])
           | succ k4 =>
            have H:=HA.1;clear HA;simp only [norm_units.l3] at H
            by_cases c4:F ≤ 2
            ·
             rw [if_pos c4] at H;have c4b0:decide (F ≤ 2)=true:=decide_eq_true c4;clear c4;replace H:=Option.bind_eq_some_iff.mp H;obtain ⟨b3,b1,H⟩:=H;(try dsimp only at H);have A5:=mk0 b1;clear b1
             by_cases c6:b3=true
             ·
              subst c6;have H1:((norm_quat_norm.f C D E F).bind fun O=>(if O=1 then (if L.length < 4398046511104 then (norm_units.l3 k4 (L ++ [(⟨C,D,E,F⟩:S67)]) C D E (wrap64 (F + 1))) else (none)) else (norm_units.l3 k4 L C D E (wrap64 (F + 1)))))=some r:=by rw [if_pos rfl] at H;exact H
              clear H;have H:=H1;clear H1;replace H:=Option.bind_eq_some_iff.mp H;obtain ⟨O,b2,H⟩:=H;(try dsimp only at H);have A7:=mk0 b2;clear b2
              by_cases c8:O=1
              ·
               rw [if_pos c8] at H;have c8b0:(O == 1)=true:=beq_iff_eq.mpr c8;have c8b1:(O != 1)=false:=bne_eq_false_iff_eq.mpr c8;clear c8
               by_cases c9:L.length < 4398046511104
               ·
                rw [if_pos c9] at H;have b5:=mk0 c9;clear c9;obtain ⟨a5,X⟩:∃ y_:List (S67),y_=(L ++ [(⟨C,D,E,F⟩:S67)]):=⟨_,rfl⟩
                replace H:(norm_units.l3 k4 a5 C D E (wrap64 (F + 1)))=some r:=by first|(rw [X];with_reducible exact H)|(have a6:=(Option.bind_some _ _).symm.trans H;rw [X];with_reducible exact a6)|(have a6:=(Option.bind_some _ _).symm.trans H;with_reducible exact a6)|with_reducible exact H|(rw [X];exact H)|exact H
                have a8:=mk0 X;clear X;have H':=mk0 H;clear H;go_wp2_with (first|((with_reducible refine gate_dst (N:=6) rfl ?_);refine box_event ?hg (N:=6) ?hd (cs:=#[.int .i64 0,.int .i64 0,.int .i64 0,.int .i64 0]) (t:=67) ?hr ?_;(case hd=>rfl);(case hg=>rfl);(case hr=>first|(go_simp;done)|(go_simp;rfl));intro G hg h8 U hb;have B:=mk0 (U);have Y:=szw hg J;have M:=Y;replace I:=mk0 (Kd.R_below (Kd.R_elderB I.1 G (Nat.le_of_eq hg.symm)) hb);replace J:=bst J hb;clear hb U hg;have b6:=q0_ B;have b7:=q1_ B;have b8:=q2_ B;have b9:=q3_ B;have c0:=blk_frozen B.1 0;have c5:=blk_frozen B.1 1;have c7:=blk_frozen B.1 2;have d0:=blk_frozen B.1 3)|((with_reducible refine gate_callee (f:=68) rfl ?_);refine goesL_ (some 29) rfl rfl Try.func68 (by kernel_rfl) rfl #[.agg #[.int .i64 C,.int .i64 D,.int .i64 E,.int .i64 F]] rfl (by (try simp only [m0_,m1_,m2_]);first|done|rfl|(simp only [l0_,l1_];rfl)) ?_;(with_reducible refine (norm_quat_integral.calls k4 C D E F true _ A5.1).mono ?_);rintro e h9 ⟨rfl,hb⟩;refine ⟨_,rfl,?_⟩;replace I:=mk0 (Kd.R_below (by (with_reducible repeat (first|apply Kd.R_alloc|apply Kd.R_drewN|apply Kd.R_drew));exact (Kd.R_mono (Kd.R_far (p:=⟨G,3,none⟩) (Kd.R_far (p:=⟨G,2,none⟩) (Kd.R_far (p:=⟨G,1,none⟩) (Kd.R_far (p:=⟨G,0,none⟩) (Kd.R_mono I.1 (fun k_ hk=>(⟨hk,hk.2⟩:_∧k_ ≠ G))) (fun _ hk=>hk.2) (.int .i64 C)) (fun _ hk=>hk.2) (.int .i64 D)) (fun _ hk=>hk.2) (.int .i64 E)) (fun _ hk=>hk.2) (.int .i64 F)) (fun _ h_=>h_.1))) hb);replace B:=mk0 (blk_below (g:=G) (o:=.cells #[.int .i64 C,.int .i64 D,.int .i64 E,.int .i64 F] 67 (0,0)) (by refine blk_put (cs:=#[.int .i64 C,.int .i64 D,.int .i64 E,.int .i64 0]) ?_ 3 _ rfl;refine blk_put (cs:=#[.int .i64 C,.int .i64 D,.int .i64 0,.int .i64 0]) ?_ 2 _ rfl;refine blk_put (cs:=#[.int .i64 C,.int .i64 0,.int .i64 0,.int .i64 0]) ?_ 1 _ rfl;refine blk_put (cs:=#[.int .i64 0,.int .i64 0,.int .i64 0,.int .i64 0]) ?_ 0 _ rfl;exact B.1) hb);replace J:=mk0 (below_step (by repeat (with_reducible first|exact J.1|refine below_set ?_ M.1)) hb);(try clear hb);(try clear hk);have d1:=q0_ B;have d2:=q1_ B;have d3:=q2_ B;have d4:=q3_ B;have d5:=blk_frozen B.1 0;have d6:=blk_frozen B.1 1;have d7:=blk_frozen B.1 2;have d8:=blk_frozen B.1 3)|(go_at_call 66;(with_reducible refine (norm_quat_norm.calls C D E F O _ A7.1).mono ?_);rintro e i0 ⟨rfl,hb⟩;replace I:=rbl I hb;replace B:=bkb B hb;replace J:=bst J hb;(try clear hb);(try clear hk);have d9:=q0_ B;have e0:=q1_ B;have e1:=q2_ B;have e2:=q3_ B;have e3:=blk_frozen B.1 0;have e4:=blk_frozen B.1 1;have e5:=blk_frozen B.1 2;have e6:=blk_frozen B.1 3)|((with_reducible refine gate_builtin (b:=.append) (xs:=#[.tmp 35,.tmp 37]) rfl ?_);at_builtin;refine Kd.R_append k67 (w0:=w) w.heap.size rfl (.tmp 35) (.tmp 37) 74 67 (.agg #[(.int .i64 0),(.int .i64 0),(.int .i64 0),(.int .i64 0)]) 32 rfl Try.underlying74 info67 rfl (by decide) (by omega) u1 L (⟨C,D,E,F⟩:S67) [.int .i64 C,.int .i64 D,.int .i64 E,.int .i64 F] (fun k_=>k_ ≠ G) (fun _=>False) rfl rfl ?aP (fun _ hk=>hk.elim) ?aF ?aO ?aB ?aS ?aL ?_;(case aP=>exact k67_mkM _ _ _ (⟨C,D,E,F⟩:S67));(case aB=>exact (by repeat (first|(with_reducible first|exact J.1|apply below_alloc|apply pw_below_drewN|apply below_drew1|refine below_set ?_ M.1)|exact J.1)));(case aF=>exact (fun k_ hk=>Kd.freshB (g:=G) (o:=.cells #[.int .i64 C,.int .i64 D,.int .i64 E,.int .i64 F] 67 (0,0)) (by (with_reducible repeat (first|refine blk_drewN ?_ _|refine blk_drew ?_|refine blk_alloc ?_ _));exact B.1) k_ hk));(case aO=>exact (by (with_reducible repeat (first|apply Kd.R_alloc|apply Kd.R_drewN|apply Kd.R_drew));exact Kd.R_mono I.1 (fun _ hk=>hk.2)));(case aS=>exact (below_size (by repeat (first|(with_reducible first|exact J.1|apply below_alloc|apply pw_below_drewN|apply below_drew1|refine below_set ?_ M.1)|exact J.1))));(case aL=>have:=b5.1;omega);intro h7 i1 ho hb hg hat;rw [← a8.1] at ho;have a9:=mk0 (ho);replace B:=mk0 (blk_grown (g:=G) (o:=.cells #[.int .i64 C,.int .i64 D,.int .i64 E,.int .i64 F] 67 (0,0)) (by (with_reducible repeat (first|refine blk_drewN ?_ _|refine blk_drew ?_|refine blk_alloc ?_ _));exact B.1) hg (Kd.R_away I.1 (fun _ hk=>hk.2)));replace J:=mk0 (hb);clear I;clear ho hb hg hat))
                go_roundg k4
                case measure=>have:=Q.1;have:=T.1;have:=V.1;have:=Z.1;omega
                case rel=>exact ⟨(a5),(wrap64 (F + 1)),(by first|rfl|(simp;done)|(simp [*];done)),H',⟨by have:=Q.1;have:=T.1;have:=V.1;have:=Z.1;omega⟩,⟨by (with_reducible repeat (first|apply Kd.R_alloc|apply Kd.R_drewN|apply Kd.R_drew));exact Kd.R_mono a9.1 (fun _ hk=>trivial)⟩,⟨by repeat (first|(with_reducible first|exact J.1|apply below_alloc|apply pw_below_drewN|apply below_drew1|refine below_set ?_ M.1)|exact J.1)⟩⟩
               ·
                rw [if_neg c9] at H;exact absurd H (by simp)
              ·
               rw [if_neg c8] at H;have c8b0:(O == 1)=false:=beq_eq_false_iff_ne.mpr c8;have c8b1:(O != 1)=true:=bne_iff_ne.mpr c8;have H':=mk0 H;clear H;go_wp2_with (first|((with_reducible refine gate_dst (N:=6) rfl ?_);refine box_event ?hg (N:=6) ?hd (cs:=#[.int .i64 0,.int .i64 0,.int .i64 0,.int .i64 0]) (t:=67) ?hr ?_;(case hd=>rfl);(case hg=>rfl);(case hr=>first|(go_simp;done)|(go_simp;rfl));intro G hg i2 U hb;have B:=mk0 (U);have Y:=szw hg J;have M:=Y;replace I:=mk0 (Kd.R_below (Kd.R_elderB I.1 G (Nat.le_of_eq hg.symm)) hb);replace J:=bst J hb;clear hb U hg;have e7:=q0_ B;have e8:=q1_ B;have e9:=q2_ B;have f0:=q3_ B;have f1:=blk_frozen B.1 0;have f2:=blk_frozen B.1 1;have f3:=blk_frozen B.1 2;have f4:=blk_frozen B.1 3)|((with_reducible refine gate_callee (f:=68) rfl ?_);refine goesL_ (some 29) rfl rfl Try.func68 (by kernel_rfl) rfl #[.agg #[.int .i64 C,.int .i64 D,.int .i64 E,.int .i64 F]] rfl (by (try simp only [m0_,m1_,m2_]);first|done|rfl|(simp only [l0_,l1_];rfl)) ?_;(with_reducible refine (norm_quat_integral.calls k4 C D E F true _ A5.1).mono ?_);rintro e i3 ⟨rfl,hb⟩;refine ⟨_,rfl,?_⟩;replace I:=mk0 (Kd.R_below (by (with_reducible repeat (first|apply Kd.R_alloc|apply Kd.R_drewN|apply Kd.R_drew));exact (Kd.R_mono (Kd.R_far (p:=⟨G,3,none⟩) (Kd.R_far (p:=⟨G,2,none⟩) (Kd.R_far (p:=⟨G,1,none⟩) (Kd.R_far (p:=⟨G,0,none⟩) (Kd.R_mono I.1 (fun k_ hk=>(⟨hk,hk.2⟩:_∧k_ ≠ G))) (fun _ hk=>hk.2) (.int .i64 C)) (fun _ hk=>hk.2) (.int .i64 D)) (fun _ hk=>hk.2) (.int .i64 E)) (fun _ hk=>hk.2) (.int .i64 F)) (fun _ h_=>h_.1))) hb);replace B:=mk0 (blk_below (g:=G) (o:=.cells #[.int .i64 C,.int .i64 D,.int .i64 E,.int .i64 F] 67 (0,0)) (by refine blk_put (cs:=#[.int .i64 C,.int .i64 D,.int .i64 E,.int .i64 0]) ?_ 3 _ rfl;refine blk_put (cs:=#[.int .i64 C,.int .i64 D,.int .i64 0,.int .i64 0]) ?_ 2 _ rfl;refine blk_put (cs:=#[.int .i64 C,.int .i64 0,.int .i64 0,.int .i64 0]) ?_ 1 _ rfl;refine blk_put (cs:=#[.int .i64 0,.int .i64 0,.int .i64 0,.int .i64 0]) ?_ 0 _ rfl;exact B.1) hb);replace J:=mk0 (below_step (by repeat (with_reducible first|exact J.1|refine below_set ?_ M.1)) hb);(try clear hb);(try clear hk);have f5:=q0_ B;have f6:=q1_ B;have f7:=q2_ B;have f8:=q3_ B;have f9:=blk_frozen B.1 0;have g0:=blk_frozen B.1 1;have g1:=blk_frozen B.1 2;have g2:=blk_frozen B.1 3)|(go_at_call 66;(with_reducible refine (norm_quat_norm.calls C D E F O _ A7.1).mono ?_);rintro e i4 ⟨rfl,hb⟩;replace I:=rbl I hb;replace B:=bkb B hb;replace J:=bst J hb;(try clear hb);(try clear hk)));go_roundg k4
               case measure=>have:=Q.1;have:=T.1;have:=V.1;have:=Z.1;omega
               case rel=>exact ⟨(L),(wrap64 (F + 1)),(by first|rfl|(simp;done)|(simp [*];done)),H',⟨by have:=Q.1;have:=T.1;have:=V.1;have:=Z.1;omega⟩,⟨by (with_reducible repeat (first|apply Kd.R_alloc|apply Kd.R_drewN|apply Kd.R_drew));exact Kd.R_mono I.1 (fun _ hk=>trivial)⟩,⟨by repeat (first|(with_reducible first|exact J.1|apply below_alloc|apply pw_below_drewN|apply below_drew1|refine below_set ?_ M.1)|exact J.1)⟩⟩
             ·
              replace c6:=Bool.eq_false_iff.mpr c6;subst c6;have H1:(norm_units.l3 k4 L C D E (wrap64 (F + 1)))=some r:=by rw [if_neg (show ¬ (false=true) by decide)] at H;exact H
              clear H;have H:=H1;clear H1;have H':=mk0 H;clear H;go_wp2_with (first|((with_reducible refine gate_dst (N:=6) rfl ?_);refine box_event ?hg (N:=6) ?hd (cs:=#[.int .i64 0,.int .i64 0,.int .i64 0,.int .i64 0]) (t:=67) ?hr ?_;(case hd=>rfl);(case hg=>rfl);(case hr=>first|(go_simp;done)|(go_simp;rfl));intro G hg i5 U hb;have B:=mk0 (U);have Y:=szw hg J;have M:=Y;replace I:=mk0 (Kd.R_below (Kd.R_elderB I.1 G (Nat.le_of_eq hg.symm)) hb);replace J:=bst J hb;clear hb U hg;have g3:=q0_ B;have g4:=q1_ B;have g5:=q2_ B;have g6:=q3_ B;have g7:=blk_frozen B.1 0;have g8:=blk_frozen B.1 1;have g9:=blk_frozen B.1 2;have h0:=blk_frozen B.1 3)|((with_reducible refine gate_callee (f:=68) rfl ?_);refine goesL_ (some 29) rfl rfl Try.func68 (by kernel_rfl) rfl #[.agg #[.int .i64 C,.int .i64 D,.int .i64 E,.int .i64 F]] rfl (by (try simp only [m0_,m1_,m2_]);first|done|rfl|(simp only [l0_,l1_];rfl)) ?_;(with_reducible refine (norm_quat_integral.calls k4 C D E F false _ A5.1).mono ?_);rintro e i6 ⟨rfl,hb⟩;refine ⟨_,rfl,?_⟩;replace I:=mk0 (Kd.R_below (by (with_reducible repeat (first|apply Kd.R_alloc|apply Kd.R_drewN|apply Kd.R_drew));exact (Kd.R_mono (Kd.R_far (p:=⟨G,3,none⟩) (Kd.R_far (p:=⟨G,2,none⟩) (Kd.R_far (p:=⟨G,1,none⟩) (Kd.R_far (p:=⟨G,0,none⟩) (Kd.R_mono I.1 (fun k_ hk=>(⟨hk,hk.2⟩:_∧k_ ≠ G))) (fun _ hk=>hk.2) (.int .i64 C)) (fun _ hk=>hk.2) (.int .i64 D)) (fun _ hk=>hk.2) (.int .i64 E)) (fun _ hk=>hk.2) (.int .i64 F)) (fun _ h_=>h_.1))) hb);replace B:=mk0 (blk_below (g:=G) (o:=.cells #[.int .i64 C,.int .i64 D,.int .i64 E,.int .i64 F] 67 (0,0)) (by refine blk_put (cs:=#[.int .i64 C,.int .i64 D,.int .i64 E,.int .i64 0]) ?_ 3 _ rfl;refine blk_put (cs:=#[.int .i64 C,.int .i64 D,.int .i64 0,.int .i64 0]) ?_ 2 _ rfl;refine blk_put (cs:=#[.int .i64 C,.int .i64 0,.int .i64 0,.int .i64 0]) ?_ 1 _ rfl;refine blk_put (cs:=#[.int .i64 0,.int .i64 0,.int .i64 0,.int .i64 0]) ?_ 0 _ rfl;exact B.1) hb);replace J:=mk0 (below_step (by repeat (with_reducible first|exact J.1|refine below_set ?_ M.1)) hb);(try clear hb);(try clear hk)));go_roundg k4
              case measure=>have:=Q.1;have:=T.1;have:=V.1;have:=Z.1;omega
              case rel=>exact ⟨(L),(wrap64 (F + 1)),(by first|rfl|(simp;done)|(simp [*];done)),H',⟨by have:=Q.1;have:=T.1;have:=V.1;have:=Z.1;omega⟩,⟨by (with_reducible repeat (first|apply Kd.R_alloc|apply Kd.R_drewN|apply Kd.R_drew));exact Kd.R_mono I.1 (fun _ hk=>trivial)⟩,⟨by repeat (first|(with_reducible first|exact J.1|apply below_alloc|apply pw_below_drewN|apply below_drew1|refine below_set ?_ M.1)|exact J.1)⟩⟩
            ·
             rw [if_neg c4] at H;have c4b0:decide (F ≤ 2)=false:=decide_eq_false c4;clear c4;have H':=mk0 H;clear H;go_wp2;go_roundg k4
             case measure=>have:=Q.1;have:=T.1;have:=V.1;have:=Z.1;omega
             case rel=>exact ⟨(L),(wrap64 (E + 1)),(by first|rfl|(simp;done)|(simp [*];done)),H',⟨by have:=Q.1;have:=T.1;have:=V.1;have:=Z.1;omega⟩,⟨by (with_reducible repeat (first|apply Kd.R_alloc|apply Kd.R_drewN|apply Kd.R_drew));exact I.1⟩,⟨by repeat (first|(with_reducible first|exact J.1|apply below_alloc|apply pw_below_drewN|apply below_drew1)|exact J.1)⟩⟩
         ·
          rw [if_neg c3] at H;have c3b0:decide (E ≤ 2)=false:=decide_eq_false c3;clear c3;have H':=mk0 H;clear H;go_wp2;go_roundg k3
          case measure=>have:=Q.1;have:=T.1;have:=V.1;omega
          case rel=>exact ⟨(a1),(wrap64 (D + 1)),(by first|rfl|(simp;done)|(simp [*];done)),H',⟨by have:=Q.1;have:=T.1;have:=V.1;omega⟩,⟨by (with_reducible repeat (first|apply Kd.R_alloc|apply Kd.R_drewN|apply Kd.R_drew));exact I.1⟩,⟨by repeat (first|(with_reducible first|exact J.1|apply below_alloc|apply pw_below_drewN|apply below_drew1)|exact J.1)⟩⟩
      ·
       rw [if_neg c2] at H;have c2b0:decide (D ≤ 2)=false:=decide_eq_false c2;clear c2;have H':=mk0 H;clear H;go_wp2;go_roundg k2
       case measure=>have:=Q.1;have:=T.1;omega
       case rel=>exact ⟨(a0),(wrap64 (C + 1)),(by first|rfl|(simp;done)|(simp [*];done)),H',⟨by have:=Q.1;have:=T.1;omega⟩,⟨by (with_reducible repeat (first|apply Kd.R_alloc|apply Kd.R_drewN|apply Kd.R_drew));exact I.1⟩,⟨by repeat (first|(with_reducible first|exact J.1|apply below_alloc|apply pw_below_drewN|apply below_drew1)|exact J.1)⟩⟩
   ·
    rw [if_neg c1] at H;have c1b0:decide (C ≤ 2)=false:=decide_eq_false c1;clear c1;obtain rfl:=Option.some.inj H;go_wp2;go_ret;exact ⟨_,by first|rfl|(simp [errW_none,errW_some] <;> rfl)|(simp [*,errW_none,errW_some] <;> rfl),by (with_reducible repeat (first|apply Kd.R_alloc|apply Kd.R_drewN|apply Kd.R_drew));exact I.1,by repeat (first|(with_reducible first|exact J.1|apply below_alloc|apply pw_below_drewN|apply below_drew1)|exact J.1)⟩
end Go.Proofs.Ytgfnmimfoicmmaa.PM
