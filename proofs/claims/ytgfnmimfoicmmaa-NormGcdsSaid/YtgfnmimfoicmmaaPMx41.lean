-- Written by pr2.py, a program of this session's, for this claim (through the kit's print).
import Derived.Test.YtgfnmimfoicmmaaPMx0
import Derived.Test.YtgfnmimfoicmmaaPMx1
import Derived.Test.YtgfnmimfoicmmaaPMx6
import Derived.Test.YtgfnmimfoicmmaaPMx7
import Derived.Test.YtgfnmimfoicmmaaPMx20
import Derived.Test.YtgfnmimfoicmmaaPMx40
namespace Go.Proofs.Ytgfnmimfoicmmaa.PM
open Go.Proofs.MyWords Go.RowKit Go.Proofs.YtgfnmimfoicmmaaW.PrintWords Go.Proofs.YtgfnmimfoicmmaaW.PrintLast Go.Proofs.YtgfnmimfoicmmaaW.PrintMore
attribute [local go_sem] max2_int min2_int max_two min_two max_three min_three max_four min_four   -- for this text's walks alone
set_option linter.unusedVariables false
set_option linter.unusedSimpArgs false

attribute [local go_sem] idx67_0 idx67_1 idx67_2 idx67_3
attribute [local go_sem] eqGuard_slices eqlnil36 neqnil36
attribute [local go_sem high] eqA23
/-! ### bellpulllaw04_NormGcds: function 4 -/
mutual
def bellpulllaw04_NormGcds.j0:Nat → Int → Int → Bool → Int → Int → Int → Int → Int → Int → Int → Int → Int → Int → Int → Int → Option (Bool)
  | 0,_,_,_,_,_,_,_,_,_,_,_,_,_,_,_=>none
  | k + 1,x6,x7,x29,x919000,x919001,x919002,x919003,x920000,x920001,x920002,x920003,x926000,x926001,x926002,x926003=>if x29=true then (bellpulllaw04_NormGcds.j1 k x6 5 x919000 x919001 x919002 x919003 x920000 x920001 x920002 x920003 x926000 x926001 x926002 x926003) else (bellpulllaw04_NormGcds.j1 k x6 x7 x919000 x919001 x919002 x919003 x920000 x920001 x920002 x920003 x926000 x926001 x926002 x926003)
def bellpulllaw04_NormGcds.j1:Nat → Int → Int → Int → Int → Int → Int → Int → Int → Int → Int → Int → Int → Int → Int → Option (Bool)
  | 0,_,_,_,_,_,_,_,_,_,_,_,_,_,_=>none
  | k + 1,x6,x7,x919000,x919001,x919002,x919003,x920000,x920001,x920002,x920003,x926000,x926001,x926002,x926003=>if x7=0 then ((bellpullref04_Gcd.f k x919000 x919001 x919002 x919003 x920000 x920001 x920002 x920003).bind fun bt930=>(if (x926000 == bt930.1 && (x926001 == bt930.2.1 && (x926002 == bt930.2.2.1 && (x926003 == bt930.2.2.2))))=true then (if x6=0 then ((bellpulllaw04_lives.f k).bind fun t934=>(some t934)) else (none)) else (none))) else (if (x926000 == 0 && (x926001 == 0 && (x926002 == 0 && (x926003 == 0))))=true then (if x6=x7 then ((bellpulllaw04_lives.f k).bind fun t935=>(some t935)) else (none)) else (none))
end
def bellpulllaw04_NormGcds.f (k:Nat) (a0_0:Int) (a0_1:Int) (a0_2:Int) (a0_3:Int) (a1_0:Int) (a1_1:Int) (a1_2:Int) (a1_3:Int):Option (Bool):=(norm_Gcd.f k a0_0 a0_1 a0_2 a0_3 a1_0 a1_1 a1_2 a1_3).bind fun bt920=>((bellpullref04_Check.f k (([(⟨a0_0,a0_1,a0_2,a0_3⟩:S23),(⟨a1_0,a1_1,a1_2,a1_3⟩:S23)]:List (S23)))).bind fun t929=>(if t929=0 then (if (a0_0 == 0 && (a0_1 == 0 && (a0_2 == 0 && (a0_3 == 0))))=true then (bellpulllaw04_NormGcds.j0 k bt920.2.2.2.2 t929 (a1_0 == 0 && (a1_1 == 0 && (a1_2 == 0 && (a1_3 == 0)))) a0_0 a0_1 a0_2 a0_3 a1_0 a1_1 a1_2 a1_3 bt920.1 bt920.2.1 bt920.2.2.1 bt920.2.2.2.1) else (bellpulllaw04_NormGcds.j0 k bt920.2.2.2.2 t929 false a0_0 a0_1 a0_2 a0_3 a1_0 a1_1 a1_2 a1_3 bt920.1 bt920.2.1 bt920.2.2.1 bt920.2.2.2.1)) else (bellpulllaw04_NormGcds.j0 k bt920.2.2.2.2 t929 false a0_0 a0_1 a0_2 a0_3 a1_0 a1_1 a1_2 a1_3 bt920.1 bt920.2.1 bt920.2.2.1 bt920.2.2.2.1)))
theorem bellpulllaw04_NormGcds.mono_l:∀ k,(∀ F G I J L M N O Q R B C D E T,LeO (bellpulllaw04_NormGcds.j0 k F G I J L M N O Q R B C D E T) (bellpulllaw04_NormGcds.j0 (k + 1) F G I J L M N O Q R B C D E T))∧(∀ F G I J L M N O Q R B C D E,LeO (bellpulllaw04_NormGcds.j1 k F G I J L M N O Q R B C D E) (bellpulllaw04_NormGcds.j1 (k + 1) F G I J L M N O Q R B C D E))
  | 0=>⟨fun _ _ _ _ _ _ _ _ _ _ _ _ _ _ _ r h=>by simp [bellpulllaw04_NormGcds.j0] at h,fun _ _ _ _ _ _ _ _ _ _ _ _ _ _ r h=>by simp [bellpulllaw04_NormGcds.j1] at h⟩
  | k + 1=>by
    obtain ⟨U,V⟩:=bellpulllaw04_NormGcds.mono_l k
    refine ⟨?_,?_⟩
    · intro F G I J L M N O Q R B C D E T
      unfold bellpulllaw04_NormGcds.j0
      with_reducible repeat' first|exact U _ _ _ _ _ _ _ _ _ _ _ _ _ _ _|exact V _ _ _ _ _ _ _ _ _ _ _ _ _ _|exact bellpulllaw04_lives.mono _|exact bellpullref04_Check.mono _ _|exact bellpullref04_Gcd.mono _ _ _ _ _ _ _ _ _|exact norm_Gcd.mono _ _ _ _ _ _ _ _ _|exact LeO.refl _|exact LeO.none _|refine LeO.ite ?_ ?_|refine LeO.bind ?_ (fun _=>?_)
    · intro F G I J L M N O Q R B C D E
      unfold bellpulllaw04_NormGcds.j1
      with_reducible repeat' first|exact U _ _ _ _ _ _ _ _ _ _ _ _ _ _ _|exact V _ _ _ _ _ _ _ _ _ _ _ _ _ _|exact bellpulllaw04_lives.mono _|exact bellpullref04_Check.mono _ _|exact bellpullref04_Gcd.mono _ _ _ _ _ _ _ _ _|exact norm_Gcd.mono _ _ _ _ _ _ _ _ _|exact LeO.refl _|exact LeO.none _|refine LeO.ite ?_ ?_|refine LeO.bind ?_ (fun _=>?_)
theorem bellpulllaw04_NormGcds.mono:∀ a0 a1 a2 a3 a4 a5 a6 a7 k,LeO (bellpulllaw04_NormGcds.f k a0 a1 a2 a3 a4 a5 a6 a7) (bellpulllaw04_NormGcds.f (k + 1) a0 a1 a2 a3 a4 a5 a6 a7):=by
  intro a0 a1 a2 a3 a4 a5 a6 a7 k
  obtain ⟨ih0,ih1⟩:=bellpulllaw04_NormGcds.mono_l k
  unfold bellpulllaw04_NormGcds.f
  with_reducible repeat' first|exact ih0 _ _ _ _ _ _ _ _ _ _ _ _ _ _ _|exact ih1 _ _ _ _ _ _ _ _ _ _ _ _ _ _|exact bellpulllaw04_lives.mono _|exact bellpullref04_Check.mono _ _|exact bellpullref04_Gcd.mono _ _ _ _ _ _ _ _ _|exact norm_Gcd.mono _ _ _ _ _ _ _ _ _|exact LeO.refl _|exact LeO.none _|refine LeO.ite ?_ ?_|refine LeO.bind ?_ (fun _=>?_)
def bellpulllaw04_NormGcds.T7:Bool × List (List Nat × List Nat):=(true,[([],[]),([],[]),([],[]),([1,2],[1,2]),([0,3],[0,3]),([4,3],[4]),([5],[5]),([6,5],[5,6]),([5,7],[5,7]),([8,5],[8]),([9,9],[9]),([9,10],[9,10]),([11,10,0,1,2,3,4,5,6,7,8,9,10,11],[11])])
def bellpulllaw04_NormGcds.B7:List Nat:=[0,0,0,6,15,31,63,127,255,511,1023,2047,4095]
theorem bellpulllaw04_NormGcds.tab7:rtab .any (opsOf Try.f4 7)=bellpulllaw04_NormGcds.T7:=by kernel_rfl
theorem bellpulllaw04_NormGcds.bits7:waitsOk bellpulllaw04_NormGcds.T7.2 bellpulllaw04_NormGcds.B7=true:=by kernel_rfl
set_option maxHeartbeats 8000000 in
set_option maxRecDepth 100000 in
theorem bellpulllaw04_NormGcds.calls (k:Nat) (E:Int) (F:Int) (G:Int) (I:Int) (J:Int) (L:Int) (O:Int) (Q:Int) (r:Bool) (w:World) (h:bellpulllaw04_NormGcds.f k E F G I J L O Q=some r) :
    Calls Try.prog 4 #[.agg #[.int .i64 E,.int .i64 F,.int .i64 G,.int .i64 I],.agg #[.int .i64 J,.int .i64 L,.int .i64 O,.int .i64 Q]] w fun e w'=>e=.returned (.bool r)∧Below w.heap.size w w':=by
 have r3:=Try.underlying23;have X:=mk0 (Below.refl w.heap.size w);have H:((norm_Gcd.f k E F G I J L O Q).bind fun Y=>((bellpullref04_Check.f k (([(⟨E,F,G,I⟩:S23),(⟨J,L,O,Q⟩:S23)]:List (S23)))).bind fun Z=>(if Z=0 then (if (E == 0 && (F == 0 && (G == 0 && (I == 0))))=true then (bellpulllaw04_NormGcds.j0 k Y.2.2.2.2 Z (J == 0 && (L == 0 && (O == 0 && (Q == 0)))) E F G I J L O Q Y.1 Y.2.1 Y.2.2.1 Y.2.2.2.1) else (bellpulllaw04_NormGcds.j0 k Y.2.2.2.2 Z false E F G I J L O Q Y.1 Y.2.1 Y.2.2.1 Y.2.2.2.1)) else (bellpulllaw04_NormGcds.j0 k Y.2.2.2.2 Z false E F G I J L O Q Y.1 Y.2.1 Y.2.2.1 Y.2.2.2.1))))=some r:=h;clear h;replace H:=Option.bind_eq_some_iff.mp H;obtain ⟨⟨R,T,U,V,a1⟩,m2,H⟩:=H;(try dsimp only at H);have A3:=mk0 m2;clear m2;obtain ⟨j7,b7⟩:∃ y_:List (S23),y_=(([(⟨E,F,G,I⟩:S23),(⟨J,L,O,Q⟩:S23)]:List (S23))):=⟨_,rfl⟩
 replace H:((bellpullref04_Check.f k j7).bind fun Z=>(if Z=0 then (if (E == 0 && (F == 0 && (G == 0 && (I == 0))))=true then (bellpulllaw04_NormGcds.j0 k a1 Z (J == 0 && (L == 0 && (O == 0 && (Q == 0)))) E F G I J L O Q R T U V) else (bellpulllaw04_NormGcds.j0 k a1 Z false E F G I J L O Q R T U V)) else (bellpulllaw04_NormGcds.j0 k a1 Z false E F G I J L O Q R T U V)))=some r:=by first|(rw [b7];with_reducible exact H)|(have l0:=(Option.bind_some _ _).symm.trans H;rw [b7];with_reducible exact l0)|(have l0:=(Option.bind_some _ _).symm.trans H;with_reducible exact l0)|with_reducible exact H|(rw [b7];exact H)|exact H
 have j9:=mk0 b7;clear b7;replace H:=Option.bind_eq_some_iff.mp H;obtain ⟨Z,m3,H⟩:=H;(try dsimp only at H);have A4:=mk0 m3;clear m3;have l1:=mk0 H;clear H;go_enter Try.func4,Try.ntmps4;go_upto_region 3 with (first|((with_reducible refine gate_dst (N:=2) rfl ?_);refine box_event ?hg (N:=2) ?hd (cs:=#[.int .i64 E,.int .i64 F,.int .i64 G,.int .i64 I]) (t:=23) ?hr ?_;(case hd=>rfl);(case hg=>rfl);(case hr=>first|(go_simp;done)|(go_simp;rfl));intro a7 hg w6 b2 hb;have B:=mk0 (b2);have l8:=szw hg X;have a4:=l8;replace X:=bst X hb;clear hb b2 hg)|((with_reducible refine gate_dst (N:=3) rfl ?_);refine box_event ?hg (N:=3) ?hd (cs:=#[.int .i64 J,.int .i64 L,.int .i64 O,.int .i64 Q]) (t:=23) ?hr ?_;(case hd=>rfl);(case hg=>rfl);(case hr=>first|(go_simp;done)|(go_simp;rfl));intro a8 hg w7 b2 hb;have C:=mk0 (b2);have l9:=szw hg X;have a5:=l9;have b3:=nlt hg B;have b4:=ngt hg B;replace B:=bkb B hb;replace X:=bst X hb;clear hb b2 hg;have r6:=b3.1;have r7:=b4.1;have i6:=q0_ B;have i7:=q1_ B;have i8:=q2_ B;have i9:=q3_ B;have j2:=blk_frozen B.1 0;have j3:=blk_frozen B.1 1;have j4:=blk_frozen B.1 2;have j5:=blk_frozen B.1 3;have d0:=q0_ C;have d1:=q1_ C;have d2:=q2_ C;have d3:=q3_ C;have d4:=blk_frozen C.1 0;have d5:=blk_frozen C.1 1;have d6:=blk_frozen C.1 2;have d7:=blk_frozen C.1 3)|((with_reducible refine gate_callee (f:=21) rfl ?_);refine goesL_ (some 11) rfl rfl Try.func21 (by kernel_rfl) rfl #[.agg #[.int .i64 E,.int .i64 F,.int .i64 G,.int .i64 I],.agg #[.int .i64 J,.int .i64 L,.int .i64 O,.int .i64 Q]] rfl (by (try simp only [m0_,m1_,m2_]);first|done|rfl|(simp only [l0_,l1_];rfl)) ?_;(with_reducible refine (norm_Gcd.calls k E F G I J L O Q R T U V a1 _ A3.1).mono ?_);rintro e t1 ⟨rfl,hb⟩;refine ⟨_,rfl,?_⟩;replace B:=bkb B hb;replace C:=bkb C hb;replace X:=bst X hb;(try clear hb);(try clear hk))|((with_reducible refine gate_dst (N:=5) rfl ?_);refine box_event ?hg (N:=5) ?hd (cs:=#[.int .i64 0,.int .i64 0,.int .i64 0,.int .i64 0]) (t:=23) ?hr ?_;(case hd=>rfl);(case hg=>rfl);(case hr=>first|(go_simp;done)|(go_simp;rfl));intro a9 hg t2 b2 hb;have D:=mk0 (b2);have m0:=szw hg X;have a6:=m0;have a0:=nlt hg B;have b0:=ngt hg B;have a3:=nlt hg C;have b5:=ngt hg C;replace B:=bkb B hb;replace C:=bkb C hb;replace X:=bst X hb;clear hb b2 hg;have p5:=b0.1;have p6:=a0.1;have p7:=b5.1;have p8:=a3.1;have d8:=q0_ D;have d9:=q1_ D;have e0:=q2_ D;have e1:=q3_ D;have e2:=blk_frozen D.1 0;have e3:=blk_frozen D.1 1;have e4:=blk_frozen D.1 2;have e5:=blk_frozen D.1 3;have e6:=q0_ B;have e7:=q1_ B;have e8:=q2_ B;have e9:=q3_ B;have f0:=blk_frozen B.1 0;have f1:=blk_frozen B.1 1;have f2:=blk_frozen B.1 2;have f3:=blk_frozen B.1 3;have f4:=q0_ C;have f5:=q1_ C;have f6:=q2_ C;have f7:=q3_ C;have f8:=blk_frozen C.1 0;have f9:=blk_frozen C.1 1;have g0:=blk_frozen C.1 2;have g1:=blk_frozen C.1 3)|((with_reducible refine gate_dst (N:=16) rfl ?_);refine Kd.R_lit k23 _ 23 ?hg (N:=16) ?hd (xs:=([(⟨E,F,G,I⟩:S23),(⟨J,L,O,Q⟩:S23)]:List (S23))) (inner:=[.int .i64 E,.int .i64 F,.int .i64 G,.int .i64 I,.int .i64 J,.int .i64 L,.int .i64 O,.int .i64 Q]) (ok:=fun _=>True) (okp:=fun _=>True) ?hr ?hp (fun _ hk=>hk) trivial (Below.refl _ _) (Nat.le_refl _) (by simp) ?_;(case hd=>rfl);(case hg=>rfl);(case hr=>first|(go_simp;done)|(go_simp;rfl));(case hp=>exact (Reps.c4 (show Kd.M k23 _ _ _ (⟨E,F,G,I⟩:S23) [.int .i64 E,.int .i64 F,.int .i64 G,.int .i64 I] from (k23_mkM _ _ _ (⟨E,F,G,I⟩:S23) )) (Reps.c4 (show Kd.M k23 _ _ _ (⟨J,L,O,Q⟩:S23) [.int .i64 J,.int .i64 L,.int .i64 O,.int .i64 Q] from (k23_mkM _ _ _ (⟨J,L,O,Q⟩:S23) )) (Reps.none _ _))));intro r8 t3 c0 hb hg_ m1;clear hg_ m1;(first|rw [← j9.1] at c0|(simp only [Int.reduceToNat] at c0;rw [← j9.1] at c0));have b8:=mk0 (Kd.R_lower (Kd.R_newB (Kd.R_newB (Kd.R_newB c0 (g:=a7) (o:=.cells #[.int .i64 E,.int .i64 F,.int .i64 G,.int .i64 I] 23 (0,0)) (by (iterate 4 refine blk_far ?_ a0.1 _);exact B.1)) (g:=a8) (o:=.cells #[.int .i64 J,.int .i64 L,.int .i64 O,.int .i64 Q] 23 (0,0)) (by (iterate 4 refine blk_far ?_ a3.1 _);exact C.1)) (g:=a9) (o:=.cells #[.int .i64 R,.int .i64 T,.int .i64 U,.int .i64 V] 23 (0,0)) (by refine blk_put (cs:=#[.int .i64 R,.int .i64 T,.int .i64 U,.int .i64 0]) ?_ 3 _ rfl;refine blk_put (cs:=#[.int .i64 R,.int .i64 T,.int .i64 0,.int .i64 0]) ?_ 2 _ rfl;refine blk_put (cs:=#[.int .i64 R,.int .i64 0,.int .i64 0,.int .i64 0]) ?_ 1 _ rfl;refine blk_put (cs:=#[.int .i64 0,.int .i64 0,.int .i64 0,.int .i64 0]) ?_ 0 _ rfl;exact D.1)) (below_size (by repeat (with_reducible first|exact X.1|refine below_set ?_ a4.1|refine below_set ?_ a5.1|refine below_set ?_ a6.1))));replace B:=mk0 (blk_below (g:=a7) (o:=.cells #[.int .i64 E,.int .i64 F,.int .i64 G,.int .i64 I] 23 (0,0)) (by (iterate 4 refine blk_far ?_ a0.1 _);exact B.1) hb);replace C:=mk0 (blk_below (g:=a8) (o:=.cells #[.int .i64 J,.int .i64 L,.int .i64 O,.int .i64 Q] 23 (0,0)) (by (iterate 4 refine blk_far ?_ a3.1 _);exact C.1) hb);replace D:=mk0 (blk_below (g:=a9) (o:=.cells #[.int .i64 R,.int .i64 T,.int .i64 U,.int .i64 V] 23 (0,0)) (by refine blk_put (cs:=#[.int .i64 R,.int .i64 T,.int .i64 U,.int .i64 0]) ?_ 3 _ rfl;refine blk_put (cs:=#[.int .i64 R,.int .i64 T,.int .i64 0,.int .i64 0]) ?_ 2 _ rfl;refine blk_put (cs:=#[.int .i64 R,.int .i64 0,.int .i64 0,.int .i64 0]) ?_ 1 _ rfl;refine blk_put (cs:=#[.int .i64 0,.int .i64 0,.int .i64 0,.int .i64 0]) ?_ 0 _ rfl;exact D.1) hb);replace X:=mk0 (below_step (by repeat (with_reducible first|exact X.1|refine below_set ?_ a4.1|refine below_set ?_ a5.1|refine below_set ?_ a6.1)) hb);clear hb c0;obtain ⟨m7,m8,m9⟩:=Kd.R_slice b8.1;subst m9)|((with_reducible refine gate_callee (f:=18) rfl ?_);refine goesL_ (some 17) rfl rfl Try.func18 (by kernel_rfl) rfl #[.slice m7 j7.length m8] rfl (by (try simp only [m0_,m1_,m2_]);first|done|rfl|(simp only [l0_,l1_];rfl)) ?_;(with_reducible refine (bellpullref04_Check.calls k _ _ j7 Z _ ?side1 ?side2 A4.1).mono ?_);(case side1=>repeat (first|exact (Kd.R_reads' b8.1).2.2|(with_reducible refine Kd.C_alloc ?_ _)|(with_reducible refine Kd.C_drewN ?_ _)|(with_reducible refine Kd.C_drew ?_)));(case side2=>exact (Kd.R_reads' b8.1).2.1);rintro e t4 ⟨rfl,hb⟩;refine ⟨_,rfl,?_⟩;replace b8:=rbl b8 hb;replace B:=bkb B hb;replace C:=bkb C hb;replace D:=bkb D hb;replace X:=bst X hb;(try clear hb);(try clear hk)))
 (try simp only [Act.put,s0_,s1_,s2_])
 go_cut [29] (fun o0 wc=>∃ (kq:Nat) (b9:Bool),o0=.bool b9∧Aside0 (bellpulllaw04_NormGcds.j0 kq a1 Z b9 E F G I J L O Q R T U V=some r)∧Aside0 (kq ≤ k)∧Aside0 (Q4_ wc a7 E F G I 23)∧Aside0 (Q4_ wc a8 J L O Q 23)∧Aside0 (Q4_ wc a9 R T U V 23)∧Aside0 (Below w.heap.size w wc))
 case first =>
  have H:=l1.1;clear l1
  by_cases c22:Z=0
  ·
   rw [if_pos c22] at H;have c22b0:(Z == 0)=true:=beq_iff_eq.mpr c22;have c22b1:(Z != 0)=false:=bne_eq_false_iff_eq.mpr c22;clear c22;(first|rw [c22b0]|(simp only [i64_w,i32_w];rw [c22b0])|skip)
   by_cases c23:(E == 0 && (F == 0 && (G == 0 && (I == 0))))=true
   ·
    rw [if_pos c23] at H;have c23b0:(E == 0 && (F == 0 && (G == 0 && (I == 0))))=true:=c23;(try (have c23b1:decide (E=0 && (F == 0 && (G == 0 && (I == 0))))=true:=by simpa using c23));(try (have c23b2:(E == 0 && (F == 0 && (G == 0 && (I == 0))))=true:=by simpa using c23));clear c23;have H':=mk0 H;clear H;have p9:=b3.1;have q0:=b4.1;have q1:=a0.1;have q2:=b0.1;have g2:=q0_ B;have g3:=q1_ B;have g4:=q2_ B;have g5:=q3_ B;have g6:=blk_frozen B.1 0;have g7:=blk_frozen B.1 1;have g8:=blk_frozen B.1 2;have g9:=blk_frozen B.1 3;have q3:=a3.1;have q4:=b5.1;have h0:=q0_ C;have h1:=q1_ C;have h2:=q2_ C;have h3:=q3_ C;have h4:=blk_frozen C.1 0;have h5:=blk_frozen C.1 1;have h6:=blk_frozen C.1 2;have h7:=blk_frozen C.1 3;go_wp2;go_meet
    case rel=>exact ⟨_,((J == 0 && (L == 0 && (O == 0 && (Q == 0))))),(by first|rfl|(simp;done)|(simp [*];done)),H',⟨by first|omega|exact Nat.le_refl _⟩,⟨by exact B.1⟩,⟨by exact C.1⟩,⟨by exact D.1⟩,⟨by repeat (first|(with_reducible first|exact X.1|apply below_alloc|apply pw_below_drewN|apply below_drew1|refine below_set ?_ a4.1|refine below_set ?_ a5.1|refine below_set ?_ a6.1)|exact X.1)⟩⟩
   ·
    rw [if_neg c23] at H;have c23b0:(E == 0 && (F == 0 && (G == 0 && (I == 0))))=false:=by simpa using c23
    (try (have c23b1:decide (E=0 && (F == 0 && (G == 0 && (I == 0))))=false:=by simpa using c23));(try (have c23b2:(E == 0 && (F == 0 && (G == 0 && (I == 0))))=false:=by simpa using c23));(try (have c23b3:¬ (E=0 && (F == 0 && (G == 0 && (I == 0)))):=by simpa using c23));clear c23;have H':=mk0 H;clear H;have q5:=b3.1;have q6:=b4.1;have q7:=a0.1;have q8:=b0.1;have h8:=q0_ B;have h9:=q1_ B;have i0:=q2_ B;have i1:=q3_ B;have i2:=blk_frozen B.1 0;have i3:=blk_frozen B.1 1;have i4:=blk_frozen B.1 2;have i5:=blk_frozen B.1 3;go_wp2;go_meet
    case rel=>exact ⟨_,(false),(by first|rfl|(simp;done)|(simp [*];done)),H',⟨by first|omega|exact Nat.le_refl _⟩,⟨by exact B.1⟩,⟨by exact C.1⟩,⟨by exact D.1⟩,⟨by repeat (first|(with_reducible first|exact X.1|apply below_alloc|apply pw_below_drewN|apply below_drew1|refine below_set ?_ a4.1|refine below_set ?_ a5.1|refine below_set ?_ a6.1)|exact X.1)⟩⟩
  ·
   rw [if_neg c22] at H;have c22b0:(Z == 0)=false:=beq_eq_false_iff_ne.mpr c22;have c22b1:(Z != 0)=true:=bne_iff_ne.mpr c22;(first|rw [c22b0]|(simp only [i64_w,i32_w];rw [c22b0])|skip);have H':=mk0 H;clear H;go_wp2;go_meet
   case rel=>exact ⟨_,(false),(by first|rfl|(simp;done)|(simp [*];done)),H',⟨by first|omega|exact Nat.le_refl _⟩,⟨by exact B.1⟩,⟨by exact C.1⟩,⟨by exact D.1⟩,⟨by repeat (first|(with_reducible first|exact X.1|apply below_alloc|apply pw_below_drewN|apply below_drew1|refine below_set ?_ a4.1|refine below_set ?_ a5.1|refine below_set ?_ a6.1)|exact X.1)⟩⟩
 case rest =>
  clear l1;try clear c1
  try clear c2
  try clear p2
  try clear c3
  try clear c4
  try clear c8
  try clear c13
  try clear c14
  try clear c18
  try clear c21
  try clear c22
  try clear c22b0
  try clear c22b1
  try clear c23
  try clear c23b0
  try clear c23b1
  try clear c23b2
  try clear c24
  try clear c25
  try clear c27
  try clear c29
  try clear c30
  try clear d0
  try clear d1
  try clear d2
  try clear d3
  try clear d8
  try clear d9
  try clear e0
  try clear e1
  try clear e6
  try clear e7
  try clear e8
  try clear e9
  try clear f4
  try clear f5
  try clear f6
  try clear f7
  try clear g2
  try clear g3
  try clear g4
  try clear g5
  try clear h0
  try clear h1
  try clear h2
  try clear h3
  try clear h8
  try clear h9
  try clear i0
  try clear i1
  try clear i6
  try clear i7
  try clear i8
  try clear i9
  try clear d4
  try clear d5
  try clear d6
  try clear d7
  try clear e2
  try clear e3
  try clear e4
  try clear e5
  try clear f0
  try clear f1
  try clear f2
  try clear f3
  try clear f8
  try clear f9
  try clear g0
  try clear g1
  try clear g6
  try clear g7
  try clear g8
  try clear g9
  try clear h4
  try clear h5
  try clear h6
  try clear h7
  try clear i2
  try clear i3
  try clear i4
  try clear i5
  try clear j2
  try clear j3
  try clear j4
  try clear j5
  obtain ⟨kq,b9,rfl,HA,m4,B,C,D,X⟩:=hcut;cases kq with
  | zero=>exact absurd HA.1 (by simp [bellpulllaw04_NormGcds.j0])
  | succ kj4 =>
   have H:=HA.1;clear HA;simp only [bellpulllaw04_NormGcds.j0] at H;have j8:=mk0 H;clear H;go_upto_if 29 with (fail)
   go_cut [7] (fun v7 wc=>∃ (kq:Nat) (a2:Int),v7=.int .i64 a2∧Aside0 (bellpulllaw04_NormGcds.j1 kq a1 a2 E F G I J L O Q R T U V=some r)∧Aside0 (kq ≤ kj4)∧Aside0 (Q4_ wc a7 E F G I 23)∧Aside0 (Q4_ wc a8 J L O Q 23)∧Aside0 (Q4_ wc a9 R T U V 23)∧Aside0 (Below w.heap.size w wc))
   case first =>
    have H:=j8.1;clear j8
    by_cases j6:b9=true
    ·
     subst j6;have H1:(bellpulllaw04_NormGcds.j1 kj4 a1 5 E F G I J L O Q R T U V)=some r:=by rw [if_pos rfl] at H;exact H
     clear H;have H:=H1;clear H1;have H':=mk0 H;clear H;go_wp2;go_meet
     case rel=>exact ⟨_,(5),(by first|rfl|(simp;done)|(simp [*];done)),H',⟨by have:=m4.1;first|omega|exact Nat.le_refl _⟩,⟨by exact B.1⟩,⟨by exact C.1⟩,⟨by exact D.1⟩,⟨by repeat (first|(with_reducible first|exact X.1|apply below_alloc|apply pw_below_drewN|apply below_drew1|refine below_set ?_ a4.1|refine below_set ?_ a5.1|refine below_set ?_ a6.1)|exact X.1)⟩⟩
    ·
     replace j6:=Bool.eq_false_iff.mpr j6;subst j6;have H1:(bellpulllaw04_NormGcds.j1 kj4 a1 Z E F G I J L O Q R T U V)=some r:=by rw [if_neg (show ¬ (false=true) by decide)] at H;exact H
     clear H;have H:=H1;clear H1;have H':=mk0 H;clear H;go_wp2;go_meet
     case rel=>exact ⟨_,(Z),(by first|rfl|(simp;done)|(simp [*];done)),H',⟨by have:=m4.1;first|omega|exact Nat.le_refl _⟩,⟨by exact B.1⟩,⟨by exact C.1⟩,⟨by exact D.1⟩,⟨by repeat (first|(with_reducible first|exact X.1|apply below_alloc|apply pw_below_drewN|apply below_drew1|refine below_set ?_ a4.1|refine below_set ?_ a5.1|refine below_set ?_ a6.1)|exact X.1)⟩⟩
   case rest =>
    clear j8;try clear c1
    try clear c2
    try clear p2
    try clear c3
    try clear c4
    try clear c8
    try clear c13
    try clear c14
    try clear c18
    try clear c21
    try clear c22
    try clear c22b0
    try clear c22b1
    try clear c23
    try clear c23b0
    try clear c23b1
    try clear c23b2
    try clear c24
    try clear c25
    try clear c27
    try clear c29
    try clear c30
    try clear j6
    try clear d0
    try clear d1
    try clear d2
    try clear d3
    try clear d8
    try clear d9
    try clear e0
    try clear e1
    try clear e6
    try clear e7
    try clear e8
    try clear e9
    try clear f4
    try clear f5
    try clear f6
    try clear f7
    try clear g2
    try clear g3
    try clear g4
    try clear g5
    try clear h0
    try clear h1
    try clear h2
    try clear h3
    try clear h8
    try clear h9
    try clear i0
    try clear i1
    try clear i6
    try clear i7
    try clear i8
    try clear i9
    try clear d4
    try clear d5
    try clear d6
    try clear d7
    try clear e2
    try clear e3
    try clear e4
    try clear e5
    try clear f0
    try clear f1
    try clear f2
    try clear f3
    try clear f8
    try clear f9
    try clear g0
    try clear g1
    try clear g6
    try clear g7
    try clear g8
    try clear g9
    try clear h4
    try clear h5
    try clear h6
    try clear h7
    try clear i2
    try clear i3
    try clear i4
    try clear i5
    try clear j2
    try clear j3
    try clear j4
    try clear j5
    try clear p2
    obtain ⟨kq,a2,rfl,HA,t0,B,C,D,X⟩:=hcut;cases kq with
    | zero=>exact absurd HA.1 (by simp [bellpulllaw04_NormGcds.j1])
    | succ kj31 =>
     have H:=HA.1;clear HA;simp only [bellpulllaw04_NormGcds.j1] at H
     by_cases c34:a2=0
     ·
      rw [if_pos c34] at H;have c34b0:(a2 == 0)=true:=beq_iff_eq.mpr c34;have c34b1:(a2 != 0)=false:=bne_eq_false_iff_eq.mpr c34;clear c34;replace H:=Option.bind_eq_some_iff.mp H;obtain ⟨⟨c5,c6,c7,c9⟩,l3,H⟩:=H;(try dsimp only at H);have o1:=mk0 l3;clear l3
      by_cases c36:(R == c5 && (T == c6 && (U == c7 && (V == c9))))=true
      ·
       rw [if_pos c36] at H;have c36b0:(R == c5 && (T == c6 && (U == c7 && (V == c9))))=true:=c36;(try (have c36b1:decide (R=c5 && (T == c6 && (U == c7 && (V == c9))))=true:=by simpa using c36));(try (have c36b2:(R == c5 && (T == c6 && (U == c7 && (V == c9))))=true:=by simpa using c36));clear c36
       by_cases c37:a1=0
       ·
        rw [if_pos c37] at H;have c37b0:(a1 == 0)=true:=beq_iff_eq.mpr c37;have c37b1:(a1 != 0)=false:=bne_eq_false_iff_eq.mpr c37;clear c37;replace H:=Option.bind_eq_some_iff.mp H;obtain ⟨n0,l4,H⟩:=H;(try dsimp only at H);have o2:=mk0 l4;clear l4;obtain rfl:=Option.some.inj H;try go_wp2
        replace B:=bdr B;replace C:=bdr C;replace D:=bdr D;replace X:=hdr X;refine start_ (n:=13) (S:=fun w'=>w'.cell? ⟨a9,0,none⟩=some (.int .i64 R)∧w'.cell? ⟨a9,1,none⟩=some (.int .i64 T)∧w'.cell? ⟨a9,2,none⟩=some (.int .i64 U)∧w'.cell? ⟨a9,3,none⟩=some (.int .i64 V)∧w'.cell? ⟨a7,0,none⟩=some (.int .i64 E)∧w'.cell? ⟨a7,1,none⟩=some (.int .i64 F)∧w'.cell? ⟨a7,2,none⟩=some (.int .i64 G)∧w'.cell? ⟨a7,3,none⟩=some (.int .i64 I)∧w'.cell? ⟨a8,0,none⟩=some (.int .i64 J)∧w'.cell? ⟨a8,1,none⟩=some (.int .i64 L)∧w'.cell? ⟨a8,2,none⟩=some (.int .i64 O)∧w'.cell? ⟨a8,3,none⟩=some (.int .i64 Q)) (ds:=[]) #[n_,n_,n_,n_,n_,n_,n_,n_,n_,n_,n_,n_,n_] (by kernel_rfl) rfl rfl ⟨q0_ D,q1_ D,q2_ D,q3_ D,q0_ B,q1_ B,q2_ B,q3_ B,q0_ C,q1_ C,q2_ C,q3_ C⟩ (fun b6=>?_);refine with_tabW bellpulllaw04_NormGcds.tab7 bellpulllaw04_NormGcds.bits7 (fun b1 l5=>?_);generalize wc.drew=t5 at B C D X b6 ⊢;refine take_ (i:=0) (N:=some 43) (v:=?_) (a':=?_) #[y_,n_,n_,n_,n_,n_,n_,n_,n_,n_,n_,n_,n_] rfl rfl (take_ofW b1.1 l5.1 (by kernel_rfl)) (fun _ _ _ h=>h) (Or.inl ⟨by rfl,?_⟩) b6 ?_ ?_;rotate_left
        ·
         rintro w' ⟨s0,s1,s2,s3,s4,s5,s6,s7,s8,s9,m5,m6⟩;go_simp;with_reducible rfl
        rotate_left
        ·
         simp only [Act.put,s0_,s1_,s2_,i64_w,i32_w];rfl
        refine take_ (i:=1) (N:=some 44) (v:=?_) (a':=?_) #[y_,y_,n_,n_,n_,n_,n_,n_,n_,n_,n_,n_,n_] rfl rfl (take_ofW b1.1 l5.1 (by kernel_rfl)) (fun _ _ _ h=>h) (Or.inl ⟨by rfl,?_⟩) b6 ?_ ?_;rotate_left
        ·
         rintro w' ⟨s0,s1,s2,s3,s4,s5,s6,s7,s8,s9,m5,m6⟩;go_simp;with_reducible rfl
        rotate_left
        ·
         simp only [Act.put,s0_,s1_,s2_,i64_w,i32_w];rfl
        refine take_ (i:=2) (N:=some 45) (v:=?_) (a':=?_) #[y_,y_,y_,n_,n_,n_,n_,n_,n_,n_,n_,n_,n_] rfl rfl (take_ofW b1.1 l5.1 (by kernel_rfl)) (fun _ _ _ h=>h) (Or.inl ⟨by rfl,?_⟩) b6 ?_ ?_;rotate_left
        ·
         rintro w' ⟨s0,s1,s2,s3,s4,s5,s6,s7,s8,s9,m5,m6⟩;go_simp;with_reducible rfl
        rotate_left
        ·
         simp only [Act.put,s0_,s1_,s2_,i64_w,i32_w];rfl
        refine one_ (i:=3) (N:=some 46) #[y_,y_,y_,y_,n_,n_,n_,n_,n_,n_,n_,n_,n_] rfl rfl (one_of b1.1 (by kernel_rfl)) (by decide) (fun K hK=>?_);refine goes_ Try.func22 (by kernel_rfl) rfl #[.agg #[.int .i64 E,.int .i64 F,.int .i64 G,.int .i64 I],.agg #[.int .i64 J,.int .i64 L,.int .i64 O,.int .i64 Q]] (by rfl) rfl rfl (by (try simp only [m0_,m1_,m2_]);first|done|rfl|(simp only [l0_,l1_];rfl)) ?_;with_reducible refine (bellpullref04_Gcd.calls kj31 E F G I J L O Q c5 c6 c7 c9 _ o1.1).mono ?_
        rintro e t6 ⟨rfl,hb⟩;refine ⟨_,rfl,?_⟩;replace B:=bkb B hb;replace C:=bkb C hb;replace D:=bkb D hb;replace X:=bst X hb;(try clear hb);refine hK.out _ _ ⟨q0_ D,q1_ D,q2_ D,q3_ D,q0_ B,q1_ B,q2_ B,q3_ B,q0_ C,q1_ C,q2_ C,q3_ C⟩ (fun b6=>?_);clear hK K;refine norm_ (a':=?_) ?_ ?_;rotate_left
        ·
         show Act.put _ (some 46) _=_;simp only [Act.put,s0_,s1_,s2_,i64_w,i32_w];rfl
        refine pure_ (i:=4) (N:=some 47) (v:=?_) (a':=?_) #[y_,y_,y_,y_,y_,n_,n_,n_,n_,n_,n_,n_,n_] rfl rfl (any_of b1.1 (by kernel_rfl)) (fun _ _ _ h=>h) (Or.inl ⟨by rfl,?_⟩) ?_ ?_;rotate_left
        ·
         intro w';go_simp;with_reducible rfl
        rotate_left
        ·
         simp only [Act.put,s0_,s1_,s2_,i64_w,i32_w];rfl
        refine pure_ (i:=5) (N:=some 48) (v:=?_) (a':=?_) #[y_,y_,y_,y_,y_,y_,n_,n_,n_,n_,n_,n_,n_] rfl rfl (any_of b1.1 (by kernel_rfl)) (fun _ _ _ h=>h) (Or.inl ⟨by rfl,?_⟩) ?_ ?_;rotate_left
        ·
         intro w';go_simp;with_reducible rfl
        rotate_left
        ·
         simp only [Act.put,s0_,s1_,s2_,i64_w,i32_w];rfl
        refine pure_ (i:=6) (N:=some 49) (v:=?_) (a':=?_) #[y_,y_,y_,y_,y_,y_,y_,n_,n_,n_,n_,n_,n_] rfl rfl (any_of b1.1 (by kernel_rfl)) (fun _ _ _ h=>h) (Or.inl ⟨by rfl,?_⟩) ?_ ?_;rotate_left
        ·
         intro w';go_simp;with_reducible rfl
        rotate_left
        ·
         simp only [Act.put,s0_,s1_,s2_,i64_w,i32_w];rfl
        refine pure_ (i:=7) (N:=some 50) (v:=?_) (a':=?_) #[y_,y_,y_,y_,y_,y_,y_,y_,n_,n_,n_,n_,n_] rfl rfl (any_of b1.1 (by kernel_rfl)) (fun _ _ _ h=>h) (Or.inl ⟨by rfl,?_⟩) ?_ ?_;rotate_left
        ·
         intro w';go_simp;with_reducible rfl
        rotate_left
        ·
         simp only [Act.put,s0_,s1_,s2_,i64_w,i32_w];rfl
        refine pure_ (i:=8) (N:=some 51) (v:=?_) (a':=?_) #[y_,y_,y_,y_,y_,y_,y_,y_,y_,n_,n_,n_,n_] rfl rfl (any_of b1.1 (by kernel_rfl)) (fun _ _ _ h=>h) (Or.inl ⟨by rfl,?_⟩) ?_ ?_;rotate_left
        ·
         intro w';go_simp;with_reducible rfl
        rotate_left
        ·
         simp only [Act.put,s0_,s1_,s2_,i64_w,i32_w];rfl
        refine pure_ (i:=9) (N:=some 52) (v:=?_) (a':=?_) #[y_,y_,y_,y_,y_,y_,y_,y_,y_,y_,n_,n_,n_] rfl rfl (any_of b1.1 (by kernel_rfl)) (fun _ _ _ h=>h) (Or.inl ⟨by rfl,?_⟩) ?_ ?_;rotate_left
        ·
         intro w';go_simp;with_reducible rfl
        rotate_left
        ·
         simp only [Act.put,s0_,s1_,s2_,i64_w,i32_w];rfl
        refine one_ (i:=10) (N:=some 53) #[y_,y_,y_,y_,y_,y_,y_,y_,y_,y_,y_,n_,n_] rfl rfl (one_of b1.1 (by kernel_rfl)) (by decide) (fun K hK=>?_);refine goes_ Try.func19 (by kernel_rfl) rfl #[] (by rfl) rfl rfl (by (try simp only [m0_,m1_,m2_]);first|done|rfl|(simp only [l0_,l1_];rfl)) ?_;with_reducible refine (bellpulllaw04_lives.calls kj31  n0 _ o2.1).mono ?_
        rintro e t7 ⟨rfl,hb⟩;refine ⟨_,rfl,?_⟩;replace B:=bkb B hb;replace C:=bkb C hb;replace D:=bkb D hb;replace X:=bst X hb;(try clear hb);refine hK.out _ _ ⟨q0_ D,q1_ D,q2_ D,q3_ D,q0_ B,q1_ B,q2_ B,q3_ B,q0_ C,q1_ C,q2_ C,q3_ C⟩ (fun b6=>?_);clear hK K;refine norm_ (a':=?_) ?_ ?_;rotate_left
        ·
         show Act.put _ (some 53) _=_;simp only [Act.put,s0_,s1_,s2_,i64_w,i32_w];rfl
        refine pure_ (i:=11) (N:=some 54) (v:=?_) (a':=?_) #[y_,y_,y_,y_,y_,y_,y_,y_,y_,y_,y_,y_,n_] rfl rfl (any_of b1.1 (by kernel_rfl)) (fun _ _ _ h=>h) (Or.inl ⟨by rfl,?_⟩) ?_ ?_;rotate_left
        ·
         intro w';go_simp;with_reducible rfl
        rotate_left
        ·
         simp only [Act.put,s0_,s1_,s2_,i64_w,i32_w];rfl
        refine pure_ (i:=12) (N:=some 4) (v:=?_) (a':=?_) #[y_,y_,y_,y_,y_,y_,y_,y_,y_,y_,y_,y_,y_] rfl rfl (any_of b1.1 (by kernel_rfl)) (fun _ _ _ h=>h) (Or.inl ⟨by rfl,?_⟩) ?_ ?_;rotate_left
        ·
         intro w';go_simp;with_reducible rfl
        rotate_left
        ·
         simp only [Act.put,s0_,s1_,s2_,i64_w,i32_w];rfl
        refine done_ (done_of b1.1 (by kernel_rfl)) ?_;try go_wp2
        go_ret;exact ⟨by first|rfl|(simp [errW_none,errW_some] <;> rfl)|(simp [*,errW_none,errW_some] <;> rfl),by repeat (first|(with_reducible first|exact X.1|apply below_alloc|apply pw_below_drewN|apply below_drew1|refine below_set ?_ a4.1|refine below_set ?_ a5.1|refine below_set ?_ a6.1)|exact X.1)⟩
       ·
        rw [if_neg c37] at H;exact absurd H (by simp)
      ·
       rw [if_neg c36] at H;exact absurd H (by simp)
     ·
      rw [if_neg c34] at H;have c34b0:(a2 == 0)=false:=beq_eq_false_iff_ne.mpr c34;have c34b1:(a2 != 0)=true:=bne_iff_ne.mpr c34
      by_cases c42:(R == 0 && (T == 0 && (U == 0 && (V == 0))))=true
      ·
       rw [if_pos c42] at H;have c42b0:(R == 0 && (T == 0 && (U == 0 && (V == 0))))=true:=c42;(try (have c42b1:decide (R=0 && (T == 0 && (U == 0 && (V == 0))))=true:=by simpa using c42));(try (have c42b2:(R == 0 && (T == 0 && (U == 0 && (V == 0))))=true:=by simpa using c42));clear c42
       by_cases c43:a1=a2
       ·
        rw [if_pos c43] at H;have c43b0:(a1 == a2)=true:=beq_iff_eq.mpr c43;have c43b1:(a1 != a2)=false:=bne_eq_false_iff_eq.mpr c43;clear c43;replace H:=Option.bind_eq_some_iff.mp H;obtain ⟨n1,l7,H⟩:=H;(try dsimp only at H);have p4:=mk0 l7;clear l7;obtain rfl:=Option.some.inj H;have q9:=b0.1;have r0:=a0.1;have r1:=b5.1;have r2:=a3.1;have n2:=q0_ D;have n3:=q1_ D;have n4:=q2_ D;have n5:=q3_ D;have n6:=blk_frozen D.1 0;have n7:=blk_frozen D.1 1;have n8:=blk_frozen D.1 2;have n9:=blk_frozen D.1 3;go_wp2_with (first|(go_at_call 19;(with_reducible refine (bellpulllaw04_lives.calls kj31  n1 _ p4.1).mono ?_);rintro e t8 ⟨rfl,hb⟩;replace B:=bkb B hb;replace C:=bkb C hb;replace D:=bkb D hb;replace X:=bst X hb;(try clear hb)));go_ret;exact ⟨by first|rfl|(simp [errW_none,errW_some] <;> rfl)|(simp [*,errW_none,errW_some] <;> rfl),by repeat (first|(with_reducible first|exact X.1|apply below_alloc|apply pw_below_drewN|apply below_drew1|refine below_set ?_ a4.1|refine below_set ?_ a5.1|refine below_set ?_ a6.1)|exact X.1)⟩
       ·
        rw [if_neg c43] at H;exact absurd H (by simp)
      ·
       rw [if_neg c42] at H;exact absurd H (by simp)
end Go.Proofs.Ytgfnmimfoicmmaa.PM
