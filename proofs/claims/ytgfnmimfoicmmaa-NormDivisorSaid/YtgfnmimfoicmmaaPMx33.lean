-- Written by pr2.py, a program of this session's, for this claim (through the kit's print).
import Derived.Test.YtgfnmimfoicmmaaPMx0
import Derived.Test.YtgfnmimfoicmmaaPMx6
import Derived.Test.YtgfnmimfoicmmaaPMx19
namespace Go.Proofs.Ytgfnmimfoicmmaa.PM
open Go.Proofs.MyWords Go.RowKit Go.Proofs.YtgfnmimfoicmmaaW.PrintWords Go.Proofs.YtgfnmimfoicmmaaW.PrintLast Go.Proofs.YtgfnmimfoicmmaaW.PrintMore
attribute [local go_sem] max2_int min2_int max_two min_two max_three min_three max_four min_four   -- for this text's walks alone
set_option linter.unusedVariables false
set_option linter.unusedSimpArgs false

attribute [local go_sem] idx67_0 idx67_1 idx67_2 idx67_3
attribute [local go_sem] eqGuard_slices eqlnil36 neqnil36
/-! ### bellpullref04_Less: function 36 -/
def bellpullref04_Less.f (k:Nat) (a0_0:Int) (a0_1:Int) (a0_2:Int) (a0_3:Int) (a1_0:Int) (a1_1:Int) (a1_2:Int) (a1_3:Int):Option (Bool):=(bellpullref04_Parts.f a0_0 a0_1 a0_2 a0_3).bind fun t753=>((bellpullref04_Parts.f a1_0 a1_1 a1_2 a1_3).bind fun t756=>((bellpullref01_Before.f k t753 t756).bind fun t759=>(some t759)))
theorem bellpullref04_Less.mono:∀ a0 a1 a2 a3 a4 a5 a6 a7 k,LeO (bellpullref04_Less.f k a0 a1 a2 a3 a4 a5 a6 a7) (bellpullref04_Less.f (k + 1) a0 a1 a2 a3 a4 a5 a6 a7):=by
  intro a0 a1 a2 a3 a4 a5 a6 a7 k
  unfold bellpullref04_Less.f
  with_reducible repeat' first|exact bellpullref01_Before.mono _ _ _|exact LeO.refl _|exact LeO.none _|refine LeO.ite ?_ ?_|refine LeO.bind ?_ (fun _=>?_)
set_option maxHeartbeats 8000000 in
set_option maxRecDepth 100000 in
theorem bellpullref04_Less.calls (k:Nat) (G:Int) (I:Int) (J:Int) (L:Int) (M:Int) (O:Int) (Q:Int) (R:Int) (r:Bool) (w:World) (h:bellpullref04_Less.f k G I J L M O Q R=some r) :
    Calls Try.prog 36 #[.agg #[.int .i64 G,.int .i64 I,.int .i64 J,.int .i64 L],.agg #[.int .i64 M,.int .i64 O,.int .i64 Q,.int .i64 R]] w fun e w'=>e=.returned (.bool r)∧Below w.heap.size w w':=by
 have b9:=Try.underlying23;have D:=mk0 (Below.refl w.heap.size w);have H:((bellpullref04_Parts.f G I J L).bind fun V=>((bellpullref04_Parts.f M O Q R).bind fun X=>((bellpullref01_Before.f k V X).bind fun a2=>(some a2))))=some r:=h;clear h;replace H:=Option.bind_eq_some_iff.mp H;obtain ⟨V,b0,H⟩:=H;(try dsimp only at H);have A3:=mk0 b0;clear b0;replace H:=Option.bind_eq_some_iff.mp H;obtain ⟨X,b1,H⟩:=H;(try dsimp only at H);have A4:=mk0 b1;clear b1;replace H:=Option.bind_eq_some_iff.mp H;obtain ⟨a2,b2,H⟩:=H;(try dsimp only at H);have A5:=mk0 b2;clear b2;obtain rfl:=Option.some.inj H;go_enter Try.func36,Try.ntmps36;try go_wp2_with (first|((with_reducible refine gate_dst (N:=2) rfl ?_);refine box_event ?hg (N:=2) ?hd (cs:=#[.int .i64 G,.int .i64 I,.int .i64 J,.int .i64 L]) (t:=23) ?hr ?_;(case hd=>rfl);(case hg=>rfl);(case hr=>first|(go_simp;done)|(go_simp;rfl));intro T hg w6 Y hb;have B:=mk0 (Y);have a6:=szw hg D;have a7:=a6;replace D:=bst D hb;clear hb Y hg)|((with_reducible refine gate_dst (N:=3) rfl ?_);refine box_event ?hg (N:=3) ?hd (cs:=#[.int .i64 M,.int .i64 O,.int .i64 Q,.int .i64 R]) (t:=23) ?hr ?_;(case hd=>rfl);(case hg=>rfl);(case hr=>first|(go_simp;done)|(go_simp;rfl));intro U hg w7 Y hb;have C:=mk0 (Y);have a8:=szw hg D;have a9:=a8;have b3:=nlt hg B;have b4:=ngt hg B;replace B:=bkb B hb;replace D:=bst D hb;clear hb Y hg))
 replace B:=bdr B;replace C:=bdr C;replace D:=hdr D;refine start_ (n:=6) (S:=fun w'=>w'.cell? ⟨T,0,none⟩=some (.int .i64 G)∧w'.cell? ⟨T,1,none⟩=some (.int .i64 I)∧w'.cell? ⟨T,2,none⟩=some (.int .i64 J)∧w'.cell? ⟨T,3,none⟩=some (.int .i64 L)∧w'.cell? ⟨U,0,none⟩=some (.int .i64 M)∧w'.cell? ⟨U,1,none⟩=some (.int .i64 O)∧w'.cell? ⟨U,2,none⟩=some (.int .i64 Q)∧w'.cell? ⟨U,3,none⟩=some (.int .i64 R)) (ds:=[]) #[n_,n_,n_,n_,n_,n_] (by kernel_rfl) rfl rfl ⟨q0_ B,q1_ B,q2_ B,q3_ B,q0_ C,q1_ C,q2_ C,q3_ C⟩ (fun E=>?_);generalize w7.drew=w8 at B C D E ⊢;refine take_ (i:=0) (N:=some 5) (v:=?_) (a':=?_) #[y_,n_,n_,n_,n_,n_] rfl rfl (by kernel_rfl) (fun _ _ _ h=>h) (Or.inl ⟨by rfl,?_⟩) E ?_ ?_;rotate_left
 ·
  rintro w' ⟨s0,s1,s2,s3,s4,s5,s6,s7⟩;go_simp;with_reducible rfl
 rotate_left
 ·
  simp only [Act.put,s0_,s1_,s2_,i64_w,i32_w];rfl
 refine take_ (i:=2) (N:=some 7) (v:=?_) (a':=?_) #[y_,n_,y_,n_,n_,n_] rfl rfl (by kernel_rfl) (fun _ _ _ h=>h) (Or.inl ⟨by rfl,?_⟩) E ?_ ?_;rotate_left
 ·
  rintro w' ⟨s0,s1,s2,s3,s4,s5,s6,s7⟩;go_simp;with_reducible rfl
 rotate_left
 ·
  simp only [Act.put,s0_,s1_,s2_,i64_w,i32_w];rfl
 refine one_ (i:=1) (N:=some 6) #[y_,y_,y_,n_,n_,n_] rfl rfl (by kernel_rfl) (by decide) (fun K hK=>?_);refine goes_ Try.func45 (by kernel_rfl) rfl #[.agg #[.int .i64 G,.int .i64 I,.int .i64 J,.int .i64 L]] (by rfl) rfl rfl (by (try simp only [m0_,m1_,m2_]);first|done|rfl|(simp only [l0_,l1_];rfl)) ?_;with_reducible refine (bellpullref04_Parts.calls G I J L V _ A3.1).mono ?_
 rintro e w9 ⟨d2,rfl,Z,hb⟩;refine ⟨_,rfl,?_⟩;have F:=mk0 (Kd.R_lower Z (below_size D.1));replace B:=bkb B hb;replace C:=bkb C hb;replace D:=bst D hb;(try clear hb);(try clear Z);refine hK.out _ _ ⟨q0_ B,q1_ B,q2_ B,q3_ B,q0_ C,q1_ C,q2_ C,q3_ C⟩ (fun E=>?_);clear hK K;refine norm_ (a':=?_) ?_ ?_;rotate_left
 ·
  show Act.put _ (some 6) _=_;simp only [Act.put,s0_,s1_,s2_,i64_w,i32_w];rfl
 refine one_ (i:=3) (N:=some 8) #[y_,y_,y_,y_,n_,n_] rfl rfl (by kernel_rfl) (by decide) (fun K hK=>?_);refine goes_ Try.func45 (by kernel_rfl) rfl #[.agg #[.int .i64 M,.int .i64 O,.int .i64 Q,.int .i64 R]] (by rfl) rfl rfl (by (try simp only [m0_,m1_,m2_]);first|done|rfl|(simp only [l0_,l1_];rfl)) ?_;with_reducible refine (bellpullref04_Parts.calls M O Q R X _ A4.1).mono ?_
 rintro e d4 ⟨d3,rfl,Z,hb⟩;refine ⟨_,rfl,?_⟩;have a0:=mk0 (Kd.R_lower (Kd.R_new' Z (Kd.R_lt F.1)) (below_size D.1));replace F:=mk0 (Kd.R_elder' F.1 (Kd.R_base Z) hb);replace B:=bkb B hb;replace C:=bkb C hb;replace D:=bst D hb;(try clear hb);(try clear Z);obtain ⟨b5,b6,a3⟩:=Kd.R_slice F.1;(first|subst a3|(injection a3 with f1_ f2_ f3_;have f4_:=f1_.symm;have a4:=f3_.symm;clear f1_ f2_ f3_;subst f4_;subst a4));obtain ⟨b7,b8,a5⟩:=Kd.R_slice a0.1;(first|subst a5|(injection a5 with f1_ f2_ f3_;have f4_:=f1_.symm;have a4:=f3_.symm;clear f1_ f2_ f3_;subst f4_;subst a4));refine hK.out _ _ ⟨q0_ B,q1_ B,q2_ B,q3_ B,q0_ C,q1_ C,q2_ C,q3_ C⟩ (fun E=>?_);clear hK K;refine norm_ (a':=?_) ?_ ?_;rotate_left
 ·
  show Act.put _ (some 8) _=_;simp only [Act.put,s0_,s1_,s2_,i64_w,i32_w];rfl
 refine one_ (i:=4) (N:=some 9) #[y_,y_,y_,y_,y_,n_] rfl rfl (by kernel_rfl) (by decide) (fun K hK=>?_);refine goes_ Try.func60 (by kernel_rfl) rfl #[.slice b5 V.length b6,.slice b7 X.length b8] (by rfl) rfl rfl (by (try simp only [m0_,m1_,m2_]);first|done|rfl|(simp only [l0_,l1_];rfl)) ?_;with_reducible refine (bellpullref01_Before.calls k _ _ V _ _ X a2 _ ?side1 ?side2 ?side3 ?side4 A5.1).mono ?_
 (case side1=>repeat (first|exact (Kd.R_reads' F.1).2.2|(with_reducible refine Kd.C_alloc ?_ _)|(with_reducible refine Kd.C_drewN ?_ _)|(with_reducible refine Kd.C_drew ?_)));(case side2=>exact (Kd.R_reads' F.1).2.1);(case side3=>repeat (first|exact (Kd.R_reads' a0.1).2.2|(with_reducible refine Kd.C_alloc ?_ _)|(with_reducible refine Kd.C_drewN ?_ _)|(with_reducible refine Kd.C_drew ?_)));(case side4=>exact (Kd.R_reads' a0.1).2.1);rintro e w' ⟨rfl,⟨nd,rfl⟩⟩;refine ⟨_,rfl,?_⟩;refine hK.out _ _ ⟨q0_ B,q1_ B,q2_ B,q3_ B,q0_ C,q1_ C,q2_ C,q3_ C⟩ (fun E=>?_);clear hK K;refine norm_ (a':=?_) ?_ ?_;rotate_left
 ·
  show Act.put _ (some 9) _=_;simp only [Act.put,s0_,s1_,s2_,i64_w,i32_w];rfl
 refine pure_ (i:=5) (N:=some 4) (v:=?_) (a':=?_) #[y_,y_,y_,y_,y_,y_] rfl rfl (by kernel_rfl) (fun _ _ _ h=>h) (Or.inl ⟨by rfl,?_⟩) ?_ ?_;rotate_left
 ·
  intro w';go_simp;with_reducible rfl
 rotate_left
 ·
  simp only [Act.put,s0_,s1_,s2_,i64_w,i32_w];rfl
 refine done_ (by kernel_rfl) ?_;try go_wp2
 go_ret;exact ⟨by first|rfl|(simp [errW_none,errW_some] <;> rfl)|(simp [*,errW_none,errW_some] <;> rfl),by repeat (first|(with_reducible first|exact D.1|apply below_alloc|apply pw_below_drewN|apply below_drew1|refine below_set ?_ a7.1|refine below_set ?_ a9.1)|exact D.1)⟩
end Go.Proofs.Ytgfnmimfoicmmaa.PM
