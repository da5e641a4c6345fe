-- Written by pr2.py, a program of this session's, for this claim (through the kit's print).
import Derived.Test.YtgfnmimfoicmmaaPMx0
import Derived.Test.YtgfnmimfoicmmaaPMx2
import Derived.Test.YtgfnmimfoicmmaaPMx3
import Derived.Test.YtgfnmimfoicmmaaPMx4
import Derived.Test.YtgfnmimfoicmmaaPMx5
namespace Go.Proofs.Ytgfnmimfoicmmaa.PM
open Go.Proofs.MyWords Go.RowKit Go.Proofs.YtgfnmimfoicmmaaW.PrintWords Go.Proofs.YtgfnmimfoicmmaaW.PrintLast Go.Proofs.YtgfnmimfoicmmaaW.PrintMore
attribute [local go_sem] max2_int min2_int max_two min_two max_three min_three max_four min_four   -- for this text's walks alone
set_option linter.unusedVariables false
set_option linter.unusedSimpArgs false

attribute [local go_sem] idx67_0 idx67_1 idx67_2 idx67_3
attribute [local go_sem] eqGuard_slices eqlnil36 neqnil36
attribute [local go_sem high] eqA67
/-! ### norm_Gcd: function 21 -/
mutual
def norm_Gcd.j0:Nat → Bool → Int → Int → Int → Int → Int → Int → Int → Int → Option (Int × Int × Int × Int × Int)
  | 0,_,_,_,_,_,_,_,_,_=>none
  | k + 1,x34,x241000,x241001,x241002,x241003,x242000,x242001,x242002,x242003=>if x34=true then (some (0,0,0,0,5)) else (norm_Gcd.l0 k x241000 x241001 x241002 x241003 x242000 x242001 x242002 x242003)
def norm_Gcd.l0:Nat → Int → Int → Int → Int → Int → Int → Int → Int → Option (Int × Int × Int × Int × Int)
  | 0,_,_,_,_,_,_,_,_=>none
  | k + 1,x241000,x241001,x241002,x241003,x242000,x242001,x242002,x242003=>if (!(x242000 == 0) || (!(x242001 == 0) || (!(x242002 == 0) || (!(x242003 == 0)))))=true then ((norm_divide.f k x241000 x241001 x241002 x241003 x242000 x242001 x242002 x242003).bind fun bt242=>(norm_Gcd.l0 k x242000 x242001 x242002 x242003 bt242.2.2.2.2.1 bt242.2.2.2.2.2.1 bt242.2.2.2.2.2.2.1 bt242.2.2.2.2.2.2.2)) else ((norm_units.f k).bind fun t253=>(norm_Gcd.l1 k t253 (t253.length:Int) 0 x241000 x241001 x241002 x241003 x241000 x241001 x241002 x241003))
def norm_Gcd.l1:Nat → List (S67) → Int → Int → Int → Int → Int → Int → Int → Int → Int → Int → Option (Int × Int × Int × Int × Int)
  | 0,_,_,_,_,_,_,_,_,_,_,_=>none
  | k + 1,x48,x49,x50,x241000,x241001,x241002,x241003,x253000,x253001,x253002,x253003=>if x50 < x49 then (if 0 ≤ x50 then (if x50 < (x48.length:Int) then ((norm_product.f k (([(⟨(rd_T67 x48 x50).f0,(rd_T67 x48 x50).f1,(rd_T67 x48 x50).f2,(rd_T67 x48 x50).f3⟩:S67),(⟨x241000,x241001,x241002,x241003⟩:S67)]:List (S67)))).bind fun bt265=>((slices_Compare_int_int.f k [bt265.1,bt265.2.1,bt265.2.2.1,bt265.2.2.2] [x253000,x253001,x253002,x253003]).bind fun t270=>(if t270 > 0 then (norm_Gcd.l1 k x48 x49 (wrap64 (x50 + 1)) x241000 x241001 x241002 x241003 bt265.1 bt265.2.1 bt265.2.2.1 bt265.2.2.2) else (norm_Gcd.l1 k x48 x49 (wrap64 (x50 + 1)) x241000 x241001 x241002 x241003 x253000 x253001 x253002 x253003)))) else (none)) else (none)) else ((norm_quat_api.f x253000 x253001 x253002 x253003).bind fun bt256=>(some (bt256.1,bt256.2.1,bt256.2.2.1,bt256.2.2.2,0)))
end
def norm_Gcd.f (k:Nat) (a0_0:Int) (a0_1:Int) (a0_2:Int) (a0_3:Int) (a1_0:Int) (a1_1:Int) (a1_2:Int) (a1_3:Int):Option (Int × Int × Int × Int × Int):=(norm_check.f k (([(⟨a0_0,a0_1,a0_2,a0_3⟩:S23),(⟨a1_0,a1_1,a1_2,a1_3⟩:S23)]:List (S23)))).bind fun t231=>(if t231=0 then ((norm_of.f a0_0 a0_1 a0_2 a0_3).bind fun bt232=>((norm_of.f a1_0 a1_1 a1_2 a1_3).bind fun bt236=>(if (bt232.1 == 0 && (bt232.2.1 == 0 && (bt232.2.2.1 == 0 && (bt232.2.2.2 == 0))))=true then (norm_Gcd.j0 k (bt236.1 == 0 && (bt236.2.1 == 0 && (bt236.2.2.1 == 0 && (bt236.2.2.2 == 0)))) bt232.1 bt232.2.1 bt232.2.2.1 bt232.2.2.2 bt236.1 bt236.2.1 bt236.2.2.1 bt236.2.2.2) else (norm_Gcd.j0 k false bt232.1 bt232.2.1 bt232.2.2.1 bt232.2.2.2 bt236.1 bt236.2.1 bt236.2.2.1 bt236.2.2.2)))) else (some (0,0,0,0,t231)))
theorem norm_Gcd.mono_l:∀ k,(∀ B C D E F G I J L,LeO (norm_Gcd.j0 k B C D E F G I J L) (norm_Gcd.j0 (k + 1) B C D E F G I J L))∧(∀ B C D E F G I J,LeO (norm_Gcd.l0 k B C D E F G I J) (norm_Gcd.l0 (k + 1) B C D E F G I J))∧(∀ B C D E F G I J L R M,LeO (norm_Gcd.l1 k B C D E F G I J L R M) (norm_Gcd.l1 (k + 1) B C D E F G I J L R M))
  | 0=>⟨fun _ _ _ _ _ _ _ _ _ r h=>by simp [norm_Gcd.j0] at h,fun _ _ _ _ _ _ _ _ r h=>by simp [norm_Gcd.l0] at h,fun _ _ _ _ _ _ _ _ _ _ _ r h=>by simp [norm_Gcd.l1] at h⟩
  | k + 1=>by
    obtain ⟨N,O,Q⟩:=norm_Gcd.mono_l k
    refine ⟨?_,?_,?_⟩
    · intro B C D E F G I J L
      unfold norm_Gcd.j0
      with_reducible repeat' first|exact N _ _ _ _ _ _ _ _ _|exact O _ _ _ _ _ _ _ _|exact Q _ _ _ _ _ _ _ _ _ _ _|exact norm_check.mono _ _|exact norm_divide.mono _ _ _ _ _ _ _ _ _|exact norm_product.mono _ _|exact norm_units.mono _|exact slices_Compare_int_int.mono _ _ _|exact LeO.refl _|exact LeO.none _|refine LeO.ite ?_ ?_|refine LeO.bind ?_ (fun _=>?_)
    · intro B C D E F G I J
      unfold norm_Gcd.l0
      with_reducible repeat' first|exact N _ _ _ _ _ _ _ _ _|exact O _ _ _ _ _ _ _ _|exact Q _ _ _ _ _ _ _ _ _ _ _|exact norm_check.mono _ _|exact norm_divide.mono _ _ _ _ _ _ _ _ _|exact norm_product.mono _ _|exact norm_units.mono _|exact slices_Compare_int_int.mono _ _ _|exact LeO.refl _|exact LeO.none _|refine LeO.ite ?_ ?_|refine LeO.bind ?_ (fun _=>?_)
    · intro B C D E F G I J L R M
      unfold norm_Gcd.l1
      with_reducible repeat' first|exact N _ _ _ _ _ _ _ _ _|exact O _ _ _ _ _ _ _ _|exact Q _ _ _ _ _ _ _ _ _ _ _|exact norm_check.mono _ _|exact norm_divide.mono _ _ _ _ _ _ _ _ _|exact norm_product.mono _ _|exact norm_units.mono _|exact slices_Compare_int_int.mono _ _ _|exact LeO.refl _|exact LeO.none _|refine LeO.ite ?_ ?_|refine LeO.bind ?_ (fun _=>?_)
theorem norm_Gcd.mono:∀ a0 a1 a2 a3 a4 a5 a6 a7 k,LeO (norm_Gcd.f k a0 a1 a2 a3 a4 a5 a6 a7) (norm_Gcd.f (k + 1) a0 a1 a2 a3 a4 a5 a6 a7):=by
  intro a0 a1 a2 a3 a4 a5 a6 a7 k
  obtain ⟨ih0,ih1,ih2⟩:=norm_Gcd.mono_l k
  unfold norm_Gcd.f
  with_reducible repeat' first|exact ih0 _ _ _ _ _ _ _ _ _|exact ih1 _ _ _ _ _ _ _ _|exact ih2 _ _ _ _ _ _ _ _ _ _ _|exact norm_check.mono _ _|exact norm_divide.mono _ _ _ _ _ _ _ _ _|exact norm_product.mono _ _|exact norm_units.mono _|exact slices_Compare_int_int.mono _ _ _|exact LeO.refl _|exact LeO.none _|refine LeO.ite ?_ ?_|refine LeO.bind ?_ (fun _=>?_)
def norm_Gcd.T4:Bool × List (List Nat × List Nat):=(true,[([],[]),([0],[0]),([],[]),([2,1],[2]),([],[]),([],[]),([4,1,3,0,1,4,5],[1,4]),([5,3,6,0,1,2,3,4,5,6],[3,5])])
def norm_Gcd.B4:List Nat:=[0,1,0,7,0,0,63,127]
theorem norm_Gcd.tab4:rtab .any (opsOf Try.f21 4)=norm_Gcd.T4:=by kernel_rfl
theorem norm_Gcd.bits4:waitsOk norm_Gcd.T4.2 norm_Gcd.B4=true:=by kernel_rfl
set_option maxHeartbeats 8000000 in
set_option maxRecDepth 100000 in
theorem norm_Gcd.calls (k:Nat) (d2:Int) (d3:Int) (d4:Int) (d5:Int) (d6:Int) (d7:Int) (d8:Int) (d9:Int) (r1:Int) (r2:Int) (r3:Int) (r4:Int) (r5:Int) (w:World) (h:norm_Gcd.f k d2 d3 d4 d5 d6 d7 d8 d9=some (r1,r2,r3,r4,r5)) :
    Calls Try.prog 21 #[.agg #[.int .i64 d2,.int .i64 d3,.int .i64 d4,.int .i64 d5],.agg #[.int .i64 d6,.int .i64 d7,.int .i64 d8,.int .i64 d9]] w fun e w'=>e=.returned (.tuple #[.agg #[.int .i64 r1,.int .i64 r2,.int .i64 r3,.int .i64 r4],.int .i64 r5])∧Below w.heap.size w w':=by
 have Qv:=Try.underlying23;have Qw:=Try.underlying67;have HB:=mk0 (Below.refl w.heap.size w);have H:((norm_check.f k (([(⟨d2,d3,d4,d5⟩:S23),(⟨d6,d7,d8,d9⟩:S23)]:List (S23)))).bind fun j7=>(if j7=0 then ((norm_of.f d2 d3 d4 d5).bind fun g5=>((norm_of.f d6 d7 d8 d9).bind fun g6=>(if (g5.1 == 0 && (g5.2.1 == 0 && (g5.2.2.1 == 0 && (g5.2.2.2 == 0))))=true then (norm_Gcd.j0 k (g6.1 == 0 && (g6.2.1 == 0 && (g6.2.2.1 == 0 && (g6.2.2.2 == 0)))) g5.1 g5.2.1 g5.2.2.1 g5.2.2.2 g6.1 g6.2.1 g6.2.2.1 g6.2.2.2) else (norm_Gcd.j0 k false g5.1 g5.2.1 g5.2.2.1 g5.2.2.2 g6.1 g6.2.1 g6.2.2.1 g6.2.2.2)))) else (some (0,0,0,0,j7))))=some (r1,r2,r3,r4,r5):=h;clear h;obtain ⟨g9,t4⟩:∃ y_:List (S23),y_=(([(⟨d2,d3,d4,d5⟩:S23),(⟨d6,d7,d8,d9⟩:S23)]:List (S23))):=⟨_,rfl⟩
 replace H:((norm_check.f k g9).bind fun j7=>(if j7=0 then ((norm_of.f d2 d3 d4 d5).bind fun g5=>((norm_of.f d6 d7 d8 d9).bind fun g6=>(if (g5.1 == 0 && (g5.2.1 == 0 && (g5.2.2.1 == 0 && (g5.2.2.2 == 0))))=true then (norm_Gcd.j0 k (g6.1 == 0 && (g6.2.1 == 0 && (g6.2.2.1 == 0 && (g6.2.2.2 == 0)))) g5.1 g5.2.1 g5.2.2.1 g5.2.2.2 g6.1 g6.2.1 g6.2.2.1 g6.2.2.2) else (norm_Gcd.j0 k false g5.1 g5.2.1 g5.2.2.1 g5.2.2.2 g6.1 g6.2.1 g6.2.2.1 g6.2.2.2)))) else (some (0,0,0,0,j7))))=some (r1,r2,r3,r4,r5):=by first|(rw [t4];with_reducible exact H)|(have y8:=(Option.bind_some _ _).symm.trans H;rw [t4];with_reducible exact y8)|(have y8:=(Option.bind_some _ _).symm.trans H;with_reducible exact y8)|with_reducible exact H|(rw [t4];exact H)|exact H
 have y5:=mk0 t4;clear t4;replace H:=Option.bind_eq_some_iff.mp H;obtain ⟨j7,N4,H⟩:=H;(try dsimp only at H);have A3:=mk0 N4;clear N4
 by_cases c4:j7=0
 ·
  rw [if_pos c4] at H;have c4b0:(j7 == 0)=true:=beq_iff_eq.mpr c4;have c4b1:(j7 != 0)=false:=bne_eq_false_iff_eq.mpr c4;clear c4;replace H:=Option.bind_eq_some_iff.mp H;obtain ⟨⟨g7,g8,h0,h4⟩,N5,H⟩:=H;(try dsimp only at H);have A5:=mk0 N5;clear N5;replace H:=Option.bind_eq_some_iff.mp H;obtain ⟨⟨h7,i0,i8,j8⟩,N6,H⟩:=H;(try dsimp only at H);have A6:=mk0 N6;clear N6;have L3:=mk0 H;clear H;go_enter Try.func21,Try.ntmps21;try go_wp2_with (first|((with_reducible refine gate_dst (N:=2) rfl ?_);refine box_event ?hg (N:=2) ?hd (cs:=#[.int .i64 d2,.int .i64 d3,.int .i64 d4,.int .i64 d5]) (t:=23) ?hr ?_;(case hd=>rfl);(case hg=>rfl);(case hr=>first|(go_simp;done)|(go_simp;rfl));intro V hg w8 b8 hb;have B:=mk0 (b8);have B4:=szw hg HB;have h1:=B4;replace HB:=bst HB hb;clear hb b8 hg)|((with_reducible refine gate_dst (N:=3) rfl ?_);refine box_event ?hg (N:=3) ?hd (cs:=#[.int .i64 d6,.int .i64 d7,.int .i64 d8,.int .i64 d9]) (t:=23) ?hr ?_;(case hd=>rfl);(case hg=>rfl);(case hr=>first|(go_simp;done)|(go_simp;rfl));intro X hg w9 b8 hb;have C:=mk0 (b8);have B5:=szw hg HB;have h2:=B5;have o5:=nlt hg B;have o6:=ngt hg B;replace B:=bkb B hb;replace HB:=bst HB hb;clear hb b8 hg)|((with_reducible refine gate_dst (N:=4) rfl ?_);refine box_event ?hg (N:=4) ?hd (cs:=#[.int .i64 0,.int .i64 0,.int .i64 0,.int .i64 0]) (t:=23) ?hr ?_;(case hd=>rfl);(case hg=>rfl);(case hr=>first|(go_simp;done)|(go_simp;rfl));intro b7 hg Se b8 hb;have D:=mk0 (b8);have B6:=szw hg HB;have h3:=B6;have l3:=nlt hg B;have l4:=ngt hg B;have l5:=nlt hg C;have l6:=ngt hg C;replace B:=bkb B hb;replace C:=bkb C hb;replace HB:=bst HB hb;clear hb b8 hg;have Mv:=o5.1;have Mw:=o6.1;have Mx:=l3.1;have My:=l4.1;have Bd:=q0_ B;have Be:=q1_ B;have Bf:=q2_ B;have Bg:=q3_ B;have Bh:=blk_frozen B.1 0;have Bi:=blk_frozen B.1 1;have Bj:=blk_frozen B.1 2;have Bk:=blk_frozen B.1 3;have Mz:=l5.1;have Na:=l6.1;have Bl:=q0_ C;have Bm:=q1_ C;have Bn:=q2_ C;have Bo:=q3_ C;have Bp:=blk_frozen C.1 0;have Bq:=blk_frozen C.1 1;have Br:=blk_frozen C.1 2;have Bs:=blk_frozen C.1 3)|((with_reducible refine gate_dst (N:=17) rfl ?_);refine Kd.R_lit k23 _ 23 ?hg (N:=17) ?hd (xs:=([(⟨d2,d3,d4,d5⟩:S23),(⟨d6,d7,d8,d9⟩:S23)]:List (S23))) (inner:=[.int .i64 d2,.int .i64 d3,.int .i64 d4,.int .i64 d5,.int .i64 d6,.int .i64 d7,.int .i64 d8,.int .i64 d9]) (ok:=fun _=>True) (okp:=fun _=>True) ?hr ?hp (fun _ hk=>hk) trivial (Below.refl _ _) (Nat.le_refl _) (by simp) ?_;(case hd=>rfl);(case hg=>rfl);(case hr=>first|(go_simp;done)|(go_simp;rfl));(case hp=>exact (Reps.c4 (show Kd.M k23 _ _ _ (⟨d2,d3,d4,d5⟩:S23) [.int .i64 d2,.int .i64 d3,.int .i64 d4,.int .i64 d5] from (k23_mkM _ _ _ (⟨d2,d3,d4,d5⟩:S23) )) (Reps.c4 (show Kd.M k23 _ _ _ (⟨d6,d7,d8,d9⟩:S23) [.int .i64 d6,.int .i64 d7,.int .i64 d8,.int .i64 d9] from (k23_mkM _ _ _ (⟨d6,d7,d8,d9⟩:S23) )) (Reps.none _ _))));intro O1 Sf y9 hb hg_ o4;clear hg_ o4;(first|rw [← y5.1] at y9|(simp only [Int.reduceToNat] at y9;rw [← y5.1] at y9));have T:=mk0 (Kd.R_lower (Kd.R_newB (Kd.R_newB (Kd.R_newB y9 (g:=V) (o:=.cells #[.int .i64 d2,.int .i64 d3,.int .i64 d4,.int .i64 d5] 23 (0,0)) B.1) (g:=X) (o:=.cells #[.int .i64 d6,.int .i64 d7,.int .i64 d8,.int .i64 d9] 23 (0,0)) C.1) (g:=b7) (o:=.cells #[.int .i64 0,.int .i64 0,.int .i64 0,.int .i64 0] 23 (0,0)) D.1) (below_size HB.1));replace B:=bkb B hb;replace C:=bkb C hb;replace D:=bkb D hb;replace HB:=bst HB hb;clear hb y9;obtain ⟨n3,n4,O2⟩:=Kd.R_slice T.1;subst O2)|((with_reducible refine gate_callee (f:=47) rfl ?_);refine goesL_ (some 18) rfl rfl Try.func47 (by kernel_rfl) rfl #[.slice n3 g9.length n4] rfl (by (try simp only [m0_,m1_,m2_]);first|done|rfl|(simp only [l0_,l1_];rfl)) ?_;(with_reducible refine (norm_check.calls k _ _ g9 j7 _ ?side1 ?side2 A3.1).mono ?_);(case side1=>repeat (first|exact (Kd.R_reads' T.1).2.2|(with_reducible refine Kd.C_alloc ?_ _)|(with_reducible refine Kd.C_drewN ?_ _)|(with_reducible refine Kd.C_drew ?_)));(case side2=>exact (Kd.R_reads' T.1).2.1);rintro e Hz ⟨rfl,hb⟩;refine ⟨_,rfl,?_⟩;replace T:=rbl T hb;replace B:=bkb B hb;replace C:=bkb C hb;replace D:=bkb D hb;replace HB:=bst HB hb;(try clear hb);(try clear hk)))
  replace T:=rdr T;replace B:=bdr B;replace C:=bdr C;replace D:=bdr D;replace HB:=hdr HB;refine start_ (n:=8) (S:=fun w'=>w'.cell? ⟨V,0,none⟩=some (.int .i64 d2)∧w'.cell? ⟨V,1,none⟩=some (.int .i64 d3)∧w'.cell? ⟨V,2,none⟩=some (.int .i64 d4)∧w'.cell? ⟨V,3,none⟩=some (.int .i64 d5)∧w'.cell? ⟨X,0,none⟩=some (.int .i64 d6)∧w'.cell? ⟨X,1,none⟩=some (.int .i64 d7)∧w'.cell? ⟨X,2,none⟩=some (.int .i64 d8)∧w'.cell? ⟨X,3,none⟩=some (.int .i64 d9)) (ds:=[]) #[n_,n_,n_,n_,n_,n_,n_,n_] (by kernel_rfl) rfl rfl ⟨q0_ B,q1_ B,q2_ B,q3_ B,q0_ C,q1_ C,q2_ C,q3_ C⟩ (fun a4=>?_);refine with_tabW norm_Gcd.tab4 norm_Gcd.bits4 (fun n8 N7=>?_);generalize Hz.drew=Sg at T B C D HB a4 ⊢;refine take_ (i:=0) (N:=some 23) (v:=?_) (a':=?_) #[y_,n_,n_,n_,n_,n_,n_,n_] rfl rfl (take_ofW n8.1 N7.1 (by kernel_rfl)) (fun _ _ _ h=>h) (Or.inl ⟨by rfl,?_⟩) a4 ?_ ?_;rotate_left
  ·
   rintro w' ⟨s0,s1,s2,s3,s4,s5,s6,s7⟩;go_simp;with_reducible rfl
  rotate_left
  ·
   simp only [Act.put,s0_,s1_,s2_,i64_w,i32_w];rfl
  refine take_ (i:=2) (N:=some 25) (v:=?_) (a':=?_) #[y_,n_,y_,n_,n_,n_,n_,n_] rfl rfl (take_ofW n8.1 N7.1 (by kernel_rfl)) (fun _ _ _ h=>h) (Or.inl ⟨by rfl,?_⟩) a4 ?_ ?_;rotate_left
  ·
   rintro w' ⟨s0,s1,s2,s3,s4,s5,s6,s7⟩;go_simp;with_reducible rfl
  rotate_left
  ·
   simp only [Act.put,s0_,s1_,s2_,i64_w,i32_w];rfl
  refine join_ (σ:=Nat × Nat) 2 #[y_,y_,y_,y_,y_,y_,n_,n_] (fun s_=>[(24,.agg #[.int .i64 g7,.int .i64 g8,.int .i64 h0,.int .i64 h4]),(26,.agg #[.int .i64 h7,.int .i64 i0,.int .i64 i8,.int .i64 j8]),(7,.pointer (some ⟨s_.1,0,none⟩)),(8,.pointer (some ⟨s_.2,0,none⟩))]) (fun s_ w'=>(w'.cell? ⟨V,0,none⟩=some (.int .i64 d2)∧w'.cell? ⟨V,1,none⟩=some (.int .i64 d3)∧w'.cell? ⟨V,2,none⟩=some (.int .i64 d4)∧w'.cell? ⟨V,3,none⟩=some (.int .i64 d5)∧w'.cell? ⟨X,0,none⟩=some (.int .i64 d6)∧w'.cell? ⟨X,1,none⟩=some (.int .i64 d7)∧w'.cell? ⟨X,2,none⟩=some (.int .i64 d8)∧w'.cell? ⟨X,3,none⟩=some (.int .i64 d9))∧(Kd.R k23 23 w' w.heap.size (fun k_=>k_ ≠ V∧k_ ≠ X∧k_ ≠ b7) (.slice n3 g9.length n4) g9)∧(Q4_ w' V d2 d3 d4 d5 23)∧(Q4_ w' X d6 d7 d8 d9 23)∧(Q4_ w' b7 0 0 0 0 23)∧(Q4_ w' s_.1 0 0 0 0 67)∧(Q4_ w' s_.2 0 0 0 0 67)∧(w.heap.size ≤ s_.1)∧(w.heap.size ≤ s_.1)∧(V ≠ s_.1)∧(s_.1 ≠ V)∧(X ≠ s_.1)∧(s_.1 ≠ X)∧(b7 ≠ s_.1)∧(s_.1 ≠ b7)∧(s_.2 ≠ s_.1)∧(s_.1 ≠ s_.2)∧(w.heap.size ≤ s_.2)∧(w.heap.size ≤ s_.2)∧(V ≠ s_.2)∧(s_.2 ≠ V)∧(X ≠ s_.2)∧(s_.2 ≠ X)∧(b7 ≠ s_.2)∧(s_.2 ≠ b7)∧(Below w.heap.size w w')) ?_ ?_;rotate_left
  ·
   intro o7;refine join_ (σ:=Nat) 3 #[y_,y_,y_,y_,y_,n_,n_,n_] (fun s_=>[(24,.agg #[.int .i64 g7,.int .i64 g8,.int .i64 h0,.int .i64 h4]),(26,.agg #[.int .i64 h7,.int .i64 i0,.int .i64 i8,.int .i64 j8]),(7,.pointer (some ⟨s_,0,none⟩))]) (fun s_ w'=>(w'.cell? ⟨V,0,none⟩=some (.int .i64 d2)∧w'.cell? ⟨V,1,none⟩=some (.int .i64 d3)∧w'.cell? ⟨V,2,none⟩=some (.int .i64 d4)∧w'.cell? ⟨V,3,none⟩=some (.int .i64 d5)∧w'.cell? ⟨X,0,none⟩=some (.int .i64 d6)∧w'.cell? ⟨X,1,none⟩=some (.int .i64 d7)∧w'.cell? ⟨X,2,none⟩=some (.int .i64 d8)∧w'.cell? ⟨X,3,none⟩=some (.int .i64 d9))∧(Kd.R k23 23 w' w.heap.size (fun k_=>k_ ≠ V∧k_ ≠ X∧k_ ≠ b7) (.slice n3 g9.length n4) g9)∧(Q4_ w' V d2 d3 d4 d5 23)∧(Q4_ w' X d6 d7 d8 d9 23)∧(Q4_ w' b7 0 0 0 0 23)∧(Q4_ w' s_ 0 0 0 0 67)∧(w.heap.size ≤ s_)∧(w.heap.size ≤ s_)∧(V ≠ s_)∧(s_ ≠ V)∧(X ≠ s_)∧(s_ ≠ X)∧(b7 ≠ s_)∧(s_ ≠ b7)∧(Below w.heap.size w w')) ?_ ?_;rotate_left
   ·
    intro z8;refine join_ (σ:=Nat) 3 #[y_,y_,y_,y_,n_,y_,n_,n_] (fun s_=>[(24,.agg #[.int .i64 g7,.int .i64 g8,.int .i64 h0,.int .i64 h4]),(26,.agg #[.int .i64 h7,.int .i64 i0,.int .i64 i8,.int .i64 j8]),(8,.pointer (some ⟨s_,0,none⟩))]) (fun s_ w'=>(w'.cell? ⟨V,0,none⟩=some (.int .i64 d2)∧w'.cell? ⟨V,1,none⟩=some (.int .i64 d3)∧w'.cell? ⟨V,2,none⟩=some (.int .i64 d4)∧w'.cell? ⟨V,3,none⟩=some (.int .i64 d5)∧w'.cell? ⟨X,0,none⟩=some (.int .i64 d6)∧w'.cell? ⟨X,1,none⟩=some (.int .i64 d7)∧w'.cell? ⟨X,2,none⟩=some (.int .i64 d8)∧w'.cell? ⟨X,3,none⟩=some (.int .i64 d9))∧(Kd.R k23 23 w' w.heap.size (fun k_=>k_ ≠ V∧k_ ≠ X∧k_ ≠ b7) (.slice n3 g9.length n4) g9)∧(Q4_ w' V d2 d3 d4 d5 23)∧(Q4_ w' X d6 d7 d8 d9 23)∧(Q4_ w' b7 0 0 0 0 23)∧(Q4_ w' s_ 0 0 0 0 67)∧(w.heap.size ≤ s_)∧(w.heap.size ≤ s_)∧(V ≠ s_)∧(s_ ≠ V)∧(X ≠ s_)∧(s_ ≠ X)∧(b7 ≠ s_)∧(s_ ≠ b7)∧(Below w.heap.size w w')) ?_ ?_;rotate_left
    ·
     intro z9;refine join_ (σ:=Nat × Nat) 3 #[y_,y_,y_,n_,y_,y_,n_,n_] (fun s_=>[(24,.agg #[.int .i64 g7,.int .i64 g8,.int .i64 h0,.int .i64 h4]),(7,.pointer (some ⟨s_.1,0,none⟩)),(8,.pointer (some ⟨s_.2,0,none⟩))]) (fun s_ w'=>(w'.cell? ⟨V,0,none⟩=some (.int .i64 d2)∧w'.cell? ⟨V,1,none⟩=some (.int .i64 d3)∧w'.cell? ⟨V,2,none⟩=some (.int .i64 d4)∧w'.cell? ⟨V,3,none⟩=some (.int .i64 d5)∧w'.cell? ⟨X,0,none⟩=some (.int .i64 d6)∧w'.cell? ⟨X,1,none⟩=some (.int .i64 d7)∧w'.cell? ⟨X,2,none⟩=some (.int .i64 d8)∧w'.cell? ⟨X,3,none⟩=some (.int .i64 d9))∧(Kd.R k23 23 w' w.heap.size (fun k_=>k_ ≠ V∧k_ ≠ X∧k_ ≠ b7) (.slice n3 g9.length n4) g9)∧(Q4_ w' V d2 d3 d4 d5 23)∧(Q4_ w' X d6 d7 d8 d9 23)∧(Q4_ w' b7 0 0 0 0 23)∧(Q4_ w' s_.1 0 0 0 0 67)∧(Q4_ w' s_.2 0 0 0 0 67)∧(w.heap.size ≤ s_.1)∧(w.heap.size ≤ s_.1)∧(V ≠ s_.1)∧(s_.1 ≠ V)∧(X ≠ s_.1)∧(s_.1 ≠ X)∧(b7 ≠ s_.1)∧(s_.1 ≠ b7)∧(s_.2 ≠ s_.1)∧(s_.1 ≠ s_.2)∧(w.heap.size ≤ s_.2)∧(w.heap.size ≤ s_.2)∧(V ≠ s_.2)∧(s_.2 ≠ V)∧(X ≠ s_.2)∧(s_.2 ≠ X)∧(b7 ≠ s_.2)∧(s_.2 ≠ b7)∧(Below w.heap.size w w')) ?_ ?_;rotate_left
     ·
      intro u2;refine join_ (σ:=Unit) 4 #[y_,y_,y_,y_,n_,n_,n_,n_] (fun s_=>[(24,.agg #[.int .i64 g7,.int .i64 g8,.int .i64 h0,.int .i64 h4]),(26,.agg #[.int .i64 h7,.int .i64 i0,.int .i64 i8,.int .i64 j8])]) (fun s_ w'=>(w'.cell? ⟨V,0,none⟩=some (.int .i64 d2)∧w'.cell? ⟨V,1,none⟩=some (.int .i64 d3)∧w'.cell? ⟨V,2,none⟩=some (.int .i64 d4)∧w'.cell? ⟨V,3,none⟩=some (.int .i64 d5)∧w'.cell? ⟨X,0,none⟩=some (.int .i64 d6)∧w'.cell? ⟨X,1,none⟩=some (.int .i64 d7)∧w'.cell? ⟨X,2,none⟩=some (.int .i64 d8)∧w'.cell? ⟨X,3,none⟩=some (.int .i64 d9))∧(Kd.R k23 23 w' w.heap.size (fun k_=>k_ ≠ V∧k_ ≠ X∧k_ ≠ b7) (.slice n3 g9.length n4) g9)∧(Q4_ w' V d2 d3 d4 d5 23)∧(Q4_ w' X d6 d7 d8 d9 23)∧(Q4_ w' b7 0 0 0 0 23)∧(Below w.heap.size w w')) ?_ ?_;rotate_left
      ·
       intro M3;refine join_ (σ:=Nat) 4 #[y_,y_,y_,n_,y_,n_,n_,n_] (fun s_=>[(24,.agg #[.int .i64 g7,.int .i64 g8,.int .i64 h0,.int .i64 h4]),(7,.pointer (some ⟨s_,0,none⟩))]) (fun s_ w'=>(w'.cell? ⟨V,0,none⟩=some (.int .i64 d2)∧w'.cell? ⟨V,1,none⟩=some (.int .i64 d3)∧w'.cell? ⟨V,2,none⟩=some (.int .i64 d4)∧w'.cell? ⟨V,3,none⟩=some (.int .i64 d5)∧w'.cell? ⟨X,0,none⟩=some (.int .i64 d6)∧w'.cell? ⟨X,1,none⟩=some (.int .i64 d7)∧w'.cell? ⟨X,2,none⟩=some (.int .i64 d8)∧w'.cell? ⟨X,3,none⟩=some (.int .i64 d9))∧(Kd.R k23 23 w' w.heap.size (fun k_=>k_ ≠ V∧k_ ≠ X∧k_ ≠ b7) (.slice n3 g9.length n4) g9)∧(Q4_ w' V d2 d3 d4 d5 23)∧(Q4_ w' X d6 d7 d8 d9 23)∧(Q4_ w' b7 0 0 0 0 23)∧(Q4_ w' s_ 0 0 0 0 67)∧(w.heap.size ≤ s_)∧(w.heap.size ≤ s_)∧(V ≠ s_)∧(s_ ≠ V)∧(X ≠ s_)∧(s_ ≠ X)∧(b7 ≠ s_)∧(s_ ≠ b7)∧(Below w.heap.size w w')) ?_ ?_;rotate_left
       ·
        intro E8;refine join_ (σ:=Nat) 4 #[y_,y_,y_,n_,n_,y_,n_,n_] (fun s_=>[(24,.agg #[.int .i64 g7,.int .i64 g8,.int .i64 h0,.int .i64 h4]),(8,.pointer (some ⟨s_,0,none⟩))]) (fun s_ w'=>(w'.cell? ⟨V,0,none⟩=some (.int .i64 d2)∧w'.cell? ⟨V,1,none⟩=some (.int .i64 d3)∧w'.cell? ⟨V,2,none⟩=some (.int .i64 d4)∧w'.cell? ⟨V,3,none⟩=some (.int .i64 d5)∧w'.cell? ⟨X,0,none⟩=some (.int .i64 d6)∧w'.cell? ⟨X,1,none⟩=some (.int .i64 d7)∧w'.cell? ⟨X,2,none⟩=some (.int .i64 d8)∧w'.cell? ⟨X,3,none⟩=some (.int .i64 d9))∧(Kd.R k23 23 w' w.heap.size (fun k_=>k_ ≠ V∧k_ ≠ X∧k_ ≠ b7) (.slice n3 g9.length n4) g9)∧(Q4_ w' V d2 d3 d4 d5 23)∧(Q4_ w' X d6 d7 d8 d9 23)∧(Q4_ w' b7 0 0 0 0 23)∧(Q4_ w' s_ 0 0 0 0 67)∧(w.heap.size ≤ s_)∧(w.heap.size ≤ s_)∧(V ≠ s_)∧(s_ ≠ V)∧(X ≠ s_)∧(s_ ≠ X)∧(b7 ≠ s_)∧(s_ ≠ b7)∧(Below w.heap.size w w')) ?_ ?_;rotate_left
        ·
         intro E9;refine join_ (σ:=Nat × Nat) 4 #[y_,n_,y_,n_,y_,y_,n_,n_] (fun s_=>[(7,.pointer (some ⟨s_.1,0,none⟩)),(8,.pointer (some ⟨s_.2,0,none⟩))]) (fun s_ w'=>(w'.cell? ⟨V,0,none⟩=some (.int .i64 d2)∧w'.cell? ⟨V,1,none⟩=some (.int .i64 d3)∧w'.cell? ⟨V,2,none⟩=some (.int .i64 d4)∧w'.cell? ⟨V,3,none⟩=some (.int .i64 d5)∧w'.cell? ⟨X,0,none⟩=some (.int .i64 d6)∧w'.cell? ⟨X,1,none⟩=some (.int .i64 d7)∧w'.cell? ⟨X,2,none⟩=some (.int .i64 d8)∧w'.cell? ⟨X,3,none⟩=some (.int .i64 d9))∧(Kd.R k23 23 w' w.heap.size (fun k_=>k_ ≠ V∧k_ ≠ X∧k_ ≠ b7) (.slice n3 g9.length n4) g9)∧(Q4_ w' V d2 d3 d4 d5 23)∧(Q4_ w' X d6 d7 d8 d9 23)∧(Q4_ w' b7 0 0 0 0 23)∧(Q4_ w' s_.1 0 0 0 0 67)∧(Q4_ w' s_.2 0 0 0 0 67)∧(w.heap.size ≤ s_.1)∧(w.heap.size ≤ s_.1)∧(V ≠ s_.1)∧(s_.1 ≠ V)∧(X ≠ s_.1)∧(s_.1 ≠ X)∧(b7 ≠ s_.1)∧(s_.1 ≠ b7)∧(s_.2 ≠ s_.1)∧(s_.1 ≠ s_.2)∧(w.heap.size ≤ s_.2)∧(w.heap.size ≤ s_.2)∧(V ≠ s_.2)∧(s_.2 ≠ V)∧(X ≠ s_.2)∧(s_.2 ≠ X)∧(b7 ≠ s_.2)∧(s_.2 ≠ b7)∧(Below w.heap.size w w')) ?_ ?_;rotate_left
         ·
          intro F0;refine join_ (σ:=Unit) 5 #[y_,y_,y_,n_,n_,n_,n_,n_] (fun s_=>[(24,.agg #[.int .i64 g7,.int .i64 g8,.int .i64 h0,.int .i64 h4])]) (fun s_ w'=>(w'.cell? ⟨V,0,none⟩=some (.int .i64 d2)∧w'.cell? ⟨V,1,none⟩=some (.int .i64 d3)∧w'.cell? ⟨V,2,none⟩=some (.int .i64 d4)∧w'.cell? ⟨V,3,none⟩=some (.int .i64 d5)∧w'.cell? ⟨X,0,none⟩=some (.int .i64 d6)∧w'.cell? ⟨X,1,none⟩=some (.int .i64 d7)∧w'.cell? ⟨X,2,none⟩=some (.int .i64 d8)∧w'.cell? ⟨X,3,none⟩=some (.int .i64 d9))∧(Kd.R k23 23 w' w.heap.size (fun k_=>k_ ≠ V∧k_ ≠ X∧k_ ≠ b7) (.slice n3 g9.length n4) g9)∧(Q4_ w' V d2 d3 d4 d5 23)∧(Q4_ w' X d6 d7 d8 d9 23)∧(Q4_ w' b7 0 0 0 0 23)∧(Below w.heap.size w w')) ?_ ?_;rotate_left
          ·
           intro Ia;refine join_ (σ:=Nat) 5 #[y_,n_,y_,n_,y_,n_,n_,n_] (fun s_=>[(7,.pointer (some ⟨s_,0,none⟩))]) (fun s_ w'=>(w'.cell? ⟨V,0,none⟩=some (.int .i64 d2)∧w'.cell? ⟨V,1,none⟩=some (.int .i64 d3)∧w'.cell? ⟨V,2,none⟩=some (.int .i64 d4)∧w'.cell? ⟨V,3,none⟩=some (.int .i64 d5)∧w'.cell? ⟨X,0,none⟩=some (.int .i64 d6)∧w'.cell? ⟨X,1,none⟩=some (.int .i64 d7)∧w'.cell? ⟨X,2,none⟩=some (.int .i64 d8)∧w'.cell? ⟨X,3,none⟩=some (.int .i64 d9))∧(Kd.R k23 23 w' w.heap.size (fun k_=>k_ ≠ V∧k_ ≠ X∧k_ ≠ b7) (.slice n3 g9.length n4) g9)∧(Q4_ w' V d2 d3 d4 d5 23)∧(Q4_ w' X d6 d7 d8 d9 23)∧(Q4_ w' b7 0 0 0 0 23)∧(Q4_ w' s_ 0 0 0 0 67)∧(w.heap.size ≤ s_)∧(w.heap.size ≤ s_)∧(V ≠ s_)∧(s_ ≠ V)∧(X ≠ s_)∧(s_ ≠ X)∧(b7 ≠ s_)∧(s_ ≠ b7)∧(Below w.heap.size w w')) ?_ ?_;rotate_left
           ·
            intro Ib;refine join_ (σ:=Nat) 5 #[y_,n_,y_,n_,n_,y_,n_,n_] (fun s_=>[(8,.pointer (some ⟨s_,0,none⟩))]) (fun s_ w'=>(w'.cell? ⟨V,0,none⟩=some (.int .i64 d2)∧w'.cell? ⟨V,1,none⟩=some (.int .i64 d3)∧w'.cell? ⟨V,2,none⟩=some (.int .i64 d4)∧w'.cell? ⟨V,3,none⟩=some (.int .i64 d5)∧w'.cell? ⟨X,0,none⟩=some (.int .i64 d6)∧w'.cell? ⟨X,1,none⟩=some (.int .i64 d7)∧w'.cell? ⟨X,2,none⟩=some (.int .i64 d8)∧w'.cell? ⟨X,3,none⟩=some (.int .i64 d9))∧(Kd.R k23 23 w' w.heap.size (fun k_=>k_ ≠ V∧k_ ≠ X∧k_ ≠ b7) (.slice n3 g9.length n4) g9)∧(Q4_ w' V d2 d3 d4 d5 23)∧(Q4_ w' X d6 d7 d8 d9 23)∧(Q4_ w' b7 0 0 0 0 23)∧(Q4_ w' s_ 0 0 0 0 67)∧(w.heap.size ≤ s_)∧(w.heap.size ≤ s_)∧(V ≠ s_)∧(s_ ≠ V)∧(X ≠ s_)∧(s_ ≠ X)∧(b7 ≠ s_)∧(s_ ≠ b7)∧(Below w.heap.size w w')) ?_ ?_;rotate_left
            ·
             intro Ic;refine three_ (i:=1) (j:=4) (k:=5) (Ni:=some 24) (Nj:=some 7) (Nk:=some 8) #[y_,y_,y_,n_,n_,n_,n_,n_] #[y_,n_,y_,n_,y_,n_,n_,n_] #[y_,n_,y_,n_,n_,y_,n_,n_] rfl rfl rfl rfl rfl rfl (three_of n8.1 (by kernel_rfl)) (by decide) (by decide) (by decide) (fun K hK=>?_) (fun K hK=>?_) (fun K hK=>?_)
             ·
              skip
              refine goes_ Try.func48 (by kernel_rfl) rfl #[.agg #[.int .i64 d2,.int .i64 d3,.int .i64 d4,.int .i64 d5]] (by rfl) rfl rfl (by (try simp only [m0_,m1_,m2_]);first|done|rfl|(simp only [l0_,l1_];rfl)) ?_;with_reducible refine (norm_of.calls d2 d3 d4 d5 g7 g8 h0 h4 _ A5.1).mono ?_
              rintro e N8 ⟨rfl,hb⟩;refine ⟨_,rfl,?_⟩;replace T:=rbl T hb;replace B:=bkb B hb;replace C:=bkb C hb;replace D:=bkb D hb;replace HB:=bst HB hb;(try clear hb);refine hK.out _ _ ⟨q0_ B,q1_ B,q2_ B,q3_ B,q0_ C,q1_ C,q2_ C,q3_ C⟩ (fun a4=>?_);clear hK K;refine norm_ (a':=?_) ?_ ?_;rotate_left
              ·
               show Act.put _ (some 24) _=_;simp only [Act.put,s0_,s1_,s2_,i64_w,i32_w];rfl
              exact norm_ (by simp only [putAll,Act.put,s0_,s1_,s2_] <;> rfl) (Ia () _ ⟨a4,(by (with_reducible repeat (first|apply Kd.R_alloc|apply Kd.R_drewN|apply Kd.R_drew));exact Kd.R_mono T.1 (fun _ hk=>⟨hk.1.1.2,⟨hk.1.2,hk.2⟩⟩)),B.1,C.1,D.1,HB.1⟩)
             ·
              skip
              refine box_step ?hg (N:=7) ?hd (cs:=#[.int .i64 0,.int .i64 0,.int .i64 0,.int .i64 0]) (t:=67) ?hr ?_;(case hd=>rfl);(case hg=>rfl);(case hr=>first|(go_simp;done)|(go_simp;rfl));intro Y hg N8 b8 hb;have E:=mk0 (b8);have f7:=szw hg HB;have c0:=szw hg HB;have J:=nlt hg B;have a5:=ngt hg B;have L:=nlt hg C;have a6:=ngt hg C;have a0:=nlt hg D;have a2:=ngt hg D;replace T:=rbl T hb;replace B:=bkb B hb;replace C:=bkb C hb;replace D:=bkb D hb;replace HB:=bst HB hb;clear hb b8 hg;refine hK.out _ _ ⟨q0_ B,q1_ B,q2_ B,q3_ B,q0_ C,q1_ C,q2_ C,q3_ C⟩ (fun a4=>?_);clear hK K;refine norm_ (a':=?_) ?_ ?_;rotate_left
              ·
               show Act.put _ (some 7) _=_;simp only [Act.put,s0_,s1_,s2_,i64_w,i32_w];rfl
              exact norm_ (by simp only [putAll,Act.put,s0_,s1_,s2_] <;> rfl) (Ib (Y) _ ⟨a4,(by (with_reducible repeat (first|apply Kd.R_alloc|apply Kd.R_drewN|apply Kd.R_drew));exact Kd.R_mono T.1 (fun _ hk=>⟨hk.1.1.2,⟨hk.1.2,hk.2⟩⟩)),B.1,C.1,D.1,E.1,f7.1,c0.1,J.1,a5.1,L.1,a6.1,a0.1,a2.1,HB.1⟩)
             ·
              skip
              refine box_step ?hg (N:=8) ?hd (cs:=#[.int .i64 0,.int .i64 0,.int .i64 0,.int .i64 0]) (t:=67) ?hr ?_;(case hd=>rfl);(case hg=>rfl);(case hr=>first|(go_simp;done)|(go_simp;rfl));intro b2 hg N8 b8 hb;have F:=mk0 (b8);have f8:=szw hg HB;have c2:=szw hg HB;have O:=nlt hg B;have a9:=ngt hg B;have Q:=nlt hg C;have b0:=ngt hg C;have a3:=nlt hg D;have a7:=ngt hg D;replace T:=rbl T hb;replace B:=bkb B hb;replace C:=bkb C hb;replace D:=bkb D hb;replace HB:=bst HB hb;clear hb b8 hg;refine hK.out _ _ ⟨q0_ B,q1_ B,q2_ B,q3_ B,q0_ C,q1_ C,q2_ C,q3_ C⟩ (fun a4=>?_);clear hK K;refine norm_ (a':=?_) ?_ ?_;rotate_left
              ·
               show Act.put _ (some 8) _=_;simp only [Act.put,s0_,s1_,s2_,i64_w,i32_w];rfl
              exact norm_ (by simp only [putAll,Act.put,s0_,s1_,s2_] <;> rfl) (Ic (b2) _ ⟨a4,(by (with_reducible repeat (first|apply Kd.R_alloc|apply Kd.R_drewN|apply Kd.R_drew));exact Kd.R_mono T.1 (fun _ hk=>⟨hk.1.1.2,⟨hk.1.2,hk.2⟩⟩)),B.1,C.1,D.1,F.1,f8.1,c2.1,O.1,a9.1,Q.1,b0.1,a3.1,a7.1,HB.1⟩)
            ·
             skip
             clear T B C D HB;rintro b2 N9 h9;obtain ⟨i6,T,B,C,D,F,f8,c2,O,a9,Q,b0,a3,a7,HB⟩:=h9;replace T:=mk0 T;replace B:=mk0 B;replace C:=mk0 C;replace D:=mk0 D;replace F:=mk0 F;replace f8:=mk0 f8;replace c2:=mk0 c2;replace O:=mk0 O;replace a9:=mk0 a9;replace Q:=mk0 Q;replace b0:=mk0 b0;replace a3:=mk0 a3;replace a7:=mk0 a7;replace HB:=mk0 HB;have a4:=i6;refine norm_ (a':=?_) ?_ ?_;rotate_left
             ·
              simp only [putAll,Act.put,s0_,s1_,s2_];rfl
             refine two_ (i:=1) (j:=4) (Ni:=some 24) (Nj:=some 7) #[y_,y_,y_,n_,n_,y_,n_,n_] #[y_,n_,y_,n_,y_,y_,n_,n_] rfl rfl rfl rfl (two_of n8.1 (by kernel_rfl)) (by decide) (by decide) (fun K hK=>?_) (fun K hK=>?_)
             ·
              skip
              refine goes_ Try.func48 (by kernel_rfl) rfl #[.agg #[.int .i64 d2,.int .i64 d3,.int .i64 d4,.int .i64 d5]] (by rfl) rfl rfl (by (try simp only [m0_,m1_,m2_]);first|done|rfl|(simp only [l0_,l1_];rfl)) ?_;with_reducible refine (norm_of.calls d2 d3 d4 d5 g7 g8 h0 h4 _ A5.1).mono ?_
              rintro e s9 ⟨rfl,hb⟩;refine ⟨_,rfl,?_⟩;replace T:=rbl T hb;replace B:=bkb B hb;replace C:=bkb C hb;replace D:=bkb D hb;replace F:=bkb F hb;replace HB:=bst HB hb;(try clear hb);(try clear hk);refine hK.out _ _ ⟨q0_ B,q1_ B,q2_ B,q3_ B,q0_ C,q1_ C,q2_ C,q3_ C⟩ (fun a4=>?_);clear hK K;refine norm_ (a':=?_) ?_ ?_;rotate_left
              ·
               show Act.put _ (some 24) _=_;simp only [Act.put,s0_,s1_,s2_,i64_w,i32_w];rfl
              exact norm_ (by simp only [putAll,Act.put,s0_,s1_,s2_] <;> rfl) (E9 (b2) _ ⟨a4,T.1,B.1,C.1,D.1,F.1,f8.1,c2.1,O.1,a9.1,Q.1,b0.1,a3.1,a7.1,HB.1⟩)
             ·
              skip
              refine box_step ?hg (N:=7) ?hd (cs:=#[.int .i64 0,.int .i64 0,.int .i64 0,.int .i64 0]) (t:=67) ?hr ?_;(case hd=>rfl);(case hg=>rfl);(case hr=>first|(go_simp;done)|(go_simp;rfl));intro Y hg s9 b8 hb;have E:=mk0 (b8);have f7:=szw hg HB;have c0:=szw hg HB;have J:=nlt hg B;have a5:=ngt hg B;have L:=nlt hg C;have a6:=ngt hg C;have a0:=nlt hg D;have a2:=ngt hg D;have U:=nlt hg F;have b1:=ngt hg F;replace T:=rbl T hb;replace B:=bkb B hb;replace C:=bkb C hb;replace D:=bkb D hb;replace F:=bkb F hb;replace HB:=bst HB hb;clear hb b8 hg;refine hK.out _ _ ⟨q0_ B,q1_ B,q2_ B,q3_ B,q0_ C,q1_ C,q2_ C,q3_ C⟩ (fun a4=>?_);clear hK K;refine norm_ (a':=?_) ?_ ?_;rotate_left
              ·
               show Act.put _ (some 7) _=_;simp only [Act.put,s0_,s1_,s2_,i64_w,i32_w];rfl
              exact norm_ (by simp only [putAll,Act.put,s0_,s1_,s2_] <;> rfl) (F0 (Y,b2) _ ⟨a4,T.1,B.1,C.1,D.1,E.1,F.1,f7.1,c0.1,J.1,a5.1,L.1,a6.1,a0.1,a2.1,U.1,b1.1,f8.1,c2.1,O.1,a9.1,Q.1,b0.1,a3.1,a7.1,HB.1⟩)
           ·
            skip
            clear T B C D HB;rintro Y N9 h9;obtain ⟨i6,T,B,C,D,E,f7,c0,J,a5,L,a6,a0,a2,HB⟩:=h9;replace T:=mk0 T;replace B:=mk0 B;replace C:=mk0 C;replace D:=mk0 D;replace E:=mk0 E;replace f7:=mk0 f7;replace c0:=mk0 c0;replace J:=mk0 J;replace a5:=mk0 a5;replace L:=mk0 L;replace a6:=mk0 a6;replace a0:=mk0 a0;replace a2:=mk0 a2;replace HB:=mk0 HB;have a4:=i6;refine norm_ (a':=?_) ?_ ?_;rotate_left
            ·
             simp only [putAll,Act.put,s0_,s1_,s2_];rfl
            refine two_ (i:=1) (j:=5) (Ni:=some 24) (Nj:=some 8) #[y_,y_,y_,n_,y_,n_,n_,n_] #[y_,n_,y_,n_,y_,y_,n_,n_] rfl rfl rfl rfl (two_of n8.1 (by kernel_rfl)) (by decide) (by decide) (fun K hK=>?_) (fun K hK=>?_)
            ·
             skip
             refine goes_ Try.func48 (by kernel_rfl) rfl #[.agg #[.int .i64 d2,.int .i64 d3,.int .i64 d4,.int .i64 d5]] (by rfl) rfl rfl (by (try simp only [m0_,m1_,m2_]);first|done|rfl|(simp only [l0_,l1_];rfl)) ?_;with_reducible refine (norm_of.calls d2 d3 d4 d5 g7 g8 h0 h4 _ A5.1).mono ?_
             rintro e s9 ⟨rfl,hb⟩;refine ⟨_,rfl,?_⟩;replace T:=rbl T hb;replace B:=bkb B hb;replace C:=bkb C hb;replace D:=bkb D hb;replace E:=bkb E hb;replace HB:=bst HB hb;(try clear hb);refine hK.out _ _ ⟨q0_ B,q1_ B,q2_ B,q3_ B,q0_ C,q1_ C,q2_ C,q3_ C⟩ (fun a4=>?_);clear hK K;refine norm_ (a':=?_) ?_ ?_;rotate_left
             ·
              show Act.put _ (some 24) _=_;simp only [Act.put,s0_,s1_,s2_,i64_w,i32_w];rfl
             exact norm_ (by simp only [putAll,Act.put,s0_,s1_,s2_] <;> rfl) (E8 (Y) _ ⟨a4,T.1,B.1,C.1,D.1,E.1,f7.1,c0.1,J.1,a5.1,L.1,a6.1,a0.1,a2.1,HB.1⟩)
            ·
             skip
             refine box_step ?hg (N:=8) ?hd (cs:=#[.int .i64 0,.int .i64 0,.int .i64 0,.int .i64 0]) (t:=67) ?hr ?_;(case hd=>rfl);(case hg=>rfl);(case hr=>first|(go_simp;done)|(go_simp;rfl));intro b2 hg s9 b8 hb;have F:=mk0 (b8);have f8:=szw hg HB;have c2:=szw hg HB;have O:=nlt hg B;have a9:=ngt hg B;have Q:=nlt hg C;have b0:=ngt hg C;have a3:=nlt hg D;have a7:=ngt hg D;have b1:=nlt hg E;have U:=ngt hg E;replace T:=rbl T hb;replace B:=bkb B hb;replace C:=bkb C hb;replace D:=bkb D hb;replace E:=bkb E hb;replace HB:=bst HB hb;clear hb b8 hg;refine hK.out _ _ ⟨q0_ B,q1_ B,q2_ B,q3_ B,q0_ C,q1_ C,q2_ C,q3_ C⟩ (fun a4=>?_);clear hK K;refine norm_ (a':=?_) ?_ ?_;rotate_left
             ·
              show Act.put _ (some 8) _=_;simp only [Act.put,s0_,s1_,s2_,i64_w,i32_w];rfl
             exact norm_ (by simp only [putAll,Act.put,s0_,s1_,s2_] <;> rfl) (F0 (Y,b2) _ ⟨a4,T.1,B.1,C.1,D.1,E.1,F.1,f7.1,c0.1,J.1,a5.1,L.1,a6.1,a0.1,a2.1,U.1,b1.1,f8.1,c2.1,O.1,a9.1,Q.1,b0.1,a3.1,a7.1,HB.1⟩)
          ·
           skip
           clear T B C D HB;rintro _ N9 h9;obtain ⟨i6,T,B,C,D,HB⟩:=h9;replace T:=mk0 T;replace B:=mk0 B;replace C:=mk0 C;replace D:=mk0 D;replace HB:=mk0 HB;have a4:=i6;refine norm_ (a':=?_) ?_ ?_;rotate_left
           ·
            simp only [putAll,Act.put,s0_,s1_,s2_];rfl
           refine three_ (i:=3) (j:=4) (k:=5) (Ni:=some 26) (Nj:=some 7) (Nk:=some 8) #[y_,y_,y_,y_,n_,n_,n_,n_] #[y_,y_,y_,n_,y_,n_,n_,n_] #[y_,y_,y_,n_,n_,y_,n_,n_] rfl rfl rfl rfl rfl rfl (three_of n8.1 (by kernel_rfl)) (by decide) (by decide) (by decide) (fun K hK=>?_) (fun K hK=>?_) (fun K hK=>?_)
           ·
            skip
            refine goes_ Try.func48 (by kernel_rfl) rfl #[.agg #[.int .i64 d6,.int .i64 d7,.int .i64 d8,.int .i64 d9]] (by rfl) rfl rfl (by (try simp only [m0_,m1_,m2_]);first|done|rfl|(simp only [l0_,l1_];rfl)) ?_;with_reducible refine (norm_of.calls d6 d7 d8 d9 h7 i0 i8 j8 _ A6.1).mono ?_
            rintro e s9 ⟨rfl,hb⟩;refine ⟨_,rfl,?_⟩;replace T:=rbl T hb;replace B:=bkb B hb;replace C:=bkb C hb;replace D:=bkb D hb;replace HB:=bst HB hb;(try clear hb);refine hK.out _ _ ⟨q0_ B,q1_ B,q2_ B,q3_ B,q0_ C,q1_ C,q2_ C,q3_ C⟩ (fun a4=>?_);clear hK K;refine norm_ (a':=?_) ?_ ?_;rotate_left
            ·
             show Act.put _ (some 26) _=_;simp only [Act.put,s0_,s1_,s2_,i64_w,i32_w];rfl
            exact norm_ (by simp only [putAll,Act.put,s0_,s1_,s2_] <;> rfl) (M3 () _ ⟨a4,T.1,B.1,C.1,D.1,HB.1⟩)
           ·
            skip
            refine box_step ?hg (N:=7) ?hd (cs:=#[.int .i64 0,.int .i64 0,.int .i64 0,.int .i64 0]) (t:=67) ?hr ?_;(case hd=>rfl);(case hg=>rfl);(case hr=>first|(go_simp;done)|(go_simp;rfl));intro Y hg s9 b8 hb;have E:=mk0 (b8);have f7:=szw hg HB;have c0:=szw hg HB;have J:=nlt hg B;have a5:=ngt hg B;have L:=nlt hg C;have a6:=ngt hg C;have a0:=nlt hg D;have a2:=ngt hg D;replace T:=rbl T hb;replace B:=bkb B hb;replace C:=bkb C hb;replace D:=bkb D hb;replace HB:=bst HB hb;clear hb b8 hg;refine hK.out _ _ ⟨q0_ B,q1_ B,q2_ B,q3_ B,q0_ C,q1_ C,q2_ C,q3_ C⟩ (fun a4=>?_);clear hK K;refine norm_ (a':=?_) ?_ ?_;rotate_left
            ·
             show Act.put _ (some 7) _=_;simp only [Act.put,s0_,s1_,s2_,i64_w,i32_w];rfl
            exact norm_ (by simp only [putAll,Act.put,s0_,s1_,s2_] <;> rfl) (E8 (Y) _ ⟨a4,T.1,B.1,C.1,D.1,E.1,f7.1,c0.1,J.1,a5.1,L.1,a6.1,a0.1,a2.1,HB.1⟩)
           ·
            skip
            refine box_step ?hg (N:=8) ?hd (cs:=#[.int .i64 0,.int .i64 0,.int .i64 0,.int .i64 0]) (t:=67) ?hr ?_;(case hd=>rfl);(case hg=>rfl);(case hr=>first|(go_simp;done)|(go_simp;rfl));intro b2 hg s9 b8 hb;have F:=mk0 (b8);have f8:=szw hg HB;have c2:=szw hg HB;have O:=nlt hg B;have a9:=ngt hg B;have Q:=nlt hg C;have b0:=ngt hg C;have a3:=nlt hg D;have a7:=ngt hg D;replace T:=rbl T hb;replace B:=bkb B hb;replace C:=bkb C hb;replace D:=bkb D hb;replace HB:=bst HB hb;clear hb b8 hg;refine hK.out _ _ ⟨q0_ B,q1_ B,q2_ B,q3_ B,q0_ C,q1_ C,q2_ C,q3_ C⟩ (fun a4=>?_);clear hK K;refine norm_ (a':=?_) ?_ ?_;rotate_left
            ·
             show Act.put _ (some 8) _=_;simp only [Act.put,s0_,s1_,s2_,i64_w,i32_w];rfl
            exact norm_ (by simp only [putAll,Act.put,s0_,s1_,s2_] <;> rfl) (E9 (b2) _ ⟨a4,T.1,B.1,C.1,D.1,F.1,f8.1,c2.1,O.1,a9.1,Q.1,b0.1,a3.1,a7.1,HB.1⟩)
         ·
          skip
          clear T B C D HB;rintro ⟨Y,b2⟩ s9 h9;(try dsimp only at h9);obtain ⟨i6,T,B,C,D,E,F,f7,c0,J,a5,L,a6,a0,a2,U,b1,f8,c2,O,a9,Q,b0,a3,a7,HB⟩:=h9;replace T:=mk0 T;replace B:=mk0 B;replace C:=mk0 C;replace D:=mk0 D;replace E:=mk0 E;replace F:=mk0 F;replace f7:=mk0 f7;replace c0:=mk0 c0;replace J:=mk0 J;replace a5:=mk0 a5;replace L:=mk0 L;replace a6:=mk0 a6;replace a0:=mk0 a0;replace a2:=mk0 a2;replace U:=mk0 U;replace b1:=mk0 b1;replace f8:=mk0 f8;replace c2:=mk0 c2;replace O:=mk0 O;replace a9:=mk0 a9;replace Q:=mk0 Q;replace b0:=mk0 b0;replace a3:=mk0 a3;replace a7:=mk0 a7;replace HB:=mk0 HB;have a4:=i6;refine norm_ (a':=?_) ?_ ?_;rotate_left
          ·
           simp only [putAll,Act.put,s0_,s1_,s2_];rfl
          refine one_ (i:=1) (N:=some 24) #[y_,y_,y_,n_,y_,y_,n_,n_] rfl rfl (one_of n8.1 (by kernel_rfl)) (by decide) (fun K hK=>?_);refine goes_ Try.func48 (by kernel_rfl) rfl #[.agg #[.int .i64 d2,.int .i64 d3,.int .i64 d4,.int .i64 d5]] (by rfl) rfl rfl (by (try simp only [m0_,m1_,m2_]);first|done|rfl|(simp only [l0_,l1_];rfl)) ?_;with_reducible refine (norm_of.calls d2 d3 d4 d5 g7 g8 h0 h4 _ A5.1).mono ?_
          rintro e t5 ⟨rfl,hb⟩;refine ⟨_,rfl,?_⟩;replace T:=rbl T hb;replace B:=bkb B hb;replace C:=bkb C hb;replace D:=bkb D hb;replace E:=bkb E hb;replace F:=bkb F hb;replace HB:=bst HB hb;(try clear hb);refine hK.out _ _ ⟨q0_ B,q1_ B,q2_ B,q3_ B,q0_ C,q1_ C,q2_ C,q3_ C⟩ (fun a4=>?_);clear hK K;refine norm_ (a':=?_) ?_ ?_;rotate_left
          ·
           show Act.put _ (some 24) _=_;simp only [Act.put,s0_,s1_,s2_,i64_w,i32_w];rfl
          exact norm_ (by simp only [putAll,Act.put,s0_,s1_,s2_] <;> rfl) (u2 (Y,b2) _ ⟨a4,T.1,B.1,C.1,D.1,E.1,F.1,f7.1,c0.1,J.1,a5.1,L.1,a6.1,a0.1,a2.1,U.1,b1.1,f8.1,c2.1,O.1,a9.1,Q.1,b0.1,a3.1,a7.1,HB.1⟩)
        ·
         skip
         clear T B C D HB;rintro b2 s9 h9;obtain ⟨i6,T,B,C,D,F,f8,c2,O,a9,Q,b0,a3,a7,HB⟩:=h9;replace T:=mk0 T;replace B:=mk0 B;replace C:=mk0 C;replace D:=mk0 D;replace F:=mk0 F;replace f8:=mk0 f8;replace c2:=mk0 c2;replace O:=mk0 O;replace a9:=mk0 a9;replace Q:=mk0 Q;replace b0:=mk0 b0;replace a3:=mk0 a3;replace a7:=mk0 a7;replace HB:=mk0 HB;have a4:=i6;refine norm_ (a':=?_) ?_ ?_;rotate_left
         ·
          simp only [putAll,Act.put,s0_,s1_,s2_];rfl
         refine two_ (i:=3) (j:=4) (Ni:=some 26) (Nj:=some 7) #[y_,y_,y_,y_,n_,y_,n_,n_] #[y_,y_,y_,n_,y_,y_,n_,n_] rfl rfl rfl rfl (two_of n8.1 (by kernel_rfl)) (by decide) (by decide) (fun K hK=>?_) (fun K hK=>?_)
         ·
          skip
          refine goes_ Try.func48 (by kernel_rfl) rfl #[.agg #[.int .i64 d6,.int .i64 d7,.int .i64 d8,.int .i64 d9]] (by rfl) rfl rfl (by (try simp only [m0_,m1_,m2_]);first|done|rfl|(simp only [l0_,l1_];rfl)) ?_;with_reducible refine (norm_of.calls d6 d7 d8 d9 h7 i0 i8 j8 _ A6.1).mono ?_
          rintro e t5 ⟨rfl,hb⟩;refine ⟨_,rfl,?_⟩;replace T:=rbl T hb;replace B:=bkb B hb;replace C:=bkb C hb;replace D:=bkb D hb;replace F:=bkb F hb;replace HB:=bst HB hb;(try clear hb);refine hK.out _ _ ⟨q0_ B,q1_ B,q2_ B,q3_ B,q0_ C,q1_ C,q2_ C,q3_ C⟩ (fun a4=>?_);clear hK K;refine norm_ (a':=?_) ?_ ?_;rotate_left
          ·
           show Act.put _ (some 26) _=_;simp only [Act.put,s0_,s1_,s2_,i64_w,i32_w];rfl
          exact norm_ (by simp only [putAll,Act.put,s0_,s1_,s2_] <;> rfl) (z9 (b2) _ ⟨a4,T.1,B.1,C.1,D.1,F.1,f8.1,c2.1,O.1,a9.1,Q.1,b0.1,a3.1,a7.1,HB.1⟩)
         ·
          skip
          refine box_step ?hg (N:=7) ?hd (cs:=#[.int .i64 0,.int .i64 0,.int .i64 0,.int .i64 0]) (t:=67) ?hr ?_;(case hd=>rfl);(case hg=>rfl);(case hr=>first|(go_simp;done)|(go_simp;rfl));intro Y hg t5 b8 hb;have E:=mk0 (b8);have f7:=szw hg HB;have c0:=szw hg HB;have J:=nlt hg B;have a5:=ngt hg B;have L:=nlt hg C;have a6:=ngt hg C;have a0:=nlt hg D;have a2:=ngt hg D;have U:=nlt hg F;have b1:=ngt hg F;replace T:=rbl T hb;replace B:=bkb B hb;replace C:=bkb C hb;replace D:=bkb D hb;replace F:=bkb F hb;replace HB:=bst HB hb;clear hb b8 hg;refine hK.out _ _ ⟨q0_ B,q1_ B,q2_ B,q3_ B,q0_ C,q1_ C,q2_ C,q3_ C⟩ (fun a4=>?_);clear hK K;refine norm_ (a':=?_) ?_ ?_;rotate_left
          ·
           show Act.put _ (some 7) _=_;simp only [Act.put,s0_,s1_,s2_,i64_w,i32_w];rfl
          exact norm_ (by simp only [putAll,Act.put,s0_,s1_,s2_] <;> rfl) (u2 (Y,b2) _ ⟨a4,T.1,B.1,C.1,D.1,E.1,F.1,f7.1,c0.1,J.1,a5.1,L.1,a6.1,a0.1,a2.1,U.1,b1.1,f8.1,c2.1,O.1,a9.1,Q.1,b0.1,a3.1,a7.1,HB.1⟩)
       ·
        skip
        clear T B C D HB;rintro Y s9 h9;obtain ⟨i6,T,B,C,D,E,f7,c0,J,a5,L,a6,a0,a2,HB⟩:=h9;replace T:=mk0 T;replace B:=mk0 B;replace C:=mk0 C;replace D:=mk0 D;replace E:=mk0 E;replace f7:=mk0 f7;replace c0:=mk0 c0;replace J:=mk0 J;replace a5:=mk0 a5;replace L:=mk0 L;replace a6:=mk0 a6;replace a0:=mk0 a0;replace a2:=mk0 a2;replace HB:=mk0 HB;have a4:=i6;refine norm_ (a':=?_) ?_ ?_;rotate_left
        ·
         simp only [putAll,Act.put,s0_,s1_,s2_];rfl
        refine two_ (i:=3) (j:=5) (Ni:=some 26) (Nj:=some 8) #[y_,y_,y_,y_,y_,n_,n_,n_] #[y_,y_,y_,n_,y_,y_,n_,n_] rfl rfl rfl rfl (two_of n8.1 (by kernel_rfl)) (by decide) (by decide) (fun K hK=>?_) (fun K hK=>?_)
        ·
         skip
         refine goes_ Try.func48 (by kernel_rfl) rfl #[.agg #[.int .i64 d6,.int .i64 d7,.int .i64 d8,.int .i64 d9]] (by rfl) rfl rfl (by (try simp only [m0_,m1_,m2_]);first|done|rfl|(simp only [l0_,l1_];rfl)) ?_;with_reducible refine (norm_of.calls d6 d7 d8 d9 h7 i0 i8 j8 _ A6.1).mono ?_
         rintro e t5 ⟨rfl,hb⟩;refine ⟨_,rfl,?_⟩;replace T:=rbl T hb;replace B:=bkb B hb;replace C:=bkb C hb;replace D:=bkb D hb;replace E:=bkb E hb;replace HB:=bst HB hb;(try clear hb);refine hK.out _ _ ⟨q0_ B,q1_ B,q2_ B,q3_ B,q0_ C,q1_ C,q2_ C,q3_ C⟩ (fun a4=>?_);clear hK K;refine norm_ (a':=?_) ?_ ?_;rotate_left
         ·
          show Act.put _ (some 26) _=_;simp only [Act.put,s0_,s1_,s2_,i64_w,i32_w];rfl
         exact norm_ (by simp only [putAll,Act.put,s0_,s1_,s2_] <;> rfl) (z8 (Y) _ ⟨a4,T.1,B.1,C.1,D.1,E.1,f7.1,c0.1,J.1,a5.1,L.1,a6.1,a0.1,a2.1,HB.1⟩)
        ·
         skip
         refine box_step ?hg (N:=8) ?hd (cs:=#[.int .i64 0,.int .i64 0,.int .i64 0,.int .i64 0]) (t:=67) ?hr ?_;(case hd=>rfl);(case hg=>rfl);(case hr=>first|(go_simp;done)|(go_simp;rfl));intro b2 hg t5 b8 hb;have F:=mk0 (b8);have f8:=szw hg HB;have c2:=szw hg HB;have O:=nlt hg B;have a9:=ngt hg B;have Q:=nlt hg C;have b0:=ngt hg C;have a3:=nlt hg D;have a7:=ngt hg D;have b1:=nlt hg E;have U:=ngt hg E;replace T:=rbl T hb;replace B:=bkb B hb;replace C:=bkb C hb;replace D:=bkb D hb;replace E:=bkb E hb;replace HB:=bst HB hb;clear hb b8 hg;refine hK.out _ _ ⟨q0_ B,q1_ B,q2_ B,q3_ B,q0_ C,q1_ C,q2_ C,q3_ C⟩ (fun a4=>?_);clear hK K;refine norm_ (a':=?_) ?_ ?_;rotate_left
         ·
          show Act.put _ (some 8) _=_;simp only [Act.put,s0_,s1_,s2_,i64_w,i32_w];rfl
         exact norm_ (by simp only [putAll,Act.put,s0_,s1_,s2_] <;> rfl) (u2 (Y,b2) _ ⟨a4,T.1,B.1,C.1,D.1,E.1,F.1,f7.1,c0.1,J.1,a5.1,L.1,a6.1,a0.1,a2.1,U.1,b1.1,f8.1,c2.1,O.1,a9.1,Q.1,b0.1,a3.1,a7.1,HB.1⟩)
      ·
       skip
       clear T B C D HB;rintro _ s9 h9;obtain ⟨i6,T,B,C,D,HB⟩:=h9;replace T:=mk0 T;replace B:=mk0 B;replace C:=mk0 C;replace D:=mk0 D;replace HB:=mk0 HB;have a4:=i6;refine norm_ (a':=?_) ?_ ?_;rotate_left
       ·
        simp only [putAll,Act.put,s0_,s1_,s2_];rfl
       refine two_ (i:=4) (j:=5) (Ni:=some 7) (Nj:=some 8) #[y_,y_,y_,y_,y_,n_,n_,n_] #[y_,y_,y_,y_,n_,y_,n_,n_] rfl rfl rfl rfl (two_of n8.1 (by kernel_rfl)) (by decide) (by decide) (fun K hK=>?_) (fun K hK=>?_)
       ·
        skip
        refine box_step ?hg (N:=7) ?hd (cs:=#[.int .i64 0,.int .i64 0,.int .i64 0,.int .i64 0]) (t:=67) ?hr ?_;(case hd=>rfl);(case hg=>rfl);(case hr=>first|(go_simp;done)|(go_simp;rfl));intro Y hg t5 b8 hb;have E:=mk0 (b8);have f7:=szw hg HB;have c0:=szw hg HB;have J:=nlt hg B;have a5:=ngt hg B;have L:=nlt hg C;have a6:=ngt hg C;have a0:=nlt hg D;have a2:=ngt hg D;replace T:=rbl T hb;replace B:=bkb B hb;replace C:=bkb C hb;replace D:=bkb D hb;replace HB:=bst HB hb;clear hb b8 hg;refine hK.out _ _ ⟨q0_ B,q1_ B,q2_ B,q3_ B,q0_ C,q1_ C,q2_ C,q3_ C⟩ (fun a4=>?_);clear hK K;refine norm_ (a':=?_) ?_ ?_;rotate_left
        ·
         show Act.put _ (some 7) _=_;simp only [Act.put,s0_,s1_,s2_,i64_w,i32_w];rfl
        exact norm_ (by simp only [putAll,Act.put,s0_,s1_,s2_] <;> rfl) (z8 (Y) _ ⟨a4,T.1,B.1,C.1,D.1,E.1,f7.1,c0.1,J.1,a5.1,L.1,a6.1,a0.1,a2.1,HB.1⟩)
       ·
        skip
        refine box_step ?hg (N:=8) ?hd (cs:=#[.int .i64 0,.int .i64 0,.int .i64 0,.int .i64 0]) (t:=67) ?hr ?_;(case hd=>rfl);(case hg=>rfl);(case hr=>first|(go_simp;done)|(go_simp;rfl));intro b2 hg t5 b8 hb;have F:=mk0 (b8);have f8:=szw hg HB;have c2:=szw hg HB;have O:=nlt hg B;have a9:=ngt hg B;have Q:=nlt hg C;have b0:=ngt hg C;have a3:=nlt hg D;have a7:=ngt hg D;replace T:=rbl T hb;replace B:=bkb B hb;replace C:=bkb C hb;replace D:=bkb D hb;replace HB:=bst HB hb;clear hb b8 hg;refine hK.out _ _ ⟨q0_ B,q1_ B,q2_ B,q3_ B,q0_ C,q1_ C,q2_ C,q3_ C⟩ (fun a4=>?_);clear hK K;refine norm_ (a':=?_) ?_ ?_;rotate_left
        ·
         show Act.put _ (some 8) _=_;simp only [Act.put,s0_,s1_,s2_,i64_w,i32_w];rfl
        exact norm_ (by simp only [putAll,Act.put,s0_,s1_,s2_] <;> rfl) (z9 (b2) _ ⟨a4,T.1,B.1,C.1,D.1,F.1,f8.1,c2.1,O.1,a9.1,Q.1,b0.1,a3.1,a7.1,HB.1⟩)
     ·
      skip
      clear T B C D HB;rintro ⟨Y,b2⟩ t5 h9;(try dsimp only at h9);obtain ⟨i6,T,B,C,D,E,F,f7,c0,J,a5,L,a6,a0,a2,U,b1,f8,c2,O,a9,Q,b0,a3,a7,HB⟩:=h9;replace T:=mk0 T;replace B:=mk0 B;replace C:=mk0 C;replace D:=mk0 D;replace E:=mk0 E;replace F:=mk0 F;replace f7:=mk0 f7;replace c0:=mk0 c0;replace J:=mk0 J;replace a5:=mk0 a5;replace L:=mk0 L;replace a6:=mk0 a6;replace a0:=mk0 a0;replace a2:=mk0 a2;replace U:=mk0 U;replace b1:=mk0 b1;replace f8:=mk0 f8;replace c2:=mk0 c2;replace O:=mk0 O;replace a9:=mk0 a9;replace Q:=mk0 Q;replace b0:=mk0 b0;replace a3:=mk0 a3;replace a7:=mk0 a7;replace HB:=mk0 HB;have a4:=i6;refine norm_ (a':=?_) ?_ ?_;rotate_left
      ·
       simp only [putAll,Act.put,s0_,s1_,s2_];rfl
      refine one_ (i:=3) (N:=some 26) #[y_,y_,y_,y_,y_,y_,n_,n_] rfl rfl (one_of n8.1 (by kernel_rfl)) (by decide) (fun K hK=>?_);refine goes_ Try.func48 (by kernel_rfl) rfl #[.agg #[.int .i64 d6,.int .i64 d7,.int .i64 d8,.int .i64 d9]] (by rfl) rfl rfl (by (try simp only [m0_,m1_,m2_]);first|done|rfl|(simp only [l0_,l1_];rfl)) ?_;with_reducible refine (norm_of.calls d6 d7 d8 d9 h7 i0 i8 j8 _ A6.1).mono ?_
      rintro e L4 ⟨rfl,hb⟩;refine ⟨_,rfl,?_⟩;replace T:=rbl T hb;replace B:=bkb B hb;replace C:=bkb C hb;replace D:=bkb D hb;replace E:=bkb E hb;replace F:=bkb F hb;replace HB:=bst HB hb;(try clear hb);refine hK.out _ _ ⟨q0_ B,q1_ B,q2_ B,q3_ B,q0_ C,q1_ C,q2_ C,q3_ C⟩ (fun a4=>?_);clear hK K;refine norm_ (a':=?_) ?_ ?_;rotate_left
      ·
       show Act.put _ (some 26) _=_;simp only [Act.put,s0_,s1_,s2_,i64_w,i32_w];rfl
      exact norm_ (by simp only [putAll,Act.put,s0_,s1_,s2_] <;> rfl) (o7 (Y,b2) _ ⟨a4,T.1,B.1,C.1,D.1,E.1,F.1,f7.1,c0.1,J.1,a5.1,L.1,a6.1,a0.1,a2.1,U.1,b1.1,f8.1,c2.1,O.1,a9.1,Q.1,b0.1,a3.1,a7.1,HB.1⟩)
    ·
     skip
     clear T B C D HB;rintro b2 t5 h9;obtain ⟨i6,T,B,C,D,F,f8,c2,O,a9,Q,b0,a3,a7,HB⟩:=h9;replace T:=mk0 T;replace B:=mk0 B;replace C:=mk0 C;replace D:=mk0 D;replace F:=mk0 F;replace f8:=mk0 f8;replace c2:=mk0 c2;replace O:=mk0 O;replace a9:=mk0 a9;replace Q:=mk0 Q;replace b0:=mk0 b0;replace a3:=mk0 a3;replace a7:=mk0 a7;replace HB:=mk0 HB;have a4:=i6;refine norm_ (a':=?_) ?_ ?_;rotate_left
     ·
      simp only [putAll,Act.put,s0_,s1_,s2_];rfl
     refine one_ (i:=4) (N:=some 7) #[y_,y_,y_,y_,y_,y_,n_,n_] rfl rfl (one_of n8.1 (by kernel_rfl)) (by decide) (fun K hK=>?_);refine box_step ?hg (N:=7) ?hd (cs:=#[.int .i64 0,.int .i64 0,.int .i64 0,.int .i64 0]) (t:=67) ?hr ?_;(case hd=>rfl);(case hg=>rfl);(case hr=>first|(go_simp;done)|(go_simp;rfl));intro Y hg L4 b8 hb;have E:=mk0 (b8);have f7:=szw hg HB;have c0:=szw hg HB;have J:=nlt hg B;have a5:=ngt hg B;have L:=nlt hg C;have a6:=ngt hg C;have a0:=nlt hg D;have a2:=ngt hg D;have U:=nlt hg F;have b1:=ngt hg F;replace T:=rbl T hb;replace B:=bkb B hb;replace C:=bkb C hb;replace D:=bkb D hb;replace F:=bkb F hb;replace HB:=bst HB hb;clear hb b8 hg;refine hK.out _ _ ⟨q0_ B,q1_ B,q2_ B,q3_ B,q0_ C,q1_ C,q2_ C,q3_ C⟩ (fun a4=>?_);clear hK K;refine norm_ (a':=?_) ?_ ?_;rotate_left
     ·
      show Act.put _ (some 7) _=_;simp only [Act.put,s0_,s1_,s2_,i64_w,i32_w];rfl
     exact norm_ (by simp only [putAll,Act.put,s0_,s1_,s2_] <;> rfl) (o7 (Y,b2) _ ⟨a4,T.1,B.1,C.1,D.1,E.1,F.1,f7.1,c0.1,J.1,a5.1,L.1,a6.1,a0.1,a2.1,U.1,b1.1,f8.1,c2.1,O.1,a9.1,Q.1,b0.1,a3.1,a7.1,HB.1⟩)
   ·
    skip
    clear T B C D HB;rintro Y t5 h9;obtain ⟨i6,T,B,C,D,E,f7,c0,J,a5,L,a6,a0,a2,HB⟩:=h9;replace T:=mk0 T;replace B:=mk0 B;replace C:=mk0 C;replace D:=mk0 D;replace E:=mk0 E;replace f7:=mk0 f7;replace c0:=mk0 c0;replace J:=mk0 J;replace a5:=mk0 a5;replace L:=mk0 L;replace a6:=mk0 a6;replace a0:=mk0 a0;replace a2:=mk0 a2;replace HB:=mk0 HB;have a4:=i6;refine norm_ (a':=?_) ?_ ?_;rotate_left
    ·
     simp only [putAll,Act.put,s0_,s1_,s2_];rfl
    refine one_ (i:=5) (N:=some 8) #[y_,y_,y_,y_,y_,y_,n_,n_] rfl rfl (one_of n8.1 (by kernel_rfl)) (by decide) (fun K hK=>?_);refine box_step ?hg (N:=8) ?hd (cs:=#[.int .i64 0,.int .i64 0,.int .i64 0,.int .i64 0]) (t:=67) ?hr ?_;(case hd=>rfl);(case hg=>rfl);(case hr=>first|(go_simp;done)|(go_simp;rfl));intro b2 hg L4 b8 hb;have F:=mk0 (b8);have f8:=szw hg HB;have c2:=szw hg HB;have O:=nlt hg B;have a9:=ngt hg B;have Q:=nlt hg C;have b0:=ngt hg C;have a3:=nlt hg D;have a7:=ngt hg D;have b1:=nlt hg E;have U:=ngt hg E;replace T:=rbl T hb;replace B:=bkb B hb;replace C:=bkb C hb;replace D:=bkb D hb;replace E:=bkb E hb;replace HB:=bst HB hb;clear hb b8 hg;refine hK.out _ _ ⟨q0_ B,q1_ B,q2_ B,q3_ B,q0_ C,q1_ C,q2_ C,q3_ C⟩ (fun a4=>?_);clear hK K;refine norm_ (a':=?_) ?_ ?_;rotate_left
    ·
     show Act.put _ (some 8) _=_;simp only [Act.put,s0_,s1_,s2_,i64_w,i32_w];rfl
    exact norm_ (by simp only [putAll,Act.put,s0_,s1_,s2_] <;> rfl) (o7 (Y,b2) _ ⟨a4,T.1,B.1,C.1,D.1,E.1,F.1,f7.1,c0.1,J.1,a5.1,L.1,a6.1,a0.1,a2.1,U.1,b1.1,f8.1,c2.1,O.1,a9.1,Q.1,b0.1,a3.1,a7.1,HB.1⟩)
  clear T B C D HB;rintro ⟨Y,b2⟩ L4 h9;(try dsimp only at h9);obtain ⟨i6,T,B,C,D,E,F,f7,c0,J,a5,L,a6,a0,a2,U,b1,f8,c2,O,a9,Q,b0,a3,a7,HB⟩:=h9;replace T:=mk0 T;replace B:=mk0 B;replace C:=mk0 C;replace D:=mk0 D;replace E:=mk0 E;replace F:=mk0 F;replace f7:=mk0 f7;replace c0:=mk0 c0;replace J:=mk0 J;replace a5:=mk0 a5;replace L:=mk0 L;replace a6:=mk0 a6;replace a0:=mk0 a0;replace a2:=mk0 a2;replace U:=mk0 U;replace b1:=mk0 b1;replace f8:=mk0 f8;replace c2:=mk0 c2;replace O:=mk0 O;replace a9:=mk0 a9;replace Q:=mk0 Q;replace b0:=mk0 b0;replace a3:=mk0 a3;replace a7:=mk0 a7;replace HB:=mk0 HB;have a4:=i6;refine norm_ (a':=?_) ?_ ?_;rotate_left
  ·
   simp only [putAll,Act.put,s0_,s1_,s2_];rfl
  refine one_ (i:=6) (N:=none) #[y_,y_,y_,y_,y_,y_,y_,n_] rfl rfl (one_of n8.1 (by kernel_rfl)) (by decide) (fun K hK=>?_);have Qx:=q0_ E;have Nb:=blk_frozen E.1 0;have Bt:=J.1;have Bu:=L.1;have Bv:=a0.1;have Bw:=U.1;have Bx:=a5.1;have By:=a6.1;have Bz:=a2.1;have Ca:=b1.1;have Qy:=q1_ E;have Nc:=blk_frozen E.1 1;have Cb:=J.1;have Cc:=L.1;have Cd:=a0.1;have Ce:=U.1;have Cf:=a5.1;have Cg:=a6.1;have Ch:=a2.1;have Ci:=b1.1;have Qz:=q2_ E;have Nd:=blk_frozen E.1 2;have Cj:=J.1;have Ck:=L.1;have Cl:=a0.1;have Cm:=U.1;have Cn:=a5.1;have Co:=a6.1;have Cp:=a2.1;have Cq:=b1.1;have Ra:=q3_ E;have Ne:=blk_frozen E.1 3;have Cr:=J.1;have Cs:=L.1;have Ct:=a0.1;have Cu:=U.1;have Cv:=a5.1;have Cw:=a6.1;have Cx:=a2.1;have Cy:=b1.1;refine skip_ (w1:=?_) (by rfl) rfl ?_ ?_;rotate_left
  ·
   go_simp;rfl
  refine hK.out _ _ ⟨((cell_far (p:=⟨Y,_,none⟩) J.1 _).trans (((cell_far (p:=⟨Y,_,none⟩) J.1 _).trans (((cell_far (p:=⟨Y,_,none⟩) J.1 _).trans (((cell_far (p:=⟨Y,_,none⟩) J.1 _).trans (a4.1)))))))),((cell_far (p:=⟨Y,_,none⟩) J.1 _).trans (((cell_far (p:=⟨Y,_,none⟩) J.1 _).trans (((cell_far (p:=⟨Y,_,none⟩) J.1 _).trans (((cell_far (p:=⟨Y,_,none⟩) J.1 _).trans (a4.2.1)))))))),((cell_far (p:=⟨Y,_,none⟩) J.1 _).trans (((cell_far (p:=⟨Y,_,none⟩) J.1 _).trans (((cell_far (p:=⟨Y,_,none⟩) J.1 _).trans (((cell_far (p:=⟨Y,_,none⟩) J.1 _).trans (a4.2.2.1)))))))),((cell_far (p:=⟨Y,_,none⟩) J.1 _).trans (((cell_far (p:=⟨Y,_,none⟩) J.1 _).trans (((cell_far (p:=⟨Y,_,none⟩) J.1 _).trans (((cell_far (p:=⟨Y,_,none⟩) J.1 _).trans (a4.2.2.2.1)))))))),((cell_far (p:=⟨Y,_,none⟩) L.1 _).trans (((cell_far (p:=⟨Y,_,none⟩) L.1 _).trans (((cell_far (p:=⟨Y,_,none⟩) L.1 _).trans (((cell_far (p:=⟨Y,_,none⟩) L.1 _).trans (a4.2.2.2.2.1)))))))),((cell_far (p:=⟨Y,_,none⟩) L.1 _).trans (((cell_far (p:=⟨Y,_,none⟩) L.1 _).trans (((cell_far (p:=⟨Y,_,none⟩) L.1 _).trans (((cell_far (p:=⟨Y,_,none⟩) L.1 _).trans (a4.2.2.2.2.2.1)))))))),((cell_far (p:=⟨Y,_,none⟩) L.1 _).trans (((cell_far (p:=⟨Y,_,none⟩) L.1 _).trans (((cell_far (p:=⟨Y,_,none⟩) L.1 _).trans (((cell_far (p:=⟨Y,_,none⟩) L.1 _).trans (a4.2.2.2.2.2.2.1)))))))),((cell_far (p:=⟨Y,_,none⟩) L.1 _).trans (((cell_far (p:=⟨Y,_,none⟩) L.1 _).trans (((cell_far (p:=⟨Y,_,none⟩) L.1 _).trans (((cell_far (p:=⟨Y,_,none⟩) L.1 _).trans (a4.2.2.2.2.2.2.2))))))))⟩ (fun a4=>?_);clear hK K;refine one_ (i:=7) (N:=none) #[y_,y_,y_,y_,y_,y_,y_,y_] rfl rfl (one_of n8.1 (by kernel_rfl)) (by decide) (fun K hK=>?_);have Rb:=q0_ F;have Nf:=blk_frozen F.1 0;have Cz:=O.1;have Da:=Q.1;have Db:=a3.1;have Dc:=b1.1;have Dd:=a9.1;have De:=b0.1;have Df:=a7.1;have Dg:=U.1;have Rc:=q1_ F;have Ng:=blk_frozen F.1 1;have Dh:=O.1;have Di:=Q.1;have Dj:=a3.1;have Dk:=b1.1;have Dl:=a9.1;have Dm:=b0.1;have Dn:=a7.1;have Do:=U.1;have Rd:=q2_ F;have Nh:=blk_frozen F.1 2;have Dp:=O.1;have Dq:=Q.1;have Dr:=a3.1;have Ds:=b1.1;have Dt:=a9.1;have Du:=b0.1;have Dv:=a7.1;have Dw:=U.1;have Re:=q3_ F;have Nl:=blk_frozen F.1 3;have Dx:=O.1;have Dy:=Q.1;have Dz:=a3.1;have Ea:=b1.1;have Eb:=a9.1;have Ec:=b0.1;have Ed:=a7.1;have Ee:=U.1;refine skip_ (w1:=?_) (by rfl) rfl ?_ ?_;rotate_left
  ·
   go_simp;rfl
  refine hK.out _ _ ⟨((cell_far (p:=⟨b2,_,none⟩) O.1 _).trans (((cell_far (p:=⟨b2,_,none⟩) O.1 _).trans (((cell_far (p:=⟨b2,_,none⟩) O.1 _).trans (((cell_far (p:=⟨b2,_,none⟩) O.1 _).trans (a4.1)))))))),((cell_far (p:=⟨b2,_,none⟩) O.1 _).trans (((cell_far (p:=⟨b2,_,none⟩) O.1 _).trans (((cell_far (p:=⟨b2,_,none⟩) O.1 _).trans (((cell_far (p:=⟨b2,_,none⟩) O.1 _).trans (a4.2.1)))))))),((cell_far (p:=⟨b2,_,none⟩) O.1 _).trans (((cell_far (p:=⟨b2,_,none⟩) O.1 _).trans (((cell_far (p:=⟨b2,_,none⟩) O.1 _).trans (((cell_far (p:=⟨b2,_,none⟩) O.1 _).trans (a4.2.2.1)))))))),((cell_far (p:=⟨b2,_,none⟩) O.1 _).trans (((cell_far (p:=⟨b2,_,none⟩) O.1 _).trans (((cell_far (p:=⟨b2,_,none⟩) O.1 _).trans (((cell_far (p:=⟨b2,_,none⟩) O.1 _).trans (a4.2.2.2.1)))))))),((cell_far (p:=⟨b2,_,none⟩) Q.1 _).trans (((cell_far (p:=⟨b2,_,none⟩) Q.1 _).trans (((cell_far (p:=⟨b2,_,none⟩) Q.1 _).trans (((cell_far (p:=⟨b2,_,none⟩) Q.1 _).trans (a4.2.2.2.2.1)))))))),((cell_far (p:=⟨b2,_,none⟩) Q.1 _).trans (((cell_far (p:=⟨b2,_,none⟩) Q.1 _).trans (((cell_far (p:=⟨b2,_,none⟩) Q.1 _).trans (((cell_far (p:=⟨b2,_,none⟩) Q.1 _).trans (a4.2.2.2.2.2.1)))))))),((cell_far (p:=⟨b2,_,none⟩) Q.1 _).trans (((cell_far (p:=⟨b2,_,none⟩) Q.1 _).trans (((cell_far (p:=⟨b2,_,none⟩) Q.1 _).trans (((cell_far (p:=⟨b2,_,none⟩) Q.1 _).trans (a4.2.2.2.2.2.2.1)))))))),((cell_far (p:=⟨b2,_,none⟩) Q.1 _).trans (((cell_far (p:=⟨b2,_,none⟩) Q.1 _).trans (((cell_far (p:=⟨b2,_,none⟩) Q.1 _).trans (((cell_far (p:=⟨b2,_,none⟩) Q.1 _).trans (a4.2.2.2.2.2.2.2))))))))⟩ (fun a4=>?_);clear hK K;refine done_ (done_of n8.1 (by kernel_rfl)) ?_;go_upto_region 5 with (fail)
  go_cut [34] (fun Id wc=>∃ (kq:Nat) (y6:Bool),Id=.bool y6∧Aside0 (norm_Gcd.j0 kq y6 g7 g8 h0 h4 h7 i0 i8 j8=some (r1,r2,r3,r4,r5))∧Aside0 (kq ≤ k)∧Aside0 (Q4_ wc V d2 d3 d4 d5 23)∧Aside0 (Q4_ wc X d6 d7 d8 d9 23)∧Aside0 (Q4_ wc b7 0 0 0 0 23)∧Aside0 (Q4_ wc Y g7 g8 h0 h4 67)∧Aside0 (Q4_ wc b2 h7 i0 i8 j8 67)∧Aside0 (Below w.heap.size w wc))
  case first =>
   have H:=L3.1;clear L3
   by_cases c34:(g7 == 0 && (g8 == 0 && (h0 == 0 && (h4 == 0))))=true
   ·
    rw [if_pos c34] at H;have c34b0:(g7 == 0 && (g8 == 0 && (h0 == 0 && (h4 == 0))))=true:=c34;(try (have c34b1:decide (g7=0 && (g8 == 0 && (h0 == 0 && (h4 == 0))))=true:=by simpa using c34));(try (have c34b2:(g7 == 0 && (g8 == 0 && (h0 == 0 && (h4 == 0))))=true:=by simpa using c34));clear c34;(first|rw [c34b0]|(simp only [i64_w,i32_w];rw [c34b0])|skip);have H':=mk0 H;clear H;have Nm:=a5.1;have Nn:=J.1;have No:=a6.1;have Np:=L.1;have Nq:=a2.1;have Nr:=a0.1;have Ns:=b1.1;have Nt:=U.1;have u3:=q0_ E;have u4:=q1_ E;have u5:=q2_ E;have u6:=q3_ E;have u7:=blk_frozen E.1 0;have u8:=blk_frozen E.1 1;have u9:=blk_frozen E.1 2;have v0:=blk_frozen E.1 3;have Nu:=a9.1;have Nv:=O.1;have Nw:=b0.1;have Nx:=Q.1;have Ny:=a7.1;have Nz:=a3.1;have v1:=q0_ F;have v2:=q1_ F;have v3:=q2_ F;have v4:=q3_ F;have v5:=blk_frozen F.1 0;have v6:=blk_frozen F.1 1;have v7:=blk_frozen F.1 2;have v8:=blk_frozen F.1 3;go_wp2;go_meet
    case rel=>exact ⟨_,((h7 == 0 && (i0 == 0 && (i8 == 0 && (j8 == 0))))),(by first|rfl|(simp;done)|(simp [*];done)),H',⟨by first|omega|exact Nat.le_refl _⟩,⟨by (iterate 4 refine blk_far ?_ O.1 _);(iterate 4 refine blk_far ?_ J.1 _);exact B.1⟩,⟨by (iterate 4 refine blk_far ?_ Q.1 _);(iterate 4 refine blk_far ?_ L.1 _);exact C.1⟩,⟨by (iterate 4 refine blk_far ?_ a3.1 _);(iterate 4 refine blk_far ?_ a0.1 _);exact D.1⟩,⟨by (iterate 4 refine blk_far ?_ b1.1 _);refine blk_put (cs:=#[.int .i64 g7,.int .i64 g8,.int .i64 h0,.int .i64 0]) ?_ 3 _ rfl;refine blk_put (cs:=#[.int .i64 g7,.int .i64 g8,.int .i64 0,.int .i64 0]) ?_ 2 _ rfl;refine blk_put (cs:=#[.int .i64 g7,.int .i64 0,.int .i64 0,.int .i64 0]) ?_ 1 _ rfl;refine blk_put (cs:=#[.int .i64 0,.int .i64 0,.int .i64 0,.int .i64 0]) ?_ 0 _ rfl;exact E.1⟩,⟨by refine blk_put (cs:=#[.int .i64 h7,.int .i64 i0,.int .i64 i8,.int .i64 0]) ?_ 3 _ rfl;refine blk_put (cs:=#[.int .i64 h7,.int .i64 i0,.int .i64 0,.int .i64 0]) ?_ 2 _ rfl;refine blk_put (cs:=#[.int .i64 h7,.int .i64 0,.int .i64 0,.int .i64 0]) ?_ 1 _ rfl;refine blk_put (cs:=#[.int .i64 0,.int .i64 0,.int .i64 0,.int .i64 0]) ?_ 0 _ rfl;(iterate 4 refine blk_far ?_ U.1 _);exact F.1⟩,⟨by repeat (first|(with_reducible first|exact HB.1|apply below_alloc|apply pw_below_drewN|apply below_drew1|refine below_set ?_ h1.1|refine below_set ?_ h2.1|refine below_set ?_ h3.1|refine below_set ?_ c0.1|refine below_set ?_ c2.1)|exact HB.1)⟩⟩
   ·
    rw [if_neg c34] at H;have c34b0:(g7 == 0 && (g8 == 0 && (h0 == 0 && (h4 == 0))))=false:=by simpa using c34
    (try (have c34b1:decide (g7=0 && (g8 == 0 && (h0 == 0 && (h4 == 0))))=false:=by simpa using c34));(try (have c34b2:(g7 == 0 && (g8 == 0 && (h0 == 0 && (h4 == 0))))=false:=by simpa using c34));(try (have c34b3:¬ (g7=0 && (g8 == 0 && (h0 == 0 && (h4 == 0)))):=by simpa using c34));clear c34;(first|rw [c34b0]|(simp only [i64_w,i32_w];rw [c34b0])|skip);have H':=mk0 H;clear H;have Oa:=a5.1;have Ob:=J.1;have Oc:=a6.1;have Od:=L.1;have Oe:=a2.1;have Of:=a0.1;have Og:=b1.1;have Oh:=U.1;have v9:=q0_ E;have x0:=q1_ E;have x1:=q2_ E;have x2:=q3_ E;have x3:=blk_frozen E.1 0;have x4:=blk_frozen E.1 1;have x5:=blk_frozen E.1 2;have x6:=blk_frozen E.1 3;go_wp2;go_meet
    case rel=>exact ⟨_,(false),(by first|rfl|(simp;done)|(simp [*];done)),H',⟨by first|omega|exact Nat.le_refl _⟩,⟨by (iterate 4 refine blk_far ?_ O.1 _);(iterate 4 refine blk_far ?_ J.1 _);exact B.1⟩,⟨by (iterate 4 refine blk_far ?_ Q.1 _);(iterate 4 refine blk_far ?_ L.1 _);exact C.1⟩,⟨by (iterate 4 refine blk_far ?_ a3.1 _);(iterate 4 refine blk_far ?_ a0.1 _);exact D.1⟩,⟨by (iterate 4 refine blk_far ?_ b1.1 _);refine blk_put (cs:=#[.int .i64 g7,.int .i64 g8,.int .i64 h0,.int .i64 0]) ?_ 3 _ rfl;refine blk_put (cs:=#[.int .i64 g7,.int .i64 g8,.int .i64 0,.int .i64 0]) ?_ 2 _ rfl;refine blk_put (cs:=#[.int .i64 g7,.int .i64 0,.int .i64 0,.int .i64 0]) ?_ 1 _ rfl;refine blk_put (cs:=#[.int .i64 0,.int .i64 0,.int .i64 0,.int .i64 0]) ?_ 0 _ rfl;exact E.1⟩,⟨by refine blk_put (cs:=#[.int .i64 h7,.int .i64 i0,.int .i64 i8,.int .i64 0]) ?_ 3 _ rfl;refine blk_put (cs:=#[.int .i64 h7,.int .i64 i0,.int .i64 0,.int .i64 0]) ?_ 2 _ rfl;refine blk_put (cs:=#[.int .i64 h7,.int .i64 0,.int .i64 0,.int .i64 0]) ?_ 1 _ rfl;refine blk_put (cs:=#[.int .i64 0,.int .i64 0,.int .i64 0,.int .i64 0]) ?_ 0 _ rfl;(iterate 4 refine blk_far ?_ U.1 _);exact F.1⟩,⟨by repeat (first|(with_reducible first|exact HB.1|apply below_alloc|apply pw_below_drewN|apply below_drew1|refine below_set ?_ h1.1|refine below_set ?_ h2.1|refine below_set ?_ h3.1|refine below_set ?_ c0.1|refine below_set ?_ c2.1)|exact HB.1)⟩⟩
  case rest =>
   clear L3;try clear p2
   try clear c3
   try clear c4
   try clear c34
   try clear c34b0
   try clear c34b1
   try clear c34b2
   try clear c35
   try clear c36
   try clear c37
   try clear c38
   try clear c40
   try clear c41
   try clear c42
   try clear c44
   try clear c45
   try clear c46
   try clear c47
   try clear c48
   try clear u3
   try clear u4
   try clear u5
   try clear u6
   try clear v1
   try clear v2
   try clear v3
   try clear v4
   try clear v9
   try clear x0
   try clear x1
   try clear x2
   try clear u7
   try clear u8
   try clear u9
   try clear v0
   try clear v5
   try clear v6
   try clear v7
   try clear v8
   try clear x3
   try clear x4
   try clear x5
   try clear x6
   obtain ⟨kq,y6,rfl,HA,A0,B,C,D,E,F,HB⟩:=hcut;cases kq with
   | zero=>exact absurd HA.1 (by simp [norm_Gcd.j0])
   | succ kj6 =>
    have H:=HA.1;clear HA;simp only [norm_Gcd.j0] at H
    by_cases A1:y6=true
    ·
     subst A1;have H1:(some (0,0,0,0,5))=some (r1,r2,r3,r4,r5):=by rw [if_pos rfl] at H;exact H
     clear H;have H:=H1;clear H1;simp only [Option.some.injEq,Prod.mk.injEq] at H;obtain ⟨rfl,rfl,rfl,rfl,rfl⟩:=H;have Oi:=l4.1;have Oj:=l3.1;have Ok:=l6.1;have Ol:=l5.1;have Om:=a0.1;have On:=a2.1;have Oo:=a3.1;have Op:=a7.1;have A2:=q0_ D;have A4:=q1_ D;have A7:=q2_ D;have A8:=q3_ D;have A9:=blk_frozen D.1 0;have B0:=blk_frozen D.1 1;have B1:=blk_frozen D.1 2;have B2:=blk_frozen D.1 3;go_wp2;refine bodyPost_ret (results_ct rfl _ _ b7 23 #[.int .i64 0,.int .i64 0,.int .i64 0,.int .i64 0] (0,0) _ rfl (by refine blk_put (cs:=#[.int .i64 0,.int .i64 0,.int .i64 0,.int .i64 0]) ?_ 3 _ rfl;refine blk_put (cs:=#[.int .i64 0,.int .i64 0,.int .i64 0,.int .i64 0]) ?_ 2 _ rfl;refine blk_put (cs:=#[.int .i64 0,.int .i64 0,.int .i64 0,.int .i64 0]) ?_ 1 _ rfl;refine blk_put (cs:=#[.int .i64 0,.int .i64 0,.int .i64 0,.int .i64 0]) ?_ 0 _ rfl;exact D.1) Try.underlying23 rfl (by kernel_rfl)) rfl ?_;exact ⟨by first|rfl|(simp [errW_none,errW_some] <;> rfl)|(simp [*,errW_none,errW_some] <;> rfl),by repeat (first|(with_reducible first|exact HB.1|apply below_alloc|apply pw_below_drewN|apply below_drew1|refine below_set ?_ h1.1|refine below_set ?_ h2.1|refine below_set ?_ h3.1|refine below_set ?_ c0.1|refine below_set ?_ c2.1)|exact HB.1)⟩
    ·
     replace A1:=Bool.eq_false_iff.mpr A1;subst A1;have H1:(norm_Gcd.l0 kj6 g7 g8 h0 h4 h7 i0 i8 j8)=some (r1,r2,r3,r4,r5):=by rw [if_neg (show ¬ (false=true) by decide)] at H;exact H
     clear H;have H:=H1;clear H1;have H':=mk0 H;clear H;go_wp2
     go_loopg [] kj6 (fun kq w'=>∃ (b3:Int) (b4:Int) (b5:Int) (b6:Int) (e3:Int) (e4:Int) (e5:Int) (e6:Int),Aside0 (norm_Gcd.l0 kq b3 b4 b5 b6 e3 e4 e5 e6=some (r1,r2,r3,r4,r5))∧Aside0 (kq ≤ kj6)∧Aside0 (Q4_ w' V d2 d3 d4 d5 23)∧Aside0 (Q4_ w' X d6 d7 d8 d9 23)∧Aside0 (Q4_ w' b7 0 0 0 0 23)∧Aside0 (Q4_ w' Y b3 b4 b5 b6 67)∧Aside0 (Q4_ w' b2 e3 e4 e5 e6 67)∧Aside0 (Below w.heap.size w w'))
     case atStart=>exact ⟨(g7),(g8),(h0),(h4),(h7),(i0),(i8),(j8),H',⟨Nat.le_refl _⟩,⟨by exact B.1⟩,⟨by exact C.1⟩,⟨by exact D.1⟩,⟨by exact E.1⟩,⟨by exact F.1⟩,⟨by repeat (first|(with_reducible first|exact HB.1|apply below_alloc|apply pw_below_drewN|apply below_drew1|refine below_set ?_ h1.1|refine below_set ?_ h2.1|refine below_set ?_ h3.1|refine below_set ?_ c0.1|refine below_set ?_ c2.1)|exact HB.1)⟩⟩
     case round =>
      clear H';try clear p2
      try clear c3
      try clear c4
      try clear c5
      try clear c34
      try clear c34b0
      try clear c34b1
      try clear c34b2
      try clear c35
      try clear c36
      try clear c37
      try clear c38
      try clear c40
      try clear c41
      try clear c42
      try clear c44
      try clear c45
      try clear c46
      try clear c47
      try clear c48
      try clear A1
      try clear c50
      try clear c51
      try clear c52
      try clear c53
      try clear u3
      try clear u4
      try clear u5
      try clear u6
      try clear v1
      try clear v2
      try clear v3
      try clear v4
      try clear v9
      try clear x0
      try clear x1
      try clear x2
      try clear A2
      try clear A4
      try clear A7
      try clear A8
      try clear u7
      try clear u8
      try clear u9
      try clear v0
      try clear v5
      try clear v6
      try clear v7
      try clear v8
      try clear x3
      try clear x4
      try clear x5
      try clear x6
      try clear A9
      try clear B0
      try clear B1
      try clear B2
      try clear p2
      obtain ⟨b3,b4,b5,b6,e3,e4,e5,e6,HA,B3,B,C,D,E,F,HB⟩:=hrel;cases gk with
      | zero=>exact absurd HA.1 (by simp [norm_Gcd.l0])
      | succ k2 =>
       have H:=HA.1;clear HA;simp only [norm_Gcd.l0] at H
       by_cases c55:(!(e3 == 0) || (!(e4 == 0) || (!(e5 == 0) || (!(e6 == 0)))))=true
       ·
        rw [if_pos c55] at H;have c55b0:(!(e3 == 0) || (!(e4 == 0) || (!(e5 == 0) || (!(e6 == 0)))))=true:=c55;clear c55;replace H:=Option.bind_eq_some_iff.mp H;obtain ⟨⟨j6,j9,n5,o0,h8,i1,i9,l2⟩,L6,H⟩:=H;(try dsimp only at H);have Ie:=mk0 L6;clear L6;have H':=mk0 H;clear H;have Oq:=a9.1;have Os:=O.1;have Ot:=b0.1;have Ou:=Q.1;have Ov:=a7.1;have Ow:=a3.1;have Ox:=U.1;have Oy:=b1.1;have F8:=q0_ F;have F9:=q1_ F;have G0:=q2_ F;have G1:=q3_ F;have G2:=blk_frozen F.1 0;have G3:=blk_frozen F.1 1;have G4:=blk_frozen F.1 2;have G5:=blk_frozen F.1 3;have Oz:=a5.1;have Pa:=J.1;have Pb:=a6.1;have Pc:=L.1;have Pd:=a2.1;have Pe:=a0.1;have G6:=q0_ E;have G7:=q1_ E;have G8:=q2_ E;have G9:=q3_ E;have H0:=blk_frozen E.1 0;have H2:=blk_frozen E.1 1;have H3:=blk_frozen E.1 2;have H4:=blk_frozen E.1 3;try go_wp2_with (first|((with_reducible refine gate_callee (f:=49) rfl ?_);refine goesL_ (some 42) rfl rfl Try.func49 (by kernel_rfl) rfl #[.agg #[.int .i64 b3,.int .i64 b4,.int .i64 b5,.int .i64 b6],.agg #[.int .i64 e3,.int .i64 e4,.int .i64 e5,.int .i64 e6]] rfl (by (try simp only [m0_,m1_,m2_]);first|done|rfl|(simp only [l0_,l1_];rfl)) ?_;(with_reducible refine (norm_divide.calls k2 b3 b4 b5 b6 e3 e4 e5 e6 j6 j9 n5 o0 h8 i1 i9 l2 _ Ie.1).mono ?_);rintro e Sh ⟨rfl,hb⟩;refine ⟨_,rfl,?_⟩;replace B:=bkb B hb;replace C:=bkb C hb;replace D:=bkb D hb;replace E:=bkb E hb;replace F:=bkb F hb;replace HB:=bst HB hb;(try clear hb))|((with_reducible refine gate_dst (N:=9) rfl ?_);refine box_event ?hg (N:=9) ?hd (cs:=#[.int .i64 0,.int .i64 0,.int .i64 0,.int .i64 0]) (t:=67) ?hr ?_;(case hd=>rfl);(case hg=>rfl);(case hr=>first|(go_simp;done)|(go_simp;rfl));intro f6 hg Si b8 hb;have h5:=mk0 (b8);have M4:=szw hg HB;have F1:=M4;have x7:=nlt hg B;have C4:=ngt hg B;have x8:=nlt hg C;have C5:=ngt hg C;have x9:=nlt hg D;have C6:=ngt hg D;have j1:=nlt hg E;have l7:=ngt hg E;have j2:=nlt hg F;have l8:=ngt hg F;replace B:=bkb B hb;replace C:=bkb C hb;replace D:=bkb D hb;replace E:=bkb E hb;replace F:=bkb F hb;replace HB:=bst HB hb;clear hb b8 hg)|((with_reducible refine gate_dst (N:=10) rfl ?_);refine box_event ?hg (N:=10) ?hd (cs:=#[.int .i64 0,.int .i64 0,.int .i64 0,.int .i64 0]) (t:=67) ?hr ?_;(case hd=>rfl);(case hg=>rfl);(case hr=>first|(go_simp;done)|(go_simp;rfl));intro e8 hg t6 b8 hb;have h6:=mk0 (b8);have M5:=szw hg HB;have F2:=M5;have y0:=nlt hg B;have C7:=ngt hg B;have y1:=nlt hg C;have C8:=ngt hg C;have y2:=nlt hg D;have C9:=ngt hg D;have j3:=nlt hg E;have f4:=ngt hg E;have j4:=nlt hg F;have l9:=ngt hg F;have y3:=nlt hg h5;have y4:=ngt hg h5;replace B:=bkb B hb;replace C:=bkb C hb;replace D:=bkb D hb;replace E:=bkb E hb;replace F:=bkb F hb;replace h5:=bkb h5 hb;replace HB:=bst HB hb;clear hb b8 hg;have Pf:=C4.1;have Pg:=x7.1;have Ph:=C5.1;have Pi:=x8.1;have Pj:=C6.1;have Pk:=x9.1;have Pl:=l7.1;have Pm:=j1.1;have Pn:=l8.1;have Po:=j2.1;have Pp:=y3.1;have Pq:=y4.1;have H5:=q0_ h5;have H6:=q1_ h5;have H7:=q2_ h5;have H8:=q3_ h5;have H9:=blk_frozen h5.1 0;have I0:=blk_frozen h5.1 1;have I1:=blk_frozen h5.1 2;have I2:=blk_frozen h5.1 3;have Pr:=C7.1;have Ps:=y0.1;have Pt:=C8.1;have Pu:=y1.1;have Pv:=C9.1;have Pw:=y2.1;have Px:=f4.1;have Py:=j3.1;have Pz:=l9.1;have Qa:=j4.1;have I3:=q0_ h6;have I4:=q1_ h6;have I5:=q2_ h6;have I6:=q3_ h6;have I7:=blk_frozen h6.1 0;have I8:=blk_frozen h6.1 1;have I9:=blk_frozen h6.1 2;have J0:=blk_frozen h6.1 3))
        have o8:Aside0 (((((((((t6.setCell ⟨f6,0,none⟩ (.int .i64 j6)).setCell ⟨f6,1,none⟩ (.int .i64 j9)).setCell ⟨f6,2,none⟩ (.int .i64 n5)).setCell ⟨f6,3,none⟩ (.int .i64 o0)).setCell ⟨e8,0,none⟩ (.int .i64 h8)).setCell ⟨e8,1,none⟩ (.int .i64 i1)).setCell ⟨e8,2,none⟩ (.int .i64 i9)).setCell ⟨e8,3,none⟩ (.int .i64 l2)).heap[V]?=some (.cells #[.int .i64 d2,.int .i64 d3,.int .i64 d4,.int .i64 d5] 23 (0,0))):=⟨by (iterate 4 refine blk_far ?_ y0.1 _);(iterate 4 refine blk_far ?_ x7.1 _);exact B.1⟩
        have o9:Aside0 (((((((((t6.setCell ⟨f6,0,none⟩ (.int .i64 j6)).setCell ⟨f6,1,none⟩ (.int .i64 j9)).setCell ⟨f6,2,none⟩ (.int .i64 n5)).setCell ⟨f6,3,none⟩ (.int .i64 o0)).setCell ⟨e8,0,none⟩ (.int .i64 h8)).setCell ⟨e8,1,none⟩ (.int .i64 i1)).setCell ⟨e8,2,none⟩ (.int .i64 i9)).setCell ⟨e8,3,none⟩ (.int .i64 l2)).heap[X]?=some (.cells #[.int .i64 d6,.int .i64 d7,.int .i64 d8,.int .i64 d9] 23 (0,0))):=⟨by (iterate 4 refine blk_far ?_ y1.1 _);(iterate 4 refine blk_far ?_ x8.1 _);exact C.1⟩
        have p0:Aside0 (((((((((t6.setCell ⟨f6,0,none⟩ (.int .i64 j6)).setCell ⟨f6,1,none⟩ (.int .i64 j9)).setCell ⟨f6,2,none⟩ (.int .i64 n5)).setCell ⟨f6,3,none⟩ (.int .i64 o0)).setCell ⟨e8,0,none⟩ (.int .i64 h8)).setCell ⟨e8,1,none⟩ (.int .i64 i1)).setCell ⟨e8,2,none⟩ (.int .i64 i9)).setCell ⟨e8,3,none⟩ (.int .i64 l2)).heap[b7]?=some (.cells #[.int .i64 0,.int .i64 0,.int .i64 0,.int .i64 0] 23 (0,0))):=⟨by (iterate 4 refine blk_far ?_ y2.1 _);(iterate 4 refine blk_far ?_ x9.1 _);exact D.1⟩
        have p1:Aside0 (((((((((t6.setCell ⟨f6,0,none⟩ (.int .i64 j6)).setCell ⟨f6,1,none⟩ (.int .i64 j9)).setCell ⟨f6,2,none⟩ (.int .i64 n5)).setCell ⟨f6,3,none⟩ (.int .i64 o0)).setCell ⟨e8,0,none⟩ (.int .i64 h8)).setCell ⟨e8,1,none⟩ (.int .i64 i1)).setCell ⟨e8,2,none⟩ (.int .i64 i9)).setCell ⟨e8,3,none⟩ (.int .i64 l2)).heap[Y]?=some (.cells #[.int .i64 b3,.int .i64 b4,.int .i64 b5,.int .i64 b6] 67 (0,0))):=⟨by (iterate 4 refine blk_far ?_ j3.1 _);(iterate 4 refine blk_far ?_ j1.1 _);exact E.1⟩
        have p3:Aside0 (((((((((t6.setCell ⟨f6,0,none⟩ (.int .i64 j6)).setCell ⟨f6,1,none⟩ (.int .i64 j9)).setCell ⟨f6,2,none⟩ (.int .i64 n5)).setCell ⟨f6,3,none⟩ (.int .i64 o0)).setCell ⟨e8,0,none⟩ (.int .i64 h8)).setCell ⟨e8,1,none⟩ (.int .i64 i1)).setCell ⟨e8,2,none⟩ (.int .i64 i9)).setCell ⟨e8,3,none⟩ (.int .i64 l2)).heap[b2]?=some (.cells #[.int .i64 e3,.int .i64 e4,.int .i64 e5,.int .i64 e6] 67 (0,0))):=⟨by (iterate 4 refine blk_far ?_ j4.1 _);(iterate 4 refine blk_far ?_ j2.1 _);exact F.1⟩
        have p4:Aside0 (((((((((t6.setCell ⟨f6,0,none⟩ (.int .i64 j6)).setCell ⟨f6,1,none⟩ (.int .i64 j9)).setCell ⟨f6,2,none⟩ (.int .i64 n5)).setCell ⟨f6,3,none⟩ (.int .i64 o0)).setCell ⟨e8,0,none⟩ (.int .i64 h8)).setCell ⟨e8,1,none⟩ (.int .i64 i1)).setCell ⟨e8,2,none⟩ (.int .i64 i9)).setCell ⟨e8,3,none⟩ (.int .i64 l2)).heap[f6]?=some (.cells #[.int .i64 j6,.int .i64 j9,.int .i64 n5,.int .i64 o0] 67 (0,0))):=⟨by (iterate 4 refine blk_far ?_ y3.1 _);refine blk_put (cs:=#[.int .i64 j6,.int .i64 j9,.int .i64 n5,.int .i64 0]) ?_ 3 _ rfl;refine blk_put (cs:=#[.int .i64 j6,.int .i64 j9,.int .i64 0,.int .i64 0]) ?_ 2 _ rfl;refine blk_put (cs:=#[.int .i64 j6,.int .i64 0,.int .i64 0,.int .i64 0]) ?_ 1 _ rfl;refine blk_put (cs:=#[.int .i64 0,.int .i64 0,.int .i64 0,.int .i64 0]) ?_ 0 _ rfl;exact h5.1⟩
        have p5:Aside0 (((((((((t6.setCell ⟨f6,0,none⟩ (.int .i64 j6)).setCell ⟨f6,1,none⟩ (.int .i64 j9)).setCell ⟨f6,2,none⟩ (.int .i64 n5)).setCell ⟨f6,3,none⟩ (.int .i64 o0)).setCell ⟨e8,0,none⟩ (.int .i64 h8)).setCell ⟨e8,1,none⟩ (.int .i64 i1)).setCell ⟨e8,2,none⟩ (.int .i64 i9)).setCell ⟨e8,3,none⟩ (.int .i64 l2)).heap[e8]?=some (.cells #[.int .i64 h8,.int .i64 i1,.int .i64 i9,.int .i64 l2] 67 (0,0))):=⟨by refine blk_put (cs:=#[.int .i64 h8,.int .i64 i1,.int .i64 i9,.int .i64 0]) ?_ 3 _ rfl;refine blk_put (cs:=#[.int .i64 h8,.int .i64 i1,.int .i64 0,.int .i64 0]) ?_ 2 _ rfl;refine blk_put (cs:=#[.int .i64 h8,.int .i64 0,.int .i64 0,.int .i64 0]) ?_ 1 _ rfl;refine blk_put (cs:=#[.int .i64 0,.int .i64 0,.int .i64 0,.int .i64 0]) ?_ 0 _ rfl;(iterate 4 refine blk_far ?_ y4.1 _);exact h6.1⟩
        have p6:Aside0 (Below w.heap.size w ((((((((t6.setCell ⟨f6,0,none⟩ (.int .i64 j6)).setCell ⟨f6,1,none⟩ (.int .i64 j9)).setCell ⟨f6,2,none⟩ (.int .i64 n5)).setCell ⟨f6,3,none⟩ (.int .i64 o0)).setCell ⟨e8,0,none⟩ (.int .i64 h8)).setCell ⟨e8,1,none⟩ (.int .i64 i1)).setCell ⟨e8,2,none⟩ (.int .i64 i9)).setCell ⟨e8,3,none⟩ (.int .i64 l2))):=⟨by repeat (first|(with_reducible first|exact HB.1|apply below_alloc|apply pw_below_drewN|apply below_drew1|refine below_set ?_ h1.1|refine below_set ?_ h2.1|refine below_set ?_ h3.1|refine below_set ?_ c0.1|refine below_set ?_ c2.1|refine below_set ?_ F1.1|refine below_set ?_ F2.1)|exact HB.1)⟩
        (try clear B);(try clear C);(try clear D);(try clear E);(try clear F);(try clear h5);(try clear h6);(try clear HB);generalize ((((((((t6.setCell ⟨f6,0,none⟩ (.int .i64 j6)).setCell ⟨f6,1,none⟩ (.int .i64 j9)).setCell ⟨f6,2,none⟩ (.int .i64 n5)).setCell ⟨f6,3,none⟩ (.int .i64 o0)).setCell ⟨e8,0,none⟩ (.int .i64 h8)).setCell ⟨e8,1,none⟩ (.int .i64 i1)).setCell ⟨e8,2,none⟩ (.int .i64 i9)).setCell ⟨e8,3,none⟩ (.int .i64 l2))=If at o8 o9 p0 p1 p3 p4 p5 p6 ⊢;have B:=o8;have C:=o9;have D:=p0;have E:=p1;have F:=p3;have h5:=p4;have h6:=p5;have HB:=p6;clear o8 o9 p0 p1 p3 p4 p5 p6;replace B:=bdr B;replace C:=bdr C;replace D:=bdr D;replace E:=bdr E;replace F:=bdr F;replace h5:=bdr h5;replace h6:=bdr h6;replace HB:=hdr HB;refine start_ (n:=4) (S:=fun w'=>w'.cell? ⟨b2,0,none⟩=some (.int .i64 e3)∧w'.cell? ⟨b2,1,none⟩=some (.int .i64 e4)∧w'.cell? ⟨b2,2,none⟩=some (.int .i64 e5)∧w'.cell? ⟨b2,3,none⟩=some (.int .i64 e6)∧w'.cell? ⟨e8,0,none⟩=some (.int .i64 h8)∧w'.cell? ⟨e8,1,none⟩=some (.int .i64 i1)∧w'.cell? ⟨e8,2,none⟩=some (.int .i64 i9)∧w'.cell? ⟨e8,3,none⟩=some (.int .i64 l2)) (ds:=[3]) #[n_,n_,n_,n_] (by kernel_rfl) rfl rfl ⟨q0_ F,q1_ F,q2_ F,q3_ F,q0_ h6,q1_ h6,q2_ h6,q3_ h6⟩ (fun a4=>?_);generalize If.drew=Sj at B C D E F h5 h6 HB a4 ⊢;refine take_ (i:=0) (N:=some 45) (v:=?_) (a':=?_) #[y_,n_,n_,n_] rfl rfl (by kernel_rfl) (fun _ _ _ h=>h) (Or.inl ⟨by rfl,?_⟩) a4 ?_ ?_;rotate_left
        ·
         rintro w' ⟨s0,s1,s2,s3,s4,s5,s6,s7⟩;go_simp;with_reducible rfl
        rotate_left
        ·
         simp only [Act.put,s0_,s1_,s2_,i64_w,i32_w];rfl
        refine take_ (i:=1) (N:=some 46) (v:=?_) (a':=?_) #[y_,y_,n_,n_] rfl rfl (by kernel_rfl) (fun _ _ _ h=>h) (Or.inl ⟨by rfl,?_⟩) a4 ?_ ?_;rotate_left
        ·
         rintro w' ⟨s0,s1,s2,s3,s4,s5,s6,s7⟩;go_simp;with_reducible rfl
        rotate_left
        ·
         simp only [Act.put,s0_,s1_,s2_,i64_w,i32_w];rfl
        refine one_ (i:=2) (N:=none) #[y_,y_,y_,n_] rfl rfl (by kernel_rfl) (by decide) (fun K hK=>?_);have Rf:=q0_ E;have Qb:=blk_frozen E.1 0;have Ef:=J.1;have Eg:=L.1;have Eh:=a0.1;have Ei:=U.1;have Ej:=l7.1;have Ek:=f4.1;have El:=a5.1;have Em:=a6.1;have En:=a2.1;have Eo:=b1.1;have Ep:=j1.1;have Eq:=j3.1;have Rg:=q1_ E;have Qc:=blk_frozen E.1 1;have Er:=J.1;have Es:=L.1;have Et:=a0.1;have Eu:=U.1;have Ev:=l7.1;have Ew:=f4.1;have Ex:=a5.1;have Ey:=a6.1;have Ez:=a2.1;have Fa:=b1.1;have Fb:=j1.1;have Fc:=j3.1;have Rh:=q2_ E;have Qd:=blk_frozen E.1 2;have Fd:=J.1;have Fe:=L.1;have Ff:=a0.1;have Fg:=U.1;have Fh:=l7.1;have Fi:=f4.1;have Fj:=a5.1;have Fk:=a6.1;have Fl:=a2.1;have Fm:=b1.1;have Fn:=j1.1;have Fo:=j3.1;have Ri:=q3_ E;have Qe:=blk_frozen E.1 3;have Fp:=J.1;have Fq:=L.1;have Fr:=a0.1;have Fs:=U.1;have Ft:=l7.1;have Fu:=f4.1;have Fv:=a5.1;have Fw:=a6.1;have Fx:=a2.1;have Fy:=b1.1;have Fz:=j1.1;have Ga:=j3.1;refine skip_ (w1:=?_) (by rfl) rfl ?_ ?_;rotate_left
        ·
         go_simp;rfl
        refine hK.out _ _ ⟨((cell_far (p:=⟨Y,_,none⟩) U.1 _).trans (((cell_far (p:=⟨Y,_,none⟩) U.1 _).trans (((cell_far (p:=⟨Y,_,none⟩) U.1 _).trans (((cell_far (p:=⟨Y,_,none⟩) U.1 _).trans (a4.1)))))))),((cell_far (p:=⟨Y,_,none⟩) U.1 _).trans (((cell_far (p:=⟨Y,_,none⟩) U.1 _).trans (((cell_far (p:=⟨Y,_,none⟩) U.1 _).trans (((cell_far (p:=⟨Y,_,none⟩) U.1 _).trans (a4.2.1)))))))),((cell_far (p:=⟨Y,_,none⟩) U.1 _).trans (((cell_far (p:=⟨Y,_,none⟩) U.1 _).trans (((cell_far (p:=⟨Y,_,none⟩) U.1 _).trans (((cell_far (p:=⟨Y,_,none⟩) U.1 _).trans (a4.2.2.1)))))))),((cell_far (p:=⟨Y,_,none⟩) U.1 _).trans (((cell_far (p:=⟨Y,_,none⟩) U.1 _).trans (((cell_far (p:=⟨Y,_,none⟩) U.1 _).trans (((cell_far (p:=⟨Y,_,none⟩) U.1 _).trans (a4.2.2.2.1)))))))),((cell_far (p:=⟨Y,_,none⟩) f4.1 _).trans (((cell_far (p:=⟨Y,_,none⟩) f4.1 _).trans (((cell_far (p:=⟨Y,_,none⟩) f4.1 _).trans (((cell_far (p:=⟨Y,_,none⟩) f4.1 _).trans (a4.2.2.2.2.1)))))))),((cell_far (p:=⟨Y,_,none⟩) f4.1 _).trans (((cell_far (p:=⟨Y,_,none⟩) f4.1 _).trans (((cell_far (p:=⟨Y,_,none⟩) f4.1 _).trans (((cell_far (p:=⟨Y,_,none⟩) f4.1 _).trans (a4.2.2.2.2.2.1)))))))),((cell_far (p:=⟨Y,_,none⟩) f4.1 _).trans (((cell_far (p:=⟨Y,_,none⟩) f4.1 _).trans (((cell_far (p:=⟨Y,_,none⟩) f4.1 _).trans (((cell_far (p:=⟨Y,_,none⟩) f4.1 _).trans (a4.2.2.2.2.2.2.1)))))))),((cell_far (p:=⟨Y,_,none⟩) f4.1 _).trans (((cell_far (p:=⟨Y,_,none⟩) f4.1 _).trans (((cell_far (p:=⟨Y,_,none⟩) f4.1 _).trans (((cell_far (p:=⟨Y,_,none⟩) f4.1 _).trans (a4.2.2.2.2.2.2.2))))))))⟩ (fun a4=>?_);clear hK K;refine last_ (i:=3) (N:=none) #[y_,y_,y_,y_] rfl rfl (by kernel_rfl) (by decide) (fun K hK=>?_);have Rj:=q0_ F;have Qf:=blk_frozen F.1 0;have Gb:=O.1;have Gc:=Q.1;have Gd:=a3.1;have Ge:=b1.1;have Gf:=l8.1;have Gg:=l9.1;have Gh:=a9.1;have Gi:=b0.1;have Gj:=a7.1;have Gk:=U.1;have Gl:=j2.1;have Gm:=j4.1;have Rk:=q1_ F;have Qg:=blk_frozen F.1 1;have Gn:=O.1;have Gp:=Q.1;have Gq:=a3.1;have Gr:=b1.1;have Gs:=l8.1;have Gt:=l9.1;have Gu:=a9.1;have Gv:=b0.1;have Gw:=a7.1;have Gx:=U.1;have Gy:=j2.1;have Gz:=j4.1;have Rl:=q2_ F;have Qh:=blk_frozen F.1 2;have Ha:=O.1;have Hb:=Q.1;have Hc:=a3.1;have Hd:=b1.1;have He:=l8.1;have Hf:=l9.1;have Hg:=a9.1;have Hh:=b0.1;have Hi:=a7.1;have Hj:=U.1;have Hk:=j2.1;have Hl:=j4.1;have Rm:=q3_ F;have Qi:=blk_frozen F.1 3;have Hm:=O.1;have Hn:=Q.1;have Ho:=a3.1
        have Hp:=b1.1;have Hq:=l8.1;have Hr:=l9.1;have Hs:=a9.1;have Ht:=b0.1;have Hu:=a7.1;have Hv:=U.1;have Hw:=j2.1;have Hx:=j4.1;refine skip_ (w1:=?_) (by rfl) rfl ?_ ?_;rotate_left
        ·
         go_simp;rfl
        refine hK.out _ _ ?_;clear hK K;refine done_ (by kernel_rfl) ?_;try go_wp2
        go_roundg k2
        case measure=>have:=A0.1;have:=B3.1;omega
        case rel=>exact ⟨(e3),(e4),(e5),(e6),(h8),(i1),(i9),(l2),H',⟨by have:=A0.1;have:=B3.1;omega⟩,⟨by (iterate 4 refine blk_far ?_ O.1 _);(iterate 4 refine blk_far ?_ J.1 _);exact B.1⟩,⟨by (iterate 4 refine blk_far ?_ Q.1 _);(iterate 4 refine blk_far ?_ L.1 _);exact C.1⟩,⟨by (iterate 4 refine blk_far ?_ a3.1 _);(iterate 4 refine blk_far ?_ a0.1 _);exact D.1⟩,⟨by (iterate 4 refine blk_far ?_ b1.1 _);refine blk_put (cs:=#[.int .i64 e3,.int .i64 e4,.int .i64 e5,.int .i64 b6]) ?_ 3 _ rfl;refine blk_put (cs:=#[.int .i64 e3,.int .i64 e4,.int .i64 b5,.int .i64 b6]) ?_ 2 _ rfl;refine blk_put (cs:=#[.int .i64 e3,.int .i64 b4,.int .i64 b5,.int .i64 b6]) ?_ 1 _ rfl;refine blk_put (cs:=#[.int .i64 b3,.int .i64 b4,.int .i64 b5,.int .i64 b6]) ?_ 0 _ rfl;exact E.1⟩,⟨by refine blk_put (cs:=#[.int .i64 h8,.int .i64 i1,.int .i64 i9,.int .i64 e6]) ?_ 3 _ rfl;refine blk_put (cs:=#[.int .i64 h8,.int .i64 i1,.int .i64 e5,.int .i64 e6]) ?_ 2 _ rfl;refine blk_put (cs:=#[.int .i64 h8,.int .i64 e4,.int .i64 e5,.int .i64 e6]) ?_ 1 _ rfl;refine blk_put (cs:=#[.int .i64 e3,.int .i64 e4,.int .i64 e5,.int .i64 e6]) ?_ 0 _ rfl;(iterate 4 refine blk_far ?_ U.1 _);exact F.1⟩,⟨by repeat (first|(with_reducible first|exact HB.1|apply below_alloc|apply pw_below_drewN|apply below_drew1|refine below_set ?_ h1.1|refine below_set ?_ h2.1|refine below_set ?_ h3.1|refine below_set ?_ c0.1|refine below_set ?_ c2.1|refine below_set ?_ F1.1|refine below_set ?_ F2.1)|exact HB.1)⟩⟩
       ·
        rw [if_neg c55] at H;have c55b0:(!(e3 == 0) || (!(e4 == 0) || (!(e5 == 0) || (!(e6 == 0)))))=false:=by simpa using c55
        clear c55;replace H:=Option.bind_eq_some_iff.mp H;obtain ⟨Z,L7,H⟩:=H;(try dsimp only at H);have Ig:=mk0 L7;clear L7;have H':=mk0 H;clear H;have Qj:=a9.1;have Qk:=O.1;have Ql:=b0.1;have Qm:=Q.1;have Qn:=a7.1;have Qo:=a3.1;have Qp:=U.1;have Qq:=b1.1;have J1:=q0_ F;have J2:=q1_ F;have J3:=q2_ F;have J4:=q3_ F;have J5:=blk_frozen F.1 0;have J6:=blk_frozen F.1 1;have J7:=blk_frozen F.1 2;have J8:=blk_frozen F.1 3;have Qr:=a5.1;have Qs:=J.1;have Qt:=a6.1;have Qu:=L.1;have Ih:=a2.1;have Ii:=a0.1;have D0:=q0_ E;have D1:=q1_ E;have D2:=q2_ E;have D3:=q3_ E;have D4:=blk_frozen E.1 0;have D5:=blk_frozen E.1 1;have D6:=blk_frozen E.1 2;have D7:=blk_frozen E.1 3;go_wp2_with (first|((with_reducible refine gate_dst (N:=11) rfl ?_);refine box_event ?hg (N:=11) ?hd (cs:=#[.int .i64 0,.int .i64 0,.int .i64 0,.int .i64 0]) (t:=67) ?hr ?_;(case hd=>rfl);(case hg=>rfl);(case hr=>first|(go_simp;done)|(go_simp;rfl));intro g3 hg Rn b8 hb;have a8:=mk0 (b8);have M6:=szw hg HB;have i7:=M6;have m0:=nlt hg B;have p7:=ngt hg B;have m1:=nlt hg C;have p8:=ngt hg C;have m2:=nlt hg D;have p9:=ngt hg D;have i2:=nlt hg E;have o2:=ngt hg E;have j5:=nlt hg F;have q0:=ngt hg F;replace B:=bkb B hb;replace C:=bkb C hb;replace D:=bkb D hb;replace E:=bkb E hb;replace F:=bkb F hb;replace HB:=bst HB hb;clear hb b8 hg;have Ij:=p7.1;have Ik:=m0.1;have Il:=p8.1;have Im:=m1.1;have In:=p9.1;have Io:=m2.1;have Ip:=o2.1;have Iq:=i2.1;have Ir:=q0.1;have Is:=j5.1;have D8:=q0_ a8;have D9:=q1_ a8;have E0:=q2_ a8;have E1:=q3_ a8;have E2:=blk_frozen a8.1 0;have E3:=blk_frozen a8.1 1;have E4:=blk_frozen a8.1 2;have E5:=blk_frozen a8.1 3)|((with_reducible refine gate_callee (f:=53) rfl ?_);refine goesL_ (some 48) rfl rfl Try.func53 (by kernel_rfl) rfl #[] rfl (by (try simp only [m0_,m1_,m2_]);first|done|rfl|(simp only [l0_,l1_];rfl)) ?_;(with_reducible refine (norm_units.calls k2  Z _ Ig.1).mono ?_);rintro e Ro ⟨Rp,rfl,O0,hb⟩;refine ⟨_,rfl,?_⟩;have F3:=mk0 (Kd.R_lower (Kd.R_newB (Kd.R_newB (Kd.R_newB O0 (g:=Y) (o:=.cells #[.int .i64 b3,.int .i64 b4,.int .i64 b5,.int .i64 b6] 67 (0,0)) (by (iterate 4 refine blk_far ?_ i2.1 _);exact E.1)) (g:=b2) (o:=.cells #[.int .i64 e3,.int .i64 e4,.int .i64 e5,.int .i64 e6] 67 (0,0)) (by (iterate 4 refine blk_far ?_ j5.1 _);exact F.1)) (g:=g3) (o:=.cells #[.int .i64 b3,.int .i64 b4,.int .i64 b5,.int .i64 b6] 67 (0,0)) (by refine blk_put (cs:=#[.int .i64 b3,.int .i64 b4,.int .i64 b5,.int .i64 0]) ?_ 3 _ rfl;refine blk_put (cs:=#[.int .i64 b3,.int .i64 b4,.int .i64 0,.int .i64 0]) ?_ 2 _ rfl;refine blk_put (cs:=#[.int .i64 b3,.int .i64 0,.int .i64 0,.int .i64 0]) ?_ 1 _ rfl;refine blk_put (cs:=#[.int .i64 0,.int .i64 0,.int .i64 0,.int .i64 0]) ?_ 0 _ rfl;exact a8.1)) (below_size (by repeat (with_reducible first|exact HB.1|refine below_set ?_ h1.1|refine below_set ?_ h2.1|refine below_set ?_ h3.1|refine below_set ?_ c0.1|refine below_set ?_ c2.1|refine below_set ?_ i7.1))));replace B:=mk0 (blk_below (g:=V) (o:=.cells #[.int .i64 d2,.int .i64 d3,.int .i64 d4,.int .i64 d5] 23 (0,0)) (by (iterate 4 refine blk_far ?_ m0.1 _);exact B.1) hb);replace C:=mk0 (blk_below (g:=X) (o:=.cells #[.int .i64 d6,.int .i64 d7,.int .i64 d8,.int .i64 d9] 23 (0,0)) (by (iterate 4 refine blk_far ?_ m1.1 _);exact C.1) hb);replace D:=mk0 (blk_below (g:=b7) (o:=.cells #[.int .i64 0,.int .i64 0,.int .i64 0,.int .i64 0] 23 (0,0)) (by (iterate 4 refine blk_far ?_ m2.1 _);exact D.1) hb);replace E:=mk0 (blk_below (g:=Y) (o:=.cells #[.int .i64 b3,.int .i64 b4,.int .i64 b5,.int .i64 b6] 67 (0,0)) (by (iterate 4 refine blk_far ?_ i2.1 _);exact E.1) hb);replace F:=mk0 (blk_below (g:=b2) (o:=.cells #[.int .i64 e3,.int .i64 e4,.int .i64 e5,.int .i64 e6] 67 (0,0)) (by (iterate 4 refine blk_far ?_ j5.1 _);exact F.1) hb);replace a8:=mk0 (blk_below (g:=g3) (o:=.cells #[.int .i64 b3,.int .i64 b4,.int .i64 b5,.int .i64 b6] 67 (0,0)) (by refine blk_put (cs:=#[.int .i64 b3,.int .i64 b4,.int .i64 b5,.int .i64 0]) ?_ 3 _ rfl;refine blk_put (cs:=#[.int .i64 b3,.int .i64 b4,.int .i64 0,.int .i64 0]) ?_ 2 _ rfl;refine blk_put (cs:=#[.int .i64 b3,.int .i64 0,.int .i64 0,.int .i64 0]) ?_ 1 _ rfl;refine blk_put (cs:=#[.int .i64 0,.int .i64 0,.int .i64 0,.int .i64 0]) ?_ 0 _ rfl;exact a8.1) hb);replace HB:=mk0 (below_step (by repeat (with_reducible first|exact HB.1|refine below_set ?_ h1.1|refine below_set ?_ h2.1|refine below_set ?_ h3.1|refine below_set ?_ c0.1|refine below_set ?_ c2.1|refine below_set ?_ i7.1)) hb);(try clear hb);(try clear O0);obtain ⟨M7,t7,M8⟩:=Kd.R_slice F3.1;subst M8))
        go_loopg [50] k2 (fun kq It w'=>∃ (I:Int) (e2:Int) (e0:Int) (d1:Int) (d0:Int),It=.int .i64 I∧Aside0 (norm_Gcd.l1 kq Z (Z.length:Int) I b3 b4 b5 b6 e2 e0 d1 d0=some (r1,r2,r3,r4,r5))∧Aside0 (kq ≤ k2)∧Aside0 (Kd.R k67 67 w' w.heap.size (fun k_=>k_ ≠ Y∧k_ ≠ b2∧k_ ≠ g3) (.slice M7 Z.length t7) Z)∧Aside0 (Q4_ w' V d2 d3 d4 d5 23)∧Aside0 (Q4_ w' X d6 d7 d8 d9 23)∧Aside0 (Q4_ w' b7 0 0 0 0 23)∧Aside0 (Q4_ w' Y b3 b4 b5 b6 67)∧Aside0 (Q4_ w' b2 e3 e4 e5 e6 67)∧Aside0 (Q4_ w' g3 e2 e0 d1 d0 67)∧Aside0 (Below w.heap.size w w'))
        case atStart=>exact ⟨(0),(b3),(b4),(b5),(b6),(by first|rfl|(simp;done)|(simp [*];done)),H',⟨Nat.le_refl _⟩,⟨by (with_reducible repeat (first|apply Kd.R_alloc|apply Kd.R_drewN|apply Kd.R_drew));exact Kd.R_mono F3.1 (fun _ hk=>⟨hk.1.1.2,⟨hk.1.2,hk.2⟩⟩)⟩,⟨by exact B.1⟩,⟨by exact C.1⟩,⟨by exact D.1⟩,⟨by exact E.1⟩,⟨by exact F.1⟩,⟨by exact a8.1⟩,⟨by repeat (first|(with_reducible first|exact HB.1|apply below_alloc|apply pw_below_drewN|apply below_drew1|refine below_set ?_ h1.1|refine below_set ?_ h2.1|refine below_set ?_ h3.1|refine below_set ?_ c0.1|refine below_set ?_ c2.1|refine below_set ?_ i7.1)|exact HB.1)⟩⟩
        case round =>
         clear H';try clear c1
         try clear p2
         try clear c3
         try clear c4
         try clear c5
         try clear c6
         try clear c7
         try clear c8
         try clear c9
         try clear c10
         try clear c34
         try clear c34b0
         try clear c34b1
         try clear c34b2
         try clear c35
         try clear c36
         try clear c37
         try clear c38
         try clear c40
         try clear c41
         try clear c42
         try clear c44
         try clear c45
         try clear c46
         try clear c47
         try clear c48
         try clear A1
         try clear c50
         try clear c51
         try clear c52
         try clear c53
         try clear c55
         try clear c55b0
         try clear c57
         try clear c58
         try clear c59
         try clear c60
         try clear c62
         try clear c63
         try clear c64
         try clear c69
         try clear c70
         try clear c71
         try clear c72
         try clear c73
         try clear c74
         try clear c76
         try clear c77
         try clear c78
         try clear c79
         try clear c80
         try clear c93
         try clear c94
         try clear c95
         try clear c96
         try clear c98
         try clear c99
         try clear c100
         try clear c103
         try clear c104
         try clear c105
         try clear c106
         try clear c107
         try clear D0
         try clear D1
         try clear D2
         try clear D3
         try clear D8
         try clear D9
         try clear E0
         try clear E1
         try clear u3
         try clear u4
         try clear u5
         try clear u6
         try clear v1
         try clear v2
         try clear v3
         try clear v4
         try clear v9
         try clear x0
         try clear x1
         try clear x2
         try clear A2
         try clear A4
         try clear A7
         try clear A8
         try clear F8
         try clear F9
         try clear G0
         try clear G1
         try clear G6
         try clear G7
         try clear G8
         try clear G9
         try clear H5
         try clear H6
         try clear H7
         try clear H8
         try clear I3
         try clear I4
         try clear I5
         try clear I6
         try clear J1
         try clear J2
         try clear J3
         try clear J4
         try clear D4
         try clear D5
         try clear D6
         try clear D7
         try clear E2
         try clear E3
         try clear E4
         try clear E5
         try clear u7
         try clear u8
         try clear u9
         try clear v0
         try clear v5
         try clear v6
         try clear v7
         try clear v8
         try clear x3
         try clear x4
         try clear x5
         try clear x6
         try clear A9
         try clear B0
         try clear B1
         try clear B2
         try clear G2
         try clear G3
         try clear G4
         try clear G5
         try clear H0
         try clear H2
         try clear H3
         try clear H4
         try clear H9
         try clear I0
         try clear I1
         try clear I2
         try clear I7
         try clear I8
         try clear I9
         try clear J0
         try clear J5
         try clear J6
         try clear J7
         try clear J8
         try clear p2
         obtain ⟨I,e2,e0,d1,d0,rfl,HA,F4,f9,B,C,D,E,F,a8,HB⟩:=hrel;cases gk with
         | zero=>exact absurd HA.1 (by simp [norm_Gcd.l1])
         | succ k3 =>
          have H:=HA.1;clear HA;simp only [norm_Gcd.l1] at H
          by_cases c111:I < (Z.length:Int)
          ·
           rw [if_pos c111] at H;have c111b0:decide (I < (Z.length:Int))=true:=decide_eq_true c111;clear c111
           by_cases c112:0 ≤ I
           ·
            rw [if_pos c112] at H;have c112b0:decide (0 ≤ I)=true:=decide_eq_true c112;clear c112
            by_cases c113:I < (Z.length:Int)
            ·
             rw [if_pos c113] at H;have c113b0:decide (I < (Z.length:Int))=true:=decide_eq_true c113;clear c113;obtain ⟨o1,t8⟩:∃ y_:List (S67),y_=(([(⟨(rd_T67 Z I).f0,(rd_T67 Z I).f1,(rd_T67 Z I).f2,(rd_T67 Z I).f3⟩:S67),(⟨b3,b4,b5,b6⟩:S67)]:List (S67))):=⟨_,rfl⟩
             replace H:((norm_product.f k3 o1).bind fun o3=>((slices_Compare_int_int.f k3 [o3.1,o3.2.1,o3.2.2.1,o3.2.2.2] [e2,e0,d1,d0]).bind fun t0=>(if t0 > 0 then (norm_Gcd.l1 k3 Z (Z.length:Int) (wrap64 (I + 1)) b3 b4 b5 b6 o3.1 o3.2.1 o3.2.2.1 o3.2.2.2) else (norm_Gcd.l1 k3 Z (Z.length:Int) (wrap64 (I + 1)) b3 b4 b5 b6 e2 e0 d1 d0))))=some (r1,r2,r3,r4,r5):=by first|(rw [t8];with_reducible exact H)|(have y8:=(Option.bind_some _ _).symm.trans H;rw [t8];with_reducible exact y8)|(have y8:=(Option.bind_some _ _).symm.trans H;with_reducible exact y8)|with_reducible exact H|(rw [t8];exact H)|exact H
             have y7:=mk0 t8;clear t8;replace H:=Option.bind_eq_some_iff.mp H;obtain ⟨⟨e7,e9,f5,g0⟩,F5,H⟩:=H;(try dsimp only at H);have L8:=mk0 F5;clear F5;replace H:=Option.bind_eq_some_iff.mp H;obtain ⟨t0,F6,H⟩:=H;(try dsimp only at H);have L9:=mk0 F6;clear F6
             by_cases c116:t0 > 0
             ·
              rw [if_pos c116] at H;have c116b0:decide (0 < t0)=true:=decide_eq_true c116;clear c116;have H':=mk0 H;clear H;have t1:0 ≤ (I:Int):=of_decide_eq_true (by first|(with_reducible assumption)|assumption);have t2:I < (Z.length:Int):=of_decide_eq_true (by first|(with_reducible assumption)|assumption);obtain ⟨t9,E6,J9,L0,L1,L2⟩:=at_T67 (Kd.R_reads' f9.1).2.2 I t1 t2;cases E6;replace t1:=eq_true t1;replace t2:=eq_true t2;try go_wp2_with (first|((with_reducible refine gate_dst (N:=13) rfl ?_);refine box_event ?hg (N:=13) ?hd (cs:=#[.int .i64 0,.int .i64 0,.int .i64 0,.int .i64 0]) (t:=67) ?hr ?_;(case hd=>rfl);(case hg=>rfl);(case hr=>first|(go_simp;done)|(go_simp;rfl));intro g1 hg Rq b8 hb;have e1:=mk0 (b8);have B7:=szw hg HB;have n9:=B7;have m3:=nlt hg B;have q1:=ngt hg B;have m4:=nlt hg C;have q2:=ngt hg C;have m5:=nlt hg D;have q3:=ngt hg D;have i3:=nlt hg E;have q4:=ngt hg E;have i4:=nlt hg F;have q5:=ngt hg F;have i5:=nlt hg a8;have q6:=ngt hg a8;replace f9:=mk0 (Kd.R_below (Kd.R_elderB f9.1 g1 (Nat.le_of_eq hg.symm)) hb);replace B:=bkb B hb;replace C:=bkb C hb;replace D:=bkb D hb;replace E:=bkb E hb;replace F:=bkb F hb;replace a8:=bkb a8 hb;replace HB:=bst HB hb;clear hb b8 hg;have Iu:=q1.1;have Iv:=m3.1;have Iw:=q2.1;have Ix:=m4.1;have Iy:=q3.1;have Iz:=m5.1;have Ja:=q4.1;have Jb:=i3.1;have Jc:=q5.1;have Jd:=i4.1;have Je:=q6.1;have Jf:=i5.1;have Q1:=q0_ e1;have Q2:=q1_ e1;have Q3:=q2_ e1;have Q4:=q3_ e1;have Q5:=blk_frozen e1.1 0;have Q6:=blk_frozen e1.1 1;have Q7:=blk_frozen e1.1 2;have Q8:=blk_frozen e1.1 3;have Jg:=a5.1;have Jh:=J.1;have Ji:=a6.1;have Jj:=L.1;have Jk:=a2.1;have Jl:=a0.1;have Jm:=b1.1;have Jn:=U.1;have Jo:=i2.1;have Jp:=o2.1;have Q9:=q0_ E;have R0:=q1_ E;have R1:=q2_ E;have R2:=q3_ E;have R3:=blk_frozen E.1 0;have R4:=blk_frozen E.1 1;have R5:=blk_frozen E.1 2;have R6:=blk_frozen E.1 3)|((with_reducible refine gate_dst (N:=56) rfl ?_);refine Kd.R_lit k67 _ 67 ?hg (N:=56) ?hd (xs:=([(⟨(rd_T67 Z I).f0,(rd_T67 Z I).f1,(rd_T67 Z I).f2,(rd_T67 Z I).f3⟩:S67),(⟨b3,b4,b5,b6⟩:S67)]:List (S67))) (inner:=[.int .i64 ((rd_T67 Z I).f0),.int .i64 ((rd_T67 Z I).f1),.int .i64 ((rd_T67 Z I).f2),.int .i64 ((rd_T67 Z I).f3),.int .i64 b3,.int .i64 b4,.int .i64 b5,.int .i64 b6]) (ok:=fun _=>True) (okp:=fun _=>True) ?hr ?hp (fun _ hk=>hk) trivial (Below.refl _ _) (Nat.le_refl _) (by simp) ?_;(case hd=>rfl);(case hg=>rfl);(case hr=>first|(go_simp;done)|(go_simp;rfl));(case hp=>exact (Reps.c4 (show Kd.M k67 _ _ _ (⟨(rd_T67 Z I).f0,(rd_T67 Z I).f1,(rd_T67 Z I).f2,(rd_T67 Z I).f3⟩:S67) [.int .i64 ((rd_T67 Z I).f0),.int .i64 ((rd_T67 Z I).f1),.int .i64 ((rd_T67 Z I).f2),.int .i64 ((rd_T67 Z I).f3)] from (k67_mkM _ _ _ (⟨(rd_T67 Z I).f0,(rd_T67 Z I).f1,(rd_T67 Z I).f2,(rd_T67 Z I).f3⟩:S67) )) (Reps.c4 (show Kd.M k67 _ _ _ (⟨b3,b4,b5,b6⟩:S67) [.int .i64 b3,.int .i64 b4,.int .i64 b5,.int .i64 b6] from (k67_mkM _ _ _ (⟨b3,b4,b5,b6⟩:S67) )) (Reps.none _ _))));intro R7 Rr r9 hb hg_ o4;clear hg_ o4;(first|rw [← y7.1] at r9|(simp only [Int.reduceToNat] at r9;rw [← y7.1] at r9));have g4:=mk0 (Kd.R_lower (Kd.R_newB (Kd.R_newB (Kd.R_newB (Kd.R_newB (Kd.R_new' r9 (Kd.R_lt (by (with_reducible repeat (first|apply Kd.R_alloc|apply Kd.R_drewN|apply Kd.R_drew));exact (Kd.R_mono (Kd.R_far (p:=⟨g1,3,none⟩) (Kd.R_far (p:=⟨g1,2,none⟩) (Kd.R_far (p:=⟨g1,1,none⟩) (Kd.R_far (p:=⟨g1,0,none⟩) (Kd.R_mono f9.1 (fun k_ hk=>(⟨hk,hk.2⟩:_∧k_ ≠ g1))) (fun _ hk=>hk.2) (.int .i64 ((rd_T67 Z I).f0))) (fun _ hk=>hk.2) (.int .i64 ((rd_T67 Z I).f1))) (fun _ hk=>hk.2) (.int .i64 ((rd_T67 Z I).f2))) (fun _ hk=>hk.2) (.int .i64 ((rd_T67 Z I).f3))) (fun _ h_=>h_.1))))) (g:=Y) (o:=.cells #[.int .i64 b3,.int .i64 b4,.int .i64 b5,.int .i64 b6] 67 (0,0)) (by (iterate 4 refine blk_far ?_ i3.1 _);exact E.1)) (g:=b2) (o:=.cells #[.int .i64 e3,.int .i64 e4,.int .i64 e5,.int .i64 e6] 67 (0,0)) (by (iterate 4 refine blk_far ?_ i4.1 _);exact F.1)) (g:=g3) (o:=.cells #[.int .i64 e2,.int .i64 e0,.int .i64 d1,.int .i64 d0] 67 (0,0)) (by (iterate 4 refine blk_far ?_ i5.1 _);exact a8.1)) (g:=g1) (o:=.cells #[.int .i64 ((rd_T67 Z I).f0),.int .i64 ((rd_T67 Z I).f1),.int .i64 ((rd_T67 Z I).f2),.int .i64 ((rd_T67 Z I).f3)] 67 (0,0)) (by refine blk_put (cs:=#[.int .i64 ((rd_T67 Z I).f0),.int .i64 ((rd_T67 Z I).f1),.int .i64 ((rd_T67 Z I).f2),.int .i64 0]) ?_ 3 _ rfl;refine blk_put (cs:=#[.int .i64 ((rd_T67 Z I).f0),.int .i64 ((rd_T67 Z I).f1),.int .i64 0,.int .i64 0]) ?_ 2 _ rfl;refine blk_put (cs:=#[.int .i64 ((rd_T67 Z I).f0),.int .i64 0,.int .i64 0,.int .i64 0]) ?_ 1 _ rfl;refine blk_put (cs:=#[.int .i64 0,.int .i64 0,.int .i64 0,.int .i64 0]) ?_ 0 _ rfl;exact e1.1)) (below_size (by repeat (with_reducible first|exact HB.1|refine below_set ?_ h1.1|refine below_set ?_ h2.1|refine below_set ?_ h3.1|refine below_set ?_ c0.1|refine below_set ?_ c2.1|refine below_set ?_ i7.1|refine below_set ?_ n9.1))));replace f9:=mk0 (Kd.R_elder' (by (with_reducible repeat (first|apply Kd.R_alloc|apply Kd.R_drewN|apply Kd.R_drew));exact (Kd.R_mono (Kd.R_far (p:=⟨g1,3,none⟩) (Kd.R_far (p:=⟨g1,2,none⟩) (Kd.R_far (p:=⟨g1,1,none⟩) (Kd.R_far (p:=⟨g1,0,none⟩) (Kd.R_mono f9.1 (fun k_ hk=>(⟨hk,hk.2⟩:_∧k_ ≠ g1))) (fun _ hk=>hk.2) (.int .i64 ((rd_T67 Z I).f0))) (fun _ hk=>hk.2) (.int .i64 ((rd_T67 Z I).f1))) (fun _ hk=>hk.2) (.int .i64 ((rd_T67 Z I).f2))) (fun _ hk=>hk.2) (.int .i64 ((rd_T67 Z I).f3))) (fun _ h_=>h_.1))) (Kd.R_base r9) hb);replace B:=mk0 (blk_below (g:=V) (o:=.cells #[.int .i64 d2,.int .i64 d3,.int .i64 d4,.int .i64 d5] 23 (0,0)) (by (iterate 4 refine blk_far ?_ m3.1 _);exact B.1) hb);replace C:=mk0 (blk_below (g:=X) (o:=.cells #[.int .i64 d6,.int .i64 d7,.int .i64 d8,.int .i64 d9] 23 (0,0)) (by (iterate 4 refine blk_far ?_ m4.1 _);exact C.1) hb);replace D:=mk0 (blk_below (g:=b7) (o:=.cells #[.int .i64 0,.int .i64 0,.int .i64 0,.int .i64 0] 23 (0,0)) (by (iterate 4 refine blk_far ?_ m5.1 _);exact D.1) hb);replace E:=mk0 (blk_below (g:=Y) (o:=.cells #[.int .i64 b3,.int .i64 b4,.int .i64 b5,.int .i64 b6] 67 (0,0)) (by (iterate 4 refine blk_far ?_ i3.1 _);exact E.1) hb);replace F:=mk0 (blk_below (g:=b2) (o:=.cells #[.int .i64 e3,.int .i64 e4,.int .i64 e5,.int .i64 e6] 67 (0,0)) (by (iterate 4 refine blk_far ?_ i4.1 _);exact F.1) hb);replace a8:=mk0 (blk_below (g:=g3) (o:=.cells #[.int .i64 e2,.int .i64 e0,.int .i64 d1,.int .i64 d0] 67 (0,0)) (by (iterate 4 refine blk_far ?_ i5.1 _);exact a8.1) hb);replace e1:=mk0 (blk_below (g:=g1) (o:=.cells #[.int .i64 ((rd_T67 Z I).f0),.int .i64 ((rd_T67 Z I).f1),.int .i64 ((rd_T67 Z I).f2),.int .i64 ((rd_T67 Z I).f3)] 67 (0,0)) (by refine blk_put (cs:=#[.int .i64 ((rd_T67 Z I).f0),.int .i64 ((rd_T67 Z I).f1),.int .i64 ((rd_T67 Z I).f2),.int .i64 0]) ?_ 3 _ rfl;refine blk_put (cs:=#[.int .i64 ((rd_T67 Z I).f0),.int .i64 ((rd_T67 Z I).f1),.int .i64 0,.int .i64 0]) ?_ 2 _ rfl;refine blk_put (cs:=#[.int .i64 ((rd_T67 Z I).f0),.int .i64 0,.int .i64 0,.int .i64 0]) ?_ 1 _ rfl;refine blk_put (cs:=#[.int .i64 0,.int .i64 0,.int .i64 0,.int .i64 0]) ?_ 0 _ rfl;exact e1.1) hb);replace HB:=mk0 (below_step (by repeat (with_reducible first|exact HB.1|refine below_set ?_ h1.1|refine below_set ?_ h2.1|refine below_set ?_ h3.1|refine below_set ?_ c0.1|refine below_set ?_ c2.1|refine below_set ?_ i7.1|refine below_set ?_ n9.1)) hb);clear hb r9;obtain ⟨B8,B9,M9⟩:=Kd.R_slice g4.1;subst M9)|((with_reducible refine gate_callee (f:=54) rfl ?_);refine goesL_ (some 57) rfl rfl Try.func54 (by kernel_rfl) rfl #[.slice B8 o1.length B9] rfl (by (try simp only [m0_,m1_,m2_]);first|done|rfl|(simp only [l0_,l1_];rfl)) ?_;(with_reducible refine (norm_product.calls k3 _ _ o1 e7 e9 f5 g0 _ ?side1 ?side2 L8.1).mono ?_);(case side1=>repeat (first|exact (Kd.R_reads' g4.1).2.2|(with_reducible refine Kd.C_alloc ?_ _)|(with_reducible refine Kd.C_drewN ?_ _)|(with_reducible refine Kd.C_drew ?_)));(case side2=>exact (Kd.R_reads' g4.1).2.1);rintro e Rs ⟨rfl,hb⟩;refine ⟨_,rfl,?_⟩;replace f9:=rbl f9 hb;replace g4:=rbl g4 hb;replace B:=bkb B hb;replace C:=bkb C hb;replace D:=bkb D hb;replace E:=bkb E hb;replace F:=bkb F hb;replace a8:=bkb a8 hb;replace e1:=bkb e1 hb;replace HB:=bst HB hb;(try clear hb);(try clear hk))|((with_reducible refine gate_dst (N:=14) rfl ?_);refine box_event ?hg (N:=14) ?hd (cs:=#[.int .i64 0,.int .i64 0,.int .i64 0,.int .i64 0]) (t:=67) ?hr ?_;(case hd=>rfl);(case hg=>rfl);(case hr=>first|(go_simp;done)|(go_simp;rfl));intro G hg n6 b8 hb;have b9:=mk0 (b8);have C0:=szw hg HB;have u0:=C0;have m6:=nlt hg B;have q7:=ngt hg B;have m7:=nlt hg C;have q8:=ngt hg C;have m8:=nlt hg D;have q9:=ngt hg D;have m9:=nlt hg E;have r0:=ngt hg E;have n0:=nlt hg F;have r6:=ngt hg F;have n1:=nlt hg a8;have r7:=ngt hg a8;have n2:=nlt hg e1;have r8:=ngt hg e1;replace f9:=mk0 (Kd.R_below (Kd.R_elderB f9.1 G (Nat.le_of_eq hg.symm)) hb);replace g4:=mk0 (Kd.R_below (Kd.R_elderB g4.1 G (Nat.le_of_eq hg.symm)) hb);replace B:=bkb B hb;replace C:=bkb C hb;replace D:=bkb D hb;replace E:=bkb E hb;replace F:=bkb F hb;replace a8:=bkb a8 hb;replace e1:=bkb e1 hb;replace HB:=bst HB hb;clear hb b8 hg;have Jq:=q7.1;have Jr:=m6.1;have Js:=q8.1;have Jt:=m7.1;have Ju:=q9.1;have Jv:=m8.1;have Jw:=r0.1;have Jx:=m9.1;have Jy:=r6.1;have Jz:=n0.1;have Ka:=r7.1;have Kb:=n1.1;have Kc:=r8.1;have Ke:=n2.1;have R8:=q0_ b9;have R9:=q1_ b9;have T0:=q2_ b9;have T1:=q3_ b9;have T2:=blk_frozen b9.1 0;have T3:=blk_frozen b9.1 1;have T4:=blk_frozen b9.1 2;have T5:=blk_frozen b9.1 3))
              have o8:Aside0 (Kd.R k67 67 ((((n6.setCell ⟨G,0,none⟩ (.int .i64 e7)).setCell ⟨G,1,none⟩ (.int .i64 e9)).setCell ⟨G,2,none⟩ (.int .i64 f5)).setCell ⟨G,3,none⟩ (.int .i64 g0)) w.heap.size (fun k_=>some k_ ≠ (.slice B8 o1.length B9:Value).ownBlock∧k_ ≠ Y∧k_ ≠ b2∧k_ ≠ g3∧k_ ≠ g1∧k_ ≠ G) (.slice (some t9) Z.length t7) Z):=⟨by (with_reducible repeat (first|apply Kd.R_alloc|apply Kd.R_drewN|apply Kd.R_drew));exact Kd.R_mono (Kd.R_far (p:=⟨G,3,none⟩) (Kd.R_far (p:=⟨G,2,none⟩) (Kd.R_far (p:=⟨G,1,none⟩) (Kd.R_far (p:=⟨G,0,none⟩) (Kd.R_mono f9.1 (fun k_ hk=>(⟨hk,hk.2⟩:_∧k_ ≠ G))) (fun _ hk=>hk.2) (.int .i64 e7)) (fun _ hk=>hk.2) (.int .i64 e9)) (fun _ hk=>hk.2) (.int .i64 f5)) (fun _ hk=>hk.2) (.int .i64 g0)) (fun _ hk=>⟨hk.1.1.2,⟨hk.1.1.1.1.1,⟨hk.1.1.1.1.2.1,⟨hk.1.1.1.1.2.2,⟨hk.1.1.1.2,hk.1.2⟩⟩⟩⟩⟩)⟩
              have o9:Aside0 (Kd.R k67 67 ((((n6.setCell ⟨G,0,none⟩ (.int .i64 e7)).setCell ⟨G,1,none⟩ (.int .i64 e9)).setCell ⟨G,2,none⟩ (.int .i64 f5)).setCell ⟨G,3,none⟩ (.int .i64 g0)) w.heap.size (fun k_=>some k_ ≠ (.slice (some t9) Z.length t7:Value).ownBlock∧k_ ≠ Y∧k_ ≠ b2∧k_ ≠ g3∧k_ ≠ g1∧k_ ≠ G) (.slice B8 o1.length B9) o1):=⟨by (with_reducible repeat (first|apply Kd.R_alloc|apply Kd.R_drewN|apply Kd.R_drew));exact Kd.R_mono (Kd.R_far (p:=⟨G,3,none⟩) (Kd.R_far (p:=⟨G,2,none⟩) (Kd.R_far (p:=⟨G,1,none⟩) (Kd.R_far (p:=⟨G,0,none⟩) (Kd.R_mono g4.1 (fun k_ hk=>(⟨hk,hk.2⟩:_∧k_ ≠ G))) (fun _ hk=>hk.2) (.int .i64 e7)) (fun _ hk=>hk.2) (.int .i64 e9)) (fun _ hk=>hk.2) (.int .i64 f5)) (fun _ hk=>hk.2) (.int .i64 g0)) (fun _ hk=>⟨hk.1.1.1.1.1.1.2,⟨hk.1.1.1.1.1.2,⟨hk.1.1.1.1.2,⟨hk.1.1.1.2,⟨hk.1.1.2,hk.1.2⟩⟩⟩⟩⟩)⟩
              have p0:Aside0 (((((n6.setCell ⟨G,0,none⟩ (.int .i64 e7)).setCell ⟨G,1,none⟩ (.int .i64 e9)).setCell ⟨G,2,none⟩ (.int .i64 f5)).setCell ⟨G,3,none⟩ (.int .i64 g0)).heap[V]?=some (.cells #[.int .i64 d2,.int .i64 d3,.int .i64 d4,.int .i64 d5] 23 (0,0))):=⟨by (iterate 4 refine blk_far ?_ m6.1 _);exact B.1⟩
              have p1:Aside0 (((((n6.setCell ⟨G,0,none⟩ (.int .i64 e7)).setCell ⟨G,1,none⟩ (.int .i64 e9)).setCell ⟨G,2,none⟩ (.int .i64 f5)).setCell ⟨G,3,none⟩ (.int .i64 g0)).heap[X]?=some (.cells #[.int .i64 d6,.int .i64 d7,.int .i64 d8,.int .i64 d9] 23 (0,0))):=⟨by (iterate 4 refine blk_far ?_ m7.1 _);exact C.1⟩
              have p3:Aside0 (((((n6.setCell ⟨G,0,none⟩ (.int .i64 e7)).setCell ⟨G,1,none⟩ (.int .i64 e9)).setCell ⟨G,2,none⟩ (.int .i64 f5)).setCell ⟨G,3,none⟩ (.int .i64 g0)).heap[b7]?=some (.cells #[.int .i64 0,.int .i64 0,.int .i64 0,.int .i64 0] 23 (0,0))):=⟨by (iterate 4 refine blk_far ?_ m8.1 _);exact D.1⟩
              have p4:Aside0 (((((n6.setCell ⟨G,0,none⟩ (.int .i64 e7)).setCell ⟨G,1,none⟩ (.int .i64 e9)).setCell ⟨G,2,none⟩ (.int .i64 f5)).setCell ⟨G,3,none⟩ (.int .i64 g0)).heap[Y]?=some (.cells #[.int .i64 b3,.int .i64 b4,.int .i64 b5,.int .i64 b6] 67 (0,0))):=⟨by (iterate 4 refine blk_far ?_ m9.1 _);exact E.1⟩
              have p5:Aside0 (((((n6.setCell ⟨G,0,none⟩ (.int .i64 e7)).setCell ⟨G,1,none⟩ (.int .i64 e9)).setCell ⟨G,2,none⟩ (.int .i64 f5)).setCell ⟨G,3,none⟩ (.int .i64 g0)).heap[b2]?=some (.cells #[.int .i64 e3,.int .i64 e4,.int .i64 e5,.int .i64 e6] 67 (0,0))):=⟨by (iterate 4 refine blk_far ?_ n0.1 _);exact F.1⟩
              have p6:Aside0 (((((n6.setCell ⟨G,0,none⟩ (.int .i64 e7)).setCell ⟨G,1,none⟩ (.int .i64 e9)).setCell ⟨G,2,none⟩ (.int .i64 f5)).setCell ⟨G,3,none⟩ (.int .i64 g0)).heap[g3]?=some (.cells #[.int .i64 e2,.int .i64 e0,.int .i64 d1,.int .i64 d0] 67 (0,0))):=⟨by (iterate 4 refine blk_far ?_ n1.1 _);exact a8.1⟩
              have z0:Aside0 (((((n6.setCell ⟨G,0,none⟩ (.int .i64 e7)).setCell ⟨G,1,none⟩ (.int .i64 e9)).setCell ⟨G,2,none⟩ (.int .i64 f5)).setCell ⟨G,3,none⟩ (.int .i64 g0)).heap[g1]?=some (.cells #[.int .i64 ((rd_T67 Z I).f0),.int .i64 ((rd_T67 Z I).f1),.int .i64 ((rd_T67 Z I).f2),.int .i64 ((rd_T67 Z I).f3)] 67 (0,0))):=⟨by (iterate 4 refine blk_far ?_ n2.1 _);exact e1.1⟩
              have z1:Aside0 (((((n6.setCell ⟨G,0,none⟩ (.int .i64 e7)).setCell ⟨G,1,none⟩ (.int .i64 e9)).setCell ⟨G,2,none⟩ (.int .i64 f5)).setCell ⟨G,3,none⟩ (.int .i64 g0)).heap[G]?=some (.cells #[.int .i64 e7,.int .i64 e9,.int .i64 f5,.int .i64 g0] 67 (0,0))):=⟨by refine blk_put (cs:=#[.int .i64 e7,.int .i64 e9,.int .i64 f5,.int .i64 0]) ?_ 3 _ rfl;refine blk_put (cs:=#[.int .i64 e7,.int .i64 e9,.int .i64 0,.int .i64 0]) ?_ 2 _ rfl;refine blk_put (cs:=#[.int .i64 e7,.int .i64 0,.int .i64 0,.int .i64 0]) ?_ 1 _ rfl;refine blk_put (cs:=#[.int .i64 0,.int .i64 0,.int .i64 0,.int .i64 0]) ?_ 0 _ rfl;exact b9.1⟩
              have t3:Aside0 (Below w.heap.size w ((((n6.setCell ⟨G,0,none⟩ (.int .i64 e7)).setCell ⟨G,1,none⟩ (.int .i64 e9)).setCell ⟨G,2,none⟩ (.int .i64 f5)).setCell ⟨G,3,none⟩ (.int .i64 g0))):=⟨by repeat (first|(with_reducible first|exact HB.1|apply below_alloc|apply pw_below_drewN|apply below_drew1|refine below_set ?_ h1.1|refine below_set ?_ h2.1|refine below_set ?_ h3.1|refine below_set ?_ c0.1|refine below_set ?_ c2.1|refine below_set ?_ i7.1|refine below_set ?_ n9.1|refine below_set ?_ u0.1)|exact HB.1)⟩
              (try clear f9);(try clear g4);(try clear B);(try clear C);(try clear D);(try clear E);(try clear F);(try clear a8);(try clear e1);(try clear b9);(try clear HB);generalize ((((n6.setCell ⟨G,0,none⟩ (.int .i64 e7)).setCell ⟨G,1,none⟩ (.int .i64 e9)).setCell ⟨G,2,none⟩ (.int .i64 f5)).setCell ⟨G,3,none⟩ (.int .i64 g0))=T6 at o8 o9 p0 p1 p3 p4 p5 p6 z0 z1 t3 ⊢;have f9:=o8;have g4:=o9;have B:=p0;have C:=p1;have D:=p3;have E:=p4;have F:=p5;have a8:=p6;have e1:=z0;have b9:=z1;have HB:=t3;clear o8 o9 p0 p1 p3 p4 p5 p6 z0 z1 t3;replace f9:=rdr f9;replace g4:=rdr g4;replace B:=bdr B;replace C:=bdr C;replace D:=bdr D;replace E:=bdr E;replace F:=bdr F;replace a8:=bdr a8;replace e1:=bdr e1;replace b9:=bdr b9;replace HB:=hdr HB;refine start_ (n:=4) (S:=fun w'=>w'.cell? ⟨G,0,none⟩=some (.int .i64 e7)∧w'.cell? ⟨G,1,none⟩=some (.int .i64 e9)∧w'.cell? ⟨G,2,none⟩=some (.int .i64 f5)∧w'.cell? ⟨G,3,none⟩=some (.int .i64 g0)∧w'.cell? ⟨g3,0,none⟩=some (.int .i64 e2)∧w'.cell? ⟨g3,1,none⟩=some (.int .i64 e0)∧w'.cell? ⟨g3,2,none⟩=some (.int .i64 d1)∧w'.cell? ⟨g3,3,none⟩=some (.int .i64 d0)) (ds:=[]) #[n_,n_,n_,n_] (by kernel_rfl) rfl rfl ⟨q0_ b9,q1_ b9,q2_ b9,q3_ b9,q0_ a8,q1_ a8,q2_ a8,q3_ a8⟩ (fun a4=>?_);generalize T6.drew=Rt at f9 g4 B C D E F a8 e1 b9 HB a4 ⊢;refine pure_ (i:=0) (N:=some 58) (v:=?_) (a':=?_) #[y_,n_,n_,n_] rfl rfl (by kernel_rfl) (fun _ _ _ h=>h) (Or.inl ⟨by rfl,?_⟩) ?_ ?_;rotate_left
              ·
               intro w';go_simp;with_reducible rfl
              rotate_left
              ·
               simp only [Act.put,s0_,s1_,s2_,i64_w,i32_w];rfl
              refine pure_ (i:=1) (N:=some 59) (v:=?_) (a':=?_) #[y_,y_,n_,n_] rfl rfl (by kernel_rfl) (fun _ _ _ h=>h) (Or.inl ⟨by rfl,?_⟩) ?_ ?_;rotate_left
              ·
               intro w';go_simp;with_reducible rfl
              rotate_left
              ·
               simp only [Act.put,s0_,s1_,s2_,i64_w,i32_w];rfl
              refine one_ (i:=2) (N:=some 60) #[y_,y_,y_,n_] rfl rfl (by kernel_rfl) (by decide) (fun K hK=>?_);refine goes_ Try.func55 (by kernel_rfl) rfl #[.slice (some ⟨G,0,none⟩) [e7,e9,f5,g0].length 4,.slice (some ⟨g3,0,none⟩) [e2,e0,d1,d0].length 4] (by rfl) rfl rfl (by (try simp only [m0_,m1_,m2_]);first|done|(rw [show [e7,e9,f5,g0].length=4 from rfl,show [e2,e0,d1,d0].length=4 from rfl] <;> rfl)|rfl|(simp only [l0_,l1_];rfl)) ?_;with_reducible refine (slices_Compare_int_int.calls k3 _ _ [e7,e9,f5,g0] _ _ [e2,e0,d1,d0] t0 _ ?side1 ?side2 ?side3 ?side4 L9.1).mono ?_
              (case side1=>exact Go.Proofs.MyWords.C_box (t:=67) (cs:=#[.int .i64 e7,.int .i64 e9,.int .i64 f5,.int .i64 g0]) b9.1 (by rfl) (Nat.le_of_ble_eq_true rfl));(case side2=>exact Nat.le_refl _);(case side3=>exact Go.Proofs.MyWords.C_box (t:=67) (cs:=#[.int .i64 e2,.int .i64 e0,.int .i64 d1,.int .i64 d0]) a8.1 (by rfl) (Nat.le_of_ble_eq_true rfl));(case side4=>exact Nat.le_refl _);rintro e w' ⟨rfl,⟨nd,rfl⟩⟩;refine ⟨_,rfl,?_⟩;refine hK.out _ _ ⟨q0_ b9,q1_ b9,q2_ b9,q3_ b9,q0_ a8,q1_ a8,q2_ a8,q3_ a8⟩ (fun a4=>?_);clear hK K;refine norm_ (a':=?_) ?_ ?_;rotate_left
              ·
               show Act.put _ (some 60) _=_;simp only [Act.put,s0_,s1_,s2_,i64_w,i32_w];rfl
              refine pure_ (i:=3) (N:=some 61) (v:=?_) (a':=?_) #[y_,y_,y_,y_] rfl rfl (by kernel_rfl) (fun _ _ _ h=>h) (Or.inl ⟨by rfl,?_⟩) ?_ ?_;rotate_left
              ·
               intro w';go_simp;with_reducible rfl
              rotate_left
              ·
               simp only [Act.put,s0_,s1_,s2_,i64_w,i32_w];rfl
              refine done_ (by kernel_rfl) ?_;have T7:=q0_ b9;have T8:=q1_ b9;have T9:=q2_ b9;have U0:=q3_ b9;have U1:=blk_frozen b9.1 0;have U2:=blk_frozen b9.1 1;have U3:=blk_frozen b9.1 2;have U4:=blk_frozen b9.1 3;have Kf:=p7.1;have Kg:=m0.1;have Kh:=p8.1;have Ki:=m1.1;have Kj:=p9.1;have Kk:=m2.1;have Kl:=q0.1;have Km:=j5.1;have U5:=q0_ a8;have U6:=q1_ a8;have U7:=q2_ a8;have U8:=q3_ a8;have U9:=blk_frozen a8.1 0;have V0:=blk_frozen a8.1 1;have V1:=blk_frozen a8.1 2;have V2:=blk_frozen a8.1 3;try go_wp2
              go_roundg k3
              case measure=>have:=A0.1;have:=B3.1;have:=F4.1;omega
              case rel=>exact ⟨(wrap64 (I + 1)),(e7),(e9),(f5),(g0),(by first|rfl|(simp;done)|(simp [*];done)),H',⟨by have:=A0.1;have:=B3.1;have:=F4.1;omega⟩,⟨by (with_reducible repeat (first|apply Kd.R_alloc|apply Kd.R_drewN|apply Kd.R_drew));exact Kd.R_mono (Kd.R_far (p:=⟨g3,3,none⟩) (Kd.R_far (p:=⟨g3,2,none⟩) (Kd.R_far (p:=⟨g3,1,none⟩) (Kd.R_far (p:=⟨g3,0,none⟩) (Kd.R_mono f9.1 (fun k_ hk=>(⟨hk,hk.2.2.2.1⟩:_∧k_ ≠ g3))) (fun _ hk=>hk.2) (.int .i64 e7)) (fun _ hk=>hk.2) (.int .i64 e9)) (fun _ hk=>hk.2) (.int .i64 f5)) (fun _ hk=>hk.2) (.int .i64 g0)) (fun _ hk=>⟨hk.1.2.1,⟨hk.1.2.2.1,hk.1.2.2.2.1⟩⟩)⟩,⟨by (iterate 4 refine blk_far ?_ m0.1 _);exact B.1⟩,⟨by (iterate 4 refine blk_far ?_ m1.1 _);exact C.1⟩,⟨by (iterate 4 refine blk_far ?_ m2.1 _);exact D.1⟩,⟨by (iterate 4 refine blk_far ?_ i2.1 _);exact E.1⟩,⟨by (iterate 4 refine blk_far ?_ j5.1 _);exact F.1⟩,⟨by refine blk_put (cs:=#[.int .i64 e7,.int .i64 e9,.int .i64 f5,.int .i64 d0]) ?_ 3 _ rfl;refine blk_put (cs:=#[.int .i64 e7,.int .i64 e9,.int .i64 d1,.int .i64 d0]) ?_ 2 _ rfl;refine blk_put (cs:=#[.int .i64 e7,.int .i64 e0,.int .i64 d1,.int .i64 d0]) ?_ 1 _ rfl;refine blk_put (cs:=#[.int .i64 e2,.int .i64 e0,.int .i64 d1,.int .i64 d0]) ?_ 0 _ rfl;exact a8.1⟩,⟨by repeat (first|(with_reducible first|exact HB.1|apply below_alloc|apply pw_below_drewN|apply below_drew1|refine below_set ?_ h1.1|refine below_set ?_ h2.1|refine below_set ?_ h3.1|refine below_set ?_ c0.1|refine below_set ?_ c2.1|refine below_set ?_ i7.1|refine below_set ?_ n9.1|refine below_set ?_ u0.1)|exact HB.1)⟩⟩
             ·
              rw [if_neg c116] at H;have c116b0:decide (0 < t0)=false:=decide_eq_false c116;clear c116;have H':=mk0 H;clear H;have t1:0 ≤ (I:Int):=of_decide_eq_true (by first|(with_reducible assumption)|assumption);have t2:I < (Z.length:Int):=of_decide_eq_true (by first|(with_reducible assumption)|assumption);obtain ⟨t9,E6,J9,L0,L1,L2⟩:=at_T67 (Kd.R_reads' f9.1).2.2 I t1 t2;cases E6;replace t1:=eq_true t1;replace t2:=eq_true t2;try go_wp2_with (first|((with_reducible refine gate_dst (N:=13) rfl ?_);refine box_event ?hg (N:=13) ?hd (cs:=#[.int .i64 0,.int .i64 0,.int .i64 0,.int .i64 0]) (t:=67) ?hr ?_;(case hd=>rfl);(case hg=>rfl);(case hr=>first|(go_simp;done)|(go_simp;rfl));intro g1 hg Ru b8 hb;have e1:=mk0 (b8);have B7:=szw hg HB;have n9:=B7;have m3:=nlt hg B;have q1:=ngt hg B;have m4:=nlt hg C;have q2:=ngt hg C;have m5:=nlt hg D;have q3:=ngt hg D;have i3:=nlt hg E;have q4:=ngt hg E;have i4:=nlt hg F;have q5:=ngt hg F;have i5:=nlt hg a8;have q6:=ngt hg a8;replace f9:=mk0 (Kd.R_below (Kd.R_elderB f9.1 g1 (Nat.le_of_eq hg.symm)) hb);replace B:=bkb B hb;replace C:=bkb C hb;replace D:=bkb D hb;replace E:=bkb E hb;replace F:=bkb F hb;replace a8:=bkb a8 hb;replace HB:=bst HB hb;clear hb b8 hg;have Kn:=q1.1;have Ko:=m3.1;have Kp:=q2.1;have Kq:=m4.1;have Kr:=q3.1;have Ks:=m5.1;have Kt:=q4.1;have Ku:=i3.1;have Kv:=q5.1;have Kw:=i4.1;have Kx:=q6.1;have Ky:=i5.1;have V3:=q0_ e1;have V4:=q1_ e1;have V5:=q2_ e1;have V6:=q3_ e1;have V7:=blk_frozen e1.1 0;have V8:=blk_frozen e1.1 1;have V9:=blk_frozen e1.1 2;have X0:=blk_frozen e1.1 3;have Kz:=a5.1;have La:=J.1;have Lb:=a6.1;have Lc:=L.1;have Ld:=a2.1;have Le:=a0.1;have Lf:=b1.1;have Lg:=U.1;have Lh:=i2.1;have Li:=o2.1;have X1:=q0_ E;have X2:=q1_ E;have X3:=q2_ E;have X4:=q3_ E;have X5:=blk_frozen E.1 0;have X6:=blk_frozen E.1 1;have X7:=blk_frozen E.1 2;have X8:=blk_frozen E.1 3)|((with_reducible refine gate_dst (N:=56) rfl ?_);refine Kd.R_lit k67 _ 67 ?hg (N:=56) ?hd (xs:=([(⟨(rd_T67 Z I).f0,(rd_T67 Z I).f1,(rd_T67 Z I).f2,(rd_T67 Z I).f3⟩:S67),(⟨b3,b4,b5,b6⟩:S67)]:List (S67))) (inner:=[.int .i64 ((rd_T67 Z I).f0),.int .i64 ((rd_T67 Z I).f1),.int .i64 ((rd_T67 Z I).f2),.int .i64 ((rd_T67 Z I).f3),.int .i64 b3,.int .i64 b4,.int .i64 b5,.int .i64 b6]) (ok:=fun _=>True) (okp:=fun _=>True) ?hr ?hp (fun _ hk=>hk) trivial (Below.refl _ _) (Nat.le_refl _) (by simp) ?_;(case hd=>rfl);(case hg=>rfl);(case hr=>first|(go_simp;done)|(go_simp;rfl));(case hp=>exact (Reps.c4 (show Kd.M k67 _ _ _ (⟨(rd_T67 Z I).f0,(rd_T67 Z I).f1,(rd_T67 Z I).f2,(rd_T67 Z I).f3⟩:S67) [.int .i64 ((rd_T67 Z I).f0),.int .i64 ((rd_T67 Z I).f1),.int .i64 ((rd_T67 Z I).f2),.int .i64 ((rd_T67 Z I).f3)] from (k67_mkM _ _ _ (⟨(rd_T67 Z I).f0,(rd_T67 Z I).f1,(rd_T67 Z I).f2,(rd_T67 Z I).f3⟩:S67) )) (Reps.c4 (show Kd.M k67 _ _ _ (⟨b3,b4,b5,b6⟩:S67) [.int .i64 b3,.int .i64 b4,.int .i64 b5,.int .i64 b6] from (k67_mkM _ _ _ (⟨b3,b4,b5,b6⟩:S67) )) (Reps.none _ _))));intro R7 Rv s8 hb hg_ o4;clear hg_ o4;(first|rw [← y7.1] at s8|(simp only [Int.reduceToNat] at s8;rw [← y7.1] at s8));have g4:=mk0 (Kd.R_lower (Kd.R_newB (Kd.R_newB (Kd.R_newB (Kd.R_newB (Kd.R_new' s8 (Kd.R_lt (by (with_reducible repeat (first|apply Kd.R_alloc|apply Kd.R_drewN|apply Kd.R_drew));exact (Kd.R_mono (Kd.R_far (p:=⟨g1,3,none⟩) (Kd.R_far (p:=⟨g1,2,none⟩) (Kd.R_far (p:=⟨g1,1,none⟩) (Kd.R_far (p:=⟨g1,0,none⟩) (Kd.R_mono f9.1 (fun k_ hk=>(⟨hk,hk.2⟩:_∧k_ ≠ g1))) (fun _ hk=>hk.2) (.int .i64 ((rd_T67 Z I).f0))) (fun _ hk=>hk.2) (.int .i64 ((rd_T67 Z I).f1))) (fun _ hk=>hk.2) (.int .i64 ((rd_T67 Z I).f2))) (fun _ hk=>hk.2) (.int .i64 ((rd_T67 Z I).f3))) (fun _ h_=>h_.1))))) (g:=Y) (o:=.cells #[.int .i64 b3,.int .i64 b4,.int .i64 b5,.int .i64 b6] 67 (0,0)) (by (iterate 4 refine blk_far ?_ i3.1 _);exact E.1)) (g:=b2) (o:=.cells #[.int .i64 e3,.int .i64 e4,.int .i64 e5,.int .i64 e6] 67 (0,0)) (by (iterate 4 refine blk_far ?_ i4.1 _);exact F.1)) (g:=g3) (o:=.cells #[.int .i64 e2,.int .i64 e0,.int .i64 d1,.int .i64 d0] 67 (0,0)) (by (iterate 4 refine blk_far ?_ i5.1 _);exact a8.1)) (g:=g1) (o:=.cells #[.int .i64 ((rd_T67 Z I).f0),.int .i64 ((rd_T67 Z I).f1),.int .i64 ((rd_T67 Z I).f2),.int .i64 ((rd_T67 Z I).f3)] 67 (0,0)) (by refine blk_put (cs:=#[.int .i64 ((rd_T67 Z I).f0),.int .i64 ((rd_T67 Z I).f1),.int .i64 ((rd_T67 Z I).f2),.int .i64 0]) ?_ 3 _ rfl;refine blk_put (cs:=#[.int .i64 ((rd_T67 Z I).f0),.int .i64 ((rd_T67 Z I).f1),.int .i64 0,.int .i64 0]) ?_ 2 _ rfl;refine blk_put (cs:=#[.int .i64 ((rd_T67 Z I).f0),.int .i64 0,.int .i64 0,.int .i64 0]) ?_ 1 _ rfl;refine blk_put (cs:=#[.int .i64 0,.int .i64 0,.int .i64 0,.int .i64 0]) ?_ 0 _ rfl;exact e1.1)) (below_size (by repeat (with_reducible first|exact HB.1|refine below_set ?_ h1.1|refine below_set ?_ h2.1|refine below_set ?_ h3.1|refine below_set ?_ c0.1|refine below_set ?_ c2.1|refine below_set ?_ i7.1|refine below_set ?_ n9.1))));replace f9:=mk0 (Kd.R_elder' (by (with_reducible repeat (first|apply Kd.R_alloc|apply Kd.R_drewN|apply Kd.R_drew));exact (Kd.R_mono (Kd.R_far (p:=⟨g1,3,none⟩) (Kd.R_far (p:=⟨g1,2,none⟩) (Kd.R_far (p:=⟨g1,1,none⟩) (Kd.R_far (p:=⟨g1,0,none⟩) (Kd.R_mono f9.1 (fun k_ hk=>(⟨hk,hk.2⟩:_∧k_ ≠ g1))) (fun _ hk=>hk.2) (.int .i64 ((rd_T67 Z I).f0))) (fun _ hk=>hk.2) (.int .i64 ((rd_T67 Z I).f1))) (fun _ hk=>hk.2) (.int .i64 ((rd_T67 Z I).f2))) (fun _ hk=>hk.2) (.int .i64 ((rd_T67 Z I).f3))) (fun _ h_=>h_.1))) (Kd.R_base s8) hb);replace B:=mk0 (blk_below (g:=V) (o:=.cells #[.int .i64 d2,.int .i64 d3,.int .i64 d4,.int .i64 d5] 23 (0,0)) (by (iterate 4 refine blk_far ?_ m3.1 _);exact B.1) hb);replace C:=mk0 (blk_below (g:=X) (o:=.cells #[.int .i64 d6,.int .i64 d7,.int .i64 d8,.int .i64 d9] 23 (0,0)) (by (iterate 4 refine blk_far ?_ m4.1 _);exact C.1) hb);replace D:=mk0 (blk_below (g:=b7) (o:=.cells #[.int .i64 0,.int .i64 0,.int .i64 0,.int .i64 0] 23 (0,0)) (by (iterate 4 refine blk_far ?_ m5.1 _);exact D.1) hb);replace E:=mk0 (blk_below (g:=Y) (o:=.cells #[.int .i64 b3,.int .i64 b4,.int .i64 b5,.int .i64 b6] 67 (0,0)) (by (iterate 4 refine blk_far ?_ i3.1 _);exact E.1) hb);replace F:=mk0 (blk_below (g:=b2) (o:=.cells #[.int .i64 e3,.int .i64 e4,.int .i64 e5,.int .i64 e6] 67 (0,0)) (by (iterate 4 refine blk_far ?_ i4.1 _);exact F.1) hb);replace a8:=mk0 (blk_below (g:=g3) (o:=.cells #[.int .i64 e2,.int .i64 e0,.int .i64 d1,.int .i64 d0] 67 (0,0)) (by (iterate 4 refine blk_far ?_ i5.1 _);exact a8.1) hb);replace e1:=mk0 (blk_below (g:=g1) (o:=.cells #[.int .i64 ((rd_T67 Z I).f0),.int .i64 ((rd_T67 Z I).f1),.int .i64 ((rd_T67 Z I).f2),.int .i64 ((rd_T67 Z I).f3)] 67 (0,0)) (by refine blk_put (cs:=#[.int .i64 ((rd_T67 Z I).f0),.int .i64 ((rd_T67 Z I).f1),.int .i64 ((rd_T67 Z I).f2),.int .i64 0]) ?_ 3 _ rfl;refine blk_put (cs:=#[.int .i64 ((rd_T67 Z I).f0),.int .i64 ((rd_T67 Z I).f1),.int .i64 0,.int .i64 0]) ?_ 2 _ rfl;refine blk_put (cs:=#[.int .i64 ((rd_T67 Z I).f0),.int .i64 0,.int .i64 0,.int .i64 0]) ?_ 1 _ rfl;refine blk_put (cs:=#[.int .i64 0,.int .i64 0,.int .i64 0,.int .i64 0]) ?_ 0 _ rfl;exact e1.1) hb);replace HB:=mk0 (below_step (by repeat (with_reducible first|exact HB.1|refine below_set ?_ h1.1|refine below_set ?_ h2.1|refine below_set ?_ h3.1|refine below_set ?_ c0.1|refine below_set ?_ c2.1|refine below_set ?_ i7.1|refine below_set ?_ n9.1)) hb);clear hb s8;obtain ⟨C1,C2,N0⟩:=Kd.R_slice g4.1;subst N0)|((with_reducible refine gate_callee (f:=54) rfl ?_);refine goesL_ (some 57) rfl rfl Try.func54 (by kernel_rfl) rfl #[.slice C1 o1.length C2] rfl (by (try simp only [m0_,m1_,m2_]);first|done|rfl|(simp only [l0_,l1_];rfl)) ?_;(with_reducible refine (norm_product.calls k3 _ _ o1 e7 e9 f5 g0 _ ?side1 ?side2 L8.1).mono ?_);(case side1=>repeat (first|exact (Kd.R_reads' g4.1).2.2|(with_reducible refine Kd.C_alloc ?_ _)|(with_reducible refine Kd.C_drewN ?_ _)|(with_reducible refine Kd.C_drew ?_)));(case side2=>exact (Kd.R_reads' g4.1).2.1);rintro e Rw ⟨rfl,hb⟩;refine ⟨_,rfl,?_⟩;replace f9:=rbl f9 hb;replace g4:=rbl g4 hb;replace B:=bkb B hb;replace C:=bkb C hb;replace D:=bkb D hb;replace E:=bkb E hb;replace F:=bkb F hb;replace a8:=bkb a8 hb;replace e1:=bkb e1 hb;replace HB:=bst HB hb;(try clear hb);(try clear hk))|((with_reducible refine gate_dst (N:=14) rfl ?_);refine box_event ?hg (N:=14) ?hd (cs:=#[.int .i64 0,.int .i64 0,.int .i64 0,.int .i64 0]) (t:=67) ?hr ?_;(case hd=>rfl);(case hg=>rfl);(case hr=>first|(go_simp;done)|(go_simp;rfl));intro G hg n7 b8 hb;have b9:=mk0 (b8);have C0:=szw hg HB;have u0:=C0;have m6:=nlt hg B;have q7:=ngt hg B;have m7:=nlt hg C;have q8:=ngt hg C;have m8:=nlt hg D;have q9:=ngt hg D;have m9:=nlt hg E;have r0:=ngt hg E;have n0:=nlt hg F;have r6:=ngt hg F;have n1:=nlt hg a8;have r7:=ngt hg a8;have n2:=nlt hg e1;have r8:=ngt hg e1;replace f9:=mk0 (Kd.R_below (Kd.R_elderB f9.1 G (Nat.le_of_eq hg.symm)) hb);replace g4:=mk0 (Kd.R_below (Kd.R_elderB g4.1 G (Nat.le_of_eq hg.symm)) hb);replace B:=bkb B hb;replace C:=bkb C hb;replace D:=bkb D hb;replace E:=bkb E hb;replace F:=bkb F hb;replace a8:=bkb a8 hb;replace e1:=bkb e1 hb;replace HB:=bst HB hb;clear hb b8 hg;have Lj:=q7.1;have Lk:=m6.1;have Ll:=q8.1;have Lm:=m7.1;have Ln:=q9.1;have Lo:=m8.1;have Lp:=r0.1;have Lq:=m9.1;have Lr:=r6.1;have Ls:=n0.1;have Lt:=r7.1;have Lu:=n1.1;have Lv:=r8.1;have Lw:=n2.1;have X9:=q0_ b9;have Y0:=q1_ b9;have Y1:=q2_ b9;have Y2:=q3_ b9;have Y3:=blk_frozen b9.1 0;have Y4:=blk_frozen b9.1 1;have Y5:=blk_frozen b9.1 2;have Y6:=blk_frozen b9.1 3))
              have o8:Aside0 (Kd.R k67 67 ((((n7.setCell ⟨G,0,none⟩ (.int .i64 e7)).setCell ⟨G,1,none⟩ (.int .i64 e9)).setCell ⟨G,2,none⟩ (.int .i64 f5)).setCell ⟨G,3,none⟩ (.int .i64 g0)) w.heap.size (fun k_=>some k_ ≠ (.slice C1 o1.length C2:Value).ownBlock∧k_ ≠ Y∧k_ ≠ b2∧k_ ≠ g3∧k_ ≠ g1∧k_ ≠ G) (.slice (some t9) Z.length t7) Z):=⟨by (with_reducible repeat (first|apply Kd.R_alloc|apply Kd.R_drewN|apply Kd.R_drew));exact Kd.R_mono (Kd.R_far (p:=⟨G,3,none⟩) (Kd.R_far (p:=⟨G,2,none⟩) (Kd.R_far (p:=⟨G,1,none⟩) (Kd.R_far (p:=⟨G,0,none⟩) (Kd.R_mono f9.1 (fun k_ hk=>(⟨hk,hk.2⟩:_∧k_ ≠ G))) (fun _ hk=>hk.2) (.int .i64 e7)) (fun _ hk=>hk.2) (.int .i64 e9)) (fun _ hk=>hk.2) (.int .i64 f5)) (fun _ hk=>hk.2) (.int .i64 g0)) (fun _ hk=>⟨hk.1.1.2,⟨hk.1.1.1.1.1,⟨hk.1.1.1.1.2.1,⟨hk.1.1.1.1.2.2,⟨hk.1.1.1.2,hk.1.2⟩⟩⟩⟩⟩)⟩
              have o9:Aside0 (Kd.R k67 67 ((((n7.setCell ⟨G,0,none⟩ (.int .i64 e7)).setCell ⟨G,1,none⟩ (.int .i64 e9)).setCell ⟨G,2,none⟩ (.int .i64 f5)).setCell ⟨G,3,none⟩ (.int .i64 g0)) w.heap.size (fun k_=>some k_ ≠ (.slice (some t9) Z.length t7:Value).ownBlock∧k_ ≠ Y∧k_ ≠ b2∧k_ ≠ g3∧k_ ≠ g1∧k_ ≠ G) (.slice C1 o1.length C2) o1):=⟨by (with_reducible repeat (first|apply Kd.R_alloc|apply Kd.R_drewN|apply Kd.R_drew));exact Kd.R_mono (Kd.R_far (p:=⟨G,3,none⟩) (Kd.R_far (p:=⟨G,2,none⟩) (Kd.R_far (p:=⟨G,1,none⟩) (Kd.R_far (p:=⟨G,0,none⟩) (Kd.R_mono g4.1 (fun k_ hk=>(⟨hk,hk.2⟩:_∧k_ ≠ G))) (fun _ hk=>hk.2) (.int .i64 e7)) (fun _ hk=>hk.2) (.int .i64 e9)) (fun _ hk=>hk.2) (.int .i64 f5)) (fun _ hk=>hk.2) (.int .i64 g0)) (fun _ hk=>⟨hk.1.1.1.1.1.1.2,⟨hk.1.1.1.1.1.2,⟨hk.1.1.1.1.2,⟨hk.1.1.1.2,⟨hk.1.1.2,hk.1.2⟩⟩⟩⟩⟩)⟩
              have p0:Aside0 (((((n7.setCell ⟨G,0,none⟩ (.int .i64 e7)).setCell ⟨G,1,none⟩ (.int .i64 e9)).setCell ⟨G,2,none⟩ (.int .i64 f5)).setCell ⟨G,3,none⟩ (.int .i64 g0)).heap[V]?=some (.cells #[.int .i64 d2,.int .i64 d3,.int .i64 d4,.int .i64 d5] 23 (0,0))):=⟨by (iterate 4 refine blk_far ?_ m6.1 _);exact B.1⟩
              have p1:Aside0 (((((n7.setCell ⟨G,0,none⟩ (.int .i64 e7)).setCell ⟨G,1,none⟩ (.int .i64 e9)).setCell ⟨G,2,none⟩ (.int .i64 f5)).setCell ⟨G,3,none⟩ (.int .i64 g0)).heap[X]?=some (.cells #[.int .i64 d6,.int .i64 d7,.int .i64 d8,.int .i64 d9] 23 (0,0))):=⟨by (iterate 4 refine blk_far ?_ m7.1 _);exact C.1⟩
              have p3:Aside0 (((((n7.setCell ⟨G,0,none⟩ (.int .i64 e7)).setCell ⟨G,1,none⟩ (.int .i64 e9)).setCell ⟨G,2,none⟩ (.int .i64 f5)).setCell ⟨G,3,none⟩ (.int .i64 g0)).heap[b7]?=some (.cells #[.int .i64 0,.int .i64 0,.int .i64 0,.int .i64 0] 23 (0,0))):=⟨by (iterate 4 refine blk_far ?_ m8.1 _);exact D.1⟩
              have p4:Aside0 (((((n7.setCell ⟨G,0,none⟩ (.int .i64 e7)).setCell ⟨G,1,none⟩ (.int .i64 e9)).setCell ⟨G,2,none⟩ (.int .i64 f5)).setCell ⟨G,3,none⟩ (.int .i64 g0)).heap[Y]?=some (.cells #[.int .i64 b3,.int .i64 b4,.int .i64 b5,.int .i64 b6] 67 (0,0))):=⟨by (iterate 4 refine blk_far ?_ m9.1 _);exact E.1⟩
              have p5:Aside0 (((((n7.setCell ⟨G,0,none⟩ (.int .i64 e7)).setCell ⟨G,1,none⟩ (.int .i64 e9)).setCell ⟨G,2,none⟩ (.int .i64 f5)).setCell ⟨G,3,none⟩ (.int .i64 g0)).heap[b2]?=some (.cells #[.int .i64 e3,.int .i64 e4,.int .i64 e5,.int .i64 e6] 67 (0,0))):=⟨by (iterate 4 refine blk_far ?_ n0.1 _);exact F.1⟩
              have p6:Aside0 (((((n7.setCell ⟨G,0,none⟩ (.int .i64 e7)).setCell ⟨G,1,none⟩ (.int .i64 e9)).setCell ⟨G,2,none⟩ (.int .i64 f5)).setCell ⟨G,3,none⟩ (.int .i64 g0)).heap[g3]?=some (.cells #[.int .i64 e2,.int .i64 e0,.int .i64 d1,.int .i64 d0] 67 (0,0))):=⟨by (iterate 4 refine blk_far ?_ n1.1 _);exact a8.1⟩
              have z0:Aside0 (((((n7.setCell ⟨G,0,none⟩ (.int .i64 e7)).setCell ⟨G,1,none⟩ (.int .i64 e9)).setCell ⟨G,2,none⟩ (.int .i64 f5)).setCell ⟨G,3,none⟩ (.int .i64 g0)).heap[g1]?=some (.cells #[.int .i64 ((rd_T67 Z I).f0),.int .i64 ((rd_T67 Z I).f1),.int .i64 ((rd_T67 Z I).f2),.int .i64 ((rd_T67 Z I).f3)] 67 (0,0))):=⟨by (iterate 4 refine blk_far ?_ n2.1 _);exact e1.1⟩
              have z1:Aside0 (((((n7.setCell ⟨G,0,none⟩ (.int .i64 e7)).setCell ⟨G,1,none⟩ (.int .i64 e9)).setCell ⟨G,2,none⟩ (.int .i64 f5)).setCell ⟨G,3,none⟩ (.int .i64 g0)).heap[G]?=some (.cells #[.int .i64 e7,.int .i64 e9,.int .i64 f5,.int .i64 g0] 67 (0,0))):=⟨by refine blk_put (cs:=#[.int .i64 e7,.int .i64 e9,.int .i64 f5,.int .i64 0]) ?_ 3 _ rfl;refine blk_put (cs:=#[.int .i64 e7,.int .i64 e9,.int .i64 0,.int .i64 0]) ?_ 2 _ rfl;refine blk_put (cs:=#[.int .i64 e7,.int .i64 0,.int .i64 0,.int .i64 0]) ?_ 1 _ rfl;refine blk_put (cs:=#[.int .i64 0,.int .i64 0,.int .i64 0,.int .i64 0]) ?_ 0 _ rfl;exact b9.1⟩
              have t3:Aside0 (Below w.heap.size w ((((n7.setCell ⟨G,0,none⟩ (.int .i64 e7)).setCell ⟨G,1,none⟩ (.int .i64 e9)).setCell ⟨G,2,none⟩ (.int .i64 f5)).setCell ⟨G,3,none⟩ (.int .i64 g0))):=⟨by repeat (first|(with_reducible first|exact HB.1|apply below_alloc|apply pw_below_drewN|apply below_drew1|refine below_set ?_ h1.1|refine below_set ?_ h2.1|refine below_set ?_ h3.1|refine below_set ?_ c0.1|refine below_set ?_ c2.1|refine below_set ?_ i7.1|refine below_set ?_ n9.1|refine below_set ?_ u0.1)|exact HB.1)⟩
              (try clear f9);(try clear g4);(try clear B);(try clear C);(try clear D);(try clear E);(try clear F);(try clear a8);(try clear e1);(try clear b9);(try clear HB);generalize ((((n7.setCell ⟨G,0,none⟩ (.int .i64 e7)).setCell ⟨G,1,none⟩ (.int .i64 e9)).setCell ⟨G,2,none⟩ (.int .i64 f5)).setCell ⟨G,3,none⟩ (.int .i64 g0))=Y7 at o8 o9 p0 p1 p3 p4 p5 p6 z0 z1 t3 ⊢;have f9:=o8;have g4:=o9;have B:=p0;have C:=p1;have D:=p3;have E:=p4;have F:=p5;have a8:=p6;have e1:=z0;have b9:=z1;have HB:=t3;clear o8 o9 p0 p1 p3 p4 p5 p6 z0 z1 t3;replace f9:=rdr f9;replace g4:=rdr g4;replace B:=bdr B;replace C:=bdr C;replace D:=bdr D;replace E:=bdr E;replace F:=bdr F;replace a8:=bdr a8;replace e1:=bdr e1;replace b9:=bdr b9;replace HB:=hdr HB;refine start_ (n:=4) (S:=fun w'=>w'.cell? ⟨G,0,none⟩=some (.int .i64 e7)∧w'.cell? ⟨G,1,none⟩=some (.int .i64 e9)∧w'.cell? ⟨G,2,none⟩=some (.int .i64 f5)∧w'.cell? ⟨G,3,none⟩=some (.int .i64 g0)∧w'.cell? ⟨g3,0,none⟩=some (.int .i64 e2)∧w'.cell? ⟨g3,1,none⟩=some (.int .i64 e0)∧w'.cell? ⟨g3,2,none⟩=some (.int .i64 d1)∧w'.cell? ⟨g3,3,none⟩=some (.int .i64 d0)) (ds:=[]) #[n_,n_,n_,n_] (by kernel_rfl) rfl rfl ⟨q0_ b9,q1_ b9,q2_ b9,q3_ b9,q0_ a8,q1_ a8,q2_ a8,q3_ a8⟩ (fun a4=>?_);generalize Y7.drew=Rx at f9 g4 B C D E F a8 e1 b9 HB a4 ⊢;refine pure_ (i:=0) (N:=some 58) (v:=?_) (a':=?_) #[y_,n_,n_,n_] rfl rfl (by kernel_rfl) (fun _ _ _ h=>h) (Or.inl ⟨by rfl,?_⟩) ?_ ?_;rotate_left
              ·
               intro w';go_simp;with_reducible rfl
              rotate_left
              ·
               simp only [Act.put,s0_,s1_,s2_,i64_w,i32_w];rfl
              refine pure_ (i:=1) (N:=some 59) (v:=?_) (a':=?_) #[y_,y_,n_,n_] rfl rfl (by kernel_rfl) (fun _ _ _ h=>h) (Or.inl ⟨by rfl,?_⟩) ?_ ?_;rotate_left
              ·
               intro w';go_simp;with_reducible rfl
              rotate_left
              ·
               simp only [Act.put,s0_,s1_,s2_,i64_w,i32_w];rfl
              refine one_ (i:=2) (N:=some 60) #[y_,y_,y_,n_] rfl rfl (by kernel_rfl) (by decide) (fun K hK=>?_);refine goes_ Try.func55 (by kernel_rfl) rfl #[.slice (some ⟨G,0,none⟩) [e7,e9,f5,g0].length 4,.slice (some ⟨g3,0,none⟩) [e2,e0,d1,d0].length 4] (by rfl) rfl rfl (by (try simp only [m0_,m1_,m2_]);first|done|(rw [show [e7,e9,f5,g0].length=4 from rfl,show [e2,e0,d1,d0].length=4 from rfl] <;> rfl)|rfl|(simp only [l0_,l1_];rfl)) ?_;with_reducible refine (slices_Compare_int_int.calls k3 _ _ [e7,e9,f5,g0] _ _ [e2,e0,d1,d0] t0 _ ?side1 ?side2 ?side3 ?side4 L9.1).mono ?_
              (case side1=>exact Go.Proofs.MyWords.C_box (t:=67) (cs:=#[.int .i64 e7,.int .i64 e9,.int .i64 f5,.int .i64 g0]) b9.1 (by rfl) (Nat.le_of_ble_eq_true rfl));(case side2=>exact Nat.le_refl _);(case side3=>exact Go.Proofs.MyWords.C_box (t:=67) (cs:=#[.int .i64 e2,.int .i64 e0,.int .i64 d1,.int .i64 d0]) a8.1 (by rfl) (Nat.le_of_ble_eq_true rfl));(case side4=>exact Nat.le_refl _);rintro e w' ⟨rfl,⟨nd,rfl⟩⟩;refine ⟨_,rfl,?_⟩;refine hK.out _ _ ⟨q0_ b9,q1_ b9,q2_ b9,q3_ b9,q0_ a8,q1_ a8,q2_ a8,q3_ a8⟩ (fun a4=>?_);clear hK K;refine norm_ (a':=?_) ?_ ?_;rotate_left
              ·
               show Act.put _ (some 60) _=_;simp only [Act.put,s0_,s1_,s2_,i64_w,i32_w];rfl
              refine pure_ (i:=3) (N:=some 61) (v:=?_) (a':=?_) #[y_,y_,y_,y_] rfl rfl (by kernel_rfl) (fun _ _ _ h=>h) (Or.inl ⟨by rfl,?_⟩) ?_ ?_;rotate_left
              ·
               intro w';go_simp;with_reducible rfl
              rotate_left
              ·
               simp only [Act.put,s0_,s1_,s2_,i64_w,i32_w];rfl
              refine done_ (by kernel_rfl) ?_;try go_wp2
              go_roundg k3
              case measure=>have:=A0.1;have:=B3.1;have:=F4.1;omega
              case rel=>exact ⟨(wrap64 (I + 1)),(e2),(e0),(d1),(d0),(by first|rfl|(simp;done)|(simp [*];done)),H',⟨by have:=A0.1;have:=B3.1;have:=F4.1;omega⟩,⟨by (with_reducible repeat (first|apply Kd.R_alloc|apply Kd.R_drewN|apply Kd.R_drew));exact Kd.R_mono f9.1 (fun _ hk=>⟨hk.2.1,⟨hk.2.2.1,hk.2.2.2.1⟩⟩)⟩,⟨by exact B.1⟩,⟨by exact C.1⟩,⟨by exact D.1⟩,⟨by exact E.1⟩,⟨by exact F.1⟩,⟨by exact a8.1⟩,⟨by repeat (first|(with_reducible first|exact HB.1|apply below_alloc|apply pw_below_drewN|apply below_drew1|refine below_set ?_ h1.1|refine below_set ?_ h2.1|refine below_set ?_ h3.1|refine below_set ?_ c0.1|refine below_set ?_ c2.1|refine below_set ?_ i7.1|refine below_set ?_ n9.1|refine below_set ?_ u0.1)|exact HB.1)⟩⟩
            ·
             rw [if_neg c113] at H;exact absurd H (by simp)
           ·
            rw [if_neg c112] at H;exact absurd H (by simp)
          ·
           rw [if_neg c111] at H;have c111b0:decide (I < (Z.length:Int))=false:=decide_eq_false c111;clear c111;replace H:=Option.bind_eq_some_iff.mp H;obtain ⟨⟨z2,C3,E7,M0⟩,F7,H⟩:=H;(try dsimp only at H);have Y8:=mk0 F7;clear F7;simp only [Option.some.injEq,Prod.mk.injEq] at H;obtain ⟨rfl,rfl,rfl,rfl,rfl⟩:=H;have Lx:=p7.1;have Ly:=m0.1;have Lz:=p8.1;have Ma:=m1.1;have Mb:=p9.1;have Mc:=m2.1;have Md:=o2.1;have Me:=i2.1;have Mf:=q0.1;have Mg:=j5.1;have Y9:=q0_ a8;have Z0:=q1_ a8;have Z1:=q2_ a8;have Z2:=q3_ a8;have Z3:=blk_frozen a8.1 0;have Z4:=blk_frozen a8.1 1;have Z5:=blk_frozen a8.1 2;have Z6:=blk_frozen a8.1 3;go_wp2_with (first|((with_reducible refine gate_callee (f:=50) rfl ?_);refine goesL_ (some 65) rfl rfl Try.func50 (by kernel_rfl) rfl #[.agg #[.int .i64 e2,.int .i64 e0,.int .i64 d1,.int .i64 d0]] rfl (by (try simp only [m0_,m1_,m2_]);first|done|rfl|(simp only [l0_,l1_];rfl)) ?_;(with_reducible refine (norm_quat_api.calls e2 e0 d1 d0 z2 C3 E7 M0 _ Y8.1).mono ?_);rintro e Ry ⟨rfl,hb⟩;refine ⟨_,rfl,?_⟩;replace f9:=rbl f9 hb;replace B:=bkb B hb;replace C:=bkb C hb;replace D:=bkb D hb;replace E:=bkb E hb;replace F:=bkb F hb;replace a8:=bkb a8 hb;replace HB:=bst HB hb;(try clear hb);have Mh:=l4.1;have Mi:=l3.1;have Mj:=l6.1;have Mk:=l5.1;have Ml:=a0.1;have Mm:=a2.1;have Mn:=a3.1;have Mo:=a7.1;have Z7:=q0_ D;have Z8:=q1_ D;have Z9:=q2_ D;have Aa:=q3_ D;have Ab:=blk_frozen D.1 0;have Ac:=blk_frozen D.1 1;have Ad:=blk_frozen D.1 2;have Ae:=blk_frozen D.1 3));refine bodyPost_ret (results_ct rfl _ _ b7 23 #[.int .i64 z2,.int .i64 C3,.int .i64 E7,.int .i64 M0] (0,0) _ rfl (by refine blk_put (cs:=#[.int .i64 z2,.int .i64 C3,.int .i64 E7,.int .i64 0]) ?_ 3 _ rfl;refine blk_put (cs:=#[.int .i64 z2,.int .i64 C3,.int .i64 0,.int .i64 0]) ?_ 2 _ rfl;refine blk_put (cs:=#[.int .i64 z2,.int .i64 0,.int .i64 0,.int .i64 0]) ?_ 1 _ rfl;refine blk_put (cs:=#[.int .i64 0,.int .i64 0,.int .i64 0,.int .i64 0]) ?_ 0 _ rfl;exact D.1) Try.underlying23 rfl (by kernel_rfl)) rfl ?_;exact ⟨by first|rfl|(simp [errW_none,errW_some] <;> rfl)|(simp [*,errW_none,errW_some] <;> rfl),by repeat (first|(with_reducible first|exact HB.1|apply below_alloc|apply pw_below_drewN|apply below_drew1|refine below_set ?_ h1.1|refine below_set ?_ h2.1|refine below_set ?_ h3.1|refine below_set ?_ c0.1|refine below_set ?_ c2.1|refine below_set ?_ i7.1)|exact HB.1)⟩
 ·
  rw [if_neg c4] at H;have c4b0:(j7 == 0)=false:=beq_eq_false_iff_ne.mpr c4;have c4b1:(j7 != 0)=true:=bne_iff_ne.mpr c4;simp only [Option.some.injEq,Prod.mk.injEq] at H;obtain ⟨rfl,rfl,rfl,rfl,rfl⟩:=H;go_enter Try.func21,Try.ntmps21;go_wp2_with (first|((with_reducible refine gate_dst (N:=2) rfl ?_);refine box_event ?hg (N:=2) ?hd (cs:=#[.int .i64 d2,.int .i64 d3,.int .i64 d4,.int .i64 d5]) (t:=23) ?hr ?_;(case hd=>rfl);(case hg=>rfl);(case hr=>first|(go_simp;done)|(go_simp;rfl));intro V hg Rz b8 hb;have B:=mk0 (b8);have B4:=szw hg HB;have h1:=B4;replace HB:=bst HB hb;clear hb b8 hg)|((with_reducible refine gate_dst (N:=3) rfl ?_);refine box_event ?hg (N:=3) ?hd (cs:=#[.int .i64 d6,.int .i64 d7,.int .i64 d8,.int .i64 d9]) (t:=23) ?hr ?_;(case hd=>rfl);(case hg=>rfl);(case hr=>first|(go_simp;done)|(go_simp;rfl));intro X hg Sa b8 hb;have C:=mk0 (b8);have B5:=szw hg HB;have h2:=B5;have o5:=nlt hg B;have o6:=ngt hg B;replace B:=bkb B hb;replace HB:=bst HB hb;clear hb b8 hg)|((with_reducible refine gate_dst (N:=4) rfl ?_);refine box_event ?hg (N:=4) ?hd (cs:=#[.int .i64 0,.int .i64 0,.int .i64 0,.int .i64 0]) (t:=23) ?hr ?_;(case hd=>rfl);(case hg=>rfl);(case hr=>first|(go_simp;done)|(go_simp;rfl));intro b7 hg Sb b8 hb;have D:=mk0 (b8);have B6:=szw hg HB;have h3:=B6;have l3:=nlt hg B;have l4:=ngt hg B;have l5:=nlt hg C;have l6:=ngt hg C;replace B:=bkb B hb;replace C:=bkb C hb;replace HB:=bst HB hb;clear hb b8 hg;have Mp:=o5.1;have Mq:=o6.1;have Mr:=l3.1;have Ms:=l4.1;have Af:=q0_ B;have Ag:=q1_ B;have Ah:=q2_ B;have Ai:=q3_ B;have Aj:=blk_frozen B.1 0;have Ak:=blk_frozen B.1 1;have Al:=blk_frozen B.1 2;have Am:=blk_frozen B.1 3;have Mt:=l5.1;have Mu:=l6.1;have An:=q0_ C;have Ao:=q1_ C;have Ap:=q2_ C;have Aq:=q3_ C;have Ar:=blk_frozen C.1 0;have As:=blk_frozen C.1 1;have At:=blk_frozen C.1 2;have Au:=blk_frozen C.1 3)|((with_reducible refine gate_dst (N:=17) rfl ?_);refine Kd.R_lit k23 _ 23 ?hg (N:=17) ?hd (xs:=([(⟨d2,d3,d4,d5⟩:S23),(⟨d6,d7,d8,d9⟩:S23)]:List (S23))) (inner:=[.int .i64 d2,.int .i64 d3,.int .i64 d4,.int .i64 d5,.int .i64 d6,.int .i64 d7,.int .i64 d8,.int .i64 d9]) (ok:=fun _=>True) (okp:=fun _=>True) ?hr ?hp (fun _ hk=>hk) trivial (Below.refl _ _) (Nat.le_refl _) (by simp) ?_;(case hd=>rfl);(case hg=>rfl);(case hr=>first|(go_simp;done)|(go_simp;rfl));(case hp=>exact (Reps.c4 (show Kd.M k23 _ _ _ (⟨d2,d3,d4,d5⟩:S23) [.int .i64 d2,.int .i64 d3,.int .i64 d4,.int .i64 d5] from (k23_mkM _ _ _ (⟨d2,d3,d4,d5⟩:S23) )) (Reps.c4 (show Kd.M k23 _ _ _ (⟨d6,d7,d8,d9⟩:S23) [.int .i64 d6,.int .i64 d7,.int .i64 d8,.int .i64 d9] from (k23_mkM _ _ _ (⟨d6,d7,d8,d9⟩:S23) )) (Reps.none _ _))));intro O1 Sc u1 hb hg_ o4;clear hg_ o4;(first|rw [← y5.1] at u1|(simp only [Int.reduceToNat] at u1;rw [← y5.1] at u1));have T:=mk0 (Kd.R_lower (Kd.R_newB (Kd.R_newB (Kd.R_newB u1 (g:=V) (o:=.cells #[.int .i64 d2,.int .i64 d3,.int .i64 d4,.int .i64 d5] 23 (0,0)) B.1) (g:=X) (o:=.cells #[.int .i64 d6,.int .i64 d7,.int .i64 d8,.int .i64 d9] 23 (0,0)) C.1) (g:=b7) (o:=.cells #[.int .i64 0,.int .i64 0,.int .i64 0,.int .i64 0] 23 (0,0)) D.1) (below_size HB.1));replace B:=bkb B hb;replace C:=bkb C hb;replace D:=bkb D hb;replace HB:=bst HB hb;clear hb u1;obtain ⟨N1,N2,N3⟩:=Kd.R_slice T.1;subst N3)|((with_reducible refine gate_callee (f:=47) rfl ?_);refine goesL_ (some 18) rfl rfl Try.func47 (by kernel_rfl) rfl #[.slice N1 g9.length N2] rfl (by (try simp only [m0_,m1_,m2_]);first|done|rfl|(simp only [l0_,l1_];rfl)) ?_;(with_reducible refine (norm_check.calls k _ _ g9 j7 _ ?side1 ?side2 A3.1).mono ?_);(case side1=>repeat (first|exact (Kd.R_reads' T.1).2.2|(with_reducible refine Kd.C_alloc ?_ _)|(with_reducible refine Kd.C_drewN ?_ _)|(with_reducible refine Kd.C_drew ?_)));(case side2=>exact (Kd.R_reads' T.1).2.1);rintro e Sd ⟨rfl,hb⟩;refine ⟨_,rfl,?_⟩;replace T:=rbl T hb;replace B:=bkb B hb;replace C:=bkb C hb;replace D:=bkb D hb;replace HB:=bst HB hb;(try clear hb);(try clear hk);have Av:=q0_ D;have Aw:=q1_ D;have Ax:=q2_ D;have Ay:=q3_ D;have Az:=blk_frozen D.1 0;have Ba:=blk_frozen D.1 1;have Bb:=blk_frozen D.1 2;have Bc:=blk_frozen D.1 3))
  refine bodyPost_ret (results_ct rfl _ _ b7 23 #[.int .i64 0,.int .i64 0,.int .i64 0,.int .i64 0] (0,0) _ rfl (by refine blk_put (cs:=#[.int .i64 0,.int .i64 0,.int .i64 0,.int .i64 0]) ?_ 3 _ rfl;refine blk_put (cs:=#[.int .i64 0,.int .i64 0,.int .i64 0,.int .i64 0]) ?_ 2 _ rfl;refine blk_put (cs:=#[.int .i64 0,.int .i64 0,.int .i64 0,.int .i64 0]) ?_ 1 _ rfl;refine blk_put (cs:=#[.int .i64 0,.int .i64 0,.int .i64 0,.int .i64 0]) ?_ 0 _ rfl;exact D.1) Try.underlying23 rfl (by kernel_rfl)) rfl ?_;exact ⟨by first|rfl|(simp [errW_none,errW_some] <;> rfl)|(simp [*,errW_none,errW_some] <;> rfl),by repeat (first|(with_reducible first|exact HB.1|apply below_alloc|apply pw_below_drewN|apply below_drew1|refine below_set ?_ h1.1|refine below_set ?_ h2.1|refine below_set ?_ h3.1)|exact HB.1)⟩
/-! ### norm_counted: function 57 -/
def norm_counted.f (a0:Int) (a1:Int):Option (Bool):=if a0 ≥ a1 then (some (decide (a0 ≤ 10000))) else (some false)
set_option maxHeartbeats 8000000 in
set_option maxRecDepth 100000 in
theorem norm_counted.calls (a0:Int) (a1:Int) (r:Bool) (w:World) (h:norm_counted.f a0 a1=some r) :
    Calls Try.prog 57 #[.int .i64 a0,.int .i64 a1] w fun e w'=>e=.returned (.bool r)∧Drawn0 w w':=by
 have H:(if a0 ≥ a1 then (some (decide (a0 ≤ 10000))) else (some false))=some r:=h;clear h
 by_cases c3:a0 ≥ a1
 ·
  rw [if_pos c3] at H;have c3b0:decide (a1 ≤ a0)=true:=decide_eq_true c3;clear c3;obtain rfl:=Option.some.inj H;go_enter Try.func57,Try.ntmps57;go_wp2;go_ret;exact ⟨by first|rfl|(simp;done)|(simp [*];done),by repeat (first|exact Drawn0.refl _|apply Drawn0.step)⟩
 ·
  rw [if_neg c3] at H;have c3b0:decide (a1 ≤ a0)=false:=decide_eq_false c3;clear c3;obtain rfl:=Option.some.inj H;go_enter Try.func57,Try.ntmps57;go_wp2;go_ret;exact ⟨by first|rfl|(simp;done)|(simp [*];done),by repeat (first|exact Drawn0.refl _|apply Drawn0.step)⟩
/-! ### norm_squares: function 58 -/
/-- A row that may be nil. -/
def NilRow (w:World) (base:Nat) (v:Value):Option (List Int) → Prop
  | none=>v=.slice none 0 0
  | some l=>(∃ b,v.ownBlock=some b)∧Kd.R (Kd.int .i64) 3 w base (fun _=>True) v l
theorem NilRow.open {w:World} {base:Nat} {v:Value} {l:List Int} (h:NilRow w base v (some l)):∃ ad c,v=.slice (some ad) l.length c∧Kd.R (Kd.int .i64) 3 w base (fun _=>True) v l:=by
  obtain ⟨⟨b,hb⟩,h⟩:=h
  obtain ⟨A,c,e⟩:=Kd.R_slice h
  cases A with
  | none=>rw [e] at hb;simp [Value.ownBlock] at hb
  | some ad=>exact ⟨ad,c,e,h⟩
theorem NilRow.cons_ne {o:Option (Option (List Int))} {x:Int} {E:Option (Option (List Int))} {r:List Int} (h:(o.bind fun t=>if t.isSome=true then ((some ([x]:List Int)).bind fun y=>if y.length + (t.getD []).length < 17592186044416 then some (some (y ++ t.getD [])) else none) else E)=some (some r)) (hE:E=some (some r) → r ≠ []):r ≠ []:=by
  obtain ⟨t,_,h⟩:=Option.bind_eq_some_iff.mp h
  by_cases ht:t.isSome=true
  · rw [if_pos ht] at h
    simp only [Option.bind_some] at h
    by_cases hl:[x].length + (t.getD []).length < 17592186044416
    · rw [if_pos hl] at h
      cases h
      simp
    · rw [if_neg hl] at h
      cases h
  · rw [if_neg ht] at h
    exact hE h
theorem NilRow.row {w:World} {base:Nat} {v:Value} {o:Option (List Int)} (h:NilRow w base v o):Kd.R (Kd.int .i64) 3 w base (fun _=>True) v (o.getD []):=by
  cases o with
  | none=>obtain rfl:=(show v=.slice none 0 0 from h);exact Kd.R_nil _ _ _ _ _
  | some l=>exact h.2
mutual
def sqN.l0:Nat → Int → Int → Int → Option (Option (List Int))
  | 0,_,_,_=>none
  | k + 1,x0,x1,x7=>if x7 ≥ 0 then (sqN.j1 k x0 x1 x7 (decide ((wrap64 ((wrap64 (x1 * x7)) * x7)) ≥ x0))) else (sqN.j1 k x0 x1 x7 false)
def sqN.j1:Nat → Int → Int → Int → Bool → Option (Option (List Int))
  | 0,_,_,_,_=>none
  | k + 1,x0,x1,x7,x25=>if x25=true then (if (wrap64 (x7 * x7)) > x0 then (sqN.l0 k x0 x1 (wrap64 (x7 - 1))) else ((sqN.f k (wrap64 (x0 - (wrap64 (x7 * x7)))) (wrap64 (x1 - 1)) x7).bind fun t290=>(if t290.isSome=true then ((some (([x7]:List Int):List Int)).bind fun y293=>(if y293.length + (t290.getD []).length < 17592186044416 then (some (some (y293 ++ t290.getD []))) else (none))) else (sqN.l0 k x0 x1 (wrap64 (x7 - 1)))))) else (some (none:Option (List Int)))
def sqN.f:Nat → Int → Int → Int → Option (Option (List Int))
  | 0,_,_,_=>none
  | k + 1,a0,a1,a2=>if a1=0 then (if a0=0 then (some (some ([]:List Int))) else (some (none:Option (List Int)))) else (sqN.l0 k a0 a1 a2)
end
theorem sqN.mono_l:∀ k,(∀ B C D,LeO (sqN.f k B C D) (sqN.f (k + 1) B C D))∧(∀ B C D,LeO (sqN.l0 k B C D) (sqN.l0 (k + 1) B C D))∧(∀ B C D I,LeO (sqN.j1 k B C D I) (sqN.j1 (k + 1) B C D I))
  | 0=>⟨fun _ _ _ r h=>by simp [sqN.f] at h,fun _ _ _ r h=>by simp [sqN.l0] at h,fun _ _ _ _ r h=>by simp [sqN.j1] at h⟩
  | k + 1=>by
    obtain ⟨E,F,G⟩:=sqN.mono_l k
    refine ⟨?_,?_,?_⟩
    · intro B C D
      unfold sqN.f
      repeat' first
      | (with_reducible exact E _ _ _)
      | (with_reducible exact F _ _ _)
      | (with_reducible exact G _ _ _ _)
      | (with_reducible exact LeO.refl _)
      | (with_reducible exact LeO.none _)
      | (with_reducible refine LeO.ite ?_ ?_)
      | (with_reducible refine LeO.bind ?_ (fun _=>?_))
      | exact E _ _ _
      | exact F _ _ _
      | exact G _ _ _ _
      | exact LeO.none _
      | refine LeO.ite ?_ ?_
      | refine LeO.bind ?_ (fun _=>?_)
    · intro B C D
      unfold sqN.l0
      repeat' first
      | (with_reducible exact E _ _ _)
      | (with_reducible exact F _ _ _)
      | (with_reducible exact G _ _ _ _)
      | (with_reducible exact LeO.refl _)
      | (with_reducible exact LeO.none _)
      | (with_reducible refine LeO.ite ?_ ?_)
      | (with_reducible refine LeO.bind ?_ (fun _=>?_))
      | exact E _ _ _
      | exact F _ _ _
      | exact G _ _ _ _
      | exact LeO.none _
      | refine LeO.ite ?_ ?_
      | refine LeO.bind ?_ (fun _=>?_)
    · intro B C D I
      unfold sqN.j1
      repeat' first
      | (with_reducible exact E _ _ _)
      | (with_reducible exact F _ _ _)
      | (with_reducible exact G _ _ _ _)
      | (with_reducible exact LeO.refl _)
      | (with_reducible exact LeO.none _)
      | (with_reducible refine LeO.ite ?_ ?_)
      | (with_reducible refine LeO.bind ?_ (fun _=>?_))
      | exact E _ _ _
      | exact F _ _ _
      | exact G _ _ _ _
      | exact LeO.none _
      | refine LeO.ite ?_ ?_
      | refine LeO.bind ?_ (fun _=>?_)
theorem sqN.mono:∀ a0 a1 a2 k,LeO (sqN.f k a0 a1 a2) (sqN.f (k + 1) a0 a1 a2):=by
  intro a0 a1 a2 k
  obtain ⟨ih0,ih1,ih2⟩:=sqN.mono_l k
  exact ih0 a0 a1 a2
theorem sqN.ne:∀ k,(∀ y0 y1 y2 r,sqN.l0 k y0 y1 y2=some (some r) → r ≠ [])∧(∀ y0 y1 y2 y3 r,sqN.j1 k y0 y1 y2 y3=some (some r) → r ≠ [])
  | 0=>⟨fun _ _ _ r h=>by simp [sqN.l0] at h,fun _ _ _ _ r h=>by simp [sqN.j1] at h⟩
  | k + 1=>by
    obtain ⟨ih0,ih1⟩:=sqN.ne k
    refine ⟨?_,?_⟩
    · intro y0 y1 y2 r h
      unfold sqN.l0 at h
      repeat' split at h
      all_goals first|exact ih0 _ _ _ _ h|exact ih1 _ _ _ _ _ h|(cases h;done)|exact NilRow.cons_ne h (fun h=>by first|exact ih0 _ _ _ _ h|exact ih1 _ _ _ _ _ h)
    · intro y0 y1 y2 y3 r h
      unfold sqN.j1 at h
      repeat' split at h
      all_goals first|exact ih0 _ _ _ _ h|exact ih1 _ _ _ _ _ h|(cases h;done)|exact NilRow.cons_ne h (fun h=>by first|exact ih0 _ _ _ _ h|exact ih1 _ _ _ _ _ h)
set_option maxHeartbeats 8000000 in
set_option maxRecDepth 100000 in
theorem sqN.calls (k:Nat):∀ (D:Int) (I:Int) (a2:Int) (r:Option (List Int)) (w:World) (h:sqN.f k D I a2=some r),
    Calls Try.prog 58 #[.int .i64 D,.int .i64 I,.int .i64 a2] w fun e w'=>∃ c0:Value,e=.returned (c0)∧NilRow w' w.heap.size c0 r∧Below w.heap.size w w':=by
  induction k using Nat.strongRecOn with
  | _ k ih =>
  intro D I a2 r w h
  cases k with
  | zero=>exact absurd h (by simp [sqN.f])
  | succ k =>
  simp only [sqN.f] at h
  have C:=Aside0.mk (Below.refl w.heap.size w)
  have H:(if I=0 then (if D=0 then (some (some ([]:List Int))) else (some (none:Option (List Int)))) else (sqN.l0 k D I a2))=some r:=h
  clear h
  by_cases c4:I=0
  · rw [if_pos c4] at H
    have c4b0:(I == 0)=true:=beq_iff_eq.mpr c4
    have c4b1:(I != 0)=false:=bne_eq_false_iff_eq.mpr c4
    clear c4
    by_cases c5:D=0
    · rw [if_pos c5] at H
      have c5b0:(D == 0)=true:=beq_iff_eq.mpr c5
      have c5b1:(D != 0)=false:=bne_eq_false_iff_eq.mpr c5
      clear c5
      obtain ⟨c3,R⟩:∃ y_:List Int,y_=(([]:List Int)):=⟨_,rfl⟩
      replace H:(some (some c3))=some r:=by first|(rw [R];with_reducible exact H)|(have L:=(Option.bind_some _ _).symm.trans H;rw [R];with_reducible exact L)|(have L:=(Option.bind_some _ _).symm.trans H;with_reducible exact L)|with_reducible exact H|(rw [R];exact H)|exact H
      have a7:=Aside0.mk R
      clear R
      obtain rfl:=Option.some.inj H
      go_enter Try.func58,Try.ntmps58
      go_wp2_with (first|((with_reducible refine gate_dst (N:=13) rfl ?_);refine Kd.R_lit (Kd.int .i64) _ 3 ?hg (N:=13) ?hd (xs:=([]:List Int)) (inner:=[]) (ok:=fun _=>True) (okp:=fun _=>True) ?hr ?hp (fun _ hk=>hk) trivial (Below.refl _ _) (Nat.le_refl _) (by simp) ?_;(case hd=>rfl);(case hg=>rfl);(case hr=>first|(go_simp;done)|(go_simp;rfl));(case hp=>exact (Reps.none _ _));intro d3 w6 a5 hb hg_ T;clear hg_;have HNEW:=Aside0.mk T;clear T;(first|rw [← a7.1] at a5|(simp only [Int.reduceToNat] at a5;rw [← a7.1] at a5));have O:=Aside0.mk (Kd.R_lower a5 (below_size (by repeat (first|(with_reducible first|exact C.1|apply below_alloc|apply pw_below_drewN|apply below_drew1)|exact C.1))));have G:=Aside0.mk (below_step (by repeat (first|(with_reducible first|exact C.1|apply below_alloc|apply pw_below_drewN|apply below_drew1)|exact C.1)) hb);clear C;have b6:=O;have C:=G;clear O G;clear hb a5))
      go_ret
      exact ⟨_,by first|rfl|(simp [errW_none,errW_some] <;> rfl)|(simp [*,errW_none,errW_some] <;> rfl),⟨(HNEW.1.elim fun b_ h_=>⟨b_,h_.1⟩),(by (with_reducible repeat (first|apply Kd.R_alloc|apply Kd.R_drewN|apply Kd.R_drew));exact b6.1)⟩,by repeat (first|(with_reducible first|exact C.1|apply below_alloc|apply pw_below_drewN|apply below_drew1)|exact C.1)⟩
    · rw [if_neg c5] at H
      have c5b0:(D == 0)=false:=beq_eq_false_iff_ne.mpr c5
      have c5b1:(D != 0)=true:=bne_iff_ne.mpr c5
      obtain rfl:=Option.some.inj H
      go_enter Try.func58,Try.ntmps58
      go_wp2
      go_ret
      exact ⟨_,by first|rfl|(simp [errW_none,errW_some] <;> rfl)|(simp [*,errW_none,errW_some] <;> rfl),rfl,by repeat (first|(with_reducible first|exact C.1|apply below_alloc|apply pw_below_drewN|apply below_drew1)|exact C.1)⟩
  · rw [if_neg c4] at H
    have c4b0:(I == 0)=false:=beq_eq_false_iff_ne.mpr c4
    have c4b1:(I != 0)=true:=bne_iff_ne.mpr c4
    have H':=Aside0.mk H
    clear H
    go_enter Try.func58,Try.ntmps58
    go_wp2
    go_loopg [7] k (fun kq v7 w'=>∃ (B:Int),v7=.int .i64 B∧Aside0 (sqN.l0 kq D I B=some r)∧Aside0 (kq ≤ k)∧Aside0 (Below w.heap.size w w'))
    case atStart=>exact ⟨(a2),(by first|rfl|(simp;done)|(simp [*];done)),H',⟨Nat.le_refl _⟩,⟨by repeat (first|(with_reducible first|exact C.1|apply below_alloc|apply pw_below_drewN|apply below_drew1)|exact C.1)⟩⟩
    case round =>
      clear H'
      try clear p2
      try clear c4
      try clear c4b0
      try clear c4b1
      try clear c5
      try clear c5b0
      try clear c5b1
      obtain ⟨B,rfl,HA,Y,C⟩:=hrel
      cases gk with
      | zero=>exact absurd HA.1 (by simp [sqN.l0])
      | succ k1 =>
        have H:=HA.1
        clear HA
        simp only [sqN.l0] at H
        have b2:=Aside0.mk H
        clear H
        go_upto_region 6 with (fail)
        go_cut [25] (fun c8 wc=>∃ (kq:Nat) (Z:Bool),c8=.bool Z∧Aside0 (sqN.j1 kq D I B Z=some r)∧Aside0 (kq ≤ k1)∧Aside0 (Below w.heap.size w wc))
        case first =>
          have H:=b2.1
          clear b2
          by_cases c9:B ≥ 0
          · rw [if_pos c9] at H
            have c9b0:decide (0 ≤ B)=true:=decide_eq_true c9
            clear c9
            (first|rw [c9b0]|(simp only [i64_w,i32_w];rw [c9b0])|skip)
            have H':=Aside0.mk H
            clear H
            go_wp2
            go_meet
            case rel=>exact ⟨_,(decide ((wrap64 ((wrap64 (I * B)) * B)) ≥ D)),(by first|rfl|(simp;done)|(simp [*];done)),H',⟨by have:=Y.1;first|omega|exact Nat.le_refl _⟩,⟨by repeat (first|(with_reducible first|exact C.1|apply below_alloc|apply pw_below_drewN|apply below_drew1)|exact C.1)⟩⟩
          · rw [if_neg c9] at H
            have c9b0:decide (0 ≤ B)=false:=decide_eq_false c9
            clear c9
            (first|rw [c9b0]|(simp only [i64_w,i32_w];rw [c9b0])|skip)
            have H':=Aside0.mk H
            clear H
            go_wp2
            go_meet
            case rel=>exact ⟨_,(false),(by first|rfl|(simp;done)|(simp [*];done)),H',⟨by have:=Y.1;first|omega|exact Nat.le_refl _⟩,⟨by repeat (first|(with_reducible first|exact C.1|apply below_alloc|apply pw_below_drewN|apply below_drew1)|exact C.1)⟩⟩
        case rest =>
          clear b2
          try clear p2
          try clear c4
          try clear c4b0
          try clear c4b1
          try clear c5
          try clear c5b0
          try clear c5b1
          try clear p6
          try clear c9
          try clear c9b0
          try clear p2
          obtain ⟨kq,Z,rfl,HA,a3,C⟩:=hcut
          cases kq with
          | zero=>exact absurd HA.1 (by simp [sqN.j1])
          | succ kj7 =>
            have H:=HA.1
            clear HA
            simp only [sqN.j1] at H
            by_cases a8:Z=true
            · subst a8
              have H1:(if (wrap64 (B * B)) > D then (sqN.l0 kj7 D I (wrap64 (B - 1))) else ((sqN.f kj7 (wrap64 (D - (wrap64 (B * B)))) (wrap64 (I - 1)) B).bind fun J=>(if J.isSome=true then ((some (([B]:List Int):List Int)).bind fun F=>(if F.length + (J.getD []).length < 17592186044416 then (some (some (F ++ J.getD []))) else (none))) else (sqN.l0 kj7 D I (wrap64 (B - 1))))))=some r:=by rw [if_pos rfl] at H;exact H
              clear H
              have H:=H1
              clear H1
              by_cases c11:(wrap64 (B * B)) > D
              · rw [if_pos c11] at H
                have c11b0:decide (D < (wrap64 (B * B)))=true:=decide_eq_true c11
                clear c11
                have H':=Aside0.mk H
                clear H
                go_wp2
                go_roundg kj7
                case measure=>have:=Y.1;have:=a3.1;omega
                case rel=>exact ⟨(wrap64 (B - 1)),(by first|rfl|(simp;done)|(simp [*];done)),H',⟨by have:=Y.1;have:=a3.1;omega⟩,⟨by repeat (first|(with_reducible first|exact C.1|apply below_alloc|apply pw_below_drewN|apply below_drew1)|exact C.1)⟩⟩
              · rw [if_neg c11] at H
                have c11b0:decide (D < (wrap64 (B * B)))=false:=decide_eq_false c11
                clear c11
                replace H:=Option.bind_eq_some_iff.mp H
                obtain ⟨J,b4,H⟩:=H
                replace H:(if J.isSome=true then ((some (([B]:List Int):List Int)).bind fun F=>(if F.length + (J.getD []).length < 17592186044416 then (some (some (F ++ J.getD []))) else (none))) else (sqN.l0 kj7 D I (wrap64 (B - 1))))=some r:=H
                have c1:=Aside0.mk b4
                clear b4
                by_cases c13:J.isSome=true
                · rw [if_pos c13] at H
                  obtain ⟨Q,e_⟩:=Option.isSome_iff_exists.mp c13
                  clear c13
                  subst e_
                  simp only [Option.getD_some] at H
                  obtain ⟨F,U⟩:∃ y_:List Int,y_=(([B]:List Int)):=⟨_,rfl⟩
                  replace H:(if F.length + Q.length < 17592186044416 then (some (some (F ++ Q))) else (none))=some r:=by first|(rw [U];with_reducible exact H)|(have L:=(Option.bind_some _ _).symm.trans H;rw [U];with_reducible exact L)|(have L:=(Option.bind_some _ _).symm.trans H;with_reducible exact L)|with_reducible exact H|(rw [U];exact H)|exact H
                  have a9:=Aside0.mk U
                  clear U
                  by_cases c14:F.length + Q.length < 17592186044416
                  · rw [if_pos c14] at H
                    have b7:=Aside0.mk c14
                    clear c14
                    obtain ⟨c6,V⟩:∃ y_:List Int,y_=(F ++ Q):=⟨_,rfl⟩
                    replace H:(some (some c6))=some r:=by first|(rw [V];with_reducible exact H)|(have L:=(Option.bind_some _ _).symm.trans H;rw [V];with_reducible exact L)|(have L:=(Option.bind_some _ _).symm.trans H;with_reducible exact L)|with_reducible exact H|(rw [V];exact H)|exact H
                    have b8:=Aside0.mk V
                    clear V
                    obtain rfl:=Option.some.inj H
                    go_wp2_with (first|((with_reducible refine gate_callee (f:=58) rfl ?_);refine goesL_ (some 41) rfl rfl Try.func58 (by kernel_rfl) rfl #[.int .i64 (wrap64 (D - (wrap64 (B * B)))),.int .i64 (wrap64 (I - 1)),.int .i64 B] rfl (by (try simp only [m0_,m1_,m2_]);first|done|rfl|(simp only [l0_,l1_];rfl)) ?_;(with_reducible refine (ih kj7 (by have:=Y.1;have:=a3.1;omega) (wrap64 (D - (wrap64 (B * B)))) (wrap64 (I - 1)) B (some Q) _ c1.1).mono ?_);rintro e d6 ⟨b5,rfl,c2,hb⟩;obtain ⟨Ad_,Ac_,ev_,a4⟩:=NilRow.open c2;clear c2;subst ev_;refine ⟨_,rfl,?_⟩;have O:=Aside0.mk (Kd.R_lower a4 (below_size (by repeat (first|(with_reducible first|exact C.1|apply below_alloc|apply pw_below_drewN|apply below_drew1)|exact C.1))));have G:=Aside0.mk (below_step (by repeat (first|(with_reducible first|exact C.1|apply below_alloc|apply pw_below_drewN|apply below_drew1)|exact C.1)) hb);clear C;have E:=O;have C:=G;clear O G;(try clear hb);(try clear hb2);(try clear hk);(try clear hi);(try clear a4))|((with_reducible refine gate_dst (N:=45) rfl ?_);refine Kd.R_lit (Kd.int .i64) _ 3 ?hg (N:=45) ?hd (xs:=([B]:List Int)) (inner:=[.int .i64 B]) (ok:=fun _=>True) (okp:=fun _=>True) ?hr ?hp (fun _ hk=>hk) trivial (Below.refl _ _) (Nat.le_refl _) (by simp) ?_;(case hd=>rfl);(case hg=>rfl);(case hr=>first|(go_simp;done)|(go_simp;rfl));(case hp=>exact (Reps.one (show Kd.M (Kd.int .i64) _ _ _ B [.int .i64 B] from rfl) (Reps.none _ _)));intro c7 d7 X hb hg_ T;clear hg_;have HNEW:=Aside0.mk T;clear T;(first|rw [← a9.1] at X|(simp only [Int.reduceToNat] at X;rw [← a9.1] at X));have O:=Aside0.mk (Kd.R_elder' (by (with_reducible repeat (first|apply Kd.R_alloc|apply Kd.R_drewN|apply Kd.R_drew));exact E.1) (Kd.R_base X) hb);have G:=Aside0.mk (Kd.R_lower (Kd.R_new' X (Kd.R_lt (by (with_reducible repeat (first|apply Kd.R_alloc|apply Kd.R_drewN|apply Kd.R_drew));exact E.1))) (below_size (by repeat (first|(with_reducible first|exact C.1|apply below_alloc|apply pw_below_drewN|apply below_drew1)|exact C.1))));have a6:=Aside0.mk (below_step (by repeat (first|(with_reducible first|exact C.1|apply below_alloc|apply pw_below_drewN|apply below_drew1)|exact C.1)) hb);clear E;clear C;have E:=O;have b0:=G;have C:=a6;clear O G a6;clear hb X)|((with_reducible refine gate_builtin (b:=.append) (xs:=#[.tmp 45,.tmp 46]) rfl ?_);at_builtin;refine Kd.R_append_rows (Kd.int .i64) (w0:=w) w.heap.size rfl (.tmp 45) (.tmp 46) 36 3 (.int .i64 0) 8 rfl Try.underlying36 info3 rfl (by decide) (by omega) c7 F Q _ _ _ (fun k_=>some k_ ≠ (.slice (some Ad_) Q.length Ac_:Value).ownBlock) (fun _=>False) rfl rfl ?aO ?aR (fun _ _ h=>h) (fun _ h=>h.elim) ?aF ?aB ?aS ?aL ?_;(case aR=>repeat (first|exact (Kd.R_reads' E.1).2.2|(with_reducible refine Kd.C_alloc ?_ _)|(with_reducible refine Kd.C_drewN ?_ _)|(with_reducible refine Kd.C_drew ?_)));(case aB=>exact (by repeat (first|(with_reducible first|exact C.1|apply below_alloc|apply pw_below_drewN|apply below_drew1)|exact C.1)));(case aF=>exact (fun k_ hk=>Kd.fresh' (Kd.R_lt (by (with_reducible repeat (first|apply Kd.R_alloc|apply Kd.R_drewN|apply Kd.R_drew));exact E.1)) k_ hk));(case aO=>exact (by (with_reducible repeat (first|apply Kd.R_alloc|apply Kd.R_drewN|apply Kd.R_drew));exact Kd.R_mono b0.1 (fun _ hk=>hk.2)));(case aS=>exact (below_size (by repeat (first|(with_reducible first|exact C.1|apply below_alloc|apply pw_below_drewN|apply below_drew1)|exact C.1))));(case aL=>have:=b7.1;omega);intro d5 d8 ho hb hg hat;have HAT:=Aside0.mk hat;rw [← b8.1] at ho;have O:=Aside0.mk (Kd.R_after (ok:=(fun _=>True)) (by (with_reducible repeat (first|apply Kd.R_alloc|apply Kd.R_drewN|apply Kd.R_drew));exact E.1) hg hat);have G:=Aside0.mk (hb);have a6:=Aside0.mk (ho);clear E;clear C;clear b0;have E:=O;have C:=G;have b9:=a6;clear O G a6;clear ho hb hg hat))
                    go_ret
                    exact ⟨_,by first|rfl|(simp [errW_none,errW_some] <;> rfl)|(simp [*,errW_none,errW_some] <;> rfl),⟨(HNEW.1.elim fun b_ h_=>HAT.1.elim (fun e_=>⟨b_,e_.trans h_.1⟩) (fun d0=>d0.elim fun d1 d2=>⟨d1,d2.1⟩)),(by (with_reducible repeat (first|apply Kd.R_alloc|apply Kd.R_drewN|apply Kd.R_drew));exact Kd.R_mono b9.1 (fun _ hk=>trivial))⟩,by repeat (first|(with_reducible first|exact C.1|apply below_alloc|apply pw_below_drewN|apply below_drew1)|exact C.1)⟩
                  · rw [if_neg c14] at H
                    exact absurd H (by simp)
                · rw [if_neg c13] at H
                  obtain e_:J=none:=by cases J with
                    | none=>rfl
                    | some z=>exact absurd rfl c13
                  clear c13
                  subst e_
                  have H':=Aside0.mk H
                  clear H
                  go_wp2_with (first|((with_reducible refine gate_callee (f:=58) rfl ?_);refine goesL_ (some 41) rfl rfl Try.func58 (by kernel_rfl) rfl #[.int .i64 (wrap64 (D - (wrap64 (B * B)))),.int .i64 (wrap64 (I - 1)),.int .i64 B] rfl (by (try simp only [m0_,m1_,m2_]);first|done|rfl|(simp only [l0_,l1_];rfl)) ?_;(with_reducible refine (ih kj7 (by have:=Y.1;have:=a3.1;omega) (wrap64 (D - (wrap64 (B * B)))) (wrap64 (I - 1)) B none _ c1.1).mono ?_);rintro e d9 ⟨b5,rfl,a4,hb⟩;(have ev_:b5=.slice none 0 0:=a4);clear a4;subst ev_;refine ⟨_,rfl,?_⟩;have G:=Aside0.mk (below_step (by repeat (first|(with_reducible first|exact C.1|apply below_alloc|apply pw_below_drewN|apply below_drew1)|exact C.1)) hb);clear C;have C:=G;clear G;(try clear hb);(try clear hb2);(try clear hk);(try clear hi);(try clear a4)))
                  go_roundg kj7
                  case measure=>have:=Y.1;have:=a3.1;omega
                  case rel=>exact ⟨(wrap64 (B - 1)),(by first|rfl|(simp;done)|(simp [*];done)),H',⟨by have:=Y.1;have:=a3.1;omega⟩,⟨by repeat (first|(with_reducible first|exact C.1|apply below_alloc|apply pw_below_drewN|apply below_drew1)|exact C.1)⟩⟩
            · replace a8:=Bool.eq_false_iff.mpr a8
              subst a8
              have H1:(some (none:Option (List Int)))=some r:=by rw [if_neg (show ¬ (false=true) by decide)] at H;exact H
              clear H
              have H:=H1
              clear H1
              obtain rfl:=Option.some.inj H
              go_wp2
              go_ret
              exact ⟨_,by first|rfl|(simp [errW_none,errW_some] <;> rfl)|(simp [*,errW_none,errW_some] <;> rfl),rfl,by repeat (first|(with_reducible first|exact C.1|apply below_alloc|apply pw_below_drewN|apply below_drew1)|exact C.1)⟩

def norm_squares.f (k:Nat) (a0 a1 a2:Int):Option (List Int):=if a1=0 then none else (sqN.f k a0 a1 a2).bind fun o=>some (o.getD [])
theorem norm_squares.mono:∀ a0 a1 a2 k,LeO (norm_squares.f k a0 a1 a2) (norm_squares.f (k + 1) a0 a1 a2):=by
  intro a0 a1 a2 k
  unfold norm_squares.f
  exact LeO.ite (LeO.none _) (LeO.bind (sqN.mono a0 a1 a2 k) (fun _=>LeO.refl _))
theorem norm_squares.calls (k:Nat) (a0:Int) (a1:Int) (a2:Int) (r:List Int) (w:World) (h:norm_squares.f k a0 a1 a2=some r) :
    Calls Try.prog 58 #[.int .i64 a0,.int .i64 a1,.int .i64 a2] w fun e w'=>∃ v0_:Value,e=.returned (v0_)∧Kd.R (Kd.int .i64) 3 w' w.heap.size (fun _=>True) v0_ r∧(r=[] → v0_=.slice none 0 0)∧Below w.heap.size w w':=by
  unfold norm_squares.f at h
  by_cases h0:a1=0
  · rw [if_pos h0] at h
    exact absurd h (by simp)
  · rw [if_neg h0] at h
    obtain ⟨o,ho,h⟩:=Option.bind_eq_some_iff.mp h
    obtain rfl:=Option.some.inj h
    refine (sqN.calls k a0 a1 a2 o w ho).mono ?_
    rintro e w' ⟨v,rfl,hn,hb⟩
    refine ⟨v,rfl,hn.row,?_,hb⟩
    intro e0
    cases o with
    | none=>exact hn
    | some l =>
      exfalso
      cases k with
      | zero=>exact absurd ho (by simp [sqN.f])
      | succ k =>
        simp only [sqN.f] at ho
        rw [if_neg h0] at ho
        exact (sqN.ne k).1 _ _ _ _ ho (by simpa using e0)

/-! ### norm_root: function 59 -/
def norm_root.l0:Nat → Int → Int → Option (Int)
  | 0,_,_=>none
  | k + 1,x0,x3=>if (wrap64 ((wrap64 (x3 + 1)) * (wrap64 (x3 + 1)))) ≤ x0 then (norm_root.l0 k x0 (wrap64 (x3 + 1))) else (some x3)
def norm_root.f (k:Nat) (a0:Int):Option (Int):=norm_root.l0 k a0 0
theorem norm_root.mono_l:∀ k,(∀ y0 y1,LeO (norm_root.l0 k y0 y1) (norm_root.l0 (k + 1) y0 y1))
  | 0=>fun _ _ r h=>by simp [norm_root.l0] at h
  | k + 1=>by
    have ih0:=norm_root.mono_l k
    · intro y0 y1
      unfold norm_root.l0
      with_reducible repeat' first|exact ih0 _ _|exact LeO.refl _|exact LeO.none _|refine LeO.ite ?_ ?_|refine LeO.bind ?_ (fun _=>?_)
theorem norm_root.mono:∀ a0 k,LeO (norm_root.f k a0) (norm_root.f (k + 1) a0):=by
  intro a0 k
  have ih0:=norm_root.mono_l k
  unfold norm_root.f
  with_reducible repeat' first|exact ih0 _ _|exact LeO.refl _|exact LeO.none _|refine LeO.ite ?_ ?_|refine LeO.bind ?_ (fun _=>?_)
set_option maxHeartbeats 8000000 in
set_option maxRecDepth 100000 in
theorem norm_root.calls (k:Nat) (C:Int) (r:Int) (w:World) (h:norm_root.f k C=some r) :
    Calls Try.prog 59 #[.int .i64 C] w fun e w'=>e=.returned (.int .i64 r)∧Drawn0 w w':=by
 have H:(norm_root.l0 k C 0)=some r:=h;clear h;have H':=mk0 H;clear H;go_enter Try.func59,Try.ntmps59;go_wp2
 go_loopg [3] k (fun kq E w'=>∃ (B:Int),E=.int .i64 B∧Aside0 (norm_root.l0 kq C B=some r)∧Aside0 (kq ≤ k)∧Drawn0 w w')
 case atStart=>exact ⟨(0),(by first|rfl|(simp;done)|(simp [*];done)),H',⟨Nat.le_refl _⟩,by repeat (first|exact Drawn0.refl _|apply Drawn0.step)⟩
 case round =>
  clear H';obtain ⟨B,rfl,HA,D,⟨F,rfl⟩⟩:=hrel;cases gk with
  | zero=>exact absurd HA.1 (by simp [norm_root.l0])
  | succ k1 =>
   have H:=HA.1;clear HA;simp only [norm_root.l0] at H
   by_cases c2:(wrap64 ((wrap64 (B + 1)) * (wrap64 (B + 1)))) ≤ C
   ·
    rw [if_pos c2] at H;have c2b0:decide ((wrap64 ((wrap64 (B + 1)) * (wrap64 (B + 1)))) ≤ C)=true:=decide_eq_true c2;clear c2;have H':=mk0 H;clear H;go_wp2;go_roundg k1
    case measure=>have:=D.1;omega
    case rel=>exact ⟨(wrap64 (B + 1)),(by first|rfl|(simp;done)|(simp [*];done)),H',⟨by have:=D.1;omega⟩,by repeat (first|exact Drawn0.refl _|apply Drawn0.step)⟩
   ·
    rw [if_neg c2] at H;have c2b0:decide ((wrap64 ((wrap64 (B + 1)) * (wrap64 (B + 1)))) ≤ C)=false:=decide_eq_false c2;clear c2;obtain rfl:=Option.some.inj H;go_wp2;go_ret;exact ⟨by first|rfl|(simp;done)|(simp [*];done),by repeat (first|exact Drawn0.refl _|apply Drawn0.step)⟩
/-! ### norm_Four: function 23 -/
def norm_Four.f (k:Nat) (a0:Int):Option (List Int × Int):=(norm_counted.f a0 0).bind fun t271=>(if t271=true then ((norm_root.f k a0).bind fun t272=>((norm_squares.f k a0 4 t272).bind fun t273=>(some (t273,0)))) else (some (([]:List Int),1)))
theorem norm_Four.mono:∀ a0 k,LeO (norm_Four.f k a0) (norm_Four.f (k + 1) a0):=by
  intro a0 k
  unfold norm_Four.f
  with_reducible repeat' first|exact norm_root.mono _ _|exact norm_squares.mono _ _ _ _|exact LeO.refl _|exact LeO.none _|refine LeO.ite ?_ ?_|refine LeO.bind ?_ (fun _=>?_)
set_option maxHeartbeats 8000000 in
set_option maxRecDepth 100000 in
theorem norm_Four.calls (k:Nat) (B:Int) (G:List Int) (I:Int) (w:World) (h:norm_Four.f k B=some (G,I)) :
    Calls Try.prog 23 #[.int .i64 B] w fun e w'=>∃ N:Value,e=.returned (.tuple #[N,.int .i64 I])∧Kd.R (Kd.int .i64) 3 w' w.heap.size (fun _=>True) N G∧Below w.heap.size w w':=by
 have E:=mk0 (Below.refl w.heap.size w);have H:((norm_counted.f B 0).bind fun F=>(if F=true then ((norm_root.f k B).bind fun C=>((norm_squares.f k B 4 C).bind fun D=>(some (D,0)))) else (some (([]:List Int),1))))=some (G,I):=h;clear h;replace H:=Option.bind_eq_some_iff.mp H;obtain ⟨F,O,H⟩:=H;(try dsimp only at H);have X:=mk0 O;clear O
 by_cases L:F=true
 ·
  subst L;have J:((norm_root.f k B).bind fun C=>((norm_squares.f k B 4 C).bind fun D=>(some (D,0))))=some (G,I):=by rw [if_pos rfl] at H;exact H
  clear H;have H:=J;clear J;replace H:=Option.bind_eq_some_iff.mp H;obtain ⟨C,Q,H⟩:=H;(try dsimp only at H);have Z:=mk0 Q;clear Q;replace H:=Option.bind_eq_some_iff.mp H;obtain ⟨D,T,H⟩:=H;(try dsimp only at H);have A5:=mk0 T;clear T;simp only [Option.some.injEq,Prod.mk.injEq] at H;obtain ⟨rfl,rfl⟩:=H;go_enter Try.func23,Try.ntmps23;go_wp2_with (first|((with_reducible refine gate_callee (f:=57) rfl ?_);refine goesL_ (some 5) rfl rfl Try.func57 (by kernel_rfl) rfl #[.int .i64 B,.int .i64 0] rfl (by (try simp only [m0_,m1_,m2_]);first|done|rfl|(simp only [l0_,l1_];rfl)) ?_;(with_reducible refine (norm_counted.calls B 0 true _ X.1).mono ?_);rintro e w' ⟨rfl,⟨nd,rfl⟩⟩;refine ⟨_,rfl,?_⟩)|((with_reducible refine gate_callee (f:=59) rfl ?_);refine goesL_ (some 9) rfl rfl Try.func59 (by kernel_rfl) rfl #[.int .i64 B] rfl (by (try simp only [m0_,m1_,m2_]);first|done|rfl|(simp only [l0_,l1_];rfl)) ?_;(with_reducible refine (norm_root.calls k B C _ Z.1).mono ?_);rintro e w' ⟨rfl,⟨nd,rfl⟩⟩;refine ⟨_,rfl,?_⟩)|((with_reducible refine gate_callee (f:=58) rfl ?_);refine goesL_ (some 10) rfl rfl Try.func58 (by kernel_rfl) rfl #[.int .i64 B,.int .i64 4,.int .i64 C] rfl (by (try simp only [m0_,m1_,m2_]);first|done|rfl|(simp only [l0_,l1_];rfl)) ?_;(with_reducible refine (norm_squares.calls k B 4 C D _ A5.1).mono ?_);rintro e w6 ⟨a2,rfl,U,Y,hb⟩;refine ⟨_,rfl,?_⟩;have M:=mk0 (Kd.R_lower U (below_size (by repeat (first|(with_reducible first|exact E.1|apply below_alloc|apply pw_below_drewN|apply below_drew1)|exact E.1))));have V:=mk0 (Y);replace E:=mk0 (below_step (by repeat (first|(with_reducible first|exact E.1|apply below_alloc|apply pw_below_drewN|apply below_drew1)|exact E.1)) hb);(try clear hb);(try clear U)));go_ret2;exact ⟨_,by first|rfl|(simp [errW_none,errW_some] <;> rfl)|(simp [*,errW_none,errW_some] <;> rfl),by (with_reducible repeat (first|apply Kd.R_alloc|apply Kd.R_drewN|apply Kd.R_drew));exact M.1,by repeat (first|(with_reducible first|exact E.1|apply below_alloc|apply pw_below_drewN|apply below_drew1)|exact E.1)⟩
 ·
  replace L:=Bool.eq_false_iff.mpr L;subst L;have J:(some (([]:List Int),1))=some (G,I):=by rw [if_neg (show ¬ (false=true) by decide)] at H;exact H
  clear H;have H:=J;clear J;simp only [Option.some.injEq,Prod.mk.injEq] at H;obtain ⟨rfl,rfl⟩:=H;go_enter Try.func23,Try.ntmps23;go_wp2_with (first|((with_reducible refine gate_callee (f:=57) rfl ?_);refine goesL_ (some 5) rfl rfl Try.func57 (by kernel_rfl) rfl #[.int .i64 B,.int .i64 0] rfl (by (try simp only [m0_,m1_,m2_]);first|done|rfl|(simp only [l0_,l1_];rfl)) ?_;(with_reducible refine (norm_counted.calls B 0 false _ X.1).mono ?_);rintro e w' ⟨rfl,⟨nd,rfl⟩⟩;refine ⟨_,rfl,?_⟩));go_ret2;exact ⟨_,by first|rfl|(simp [errW_none,errW_some] <;> rfl)|(simp [*,errW_none,errW_some] <;> rfl),by first|exact Kd.R_nil _ _ _ _ _|exact Kd.N_nil _ _ _ _ _|exact Kd.V_nil _ _ _ _ _|exact Kd.Q_nil _ _ _ _ _|exact Kd.S_nil _ _ _ _ _,by repeat (first|(with_reducible first|exact E.1|apply below_alloc|apply pw_below_drewN|apply below_drew1)|exact E.1)⟩
/-! ### norm_Three: function 24 -/
def norm_Three.f (k:Nat) (a0:Int):Option (List Int × Int):=(norm_counted.f a0 0).bind fun t276=>(if t276=true then ((norm_root.f k a0).bind fun t277=>((norm_squares.f k a0 3 t277).bind fun t278=>(if 0 < (t278.length:Int) then (some (t278,0)) else (some (([]:List Int),5))))) else (some (([]:List Int),1)))
theorem norm_Three.mono:∀ a0 k,LeO (norm_Three.f k a0) (norm_Three.f (k + 1) a0):=by
  intro a0 k
  unfold norm_Three.f
  with_reducible repeat' first|exact norm_root.mono _ _|exact norm_squares.mono _ _ _ _|exact LeO.refl _|exact LeO.none _|refine LeO.ite ?_ ?_|refine LeO.bind ?_ (fun _=>?_)
set_option maxHeartbeats 8000000 in
set_option maxRecDepth 100000 in
theorem norm_Three.calls (k:Nat) (C:Int) (O:List Int) (Q:Int) (w:World) (h:norm_Three.f k C=some (O,Q)) :
    Calls Try.prog 24 #[.int .i64 C] w fun e w'=>∃ X:Value,e=.returned (.tuple #[X,.int .i64 Q])∧Kd.R (Kd.int .i64) 3 w' w.heap.size (fun _=>True) X O∧Below w.heap.size w w':=by
 have E:=mk0 (Below.refl w.heap.size w);have H:((norm_counted.f C 0).bind fun L=>(if L=true then ((norm_root.f k C).bind fun D=>((norm_squares.f k C 3 D).bind fun B=>(if 0 < (B.length:Int) then (some (B,0)) else (some (([]:List Int),5))))) else (some (([]:List Int),1))))=some (O,Q):=h;clear h;replace H:=Option.bind_eq_some_iff.mp H;obtain ⟨L,Y,H⟩:=H;(try dsimp only at H);have A2:=mk0 Y;clear Y
 by_cases V:L=true
 ·
  subst V;have T:((norm_root.f k C).bind fun D=>((norm_squares.f k C 3 D).bind fun B=>(if 0 < (B.length:Int) then (some (B,0)) else (some (([]:List Int),5)))))=some (O,Q):=by rw [if_pos rfl] at H;exact H
  clear H;have H:=T;clear T;replace H:=Option.bind_eq_some_iff.mp H;obtain ⟨D,Z,H⟩:=H;(try dsimp only at H);have A4:=mk0 Z;clear Z;replace H:=Option.bind_eq_some_iff.mp H;obtain ⟨B,a1,H⟩:=H;(try dsimp only at H);have A5:=mk0 a1;clear a1
  by_cases c6:0 < (B.length:Int)
  ·
   rw [if_pos c6] at H;have c6b0:decide (0 < (B.length:Int))=true:=decide_eq_true c6;have c6b1:decide (0 < B.length)=true:=decide_eq_true (by omega);clear c6;simp only [Option.some.injEq,Prod.mk.injEq] at H;obtain ⟨rfl,rfl⟩:=H;go_enter Try.func24,Try.ntmps24;go_wp2_with (first|((with_reducible refine gate_callee (f:=57) rfl ?_);refine goesL_ (some 6) rfl rfl Try.func57 (by kernel_rfl) rfl #[.int .i64 C,.int .i64 0] rfl (by (try simp only [m0_,m1_,m2_]);first|done|rfl|(simp only [l0_,l1_];rfl)) ?_;(with_reducible refine (norm_counted.calls C 0 true _ A2.1).mono ?_);rintro e w' ⟨rfl,⟨nd,rfl⟩⟩;refine ⟨_,rfl,?_⟩)|((with_reducible refine gate_callee (f:=59) rfl ?_);refine goesL_ (some 10) rfl rfl Try.func59 (by kernel_rfl) rfl #[.int .i64 C] rfl (by (try simp only [m0_,m1_,m2_]);first|done|rfl|(simp only [l0_,l1_];rfl)) ?_;(with_reducible refine (norm_root.calls k C D _ A4.1).mono ?_);rintro e w' ⟨rfl,⟨nd,rfl⟩⟩;refine ⟨_,rfl,?_⟩)|((with_reducible refine gate_callee (f:=58) rfl ?_);refine goesL_ (some 11) rfl rfl Try.func58 (by kernel_rfl) rfl #[.int .i64 C,.int .i64 3,.int .i64 D] rfl (by (try simp only [m0_,m1_,m2_]);first|done|rfl|(simp only [l0_,l1_];rfl)) ?_;(with_reducible refine (norm_squares.calls k C 3 D B _ A5.1).mono ?_);rintro e w7 ⟨a3,rfl,J,U,hb⟩;refine ⟨_,rfl,?_⟩;have F:=mk0 (Kd.R_lower J (below_size (by repeat (first|(with_reducible first|exact E.1|apply below_alloc|apply pw_below_drewN|apply below_drew1)|exact E.1))));have G:=mk0 (U);replace E:=mk0 (below_step (by repeat (first|(with_reducible first|exact E.1|apply below_alloc|apply pw_below_drewN|apply below_drew1)|exact E.1)) hb);(try clear hb);(try clear J);obtain ⟨b0,b1,a7⟩:=Kd.R_slice F.1;subst a7;have M:0 ≤ (0:Int):=(by omega);have N:0 < (B.length:Int):=of_decide_eq_true (by first|(with_reducible assumption)|assumption);obtain ⟨a8,a4,I⟩:=Kd.at_int (Kd.R_reads' F.1).2.2 0 M N;cases a4;have a9:(0 < B.length)=True:=eq_true (by omega);(try rw [show ((0:Int)).toNat=0 from rfl] at I);(try rw [Addr.add_zero'] at I);replace M:=eq_true M;replace N:=eq_true N));go_ret2;exact ⟨_,by first|rfl|(simp [errW_none,errW_some] <;> rfl)|(simp [*,errW_none,errW_some] <;> rfl),by (with_reducible repeat (first|apply Kd.R_alloc|apply Kd.R_drewN|apply Kd.R_drew));exact F.1,by repeat (first|(with_reducible first|exact E.1|apply below_alloc|apply pw_below_drewN|apply below_drew1)|exact E.1)⟩
  ·
   rw [if_neg c6] at H;have c6b0:decide (0 < (B.length:Int))=false:=decide_eq_false c6;have c6b1:decide (0 < B.length)=false:=decide_eq_false (by omega);clear c6;simp only [Option.some.injEq,Prod.mk.injEq] at H;obtain ⟨rfl,rfl⟩:=H;go_enter Try.func24,Try.ntmps24;go_wp2_with (first|((with_reducible refine gate_callee (f:=57) rfl ?_);refine goesL_ (some 6) rfl rfl Try.func57 (by kernel_rfl) rfl #[.int .i64 C,.int .i64 0] rfl (by (try simp only [m0_,m1_,m2_]);first|done|rfl|(simp only [l0_,l1_];rfl)) ?_;(with_reducible refine (norm_counted.calls C 0 true _ A2.1).mono ?_);rintro e w' ⟨rfl,⟨nd,rfl⟩⟩;refine ⟨_,rfl,?_⟩)|((with_reducible refine gate_callee (f:=59) rfl ?_);refine goesL_ (some 10) rfl rfl Try.func59 (by kernel_rfl) rfl #[.int .i64 C] rfl (by (try simp only [m0_,m1_,m2_]);first|done|rfl|(simp only [l0_,l1_];rfl)) ?_;(with_reducible refine (norm_root.calls k C D _ A4.1).mono ?_);rintro e w' ⟨rfl,⟨nd,rfl⟩⟩;refine ⟨_,rfl,?_⟩)|((with_reducible refine gate_callee (f:=58) rfl ?_);refine goesL_ (some 11) rfl rfl Try.func58 (by kernel_rfl) rfl #[.int .i64 C,.int .i64 3,.int .i64 D] rfl (by (try simp only [m0_,m1_,m2_]);first|done|rfl|(simp only [l0_,l1_];rfl)) ?_;(with_reducible refine (norm_squares.calls k C 3 D B _ A5.1).mono ?_);rintro e w9 ⟨a3,rfl,J,U,hb⟩;refine ⟨_,rfl,?_⟩;have F:=mk0 (Kd.R_lower J (below_size (by repeat (first|(with_reducible first|exact E.1|apply below_alloc|apply pw_below_drewN|apply below_drew1)|exact E.1))));have G:=mk0 (U);replace E:=mk0 (below_step (by repeat (first|(with_reducible first|exact E.1|apply below_alloc|apply pw_below_drewN|apply below_drew1)|exact E.1)) hb);(try clear hb);(try clear J);have hz_:=G.1 (List.length_eq_zero_iff.mp (Nat.eq_zero_of_not_pos (of_decide_eq_false (show decide (0 < B.length)=false by assumption))));subst hz_));go_ret2;exact ⟨_,by first|rfl|(simp [errW_none,errW_some] <;> rfl)|(simp [*,errW_none,errW_some] <;> rfl),by first|exact Kd.R_nil _ _ _ _ _|exact Kd.N_nil _ _ _ _ _|exact Kd.V_nil _ _ _ _ _|exact Kd.Q_nil _ _ _ _ _|exact Kd.S_nil _ _ _ _ _,by repeat (first|(with_reducible first|exact E.1|apply below_alloc|apply pw_below_drewN|apply below_drew1)|exact E.1)⟩
 ·
  replace V:=Bool.eq_false_iff.mpr V;subst V;have T:(some (([]:List Int),1))=some (O,Q):=by rw [if_neg (show ¬ (false=true) by decide)] at H;exact H
  clear H;have H:=T;clear T;simp only [Option.some.injEq,Prod.mk.injEq] at H;obtain ⟨rfl,rfl⟩:=H;go_enter Try.func24,Try.ntmps24;go_wp2_with (first|((with_reducible refine gate_callee (f:=57) rfl ?_);refine goesL_ (some 6) rfl rfl Try.func57 (by kernel_rfl) rfl #[.int .i64 C,.int .i64 0] rfl (by (try simp only [m0_,m1_,m2_]);first|done|rfl|(simp only [l0_,l1_];rfl)) ?_;(with_reducible refine (norm_counted.calls C 0 false _ A2.1).mono ?_);rintro e w' ⟨rfl,⟨nd,rfl⟩⟩;refine ⟨_,rfl,?_⟩));go_ret2;exact ⟨_,by first|rfl|(simp [errW_none,errW_some] <;> rfl)|(simp [*,errW_none,errW_some] <;> rfl),by first|exact Kd.R_nil _ _ _ _ _|exact Kd.N_nil _ _ _ _ _|exact Kd.V_nil _ _ _ _ _|exact Kd.Q_nil _ _ _ _ _|exact Kd.S_nil _ _ _ _ _,by repeat (first|(with_reducible first|exact E.1|apply below_alloc|apply pw_below_drewN|apply below_drew1)|exact E.1)⟩
/-! ### bellpullref01_Before: function 60 -/
mutual
def bellpullref01_Before.l0:Nat → List Int → List Int → Int → Option (Bool)
  | 0,_,_,_=>none
  | k + 1,x0,x1,x5=>if x5 < (x0.length:Int) then (bellpullref01_Before.j1 k x0 x1 x5 (decide (x5 < (x1.length:Int)))) else (bellpullref01_Before.j1 k x0 x1 x5 false)
def bellpullref01_Before.j1:Nat → List Int → List Int → Int → Bool → Option (Bool)
  | 0,_,_,_,_=>none
  | k + 1,x0,x1,x5,x15=>if x15=true then (if 0 ≤ x5 then (if x5 < (x0.length:Int) then (if x5 < (x1.length:Int) then (if (rd x0 x5)=(rd x1 x5) then (bellpullref01_Before.l0 k x0 x1 (wrap64 (x5 + 1))) else (some (decide ((rd x0 x5) < (rd x1 x5))))) else (none)) else (none)) else (none)) else (some (decide ((x0.length:Int) < (x1.length:Int))))
end
def bellpullref01_Before.f (k:Nat) (l0:List Int) (l1:List Int):Option (Bool):=bellpullref01_Before.l0 k l0 l1 0
theorem bellpullref01_Before.mono_l:∀ k,(∀ y0 y1 y2,LeO (bellpullref01_Before.l0 k y0 y1 y2) (bellpullref01_Before.l0 (k + 1) y0 y1 y2))∧(∀ y0 y1 y2 y3,LeO (bellpullref01_Before.j1 k y0 y1 y2 y3) (bellpullref01_Before.j1 (k + 1) y0 y1 y2 y3))
  | 0=>⟨fun _ _ _ r h=>by simp [bellpullref01_Before.l0] at h,fun _ _ _ _ r h=>by simp [bellpullref01_Before.j1] at h⟩
  | k + 1=>by
    obtain ⟨ih0,ih1⟩:=bellpullref01_Before.mono_l k
    refine ⟨?_,?_⟩
    · intro y0 y1 y2
      unfold bellpullref01_Before.l0
      with_reducible repeat' first|exact ih0 _ _ _|exact ih1 _ _ _ _|exact LeO.refl _|exact LeO.none _|refine LeO.ite ?_ ?_|refine LeO.bind ?_ (fun _=>?_)
    · intro y0 y1 y2 y3
      unfold bellpullref01_Before.j1
      with_reducible repeat' first|exact ih0 _ _ _|exact ih1 _ _ _ _|exact LeO.refl _|exact LeO.none _|refine LeO.ite ?_ ?_|refine LeO.bind ?_ (fun _=>?_)
theorem bellpullref01_Before.mono:∀ a0 a1 k,LeO (bellpullref01_Before.f k a0 a1) (bellpullref01_Before.f (k + 1) a0 a1):=by
  intro a0 a1 k
  obtain ⟨ih0,ih1⟩:=bellpullref01_Before.mono_l k
  unfold bellpullref01_Before.f
  with_reducible repeat' first|exact ih0 _ _ _|exact ih1 _ _ _ _|exact LeO.refl _|exact LeO.none _|refine LeO.ite ?_ ?_|refine LeO.bind ?_ (fun _=>?_)
set_option maxHeartbeats 8000000 in
set_option maxRecDepth 100000 in
theorem bellpullref01_Before.calls (k:Nat) (A0:Option Addr) (c0:Nat) (D:List Int) (A1:Option Addr) (c1:Nat) (E:List Int) (r:Bool) (w:World) (a8:Kd.C (Kd.int .i64) w A0 D.length D) (a9:D.length ≤ c0) (b0:Kd.C (Kd.int .i64) w A1 E.length E) (b1:E.length ≤ c1) (h:bellpullref01_Before.f k D E=some r) :
    Calls Try.prog 60 #[.slice A0 D.length c0,.slice A1 E.length c1] w fun e w'=>e=.returned (.bool r)∧Drawn0 w w':=by
 have a0:=mk0 a8;have d0:=mk0 a9;clear a8 a9;have a1:=mk0 b0;have d1:=mk0 b1;clear b0 b1;have H:(bellpullref01_Before.l0 k D E 0)=some r:=h;clear h;have H':=mk0 H;clear H;go_enter Try.func60,Try.ntmps60;go_wp2;repeat (go_quiet (fail);try go_wp2)
 go_loopg [5] k (fun kq v5 w'=>∃ (B:Int),v5=.int .i64 B∧Aside0 (bellpullref01_Before.l0 kq D E B=some r)∧Aside0 (kq ≤ k)∧Drawn0 w w')
 case atStart=>exact ⟨(0),(by first|rfl|(simp;done)|(simp [*];done)),H',⟨Nat.le_refl _⟩,by repeat (first|exact Drawn0.refl _|apply Drawn0.step)⟩
 case round =>
  clear H';try clear c1
  try clear p2
  obtain ⟨B,rfl,HA,U,⟨m1,rfl⟩⟩:=hrel;cases gk with
  | zero=>exact absurd HA.1 (by simp [bellpullref01_Before.l0])
  | succ k1 =>
   have H:=HA.1;clear HA;simp only [bellpullref01_Before.l0] at H;have a2:=mk0 H;clear H;go_upto_region 2 with (fail);repeat (go_quiet (fail);go_upto_region 2 with (fail))
   go_cut [15] (fun c2 wc=>∃ (kq:Nat) (L:Bool),c2=.bool L∧Aside0 (bellpullref01_Before.j1 kq D E B L=some r)∧Aside0 (kq ≤ k1)∧Drawn0 w wc)
   case first =>
    have H:=a2.1;clear a2
    by_cases c4:B < (D.length:Int)
    ·
     rw [if_pos c4] at H;have c4b0:decide (B < (D.length:Int))=true:=decide_eq_true c4;clear c4;(first|rw [c4b0]|(simp only [i64_w,i32_w];rw [c4b0])|skip);have H':=mk0 H;clear H;go_wp2;repeat (go_quiet (fail);try go_wp2)
     go_meet
     case rel=>exact ⟨_,(decide (B < (E.length:Int))),(by first|rfl|(simp;done)|(simp [*];done)),H',⟨by have:=U.1;first|omega|exact Nat.le_refl _⟩,by repeat (first|exact Drawn0.refl _|apply Drawn0.step)⟩
    ·
     rw [if_neg c4] at H;have c4b0:decide (B < (D.length:Int))=false:=decide_eq_false c4;clear c4;(first|rw [c4b0]|(simp only [i64_w,i32_w];rw [c4b0])|skip);have H':=mk0 H;clear H;go_wp2;repeat (go_quiet (fail);try go_wp2)
     go_meet
     case rel=>exact ⟨_,(false),(by first|rfl|(simp;done)|(simp [*];done)),H',⟨by have:=U.1;first|omega|exact Nat.le_refl _⟩,by repeat (first|exact Drawn0.refl _|apply Drawn0.step)⟩
   case rest =>
    clear a2;try clear c1
    try clear p2
    try clear c4
    try clear c4b0
    try clear p2
    obtain ⟨kq,L,rfl,HA,b2,⟨d2,rfl⟩⟩:=hcut;cases kq with
    | zero=>exact absurd HA.1 (by simp [bellpullref01_Before.j1])
    | succ kj2 =>
     have H:=HA.1;clear HA;simp only [bellpullref01_Before.j1] at H
     by_cases c5:L=true
     ·
      subst c5;have H1:(if 0 ≤ B then (if B < (D.length:Int) then (if B < (E.length:Int) then (if (rd D B)=(rd E B) then (bellpullref01_Before.l0 kj2 D E (wrap64 (B + 1))) else (some (decide ((rd D B) < (rd E B))))) else (none)) else (none)) else (none))=some r:=by rw [if_pos rfl] at H;exact H
      clear H;have H:=H1;clear H1
      by_cases c6:0 ≤ B
      ·
       rw [if_pos c6] at H;have c6b0:decide (0 ≤ B)=true:=decide_eq_true c6;clear c6
       by_cases c7:B < (D.length:Int)
       ·
        rw [if_pos c7] at H;have c7b0:decide (B < (D.length:Int))=true:=decide_eq_true c7;clear c7
        by_cases c8:B < (E.length:Int)
        ·
         rw [if_pos c8] at H;have c8b0:decide (B < (E.length:Int))=true:=decide_eq_true c8;clear c8
         by_cases c9:(rd D B)=(rd E B)
         ·
          rw [if_pos c9] at H;have c9b0:((rd D B) == (rd E B))=true:=beq_iff_eq.mpr c9;have c9b1:((rd D B) != (rd E B))=false:=bne_eq_false_iff_eq.mpr c9;clear c9;have H':=mk0 H;clear H;have F:0 ≤ (B:Int):=of_decide_eq_true (by first|(with_reducible assumption)|assumption);have G:B < (D.length:Int):=of_decide_eq_true (by first|(with_reducible assumption)|assumption);obtain ⟨V,M,Y⟩:=Kd.at_int a0.1 B F G;cases M;replace F:=eq_true F;replace G:=eq_true G;have I:0 ≤ (B:Int):=of_decide_eq_true (by first|(with_reducible assumption)|assumption);have J:B < (E.length:Int):=of_decide_eq_true (by first|(with_reducible assumption)|assumption);obtain ⟨X,N,Z⟩:=Kd.at_int a1.1 B I J;cases N;replace I:=eq_true I;replace J:=eq_true J;go_wp2;repeat (go_quiet (fail);try go_wp2)
          go_roundg kj2
          case measure=>have:=U.1;have:=b2.1;omega
          case rel=>exact ⟨(wrap64 (B + 1)),(by first|rfl|(simp;done)|(simp [*];done)),H',⟨by have:=U.1;have:=b2.1;omega⟩,by repeat (first|exact Drawn0.refl _|apply Drawn0.step)⟩
         ·
          rw [if_neg c9] at H;have c9b0:((rd D B) == (rd E B))=false:=beq_eq_false_iff_ne.mpr c9;have c9b1:((rd D B) != (rd E B))=true:=bne_iff_ne.mpr c9;obtain rfl:=Option.some.inj H;have F:0 ≤ (B:Int):=of_decide_eq_true (by first|(with_reducible assumption)|assumption);have G:B < (D.length:Int):=of_decide_eq_true (by first|(with_reducible assumption)|assumption);obtain ⟨V,M,Y⟩:=Kd.at_int a0.1 B F G;cases M;replace F:=eq_true F;replace G:=eq_true G;have I:0 ≤ (B:Int):=of_decide_eq_true (by first|(with_reducible assumption)|assumption);have J:B < (E.length:Int):=of_decide_eq_true (by first|(with_reducible assumption)|assumption);obtain ⟨X,N,Z⟩:=Kd.at_int a1.1 B I J;cases N;replace I:=eq_true I;replace J:=eq_true J;have O:0 ≤ (B:Int):=of_decide_eq_true (by first|(with_reducible assumption)|assumption);have Q:B < (D.length:Int):=of_decide_eq_true (by first|(with_reducible assumption)|assumption);obtain ⟨a6,b3,b5⟩:=Kd.at_int a0.1 B O Q;obtain rfl:V=a6:=(by injection b3)
          replace O:=eq_true O;replace Q:=eq_true Q;have R:0 ≤ (B:Int):=of_decide_eq_true (by first|(with_reducible assumption)|assumption);have T:B < (E.length:Int):=of_decide_eq_true (by first|(with_reducible assumption)|assumption);obtain ⟨a7,b4,b6⟩:=Kd.at_int a1.1 B R T;obtain rfl:X=a7:=(by injection b4)
          replace R:=eq_true R;replace T:=eq_true T;go_wp2;repeat (go_quiet (fail);try go_wp2)
          go_ret;exact ⟨by first|rfl|(simp;done)|(simp [*];done),by repeat (first|exact Drawn0.refl _|apply Drawn0.step)⟩
        ·
         rw [if_neg c8] at H;exact absurd H (by simp)
       ·
        rw [if_neg c7] at H;exact absurd H (by simp)
      ·
       rw [if_neg c6] at H;exact absurd H (by simp)
     ·
      replace c5:=Bool.eq_false_iff.mpr c5;subst c5;have H1:(some (decide ((D.length:Int) < (E.length:Int))))=some r:=by rw [if_neg (show ¬ (false=true) by decide)] at H;exact H
      clear H;have H:=H1;clear H1;obtain rfl:=Option.some.inj H;go_wp2;repeat (go_quiet (fail);try go_wp2)
      go_ret;exact ⟨by first|rfl|(simp;done)|(simp [*];done),by repeat (first|exact Drawn0.refl _|apply Drawn0.step)⟩
/-! ### bellpullref01_Same: function 26 -/
def bellpullref01_Same.f (k:Nat) (l0:List Int) (l1:List Int):Option (Bool):=(bellpullref01_Before.f k l0 l1).bind fun t286=>(if t286=true then (some false) else ((bellpullref01_Before.f k l1 l0).bind fun t287=>(some (!t287))))
theorem bellpullref01_Same.mono:∀ a0 a1 k,LeO (bellpullref01_Same.f k a0 a1) (bellpullref01_Same.f (k + 1) a0 a1):=by
  intro a0 a1 k
  unfold bellpullref01_Same.f
  with_reducible repeat' first|exact bellpullref01_Before.mono _ _ _|exact LeO.refl _|exact LeO.none _|refine LeO.ite ?_ ?_|refine LeO.bind ?_ (fun _=>?_)
set_option maxHeartbeats 8000000 in
set_option maxRecDepth 100000 in
theorem bellpullref01_Same.calls (k:Nat) (N:Option Addr) (O:Nat) (B:List Int) (Q:Option Addr) (R:Nat) (D:List Int) (r:Bool) (w:World) (U:Kd.C (Kd.int .i64) w N B.length B) (V:B.length ≤ O) (X:Kd.C (Kd.int .i64) w Q D.length D) (Y:D.length ≤ R) (h:bellpullref01_Same.f k B D=some r) :
    Calls Try.prog 26 #[.slice N B.length O,.slice Q D.length R] w fun e w'=>e=.returned (.bool r)∧Drawn0 w w':=by
 have G:=mk0 U;have I:=mk0 V;clear U V;have J:=mk0 X;have L:=mk0 Y;clear X Y;have H:((bellpullref01_Before.f k B D).bind fun F=>(if F=true then (some false) else ((bellpullref01_Before.f k D B).bind fun E=>(some (!E)))))=some r:=h;clear h;replace H:=Option.bind_eq_some_iff.mp H;obtain ⟨F,Z,H⟩:=H;(try dsimp only at H);have A3:=mk0 Z;clear Z
 by_cases T:F=true
 ·
  subst T;have M:(some false)=some r:=by rw [if_pos rfl] at H;exact H
  clear H;have H:=M;clear M;obtain rfl:=Option.some.inj H;go_enter Try.func26,Try.ntmps26;go_wp2_with (first|((with_reducible refine gate_callee (f:=60) rfl ?_);refine goesL_ (some 7) rfl rfl Try.func60 (by kernel_rfl) rfl #[.slice N B.length O,.slice Q D.length R] rfl (by (try simp only [m0_,m1_,m2_]);first|done|rfl|(simp only [l0_,l1_];rfl)) ?_;(with_reducible refine (bellpullref01_Before.calls k _ _ B _ _ D true _ ?side1 ?side2 ?side3 ?side4 A3.1).mono ?_);(case side1=>repeat (first|exact G.1|(with_reducible refine Kd.C_alloc ?_ _)|(with_reducible refine Kd.C_drewN ?_ _)|(with_reducible refine Kd.C_drew ?_)));(case side2=>exact I.1);(case side3=>repeat (first|exact J.1|(with_reducible refine Kd.C_alloc ?_ _)|(with_reducible refine Kd.C_drewN ?_ _)|(with_reducible refine Kd.C_drew ?_)));(case side4=>exact L.1);rintro e w' ⟨rfl,⟨nd,rfl⟩⟩;refine ⟨_,rfl,?_⟩));go_ret;exact ⟨by first|rfl|(simp;done)|(simp [*];done),by repeat (first|exact Drawn0.refl _|apply Drawn0.step)⟩
 ·
  replace T:=Bool.eq_false_iff.mpr T;subst T;have M:((bellpullref01_Before.f k D B).bind fun E=>(some (!E)))=some r:=by rw [if_neg (show ¬ (false=true) by decide)] at H;exact H
  clear H;have H:=M;clear M;replace H:=Option.bind_eq_some_iff.mp H;obtain ⟨E,a0,H⟩:=H;(try dsimp only at H);have A5:=mk0 a0;clear a0;obtain rfl:=Option.some.inj H;go_enter Try.func26,Try.ntmps26;go_wp2_with (first|((with_reducible refine gate_callee (f:=60) rfl ?_);refine goesL_ (some 7) rfl rfl Try.func60 (by kernel_rfl) rfl #[.slice N B.length O,.slice Q D.length R] rfl (by (try simp only [m0_,m1_,m2_]);first|done|rfl|(simp only [l0_,l1_];rfl)) ?_;(with_reducible refine (bellpullref01_Before.calls k _ _ B _ _ D false _ ?side1 ?side2 ?side3 ?side4 A3.1).mono ?_);(case side1=>repeat (first|exact G.1|(with_reducible refine Kd.C_alloc ?_ _)|(with_reducible refine Kd.C_drewN ?_ _)|(with_reducible refine Kd.C_drew ?_)));(case side2=>exact I.1);(case side3=>repeat (first|exact J.1|(with_reducible refine Kd.C_alloc ?_ _)|(with_reducible refine Kd.C_drewN ?_ _)|(with_reducible refine Kd.C_drew ?_)));(case side4=>exact L.1);rintro e w' ⟨rfl,⟨nd,rfl⟩⟩;refine ⟨_,rfl,?_⟩)|(go_at_call 60;(with_reducible refine (bellpullref01_Before.calls k _ _ D _ _ B E _ ?side1 ?side2 ?side3 ?side4 A5.1).mono ?_);(case side1=>repeat (first|exact J.1|(with_reducible refine Kd.C_alloc ?_ _)|(with_reducible refine Kd.C_drewN ?_ _)|(with_reducible refine Kd.C_drew ?_)));(case side2=>exact L.1);(case side3=>repeat (first|exact G.1|(with_reducible refine Kd.C_alloc ?_ _)|(with_reducible refine Kd.C_drewN ?_ _)|(with_reducible refine Kd.C_drew ?_)));(case side4=>exact I.1);rintro e w' ⟨rfl,⟨nd,rfl⟩⟩));go_ret;exact ⟨by first|rfl|(simp;done)|(simp [*];done),by repeat (first|exact Drawn0.refl _|apply Drawn0.step)⟩
/-! ### slices_IndexFunc_int_int: function 80 -/
/-- A bool function value: called at x, in every later world, it tells p x and lays at most new memory. -/
def Tells (g:Nat) (lb:Array Value) (p:Int → Bool) (w:World):Prop :=
  ∀ (W:World) (x:Int),Below w.heap.size w W → Calls Try.prog g (#[.int .i64 x] ++ lb) W fun e w'=>e=.returned (.bool (p x))∧Below W.heap.size W w'

def idxF (p:Int → Bool) (l:List Int):Int:=match l.findIdx? p with|some i=>(i:Int)|none=>-1
theorem idxF_some (p:Int → Bool) (l:List Int) (k:Nat) (hk:k < l.length) (h:p (rd l (k:Int))=true) (hb:∀ j,j < k → p (rd l (j:Int))=false):idxF p l=(k:Int):=by
  have:l.findIdx? p=some k:=by
    rw [List.findIdx?_eq_some_iff_getElem]
    refine ⟨hk,?_,fun j hj=>?_⟩
    · simpa [rd,List.getD_eq_getElem?_getD,List.getElem?_eq_getElem hk] using h
    · have hjl:j < l.length:=by omega
      have:=hb j hj
      simpa [rd,List.getD_eq_getElem?_getD,List.getElem?_eq_getElem hjl] using this
  simp [idxF,this]
theorem idxF_none (p:Int → Bool) (l:List Int) (hb:∀ j,j < l.length → p (rd l (j:Int))=false):idxF p l=-1:=by
  have:l.findIdx? p=none:=by
    rw [List.findIdx?_eq_none_iff]
    intro x hx
    obtain ⟨j,hj,rfl⟩:=List.getElem_of_mem hx
    have:=hb j hj
    simpa [rd,List.getD_eq_getElem?_getD,List.getElem?_eq_getElem hj] using this
  simp [idxF,this]
theorem idxF_some' (p:Int → Bool) (l:List Int) (i:Int) (h0:0 ≤ i) (h1:i < (l.length:Int)) (h:p (rd l i)=true) (hb:∀ j,j < i.toNat → p (rd l (j:Int))=false):idxF p l=i:=by
  obtain ⟨k,rfl⟩:=Int.eq_ofNat_of_zero_le h0
  exact idxF_some p l k (by omega) h (by simpa using hb)
theorem idxF_any (p:Int → Bool) (l:List Int):l.any p=decide (0 ≤ idxF p l):=by
  unfold idxF
  rcases h:l.findIdx? p with _|i
  · rw [List.findIdx?_eq_none_iff] at h
    rw [show l.any p=false from by rw [List.any_eq_false];exact fun x hx=>by simpa using h x hx]
    rfl
  · rw [List.findIdx?_eq_some_iff_getElem] at h
    obtain ⟨hi,hp,_⟩:=h
    rw [show l.any p=true from List.any_eq_true.mpr ⟨_,List.getElem_mem hi,hp⟩]
    simp
/-- What a round knows. -/
def Sofar (p:Int → Bool) (l:List Int) (k:Nat):Prop:=∀ j,j < k → p (rd l (j:Int))=false
theorem Sofar.zero (p:Int → Bool) (l:List Int):Sofar p l 0:=fun j hj=>absurd hj (by omega)
theorem Sofar.succ {p:Int → Bool} {l:List Int} {k:Nat} (h:Sofar p l k) (hk:p (rd l (k:Int))=false):Sofar p l (k + 1):=fun j hj=>by
  by_cases e:j=k
  · subst e;exact hk
  · exact h j (by omega)

set_option maxHeartbeats 1000000 in
set_option maxRecDepth 100000 in
theorem IndexFunc_int.calls (g:Nat) (lb:Array Value) (p:Int → Bool) (L:Option Addr) (M:Nat) (B:List Int) (w:World) (F:Kd.C (Kd.int .i64) w L B.length B) (N:B.length ≤ M)
    (eg:∀ args w,(callFunc g args).run Try.prog w=.ok (.enter g args) w) (hp:Tells g lb p w) :
    Calls Try.prog 80 #[.slice L B.length M,.func (.func g) #[] lb] w fun e w'=>e=.returned (.int .i64 (idxF p B))∧Below w.heap.size w w':=by
  have O:=Aside0.mk F
  have hlen:B.length ≤ 9223372036854775807:=F.2.1
  clear F N
  have HP:=Aside0.mk hp
  clear hp
  go_enter Try.func80,Try.ntmps80
  go_wp2
  go_loopw [8] (fun J w'=>∃ i:Int,J=.int .i64 i∧Aside0 (0 ≤ i∧i ≤ B.length)∧Aside0 (Sofar p B i.toNat)∧Aside0 (Below w.heap.size w w')) (fun J _=>B.length - (intOf J).toNat)
  case atStart=>exact ⟨0,rfl,⟨by omega,by omega⟩,⟨Sofar.zero _ _⟩,⟨Below.refl _ _⟩⟩
  case round =>
    obtain ⟨i,rfl,HI,HS,D⟩:=hrel
    by_cases hlt:i < (B.length:Int)
    · have I:0 ≤ i:=HI.1.1
      obtain ⟨ad,e,hx⟩:=Kd.at_int O.1 i I hlt
      cases e
      replace hx:=(D.1.cell (World.block_lt_of_cell? w _ hx)).trans hx
      have hd:decide (i < (B.length:Int))=true:=decide_eq_true hlt
      replace I:=eq_true I
      replace hlt:=eq_true hlt
      have hw:wrap64 (i + 1)=i + 1:=by have:=HI.1;have h:=of_eq_true hlt;unfold wrap64;omega
      have HW:=Aside0.mk hw
      clear hw
      by_cases hb:p (rd B i)=true
      · have HF:=Aside0.mk (idxF_some' p B i (of_eq_true I) (of_eq_true hlt) hb HS.1)
        have HT:=Aside0.mk hb
        clear hb
        go_wp2_with (fail)
        refine (HP.1 _ _ D.1).mono ?_
        rintro e Q ⟨rfl,E⟩
        rw [HT.1]
        have G:=Aside0.mk E
        clear E
        go_wp2
        go_ret
        exact ⟨by first|(rw [HF.1];done)|(rw [HF.1];rfl),D.1.trans (G.1.mono D.1.size)⟩
      · have HT:=Aside0.mk (Bool.eq_false_iff.mpr hb)
        clear hb
        go_wp2_with (fail)
        refine (HP.1 _ _ D.1).mono ?_
        rintro e Q ⟨rfl,E⟩
        rw [HT.1]
        have G:=Aside0.mk E
        clear E
        go_wp2
        go_roundw
        case rel=>exact ⟨_,rfl,⟨by rw [HW.1];have:=HI.1;have:=of_eq_true hlt;omega⟩,⟨by rw [HW.1];have:=HI.1;rw [show (i + 1).toNat=i.toNat + 1 by omega];exact HS.1.succ (by rw [Int.toNat_of_nonneg this.1];exact HT.1)⟩,⟨D.1.trans (G.1.mono D.1.size)⟩⟩
        case measure=>simp only [intOf];have:=HW.1;have:=HI.1;have:=of_eq_true hlt;omega
    · have hd:decide (i < (B.length:Int))=false:=decide_eq_false hlt
      have HF:=Aside0.mk (idxF_none p B (fun j hj=>HS.1 j (by have:=HI.1;omega)))
      clear hlt
      go_wp2
      go_ret
      exact ⟨by first|(rw [HF.1];done)|(rw [HF.1];rfl),D.1⟩


end Go.Proofs.Ytgfnmimfoicmmaa.PM
