-- Written by pr2.py, a program of this session's, for this claim (through the kit's print).
import Derived.Test.YtgfnmimfoicmmaaPMx0
import Derived.Test.YtgfnmimfoicmmaaPMx2
import Derived.Test.YtgfnmimfoicmmaaPMx3
import Derived.Test.YtgfnmimfoicmmaaPMx4
import Derived.Test.YtgfnmimfoicmmaaPMx5
namespace Go.Proofs.Ytgfnmimfoicmmaa.PM
open Go.Proofs.MyWords Go.RowKit Go.Proofs.YtgfnmimfoicmmaaW.PrintWords Go.Proofs.YtgfnmimfoicmmaaW.PrintLast Go.Proofs.YtgfnmimfoicmmaaW.PrintMore
attribute [local go_sem] max2_int min2_int max_two min_two max_three min_three max_four min_four   -- for this text's walks alone
set_option linter.unusedVariables false
set_option linter.unusedSimpArgs false

attribute [local go_sem] idx67_0 idx67_1 idx67_2 idx67_3
attribute [local go_sem] eqGuard_slices eqlnil36 neqnil36
attribute [local go_sem high] eqA67
/-! ### norm_Gcd: function 21 -/
mutual
def norm_Gcd.j0:Nat → Bool → Int → Int → Int → Int → Int → Int → Int → Int → Option (Int × Int × Int × Int × Int)
  | 0,_,_,_,_,_,_,_,_,_=>none
  | k + 1,x34,x241000,x241001,x241002,x241003,x242000,x242001,x242002,x242003=>if x34=true then (some (0,0,0,0,5)) else (norm_Gcd.l0 k x241000 x241001 x241002 x241003 x242000 x242001 x242002 x242003)
def norm_Gcd.l0:Nat → Int → Int → Int → Int → Int → Int → Int → Int → Option (Int × Int × Int × Int × Int)
  | 0,_,_,_,_,_,_,_,_=>none
  | k + 1,x241000,x241001,x241002,x241003,x242000,x242001,x242002,x242003=>if (!(x242000 == 0) || (!(x242001 == 0) || (!(x242002 == 0) || (!(x242003 == 0)))))=true then ((norm_divide.f k x241000 x241001 x241002 x241003 x242000 x242001 x242002 x242003).bind fun bt242=>(norm_Gcd.l0 k x242000 x242001 x242002 x242003 bt242.2.2.2.2.1 bt242.2.2.2.2.2.1 bt242.2.2.2.2.2.2.1 bt242.2.2.2.2.2.2.2)) else ((norm_units.f k).bind fun t253=>(norm_Gcd.l1 k t253 (t253.length:Int) 0 x241000 x241001 x241002 x241003 x241000 x241001 x241002 x241003))
def norm_Gcd.l1:Nat → List (S67) → Int → Int → Int → Int → Int → Int → Int → Int → Int → Int → Option (Int × Int × Int × Int × Int)
  | 0,_,_,_,_,_,_,_,_,_,_,_=>none
  | k + 1,x48,x49,x50,x241000,x241001,x241002,x241003,x253000,x253001,x253002,x253003=>if x50 < x49 then (if 0 ≤ x50 then (if x50 < (x48.length:Int) then ((norm_product.f k (([(⟨(rd_T67 x48 x50).f0,(rd_T67 x48 x50).f1,(rd_T67 x48 x50).f2,(rd_T67 x48 x50).f3⟩:S67),(⟨x241000,x241001,x241002,x241003⟩:S67)]:List (S67)))).bind fun bt265=>((slices_Compare_int_int.f k [bt265.1,bt265.2.1,bt265.2.2.1,bt265.2.2.2] [x253000,x253001,x253002,x253003]).bind fun t270=>(if t270 > 0 then (norm_Gcd.l1 k x48 x49 (wrap64 (x50 + 1)) x241000 x241001 x241002 x241003 bt265.1 bt265.2.1 bt265.2.2.1 bt265.2.2.2) else (norm_Gcd.l1 k x48 x49 (wrap64 (x50 + 1)) x241000 x241001 x241002 x241003 x253000 x253001 x253002 x253003)))) else (none)) else (none)) else ((norm_quat_api.f x253000 x253001 x253002 x253003).bind fun bt256=>(some (bt256.1,bt256.2.1,bt256.2.2.1,bt256.2.2.2,0)))
end
def norm_Gcd.f (k:Nat) (a0_0:Int) (a0_1:Int) (a0_2:Int) (a0_3:Int) (a1_0:Int) (a1_1:Int) (a1_2:Int) (a1_3:Int):Option (Int × Int × Int × Int × Int):=(norm_check.f k (([(⟨a0_0,a0_1,a0_2,a0_3⟩:S23),(⟨a1_0,a1_1,a1_2,a1_3⟩:S23)]:List (S23)))).bind fun t231=>(if t231=0 then ((norm_of.f a0_0 a0_1 a0_2 a0_3).bind fun bt232=>((norm_of.f a1_0 a1_1 a1_2 a1_3).bind fun bt236=>(if (bt232.1 == 0 && (bt232.2.1 == 0 && (bt232.2.2.1 == 0 && (bt232.2.2.2 == 0))))=true then (norm_Gcd.j0 k (bt236.1 == 0 && (bt236.2.1 == 0 && (bt236.2.2.1 == 0 && (bt236.2.2.2 == 0)))) bt232.1 bt232.2.1 bt232.2.2.1 bt232.2.2.2 bt236.1 bt236.2.1 bt236.2.2.1 bt236.2.2.2) else (norm_Gcd.j0 k false bt232.1 bt232.2.1 bt232.2.2.1 bt232.2.2.2 bt236.1 bt236.2.1 bt236.2.2.1 bt236.2.2.2)))) else (some (0,0,0,0,t231)))
theorem norm_Gcd.mono_l:∀ k,(∀ B C D E F G I J L,LeO (norm_Gcd.j0 k B C D E F G I J L) (norm_Gcd.j0 (k + 1) B C D E F G I J L))∧(∀ B C D E F G I J,LeO (norm_Gcd.l0 k B C D E F G I J) (norm_Gcd.l0 (k + 1) B C D E F G I J))∧(∀ B C D E F G I J L R M,LeO (norm_Gcd.l1 k B C D E F G I J L R M) (norm_Gcd.l1 (k + 1) B C D E F G I J L R M))
  | 0=>⟨fun _ _ _ _ _ _ _ _ _ r h=>by simp [norm_Gcd.j0] at h,fun _ _ _ _ _ _ _ _ r h=>by simp [norm_Gcd.l0] at h,fun _ _ _ _ _ _ _ _ _ _ _ r h=>by simp [norm_Gcd.l1] at h⟩
  | k + 1=>by
    obtain ⟨N,O,Q⟩:=norm_Gcd.mono_l k
    refine ⟨?_,?_,?_⟩
    · intro B C D E F G I J L
      unfold norm_Gcd.j0
      with_reducible repeat' first|exact N _ _ _ _ _ _ _ _ _|exact O _ _ _ _ _ _ _ _|exact Q _ _ _ _ _ _ _ _ _ _ _|exact norm_check.mono _ _|exact norm_divide.mono _ _ _ _ _ _ _ _ _|exact norm_product.mono _ _|exact norm_units.mono _|exact slices_Compare_int_int.mono _ _ _|exact LeO.refl _|exact LeO.none _|refine LeO.ite ?_ ?_|refine LeO.bind ?_ (fun _=>?_)
    · intro B C D E F G I J
      unfold norm_Gcd.l0
      with_reducible repeat' first|exact N _ _ _ _ _ _ _ _ _|exact O _ _ _ _ _ _ _ _|exact Q _ _ _ _ _ _ _ _ _ _ _|exact norm_check.mono _ _|exact norm_divide.mono _ _ _ _ _ _ _ _ _|exact norm_product.mono _ _|exact norm_units.mono _|exact slices_Compare_int_int.mono _ _ _|exact LeO.refl _|exact LeO.none _|refine LeO.ite ?_ ?_|refine LeO.bind ?_ (fun _=>?_)
    · intro B C D E F G I J L R M
      unfold norm_Gcd.l1
      with_reducible repeat' first|exact N _ _ _ _ _ _ _ _ _|exact O _ _ _ _ _ _ _ _|exact Q _ _ _ _ _ _ _ _ _ _ _|exact norm_check.mono _ _|exact norm_divide.mono _ _ _ _ _ _ _ _ _|exact norm_product.mono _ _|exact norm_units.mono _|exact slices_Compare_int_int.mono _ _ _|exact LeO.refl _|exact LeO.none _|refine LeO.ite ?_ ?_|refine LeO.bind ?_ (fun _=>?_)
theorem norm_Gcd.mono:∀ a0 a1 a2 a3 a4 a5 a6 a7 k,LeO (norm_Gcd.f k a0 a1 a2 a3 a4 a5 a6 a7) (norm_Gcd.f (k + 1) a0 a1 a2 a3 a4 a5 a6 a7):=by
  intro a0 a1 a2 a3 a4 a5 a6 a7 k
  obtain ⟨ih0,ih1,ih2⟩:=norm_Gcd.mono_l k
  unfold norm_Gcd.f
  with_reducible repeat' first|exact ih0 _ _ _ _ _ _ _ _ _|exact ih1 _ _ _ _ _ _ _ _|exact ih2 _ _ _ _ _ _ _ _ _ _ _|exact norm_check.mono _ _|exact norm_divide.mono _ _ _ _ _ _ _ _ _|exact norm_product.mono _ _|exact norm_units.mono _|exact slices_Compare_int_int.mono _ _ _|exact LeO.refl _|exact LeO.none _|refine LeO.ite ?_ ?_|refine LeO.bind ?_ (fun _=>?_)
def norm_Gcd.T4:Bool × List (List Nat × List Nat):=(true,[([],[]),([0],[0]),([],[]),([2,1],[2]),([],[]),([],[]),([4,1,3,0,1,4,5],[1,4]),([5,3,6,0,1,2,3,4,5,6],[3,5])])
def norm_Gcd.B4:List Nat:=[0,1,0,7,0,0,63,127]
theorem norm_Gcd.tab4:rtab .any (opsOf Try.f21 4)=norm_Gcd.T4:=by kernel_rfl
theorem norm_Gcd.bits4:waitsOk norm_Gcd.T4.2 norm_Gcd.B4=true:=by kernel_rfl
set_option maxHeartbeats 8000000 in
set_option maxRecDepth 100000 in
theorem norm_Gcd.calls (k:Nat) (c0:Int) (c2:Int) (d0:Int) (d1:Int) (d2:Int) (d3:Int) (d4:Int) (d5:Int) (r1:Int) (r2:Int) (r3:Int) (r4:Int) (r5:Int) (w:World) (h:norm_Gcd.f k c0 c2 d0 d1 d2 d3 d4 d5=some (r1,r2,r3,r4,r5)) :
    Calls Try.prog 21 #[.agg #[.int .i64 c0,.int .i64 c2,.int .i64 d0,.int .i64 d1],.agg #[.int .i64 d2,.int .i64 d3,.int .i64 d4,.int .i64 d5]] w fun e w'=>e=.returned (.tuple #[.agg #[.int .i64 r1,.int .i64 r2,.int .i64 r3,.int .i64 r4],.int .i64 r5])∧Below w.heap.size w w':=by
 have Mk:=Try.underlying23;have Ml:=Try.underlying67;have V:=mk0 (Below.refl w.heap.size w);have H:((norm_check.f k (([(⟨c0,c2,d0,d1⟩:S23),(⟨d2,d3,d4,d5⟩:S23)]:List (S23)))).bind fun j3=>(if j3=0 then ((norm_of.f c0 c2 d0 d1).bind fun g3=>((norm_of.f d2 d3 d4 d5).bind fun g4=>(if (g3.1 == 0 && (g3.2.1 == 0 && (g3.2.2.1 == 0 && (g3.2.2.2 == 0))))=true then (norm_Gcd.j0 k (g4.1 == 0 && (g4.2.1 == 0 && (g4.2.2.1 == 0 && (g4.2.2.2 == 0)))) g3.1 g3.2.1 g3.2.2.1 g3.2.2.2 g4.1 g4.2.1 g4.2.2.1 g4.2.2.2) else (norm_Gcd.j0 k false g3.1 g3.2.1 g3.2.2.1 g3.2.2.2 g4.1 g4.2.1 g4.2.2.1 g4.2.2.2)))) else (some (0,0,0,0,j3))))=some (r1,r2,r3,r4,r5):=h;clear h;obtain ⟨g9,t3⟩:∃ y_:List (S23),y_=(([(⟨c0,c2,d0,d1⟩:S23),(⟨d2,d3,d4,d5⟩:S23)]:List (S23))):=⟨_,rfl⟩
 replace H:((norm_check.f k g9).bind fun j3=>(if j3=0 then ((norm_of.f c0 c2 d0 d1).bind fun g3=>((norm_of.f d2 d3 d4 d5).bind fun g4=>(if (g3.1 == 0 && (g3.2.1 == 0 && (g3.2.2.1 == 0 && (g3.2.2.2 == 0))))=true then (norm_Gcd.j0 k (g4.1 == 0 && (g4.2.1 == 0 && (g4.2.2.1 == 0 && (g4.2.2.2 == 0)))) g3.1 g3.2.1 g3.2.2.1 g3.2.2.2 g4.1 g4.2.1 g4.2.2.1 g4.2.2.2) else (norm_Gcd.j0 k false g3.1 g3.2.1 g3.2.2.1 g3.2.2.2 g4.1 g4.2.1 g4.2.2.1 g4.2.2.2)))) else (some (0,0,0,0,j3))))=some (r1,r2,r3,r4,r5):=by first|(rw [t3];with_reducible exact H)|(have y8:=(Option.bind_some _ _).symm.trans H;rw [t3];with_reducible exact y8)|(have y8:=(Option.bind_some _ _).symm.trans H;with_reducible exact y8)|with_reducible exact H|(rw [t3];exact H)|exact H
 have y5:=mk0 t3;clear t3;replace H:=Option.bind_eq_some_iff.mp H;obtain ⟨j3,N4,H⟩:=H;(try dsimp only at H);have A3:=mk0 N4;clear N4
 by_cases c4:j3=0
 ·
  rw [if_pos c4] at H;have c4b0:(j3 == 0)=true:=beq_iff_eq.mpr c4;have c4b1:(j3 != 0)=false:=bne_eq_false_iff_eq.mpr c4;clear c4;replace H:=Option.bind_eq_some_iff.mp H;obtain ⟨⟨g7,g8,h0,h4⟩,N5,H⟩:=H;(try dsimp only at H);have A5:=mk0 N5;clear N5;replace H:=Option.bind_eq_some_iff.mp H;obtain ⟨⟨h7,h9,i7,j4⟩,N6,H⟩:=H;(try dsimp only at H);have A6:=mk0 N6;clear N6;have L3:=mk0 H;clear H;go_enter Try.func21,Try.ntmps21;try go_wp2_with (first|((with_reducible refine gate_dst (N:=2) rfl ?_);refine box_event ?hg (N:=2) ?hd (cs:=#[.int .i64 c0,.int .i64 c2,.int .i64 d0,.int .i64 d1]) (t:=23) ?hr ?_;(case hd=>rfl);(case hg=>rfl);(case hr=>first|(go_simp;done)|(go_simp;rfl));intro J hg w8 b0 hb;have B:=mk0 (b0);have B4:=szw hg V;have h1:=B4;replace V:=bst V hb;clear hb b0 hg)|((with_reducible refine gate_dst (N:=3) rfl ?_);refine box_event ?hg (N:=3) ?hd (cs:=#[.int .i64 d2,.int .i64 d3,.int .i64 d4,.int .i64 d5]) (t:=23) ?hr ?_;(case hd=>rfl);(case hg=>rfl);(case hr=>first|(go_simp;done)|(go_simp;rfl));intro L hg w9 b0 hb;have C:=mk0 (b0);have B5:=szw hg V;have h2:=B5;have o0:=nlt hg B;have o1:=ngt hg B;replace B:=bkb B hb;replace V:=bst V hb;clear hb b0 hg)|((with_reducible refine gate_dst (N:=4) rfl ?_);refine box_event ?hg (N:=4) ?hd (cs:=#[.int .i64 0,.int .i64 0,.int .i64 0,.int .i64 0]) (t:=23) ?hr ?_;(case hd=>rfl);(case hg=>rfl);(case hr=>first|(go_simp;done)|(go_simp;rfl));intro a9 hg Nw b0 hb;have D:=mk0 (b0);have B6:=szw hg V;have h3:=B6;have j7:=nlt hg B;have j8:=ngt hg B;have j9:=nlt hg C;have l2:=ngt hg C;replace B:=bkb B hb;replace C:=bkb C hb;replace V:=bst V hb;clear hb b0 hg;have In:=o0.1;have Io:=o1.1;have Ip:=j7.1;have Iq:=j8.1;have Bd:=q0_ B;have Be:=q1_ B;have Bf:=q2_ B;have Bg:=q3_ B;have Bh:=blk_frozen B.1 0;have Bi:=blk_frozen B.1 1;have Bj:=blk_frozen B.1 2;have Bk:=blk_frozen B.1 3;have Ir:=j9.1;have Is:=l2.1;have Bl:=q0_ C;have Bm:=q1_ C;have Bn:=q2_ C;have Bo:=q3_ C;have Bp:=blk_frozen C.1 0;have Bq:=blk_frozen C.1 1;have Br:=blk_frozen C.1 2;have Bs:=blk_frozen C.1 3)|((with_reducible refine gate_dst (N:=17) rfl ?_);refine Kd.R_lit k23 _ 23 ?hg (N:=17) ?hd (xs:=([(⟨c0,c2,d0,d1⟩:S23),(⟨d2,d3,d4,d5⟩:S23)]:List (S23))) (inner:=[.int .i64 c0,.int .i64 c2,.int .i64 d0,.int .i64 d1,.int .i64 d2,.int .i64 d3,.int .i64 d4,.int .i64 d5]) (ok:=fun _=>True) (okp:=fun _=>True) ?hr ?hp (fun _ hk=>hk) trivial (Below.refl _ _) (Nat.le_refl _) (by simp) ?_;(case hd=>rfl);(case hg=>rfl);(case hr=>first|(go_simp;done)|(go_simp;rfl));(case hp=>exact (Reps.c4 (show Kd.M k23 _ _ _ (⟨c0,c2,d0,d1⟩:S23) [.int .i64 c0,.int .i64 c2,.int .i64 d0,.int .i64 d1] from (k23_mkM _ _ _ (⟨c0,c2,d0,d1⟩:S23) )) (Reps.c4 (show Kd.M k23 _ _ _ (⟨d2,d3,d4,d5⟩:S23) [.int .i64 d2,.int .i64 d3,.int .i64 d4,.int .i64 d5] from (k23_mkM _ _ _ (⟨d2,d3,d4,d5⟩:S23) )) (Reps.none _ _))));intro O1 Nx y9 hb hg_ n9;clear hg_ n9;(first|rw [← y5.1] at y9|(simp only [Int.reduceToNat] at y9;rw [← y5.1] at y9));have Q:=mk0 (Kd.R_lower (Kd.R_newB (Kd.R_newB (Kd.R_newB y9 (g:=J) (o:=.cells #[.int .i64 c0,.int .i64 c2,.int .i64 d0,.int .i64 d1] 23 (0,0)) B.1) (g:=L) (o:=.cells #[.int .i64 d2,.int .i64 d3,.int .i64 d4,.int .i64 d5] 23 (0,0)) C.1) (g:=a9) (o:=.cells #[.int .i64 0,.int .i64 0,.int .i64 0,.int .i64 0] 23 (0,0)) D.1) (below_size V.1));replace B:=bkb B hb;replace C:=bkb C hb;replace D:=bkb D hb;replace V:=bst V hb;clear hb y9;obtain ⟨m6,m7,O2⟩:=Kd.R_slice Q.1;subst O2)|((with_reducible refine gate_callee (f:=47) rfl ?_);refine goesL_ (some 18) rfl rfl Try.func47 (by kernel_rfl) rfl #[.slice m6 g9.length m7] rfl (by (try simp only [m0_,m1_,m2_]);first|done|rfl|(simp only [l0_,l1_];rfl)) ?_;(with_reducible refine (norm_check.calls k _ _ g9 j3 _ ?side1 ?side2 A3.1).mono ?_);(case side1=>repeat (first|exact (Kd.R_reads' Q.1).2.2|(with_reducible refine Kd.C_alloc ?_ _)|(with_reducible refine Kd.C_drewN ?_ _)|(with_reducible refine Kd.C_drew ?_)));(case side2=>exact (Kd.R_reads' Q.1).2.1);rintro e Dr ⟨rfl,hb⟩;refine ⟨_,rfl,?_⟩;replace Q:=rbl Q hb;replace B:=bkb B hb;replace C:=bkb C hb;replace D:=bkb D hb;replace V:=bst V hb;(try clear hb);(try clear hk)))
  replace Q:=rdr Q;replace B:=bdr B;replace C:=bdr C;replace D:=bdr D;replace V:=hdr V;refine start_ (n:=8) (S:=fun w'=>w'.cell? ⟨J,0,none⟩=some (.int .i64 c0)∧w'.cell? ⟨J,1,none⟩=some (.int .i64 c2)∧w'.cell? ⟨J,2,none⟩=some (.int .i64 d0)∧w'.cell? ⟨J,3,none⟩=some (.int .i64 d1)∧w'.cell? ⟨L,0,none⟩=some (.int .i64 d2)∧w'.cell? ⟨L,1,none⟩=some (.int .i64 d3)∧w'.cell? ⟨L,2,none⟩=some (.int .i64 d4)∧w'.cell? ⟨L,3,none⟩=some (.int .i64 d5)) (ds:=[]) #[n_,n_,n_,n_,n_,n_,n_,n_] (by kernel_rfl) rfl rfl ⟨q0_ B,q1_ B,q2_ B,q3_ B,q0_ C,q1_ C,q2_ C,q3_ C⟩ (fun T=>?_);refine with_tabW norm_Gcd.tab4 norm_Gcd.bits4 (fun n1 N7=>?_);generalize Dr.drew=Ny at Q B C D V T ⊢;refine take_ (i:=0) (N:=some 23) (v:=?_) (a':=?_) #[y_,n_,n_,n_,n_,n_,n_,n_] rfl rfl (take_ofW n1.1 N7.1 (by kernel_rfl)) (fun _ _ _ h=>h) (Or.inl ⟨by rfl,?_⟩) T ?_ ?_;rotate_left
  ·
   rintro w' ⟨s0,s1,s2,s3,s4,s5,s6,s7⟩;go_simp;with_reducible rfl
  rotate_left
  ·
   simp only [Act.put,s0_,s1_,s2_,i64_w,i32_w];rfl
  refine take_ (i:=2) (N:=some 25) (v:=?_) (a':=?_) #[y_,n_,y_,n_,n_,n_,n_,n_] rfl rfl (take_ofW n1.1 N7.1 (by kernel_rfl)) (fun _ _ _ h=>h) (Or.inl ⟨by rfl,?_⟩) T ?_ ?_;rotate_left
  ·
   rintro w' ⟨s0,s1,s2,s3,s4,s5,s6,s7⟩;go_simp;with_reducible rfl
  rotate_left
  ·
   simp only [Act.put,s0_,s1_,s2_,i64_w,i32_w];rfl
  refine join_ (σ:=Nat × Nat) 2 #[y_,y_,y_,y_,y_,y_,n_,n_] (fun s_=>[(24,.agg #[.int .i64 g7,.int .i64 g8,.int .i64 h0,.int .i64 h4]),(26,.agg #[.int .i64 h7,.int .i64 h9,.int .i64 i7,.int .i64 j4]),(7,.pointer (some ⟨s_.1,0,none⟩)),(8,.pointer (some ⟨s_.2,0,none⟩))]) (fun s_ w'=>(w'.cell? ⟨J,0,none⟩=some (.int .i64 c0)∧w'.cell? ⟨J,1,none⟩=some (.int .i64 c2)∧w'.cell? ⟨J,2,none⟩=some (.int .i64 d0)∧w'.cell? ⟨J,3,none⟩=some (.int .i64 d1)∧w'.cell? ⟨L,0,none⟩=some (.int .i64 d2)∧w'.cell? ⟨L,1,none⟩=some (.int .i64 d3)∧w'.cell? ⟨L,2,none⟩=some (.int .i64 d4)∧w'.cell? ⟨L,3,none⟩=some (.int .i64 d5))∧(Kd.R k23 23 w' w.heap.size (fun k_=>k_ ≠ J∧k_ ≠ L∧k_ ≠ a9) (.slice m6 g9.length m7) g9)∧(Q4_ w' J c0 c2 d0 d1 23)∧(Q4_ w' L d2 d3 d4 d5 23)∧(Q4_ w' a9 0 0 0 0 23)∧(Q4_ w' s_.1 0 0 0 0 67)∧(Q4_ w' s_.2 0 0 0 0 67)∧(w.heap.size ≤ s_.1)∧(w.heap.size ≤ s_.1)∧(J ≠ s_.1)∧(s_.1 ≠ J)∧(L ≠ s_.1)∧(s_.1 ≠ L)∧(a9 ≠ s_.1)∧(s_.1 ≠ a9)∧(s_.2 ≠ s_.1)∧(s_.1 ≠ s_.2)∧(w.heap.size ≤ s_.2)∧(w.heap.size ≤ s_.2)∧(J ≠ s_.2)∧(s_.2 ≠ J)∧(L ≠ s_.2)∧(s_.2 ≠ L)∧(a9 ≠ s_.2)∧(s_.2 ≠ a9)∧(Below w.heap.size w w')) ?_ ?_;rotate_left
  ·
   intro o2;refine join_ (σ:=Nat) 3 #[y_,y_,y_,y_,y_,n_,n_,n_] (fun s_=>[(24,.agg #[.int .i64 g7,.int .i64 g8,.int .i64 h0,.int .i64 h4]),(26,.agg #[.int .i64 h7,.int .i64 h9,.int .i64 i7,.int .i64 j4]),(7,.pointer (some ⟨s_,0,none⟩))]) (fun s_ w'=>(w'.cell? ⟨J,0,none⟩=some (.int .i64 c0)∧w'.cell? ⟨J,1,none⟩=some (.int .i64 c2)∧w'.cell? ⟨J,2,none⟩=some (.int .i64 d0)∧w'.cell? ⟨J,3,none⟩=some (.int .i64 d1)∧w'.cell? ⟨L,0,none⟩=some (.int .i64 d2)∧w'.cell? ⟨L,1,none⟩=some (.int .i64 d3)∧w'.cell? ⟨L,2,none⟩=some (.int .i64 d4)∧w'.cell? ⟨L,3,none⟩=some (.int .i64 d5))∧(Kd.R k23 23 w' w.heap.size (fun k_=>k_ ≠ J∧k_ ≠ L∧k_ ≠ a9) (.slice m6 g9.length m7) g9)∧(Q4_ w' J c0 c2 d0 d1 23)∧(Q4_ w' L d2 d3 d4 d5 23)∧(Q4_ w' a9 0 0 0 0 23)∧(Q4_ w' s_ 0 0 0 0 67)∧(w.heap.size ≤ s_)∧(w.heap.size ≤ s_)∧(J ≠ s_)∧(s_ ≠ J)∧(L ≠ s_)∧(s_ ≠ L)∧(a9 ≠ s_)∧(s_ ≠ a9)∧(Below w.heap.size w w')) ?_ ?_;rotate_left
   ·
    intro z8;refine join_ (σ:=Nat) 3 #[y_,y_,y_,y_,n_,y_,n_,n_] (fun s_=>[(24,.agg #[.int .i64 g7,.int .i64 g8,.int .i64 h0,.int .i64 h4]),(26,.agg #[.int .i64 h7,.int .i64 h9,.int .i64 i7,.int .i64 j4]),(8,.pointer (some ⟨s_,0,none⟩))]) (fun s_ w'=>(w'.cell? ⟨J,0,none⟩=some (.int .i64 c0)∧w'.cell? ⟨J,1,none⟩=some (.int .i64 c2)∧w'.cell? ⟨J,2,none⟩=some (.int .i64 d0)∧w'.cell? ⟨J,3,none⟩=some (.int .i64 d1)∧w'.cell? ⟨L,0,none⟩=some (.int .i64 d2)∧w'.cell? ⟨L,1,none⟩=some (.int .i64 d3)∧w'.cell? ⟨L,2,none⟩=some (.int .i64 d4)∧w'.cell? ⟨L,3,none⟩=some (.int .i64 d5))∧(Kd.R k23 23 w' w.heap.size (fun k_=>k_ ≠ J∧k_ ≠ L∧k_ ≠ a9) (.slice m6 g9.length m7) g9)∧(Q4_ w' J c0 c2 d0 d1 23)∧(Q4_ w' L d2 d3 d4 d5 23)∧(Q4_ w' a9 0 0 0 0 23)∧(Q4_ w' s_ 0 0 0 0 67)∧(w.heap.size ≤ s_)∧(w.heap.size ≤ s_)∧(J ≠ s_)∧(s_ ≠ J)∧(L ≠ s_)∧(s_ ≠ L)∧(a9 ≠ s_)∧(s_ ≠ a9)∧(Below w.heap.size w w')) ?_ ?_;rotate_left
    ·
     intro z9;refine join_ (σ:=Nat × Nat) 3 #[y_,y_,y_,n_,y_,y_,n_,n_] (fun s_=>[(24,.agg #[.int .i64 g7,.int .i64 g8,.int .i64 h0,.int .i64 h4]),(7,.pointer (some ⟨s_.1,0,none⟩)),(8,.pointer (some ⟨s_.2,0,none⟩))]) (fun s_ w'=>(w'.cell? ⟨J,0,none⟩=some (.int .i64 c0)∧w'.cell? ⟨J,1,none⟩=some (.int .i64 c2)∧w'.cell? ⟨J,2,none⟩=some (.int .i64 d0)∧w'.cell? ⟨J,3,none⟩=some (.int .i64 d1)∧w'.cell? ⟨L,0,none⟩=some (.int .i64 d2)∧w'.cell? ⟨L,1,none⟩=some (.int .i64 d3)∧w'.cell? ⟨L,2,none⟩=some (.int .i64 d4)∧w'.cell? ⟨L,3,none⟩=some (.int .i64 d5))∧(Kd.R k23 23 w' w.heap.size (fun k_=>k_ ≠ J∧k_ ≠ L∧k_ ≠ a9) (.slice m6 g9.length m7) g9)∧(Q4_ w' J c0 c2 d0 d1 23)∧(Q4_ w' L d2 d3 d4 d5 23)∧(Q4_ w' a9 0 0 0 0 23)∧(Q4_ w' s_.1 0 0 0 0 67)∧(Q4_ w' s_.2 0 0 0 0 67)∧(w.heap.size ≤ s_.1)∧(w.heap.size ≤ s_.1)∧(J ≠ s_.1)∧(s_.1 ≠ J)∧(L ≠ s_.1)∧(s_.1 ≠ L)∧(a9 ≠ s_.1)∧(s_.1 ≠ a9)∧(s_.2 ≠ s_.1)∧(s_.1 ≠ s_.2)∧(w.heap.size ≤ s_.2)∧(w.heap.size ≤ s_.2)∧(J ≠ s_.2)∧(s_.2 ≠ J)∧(L ≠ s_.2)∧(s_.2 ≠ L)∧(a9 ≠ s_.2)∧(s_.2 ≠ a9)∧(Below w.heap.size w w')) ?_ ?_;rotate_left
     ·
      intro u1;refine join_ (σ:=Unit) 4 #[y_,y_,y_,y_,n_,n_,n_,n_] (fun s_=>[(24,.agg #[.int .i64 g7,.int .i64 g8,.int .i64 h0,.int .i64 h4]),(26,.agg #[.int .i64 h7,.int .i64 h9,.int .i64 i7,.int .i64 j4])]) (fun s_ w'=>(w'.cell? ⟨J,0,none⟩=some (.int .i64 c0)∧w'.cell? ⟨J,1,none⟩=some (.int .i64 c2)∧w'.cell? ⟨J,2,none⟩=some (.int .i64 d0)∧w'.cell? ⟨J,3,none⟩=some (.int .i64 d1)∧w'.cell? ⟨L,0,none⟩=some (.int .i64 d2)∧w'.cell? ⟨L,1,none⟩=some (.int .i64 d3)∧w'.cell? ⟨L,2,none⟩=some (.int .i64 d4)∧w'.cell? ⟨L,3,none⟩=some (.int .i64 d5))∧(Kd.R k23 23 w' w.heap.size (fun k_=>k_ ≠ J∧k_ ≠ L∧k_ ≠ a9) (.slice m6 g9.length m7) g9)∧(Q4_ w' J c0 c2 d0 d1 23)∧(Q4_ w' L d2 d3 d4 d5 23)∧(Q4_ w' a9 0 0 0 0 23)∧(Below w.heap.size w w')) ?_ ?_;rotate_left
      ·
       intro M3;refine join_ (σ:=Nat) 4 #[y_,y_,y_,n_,y_,n_,n_,n_] (fun s_=>[(24,.agg #[.int .i64 g7,.int .i64 g8,.int .i64 h0,.int .i64 h4]),(7,.pointer (some ⟨s_,0,none⟩))]) (fun s_ w'=>(w'.cell? ⟨J,0,none⟩=some (.int .i64 c0)∧w'.cell? ⟨J,1,none⟩=some (.int .i64 c2)∧w'.cell? ⟨J,2,none⟩=some (.int .i64 d0)∧w'.cell? ⟨J,3,none⟩=some (.int .i64 d1)∧w'.cell? ⟨L,0,none⟩=some (.int .i64 d2)∧w'.cell? ⟨L,1,none⟩=some (.int .i64 d3)∧w'.cell? ⟨L,2,none⟩=some (.int .i64 d4)∧w'.cell? ⟨L,3,none⟩=some (.int .i64 d5))∧(Kd.R k23 23 w' w.heap.size (fun k_=>k_ ≠ J∧k_ ≠ L∧k_ ≠ a9) (.slice m6 g9.length m7) g9)∧(Q4_ w' J c0 c2 d0 d1 23)∧(Q4_ w' L d2 d3 d4 d5 23)∧(Q4_ w' a9 0 0 0 0 23)∧(Q4_ w' s_ 0 0 0 0 67)∧(w.heap.size ≤ s_)∧(w.heap.size ≤ s_)∧(J ≠ s_)∧(s_ ≠ J)∧(L ≠ s_)∧(s_ ≠ L)∧(a9 ≠ s_)∧(s_ ≠ a9)∧(Below w.heap.size w w')) ?_ ?_;rotate_left
       ·
        intro E8;refine join_ (σ:=Nat) 4 #[y_,y_,y_,n_,n_,y_,n_,n_] (fun s_=>[(24,.agg #[.int .i64 g7,.int .i64 g8,.int .i64 h0,.int .i64 h4]),(8,.pointer (some ⟨s_,0,none⟩))]) (fun s_ w'=>(w'.cell? ⟨J,0,none⟩=some (.int .i64 c0)∧w'.cell? ⟨J,1,none⟩=some (.int .i64 c2)∧w'.cell? ⟨J,2,none⟩=some (.int .i64 d0)∧w'.cell? ⟨J,3,none⟩=some (.int .i64 d1)∧w'.cell? ⟨L,0,none⟩=some (.int .i64 d2)∧w'.cell? ⟨L,1,none⟩=some (.int .i64 d3)∧w'.cell? ⟨L,2,none⟩=some (.int .i64 d4)∧w'.cell? ⟨L,3,none⟩=some (.int .i64 d5))∧(Kd.R k23 23 w' w.heap.size (fun k_=>k_ ≠ J∧k_ ≠ L∧k_ ≠ a9) (.slice m6 g9.length m7) g9)∧(Q4_ w' J c0 c2 d0 d1 23)∧(Q4_ w' L d2 d3 d4 d5 23)∧(Q4_ w' a9 0 0 0 0 23)∧(Q4_ w' s_ 0 0 0 0 67)∧(w.heap.size ≤ s_)∧(w.heap.size ≤ s_)∧(J ≠ s_)∧(s_ ≠ J)∧(L ≠ s_)∧(s_ ≠ L)∧(a9 ≠ s_)∧(s_ ≠ a9)∧(Below w.heap.size w w')) ?_ ?_;rotate_left
        ·
         intro E9;refine join_ (σ:=Nat × Nat) 4 #[y_,n_,y_,n_,y_,y_,n_,n_] (fun s_=>[(7,.pointer (some ⟨s_.1,0,none⟩)),(8,.pointer (some ⟨s_.2,0,none⟩))]) (fun s_ w'=>(w'.cell? ⟨J,0,none⟩=some (.int .i64 c0)∧w'.cell? ⟨J,1,none⟩=some (.int .i64 c2)∧w'.cell? ⟨J,2,none⟩=some (.int .i64 d0)∧w'.cell? ⟨J,3,none⟩=some (.int .i64 d1)∧w'.cell? ⟨L,0,none⟩=some (.int .i64 d2)∧w'.cell? ⟨L,1,none⟩=some (.int .i64 d3)∧w'.cell? ⟨L,2,none⟩=some (.int .i64 d4)∧w'.cell? ⟨L,3,none⟩=some (.int .i64 d5))∧(Kd.R k23 23 w' w.heap.size (fun k_=>k_ ≠ J∧k_ ≠ L∧k_ ≠ a9) (.slice m6 g9.length m7) g9)∧(Q4_ w' J c0 c2 d0 d1 23)∧(Q4_ w' L d2 d3 d4 d5 23)∧(Q4_ w' a9 0 0 0 0 23)∧(Q4_ w' s_.1 0 0 0 0 67)∧(Q4_ w' s_.2 0 0 0 0 67)∧(w.heap.size ≤ s_.1)∧(w.heap.size ≤ s_.1)∧(J ≠ s_.1)∧(s_.1 ≠ J)∧(L ≠ s_.1)∧(s_.1 ≠ L)∧(a9 ≠ s_.1)∧(s_.1 ≠ a9)∧(s_.2 ≠ s_.1)∧(s_.1 ≠ s_.2)∧(w.heap.size ≤ s_.2)∧(w.heap.size ≤ s_.2)∧(J ≠ s_.2)∧(s_.2 ≠ J)∧(L ≠ s_.2)∧(s_.2 ≠ L)∧(a9 ≠ s_.2)∧(s_.2 ≠ a9)∧(Below w.heap.size w w')) ?_ ?_;rotate_left
         ·
          intro F0;refine join_ (σ:=Unit) 5 #[y_,y_,y_,n_,n_,n_,n_,n_] (fun s_=>[(24,.agg #[.int .i64 g7,.int .i64 g8,.int .i64 h0,.int .i64 h4])]) (fun s_ w'=>(w'.cell? ⟨J,0,none⟩=some (.int .i64 c0)∧w'.cell? ⟨J,1,none⟩=some (.int .i64 c2)∧w'.cell? ⟨J,2,none⟩=some (.int .i64 d0)∧w'.cell? ⟨J,3,none⟩=some (.int .i64 d1)∧w'.cell? ⟨L,0,none⟩=some (.int .i64 d2)∧w'.cell? ⟨L,1,none⟩=some (.int .i64 d3)∧w'.cell? ⟨L,2,none⟩=some (.int .i64 d4)∧w'.cell? ⟨L,3,none⟩=some (.int .i64 d5))∧(Kd.R k23 23 w' w.heap.size (fun k_=>k_ ≠ J∧k_ ≠ L∧k_ ≠ a9) (.slice m6 g9.length m7) g9)∧(Q4_ w' J c0 c2 d0 d1 23)∧(Q4_ w' L d2 d3 d4 d5 23)∧(Q4_ w' a9 0 0 0 0 23)∧(Below w.heap.size w w')) ?_ ?_;rotate_left
          ·
           intro Ds;refine join_ (σ:=Nat) 5 #[y_,n_,y_,n_,y_,n_,n_,n_] (fun s_=>[(7,.pointer (some ⟨s_,0,none⟩))]) (fun s_ w'=>(w'.cell? ⟨J,0,none⟩=some (.int .i64 c0)∧w'.cell? ⟨J,1,none⟩=some (.int .i64 c2)∧w'.cell? ⟨J,2,none⟩=some (.int .i64 d0)∧w'.cell? ⟨J,3,none⟩=some (.int .i64 d1)∧w'.cell? ⟨L,0,none⟩=some (.int .i64 d2)∧w'.cell? ⟨L,1,none⟩=some (.int .i64 d3)∧w'.cell? ⟨L,2,none⟩=some (.int .i64 d4)∧w'.cell? ⟨L,3,none⟩=some (.int .i64 d5))∧(Kd.R k23 23 w' w.heap.size (fun k_=>k_ ≠ J∧k_ ≠ L∧k_ ≠ a9) (.slice m6 g9.length m7) g9)∧(Q4_ w' J c0 c2 d0 d1 23)∧(Q4_ w' L d2 d3 d4 d5 23)∧(Q4_ w' a9 0 0 0 0 23)∧(Q4_ w' s_ 0 0 0 0 67)∧(w.heap.size ≤ s_)∧(w.heap.size ≤ s_)∧(J ≠ s_)∧(s_ ≠ J)∧(L ≠ s_)∧(s_ ≠ L)∧(a9 ≠ s_)∧(s_ ≠ a9)∧(Below w.heap.size w w')) ?_ ?_;rotate_left
           ·
            intro Dt;refine join_ (σ:=Nat) 5 #[y_,n_,y_,n_,n_,y_,n_,n_] (fun s_=>[(8,.pointer (some ⟨s_,0,none⟩))]) (fun s_ w'=>(w'.cell? ⟨J,0,none⟩=some (.int .i64 c0)∧w'.cell? ⟨J,1,none⟩=some (.int .i64 c2)∧w'.cell? ⟨J,2,none⟩=some (.int .i64 d0)∧w'.cell? ⟨J,3,none⟩=some (.int .i64 d1)∧w'.cell? ⟨L,0,none⟩=some (.int .i64 d2)∧w'.cell? ⟨L,1,none⟩=some (.int .i64 d3)∧w'.cell? ⟨L,2,none⟩=some (.int .i64 d4)∧w'.cell? ⟨L,3,none⟩=some (.int .i64 d5))∧(Kd.R k23 23 w' w.heap.size (fun k_=>k_ ≠ J∧k_ ≠ L∧k_ ≠ a9) (.slice m6 g9.length m7) g9)∧(Q4_ w' J c0 c2 d0 d1 23)∧(Q4_ w' L d2 d3 d4 d5 23)∧(Q4_ w' a9 0 0 0 0 23)∧(Q4_ w' s_ 0 0 0 0 67)∧(w.heap.size ≤ s_)∧(w.heap.size ≤ s_)∧(J ≠ s_)∧(s_ ≠ J)∧(L ≠ s_)∧(s_ ≠ L)∧(a9 ≠ s_)∧(s_ ≠ a9)∧(Below w.heap.size w w')) ?_ ?_;rotate_left
            ·
             intro Du;refine three_ (i:=1) (j:=4) (k:=5) (Ni:=some 24) (Nj:=some 7) (Nk:=some 8) #[y_,y_,y_,n_,n_,n_,n_,n_] #[y_,n_,y_,n_,y_,n_,n_,n_] #[y_,n_,y_,n_,n_,y_,n_,n_] rfl rfl rfl rfl rfl rfl (three_of n1.1 (by kernel_rfl)) (by decide) (by decide) (by decide) (fun K hK=>?_) (fun K hK=>?_) (fun K hK=>?_)
             ·
              skip
              refine goes_ Try.func48 (by kernel_rfl) rfl #[.agg #[.int .i64 c0,.int .i64 c2,.int .i64 d0,.int .i64 d1]] (by rfl) rfl rfl (by (try simp only [m0_,m1_,m2_]);first|done|rfl|(simp only [l0_,l1_];rfl)) ?_;with_reducible refine (norm_of.calls c0 c2 d0 d1 g7 g8 h0 h4 _ A5.1).mono ?_
              rintro e N8 ⟨rfl,hb⟩;refine ⟨_,rfl,?_⟩;replace Q:=rbl Q hb;replace B:=bkb B hb;replace C:=bkb C hb;replace D:=bkb D hb;replace V:=bst V hb;(try clear hb);refine hK.out _ _ ⟨q0_ B,q1_ B,q2_ B,q3_ B,q0_ C,q1_ C,q2_ C,q3_ C⟩ (fun T=>?_);clear hK K;refine norm_ (a':=?_) ?_ ?_;rotate_left
              ·
               show Act.put _ (some 24) _=_;simp only [Act.put,s0_,s1_,s2_,i64_w,i32_w];rfl
              exact norm_ (by simp only [putAll,Act.put,s0_,s1_,s2_] <;> rfl) (Ds () _ ⟨T,(by (with_reducible repeat (first|apply Kd.R_alloc|apply Kd.R_drewN|apply Kd.R_drew));exact Kd.R_mono Q.1 (fun _ hk=>⟨hk.1.1.2,⟨hk.1.2,hk.2⟩⟩)),B.1,C.1,D.1,V.1⟩)
             ·
              skip
              refine box_step ?hg (N:=7) ?hd (cs:=#[.int .i64 0,.int .i64 0,.int .i64 0,.int .i64 0]) (t:=67) ?hr ?_;(case hd=>rfl);(case hg=>rfl);(case hr=>first|(go_simp;done)|(go_simp;rfl));intro e7 hg N8 b0 hb;have E:=mk0 (b0);have g5:=szw hg V;have e5:=szw hg V;have X:=nlt hg B;have b1:=ngt hg B;have Y:=nlt hg C;have b2:=ngt hg C;have a1:=nlt hg D;have a6:=ngt hg D;replace Q:=rbl Q hb;replace B:=bkb B hb;replace C:=bkb C hb;replace D:=bkb D hb;replace V:=bst V hb;clear hb b0 hg;refine hK.out _ _ ⟨q0_ B,q1_ B,q2_ B,q3_ B,q0_ C,q1_ C,q2_ C,q3_ C⟩ (fun T=>?_);clear hK K;refine norm_ (a':=?_) ?_ ?_;rotate_left
              ·
               show Act.put _ (some 7) _=_;simp only [Act.put,s0_,s1_,s2_,i64_w,i32_w];rfl
              exact norm_ (by simp only [putAll,Act.put,s0_,s1_,s2_] <;> rfl) (Dt (e7) _ ⟨T,(by (with_reducible repeat (first|apply Kd.R_alloc|apply Kd.R_drewN|apply Kd.R_drew));exact Kd.R_mono Q.1 (fun _ hk=>⟨hk.1.1.2,⟨hk.1.2,hk.2⟩⟩)),B.1,C.1,D.1,E.1,g5.1,e5.1,X.1,b1.1,Y.1,b2.1,a1.1,a6.1,V.1⟩)
             ·
              skip
              refine box_step ?hg (N:=8) ?hd (cs:=#[.int .i64 0,.int .i64 0,.int .i64 0,.int .i64 0]) (t:=67) ?hr ?_;(case hd=>rfl);(case hg=>rfl);(case hr=>first|(go_simp;done)|(go_simp;rfl));intro d9 hg N8 b0 hb;have F:=mk0 (b0);have g6:=szw hg V;have e6:=szw hg V;have a3:=nlt hg B;have b5:=ngt hg B;have a4:=nlt hg C;have b6:=ngt hg C;have a7:=nlt hg D;have b3:=ngt hg D;replace Q:=rbl Q hb;replace B:=bkb B hb;replace C:=bkb C hb;replace D:=bkb D hb;replace V:=bst V hb;clear hb b0 hg;refine hK.out _ _ ⟨q0_ B,q1_ B,q2_ B,q3_ B,q0_ C,q1_ C,q2_ C,q3_ C⟩ (fun T=>?_);clear hK K;refine norm_ (a':=?_) ?_ ?_;rotate_left
              ·
               show Act.put _ (some 8) _=_;simp only [Act.put,s0_,s1_,s2_,i64_w,i32_w];rfl
              exact norm_ (by simp only [putAll,Act.put,s0_,s1_,s2_] <;> rfl) (Du (d9) _ ⟨T,(by (with_reducible repeat (first|apply Kd.R_alloc|apply Kd.R_drewN|apply Kd.R_drew));exact Kd.R_mono Q.1 (fun _ hk=>⟨hk.1.1.2,⟨hk.1.2,hk.2⟩⟩)),B.1,C.1,D.1,F.1,g6.1,e6.1,a3.1,b5.1,a4.1,b6.1,a7.1,b3.1,V.1⟩)
            ·
             skip
             clear Q B C D V;rintro d9 N9 g1;replace g1:=h_ (m4_ (m4_ (m4_ (m_ l_)))) g1;obtain ⟨i5,Q,B,C,D,F,g6,e6,a3,b5,a4,b6,a7,b3,V⟩:=g1;have T:=i5;refine norm_ (a':=?_) ?_ ?_;rotate_left
             ·
              simp only [putAll,Act.put,s0_,s1_,s2_];rfl
             refine two_ (i:=1) (j:=4) (Ni:=some 24) (Nj:=some 7) #[y_,y_,y_,n_,n_,y_,n_,n_] #[y_,n_,y_,n_,y_,y_,n_,n_] rfl rfl rfl rfl (two_of n1.1 (by kernel_rfl)) (by decide) (by decide) (fun K hK=>?_) (fun K hK=>?_)
             ·
              skip
              refine goes_ Try.func48 (by kernel_rfl) rfl #[.agg #[.int .i64 c0,.int .i64 c2,.int .i64 d0,.int .i64 d1]] (by rfl) rfl rfl (by (try simp only [m0_,m1_,m2_]);first|done|rfl|(simp only [l0_,l1_];rfl)) ?_;with_reducible refine (norm_of.calls c0 c2 d0 d1 g7 g8 h0 h4 _ A5.1).mono ?_
              rintro e s8 ⟨rfl,hb⟩;refine ⟨_,rfl,?_⟩;replace Q:=rbl Q hb;replace B:=bkb B hb;replace C:=bkb C hb;replace D:=bkb D hb;replace F:=bkb F hb;replace V:=bst V hb;(try clear hb);(try clear hk);refine hK.out _ _ ⟨q0_ B,q1_ B,q2_ B,q3_ B,q0_ C,q1_ C,q2_ C,q3_ C⟩ (fun T=>?_);clear hK K;refine norm_ (a':=?_) ?_ ?_;rotate_left
              ·
               show Act.put _ (some 24) _=_;simp only [Act.put,s0_,s1_,s2_,i64_w,i32_w];rfl
              exact norm_ (by simp only [putAll,Act.put,s0_,s1_,s2_] <;> rfl) (E9 (d9) _ ⟨T,Q.1,B.1,C.1,D.1,F.1,g6.1,e6.1,a3.1,b5.1,a4.1,b6.1,a7.1,b3.1,V.1⟩)
             ·
              skip
              refine box_step ?hg (N:=7) ?hd (cs:=#[.int .i64 0,.int .i64 0,.int .i64 0,.int .i64 0]) (t:=67) ?hr ?_;(case hd=>rfl);(case hg=>rfl);(case hr=>first|(go_simp;done)|(go_simp;rfl));intro e7 hg s8 b0 hb;have E:=mk0 (b0);have g5:=szw hg V;have e5:=szw hg V;have X:=nlt hg B;have b1:=ngt hg B;have Y:=nlt hg C;have b2:=ngt hg C;have a1:=nlt hg D;have a6:=ngt hg D;have a8:=nlt hg F;have b7:=ngt hg F;replace Q:=rbl Q hb;replace B:=bkb B hb;replace C:=bkb C hb;replace D:=bkb D hb;replace F:=bkb F hb;replace V:=bst V hb;clear hb b0 hg;refine hK.out _ _ ⟨q0_ B,q1_ B,q2_ B,q3_ B,q0_ C,q1_ C,q2_ C,q3_ C⟩ (fun T=>?_);clear hK K;refine norm_ (a':=?_) ?_ ?_;rotate_left
              ·
               show Act.put _ (some 7) _=_;simp only [Act.put,s0_,s1_,s2_,i64_w,i32_w];rfl
              exact norm_ (by simp only [putAll,Act.put,s0_,s1_,s2_] <;> rfl) (F0 (e7,d9) _ ⟨T,Q.1,B.1,C.1,D.1,E.1,F.1,g5.1,e5.1,X.1,b1.1,Y.1,b2.1,a1.1,a6.1,a8.1,b7.1,g6.1,e6.1,a3.1,b5.1,a4.1,b6.1,a7.1,b3.1,V.1⟩)
           ·
            skip
            clear Q B C D V;rintro e7 N9 g1;replace g1:=h_ (m4_ (m4_ (m4_ (m_ l_)))) g1;obtain ⟨i5,Q,B,C,D,E,g5,e5,X,b1,Y,b2,a1,a6,V⟩:=g1;have T:=i5;refine norm_ (a':=?_) ?_ ?_;rotate_left
            ·
             simp only [putAll,Act.put,s0_,s1_,s2_];rfl
            refine two_ (i:=1) (j:=5) (Ni:=some 24) (Nj:=some 8) #[y_,y_,y_,n_,y_,n_,n_,n_] #[y_,n_,y_,n_,y_,y_,n_,n_] rfl rfl rfl rfl (two_of n1.1 (by kernel_rfl)) (by decide) (by decide) (fun K hK=>?_) (fun K hK=>?_)
            ·
             skip
             refine goes_ Try.func48 (by kernel_rfl) rfl #[.agg #[.int .i64 c0,.int .i64 c2,.int .i64 d0,.int .i64 d1]] (by rfl) rfl rfl (by (try simp only [m0_,m1_,m2_]);first|done|rfl|(simp only [l0_,l1_];rfl)) ?_;with_reducible refine (norm_of.calls c0 c2 d0 d1 g7 g8 h0 h4 _ A5.1).mono ?_
             rintro e s8 ⟨rfl,hb⟩;refine ⟨_,rfl,?_⟩;replace Q:=rbl Q hb;replace B:=bkb B hb;replace C:=bkb C hb;replace D:=bkb D hb;replace E:=bkb E hb;replace V:=bst V hb;(try clear hb);refine hK.out _ _ ⟨q0_ B,q1_ B,q2_ B,q3_ B,q0_ C,q1_ C,q2_ C,q3_ C⟩ (fun T=>?_);clear hK K;refine norm_ (a':=?_) ?_ ?_;rotate_left
             ·
              show Act.put _ (some 24) _=_;simp only [Act.put,s0_,s1_,s2_,i64_w,i32_w];rfl
             exact norm_ (by simp only [putAll,Act.put,s0_,s1_,s2_] <;> rfl) (E8 (e7) _ ⟨T,Q.1,B.1,C.1,D.1,E.1,g5.1,e5.1,X.1,b1.1,Y.1,b2.1,a1.1,a6.1,V.1⟩)
            ·
             skip
             refine box_step ?hg (N:=8) ?hd (cs:=#[.int .i64 0,.int .i64 0,.int .i64 0,.int .i64 0]) (t:=67) ?hr ?_;(case hd=>rfl);(case hg=>rfl);(case hr=>first|(go_simp;done)|(go_simp;rfl));intro d9 hg s8 b0 hb;have F:=mk0 (b0);have g6:=szw hg V;have e6:=szw hg V;have a3:=nlt hg B;have b5:=ngt hg B;have a4:=nlt hg C;have b6:=ngt hg C;have a7:=nlt hg D;have b3:=ngt hg D;have b7:=nlt hg E;have a8:=ngt hg E;replace Q:=rbl Q hb;replace B:=bkb B hb;replace C:=bkb C hb;replace D:=bkb D hb;replace E:=bkb E hb;replace V:=bst V hb;clear hb b0 hg;refine hK.out _ _ ⟨q0_ B,q1_ B,q2_ B,q3_ B,q0_ C,q1_ C,q2_ C,q3_ C⟩ (fun T=>?_);clear hK K;refine norm_ (a':=?_) ?_ ?_;rotate_left
             ·
              show Act.put _ (some 8) _=_;simp only [Act.put,s0_,s1_,s2_,i64_w,i32_w];rfl
             exact norm_ (by simp only [putAll,Act.put,s0_,s1_,s2_] <;> rfl) (F0 (e7,d9) _ ⟨T,Q.1,B.1,C.1,D.1,E.1,F.1,g5.1,e5.1,X.1,b1.1,Y.1,b2.1,a1.1,a6.1,a8.1,b7.1,g6.1,e6.1,a3.1,b5.1,a4.1,b6.1,a7.1,b3.1,V.1⟩)
          ·
           skip
           clear Q B C D V;rintro _ N9 g1;replace g1:=h_ (m4_ l_) g1;obtain ⟨i5,Q,B,C,D,V⟩:=g1;have T:=i5;refine norm_ (a':=?_) ?_ ?_;rotate_left
           ·
            simp only [putAll,Act.put,s0_,s1_,s2_];rfl
           refine three_ (i:=3) (j:=4) (k:=5) (Ni:=some 26) (Nj:=some 7) (Nk:=some 8) #[y_,y_,y_,y_,n_,n_,n_,n_] #[y_,y_,y_,n_,y_,n_,n_,n_] #[y_,y_,y_,n_,n_,y_,n_,n_] rfl rfl rfl rfl rfl rfl (three_of n1.1 (by kernel_rfl)) (by decide) (by decide) (by decide) (fun K hK=>?_) (fun K hK=>?_) (fun K hK=>?_)
           ·
            skip
            refine goes_ Try.func48 (by kernel_rfl) rfl #[.agg #[.int .i64 d2,.int .i64 d3,.int .i64 d4,.int .i64 d5]] (by rfl) rfl rfl (by (try simp only [m0_,m1_,m2_]);first|done|rfl|(simp only [l0_,l1_];rfl)) ?_;with_reducible refine (norm_of.calls d2 d3 d4 d5 h7 h9 i7 j4 _ A6.1).mono ?_
            rintro e s8 ⟨rfl,hb⟩;refine ⟨_,rfl,?_⟩;replace Q:=rbl Q hb;replace B:=bkb B hb;replace C:=bkb C hb;replace D:=bkb D hb;replace V:=bst V hb;(try clear hb);refine hK.out _ _ ⟨q0_ B,q1_ B,q2_ B,q3_ B,q0_ C,q1_ C,q2_ C,q3_ C⟩ (fun T=>?_);clear hK K;refine norm_ (a':=?_) ?_ ?_;rotate_left
            ·
             show Act.put _ (some 26) _=_;simp only [Act.put,s0_,s1_,s2_,i64_w,i32_w];rfl
            exact norm_ (by simp only [putAll,Act.put,s0_,s1_,s2_] <;> rfl) (M3 () _ ⟨T,Q.1,B.1,C.1,D.1,V.1⟩)
           ·
            skip
            refine box_step ?hg (N:=7) ?hd (cs:=#[.int .i64 0,.int .i64 0,.int .i64 0,.int .i64 0]) (t:=67) ?hr ?_;(case hd=>rfl);(case hg=>rfl);(case hr=>first|(go_simp;done)|(go_simp;rfl));intro e7 hg s8 b0 hb;have E:=mk0 (b0);have g5:=szw hg V;have e5:=szw hg V;have X:=nlt hg B;have b1:=ngt hg B;have Y:=nlt hg C;have b2:=ngt hg C;have a1:=nlt hg D;have a6:=ngt hg D;replace Q:=rbl Q hb;replace B:=bkb B hb;replace C:=bkb C hb;replace D:=bkb D hb;replace V:=bst V hb;clear hb b0 hg;refine hK.out _ _ ⟨q0_ B,q1_ B,q2_ B,q3_ B,q0_ C,q1_ C,q2_ C,q3_ C⟩ (fun T=>?_);clear hK K;refine norm_ (a':=?_) ?_ ?_;rotate_left
            ·
             show Act.put _ (some 7) _=_;simp only [Act.put,s0_,s1_,s2_,i64_w,i32_w];rfl
            exact norm_ (by simp only [putAll,Act.put,s0_,s1_,s2_] <;> rfl) (E8 (e7) _ ⟨T,Q.1,B.1,C.1,D.1,E.1,g5.1,e5.1,X.1,b1.1,Y.1,b2.1,a1.1,a6.1,V.1⟩)
           ·
            skip
            refine box_step ?hg (N:=8) ?hd (cs:=#[.int .i64 0,.int .i64 0,.int .i64 0,.int .i64 0]) (t:=67) ?hr ?_;(case hd=>rfl);(case hg=>rfl);(case hr=>first|(go_simp;done)|(go_simp;rfl));intro d9 hg s8 b0 hb;have F:=mk0 (b0);have g6:=szw hg V;have e6:=szw hg V;have a3:=nlt hg B;have b5:=ngt hg B;have a4:=nlt hg C;have b6:=ngt hg C;have a7:=nlt hg D;have b3:=ngt hg D;replace Q:=rbl Q hb;replace B:=bkb B hb;replace C:=bkb C hb;replace D:=bkb D hb;replace V:=bst V hb;clear hb b0 hg;refine hK.out _ _ ⟨q0_ B,q1_ B,q2_ B,q3_ B,q0_ C,q1_ C,q2_ C,q3_ C⟩ (fun T=>?_);clear hK K;refine norm_ (a':=?_) ?_ ?_;rotate_left
            ·
             show Act.put _ (some 8) _=_;simp only [Act.put,s0_,s1_,s2_,i64_w,i32_w];rfl
            exact norm_ (by simp only [putAll,Act.put,s0_,s1_,s2_] <;> rfl) (E9 (d9) _ ⟨T,Q.1,B.1,C.1,D.1,F.1,g6.1,e6.1,a3.1,b5.1,a4.1,b6.1,a7.1,b3.1,V.1⟩)
         ·
          skip
          clear Q B C D V;rintro ⟨e7,d9⟩ s8 g1;(try dsimp only at g1);replace g1:=h_ (m4_ (m4_ (m4_ (m4_ (m4_ (m4_ l_)))))) g1;obtain ⟨i5,Q,B,C,D,E,F,g5,e5,X,b1,Y,b2,a1,a6,a8,b7,g6,e6,a3,b5,a4,b6,a7,b3,V⟩:=g1;have T:=i5;refine norm_ (a':=?_) ?_ ?_;rotate_left
          ·
           simp only [putAll,Act.put,s0_,s1_,s2_];rfl
          refine one_ (i:=1) (N:=some 24) #[y_,y_,y_,n_,y_,y_,n_,n_] rfl rfl (one_of n1.1 (by kernel_rfl)) (by decide) (fun K hK=>?_);refine goes_ Try.func48 (by kernel_rfl) rfl #[.agg #[.int .i64 c0,.int .i64 c2,.int .i64 d0,.int .i64 d1]] (by rfl) rfl rfl (by (try simp only [m0_,m1_,m2_]);first|done|rfl|(simp only [l0_,l1_];rfl)) ?_;with_reducible refine (norm_of.calls c0 c2 d0 d1 g7 g8 h0 h4 _ A5.1).mono ?_
          rintro e t4 ⟨rfl,hb⟩;refine ⟨_,rfl,?_⟩;replace Q:=rbl Q hb;replace B:=bkb B hb;replace C:=bkb C hb;replace D:=bkb D hb;replace E:=bkb E hb;replace F:=bkb F hb;replace V:=bst V hb;(try clear hb);refine hK.out _ _ ⟨q0_ B,q1_ B,q2_ B,q3_ B,q0_ C,q1_ C,q2_ C,q3_ C⟩ (fun T=>?_);clear hK K;refine norm_ (a':=?_) ?_ ?_;rotate_left
          ·
           show Act.put _ (some 24) _=_;simp only [Act.put,s0_,s1_,s2_,i64_w,i32_w];rfl
          exact norm_ (by simp only [putAll,Act.put,s0_,s1_,s2_] <;> rfl) (u1 (e7,d9) _ ⟨T,Q.1,B.1,C.1,D.1,E.1,F.1,g5.1,e5.1,X.1,b1.1,Y.1,b2.1,a1.1,a6.1,a8.1,b7.1,g6.1,e6.1,a3.1,b5.1,a4.1,b6.1,a7.1,b3.1,V.1⟩)
        ·
         skip
         clear Q B C D V;rintro d9 s8 g1;replace g1:=h_ (m4_ (m4_ (m4_ (m_ l_)))) g1;obtain ⟨i5,Q,B,C,D,F,g6,e6,a3,b5,a4,b6,a7,b3,V⟩:=g1;have T:=i5;refine norm_ (a':=?_) ?_ ?_;rotate_left
         ·
          simp only [putAll,Act.put,s0_,s1_,s2_];rfl
         refine two_ (i:=3) (j:=4) (Ni:=some 26) (Nj:=some 7) #[y_,y_,y_,y_,n_,y_,n_,n_] #[y_,y_,y_,n_,y_,y_,n_,n_] rfl rfl rfl rfl (two_of n1.1 (by kernel_rfl)) (by decide) (by decide) (fun K hK=>?_) (fun K hK=>?_)
         ·
          skip
          refine goes_ Try.func48 (by kernel_rfl) rfl #[.agg #[.int .i64 d2,.int .i64 d3,.int .i64 d4,.int .i64 d5]] (by rfl) rfl rfl (by (try simp only [m0_,m1_,m2_]);first|done|rfl|(simp only [l0_,l1_];rfl)) ?_;with_reducible refine (norm_of.calls d2 d3 d4 d5 h7 h9 i7 j4 _ A6.1).mono ?_
          rintro e t4 ⟨rfl,hb⟩;refine ⟨_,rfl,?_⟩;replace Q:=rbl Q hb;replace B:=bkb B hb;replace C:=bkb C hb;replace D:=bkb D hb;replace F:=bkb F hb;replace V:=bst V hb;(try clear hb);refine hK.out _ _ ⟨q0_ B,q1_ B,q2_ B,q3_ B,q0_ C,q1_ C,q2_ C,q3_ C⟩ (fun T=>?_);clear hK K;refine norm_ (a':=?_) ?_ ?_;rotate_left
          ·
           show Act.put _ (some 26) _=_;simp only [Act.put,s0_,s1_,s2_,i64_w,i32_w];rfl
          exact norm_ (by simp only [putAll,Act.put,s0_,s1_,s2_] <;> rfl) (z9 (d9) _ ⟨T,Q.1,B.1,C.1,D.1,F.1,g6.1,e6.1,a3.1,b5.1,a4.1,b6.1,a7.1,b3.1,V.1⟩)
         ·
          skip
          refine box_step ?hg (N:=7) ?hd (cs:=#[.int .i64 0,.int .i64 0,.int .i64 0,.int .i64 0]) (t:=67) ?hr ?_;(case hd=>rfl);(case hg=>rfl);(case hr=>first|(go_simp;done)|(go_simp;rfl));intro e7 hg t4 b0 hb;have E:=mk0 (b0);have g5:=szw hg V;have e5:=szw hg V;have X:=nlt hg B;have b1:=ngt hg B;have Y:=nlt hg C;have b2:=ngt hg C;have a1:=nlt hg D;have a6:=ngt hg D;have a8:=nlt hg F;have b7:=ngt hg F;replace Q:=rbl Q hb;replace B:=bkb B hb;replace C:=bkb C hb;replace D:=bkb D hb;replace F:=bkb F hb;replace V:=bst V hb;clear hb b0 hg;refine hK.out _ _ ⟨q0_ B,q1_ B,q2_ B,q3_ B,q0_ C,q1_ C,q2_ C,q3_ C⟩ (fun T=>?_);clear hK K;refine norm_ (a':=?_) ?_ ?_;rotate_left
          ·
           show Act.put _ (some 7) _=_;simp only [Act.put,s0_,s1_,s2_,i64_w,i32_w];rfl
          exact norm_ (by simp only [putAll,Act.put,s0_,s1_,s2_] <;> rfl) (u1 (e7,d9) _ ⟨T,Q.1,B.1,C.1,D.1,E.1,F.1,g5.1,e5.1,X.1,b1.1,Y.1,b2.1,a1.1,a6.1,a8.1,b7.1,g6.1,e6.1,a3.1,b5.1,a4.1,b6.1,a7.1,b3.1,V.1⟩)
       ·
        skip
        clear Q B C D V;rintro e7 s8 g1;replace g1:=h_ (m4_ (m4_ (m4_ (m_ l_)))) g1;obtain ⟨i5,Q,B,C,D,E,g5,e5,X,b1,Y,b2,a1,a6,V⟩:=g1;have T:=i5;refine norm_ (a':=?_) ?_ ?_;rotate_left
        ·
         simp only [putAll,Act.put,s0_,s1_,s2_];rfl
        refine two_ (i:=3) (j:=5) (Ni:=some 26) (Nj:=some 8) #[y_,y_,y_,y_,y_,n_,n_,n_] #[y_,y_,y_,n_,y_,y_,n_,n_] rfl rfl rfl rfl (two_of n1.1 (by kernel_rfl)) (by decide) (by decide) (fun K hK=>?_) (fun K hK=>?_)
        ·
         skip
         refine goes_ Try.func48 (by kernel_rfl) rfl #[.agg #[.int .i64 d2,.int .i64 d3,.int .i64 d4,.int .i64 d5]] (by rfl) rfl rfl (by (try simp only [m0_,m1_,m2_]);first|done|rfl|(simp only [l0_,l1_];rfl)) ?_;with_reducible refine (norm_of.calls d2 d3 d4 d5 h7 h9 i7 j4 _ A6.1).mono ?_
         rintro e t4 ⟨rfl,hb⟩;refine ⟨_,rfl,?_⟩;replace Q:=rbl Q hb;replace B:=bkb B hb;replace C:=bkb C hb;replace D:=bkb D hb;replace E:=bkb E hb;replace V:=bst V hb;(try clear hb);refine hK.out _ _ ⟨q0_ B,q1_ B,q2_ B,q3_ B,q0_ C,q1_ C,q2_ C,q3_ C⟩ (fun T=>?_);clear hK K;refine norm_ (a':=?_) ?_ ?_;rotate_left
         ·
          show Act.put _ (some 26) _=_;simp only [Act.put,s0_,s1_,s2_,i64_w,i32_w];rfl
         exact norm_ (by simp only [putAll,Act.put,s0_,s1_,s2_] <;> rfl) (z8 (e7) _ ⟨T,Q.1,B.1,C.1,D.1,E.1,g5.1,e5.1,X.1,b1.1,Y.1,b2.1,a1.1,a6.1,V.1⟩)
        ·
         skip
         refine box_step ?hg (N:=8) ?hd (cs:=#[.int .i64 0,.int .i64 0,.int .i64 0,.int .i64 0]) (t:=67) ?hr ?_;(case hd=>rfl);(case hg=>rfl);(case hr=>first|(go_simp;done)|(go_simp;rfl));intro d9 hg t4 b0 hb;have F:=mk0 (b0);have g6:=szw hg V;have e6:=szw hg V;have a3:=nlt hg B;have b5:=ngt hg B;have a4:=nlt hg C;have b6:=ngt hg C;have a7:=nlt hg D;have b3:=ngt hg D;have b7:=nlt hg E;have a8:=ngt hg E;replace Q:=rbl Q hb;replace B:=bkb B hb;replace C:=bkb C hb;replace D:=bkb D hb;replace E:=bkb E hb;replace V:=bst V hb;clear hb b0 hg;refine hK.out _ _ ⟨q0_ B,q1_ B,q2_ B,q3_ B,q0_ C,q1_ C,q2_ C,q3_ C⟩ (fun T=>?_);clear hK K;refine norm_ (a':=?_) ?_ ?_;rotate_left
         ·
          show Act.put _ (some 8) _=_;simp only [Act.put,s0_,s1_,s2_,i64_w,i32_w];rfl
         exact norm_ (by simp only [putAll,Act.put,s0_,s1_,s2_] <;> rfl) (u1 (e7,d9) _ ⟨T,Q.1,B.1,C.1,D.1,E.1,F.1,g5.1,e5.1,X.1,b1.1,Y.1,b2.1,a1.1,a6.1,a8.1,b7.1,g6.1,e6.1,a3.1,b5.1,a4.1,b6.1,a7.1,b3.1,V.1⟩)
      ·
       skip
       clear Q B C D V;rintro _ s8 g1;replace g1:=h_ (m4_ l_) g1;obtain ⟨i5,Q,B,C,D,V⟩:=g1;have T:=i5;refine norm_ (a':=?_) ?_ ?_;rotate_left
       ·
        simp only [putAll,Act.put,s0_,s1_,s2_];rfl
       refine two_ (i:=4) (j:=5) (Ni:=some 7) (Nj:=some 8) #[y_,y_,y_,y_,y_,n_,n_,n_] #[y_,y_,y_,y_,n_,y_,n_,n_] rfl rfl rfl rfl (two_of n1.1 (by kernel_rfl)) (by decide) (by decide) (fun K hK=>?_) (fun K hK=>?_)
       ·
        skip
        refine box_step ?hg (N:=7) ?hd (cs:=#[.int .i64 0,.int .i64 0,.int .i64 0,.int .i64 0]) (t:=67) ?hr ?_;(case hd=>rfl);(case hg=>rfl);(case hr=>first|(go_simp;done)|(go_simp;rfl));intro e7 hg t4 b0 hb;have E:=mk0 (b0);have g5:=szw hg V;have e5:=szw hg V;have X:=nlt hg B;have b1:=ngt hg B;have Y:=nlt hg C;have b2:=ngt hg C;have a1:=nlt hg D;have a6:=ngt hg D;replace Q:=rbl Q hb;replace B:=bkb B hb;replace C:=bkb C hb;replace D:=bkb D hb;replace V:=bst V hb;clear hb b0 hg;refine hK.out _ _ ⟨q0_ B,q1_ B,q2_ B,q3_ B,q0_ C,q1_ C,q2_ C,q3_ C⟩ (fun T=>?_);clear hK K;refine norm_ (a':=?_) ?_ ?_;rotate_left
        ·
         show Act.put _ (some 7) _=_;simp only [Act.put,s0_,s1_,s2_,i64_w,i32_w];rfl
        exact norm_ (by simp only [putAll,Act.put,s0_,s1_,s2_] <;> rfl) (z8 (e7) _ ⟨T,Q.1,B.1,C.1,D.1,E.1,g5.1,e5.1,X.1,b1.1,Y.1,b2.1,a1.1,a6.1,V.1⟩)
       ·
        skip
        refine box_step ?hg (N:=8) ?hd (cs:=#[.int .i64 0,.int .i64 0,.int .i64 0,.int .i64 0]) (t:=67) ?hr ?_;(case hd=>rfl);(case hg=>rfl);(case hr=>first|(go_simp;done)|(go_simp;rfl));intro d9 hg t4 b0 hb;have F:=mk0 (b0);have g6:=szw hg V;have e6:=szw hg V;have a3:=nlt hg B;have b5:=ngt hg B;have a4:=nlt hg C;have b6:=ngt hg C;have a7:=nlt hg D;have b3:=ngt hg D;replace Q:=rbl Q hb;replace B:=bkb B hb;replace C:=bkb C hb;replace D:=bkb D hb;replace V:=bst V hb;clear hb b0 hg;refine hK.out _ _ ⟨q0_ B,q1_ B,q2_ B,q3_ B,q0_ C,q1_ C,q2_ C,q3_ C⟩ (fun T=>?_);clear hK K;refine norm_ (a':=?_) ?_ ?_;rotate_left
        ·
         show Act.put _ (some 8) _=_;simp only [Act.put,s0_,s1_,s2_,i64_w,i32_w];rfl
        exact norm_ (by simp only [putAll,Act.put,s0_,s1_,s2_] <;> rfl) (z9 (d9) _ ⟨T,Q.1,B.1,C.1,D.1,F.1,g6.1,e6.1,a3.1,b5.1,a4.1,b6.1,a7.1,b3.1,V.1⟩)
     ·
      skip
      clear Q B C D V;rintro ⟨e7,d9⟩ t4 g1;(try dsimp only at g1);replace g1:=h_ (m4_ (m4_ (m4_ (m4_ (m4_ (m4_ l_)))))) g1;obtain ⟨i5,Q,B,C,D,E,F,g5,e5,X,b1,Y,b2,a1,a6,a8,b7,g6,e6,a3,b5,a4,b6,a7,b3,V⟩:=g1;have T:=i5;refine norm_ (a':=?_) ?_ ?_;rotate_left
      ·
       simp only [putAll,Act.put,s0_,s1_,s2_];rfl
      refine one_ (i:=3) (N:=some 26) #[y_,y_,y_,y_,y_,y_,n_,n_] rfl rfl (one_of n1.1 (by kernel_rfl)) (by decide) (fun K hK=>?_);refine goes_ Try.func48 (by kernel_rfl) rfl #[.agg #[.int .i64 d2,.int .i64 d3,.int .i64 d4,.int .i64 d5]] (by rfl) rfl rfl (by (try simp only [m0_,m1_,m2_]);first|done|rfl|(simp only [l0_,l1_];rfl)) ?_;with_reducible refine (norm_of.calls d2 d3 d4 d5 h7 h9 i7 j4 _ A6.1).mono ?_
      rintro e L4 ⟨rfl,hb⟩;refine ⟨_,rfl,?_⟩;replace Q:=rbl Q hb;replace B:=bkb B hb;replace C:=bkb C hb;replace D:=bkb D hb;replace E:=bkb E hb;replace F:=bkb F hb;replace V:=bst V hb;(try clear hb);refine hK.out _ _ ⟨q0_ B,q1_ B,q2_ B,q3_ B,q0_ C,q1_ C,q2_ C,q3_ C⟩ (fun T=>?_);clear hK K;refine norm_ (a':=?_) ?_ ?_;rotate_left
      ·
       show Act.put _ (some 26) _=_;simp only [Act.put,s0_,s1_,s2_,i64_w,i32_w];rfl
      exact norm_ (by simp only [putAll,Act.put,s0_,s1_,s2_] <;> rfl) (o2 (e7,d9) _ ⟨T,Q.1,B.1,C.1,D.1,E.1,F.1,g5.1,e5.1,X.1,b1.1,Y.1,b2.1,a1.1,a6.1,a8.1,b7.1,g6.1,e6.1,a3.1,b5.1,a4.1,b6.1,a7.1,b3.1,V.1⟩)
    ·
     skip
     clear Q B C D V;rintro d9 t4 g1;replace g1:=h_ (m4_ (m4_ (m4_ (m_ l_)))) g1;obtain ⟨i5,Q,B,C,D,F,g6,e6,a3,b5,a4,b6,a7,b3,V⟩:=g1;have T:=i5;refine norm_ (a':=?_) ?_ ?_;rotate_left
     ·
      simp only [putAll,Act.put,s0_,s1_,s2_];rfl
     refine one_ (i:=4) (N:=some 7) #[y_,y_,y_,y_,y_,y_,n_,n_] rfl rfl (one_of n1.1 (by kernel_rfl)) (by decide) (fun K hK=>?_);refine box_step ?hg (N:=7) ?hd (cs:=#[.int .i64 0,.int .i64 0,.int .i64 0,.int .i64 0]) (t:=67) ?hr ?_;(case hd=>rfl);(case hg=>rfl);(case hr=>first|(go_simp;done)|(go_simp;rfl));intro e7 hg L4 b0 hb;have E:=mk0 (b0);have g5:=szw hg V;have e5:=szw hg V;have X:=nlt hg B;have b1:=ngt hg B;have Y:=nlt hg C;have b2:=ngt hg C;have a1:=nlt hg D;have a6:=ngt hg D;have a8:=nlt hg F;have b7:=ngt hg F;replace Q:=rbl Q hb;replace B:=bkb B hb;replace C:=bkb C hb;replace D:=bkb D hb;replace F:=bkb F hb;replace V:=bst V hb;clear hb b0 hg;refine hK.out _ _ ⟨q0_ B,q1_ B,q2_ B,q3_ B,q0_ C,q1_ C,q2_ C,q3_ C⟩ (fun T=>?_);clear hK K;refine norm_ (a':=?_) ?_ ?_;rotate_left
     ·
      show Act.put _ (some 7) _=_;simp only [Act.put,s0_,s1_,s2_,i64_w,i32_w];rfl
     exact norm_ (by simp only [putAll,Act.put,s0_,s1_,s2_] <;> rfl) (o2 (e7,d9) _ ⟨T,Q.1,B.1,C.1,D.1,E.1,F.1,g5.1,e5.1,X.1,b1.1,Y.1,b2.1,a1.1,a6.1,a8.1,b7.1,g6.1,e6.1,a3.1,b5.1,a4.1,b6.1,a7.1,b3.1,V.1⟩)
   ·
    skip
    clear Q B C D V;rintro e7 t4 g1;replace g1:=h_ (m4_ (m4_ (m4_ (m_ l_)))) g1;obtain ⟨i5,Q,B,C,D,E,g5,e5,X,b1,Y,b2,a1,a6,V⟩:=g1;have T:=i5;refine norm_ (a':=?_) ?_ ?_;rotate_left
    ·
     simp only [putAll,Act.put,s0_,s1_,s2_];rfl
    refine one_ (i:=5) (N:=some 8) #[y_,y_,y_,y_,y_,y_,n_,n_] rfl rfl (one_of n1.1 (by kernel_rfl)) (by decide) (fun K hK=>?_);refine box_step ?hg (N:=8) ?hd (cs:=#[.int .i64 0,.int .i64 0,.int .i64 0,.int .i64 0]) (t:=67) ?hr ?_;(case hd=>rfl);(case hg=>rfl);(case hr=>first|(go_simp;done)|(go_simp;rfl));intro d9 hg L4 b0 hb;have F:=mk0 (b0);have g6:=szw hg V;have e6:=szw hg V;have a3:=nlt hg B;have b5:=ngt hg B;have a4:=nlt hg C;have b6:=ngt hg C;have a7:=nlt hg D;have b3:=ngt hg D;have b7:=nlt hg E;have a8:=ngt hg E;replace Q:=rbl Q hb;replace B:=bkb B hb;replace C:=bkb C hb;replace D:=bkb D hb;replace E:=bkb E hb;replace V:=bst V hb;clear hb b0 hg;refine hK.out _ _ ⟨q0_ B,q1_ B,q2_ B,q3_ B,q0_ C,q1_ C,q2_ C,q3_ C⟩ (fun T=>?_);clear hK K;refine norm_ (a':=?_) ?_ ?_;rotate_left
    ·
     show Act.put _ (some 8) _=_;simp only [Act.put,s0_,s1_,s2_,i64_w,i32_w];rfl
    exact norm_ (by simp only [putAll,Act.put,s0_,s1_,s2_] <;> rfl) (o2 (e7,d9) _ ⟨T,Q.1,B.1,C.1,D.1,E.1,F.1,g5.1,e5.1,X.1,b1.1,Y.1,b2.1,a1.1,a6.1,a8.1,b7.1,g6.1,e6.1,a3.1,b5.1,a4.1,b6.1,a7.1,b3.1,V.1⟩)
  clear Q B C D V;rintro ⟨e7,d9⟩ L4 g1;(try dsimp only at g1);replace g1:=h_ (m4_ (m4_ (m4_ (m4_ (m4_ (m4_ l_)))))) g1;obtain ⟨i5,Q,B,C,D,E,F,g5,e5,X,b1,Y,b2,a1,a6,a8,b7,g6,e6,a3,b5,a4,b6,a7,b3,V⟩:=g1;have T:=i5;refine norm_ (a':=?_) ?_ ?_;rotate_left
  ·
   simp only [putAll,Act.put,s0_,s1_,s2_];rfl
  refine one_ (i:=6) (N:=none) #[y_,y_,y_,y_,y_,y_,y_,n_] rfl rfl (one_of n1.1 (by kernel_rfl)) (by decide) (fun K hK=>?_);have Mm:=q0_ E;have It:=blk_frozen E.1 0;have Bt:=X.1;have Bu:=Y.1;have Bv:=a1.1;have Bw:=a8.1;have Bx:=b1.1;have By:=b2.1;have Bz:=a6.1;have Ca:=b7.1;have Mn:=q1_ E;have Iu:=blk_frozen E.1 1;have Mo:=q2_ E;have Iv:=blk_frozen E.1 2;have Mp:=q3_ E;have Iw:=blk_frozen E.1 3;refine skip_ (w1:=?_) (by rfl) rfl ?_ ?_;rotate_left
  ·
   go_simp;rfl
  refine hK.out _ _ ⟨f4_ X T.1,f4_ X T.2.1,f4_ X T.2.2.1,f4_ X T.2.2.2.1,f4_ Y T.2.2.2.2.1,f4_ Y T.2.2.2.2.2.1,f4_ Y T.2.2.2.2.2.2.1,f4_ Y T.2.2.2.2.2.2.2⟩ (fun T=>?_);clear hK K;refine one_ (i:=7) (N:=none) #[y_,y_,y_,y_,y_,y_,y_,y_] rfl rfl (one_of n1.1 (by kernel_rfl)) (by decide) (fun K hK=>?_);have Mq:=q0_ F;have Ix:=blk_frozen F.1 0;have Cb:=a3.1;have Cc:=a4.1;have Cd:=a7.1;have Ce:=b7.1;have Cf:=b5.1;have Cg:=b6.1;have Ch:=b3.1;have Ci:=a8.1;have Mr:=q1_ F;have Iy:=blk_frozen F.1 1;have Ms:=q2_ F;have Iz:=blk_frozen F.1 2;have Mt:=q3_ F;have Ja:=blk_frozen F.1 3;refine skip_ (w1:=?_) (by rfl) rfl ?_ ?_;rotate_left
  ·
   go_simp;rfl
  refine hK.out _ _ ⟨f4_ a3 T.1,f4_ a3 T.2.1,f4_ a3 T.2.2.1,f4_ a3 T.2.2.2.1,f4_ a4 T.2.2.2.2.1,f4_ a4 T.2.2.2.2.2.1,f4_ a4 T.2.2.2.2.2.2.1,f4_ a4 T.2.2.2.2.2.2.2⟩ (fun T=>?_);clear hK K;refine done_ (done_of n1.1 (by kernel_rfl)) ?_;go_upto_region 5 with (fail)
  go_cut [34] (fun Dv wc=>∃ (kq:Nat) (y6:Bool),Dv=.bool y6∧Aside0 (norm_Gcd.j0 kq y6 g7 g8 h0 h4 h7 h9 i7 j4=some (r1,r2,r3,r4,r5))∧Aside0 (kq ≤ k)∧Aside0 (Q4_ wc J c0 c2 d0 d1 23)∧Aside0 (Q4_ wc L d2 d3 d4 d5 23)∧Aside0 (Q4_ wc a9 0 0 0 0 23)∧Aside0 (Q4_ wc e7 g7 g8 h0 h4 67)∧Aside0 (Q4_ wc d9 h7 h9 i7 j4 67)∧Aside0 (Below w.heap.size w wc))
  case first =>
   have H:=L3.1;clear L3
   by_cases c34:(g7 == 0 && (g8 == 0 && (h0 == 0 && (h4 == 0))))=true
   ·
    rw [if_pos c34] at H;have c34b0:(g7 == 0 && (g8 == 0 && (h0 == 0 && (h4 == 0))))=true:=c34;(try (have c34b1:decide (g7=0 && (g8 == 0 && (h0 == 0 && (h4 == 0))))=true:=by simpa using c34));(try (have c34b2:(g7 == 0 && (g8 == 0 && (h0 == 0 && (h4 == 0))))=true:=by simpa using c34));clear c34;(first|rw [c34b0]|(simp only [i64_w,i32_w];rw [c34b0])|skip);have H':=mk0 H;clear H;have Jb:=b1.1;have Jc:=X.1;have Jd:=b2.1;have Je:=Y.1;have Jf:=a6.1;have Jg:=a1.1;have Jh:=b7.1;have Ji:=a8.1;have u2:=q0_ E;have u3:=q1_ E;have u4:=q2_ E;have u5:=q3_ E;have u6:=blk_frozen E.1 0;have u7:=blk_frozen E.1 1;have u8:=blk_frozen E.1 2;have u9:=blk_frozen E.1 3;have Jj:=b5.1;have Jk:=a3.1;have Jl:=b6.1;have Jm:=a4.1;have Jn:=b3.1;have Jo:=a7.1;have v0:=q0_ F;have v1:=q1_ F;have v2:=q2_ F;have v3:=q3_ F;have v4:=blk_frozen F.1 0;have v5:=blk_frozen F.1 1;have v6:=blk_frozen F.1 2;have v7:=blk_frozen F.1 3;go_wp2;go_meet
    case rel=>exact ⟨_,((h7 == 0 && (h9 == 0 && (i7 == 0 && (j4 == 0))))),(by first|rfl|(simp;done)|(simp [*];done)),H',⟨by first|omega|exact Nat.le_refl _⟩,⟨by (iterate 4 refine blk_far ?_ a3.1 _);(iterate 4 refine blk_far ?_ X.1 _);exact B.1⟩,⟨by (iterate 4 refine blk_far ?_ a4.1 _);(iterate 4 refine blk_far ?_ Y.1 _);exact C.1⟩,⟨by (iterate 4 refine blk_far ?_ a7.1 _);(iterate 4 refine blk_far ?_ a1.1 _);exact D.1⟩,⟨by (iterate 4 refine blk_far ?_ b7.1 _);refine blk_put (cs:=#[.int .i64 g7,.int .i64 g8,.int .i64 h0,.int .i64 0]) ?_ 3 _ rfl;refine blk_put (cs:=#[.int .i64 g7,.int .i64 g8,.int .i64 0,.int .i64 0]) ?_ 2 _ rfl;refine blk_put (cs:=#[.int .i64 g7,.int .i64 0,.int .i64 0,.int .i64 0]) ?_ 1 _ rfl;refine blk_put (cs:=#[.int .i64 0,.int .i64 0,.int .i64 0,.int .i64 0]) ?_ 0 _ rfl;exact E.1⟩,⟨by refine blk_put (cs:=#[.int .i64 h7,.int .i64 h9,.int .i64 i7,.int .i64 0]) ?_ 3 _ rfl;refine blk_put (cs:=#[.int .i64 h7,.int .i64 h9,.int .i64 0,.int .i64 0]) ?_ 2 _ rfl;refine blk_put (cs:=#[.int .i64 h7,.int .i64 0,.int .i64 0,.int .i64 0]) ?_ 1 _ rfl;refine blk_put (cs:=#[.int .i64 0,.int .i64 0,.int .i64 0,.int .i64 0]) ?_ 0 _ rfl;(iterate 4 refine blk_far ?_ a8.1 _);exact F.1⟩,⟨by repeat (first|(with_reducible first|exact V.1|apply below_alloc|apply pw_below_drewN|apply below_drew1|refine below_set ?_ h1.1|refine below_set ?_ h2.1|refine below_set ?_ h3.1|refine below_set ?_ e5.1|refine below_set ?_ e6.1)|exact V.1)⟩⟩
   ·
    rw [if_neg c34] at H;have c34b0:(g7 == 0 && (g8 == 0 && (h0 == 0 && (h4 == 0))))=false:=by simpa using c34
    (try (have c34b1:decide (g7=0 && (g8 == 0 && (h0 == 0 && (h4 == 0))))=false:=by simpa using c34));(try (have c34b2:(g7 == 0 && (g8 == 0 && (h0 == 0 && (h4 == 0))))=false:=by simpa using c34));(try (have c34b3:¬ (g7=0 && (g8 == 0 && (h0 == 0 && (h4 == 0)))):=by simpa using c34));clear c34;(first|rw [c34b0]|(simp only [i64_w,i32_w];rw [c34b0])|skip);have H':=mk0 H;clear H;have Jp:=b1.1;have Jq:=X.1;have Jr:=b2.1;have Js:=Y.1;have Jt:=a6.1;have Ju:=a1.1;have Jv:=b7.1;have Jw:=a8.1;have v8:=q0_ E;have v9:=q1_ E;have x0:=q2_ E;have x1:=q3_ E;have x2:=blk_frozen E.1 0;have x3:=blk_frozen E.1 1;have x4:=blk_frozen E.1 2;have x5:=blk_frozen E.1 3;go_wp2;go_meet
    case rel=>exact ⟨_,(false),(by first|rfl|(simp;done)|(simp [*];done)),H',⟨by first|omega|exact Nat.le_refl _⟩,⟨by (iterate 4 refine blk_far ?_ a3.1 _);(iterate 4 refine blk_far ?_ X.1 _);exact B.1⟩,⟨by (iterate 4 refine blk_far ?_ a4.1 _);(iterate 4 refine blk_far ?_ Y.1 _);exact C.1⟩,⟨by (iterate 4 refine blk_far ?_ a7.1 _);(iterate 4 refine blk_far ?_ a1.1 _);exact D.1⟩,⟨by (iterate 4 refine blk_far ?_ b7.1 _);refine blk_put (cs:=#[.int .i64 g7,.int .i64 g8,.int .i64 h0,.int .i64 0]) ?_ 3 _ rfl;refine blk_put (cs:=#[.int .i64 g7,.int .i64 g8,.int .i64 0,.int .i64 0]) ?_ 2 _ rfl;refine blk_put (cs:=#[.int .i64 g7,.int .i64 0,.int .i64 0,.int .i64 0]) ?_ 1 _ rfl;refine blk_put (cs:=#[.int .i64 0,.int .i64 0,.int .i64 0,.int .i64 0]) ?_ 0 _ rfl;exact E.1⟩,⟨by refine blk_put (cs:=#[.int .i64 h7,.int .i64 h9,.int .i64 i7,.int .i64 0]) ?_ 3 _ rfl;refine blk_put (cs:=#[.int .i64 h7,.int .i64 h9,.int .i64 0,.int .i64 0]) ?_ 2 _ rfl;refine blk_put (cs:=#[.int .i64 h7,.int .i64 0,.int .i64 0,.int .i64 0]) ?_ 1 _ rfl;refine blk_put (cs:=#[.int .i64 0,.int .i64 0,.int .i64 0,.int .i64 0]) ?_ 0 _ rfl;(iterate 4 refine blk_far ?_ a8.1 _);exact F.1⟩,⟨by repeat (first|(with_reducible first|exact V.1|apply below_alloc|apply pw_below_drewN|apply below_drew1|refine below_set ?_ h1.1|refine below_set ?_ h2.1|refine below_set ?_ h3.1|refine below_set ?_ e5.1|refine below_set ?_ e6.1)|exact V.1)⟩⟩
  case rest =>
   clear L3;try clear p2
   try clear c3
   try clear c4
   try clear c34
   try clear c34b0
   try clear c34b1
   try clear c34b2
   try clear c35
   try clear c36
   try clear c37
   try clear c38
   try clear c40
   try clear c41
   try clear c42
   try clear c44
   try clear c45
   try clear c46
   try clear c47
   try clear c48
   try clear u2
   try clear u3
   try clear u4
   try clear u5
   try clear v0
   try clear v1
   try clear v2
   try clear v3
   try clear v8
   try clear v9
   try clear x0
   try clear x1
   try clear u6
   try clear u7
   try clear u8
   try clear u9
   try clear v4
   try clear v5
   try clear v6
   try clear v7
   try clear x2
   try clear x3
   try clear x4
   try clear x5
   obtain ⟨kq,y6,rfl,HA,A0,B,C,D,E,F,V⟩:=hcut;cases kq with
   | zero=>exact absurd HA.1 (by simp [norm_Gcd.j0])
   | succ kj6 =>
    have H:=HA.1;clear HA;simp only [norm_Gcd.j0] at H
    by_cases A1:y6=true
    ·
     subst A1;have H1:(some (0,0,0,0,5))=some (r1,r2,r3,r4,r5):=by rw [if_pos rfl] at H;exact H
     clear H;have H:=H1;clear H1;simp only [Option.some.injEq,Prod.mk.injEq] at H;obtain ⟨rfl,rfl,rfl,rfl,rfl⟩:=H;have Jx:=j8.1;have Jy:=j7.1;have Jz:=l2.1;have Ka:=j9.1;have Kb:=a1.1;have Kc:=a6.1;have Ke:=a7.1;have Kf:=b3.1;have A2:=q0_ D;have A4:=q1_ D;have A7:=q2_ D;have A8:=q3_ D;have A9:=blk_frozen D.1 0;have B0:=blk_frozen D.1 1;have B1:=blk_frozen D.1 2;have B2:=blk_frozen D.1 3;go_wp2;refine bodyPost_ret (results_ct rfl _ _ a9 23 #[.int .i64 0,.int .i64 0,.int .i64 0,.int .i64 0] (0,0) _ rfl (by refine blk_put (cs:=#[.int .i64 0,.int .i64 0,.int .i64 0,.int .i64 0]) ?_ 3 _ rfl;refine blk_put (cs:=#[.int .i64 0,.int .i64 0,.int .i64 0,.int .i64 0]) ?_ 2 _ rfl;refine blk_put (cs:=#[.int .i64 0,.int .i64 0,.int .i64 0,.int .i64 0]) ?_ 1 _ rfl;refine blk_put (cs:=#[.int .i64 0,.int .i64 0,.int .i64 0,.int .i64 0]) ?_ 0 _ rfl;exact D.1) Try.underlying23 rfl (by kernel_rfl)) rfl ?_;exact ⟨by first|rfl|(simp [errW_none,errW_some] <;> rfl)|(simp [*,errW_none,errW_some] <;> rfl),by repeat (first|(with_reducible first|exact V.1|apply below_alloc|apply pw_below_drewN|apply below_drew1|refine below_set ?_ h1.1|refine below_set ?_ h2.1|refine below_set ?_ h3.1|refine below_set ?_ e5.1|refine below_set ?_ e6.1)|exact V.1)⟩
    ·
     replace A1:=Bool.eq_false_iff.mpr A1;subst A1;have H1:(norm_Gcd.l0 kj6 g7 g8 h0 h4 h7 h9 i7 j4)=some (r1,r2,r3,r4,r5):=by rw [if_neg (show ¬ (false=true) by decide)] at H;exact H
     clear H;have H:=H1;clear H1;have H':=mk0 H;clear H;go_wp2
     go_loopg [] kj6 (fun kq w'=>∃ (Z:Int) (a0:Int) (a2:Int) (a5:Int) (e0:Int) (e1:Int) (e2:Int) (e3:Int),Aside0 (norm_Gcd.l0 kq Z a0 a2 a5 e0 e1 e2 e3=some (r1,r2,r3,r4,r5))∧Aside0 (kq ≤ kj6)∧Aside0 (Q4_ w' J c0 c2 d0 d1 23)∧Aside0 (Q4_ w' L d2 d3 d4 d5 23)∧Aside0 (Q4_ w' a9 0 0 0 0 23)∧Aside0 (Q4_ w' e7 Z a0 a2 a5 67)∧Aside0 (Q4_ w' d9 e0 e1 e2 e3 67)∧Aside0 (Below w.heap.size w w'))
     case atStart=>exact ⟨(g7),(g8),(h0),(h4),(h7),(h9),(i7),(j4),H',⟨Nat.le_refl _⟩,⟨by exact B.1⟩,⟨by exact C.1⟩,⟨by exact D.1⟩,⟨by exact E.1⟩,⟨by exact F.1⟩,⟨by repeat (first|(with_reducible first|exact V.1|apply below_alloc|apply pw_below_drewN|apply below_drew1|refine below_set ?_ h1.1|refine below_set ?_ h2.1|refine below_set ?_ h3.1|refine below_set ?_ e5.1|refine below_set ?_ e6.1)|exact V.1)⟩⟩
     case round =>
      clear H';try clear p2
      try clear c3
      try clear c4
      try clear c5
      try clear c34
      try clear c34b0
      try clear c34b1
      try clear c34b2
      try clear c35
      try clear c36
      try clear c37
      try clear c38
      try clear c40
      try clear c41
      try clear c42
      try clear c44
      try clear c45
      try clear c46
      try clear c47
      try clear c48
      try clear A1
      try clear c50
      try clear c51
      try clear c52
      try clear c53
      try clear u2
      try clear u3
      try clear u4
      try clear u5
      try clear v0
      try clear v1
      try clear v2
      try clear v3
      try clear v8
      try clear v9
      try clear x0
      try clear x1
      try clear A2
      try clear A4
      try clear A7
      try clear A8
      try clear u6
      try clear u7
      try clear u8
      try clear u9
      try clear v4
      try clear v5
      try clear v6
      try clear v7
      try clear x2
      try clear x3
      try clear x4
      try clear x5
      try clear A9
      try clear B0
      try clear B1
      try clear B2
      try clear p2
      obtain ⟨Z,a0,a2,a5,e0,e1,e2,e3,HA,B3,B,C,D,E,F,V⟩:=hrel;cases gk with
      | zero=>exact absurd HA.1 (by simp [norm_Gcd.l0])
      | succ k2 =>
       have H:=HA.1;clear HA;simp only [norm_Gcd.l0] at H
       by_cases c55:(!(e0 == 0) || (!(e1 == 0) || (!(e2 == 0) || (!(e3 == 0)))))=true
       ·
        rw [if_pos c55] at H;have c55b0:(!(e0 == 0) || (!(e1 == 0) || (!(e2 == 0) || (!(e3 == 0)))))=true:=c55;clear c55;replace H:=Option.bind_eq_some_iff.mp H;obtain ⟨⟨j2,j5,m8,n3,h8,i0,i8,j6⟩,L6,H⟩:=H;(try dsimp only at H);have Dw:=mk0 L6;clear L6;have H':=mk0 H;clear H;have Kg:=b5.1;have Kh:=a3.1;have Ki:=b6.1;have Kj:=a4.1;have Kk:=b3.1;have Kl:=a7.1;have Km:=a8.1;have Kn:=b7.1;have F8:=q0_ F;have F9:=q1_ F;have G0:=q2_ F;have G1:=q3_ F;have G2:=blk_frozen F.1 0;have G3:=blk_frozen F.1 1;have G4:=blk_frozen F.1 2;have G5:=blk_frozen F.1 3;have Ko:=b1.1;have Kp:=X.1;have Kq:=b2.1;have Kr:=Y.1;have Ks:=a6.1;have Kt:=a1.1;have G6:=q0_ E;have G7:=q1_ E;have G8:=q2_ E;have G9:=q3_ E;have H0:=blk_frozen E.1 0;have H2:=blk_frozen E.1 1;have H3:=blk_frozen E.1 2;have H4:=blk_frozen E.1 3;try go_wp2_with (first|((with_reducible refine gate_callee (f:=49) rfl ?_);refine goesL_ (some 42) rfl rfl Try.func49 (by kernel_rfl) rfl #[.agg #[.int .i64 Z,.int .i64 a0,.int .i64 a2,.int .i64 a5],.agg #[.int .i64 e0,.int .i64 e1,.int .i64 e2,.int .i64 e3]] rfl (by (try simp only [m0_,m1_,m2_]);first|done|rfl|(simp only [l0_,l1_];rfl)) ?_;(with_reducible refine (norm_divide.calls k2 Z a0 a2 a5 e0 e1 e2 e3 j2 j5 m8 n3 h8 i0 i8 j6 _ Dw.1).mono ?_);rintro e Nz ⟨rfl,hb⟩;refine ⟨_,rfl,?_⟩;replace B:=bkb B hb;replace C:=bkb C hb;replace D:=bkb D hb;replace E:=bkb E hb;replace F:=bkb F hb;replace V:=bst V hb;(try clear hb))|((with_reducible refine gate_dst (N:=9) rfl ?_);refine box_event ?hg (N:=9) ?hd (cs:=#[.int .i64 0,.int .i64 0,.int .i64 0,.int .i64 0]) (t:=67) ?hr ?_;(case hd=>rfl);(case hg=>rfl);(case hr=>first|(go_simp;done)|(go_simp;rfl));intro f5 hg Oa b0 hb;have h5:=mk0 (b0);have M4:=szw hg V;have F1:=M4;have x6:=nlt hg B;have C4:=ngt hg B;have x7:=nlt hg C;have C5:=ngt hg C;have x8:=nlt hg D;have C6:=ngt hg D;have o3:=nlt hg E;have x9:=ngt hg E;have n5:=nlt hg F;have o4:=ngt hg F;replace B:=bkb B hb;replace C:=bkb C hb;replace D:=bkb D hb;replace E:=bkb E hb;replace F:=bkb F hb;replace V:=bst V hb;clear hb b0 hg)|((with_reducible refine gate_dst (N:=10) rfl ?_);refine box_event ?hg (N:=10) ?hd (cs:=#[.int .i64 0,.int .i64 0,.int .i64 0,.int .i64 0]) (t:=67) ?hr ?_;(case hd=>rfl);(case hg=>rfl);(case hr=>first|(go_simp;done)|(go_simp;rfl));intro e8 hg t5 b0 hb;have h6:=mk0 (b0);have M5:=szw hg V;have F2:=M5;have y0:=nlt hg B;have C7:=ngt hg B;have y1:=nlt hg C;have C8:=ngt hg C;have y2:=nlt hg D;have C9:=ngt hg D;have o5:=nlt hg E;have i9:=ngt hg E;have n6:=nlt hg F;have o6:=ngt hg F;have y3:=nlt hg h5;have y4:=ngt hg h5;replace B:=bkb B hb;replace C:=bkb C hb;replace D:=bkb D hb;replace E:=bkb E hb;replace F:=bkb F hb;replace h5:=bkb h5 hb;replace V:=bst V hb;clear hb b0 hg;have Ku:=C4.1;have Kv:=x6.1;have Kw:=C5.1;have Kx:=x7.1;have Ky:=C6.1;have Kz:=x8.1;have La:=x9.1;have Lb:=o3.1;have Lc:=o4.1;have Ld:=n5.1;have Le:=y3.1;have Lf:=y4.1;have H5:=q0_ h5;have H6:=q1_ h5;have H7:=q2_ h5;have H8:=q3_ h5;have H9:=blk_frozen h5.1 0;have I0:=blk_frozen h5.1 1;have I1:=blk_frozen h5.1 2;have I2:=blk_frozen h5.1 3;have Lg:=C7.1;have Lh:=y0.1;have Li:=C8.1;have Lj:=y1.1;have Lk:=C9.1;have Ll:=y2.1;have Lm:=i9.1;have Ln:=o5.1;have Lo:=o6.1;have Lp:=n6.1;have I3:=q0_ h6;have I4:=q1_ h6;have I5:=q2_ h6;have I6:=q3_ h6;have I7:=blk_frozen h6.1 0;have I8:=blk_frozen h6.1 1;have I9:=blk_frozen h6.1 2;have J0:=blk_frozen h6.1 3))
        have o7:Aside0 (((((((((t5.setCell ⟨f5,0,none⟩ (.int .i64 j2)).setCell ⟨f5,1,none⟩ (.int .i64 j5)).setCell ⟨f5,2,none⟩ (.int .i64 m8)).setCell ⟨f5,3,none⟩ (.int .i64 n3)).setCell ⟨e8,0,none⟩ (.int .i64 h8)).setCell ⟨e8,1,none⟩ (.int .i64 i0)).setCell ⟨e8,2,none⟩ (.int .i64 i8)).setCell ⟨e8,3,none⟩ (.int .i64 j6)).heap[J]?=some (.cells #[.int .i64 c0,.int .i64 c2,.int .i64 d0,.int .i64 d1] 23 (0,0))):=⟨by (iterate 4 refine blk_far ?_ y0.1 _);(iterate 4 refine blk_far ?_ x6.1 _);exact B.1⟩
        have o8:Aside0 (((((((((t5.setCell ⟨f5,0,none⟩ (.int .i64 j2)).setCell ⟨f5,1,none⟩ (.int .i64 j5)).setCell ⟨f5,2,none⟩ (.int .i64 m8)).setCell ⟨f5,3,none⟩ (.int .i64 n3)).setCell ⟨e8,0,none⟩ (.int .i64 h8)).setCell ⟨e8,1,none⟩ (.int .i64 i0)).setCell ⟨e8,2,none⟩ (.int .i64 i8)).setCell ⟨e8,3,none⟩ (.int .i64 j6)).heap[L]?=some (.cells #[.int .i64 d2,.int .i64 d3,.int .i64 d4,.int .i64 d5] 23 (0,0))):=⟨by (iterate 4 refine blk_far ?_ y1.1 _);(iterate 4 refine blk_far ?_ x7.1 _);exact C.1⟩
        have o9:Aside0 (((((((((t5.setCell ⟨f5,0,none⟩ (.int .i64 j2)).setCell ⟨f5,1,none⟩ (.int .i64 j5)).setCell ⟨f5,2,none⟩ (.int .i64 m8)).setCell ⟨f5,3,none⟩ (.int .i64 n3)).setCell ⟨e8,0,none⟩ (.int .i64 h8)).setCell ⟨e8,1,none⟩ (.int .i64 i0)).setCell ⟨e8,2,none⟩ (.int .i64 i8)).setCell ⟨e8,3,none⟩ (.int .i64 j6)).heap[a9]?=some (.cells #[.int .i64 0,.int .i64 0,.int .i64 0,.int .i64 0] 23 (0,0))):=⟨by (iterate 4 refine blk_far ?_ y2.1 _);(iterate 4 refine blk_far ?_ x8.1 _);exact D.1⟩
        have p0:Aside0 (((((((((t5.setCell ⟨f5,0,none⟩ (.int .i64 j2)).setCell ⟨f5,1,none⟩ (.int .i64 j5)).setCell ⟨f5,2,none⟩ (.int .i64 m8)).setCell ⟨f5,3,none⟩ (.int .i64 n3)).setCell ⟨e8,0,none⟩ (.int .i64 h8)).setCell ⟨e8,1,none⟩ (.int .i64 i0)).setCell ⟨e8,2,none⟩ (.int .i64 i8)).setCell ⟨e8,3,none⟩ (.int .i64 j6)).heap[e7]?=some (.cells #[.int .i64 Z,.int .i64 a0,.int .i64 a2,.int .i64 a5] 67 (0,0))):=⟨by (iterate 4 refine blk_far ?_ o5.1 _);(iterate 4 refine blk_far ?_ o3.1 _);exact E.1⟩
        have p1:Aside0 (((((((((t5.setCell ⟨f5,0,none⟩ (.int .i64 j2)).setCell ⟨f5,1,none⟩ (.int .i64 j5)).setCell ⟨f5,2,none⟩ (.int .i64 m8)).setCell ⟨f5,3,none⟩ (.int .i64 n3)).setCell ⟨e8,0,none⟩ (.int .i64 h8)).setCell ⟨e8,1,none⟩ (.int .i64 i0)).setCell ⟨e8,2,none⟩ (.int .i64 i8)).setCell ⟨e8,3,none⟩ (.int .i64 j6)).heap[d9]?=some (.cells #[.int .i64 e0,.int .i64 e1,.int .i64 e2,.int .i64 e3] 67 (0,0))):=⟨by (iterate 4 refine blk_far ?_ n6.1 _);(iterate 4 refine blk_far ?_ n5.1 _);exact F.1⟩
        have p3:Aside0 (((((((((t5.setCell ⟨f5,0,none⟩ (.int .i64 j2)).setCell ⟨f5,1,none⟩ (.int .i64 j5)).setCell ⟨f5,2,none⟩ (.int .i64 m8)).setCell ⟨f5,3,none⟩ (.int .i64 n3)).setCell ⟨e8,0,none⟩ (.int .i64 h8)).setCell ⟨e8,1,none⟩ (.int .i64 i0)).setCell ⟨e8,2,none⟩ (.int .i64 i8)).setCell ⟨e8,3,none⟩ (.int .i64 j6)).heap[f5]?=some (.cells #[.int .i64 j2,.int .i64 j5,.int .i64 m8,.int .i64 n3] 67 (0,0))):=⟨by (iterate 4 refine blk_far ?_ y3.1 _);refine blk_put (cs:=#[.int .i64 j2,.int .i64 j5,.int .i64 m8,.int .i64 0]) ?_ 3 _ rfl;refine blk_put (cs:=#[.int .i64 j2,.int .i64 j5,.int .i64 0,.int .i64 0]) ?_ 2 _ rfl;refine blk_put (cs:=#[.int .i64 j2,.int .i64 0,.int .i64 0,.int .i64 0]) ?_ 1 _ rfl;refine blk_put (cs:=#[.int .i64 0,.int .i64 0,.int .i64 0,.int .i64 0]) ?_ 0 _ rfl;exact h5.1⟩
        have p4:Aside0 (((((((((t5.setCell ⟨f5,0,none⟩ (.int .i64 j2)).setCell ⟨f5,1,none⟩ (.int .i64 j5)).setCell ⟨f5,2,none⟩ (.int .i64 m8)).setCell ⟨f5,3,none⟩ (.int .i64 n3)).setCell ⟨e8,0,none⟩ (.int .i64 h8)).setCell ⟨e8,1,none⟩ (.int .i64 i0)).setCell ⟨e8,2,none⟩ (.int .i64 i8)).setCell ⟨e8,3,none⟩ (.int .i64 j6)).heap[e8]?=some (.cells #[.int .i64 h8,.int .i64 i0,.int .i64 i8,.int .i64 j6] 67 (0,0))):=⟨by refine blk_put (cs:=#[.int .i64 h8,.int .i64 i0,.int .i64 i8,.int .i64 0]) ?_ 3 _ rfl;refine blk_put (cs:=#[.int .i64 h8,.int .i64 i0,.int .i64 0,.int .i64 0]) ?_ 2 _ rfl;refine blk_put (cs:=#[.int .i64 h8,.int .i64 0,.int .i64 0,.int .i64 0]) ?_ 1 _ rfl;refine blk_put (cs:=#[.int .i64 0,.int .i64 0,.int .i64 0,.int .i64 0]) ?_ 0 _ rfl;(iterate 4 refine blk_far ?_ y4.1 _);exact h6.1⟩
        have p5:Aside0 (Below w.heap.size w ((((((((t5.setCell ⟨f5,0,none⟩ (.int .i64 j2)).setCell ⟨f5,1,none⟩ (.int .i64 j5)).setCell ⟨f5,2,none⟩ (.int .i64 m8)).setCell ⟨f5,3,none⟩ (.int .i64 n3)).setCell ⟨e8,0,none⟩ (.int .i64 h8)).setCell ⟨e8,1,none⟩ (.int .i64 i0)).setCell ⟨e8,2,none⟩ (.int .i64 i8)).setCell ⟨e8,3,none⟩ (.int .i64 j6))):=⟨by repeat (first|(with_reducible first|exact V.1|apply below_alloc|apply pw_below_drewN|apply below_drew1|refine below_set ?_ h1.1|refine below_set ?_ h2.1|refine below_set ?_ h3.1|refine below_set ?_ e5.1|refine below_set ?_ e6.1|refine below_set ?_ F1.1|refine below_set ?_ F2.1)|exact V.1)⟩
        (try clear B);(try clear C);(try clear D);(try clear E);(try clear F);(try clear h5);(try clear h6);(try clear V);generalize ((((((((t5.setCell ⟨f5,0,none⟩ (.int .i64 j2)).setCell ⟨f5,1,none⟩ (.int .i64 j5)).setCell ⟨f5,2,none⟩ (.int .i64 m8)).setCell ⟨f5,3,none⟩ (.int .i64 n3)).setCell ⟨e8,0,none⟩ (.int .i64 h8)).setCell ⟨e8,1,none⟩ (.int .i64 i0)).setCell ⟨e8,2,none⟩ (.int .i64 i8)).setCell ⟨e8,3,none⟩ (.int .i64 j6))=Dx at o7 o8 o9 p0 p1 p3 p4 p5 ⊢;have B:=o7;have C:=o8;have D:=o9;have E:=p0;have F:=p1;have h5:=p3;have h6:=p4;have V:=p5;clear o7 o8 o9 p0 p1 p3 p4 p5;replace B:=bdr B;replace C:=bdr C;replace D:=bdr D;replace E:=bdr E;replace F:=bdr F;replace h5:=bdr h5;replace h6:=bdr h6;replace V:=hdr V;refine start_ (n:=4) (S:=fun w'=>w'.cell? ⟨d9,0,none⟩=some (.int .i64 e0)∧w'.cell? ⟨d9,1,none⟩=some (.int .i64 e1)∧w'.cell? ⟨d9,2,none⟩=some (.int .i64 e2)∧w'.cell? ⟨d9,3,none⟩=some (.int .i64 e3)∧w'.cell? ⟨e8,0,none⟩=some (.int .i64 h8)∧w'.cell? ⟨e8,1,none⟩=some (.int .i64 i0)∧w'.cell? ⟨e8,2,none⟩=some (.int .i64 i8)∧w'.cell? ⟨e8,3,none⟩=some (.int .i64 j6)) (ds:=[3]) #[n_,n_,n_,n_] (by kernel_rfl) rfl rfl ⟨q0_ F,q1_ F,q2_ F,q3_ F,q0_ h6,q1_ h6,q2_ h6,q3_ h6⟩ (fun T=>?_);generalize Dx.drew=Ob at B C D E F h5 h6 V T ⊢;refine take_ (i:=0) (N:=some 45) (v:=?_) (a':=?_) #[y_,n_,n_,n_] rfl rfl (by kernel_rfl) (fun _ _ _ h=>h) (Or.inl ⟨by rfl,?_⟩) T ?_ ?_;rotate_left
        ·
         rintro w' ⟨s0,s1,s2,s3,s4,s5,s6,s7⟩;go_simp;with_reducible rfl
        rotate_left
        ·
         simp only [Act.put,s0_,s1_,s2_,i64_w,i32_w];rfl
        refine take_ (i:=1) (N:=some 46) (v:=?_) (a':=?_) #[y_,y_,n_,n_] rfl rfl (by kernel_rfl) (fun _ _ _ h=>h) (Or.inl ⟨by rfl,?_⟩) T ?_ ?_;rotate_left
        ·
         rintro w' ⟨s0,s1,s2,s3,s4,s5,s6,s7⟩;go_simp;with_reducible rfl
        rotate_left
        ·
         simp only [Act.put,s0_,s1_,s2_,i64_w,i32_w];rfl
        refine one_ (i:=2) (N:=none) #[y_,y_,y_,n_] rfl rfl (by kernel_rfl) (by decide) (fun K hK=>?_);have Mu:=q0_ E;have Lq:=blk_frozen E.1 0;have Cj:=X.1;have Ck:=Y.1;have Cl:=a1.1;have Cm:=a8.1;have Cn:=x9.1;have Co:=i9.1;have Cp:=b1.1;have Cq:=b2.1;have Cr:=a6.1;have Cs:=b7.1;have Ct:=o3.1;have Cu:=o5.1;have Mv:=q1_ E;have Lr:=blk_frozen E.1 1;have Mw:=q2_ E;have Ls:=blk_frozen E.1 2;have Mx:=q3_ E;have Lt:=blk_frozen E.1 3;refine skip_ (w1:=?_) (by rfl) rfl ?_ ?_;rotate_left
        ·
         go_simp;rfl
        refine hK.out _ _ ⟨f4_ a8 T.1,f4_ a8 T.2.1,f4_ a8 T.2.2.1,f4_ a8 T.2.2.2.1,f4_ i9 T.2.2.2.2.1,f4_ i9 T.2.2.2.2.2.1,f4_ i9 T.2.2.2.2.2.2.1,f4_ i9 T.2.2.2.2.2.2.2⟩ (fun T=>?_);clear hK K;refine last_ (i:=3) (N:=none) #[y_,y_,y_,y_] rfl rfl (by kernel_rfl) (by decide) (fun K hK=>?_);have My:=q0_ F;have Lu:=blk_frozen F.1 0;have Cv:=a3.1;have Cw:=a4.1;have Cx:=a7.1;have Cy:=b7.1;have Cz:=o4.1;have Da:=o6.1;have Db:=b5.1;have Dc:=b6.1;have Dd:=b3.1;have De:=a8.1;have Df:=n5.1;have Dg:=n6.1;have Mz:=q1_ F;have Lv:=blk_frozen F.1 1;have Na:=q2_ F;have Lw:=blk_frozen F.1 2;have Nb:=q3_ F;have Lx:=blk_frozen F.1 3
        have Dh:=b7.1;have Di:=o4.1;have Dj:=o6.1;have Dk:=b5.1;have Dl:=b6.1;have Dm:=b3.1;have Dn:=a8.1;have Do:=n5.1;have Dp:=n6.1;refine skip_ (w1:=?_) (by rfl) rfl ?_ ?_;rotate_left
        ·
         go_simp;rfl
        refine hK.out _ _ ?_;clear hK K;refine done_ (by kernel_rfl) ?_;try go_wp2
        go_roundg k2
        case measure=>have:=A0.1;have:=B3.1;omega
        case rel=>exact ⟨(e0),(e1),(e2),(e3),(h8),(i0),(i8),(j6),H',⟨by have:=A0.1;have:=B3.1;omega⟩,⟨by (iterate 4 refine blk_far ?_ a3.1 _);(iterate 4 refine blk_far ?_ X.1 _);exact B.1⟩,⟨by (iterate 4 refine blk_far ?_ a4.1 _);(iterate 4 refine blk_far ?_ Y.1 _);exact C.1⟩,⟨by (iterate 4 refine blk_far ?_ a7.1 _);(iterate 4 refine blk_far ?_ a1.1 _);exact D.1⟩,⟨by (iterate 4 refine blk_far ?_ b7.1 _);refine blk_put (cs:=#[.int .i64 e0,.int .i64 e1,.int .i64 e2,.int .i64 a5]) ?_ 3 _ rfl;refine blk_put (cs:=#[.int .i64 e0,.int .i64 e1,.int .i64 a2,.int .i64 a5]) ?_ 2 _ rfl;refine blk_put (cs:=#[.int .i64 e0,.int .i64 a0,.int .i64 a2,.int .i64 a5]) ?_ 1 _ rfl;refine blk_put (cs:=#[.int .i64 Z,.int .i64 a0,.int .i64 a2,.int .i64 a5]) ?_ 0 _ rfl;exact E.1⟩,⟨by refine blk_put (cs:=#[.int .i64 h8,.int .i64 i0,.int .i64 i8,.int .i64 e3]) ?_ 3 _ rfl;refine blk_put (cs:=#[.int .i64 h8,.int .i64 i0,.int .i64 e2,.int .i64 e3]) ?_ 2 _ rfl;refine blk_put (cs:=#[.int .i64 h8,.int .i64 e1,.int .i64 e2,.int .i64 e3]) ?_ 1 _ rfl;refine blk_put (cs:=#[.int .i64 e0,.int .i64 e1,.int .i64 e2,.int .i64 e3]) ?_ 0 _ rfl;(iterate 4 refine blk_far ?_ a8.1 _);exact F.1⟩,⟨by repeat (first|(with_reducible first|exact V.1|apply below_alloc|apply pw_below_drewN|apply below_drew1|refine below_set ?_ h1.1|refine below_set ?_ h2.1|refine below_set ?_ h3.1|refine below_set ?_ e5.1|refine below_set ?_ e6.1|refine below_set ?_ F1.1|refine below_set ?_ F2.1)|exact V.1)⟩⟩
       ·
        rw [if_neg c55] at H;have c55b0:(!(e0 == 0) || (!(e1 == 0) || (!(e2 == 0) || (!(e3 == 0)))))=false:=by simpa using c55
        clear c55;replace H:=Option.bind_eq_some_iff.mp H;obtain ⟨O,L7,H⟩:=H;(try dsimp only at H);have Dy:=mk0 L7;clear L7;have H':=mk0 H;clear H;have Ly:=b5.1;have Lz:=a3.1;have Ma:=b6.1;have Mb:=a4.1;have Mc:=b3.1;have Md:=a7.1;have Me:=a8.1;have Mf:=b7.1;have J1:=q0_ F;have J2:=q1_ F;have J3:=q2_ F;have J4:=q3_ F;have J5:=blk_frozen F.1 0;have J6:=blk_frozen F.1 1;have J7:=blk_frozen F.1 2;have J8:=blk_frozen F.1 3;have Mg:=b1.1;have Mh:=X.1;have Mi:=b2.1;have Mj:=Y.1;have Dz:=a6.1;have Ea:=a1.1;have D0:=q0_ E;have D1:=q1_ E;have D2:=q2_ E;have D3:=q3_ E;have D4:=blk_frozen E.1 0;have D5:=blk_frozen E.1 1;have D6:=blk_frozen E.1 2;have D7:=blk_frozen E.1 3;go_wp2_with (first|((with_reducible refine gate_dst (N:=11) rfl ?_);refine box_event ?hg (N:=11) ?hd (cs:=#[.int .i64 0,.int .i64 0,.int .i64 0,.int .i64 0]) (t:=67) ?hr ?_;(case hd=>rfl);(case hg=>rfl);(case hr=>first|(go_simp;done)|(go_simp;rfl));intro g0 hg Nc b0 hb;have U:=mk0 (b0);have M6:=szw hg V;have i6:=M6;have l3:=nlt hg B;have p6:=ngt hg B;have l4:=nlt hg C;have p7:=ngt hg C;have l5:=nlt hg D;have p8:=ngt hg D;have i1:=nlt hg E;have n7:=ngt hg E;have j1:=nlt hg F;have p9:=ngt hg F;replace B:=bkb B hb;replace C:=bkb C hb;replace D:=bkb D hb;replace E:=bkb E hb;replace F:=bkb F hb;replace V:=bst V hb;clear hb b0 hg;have Eb:=p6.1;have Ec:=l3.1;have Ed:=p7.1;have Ee:=l4.1;have Ef:=p8.1;have Eg:=l5.1;have Eh:=n7.1;have Ei:=i1.1;have Ej:=p9.1;have Ek:=j1.1;have D8:=q0_ U;have D9:=q1_ U;have E0:=q2_ U;have E1:=q3_ U;have E2:=blk_frozen U.1 0;have E3:=blk_frozen U.1 1;have E4:=blk_frozen U.1 2;have E5:=blk_frozen U.1 3)|((with_reducible refine gate_callee (f:=53) rfl ?_);refine goesL_ (some 48) rfl rfl Try.func53 (by kernel_rfl) rfl #[] rfl (by (try simp only [m0_,m1_,m2_]);first|done|rfl|(simp only [l0_,l1_];rfl)) ?_;(with_reducible refine (norm_units.calls k2  O _ Dy.1).mono ?_);rintro e Nd ⟨Ne,rfl,O0,hb⟩;refine ⟨_,rfl,?_⟩;have F3:=mk0 (Kd.R_lower (Kd.R_newB (Kd.R_newB (Kd.R_newB O0 (g:=e7) (o:=.cells #[.int .i64 Z,.int .i64 a0,.int .i64 a2,.int .i64 a5] 67 (0,0)) (by (iterate 4 refine blk_far ?_ i1.1 _);exact E.1)) (g:=d9) (o:=.cells #[.int .i64 e0,.int .i64 e1,.int .i64 e2,.int .i64 e3] 67 (0,0)) (by (iterate 4 refine blk_far ?_ j1.1 _);exact F.1)) (g:=g0) (o:=.cells #[.int .i64 Z,.int .i64 a0,.int .i64 a2,.int .i64 a5] 67 (0,0)) (by refine blk_put (cs:=#[.int .i64 Z,.int .i64 a0,.int .i64 a2,.int .i64 0]) ?_ 3 _ rfl;refine blk_put (cs:=#[.int .i64 Z,.int .i64 a0,.int .i64 0,.int .i64 0]) ?_ 2 _ rfl;refine blk_put (cs:=#[.int .i64 Z,.int .i64 0,.int .i64 0,.int .i64 0]) ?_ 1 _ rfl;refine blk_put (cs:=#[.int .i64 0,.int .i64 0,.int .i64 0,.int .i64 0]) ?_ 0 _ rfl;exact U.1)) (below_size (by repeat (with_reducible first|exact V.1|refine below_set ?_ h1.1|refine below_set ?_ h2.1|refine below_set ?_ h3.1|refine below_set ?_ e5.1|refine below_set ?_ e6.1|refine below_set ?_ i6.1))));replace B:=mk0 (blk_below (g:=J) (o:=.cells #[.int .i64 c0,.int .i64 c2,.int .i64 d0,.int .i64 d1] 23 (0,0)) (by (iterate 4 refine blk_far ?_ l3.1 _);exact B.1) hb);replace C:=mk0 (blk_below (g:=L) (o:=.cells #[.int .i64 d2,.int .i64 d3,.int .i64 d4,.int .i64 d5] 23 (0,0)) (by (iterate 4 refine blk_far ?_ l4.1 _);exact C.1) hb);replace D:=mk0 (blk_below (g:=a9) (o:=.cells #[.int .i64 0,.int .i64 0,.int .i64 0,.int .i64 0] 23 (0,0)) (by (iterate 4 refine blk_far ?_ l5.1 _);exact D.1) hb);replace E:=mk0 (blk_below (g:=e7) (o:=.cells #[.int .i64 Z,.int .i64 a0,.int .i64 a2,.int .i64 a5] 67 (0,0)) (by (iterate 4 refine blk_far ?_ i1.1 _);exact E.1) hb);replace F:=mk0 (blk_below (g:=d9) (o:=.cells #[.int .i64 e0,.int .i64 e1,.int .i64 e2,.int .i64 e3] 67 (0,0)) (by (iterate 4 refine blk_far ?_ j1.1 _);exact F.1) hb);replace U:=mk0 (blk_below (g:=g0) (o:=.cells #[.int .i64 Z,.int .i64 a0,.int .i64 a2,.int .i64 a5] 67 (0,0)) (by refine blk_put (cs:=#[.int .i64 Z,.int .i64 a0,.int .i64 a2,.int .i64 0]) ?_ 3 _ rfl;refine blk_put (cs:=#[.int .i64 Z,.int .i64 a0,.int .i64 0,.int .i64 0]) ?_ 2 _ rfl;refine blk_put (cs:=#[.int .i64 Z,.int .i64 0,.int .i64 0,.int .i64 0]) ?_ 1 _ rfl;refine blk_put (cs:=#[.int .i64 0,.int .i64 0,.int .i64 0,.int .i64 0]) ?_ 0 _ rfl;exact U.1) hb);replace V:=mk0 (below_step (by repeat (with_reducible first|exact V.1|refine below_set ?_ h1.1|refine below_set ?_ h2.1|refine below_set ?_ h3.1|refine below_set ?_ e5.1|refine below_set ?_ e6.1|refine below_set ?_ i6.1)) hb);(try clear hb);(try clear O0);obtain ⟨M7,t6,M8⟩:=Kd.R_slice F3.1;subst M8))
        go_loopg [50] k2 (fun kq El w'=>∃ (I:Int) (d8:Int) (d6:Int) (b9:Int) (b8:Int),El=.int .i64 I∧Aside0 (norm_Gcd.l1 kq O (O.length:Int) I Z a0 a2 a5 d8 d6 b9 b8=some (r1,r2,r3,r4,r5))∧Aside0 (kq ≤ k2)∧Aside0 (Kd.R k67 67 w' w.heap.size (fun k_=>k_ ≠ e7∧k_ ≠ d9∧k_ ≠ g0) (.slice M7 O.length t6) O)∧Aside0 (Q4_ w' J c0 c2 d0 d1 23)∧Aside0 (Q4_ w' L d2 d3 d4 d5 23)∧Aside0 (Q4_ w' a9 0 0 0 0 23)∧Aside0 (Q4_ w' e7 Z a0 a2 a5 67)∧Aside0 (Q4_ w' d9 e0 e1 e2 e3 67)∧Aside0 (Q4_ w' g0 d8 d6 b9 b8 67)∧Aside0 (Below w.heap.size w w'))
        case atStart=>exact ⟨(0),(Z),(a0),(a2),(a5),(by first|rfl|(simp;done)|(simp [*];done)),H',⟨Nat.le_refl _⟩,⟨by (with_reducible repeat (first|apply Kd.R_alloc|apply Kd.R_drewN|apply Kd.R_drew));exact Kd.R_mono F3.1 (fun _ hk=>⟨hk.1.1.2,⟨hk.1.2,hk.2⟩⟩)⟩,⟨by exact B.1⟩,⟨by exact C.1⟩,⟨by exact D.1⟩,⟨by exact E.1⟩,⟨by exact F.1⟩,⟨by exact U.1⟩,⟨by repeat (first|(with_reducible first|exact V.1|apply below_alloc|apply pw_below_drewN|apply below_drew1|refine below_set ?_ h1.1|refine below_set ?_ h2.1|refine below_set ?_ h3.1|refine below_set ?_ e5.1|refine below_set ?_ e6.1|refine below_set ?_ i6.1)|exact V.1)⟩⟩
        case round =>
         clear H';try clear c1
         try clear p2
         try clear c3
         try clear c4
         try clear c5
         try clear c6
         try clear c7
         try clear c8
         try clear c9
         try clear c10
         try clear c34
         try clear c34b0
         try clear c34b1
         try clear c34b2
         try clear c35
         try clear c36
         try clear c37
         try clear c38
         try clear c40
         try clear c41
         try clear c42
         try clear c44
         try clear c45
         try clear c46
         try clear c47
         try clear c48
         try clear A1
         try clear c50
         try clear c51
         try clear c52
         try clear c53
         try clear c55
         try clear c55b0
         try clear c57
         try clear c58
         try clear c59
         try clear c60
         try clear c62
         try clear c63
         try clear c64
         try clear c69
         try clear c70
         try clear c71
         try clear c72
         try clear c73
         try clear c74
         try clear c76
         try clear c77
         try clear c78
         try clear c79
         try clear c80
         try clear c93
         try clear c94
         try clear c95
         try clear c96
         try clear c98
         try clear c99
         try clear c100
         try clear c103
         try clear c104
         try clear c105
         try clear c106
         try clear c107
         try clear D0
         try clear D1
         try clear D2
         try clear D3
         try clear D8
         try clear D9
         try clear E0
         try clear E1
         try clear u2
         try clear u3
         try clear u4
         try clear u5
         try clear v0
         try clear v1
         try clear v2
         try clear v3
         try clear v8
         try clear v9
         try clear x0
         try clear x1
         try clear A2
         try clear A4
         try clear A7
         try clear A8
         try clear F8
         try clear F9
         try clear G0
         try clear G1
         try clear G6
         try clear G7
         try clear G8
         try clear G9
         try clear H5
         try clear H6
         try clear H7
         try clear H8
         try clear I3
         try clear I4
         try clear I5
         try clear I6
         try clear J1
         try clear J2
         try clear J3
         try clear J4
         try clear D4
         try clear D5
         try clear D6
         try clear D7
         try clear E2
         try clear E3
         try clear E4
         try clear E5
         try clear u6
         try clear u7
         try clear u8
         try clear u9
         try clear v4
         try clear v5
         try clear v6
         try clear v7
         try clear x2
         try clear x3
         try clear x4
         try clear x5
         try clear A9
         try clear B0
         try clear B1
         try clear B2
         try clear G2
         try clear G3
         try clear G4
         try clear G5
         try clear H0
         try clear H2
         try clear H3
         try clear H4
         try clear H9
         try clear I0
         try clear I1
         try clear I2
         try clear I7
         try clear I8
         try clear I9
         try clear J0
         try clear J5
         try clear J6
         try clear J7
         try clear J8
         try clear p2
         obtain ⟨I,d8,d6,b9,b8,rfl,HA,F4,f6,B,C,D,E,F,U,V⟩:=hrel;cases gk with
         | zero=>exact absurd HA.1 (by simp [norm_Gcd.l1])
         | succ k3 =>
          have H:=HA.1;clear HA;simp only [norm_Gcd.l1] at H
          by_cases c111:I < (O.length:Int)
          ·
           rw [if_pos c111] at H;have c111b0:decide (I < (O.length:Int))=true:=decide_eq_true c111;clear c111
           by_cases c112:0 ≤ I
           ·
            rw [if_pos c112] at H;have c112b0:decide (0 ≤ I)=true:=decide_eq_true c112;clear c112
            by_cases c113:I < (O.length:Int)
            ·
             rw [if_pos c113] at H;have c113b0:decide (I < (O.length:Int))=true:=decide_eq_true c113;clear c113;obtain ⟨n4,t7⟩:∃ y_:List (S67),y_=(([(⟨(rd_T67 O I).f0,(rd_T67 O I).f1,(rd_T67 O I).f2,(rd_T67 O I).f3⟩:S67),(⟨Z,a0,a2,a5⟩:S67)]:List (S67))):=⟨_,rfl⟩
             replace H:((norm_product.f k3 n4).bind fun n8=>((slices_Compare_int_int.f k3 [n8.1,n8.2.1,n8.2.2.1,n8.2.2.2] [d8,d6,b9,b8]).bind fun s9=>(if s9 > 0 then (norm_Gcd.l1 k3 O (O.length:Int) (wrap64 (I + 1)) Z a0 a2 a5 n8.1 n8.2.1 n8.2.2.1 n8.2.2.2) else (norm_Gcd.l1 k3 O (O.length:Int) (wrap64 (I + 1)) Z a0 a2 a5 d8 d6 b9 b8))))=some (r1,r2,r3,r4,r5):=by first|(rw [t7];with_reducible exact H)|(have y8:=(Option.bind_some _ _).symm.trans H;rw [t7];with_reducible exact y8)|(have y8:=(Option.bind_some _ _).symm.trans H;with_reducible exact y8)|with_reducible exact H|(rw [t7];exact H)|exact H
             have y7:=mk0 t7;clear t7;replace H:=Option.bind_eq_some_iff.mp H;obtain ⟨⟨e4,e9,f4,f7⟩,F5,H⟩:=H;(try dsimp only at H);have L8:=mk0 F5;clear F5;replace H:=Option.bind_eq_some_iff.mp H;obtain ⟨s9,F6,H⟩:=H;(try dsimp only at H);have L9:=mk0 F6;clear F6
             by_cases c116:s9 > 0
             ·
              rw [if_pos c116] at H;have c116b0:decide (0 < s9)=true:=decide_eq_true c116;clear c116;have H':=mk0 H;clear H;have t0:0 ≤ (I:Int):=of_decide_eq_true (by first|(with_reducible assumption)|assumption);have t1:I < (O.length:Int):=of_decide_eq_true (by first|(with_reducible assumption)|assumption);obtain ⟨t8,E6,J9,L0,L1,L2⟩:=at_T67 (Kd.R_reads' f6.1).2.2 I t0 t1;cases E6;replace t0:=eq_true t0;replace t1:=eq_true t1;try go_wp2_with (first|((with_reducible refine gate_dst (N:=13) rfl ?_);refine box_event ?hg (N:=13) ?hd (cs:=#[.int .i64 0,.int .i64 0,.int .i64 0,.int .i64 0]) (t:=67) ?hr ?_;(case hd=>rfl);(case hg=>rfl);(case hr=>first|(go_simp;done)|(go_simp;rfl));intro f8 hg Nf b0 hb;have d7:=mk0 (b0);have B7:=szw hg V;have n2:=B7;have l6:=nlt hg B;have q0:=ngt hg B;have l7:=nlt hg C;have q1:=ngt hg C;have l8:=nlt hg D;have q2:=ngt hg D;have i2:=nlt hg E;have q3:=ngt hg E;have i3:=nlt hg F;have q4:=ngt hg F;have i4:=nlt hg U;have q5:=ngt hg U;replace f6:=mk0 (Kd.R_below (Kd.R_elderB f6.1 f8 (Nat.le_of_eq hg.symm)) hb);replace B:=bkb B hb;replace C:=bkb C hb;replace D:=bkb D hb;replace E:=bkb E hb;replace F:=bkb F hb;replace U:=bkb U hb;replace V:=bst V hb;clear hb b0 hg;have Em:=q0.1;have En:=l6.1;have Eo:=q1.1;have Ep:=l7.1;have Eq:=q2.1;have Er:=l8.1;have Es:=q3.1;have Et:=i2.1;have Eu:=q4.1;have Ev:=i3.1;have Ew:=q5.1;have Ex:=i4.1;have Q1:=q0_ d7;have Q2:=q1_ d7;have Q3:=q2_ d7;have Q4:=q3_ d7;have Q5:=blk_frozen d7.1 0;have Q6:=blk_frozen d7.1 1;have Q7:=blk_frozen d7.1 2;have Q8:=blk_frozen d7.1 3;have Ey:=b1.1;have Ez:=X.1;have Fa:=b2.1;have Fb:=Y.1;have Fc:=a6.1;have Fd:=a1.1;have Fe:=b7.1;have Ff:=a8.1;have Fg:=i1.1;have Fh:=n7.1;have Q9:=q0_ E;have R0:=q1_ E;have R1:=q2_ E;have R2:=q3_ E;have R3:=blk_frozen E.1 0;have R4:=blk_frozen E.1 1;have R5:=blk_frozen E.1 2;have R6:=blk_frozen E.1 3)|((with_reducible refine gate_dst (N:=56) rfl ?_);refine Kd.R_lit k67 _ 67 ?hg (N:=56) ?hd (xs:=([(⟨(rd_T67 O I).f0,(rd_T67 O I).f1,(rd_T67 O I).f2,(rd_T67 O I).f3⟩:S67),(⟨Z,a0,a2,a5⟩:S67)]:List (S67))) (inner:=[.int .i64 ((rd_T67 O I).f0),.int .i64 ((rd_T67 O I).f1),.int .i64 ((rd_T67 O I).f2),.int .i64 ((rd_T67 O I).f3),.int .i64 Z,.int .i64 a0,.int .i64 a2,.int .i64 a5]) (ok:=fun _=>True) (okp:=fun _=>True) ?hr ?hp (fun _ hk=>hk) trivial (Below.refl _ _) (Nat.le_refl _) (by simp) ?_;(case hd=>rfl);(case hg=>rfl);(case hr=>first|(go_simp;done)|(go_simp;rfl));(case hp=>exact (Reps.c4 (show Kd.M k67 _ _ _ (⟨(rd_T67 O I).f0,(rd_T67 O I).f1,(rd_T67 O I).f2,(rd_T67 O I).f3⟩:S67) [.int .i64 ((rd_T67 O I).f0),.int .i64 ((rd_T67 O I).f1),.int .i64 ((rd_T67 O I).f2),.int .i64 ((rd_T67 O I).f3)] from (k67_mkM _ _ _ (⟨(rd_T67 O I).f0,(rd_T67 O I).f1,(rd_T67 O I).f2,(rd_T67 O I).f3⟩:S67) )) (Reps.c4 (show Kd.M k67 _ _ _ (⟨Z,a0,a2,a5⟩:S67) [.int .i64 Z,.int .i64 a0,.int .i64 a2,.int .i64 a5] from (k67_mkM _ _ _ (⟨Z,a0,a2,a5⟩:S67) )) (Reps.none _ _))));intro R7 Ng r8 hb hg_ n9;clear hg_ n9;(first|rw [← y7.1] at r8|(simp only [Int.reduceToNat] at r8;rw [← y7.1] at r8));have g2:=mk0 (Kd.R_lower (Kd.R_newB (Kd.R_newB (Kd.R_newB (Kd.R_newB (Kd.R_new' r8 (Kd.R_lt (by (with_reducible repeat (first|apply Kd.R_alloc|apply Kd.R_drewN|apply Kd.R_drew));exact (Kd.R_mono (Kd.R_far (p:=⟨f8,3,none⟩) (Kd.R_far (p:=⟨f8,2,none⟩) (Kd.R_far (p:=⟨f8,1,none⟩) (Kd.R_far (p:=⟨f8,0,none⟩) (Kd.R_mono f6.1 (fun k_ hk=>(⟨hk,hk.2⟩:_∧k_ ≠ f8))) (fun _ hk=>hk.2) (.int .i64 ((rd_T67 O I).f0))) (fun _ hk=>hk.2) (.int .i64 ((rd_T67 O I).f1))) (fun _ hk=>hk.2) (.int .i64 ((rd_T67 O I).f2))) (fun _ hk=>hk.2) (.int .i64 ((rd_T67 O I).f3))) (fun _ h_=>h_.1))))) (g:=e7) (o:=.cells #[.int .i64 Z,.int .i64 a0,.int .i64 a2,.int .i64 a5] 67 (0,0)) (by (iterate 4 refine blk_far ?_ i2.1 _);exact E.1)) (g:=d9) (o:=.cells #[.int .i64 e0,.int .i64 e1,.int .i64 e2,.int .i64 e3] 67 (0,0)) (by (iterate 4 refine blk_far ?_ i3.1 _);exact F.1)) (g:=g0) (o:=.cells #[.int .i64 d8,.int .i64 d6,.int .i64 b9,.int .i64 b8] 67 (0,0)) (by (iterate 4 refine blk_far ?_ i4.1 _);exact U.1)) (g:=f8) (o:=.cells #[.int .i64 ((rd_T67 O I).f0),.int .i64 ((rd_T67 O I).f1),.int .i64 ((rd_T67 O I).f2),.int .i64 ((rd_T67 O I).f3)] 67 (0,0)) (by refine blk_put (cs:=#[.int .i64 ((rd_T67 O I).f0),.int .i64 ((rd_T67 O I).f1),.int .i64 ((rd_T67 O I).f2),.int .i64 0]) ?_ 3 _ rfl;refine blk_put (cs:=#[.int .i64 ((rd_T67 O I).f0),.int .i64 ((rd_T67 O I).f1),.int .i64 0,.int .i64 0]) ?_ 2 _ rfl;refine blk_put (cs:=#[.int .i64 ((rd_T67 O I).f0),.int .i64 0,.int .i64 0,.int .i64 0]) ?_ 1 _ rfl;refine blk_put (cs:=#[.int .i64 0,.int .i64 0,.int .i64 0,.int .i64 0]) ?_ 0 _ rfl;exact d7.1)) (below_size (by repeat (with_reducible first|exact V.1|refine below_set ?_ h1.1|refine below_set ?_ h2.1|refine below_set ?_ h3.1|refine below_set ?_ e5.1|refine below_set ?_ e6.1|refine below_set ?_ i6.1|refine below_set ?_ n2.1))));replace f6:=mk0 (Kd.R_elder' (by (with_reducible repeat (first|apply Kd.R_alloc|apply Kd.R_drewN|apply Kd.R_drew));exact (Kd.R_mono (Kd.R_far (p:=⟨f8,3,none⟩) (Kd.R_far (p:=⟨f8,2,none⟩) (Kd.R_far (p:=⟨f8,1,none⟩) (Kd.R_far (p:=⟨f8,0,none⟩) (Kd.R_mono f6.1 (fun k_ hk=>(⟨hk,hk.2⟩:_∧k_ ≠ f8))) (fun _ hk=>hk.2) (.int .i64 ((rd_T67 O I).f0))) (fun _ hk=>hk.2) (.int .i64 ((rd_T67 O I).f1))) (fun _ hk=>hk.2) (.int .i64 ((rd_T67 O I).f2))) (fun _ hk=>hk.2) (.int .i64 ((rd_T67 O I).f3))) (fun _ h_=>h_.1))) (Kd.R_base r8) hb);replace B:=mk0 (blk_below (g:=J) (o:=.cells #[.int .i64 c0,.int .i64 c2,.int .i64 d0,.int .i64 d1] 23 (0,0)) (by (iterate 4 refine blk_far ?_ l6.1 _);exact B.1) hb);replace C:=mk0 (blk_below (g:=L) (o:=.cells #[.int .i64 d2,.int .i64 d3,.int .i64 d4,.int .i64 d5] 23 (0,0)) (by (iterate 4 refine blk_far ?_ l7.1 _);exact C.1) hb);replace D:=mk0 (blk_below (g:=a9) (o:=.cells #[.int .i64 0,.int .i64 0,.int .i64 0,.int .i64 0] 23 (0,0)) (by (iterate 4 refine blk_far ?_ l8.1 _);exact D.1) hb);replace E:=mk0 (blk_below (g:=e7) (o:=.cells #[.int .i64 Z,.int .i64 a0,.int .i64 a2,.int .i64 a5] 67 (0,0)) (by (iterate 4 refine blk_far ?_ i2.1 _);exact E.1) hb);replace F:=mk0 (blk_below (g:=d9) (o:=.cells #[.int .i64 e0,.int .i64 e1,.int .i64 e2,.int .i64 e3] 67 (0,0)) (by (iterate 4 refine blk_far ?_ i3.1 _);exact F.1) hb);replace U:=mk0 (blk_below (g:=g0) (o:=.cells #[.int .i64 d8,.int .i64 d6,.int .i64 b9,.int .i64 b8] 67 (0,0)) (by (iterate 4 refine blk_far ?_ i4.1 _);exact U.1) hb);replace d7:=mk0 (blk_below (g:=f8) (o:=.cells #[.int .i64 ((rd_T67 O I).f0),.int .i64 ((rd_T67 O I).f1),.int .i64 ((rd_T67 O I).f2),.int .i64 ((rd_T67 O I).f3)] 67 (0,0)) (by refine blk_put (cs:=#[.int .i64 ((rd_T67 O I).f0),.int .i64 ((rd_T67 O I).f1),.int .i64 ((rd_T67 O I).f2),.int .i64 0]) ?_ 3 _ rfl;refine blk_put (cs:=#[.int .i64 ((rd_T67 O I).f0),.int .i64 ((rd_T67 O I).f1),.int .i64 0,.int .i64 0]) ?_ 2 _ rfl;refine blk_put (cs:=#[.int .i64 ((rd_T67 O I).f0),.int .i64 0,.int .i64 0,.int .i64 0]) ?_ 1 _ rfl;refine blk_put (cs:=#[.int .i64 0,.int .i64 0,.int .i64 0,.int .i64 0]) ?_ 0 _ rfl;exact d7.1) hb);replace V:=mk0 (below_step (by repeat (with_reducible first|exact V.1|refine below_set ?_ h1.1|refine below_set ?_ h2.1|refine below_set ?_ h3.1|refine below_set ?_ e5.1|refine below_set ?_ e6.1|refine below_set ?_ i6.1|refine below_set ?_ n2.1)) hb);clear hb r8;obtain ⟨B8,B9,M9⟩:=Kd.R_slice g2.1;subst M9)|((with_reducible refine gate_callee (f:=54) rfl ?_);refine goesL_ (some 57) rfl rfl Try.func54 (by kernel_rfl) rfl #[.slice B8 n4.length B9] rfl (by (try simp only [m0_,m1_,m2_]);first|done|rfl|(simp only [l0_,l1_];rfl)) ?_;(with_reducible refine (norm_product.calls k3 _ _ n4 e4 e9 f4 f7 _ ?side1 ?side2 L8.1).mono ?_);(case side1=>repeat (first|exact (Kd.R_reads' g2.1).2.2|(with_reducible refine Kd.C_alloc ?_ _)|(with_reducible refine Kd.C_drewN ?_ _)|(with_reducible refine Kd.C_drew ?_)));(case side2=>exact (Kd.R_reads' g2.1).2.1);rintro e Nh ⟨rfl,hb⟩;refine ⟨_,rfl,?_⟩;replace f6:=rbl f6 hb;replace g2:=rbl g2 hb;replace B:=bkb B hb;replace C:=bkb C hb;replace D:=bkb D hb;replace E:=bkb E hb;replace F:=bkb F hb;replace U:=bkb U hb;replace d7:=bkb d7 hb;replace V:=bst V hb;(try clear hb);(try clear hk))|((with_reducible refine gate_dst (N:=14) rfl ?_);refine box_event ?hg (N:=14) ?hd (cs:=#[.int .i64 0,.int .i64 0,.int .i64 0,.int .i64 0]) (t:=67) ?hr ?_;(case hd=>rfl);(case hg=>rfl);(case hr=>first|(go_simp;done)|(go_simp;rfl));intro G hg m9 b0 hb;have b4:=mk0 (b0);have C0:=szw hg V;have t9:=C0;have l9:=nlt hg B;have q6:=ngt hg B;have m0:=nlt hg C;have q7:=ngt hg C;have m1:=nlt hg D;have q8:=ngt hg D;have m2:=nlt hg E;have q9:=ngt hg E;have m3:=nlt hg F;have r0:=ngt hg F;have m4:=nlt hg U;have r6:=ngt hg U;have m5:=nlt hg d7;have r7:=ngt hg d7;replace f6:=mk0 (Kd.R_below (Kd.R_elderB f6.1 G (Nat.le_of_eq hg.symm)) hb);replace g2:=mk0 (Kd.R_below (Kd.R_elderB g2.1 G (Nat.le_of_eq hg.symm)) hb);replace B:=bkb B hb;replace C:=bkb C hb;replace D:=bkb D hb;replace E:=bkb E hb;replace F:=bkb F hb;replace U:=bkb U hb;replace d7:=bkb d7 hb;replace V:=bst V hb;clear hb b0 hg;have Fi:=q6.1;have Fj:=l9.1;have Fk:=q7.1;have Fl:=m0.1;have Fm:=q8.1;have Fn:=m1.1;have Fo:=q9.1;have Fp:=m2.1;have Fq:=r0.1;have Fr:=m3.1;have Fs:=r6.1;have Ft:=m4.1;have Fu:=r7.1;have Fv:=m5.1;have R8:=q0_ b4;have R9:=q1_ b4;have T0:=q2_ b4;have T1:=q3_ b4;have T2:=blk_frozen b4.1 0;have T3:=blk_frozen b4.1 1;have T4:=blk_frozen b4.1 2;have T5:=blk_frozen b4.1 3))
              have o7:Aside0 (Kd.R k67 67 ((((m9.setCell ⟨G,0,none⟩ (.int .i64 e4)).setCell ⟨G,1,none⟩ (.int .i64 e9)).setCell ⟨G,2,none⟩ (.int .i64 f4)).setCell ⟨G,3,none⟩ (.int .i64 f7)) w.heap.size (fun k_=>some k_ ≠ (.slice B8 n4.length B9:Value).ownBlock∧k_ ≠ e7∧k_ ≠ d9∧k_ ≠ g0∧k_ ≠ f8∧k_ ≠ G) (.slice (some t8) O.length t6) O):=⟨by (with_reducible repeat (first|apply Kd.R_alloc|apply Kd.R_drewN|apply Kd.R_drew));exact Kd.R_mono (Kd.R_far (p:=⟨G,3,none⟩) (Kd.R_far (p:=⟨G,2,none⟩) (Kd.R_far (p:=⟨G,1,none⟩) (Kd.R_far (p:=⟨G,0,none⟩) (Kd.R_mono f6.1 (fun k_ hk=>(⟨hk,hk.2⟩:_∧k_ ≠ G))) (fun _ hk=>hk.2) (.int .i64 e4)) (fun _ hk=>hk.2) (.int .i64 e9)) (fun _ hk=>hk.2) (.int .i64 f4)) (fun _ hk=>hk.2) (.int .i64 f7)) (fun _ hk=>⟨hk.1.1.2,⟨hk.1.1.1.1.1,⟨hk.1.1.1.1.2.1,⟨hk.1.1.1.1.2.2,⟨hk.1.1.1.2,hk.1.2⟩⟩⟩⟩⟩)⟩
              have o8:Aside0 (Kd.R k67 67 ((((m9.setCell ⟨G,0,none⟩ (.int .i64 e4)).setCell ⟨G,1,none⟩ (.int .i64 e9)).setCell ⟨G,2,none⟩ (.int .i64 f4)).setCell ⟨G,3,none⟩ (.int .i64 f7)) w.heap.size (fun k_=>some k_ ≠ (.slice (some t8) O.length t6:Value).ownBlock∧k_ ≠ e7∧k_ ≠ d9∧k_ ≠ g0∧k_ ≠ f8∧k_ ≠ G) (.slice B8 n4.length B9) n4):=⟨by (with_reducible repeat (first|apply Kd.R_alloc|apply Kd.R_drewN|apply Kd.R_drew));exact Kd.R_mono (Kd.R_far (p:=⟨G,3,none⟩) (Kd.R_far (p:=⟨G,2,none⟩) (Kd.R_far (p:=⟨G,1,none⟩) (Kd.R_far (p:=⟨G,0,none⟩) (Kd.R_mono g2.1 (fun k_ hk=>(⟨hk,hk.2⟩:_∧k_ ≠ G))) (fun _ hk=>hk.2) (.int .i64 e4)) (fun _ hk=>hk.2) (.int .i64 e9)) (fun _ hk=>hk.2) (.int .i64 f4)) (fun _ hk=>hk.2) (.int .i64 f7)) (fun _ hk=>⟨hk.1.1.1.1.1.1.2,⟨hk.1.1.1.1.1.2,⟨hk.1.1.1.1.2,⟨hk.1.1.1.2,⟨hk.1.1.2,hk.1.2⟩⟩⟩⟩⟩)⟩
              have o9:Aside0 (((((m9.setCell ⟨G,0,none⟩ (.int .i64 e4)).setCell ⟨G,1,none⟩ (.int .i64 e9)).setCell ⟨G,2,none⟩ (.int .i64 f4)).setCell ⟨G,3,none⟩ (.int .i64 f7)).heap[J]?=some (.cells #[.int .i64 c0,.int .i64 c2,.int .i64 d0,.int .i64 d1] 23 (0,0))):=⟨by (iterate 4 refine blk_far ?_ l9.1 _);exact B.1⟩
              have p0:Aside0 (((((m9.setCell ⟨G,0,none⟩ (.int .i64 e4)).setCell ⟨G,1,none⟩ (.int .i64 e9)).setCell ⟨G,2,none⟩ (.int .i64 f4)).setCell ⟨G,3,none⟩ (.int .i64 f7)).heap[L]?=some (.cells #[.int .i64 d2,.int .i64 d3,.int .i64 d4,.int .i64 d5] 23 (0,0))):=⟨by (iterate 4 refine blk_far ?_ m0.1 _);exact C.1⟩
              have p1:Aside0 (((((m9.setCell ⟨G,0,none⟩ (.int .i64 e4)).setCell ⟨G,1,none⟩ (.int .i64 e9)).setCell ⟨G,2,none⟩ (.int .i64 f4)).setCell ⟨G,3,none⟩ (.int .i64 f7)).heap[a9]?=some (.cells #[.int .i64 0,.int .i64 0,.int .i64 0,.int .i64 0] 23 (0,0))):=⟨by (iterate 4 refine blk_far ?_ m1.1 _);exact D.1⟩
              have p3:Aside0 (((((m9.setCell ⟨G,0,none⟩ (.int .i64 e4)).setCell ⟨G,1,none⟩ (.int .i64 e9)).setCell ⟨G,2,none⟩ (.int .i64 f4)).setCell ⟨G,3,none⟩ (.int .i64 f7)).heap[e7]?=some (.cells #[.int .i64 Z,.int .i64 a0,.int .i64 a2,.int .i64 a5] 67 (0,0))):=⟨by (iterate 4 refine blk_far ?_ m2.1 _);exact E.1⟩
              have p4:Aside0 (((((m9.setCell ⟨G,0,none⟩ (.int .i64 e4)).setCell ⟨G,1,none⟩ (.int .i64 e9)).setCell ⟨G,2,none⟩ (.int .i64 f4)).setCell ⟨G,3,none⟩ (.int .i64 f7)).heap[d9]?=some (.cells #[.int .i64 e0,.int .i64 e1,.int .i64 e2,.int .i64 e3] 67 (0,0))):=⟨by (iterate 4 refine blk_far ?_ m3.1 _);exact F.1⟩
              have p5:Aside0 (((((m9.setCell ⟨G,0,none⟩ (.int .i64 e4)).setCell ⟨G,1,none⟩ (.int .i64 e9)).setCell ⟨G,2,none⟩ (.int .i64 f4)).setCell ⟨G,3,none⟩ (.int .i64 f7)).heap[g0]?=some (.cells #[.int .i64 d8,.int .i64 d6,.int .i64 b9,.int .i64 b8] 67 (0,0))):=⟨by (iterate 4 refine blk_far ?_ m4.1 _);exact U.1⟩
              have z0:Aside0 (((((m9.setCell ⟨G,0,none⟩ (.int .i64 e4)).setCell ⟨G,1,none⟩ (.int .i64 e9)).setCell ⟨G,2,none⟩ (.int .i64 f4)).setCell ⟨G,3,none⟩ (.int .i64 f7)).heap[f8]?=some (.cells #[.int .i64 ((rd_T67 O I).f0),.int .i64 ((rd_T67 O I).f1),.int .i64 ((rd_T67 O I).f2),.int .i64 ((rd_T67 O I).f3)] 67 (0,0))):=⟨by (iterate 4 refine blk_far ?_ m5.1 _);exact d7.1⟩
              have z1:Aside0 (((((m9.setCell ⟨G,0,none⟩ (.int .i64 e4)).setCell ⟨G,1,none⟩ (.int .i64 e9)).setCell ⟨G,2,none⟩ (.int .i64 f4)).setCell ⟨G,3,none⟩ (.int .i64 f7)).heap[G]?=some (.cells #[.int .i64 e4,.int .i64 e9,.int .i64 f4,.int .i64 f7] 67 (0,0))):=⟨by refine blk_put (cs:=#[.int .i64 e4,.int .i64 e9,.int .i64 f4,.int .i64 0]) ?_ 3 _ rfl;refine blk_put (cs:=#[.int .i64 e4,.int .i64 e9,.int .i64 0,.int .i64 0]) ?_ 2 _ rfl;refine blk_put (cs:=#[.int .i64 e4,.int .i64 0,.int .i64 0,.int .i64 0]) ?_ 1 _ rfl;refine blk_put (cs:=#[.int .i64 0,.int .i64 0,.int .i64 0,.int .i64 0]) ?_ 0 _ rfl;exact b4.1⟩
              have t2:Aside0 (Below w.heap.size w ((((m9.setCell ⟨G,0,none⟩ (.int .i64 e4)).setCell ⟨G,1,none⟩ (.int .i64 e9)).setCell ⟨G,2,none⟩ (.int .i64 f4)).setCell ⟨G,3,none⟩ (.int .i64 f7))):=⟨by repeat (first|(with_reducible first|exact V.1|apply below_alloc|apply pw_below_drewN|apply below_drew1|refine below_set ?_ h1.1|refine below_set ?_ h2.1|refine below_set ?_ h3.1|refine below_set ?_ e5.1|refine below_set ?_ e6.1|refine below_set ?_ i6.1|refine below_set ?_ n2.1|refine below_set ?_ t9.1)|exact V.1)⟩
              (try clear f6);(try clear g2);(try clear B);(try clear C);(try clear D);(try clear E);(try clear F);(try clear U);(try clear d7);(try clear b4);(try clear V);generalize ((((m9.setCell ⟨G,0,none⟩ (.int .i64 e4)).setCell ⟨G,1,none⟩ (.int .i64 e9)).setCell ⟨G,2,none⟩ (.int .i64 f4)).setCell ⟨G,3,none⟩ (.int .i64 f7))=T6 at o7 o8 o9 p0 p1 p3 p4 p5 z0 z1 t2 ⊢;have f6:=o7;have g2:=o8;have B:=o9;have C:=p0;have D:=p1;have E:=p3;have F:=p4;have U:=p5;have d7:=z0;have b4:=z1;have V:=t2;clear o7 o8 o9 p0 p1 p3 p4 p5 z0 z1 t2;replace f6:=rdr f6;replace g2:=rdr g2;replace B:=bdr B;replace C:=bdr C;replace D:=bdr D;replace E:=bdr E;replace F:=bdr F;replace U:=bdr U;replace d7:=bdr d7;replace b4:=bdr b4;replace V:=hdr V;refine start_ (n:=4) (S:=fun w'=>w'.cell? ⟨G,0,none⟩=some (.int .i64 e4)∧w'.cell? ⟨G,1,none⟩=some (.int .i64 e9)∧w'.cell? ⟨G,2,none⟩=some (.int .i64 f4)∧w'.cell? ⟨G,3,none⟩=some (.int .i64 f7)∧w'.cell? ⟨g0,0,none⟩=some (.int .i64 d8)∧w'.cell? ⟨g0,1,none⟩=some (.int .i64 d6)∧w'.cell? ⟨g0,2,none⟩=some (.int .i64 b9)∧w'.cell? ⟨g0,3,none⟩=some (.int .i64 b8)) (ds:=[]) #[n_,n_,n_,n_] (by kernel_rfl) rfl rfl ⟨q0_ b4,q1_ b4,q2_ b4,q3_ b4,q0_ U,q1_ U,q2_ U,q3_ U⟩ (fun T=>?_);generalize T6.drew=Nl at f6 g2 B C D E F U d7 b4 V T ⊢;refine pure_ (i:=0) (N:=some 58) (v:=?_) (a':=?_) #[y_,n_,n_,n_] rfl rfl (by kernel_rfl) (fun _ _ _ h=>h) (Or.inl ⟨by rfl,?_⟩) ?_ ?_;rotate_left
              ·
               intro w';go_simp;with_reducible rfl
              rotate_left
              ·
               simp only [Act.put,s0_,s1_,s2_,i64_w,i32_w];rfl
              refine pure_ (i:=1) (N:=some 59) (v:=?_) (a':=?_) #[y_,y_,n_,n_] rfl rfl (by kernel_rfl) (fun _ _ _ h=>h) (Or.inl ⟨by rfl,?_⟩) ?_ ?_;rotate_left
              ·
               intro w';go_simp;with_reducible rfl
              rotate_left
              ·
               simp only [Act.put,s0_,s1_,s2_,i64_w,i32_w];rfl
              refine one_ (i:=2) (N:=some 60) #[y_,y_,y_,n_] rfl rfl (by kernel_rfl) (by decide) (fun K hK=>?_);refine goes_ Try.func55 (by kernel_rfl) rfl #[.slice (some ⟨G,0,none⟩) [e4,e9,f4,f7].length 4,.slice (some ⟨g0,0,none⟩) [d8,d6,b9,b8].length 4] (by rfl) rfl rfl (by (try simp only [m0_,m1_,m2_]);first|done|(rw [show [e4,e9,f4,f7].length=4 from rfl,show [d8,d6,b9,b8].length=4 from rfl] <;> rfl)|rfl|(simp only [l0_,l1_];rfl)) ?_;with_reducible refine (slices_Compare_int_int.calls k3 _ _ [e4,e9,f4,f7] _ _ [d8,d6,b9,b8] s9 _ ?side1 ?side2 ?side3 ?side4 L9.1).mono ?_
              (case side1=>exact Go.Proofs.MyWords.C_box (t:=67) (cs:=#[.int .i64 e4,.int .i64 e9,.int .i64 f4,.int .i64 f7]) b4.1 (by rfl) (Nat.le_of_ble_eq_true rfl));(case side2=>exact Nat.le_refl _);(case side3=>exact Go.Proofs.MyWords.C_box (t:=67) (cs:=#[.int .i64 d8,.int .i64 d6,.int .i64 b9,.int .i64 b8]) U.1 (by rfl) (Nat.le_of_ble_eq_true rfl));(case side4=>exact Nat.le_refl _);rintro e w' ⟨rfl,⟨nd,rfl⟩⟩;refine ⟨_,rfl,?_⟩;refine hK.out _ _ ⟨q0_ b4,q1_ b4,q2_ b4,q3_ b4,q0_ U,q1_ U,q2_ U,q3_ U⟩ (fun T=>?_);clear hK K;refine norm_ (a':=?_) ?_ ?_;rotate_left
              ·
               show Act.put _ (some 60) _=_;simp only [Act.put,s0_,s1_,s2_,i64_w,i32_w];rfl
              refine pure_ (i:=3) (N:=some 61) (v:=?_) (a':=?_) #[y_,y_,y_,y_] rfl rfl (by kernel_rfl) (fun _ _ _ h=>h) (Or.inl ⟨by rfl,?_⟩) ?_ ?_;rotate_left
              ·
               intro w';go_simp;with_reducible rfl
              rotate_left
              ·
               simp only [Act.put,s0_,s1_,s2_,i64_w,i32_w];rfl
              refine done_ (by kernel_rfl) ?_;have T7:=q0_ b4;have T8:=q1_ b4;have T9:=q2_ b4;have U0:=q3_ b4;have U1:=blk_frozen b4.1 0;have U2:=blk_frozen b4.1 1;have U3:=blk_frozen b4.1 2;have U4:=blk_frozen b4.1 3;have Fw:=p6.1;have Fx:=l3.1;have Fy:=p7.1;have Fz:=l4.1;have Ga:=p8.1;have Gb:=l5.1;have Gc:=p9.1;have Gd:=j1.1;have U5:=q0_ U;have U6:=q1_ U;have U7:=q2_ U;have U8:=q3_ U;have U9:=blk_frozen U.1 0;have V0:=blk_frozen U.1 1;have V1:=blk_frozen U.1 2;have V2:=blk_frozen U.1 3;try go_wp2
              go_roundg k3
              case measure=>have:=A0.1;have:=B3.1;have:=F4.1;omega
              case rel=>exact ⟨(wrap64 (I + 1)),(e4),(e9),(f4),(f7),(by first|rfl|(simp;done)|(simp [*];done)),H',⟨by have:=A0.1;have:=B3.1;have:=F4.1;omega⟩,⟨by (with_reducible repeat (first|apply Kd.R_alloc|apply Kd.R_drewN|apply Kd.R_drew));exact Kd.R_mono (Kd.R_far (p:=⟨g0,3,none⟩) (Kd.R_far (p:=⟨g0,2,none⟩) (Kd.R_far (p:=⟨g0,1,none⟩) (Kd.R_far (p:=⟨g0,0,none⟩) (Kd.R_mono f6.1 (fun k_ hk=>(⟨hk,hk.2.2.2.1⟩:_∧k_ ≠ g0))) (fun _ hk=>hk.2) (.int .i64 e4)) (fun _ hk=>hk.2) (.int .i64 e9)) (fun _ hk=>hk.2) (.int .i64 f4)) (fun _ hk=>hk.2) (.int .i64 f7)) (fun _ hk=>⟨hk.1.2.1,⟨hk.1.2.2.1,hk.1.2.2.2.1⟩⟩)⟩,⟨by (iterate 4 refine blk_far ?_ l3.1 _);exact B.1⟩,⟨by (iterate 4 refine blk_far ?_ l4.1 _);exact C.1⟩,⟨by (iterate 4 refine blk_far ?_ l5.1 _);exact D.1⟩,⟨by (iterate 4 refine blk_far ?_ i1.1 _);exact E.1⟩,⟨by (iterate 4 refine blk_far ?_ j1.1 _);exact F.1⟩,⟨by refine blk_put (cs:=#[.int .i64 e4,.int .i64 e9,.int .i64 f4,.int .i64 b8]) ?_ 3 _ rfl;refine blk_put (cs:=#[.int .i64 e4,.int .i64 e9,.int .i64 b9,.int .i64 b8]) ?_ 2 _ rfl;refine blk_put (cs:=#[.int .i64 e4,.int .i64 d6,.int .i64 b9,.int .i64 b8]) ?_ 1 _ rfl;refine blk_put (cs:=#[.int .i64 d8,.int .i64 d6,.int .i64 b9,.int .i64 b8]) ?_ 0 _ rfl;exact U.1⟩,⟨by repeat (first|(with_reducible first|exact V.1|apply below_alloc|apply pw_below_drewN|apply below_drew1|refine below_set ?_ h1.1|refine below_set ?_ h2.1|refine below_set ?_ h3.1|refine below_set ?_ e5.1|refine below_set ?_ e6.1|refine below_set ?_ i6.1|refine below_set ?_ n2.1|refine below_set ?_ t9.1)|exact V.1)⟩⟩
             ·
              rw [if_neg c116] at H;have c116b0:decide (0 < s9)=false:=decide_eq_false c116;clear c116;have H':=mk0 H;clear H;have t0:0 ≤ (I:Int):=of_decide_eq_true (by first|(with_reducible assumption)|assumption);have t1:I < (O.length:Int):=of_decide_eq_true (by first|(with_reducible assumption)|assumption);obtain ⟨t8,E6,J9,L0,L1,L2⟩:=at_T67 (Kd.R_reads' f6.1).2.2 I t0 t1;cases E6;replace t0:=eq_true t0;replace t1:=eq_true t1;try go_wp2_with (first|((with_reducible refine gate_dst (N:=13) rfl ?_);refine box_event ?hg (N:=13) ?hd (cs:=#[.int .i64 0,.int .i64 0,.int .i64 0,.int .i64 0]) (t:=67) ?hr ?_;(case hd=>rfl);(case hg=>rfl);(case hr=>first|(go_simp;done)|(go_simp;rfl));intro f8 hg Nm b0 hb;have d7:=mk0 (b0);have B7:=szw hg V;have n2:=B7;have l6:=nlt hg B;have q0:=ngt hg B;have l7:=nlt hg C;have q1:=ngt hg C;have l8:=nlt hg D;have q2:=ngt hg D;have i2:=nlt hg E;have q3:=ngt hg E;have i3:=nlt hg F;have q4:=ngt hg F;have i4:=nlt hg U;have q5:=ngt hg U;replace f6:=mk0 (Kd.R_below (Kd.R_elderB f6.1 f8 (Nat.le_of_eq hg.symm)) hb);replace B:=bkb B hb;replace C:=bkb C hb;replace D:=bkb D hb;replace E:=bkb E hb;replace F:=bkb F hb;replace U:=bkb U hb;replace V:=bst V hb;clear hb b0 hg;have Ge:=q0.1;have Gf:=l6.1;have Gg:=q1.1;have Gh:=l7.1;have Gi:=q2.1;have Gj:=l8.1;have Gk:=q3.1;have Gl:=i2.1;have Gm:=q4.1;have Gn:=i3.1;have Gp:=q5.1;have Gq:=i4.1;have V3:=q0_ d7;have V4:=q1_ d7;have V5:=q2_ d7;have V6:=q3_ d7;have V7:=blk_frozen d7.1 0;have V8:=blk_frozen d7.1 1;have V9:=blk_frozen d7.1 2;have X0:=blk_frozen d7.1 3;have Gr:=b1.1;have Gs:=X.1;have Gt:=b2.1;have Gu:=Y.1;have Gv:=a6.1;have Gw:=a1.1;have Gx:=b7.1;have Gy:=a8.1;have Gz:=i1.1;have Ha:=n7.1;have X1:=q0_ E;have X2:=q1_ E;have X3:=q2_ E;have X4:=q3_ E;have X5:=blk_frozen E.1 0;have X6:=blk_frozen E.1 1;have X7:=blk_frozen E.1 2;have X8:=blk_frozen E.1 3)|((with_reducible refine gate_dst (N:=56) rfl ?_);refine Kd.R_lit k67 _ 67 ?hg (N:=56) ?hd (xs:=([(⟨(rd_T67 O I).f0,(rd_T67 O I).f1,(rd_T67 O I).f2,(rd_T67 O I).f3⟩:S67),(⟨Z,a0,a2,a5⟩:S67)]:List (S67))) (inner:=[.int .i64 ((rd_T67 O I).f0),.int .i64 ((rd_T67 O I).f1),.int .i64 ((rd_T67 O I).f2),.int .i64 ((rd_T67 O I).f3),.int .i64 Z,.int .i64 a0,.int .i64 a2,.int .i64 a5]) (ok:=fun _=>True) (okp:=fun _=>True) ?hr ?hp (fun _ hk=>hk) trivial (Below.refl _ _) (Nat.le_refl _) (by simp) ?_;(case hd=>rfl);(case hg=>rfl);(case hr=>first|(go_simp;done)|(go_simp;rfl));(case hp=>exact (Reps.c4 (show Kd.M k67 _ _ _ (⟨(rd_T67 O I).f0,(rd_T67 O I).f1,(rd_T67 O I).f2,(rd_T67 O I).f3⟩:S67) [.int .i64 ((rd_T67 O I).f0),.int .i64 ((rd_T67 O I).f1),.int .i64 ((rd_T67 O I).f2),.int .i64 ((rd_T67 O I).f3)] from (k67_mkM _ _ _ (⟨(rd_T67 O I).f0,(rd_T67 O I).f1,(rd_T67 O I).f2,(rd_T67 O I).f3⟩:S67) )) (Reps.c4 (show Kd.M k67 _ _ _ (⟨Z,a0,a2,a5⟩:S67) [.int .i64 Z,.int .i64 a0,.int .i64 a2,.int .i64 a5] from (k67_mkM _ _ _ (⟨Z,a0,a2,a5⟩:S67) )) (Reps.none _ _))));intro R7 Nn r9 hb hg_ n9;clear hg_ n9;(first|rw [← y7.1] at r9|(simp only [Int.reduceToNat] at r9;rw [← y7.1] at r9));have g2:=mk0 (Kd.R_lower (Kd.R_newB (Kd.R_newB (Kd.R_newB (Kd.R_newB (Kd.R_new' r9 (Kd.R_lt (by (with_reducible repeat (first|apply Kd.R_alloc|apply Kd.R_drewN|apply Kd.R_drew));exact (Kd.R_mono (Kd.R_far (p:=⟨f8,3,none⟩) (Kd.R_far (p:=⟨f8,2,none⟩) (Kd.R_far (p:=⟨f8,1,none⟩) (Kd.R_far (p:=⟨f8,0,none⟩) (Kd.R_mono f6.1 (fun k_ hk=>(⟨hk,hk.2⟩:_∧k_ ≠ f8))) (fun _ hk=>hk.2) (.int .i64 ((rd_T67 O I).f0))) (fun _ hk=>hk.2) (.int .i64 ((rd_T67 O I).f1))) (fun _ hk=>hk.2) (.int .i64 ((rd_T67 O I).f2))) (fun _ hk=>hk.2) (.int .i64 ((rd_T67 O I).f3))) (fun _ h_=>h_.1))))) (g:=e7) (o:=.cells #[.int .i64 Z,.int .i64 a0,.int .i64 a2,.int .i64 a5] 67 (0,0)) (by (iterate 4 refine blk_far ?_ i2.1 _);exact E.1)) (g:=d9) (o:=.cells #[.int .i64 e0,.int .i64 e1,.int .i64 e2,.int .i64 e3] 67 (0,0)) (by (iterate 4 refine blk_far ?_ i3.1 _);exact F.1)) (g:=g0) (o:=.cells #[.int .i64 d8,.int .i64 d6,.int .i64 b9,.int .i64 b8] 67 (0,0)) (by (iterate 4 refine blk_far ?_ i4.1 _);exact U.1)) (g:=f8) (o:=.cells #[.int .i64 ((rd_T67 O I).f0),.int .i64 ((rd_T67 O I).f1),.int .i64 ((rd_T67 O I).f2),.int .i64 ((rd_T67 O I).f3)] 67 (0,0)) (by refine blk_put (cs:=#[.int .i64 ((rd_T67 O I).f0),.int .i64 ((rd_T67 O I).f1),.int .i64 ((rd_T67 O I).f2),.int .i64 0]) ?_ 3 _ rfl;refine blk_put (cs:=#[.int .i64 ((rd_T67 O I).f0),.int .i64 ((rd_T67 O I).f1),.int .i64 0,.int .i64 0]) ?_ 2 _ rfl;refine blk_put (cs:=#[.int .i64 ((rd_T67 O I).f0),.int .i64 0,.int .i64 0,.int .i64 0]) ?_ 1 _ rfl;refine blk_put (cs:=#[.int .i64 0,.int .i64 0,.int .i64 0,.int .i64 0]) ?_ 0 _ rfl;exact d7.1)) (below_size (by repeat (with_reducible first|exact V.1|refine below_set ?_ h1.1|refine below_set ?_ h2.1|refine below_set ?_ h3.1|refine below_set ?_ e5.1|refine below_set ?_ e6.1|refine below_set ?_ i6.1|refine below_set ?_ n2.1))));replace f6:=mk0 (Kd.R_elder' (by (with_reducible repeat (first|apply Kd.R_alloc|apply Kd.R_drewN|apply Kd.R_drew));exact (Kd.R_mono (Kd.R_far (p:=⟨f8,3,none⟩) (Kd.R_far (p:=⟨f8,2,none⟩) (Kd.R_far (p:=⟨f8,1,none⟩) (Kd.R_far (p:=⟨f8,0,none⟩) (Kd.R_mono f6.1 (fun k_ hk=>(⟨hk,hk.2⟩:_∧k_ ≠ f8))) (fun _ hk=>hk.2) (.int .i64 ((rd_T67 O I).f0))) (fun _ hk=>hk.2) (.int .i64 ((rd_T67 O I).f1))) (fun _ hk=>hk.2) (.int .i64 ((rd_T67 O I).f2))) (fun _ hk=>hk.2) (.int .i64 ((rd_T67 O I).f3))) (fun _ h_=>h_.1))) (Kd.R_base r9) hb);replace B:=mk0 (blk_below (g:=J) (o:=.cells #[.int .i64 c0,.int .i64 c2,.int .i64 d0,.int .i64 d1] 23 (0,0)) (by (iterate 4 refine blk_far ?_ l6.1 _);exact B.1) hb);replace C:=mk0 (blk_below (g:=L) (o:=.cells #[.int .i64 d2,.int .i64 d3,.int .i64 d4,.int .i64 d5] 23 (0,0)) (by (iterate 4 refine blk_far ?_ l7.1 _);exact C.1) hb);replace D:=mk0 (blk_below (g:=a9) (o:=.cells #[.int .i64 0,.int .i64 0,.int .i64 0,.int .i64 0] 23 (0,0)) (by (iterate 4 refine blk_far ?_ l8.1 _);exact D.1) hb);replace E:=mk0 (blk_below (g:=e7) (o:=.cells #[.int .i64 Z,.int .i64 a0,.int .i64 a2,.int .i64 a5] 67 (0,0)) (by (iterate 4 refine blk_far ?_ i2.1 _);exact E.1) hb);replace F:=mk0 (blk_below (g:=d9) (o:=.cells #[.int .i64 e0,.int .i64 e1,.int .i64 e2,.int .i64 e3] 67 (0,0)) (by (iterate 4 refine blk_far ?_ i3.1 _);exact F.1) hb);replace U:=mk0 (blk_below (g:=g0) (o:=.cells #[.int .i64 d8,.int .i64 d6,.int .i64 b9,.int .i64 b8] 67 (0,0)) (by (iterate 4 refine blk_far ?_ i4.1 _);exact U.1) hb);replace d7:=mk0 (blk_below (g:=f8) (o:=.cells #[.int .i64 ((rd_T67 O I).f0),.int .i64 ((rd_T67 O I).f1),.int .i64 ((rd_T67 O I).f2),.int .i64 ((rd_T67 O I).f3)] 67 (0,0)) (by refine blk_put (cs:=#[.int .i64 ((rd_T67 O I).f0),.int .i64 ((rd_T67 O I).f1),.int .i64 ((rd_T67 O I).f2),.int .i64 0]) ?_ 3 _ rfl;refine blk_put (cs:=#[.int .i64 ((rd_T67 O I).f0),.int .i64 ((rd_T67 O I).f1),.int .i64 0,.int .i64 0]) ?_ 2 _ rfl;refine blk_put (cs:=#[.int .i64 ((rd_T67 O I).f0),.int .i64 0,.int .i64 0,.int .i64 0]) ?_ 1 _ rfl;refine blk_put (cs:=#[.int .i64 0,.int .i64 0,.int .i64 0,.int .i64 0]) ?_ 0 _ rfl;exact d7.1) hb);replace V:=mk0 (below_step (by repeat (with_reducible first|exact V.1|refine below_set ?_ h1.1|refine below_set ?_ h2.1|refine below_set ?_ h3.1|refine below_set ?_ e5.1|refine below_set ?_ e6.1|refine below_set ?_ i6.1|refine below_set ?_ n2.1)) hb);clear hb r9;obtain ⟨C1,C2,N0⟩:=Kd.R_slice g2.1;subst N0)|((with_reducible refine gate_callee (f:=54) rfl ?_);refine goesL_ (some 57) rfl rfl Try.func54 (by kernel_rfl) rfl #[.slice C1 n4.length C2] rfl (by (try simp only [m0_,m1_,m2_]);first|done|rfl|(simp only [l0_,l1_];rfl)) ?_;(with_reducible refine (norm_product.calls k3 _ _ n4 e4 e9 f4 f7 _ ?side1 ?side2 L8.1).mono ?_);(case side1=>repeat (first|exact (Kd.R_reads' g2.1).2.2|(with_reducible refine Kd.C_alloc ?_ _)|(with_reducible refine Kd.C_drewN ?_ _)|(with_reducible refine Kd.C_drew ?_)));(case side2=>exact (Kd.R_reads' g2.1).2.1);rintro e No ⟨rfl,hb⟩;refine ⟨_,rfl,?_⟩;replace f6:=rbl f6 hb;replace g2:=rbl g2 hb;replace B:=bkb B hb;replace C:=bkb C hb;replace D:=bkb D hb;replace E:=bkb E hb;replace F:=bkb F hb;replace U:=bkb U hb;replace d7:=bkb d7 hb;replace V:=bst V hb;(try clear hb);(try clear hk))|((with_reducible refine gate_dst (N:=14) rfl ?_);refine box_event ?hg (N:=14) ?hd (cs:=#[.int .i64 0,.int .i64 0,.int .i64 0,.int .i64 0]) (t:=67) ?hr ?_;(case hd=>rfl);(case hg=>rfl);(case hr=>first|(go_simp;done)|(go_simp;rfl));intro G hg n0 b0 hb;have b4:=mk0 (b0);have C0:=szw hg V;have t9:=C0;have l9:=nlt hg B;have q6:=ngt hg B;have m0:=nlt hg C;have q7:=ngt hg C;have m1:=nlt hg D;have q8:=ngt hg D;have m2:=nlt hg E;have q9:=ngt hg E;have m3:=nlt hg F;have r0:=ngt hg F;have m4:=nlt hg U;have r6:=ngt hg U;have m5:=nlt hg d7;have r7:=ngt hg d7;replace f6:=mk0 (Kd.R_below (Kd.R_elderB f6.1 G (Nat.le_of_eq hg.symm)) hb);replace g2:=mk0 (Kd.R_below (Kd.R_elderB g2.1 G (Nat.le_of_eq hg.symm)) hb);replace B:=bkb B hb;replace C:=bkb C hb;replace D:=bkb D hb;replace E:=bkb E hb;replace F:=bkb F hb;replace U:=bkb U hb;replace d7:=bkb d7 hb;replace V:=bst V hb;clear hb b0 hg;have Hb:=q6.1;have Hc:=l9.1;have Hd:=q7.1;have He:=m0.1;have Hf:=q8.1;have Hg:=m1.1;have Hh:=q9.1;have Hi:=m2.1;have Hj:=r0.1;have Hk:=m3.1;have Hl:=r6.1;have Hm:=m4.1;have Hn:=r7.1;have Ho:=m5.1;have X9:=q0_ b4;have Y0:=q1_ b4;have Y1:=q2_ b4;have Y2:=q3_ b4;have Y3:=blk_frozen b4.1 0;have Y4:=blk_frozen b4.1 1;have Y5:=blk_frozen b4.1 2;have Y6:=blk_frozen b4.1 3))
              have o7:Aside0 (Kd.R k67 67 ((((n0.setCell ⟨G,0,none⟩ (.int .i64 e4)).setCell ⟨G,1,none⟩ (.int .i64 e9)).setCell ⟨G,2,none⟩ (.int .i64 f4)).setCell ⟨G,3,none⟩ (.int .i64 f7)) w.heap.size (fun k_=>some k_ ≠ (.slice C1 n4.length C2:Value).ownBlock∧k_ ≠ e7∧k_ ≠ d9∧k_ ≠ g0∧k_ ≠ f8∧k_ ≠ G) (.slice (some t8) O.length t6) O):=⟨by (with_reducible repeat (first|apply Kd.R_alloc|apply Kd.R_drewN|apply Kd.R_drew));exact Kd.R_mono (Kd.R_far (p:=⟨G,3,none⟩) (Kd.R_far (p:=⟨G,2,none⟩) (Kd.R_far (p:=⟨G,1,none⟩) (Kd.R_far (p:=⟨G,0,none⟩) (Kd.R_mono f6.1 (fun k_ hk=>(⟨hk,hk.2⟩:_∧k_ ≠ G))) (fun _ hk=>hk.2) (.int .i64 e4)) (fun _ hk=>hk.2) (.int .i64 e9)) (fun _ hk=>hk.2) (.int .i64 f4)) (fun _ hk=>hk.2) (.int .i64 f7)) (fun _ hk=>⟨hk.1.1.2,⟨hk.1.1.1.1.1,⟨hk.1.1.1.1.2.1,⟨hk.1.1.1.1.2.2,⟨hk.1.1.1.2,hk.1.2⟩⟩⟩⟩⟩)⟩
              have o8:Aside0 (Kd.R k67 67 ((((n0.setCell ⟨G,0,none⟩ (.int .i64 e4)).setCell ⟨G,1,none⟩ (.int .i64 e9)).setCell ⟨G,2,none⟩ (.int .i64 f4)).setCell ⟨G,3,none⟩ (.int .i64 f7)) w.heap.size (fun k_=>some k_ ≠ (.slice (some t8) O.length t6:Value).ownBlock∧k_ ≠ e7∧k_ ≠ d9∧k_ ≠ g0∧k_ ≠ f8∧k_ ≠ G) (.slice C1 n4.length C2) n4):=⟨by (with_reducible repeat (first|apply Kd.R_alloc|apply Kd.R_drewN|apply Kd.R_drew));exact Kd.R_mono (Kd.R_far (p:=⟨G,3,none⟩) (Kd.R_far (p:=⟨G,2,none⟩) (Kd.R_far (p:=⟨G,1,none⟩) (Kd.R_far (p:=⟨G,0,none⟩) (Kd.R_mono g2.1 (fun k_ hk=>(⟨hk,hk.2⟩:_∧k_ ≠ G))) (fun _ hk=>hk.2) (.int .i64 e4)) (fun _ hk=>hk.2) (.int .i64 e9)) (fun _ hk=>hk.2) (.int .i64 f4)) (fun _ hk=>hk.2) (.int .i64 f7)) (fun _ hk=>⟨hk.1.1.1.1.1.1.2,⟨hk.1.1.1.1.1.2,⟨hk.1.1.1.1.2,⟨hk.1.1.1.2,⟨hk.1.1.2,hk.1.2⟩⟩⟩⟩⟩)⟩
              have o9:Aside0 (((((n0.setCell ⟨G,0,none⟩ (.int .i64 e4)).setCell ⟨G,1,none⟩ (.int .i64 e9)).setCell ⟨G,2,none⟩ (.int .i64 f4)).setCell ⟨G,3,none⟩ (.int .i64 f7)).heap[J]?=some (.cells #[.int .i64 c0,.int .i64 c2,.int .i64 d0,.int .i64 d1] 23 (0,0))):=⟨by (iterate 4 refine blk_far ?_ l9.1 _);exact B.1⟩
              have p0:Aside0 (((((n0.setCell ⟨G,0,none⟩ (.int .i64 e4)).setCell ⟨G,1,none⟩ (.int .i64 e9)).setCell ⟨G,2,none⟩ (.int .i64 f4)).setCell ⟨G,3,none⟩ (.int .i64 f7)).heap[L]?=some (.cells #[.int .i64 d2,.int .i64 d3,.int .i64 d4,.int .i64 d5] 23 (0,0))):=⟨by (iterate 4 refine blk_far ?_ m0.1 _);exact C.1⟩
              have p1:Aside0 (((((n0.setCell ⟨G,0,none⟩ (.int .i64 e4)).setCell ⟨G,1,none⟩ (.int .i64 e9)).setCell ⟨G,2,none⟩ (.int .i64 f4)).setCell ⟨G,3,none⟩ (.int .i64 f7)).heap[a9]?=some (.cells #[.int .i64 0,.int .i64 0,.int .i64 0,.int .i64 0] 23 (0,0))):=⟨by (iterate 4 refine blk_far ?_ m1.1 _);exact D.1⟩
              have p3:Aside0 (((((n0.setCell ⟨G,0,none⟩ (.int .i64 e4)).setCell ⟨G,1,none⟩ (.int .i64 e9)).setCell ⟨G,2,none⟩ (.int .i64 f4)).setCell ⟨G,3,none⟩ (.int .i64 f7)).heap[e7]?=some (.cells #[.int .i64 Z,.int .i64 a0,.int .i64 a2,.int .i64 a5] 67 (0,0))):=⟨by (iterate 4 refine blk_far ?_ m2.1 _);exact E.1⟩
              have p4:Aside0 (((((n0.setCell ⟨G,0,none⟩ (.int .i64 e4)).setCell ⟨G,1,none⟩ (.int .i64 e9)).setCell ⟨G,2,none⟩ (.int .i64 f4)).setCell ⟨G,3,none⟩ (.int .i64 f7)).heap[d9]?=some (.cells #[.int .i64 e0,.int .i64 e1,.int .i64 e2,.int .i64 e3] 67 (0,0))):=⟨by (iterate 4 refine blk_far ?_ m3.1 _);exact F.1⟩
              have p5:Aside0 (((((n0.setCell ⟨G,0,none⟩ (.int .i64 e4)).setCell ⟨G,1,none⟩ (.int .i64 e9)).setCell ⟨G,2,none⟩ (.int .i64 f4)).setCell ⟨G,3,none⟩ (.int .i64 f7)).heap[g0]?=some (.cells #[.int .i64 d8,.int .i64 d6,.int .i64 b9,.int .i64 b8] 67 (0,0))):=⟨by (iterate 4 refine blk_far ?_ m4.1 _);exact U.1⟩
              have z0:Aside0 (((((n0.setCell ⟨G,0,none⟩ (.int .i64 e4)).setCell ⟨G,1,none⟩ (.int .i64 e9)).setCell ⟨G,2,none⟩ (.int .i64 f4)).setCell ⟨G,3,none⟩ (.int .i64 f7)).heap[f8]?=some (.cells #[.int .i64 ((rd_T67 O I).f0),.int .i64 ((rd_T67 O I).f1),.int .i64 ((rd_T67 O I).f2),.int .i64 ((rd_T67 O I).f3)] 67 (0,0))):=⟨by (iterate 4 refine blk_far ?_ m5.1 _);exact d7.1⟩
              have z1:Aside0 (((((n0.setCell ⟨G,0,none⟩ (.int .i64 e4)).setCell ⟨G,1,none⟩ (.int .i64 e9)).setCell ⟨G,2,none⟩ (.int .i64 f4)).setCell ⟨G,3,none⟩ (.int .i64 f7)).heap[G]?=some (.cells #[.int .i64 e4,.int .i64 e9,.int .i64 f4,.int .i64 f7] 67 (0,0))):=⟨by refine blk_put (cs:=#[.int .i64 e4,.int .i64 e9,.int .i64 f4,.int .i64 0]) ?_ 3 _ rfl;refine blk_put (cs:=#[.int .i64 e4,.int .i64 e9,.int .i64 0,.int .i64 0]) ?_ 2 _ rfl;refine blk_put (cs:=#[.int .i64 e4,.int .i64 0,.int .i64 0,.int .i64 0]) ?_ 1 _ rfl;refine blk_put (cs:=#[.int .i64 0,.int .i64 0,.int .i64 0,.int .i64 0]) ?_ 0 _ rfl;exact b4.1⟩
              have t2:Aside0 (Below w.heap.size w ((((n0.setCell ⟨G,0,none⟩ (.int .i64 e4)).setCell ⟨G,1,none⟩ (.int .i64 e9)).setCell ⟨G,2,none⟩ (.int .i64 f4)).setCell ⟨G,3,none⟩ (.int .i64 f7))):=⟨by repeat (first|(with_reducible first|exact V.1|apply below_alloc|apply pw_below_drewN|apply below_drew1|refine below_set ?_ h1.1|refine below_set ?_ h2.1|refine below_set ?_ h3.1|refine below_set ?_ e5.1|refine below_set ?_ e6.1|refine below_set ?_ i6.1|refine below_set ?_ n2.1|refine below_set ?_ t9.1)|exact V.1)⟩
              (try clear f6);(try clear g2);(try clear B);(try clear C);(try clear D);(try clear E);(try clear F);(try clear U);(try clear d7);(try clear b4);(try clear V);generalize ((((n0.setCell ⟨G,0,none⟩ (.int .i64 e4)).setCell ⟨G,1,none⟩ (.int .i64 e9)).setCell ⟨G,2,none⟩ (.int .i64 f4)).setCell ⟨G,3,none⟩ (.int .i64 f7))=Y7 at o7 o8 o9 p0 p1 p3 p4 p5 z0 z1 t2 ⊢;have f6:=o7;have g2:=o8;have B:=o9;have C:=p0;have D:=p1;have E:=p3;have F:=p4;have U:=p5;have d7:=z0;have b4:=z1;have V:=t2;clear o7 o8 o9 p0 p1 p3 p4 p5 z0 z1 t2;replace f6:=rdr f6;replace g2:=rdr g2;replace B:=bdr B;replace C:=bdr C;replace D:=bdr D;replace E:=bdr E;replace F:=bdr F;replace U:=bdr U;replace d7:=bdr d7;replace b4:=bdr b4;replace V:=hdr V;refine start_ (n:=4) (S:=fun w'=>w'.cell? ⟨G,0,none⟩=some (.int .i64 e4)∧w'.cell? ⟨G,1,none⟩=some (.int .i64 e9)∧w'.cell? ⟨G,2,none⟩=some (.int .i64 f4)∧w'.cell? ⟨G,3,none⟩=some (.int .i64 f7)∧w'.cell? ⟨g0,0,none⟩=some (.int .i64 d8)∧w'.cell? ⟨g0,1,none⟩=some (.int .i64 d6)∧w'.cell? ⟨g0,2,none⟩=some (.int .i64 b9)∧w'.cell? ⟨g0,3,none⟩=some (.int .i64 b8)) (ds:=[]) #[n_,n_,n_,n_] (by kernel_rfl) rfl rfl ⟨q0_ b4,q1_ b4,q2_ b4,q3_ b4,q0_ U,q1_ U,q2_ U,q3_ U⟩ (fun T=>?_);generalize Y7.drew=Np at f6 g2 B C D E F U d7 b4 V T ⊢;refine pure_ (i:=0) (N:=some 58) (v:=?_) (a':=?_) #[y_,n_,n_,n_] rfl rfl (by kernel_rfl) (fun _ _ _ h=>h) (Or.inl ⟨by rfl,?_⟩) ?_ ?_;rotate_left
              ·
               intro w';go_simp;with_reducible rfl
              rotate_left
              ·
               simp only [Act.put,s0_,s1_,s2_,i64_w,i32_w];rfl
              refine pure_ (i:=1) (N:=some 59) (v:=?_) (a':=?_) #[y_,y_,n_,n_] rfl rfl (by kernel_rfl) (fun _ _ _ h=>h) (Or.inl ⟨by rfl,?_⟩) ?_ ?_;rotate_left
              ·
               intro w';go_simp;with_reducible rfl
              rotate_left
              ·
               simp only [Act.put,s0_,s1_,s2_,i64_w,i32_w];rfl
              refine one_ (i:=2) (N:=some 60) #[y_,y_,y_,n_] rfl rfl (by kernel_rfl) (by decide) (fun K hK=>?_);refine goes_ Try.func55 (by kernel_rfl) rfl #[.slice (some ⟨G,0,none⟩) [e4,e9,f4,f7].length 4,.slice (some ⟨g0,0,none⟩) [d8,d6,b9,b8].length 4] (by rfl) rfl rfl (by (try simp only [m0_,m1_,m2_]);first|done|(rw [show [e4,e9,f4,f7].length=4 from rfl,show [d8,d6,b9,b8].length=4 from rfl] <;> rfl)|rfl|(simp only [l0_,l1_];rfl)) ?_;with_reducible refine (slices_Compare_int_int.calls k3 _ _ [e4,e9,f4,f7] _ _ [d8,d6,b9,b8] s9 _ ?side1 ?side2 ?side3 ?side4 L9.1).mono ?_
              (case side1=>exact Go.Proofs.MyWords.C_box (t:=67) (cs:=#[.int .i64 e4,.int .i64 e9,.int .i64 f4,.int .i64 f7]) b4.1 (by rfl) (Nat.le_of_ble_eq_true rfl));(case side2=>exact Nat.le_refl _);(case side3=>exact Go.Proofs.MyWords.C_box (t:=67) (cs:=#[.int .i64 d8,.int .i64 d6,.int .i64 b9,.int .i64 b8]) U.1 (by rfl) (Nat.le_of_ble_eq_true rfl));(case side4=>exact Nat.le_refl _);rintro e w' ⟨rfl,⟨nd,rfl⟩⟩;refine ⟨_,rfl,?_⟩;refine hK.out _ _ ⟨q0_ b4,q1_ b4,q2_ b4,q3_ b4,q0_ U,q1_ U,q2_ U,q3_ U⟩ (fun T=>?_);clear hK K;refine norm_ (a':=?_) ?_ ?_;rotate_left
              ·
               show Act.put _ (some 60) _=_;simp only [Act.put,s0_,s1_,s2_,i64_w,i32_w];rfl
              refine pure_ (i:=3) (N:=some 61) (v:=?_) (a':=?_) #[y_,y_,y_,y_] rfl rfl (by kernel_rfl) (fun _ _ _ h=>h) (Or.inl ⟨by rfl,?_⟩) ?_ ?_;rotate_left
              ·
               intro w';go_simp;with_reducible rfl
              rotate_left
              ·
               simp only [Act.put,s0_,s1_,s2_,i64_w,i32_w];rfl
              refine done_ (by kernel_rfl) ?_;try go_wp2
              go_roundg k3
              case measure=>have:=A0.1;have:=B3.1;have:=F4.1;omega
              case rel=>exact ⟨(wrap64 (I + 1)),(d8),(d6),(b9),(b8),(by first|rfl|(simp;done)|(simp [*];done)),H',⟨by have:=A0.1;have:=B3.1;have:=F4.1;omega⟩,⟨by (with_reducible repeat (first|apply Kd.R_alloc|apply Kd.R_drewN|apply Kd.R_drew));exact Kd.R_mono f6.1 (fun _ hk=>⟨hk.2.1,⟨hk.2.2.1,hk.2.2.2.1⟩⟩)⟩,⟨by exact B.1⟩,⟨by exact C.1⟩,⟨by exact D.1⟩,⟨by exact E.1⟩,⟨by exact F.1⟩,⟨by exact U.1⟩,⟨by repeat (first|(with_reducible first|exact V.1|apply below_alloc|apply pw_below_drewN|apply below_drew1|refine below_set ?_ h1.1|refine below_set ?_ h2.1|refine below_set ?_ h3.1|refine below_set ?_ e5.1|refine below_set ?_ e6.1|refine below_set ?_ i6.1|refine below_set ?_ n2.1|refine below_set ?_ t9.1)|exact V.1)⟩⟩
            ·
             rw [if_neg c113] at H;exact absurd H (by simp)
           ·
            rw [if_neg c112] at H;exact absurd H (by simp)
          ·
           rw [if_neg c111] at H;have c111b0:decide (I < (O.length:Int))=false:=decide_eq_false c111;clear c111;replace H:=Option.bind_eq_some_iff.mp H;obtain ⟨⟨z2,C3,E7,M0⟩,F7,H⟩:=H;(try dsimp only at H);have Y8:=mk0 F7;clear F7;simp only [Option.some.injEq,Prod.mk.injEq] at H;obtain ⟨rfl,rfl,rfl,rfl,rfl⟩:=H;have Hp:=p6.1;have Hq:=l3.1;have Hr:=p7.1;have Hs:=l4.1;have Ht:=p8.1;have Hu:=l5.1;have Hv:=n7.1;have Hw:=i1.1;have Hx:=p9.1;have Hy:=j1.1;have Y9:=q0_ U;have Z0:=q1_ U;have Z1:=q2_ U;have Z2:=q3_ U;have Z3:=blk_frozen U.1 0;have Z4:=blk_frozen U.1 1;have Z5:=blk_frozen U.1 2;have Z6:=blk_frozen U.1 3;go_wp2_with (first|((with_reducible refine gate_callee (f:=50) rfl ?_);refine goesL_ (some 65) rfl rfl Try.func50 (by kernel_rfl) rfl #[.agg #[.int .i64 d8,.int .i64 d6,.int .i64 b9,.int .i64 b8]] rfl (by (try simp only [m0_,m1_,m2_]);first|done|rfl|(simp only [l0_,l1_];rfl)) ?_;(with_reducible refine (norm_quat_api.calls d8 d6 b9 b8 z2 C3 E7 M0 _ Y8.1).mono ?_);rintro e Nq ⟨rfl,hb⟩;refine ⟨_,rfl,?_⟩;replace f6:=rbl f6 hb;replace B:=bkb B hb;replace C:=bkb C hb;replace D:=bkb D hb;replace E:=bkb E hb;replace F:=bkb F hb;replace U:=bkb U hb;replace V:=bst V hb;(try clear hb);have Hz:=j8.1;have Ia:=j7.1;have Ib:=l2.1;have Ic:=j9.1;have Id:=a1.1;have Ie:=a6.1;have If:=a7.1;have Ig:=b3.1;have Z7:=q0_ D;have Z8:=q1_ D;have Z9:=q2_ D;have Aa:=q3_ D;have Ab:=blk_frozen D.1 0;have Ac:=blk_frozen D.1 1;have Ad:=blk_frozen D.1 2;have Ae:=blk_frozen D.1 3));refine bodyPost_ret (results_ct rfl _ _ a9 23 #[.int .i64 z2,.int .i64 C3,.int .i64 E7,.int .i64 M0] (0,0) _ rfl (by refine blk_put (cs:=#[.int .i64 z2,.int .i64 C3,.int .i64 E7,.int .i64 0]) ?_ 3 _ rfl;refine blk_put (cs:=#[.int .i64 z2,.int .i64 C3,.int .i64 0,.int .i64 0]) ?_ 2 _ rfl;refine blk_put (cs:=#[.int .i64 z2,.int .i64 0,.int .i64 0,.int .i64 0]) ?_ 1 _ rfl;refine blk_put (cs:=#[.int .i64 0,.int .i64 0,.int .i64 0,.int .i64 0]) ?_ 0 _ rfl;exact D.1) Try.underlying23 rfl (by kernel_rfl)) rfl ?_;exact ⟨by first|rfl|(simp [errW_none,errW_some] <;> rfl)|(simp [*,errW_none,errW_some] <;> rfl),by repeat (first|(with_reducible first|exact V.1|apply below_alloc|apply pw_below_drewN|apply below_drew1|refine below_set ?_ h1.1|refine below_set ?_ h2.1|refine below_set ?_ h3.1|refine below_set ?_ e5.1|refine below_set ?_ e6.1|refine below_set ?_ i6.1)|exact V.1)⟩
 ·
  rw [if_neg c4] at H;have c4b0:(j3 == 0)=false:=beq_eq_false_iff_ne.mpr c4;have c4b1:(j3 != 0)=true:=bne_iff_ne.mpr c4;simp only [Option.some.injEq,Prod.mk.injEq] at H;obtain ⟨rfl,rfl,rfl,rfl,rfl⟩:=H;go_enter Try.func21,Try.ntmps21;go_wp2_with (first|((with_reducible refine gate_dst (N:=2) rfl ?_);refine box_event ?hg (N:=2) ?hd (cs:=#[.int .i64 c0,.int .i64 c2,.int .i64 d0,.int .i64 d1]) (t:=23) ?hr ?_;(case hd=>rfl);(case hg=>rfl);(case hr=>first|(go_simp;done)|(go_simp;rfl));intro J hg Nr b0 hb;have B:=mk0 (b0);have B4:=szw hg V;have h1:=B4;replace V:=bst V hb;clear hb b0 hg)|((with_reducible refine gate_dst (N:=3) rfl ?_);refine box_event ?hg (N:=3) ?hd (cs:=#[.int .i64 d2,.int .i64 d3,.int .i64 d4,.int .i64 d5]) (t:=23) ?hr ?_;(case hd=>rfl);(case hg=>rfl);(case hr=>first|(go_simp;done)|(go_simp;rfl));intro L hg Ns b0 hb;have C:=mk0 (b0);have B5:=szw hg V;have h2:=B5;have o0:=nlt hg B;have o1:=ngt hg B;replace B:=bkb B hb;replace V:=bst V hb;clear hb b0 hg)|((with_reducible refine gate_dst (N:=4) rfl ?_);refine box_event ?hg (N:=4) ?hd (cs:=#[.int .i64 0,.int .i64 0,.int .i64 0,.int .i64 0]) (t:=23) ?hr ?_;(case hd=>rfl);(case hg=>rfl);(case hr=>first|(go_simp;done)|(go_simp;rfl));intro a9 hg Nt b0 hb;have D:=mk0 (b0);have B6:=szw hg V;have h3:=B6;have j7:=nlt hg B;have j8:=ngt hg B;have j9:=nlt hg C;have l2:=ngt hg C;replace B:=bkb B hb;replace C:=bkb C hb;replace V:=bst V hb;clear hb b0 hg;have Ih:=o0.1;have Ii:=o1.1;have Ij:=j7.1;have Ik:=j8.1;have Af:=q0_ B;have Ag:=q1_ B;have Ah:=q2_ B;have Ai:=q3_ B;have Aj:=blk_frozen B.1 0;have Ak:=blk_frozen B.1 1;have Al:=blk_frozen B.1 2;have Am:=blk_frozen B.1 3;have Il:=j9.1;have Im:=l2.1;have An:=q0_ C;have Ao:=q1_ C;have Ap:=q2_ C;have Aq:=q3_ C;have Ar:=blk_frozen C.1 0;have As:=blk_frozen C.1 1;have At:=blk_frozen C.1 2;have Au:=blk_frozen C.1 3)|((with_reducible refine gate_dst (N:=17) rfl ?_);refine Kd.R_lit k23 _ 23 ?hg (N:=17) ?hd (xs:=([(⟨c0,c2,d0,d1⟩:S23),(⟨d2,d3,d4,d5⟩:S23)]:List (S23))) (inner:=[.int .i64 c0,.int .i64 c2,.int .i64 d0,.int .i64 d1,.int .i64 d2,.int .i64 d3,.int .i64 d4,.int .i64 d5]) (ok:=fun _=>True) (okp:=fun _=>True) ?hr ?hp (fun _ hk=>hk) trivial (Below.refl _ _) (Nat.le_refl _) (by simp) ?_;(case hd=>rfl);(case hg=>rfl);(case hr=>first|(go_simp;done)|(go_simp;rfl));(case hp=>exact (Reps.c4 (show Kd.M k23 _ _ _ (⟨c0,c2,d0,d1⟩:S23) [.int .i64 c0,.int .i64 c2,.int .i64 d0,.int .i64 d1] from (k23_mkM _ _ _ (⟨c0,c2,d0,d1⟩:S23) )) (Reps.c4 (show Kd.M k23 _ _ _ (⟨d2,d3,d4,d5⟩:S23) [.int .i64 d2,.int .i64 d3,.int .i64 d4,.int .i64 d5] from (k23_mkM _ _ _ (⟨d2,d3,d4,d5⟩:S23) )) (Reps.none _ _))));intro O1 Nu u0 hb hg_ n9;clear hg_ n9;(first|rw [← y5.1] at u0|(simp only [Int.reduceToNat] at u0;rw [← y5.1] at u0));have Q:=mk0 (Kd.R_lower (Kd.R_newB (Kd.R_newB (Kd.R_newB u0 (g:=J) (o:=.cells #[.int .i64 c0,.int .i64 c2,.int .i64 d0,.int .i64 d1] 23 (0,0)) B.1) (g:=L) (o:=.cells #[.int .i64 d2,.int .i64 d3,.int .i64 d4,.int .i64 d5] 23 (0,0)) C.1) (g:=a9) (o:=.cells #[.int .i64 0,.int .i64 0,.int .i64 0,.int .i64 0] 23 (0,0)) D.1) (below_size V.1));replace B:=bkb B hb;replace C:=bkb C hb;replace D:=bkb D hb;replace V:=bst V hb;clear hb u0;obtain ⟨N1,N2,N3⟩:=Kd.R_slice Q.1;subst N3)|((with_reducible refine gate_callee (f:=47) rfl ?_);refine goesL_ (some 18) rfl rfl Try.func47 (by kernel_rfl) rfl #[.slice N1 g9.length N2] rfl (by (try simp only [m0_,m1_,m2_]);first|done|rfl|(simp only [l0_,l1_];rfl)) ?_;(with_reducible refine (norm_check.calls k _ _ g9 j3 _ ?side1 ?side2 A3.1).mono ?_);(case side1=>repeat (first|exact (Kd.R_reads' Q.1).2.2|(with_reducible refine Kd.C_alloc ?_ _)|(with_reducible refine Kd.C_drewN ?_ _)|(with_reducible refine Kd.C_drew ?_)));(case side2=>exact (Kd.R_reads' Q.1).2.1);rintro e Nv ⟨rfl,hb⟩;refine ⟨_,rfl,?_⟩;replace Q:=rbl Q hb;replace B:=bkb B hb;replace C:=bkb C hb;replace D:=bkb D hb;replace V:=bst V hb;(try clear hb);(try clear hk);have Av:=q0_ D;have Aw:=q1_ D;have Ax:=q2_ D;have Ay:=q3_ D;have Az:=blk_frozen D.1 0;have Ba:=blk_frozen D.1 1;have Bb:=blk_frozen D.1 2;have Bc:=blk_frozen D.1 3))
  refine bodyPost_ret (results_ct rfl _ _ a9 23 #[.int .i64 0,.int .i64 0,.int .i64 0,.int .i64 0] (0,0) _ rfl (by refine blk_put (cs:=#[.int .i64 0,.int .i64 0,.int .i64 0,.int .i64 0]) ?_ 3 _ rfl;refine blk_put (cs:=#[.int .i64 0,.int .i64 0,.int .i64 0,.int .i64 0]) ?_ 2 _ rfl;refine blk_put (cs:=#[.int .i64 0,.int .i64 0,.int .i64 0,.int .i64 0]) ?_ 1 _ rfl;refine blk_put (cs:=#[.int .i64 0,.int .i64 0,.int .i64 0,.int .i64 0]) ?_ 0 _ rfl;exact D.1) Try.underlying23 rfl (by kernel_rfl)) rfl ?_;exact ⟨by first|rfl|(simp [errW_none,errW_some] <;> rfl)|(simp [*,errW_none,errW_some] <;> rfl),by repeat (first|(with_reducible first|exact V.1|apply below_alloc|apply pw_below_drewN|apply below_drew1|refine below_set ?_ h1.1|refine below_set ?_ h2.1|refine below_set ?_ h3.1)|exact V.1)⟩
/-! ### norm_counted: function 57 -/
def norm_counted.f (a0:Int) (a1:Int):Option (Bool):=if a0 ≥ a1 then (some (decide (a0 ≤ 10000))) else (some false)
set_option maxHeartbeats 8000000 in
set_option maxRecDepth 100000 in
theorem norm_counted.calls (a0:Int) (a1:Int) (r:Bool) (w:World) (h:norm_counted.f a0 a1=some r) :
    Calls Try.prog 57 #[.int .i64 a0,.int .i64 a1] w fun e w'=>e=.returned (.bool r)∧Drawn0 w w':=by
 have H:(if a0 ≥ a1 then (some (decide (a0 ≤ 10000))) else (some false))=some r:=h;clear h
 by_cases c3:a0 ≥ a1
 ·
  rw [if_pos c3] at H;have c3b0:decide (a1 ≤ a0)=true:=decide_eq_true c3;clear c3;obtain rfl:=Option.some.inj H;go_enter Try.func57,Try.ntmps57;go_wp2;go_ret;exact ⟨by first|rfl|(simp;done)|(simp [*];done),by repeat (first|exact Drawn0.refl _|apply Drawn0.step)⟩
 ·
  rw [if_neg c3] at H;have c3b0:decide (a1 ≤ a0)=false:=decide_eq_false c3;clear c3;obtain rfl:=Option.some.inj H;go_enter Try.func57,Try.ntmps57;go_wp2;go_ret;exact ⟨by first|rfl|(simp;done)|(simp [*];done),by repeat (first|exact Drawn0.refl _|apply Drawn0.step)⟩
/-! ### norm_squares: function 58 -/
/-- A row that may be nil. -/
def NilRow (w:World) (base:Nat) (v:Value):Option (List Int) → Prop
  | none=>v=.slice none 0 0
  | some l=>(∃ b,v.ownBlock=some b)∧Kd.R (Kd.int .i64) 3 w base (fun _=>True) v l
theorem NilRow.open {w:World} {base:Nat} {v:Value} {l:List Int} (h:NilRow w base v (some l)):∃ ad c,v=.slice (some ad) l.length c∧Kd.R (Kd.int .i64) 3 w base (fun _=>True) v l:=by
  obtain ⟨⟨b,hb⟩,h⟩:=h
  obtain ⟨A,c,e⟩:=Kd.R_slice h
  cases A with
  | none=>rw [e] at hb;simp [Value.ownBlock] at hb
  | some ad=>exact ⟨ad,c,e,h⟩
theorem NilRow.cons_ne {o:Option (Option (List Int))} {x:Int} {E:Option (Option (List Int))} {r:List Int} (h:(o.bind fun t=>if t.isSome=true then ((some ([x]:List Int)).bind fun y=>if y.length + (t.getD []).length < 17592186044416 then some (some (y ++ t.getD [])) else none) else E)=some (some r)) (hE:E=some (some r) → r ≠ []):r ≠ []:=by
  obtain ⟨t,_,h⟩:=Option.bind_eq_some_iff.mp h
  by_cases ht:t.isSome=true
  · rw [if_pos ht] at h
    simp only [Option.bind_some] at h
    by_cases hl:[x].length + (t.getD []).length < 17592186044416
    · rw [if_pos hl] at h
      cases h
      simp
    · rw [if_neg hl] at h
      cases h
  · rw [if_neg ht] at h
    exact hE h
theorem NilRow.row {w:World} {base:Nat} {v:Value} {o:Option (List Int)} (h:NilRow w base v o):Kd.R (Kd.int .i64) 3 w base (fun _=>True) v (o.getD []):=by
  cases o with
  | none=>obtain rfl:=(show v=.slice none 0 0 from h);exact Kd.R_nil _ _ _ _ _
  | some l=>exact h.2
mutual
def sqN.l0:Nat → Int → Int → Int → Option (Option (List Int))
  | 0,_,_,_=>none
  | k + 1,x0,x1,x7=>if x7 ≥ 0 then (sqN.j1 k x0 x1 x7 (decide ((wrap64 ((wrap64 (x1 * x7)) * x7)) ≥ x0))) else (sqN.j1 k x0 x1 x7 false)
def sqN.j1:Nat → Int → Int → Int → Bool → Option (Option (List Int))
  | 0,_,_,_,_=>none
  | k + 1,x0,x1,x7,x25=>if x25=true then (if (wrap64 (x7 * x7)) > x0 then (sqN.l0 k x0 x1 (wrap64 (x7 - 1))) else ((sqN.f k (wrap64 (x0 - (wrap64 (x7 * x7)))) (wrap64 (x1 - 1)) x7).bind fun t290=>(if t290.isSome=true then ((some (([x7]:List Int):List Int)).bind fun y293=>(if y293.length + (t290.getD []).length < 17592186044416 then (some (some (y293 ++ t290.getD []))) else (none))) else (sqN.l0 k x0 x1 (wrap64 (x7 - 1)))))) else (some (none:Option (List Int)))
def sqN.f:Nat → Int → Int → Int → Option (Option (List Int))
  | 0,_,_,_=>none
  | k + 1,a0,a1,a2=>if a1=0 then (if a0=0 then (some (some ([]:List Int))) else (some (none:Option (List Int)))) else (sqN.l0 k a0 a1 a2)
end
theorem sqN.mono_l:∀ k,(∀ B C D,LeO (sqN.f k B C D) (sqN.f (k + 1) B C D))∧(∀ B C D,LeO (sqN.l0 k B C D) (sqN.l0 (k + 1) B C D))∧(∀ B C D I,LeO (sqN.j1 k B C D I) (sqN.j1 (k + 1) B C D I))
  | 0=>⟨fun _ _ _ r h=>by simp [sqN.f] at h,fun _ _ _ r h=>by simp [sqN.l0] at h,fun _ _ _ _ r h=>by simp [sqN.j1] at h⟩
  | k + 1=>by
    obtain ⟨E,F,G⟩:=sqN.mono_l k
    refine ⟨?_,?_,?_⟩
    · intro B C D
      unfold sqN.f
      repeat' first
      | (with_reducible exact E _ _ _)
      | (with_reducible exact F _ _ _)
      | (with_reducible exact G _ _ _ _)
      | (with_reducible exact LeO.refl _)
      | (with_reducible exact LeO.none _)
      | (with_reducible refine LeO.ite ?_ ?_)
      | (with_reducible refine LeO.bind ?_ (fun _=>?_))
      | exact E _ _ _
      | exact F _ _ _
      | exact G _ _ _ _
      | exact LeO.none _
      | refine LeO.ite ?_ ?_
      | refine LeO.bind ?_ (fun _=>?_)
    · intro B C D
      unfold sqN.l0
      repeat' first
      | (with_reducible exact E _ _ _)
      | (with_reducible exact F _ _ _)
      | (with_reducible exact G _ _ _ _)
      | (with_reducible exact LeO.refl _)
      | (with_reducible exact LeO.none _)
      | (with_reducible refine LeO.ite ?_ ?_)
      | (with_reducible refine LeO.bind ?_ (fun _=>?_))
      | exact E _ _ _
      | exact F _ _ _
      | exact G _ _ _ _
      | exact LeO.none _
      | refine LeO.ite ?_ ?_
      | refine LeO.bind ?_ (fun _=>?_)
    · intro B C D I
      unfold sqN.j1
      repeat' first
      | (with_reducible exact E _ _ _)
      | (with_reducible exact F _ _ _)
      | (with_reducible exact G _ _ _ _)
      | (with_reducible exact LeO.refl _)
      | (with_reducible exact LeO.none _)
      | (with_reducible refine LeO.ite ?_ ?_)
      | (with_reducible refine LeO.bind ?_ (fun _=>?_))
      | exact E _ _ _
      | exact F _ _ _
      | exact G _ _ _ _
      | exact LeO.none _
      | refine LeO.ite ?_ ?_
      | refine LeO.bind ?_ (fun _=>?_)
theorem sqN.mono:∀ a0 a1 a2 k,LeO (sqN.f k a0 a1 a2) (sqN.f (k + 1) a0 a1 a2):=by
  intro a0 a1 a2 k
  obtain ⟨ih0,ih1,ih2⟩:=sqN.mono_l k
  exact ih0 a0 a1 a2
theorem sqN.ne:∀ k,(∀ y0 y1 y2 r,sqN.l0 k y0 y1 y2=some (some r) → r ≠ [])∧(∀ y0 y1 y2 y3 r,sqN.j1 k y0 y1 y2 y3=some (some r) → r ≠ [])
  | 0=>⟨fun _ _ _ r h=>by simp [sqN.l0] at h,fun _ _ _ _ r h=>by simp [sqN.j1] at h⟩
  | k + 1=>by
    obtain ⟨ih0,ih1⟩:=sqN.ne k
    refine ⟨?_,?_⟩
    · intro y0 y1 y2 r h
      unfold sqN.l0 at h
      repeat' split at h
      all_goals first|exact ih0 _ _ _ _ h|exact ih1 _ _ _ _ _ h|(cases h;done)|exact NilRow.cons_ne h (fun h=>by first|exact ih0 _ _ _ _ h|exact ih1 _ _ _ _ _ h)
    · intro y0 y1 y2 y3 r h
      unfold sqN.j1 at h
      repeat' split at h
      all_goals first|exact ih0 _ _ _ _ h|exact ih1 _ _ _ _ _ h|(cases h;done)|exact NilRow.cons_ne h (fun h=>by first|exact ih0 _ _ _ _ h|exact ih1 _ _ _ _ _ h)
set_option maxHeartbeats 8000000 in
set_option maxRecDepth 100000 in
theorem sqN.calls (k:Nat):∀ (D:Int) (I:Int) (a2:Int) (r:Option (List Int)) (w:World) (h:sqN.f k D I a2=some r),
    Calls Try.prog 58 #[.int .i64 D,.int .i64 I,.int .i64 a2] w fun e w'=>∃ c0:Value,e=.returned (c0)∧NilRow w' w.heap.size c0 r∧Below w.heap.size w w':=by
  induction k using Nat.strongRecOn with
  | _ k ih =>
  intro D I a2 r w h
  cases k with
  | zero=>exact absurd h (by simp [sqN.f])
  | succ k =>
  simp only [sqN.f] at h
  have C:=Aside0.mk (Below.refl w.heap.size w)
  have H:(if I=0 then (if D=0 then (some (some ([]:List Int))) else (some (none:Option (List Int)))) else (sqN.l0 k D I a2))=some r:=h
  clear h
  by_cases c4:I=0
  · rw [if_pos c4] at H
    have c4b0:(I == 0)=true:=beq_iff_eq.mpr c4
    have c4b1:(I != 0)=false:=bne_eq_false_iff_eq.mpr c4
    clear c4
    by_cases c5:D=0
    · rw [if_pos c5] at H
      have c5b0:(D == 0)=true:=beq_iff_eq.mpr c5
      have c5b1:(D != 0)=false:=bne_eq_false_iff_eq.mpr c5
      clear c5
      obtain ⟨c3,R⟩:∃ y_:List Int,y_=(([]:List Int)):=⟨_,rfl⟩
      replace H:(some (some c3))=some r:=by first|(rw [R];with_reducible exact H)|(have L:=(Option.bind_some _ _).symm.trans H;rw [R];with_reducible exact L)|(have L:=(Option.bind_some _ _).symm.trans H;with_reducible exact L)|with_reducible exact H|(rw [R];exact H)|exact H
      have a7:=Aside0.mk R
      clear R
      obtain rfl:=Option.some.inj H
      go_enter Try.func58,Try.ntmps58
      go_wp2_with (first|((with_reducible refine gate_dst (N:=13) rfl ?_);refine Kd.R_lit (Kd.int .i64) _ 3 ?hg (N:=13) ?hd (xs:=([]:List Int)) (inner:=[]) (ok:=fun _=>True) (okp:=fun _=>True) ?hr ?hp (fun _ hk=>hk) trivial (Below.refl _ _) (Nat.le_refl _) (by simp) ?_;(case hd=>rfl);(case hg=>rfl);(case hr=>first|(go_simp;done)|(go_simp;rfl));(case hp=>exact (Reps.none _ _));intro d3 w6 a5 hb hg_ T;clear hg_;have HNEW:=Aside0.mk T;clear T;(first|rw [← a7.1] at a5|(simp only [Int.reduceToNat] at a5;rw [← a7.1] at a5));have O:=Aside0.mk (Kd.R_lower a5 (below_size (by repeat (first|(with_reducible first|exact C.1|apply below_alloc|apply pw_below_drewN|apply below_drew1)|exact C.1))));have G:=Aside0.mk (below_step (by repeat (first|(with_reducible first|exact C.1|apply below_alloc|apply pw_below_drewN|apply below_drew1)|exact C.1)) hb);clear C;have b6:=O;have C:=G;clear O G;clear hb a5))
      go_ret
      exact ⟨_,by first|rfl|(simp [errW_none,errW_some] <;> rfl)|(simp [*,errW_none,errW_some] <;> rfl),⟨(HNEW.1.elim fun b_ h_=>⟨b_,h_.1⟩),(by (with_reducible repeat (first|apply Kd.R_alloc|apply Kd.R_drewN|apply Kd.R_drew));exact b6.1)⟩,by repeat (first|(with_reducible first|exact C.1|apply below_alloc|apply pw_below_drewN|apply below_drew1)|exact C.1)⟩
    · rw [if_neg c5] at H
      have c5b0:(D == 0)=false:=beq_eq_false_iff_ne.mpr c5
      have c5b1:(D != 0)=true:=bne_iff_ne.mpr c5
      obtain rfl:=Option.some.inj H
      go_enter Try.func58,Try.ntmps58
      go_wp2
      go_ret
      exact ⟨_,by first|rfl|(simp [errW_none,errW_some] <;> rfl)|(simp [*,errW_none,errW_some] <;> rfl),rfl,by repeat (first|(with_reducible first|exact C.1|apply below_alloc|apply pw_below_drewN|apply below_drew1)|exact C.1)⟩
  · rw [if_neg c4] at H
    have c4b0:(I == 0)=false:=beq_eq_false_iff_ne.mpr c4
    have c4b1:(I != 0)=true:=bne_iff_ne.mpr c4
    have H':=Aside0.mk H
    clear H
    go_enter Try.func58,Try.ntmps58
    go_wp2
    go_loopg [7] k (fun kq v7 w'=>∃ (B:Int),v7=.int .i64 B∧Aside0 (sqN.l0 kq D I B=some r)∧Aside0 (kq ≤ k)∧Aside0 (Below w.heap.size w w'))
    case atStart=>exact ⟨(a2),(by first|rfl|(simp;done)|(simp [*];done)),H',⟨Nat.le_refl _⟩,⟨by repeat (first|(with_reducible first|exact C.1|apply below_alloc|apply pw_below_drewN|apply below_drew1)|exact C.1)⟩⟩
    case round =>
      clear H'
      try clear p2
      try clear c4
      try clear c4b0
      try clear c4b1
      try clear c5
      try clear c5b0
      try clear c5b1
      obtain ⟨B,rfl,HA,Y,C⟩:=hrel
      cases gk with
      | zero=>exact absurd HA.1 (by simp [sqN.l0])
      | succ k1 =>
        have H:=HA.1
        clear HA
        simp only [sqN.l0] at H
        have b2:=Aside0.mk H
        clear H
        go_upto_region 6 with (fail)
        go_cut [25] (fun c8 wc=>∃ (kq:Nat) (Z:Bool),c8=.bool Z∧Aside0 (sqN.j1 kq D I B Z=some r)∧Aside0 (kq ≤ k1)∧Aside0 (Below w.heap.size w wc))
        case first =>
          have H:=b2.1
          clear b2
          by_cases c9:B ≥ 0
          · rw [if_pos c9] at H
            have c9b0:decide (0 ≤ B)=true:=decide_eq_true c9
            clear c9
            (first|rw [c9b0]|(simp only [i64_w,i32_w];rw [c9b0])|skip)
            have H':=Aside0.mk H
            clear H
            go_wp2
            go_meet
            case rel=>exact ⟨_,(decide ((wrap64 ((wrap64 (I * B)) * B)) ≥ D)),(by first|rfl|(simp;done)|(simp [*];done)),H',⟨by have:=Y.1;first|omega|exact Nat.le_refl _⟩,⟨by repeat (first|(with_reducible first|exact C.1|apply below_alloc|apply pw_below_drewN|apply below_drew1)|exact C.1)⟩⟩
          · rw [if_neg c9] at H
            have c9b0:decide (0 ≤ B)=false:=decide_eq_false c9
            clear c9
            (first|rw [c9b0]|(simp only [i64_w,i32_w];rw [c9b0])|skip)
            have H':=Aside0.mk H
            clear H
            go_wp2
            go_meet
            case rel=>exact ⟨_,(false),(by first|rfl|(simp;done)|(simp [*];done)),H',⟨by have:=Y.1;first|omega|exact Nat.le_refl _⟩,⟨by repeat (first|(with_reducible first|exact C.1|apply below_alloc|apply pw_below_drewN|apply below_drew1)|exact C.1)⟩⟩
        case rest =>
          clear b2
          try clear p2
          try clear c4
          try clear c4b0
          try clear c4b1
          try clear c5
          try clear c5b0
          try clear c5b1
          try clear p6
          try clear c9
          try clear c9b0
          try clear p2
          obtain ⟨kq,Z,rfl,HA,a3,C⟩:=hcut
          cases kq with
          | zero=>exact absurd HA.1 (by simp [sqN.j1])
          | succ kj7 =>
            have H:=HA.1
            clear HA
            simp only [sqN.j1] at H
            by_cases a8:Z=true
            · subst a8
              have H1:(if (wrap64 (B * B)) > D then (sqN.l0 kj7 D I (wrap64 (B - 1))) else ((sqN.f kj7 (wrap64 (D - (wrap64 (B * B)))) (wrap64 (I - 1)) B).bind fun J=>(if J.isSome=true then ((some (([B]:List Int):List Int)).bind fun F=>(if F.length + (J.getD []).length < 17592186044416 then (some (some (F ++ J.getD []))) else (none))) else (sqN.l0 kj7 D I (wrap64 (B - 1))))))=some r:=by rw [if_pos rfl] at H;exact H
              clear H
              have H:=H1
              clear H1
              by_cases c11:(wrap64 (B * B)) > D
              · rw [if_pos c11] at H
                have c11b0:decide (D < (wrap64 (B * B)))=true:=decide_eq_true c11
                clear c11
                have H':=Aside0.mk H
                clear H
                go_wp2
                go_roundg kj7
                case measure=>have:=Y.1;have:=a3.1;omega
                case rel=>exact ⟨(wrap64 (B - 1)),(by first|rfl|(simp;done)|(simp [*];done)),H',⟨by have:=Y.1;have:=a3.1;omega⟩,⟨by repeat (first|(with_reducible first|exact C.1|apply below_alloc|apply pw_below_drewN|apply below_drew1)|exact C.1)⟩⟩
              · rw [if_neg c11] at H
                have c11b0:decide (D < (wrap64 (B * B)))=false:=decide_eq_false c11
                clear c11
                replace H:=Option.bind_eq_some_iff.mp H
                obtain ⟨J,b4,H⟩:=H
                replace H:(if J.isSome=true then ((some (([B]:List Int):List Int)).bind fun F=>(if F.length + (J.getD []).length < 17592186044416 then (some (some (F ++ J.getD []))) else (none))) else (sqN.l0 kj7 D I (wrap64 (B - 1))))=some r:=H
                have c1:=Aside0.mk b4
                clear b4
                by_cases c13:J.isSome=true
                · rw [if_pos c13] at H
                  obtain ⟨Q,e_⟩:=Option.isSome_iff_exists.mp c13
                  clear c13
                  subst e_
                  simp only [Option.getD_some] at H
                  obtain ⟨F,U⟩:∃ y_:List Int,y_=(([B]:List Int)):=⟨_,rfl⟩
                  replace H:(if F.length + Q.length < 17592186044416 then (some (some (F ++ Q))) else (none))=some r:=by first|(rw [U];with_reducible exact H)|(have L:=(Option.bind_some _ _).symm.trans H;rw [U];with_reducible exact L)|(have L:=(Option.bind_some _ _).symm.trans H;with_reducible exact L)|with_reducible exact H|(rw [U];exact H)|exact H
                  have a9:=Aside0.mk U
                  clear U
                  by_cases c14:F.length + Q.length < 17592186044416
                  · rw [if_pos c14] at H
                    have b7:=Aside0.mk c14
                    clear c14
                    obtain ⟨c6,V⟩:∃ y_:List Int,y_=(F ++ Q):=⟨_,rfl⟩
                    replace H:(some (some c6))=some r:=by first|(rw [V];with_reducible exact H)|(have L:=(Option.bind_some _ _).symm.trans H;rw [V];with_reducible exact L)|(have L:=(Option.bind_some _ _).symm.trans H;with_reducible exact L)|with_reducible exact H|(rw [V];exact H)|exact H
                    have b8:=Aside0.mk V
                    clear V
                    obtain rfl:=Option.some.inj H
                    go_wp2_with (first|((with_reducible refine gate_callee (f:=58) rfl ?_);refine goesL_ (some 41) rfl rfl Try.func58 (by kernel_rfl) rfl #[.int .i64 (wrap64 (D - (wrap64 (B * B)))),.int .i64 (wrap64 (I - 1)),.int .i64 B] rfl (by (try simp only [m0_,m1_,m2_]);first|done|rfl|(simp only [l0_,l1_];rfl)) ?_;(with_reducible refine (ih kj7 (by have:=Y.1;have:=a3.1;omega) (wrap64 (D - (wrap64 (B * B)))) (wrap64 (I - 1)) B (some Q) _ c1.1).mono ?_);rintro e d6 ⟨b5,rfl,c2,hb⟩;obtain ⟨Ad_,Ac_,ev_,a4⟩:=NilRow.open c2;clear c2;subst ev_;refine ⟨_,rfl,?_⟩;have O:=Aside0.mk (Kd.R_lower a4 (below_size (by repeat (first|(with_reducible first|exact C.1|apply below_alloc|apply pw_below_drewN|apply below_drew1)|exact C.1))));have G:=Aside0.mk (below_step (by repeat (first|(with_reducible first|exact C.1|apply below_alloc|apply pw_below_drewN|apply below_drew1)|exact C.1)) hb);clear C;have E:=O;have C:=G;clear O G;(try clear hb);(try clear hb2);(try clear hk);(try clear hi);(try clear a4))|((with_reducible refine gate_dst (N:=45) rfl ?_);refine Kd.R_lit (Kd.int .i64) _ 3 ?hg (N:=45) ?hd (xs:=([B]:List Int)) (inner:=[.int .i64 B]) (ok:=fun _=>True) (okp:=fun _=>True) ?hr ?hp (fun _ hk=>hk) trivial (Below.refl _ _) (Nat.le_refl _) (by simp) ?_;(case hd=>rfl);(case hg=>rfl);(case hr=>first|(go_simp;done)|(go_simp;rfl));(case hp=>exact (Reps.one (show Kd.M (Kd.int .i64) _ _ _ B [.int .i64 B] from rfl) (Reps.none _ _)));intro c7 d7 X hb hg_ T;clear hg_;have HNEW:=Aside0.mk T;clear T;(first|rw [← a9.1] at X|(simp only [Int.reduceToNat] at X;rw [← a9.1] at X));have O:=Aside0.mk (Kd.R_elder' (by (with_reducible repeat (first|apply Kd.R_alloc|apply Kd.R_drewN|apply Kd.R_drew));exact E.1) (Kd.R_base X) hb);have G:=Aside0.mk (Kd.R_lower (Kd.R_new' X (Kd.R_lt (by (with_reducible repeat (first|apply Kd.R_alloc|apply Kd.R_drewN|apply Kd.R_drew));exact E.1))) (below_size (by repeat (first|(with_reducible first|exact C.1|apply below_alloc|apply pw_below_drewN|apply below_drew1)|exact C.1))));have a6:=Aside0.mk (below_step (by repeat (first|(with_reducible first|exact C.1|apply below_alloc|apply pw_below_drewN|apply below_drew1)|exact C.1)) hb);clear E;clear C;have E:=O;have b0:=G;have C:=a6;clear O G a6;clear hb X)|((with_reducible refine gate_builtin (b:=.append) (xs:=#[.tmp 45,.tmp 46]) rfl ?_);at_builtin;refine Kd.R_append_rows (Kd.int .i64) (w0:=w) w.heap.size rfl (.tmp 45) (.tmp 46) 36 3 (.int .i64 0) 8 rfl Try.underlying36 info3 rfl (by decide) (by omega) c7 F Q _ _ _ (fun k_=>some k_ ≠ (.slice (some Ad_) Q.length Ac_:Value).ownBlock) (fun _=>False) rfl rfl ?aO ?aR (fun _ _ h=>h) (fun _ h=>h.elim) ?aF ?aB ?aS ?aL ?_;(case aR=>repeat (first|exact (Kd.R_reads' E.1).2.2|(with_reducible refine Kd.C_alloc ?_ _)|(with_reducible refine Kd.C_drewN ?_ _)|(with_reducible refine Kd.C_drew ?_)));(case aB=>exact (by repeat (first|(with_reducible first|exact C.1|apply below_alloc|apply pw_below_drewN|apply below_drew1)|exact C.1)));(case aF=>exact (fun k_ hk=>Kd.fresh' (Kd.R_lt (by (with_reducible repeat (first|apply Kd.R_alloc|apply Kd.R_drewN|apply Kd.R_drew));exact E.1)) k_ hk));(case aO=>exact (by (with_reducible repeat (first|apply Kd.R_alloc|apply Kd.R_drewN|apply Kd.R_drew));exact Kd.R_mono b0.1 (fun _ hk=>hk.2)));(case aS=>exact (below_size (by repeat (first|(with_reducible first|exact C.1|apply below_alloc|apply pw_below_drewN|apply below_drew1)|exact C.1))));(case aL=>have:=b7.1;omega);intro d5 d8 ho hb hg hat;have HAT:=Aside0.mk hat;rw [← b8.1] at ho;have O:=Aside0.mk (Kd.R_after (ok:=(fun _=>True)) (by (with_reducible repeat (first|apply Kd.R_alloc|apply Kd.R_drewN|apply Kd.R_drew));exact E.1) hg hat);have G:=Aside0.mk (hb);have a6:=Aside0.mk (ho);clear E;clear C;clear b0;have E:=O;have C:=G;have b9:=a6;clear O G a6;clear ho hb hg hat))
                    go_ret
                    exact ⟨_,by first|rfl|(simp [errW_none,errW_some] <;> rfl)|(simp [*,errW_none,errW_some] <;> rfl),⟨(HNEW.1.elim fun b_ h_=>HAT.1.elim (fun e_=>⟨b_,e_.trans h_.1⟩) (fun d0=>d0.elim fun d1 d2=>⟨d1,d2.1⟩)),(by (with_reducible repeat (first|apply Kd.R_alloc|apply Kd.R_drewN|apply Kd.R_drew));exact Kd.R_mono b9.1 (fun _ hk=>trivial))⟩,by repeat (first|(with_reducible first|exact C.1|apply below_alloc|apply pw_below_drewN|apply below_drew1)|exact C.1)⟩
                  · rw [if_neg c14] at H
                    exact absurd H (by simp)
                · rw [if_neg c13] at H
                  obtain e_:J=none:=by cases J with
                    | none=>rfl
                    | some z=>exact absurd rfl c13
                  clear c13
                  subst e_
                  have H':=Aside0.mk H
                  clear H
                  go_wp2_with (first|((with_reducible refine gate_callee (f:=58) rfl ?_);refine goesL_ (some 41) rfl rfl Try.func58 (by kernel_rfl) rfl #[.int .i64 (wrap64 (D - (wrap64 (B * B)))),.int .i64 (wrap64 (I - 1)),.int .i64 B] rfl (by (try simp only [m0_,m1_,m2_]);first|done|rfl|(simp only [l0_,l1_];rfl)) ?_;(with_reducible refine (ih kj7 (by have:=Y.1;have:=a3.1;omega) (wrap64 (D - (wrap64 (B * B)))) (wrap64 (I - 1)) B none _ c1.1).mono ?_);rintro e d9 ⟨b5,rfl,a4,hb⟩;(have ev_:b5=.slice none 0 0:=a4);clear a4;subst ev_;refine ⟨_,rfl,?_⟩;have G:=Aside0.mk (below_step (by repeat (first|(with_reducible first|exact C.1|apply below_alloc|apply pw_below_drewN|apply below_drew1)|exact C.1)) hb);clear C;have C:=G;clear G;(try clear hb);(try clear hb2);(try clear hk);(try clear hi);(try clear a4)))
                  go_roundg kj7
                  case measure=>have:=Y.1;have:=a3.1;omega
                  case rel=>exact ⟨(wrap64 (B - 1)),(by first|rfl|(simp;done)|(simp [*];done)),H',⟨by have:=Y.1;have:=a3.1;omega⟩,⟨by repeat (first|(with_reducible first|exact C.1|apply below_alloc|apply pw_below_drewN|apply below_drew1)|exact C.1)⟩⟩
            · replace a8:=Bool.eq_false_iff.mpr a8
              subst a8
              have H1:(some (none:Option (List Int)))=some r:=by rw [if_neg (show ¬ (false=true) by decide)] at H;exact H
              clear H
              have H:=H1
              clear H1
              obtain rfl:=Option.some.inj H
              go_wp2
              go_ret
              exact ⟨_,by first|rfl|(simp [errW_none,errW_some] <;> rfl)|(simp [*,errW_none,errW_some] <;> rfl),rfl,by repeat (first|(with_reducible first|exact C.1|apply below_alloc|apply pw_below_drewN|apply below_drew1)|exact C.1)⟩

def norm_squares.f (k:Nat) (a0 a1 a2:Int):Option (List Int):=if a1=0 then none else (sqN.f k a0 a1 a2).bind fun o=>some (o.getD [])
theorem norm_squares.mono:∀ a0 a1 a2 k,LeO (norm_squares.f k a0 a1 a2) (norm_squares.f (k + 1) a0 a1 a2):=by
  intro a0 a1 a2 k
  unfold norm_squares.f
  exact LeO.ite (LeO.none _) (LeO.bind (sqN.mono a0 a1 a2 k) (fun _=>LeO.refl _))
theorem norm_squares.calls (k:Nat) (a0:Int) (a1:Int) (a2:Int) (r:List Int) (w:World) (h:norm_squares.f k a0 a1 a2=some r) :
    Calls Try.prog 58 #[.int .i64 a0,.int .i64 a1,.int .i64 a2] w fun e w'=>∃ v0_:Value,e=.returned (v0_)∧Kd.R (Kd.int .i64) 3 w' w.heap.size (fun _=>True) v0_ r∧(r=[] → v0_=.slice none 0 0)∧Below w.heap.size w w':=by
  unfold norm_squares.f at h
  by_cases h0:a1=0
  · rw [if_pos h0] at h
    exact absurd h (by simp)
  · rw [if_neg h0] at h
    obtain ⟨o,ho,h⟩:=Option.bind_eq_some_iff.mp h
    obtain rfl:=Option.some.inj h
    refine (sqN.calls k a0 a1 a2 o w ho).mono ?_
    rintro e w' ⟨v,rfl,hn,hb⟩
    refine ⟨v,rfl,hn.row,?_,hb⟩
    intro e0
    cases o with
    | none=>exact hn
    | some l =>
      exfalso
      cases k with
      | zero=>exact absurd ho (by simp [sqN.f])
      | succ k =>
        simp only [sqN.f] at ho
        rw [if_neg h0] at ho
        exact (sqN.ne k).1 _ _ _ _ ho (by simpa using e0)

/-! ### norm_root: function 59 -/
def norm_root.l0:Nat → Int → Int → Option (Int)
  | 0,_,_=>none
  | k + 1,x0,x3=>if (wrap64 ((wrap64 (x3 + 1)) * (wrap64 (x3 + 1)))) ≤ x0 then (norm_root.l0 k x0 (wrap64 (x3 + 1))) else (some x3)
def norm_root.f (k:Nat) (a0:Int):Option (Int):=norm_root.l0 k a0 0
theorem norm_root.mono_l:∀ k,(∀ y0 y1,LeO (norm_root.l0 k y0 y1) (norm_root.l0 (k + 1) y0 y1))
  | 0=>fun _ _ r h=>by simp [norm_root.l0] at h
  | k + 1=>by
    have ih0:=norm_root.mono_l k
    · intro y0 y1
      unfold norm_root.l0
      with_reducible repeat' first|exact ih0 _ _|exact LeO.refl _|exact LeO.none _|refine LeO.ite ?_ ?_|refine LeO.bind ?_ (fun _=>?_)
theorem norm_root.mono:∀ a0 k,LeO (norm_root.f k a0) (norm_root.f (k + 1) a0):=by
  intro a0 k
  have ih0:=norm_root.mono_l k
  unfold norm_root.f
  with_reducible repeat' first|exact ih0 _ _|exact LeO.refl _|exact LeO.none _|refine LeO.ite ?_ ?_|refine LeO.bind ?_ (fun _=>?_)
set_option maxHeartbeats 8000000 in
set_option maxRecDepth 100000 in
theorem norm_root.calls (k:Nat) (C:Int) (r:Int) (w:World) (h:norm_root.f k C=some r) :
    Calls Try.prog 59 #[.int .i64 C] w fun e w'=>e=.returned (.int .i64 r)∧Drawn0 w w':=by
 have H:(norm_root.l0 k C 0)=some r:=h;clear h;have H':=mk0 H;clear H;go_enter Try.func59,Try.ntmps59;go_wp2
 go_loopg [3] k (fun kq E w'=>∃ (B:Int),E=.int .i64 B∧Aside0 (norm_root.l0 kq C B=some r)∧Aside0 (kq ≤ k)∧Drawn0 w w')
 case atStart=>exact ⟨(0),(by first|rfl|(simp;done)|(simp [*];done)),H',⟨Nat.le_refl _⟩,by repeat (first|exact Drawn0.refl _|apply Drawn0.step)⟩
 case round =>
  clear H';obtain ⟨B,rfl,HA,D,⟨F,rfl⟩⟩:=hrel;cases gk with
  | zero=>exact absurd HA.1 (by simp [norm_root.l0])
  | succ k1 =>
   have H:=HA.1;clear HA;simp only [norm_root.l0] at H
   by_cases c2:(wrap64 ((wrap64 (B + 1)) * (wrap64 (B + 1)))) ≤ C
   ·
    rw [if_pos c2] at H;have c2b0:decide ((wrap64 ((wrap64 (B + 1)) * (wrap64 (B + 1)))) ≤ C)=true:=decide_eq_true c2;clear c2;have H':=mk0 H;clear H;go_wp2;go_roundg k1
    case measure=>have:=D.1;omega
    case rel=>exact ⟨(wrap64 (B + 1)),(by first|rfl|(simp;done)|(simp [*];done)),H',⟨by have:=D.1;omega⟩,by repeat (first|exact Drawn0.refl _|apply Drawn0.step)⟩
   ·
    rw [if_neg c2] at H;have c2b0:decide ((wrap64 ((wrap64 (B + 1)) * (wrap64 (B + 1)))) ≤ C)=false:=decide_eq_false c2;clear c2;obtain rfl:=Option.some.inj H;go_wp2;go_ret;exact ⟨by first|rfl|(simp;done)|(simp [*];done),by repeat (first|exact Drawn0.refl _|apply Drawn0.step)⟩
/-! ### norm_Four: function 23 -/
def norm_Four.f (k:Nat) (a0:Int):Option (List Int × Int):=(norm_counted.f a0 0).bind fun t271=>(if t271=true then ((norm_root.f k a0).bind fun t272=>((norm_squares.f k a0 4 t272).bind fun t273=>(some (t273,0)))) else (some (([]:List Int),1)))
theorem norm_Four.mono:∀ a0 k,LeO (norm_Four.f k a0) (norm_Four.f (k + 1) a0):=by
  intro a0 k
  unfold norm_Four.f
  with_reducible repeat' first|exact norm_root.mono _ _|exact norm_squares.mono _ _ _ _|exact LeO.refl _|exact LeO.none _|refine LeO.ite ?_ ?_|refine LeO.bind ?_ (fun _=>?_)
set_option maxHeartbeats 8000000 in
set_option maxRecDepth 100000 in
theorem norm_Four.calls (k:Nat) (B:Int) (G:List Int) (I:Int) (w:World) (h:norm_Four.f k B=some (G,I)) :
    Calls Try.prog 23 #[.int .i64 B] w fun e w'=>∃ N:Value,e=.returned (.tuple #[N,.int .i64 I])∧Kd.R (Kd.int .i64) 3 w' w.heap.size (fun _=>True) N G∧Below w.heap.size w w':=by
 have E:=mk0 (Below.refl w.heap.size w);have H:((norm_counted.f B 0).bind fun F=>(if F=true then ((norm_root.f k B).bind fun C=>((norm_squares.f k B 4 C).bind fun D=>(some (D,0)))) else (some (([]:List Int),1))))=some (G,I):=h;clear h;replace H:=Option.bind_eq_some_iff.mp H;obtain ⟨F,O,H⟩:=H;(try dsimp only at H);have X:=mk0 O;clear O
 by_cases L:F=true
 ·
  subst L;have J:((norm_root.f k B).bind fun C=>((norm_squares.f k B 4 C).bind fun D=>(some (D,0))))=some (G,I):=by rw [if_pos rfl] at H;exact H
  clear H;have H:=J;clear J;replace H:=Option.bind_eq_some_iff.mp H;obtain ⟨C,Q,H⟩:=H;(try dsimp only at H);have Z:=mk0 Q;clear Q;replace H:=Option.bind_eq_some_iff.mp H;obtain ⟨D,T,H⟩:=H;(try dsimp only at H);have A5:=mk0 T;clear T;simp only [Option.some.injEq,Prod.mk.injEq] at H;obtain ⟨rfl,rfl⟩:=H;go_enter Try.func23,Try.ntmps23;go_wp2_with (first|((with_reducible refine gate_callee (f:=57) rfl ?_);refine goesL_ (some 5) rfl rfl Try.func57 (by kernel_rfl) rfl #[.int .i64 B,.int .i64 0] rfl (by (try simp only [m0_,m1_,m2_]);first|done|rfl|(simp only [l0_,l1_];rfl)) ?_;(with_reducible refine (norm_counted.calls B 0 true _ X.1).mono ?_);rintro e w' ⟨rfl,⟨nd,rfl⟩⟩;refine ⟨_,rfl,?_⟩)|((with_reducible refine gate_callee (f:=59) rfl ?_);refine goesL_ (some 9) rfl rfl Try.func59 (by kernel_rfl) rfl #[.int .i64 B] rfl (by (try simp only [m0_,m1_,m2_]);first|done|rfl|(simp only [l0_,l1_];rfl)) ?_;(with_reducible refine (norm_root.calls k B C _ Z.1).mono ?_);rintro e w' ⟨rfl,⟨nd,rfl⟩⟩;refine ⟨_,rfl,?_⟩)|((with_reducible refine gate_callee (f:=58) rfl ?_);refine goesL_ (some 10) rfl rfl Try.func58 (by kernel_rfl) rfl #[.int .i64 B,.int .i64 4,.int .i64 C] rfl (by (try simp only [m0_,m1_,m2_]);first|done|rfl|(simp only [l0_,l1_];rfl)) ?_;(with_reducible refine (norm_squares.calls k B 4 C D _ A5.1).mono ?_);rintro e w6 ⟨a2,rfl,U,Y,hb⟩;refine ⟨_,rfl,?_⟩;have M:=mk0 (Kd.R_lower U (below_size (by repeat (first|(with_reducible first|exact E.1|apply below_alloc|apply pw_below_drewN|apply below_drew1)|exact E.1))));have V:=mk0 (Y);replace E:=mk0 (below_step (by repeat (first|(with_reducible first|exact E.1|apply below_alloc|apply pw_below_drewN|apply below_drew1)|exact E.1)) hb);(try clear hb);(try clear U)));go_ret2;exact ⟨_,by first|rfl|(simp [errW_none,errW_some] <;> rfl)|(simp [*,errW_none,errW_some] <;> rfl),by (with_reducible repeat (first|apply Kd.R_alloc|apply Kd.R_drewN|apply Kd.R_drew));exact M.1,by repeat (first|(with_reducible first|exact E.1|apply below_alloc|apply pw_below_drewN|apply below_drew1)|exact E.1)⟩
 ·
  replace L:=Bool.eq_false_iff.mpr L;subst L;have J:(some (([]:List Int),1))=some (G,I):=by rw [if_neg (show ¬ (false=true) by decide)] at H;exact H
  clear H;have H:=J;clear J;simp only [Option.some.injEq,Prod.mk.injEq] at H;obtain ⟨rfl,rfl⟩:=H;go_enter Try.func23,Try.ntmps23;go_wp2_with (first|((with_reducible refine gate_callee (f:=57) rfl ?_);refine goesL_ (some 5) rfl rfl Try.func57 (by kernel_rfl) rfl #[.int .i64 B,.int .i64 0] rfl (by (try simp only [m0_,m1_,m2_]);first|done|rfl|(simp only [l0_,l1_];rfl)) ?_;(with_reducible refine (norm_counted.calls B 0 false _ X.1).mono ?_);rintro e w' ⟨rfl,⟨nd,rfl⟩⟩;refine ⟨_,rfl,?_⟩));go_ret2;exact ⟨_,by first|rfl|(simp [errW_none,errW_some] <;> rfl)|(simp [*,errW_none,errW_some] <;> rfl),by first|exact Kd.R_nil _ _ _ _ _|exact Kd.N_nil _ _ _ _ _|exact Kd.V_nil _ _ _ _ _|exact Kd.Q_nil _ _ _ _ _|exact Kd.S_nil _ _ _ _ _,by repeat (first|(with_reducible first|exact E.1|apply below_alloc|apply pw_below_drewN|apply below_drew1)|exact E.1)⟩
/-! ### norm_Three: function 24 -/
def norm_Three.f (k:Nat) (a0:Int):Option (List Int × Int):=(norm_counted.f a0 0).bind fun t276=>(if t276=true then ((norm_root.f k a0).bind fun t277=>((norm_squares.f k a0 3 t277).bind fun t278=>(if 0 < (t278.length:Int) then (some (t278,0)) else (some (([]:List Int),5))))) else (some (([]:List Int),1)))
theorem norm_Three.mono:∀ a0 k,LeO (norm_Three.f k a0) (norm_Three.f (k + 1) a0):=by
  intro a0 k
  unfold norm_Three.f
  with_reducible repeat' first|exact norm_root.mono _ _|exact norm_squares.mono _ _ _ _|exact LeO.refl _|exact LeO.none _|refine LeO.ite ?_ ?_|refine LeO.bind ?_ (fun _=>?_)
set_option maxHeartbeats 8000000 in
set_option maxRecDepth 100000 in
theorem norm_Three.calls (k:Nat) (C:Int) (O:List Int) (Q:Int) (w:World) (h:norm_Three.f k C=some (O,Q)) :
    Calls Try.prog 24 #[.int .i64 C] w fun e w'=>∃ X:Value,e=.returned (.tuple #[X,.int .i64 Q])∧Kd.R (Kd.int .i64) 3 w' w.heap.size (fun _=>True) X O∧Below w.heap.size w w':=by
 have E:=mk0 (Below.refl w.heap.size w);have H:((norm_counted.f C 0).bind fun L=>(if L=true then ((norm_root.f k C).bind fun D=>((norm_squares.f k C 3 D).bind fun B=>(if 0 < (B.length:Int) then (some (B,0)) else (some (([]:List Int),5))))) else (some (([]:List Int),1))))=some (O,Q):=h;clear h;replace H:=Option.bind_eq_some_iff.mp H;obtain ⟨L,Y,H⟩:=H;(try dsimp only at H);have A2:=mk0 Y;clear Y
 by_cases V:L=true
 ·
  subst V;have T:((norm_root.f k C).bind fun D=>((norm_squares.f k C 3 D).bind fun B=>(if 0 < (B.length:Int) then (some (B,0)) else (some (([]:List Int),5)))))=some (O,Q):=by rw [if_pos rfl] at H;exact H
  clear H;have H:=T;clear T;replace H:=Option.bind_eq_some_iff.mp H;obtain ⟨D,Z,H⟩:=H;(try dsimp only at H);have A4:=mk0 Z;clear Z;replace H:=Option.bind_eq_some_iff.mp H;obtain ⟨B,a1,H⟩:=H;(try dsimp only at H);have A5:=mk0 a1;clear a1
  by_cases c6:0 < (B.length:Int)
  ·
   rw [if_pos c6] at H;have c6b0:decide (0 < (B.length:Int))=true:=decide_eq_true c6;have c6b1:decide (0 < B.length)=true:=decide_eq_true (by omega);clear c6;simp only [Option.some.injEq,Prod.mk.injEq] at H;obtain ⟨rfl,rfl⟩:=H;go_enter Try.func24,Try.ntmps24;go_wp2_with (first|((with_reducible refine gate_callee (f:=57) rfl ?_);refine goesL_ (some 6) rfl rfl Try.func57 (by kernel_rfl) rfl #[.int .i64 C,.int .i64 0] rfl (by (try simp only [m0_,m1_,m2_]);first|done|rfl|(simp only [l0_,l1_];rfl)) ?_;(with_reducible refine (norm_counted.calls C 0 true _ A2.1).mono ?_);rintro e w' ⟨rfl,⟨nd,rfl⟩⟩;refine ⟨_,rfl,?_⟩)|((with_reducible refine gate_callee (f:=59) rfl ?_);refine goesL_ (some 10) rfl rfl Try.func59 (by kernel_rfl) rfl #[.int .i64 C] rfl (by (try simp only [m0_,m1_,m2_]);first|done|rfl|(simp only [l0_,l1_];rfl)) ?_;(with_reducible refine (norm_root.calls k C D _ A4.1).mono ?_);rintro e w' ⟨rfl,⟨nd,rfl⟩⟩;refine ⟨_,rfl,?_⟩)|((with_reducible refine gate_callee (f:=58) rfl ?_);refine goesL_ (some 11) rfl rfl Try.func58 (by kernel_rfl) rfl #[.int .i64 C,.int .i64 3,.int .i64 D] rfl (by (try simp only [m0_,m1_,m2_]);first|done|rfl|(simp only [l0_,l1_];rfl)) ?_;(with_reducible refine (norm_squares.calls k C 3 D B _ A5.1).mono ?_);rintro e w7 ⟨a3,rfl,J,U,hb⟩;refine ⟨_,rfl,?_⟩;have F:=mk0 (Kd.R_lower J (below_size (by repeat (first|(with_reducible first|exact E.1|apply below_alloc|apply pw_below_drewN|apply below_drew1)|exact E.1))));have G:=mk0 (U);replace E:=mk0 (below_step (by repeat (first|(with_reducible first|exact E.1|apply below_alloc|apply pw_below_drewN|apply below_drew1)|exact E.1)) hb);(try clear hb);(try clear J);obtain ⟨b0,b1,a7⟩:=Kd.R_slice F.1;subst a7;have M:0 ≤ (0:Int):=(by omega);have N:0 < (B.length:Int):=of_decide_eq_true (by first|(with_reducible assumption)|assumption);obtain ⟨a8,a4,I⟩:=Kd.at_int (Kd.R_reads' F.1).2.2 0 M N;cases a4;have a9:(0 < B.length)=True:=eq_true (by omega);(try rw [show ((0:Int)).toNat=0 from rfl] at I);(try rw [Addr.add_zero'] at I);replace M:=eq_true M;replace N:=eq_true N));go_ret2;exact ⟨_,by first|rfl|(simp [errW_none,errW_some] <;> rfl)|(simp [*,errW_none,errW_some] <;> rfl),by (with_reducible repeat (first|apply Kd.R_alloc|apply Kd.R_drewN|apply Kd.R_drew));exact F.1,by repeat (first|(with_reducible first|exact E.1|apply below_alloc|apply pw_below_drewN|apply below_drew1)|exact E.1)⟩
  ·
   rw [if_neg c6] at H;have c6b0:decide (0 < (B.length:Int))=false:=decide_eq_false c6;have c6b1:decide (0 < B.length)=false:=decide_eq_false (by omega);clear c6;simp only [Option.some.injEq,Prod.mk.injEq] at H;obtain ⟨rfl,rfl⟩:=H;go_enter Try.func24,Try.ntmps24;go_wp2_with (first|((with_reducible refine gate_callee (f:=57) rfl ?_);refine goesL_ (some 6) rfl rfl Try.func57 (by kernel_rfl) rfl #[.int .i64 C,.int .i64 0] rfl (by (try simp only [m0_,m1_,m2_]);first|done|rfl|(simp only [l0_,l1_];rfl)) ?_;(with_reducible refine (norm_counted.calls C 0 true _ A2.1).mono ?_);rintro e w' ⟨rfl,⟨nd,rfl⟩⟩;refine ⟨_,rfl,?_⟩)|((with_reducible refine gate_callee (f:=59) rfl ?_);refine goesL_ (some 10) rfl rfl Try.func59 (by kernel_rfl) rfl #[.int .i64 C] rfl (by (try simp only [m0_,m1_,m2_]);first|done|rfl|(simp only [l0_,l1_];rfl)) ?_;(with_reducible refine (norm_root.calls k C D _ A4.1).mono ?_);rintro e w' ⟨rfl,⟨nd,rfl⟩⟩;refine ⟨_,rfl,?_⟩)|((with_reducible refine gate_callee (f:=58) rfl ?_);refine goesL_ (some 11) rfl rfl Try.func58 (by kernel_rfl) rfl #[.int .i64 C,.int .i64 3,.int .i64 D] rfl (by (try simp only [m0_,m1_,m2_]);first|done|rfl|(simp only [l0_,l1_];rfl)) ?_;(with_reducible refine (norm_squares.calls k C 3 D B _ A5.1).mono ?_);rintro e w9 ⟨a3,rfl,J,U,hb⟩;refine ⟨_,rfl,?_⟩;have F:=mk0 (Kd.R_lower J (below_size (by repeat (first|(with_reducible first|exact E.1|apply below_alloc|apply pw_below_drewN|apply below_drew1)|exact E.1))));have G:=mk0 (U);replace E:=mk0 (below_step (by repeat (first|(with_reducible first|exact E.1|apply below_alloc|apply pw_below_drewN|apply below_drew1)|exact E.1)) hb);(try clear hb);(try clear J);have hz_:=G.1 (List.length_eq_zero_iff.mp (Nat.eq_zero_of_not_pos (of_decide_eq_false (show decide (0 < B.length)=false by assumption))));subst hz_));go_ret2;exact ⟨_,by first|rfl|(simp [errW_none,errW_some] <;> rfl)|(simp [*,errW_none,errW_some] <;> rfl),by first|exact Kd.R_nil _ _ _ _ _|exact Kd.N_nil _ _ _ _ _|exact Kd.V_nil _ _ _ _ _|exact Kd.Q_nil _ _ _ _ _|exact Kd.S_nil _ _ _ _ _,by repeat (first|(with_reducible first|exact E.1|apply below_alloc|apply pw_below_drewN|apply below_drew1)|exact E.1)⟩
 ·
  replace V:=Bool.eq_false_iff.mpr V;subst V;have T:(some (([]:List Int),1))=some (O,Q):=by rw [if_neg (show ¬ (false=true) by decide)] at H;exact H
  clear H;have H:=T;clear T;simp only [Option.some.injEq,Prod.mk.injEq] at H;obtain ⟨rfl,rfl⟩:=H;go_enter Try.func24,Try.ntmps24;go_wp2_with (first|((with_reducible refine gate_callee (f:=57) rfl ?_);refine goesL_ (some 6) rfl rfl Try.func57 (by kernel_rfl) rfl #[.int .i64 C,.int .i64 0] rfl (by (try simp only [m0_,m1_,m2_]);first|done|rfl|(simp only [l0_,l1_];rfl)) ?_;(with_reducible refine (norm_counted.calls C 0 false _ A2.1).mono ?_);rintro e w' ⟨rfl,⟨nd,rfl⟩⟩;refine ⟨_,rfl,?_⟩));go_ret2;exact ⟨_,by first|rfl|(simp [errW_none,errW_some] <;> rfl)|(simp [*,errW_none,errW_some] <;> rfl),by first|exact Kd.R_nil _ _ _ _ _|exact Kd.N_nil _ _ _ _ _|exact Kd.V_nil _ _ _ _ _|exact Kd.Q_nil _ _ _ _ _|exact Kd.S_nil _ _ _ _ _,by repeat (first|(with_reducible first|exact E.1|apply below_alloc|apply pw_below_drewN|apply below_drew1)|exact E.1)⟩
/-! ### bellpullref01_Before: function 60 -/
mutual
def bellpullref01_Before.l0:Nat → List Int → List Int → Int → Option (Bool)
  | 0,_,_,_=>none
  | k + 1,x0,x1,x5=>if x5 < (x0.length:Int) then (bellpullref01_Before.j1 k x0 x1 x5 (decide (x5 < (x1.length:Int)))) else (bellpullref01_Before.j1 k x0 x1 x5 false)
def bellpullref01_Before.j1:Nat → List Int → List Int → Int → Bool → Option (Bool)
  | 0,_,_,_,_=>none
  | k + 1,x0,x1,x5,x15=>if x15=true then (if 0 ≤ x5 then (if x5 < (x0.length:Int) then (if x5 < (x1.length:Int) then (if (rd x0 x5)=(rd x1 x5) then (bellpullref01_Before.l0 k x0 x1 (wrap64 (x5 + 1))) else (some (decide ((rd x0 x5) < (rd x1 x5))))) else (none)) else (none)) else (none)) else (some (decide ((x0.length:Int) < (x1.length:Int))))
end
def bellpullref01_Before.f (k:Nat) (l0:List Int) (l1:List Int):Option (Bool):=bellpullref01_Before.l0 k l0 l1 0
theorem bellpullref01_Before.mono_l:∀ k,(∀ y0 y1 y2,LeO (bellpullref01_Before.l0 k y0 y1 y2) (bellpullref01_Before.l0 (k + 1) y0 y1 y2))∧(∀ y0 y1 y2 y3,LeO (bellpullref01_Before.j1 k y0 y1 y2 y3) (bellpullref01_Before.j1 (k + 1) y0 y1 y2 y3))
  | 0=>⟨fun _ _ _ r h=>by simp [bellpullref01_Before.l0] at h,fun _ _ _ _ r h=>by simp [bellpullref01_Before.j1] at h⟩
  | k + 1=>by
    obtain ⟨ih0,ih1⟩:=bellpullref01_Before.mono_l k
    refine ⟨?_,?_⟩
    · intro y0 y1 y2
      unfold bellpullref01_Before.l0
      with_reducible repeat' first|exact ih0 _ _ _|exact ih1 _ _ _ _|exact LeO.refl _|exact LeO.none _|refine LeO.ite ?_ ?_|refine LeO.bind ?_ (fun _=>?_)
    · intro y0 y1 y2 y3
      unfold bellpullref01_Before.j1
      with_reducible repeat' first|exact ih0 _ _ _|exact ih1 _ _ _ _|exact LeO.refl _|exact LeO.none _|refine LeO.ite ?_ ?_|refine LeO.bind ?_ (fun _=>?_)
theorem bellpullref01_Before.mono:∀ a0 a1 k,LeO (bellpullref01_Before.f k a0 a1) (bellpullref01_Before.f (k + 1) a0 a1):=by
  intro a0 a1 k
  obtain ⟨ih0,ih1⟩:=bellpullref01_Before.mono_l k
  unfold bellpullref01_Before.f
  with_reducible repeat' first|exact ih0 _ _ _|exact ih1 _ _ _ _|exact LeO.refl _|exact LeO.none _|refine LeO.ite ?_ ?_|refine LeO.bind ?_ (fun _=>?_)
set_option maxHeartbeats 8000000 in
set_option maxRecDepth 100000 in
theorem bellpullref01_Before.calls (k:Nat) (A0:Option Addr) (c0:Nat) (D:List Int) (A1:Option Addr) (c1:Nat) (E:List Int) (r:Bool) (w:World) (a8:Kd.C (Kd.int .i64) w A0 D.length D) (a9:D.length ≤ c0) (b0:Kd.C (Kd.int .i64) w A1 E.length E) (b1:E.length ≤ c1) (h:bellpullref01_Before.f k D E=some r) :
    Calls Try.prog 60 #[.slice A0 D.length c0,.slice A1 E.length c1] w fun e w'=>e=.returned (.bool r)∧Drawn0 w w':=by
 have a0:=mk0 a8;have d0:=mk0 a9;clear a8 a9;have a1:=mk0 b0;have d1:=mk0 b1;clear b0 b1;have H:(bellpullref01_Before.l0 k D E 0)=some r:=h;clear h;have H':=mk0 H;clear H;go_enter Try.func60,Try.ntmps60;go_wp2;repeat (go_quiet (fail);try go_wp2)
 go_loopg [5] k (fun kq v5 w'=>∃ (B:Int),v5=.int .i64 B∧Aside0 (bellpullref01_Before.l0 kq D E B=some r)∧Aside0 (kq ≤ k)∧Drawn0 w w')
 case atStart=>exact ⟨(0),(by first|rfl|(simp;done)|(simp [*];done)),H',⟨Nat.le_refl _⟩,by repeat (first|exact Drawn0.refl _|apply Drawn0.step)⟩
 case round =>
  clear H';try clear c1
  try clear p2
  obtain ⟨B,rfl,HA,U,⟨m1,rfl⟩⟩:=hrel;cases gk with
  | zero=>exact absurd HA.1 (by simp [bellpullref01_Before.l0])
  | succ k1 =>
   have H:=HA.1;clear HA;simp only [bellpullref01_Before.l0] at H;have a2:=mk0 H;clear H;go_upto_region 2 with (fail);repeat (go_quiet (fail);go_upto_region 2 with (fail))
   go_cut [15] (fun c2 wc=>∃ (kq:Nat) (L:Bool),c2=.bool L∧Aside0 (bellpullref01_Before.j1 kq D E B L=some r)∧Aside0 (kq ≤ k1)∧Drawn0 w wc)
   case first =>
    have H:=a2.1;clear a2
    by_cases c4:B < (D.length:Int)
    ·
     rw [if_pos c4] at H;have c4b0:decide (B < (D.length:Int))=true:=decide_eq_true c4;clear c4;(first|rw [c4b0]|(simp only [i64_w,i32_w];rw [c4b0])|skip);have H':=mk0 H;clear H;go_wp2;repeat (go_quiet (fail);try go_wp2)
     go_meet
     case rel=>exact ⟨_,(decide (B < (E.length:Int))),(by first|rfl|(simp;done)|(simp [*];done)),H',⟨by have:=U.1;first|omega|exact Nat.le_refl _⟩,by repeat (first|exact Drawn0.refl _|apply Drawn0.step)⟩
    ·
     rw [if_neg c4] at H;have c4b0:decide (B < (D.length:Int))=false:=decide_eq_false c4;clear c4;(first|rw [c4b0]|(simp only [i64_w,i32_w];rw [c4b0])|skip);have H':=mk0 H;clear H;go_wp2;repeat (go_quiet (fail);try go_wp2)
     go_meet
     case rel=>exact ⟨_,(false),(by first|rfl|(simp;done)|(simp [*];done)),H',⟨by have:=U.1;first|omega|exact Nat.le_refl _⟩,by repeat (first|exact Drawn0.refl _|apply Drawn0.step)⟩
   case rest =>
    clear a2;try clear c1
    try clear p2
    try clear c4
    try clear c4b0
    try clear p2
    obtain ⟨kq,L,rfl,HA,b2,⟨d2,rfl⟩⟩:=hcut;cases kq with
    | zero=>exact absurd HA.1 (by simp [bellpullref01_Before.j1])
    | succ kj2 =>
     have H:=HA.1;clear HA;simp only [bellpullref01_Before.j1] at H
     by_cases c5:L=true
     ·
      subst c5;have H1:(if 0 ≤ B then (if B < (D.length:Int) then (if B < (E.length:Int) then (if (rd D B)=(rd E B) then (bellpullref01_Before.l0 kj2 D E (wrap64 (B + 1))) else (some (decide ((rd D B) < (rd E B))))) else (none)) else (none)) else (none))=some r:=by rw [if_pos rfl] at H;exact H
      clear H;have H:=H1;clear H1
      by_cases c6:0 ≤ B
      ·
       rw [if_pos c6] at H;have c6b0:decide (0 ≤ B)=true:=decide_eq_true c6;clear c6
       by_cases c7:B < (D.length:Int)
       ·
        rw [if_pos c7] at H;have c7b0:decide (B < (D.length:Int))=true:=decide_eq_true c7;clear c7
        by_cases c8:B < (E.length:Int)
        ·
         rw [if_pos c8] at H;have c8b0:decide (B < (E.length:Int))=true:=decide_eq_true c8;clear c8
         by_cases c9:(rd D B)=(rd E B)
         ·
          rw [if_pos c9] at H;have c9b0:((rd D B) == (rd E B))=true:=beq_iff_eq.mpr c9;have c9b1:((rd D B) != (rd E B))=false:=bne_eq_false_iff_eq.mpr c9;clear c9;have H':=mk0 H;clear H;have F:0 ≤ (B:Int):=of_decide_eq_true (by first|(with_reducible assumption)|assumption);have G:B < (D.length:Int):=of_decide_eq_true (by first|(with_reducible assumption)|assumption);obtain ⟨V,M,Y⟩:=Kd.at_int a0.1 B F G;cases M;replace F:=eq_true F;replace G:=eq_true G;have I:0 ≤ (B:Int):=of_decide_eq_true (by first|(with_reducible assumption)|assumption);have J:B < (E.length:Int):=of_decide_eq_true (by first|(with_reducible assumption)|assumption);obtain ⟨X,N,Z⟩:=Kd.at_int a1.1 B I J;cases N;replace I:=eq_true I;replace J:=eq_true J;go_wp2;repeat (go_quiet (fail);try go_wp2)
          go_roundg kj2
          case measure=>have:=U.1;have:=b2.1;omega
          case rel=>exact ⟨(wrap64 (B + 1)),(by first|rfl|(simp;done)|(simp [*];done)),H',⟨by have:=U.1;have:=b2.1;omega⟩,by repeat (first|exact Drawn0.refl _|apply Drawn0.step)⟩
         ·
          rw [if_neg c9] at H;have c9b0:((rd D B) == (rd E B))=false:=beq_eq_false_iff_ne.mpr c9;have c9b1:((rd D B) != (rd E B))=true:=bne_iff_ne.mpr c9;obtain rfl:=Option.some.inj H;have F:0 ≤ (B:Int):=of_decide_eq_true (by first|(with_reducible assumption)|assumption);have G:B < (D.length:Int):=of_decide_eq_true (by first|(with_reducible assumption)|assumption);obtain ⟨V,M,Y⟩:=Kd.at_int a0.1 B F G;cases M;replace F:=eq_true F;replace G:=eq_true G;have I:0 ≤ (B:Int):=of_decide_eq_true (by first|(with_reducible assumption)|assumption);have J:B < (E.length:Int):=of_decide_eq_true (by first|(with_reducible assumption)|assumption);obtain ⟨X,N,Z⟩:=Kd.at_int a1.1 B I J;cases N;replace I:=eq_true I;replace J:=eq_true J;have O:0 ≤ (B:Int):=of_decide_eq_true (by first|(with_reducible assumption)|assumption);have Q:B < (D.length:Int):=of_decide_eq_true (by first|(with_reducible assumption)|assumption);obtain ⟨a6,b3,b5⟩:=Kd.at_int a0.1 B O Q;obtain rfl:V=a6:=(by injection b3)
          replace O:=eq_true O;replace Q:=eq_true Q;have R:0 ≤ (B:Int):=of_decide_eq_true (by first|(with_reducible assumption)|assumption);have T:B < (E.length:Int):=of_decide_eq_true (by first|(with_reducible assumption)|assumption);obtain ⟨a7,b4,b6⟩:=Kd.at_int a1.1 B R T;obtain rfl:X=a7:=(by injection b4)
          replace R:=eq_true R;replace T:=eq_true T;go_wp2;repeat (go_quiet (fail);try go_wp2)
          go_ret;exact ⟨by first|rfl|(simp;done)|(simp [*];done),by repeat (first|exact Drawn0.refl _|apply Drawn0.step)⟩
        ·
         rw [if_neg c8] at H;exact absurd H (by simp)
       ·
        rw [if_neg c7] at H;exact absurd H (by simp)
      ·
       rw [if_neg c6] at H;exact absurd H (by simp)
     ·
      replace c5:=Bool.eq_false_iff.mpr c5;subst c5;have H1:(some (decide ((D.length:Int) < (E.length:Int))))=some r:=by rw [if_neg (show ¬ (false=true) by decide)] at H;exact H
      clear H;have H:=H1;clear H1;obtain rfl:=Option.some.inj H;go_wp2;repeat (go_quiet (fail);try go_wp2)
      go_ret;exact ⟨by first|rfl|(simp;done)|(simp [*];done),by repeat (first|exact Drawn0.refl _|apply Drawn0.step)⟩
/-! ### bellpullref01_Same: function 26 -/
def bellpullref01_Same.f (k:Nat) (l0:List Int) (l1:List Int):Option (Bool):=(bellpullref01_Before.f k l0 l1).bind fun t286=>(if t286=true then (some false) else ((bellpullref01_Before.f k l1 l0).bind fun t287=>(some (!t287))))
theorem bellpullref01_Same.mono:∀ a0 a1 k,LeO (bellpullref01_Same.f k a0 a1) (bellpullref01_Same.f (k + 1) a0 a1):=by
  intro a0 a1 k
  unfold bellpullref01_Same.f
  with_reducible repeat' first|exact bellpullref01_Before.mono _ _ _|exact LeO.refl _|exact LeO.none _|refine LeO.ite ?_ ?_|refine LeO.bind ?_ (fun _=>?_)
set_option maxHeartbeats 8000000 in
set_option maxRecDepth 100000 in
theorem bellpullref01_Same.calls (k:Nat) (N:Option Addr) (O:Nat) (B:List Int) (Q:Option Addr) (R:Nat) (D:List Int) (r:Bool) (w:World) (U:Kd.C (Kd.int .i64) w N B.length B) (V:B.length ≤ O) (X:Kd.C (Kd.int .i64) w Q D.length D) (Y:D.length ≤ R) (h:bellpullref01_Same.f k B D=some r) :
    Calls Try.prog 26 #[.slice N B.length O,.slice Q D.length R] w fun e w'=>e=.returned (.bool r)∧Drawn0 w w':=by
 have G:=mk0 U;have I:=mk0 V;clear U V;have J:=mk0 X;have L:=mk0 Y;clear X Y;have H:((bellpullref01_Before.f k B D).bind fun F=>(if F=true then (some false) else ((bellpullref01_Before.f k D B).bind fun E=>(some (!E)))))=some r:=h;clear h;replace H:=Option.bind_eq_some_iff.mp H;obtain ⟨F,Z,H⟩:=H;(try dsimp only at H);have A3:=mk0 Z;clear Z
 by_cases T:F=true
 ·
  subst T;have M:(some false)=some r:=by rw [if_pos rfl] at H;exact H
  clear H;have H:=M;clear M;obtain rfl:=Option.some.inj H;go_enter Try.func26,Try.ntmps26;go_wp2_with (first|((with_reducible refine gate_callee (f:=60) rfl ?_);refine goesL_ (some 7) rfl rfl Try.func60 (by kernel_rfl) rfl #[.slice N B.length O,.slice Q D.length R] rfl (by (try simp only [m0_,m1_,m2_]);first|done|rfl|(simp only [l0_,l1_];rfl)) ?_;(with_reducible refine (bellpullref01_Before.calls k _ _ B _ _ D true _ ?side1 ?side2 ?side3 ?side4 A3.1).mono ?_);(case side1=>repeat (first|exact G.1|(with_reducible refine Kd.C_alloc ?_ _)|(with_reducible refine Kd.C_drewN ?_ _)|(with_reducible refine Kd.C_drew ?_)));(case side2=>exact I.1);(case side3=>repeat (first|exact J.1|(with_reducible refine Kd.C_alloc ?_ _)|(with_reducible refine Kd.C_drewN ?_ _)|(with_reducible refine Kd.C_drew ?_)));(case side4=>exact L.1);rintro e w' ⟨rfl,⟨nd,rfl⟩⟩;refine ⟨_,rfl,?_⟩));go_ret;exact ⟨by first|rfl|(simp;done)|(simp [*];done),by repeat (first|exact Drawn0.refl _|apply Drawn0.step)⟩
 ·
  replace T:=Bool.eq_false_iff.mpr T;subst T;have M:((bellpullref01_Before.f k D B).bind fun E=>(some (!E)))=some r:=by rw [if_neg (show ¬ (false=true) by decide)] at H;exact H
  clear H;have H:=M;clear M;replace H:=Option.bind_eq_some_iff.mp H;obtain ⟨E,a0,H⟩:=H;(try dsimp only at H);have A5:=mk0 a0;clear a0;obtain rfl:=Option.some.inj H;go_enter Try.func26,Try.ntmps26;go_wp2_with (first|((with_reducible refine gate_callee (f:=60) rfl ?_);refine goesL_ (some 7) rfl rfl Try.func60 (by kernel_rfl) rfl #[.slice N B.length O,.slice Q D.length R] rfl (by (try simp only [m0_,m1_,m2_]);first|done|rfl|(simp only [l0_,l1_];rfl)) ?_;(with_reducible refine (bellpullref01_Before.calls k _ _ B _ _ D false _ ?side1 ?side2 ?side3 ?side4 A3.1).mono ?_);(case side1=>repeat (first|exact G.1|(with_reducible refine Kd.C_alloc ?_ _)|(with_reducible refine Kd.C_drewN ?_ _)|(with_reducible refine Kd.C_drew ?_)));(case side2=>exact I.1);(case side3=>repeat (first|exact J.1|(with_reducible refine Kd.C_alloc ?_ _)|(with_reducible refine Kd.C_drewN ?_ _)|(with_reducible refine Kd.C_drew ?_)));(case side4=>exact L.1);rintro e w' ⟨rfl,⟨nd,rfl⟩⟩;refine ⟨_,rfl,?_⟩)|(go_at_call 60;(with_reducible refine (bellpullref01_Before.calls k _ _ D _ _ B E _ ?side1 ?side2 ?side3 ?side4 A5.1).mono ?_);(case side1=>repeat (first|exact J.1|(with_reducible refine Kd.C_alloc ?_ _)|(with_reducible refine Kd.C_drewN ?_ _)|(with_reducible refine Kd.C_drew ?_)));(case side2=>exact L.1);(case side3=>repeat (first|exact G.1|(with_reducible refine Kd.C_alloc ?_ _)|(with_reducible refine Kd.C_drewN ?_ _)|(with_reducible refine Kd.C_drew ?_)));(case side4=>exact I.1);rintro e w' ⟨rfl,⟨nd,rfl⟩⟩));go_ret;exact ⟨by first|rfl|(simp;done)|(simp [*];done),by repeat (first|exact Drawn0.refl _|apply Drawn0.step)⟩
/-! ### slices_IndexFunc_int_int: function 80 -/
/-- A bool function value: called at x, in every later world, it tells p x and lays at most new memory. -/
def Tells (g:Nat) (lb:Array Value) (p:Int → Bool) (w:World):Prop :=
  ∀ (W:World) (x:Int),Below w.heap.size w W → Calls Try.prog g (#[.int .i64 x] ++ lb) W fun e w'=>e=.returned (.bool (p x))∧Below W.heap.size W w'

def idxF (p:Int → Bool) (l:List Int):Int:=match l.findIdx? p with|some i=>(i:Int)|none=>-1
theorem idxF_some (p:Int → Bool) (l:List Int) (k:Nat) (hk:k < l.length) (h:p (rd l (k:Int))=true) (hb:∀ j,j < k → p (rd l (j:Int))=false):idxF p l=(k:Int):=by
  have:l.findIdx? p=some k:=by
    rw [List.findIdx?_eq_some_iff_getElem]
    refine ⟨hk,?_,fun j hj=>?_⟩
    · simpa [rd,List.getD_eq_getElem?_getD,List.getElem?_eq_getElem hk] using h
    · have hjl:j < l.length:=by omega
      have:=hb j hj
      simpa [rd,List.getD_eq_getElem?_getD,List.getElem?_eq_getElem hjl] using this
  simp [idxF,this]
theorem idxF_none (p:Int → Bool) (l:List Int) (hb:∀ j,j < l.length → p (rd l (j:Int))=false):idxF p l=-1:=by
  have:l.findIdx? p=none:=by
    rw [List.findIdx?_eq_none_iff]
    intro x hx
    obtain ⟨j,hj,rfl⟩:=List.getElem_of_mem hx
    have:=hb j hj
    simpa [rd,List.getD_eq_getElem?_getD,List.getElem?_eq_getElem hj] using this
  simp [idxF,this]
theorem idxF_some' (p:Int → Bool) (l:List Int) (i:Int) (h0:0 ≤ i) (h1:i < (l.length:Int)) (h:p (rd l i)=true) (hb:∀ j,j < i.toNat → p (rd l (j:Int))=false):idxF p l=i:=by
  obtain ⟨k,rfl⟩:=Int.eq_ofNat_of_zero_le h0
  exact idxF_some p l k (by omega) h (by simpa using hb)
theorem idxF_any (p:Int → Bool) (l:List Int):l.any p=decide (0 ≤ idxF p l):=by
  unfold idxF
  rcases h:l.findIdx? p with _|i
  · rw [List.findIdx?_eq_none_iff] at h
    rw [show l.any p=false from by rw [List.any_eq_false];exact fun x hx=>by simpa using h x hx]
    rfl
  · rw [List.findIdx?_eq_some_iff_getElem] at h
    obtain ⟨hi,hp,_⟩:=h
    rw [show l.any p=true from List.any_eq_true.mpr ⟨_,List.getElem_mem hi,hp⟩]
    simp
/-- What a round knows. -/
def Sofar (p:Int → Bool) (l:List Int) (k:Nat):Prop:=∀ j,j < k → p (rd l (j:Int))=false
theorem Sofar.zero (p:Int → Bool) (l:List Int):Sofar p l 0:=fun j hj=>absurd hj (by omega)
theorem Sofar.succ {p:Int → Bool} {l:List Int} {k:Nat} (h:Sofar p l k) (hk:p (rd l (k:Int))=false):Sofar p l (k + 1):=fun j hj=>by
  by_cases e:j=k
  · subst e;exact hk
  · exact h j (by omega)

set_option maxHeartbeats 1000000 in
set_option maxRecDepth 100000 in
theorem IndexFunc_int.calls (g:Nat) (lb:Array Value) (p:Int → Bool) (L:Option Addr) (M:Nat) (B:List Int) (w:World) (F:Kd.C (Kd.int .i64) w L B.length B) (N:B.length ≤ M)
    (eg:∀ args w,(callFunc g args).run Try.prog w=.ok (.enter g args) w) (hp:Tells g lb p w) :
    Calls Try.prog 80 #[.slice L B.length M,.func (.func g) #[] lb] w fun e w'=>e=.returned (.int .i64 (idxF p B))∧Below w.heap.size w w':=by
  have O:=Aside0.mk F
  have hlen:B.length ≤ 9223372036854775807:=F.2.1
  clear F N
  have HP:=Aside0.mk hp
  clear hp
  go_enter Try.func80,Try.ntmps80
  go_wp2
  go_loopw [8] (fun J w'=>∃ i:Int,J=.int .i64 i∧Aside0 (0 ≤ i∧i ≤ B.length)∧Aside0 (Sofar p B i.toNat)∧Aside0 (Below w.heap.size w w')) (fun J _=>B.length - (intOf J).toNat)
  case atStart=>exact ⟨0,rfl,⟨by omega,by omega⟩,⟨Sofar.zero _ _⟩,⟨Below.refl _ _⟩⟩
  case round =>
    obtain ⟨i,rfl,HI,HS,D⟩:=hrel
    by_cases hlt:i < (B.length:Int)
    · have I:0 ≤ i:=HI.1.1
      obtain ⟨ad,e,hx⟩:=Kd.at_int O.1 i I hlt
      cases e
      replace hx:=(D.1.cell (World.block_lt_of_cell? w _ hx)).trans hx
      have hd:decide (i < (B.length:Int))=true:=decide_eq_true hlt
      replace I:=eq_true I
      replace hlt:=eq_true hlt
      have hw:wrap64 (i + 1)=i + 1:=by have:=HI.1;have h:=of_eq_true hlt;unfold wrap64;omega
      have HW:=Aside0.mk hw
      clear hw
      by_cases hb:p (rd B i)=true
      · have HF:=Aside0.mk (idxF_some' p B i (of_eq_true I) (of_eq_true hlt) hb HS.1)
        have HT:=Aside0.mk hb
        clear hb
        go_wp2_with (fail)
        refine (HP.1 _ _ D.1).mono ?_
        rintro e Q ⟨rfl,E⟩
        rw [HT.1]
        have G:=Aside0.mk E
        clear E
        go_wp2
        go_ret
        exact ⟨by first|(rw [HF.1];done)|(rw [HF.1];rfl),D.1.trans (G.1.mono D.1.size)⟩
      · have HT:=Aside0.mk (Bool.eq_false_iff.mpr hb)
        clear hb
        go_wp2_with (fail)
        refine (HP.1 _ _ D.1).mono ?_
        rintro e Q ⟨rfl,E⟩
        rw [HT.1]
        have G:=Aside0.mk E
        clear E
        go_wp2
        go_roundw
        case rel=>exact ⟨_,rfl,⟨by rw [HW.1];have:=HI.1;have:=of_eq_true hlt;omega⟩,⟨by rw [HW.1];have:=HI.1;rw [show (i + 1).toNat=i.toNat + 1 by omega];exact HS.1.succ (by rw [Int.toNat_of_nonneg this.1];exact HT.1)⟩,⟨D.1.trans (G.1.mono D.1.size)⟩⟩
        case measure=>simp only [intOf];have:=HW.1;have:=HI.1;have:=of_eq_true hlt;omega
    · have hd:decide (i < (B.length:Int))=false:=decide_eq_false hlt
      have HF:=Aside0.mk (idxF_none p B (fun j hj=>HS.1 j (by have:=HI.1;omega)))
      clear hlt
      go_wp2
      go_ret
      exact ⟨by first|(rw [HF.1];done)|(rw [HF.1];rfl),D.1⟩


end Go.Proofs.Ytgfnmimfoicmmaa.PM
