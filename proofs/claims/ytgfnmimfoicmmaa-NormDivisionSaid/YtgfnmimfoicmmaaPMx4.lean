-- Written by pr2.py, a program of this session's, for this claim (through the kit's print).
import Derived.Test.YtgfnmimfoicmmaaPMx0
import Derived.Test.YtgfnmimfoicmmaaPMx3
namespace Go.Proofs.Ytgfnmimfoicmmaa.PM
open Go.Proofs.MyWords Go.RowKit Go.Proofs.YtgfnmimfoicmmaaW.PrintWords Go.Proofs.YtgfnmimfoicmmaaW.PrintLast Go.Proofs.YtgfnmimfoicmmaaW.PrintMore
attribute [local go_sem] max2_int min2_int max_two min_two max_three min_three max_four min_four   -- for this text's walks alone
set_option linter.unusedVariables false
set_option linter.unusedSimpArgs false

attribute [local go_sem] idx67_0 idx67_1 idx67_2 idx67_3
attribute [local go_sem] eqGuard_slices eqlnil36 neqnil36
/-! ### norm_divide: function 49 -/
mutual
def norm_divide.l0:Nat → Int → Int → Int → Int → Int → Int → Int → Int → Int → Int → Int → Int → Int → Int → Int → Int → Int → Int → Int → Option (Int × Int × Int × Int × Int × Int × Int × Int)
  | 0,_,_,_,_,_,_,_,_,_,_,_,_,_,_,_,_,_,_,_=>none
  | k + 1,x6,x9,x22,x148000,x148001,x148002,x148003,x149000,x149001,x149002,x149003,x161000,x161001,x161002,x161003,x162000,x162001,x162002,x162003=>if x22 < 2 then (norm_divide.l1 k x6 x9 x22 0 x22 0 x161003 x161002 x161001 x161000 x148000 x148001 x148002 x148003 x149000 x149001 x149002 x149003 x161000 x161001 x161002 x161003 x162000 x162001 x162002 x162003 0 0 0 0) else ((norm_product.f k (([(⟨x162000,x162001,x162002,x162003⟩:S67),(⟨x149000,x149001,x149002,x149003⟩:S67)]:List (S67)))).bind fun bt165=>((norm_quat_minus.f k x148000 x148001 x148002 x148003 bt165.1 bt165.2.1 bt165.2.2.1 bt165.2.2.2).bind fun bt169=>(some (x162000,x162001,x162002,x162003,bt169.1,bt169.2.1,bt169.2.2.1,bt169.2.2.2))))
def norm_divide.l1:Nat → Int → Int → Int → Int → Int → Int → Int → Int → Int → Int → Int → Int → Int → Int → Int → Int → Int → Int → Int → Int → Int → Int → Int → Int → Int → Int → Int → Int → Int → Int → Option (Int × Int × Int × Int × Int × Int × Int × Int)
  | 0,_,_,_,_,_,_,_,_,_,_,_,_,_,_,_,_,_,_,_,_,_,_,_,_,_,_,_,_,_,_=>none
  | k + 1,x6,x9,x10,x12,x22,x26,x968,x969,x970,x971,x148000,x148001,x148002,x148003,x149000,x149001,x149002,x149003,x161000,x161001,x161002,x161003,x162000,x162001,x162002,x162003,x174000,x174001,x174002,x174003=>if x26 < 4 then (if x26=0 then ((norm_nearest.f x971 (wrap64 (2 * x6)) x10).bind fun t174=>(norm_divide.l1 k x6 x9 x10 (wrap64 (x12 + (wrap64 ((wrap64 (x971 - (wrap64 ((wrap64 (t174 * 2)) * x6)))) * (wrap64 (x971 - (wrap64 ((wrap64 (t174 * 2)) * x6)))))))) x22 1 x968 x969 x970 x971 x148000 x148001 x148002 x148003 x149000 x149001 x149002 x149003 x161000 x161001 x161002 x161003 x162000 x162001 x162002 x162003 t174 x174001 x174002 x174003)) else (if x26=1 then ((norm_nearest.f x970 (wrap64 (2 * x6)) x10).bind fun t175=>(norm_divide.l1 k x6 x9 x10 (wrap64 (x12 + (wrap64 ((wrap64 (x970 - (wrap64 ((wrap64 (t175 * 2)) * x6)))) * (wrap64 (x970 - (wrap64 ((wrap64 (t175 * 2)) * x6)))))))) x22 2 x968 x969 x970 x971 x148000 x148001 x148002 x148003 x149000 x149001 x149002 x149003 x161000 x161001 x161002 x161003 x162000 x162001 x162002 x162003 x174000 t175 x174002 x174003)) else (if x26=2 then ((norm_nearest.f x969 (wrap64 (2 * x6)) x10).bind fun t176=>(norm_divide.l1 k x6 x9 x10 (wrap64 (x12 + (wrap64 ((wrap64 (x969 - (wrap64 ((wrap64 (t176 * 2)) * x6)))) * (wrap64 (x969 - (wrap64 ((wrap64 (t176 * 2)) * x6)))))))) x22 3 x968 x969 x970 x971 x148000 x148001 x148002 x148003 x149000 x149001 x149002 x149003 x161000 x161001 x161002 x161003 x162000 x162001 x162002 x162003 x174000 x174001 t176 x174003)) else (if x26=3 then ((norm_nearest.f x968 (wrap64 (2 * x6)) x10).bind fun t177=>(norm_divide.l1 k x6 x9 x10 (wrap64 (x12 + (wrap64 ((wrap64 (x968 - (wrap64 ((wrap64 (t177 * 2)) * x6)))) * (wrap64 (x968 - (wrap64 ((wrap64 (t177 * 2)) * x6)))))))) x22 4 x968 x969 x970 x971 x148000 x148001 x148002 x148003 x149000 x149001 x149002 x149003 x161000 x161001 x161002 x161003 x162000 x162001 x162002 x162003 x174000 x174001 x174002 t177)) else (none))))) else (if x9 < 0 then (norm_divide.l0 k x6 x12 (wrap64 (x22 + 1)) x148000 x148001 x148002 x148003 x149000 x149001 x149002 x149003 x161000 x161001 x161002 x161003 x174000 x174001 x174002 x174003) else (if x12 < x9 then (norm_divide.l0 k x6 x12 (wrap64 (x22 + 1)) x148000 x148001 x148002 x148003 x149000 x149001 x149002 x149003 x161000 x161001 x161002 x161003 x174000 x174001 x174002 x174003) else (if x12=x9 then ((slices_Compare_int_int.f k [x174000,x174001,x174002,x174003] [x162000,x162001,x162002,x162003]).bind fun t178=>(if t178 < 0 then (norm_divide.l0 k x6 x12 (wrap64 (x22 + 1)) x148000 x148001 x148002 x148003 x149000 x149001 x149002 x149003 x161000 x161001 x161002 x161003 x174000 x174001 x174002 x174003) else (norm_divide.l0 k x6 x9 (wrap64 (x22 + 1)) x148000 x148001 x148002 x148003 x149000 x149001 x149002 x149003 x161000 x161001 x161002 x161003 x162000 x162001 x162002 x162003))) else (norm_divide.l0 k x6 x9 (wrap64 (x22 + 1)) x148000 x148001 x148002 x148003 x149000 x149001 x149002 x149003 x161000 x161001 x161002 x161003 x162000 x162001 x162002 x162003))))
end
def norm_divide.f (k:Nat) (a0_0:Int) (a0_1:Int) (a0_2:Int) (a0_3:Int) (a1_0:Int) (a1_1:Int) (a1_2:Int) (a1_3:Int):Option (Int × Int × Int × Int × Int × Int × Int × Int):=(norm_quat_norm.f a1_0 a1_1 a1_2 a1_3).bind fun t151=>((norm_quat_conj.f a1_0 a1_1 a1_2 a1_3).bind fun bt152=>((norm_quat_double.f a0_0 a0_1 a0_2 a0_3 bt152.1 bt152.2.1 bt152.2.2.1 bt152.2.2.2).bind fun bt156=>(norm_divide.l0 k t151 (-1) 0 a0_0 a0_1 a0_2 a0_3 a1_0 a1_1 a1_2 a1_3 bt156.1 bt156.2.1 bt156.2.2.1 bt156.2.2.2 0 0 0 0)))
theorem norm_divide.mono_l:∀ k,(∀ M N O Q R T U V X Y B C D E F G I J L,LeO (norm_divide.l0 k M N O Q R T U V X Y B C D E F G I J L) (norm_divide.l0 (k + 1) M N O Q R T U V X Y B C D E F G I J L))∧(∀ M N O Q R T U V X Y B C D E F G I J L Z a0 a1 a2 a3 a4 a5 a6 a7 a8 a9,LeO (norm_divide.l1 k M N O Q R T U V X Y B C D E F G I J L Z a0 a1 a2 a3 a4 a5 a6 a7 a8 a9) (norm_divide.l1 (k + 1) M N O Q R T U V X Y B C D E F G I J L Z a0 a1 a2 a3 a4 a5 a6 a7 a8 a9))
  | 0=>⟨fun _ _ _ _ _ _ _ _ _ _ _ _ _ _ _ _ _ _ _ r h=>by simp [norm_divide.l0] at h,fun _ _ _ _ _ _ _ _ _ _ _ _ _ _ _ _ _ _ _ _ _ _ _ _ _ _ _ _ _ _ r h=>by simp [norm_divide.l1] at h⟩
  | k + 1=>by
    obtain ⟨b0,b1⟩:=norm_divide.mono_l k
    refine ⟨?_,?_⟩
    · intro M N O Q R T U V X Y B C D E F G I J L
      unfold norm_divide.l0
      with_reducible repeat' first|exact b0 _ _ _ _ _ _ _ _ _ _ _ _ _ _ _ _ _ _ _|exact b1 _ _ _ _ _ _ _ _ _ _ _ _ _ _ _ _ _ _ _ _ _ _ _ _ _ _ _ _ _ _|exact norm_product.mono _ _|exact norm_quat_minus.mono _ _ _ _ _ _ _ _ _|exact slices_Compare_int_int.mono _ _ _|exact LeO.refl _|exact LeO.none _|refine LeO.ite ?_ ?_|refine LeO.bind ?_ (fun _=>?_)
    · intro M N O Q R T U V X Y B C D E F G I J L Z a0 a1 a2 a3 a4 a5 a6 a7 a8 a9
      unfold norm_divide.l1
      with_reducible repeat' first|exact b0 _ _ _ _ _ _ _ _ _ _ _ _ _ _ _ _ _ _ _|exact b1 _ _ _ _ _ _ _ _ _ _ _ _ _ _ _ _ _ _ _ _ _ _ _ _ _ _ _ _ _ _|exact norm_product.mono _ _|exact norm_quat_minus.mono _ _ _ _ _ _ _ _ _|exact slices_Compare_int_int.mono _ _ _|exact LeO.refl _|exact LeO.none _|refine LeO.ite ?_ ?_|refine LeO.bind ?_ (fun _=>?_)
theorem norm_divide.mono:∀ a0 a1 a2 a3 a4 a5 a6 a7 k,LeO (norm_divide.f k a0 a1 a2 a3 a4 a5 a6 a7) (norm_divide.f (k + 1) a0 a1 a2 a3 a4 a5 a6 a7):=by
  intro a0 a1 a2 a3 a4 a5 a6 a7 k
  obtain ⟨ih0,ih1⟩:=norm_divide.mono_l k
  unfold norm_divide.f
  with_reducible repeat' first|exact ih0 _ _ _ _ _ _ _ _ _ _ _ _ _ _ _ _ _ _ _|exact ih1 _ _ _ _ _ _ _ _ _ _ _ _ _ _ _ _ _ _ _ _ _ _ _ _ _ _ _ _ _ _|exact norm_product.mono _ _|exact norm_quat_minus.mono _ _ _ _ _ _ _ _ _|exact slices_Compare_int_int.mono _ _ _|exact LeO.refl _|exact LeO.none _|refine LeO.ite ?_ ?_|refine LeO.bind ?_ (fun _=>?_)
def norm_divide.T17:Bool × List (List Nat × List Nat):=(true,[([],[]),([0],[0]),([1],[1]),([2],[2]),([2],[2]),([3,4,2],[2,3,4]),([2,5],[2,5]),([6,2],[6]),([7],[7]),([7],[7]),([8,9,7],[7,8,9]),([10,7,7],[7,10]),([11],[11]),([11],[11]),([12,13,11,11],[11,12,13]),([14,11],[11,14]),([11,15,7],[7,11,15]),([7,16],[7,16])])
def norm_divide.B17:List Nat:=[0,1,3,7,7,31,63,127,255,255,1023,2047,4095,4095,16383,32767,65535,131071]
theorem norm_divide.tab17:rtab .any (opsOf Try.f49 17)=norm_divide.T17:=by kernel_rfl
theorem norm_divide.bits17:waitsOk norm_divide.T17.2 norm_divide.B17=true:=by kernel_rfl
def norm_divide.T20:Bool × List (List Nat × List Nat):=(true,[([],[]),([],[]),([],[]),([],[]),([2,3],[2,3]),([4],[4]),([1,5,5],[1,5]),([0,6,0],[0]),([6,7,0,1,2,3,4,5,6,7],[6])])
def norm_divide.B20:List Nat:=[0,0,0,0,12,28,62,127,255]
theorem norm_divide.tab20:rtab .any (opsOf Try.f49 20)=norm_divide.T20:=by kernel_rfl
theorem norm_divide.bits20:waitsOk norm_divide.T20.2 norm_divide.B20=true:=by kernel_rfl
set_option maxHeartbeats 8000000 in
set_option maxRecDepth 100000 in
theorem norm_divide.calls (k:Nat) (d1:Int) (d2:Int) (d3:Int) (d4:Int) (b8:Int) (b9:Int) (c0:Int) (c5:Int) (r1:Int) (r2:Int) (r3:Int) (r4:Int) (r5:Int) (r6:Int) (r7:Int) (r8:Int) (w:World) (h:norm_divide.f k d1 d2 d3 d4 b8 b9 c0 c5=some (r1,r2,r3,r4,r5,r6,r7,r8)) :
    Calls Try.prog 49 #[.agg #[.int .i64 d1,.int .i64 d2,.int .i64 d3,.int .i64 d4],.agg #[.int .i64 b8,.int .i64 b9,.int .i64 c0,.int .i64 c5]] w fun e w'=>e=.returned (.tuple #[.agg #[.int .i64 r1,.int .i64 r2,.int .i64 r3,.int .i64 r4],.agg #[.int .i64 r5,.int .i64 r6,.int .i64 r7,.int .i64 r8]])∧Below w.heap.size w w':=by
 have Ed:=Try.underlying67;have HB:=mk0 (Below.refl w.heap.size w);have H:((norm_quat_norm.f b8 b9 c0 c5).bind fun c9=>((norm_quat_conj.f b8 b9 c0 c5).bind fun l4=>((norm_quat_double.f d1 d2 d3 d4 l4.1 l4.2.1 l4.2.2.1 l4.2.2.2).bind fun l5=>(norm_divide.l0 k c9 (-1) 0 d1 d2 d3 d4 b8 b9 c0 c5 l5.1 l5.2.1 l5.2.2.1 l5.2.2.2 0 0 0 0))))=some (r1,r2,r3,r4,r5,r6,r7,r8):=h;clear h;replace H:=Option.bind_eq_some_iff.mp H;obtain ⟨c9,u3,H⟩:=H;(try dsimp only at H);have A3:=mk0 u3;clear u3;replace H:=Option.bind_eq_some_iff.mp H;obtain ⟨⟨i0,i1,i2,i3⟩,u4,H⟩:=H;(try dsimp only at H);have A4:=mk0 u4;clear u4;replace H:=Option.bind_eq_some_iff.mp H;obtain ⟨⟨b5,c8,d0,d8⟩,u5,H⟩:=H;(try dsimp only at H);have A5:=mk0 u5;clear u5;have H':=mk0 H;clear H;go_enter Try.func49,Try.ntmps49;try go_wp2_with (first|((with_reducible refine gate_dst (N:=2) rfl ?_);refine box_event ?hg (N:=2) ?hd (cs:=#[.int .i64 d1,.int .i64 d2,.int .i64 d3,.int .i64 d4]) (t:=67) ?hr ?_;(case hd=>rfl);(case hg=>rfl);(case hr=>first|(go_simp;done)|(go_simp;rfl));intro d5 hg w6 e3 hb;have C:=mk0 (e3);have t5:=szw hg HB;have e9:=t5;replace HB:=bst HB hb;clear hb e3 hg)|((with_reducible refine gate_dst (N:=3) rfl ?_);refine box_event ?hg (N:=3) ?hd (cs:=#[.int .i64 b8,.int .i64 b9,.int .i64 c0,.int .i64 c5]) (t:=67) ?hr ?_;(case hd=>rfl);(case hg=>rfl);(case hr=>first|(go_simp;done)|(go_simp;rfl));intro d6 hg w7 e3 hb;have B:=mk0 (e3);have t6:=szw hg HB;have f0:=t6;have n8:=nlt hg C;have n9:=ngt hg C;replace C:=bkb C hb;replace HB:=bst HB hb;clear hb e3 hg)|((with_reducible refine gate_dst (N:=4) rfl ?_);refine box_event ?hg (N:=4) ?hd (cs:=#[.int .i64 0,.int .i64 0,.int .i64 0,.int .i64 0]) (t:=67) ?hr ?_;(case hd=>rfl);(case hg=>rfl);(case hr=>first|(go_simp;done)|(go_simp;rfl));intro X hg w8 e3 hb;have F:=mk0 (e3);have t7:=szw hg HB;have f1:=t7;have a9:=nlt hg C;have h6:=ngt hg C;have a7:=nlt hg B;have h4:=ngt hg B;replace C:=bkb C hb;replace B:=bkb B hb;replace HB:=bst HB hb;clear hb e3 hg)|((with_reducible refine gate_dst (N:=5) rfl ?_);refine box_event ?hg (N:=5) ?hd (cs:=#[.int .i64 0,.int .i64 0,.int .i64 0,.int .i64 0]) (t:=67) ?hr ?_;(case hd=>rfl);(case hg=>rfl);(case hr=>first|(go_simp;done)|(go_simp;rfl));intro Y hg w9 e3 hb;have G:=mk0 (e3);have t8:=szw hg HB;have f2:=t8;have b0:=nlt hg C;have h7:=ngt hg C;have a8:=nlt hg B;have h5:=ngt hg B;have f6:=nlt hg F;have f7:=ngt hg F;replace C:=bkb C hb;replace B:=bkb B hb;replace F:=bkb F hb;replace HB:=bst HB hb;clear hb e3 hg;have Y4:=n9.1;have Y5:=n8.1;have Y6:=a7.1;have Y7:=h4.1;have Y8:=a8.1;have Y9:=h5.1;have m9:=q0_ B;have n0:=q1_ B;have n1:=q2_ B;have n2:=q3_ B;have n3:=blk_frozen B.1 0;have n4:=blk_frozen B.1 1;have n5:=blk_frozen B.1 2;have n6:=blk_frozen B.1 3)|((with_reducible refine gate_callee (f:=66) rfl ?_);refine goesL_ (some 17) rfl rfl Try.func66 (by kernel_rfl) rfl #[.agg #[.int .i64 b8,.int .i64 b9,.int .i64 c0,.int .i64 c5]] rfl (by (try simp only [m0_,m1_,m2_]);first|done|rfl|(simp only [l0_,l1_];rfl)) ?_;(with_reducible refine (norm_quat_norm.calls b8 b9 c0 c5 c9 _ A3.1).mono ?_);rintro e T1 ⟨rfl,hb⟩;refine ⟨_,rfl,?_⟩;replace C:=bkb C hb;replace B:=bkb B hb;replace F:=bkb F hb;replace G:=bkb G hb;replace HB:=bst HB hb;(try clear hb)))
 replace C:=bdr C;replace B:=bdr B;replace F:=bdr F;replace G:=bdr G;replace HB:=hdr HB;refine start_ (n:=6) (S:=fun w'=>w'.cell? ⟨d5,0,none⟩=some (.int .i64 d1)∧w'.cell? ⟨d5,1,none⟩=some (.int .i64 d2)∧w'.cell? ⟨d5,2,none⟩=some (.int .i64 d3)∧w'.cell? ⟨d5,3,none⟩=some (.int .i64 d4)∧w'.cell? ⟨d6,0,none⟩=some (.int .i64 b8)∧w'.cell? ⟨d6,1,none⟩=some (.int .i64 b9)∧w'.cell? ⟨d6,2,none⟩=some (.int .i64 c0)∧w'.cell? ⟨d6,3,none⟩=some (.int .i64 c5)) (ds:=[]) #[n_,n_,n_,n_,n_,n_] (by kernel_rfl) rfl rfl ⟨q0_ C,q1_ C,q2_ C,q3_ C,q0_ B,q1_ B,q2_ B,q3_ B⟩ (fun R=>?_);generalize T1.drew=Es at C B F G HB R ⊢;refine take_ (i:=0) (N:=some 18) (v:=?_) (a':=?_) #[y_,n_,n_,n_,n_,n_] rfl rfl (by kernel_rfl) (fun _ _ _ h=>h) (Or.inl ⟨by rfl,?_⟩) R ?_ ?_;rotate_left
 ·
  rintro w' ⟨s0,s1,s2,s3,s4,s5,s6,s7⟩;go_simp;with_reducible rfl
 rotate_left
 ·
  simp only [Act.put,s0_,s1_,s2_,i64_w,i32_w];rfl
 refine take_ (i:=1) (N:=some 19) (v:=?_) (a':=?_) #[y_,y_,n_,n_,n_,n_] rfl rfl (by kernel_rfl) (fun _ _ _ h=>h) (Or.inl ⟨by rfl,?_⟩) R ?_ ?_;rotate_left
 ·
  rintro w' ⟨s0,s1,s2,s3,s4,s5,s6,s7⟩;go_simp;with_reducible rfl
 rotate_left
 ·
  simp only [Act.put,s0_,s1_,s2_,i64_w,i32_w];rfl
 refine join_ (σ:=Nat) 1 #[y_,y_,y_,y_,y_,n_] (fun s_=>[(20,.agg #[.int .i64 i0,.int .i64 i1,.int .i64 i2,.int .i64 i3]),(21,.agg #[.int .i64 b5,.int .i64 c8,.int .i64 d0,.int .i64 d8]),(7,.pointer (some ⟨s_,0,none⟩))]) (fun s_ w'=>(w'.cell? ⟨d5,0,none⟩=some (.int .i64 d1)∧w'.cell? ⟨d5,1,none⟩=some (.int .i64 d2)∧w'.cell? ⟨d5,2,none⟩=some (.int .i64 d3)∧w'.cell? ⟨d5,3,none⟩=some (.int .i64 d4)∧w'.cell? ⟨d6,0,none⟩=some (.int .i64 b8)∧w'.cell? ⟨d6,1,none⟩=some (.int .i64 b9)∧w'.cell? ⟨d6,2,none⟩=some (.int .i64 c0)∧w'.cell? ⟨d6,3,none⟩=some (.int .i64 c5))∧(Q4_ w' d5 d1 d2 d3 d4 67)∧(Q4_ w' d6 b8 b9 c0 c5 67)∧(Q4_ w' X 0 0 0 0 67)∧(Q4_ w' Y 0 0 0 0 67)∧(Q4_ w' s_ 0 0 0 0 67)∧(w.heap.size ≤ s_)∧(w.heap.size ≤ s_)∧(d5 ≠ s_)∧(s_ ≠ d5)∧(d6 ≠ s_)∧(s_ ≠ d6)∧(X ≠ s_)∧(s_ ≠ X)∧(Y ≠ s_)∧(s_ ≠ Y)∧(Below w.heap.size w w')) ?_ ?_;rotate_left
 ·
  intro hCont;refine two_ (i:=2) (j:=4) (Ni:=some 20) (Nj:=some 7) #[y_,y_,y_,n_,n_,n_] #[y_,y_,n_,n_,y_,n_] rfl rfl rfl rfl (by kernel_rfl) (by decide) (by decide) (fun K hK=>?_) (fun K hK=>?_)
  ·
   skip
   refine goes_ Try.func65 (by kernel_rfl) rfl #[.agg #[.int .i64 b8,.int .i64 b9,.int .i64 c0,.int .i64 c5]] (by rfl) rfl rfl (by (try simp only [m0_,m1_,m2_]);first|done|rfl|(simp only [l0_,l1_];rfl)) ?_;with_reducible refine (norm_quat_conj.calls b8 b9 c0 c5 i0 i1 i2 i3 _ A4.1).mono ?_
   rintro e T2 ⟨rfl,hb⟩;refine ⟨_,rfl,?_⟩;replace C:=bkb C hb;replace B:=bkb B hb;replace F:=bkb F hb;replace G:=bkb G hb;replace HB:=bst HB hb;(try clear hb);refine hK.out _ _ ⟨q0_ C,q1_ C,q2_ C,q3_ C,q0_ B,q1_ B,q2_ B,q3_ B⟩ (fun R=>?_);clear hK K;refine norm_ (a':=?_) ?_ ?_;rotate_left
   ·
    show Act.put _ (some 20) _=_;simp only [Act.put,s0_,s1_,s2_,i64_w,i32_w];rfl
   refine two_ (i:=3) (j:=4) (Ni:=some 21) (Nj:=some 7) #[y_,y_,y_,y_,n_,n_] #[y_,y_,y_,n_,y_,n_] rfl rfl rfl rfl (by kernel_rfl) (by decide) (by decide) (fun K hK=>?_) (fun K hK=>?_)
   ·
    skip
    refine goes_ Try.func71 (by kernel_rfl) rfl #[.agg #[.int .i64 d1,.int .i64 d2,.int .i64 d3,.int .i64 d4],.agg #[.int .i64 i0,.int .i64 i1,.int .i64 i2,.int .i64 i3]] (by rfl) rfl rfl (by (try simp only [m0_,m1_,m2_]);first|done|rfl|(simp only [l0_,l1_];rfl)) ?_;with_reducible refine (norm_quat_double.calls d1 d2 d3 d4 i0 i1 i2 i3 b5 c8 d0 d8 _ A5.1).mono ?_
    rintro e u6 ⟨rfl,hb⟩;refine ⟨_,rfl,?_⟩;replace C:=bkb C hb;replace B:=bkb B hb;replace F:=bkb F hb;replace G:=bkb G hb;replace HB:=bst HB hb;(try clear hb);refine hK.out _ _ ⟨q0_ C,q1_ C,q2_ C,q3_ C,q0_ B,q1_ B,q2_ B,q3_ B⟩ (fun R=>?_);clear hK K;refine norm_ (a':=?_) ?_ ?_;rotate_left
    ·
     show Act.put _ (some 21) _=_;simp only [Act.put,s0_,s1_,s2_,i64_w,i32_w];rfl
    refine one_ (i:=4) (N:=some 7) #[y_,y_,y_,y_,y_,n_] rfl rfl (by kernel_rfl) (by decide) (fun K hK=>?_);refine box_step ?hg (N:=7) ?hd (cs:=#[.int .i64 0,.int .i64 0,.int .i64 0,.int .i64 0]) (t:=67) ?hr ?_;(case hd=>rfl);(case hg=>rfl);(case hr=>first|(go_simp;done)|(go_simp;rfl));intro a3 hg u7 e3 hb;have I:=mk0 (e3);have h8:=szw hg HB;have d7:=szw hg HB;have a0:=nlt hg C;have d9:=ngt hg C;have a1:=nlt hg B;have e0:=ngt hg B;have b1:=nlt hg F;have b6:=ngt hg F;have b2:=nlt hg G;have b7:=ngt hg G;replace C:=bkb C hb;replace B:=bkb B hb;replace F:=bkb F hb;replace G:=bkb G hb;replace HB:=bst HB hb;clear hb e3 hg;refine hK.out _ _ ⟨q0_ C,q1_ C,q2_ C,q3_ C,q0_ B,q1_ B,q2_ B,q3_ B⟩ (fun R=>?_);clear hK K;refine norm_ (a':=?_) ?_ ?_;rotate_left
    ·
     show Act.put _ (some 7) _=_;simp only [Act.put,s0_,s1_,s2_,i64_w,i32_w];rfl
    exact norm_ (by simp only [putAll,Act.put,s0_,s1_,s2_]) (hCont (a3) _ ⟨R,C.1,B.1,F.1,G.1,I.1,h8.1,d7.1,a0.1,d9.1,a1.1,e0.1,b1.1,b6.1,b2.1,b7.1,HB.1⟩)
   ·
    skip
    refine box_step ?hg (N:=7) ?hd (cs:=#[.int .i64 0,.int .i64 0,.int .i64 0,.int .i64 0]) (t:=67) ?hr ?_;(case hd=>rfl);(case hg=>rfl);(case hr=>first|(go_simp;done)|(go_simp;rfl));intro a3 hg u6 e3 hb;have I:=mk0 (e3);have h8:=szw hg HB;have d7:=szw hg HB;have a0:=nlt hg C;have d9:=ngt hg C;have a1:=nlt hg B;have e0:=ngt hg B;have b1:=nlt hg F;have b6:=ngt hg F;have b2:=nlt hg G;have b7:=ngt hg G;replace C:=bkb C hb;replace B:=bkb B hb;replace F:=bkb F hb;replace G:=bkb G hb;replace HB:=bst HB hb;clear hb e3 hg;refine hK.out _ _ ⟨q0_ C,q1_ C,q2_ C,q3_ C,q0_ B,q1_ B,q2_ B,q3_ B⟩ (fun R=>?_);clear hK K;refine norm_ (a':=?_) ?_ ?_;rotate_left
    ·
     show Act.put _ (some 7) _=_;simp only [Act.put,s0_,s1_,s2_,i64_w,i32_w];rfl
    refine one_ (i:=3) (N:=some 21) #[y_,y_,y_,y_,y_,n_] rfl rfl (by kernel_rfl) (by decide) (fun K hK=>?_);refine goes_ Try.func71 (by kernel_rfl) rfl #[.agg #[.int .i64 d1,.int .i64 d2,.int .i64 d3,.int .i64 d4],.agg #[.int .i64 i0,.int .i64 i1,.int .i64 i2,.int .i64 i3]] (by rfl) rfl rfl (by (try simp only [m0_,m1_,m2_]);first|done|rfl|(simp only [l0_,l1_];rfl)) ?_;with_reducible refine (norm_quat_double.calls d1 d2 d3 d4 i0 i1 i2 i3 b5 c8 d0 d8 _ A5.1).mono ?_
    rintro e u7 ⟨rfl,hb⟩;refine ⟨_,rfl,?_⟩;replace C:=bkb C hb;replace B:=bkb B hb;replace F:=bkb F hb;replace G:=bkb G hb;replace I:=bkb I hb;replace HB:=bst HB hb;(try clear hb);refine hK.out _ _ ⟨q0_ C,q1_ C,q2_ C,q3_ C,q0_ B,q1_ B,q2_ B,q3_ B⟩ (fun R=>?_);clear hK K;refine norm_ (a':=?_) ?_ ?_;rotate_left
    ·
     show Act.put _ (some 21) _=_;simp only [Act.put,s0_,s1_,s2_,i64_w,i32_w];rfl
    exact norm_ (by simp only [putAll,Act.put,s0_,s1_,s2_]) (hCont (a3) _ ⟨R,C.1,B.1,F.1,G.1,I.1,h8.1,d7.1,a0.1,d9.1,a1.1,e0.1,b1.1,b6.1,b2.1,b7.1,HB.1⟩)
  ·
   skip
   refine box_step ?hg (N:=7) ?hd (cs:=#[.int .i64 0,.int .i64 0,.int .i64 0,.int .i64 0]) (t:=67) ?hr ?_;(case hd=>rfl);(case hg=>rfl);(case hr=>first|(go_simp;done)|(go_simp;rfl));intro a3 hg T2 e3 hb;have I:=mk0 (e3);have h8:=szw hg HB;have d7:=szw hg HB;have a0:=nlt hg C;have d9:=ngt hg C;have a1:=nlt hg B;have e0:=ngt hg B;have b1:=nlt hg F;have b6:=ngt hg F;have b2:=nlt hg G;have b7:=ngt hg G;replace C:=bkb C hb;replace B:=bkb B hb;replace F:=bkb F hb;replace G:=bkb G hb;replace HB:=bst HB hb;clear hb e3 hg;refine hK.out _ _ ⟨q0_ C,q1_ C,q2_ C,q3_ C,q0_ B,q1_ B,q2_ B,q3_ B⟩ (fun R=>?_);clear hK K;refine norm_ (a':=?_) ?_ ?_;rotate_left
   ·
    show Act.put _ (some 7) _=_;simp only [Act.put,s0_,s1_,s2_,i64_w,i32_w];rfl
   refine one_ (i:=2) (N:=some 20) #[y_,y_,y_,n_,y_,n_] rfl rfl (by kernel_rfl) (by decide) (fun K hK=>?_);refine goes_ Try.func65 (by kernel_rfl) rfl #[.agg #[.int .i64 b8,.int .i64 b9,.int .i64 c0,.int .i64 c5]] (by rfl) rfl rfl (by (try simp only [m0_,m1_,m2_]);first|done|rfl|(simp only [l0_,l1_];rfl)) ?_;with_reducible refine (norm_quat_conj.calls b8 b9 c0 c5 i0 i1 i2 i3 _ A4.1).mono ?_
   rintro e u6 ⟨rfl,hb⟩;refine ⟨_,rfl,?_⟩;replace C:=bkb C hb;replace B:=bkb B hb;replace F:=bkb F hb;replace G:=bkb G hb;replace I:=bkb I hb;replace HB:=bst HB hb;(try clear hb);refine hK.out _ _ ⟨q0_ C,q1_ C,q2_ C,q3_ C,q0_ B,q1_ B,q2_ B,q3_ B⟩ (fun R=>?_);clear hK K;refine norm_ (a':=?_) ?_ ?_;rotate_left
   ·
    show Act.put _ (some 20) _=_;simp only [Act.put,s0_,s1_,s2_,i64_w,i32_w];rfl
   refine one_ (i:=3) (N:=some 21) #[y_,y_,y_,y_,y_,n_] rfl rfl (by kernel_rfl) (by decide) (fun K hK=>?_);refine goes_ Try.func71 (by kernel_rfl) rfl #[.agg #[.int .i64 d1,.int .i64 d2,.int .i64 d3,.int .i64 d4],.agg #[.int .i64 i0,.int .i64 i1,.int .i64 i2,.int .i64 i3]] (by rfl) rfl rfl (by (try simp only [m0_,m1_,m2_]);first|done|rfl|(simp only [l0_,l1_];rfl)) ?_;with_reducible refine (norm_quat_double.calls d1 d2 d3 d4 i0 i1 i2 i3 b5 c8 d0 d8 _ A5.1).mono ?_
   rintro e u7 ⟨rfl,hb⟩;refine ⟨_,rfl,?_⟩;replace C:=bkb C hb;replace B:=bkb B hb;replace F:=bkb F hb;replace G:=bkb G hb;replace I:=bkb I hb;replace HB:=bst HB hb;(try clear hb);refine hK.out _ _ ⟨q0_ C,q1_ C,q2_ C,q3_ C,q0_ B,q1_ B,q2_ B,q3_ B⟩ (fun R=>?_);clear hK K;refine norm_ (a':=?_) ?_ ?_;rotate_left
   ·
    show Act.put _ (some 21) _=_;simp only [Act.put,s0_,s1_,s2_,i64_w,i32_w];rfl
   exact norm_ (by simp only [putAll,Act.put,s0_,s1_,s2_]) (hCont (a3) _ ⟨R,C.1,B.1,F.1,G.1,I.1,h8.1,d7.1,a0.1,d9.1,a1.1,e0.1,b1.1,b6.1,b2.1,b7.1,HB.1⟩)
 clear C B F G HB;rintro a3 Et T3;obtain ⟨T4,C,B,F,G,I,h8,d7,a0,d9,a1,e0,b1,b6,b2,b7,HB⟩:=T3;replace C:=mk0 C;replace B:=mk0 B;replace F:=mk0 F;replace G:=mk0 G;replace I:=mk0 I;replace h8:=mk0 h8;replace d7:=mk0 d7;replace a0:=mk0 a0;replace d9:=mk0 d9;replace a1:=mk0 a1;replace e0:=mk0 e0;replace b1:=mk0 b1;replace b6:=mk0 b6;replace b2:=mk0 b2;replace b7:=mk0 b7;replace HB:=mk0 HB;have R:=T4;refine norm_ (a':=?_) ?_ ?_;rotate_left
 ·
  simp only [putAll,Act.put,s0_,s1_,s2_];rfl
 refine one_ (i:=5) (N:=none) #[y_,y_,y_,y_,y_,y_] rfl rfl (by kernel_rfl) (by decide) (fun K hK=>?_);have Ef:=q0_ I;have Z0:=blk_frozen I.1 0;have H2:=a0.1;have H3:=a1.1;have H4:=b1.1;have H5:=b2.1;have H6:=d9.1;have H7:=e0.1;have H8:=b6.1;have H9:=b7.1;have Eg:=q1_ I;have Z1:=blk_frozen I.1 1;have I0:=a0.1;have I1:=a1.1;have I2:=b1.1;have I3:=b2.1;have I4:=d9.1;have I5:=e0.1;have I6:=b6.1;have I7:=b7.1;have Eh:=q2_ I;have Z2:=blk_frozen I.1 2;have I8:=a0.1;have I9:=a1.1;have J0:=b1.1;have J1:=b2.1;have J2:=d9.1;have J3:=e0.1;have J4:=b6.1;have J5:=b7.1;have Ei:=q3_ I;have Z3:=blk_frozen I.1 3;have J6:=a0.1;have J7:=a1.1;have J8:=b1.1;have J9:=b2.1;have L0:=d9.1;have L1:=e0.1;have L2:=b6.1;have L3:=b7.1;refine skip_ (w1:=?_) (by rfl) rfl ?_ ?_;rotate_left
 ·
  go_simp;rfl
 refine hK.out _ _ ⟨((cell_far (p:=⟨a3,_,none⟩) a0.1 _).trans (((cell_far (p:=⟨a3,_,none⟩) a0.1 _).trans (((cell_far (p:=⟨a3,_,none⟩) a0.1 _).trans (((cell_far (p:=⟨a3,_,none⟩) a0.1 _).trans (R.1)))))))),((cell_far (p:=⟨a3,_,none⟩) a0.1 _).trans (((cell_far (p:=⟨a3,_,none⟩) a0.1 _).trans (((cell_far (p:=⟨a3,_,none⟩) a0.1 _).trans (((cell_far (p:=⟨a3,_,none⟩) a0.1 _).trans (R.2.1)))))))),((cell_far (p:=⟨a3,_,none⟩) a0.1 _).trans (((cell_far (p:=⟨a3,_,none⟩) a0.1 _).trans (((cell_far (p:=⟨a3,_,none⟩) a0.1 _).trans (((cell_far (p:=⟨a3,_,none⟩) a0.1 _).trans (R.2.2.1)))))))),((cell_far (p:=⟨a3,_,none⟩) a0.1 _).trans (((cell_far (p:=⟨a3,_,none⟩) a0.1 _).trans (((cell_far (p:=⟨a3,_,none⟩) a0.1 _).trans (((cell_far (p:=⟨a3,_,none⟩) a0.1 _).trans (R.2.2.2.1)))))))),((cell_far (p:=⟨a3,_,none⟩) a1.1 _).trans (((cell_far (p:=⟨a3,_,none⟩) a1.1 _).trans (((cell_far (p:=⟨a3,_,none⟩) a1.1 _).trans (((cell_far (p:=⟨a3,_,none⟩) a1.1 _).trans (R.2.2.2.2.1)))))))),((cell_far (p:=⟨a3,_,none⟩) a1.1 _).trans (((cell_far (p:=⟨a3,_,none⟩) a1.1 _).trans (((cell_far (p:=⟨a3,_,none⟩) a1.1 _).trans (((cell_far (p:=⟨a3,_,none⟩) a1.1 _).trans (R.2.2.2.2.2.1)))))))),((cell_far (p:=⟨a3,_,none⟩) a1.1 _).trans (((cell_far (p:=⟨a3,_,none⟩) a1.1 _).trans (((cell_far (p:=⟨a3,_,none⟩) a1.1 _).trans (((cell_far (p:=⟨a3,_,none⟩) a1.1 _).trans (R.2.2.2.2.2.2.1)))))))),((cell_far (p:=⟨a3,_,none⟩) a1.1 _).trans (((cell_far (p:=⟨a3,_,none⟩) a1.1 _).trans (((cell_far (p:=⟨a3,_,none⟩) a1.1 _).trans (((cell_far (p:=⟨a3,_,none⟩) a1.1 _).trans (R.2.2.2.2.2.2.2))))))))⟩ (fun R=>?_);clear hK K;refine done_ (by kernel_rfl) ?_;try go_wp2_with (first|((with_reducible refine gate_dst (N:=8) rfl ?_);refine box_event ?hg (N:=8) ?hd (cs:=#[.int .i64 0,.int .i64 0,.int .i64 0,.int .i64 0]) (t:=67) ?hr ?_;(case hd=>rfl);(case hg=>rfl);(case hr=>first|(go_simp;done)|(go_simp;rfl));intro b3 hg Eu e3 hb;have D:=mk0 (e3);have Z4:=mk0 ((by rw [hg];exact (below_size (by repeat (with_reducible first|exact HB.1|refine below_set ?_ e9.1|refine below_set ?_ f0.1|refine below_set ?_ f1.1|refine below_set ?_ f2.1|refine below_set ?_ d7.1))):w.heap.size ≤ b3));have f9:=mk0 ((by rw [hg];exact (below_size (by repeat (with_reducible first|exact HB.1|refine below_set ?_ e9.1|refine below_set ?_ f0.1|refine below_set ?_ f1.1|refine below_set ?_ f2.1|refine below_set ?_ d7.1))):w.heap.size ≤ b3));have g9:=mk0 ((by rw [hg];exact Nat.ne_of_lt (blk_lt (g:=d5) (o:=.cells #[.int .i64 d1,.int .i64 d2,.int .i64 d3,.int .i64 d4] 67 (0,0)) (by (iterate 4 refine blk_far ?_ a0.1 _);exact C.1)):d5 ≠ b3));have i5:=mk0 ((by rw [hg];exact Nat.ne_of_gt (blk_lt (g:=d5) (o:=.cells #[.int .i64 d1,.int .i64 d2,.int .i64 d3,.int .i64 d4] 67 (0,0)) (by (iterate 4 refine blk_far ?_ a0.1 _);exact C.1)):b3 ≠ d5));have h0:=mk0 ((by rw [hg];exact Nat.ne_of_lt (blk_lt (g:=d6) (o:=.cells #[.int .i64 b8,.int .i64 b9,.int .i64 c0,.int .i64 c5] 67 (0,0)) (by (iterate 4 refine blk_far ?_ a1.1 _);exact B.1)):d6 ≠ b3));have i6:=mk0 ((by rw [hg];exact Nat.ne_of_gt (blk_lt (g:=d6) (o:=.cells #[.int .i64 b8,.int .i64 b9,.int .i64 c0,.int .i64 c5] 67 (0,0)) (by (iterate 4 refine blk_far ?_ a1.1 _);exact B.1)):b3 ≠ d6));have f3:=mk0 ((by rw [hg];exact Nat.ne_of_lt (blk_lt (g:=X) (o:=.cells #[.int .i64 0,.int .i64 0,.int .i64 0,.int .i64 0] 67 (0,0)) (by (iterate 4 refine blk_far ?_ b1.1 _);exact F.1)):X ≠ b3));have a5:=mk0 ((by rw [hg];exact Nat.ne_of_gt (blk_lt (g:=X) (o:=.cells #[.int .i64 0,.int .i64 0,.int .i64 0,.int .i64 0] 67 (0,0)) (by (iterate 4 refine blk_far ?_ b1.1 _);exact F.1)):b3 ≠ X));have f4:=mk0 ((by rw [hg];exact Nat.ne_of_lt (blk_lt (g:=Y) (o:=.cells #[.int .i64 0,.int .i64 0,.int .i64 0,.int .i64 0] 67 (0,0)) (by (iterate 4 refine blk_far ?_ b2.1 _);exact G.1)):Y ≠ b3));have a6:=mk0 ((by rw [hg];exact Nat.ne_of_gt (blk_lt (g:=Y) (o:=.cells #[.int .i64 0,.int .i64 0,.int .i64 0,.int .i64 0] 67 (0,0)) (by (iterate 4 refine blk_far ?_ b2.1 _);exact G.1)):b3 ≠ Y));have g3:=mk0 ((by rw [hg];exact Nat.ne_of_lt (blk_lt (g:=a3) (o:=.cells #[.int .i64 b5,.int .i64 c8,.int .i64 d0,.int .i64 d8] 67 (0,0)) (by refine blk_put (cs:=#[.int .i64 b5,.int .i64 c8,.int .i64 d0,.int .i64 0]) ?_ 3 _ rfl;refine blk_put (cs:=#[.int .i64 b5,.int .i64 c8,.int .i64 0,.int .i64 0]) ?_ 2 _ rfl;refine blk_put (cs:=#[.int .i64 b5,.int .i64 0,.int .i64 0,.int .i64 0]) ?_ 1 _ rfl;refine blk_put (cs:=#[.int .i64 0,.int .i64 0,.int .i64 0,.int .i64 0]) ?_ 0 _ rfl;exact I.1)):a3 ≠ b3));have h9:=mk0 ((by rw [hg];exact Nat.ne_of_gt (blk_lt (g:=a3) (o:=.cells #[.int .i64 b5,.int .i64 c8,.int .i64 d0,.int .i64 d8] 67 (0,0)) (by refine blk_put (cs:=#[.int .i64 b5,.int .i64 c8,.int .i64 d0,.int .i64 0]) ?_ 3 _ rfl;refine blk_put (cs:=#[.int .i64 b5,.int .i64 c8,.int .i64 0,.int .i64 0]) ?_ 2 _ rfl;refine blk_put (cs:=#[.int .i64 b5,.int .i64 0,.int .i64 0,.int .i64 0]) ?_ 1 _ rfl;refine blk_put (cs:=#[.int .i64 0,.int .i64 0,.int .i64 0,.int .i64 0]) ?_ 0 _ rfl;exact I.1)):b3 ≠ a3));replace C:=mk0 (blk_below (g:=d5) (o:=.cells #[.int .i64 d1,.int .i64 d2,.int .i64 d3,.int .i64 d4] 67 (0,0)) (by (iterate 4 refine blk_far ?_ a0.1 _);exact C.1) hb);replace B:=mk0 (blk_below (g:=d6) (o:=.cells #[.int .i64 b8,.int .i64 b9,.int .i64 c0,.int .i64 c5] 67 (0,0)) (by (iterate 4 refine blk_far ?_ a1.1 _);exact B.1) hb);replace F:=mk0 (blk_below (g:=X) (o:=.cells #[.int .i64 0,.int .i64 0,.int .i64 0,.int .i64 0] 67 (0,0)) (by (iterate 4 refine blk_far ?_ b1.1 _);exact F.1) hb);replace G:=mk0 (blk_below (g:=Y) (o:=.cells #[.int .i64 0,.int .i64 0,.int .i64 0,.int .i64 0] 67 (0,0)) (by (iterate 4 refine blk_far ?_ b2.1 _);exact G.1) hb);replace I:=mk0 (blk_below (g:=a3) (o:=.cells #[.int .i64 b5,.int .i64 c8,.int .i64 d0,.int .i64 d8] 67 (0,0)) (by refine blk_put (cs:=#[.int .i64 b5,.int .i64 c8,.int .i64 d0,.int .i64 0]) ?_ 3 _ rfl;refine blk_put (cs:=#[.int .i64 b5,.int .i64 c8,.int .i64 0,.int .i64 0]) ?_ 2 _ rfl;refine blk_put (cs:=#[.int .i64 b5,.int .i64 0,.int .i64 0,.int .i64 0]) ?_ 1 _ rfl;refine blk_put (cs:=#[.int .i64 0,.int .i64 0,.int .i64 0,.int .i64 0]) ?_ 0 _ rfl;exact I.1) hb);replace HB:=mk0 (below_step (by repeat (with_reducible first|exact HB.1|refine below_set ?_ e9.1|refine below_set ?_ f0.1|refine below_set ?_ f1.1|refine below_set ?_ f2.1|refine below_set ?_ d7.1)) hb);clear hb e3 hg))
 (try simp only [Act.put,s0_,s1_,s2_])
 go_loopg [9,22] k (fun kq v9 T5 w'=>∃ (f8:Int) (b4:Int) (Q:Int) (O:Int) (L:Int) (J:Int),v9=.int .i64 f8∧T5=.int .i64 b4∧Aside0 (norm_divide.l0 kq c9 f8 b4 d1 d2 d3 d4 b8 b9 c0 c5 b5 c8 d0 d8 Q O L J=some (r1,r2,r3,r4,r5,r6,r7,r8))∧Aside0 (kq ≤ k)∧Aside0 (Q4_ w' d5 d1 d2 d3 d4 67)∧Aside0 (Q4_ w' d6 b8 b9 c0 c5 67)∧Aside0 (Q4_ w' X 0 0 0 0 67)∧Aside0 (Q4_ w' Y 0 0 0 0 67)∧Aside0 (Q4_ w' a3 b5 c8 d0 d8 67)∧Aside0 (Q4_ w' b3 Q O L J 67)∧Aside0 (Below w.heap.size w w'))
 case atStart=>exact ⟨((-1)),(0),(0),(0),(0),(0),(by first|rfl|(simp;done)|(simp [*];done)),(by first|rfl|(simp;done)|(simp [*];done)),H',⟨Nat.le_refl _⟩,⟨by exact C.1⟩,⟨by exact B.1⟩,⟨by exact F.1⟩,⟨by exact G.1⟩,⟨by exact I.1⟩,⟨by exact D.1⟩,⟨by repeat (first|(with_reducible first|exact HB.1|apply below_alloc|apply pw_below_drewN|apply below_drew1|refine below_set ?_ e9.1|refine below_set ?_ f0.1|refine below_set ?_ f1.1|refine below_set ?_ f2.1|refine below_set ?_ d7.1|refine below_set ?_ f9.1)|exact HB.1)⟩⟩
 case round =>
  clear H';try clear c1
  try clear p2
  try clear c4
  try clear c6
  try clear c7
  try clear c10
  try clear c11
  try clear c12
  try clear m9
  try clear n0
  try clear n1
  try clear n2
  try clear n3
  try clear n4
  try clear n5
  try clear n6
  obtain ⟨f8,b4,Q,O,L,J,rfl,rfl,HA,h1,C,B,F,G,I,D,HB⟩:=hrel;cases gk with
  | zero=>exact absurd HA.1 (by simp [norm_divide.l0])
  | succ k1 =>
   have H:=HA.1;clear HA;simp only [norm_divide.l0] at H
   by_cases c25:b4 < 2
   ·
    rw [if_pos c25] at H;have c25b0:decide (b4 < 2)=true:=decide_eq_true c25;clear c25;have H':=mk0 H;clear H;go_wp2_with (first|((with_reducible refine gate_dst (N:=11) rfl ?_);refine box_event ?hg (N:=11) ?hd (cs:=#[.int .i64 0,.int .i64 0,.int .i64 0,.int .i64 0]) (t:=67) ?hr ?_;(case hd=>rfl);(case hg=>rfl);(case hr=>first|(go_simp;done)|(go_simp;rfl));intro g1 hg Ev e3 hb;have E:=mk0 (e3);have t9:=szw hg HB;have g2:=t9;have e4:=nlt hg C;have g4:=ngt hg C;have e5:=nlt hg B;have g5:=ngt hg B;have e6:=nlt hg F;have g6:=ngt hg F;have e7:=nlt hg G;have g7:=ngt hg G;have e1:=nlt hg I;have g0:=ngt hg I;have e8:=nlt hg D;have g8:=ngt hg D;replace C:=bkb C hb;replace B:=bkb B hb;replace F:=bkb F hb;replace G:=bkb G hb;replace I:=bkb I hb;replace D:=bkb D hb;replace HB:=bst HB hb;clear hb e3 hg;have Z5:=d9.1;have Z6:=a0.1;have Z7:=e0.1;have Z8:=a1.1;have Z9:=b6.1;have Aa:=b1.1;have Ab:=b7.1;have Ac:=b2.1;have Ad:=g3.1;have Ae:=h9.1;have Af:=e1.1;have Ag:=g0.1;have p1:=q0_ I;have p3:=q1_ I;have p4:=q2_ I;have p5:=q3_ I;have p6:=blk_frozen I.1 0;have p7:=blk_frozen I.1 1;have p8:=blk_frozen I.1 2;have p9:=blk_frozen I.1 3));(try simp only [Act.put,s0_,s1_,s2_])
    go_loopg [12,26] k1 (fun kq T6 T7 w'=>∃ (e2:Int) (h3:Int) (T:Int) (U:Int) (Z:Int) (a2:Int),T6=.int .i64 e2∧T7=.int .i64 h3∧Aside0 (norm_divide.l1 kq c9 f8 b4 e2 b4 h3 d8 d0 c8 b5 d1 d2 d3 d4 b8 b9 c0 c5 b5 c8 d0 d8 Q O L J T U Z a2=some (r1,r2,r3,r4,r5,r6,r7,r8))∧Aside0 (kq ≤ k1)∧Aside0 (Q4_ w' d5 d1 d2 d3 d4 67)∧Aside0 (Q4_ w' d6 b8 b9 c0 c5 67)∧Aside0 (Q4_ w' X 0 0 0 0 67)∧Aside0 (Q4_ w' Y 0 0 0 0 67)∧Aside0 (Q4_ w' a3 b5 c8 d0 d8 67)∧Aside0 (Q4_ w' b3 Q O L J 67)∧Aside0 (Q4_ w' g1 T U Z a2 67)∧Aside0 (Below w.heap.size w w'))
    case atStart=>exact ⟨(0),(0),(0),(0),(0),(0),(by first|rfl|(simp;done)|(simp [*];done)),(by first|rfl|(simp;done)|(simp [*];done)),H',⟨Nat.le_refl _⟩,⟨by exact C.1⟩,⟨by exact B.1⟩,⟨by exact F.1⟩,⟨by exact G.1⟩,⟨by exact I.1⟩,⟨by exact D.1⟩,⟨by exact E.1⟩,⟨by repeat (first|(with_reducible first|exact HB.1|apply below_alloc|apply pw_below_drewN|apply below_drew1|refine below_set ?_ e9.1|refine below_set ?_ f0.1|refine below_set ?_ f1.1|refine below_set ?_ f2.1|refine below_set ?_ d7.1|refine below_set ?_ f9.1|refine below_set ?_ g2.1)|exact HB.1)⟩⟩
    case round =>
     clear H';try clear c1
     try clear c2
     try clear p2
     try clear c3
     try clear c4
     try clear c6
     try clear c7
     try clear c10
     try clear c11
     try clear c12
     try clear c25
     try clear c25b0
     try clear c27
     try clear c28
     try clear c29
     try clear c30
     try clear c31
     try clear c32
     try clear m9
     try clear n0
     try clear n1
     try clear n2
     try clear p1
     try clear p3
     try clear p4
     try clear p5
     try clear n3
     try clear n4
     try clear n5
     try clear n6
     try clear p6
     try clear p7
     try clear p8
     try clear p9
     try clear p2
     obtain ⟨e2,h3,T,U,Z,a2,rfl,rfl,HA,h2,C,B,F,G,I,D,E,HB⟩:=hrel;cases gk with
     | zero=>exact absurd HA.1 (by simp [norm_divide.l1])
     | succ k2 =>
      have H:=HA.1;clear HA;simp only [norm_divide.l1] at H
      by_cases c34:h3 < 4
      ·
       rw [if_pos c34] at H;have c34b0:decide (h3 < 4)=true:=decide_eq_true c34;clear c34
       by_cases c35:h3=0
       ·
        subst c35;have H1:((norm_nearest.f b5 (wrap64 (2 * c9)) b4).bind fun i7=>(norm_divide.l1 k2 c9 f8 b4 (wrap64 (e2 + (wrap64 ((wrap64 (b5 - (wrap64 ((wrap64 (i7 * 2)) * c9)))) * (wrap64 (b5 - (wrap64 ((wrap64 (i7 * 2)) * c9)))))))) b4 1 d8 d0 c8 b5 d1 d2 d3 d4 b8 b9 c0 c5 b5 c8 d0 d8 Q O L J i7 U Z a2))=some (r1,r2,r3,r4,r5,r6,r7,r8):=by (try rw [if_pos rfl] at H);first|exact H|simpa using H
        clear H;have H:=H1;clear H1;replace H:=Option.bind_eq_some_iff.mp H;obtain ⟨i7,q8,H⟩:=H;(try dsimp only at H);have T8:=mk0 q8;clear q8;have H':=mk0 H;clear H;go_wp2_with (first|((with_reducible refine gate_callee (f:=72) rfl ?_);refine goesL_ (some 35) rfl rfl Try.func72 (by kernel_rfl) rfl #[.int .i64 b5,.int .i64 (wrap64 (2 * c9)),.int .i64 b4] rfl (by (try simp only [m0_,m1_,m2_]);first|done|rfl|(simp only [l0_,l1_];rfl)) ?_;(with_reducible refine (norm_nearest.calls b5 (wrap64 (2 * c9)) b4 i7 _ T8.1).mono ?_);rintro e w' ⟨rfl,⟨nd,rfl⟩⟩;refine ⟨_,rfl,?_⟩;(try (rw [drewN_self wr];generalize hq_:World.drewN wr _=wr;have i8:Aside0 (Q4_ wr d5 d1 d2 d3 d4 67):=⟨by rw [← hq_];exact (by (with_reducible repeat (first|refine blk_drewN ?_ _|refine blk_drew ?_|refine blk_alloc ?_ _));exact C.1)⟩;have i9:Aside0 (Q4_ wr d6 b8 b9 c0 c5 67):=⟨by rw [← hq_];exact (by (with_reducible repeat (first|refine blk_drewN ?_ _|refine blk_drew ?_|refine blk_alloc ?_ _));exact B.1)⟩;have j0:Aside0 (Q4_ wr X 0 0 0 0 67):=⟨by rw [← hq_];exact (by (with_reducible repeat (first|refine blk_drewN ?_ _|refine blk_drew ?_|refine blk_alloc ?_ _));exact F.1)⟩;have j1:Aside0 (Q4_ wr Y 0 0 0 0 67):=⟨by rw [← hq_];exact (by (with_reducible repeat (first|refine blk_drewN ?_ _|refine blk_drew ?_|refine blk_alloc ?_ _));exact G.1)⟩;have j2:Aside0 (Q4_ wr a3 b5 c8 d0 d8 67):=⟨by rw [← hq_];exact (by (with_reducible repeat (first|refine blk_drewN ?_ _|refine blk_drew ?_|refine blk_alloc ?_ _));exact I.1)⟩;have j3:Aside0 (Q4_ wr b3 Q O L J 67):=⟨by rw [← hq_];exact (by (with_reducible repeat (first|refine blk_drewN ?_ _|refine blk_drew ?_|refine blk_alloc ?_ _));exact D.1)⟩;have j4:Aside0 (Q4_ wr g1 T U Z a2 67):=⟨by rw [← hq_];exact (by (with_reducible repeat (first|refine blk_drewN ?_ _|refine blk_drew ?_|refine blk_alloc ?_ _));exact E.1)⟩;have j5:Aside0 (Below w.heap.size w wr):=⟨by rw [← hq_];exact (by repeat (first|(with_reducible first|exact HB.1|apply below_alloc|apply pw_below_drewN|apply below_drew1|refine below_set ?_ e9.1|refine below_set ?_ f0.1|refine below_set ?_ f1.1|refine below_set ?_ f2.1|refine below_set ?_ d7.1|refine below_set ?_ f9.1|refine below_set ?_ g2.1)|exact HB.1))⟩;clear C B F G I D E HB hq_;have C:=i8;have B:=i9;have F:=j0;have G:=j1;have I:=j2;have D:=j3;have E:=j4;have HB:=j5;clear i8 i9 j0 j1 j2 j3 j4 j5));have Ah:=g4.1;have Ai:=e4.1;have Aj:=g5.1;have Ak:=e5.1;have Al:=g6.1;have Am:=e6.1;have An:=g7.1;have Ao:=e7.1;have Ap:=g0.1;have Aq:=e1.1;have Ar:=g8.1;have As:=e8.1;have L4:=q0_ E;have L5:=q1_ E;have L6:=q2_ E;have L7:=q3_ E;have L8:=blk_frozen E.1 0;have L9:=blk_frozen E.1 1;have M0:=blk_frozen E.1 2;have M1:=blk_frozen E.1 3))
        go_roundg k2
        case measure=>have:=h1.1;have:=h2.1;omega
        case rel=>exact ⟨(wrap64 (e2 + (wrap64 ((wrap64 (b5 - (wrap64 ((wrap64 (i7 * 2)) * c9)))) * (wrap64 (b5 - (wrap64 ((wrap64 (i7 * 2)) * c9)))))))),(1),(i7),(U),(Z),(a2),(by first|rfl|(simp;done)|(simp [*];done)),(by first|rfl|(simp;done)|(simp [*];done)),H',⟨by have:=h1.1;have:=h2.1;omega⟩,⟨by refine blk_far ?_ e4.1 _;exact C.1⟩,⟨by refine blk_far ?_ e5.1 _;exact B.1⟩,⟨by refine blk_far ?_ e6.1 _;exact F.1⟩,⟨by refine blk_far ?_ e7.1 _;exact G.1⟩,⟨by refine blk_far ?_ e1.1 _;exact I.1⟩,⟨by refine blk_far ?_ e8.1 _;exact D.1⟩,⟨by refine blk_put (cs:=#[.int .i64 T,.int .i64 U,.int .i64 Z,.int .i64 a2]) ?_ 0 _ rfl;exact E.1⟩,⟨by repeat (first|(with_reducible first|exact HB.1|apply below_alloc|apply pw_below_drewN|apply below_drew1|refine below_set ?_ e9.1|refine below_set ?_ f0.1|refine below_set ?_ f1.1|refine below_set ?_ f2.1|refine below_set ?_ d7.1|refine below_set ?_ f9.1|refine below_set ?_ g2.1)|exact HB.1)⟩⟩
       ·
        rw [if_neg c35] at H
        by_cases c44:h3=1
        ·
         subst c44;have H1:((norm_nearest.f c8 (wrap64 (2 * c9)) b4).bind fun j6=>(norm_divide.l1 k2 c9 f8 b4 (wrap64 (e2 + (wrap64 ((wrap64 (c8 - (wrap64 ((wrap64 (j6 * 2)) * c9)))) * (wrap64 (c8 - (wrap64 ((wrap64 (j6 * 2)) * c9)))))))) b4 2 d8 d0 c8 b5 d1 d2 d3 d4 b8 b9 c0 c5 b5 c8 d0 d8 Q O L J T j6 Z a2))=some (r1,r2,r3,r4,r5,r6,r7,r8):=by (try rw [if_pos rfl] at H);first|exact H|simpa using H
         clear H;have H:=H1;clear H1;replace H:=Option.bind_eq_some_iff.mp H;obtain ⟨j6,q9,H⟩:=H;(try dsimp only at H);have T9:=mk0 q9;clear q9;have H':=mk0 H;clear H;go_wp2_with (first|((with_reducible refine gate_callee (f:=72) rfl ?_);refine goesL_ (some 35) rfl rfl Try.func72 (by kernel_rfl) rfl #[.int .i64 c8,.int .i64 (wrap64 (2 * c9)),.int .i64 b4] rfl (by (try simp only [m0_,m1_,m2_]);first|done|rfl|(simp only [l0_,l1_];rfl)) ?_;(with_reducible refine (norm_nearest.calls c8 (wrap64 (2 * c9)) b4 j6 _ T9.1).mono ?_);rintro e w' ⟨rfl,⟨nd,rfl⟩⟩;refine ⟨_,rfl,?_⟩;(try (rw [drewN_self wr];generalize hq_:World.drewN wr _=wr;have i8:Aside0 (Q4_ wr d5 d1 d2 d3 d4 67):=⟨by rw [← hq_];exact (by (with_reducible repeat (first|refine blk_drewN ?_ _|refine blk_drew ?_|refine blk_alloc ?_ _));exact C.1)⟩;have i9:Aside0 (Q4_ wr d6 b8 b9 c0 c5 67):=⟨by rw [← hq_];exact (by (with_reducible repeat (first|refine blk_drewN ?_ _|refine blk_drew ?_|refine blk_alloc ?_ _));exact B.1)⟩;have j0:Aside0 (Q4_ wr X 0 0 0 0 67):=⟨by rw [← hq_];exact (by (with_reducible repeat (first|refine blk_drewN ?_ _|refine blk_drew ?_|refine blk_alloc ?_ _));exact F.1)⟩;have j1:Aside0 (Q4_ wr Y 0 0 0 0 67):=⟨by rw [← hq_];exact (by (with_reducible repeat (first|refine blk_drewN ?_ _|refine blk_drew ?_|refine blk_alloc ?_ _));exact G.1)⟩;have j2:Aside0 (Q4_ wr a3 b5 c8 d0 d8 67):=⟨by rw [← hq_];exact (by (with_reducible repeat (first|refine blk_drewN ?_ _|refine blk_drew ?_|refine blk_alloc ?_ _));exact I.1)⟩;have j3:Aside0 (Q4_ wr b3 Q O L J 67):=⟨by rw [← hq_];exact (by (with_reducible repeat (first|refine blk_drewN ?_ _|refine blk_drew ?_|refine blk_alloc ?_ _));exact D.1)⟩;have j4:Aside0 (Q4_ wr g1 T U Z a2 67):=⟨by rw [← hq_];exact (by (with_reducible repeat (first|refine blk_drewN ?_ _|refine blk_drew ?_|refine blk_alloc ?_ _));exact E.1)⟩;have j5:Aside0 (Below w.heap.size w wr):=⟨by rw [← hq_];exact (by repeat (first|(with_reducible first|exact HB.1|apply below_alloc|apply pw_below_drewN|apply below_drew1|refine below_set ?_ e9.1|refine below_set ?_ f0.1|refine below_set ?_ f1.1|refine below_set ?_ f2.1|refine below_set ?_ d7.1|refine below_set ?_ f9.1|refine below_set ?_ g2.1)|exact HB.1))⟩;clear C B F G I D E HB hq_;have C:=i8;have B:=i9;have F:=j0;have G:=j1;have I:=j2;have D:=j3;have E:=j4;have HB:=j5;clear i8 i9 j0 j1 j2 j3 j4 j5));have At:=g4.1;have Au:=e4.1;have Av:=g5.1;have Aw:=e5.1;have Ax:=g6.1;have Ay:=e6.1;have Az:=g7.1;have Ba:=e7.1;have Bb:=g0.1;have Bc:=e1.1;have Bd:=g8.1;have Be:=e8.1;have M2:=q0_ E;have M3:=q1_ E;have M4:=q2_ E;have M5:=q3_ E;have M6:=blk_frozen E.1 0;have M7:=blk_frozen E.1 1;have M8:=blk_frozen E.1 2;have M9:=blk_frozen E.1 3))
         go_roundg k2
         case measure=>have:=h1.1;have:=h2.1;omega
         case rel=>exact ⟨(wrap64 (e2 + (wrap64 ((wrap64 (c8 - (wrap64 ((wrap64 (j6 * 2)) * c9)))) * (wrap64 (c8 - (wrap64 ((wrap64 (j6 * 2)) * c9)))))))),(2),(T),(j6),(Z),(a2),(by first|rfl|(simp;done)|(simp [*];done)),(by first|rfl|(simp;done)|(simp [*];done)),H',⟨by have:=h1.1;have:=h2.1;omega⟩,⟨by refine blk_far ?_ e4.1 _;exact C.1⟩,⟨by refine blk_far ?_ e5.1 _;exact B.1⟩,⟨by refine blk_far ?_ e6.1 _;exact F.1⟩,⟨by refine blk_far ?_ e7.1 _;exact G.1⟩,⟨by refine blk_far ?_ e1.1 _;exact I.1⟩,⟨by refine blk_far ?_ e8.1 _;exact D.1⟩,⟨by refine blk_put (cs:=#[.int .i64 T,.int .i64 U,.int .i64 Z,.int .i64 a2]) ?_ 1 _ rfl;exact E.1⟩,⟨by repeat (first|(with_reducible first|exact HB.1|apply below_alloc|apply pw_below_drewN|apply below_drew1|refine below_set ?_ e9.1|refine below_set ?_ f0.1|refine below_set ?_ f1.1|refine below_set ?_ f2.1|refine below_set ?_ d7.1|refine below_set ?_ f9.1|refine below_set ?_ g2.1)|exact HB.1)⟩⟩
        ·
         rw [if_neg c44] at H
         by_cases c53:h3=2
         ·
          subst c53;have H1:((norm_nearest.f d0 (wrap64 (2 * c9)) b4).bind fun j7=>(norm_divide.l1 k2 c9 f8 b4 (wrap64 (e2 + (wrap64 ((wrap64 (d0 - (wrap64 ((wrap64 (j7 * 2)) * c9)))) * (wrap64 (d0 - (wrap64 ((wrap64 (j7 * 2)) * c9)))))))) b4 3 d8 d0 c8 b5 d1 d2 d3 d4 b8 b9 c0 c5 b5 c8 d0 d8 Q O L J T U j7 a2))=some (r1,r2,r3,r4,r5,r6,r7,r8):=by (try rw [if_pos rfl] at H);first|exact H|simpa using H
          clear H;have H:=H1;clear H1;replace H:=Option.bind_eq_some_iff.mp H;obtain ⟨j7,r0,H⟩:=H;(try dsimp only at H);have U0:=mk0 r0;clear r0;have H':=mk0 H;clear H;go_wp2_with (first|((with_reducible refine gate_callee (f:=72) rfl ?_);refine goesL_ (some 35) rfl rfl Try.func72 (by kernel_rfl) rfl #[.int .i64 d0,.int .i64 (wrap64 (2 * c9)),.int .i64 b4] rfl (by (try simp only [m0_,m1_,m2_]);first|done|rfl|(simp only [l0_,l1_];rfl)) ?_;(with_reducible refine (norm_nearest.calls d0 (wrap64 (2 * c9)) b4 j7 _ U0.1).mono ?_);rintro e w' ⟨rfl,⟨nd,rfl⟩⟩;refine ⟨_,rfl,?_⟩;(try (rw [drewN_self wr];generalize hq_:World.drewN wr _=wr;have i8:Aside0 (Q4_ wr d5 d1 d2 d3 d4 67):=⟨by rw [← hq_];exact (by (with_reducible repeat (first|refine blk_drewN ?_ _|refine blk_drew ?_|refine blk_alloc ?_ _));exact C.1)⟩;have i9:Aside0 (Q4_ wr d6 b8 b9 c0 c5 67):=⟨by rw [← hq_];exact (by (with_reducible repeat (first|refine blk_drewN ?_ _|refine blk_drew ?_|refine blk_alloc ?_ _));exact B.1)⟩;have j0:Aside0 (Q4_ wr X 0 0 0 0 67):=⟨by rw [← hq_];exact (by (with_reducible repeat (first|refine blk_drewN ?_ _|refine blk_drew ?_|refine blk_alloc ?_ _));exact F.1)⟩;have j1:Aside0 (Q4_ wr Y 0 0 0 0 67):=⟨by rw [← hq_];exact (by (with_reducible repeat (first|refine blk_drewN ?_ _|refine blk_drew ?_|refine blk_alloc ?_ _));exact G.1)⟩;have j2:Aside0 (Q4_ wr a3 b5 c8 d0 d8 67):=⟨by rw [← hq_];exact (by (with_reducible repeat (first|refine blk_drewN ?_ _|refine blk_drew ?_|refine blk_alloc ?_ _));exact I.1)⟩;have j3:Aside0 (Q4_ wr b3 Q O L J 67):=⟨by rw [← hq_];exact (by (with_reducible repeat (first|refine blk_drewN ?_ _|refine blk_drew ?_|refine blk_alloc ?_ _));exact D.1)⟩;have j4:Aside0 (Q4_ wr g1 T U Z a2 67):=⟨by rw [← hq_];exact (by (with_reducible repeat (first|refine blk_drewN ?_ _|refine blk_drew ?_|refine blk_alloc ?_ _));exact E.1)⟩;have j5:Aside0 (Below w.heap.size w wr):=⟨by rw [← hq_];exact (by repeat (first|(with_reducible first|exact HB.1|apply below_alloc|apply pw_below_drewN|apply below_drew1|refine below_set ?_ e9.1|refine below_set ?_ f0.1|refine below_set ?_ f1.1|refine below_set ?_ f2.1|refine below_set ?_ d7.1|refine below_set ?_ f9.1|refine below_set ?_ g2.1)|exact HB.1))⟩;clear C B F G I D E HB hq_;have C:=i8;have B:=i9;have F:=j0;have G:=j1;have I:=j2;have D:=j3;have E:=j4;have HB:=j5;clear i8 i9 j0 j1 j2 j3 j4 j5));have Bf:=g4.1;have Bg:=e4.1;have Bh:=g5.1;have Bi:=e5.1;have Bj:=g6.1;have Bk:=e6.1;have Bl:=g7.1;have Bm:=e7.1;have Bn:=g0.1;have Bo:=e1.1;have Bp:=g8.1;have Bq:=e8.1;have N0:=q0_ E;have N1:=q1_ E;have N2:=q2_ E;have N3:=q3_ E;have N4:=blk_frozen E.1 0;have N5:=blk_frozen E.1 1;have N6:=blk_frozen E.1 2;have N7:=blk_frozen E.1 3))
          go_roundg k2
          case measure=>have:=h1.1;have:=h2.1;omega
          case rel=>exact ⟨(wrap64 (e2 + (wrap64 ((wrap64 (d0 - (wrap64 ((wrap64 (j7 * 2)) * c9)))) * (wrap64 (d0 - (wrap64 ((wrap64 (j7 * 2)) * c9)))))))),(3),(T),(U),(j7),(a2),(by first|rfl|(simp;done)|(simp [*];done)),(by first|rfl|(simp;done)|(simp [*];done)),H',⟨by have:=h1.1;have:=h2.1;omega⟩,⟨by refine blk_far ?_ e4.1 _;exact C.1⟩,⟨by refine blk_far ?_ e5.1 _;exact B.1⟩,⟨by refine blk_far ?_ e6.1 _;exact F.1⟩,⟨by refine blk_far ?_ e7.1 _;exact G.1⟩,⟨by refine blk_far ?_ e1.1 _;exact I.1⟩,⟨by refine blk_far ?_ e8.1 _;exact D.1⟩,⟨by refine blk_put (cs:=#[.int .i64 T,.int .i64 U,.int .i64 Z,.int .i64 a2]) ?_ 2 _ rfl;exact E.1⟩,⟨by repeat (first|(with_reducible first|exact HB.1|apply below_alloc|apply pw_below_drewN|apply below_drew1|refine below_set ?_ e9.1|refine below_set ?_ f0.1|refine below_set ?_ f1.1|refine below_set ?_ f2.1|refine below_set ?_ d7.1|refine below_set ?_ f9.1|refine below_set ?_ g2.1)|exact HB.1)⟩⟩
         ·
          rw [if_neg c53] at H
          by_cases c62:h3=3
          ·
           subst c62;have H1:((norm_nearest.f d8 (wrap64 (2 * c9)) b4).bind fun j8=>(norm_divide.l1 k2 c9 f8 b4 (wrap64 (e2 + (wrap64 ((wrap64 (d8 - (wrap64 ((wrap64 (j8 * 2)) * c9)))) * (wrap64 (d8 - (wrap64 ((wrap64 (j8 * 2)) * c9)))))))) b4 4 d8 d0 c8 b5 d1 d2 d3 d4 b8 b9 c0 c5 b5 c8 d0 d8 Q O L J T U Z j8))=some (r1,r2,r3,r4,r5,r6,r7,r8):=by (try rw [if_pos rfl] at H);first|exact H|simpa using H
           clear H;have H:=H1;clear H1;replace H:=Option.bind_eq_some_iff.mp H;obtain ⟨j8,r9,H⟩:=H;(try dsimp only at H);have U1:=mk0 r9;clear r9;have H':=mk0 H;clear H;go_wp2_with (first|((with_reducible refine gate_callee (f:=72) rfl ?_);refine goesL_ (some 35) rfl rfl Try.func72 (by kernel_rfl) rfl #[.int .i64 d8,.int .i64 (wrap64 (2 * c9)),.int .i64 b4] rfl (by (try simp only [m0_,m1_,m2_]);first|done|rfl|(simp only [l0_,l1_];rfl)) ?_;(with_reducible refine (norm_nearest.calls d8 (wrap64 (2 * c9)) b4 j8 _ U1.1).mono ?_);rintro e w' ⟨rfl,⟨nd,rfl⟩⟩;refine ⟨_,rfl,?_⟩;(try (rw [drewN_self wr];generalize hq_:World.drewN wr _=wr;have i8:Aside0 (Q4_ wr d5 d1 d2 d3 d4 67):=⟨by rw [← hq_];exact (by (with_reducible repeat (first|refine blk_drewN ?_ _|refine blk_drew ?_|refine blk_alloc ?_ _));exact C.1)⟩;have i9:Aside0 (Q4_ wr d6 b8 b9 c0 c5 67):=⟨by rw [← hq_];exact (by (with_reducible repeat (first|refine blk_drewN ?_ _|refine blk_drew ?_|refine blk_alloc ?_ _));exact B.1)⟩;have j0:Aside0 (Q4_ wr X 0 0 0 0 67):=⟨by rw [← hq_];exact (by (with_reducible repeat (first|refine blk_drewN ?_ _|refine blk_drew ?_|refine blk_alloc ?_ _));exact F.1)⟩;have j1:Aside0 (Q4_ wr Y 0 0 0 0 67):=⟨by rw [← hq_];exact (by (with_reducible repeat (first|refine blk_drewN ?_ _|refine blk_drew ?_|refine blk_alloc ?_ _));exact G.1)⟩;have j2:Aside0 (Q4_ wr a3 b5 c8 d0 d8 67):=⟨by rw [← hq_];exact (by (with_reducible repeat (first|refine blk_drewN ?_ _|refine blk_drew ?_|refine blk_alloc ?_ _));exact I.1)⟩;have j3:Aside0 (Q4_ wr b3 Q O L J 67):=⟨by rw [← hq_];exact (by (with_reducible repeat (first|refine blk_drewN ?_ _|refine blk_drew ?_|refine blk_alloc ?_ _));exact D.1)⟩;have j4:Aside0 (Q4_ wr g1 T U Z a2 67):=⟨by rw [← hq_];exact (by (with_reducible repeat (first|refine blk_drewN ?_ _|refine blk_drew ?_|refine blk_alloc ?_ _));exact E.1)⟩;have j5:Aside0 (Below w.heap.size w wr):=⟨by rw [← hq_];exact (by repeat (first|(with_reducible first|exact HB.1|apply below_alloc|apply pw_below_drewN|apply below_drew1|refine below_set ?_ e9.1|refine below_set ?_ f0.1|refine below_set ?_ f1.1|refine below_set ?_ f2.1|refine below_set ?_ d7.1|refine below_set ?_ f9.1|refine below_set ?_ g2.1)|exact HB.1))⟩;clear C B F G I D E HB hq_;have C:=i8;have B:=i9;have F:=j0;have G:=j1;have I:=j2;have D:=j3;have E:=j4;have HB:=j5;clear i8 i9 j0 j1 j2 j3 j4 j5));have Br:=g4.1;have Bs:=e4.1;have Bt:=g5.1;have Bu:=e5.1;have Bv:=g6.1;have Bw:=e6.1;have Bx:=g7.1;have By:=e7.1;have Bz:=g0.1;have Ca:=e1.1;have Cb:=g8.1;have Cc:=e8.1;have N8:=q0_ E;have N9:=q1_ E;have O0:=q2_ E;have O1:=q3_ E;have O2:=blk_frozen E.1 0;have O3:=blk_frozen E.1 1;have O4:=blk_frozen E.1 2;have O5:=blk_frozen E.1 3))
           go_roundg k2
           case measure=>have:=h1.1;have:=h2.1;omega
           case rel=>exact ⟨(wrap64 (e2 + (wrap64 ((wrap64 (d8 - (wrap64 ((wrap64 (j8 * 2)) * c9)))) * (wrap64 (d8 - (wrap64 ((wrap64 (j8 * 2)) * c9)))))))),(4),(T),(U),(Z),(j8),(by first|rfl|(simp;done)|(simp [*];done)),(by first|rfl|(simp;done)|(simp [*];done)),H',⟨by have:=h1.1;have:=h2.1;omega⟩,⟨by refine blk_far ?_ e4.1 _;exact C.1⟩,⟨by refine blk_far ?_ e5.1 _;exact B.1⟩,⟨by refine blk_far ?_ e6.1 _;exact F.1⟩,⟨by refine blk_far ?_ e7.1 _;exact G.1⟩,⟨by refine blk_far ?_ e1.1 _;exact I.1⟩,⟨by refine blk_far ?_ e8.1 _;exact D.1⟩,⟨by refine blk_put (cs:=#[.int .i64 T,.int .i64 U,.int .i64 Z,.int .i64 a2]) ?_ 3 _ rfl;exact E.1⟩,⟨by repeat (first|(with_reducible first|exact HB.1|apply below_alloc|apply pw_below_drewN|apply below_drew1|refine below_set ?_ e9.1|refine below_set ?_ f0.1|refine below_set ?_ f1.1|refine below_set ?_ f2.1|refine below_set ?_ d7.1|refine below_set ?_ f9.1|refine below_set ?_ g2.1)|exact HB.1)⟩⟩
          ·
           rw [if_neg c62] at H;exact absurd H (by simp)
      ·
       rw [if_neg c34] at H;have c34b0:decide (h3 < 4)=false:=decide_eq_false c34;clear c34
       by_cases c71:f8 < 0
       ·
        rw [if_pos c71] at H;have c71b0:decide (f8 < 0)=true:=decide_eq_true c71;clear c71;have H':=mk0 H;clear H;try go_wp2
        replace C:=bdr C;replace B:=bdr B;replace F:=bdr F;replace G:=bdr G;replace I:=bdr I;replace D:=bdr D;replace E:=bdr E;replace HB:=hdr HB;refine start_ (n:=18) (S:=fun w'=>True) (ds:=[]) #[n_,n_,n_,n_,n_,n_,n_,n_,n_,n_,n_,n_,n_,n_,n_,n_,n_,n_] (by kernel_rfl) rfl rfl trivial (fun R=>?_);refine with_tabW norm_divide.tab17 norm_divide.bits17 (fun V j9=>?_);generalize wr.drew=Ew at C B F G I D E HB R ⊢;refine pure_ (i:=0) (N:=some 51) (v:=?_) (a':=?_) #[y_,n_,n_,n_,n_,n_,n_,n_,n_,n_,n_,n_,n_,n_,n_,n_,n_,n_] rfl rfl (any_of V.1 (by kernel_rfl)) (fun _ _ _ h=>h) (Or.inl ⟨by rfl,?_⟩) ?_ ?_;rotate_left
        ·
         intro w';go_simp;with_reducible rfl
        rotate_left
        ·
         simp only [Act.put,s0_,s1_,s2_,i64_w,i32_w];rfl
        refine pure_ (i:=1) (N:=some 52) (v:=?_) (a':=?_) #[y_,y_,n_,n_,n_,n_,n_,n_,n_,n_,n_,n_,n_,n_,n_,n_,n_,n_] rfl rfl (any_of V.1 (by kernel_rfl)) (fun _ _ _ h=>h) (Or.inl ⟨by rfl,?_⟩) ?_ ?_;rotate_left
        ·
         intro w';go_simp;with_reducible rfl
        rotate_left
        ·
         simp only [Act.put,s0_,s1_,s2_,i64_w,i32_w];rfl
        refine pure_ (i:=2) (N:=some 53) (v:=?_) (a':=?_) #[y_,y_,y_,n_,n_,n_,n_,n_,n_,n_,n_,n_,n_,n_,n_,n_,n_,n_] rfl rfl (any_of V.1 (by kernel_rfl)) (fun _ _ _ h=>h) (Or.inl ⟨by rfl,?_⟩) ?_ ?_;rotate_left
        ·
         intro w';go_simp;with_reducible rfl
        rotate_left
        ·
         simp only [Act.put,s0_,s1_,s2_,i64_w,i32_w];rfl
        refine pure_ (i:=3) (N:=some 54) (v:=undef) (a':=?_) #[y_,y_,y_,y_,n_,n_,n_,n_,n_,n_,n_,n_,n_,n_,n_,n_,n_,n_] rfl rfl (any_of V.1 (by kernel_rfl)) (fun _ _ _ h=>h) (Or.inr ⟨by rfl,rfl⟩) ?_ ?_;rotate_left
        ·
         simp only [Act.put,s0_,s1_,s2_,i64_w,i32_w];rfl
        refine pure_ (i:=4) (N:=some 55) (v:=undef) (a':=?_) #[y_,y_,y_,y_,y_,n_,n_,n_,n_,n_,n_,n_,n_,n_,n_,n_,n_,n_] rfl rfl (any_of V.1 (by kernel_rfl)) (fun _ _ _ h=>h) (Or.inr ⟨by rfl,rfl⟩) ?_ ?_;rotate_left
        ·
         simp only [Act.put,s0_,s1_,s2_,i64_w,i32_w];rfl
        refine pure_ (i:=5) (N:=some 56) (v:=undef) (a':=?_) #[y_,y_,y_,y_,y_,y_,n_,n_,n_,n_,n_,n_,n_,n_,n_,n_,n_,n_] rfl rfl (any_of V.1 (by kernel_rfl)) (fun _ _ _ h=>h) (Or.inr ⟨by rfl,rfl⟩) ?_ ?_;rotate_left
        ·
         simp only [Act.put,s0_,s1_,s2_,i64_w,i32_w];rfl
        refine pure_ (i:=6) (N:=some 57) (v:=?_) (a':=?_) #[y_,y_,y_,y_,y_,y_,y_,n_,n_,n_,n_,n_,n_,n_,n_,n_,n_,n_] rfl rfl (any_of V.1 (by kernel_rfl)) (fun _ _ _ h=>h) (Or.inl ⟨by rfl,?_⟩) ?_ ?_;rotate_left
        ·
         intro w';go_simp;with_reducible rfl
        rotate_left
        ·
         simp only [Act.put,s0_,s1_,s2_,i64_w,i32_w];rfl
        refine pure_ (i:=7) (N:=some 58) (v:=?_) (a':=?_) #[y_,y_,y_,y_,y_,y_,y_,y_,n_,n_,n_,n_,n_,n_,n_,n_,n_,n_] rfl rfl (any_of V.1 (by kernel_rfl)) (fun _ _ _ h=>h) (Or.inl ⟨by rfl,?_⟩) ?_ ?_;rotate_left
        ·
         intro w';go_simp;with_reducible rfl
        rotate_left
        ·
         simp only [Act.put,s0_,s1_,s2_,i64_w,i32_w];rfl
        refine pure_ (i:=8) (N:=some 59) (v:=undef) (a':=?_) #[y_,y_,y_,y_,y_,y_,y_,y_,y_,n_,n_,n_,n_,n_,n_,n_,n_,n_] rfl rfl (any_of V.1 (by kernel_rfl)) (fun _ _ _ h=>h) (Or.inr ⟨by rfl,rfl⟩) ?_ ?_;rotate_left
        ·
         simp only [Act.put,s0_,s1_,s2_,i64_w,i32_w];rfl
        refine pure_ (i:=9) (N:=some 60) (v:=undef) (a':=?_) #[y_,y_,y_,y_,y_,y_,y_,y_,y_,y_,n_,n_,n_,n_,n_,n_,n_,n_] rfl rfl (any_of V.1 (by kernel_rfl)) (fun _ _ _ h=>h) (Or.inr ⟨by rfl,rfl⟩) ?_ ?_;rotate_left
        ·
         simp only [Act.put,s0_,s1_,s2_,i64_w,i32_w];rfl
        refine pure_ (i:=10) (N:=some 61) (v:=undef) (a':=?_) #[y_,y_,y_,y_,y_,y_,y_,y_,y_,y_,y_,n_,n_,n_,n_,n_,n_,n_] rfl rfl (any_of V.1 (by kernel_rfl)) (fun _ _ _ h=>h) (Or.inr ⟨by rfl,rfl⟩) ?_ ?_;rotate_left
        ·
         simp only [Act.put,s0_,s1_,s2_,i64_w,i32_w];rfl
        refine pure_ (i:=11) (N:=some 62) (v:=undef) (a':=?_) #[y_,y_,y_,y_,y_,y_,y_,y_,y_,y_,y_,y_,n_,n_,n_,n_,n_,n_] rfl rfl (any_of V.1 (by kernel_rfl)) (fun _ _ _ h=>h) (Or.inr ⟨by rfl,rfl⟩) ?_ ?_;rotate_left
        ·
         simp only [Act.put,s0_,s1_,s2_,i64_w,i32_w];rfl
        refine pure_ (i:=12) (N:=some 63) (v:=undef) (a':=?_) #[y_,y_,y_,y_,y_,y_,y_,y_,y_,y_,y_,y_,y_,n_,n_,n_,n_,n_] rfl rfl (any_of V.1 (by kernel_rfl)) (fun _ _ _ h=>h) (Or.inr ⟨by rfl,rfl⟩) ?_ ?_;rotate_left
        ·
         simp only [Act.put,s0_,s1_,s2_,i64_w,i32_w];rfl
        refine pure_ (i:=13) (N:=some 64) (v:=undef) (a':=?_) #[y_,y_,y_,y_,y_,y_,y_,y_,y_,y_,y_,y_,y_,y_,n_,n_,n_,n_] rfl rfl (any_of V.1 (by kernel_rfl)) (fun _ _ _ h=>h) (Or.inr ⟨by rfl,rfl⟩) ?_ ?_;rotate_left
        ·
         simp only [Act.put,s0_,s1_,s2_,i64_w,i32_w];rfl
        refine pure_ (i:=14) (N:=some 65) (v:=undef) (a':=?_) #[y_,y_,y_,y_,y_,y_,y_,y_,y_,y_,y_,y_,y_,y_,y_,n_,n_,n_] rfl rfl (any_of V.1 (by kernel_rfl)) (fun _ _ _ h=>h) (Or.inr ⟨by rfl,rfl⟩) ?_ ?_;rotate_left
        ·
         simp only [Act.put,s0_,s1_,s2_,i64_w,i32_w];rfl
        refine pure_ (i:=15) (N:=some 66) (v:=undef) (a':=?_) #[y_,y_,y_,y_,y_,y_,y_,y_,y_,y_,y_,y_,y_,y_,y_,y_,n_,n_] rfl rfl (any_of V.1 (by kernel_rfl)) (fun _ _ _ h=>h) (Or.inr ⟨by rfl,rfl⟩) ?_ ?_;rotate_left
        ·
         simp only [Act.put,s0_,s1_,s2_,i64_w,i32_w];rfl
        refine pure_ (i:=16) (N:=some 67) (v:=undef) (a':=?_) #[y_,y_,y_,y_,y_,y_,y_,y_,y_,y_,y_,y_,y_,y_,y_,y_,y_,n_] rfl rfl (any_of V.1 (by kernel_rfl)) (fun _ _ _ h=>h) (Or.inr ⟨by rfl,rfl⟩) ?_ ?_;rotate_left
        ·
         simp only [Act.put,s0_,s1_,s2_,i64_w,i32_w];rfl
        refine pure_ (i:=17) (N:=some 68) (v:=?_) (a':=?_) #[y_,y_,y_,y_,y_,y_,y_,y_,y_,y_,y_,y_,y_,y_,y_,y_,y_,y_] rfl rfl (any_of V.1 (by kernel_rfl)) (fun _ _ _ h=>h) (Or.inl ⟨by rfl,?_⟩) ?_ ?_;rotate_left
        ·
         intro w';go_simp;with_reducible rfl
        rotate_left
        ·
         simp only [Act.put,s0_,s1_,s2_,i64_w,i32_w];rfl
        refine done_ (done_of V.1 (by kernel_rfl)) ?_;have Cd:=g4.1;have Ce:=e4.1;have Cf:=g5.1;have Cg:=e5.1;have Ch:=g6.1;have Ci:=e6.1;have Cj:=g7.1;have Ck:=e7.1;have Cl:=g0.1;have Cm:=e1.1;have Cn:=g8.1;have Co:=e8.1;have O6:=q0_ E;have O7:=q1_ E;have O8:=q2_ E;have O9:=q3_ E;have Q0:=blk_frozen E.1 0;have Q1:=blk_frozen E.1 1;have Q2:=blk_frozen E.1 2;have Q3:=blk_frozen E.1 3;have Cp:=i5.1;have Cq:=g9.1;have Cr:=i6.1;have Cs:=h0.1;have Ct:=a5.1;have Cu:=f3.1;have Cv:=a6.1;have Cw:=f4.1;have Cx:=h9.1;have Cy:=g3.1;have Q4:=q0_ D;have Q5:=q1_ D;have Q6:=q2_ D;have Q7:=q3_ D;have Q8:=blk_frozen D.1 0;have Q9:=blk_frozen D.1 1;have R0:=blk_frozen D.1 2;have R1:=blk_frozen D.1 3;try go_wp2
        go_roundg k2
        case measure=>have:=h1.1;have:=h2.1;omega
        case rel=>exact ⟨(e2),(wrap64 (b4 + 1)),(T),(U),(Z),(a2),(by first|rfl|(simp;done)|(simp [*];done)),(by first|rfl|(simp;done)|(simp [*];done)),H',⟨by have:=h1.1;have:=h2.1;omega⟩,⟨by (iterate 4 refine blk_far ?_ g9.1 _);exact C.1⟩,⟨by (iterate 4 refine blk_far ?_ h0.1 _);exact B.1⟩,⟨by (iterate 4 refine blk_far ?_ f3.1 _);exact F.1⟩,⟨by (iterate 4 refine blk_far ?_ f4.1 _);exact G.1⟩,⟨by (iterate 4 refine blk_far ?_ g3.1 _);exact I.1⟩,⟨by refine blk_put (cs:=#[.int .i64 T,.int .i64 U,.int .i64 Z,.int .i64 J]) ?_ 3 _ rfl;refine blk_put (cs:=#[.int .i64 T,.int .i64 U,.int .i64 L,.int .i64 J]) ?_ 2 _ rfl;refine blk_put (cs:=#[.int .i64 T,.int .i64 O,.int .i64 L,.int .i64 J]) ?_ 1 _ rfl;refine blk_put (cs:=#[.int .i64 Q,.int .i64 O,.int .i64 L,.int .i64 J]) ?_ 0 _ rfl;exact D.1⟩,⟨by repeat (first|(with_reducible first|exact HB.1|apply below_alloc|apply pw_below_drewN|apply below_drew1|refine below_set ?_ e9.1|refine below_set ?_ f0.1|refine below_set ?_ f1.1|refine below_set ?_ f2.1|refine below_set ?_ d7.1|refine below_set ?_ f9.1|refine below_set ?_ g2.1)|exact HB.1)⟩⟩
       ·
        rw [if_neg c71] at H;have c71b0:decide (f8 < 0)=false:=decide_eq_false c71;clear c71
        by_cases c86:e2 < f8
        ·
         rw [if_pos c86] at H;have c86b0:decide (e2 < f8)=true:=decide_eq_true c86;clear c86;have H':=mk0 H;clear H;try go_wp2
         replace C:=bdr C;replace B:=bdr B;replace F:=bdr F;replace G:=bdr G;replace I:=bdr I;replace D:=bdr D;replace E:=bdr E;replace HB:=hdr HB;refine start_ (n:=18) (S:=fun w'=>True) (ds:=[]) #[n_,n_,n_,n_,n_,n_,n_,n_,n_,n_,n_,n_,n_,n_,n_,n_,n_,n_] (by kernel_rfl) rfl rfl trivial (fun R=>?_);refine with_tabW norm_divide.tab17 norm_divide.bits17 (fun V j9=>?_);generalize wr.drew=Ex at C B F G I D E HB R ⊢;refine pure_ (i:=0) (N:=some 51) (v:=?_) (a':=?_) #[y_,n_,n_,n_,n_,n_,n_,n_,n_,n_,n_,n_,n_,n_,n_,n_,n_,n_] rfl rfl (any_of V.1 (by kernel_rfl)) (fun _ _ _ h=>h) (Or.inl ⟨by rfl,?_⟩) ?_ ?_;rotate_left
         ·
          intro w';go_simp;with_reducible rfl
         rotate_left
         ·
          simp only [Act.put,s0_,s1_,s2_,i64_w,i32_w];rfl
         refine pure_ (i:=1) (N:=some 52) (v:=?_) (a':=?_) #[y_,y_,n_,n_,n_,n_,n_,n_,n_,n_,n_,n_,n_,n_,n_,n_,n_,n_] rfl rfl (any_of V.1 (by kernel_rfl)) (fun _ _ _ h=>h) (Or.inl ⟨by rfl,?_⟩) ?_ ?_;rotate_left
         ·
          intro w';go_simp;with_reducible rfl
         rotate_left
         ·
          simp only [Act.put,s0_,s1_,s2_,i64_w,i32_w];rfl
         refine pure_ (i:=2) (N:=some 53) (v:=?_) (a':=?_) #[y_,y_,y_,n_,n_,n_,n_,n_,n_,n_,n_,n_,n_,n_,n_,n_,n_,n_] rfl rfl (any_of V.1 (by kernel_rfl)) (fun _ _ _ h=>h) (Or.inl ⟨by rfl,?_⟩) ?_ ?_;rotate_left
         ·
          intro w';go_simp;with_reducible rfl
         rotate_left
         ·
          simp only [Act.put,s0_,s1_,s2_,i64_w,i32_w];rfl
         refine pure_ (i:=3) (N:=some 54) (v:=?_) (a':=?_) #[y_,y_,y_,y_,n_,n_,n_,n_,n_,n_,n_,n_,n_,n_,n_,n_,n_,n_] rfl rfl (any_of V.1 (by kernel_rfl)) (fun _ _ _ h=>h) (Or.inl ⟨by rfl,?_⟩) ?_ ?_;rotate_left
         ·
          intro w';go_simp;with_reducible rfl
         rotate_left
         ·
          simp only [Act.put,s0_,s1_,s2_,i64_w,i32_w];rfl
         refine pure_ (i:=4) (N:=some 55) (v:=?_) (a':=?_) #[y_,y_,y_,y_,y_,n_,n_,n_,n_,n_,n_,n_,n_,n_,n_,n_,n_,n_] rfl rfl (any_of V.1 (by kernel_rfl)) (fun _ _ _ h=>h) (Or.inl ⟨by rfl,?_⟩) ?_ ?_;rotate_left
         ·
          intro w';go_simp;with_reducible rfl
         rotate_left
         ·
          simp only [Act.put,s0_,s1_,s2_,i64_w,i32_w];rfl
         refine pure_ (i:=5) (N:=some 56) (v:=?_) (a':=?_) #[y_,y_,y_,y_,y_,y_,n_,n_,n_,n_,n_,n_,n_,n_,n_,n_,n_,n_] rfl rfl (any_of V.1 (by kernel_rfl)) (fun _ _ _ h=>h) (Or.inl ⟨by rfl,?_⟩) ?_ ?_;rotate_left
         ·
          intro w';go_simp;with_reducible rfl
         rotate_left
         ·
          simp only [Act.put,s0_,s1_,s2_,i64_w,i32_w];rfl
         refine pure_ (i:=6) (N:=some 57) (v:=?_) (a':=?_) #[y_,y_,y_,y_,y_,y_,y_,n_,n_,n_,n_,n_,n_,n_,n_,n_,n_,n_] rfl rfl (any_of V.1 (by kernel_rfl)) (fun _ _ _ h=>h) (Or.inl ⟨by rfl,?_⟩) ?_ ?_;rotate_left
         ·
          intro w';go_simp;with_reducible rfl
         rotate_left
         ·
          simp only [Act.put,s0_,s1_,s2_,i64_w,i32_w];rfl
         refine pure_ (i:=7) (N:=some 58) (v:=?_) (a':=?_) #[y_,y_,y_,y_,y_,y_,y_,y_,n_,n_,n_,n_,n_,n_,n_,n_,n_,n_] rfl rfl (any_of V.1 (by kernel_rfl)) (fun _ _ _ h=>h) (Or.inl ⟨by rfl,?_⟩) ?_ ?_;rotate_left
         ·
          intro w';go_simp;with_reducible rfl
         rotate_left
         ·
          simp only [Act.put,s0_,s1_,s2_,i64_w,i32_w];rfl
         refine pure_ (i:=8) (N:=some 59) (v:=undef) (a':=?_) #[y_,y_,y_,y_,y_,y_,y_,y_,y_,n_,n_,n_,n_,n_,n_,n_,n_,n_] rfl rfl (any_of V.1 (by kernel_rfl)) (fun _ _ _ h=>h) (Or.inr ⟨by rfl,rfl⟩) ?_ ?_;rotate_left
         ·
          simp only [Act.put,s0_,s1_,s2_,i64_w,i32_w];rfl
         refine pure_ (i:=9) (N:=some 60) (v:=undef) (a':=?_) #[y_,y_,y_,y_,y_,y_,y_,y_,y_,y_,n_,n_,n_,n_,n_,n_,n_,n_] rfl rfl (any_of V.1 (by kernel_rfl)) (fun _ _ _ h=>h) (Or.inr ⟨by rfl,rfl⟩) ?_ ?_;rotate_left
         ·
          simp only [Act.put,s0_,s1_,s2_,i64_w,i32_w];rfl
         refine pure_ (i:=10) (N:=some 61) (v:=undef) (a':=?_) #[y_,y_,y_,y_,y_,y_,y_,y_,y_,y_,y_,n_,n_,n_,n_,n_,n_,n_] rfl rfl (any_of V.1 (by kernel_rfl)) (fun _ _ _ h=>h) (Or.inr ⟨by rfl,rfl⟩) ?_ ?_;rotate_left
         ·
          simp only [Act.put,s0_,s1_,s2_,i64_w,i32_w];rfl
         refine pure_ (i:=11) (N:=some 62) (v:=undef) (a':=?_) #[y_,y_,y_,y_,y_,y_,y_,y_,y_,y_,y_,y_,n_,n_,n_,n_,n_,n_] rfl rfl (any_of V.1 (by kernel_rfl)) (fun _ _ _ h=>h) (Or.inr ⟨by rfl,rfl⟩) ?_ ?_;rotate_left
         ·
          simp only [Act.put,s0_,s1_,s2_,i64_w,i32_w];rfl
         refine pure_ (i:=12) (N:=some 63) (v:=undef) (a':=?_) #[y_,y_,y_,y_,y_,y_,y_,y_,y_,y_,y_,y_,y_,n_,n_,n_,n_,n_] rfl rfl (any_of V.1 (by kernel_rfl)) (fun _ _ _ h=>h) (Or.inr ⟨by rfl,rfl⟩) ?_ ?_;rotate_left
         ·
          simp only [Act.put,s0_,s1_,s2_,i64_w,i32_w];rfl
         refine pure_ (i:=13) (N:=some 64) (v:=undef) (a':=?_) #[y_,y_,y_,y_,y_,y_,y_,y_,y_,y_,y_,y_,y_,y_,n_,n_,n_,n_] rfl rfl (any_of V.1 (by kernel_rfl)) (fun _ _ _ h=>h) (Or.inr ⟨by rfl,rfl⟩) ?_ ?_;rotate_left
         ·
          simp only [Act.put,s0_,s1_,s2_,i64_w,i32_w];rfl
         refine pure_ (i:=14) (N:=some 65) (v:=undef) (a':=?_) #[y_,y_,y_,y_,y_,y_,y_,y_,y_,y_,y_,y_,y_,y_,y_,n_,n_,n_] rfl rfl (any_of V.1 (by kernel_rfl)) (fun _ _ _ h=>h) (Or.inr ⟨by rfl,rfl⟩) ?_ ?_;rotate_left
         ·
          simp only [Act.put,s0_,s1_,s2_,i64_w,i32_w];rfl
         refine pure_ (i:=15) (N:=some 66) (v:=undef) (a':=?_) #[y_,y_,y_,y_,y_,y_,y_,y_,y_,y_,y_,y_,y_,y_,y_,y_,n_,n_] rfl rfl (any_of V.1 (by kernel_rfl)) (fun _ _ _ h=>h) (Or.inr ⟨by rfl,rfl⟩) ?_ ?_;rotate_left
         ·
          simp only [Act.put,s0_,s1_,s2_,i64_w,i32_w];rfl
         refine pure_ (i:=16) (N:=some 67) (v:=undef) (a':=?_) #[y_,y_,y_,y_,y_,y_,y_,y_,y_,y_,y_,y_,y_,y_,y_,y_,y_,n_] rfl rfl (any_of V.1 (by kernel_rfl)) (fun _ _ _ h=>h) (Or.inr ⟨by rfl,rfl⟩) ?_ ?_;rotate_left
         ·
          simp only [Act.put,s0_,s1_,s2_,i64_w,i32_w];rfl
         refine pure_ (i:=17) (N:=some 68) (v:=?_) (a':=?_) #[y_,y_,y_,y_,y_,y_,y_,y_,y_,y_,y_,y_,y_,y_,y_,y_,y_,y_] rfl rfl (any_of V.1 (by kernel_rfl)) (fun _ _ _ h=>h) (Or.inl ⟨by rfl,?_⟩) ?_ ?_;rotate_left
         ·
          intro w';go_simp;with_reducible rfl
         rotate_left
         ·
          simp only [Act.put,s0_,s1_,s2_,i64_w,i32_w];rfl
         refine done_ (done_of V.1 (by kernel_rfl)) ?_;have Cz:=g4.1;have Da:=e4.1;have Db:=g5.1;have Dc:=e5.1;have Dd:=g6.1;have De:=e6.1;have Df:=g7.1;have Dg:=e7.1;have Dh:=g0.1;have Di:=e1.1;have Dj:=g8.1;have Dk:=e8.1;have R2:=q0_ E;have R3:=q1_ E;have R4:=q2_ E;have R5:=q3_ E;have R6:=blk_frozen E.1 0;have R7:=blk_frozen E.1 1;have R8:=blk_frozen E.1 2;have R9:=blk_frozen E.1 3;have Dl:=i5.1;have Dm:=g9.1;have Dn:=i6.1;have Do:=h0.1;have Dp:=a5.1;have Dq:=f3.1;have Dr:=a6.1;have Ds:=f4.1;have Dt:=h9.1;have Du:=g3.1;have u9:=q0_ D;have v0:=q1_ D;have v1:=q2_ D;have v2:=q3_ D;have v3:=blk_frozen D.1 0;have v4:=blk_frozen D.1 1;have v5:=blk_frozen D.1 2;have v6:=blk_frozen D.1 3;try go_wp2
         go_roundg k2
         case measure=>have:=h1.1;have:=h2.1;omega
         case rel=>exact ⟨(e2),(wrap64 (b4 + 1)),(T),(U),(Z),(a2),(by first|rfl|(simp;done)|(simp [*];done)),(by first|rfl|(simp;done)|(simp [*];done)),H',⟨by have:=h1.1;have:=h2.1;omega⟩,⟨by (iterate 4 refine blk_far ?_ g9.1 _);exact C.1⟩,⟨by (iterate 4 refine blk_far ?_ h0.1 _);exact B.1⟩,⟨by (iterate 4 refine blk_far ?_ f3.1 _);exact F.1⟩,⟨by (iterate 4 refine blk_far ?_ f4.1 _);exact G.1⟩,⟨by (iterate 4 refine blk_far ?_ g3.1 _);exact I.1⟩,⟨by refine blk_put (cs:=#[.int .i64 T,.int .i64 U,.int .i64 Z,.int .i64 J]) ?_ 3 _ rfl;refine blk_put (cs:=#[.int .i64 T,.int .i64 U,.int .i64 L,.int .i64 J]) ?_ 2 _ rfl;refine blk_put (cs:=#[.int .i64 T,.int .i64 O,.int .i64 L,.int .i64 J]) ?_ 1 _ rfl;refine blk_put (cs:=#[.int .i64 Q,.int .i64 O,.int .i64 L,.int .i64 J]) ?_ 0 _ rfl;exact D.1⟩,⟨by repeat (first|(with_reducible first|exact HB.1|apply below_alloc|apply pw_below_drewN|apply below_drew1|refine below_set ?_ e9.1|refine below_set ?_ f0.1|refine below_set ?_ f1.1|refine below_set ?_ f2.1|refine below_set ?_ d7.1|refine below_set ?_ f9.1|refine below_set ?_ g2.1)|exact HB.1)⟩⟩
        ·
         rw [if_neg c86] at H;have c86b0:decide (e2 < f8)=false:=decide_eq_false c86;clear c86
         by_cases c101:e2=f8
         ·
          rw [if_pos c101] at H;have c101b0:(e2 == f8)=true:=beq_iff_eq.mpr c101;have c101b1:(e2 != f8)=false:=bne_eq_false_iff_eq.mpr c101;clear c101;replace H:=Option.bind_eq_some_iff.mp H;obtain ⟨l9,o6,H⟩:=H;(try dsimp only at H);have t0:=mk0 o6;clear o6
          by_cases c103:l9 < 0
          ·
           rw [if_pos c103] at H;have c103b0:decide (l9 < 0)=true:=decide_eq_true c103;clear c103;have H':=mk0 H;clear H;try go_wp2
           replace C:=bdr C;replace B:=bdr B;replace F:=bdr F;replace G:=bdr G;replace I:=bdr I;replace D:=bdr D;replace E:=bdr E;replace HB:=hdr HB;refine start_ (n:=18) (S:=fun w'=>w'.cell? ⟨g1,0,none⟩=some (.int .i64 T)∧w'.cell? ⟨g1,1,none⟩=some (.int .i64 U)∧w'.cell? ⟨g1,2,none⟩=some (.int .i64 Z)∧w'.cell? ⟨g1,3,none⟩=some (.int .i64 a2)∧w'.cell? ⟨b3,0,none⟩=some (.int .i64 Q)∧w'.cell? ⟨b3,1,none⟩=some (.int .i64 O)∧w'.cell? ⟨b3,2,none⟩=some (.int .i64 L)∧w'.cell? ⟨b3,3,none⟩=some (.int .i64 J)) (ds:=[]) #[n_,n_,n_,n_,n_,n_,n_,n_,n_,n_,n_,n_,n_,n_,n_,n_,n_,n_] (by kernel_rfl) rfl rfl ⟨q0_ E,q1_ E,q2_ E,q3_ E,q0_ D,q1_ D,q2_ D,q3_ D⟩ (fun R=>?_);refine with_tabW norm_divide.tab17 norm_divide.bits17 (fun V j9=>?_);generalize wr.drew=Ek at C B F G I D E HB R ⊢;refine pure_ (i:=0) (N:=some 51) (v:=?_) (a':=?_) #[y_,n_,n_,n_,n_,n_,n_,n_,n_,n_,n_,n_,n_,n_,n_,n_,n_,n_] rfl rfl (any_of V.1 (by kernel_rfl)) (fun _ _ _ h=>h) (Or.inl ⟨by rfl,?_⟩) ?_ ?_;rotate_left
           ·
            intro w';go_simp;with_reducible rfl
           rotate_left
           ·
            simp only [Act.put,s0_,s1_,s2_,i64_w,i32_w];rfl
           refine pure_ (i:=1) (N:=some 52) (v:=?_) (a':=?_) #[y_,y_,n_,n_,n_,n_,n_,n_,n_,n_,n_,n_,n_,n_,n_,n_,n_,n_] rfl rfl (any_of V.1 (by kernel_rfl)) (fun _ _ _ h=>h) (Or.inl ⟨by rfl,?_⟩) ?_ ?_;rotate_left
           ·
            intro w';go_simp;with_reducible rfl
           rotate_left
           ·
            simp only [Act.put,s0_,s1_,s2_,i64_w,i32_w];rfl
           refine pure_ (i:=2) (N:=some 53) (v:=?_) (a':=?_) #[y_,y_,y_,n_,n_,n_,n_,n_,n_,n_,n_,n_,n_,n_,n_,n_,n_,n_] rfl rfl (any_of V.1 (by kernel_rfl)) (fun _ _ _ h=>h) (Or.inl ⟨by rfl,?_⟩) ?_ ?_;rotate_left
           ·
            intro w';go_simp;with_reducible rfl
           rotate_left
           ·
            simp only [Act.put,s0_,s1_,s2_,i64_w,i32_w];rfl
           refine pure_ (i:=3) (N:=some 54) (v:=?_) (a':=?_) #[y_,y_,y_,y_,n_,n_,n_,n_,n_,n_,n_,n_,n_,n_,n_,n_,n_,n_] rfl rfl (any_of V.1 (by kernel_rfl)) (fun _ _ _ h=>h) (Or.inl ⟨by rfl,?_⟩) ?_ ?_;rotate_left
           ·
            intro w';go_simp;with_reducible rfl
           rotate_left
           ·
            simp only [Act.put,s0_,s1_,s2_,i64_w,i32_w];rfl
           refine pure_ (i:=4) (N:=some 55) (v:=?_) (a':=?_) #[y_,y_,y_,y_,y_,n_,n_,n_,n_,n_,n_,n_,n_,n_,n_,n_,n_,n_] rfl rfl (any_of V.1 (by kernel_rfl)) (fun _ _ _ h=>h) (Or.inl ⟨by rfl,?_⟩) ?_ ?_;rotate_left
           ·
            intro w';go_simp;with_reducible rfl
           rotate_left
           ·
            simp only [Act.put,s0_,s1_,s2_,i64_w,i32_w];rfl
           refine pure_ (i:=5) (N:=some 56) (v:=?_) (a':=?_) #[y_,y_,y_,y_,y_,y_,n_,n_,n_,n_,n_,n_,n_,n_,n_,n_,n_,n_] rfl rfl (any_of V.1 (by kernel_rfl)) (fun _ _ _ h=>h) (Or.inl ⟨by rfl,?_⟩) ?_ ?_;rotate_left
           ·
            intro w';go_simp;with_reducible rfl
           rotate_left
           ·
            simp only [Act.put,s0_,s1_,s2_,i64_w,i32_w];rfl
           refine pure_ (i:=6) (N:=some 57) (v:=?_) (a':=?_) #[y_,y_,y_,y_,y_,y_,y_,n_,n_,n_,n_,n_,n_,n_,n_,n_,n_,n_] rfl rfl (any_of V.1 (by kernel_rfl)) (fun _ _ _ h=>h) (Or.inl ⟨by rfl,?_⟩) ?_ ?_;rotate_left
           ·
            intro w';go_simp;with_reducible rfl
           rotate_left
           ·
            simp only [Act.put,s0_,s1_,s2_,i64_w,i32_w];rfl
           refine pure_ (i:=7) (N:=some 58) (v:=?_) (a':=?_) #[y_,y_,y_,y_,y_,y_,y_,y_,n_,n_,n_,n_,n_,n_,n_,n_,n_,n_] rfl rfl (any_of V.1 (by kernel_rfl)) (fun _ _ _ h=>h) (Or.inl ⟨by rfl,?_⟩) ?_ ?_;rotate_left
           ·
            intro w';go_simp;with_reducible rfl
           rotate_left
           ·
            simp only [Act.put,s0_,s1_,s2_,i64_w,i32_w];rfl
           refine pure_ (i:=8) (N:=some 59) (v:=?_) (a':=?_) #[y_,y_,y_,y_,y_,y_,y_,y_,y_,n_,n_,n_,n_,n_,n_,n_,n_,n_] rfl rfl (any_of V.1 (by kernel_rfl)) (fun _ _ _ h=>h) (Or.inl ⟨by rfl,?_⟩) ?_ ?_;rotate_left
           ·
            intro w';go_simp;with_reducible rfl
           rotate_left
           ·
            simp only [Act.put,s0_,s1_,s2_,i64_w,i32_w];rfl
           refine pure_ (i:=9) (N:=some 60) (v:=?_) (a':=?_) #[y_,y_,y_,y_,y_,y_,y_,y_,y_,y_,n_,n_,n_,n_,n_,n_,n_,n_] rfl rfl (any_of V.1 (by kernel_rfl)) (fun _ _ _ h=>h) (Or.inl ⟨by rfl,?_⟩) ?_ ?_;rotate_left
           ·
            intro w';go_simp;with_reducible rfl
           rotate_left
           ·
            simp only [Act.put,s0_,s1_,s2_,i64_w,i32_w];rfl
           refine pure_ (i:=10) (N:=some 61) (v:=?_) (a':=?_) #[y_,y_,y_,y_,y_,y_,y_,y_,y_,y_,y_,n_,n_,n_,n_,n_,n_,n_] rfl rfl (any_of V.1 (by kernel_rfl)) (fun _ _ _ h=>h) (Or.inl ⟨by rfl,?_⟩) ?_ ?_;rotate_left
           ·
            intro w';go_simp;with_reducible rfl
           rotate_left
           ·
            simp only [Act.put,s0_,s1_,s2_,i64_w,i32_w];rfl
           refine pure_ (i:=11) (N:=some 62) (v:=?_) (a':=?_) #[y_,y_,y_,y_,y_,y_,y_,y_,y_,y_,y_,y_,n_,n_,n_,n_,n_,n_] rfl rfl (any_of V.1 (by kernel_rfl)) (fun _ _ _ h=>h) (Or.inl ⟨by rfl,?_⟩) ?_ ?_;rotate_left
           ·
            intro w';go_simp;with_reducible rfl
           rotate_left
           ·
            simp only [Act.put,s0_,s1_,s2_,i64_w,i32_w];rfl
           refine pure_ (i:=12) (N:=some 63) (v:=?_) (a':=?_) #[y_,y_,y_,y_,y_,y_,y_,y_,y_,y_,y_,y_,y_,n_,n_,n_,n_,n_] rfl rfl (any_of V.1 (by kernel_rfl)) (fun _ _ _ h=>h) (Or.inl ⟨by rfl,?_⟩) ?_ ?_;rotate_left
           ·
            intro w';go_simp;with_reducible rfl
           rotate_left
           ·
            simp only [Act.put,s0_,s1_,s2_,i64_w,i32_w];rfl
           refine pure_ (i:=13) (N:=some 64) (v:=?_) (a':=?_) #[y_,y_,y_,y_,y_,y_,y_,y_,y_,y_,y_,y_,y_,y_,n_,n_,n_,n_] rfl rfl (any_of V.1 (by kernel_rfl)) (fun _ _ _ h=>h) (Or.inl ⟨by rfl,?_⟩) ?_ ?_;rotate_left
           ·
            intro w';go_simp;with_reducible rfl
           rotate_left
           ·
            simp only [Act.put,s0_,s1_,s2_,i64_w,i32_w];rfl
           refine one_ (i:=14) (N:=some 65) #[y_,y_,y_,y_,y_,y_,y_,y_,y_,y_,y_,y_,y_,y_,y_,n_,n_,n_] rfl rfl (one_of V.1 (by kernel_rfl)) (by decide) (fun K hK=>?_);refine goes_ Try.func55 (by kernel_rfl) rfl #[.slice (some ⟨g1,0,none⟩) [T,U,Z,a2].length 4,.slice (some ⟨b3,0,none⟩) [Q,O,L,J].length 4] (by rfl) rfl rfl (by (try simp only [m0_,m1_,m2_]);first|done|(rw [show [T,U,Z,a2].length=4 from rfl,show [Q,O,L,J].length=4 from rfl] <;> rfl)|rfl|(simp only [l0_,l1_];rfl)) ?_;with_reducible refine (slices_Compare_int_int.calls k2 _ _ [T,U,Z,a2] _ _ [Q,O,L,J] l9 _ ?side1 ?side2 ?side3 ?side4 t0.1).mono ?_
           (case side1=>exact Go.Proofs.MyWords.C_box (t:=67) (cs:=#[.int .i64 T,.int .i64 U,.int .i64 Z,.int .i64 a2]) E.1 (by rfl) (Nat.le_of_ble_eq_true rfl));(case side2=>exact Nat.le_refl _);(case side3=>exact Go.Proofs.MyWords.C_box (t:=67) (cs:=#[.int .i64 Q,.int .i64 O,.int .i64 L,.int .i64 J]) D.1 (by rfl) (Nat.le_of_ble_eq_true rfl));(case side4=>exact Nat.le_refl _);rintro e w' ⟨rfl,⟨nd,rfl⟩⟩;refine ⟨_,rfl,?_⟩;refine hK.out _ _ ⟨q0_ E,q1_ E,q2_ E,q3_ E,q0_ D,q1_ D,q2_ D,q3_ D⟩ (fun R=>?_);clear hK K;refine norm_ (a':=?_) ?_ ?_;rotate_left
           ·
            show Act.put _ (some 65) _=_;simp only [Act.put,s0_,s1_,s2_,i64_w,i32_w];rfl
           refine pure_ (i:=15) (N:=some 66) (v:=?_) (a':=?_) #[y_,y_,y_,y_,y_,y_,y_,y_,y_,y_,y_,y_,y_,y_,y_,y_,n_,n_] rfl rfl (any_of V.1 (by kernel_rfl)) (fun _ _ _ h=>h) (Or.inl ⟨by rfl,?_⟩) ?_ ?_;rotate_left
           ·
            intro w';go_simp;with_reducible rfl
           rotate_left
           ·
            simp only [Act.put,s0_,s1_,s2_,i64_w,i32_w];rfl
           refine pure_ (i:=16) (N:=some 67) (v:=?_) (a':=?_) #[y_,y_,y_,y_,y_,y_,y_,y_,y_,y_,y_,y_,y_,y_,y_,y_,y_,n_] rfl rfl (any_of V.1 (by kernel_rfl)) (fun _ _ _ h=>h) (Or.inl ⟨by rfl,?_⟩) ?_ ?_;rotate_left
           ·
            intro w';go_simp;with_reducible rfl
           rotate_left
           ·
            simp only [Act.put,s0_,s1_,s2_,i64_w,i32_w];rfl
           refine pure_ (i:=17) (N:=some 68) (v:=?_) (a':=?_) #[y_,y_,y_,y_,y_,y_,y_,y_,y_,y_,y_,y_,y_,y_,y_,y_,y_,y_] rfl rfl (any_of V.1 (by kernel_rfl)) (fun _ _ _ h=>h) (Or.inl ⟨by rfl,?_⟩) ?_ ?_;rotate_left
           ·
            intro w';go_simp;with_reducible rfl
           rotate_left
           ·
            simp only [Act.put,s0_,s1_,s2_,i64_w,i32_w];rfl
           refine done_ (done_of V.1 (by kernel_rfl)) ?_;have U2:=g4.1;have U3:=e4.1;have U4:=g5.1;have U5:=e5.1;have U6:=g6.1;have U7:=e6.1;have U8:=g7.1;have U9:=e7.1;have V0:=g0.1;have V1:=e1.1;have V2:=g8.1;have V3:=e8.1;have v7:=q0_ E;have v8:=q1_ E;have x0:=q2_ E;have x1:=q3_ E;have x2:=blk_frozen E.1 0;have x3:=blk_frozen E.1 1;have x4:=blk_frozen E.1 2;have x5:=blk_frozen E.1 3;have V4:=i5.1;have V5:=g9.1;have V6:=i6.1;have V7:=h0.1;have V8:=a5.1;have V9:=f3.1;have X0:=a6.1;have X1:=f4.1;have X2:=h9.1;have X3:=g3.1;have x6:=q0_ D;have x7:=q1_ D;have x8:=q2_ D;have x9:=q3_ D;have y0:=blk_frozen D.1 0;have y1:=blk_frozen D.1 1;have y2:=blk_frozen D.1 2;have y3:=blk_frozen D.1 3;try go_wp2
           go_roundg k2
           case measure=>have:=h1.1;have:=h2.1;omega
           case rel=>exact ⟨(e2),(wrap64 (b4 + 1)),(T),(U),(Z),(a2),(by first|rfl|(simp;done)|(simp [*];done)),(by first|rfl|(simp;done)|(simp [*];done)),H',⟨by have:=h1.1;have:=h2.1;omega⟩,⟨by (iterate 4 refine blk_far ?_ g9.1 _);exact C.1⟩,⟨by (iterate 4 refine blk_far ?_ h0.1 _);exact B.1⟩,⟨by (iterate 4 refine blk_far ?_ f3.1 _);exact F.1⟩,⟨by (iterate 4 refine blk_far ?_ f4.1 _);exact G.1⟩,⟨by (iterate 4 refine blk_far ?_ g3.1 _);exact I.1⟩,⟨by refine blk_put (cs:=#[.int .i64 T,.int .i64 U,.int .i64 Z,.int .i64 J]) ?_ 3 _ rfl;refine blk_put (cs:=#[.int .i64 T,.int .i64 U,.int .i64 L,.int .i64 J]) ?_ 2 _ rfl;refine blk_put (cs:=#[.int .i64 T,.int .i64 O,.int .i64 L,.int .i64 J]) ?_ 1 _ rfl;refine blk_put (cs:=#[.int .i64 Q,.int .i64 O,.int .i64 L,.int .i64 J]) ?_ 0 _ rfl;exact D.1⟩,⟨by repeat (first|(with_reducible first|exact HB.1|apply below_alloc|apply pw_below_drewN|apply below_drew1|refine below_set ?_ e9.1|refine below_set ?_ f0.1|refine below_set ?_ f1.1|refine below_set ?_ f2.1|refine below_set ?_ d7.1|refine below_set ?_ f9.1|refine below_set ?_ g2.1)|exact HB.1)⟩⟩
          ·
           rw [if_neg c103] at H;have c103b0:decide (l9 < 0)=false:=decide_eq_false c103;clear c103;have H':=mk0 H;clear H;try go_wp2
           replace C:=bdr C;replace B:=bdr B;replace F:=bdr F;replace G:=bdr G;replace I:=bdr I;replace D:=bdr D;replace E:=bdr E;replace HB:=hdr HB;refine start_ (n:=18) (S:=fun w'=>w'.cell? ⟨g1,0,none⟩=some (.int .i64 T)∧w'.cell? ⟨g1,1,none⟩=some (.int .i64 U)∧w'.cell? ⟨g1,2,none⟩=some (.int .i64 Z)∧w'.cell? ⟨g1,3,none⟩=some (.int .i64 a2)∧w'.cell? ⟨b3,0,none⟩=some (.int .i64 Q)∧w'.cell? ⟨b3,1,none⟩=some (.int .i64 O)∧w'.cell? ⟨b3,2,none⟩=some (.int .i64 L)∧w'.cell? ⟨b3,3,none⟩=some (.int .i64 J)) (ds:=[]) #[n_,n_,n_,n_,n_,n_,n_,n_,n_,n_,n_,n_,n_,n_,n_,n_,n_,n_] (by kernel_rfl) rfl rfl ⟨q0_ E,q1_ E,q2_ E,q3_ E,q0_ D,q1_ D,q2_ D,q3_ D⟩ (fun R=>?_);refine with_tabW norm_divide.tab17 norm_divide.bits17 (fun V j9=>?_);generalize wr.drew=El at C B F G I D E HB R ⊢;refine pure_ (i:=0) (N:=some 51) (v:=?_) (a':=?_) #[y_,n_,n_,n_,n_,n_,n_,n_,n_,n_,n_,n_,n_,n_,n_,n_,n_,n_] rfl rfl (any_of V.1 (by kernel_rfl)) (fun _ _ _ h=>h) (Or.inl ⟨by rfl,?_⟩) ?_ ?_;rotate_left
           ·
            intro w';go_simp;with_reducible rfl
           rotate_left
           ·
            simp only [Act.put,s0_,s1_,s2_,i64_w,i32_w];rfl
           refine pure_ (i:=1) (N:=some 52) (v:=?_) (a':=?_) #[y_,y_,n_,n_,n_,n_,n_,n_,n_,n_,n_,n_,n_,n_,n_,n_,n_,n_] rfl rfl (any_of V.1 (by kernel_rfl)) (fun _ _ _ h=>h) (Or.inl ⟨by rfl,?_⟩) ?_ ?_;rotate_left
           ·
            intro w';go_simp;with_reducible rfl
           rotate_left
           ·
            simp only [Act.put,s0_,s1_,s2_,i64_w,i32_w];rfl
           refine pure_ (i:=2) (N:=some 53) (v:=?_) (a':=?_) #[y_,y_,y_,n_,n_,n_,n_,n_,n_,n_,n_,n_,n_,n_,n_,n_,n_,n_] rfl rfl (any_of V.1 (by kernel_rfl)) (fun _ _ _ h=>h) (Or.inl ⟨by rfl,?_⟩) ?_ ?_;rotate_left
           ·
            intro w';go_simp;with_reducible rfl
           rotate_left
           ·
            simp only [Act.put,s0_,s1_,s2_,i64_w,i32_w];rfl
           refine pure_ (i:=3) (N:=some 54) (v:=?_) (a':=?_) #[y_,y_,y_,y_,n_,n_,n_,n_,n_,n_,n_,n_,n_,n_,n_,n_,n_,n_] rfl rfl (any_of V.1 (by kernel_rfl)) (fun _ _ _ h=>h) (Or.inl ⟨by rfl,?_⟩) ?_ ?_;rotate_left
           ·
            intro w';go_simp;with_reducible rfl
           rotate_left
           ·
            simp only [Act.put,s0_,s1_,s2_,i64_w,i32_w];rfl
           refine pure_ (i:=4) (N:=some 55) (v:=?_) (a':=?_) #[y_,y_,y_,y_,y_,n_,n_,n_,n_,n_,n_,n_,n_,n_,n_,n_,n_,n_] rfl rfl (any_of V.1 (by kernel_rfl)) (fun _ _ _ h=>h) (Or.inl ⟨by rfl,?_⟩) ?_ ?_;rotate_left
           ·
            intro w';go_simp;with_reducible rfl
           rotate_left
           ·
            simp only [Act.put,s0_,s1_,s2_,i64_w,i32_w];rfl
           refine pure_ (i:=5) (N:=some 56) (v:=?_) (a':=?_) #[y_,y_,y_,y_,y_,y_,n_,n_,n_,n_,n_,n_,n_,n_,n_,n_,n_,n_] rfl rfl (any_of V.1 (by kernel_rfl)) (fun _ _ _ h=>h) (Or.inl ⟨by rfl,?_⟩) ?_ ?_;rotate_left
           ·
            intro w';go_simp;with_reducible rfl
           rotate_left
           ·
            simp only [Act.put,s0_,s1_,s2_,i64_w,i32_w];rfl
           refine pure_ (i:=6) (N:=some 57) (v:=?_) (a':=?_) #[y_,y_,y_,y_,y_,y_,y_,n_,n_,n_,n_,n_,n_,n_,n_,n_,n_,n_] rfl rfl (any_of V.1 (by kernel_rfl)) (fun _ _ _ h=>h) (Or.inl ⟨by rfl,?_⟩) ?_ ?_;rotate_left
           ·
            intro w';go_simp;with_reducible rfl
           rotate_left
           ·
            simp only [Act.put,s0_,s1_,s2_,i64_w,i32_w];rfl
           refine pure_ (i:=7) (N:=some 58) (v:=?_) (a':=?_) #[y_,y_,y_,y_,y_,y_,y_,y_,n_,n_,n_,n_,n_,n_,n_,n_,n_,n_] rfl rfl (any_of V.1 (by kernel_rfl)) (fun _ _ _ h=>h) (Or.inl ⟨by rfl,?_⟩) ?_ ?_;rotate_left
           ·
            intro w';go_simp;with_reducible rfl
           rotate_left
           ·
            simp only [Act.put,s0_,s1_,s2_,i64_w,i32_w];rfl
           refine pure_ (i:=8) (N:=some 59) (v:=?_) (a':=?_) #[y_,y_,y_,y_,y_,y_,y_,y_,y_,n_,n_,n_,n_,n_,n_,n_,n_,n_] rfl rfl (any_of V.1 (by kernel_rfl)) (fun _ _ _ h=>h) (Or.inl ⟨by rfl,?_⟩) ?_ ?_;rotate_left
           ·
            intro w';go_simp;with_reducible rfl
           rotate_left
           ·
            simp only [Act.put,s0_,s1_,s2_,i64_w,i32_w];rfl
           refine pure_ (i:=9) (N:=some 60) (v:=?_) (a':=?_) #[y_,y_,y_,y_,y_,y_,y_,y_,y_,y_,n_,n_,n_,n_,n_,n_,n_,n_] rfl rfl (any_of V.1 (by kernel_rfl)) (fun _ _ _ h=>h) (Or.inl ⟨by rfl,?_⟩) ?_ ?_;rotate_left
           ·
            intro w';go_simp;with_reducible rfl
           rotate_left
           ·
            simp only [Act.put,s0_,s1_,s2_,i64_w,i32_w];rfl
           refine pure_ (i:=10) (N:=some 61) (v:=?_) (a':=?_) #[y_,y_,y_,y_,y_,y_,y_,y_,y_,y_,y_,n_,n_,n_,n_,n_,n_,n_] rfl rfl (any_of V.1 (by kernel_rfl)) (fun _ _ _ h=>h) (Or.inl ⟨by rfl,?_⟩) ?_ ?_;rotate_left
           ·
            intro w';go_simp;with_reducible rfl
           rotate_left
           ·
            simp only [Act.put,s0_,s1_,s2_,i64_w,i32_w];rfl
           refine pure_ (i:=11) (N:=some 62) (v:=?_) (a':=?_) #[y_,y_,y_,y_,y_,y_,y_,y_,y_,y_,y_,y_,n_,n_,n_,n_,n_,n_] rfl rfl (any_of V.1 (by kernel_rfl)) (fun _ _ _ h=>h) (Or.inl ⟨by rfl,?_⟩) ?_ ?_;rotate_left
           ·
            intro w';go_simp;with_reducible rfl
           rotate_left
           ·
            simp only [Act.put,s0_,s1_,s2_,i64_w,i32_w];rfl
           refine pure_ (i:=12) (N:=some 63) (v:=?_) (a':=?_) #[y_,y_,y_,y_,y_,y_,y_,y_,y_,y_,y_,y_,y_,n_,n_,n_,n_,n_] rfl rfl (any_of V.1 (by kernel_rfl)) (fun _ _ _ h=>h) (Or.inl ⟨by rfl,?_⟩) ?_ ?_;rotate_left
           ·
            intro w';go_simp;with_reducible rfl
           rotate_left
           ·
            simp only [Act.put,s0_,s1_,s2_,i64_w,i32_w];rfl
           refine pure_ (i:=13) (N:=some 64) (v:=?_) (a':=?_) #[y_,y_,y_,y_,y_,y_,y_,y_,y_,y_,y_,y_,y_,y_,n_,n_,n_,n_] rfl rfl (any_of V.1 (by kernel_rfl)) (fun _ _ _ h=>h) (Or.inl ⟨by rfl,?_⟩) ?_ ?_;rotate_left
           ·
            intro w';go_simp;with_reducible rfl
           rotate_left
           ·
            simp only [Act.put,s0_,s1_,s2_,i64_w,i32_w];rfl
           refine one_ (i:=14) (N:=some 65) #[y_,y_,y_,y_,y_,y_,y_,y_,y_,y_,y_,y_,y_,y_,y_,n_,n_,n_] rfl rfl (one_of V.1 (by kernel_rfl)) (by decide) (fun K hK=>?_);refine goes_ Try.func55 (by kernel_rfl) rfl #[.slice (some ⟨g1,0,none⟩) [T,U,Z,a2].length 4,.slice (some ⟨b3,0,none⟩) [Q,O,L,J].length 4] (by rfl) rfl rfl (by (try simp only [m0_,m1_,m2_]);first|done|(rw [show [T,U,Z,a2].length=4 from rfl,show [Q,O,L,J].length=4 from rfl] <;> rfl)|rfl|(simp only [l0_,l1_];rfl)) ?_;with_reducible refine (slices_Compare_int_int.calls k2 _ _ [T,U,Z,a2] _ _ [Q,O,L,J] l9 _ ?side1 ?side2 ?side3 ?side4 t0.1).mono ?_
           (case side1=>exact Go.Proofs.MyWords.C_box (t:=67) (cs:=#[.int .i64 T,.int .i64 U,.int .i64 Z,.int .i64 a2]) E.1 (by rfl) (Nat.le_of_ble_eq_true rfl));(case side2=>exact Nat.le_refl _);(case side3=>exact Go.Proofs.MyWords.C_box (t:=67) (cs:=#[.int .i64 Q,.int .i64 O,.int .i64 L,.int .i64 J]) D.1 (by rfl) (Nat.le_of_ble_eq_true rfl));(case side4=>exact Nat.le_refl _);rintro e w' ⟨rfl,⟨nd,rfl⟩⟩;refine ⟨_,rfl,?_⟩;refine hK.out _ _ ⟨q0_ E,q1_ E,q2_ E,q3_ E,q0_ D,q1_ D,q2_ D,q3_ D⟩ (fun R=>?_);clear hK K;refine norm_ (a':=?_) ?_ ?_;rotate_left
           ·
            show Act.put _ (some 65) _=_;simp only [Act.put,s0_,s1_,s2_,i64_w,i32_w];rfl
           refine pure_ (i:=15) (N:=some 66) (v:=?_) (a':=?_) #[y_,y_,y_,y_,y_,y_,y_,y_,y_,y_,y_,y_,y_,y_,y_,y_,n_,n_] rfl rfl (any_of V.1 (by kernel_rfl)) (fun _ _ _ h=>h) (Or.inl ⟨by rfl,?_⟩) ?_ ?_;rotate_left
           ·
            intro w';go_simp;with_reducible rfl
           rotate_left
           ·
            simp only [Act.put,s0_,s1_,s2_,i64_w,i32_w];rfl
           refine pure_ (i:=16) (N:=some 67) (v:=?_) (a':=?_) #[y_,y_,y_,y_,y_,y_,y_,y_,y_,y_,y_,y_,y_,y_,y_,y_,y_,n_] rfl rfl (any_of V.1 (by kernel_rfl)) (fun _ _ _ h=>h) (Or.inl ⟨by rfl,?_⟩) ?_ ?_;rotate_left
           ·
            intro w';go_simp;with_reducible rfl
           rotate_left
           ·
            simp only [Act.put,s0_,s1_,s2_,i64_w,i32_w];rfl
           refine pure_ (i:=17) (N:=some 68) (v:=?_) (a':=?_) #[y_,y_,y_,y_,y_,y_,y_,y_,y_,y_,y_,y_,y_,y_,y_,y_,y_,y_] rfl rfl (any_of V.1 (by kernel_rfl)) (fun _ _ _ h=>h) (Or.inl ⟨by rfl,?_⟩) ?_ ?_;rotate_left
           ·
            intro w';go_simp;with_reducible rfl
           rotate_left
           ·
            simp only [Act.put,s0_,s1_,s2_,i64_w,i32_w];rfl
           refine done_ (done_of V.1 (by kernel_rfl)) ?_;try go_wp2
           go_roundg k2
           case measure=>have:=h1.1;have:=h2.1;omega
           case rel=>exact ⟨(f8),(wrap64 (b4 + 1)),(Q),(O),(L),(J),(by first|rfl|(simp;done)|(simp [*];done)),(by first|rfl|(simp;done)|(simp [*];done)),H',⟨by have:=h1.1;have:=h2.1;omega⟩,⟨by exact C.1⟩,⟨by exact B.1⟩,⟨by exact F.1⟩,⟨by exact G.1⟩,⟨by exact I.1⟩,⟨by exact D.1⟩,⟨by repeat (first|(with_reducible first|exact HB.1|apply below_alloc|apply pw_below_drewN|apply below_drew1|refine below_set ?_ e9.1|refine below_set ?_ f0.1|refine below_set ?_ f1.1|refine below_set ?_ f2.1|refine below_set ?_ d7.1|refine below_set ?_ f9.1|refine below_set ?_ g2.1)|exact HB.1)⟩⟩
         ·
          rw [if_neg c101] at H;have c101b0:(e2 == f8)=false:=beq_eq_false_iff_ne.mpr c101;have c101b1:(e2 != f8)=true:=bne_iff_ne.mpr c101;have H':=mk0 H;clear H;try go_wp2
          replace C:=bdr C;replace B:=bdr B;replace F:=bdr F;replace G:=bdr G;replace I:=bdr I;replace D:=bdr D;replace E:=bdr E;replace HB:=hdr HB;refine start_ (n:=18) (S:=fun w'=>True) (ds:=[]) #[n_,n_,n_,n_,n_,n_,n_,n_,n_,n_,n_,n_,n_,n_,n_,n_,n_,n_] (by kernel_rfl) rfl rfl trivial (fun R=>?_);refine with_tabW norm_divide.tab17 norm_divide.bits17 (fun V j9=>?_);generalize wr.drew=Em at C B F G I D E HB R ⊢;refine pure_ (i:=0) (N:=some 51) (v:=?_) (a':=?_) #[y_,n_,n_,n_,n_,n_,n_,n_,n_,n_,n_,n_,n_,n_,n_,n_,n_,n_] rfl rfl (any_of V.1 (by kernel_rfl)) (fun _ _ _ h=>h) (Or.inl ⟨by rfl,?_⟩) ?_ ?_;rotate_left
          ·
           intro w';go_simp;with_reducible rfl
          rotate_left
          ·
           simp only [Act.put,s0_,s1_,s2_,i64_w,i32_w];rfl
          refine pure_ (i:=1) (N:=some 52) (v:=?_) (a':=?_) #[y_,y_,n_,n_,n_,n_,n_,n_,n_,n_,n_,n_,n_,n_,n_,n_,n_,n_] rfl rfl (any_of V.1 (by kernel_rfl)) (fun _ _ _ h=>h) (Or.inl ⟨by rfl,?_⟩) ?_ ?_;rotate_left
          ·
           intro w';go_simp;with_reducible rfl
          rotate_left
          ·
           simp only [Act.put,s0_,s1_,s2_,i64_w,i32_w];rfl
          refine pure_ (i:=2) (N:=some 53) (v:=?_) (a':=?_) #[y_,y_,y_,n_,n_,n_,n_,n_,n_,n_,n_,n_,n_,n_,n_,n_,n_,n_] rfl rfl (any_of V.1 (by kernel_rfl)) (fun _ _ _ h=>h) (Or.inl ⟨by rfl,?_⟩) ?_ ?_;rotate_left
          ·
           intro w';go_simp;with_reducible rfl
          rotate_left
          ·
           simp only [Act.put,s0_,s1_,s2_,i64_w,i32_w];rfl
          refine pure_ (i:=3) (N:=some 54) (v:=?_) (a':=?_) #[y_,y_,y_,y_,n_,n_,n_,n_,n_,n_,n_,n_,n_,n_,n_,n_,n_,n_] rfl rfl (any_of V.1 (by kernel_rfl)) (fun _ _ _ h=>h) (Or.inl ⟨by rfl,?_⟩) ?_ ?_;rotate_left
          ·
           intro w';go_simp;with_reducible rfl
          rotate_left
          ·
           simp only [Act.put,s0_,s1_,s2_,i64_w,i32_w];rfl
          refine pure_ (i:=4) (N:=some 55) (v:=?_) (a':=?_) #[y_,y_,y_,y_,y_,n_,n_,n_,n_,n_,n_,n_,n_,n_,n_,n_,n_,n_] rfl rfl (any_of V.1 (by kernel_rfl)) (fun _ _ _ h=>h) (Or.inl ⟨by rfl,?_⟩) ?_ ?_;rotate_left
          ·
           intro w';go_simp;with_reducible rfl
          rotate_left
          ·
           simp only [Act.put,s0_,s1_,s2_,i64_w,i32_w];rfl
          refine pure_ (i:=5) (N:=some 56) (v:=?_) (a':=?_) #[y_,y_,y_,y_,y_,y_,n_,n_,n_,n_,n_,n_,n_,n_,n_,n_,n_,n_] rfl rfl (any_of V.1 (by kernel_rfl)) (fun _ _ _ h=>h) (Or.inl ⟨by rfl,?_⟩) ?_ ?_;rotate_left
          ·
           intro w';go_simp;with_reducible rfl
          rotate_left
          ·
           simp only [Act.put,s0_,s1_,s2_,i64_w,i32_w];rfl
          refine pure_ (i:=6) (N:=some 57) (v:=?_) (a':=?_) #[y_,y_,y_,y_,y_,y_,y_,n_,n_,n_,n_,n_,n_,n_,n_,n_,n_,n_] rfl rfl (any_of V.1 (by kernel_rfl)) (fun _ _ _ h=>h) (Or.inl ⟨by rfl,?_⟩) ?_ ?_;rotate_left
          ·
           intro w';go_simp;with_reducible rfl
          rotate_left
          ·
           simp only [Act.put,s0_,s1_,s2_,i64_w,i32_w];rfl
          refine pure_ (i:=7) (N:=some 58) (v:=?_) (a':=?_) #[y_,y_,y_,y_,y_,y_,y_,y_,n_,n_,n_,n_,n_,n_,n_,n_,n_,n_] rfl rfl (any_of V.1 (by kernel_rfl)) (fun _ _ _ h=>h) (Or.inl ⟨by rfl,?_⟩) ?_ ?_;rotate_left
          ·
           intro w';go_simp;with_reducible rfl
          rotate_left
          ·
           simp only [Act.put,s0_,s1_,s2_,i64_w,i32_w];rfl
          refine pure_ (i:=8) (N:=some 59) (v:=?_) (a':=?_) #[y_,y_,y_,y_,y_,y_,y_,y_,y_,n_,n_,n_,n_,n_,n_,n_,n_,n_] rfl rfl (any_of V.1 (by kernel_rfl)) (fun _ _ _ h=>h) (Or.inl ⟨by rfl,?_⟩) ?_ ?_;rotate_left
          ·
           intro w';go_simp;with_reducible rfl
          rotate_left
          ·
           simp only [Act.put,s0_,s1_,s2_,i64_w,i32_w];rfl
          refine pure_ (i:=9) (N:=some 60) (v:=?_) (a':=?_) #[y_,y_,y_,y_,y_,y_,y_,y_,y_,y_,n_,n_,n_,n_,n_,n_,n_,n_] rfl rfl (any_of V.1 (by kernel_rfl)) (fun _ _ _ h=>h) (Or.inl ⟨by rfl,?_⟩) ?_ ?_;rotate_left
          ·
           intro w';go_simp;with_reducible rfl
          rotate_left
          ·
           simp only [Act.put,s0_,s1_,s2_,i64_w,i32_w];rfl
          refine pure_ (i:=10) (N:=some 61) (v:=?_) (a':=?_) #[y_,y_,y_,y_,y_,y_,y_,y_,y_,y_,y_,n_,n_,n_,n_,n_,n_,n_] rfl rfl (any_of V.1 (by kernel_rfl)) (fun _ _ _ h=>h) (Or.inl ⟨by rfl,?_⟩) ?_ ?_;rotate_left
          ·
           intro w';go_simp;with_reducible rfl
          rotate_left
          ·
           simp only [Act.put,s0_,s1_,s2_,i64_w,i32_w];rfl
          refine pure_ (i:=11) (N:=some 62) (v:=?_) (a':=?_) #[y_,y_,y_,y_,y_,y_,y_,y_,y_,y_,y_,y_,n_,n_,n_,n_,n_,n_] rfl rfl (any_of V.1 (by kernel_rfl)) (fun _ _ _ h=>h) (Or.inl ⟨by rfl,?_⟩) ?_ ?_;rotate_left
          ·
           intro w';go_simp;with_reducible rfl
          rotate_left
          ·
           simp only [Act.put,s0_,s1_,s2_,i64_w,i32_w];rfl
          refine pure_ (i:=12) (N:=some 63) (v:=undef) (a':=?_) #[y_,y_,y_,y_,y_,y_,y_,y_,y_,y_,y_,y_,y_,n_,n_,n_,n_,n_] rfl rfl (any_of V.1 (by kernel_rfl)) (fun _ _ _ h=>h) (Or.inr ⟨by rfl,rfl⟩) ?_ ?_;rotate_left
          ·
           simp only [Act.put,s0_,s1_,s2_,i64_w,i32_w];rfl
          refine pure_ (i:=13) (N:=some 64) (v:=undef) (a':=?_) #[y_,y_,y_,y_,y_,y_,y_,y_,y_,y_,y_,y_,y_,y_,n_,n_,n_,n_] rfl rfl (any_of V.1 (by kernel_rfl)) (fun _ _ _ h=>h) (Or.inr ⟨by rfl,rfl⟩) ?_ ?_;rotate_left
          ·
           simp only [Act.put,s0_,s1_,s2_,i64_w,i32_w];rfl
          refine pure_ (i:=14) (N:=some 65) (v:=undef) (a':=?_) #[y_,y_,y_,y_,y_,y_,y_,y_,y_,y_,y_,y_,y_,y_,y_,n_,n_,n_] rfl rfl (any_of V.1 (by kernel_rfl)) (fun _ _ _ h=>h) (Or.inr ⟨by rfl,rfl⟩) ?_ ?_;rotate_left
          ·
           simp only [Act.put,s0_,s1_,s2_,i64_w,i32_w];rfl
          refine pure_ (i:=15) (N:=some 66) (v:=undef) (a':=?_) #[y_,y_,y_,y_,y_,y_,y_,y_,y_,y_,y_,y_,y_,y_,y_,y_,n_,n_] rfl rfl (any_of V.1 (by kernel_rfl)) (fun _ _ _ h=>h) (Or.inr ⟨by rfl,rfl⟩) ?_ ?_;rotate_left
          ·
           simp only [Act.put,s0_,s1_,s2_,i64_w,i32_w];rfl
          refine pure_ (i:=16) (N:=some 67) (v:=?_) (a':=?_) #[y_,y_,y_,y_,y_,y_,y_,y_,y_,y_,y_,y_,y_,y_,y_,y_,y_,n_] rfl rfl (any_of V.1 (by kernel_rfl)) (fun _ _ _ h=>h) (Or.inl ⟨by rfl,?_⟩) ?_ ?_;rotate_left
          ·
           intro w';go_simp;with_reducible rfl
          rotate_left
          ·
           simp only [Act.put,s0_,s1_,s2_,i64_w,i32_w];rfl
          refine pure_ (i:=17) (N:=some 68) (v:=?_) (a':=?_) #[y_,y_,y_,y_,y_,y_,y_,y_,y_,y_,y_,y_,y_,y_,y_,y_,y_,y_] rfl rfl (any_of V.1 (by kernel_rfl)) (fun _ _ _ h=>h) (Or.inl ⟨by rfl,?_⟩) ?_ ?_;rotate_left
          ·
           intro w';go_simp;with_reducible rfl
          rotate_left
          ·
           simp only [Act.put,s0_,s1_,s2_,i64_w,i32_w];rfl
          refine done_ (done_of V.1 (by kernel_rfl)) ?_;try go_wp2
          go_roundg k2
          case measure=>have:=h1.1;have:=h2.1;omega
          case rel=>exact ⟨(f8),(wrap64 (b4 + 1)),(Q),(O),(L),(J),(by first|rfl|(simp;done)|(simp [*];done)),(by first|rfl|(simp;done)|(simp [*];done)),H',⟨by have:=h1.1;have:=h2.1;omega⟩,⟨by exact C.1⟩,⟨by exact B.1⟩,⟨by exact F.1⟩,⟨by exact G.1⟩,⟨by exact I.1⟩,⟨by exact D.1⟩,⟨by repeat (first|(with_reducible first|exact HB.1|apply below_alloc|apply pw_below_drewN|apply below_drew1|refine below_set ?_ e9.1|refine below_set ?_ f0.1|refine below_set ?_ f1.1|refine below_set ?_ f2.1|refine below_set ?_ d7.1|refine below_set ?_ f9.1|refine below_set ?_ g2.1)|exact HB.1)⟩⟩
   ·
    rw [if_neg c25] at H;have c25b0:decide (b4 < 2)=false:=decide_eq_false c25;clear c25;obtain ⟨o0,l2⟩:∃ y_:List (S67),y_=(([(⟨Q,O,L,J⟩:S67),(⟨b8,b9,c0,c5⟩:S67)]:List (S67))):=⟨_,rfl⟩
    replace H:((norm_product.f k1 o0).bind fun l6=>((norm_quat_minus.f k1 d1 d2 d3 d4 l6.1 l6.2.1 l6.2.2.1 l6.2.2.2).bind fun l7=>(some (Q,O,L,J,l7.1,l7.2.1,l7.2.2.1,l7.2.2.2))))=some (r1,r2,r3,r4,r5,r6,r7,r8):=by first|(rw [l2];with_reducible exact H)|(have t1:=(Option.bind_some _ _).symm.trans H;rw [l2];with_reducible exact t1)|(have t1:=(Option.bind_some _ _).symm.trans H;with_reducible exact t1)|with_reducible exact H|(rw [l2];exact H)|exact H
    have o7:=mk0 l2;clear l2;replace H:=Option.bind_eq_some_iff.mp H;obtain ⟨⟨o1,o2,o3,o4⟩,o8,H⟩:=H;(try dsimp only at H);have y4:=mk0 o8;clear o8;replace H:=Option.bind_eq_some_iff.mp H;obtain ⟨⟨m0,n7,o5,t2⟩,o9,H⟩:=H;(try dsimp only at H);have y5:=mk0 o9;clear o9;simp only [Option.some.injEq,Prod.mk.injEq] at H;obtain ⟨rfl,rfl,rfl,rfl,rfl,rfl,rfl,rfl⟩:=H;try go_wp2
    replace C:=bdr C;replace B:=bdr B;replace F:=bdr F;replace G:=bdr G;replace I:=bdr I;replace D:=bdr D;replace HB:=hdr HB;refine start_ (n:=9) (S:=fun w'=>w'.cell? ⟨b3,0,none⟩=some (.int .i64 Q)∧w'.cell? ⟨b3,1,none⟩=some (.int .i64 O)∧w'.cell? ⟨b3,2,none⟩=some (.int .i64 L)∧w'.cell? ⟨b3,3,none⟩=some (.int .i64 J)∧w'.cell? ⟨d5,0,none⟩=some (.int .i64 d1)∧w'.cell? ⟨d5,1,none⟩=some (.int .i64 d2)∧w'.cell? ⟨d5,2,none⟩=some (.int .i64 d3)∧w'.cell? ⟨d5,3,none⟩=some (.int .i64 d4)∧w'.cell? ⟨d6,0,none⟩=some (.int .i64 b8)∧w'.cell? ⟨d6,1,none⟩=some (.int .i64 b9)∧w'.cell? ⟨d6,2,none⟩=some (.int .i64 c0)∧w'.cell? ⟨d6,3,none⟩=some (.int .i64 c5)) (ds:=[]) #[n_,n_,n_,n_,n_,n_,n_,n_,n_] (by kernel_rfl) rfl rfl ⟨q0_ D,q1_ D,q2_ D,q3_ D,q0_ C,q1_ C,q2_ C,q3_ C,q0_ B,q1_ B,q2_ B,q3_ B⟩ (fun R=>?_);refine with_tabW norm_divide.tab20 norm_divide.bits20 (fun V j9=>?_);generalize wr.drew=En at C B F G I D HB R ⊢;refine take_ (i:=0) (N:=some 72) (v:=?_) (a':=?_) #[y_,n_,n_,n_,n_,n_,n_,n_,n_] rfl rfl (take_ofW V.1 j9.1 (by kernel_rfl)) (fun _ _ _ h=>h) (Or.inl ⟨by rfl,?_⟩) R ?_ ?_;rotate_left
    ·
     rintro w' ⟨s0,s1,s2,s3,s4,s5,s6,s7,s8,s9,t3,t4⟩;go_simp;with_reducible rfl
    rotate_left
    ·
     simp only [Act.put,s0_,s1_,s2_,i64_w,i32_w];rfl
    refine take_ (i:=1) (N:=some 73) (v:=?_) (a':=?_) #[y_,y_,n_,n_,n_,n_,n_,n_,n_] rfl rfl (take_ofW V.1 j9.1 (by kernel_rfl)) (fun _ _ _ h=>h) (Or.inl ⟨by rfl,?_⟩) R ?_ ?_;rotate_left
    ·
     rintro w' ⟨s0,s1,s2,s3,s4,s5,s6,s7,s8,s9,t3,t4⟩;go_simp;with_reducible rfl
    rotate_left
    ·
     simp only [Act.put,s0_,s1_,s2_,i64_w,i32_w];rfl
    refine take_ (i:=2) (N:=some 74) (v:=?_) (a':=?_) #[y_,y_,y_,n_,n_,n_,n_,n_,n_] rfl rfl (take_ofW V.1 j9.1 (by kernel_rfl)) (fun _ _ _ h=>h) (Or.inl ⟨by rfl,?_⟩) R ?_ ?_;rotate_left
    ·
     rintro w' ⟨s0,s1,s2,s3,s4,s5,s6,s7,s8,s9,t3,t4⟩;go_simp;with_reducible rfl
    rotate_left
    ·
     simp only [Act.put,s0_,s1_,s2_,i64_w,i32_w];rfl
    refine take_ (i:=3) (N:=some 75) (v:=?_) (a':=?_) #[y_,y_,y_,y_,n_,n_,n_,n_,n_] rfl rfl (take_ofW V.1 j9.1 (by kernel_rfl)) (fun _ _ _ h=>h) (Or.inl ⟨by rfl,?_⟩) R ?_ ?_;rotate_left
    ·
     rintro w' ⟨s0,s1,s2,s3,s4,s5,s6,s7,s8,s9,t3,t4⟩;go_simp;with_reducible rfl
    rotate_left
    ·
     simp only [Act.put,s0_,s1_,s2_,i64_w,i32_w];rfl
    refine one_ (i:=4) (N:=some 76) #[y_,y_,y_,y_,y_,n_,n_,n_,n_] rfl rfl (one_of V.1 (by kernel_rfl)) (by decide) (fun K hK=>?_);refine Kd.R_lit_step k67 _ 67 ?hg (N:=76) ?hd (xs:=([(⟨Q,O,L,J⟩:S67),(⟨b8,b9,c0,c5⟩:S67)]:List (S67))) (inner:=[.int .i64 Q,.int .i64 O,.int .i64 L,.int .i64 J,.int .i64 b8,.int .i64 b9,.int .i64 c0,.int .i64 c5]) (ok:=fun _=>True) (okp:=fun _=>True) ?hr ?hp (fun _ hk=>hk) trivial (Below.refl _ _) (Nat.le_refl _) (by simp) ?_;(case hd=>rfl);(case hg=>rfl);(case hr=>first|(go_simp;done)|(go_simp;rfl));(case hp=>exact (Reps.c4 (show Kd.M k67 _ _ _ (⟨Q,O,L,J⟩:S67) [.int .i64 Q,.int .i64 O,.int .i64 L,.int .i64 J] from (k67_mkM _ _ _ (⟨Q,O,L,J⟩:S67) )) (Reps.c4 (show Kd.M k67 _ _ _ (⟨b8,b9,c0,c5⟩:S67) [.int .i64 b8,.int .i64 b9,.int .i64 c0,.int .i64 c5] from (k67_mkM _ _ _ (⟨b8,b9,c0,c5⟩:S67) )) (Reps.none _ _))));intro Eo Ep l3 hb hg_ u0;clear hg_ u0;(first|rw [← o7.1] at l3|(simp only [Int.reduceToNat] at l3;rw [← o7.1] at l3));have i4:=mk0 (Kd.R_lower (Kd.R_newB (Kd.R_newB (Kd.R_newB (Kd.R_newB (Kd.R_newB (Kd.R_newB l3 (g:=d5) (o:=.cells #[.int .i64 d1,.int .i64 d2,.int .i64 d3,.int .i64 d4] 67 (0,0)) C.1) (g:=d6) (o:=.cells #[.int .i64 b8,.int .i64 b9,.int .i64 c0,.int .i64 c5] 67 (0,0)) B.1) (g:=X) (o:=.cells #[.int .i64 0,.int .i64 0,.int .i64 0,.int .i64 0] 67 (0,0)) F.1) (g:=Y) (o:=.cells #[.int .i64 0,.int .i64 0,.int .i64 0,.int .i64 0] 67 (0,0)) G.1) (g:=a3) (o:=.cells #[.int .i64 b5,.int .i64 c8,.int .i64 d0,.int .i64 d8] 67 (0,0)) I.1) (g:=b3) (o:=.cells #[.int .i64 Q,.int .i64 O,.int .i64 L,.int .i64 J] 67 (0,0)) D.1) (below_size HB.1));replace C:=bkb C hb;replace B:=bkb B hb;replace F:=bkb F hb;replace G:=bkb G hb;replace I:=bkb I hb;replace D:=bkb D hb;replace HB:=bst HB hb;clear hb l3;obtain ⟨u1,u2,p0⟩:=Kd.R_slice i4.1;(first|subst p0|(injection p0 with f1_ f2_ f3_;have X4:=f1_.symm;have X5:=f3_.symm;clear f1_ f2_ f3_;subst X4;subst X5));refine hK.out _ _ ⟨q0_ D,q1_ D,q2_ D,q3_ D,q0_ C,q1_ C,q2_ C,q3_ C,q0_ B,q1_ B,q2_ B,q3_ B⟩ (fun R=>?_);clear hK K;refine norm_ (a':=?_) ?_ ?_;rotate_left
    ·
     show Act.put _ (some 76) _=_;simp only [Act.put,s0_,s1_,s2_,i64_w,i32_w];rfl
    refine one_ (i:=5) (N:=some 77) #[y_,y_,y_,y_,y_,y_,n_,n_,n_] rfl rfl (one_of V.1 (by kernel_rfl)) (by decide) (fun K hK=>?_);refine goes_ Try.func54 (by kernel_rfl) rfl #[.slice u1 o0.length u2] (by rfl) rfl rfl (by (try simp only [m0_,m1_,m2_]);first|done|rfl|(simp only [l0_,l1_];rfl)) ?_;with_reducible refine (norm_product.calls k1 _ _ o0 o1 o2 o3 o4 _ ?side1 ?side2 y4.1).mono ?_
    (case side1=>repeat (first|exact (Kd.R_reads' i4.1).2.2|(with_reducible refine Kd.C_alloc ?_ _)|(with_reducible refine Kd.C_drewN ?_ _)|(with_reducible refine Kd.C_drew ?_)));(case side2=>exact (Kd.R_reads' i4.1).2.1);rintro e Eq ⟨rfl,hb⟩;refine ⟨_,rfl,?_⟩;replace i4:=rbl i4 hb;replace C:=bkb C hb;replace B:=bkb B hb;replace F:=bkb F hb;replace G:=bkb G hb;replace I:=bkb I hb;replace D:=bkb D hb;replace HB:=bst HB hb;(try clear hb);(try clear hk);refine hK.out _ _ ⟨q0_ D,q1_ D,q2_ D,q3_ D,q0_ C,q1_ C,q2_ C,q3_ C,q0_ B,q1_ B,q2_ B,q3_ B⟩ (fun R=>?_);clear hK K;refine norm_ (a':=?_) ?_ ?_;rotate_left
    ·
     show Act.put _ (some 77) _=_;simp only [Act.put,s0_,s1_,s2_,i64_w,i32_w];rfl
    refine one_ (i:=6) (N:=some 78) #[y_,y_,y_,y_,y_,y_,y_,n_,n_] rfl rfl (one_of V.1 (by kernel_rfl)) (by decide) (fun K hK=>?_);refine goes_ Try.func73 (by kernel_rfl) rfl #[.agg #[.int .i64 d1,.int .i64 d2,.int .i64 d3,.int .i64 d4],.agg #[.int .i64 o1,.int .i64 o2,.int .i64 o3,.int .i64 o4]] (by rfl) rfl rfl (by (try simp only [m0_,m1_,m2_]);first|done|rfl|(simp only [l0_,l1_];rfl)) ?_;with_reducible refine (norm_quat_minus.calls k1 d1 d2 d3 d4 o1 o2 o3 o4 m0 n7 o5 t2 _ y5.1).mono ?_
    rintro e Er ⟨rfl,hb⟩;refine ⟨_,rfl,?_⟩;replace i4:=rbl i4 hb;replace C:=bkb C hb;replace B:=bkb B hb;replace F:=bkb F hb;replace G:=bkb G hb;replace I:=bkb I hb;replace D:=bkb D hb;replace HB:=bst HB hb;(try clear hb);refine hK.out _ _ ⟨q0_ D,q1_ D,q2_ D,q3_ D,q0_ C,q1_ C,q2_ C,q3_ C,q0_ B,q1_ B,q2_ B,q3_ B⟩ (fun R=>?_);clear hK K;refine norm_ (a':=?_) ?_ ?_;rotate_left
    ·
     show Act.put _ (some 78) _=_;simp only [Act.put,s0_,s1_,s2_,i64_w,i32_w];rfl
    refine one_ (i:=7) (N:=none) #[y_,y_,y_,y_,y_,y_,y_,y_,n_] rfl rfl (one_of V.1 (by kernel_rfl)) (by decide) (fun K hK=>?_);have Dv:=q0_ F;have X6:=blk_frozen F.1 0;have y8:=a9.1;have y9:=a7.1;have z0:=f7.1;have z1:=b6.1;have z2:=a5.1;have z3:=h6.1;have z4:=h4.1;have z5:=f6.1;have z6:=b1.1;have z7:=f3.1;have Dw:=q1_ F;have X7:=blk_frozen F.1 1;have z8:=a9.1;have z9:=a7.1;have A0:=f7.1;have A1:=b6.1;have A2:=a5.1;have A6:=h6.1;have A7:=h4.1;have A8:=f6.1;have A9:=b1.1;have B0:=f3.1;have Dx:=q2_ F;have X8:=blk_frozen F.1 2;have B1:=a9.1;have B2:=a7.1;have B3:=f7.1;have B4:=b6.1;have B5:=a5.1;have B6:=h6.1;have B7:=h4.1;have B8:=f6.1;have B9:=b1.1;have C0:=f3.1;have Dy:=q3_ F;have X9:=blk_frozen F.1 3;have C1:=a9.1;have C2:=a7.1;have C3:=f7.1;have C4:=b6.1;have C5:=a5.1;have C6:=h6.1;have C7:=h4.1;have C8:=f6.1;have C9:=b1.1;have D0:=f3.1;refine skip_ (w1:=?_) (by rfl) rfl ?_ ?_;rotate_left
    ·
     go_simp;rfl
    refine hK.out _ _ ⟨((cell_far (p:=⟨X,_,none⟩) a5.1 _).trans (((cell_far (p:=⟨X,_,none⟩) a5.1 _).trans (((cell_far (p:=⟨X,_,none⟩) a5.1 _).trans (((cell_far (p:=⟨X,_,none⟩) a5.1 _).trans (R.1)))))))),((cell_far (p:=⟨X,_,none⟩) a5.1 _).trans (((cell_far (p:=⟨X,_,none⟩) a5.1 _).trans (((cell_far (p:=⟨X,_,none⟩) a5.1 _).trans (((cell_far (p:=⟨X,_,none⟩) a5.1 _).trans (R.2.1)))))))),((cell_far (p:=⟨X,_,none⟩) a5.1 _).trans (((cell_far (p:=⟨X,_,none⟩) a5.1 _).trans (((cell_far (p:=⟨X,_,none⟩) a5.1 _).trans (((cell_far (p:=⟨X,_,none⟩) a5.1 _).trans (R.2.2.1)))))))),((cell_far (p:=⟨X,_,none⟩) a5.1 _).trans (((cell_far (p:=⟨X,_,none⟩) a5.1 _).trans (((cell_far (p:=⟨X,_,none⟩) a5.1 _).trans (((cell_far (p:=⟨X,_,none⟩) a5.1 _).trans (R.2.2.2.1)))))))),((cell_far (p:=⟨X,_,none⟩) a9.1 _).trans (((cell_far (p:=⟨X,_,none⟩) a9.1 _).trans (((cell_far (p:=⟨X,_,none⟩) a9.1 _).trans (((cell_far (p:=⟨X,_,none⟩) a9.1 _).trans (R.2.2.2.2.1)))))))),((cell_far (p:=⟨X,_,none⟩) a9.1 _).trans (((cell_far (p:=⟨X,_,none⟩) a9.1 _).trans (((cell_far (p:=⟨X,_,none⟩) a9.1 _).trans (((cell_far (p:=⟨X,_,none⟩) a9.1 _).trans (R.2.2.2.2.2.1)))))))),((cell_far (p:=⟨X,_,none⟩) a9.1 _).trans (((cell_far (p:=⟨X,_,none⟩) a9.1 _).trans (((cell_far (p:=⟨X,_,none⟩) a9.1 _).trans (((cell_far (p:=⟨X,_,none⟩) a9.1 _).trans (R.2.2.2.2.2.2.1)))))))),((cell_far (p:=⟨X,_,none⟩) a9.1 _).trans (((cell_far (p:=⟨X,_,none⟩) a9.1 _).trans (((cell_far (p:=⟨X,_,none⟩) a9.1 _).trans (((cell_far (p:=⟨X,_,none⟩) a9.1 _).trans (R.2.2.2.2.2.2.2.1)))))))),((cell_far (p:=⟨X,_,none⟩) a7.1 _).trans (((cell_far (p:=⟨X,_,none⟩) a7.1 _).trans (((cell_far (p:=⟨X,_,none⟩) a7.1 _).trans (((cell_far (p:=⟨X,_,none⟩) a7.1 _).trans (R.2.2.2.2.2.2.2.2.1)))))))),((cell_far (p:=⟨X,_,none⟩) a7.1 _).trans (((cell_far (p:=⟨X,_,none⟩) a7.1 _).trans (((cell_far (p:=⟨X,_,none⟩) a7.1 _).trans (((cell_far (p:=⟨X,_,none⟩) a7.1 _).trans (R.2.2.2.2.2.2.2.2.2.1)))))))),((cell_far (p:=⟨X,_,none⟩) a7.1 _).trans (((cell_far (p:=⟨X,_,none⟩) a7.1 _).trans (((cell_far (p:=⟨X,_,none⟩) a7.1 _).trans (((cell_far (p:=⟨X,_,none⟩) a7.1 _).trans (R.2.2.2.2.2.2.2.2.2.2.1)))))))),((cell_far (p:=⟨X,_,none⟩) a7.1 _).trans (((cell_far (p:=⟨X,_,none⟩) a7.1 _).trans (((cell_far (p:=⟨X,_,none⟩) a7.1 _).trans (((cell_far (p:=⟨X,_,none⟩) a7.1 _).trans (R.2.2.2.2.2.2.2.2.2.2.2))))))))⟩ (fun R=>?_);clear hK K;refine one_ (i:=8) (N:=none) #[y_,y_,y_,y_,y_,y_,y_,y_,y_] rfl rfl (one_of V.1 (by kernel_rfl)) (by decide) (fun K hK=>?_);have Dz:=q0_ G;have Y0:=blk_frozen G.1 0;have D1:=b0.1;have D2:=a8.1;have D3:=f6.1;have D4:=b7.1;have D5:=a6.1;have D6:=h7.1;have D7:=h5.1;have D8:=f7.1;have D9:=b2.1;have E0:=f4.1;have Ea:=q1_ G;have Y1:=blk_frozen G.1 1;have E1:=b0.1
    have E2:=a8.1;have E3:=f6.1;have E4:=b7.1;have E5:=a6.1;have E6:=h7.1;have E7:=h5.1;have E8:=f7.1;have E9:=b2.1;have F0:=f4.1;have Eb:=q2_ G;have Y2:=blk_frozen G.1 2;have F1:=b0.1;have F2:=a8.1;have F3:=f6.1;have F4:=b7.1;have F5:=a6.1;have F6:=h7.1;have F7:=h5.1;have F8:=f7.1;have F9:=b2.1;have G0:=f4.1;have Ec:=q3_ G;have Y3:=blk_frozen G.1 3;have G1:=b0.1;have G2:=a8.1;have G3:=f6.1;have G4:=b7.1;have G5:=a6.1;have G6:=h7.1;have G7:=h5.1;have G8:=f7.1;have G9:=b2.1;have H0:=f4.1;refine skip_ (w1:=?_) (by rfl) rfl ?_ ?_;rotate_left
    ·
     go_simp;rfl
    refine hK.out _ _ ⟨((cell_far (p:=⟨Y,_,none⟩) a6.1 _).trans (((cell_far (p:=⟨Y,_,none⟩) a6.1 _).trans (((cell_far (p:=⟨Y,_,none⟩) a6.1 _).trans (((cell_far (p:=⟨Y,_,none⟩) a6.1 _).trans (R.1)))))))),((cell_far (p:=⟨Y,_,none⟩) a6.1 _).trans (((cell_far (p:=⟨Y,_,none⟩) a6.1 _).trans (((cell_far (p:=⟨Y,_,none⟩) a6.1 _).trans (((cell_far (p:=⟨Y,_,none⟩) a6.1 _).trans (R.2.1)))))))),((cell_far (p:=⟨Y,_,none⟩) a6.1 _).trans (((cell_far (p:=⟨Y,_,none⟩) a6.1 _).trans (((cell_far (p:=⟨Y,_,none⟩) a6.1 _).trans (((cell_far (p:=⟨Y,_,none⟩) a6.1 _).trans (R.2.2.1)))))))),((cell_far (p:=⟨Y,_,none⟩) a6.1 _).trans (((cell_far (p:=⟨Y,_,none⟩) a6.1 _).trans (((cell_far (p:=⟨Y,_,none⟩) a6.1 _).trans (((cell_far (p:=⟨Y,_,none⟩) a6.1 _).trans (R.2.2.2.1)))))))),((cell_far (p:=⟨Y,_,none⟩) b0.1 _).trans (((cell_far (p:=⟨Y,_,none⟩) b0.1 _).trans (((cell_far (p:=⟨Y,_,none⟩) b0.1 _).trans (((cell_far (p:=⟨Y,_,none⟩) b0.1 _).trans (R.2.2.2.2.1)))))))),((cell_far (p:=⟨Y,_,none⟩) b0.1 _).trans (((cell_far (p:=⟨Y,_,none⟩) b0.1 _).trans (((cell_far (p:=⟨Y,_,none⟩) b0.1 _).trans (((cell_far (p:=⟨Y,_,none⟩) b0.1 _).trans (R.2.2.2.2.2.1)))))))),((cell_far (p:=⟨Y,_,none⟩) b0.1 _).trans (((cell_far (p:=⟨Y,_,none⟩) b0.1 _).trans (((cell_far (p:=⟨Y,_,none⟩) b0.1 _).trans (((cell_far (p:=⟨Y,_,none⟩) b0.1 _).trans (R.2.2.2.2.2.2.1)))))))),((cell_far (p:=⟨Y,_,none⟩) b0.1 _).trans (((cell_far (p:=⟨Y,_,none⟩) b0.1 _).trans (((cell_far (p:=⟨Y,_,none⟩) b0.1 _).trans (((cell_far (p:=⟨Y,_,none⟩) b0.1 _).trans (R.2.2.2.2.2.2.2.1)))))))),((cell_far (p:=⟨Y,_,none⟩) a8.1 _).trans (((cell_far (p:=⟨Y,_,none⟩) a8.1 _).trans (((cell_far (p:=⟨Y,_,none⟩) a8.1 _).trans (((cell_far (p:=⟨Y,_,none⟩) a8.1 _).trans (R.2.2.2.2.2.2.2.2.1)))))))),((cell_far (p:=⟨Y,_,none⟩) a8.1 _).trans (((cell_far (p:=⟨Y,_,none⟩) a8.1 _).trans (((cell_far (p:=⟨Y,_,none⟩) a8.1 _).trans (((cell_far (p:=⟨Y,_,none⟩) a8.1 _).trans (R.2.2.2.2.2.2.2.2.2.1)))))))),((cell_far (p:=⟨Y,_,none⟩) a8.1 _).trans (((cell_far (p:=⟨Y,_,none⟩) a8.1 _).trans (((cell_far (p:=⟨Y,_,none⟩) a8.1 _).trans (((cell_far (p:=⟨Y,_,none⟩) a8.1 _).trans (R.2.2.2.2.2.2.2.2.2.2.1)))))))),((cell_far (p:=⟨Y,_,none⟩) a8.1 _).trans (((cell_far (p:=⟨Y,_,none⟩) a8.1 _).trans (((cell_far (p:=⟨Y,_,none⟩) a8.1 _).trans (((cell_far (p:=⟨Y,_,none⟩) a8.1 _).trans (R.2.2.2.2.2.2.2.2.2.2.2))))))))⟩ (fun R=>?_);clear hK K;refine done_ (done_of V.1 (by kernel_rfl)) ?_;try go_wp2
    refine bodyPost_ret (results_cc rfl _ _ X Y 67 67 #[.int .i64 Q,.int .i64 O,.int .i64 L,.int .i64 J] #[.int .i64 m0,.int .i64 n7,.int .i64 o5,.int .i64 t2] (0,0) (0,0) _ _ rfl (by (iterate 4 refine blk_far ?_ f6.1 _);refine blk_put (cs:=#[.int .i64 Q,.int .i64 O,.int .i64 L,.int .i64 0]) ?_ 3 _ rfl;refine blk_put (cs:=#[.int .i64 Q,.int .i64 O,.int .i64 0,.int .i64 0]) ?_ 2 _ rfl;refine blk_put (cs:=#[.int .i64 Q,.int .i64 0,.int .i64 0,.int .i64 0]) ?_ 1 _ rfl;refine blk_put (cs:=#[.int .i64 0,.int .i64 0,.int .i64 0,.int .i64 0]) ?_ 0 _ rfl;exact F.1) Try.underlying67 rfl (by kernel_rfl) rfl (by refine blk_put (cs:=#[.int .i64 m0,.int .i64 n7,.int .i64 o5,.int .i64 0]) ?_ 3 _ rfl;refine blk_put (cs:=#[.int .i64 m0,.int .i64 n7,.int .i64 0,.int .i64 0]) ?_ 2 _ rfl;refine blk_put (cs:=#[.int .i64 m0,.int .i64 0,.int .i64 0,.int .i64 0]) ?_ 1 _ rfl;refine blk_put (cs:=#[.int .i64 0,.int .i64 0,.int .i64 0,.int .i64 0]) ?_ 0 _ rfl;(iterate 4 refine blk_far ?_ f7.1 _);exact G.1) Try.underlying67 rfl (by kernel_rfl)) rfl ?_;exact ⟨by first|rfl|(simp [errW_none,errW_some] <;> rfl)|(simp [*,errW_none,errW_some] <;> rfl),by repeat (first|(with_reducible first|exact HB.1|apply below_alloc|apply pw_below_drewN|apply below_drew1|refine below_set ?_ e9.1|refine below_set ?_ f0.1|refine below_set ?_ f1.1|refine below_set ?_ f2.1|refine below_set ?_ d7.1|refine below_set ?_ f9.1)|exact HB.1)⟩
/-! ### norm_quat_api: function 50 -/
def norm_quat_api.f (a0_0:Int) (a0_1:Int) (a0_2:Int) (a0_3:Int):Option (Int × Int × Int × Int):=some (a0_0,a0_1,a0_2,a0_3)
set_option maxHeartbeats 8000000 in
set_option maxRecDepth 100000 in
theorem norm_quat_api.calls (D:Int) (E:Int) (F:Int) (G:Int) (V:Int) (X:Int) (Y:Int) (Z:Int) (w:World) (h:norm_quat_api.f D E F G=some (V,X,Y,Z)) :
    Calls Try.prog 50 #[.agg #[.int .i64 D,.int .i64 E,.int .i64 F,.int .i64 G]] w fun e w'=>e=.returned (.agg #[.int .i64 V,.int .i64 X,.int .i64 Y,.int .i64 Z])∧Below w.heap.size w w':=by
 have b7:=Try.underlying67;have b8:=Try.underlying23;have J:=mk0 (Below.refl w.heap.size w);have H:(some (D,E,F,G))=some (V,X,Y,Z):=h;clear h;simp only [Option.some.injEq,Prod.mk.injEq] at H;obtain ⟨rfl,rfl,rfl,rfl⟩:=H;go_enter Try.func50,Try.ntmps50;go_wp2_with (first|((with_reducible refine gate_dst (N:=1) rfl ?_);refine box_event ?hg (N:=1) ?hd (cs:=#[.int .i64 D,.int .i64 E,.int .i64 F,.int .i64 G]) (t:=67) ?hr ?_;(case hd=>rfl);(case hg=>rfl);(case hr=>first|(go_simp;done)|(go_simp;rfl));intro b6 hg w2 I hb;have B:=mk0 (I);have O:=szw hg J;have Q:=O;replace J:=bst J hb;clear hb I hg)|((with_reducible refine gate_dst (N:=2) rfl ?_);refine box_event ?hg (N:=2) ?hd (cs:=#[.int .i64 0,.int .i64 0,.int .i64 0,.int .i64 0]) (t:=23) ?hr ?_;(case hd=>rfl);(case hg=>rfl);(case hr=>first|(go_simp;done)|(go_simp;rfl));intro R hg w3 I hb;have C:=mk0 (I);have T:=szw hg J;have U:=T;have L:=nlt hg B;have M:=ngt hg B;replace B:=bkb B hb;replace J:=bst J hb;clear hb I hg;have b9:=L.1;have c0:=M.1;have a0:=q0_ B;have a1:=q1_ B;have a2:=q2_ B;have a3:=q3_ B;have a4:=blk_frozen B.1 0;have a5:=blk_frozen B.1 1;have a6:=blk_frozen B.1 2;have a7:=blk_frozen B.1 3;have a8:=q0_ C;have a9:=q1_ C;have b0:=q2_ C;have b1:=q3_ C;have b2:=blk_frozen C.1 0;have b3:=blk_frozen C.1 1;have b4:=blk_frozen C.1 2;have b5:=blk_frozen C.1 3));refine bodyPost_ret (results_cell_row rfl _ _ R 23 #[.int .i64 D,.int .i64 E,.int .i64 F,.int .i64 G] (0,0) _ rfl (by refine blk_put (cs:=#[.int .i64 D,.int .i64 E,.int .i64 F,.int .i64 0]) ?_ 3 _ rfl;refine blk_put (cs:=#[.int .i64 D,.int .i64 E,.int .i64 0,.int .i64 0]) ?_ 2 _ rfl;refine blk_put (cs:=#[.int .i64 D,.int .i64 0,.int .i64 0,.int .i64 0]) ?_ 1 _ rfl;refine blk_put (cs:=#[.int .i64 0,.int .i64 0,.int .i64 0,.int .i64 0]) ?_ 0 _ rfl;exact C.1) Try.underlying23 rfl (by kernel_rfl)) rfl ?_;exact ⟨by first|rfl|(simp [errW_none,errW_some] <;> rfl)|(simp [*,errW_none,errW_some] <;> rfl),by repeat (first|(with_reducible first|exact J.1|apply below_alloc|apply pw_below_drewN|apply below_drew1|refine below_set ?_ Q.1|refine below_set ?_ U.1)|exact J.1)⟩
end Go.Proofs.Ytgfnmimfoicmmaa.PM
