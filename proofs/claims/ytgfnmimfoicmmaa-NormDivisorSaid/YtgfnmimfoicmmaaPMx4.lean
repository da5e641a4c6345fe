-- Written by pr2.py, a program of this session's, for this claim (through the kit's print).
import Derived.Test.YtgfnmimfoicmmaaPMx0
import Derived.Test.YtgfnmimfoicmmaaPMx3
namespace Go.Proofs.Ytgfnmimfoicmmaa.PM
open Go.Proofs.MyWords Go.RowKit Go.Proofs.YtgfnmimfoicmmaaW.PrintWords Go.Proofs.YtgfnmimfoicmmaaW.PrintLast Go.Proofs.YtgfnmimfoicmmaaW.PrintMore
attribute [local go_sem] max2_int min2_int max_two min_two max_three min_three max_four min_four   -- for this text's walks alone
set_option linter.unusedVariables false
set_option linter.unusedSimpArgs false

attribute [local go_sem] idx67_0 idx67_1 idx67_2 idx67_3
attribute [local go_sem] eqGuard_slices eqlnil36 neqnil36
/-! ### norm_divide: function 49 -/
mutual
def norm_divide.l0:Nat → Int → Int → Int → Int → Int → Int → Int → Int → Int → Int → Int → Int → Int → Int → Int → Int → Int → Int → Int → Option (Int × Int × Int × Int × Int × Int × Int × Int)
  | 0,_,_,_,_,_,_,_,_,_,_,_,_,_,_,_,_,_,_,_=>none
  | k + 1,x6,x9,x22,x148000,x148001,x148002,x148003,x149000,x149001,x149002,x149003,x161000,x161001,x161002,x161003,x162000,x162001,x162002,x162003=>if x22 < 2 then (norm_divide.l1 k x6 x9 x22 0 x22 0 x161003 x161002 x161001 x161000 x148000 x148001 x148002 x148003 x149000 x149001 x149002 x149003 x161000 x161001 x161002 x161003 x162000 x162001 x162002 x162003 0 0 0 0) else ((norm_product.f k (([(⟨x162000,x162001,x162002,x162003⟩:S67),(⟨x149000,x149001,x149002,x149003⟩:S67)]:List (S67)))).bind fun bt165=>((norm_quat_minus.f k x148000 x148001 x148002 x148003 bt165.1 bt165.2.1 bt165.2.2.1 bt165.2.2.2).bind fun bt169=>(some (x162000,x162001,x162002,x162003,bt169.1,bt169.2.1,bt169.2.2.1,bt169.2.2.2))))
def norm_divide.l1:Nat → Int → Int → Int → Int → Int → Int → Int → Int → Int → Int → Int → Int → Int → Int → Int → Int → Int → Int → Int → Int → Int → Int → Int → Int → Int → Int → Int → Int → Int → Int → Option (Int × Int × Int × Int × Int × Int × Int × Int)
  | 0,_,_,_,_,_,_,_,_,_,_,_,_,_,_,_,_,_,_,_,_,_,_,_,_,_,_,_,_,_,_=>none
  | k + 1,x6,x9,x10,x12,x22,x26,x968,x969,x970,x971,x148000,x148001,x148002,x148003,x149000,x149001,x149002,x149003,x161000,x161001,x161002,x161003,x162000,x162001,x162002,x162003,x174000,x174001,x174002,x174003=>if x26 < 4 then (if x26=0 then ((norm_nearest.f x971 (wrap64 (2 * x6)) x10).bind fun t174=>(norm_divide.l1 k x6 x9 x10 (wrap64 (x12 + (wrap64 ((wrap64 (x971 - (wrap64 ((wrap64 (t174 * 2)) * x6)))) * (wrap64 (x971 - (wrap64 ((wrap64 (t174 * 2)) * x6)))))))) x22 1 x968 x969 x970 x971 x148000 x148001 x148002 x148003 x149000 x149001 x149002 x149003 x161000 x161001 x161002 x161003 x162000 x162001 x162002 x162003 t174 x174001 x174002 x174003)) else (if x26=1 then ((norm_nearest.f x970 (wrap64 (2 * x6)) x10).bind fun t175=>(norm_divide.l1 k x6 x9 x10 (wrap64 (x12 + (wrap64 ((wrap64 (x970 - (wrap64 ((wrap64 (t175 * 2)) * x6)))) * (wrap64 (x970 - (wrap64 ((wrap64 (t175 * 2)) * x6)))))))) x22 2 x968 x969 x970 x971 x148000 x148001 x148002 x148003 x149000 x149001 x149002 x149003 x161000 x161001 x161002 x161003 x162000 x162001 x162002 x162003 x174000 t175 x174002 x174003)) else (if x26=2 then ((norm_nearest.f x969 (wrap64 (2 * x6)) x10).bind fun t176=>(norm_divide.l1 k x6 x9 x10 (wrap64 (x12 + (wrap64 ((wrap64 (x969 - (wrap64 ((wrap64 (t176 * 2)) * x6)))) * (wrap64 (x969 - (wrap64 ((wrap64 (t176 * 2)) * x6)))))))) x22 3 x968 x969 x970 x971 x148000 x148001 x148002 x148003 x149000 x149001 x149002 x149003 x161000 x161001 x161002 x161003 x162000 x162001 x162002 x162003 x174000 x174001 t176 x174003)) else (if x26=3 then ((norm_nearest.f x968 (wrap64 (2 * x6)) x10).bind fun t177=>(norm_divide.l1 k x6 x9 x10 (wrap64 (x12 + (wrap64 ((wrap64 (x968 - (wrap64 ((wrap64 (t177 * 2)) * x6)))) * (wrap64 (x968 - (wrap64 ((wrap64 (t177 * 2)) * x6)))))))) x22 4 x968 x969 x970 x971 x148000 x148001 x148002 x148003 x149000 x149001 x149002 x149003 x161000 x161001 x161002 x161003 x162000 x162001 x162002 x162003 x174000 x174001 x174002 t177)) else (none))))) else (if x9 < 0 then (norm_divide.l0 k x6 x12 (wrap64 (x22 + 1)) x148000 x148001 x148002 x148003 x149000 x149001 x149002 x149003 x161000 x161001 x161002 x161003 x174000 x174001 x174002 x174003) else (if x12 < x9 then (norm_divide.l0 k x6 x12 (wrap64 (x22 + 1)) x148000 x148001 x148002 x148003 x149000 x149001 x149002 x149003 x161000 x161001 x161002 x161003 x174000 x174001 x174002 x174003) else (if x12=x9 then ((slices_Compare_int_int.f k [x174000,x174001,x174002,x174003] [x162000,x162001,x162002,x162003]).bind fun t178=>(if t178 < 0 then (norm_divide.l0 k x6 x12 (wrap64 (x22 + 1)) x148000 x148001 x148002 x148003 x149000 x149001 x149002 x149003 x161000 x161001 x161002 x161003 x174000 x174001 x174002 x174003) else (norm_divide.l0 k x6 x9 (wrap64 (x22 + 1)) x148000 x148001 x148002 x148003 x149000 x149001 x149002 x149003 x161000 x161001 x161002 x161003 x162000 x162001 x162002 x162003))) else (norm_divide.l0 k x6 x9 (wrap64 (x22 + 1)) x148000 x148001 x148002 x148003 x149000 x149001 x149002 x149003 x161000 x161001 x161002 x161003 x162000 x162001 x162002 x162003))))
end
def norm_divide.f (k:Nat) (a0_0:Int) (a0_1:Int) (a0_2:Int) (a0_3:Int) (a1_0:Int) (a1_1:Int) (a1_2:Int) (a1_3:Int):Option (Int × Int × Int × Int × Int × Int × Int × Int):=(norm_quat_norm.f a1_0 a1_1 a1_2 a1_3).bind fun t151=>((norm_quat_conj.f a1_0 a1_1 a1_2 a1_3).bind fun bt152=>((norm_quat_double.f a0_0 a0_1 a0_2 a0_3 bt152.1 bt152.2.1 bt152.2.2.1 bt152.2.2.2).bind fun bt156=>(norm_divide.l0 k t151 (-1) 0 a0_0 a0_1 a0_2 a0_3 a1_0 a1_1 a1_2 a1_3 bt156.1 bt156.2.1 bt156.2.2.1 bt156.2.2.2 0 0 0 0)))
theorem norm_divide.mono_l:∀ k,(∀ M N O Q R T U V X Y B C D E F G I J L,LeO (norm_divide.l0 k M N O Q R T U V X Y B C D E F G I J L) (norm_divide.l0 (k + 1) M N O Q R T U V X Y B C D E F G I J L))∧(∀ M N O Q R T U V X Y B C D E F G I J L Z a0 a1 a2 a3 a4 a5 a6 a7 a8 a9,LeO (norm_divide.l1 k M N O Q R T U V X Y B C D E F G I J L Z a0 a1 a2 a3 a4 a5 a6 a7 a8 a9) (norm_divide.l1 (k + 1) M N O Q R T U V X Y B C D E F G I J L Z a0 a1 a2 a3 a4 a5 a6 a7 a8 a9))
  | 0=>⟨fun _ _ _ _ _ _ _ _ _ _ _ _ _ _ _ _ _ _ _ r h=>by simp [norm_divide.l0] at h,fun _ _ _ _ _ _ _ _ _ _ _ _ _ _ _ _ _ _ _ _ _ _ _ _ _ _ _ _ _ _ r h=>by simp [norm_divide.l1] at h⟩
  | k + 1=>by
    obtain ⟨b0,b1⟩:=norm_divide.mono_l k
    refine ⟨?_,?_⟩
    · intro M N O Q R T U V X Y B C D E F G I J L
      unfold norm_divide.l0
      with_reducible repeat' first|exact b0 _ _ _ _ _ _ _ _ _ _ _ _ _ _ _ _ _ _ _|exact b1 _ _ _ _ _ _ _ _ _ _ _ _ _ _ _ _ _ _ _ _ _ _ _ _ _ _ _ _ _ _|exact norm_product.mono _ _|exact norm_quat_minus.mono _ _ _ _ _ _ _ _ _|exact slices_Compare_int_int.mono _ _ _|exact LeO.refl _|exact LeO.none _|refine LeO.ite ?_ ?_|refine LeO.bind ?_ (fun _=>?_)
    · intro M N O Q R T U V X Y B C D E F G I J L Z a0 a1 a2 a3 a4 a5 a6 a7 a8 a9
      unfold norm_divide.l1
      with_reducible repeat' first|exact b0 _ _ _ _ _ _ _ _ _ _ _ _ _ _ _ _ _ _ _|exact b1 _ _ _ _ _ _ _ _ _ _ _ _ _ _ _ _ _ _ _ _ _ _ _ _ _ _ _ _ _ _|exact norm_product.mono _ _|exact norm_quat_minus.mono _ _ _ _ _ _ _ _ _|exact slices_Compare_int_int.mono _ _ _|exact LeO.refl _|exact LeO.none _|refine LeO.ite ?_ ?_|refine LeO.bind ?_ (fun _=>?_)
theorem norm_divide.mono:∀ a0 a1 a2 a3 a4 a5 a6 a7 k,LeO (norm_divide.f k a0 a1 a2 a3 a4 a5 a6 a7) (norm_divide.f (k + 1) a0 a1 a2 a3 a4 a5 a6 a7):=by
  intro a0 a1 a2 a3 a4 a5 a6 a7 k
  obtain ⟨ih0,ih1⟩:=norm_divide.mono_l k
  unfold norm_divide.f
  with_reducible repeat' first|exact ih0 _ _ _ _ _ _ _ _ _ _ _ _ _ _ _ _ _ _ _|exact ih1 _ _ _ _ _ _ _ _ _ _ _ _ _ _ _ _ _ _ _ _ _ _ _ _ _ _ _ _ _ _|exact norm_product.mono _ _|exact norm_quat_minus.mono _ _ _ _ _ _ _ _ _|exact slices_Compare_int_int.mono _ _ _|exact LeO.refl _|exact LeO.none _|refine LeO.ite ?_ ?_|refine LeO.bind ?_ (fun _=>?_)
def norm_divide.T17:Bool × List (List Nat × List Nat):=(true,[([],[]),([0],[0]),([1],[1]),([2],[2]),([2],[2]),([3,4,2],[2,3,4]),([2,5],[2,5]),([6,2],[6]),([7],[7]),([7],[7]),([8,9,7],[7,8,9]),([10,7,7],[7,10]),([11],[11]),([11],[11]),([12,13,11,11],[11,12,13]),([14,11],[11,14]),([11,15,7],[7,11,15]),([7,16],[7,16])])
def norm_divide.B17:List Nat:=[0,1,3,7,7,31,63,127,255,255,1023,2047,4095,4095,16383,32767,65535,131071]
theorem norm_divide.tab17:rtab .any (opsOf Try.f49 17)=norm_divide.T17:=by kernel_rfl
theorem norm_divide.bits17:waitsOk norm_divide.T17.2 norm_divide.B17=true:=by kernel_rfl
def norm_divide.T20:Bool × List (List Nat × List Nat):=(true,[([],[]),([],[]),([],[]),([],[]),([2,3],[2,3]),([4],[4]),([1,5,5],[1,5]),([0,6,0],[0]),([6,7,0,1,2,3,4,5,6,7],[6])])
def norm_divide.B20:List Nat:=[0,0,0,0,12,28,62,127,255]
theorem norm_divide.tab20:rtab .any (opsOf Try.f49 20)=norm_divide.T20:=by kernel_rfl
theorem norm_divide.bits20:waitsOk norm_divide.T20.2 norm_divide.B20=true:=by kernel_rfl
set_option maxHeartbeats 8000000 in
set_option maxRecDepth 100000 in
theorem norm_divide.calls (k:Nat) (b2:Int) (b3:Int) (b4:Int) (b5:Int) (a3:Int) (a4:Int) (a5:Int) (a6:Int) (r1:Int) (r2:Int) (r3:Int) (r4:Int) (r5:Int) (r6:Int) (r7:Int) (r8:Int) (w:World) (h:norm_divide.f k b2 b3 b4 b5 a3 a4 a5 a6=some (r1,r2,r3,r4,r5,r6,r7,r8)) :
    Calls Try.prog 49 #[.agg #[.int .i64 b2,.int .i64 b3,.int .i64 b4,.int .i64 b5],.agg #[.int .i64 a3,.int .i64 a4,.int .i64 a5,.int .i64 a6]] w fun e w'=>e=.returned (.tuple #[.agg #[.int .i64 r1,.int .i64 r2,.int .i64 r3,.int .i64 r4],.agg #[.int .i64 r5,.int .i64 r6,.int .i64 r7,.int .i64 r8]])∧Below w.heap.size w w':=by
 have Bg:=Try.underlying67;have Z:=mk0 (Below.refl w.heap.size w);have H:((norm_quat_norm.f a3 a4 a5 a6).bind fun a8=>((norm_quat_conj.f a3 a4 a5 a6).bind fun l3=>((norm_quat_double.f b2 b3 b4 b5 l3.1 l3.2.1 l3.2.2.1 l3.2.2.2).bind fun l4=>(norm_divide.l0 k a8 (-1) 0 b2 b3 b4 b5 a3 a4 a5 a6 l4.1 l4.2.1 l4.2.2.1 l4.2.2.2 0 0 0 0))))=some (r1,r2,r3,r4,r5,r6,r7,r8):=h;clear h;replace H:=Option.bind_eq_some_iff.mp H;obtain ⟨a8,u4,H⟩:=H;(try dsimp only at H);have A3:=mk0 u4;clear u4;replace H:=Option.bind_eq_some_iff.mp H;obtain ⟨⟨h5,h6,h7,h8⟩,u5,H⟩:=H;(try dsimp only at H);have A4:=mk0 u5;clear u5;replace H:=Option.bind_eq_some_iff.mp H;obtain ⟨⟨a2,a7,a9,b8⟩,u6,H⟩:=H;(try dsimp only at H);have A5:=mk0 u6;clear u6;have H':=mk0 H;clear H;go_enter Try.func49,Try.ntmps49;try go_wp2_with (first|((with_reducible refine gate_dst (N:=2) rfl ?_);refine box_event ?hg (N:=2) ?hd (cs:=#[.int .i64 b2,.int .i64 b3,.int .i64 b4,.int .i64 b5]) (t:=67) ?hr ?_;(case hd=>rfl);(case hg=>rfl);(case hr=>first|(go_simp;done)|(go_simp;rfl));intro b6 hg w6 d0 hb;have C:=mk0 (d0);have t6:=szw hg Z;have d6:=t6;replace Z:=bst Z hb;clear hb d0 hg)|((with_reducible refine gate_dst (N:=3) rfl ?_);refine box_event ?hg (N:=3) ?hd (cs:=#[.int .i64 a3,.int .i64 a4,.int .i64 a5,.int .i64 a6]) (t:=67) ?hr ?_;(case hd=>rfl);(case hg=>rfl);(case hr=>first|(go_simp;done)|(go_simp;rfl));intro b7 hg w7 d0 hb;have B:=mk0 (d0);have t7:=szw hg Z;have d7:=t7;have n7:=nlt hg C;have n8:=ngt hg C;replace C:=bkb C hb;replace Z:=bst Z hb;clear hb d0 hg)|((with_reducible refine gate_dst (N:=4) rfl ?_);refine box_event ?hg (N:=4) ?hd (cs:=#[.int .i64 0,.int .i64 0,.int .i64 0,.int .i64 0]) (t:=67) ?hr ?_;(case hd=>rfl);(case hg=>rfl);(case hr=>first|(go_simp;done)|(go_simp;rfl));intro e6 hg w8 d0 hb;have F:=mk0 (d0);have t8:=szw hg Z;have d8:=t8;have h1:=nlt hg C;have n9:=ngt hg C;have g4:=nlt hg B;have j9:=ngt hg B;replace C:=bkb C hb;replace B:=bkb B hb;replace Z:=bst Z hb;clear hb d0 hg)|((with_reducible refine gate_dst (N:=5) rfl ?_);refine box_event ?hg (N:=5) ?hd (cs:=#[.int .i64 0,.int .i64 0,.int .i64 0,.int .i64 0]) (t:=67) ?hr ?_;(case hd=>rfl);(case hg=>rfl);(case hr=>first|(go_simp;done)|(go_simp;rfl));intro e7 hg w9 d0 hb;have G:=mk0 (d0);have t9:=szw hg Z;have d9:=t9;have g5:=nlt hg C;have l2:=ngt hg C;have f6:=nlt hg B;have i0:=ngt hg B;have h2:=nlt hg F;have h3:=ngt hg F;replace C:=bkb C hb;replace B:=bkb B hb;replace F:=bkb F hb;replace Z:=bst Z hb;clear hb d0 hg;have N9:=n8.1;have O0:=n7.1;have O1:=g4.1;have O2:=j9.1;have O3:=f6.1;have O4:=i0.1;have m8:=q0_ B;have m9:=q1_ B;have n0:=q2_ B;have n1:=q3_ B;have n2:=blk_frozen B.1 0;have n3:=blk_frozen B.1 1;have n4:=blk_frozen B.1 2;have n5:=blk_frozen B.1 3)|((with_reducible refine gate_callee (f:=66) rfl ?_);refine goesL_ (some 17) rfl rfl Try.func66 (by kernel_rfl) rfl #[.agg #[.int .i64 a3,.int .i64 a4,.int .i64 a5,.int .i64 a6]] rfl (by (try simp only [m0_,m1_,m2_]);first|done|rfl|(simp only [l0_,l1_];rfl)) ?_;(with_reducible refine (norm_quat_norm.calls a3 a4 a5 a6 a8 _ A3.1).mono ?_);rintro e I8 ⟨rfl,hb⟩;refine ⟨_,rfl,?_⟩;replace C:=bkb C hb;replace B:=bkb B hb;replace F:=bkb F hb;replace G:=bkb G hb;replace Z:=bst Z hb;(try clear hb)))
 replace C:=bdr C;replace B:=bdr B;replace F:=bdr F;replace G:=bdr G;replace Z:=hdr Z;refine start_ (n:=6) (S:=fun w'=>w'.cell? ⟨b6,0,none⟩=some (.int .i64 b2)∧w'.cell? ⟨b6,1,none⟩=some (.int .i64 b3)∧w'.cell? ⟨b6,2,none⟩=some (.int .i64 b4)∧w'.cell? ⟨b6,3,none⟩=some (.int .i64 b5)∧w'.cell? ⟨b7,0,none⟩=some (.int .i64 a3)∧w'.cell? ⟨b7,1,none⟩=some (.int .i64 a4)∧w'.cell? ⟨b7,2,none⟩=some (.int .i64 a5)∧w'.cell? ⟨b7,3,none⟩=some (.int .i64 a6)) (ds:=[]) #[n_,n_,n_,n_,n_,n_] (by kernel_rfl) rfl rfl ⟨q0_ C,q1_ C,q2_ C,q3_ C,q0_ B,q1_ B,q2_ B,q3_ B⟩ (fun R=>?_);generalize I8.drew=Bv at C B F G Z R ⊢;refine take_ (i:=0) (N:=some 18) (v:=?_) (a':=?_) #[y_,n_,n_,n_,n_,n_] rfl rfl (by kernel_rfl) (fun _ _ _ h=>h) (Or.inl ⟨by rfl,?_⟩) R ?_ ?_;rotate_left
 ·
  rintro w' ⟨s0,s1,s2,s3,s4,s5,s6,s7⟩;go_simp;with_reducible rfl
 rotate_left
 ·
  simp only [Act.put,s0_,s1_,s2_,i64_w,i32_w];rfl
 refine take_ (i:=1) (N:=some 19) (v:=?_) (a':=?_) #[y_,y_,n_,n_,n_,n_] rfl rfl (by kernel_rfl) (fun _ _ _ h=>h) (Or.inl ⟨by rfl,?_⟩) R ?_ ?_;rotate_left
 ·
  rintro w' ⟨s0,s1,s2,s3,s4,s5,s6,s7⟩;go_simp;with_reducible rfl
 rotate_left
 ·
  simp only [Act.put,s0_,s1_,s2_,i64_w,i32_w];rfl
 refine join_ (σ:=Nat) 1 #[y_,y_,y_,y_,y_,n_] (fun s_=>[(20,.agg #[.int .i64 h5,.int .i64 h6,.int .i64 h7,.int .i64 h8]),(21,.agg #[.int .i64 a2,.int .i64 a7,.int .i64 a9,.int .i64 b8]),(7,.pointer (some ⟨s_,0,none⟩))]) (fun s_ w'=>(w'.cell? ⟨b6,0,none⟩=some (.int .i64 b2)∧w'.cell? ⟨b6,1,none⟩=some (.int .i64 b3)∧w'.cell? ⟨b6,2,none⟩=some (.int .i64 b4)∧w'.cell? ⟨b6,3,none⟩=some (.int .i64 b5)∧w'.cell? ⟨b7,0,none⟩=some (.int .i64 a3)∧w'.cell? ⟨b7,1,none⟩=some (.int .i64 a4)∧w'.cell? ⟨b7,2,none⟩=some (.int .i64 a5)∧w'.cell? ⟨b7,3,none⟩=some (.int .i64 a6))∧(Q4_ w' b6 b2 b3 b4 b5 67)∧(Q4_ w' b7 a3 a4 a5 a6 67)∧(Q4_ w' e6 0 0 0 0 67)∧(Q4_ w' e7 0 0 0 0 67)∧(Q4_ w' s_ 0 0 0 0 67)∧(w.heap.size ≤ s_)∧(w.heap.size ≤ s_)∧(b6 ≠ s_)∧(s_ ≠ b6)∧(b7 ≠ s_)∧(s_ ≠ b7)∧(e6 ≠ s_)∧(s_ ≠ e6)∧(e7 ≠ s_)∧(s_ ≠ e7)∧(Below w.heap.size w w')) ?_ ?_;rotate_left
 ·
  intro hCont;refine two_ (i:=2) (j:=4) (Ni:=some 20) (Nj:=some 7) #[y_,y_,y_,n_,n_,n_] #[y_,y_,n_,n_,y_,n_] rfl rfl rfl rfl (by kernel_rfl) (by decide) (by decide) (fun K hK=>?_) (fun K hK=>?_)
  ·
   skip
   refine goes_ Try.func65 (by kernel_rfl) rfl #[.agg #[.int .i64 a3,.int .i64 a4,.int .i64 a5,.int .i64 a6]] (by rfl) rfl rfl (by (try simp only [m0_,m1_,m2_]);first|done|rfl|(simp only [l0_,l1_];rfl)) ?_;with_reducible refine (norm_quat_conj.calls a3 a4 a5 a6 h5 h6 h7 h8 _ A4.1).mono ?_
   rintro e I9 ⟨rfl,hb⟩;refine ⟨_,rfl,?_⟩;replace C:=bkb C hb;replace B:=bkb B hb;replace F:=bkb F hb;replace G:=bkb G hb;replace Z:=bst Z hb;(try clear hb);refine hK.out _ _ ⟨q0_ C,q1_ C,q2_ C,q3_ C,q0_ B,q1_ B,q2_ B,q3_ B⟩ (fun R=>?_);clear hK K;refine norm_ (a':=?_) ?_ ?_;rotate_left
   ·
    show Act.put _ (some 20) _=_;simp only [Act.put,s0_,s1_,s2_,i64_w,i32_w];rfl
   refine two_ (i:=3) (j:=4) (Ni:=some 21) (Nj:=some 7) #[y_,y_,y_,y_,n_,n_] #[y_,y_,y_,n_,y_,n_] rfl rfl rfl rfl (by kernel_rfl) (by decide) (by decide) (fun K hK=>?_) (fun K hK=>?_)
   ·
    skip
    refine goes_ Try.func71 (by kernel_rfl) rfl #[.agg #[.int .i64 b2,.int .i64 b3,.int .i64 b4,.int .i64 b5],.agg #[.int .i64 h5,.int .i64 h6,.int .i64 h7,.int .i64 h8]] (by rfl) rfl rfl (by (try simp only [m0_,m1_,m2_]);first|done|rfl|(simp only [l0_,l1_];rfl)) ?_;with_reducible refine (norm_quat_double.calls b2 b3 b4 b5 h5 h6 h7 h8 a2 a7 a9 b8 _ A5.1).mono ?_
    rintro e u7 ⟨rfl,hb⟩;refine ⟨_,rfl,?_⟩;replace C:=bkb C hb;replace B:=bkb B hb;replace F:=bkb F hb;replace G:=bkb G hb;replace Z:=bst Z hb;(try clear hb);refine hK.out _ _ ⟨q0_ C,q1_ C,q2_ C,q3_ C,q0_ B,q1_ B,q2_ B,q3_ B⟩ (fun R=>?_);clear hK K;refine norm_ (a':=?_) ?_ ?_;rotate_left
    ·
     show Act.put _ (some 21) _=_;simp only [Act.put,s0_,s1_,s2_,i64_w,i32_w];rfl
    refine one_ (i:=4) (N:=some 7) #[y_,y_,y_,y_,y_,n_] rfl rfl (by kernel_rfl) (by decide) (fun K hK=>?_);refine box_step ?hg (N:=7) ?hd (cs:=#[.int .i64 0,.int .i64 0,.int .i64 0,.int .i64 0]) (t:=67) ?hr ?_;(case hd=>rfl);(case hg=>rfl);(case hr=>first|(go_simp;done)|(go_simp;rfl));intro e2 hg u8 d0 hb;have I:=mk0 (d0);have j5:=szw hg Z;have b9:=szw hg Z;have b0:=nlt hg C;have e9:=ngt hg C;have b1:=nlt hg B;have f0:=ngt hg B;have c5:=nlt hg F;have e3:=ngt hg F;have c0:=nlt hg G;have e0:=ngt hg G;replace C:=bkb C hb;replace B:=bkb B hb;replace F:=bkb F hb;replace G:=bkb G hb;replace Z:=bst Z hb;clear hb d0 hg;refine hK.out _ _ ⟨q0_ C,q1_ C,q2_ C,q3_ C,q0_ B,q1_ B,q2_ B,q3_ B⟩ (fun R=>?_);clear hK K;refine norm_ (a':=?_) ?_ ?_;rotate_left
    ·
     show Act.put _ (some 7) _=_;simp only [Act.put,s0_,s1_,s2_,i64_w,i32_w];rfl
    exact norm_ (by simp only [putAll,Act.put,s0_,s1_,s2_]) (hCont (e2) _ ⟨R,C.1,B.1,F.1,G.1,I.1,j5.1,b9.1,b0.1,e9.1,b1.1,f0.1,c5.1,e3.1,c0.1,e0.1,Z.1⟩)
   ·
    skip
    refine box_step ?hg (N:=7) ?hd (cs:=#[.int .i64 0,.int .i64 0,.int .i64 0,.int .i64 0]) (t:=67) ?hr ?_;(case hd=>rfl);(case hg=>rfl);(case hr=>first|(go_simp;done)|(go_simp;rfl));intro e2 hg u7 d0 hb;have I:=mk0 (d0);have j5:=szw hg Z;have b9:=szw hg Z;have b0:=nlt hg C;have e9:=ngt hg C;have b1:=nlt hg B;have f0:=ngt hg B;have c5:=nlt hg F;have e3:=ngt hg F;have c0:=nlt hg G;have e0:=ngt hg G;replace C:=bkb C hb;replace B:=bkb B hb;replace F:=bkb F hb;replace G:=bkb G hb;replace Z:=bst Z hb;clear hb d0 hg;refine hK.out _ _ ⟨q0_ C,q1_ C,q2_ C,q3_ C,q0_ B,q1_ B,q2_ B,q3_ B⟩ (fun R=>?_);clear hK K;refine norm_ (a':=?_) ?_ ?_;rotate_left
    ·
     show Act.put _ (some 7) _=_;simp only [Act.put,s0_,s1_,s2_,i64_w,i32_w];rfl
    refine one_ (i:=3) (N:=some 21) #[y_,y_,y_,y_,y_,n_] rfl rfl (by kernel_rfl) (by decide) (fun K hK=>?_);refine goes_ Try.func71 (by kernel_rfl) rfl #[.agg #[.int .i64 b2,.int .i64 b3,.int .i64 b4,.int .i64 b5],.agg #[.int .i64 h5,.int .i64 h6,.int .i64 h7,.int .i64 h8]] (by rfl) rfl rfl (by (try simp only [m0_,m1_,m2_]);first|done|rfl|(simp only [l0_,l1_];rfl)) ?_;with_reducible refine (norm_quat_double.calls b2 b3 b4 b5 h5 h6 h7 h8 a2 a7 a9 b8 _ A5.1).mono ?_
    rintro e u8 ⟨rfl,hb⟩;refine ⟨_,rfl,?_⟩;replace C:=bkb C hb;replace B:=bkb B hb;replace F:=bkb F hb;replace G:=bkb G hb;replace I:=bkb I hb;replace Z:=bst Z hb;(try clear hb);refine hK.out _ _ ⟨q0_ C,q1_ C,q2_ C,q3_ C,q0_ B,q1_ B,q2_ B,q3_ B⟩ (fun R=>?_);clear hK K;refine norm_ (a':=?_) ?_ ?_;rotate_left
    ·
     show Act.put _ (some 21) _=_;simp only [Act.put,s0_,s1_,s2_,i64_w,i32_w];rfl
    exact norm_ (by simp only [putAll,Act.put,s0_,s1_,s2_]) (hCont (e2) _ ⟨R,C.1,B.1,F.1,G.1,I.1,j5.1,b9.1,b0.1,e9.1,b1.1,f0.1,c5.1,e3.1,c0.1,e0.1,Z.1⟩)
  ·
   skip
   refine box_step ?hg (N:=7) ?hd (cs:=#[.int .i64 0,.int .i64 0,.int .i64 0,.int .i64 0]) (t:=67) ?hr ?_;(case hd=>rfl);(case hg=>rfl);(case hr=>first|(go_simp;done)|(go_simp;rfl));intro e2 hg I9 d0 hb;have I:=mk0 (d0);have j5:=szw hg Z;have b9:=szw hg Z;have b0:=nlt hg C;have e9:=ngt hg C;have b1:=nlt hg B;have f0:=ngt hg B;have c5:=nlt hg F;have e3:=ngt hg F;have c0:=nlt hg G;have e0:=ngt hg G;replace C:=bkb C hb;replace B:=bkb B hb;replace F:=bkb F hb;replace G:=bkb G hb;replace Z:=bst Z hb;clear hb d0 hg;refine hK.out _ _ ⟨q0_ C,q1_ C,q2_ C,q3_ C,q0_ B,q1_ B,q2_ B,q3_ B⟩ (fun R=>?_);clear hK K;refine norm_ (a':=?_) ?_ ?_;rotate_left
   ·
    show Act.put _ (some 7) _=_;simp only [Act.put,s0_,s1_,s2_,i64_w,i32_w];rfl
   refine one_ (i:=2) (N:=some 20) #[y_,y_,y_,n_,y_,n_] rfl rfl (by kernel_rfl) (by decide) (fun K hK=>?_);refine goes_ Try.func65 (by kernel_rfl) rfl #[.agg #[.int .i64 a3,.int .i64 a4,.int .i64 a5,.int .i64 a6]] (by rfl) rfl rfl (by (try simp only [m0_,m1_,m2_]);first|done|rfl|(simp only [l0_,l1_];rfl)) ?_;with_reducible refine (norm_quat_conj.calls a3 a4 a5 a6 h5 h6 h7 h8 _ A4.1).mono ?_
   rintro e u7 ⟨rfl,hb⟩;refine ⟨_,rfl,?_⟩;replace C:=bkb C hb;replace B:=bkb B hb;replace F:=bkb F hb;replace G:=bkb G hb;replace I:=bkb I hb;replace Z:=bst Z hb;(try clear hb);refine hK.out _ _ ⟨q0_ C,q1_ C,q2_ C,q3_ C,q0_ B,q1_ B,q2_ B,q3_ B⟩ (fun R=>?_);clear hK K;refine norm_ (a':=?_) ?_ ?_;rotate_left
   ·
    show Act.put _ (some 20) _=_;simp only [Act.put,s0_,s1_,s2_,i64_w,i32_w];rfl
   refine one_ (i:=3) (N:=some 21) #[y_,y_,y_,y_,y_,n_] rfl rfl (by kernel_rfl) (by decide) (fun K hK=>?_);refine goes_ Try.func71 (by kernel_rfl) rfl #[.agg #[.int .i64 b2,.int .i64 b3,.int .i64 b4,.int .i64 b5],.agg #[.int .i64 h5,.int .i64 h6,.int .i64 h7,.int .i64 h8]] (by rfl) rfl rfl (by (try simp only [m0_,m1_,m2_]);first|done|rfl|(simp only [l0_,l1_];rfl)) ?_;with_reducible refine (norm_quat_double.calls b2 b3 b4 b5 h5 h6 h7 h8 a2 a7 a9 b8 _ A5.1).mono ?_
   rintro e u8 ⟨rfl,hb⟩;refine ⟨_,rfl,?_⟩;replace C:=bkb C hb;replace B:=bkb B hb;replace F:=bkb F hb;replace G:=bkb G hb;replace I:=bkb I hb;replace Z:=bst Z hb;(try clear hb);refine hK.out _ _ ⟨q0_ C,q1_ C,q2_ C,q3_ C,q0_ B,q1_ B,q2_ B,q3_ B⟩ (fun R=>?_);clear hK K;refine norm_ (a':=?_) ?_ ?_;rotate_left
   ·
    show Act.put _ (some 21) _=_;simp only [Act.put,s0_,s1_,s2_,i64_w,i32_w];rfl
   exact norm_ (by simp only [putAll,Act.put,s0_,s1_,s2_]) (hCont (e2) _ ⟨R,C.1,B.1,F.1,G.1,I.1,j5.1,b9.1,b0.1,e9.1,b1.1,f0.1,c5.1,e3.1,c0.1,e0.1,Z.1⟩)
 clear C B F G Z;rintro e2 Bw q8;replace q8:=h_ (m4_ (m4_ (m4_ (m_ (m_ (m_ l_)))))) q8;obtain ⟨J0,C,B,F,G,I,j5,b9,b0,e9,b1,f0,c5,e3,c0,e0,Z⟩:=q8;have R:=J0;refine norm_ (a':=?_) ?_ ?_;rotate_left
 ·
  simp only [putAll,Act.put,s0_,s1_,s2_];rfl
 refine one_ (i:=5) (N:=none) #[y_,y_,y_,y_,y_,y_] rfl rfl (by kernel_rfl) (by decide) (fun K hK=>?_);have Bi:=q0_ I;have O5:=blk_frozen I.1 0;have C2:=b0.1;have C3:=b1.1;have C4:=c5.1;have C5:=c0.1;have C6:=e9.1;have C7:=f0.1;have C8:=e3.1;have C9:=e0.1;have Bj:=q1_ I;have O6:=blk_frozen I.1 1;have Bk:=q2_ I;have O7:=blk_frozen I.1 2;have Bl:=q3_ I;have O8:=blk_frozen I.1 3;refine skip_ (w1:=?_) (by rfl) rfl ?_ ?_;rotate_left
 ·
  go_simp;rfl
 refine hK.out _ _ ⟨f4_ b0 R.1,f4_ b0 R.2.1,f4_ b0 R.2.2.1,f4_ b0 R.2.2.2.1,f4_ b1 R.2.2.2.2.1,f4_ b1 R.2.2.2.2.2.1,f4_ b1 R.2.2.2.2.2.2.1,f4_ b1 R.2.2.2.2.2.2.2⟩ (fun R=>?_);clear hK K;refine done_ (by kernel_rfl) ?_;try go_wp2_with (first|((with_reducible refine gate_dst (N:=8) rfl ?_);refine box_event ?hg (N:=8) ?hd (cs:=#[.int .i64 0,.int .i64 0,.int .i64 0,.int .i64 0]) (t:=67) ?hr ?_;(case hd=>rfl);(case hg=>rfl);(case hr=>first|(go_simp;done)|(go_simp;rfl));intro a0 hg Bx d0 hb;have D:=mk0 (d0);have O9:=mk0 ((by rw [hg];exact (below_size (by repeat (with_reducible first|exact Z.1|refine below_set ?_ d6.1|refine below_set ?_ d7.1|refine below_set ?_ d8.1|refine below_set ?_ d9.1|refine below_set ?_ b9.1))):w.heap.size ≤ a0));have e8:=mk0 ((by rw [hg];exact (below_size (by repeat (with_reducible first|exact Z.1|refine below_set ?_ d6.1|refine below_set ?_ d7.1|refine below_set ?_ d8.1|refine below_set ?_ d9.1|refine below_set ?_ b9.1))):w.heap.size ≤ a0));have g6:=mk0 ((by rw [hg];exact Nat.ne_of_lt (blk_lt (g:=b6) (o:=.cells #[.int .i64 b2,.int .i64 b3,.int .i64 b4,.int .i64 b5] 67 (0,0)) (by (iterate 4 refine blk_far ?_ b0.1 _);exact C.1)):b6 ≠ a0));have i1:=mk0 ((by rw [hg];exact Nat.ne_of_gt (blk_lt (g:=b6) (o:=.cells #[.int .i64 b2,.int .i64 b3,.int .i64 b4,.int .i64 b5] 67 (0,0)) (by (iterate 4 refine blk_far ?_ b0.1 _);exact C.1)):a0 ≠ b6));have g7:=mk0 ((by rw [hg];exact Nat.ne_of_lt (blk_lt (g:=b7) (o:=.cells #[.int .i64 a3,.int .i64 a4,.int .i64 a5,.int .i64 a6] 67 (0,0)) (by (iterate 4 refine blk_far ?_ b1.1 _);exact B.1)):b7 ≠ a0));have i2:=mk0 ((by rw [hg];exact Nat.ne_of_gt (blk_lt (g:=b7) (o:=.cells #[.int .i64 a3,.int .i64 a4,.int .i64 a5,.int .i64 a6] 67 (0,0)) (by (iterate 4 refine blk_far ?_ b1.1 _);exact B.1)):a0 ≠ b7));have f7:=mk0 ((by rw [hg];exact Nat.ne_of_lt (blk_lt (g:=e6) (o:=.cells #[.int .i64 0,.int .i64 0,.int .i64 0,.int .i64 0] 67 (0,0)) (by (iterate 4 refine blk_far ?_ c5.1 _);exact F.1)):e6 ≠ a0));have f1:=mk0 ((by rw [hg];exact Nat.ne_of_gt (blk_lt (g:=e6) (o:=.cells #[.int .i64 0,.int .i64 0,.int .i64 0,.int .i64 0] 67 (0,0)) (by (iterate 4 refine blk_far ?_ c5.1 _);exact F.1)):a0 ≠ e6));have f2:=mk0 ((by rw [hg];exact Nat.ne_of_lt (blk_lt (g:=e7) (o:=.cells #[.int .i64 0,.int .i64 0,.int .i64 0,.int .i64 0] 67 (0,0)) (by (iterate 4 refine blk_far ?_ c0.1 _);exact G.1)):e7 ≠ a0));have e4:=mk0 ((by rw [hg];exact Nat.ne_of_gt (blk_lt (g:=e7) (o:=.cells #[.int .i64 0,.int .i64 0,.int .i64 0,.int .i64 0] 67 (0,0)) (by (iterate 4 refine blk_far ?_ c0.1 _);exact G.1)):a0 ≠ e7));have f8:=mk0 ((by rw [hg];exact Nat.ne_of_lt (blk_lt (g:=e2) (o:=.cells #[.int .i64 a2,.int .i64 a7,.int .i64 a9,.int .i64 b8] 67 (0,0)) (by refine blk_put (cs:=#[.int .i64 a2,.int .i64 a7,.int .i64 a9,.int .i64 0]) ?_ 3 _ rfl;refine blk_put (cs:=#[.int .i64 a2,.int .i64 a7,.int .i64 0,.int .i64 0]) ?_ 2 _ rfl;refine blk_put (cs:=#[.int .i64 a2,.int .i64 0,.int .i64 0,.int .i64 0]) ?_ 1 _ rfl;refine blk_put (cs:=#[.int .i64 0,.int .i64 0,.int .i64 0,.int .i64 0]) ?_ 0 _ rfl;exact I.1)):e2 ≠ a0));have h4:=mk0 ((by rw [hg];exact Nat.ne_of_gt (blk_lt (g:=e2) (o:=.cells #[.int .i64 a2,.int .i64 a7,.int .i64 a9,.int .i64 b8] 67 (0,0)) (by refine blk_put (cs:=#[.int .i64 a2,.int .i64 a7,.int .i64 a9,.int .i64 0]) ?_ 3 _ rfl;refine blk_put (cs:=#[.int .i64 a2,.int .i64 a7,.int .i64 0,.int .i64 0]) ?_ 2 _ rfl;refine blk_put (cs:=#[.int .i64 a2,.int .i64 0,.int .i64 0,.int .i64 0]) ?_ 1 _ rfl;refine blk_put (cs:=#[.int .i64 0,.int .i64 0,.int .i64 0,.int .i64 0]) ?_ 0 _ rfl;exact I.1)):a0 ≠ e2));replace C:=mk0 (blk_below (g:=b6) (o:=.cells #[.int .i64 b2,.int .i64 b3,.int .i64 b4,.int .i64 b5] 67 (0,0)) (by (iterate 4 refine blk_far ?_ b0.1 _);exact C.1) hb);replace B:=mk0 (blk_below (g:=b7) (o:=.cells #[.int .i64 a3,.int .i64 a4,.int .i64 a5,.int .i64 a6] 67 (0,0)) (by (iterate 4 refine blk_far ?_ b1.1 _);exact B.1) hb);replace F:=mk0 (blk_below (g:=e6) (o:=.cells #[.int .i64 0,.int .i64 0,.int .i64 0,.int .i64 0] 67 (0,0)) (by (iterate 4 refine blk_far ?_ c5.1 _);exact F.1) hb);replace G:=mk0 (blk_below (g:=e7) (o:=.cells #[.int .i64 0,.int .i64 0,.int .i64 0,.int .i64 0] 67 (0,0)) (by (iterate 4 refine blk_far ?_ c0.1 _);exact G.1) hb);replace I:=mk0 (blk_below (g:=e2) (o:=.cells #[.int .i64 a2,.int .i64 a7,.int .i64 a9,.int .i64 b8] 67 (0,0)) (by refine blk_put (cs:=#[.int .i64 a2,.int .i64 a7,.int .i64 a9,.int .i64 0]) ?_ 3 _ rfl;refine blk_put (cs:=#[.int .i64 a2,.int .i64 a7,.int .i64 0,.int .i64 0]) ?_ 2 _ rfl;refine blk_put (cs:=#[.int .i64 a2,.int .i64 0,.int .i64 0,.int .i64 0]) ?_ 1 _ rfl;refine blk_put (cs:=#[.int .i64 0,.int .i64 0,.int .i64 0,.int .i64 0]) ?_ 0 _ rfl;exact I.1) hb);replace Z:=mk0 (below_step (by repeat (with_reducible first|exact Z.1|refine below_set ?_ d6.1|refine below_set ?_ d7.1|refine below_set ?_ d8.1|refine below_set ?_ d9.1|refine below_set ?_ b9.1)) hb);clear hb d0 hg))
 (try simp only [Act.put,s0_,s1_,s2_])
 go_loopg [9,22] k (fun kq v9 J1 w'=>∃ (e5:Int) (a1:Int) (Q:Int) (O:Int) (L:Int) (J:Int),v9=.int .i64 e5∧J1=.int .i64 a1∧Aside0 (norm_divide.l0 kq a8 e5 a1 b2 b3 b4 b5 a3 a4 a5 a6 a2 a7 a9 b8 Q O L J=some (r1,r2,r3,r4,r5,r6,r7,r8))∧Aside0 (kq ≤ k)∧Aside0 (Q4_ w' b6 b2 b3 b4 b5 67)∧Aside0 (Q4_ w' b7 a3 a4 a5 a6 67)∧Aside0 (Q4_ w' e6 0 0 0 0 67)∧Aside0 (Q4_ w' e7 0 0 0 0 67)∧Aside0 (Q4_ w' e2 a2 a7 a9 b8 67)∧Aside0 (Q4_ w' a0 Q O L J 67)∧Aside0 (Below w.heap.size w w'))
 case atStart=>exact ⟨((-1)),(0),(0),(0),(0),(0),(by first|rfl|(simp;done)|(simp [*];done)),(by first|rfl|(simp;done)|(simp [*];done)),H',⟨Nat.le_refl _⟩,⟨by exact C.1⟩,⟨by exact B.1⟩,⟨by exact F.1⟩,⟨by exact G.1⟩,⟨by exact I.1⟩,⟨by exact D.1⟩,⟨by repeat (first|(with_reducible first|exact Z.1|apply below_alloc|apply pw_below_drewN|apply below_drew1|refine below_set ?_ d6.1|refine below_set ?_ d7.1|refine below_set ?_ d8.1|refine below_set ?_ d9.1|refine below_set ?_ b9.1|refine below_set ?_ e8.1)|exact Z.1)⟩⟩
 case round =>
  clear H';try clear c1
  try clear p2
  try clear c4
  try clear c6
  try clear c7
  try clear c10
  try clear c11
  try clear c12
  try clear m8
  try clear m9
  try clear n0
  try clear n1
  try clear n2
  try clear n3
  try clear n4
  try clear n5
  obtain ⟨e5,a1,Q,O,L,J,rfl,rfl,HA,g8,C,B,F,G,I,D,Z⟩:=hrel;cases gk with
  | zero=>exact absurd HA.1 (by simp [norm_divide.l0])
  | succ k1 =>
   have H:=HA.1;clear HA;simp only [norm_divide.l0] at H
   by_cases c25:a1 < 2
   ·
    rw [if_pos c25] at H;have c25b0:decide (a1 < 2)=true:=decide_eq_true c25;clear c25;have H':=mk0 H;clear H;go_wp2_with (first|((with_reducible refine gate_dst (N:=11) rfl ?_);refine box_event ?hg (N:=11) ?hd (cs:=#[.int .i64 0,.int .i64 0,.int .i64 0,.int .i64 0]) (t:=67) ?hr ?_;(case hd=>rfl);(case hg=>rfl);(case hr=>first|(go_simp;done)|(go_simp;rfl));intro f4 hg By d0 hb;have E:=mk0 (d0);have u0:=szw hg Z;have f5:=u0;have d1:=nlt hg C;have f9:=ngt hg C;have d2:=nlt hg B;have g0:=ngt hg B;have d3:=nlt hg F;have g1:=ngt hg F;have d4:=nlt hg G;have g2:=ngt hg G;have c8:=nlt hg I;have f3:=ngt hg I;have d5:=nlt hg D;have g3:=ngt hg D;replace C:=bkb C hb;replace B:=bkb B hb;replace F:=bkb F hb;replace G:=bkb G hb;replace I:=bkb I hb;replace D:=bkb D hb;replace Z:=bst Z hb;clear hb d0 hg;have Q0:=e9.1;have Q1:=b0.1;have Q2:=f0.1;have Q3:=b1.1;have Q4:=e3.1;have Q5:=c5.1;have Q6:=e0.1;have Q7:=c0.1;have Q8:=f8.1;have Q9:=h4.1;have R0:=c8.1;have R1:=f3.1;have p1:=q0_ I;have p3:=q1_ I;have p4:=q2_ I;have p5:=q3_ I;have p6:=blk_frozen I.1 0;have p7:=blk_frozen I.1 1;have p8:=blk_frozen I.1 2;have p9:=blk_frozen I.1 3));(try simp only [Act.put,s0_,s1_,s2_])
    go_loopg [12,26] k1 (fun kq J2 J3 w'=>∃ (c9:Int) (h0:Int) (T:Int) (U:Int) (X:Int) (Y:Int),J2=.int .i64 c9∧J3=.int .i64 h0∧Aside0 (norm_divide.l1 kq a8 e5 a1 c9 a1 h0 b8 a9 a7 a2 b2 b3 b4 b5 a3 a4 a5 a6 a2 a7 a9 b8 Q O L J T U X Y=some (r1,r2,r3,r4,r5,r6,r7,r8))∧Aside0 (kq ≤ k1)∧Aside0 (Q4_ w' b6 b2 b3 b4 b5 67)∧Aside0 (Q4_ w' b7 a3 a4 a5 a6 67)∧Aside0 (Q4_ w' e6 0 0 0 0 67)∧Aside0 (Q4_ w' e7 0 0 0 0 67)∧Aside0 (Q4_ w' e2 a2 a7 a9 b8 67)∧Aside0 (Q4_ w' a0 Q O L J 67)∧Aside0 (Q4_ w' f4 T U X Y 67)∧Aside0 (Below w.heap.size w w'))
    case atStart=>exact ⟨(0),(0),(0),(0),(0),(0),(by first|rfl|(simp;done)|(simp [*];done)),(by first|rfl|(simp;done)|(simp [*];done)),H',⟨Nat.le_refl _⟩,⟨by exact C.1⟩,⟨by exact B.1⟩,⟨by exact F.1⟩,⟨by exact G.1⟩,⟨by exact I.1⟩,⟨by exact D.1⟩,⟨by exact E.1⟩,⟨by repeat (first|(with_reducible first|exact Z.1|apply below_alloc|apply pw_below_drewN|apply below_drew1|refine below_set ?_ d6.1|refine below_set ?_ d7.1|refine below_set ?_ d8.1|refine below_set ?_ d9.1|refine below_set ?_ b9.1|refine below_set ?_ e8.1|refine below_set ?_ f5.1)|exact Z.1)⟩⟩
    case round =>
     clear H';try clear c1
     try clear c2
     try clear p2
     try clear c3
     try clear c4
     try clear c6
     try clear c7
     try clear c10
     try clear c11
     try clear c12
     try clear c25
     try clear c25b0
     try clear c27
     try clear c28
     try clear c29
     try clear c30
     try clear c31
     try clear c32
     try clear m8
     try clear m9
     try clear n0
     try clear n1
     try clear p1
     try clear p3
     try clear p4
     try clear p5
     try clear n2
     try clear n3
     try clear n4
     try clear n5
     try clear p6
     try clear p7
     try clear p8
     try clear p9
     try clear p2
     obtain ⟨c9,h0,T,U,X,Y,rfl,rfl,HA,g9,C,B,F,G,I,D,E,Z⟩:=hrel;cases gk with
     | zero=>exact absurd HA.1 (by simp [norm_divide.l1])
     | succ k2 =>
      have H:=HA.1;clear HA;simp only [norm_divide.l1] at H
      by_cases c34:h0 < 4
      ·
       rw [if_pos c34] at H;have c34b0:decide (h0 < 4)=true:=decide_eq_true c34;clear c34
       by_cases c35:h0=0
       ·
        subst c35;have H1:((norm_nearest.f a2 (wrap64 (2 * a8)) a1).bind fun i3=>(norm_divide.l1 k2 a8 e5 a1 (wrap64 (c9 + (wrap64 ((wrap64 (a2 - (wrap64 ((wrap64 (i3 * 2)) * a8)))) * (wrap64 (a2 - (wrap64 ((wrap64 (i3 * 2)) * a8)))))))) a1 1 b8 a9 a7 a2 b2 b3 b4 b5 a3 a4 a5 a6 a2 a7 a9 b8 Q O L J i3 U X Y))=some (r1,r2,r3,r4,r5,r6,r7,r8):=by (try rw [if_pos rfl] at H);first|exact H|simpa using H
        clear H;have H:=H1;clear H1;replace H:=Option.bind_eq_some_iff.mp H;obtain ⟨i3,q9,H⟩:=H;(try dsimp only at H);have J4:=mk0 q9;clear q9;have H':=mk0 H;clear H;go_wp2_with (first|((with_reducible refine gate_callee (f:=72) rfl ?_);refine goesL_ (some 35) rfl rfl Try.func72 (by kernel_rfl) rfl #[.int .i64 a2,.int .i64 (wrap64 (2 * a8)),.int .i64 a1] rfl (by (try simp only [m0_,m1_,m2_]);first|done|rfl|(simp only [l0_,l1_];rfl)) ?_;(with_reducible refine (norm_nearest.calls a2 (wrap64 (2 * a8)) a1 i3 _ J4.1).mono ?_);rintro e w' ⟨rfl,⟨nd,rfl⟩⟩;refine ⟨_,rfl,?_⟩;(try (rw [drewN_self wr];generalize hq_:World.drewN wr _=wr;have i4:Aside0 (Q4_ wr b6 b2 b3 b4 b5 67):=⟨by rw [← hq_];exact (by (with_reducible repeat (first|refine blk_drewN ?_ _|refine blk_drew ?_|refine blk_alloc ?_ _));exact C.1)⟩;have i5:Aside0 (Q4_ wr b7 a3 a4 a5 a6 67):=⟨by rw [← hq_];exact (by (with_reducible repeat (first|refine blk_drewN ?_ _|refine blk_drew ?_|refine blk_alloc ?_ _));exact B.1)⟩;have i6:Aside0 (Q4_ wr e6 0 0 0 0 67):=⟨by rw [← hq_];exact (by (with_reducible repeat (first|refine blk_drewN ?_ _|refine blk_drew ?_|refine blk_alloc ?_ _));exact F.1)⟩;have i7:Aside0 (Q4_ wr e7 0 0 0 0 67):=⟨by rw [← hq_];exact (by (with_reducible repeat (first|refine blk_drewN ?_ _|refine blk_drew ?_|refine blk_alloc ?_ _));exact G.1)⟩;have i8:Aside0 (Q4_ wr e2 a2 a7 a9 b8 67):=⟨by rw [← hq_];exact (by (with_reducible repeat (first|refine blk_drewN ?_ _|refine blk_drew ?_|refine blk_alloc ?_ _));exact I.1)⟩;have i9:Aside0 (Q4_ wr a0 Q O L J 67):=⟨by rw [← hq_];exact (by (with_reducible repeat (first|refine blk_drewN ?_ _|refine blk_drew ?_|refine blk_alloc ?_ _));exact D.1)⟩;have j0:Aside0 (Q4_ wr f4 T U X Y 67):=⟨by rw [← hq_];exact (by (with_reducible repeat (first|refine blk_drewN ?_ _|refine blk_drew ?_|refine blk_alloc ?_ _));exact E.1)⟩;have j1:Aside0 (Below w.heap.size w wr):=⟨by rw [← hq_];exact (by repeat (first|(with_reducible first|exact Z.1|apply below_alloc|apply pw_below_drewN|apply below_drew1|refine below_set ?_ d6.1|refine below_set ?_ d7.1|refine below_set ?_ d8.1|refine below_set ?_ d9.1|refine below_set ?_ b9.1|refine below_set ?_ e8.1|refine below_set ?_ f5.1)|exact Z.1))⟩;clear C B F G I D E Z hq_;have C:=i4;have B:=i5;have F:=i6;have G:=i7;have I:=i8;have D:=i9;have E:=j0;have Z:=j1;clear i4 i5 i6 i7 i8 i9 j0 j1));have R2:=f9.1;have R3:=d1.1;have R4:=g0.1;have R5:=d2.1;have R6:=g1.1;have R7:=d3.1;have R8:=g2.1;have R9:=d4.1;have T0:=f3.1;have T1:=c8.1;have T2:=g3.1;have T3:=d5.1;have D0:=q0_ E;have D1:=q1_ E;have D2:=q2_ E;have D3:=q3_ E;have D4:=blk_frozen E.1 0;have D5:=blk_frozen E.1 1;have D6:=blk_frozen E.1 2;have D7:=blk_frozen E.1 3))
        go_roundg k2
        case measure=>have:=g8.1;have:=g9.1;omega
        case rel=>exact ⟨(wrap64 (c9 + (wrap64 ((wrap64 (a2 - (wrap64 ((wrap64 (i3 * 2)) * a8)))) * (wrap64 (a2 - (wrap64 ((wrap64 (i3 * 2)) * a8)))))))),(1),(i3),(U),(X),(Y),(by first|rfl|(simp;done)|(simp [*];done)),(by first|rfl|(simp;done)|(simp [*];done)),H',⟨by have:=g8.1;have:=g9.1;omega⟩,⟨by refine blk_far ?_ d1.1 _;exact C.1⟩,⟨by refine blk_far ?_ d2.1 _;exact B.1⟩,⟨by refine blk_far ?_ d3.1 _;exact F.1⟩,⟨by refine blk_far ?_ d4.1 _;exact G.1⟩,⟨by refine blk_far ?_ c8.1 _;exact I.1⟩,⟨by refine blk_far ?_ d5.1 _;exact D.1⟩,⟨by refine blk_put (cs:=#[.int .i64 T,.int .i64 U,.int .i64 X,.int .i64 Y]) ?_ 0 _ rfl;exact E.1⟩,⟨by repeat (first|(with_reducible first|exact Z.1|apply below_alloc|apply pw_below_drewN|apply below_drew1|refine below_set ?_ d6.1|refine below_set ?_ d7.1|refine below_set ?_ d8.1|refine below_set ?_ d9.1|refine below_set ?_ b9.1|refine below_set ?_ e8.1|refine below_set ?_ f5.1)|exact Z.1)⟩⟩
       ·
        rw [if_neg c35] at H
        by_cases c44:h0=1
        ·
         subst c44;have H1:((norm_nearest.f a7 (wrap64 (2 * a8)) a1).bind fun j2=>(norm_divide.l1 k2 a8 e5 a1 (wrap64 (c9 + (wrap64 ((wrap64 (a7 - (wrap64 ((wrap64 (j2 * 2)) * a8)))) * (wrap64 (a7 - (wrap64 ((wrap64 (j2 * 2)) * a8)))))))) a1 2 b8 a9 a7 a2 b2 b3 b4 b5 a3 a4 a5 a6 a2 a7 a9 b8 Q O L J T j2 X Y))=some (r1,r2,r3,r4,r5,r6,r7,r8):=by (try rw [if_pos rfl] at H);first|exact H|simpa using H
         clear H;have H:=H1;clear H1;replace H:=Option.bind_eq_some_iff.mp H;obtain ⟨j2,r0,H⟩:=H;(try dsimp only at H);have J5:=mk0 r0;clear r0;have H':=mk0 H;clear H;go_wp2_with (first|((with_reducible refine gate_callee (f:=72) rfl ?_);refine goesL_ (some 35) rfl rfl Try.func72 (by kernel_rfl) rfl #[.int .i64 a7,.int .i64 (wrap64 (2 * a8)),.int .i64 a1] rfl (by (try simp only [m0_,m1_,m2_]);first|done|rfl|(simp only [l0_,l1_];rfl)) ?_;(with_reducible refine (norm_nearest.calls a7 (wrap64 (2 * a8)) a1 j2 _ J5.1).mono ?_);rintro e w' ⟨rfl,⟨nd,rfl⟩⟩;refine ⟨_,rfl,?_⟩;(try (rw [drewN_self wr];generalize hq_:World.drewN wr _=wr;have i4:Aside0 (Q4_ wr b6 b2 b3 b4 b5 67):=⟨by rw [← hq_];exact (by (with_reducible repeat (first|refine blk_drewN ?_ _|refine blk_drew ?_|refine blk_alloc ?_ _));exact C.1)⟩;have i5:Aside0 (Q4_ wr b7 a3 a4 a5 a6 67):=⟨by rw [← hq_];exact (by (with_reducible repeat (first|refine blk_drewN ?_ _|refine blk_drew ?_|refine blk_alloc ?_ _));exact B.1)⟩;have i6:Aside0 (Q4_ wr e6 0 0 0 0 67):=⟨by rw [← hq_];exact (by (with_reducible repeat (first|refine blk_drewN ?_ _|refine blk_drew ?_|refine blk_alloc ?_ _));exact F.1)⟩;have i7:Aside0 (Q4_ wr e7 0 0 0 0 67):=⟨by rw [← hq_];exact (by (with_reducible repeat (first|refine blk_drewN ?_ _|refine blk_drew ?_|refine blk_alloc ?_ _));exact G.1)⟩;have i8:Aside0 (Q4_ wr e2 a2 a7 a9 b8 67):=⟨by rw [← hq_];exact (by (with_reducible repeat (first|refine blk_drewN ?_ _|refine blk_drew ?_|refine blk_alloc ?_ _));exact I.1)⟩;have i9:Aside0 (Q4_ wr a0 Q O L J 67):=⟨by rw [← hq_];exact (by (with_reducible repeat (first|refine blk_drewN ?_ _|refine blk_drew ?_|refine blk_alloc ?_ _));exact D.1)⟩;have j0:Aside0 (Q4_ wr f4 T U X Y 67):=⟨by rw [← hq_];exact (by (with_reducible repeat (first|refine blk_drewN ?_ _|refine blk_drew ?_|refine blk_alloc ?_ _));exact E.1)⟩;have j1:Aside0 (Below w.heap.size w wr):=⟨by rw [← hq_];exact (by repeat (first|(with_reducible first|exact Z.1|apply below_alloc|apply pw_below_drewN|apply below_drew1|refine below_set ?_ d6.1|refine below_set ?_ d7.1|refine below_set ?_ d8.1|refine below_set ?_ d9.1|refine below_set ?_ b9.1|refine below_set ?_ e8.1|refine below_set ?_ f5.1)|exact Z.1))⟩;clear C B F G I D E Z hq_;have C:=i4;have B:=i5;have F:=i6;have G:=i7;have I:=i8;have D:=i9;have E:=j0;have Z:=j1;clear i4 i5 i6 i7 i8 i9 j0 j1));have T4:=f9.1;have T5:=d1.1;have T6:=g0.1;have T7:=d2.1;have T8:=g1.1;have T9:=d3.1;have U0:=g2.1;have U1:=d4.1;have U2:=f3.1;have U3:=c8.1;have U4:=g3.1;have U5:=d5.1;have D8:=q0_ E;have D9:=q1_ E;have E0:=q2_ E;have E1:=q3_ E;have E2:=blk_frozen E.1 0;have E3:=blk_frozen E.1 1;have E4:=blk_frozen E.1 2;have E5:=blk_frozen E.1 3))
         go_roundg k2
         case measure=>have:=g8.1;have:=g9.1;omega
         case rel=>exact ⟨(wrap64 (c9 + (wrap64 ((wrap64 (a7 - (wrap64 ((wrap64 (j2 * 2)) * a8)))) * (wrap64 (a7 - (wrap64 ((wrap64 (j2 * 2)) * a8)))))))),(2),(T),(j2),(X),(Y),(by first|rfl|(simp;done)|(simp [*];done)),(by first|rfl|(simp;done)|(simp [*];done)),H',⟨by have:=g8.1;have:=g9.1;omega⟩,⟨by refine blk_far ?_ d1.1 _;exact C.1⟩,⟨by refine blk_far ?_ d2.1 _;exact B.1⟩,⟨by refine blk_far ?_ d3.1 _;exact F.1⟩,⟨by refine blk_far ?_ d4.1 _;exact G.1⟩,⟨by refine blk_far ?_ c8.1 _;exact I.1⟩,⟨by refine blk_far ?_ d5.1 _;exact D.1⟩,⟨by refine blk_put (cs:=#[.int .i64 T,.int .i64 U,.int .i64 X,.int .i64 Y]) ?_ 1 _ rfl;exact E.1⟩,⟨by repeat (first|(with_reducible first|exact Z.1|apply below_alloc|apply pw_below_drewN|apply below_drew1|refine below_set ?_ d6.1|refine below_set ?_ d7.1|refine below_set ?_ d8.1|refine below_set ?_ d9.1|refine below_set ?_ b9.1|refine below_set ?_ e8.1|refine below_set ?_ f5.1)|exact Z.1)⟩⟩
        ·
         rw [if_neg c44] at H
         by_cases c53:h0=2
         ·
          subst c53;have H1:((norm_nearest.f a9 (wrap64 (2 * a8)) a1).bind fun j3=>(norm_divide.l1 k2 a8 e5 a1 (wrap64 (c9 + (wrap64 ((wrap64 (a9 - (wrap64 ((wrap64 (j3 * 2)) * a8)))) * (wrap64 (a9 - (wrap64 ((wrap64 (j3 * 2)) * a8)))))))) a1 3 b8 a9 a7 a2 b2 b3 b4 b5 a3 a4 a5 a6 a2 a7 a9 b8 Q O L J T U j3 Y))=some (r1,r2,r3,r4,r5,r6,r7,r8):=by (try rw [if_pos rfl] at H);first|exact H|simpa using H
          clear H;have H:=H1;clear H1;replace H:=Option.bind_eq_some_iff.mp H;obtain ⟨j3,r9,H⟩:=H;(try dsimp only at H);have J6:=mk0 r9;clear r9;have H':=mk0 H;clear H;go_wp2_with (first|((with_reducible refine gate_callee (f:=72) rfl ?_);refine goesL_ (some 35) rfl rfl Try.func72 (by kernel_rfl) rfl #[.int .i64 a9,.int .i64 (wrap64 (2 * a8)),.int .i64 a1] rfl (by (try simp only [m0_,m1_,m2_]);first|done|rfl|(simp only [l0_,l1_];rfl)) ?_;(with_reducible refine (norm_nearest.calls a9 (wrap64 (2 * a8)) a1 j3 _ J6.1).mono ?_);rintro e w' ⟨rfl,⟨nd,rfl⟩⟩;refine ⟨_,rfl,?_⟩;(try (rw [drewN_self wr];generalize hq_:World.drewN wr _=wr;have i4:Aside0 (Q4_ wr b6 b2 b3 b4 b5 67):=⟨by rw [← hq_];exact (by (with_reducible repeat (first|refine blk_drewN ?_ _|refine blk_drew ?_|refine blk_alloc ?_ _));exact C.1)⟩;have i5:Aside0 (Q4_ wr b7 a3 a4 a5 a6 67):=⟨by rw [← hq_];exact (by (with_reducible repeat (first|refine blk_drewN ?_ _|refine blk_drew ?_|refine blk_alloc ?_ _));exact B.1)⟩;have i6:Aside0 (Q4_ wr e6 0 0 0 0 67):=⟨by rw [← hq_];exact (by (with_reducible repeat (first|refine blk_drewN ?_ _|refine blk_drew ?_|refine blk_alloc ?_ _));exact F.1)⟩;have i7:Aside0 (Q4_ wr e7 0 0 0 0 67):=⟨by rw [← hq_];exact (by (with_reducible repeat (first|refine blk_drewN ?_ _|refine blk_drew ?_|refine blk_alloc ?_ _));exact G.1)⟩;have i8:Aside0 (Q4_ wr e2 a2 a7 a9 b8 67):=⟨by rw [← hq_];exact (by (with_reducible repeat (first|refine blk_drewN ?_ _|refine blk_drew ?_|refine blk_alloc ?_ _));exact I.1)⟩;have i9:Aside0 (Q4_ wr a0 Q O L J 67):=⟨by rw [← hq_];exact (by (with_reducible repeat (first|refine blk_drewN ?_ _|refine blk_drew ?_|refine blk_alloc ?_ _));exact D.1)⟩;have j0:Aside0 (Q4_ wr f4 T U X Y 67):=⟨by rw [← hq_];exact (by (with_reducible repeat (first|refine blk_drewN ?_ _|refine blk_drew ?_|refine blk_alloc ?_ _));exact E.1)⟩;have j1:Aside0 (Below w.heap.size w wr):=⟨by rw [← hq_];exact (by repeat (first|(with_reducible first|exact Z.1|apply below_alloc|apply pw_below_drewN|apply below_drew1|refine below_set ?_ d6.1|refine below_set ?_ d7.1|refine below_set ?_ d8.1|refine below_set ?_ d9.1|refine below_set ?_ b9.1|refine below_set ?_ e8.1|refine below_set ?_ f5.1)|exact Z.1))⟩;clear C B F G I D E Z hq_;have C:=i4;have B:=i5;have F:=i6;have G:=i7;have I:=i8;have D:=i9;have E:=j0;have Z:=j1;clear i4 i5 i6 i7 i8 i9 j0 j1));have U6:=f9.1;have U7:=d1.1;have U8:=g0.1;have U9:=d2.1;have V0:=g1.1;have V1:=d3.1;have V2:=g2.1;have V3:=d4.1;have V4:=f3.1;have V5:=c8.1;have V6:=g3.1;have V7:=d5.1;have E6:=q0_ E;have E7:=q1_ E;have E8:=q2_ E;have E9:=q3_ E;have F0:=blk_frozen E.1 0;have F1:=blk_frozen E.1 1;have F2:=blk_frozen E.1 2;have F3:=blk_frozen E.1 3))
          go_roundg k2
          case measure=>have:=g8.1;have:=g9.1;omega
          case rel=>exact ⟨(wrap64 (c9 + (wrap64 ((wrap64 (a9 - (wrap64 ((wrap64 (j3 * 2)) * a8)))) * (wrap64 (a9 - (wrap64 ((wrap64 (j3 * 2)) * a8)))))))),(3),(T),(U),(j3),(Y),(by first|rfl|(simp;done)|(simp [*];done)),(by first|rfl|(simp;done)|(simp [*];done)),H',⟨by have:=g8.1;have:=g9.1;omega⟩,⟨by refine blk_far ?_ d1.1 _;exact C.1⟩,⟨by refine blk_far ?_ d2.1 _;exact B.1⟩,⟨by refine blk_far ?_ d3.1 _;exact F.1⟩,⟨by refine blk_far ?_ d4.1 _;exact G.1⟩,⟨by refine blk_far ?_ c8.1 _;exact I.1⟩,⟨by refine blk_far ?_ d5.1 _;exact D.1⟩,⟨by refine blk_put (cs:=#[.int .i64 T,.int .i64 U,.int .i64 X,.int .i64 Y]) ?_ 2 _ rfl;exact E.1⟩,⟨by repeat (first|(with_reducible first|exact Z.1|apply below_alloc|apply pw_below_drewN|apply below_drew1|refine below_set ?_ d6.1|refine below_set ?_ d7.1|refine below_set ?_ d8.1|refine below_set ?_ d9.1|refine below_set ?_ b9.1|refine below_set ?_ e8.1|refine below_set ?_ f5.1)|exact Z.1)⟩⟩
         ·
          rw [if_neg c53] at H
          by_cases c62:h0=3
          ·
           subst c62;have H1:((norm_nearest.f b8 (wrap64 (2 * a8)) a1).bind fun j4=>(norm_divide.l1 k2 a8 e5 a1 (wrap64 (c9 + (wrap64 ((wrap64 (b8 - (wrap64 ((wrap64 (j4 * 2)) * a8)))) * (wrap64 (b8 - (wrap64 ((wrap64 (j4 * 2)) * a8)))))))) a1 4 b8 a9 a7 a2 b2 b3 b4 b5 a3 a4 a5 a6 a2 a7 a9 b8 Q O L J T U X j4))=some (r1,r2,r3,r4,r5,r6,r7,r8):=by (try rw [if_pos rfl] at H);first|exact H|simpa using H
           clear H;have H:=H1;clear H1;replace H:=Option.bind_eq_some_iff.mp H;obtain ⟨j4,t0,H⟩:=H;(try dsimp only at H);have J7:=mk0 t0;clear t0;have H':=mk0 H;clear H;go_wp2_with (first|((with_reducible refine gate_callee (f:=72) rfl ?_);refine goesL_ (some 35) rfl rfl Try.func72 (by kernel_rfl) rfl #[.int .i64 b8,.int .i64 (wrap64 (2 * a8)),.int .i64 a1] rfl (by (try simp only [m0_,m1_,m2_]);first|done|rfl|(simp only [l0_,l1_];rfl)) ?_;(with_reducible refine (norm_nearest.calls b8 (wrap64 (2 * a8)) a1 j4 _ J7.1).mono ?_);rintro e w' ⟨rfl,⟨nd,rfl⟩⟩;refine ⟨_,rfl,?_⟩;(try (rw [drewN_self wr];generalize hq_:World.drewN wr _=wr;have i4:Aside0 (Q4_ wr b6 b2 b3 b4 b5 67):=⟨by rw [← hq_];exact (by (with_reducible repeat (first|refine blk_drewN ?_ _|refine blk_drew ?_|refine blk_alloc ?_ _));exact C.1)⟩;have i5:Aside0 (Q4_ wr b7 a3 a4 a5 a6 67):=⟨by rw [← hq_];exact (by (with_reducible repeat (first|refine blk_drewN ?_ _|refine blk_drew ?_|refine blk_alloc ?_ _));exact B.1)⟩;have i6:Aside0 (Q4_ wr e6 0 0 0 0 67):=⟨by rw [← hq_];exact (by (with_reducible repeat (first|refine blk_drewN ?_ _|refine blk_drew ?_|refine blk_alloc ?_ _));exact F.1)⟩;have i7:Aside0 (Q4_ wr e7 0 0 0 0 67):=⟨by rw [← hq_];exact (by (with_reducible repeat (first|refine blk_drewN ?_ _|refine blk_drew ?_|refine blk_alloc ?_ _));exact G.1)⟩;have i8:Aside0 (Q4_ wr e2 a2 a7 a9 b8 67):=⟨by rw [← hq_];exact (by (with_reducible repeat (first|refine blk_drewN ?_ _|refine blk_drew ?_|refine blk_alloc ?_ _));exact I.1)⟩;have i9:Aside0 (Q4_ wr a0 Q O L J 67):=⟨by rw [← hq_];exact (by (with_reducible repeat (first|refine blk_drewN ?_ _|refine blk_drew ?_|refine blk_alloc ?_ _));exact D.1)⟩;have j0:Aside0 (Q4_ wr f4 T U X Y 67):=⟨by rw [← hq_];exact (by (with_reducible repeat (first|refine blk_drewN ?_ _|refine blk_drew ?_|refine blk_alloc ?_ _));exact E.1)⟩;have j1:Aside0 (Below w.heap.size w wr):=⟨by rw [← hq_];exact (by repeat (first|(with_reducible first|exact Z.1|apply below_alloc|apply pw_below_drewN|apply below_drew1|refine below_set ?_ d6.1|refine below_set ?_ d7.1|refine below_set ?_ d8.1|refine below_set ?_ d9.1|refine below_set ?_ b9.1|refine below_set ?_ e8.1|refine below_set ?_ f5.1)|exact Z.1))⟩;clear C B F G I D E Z hq_;have C:=i4;have B:=i5;have F:=i6;have G:=i7;have I:=i8;have D:=i9;have E:=j0;have Z:=j1;clear i4 i5 i6 i7 i8 i9 j0 j1));have V8:=f9.1;have V9:=d1.1;have X0:=g0.1;have X1:=d2.1;have X2:=g1.1;have X3:=d3.1;have X4:=g2.1;have X5:=d4.1;have X6:=f3.1;have X7:=c8.1;have X8:=g3.1;have X9:=d5.1;have F4:=q0_ E;have F5:=q1_ E;have F6:=q2_ E;have F7:=q3_ E;have F8:=blk_frozen E.1 0;have F9:=blk_frozen E.1 1;have G0:=blk_frozen E.1 2;have G1:=blk_frozen E.1 3))
           go_roundg k2
           case measure=>have:=g8.1;have:=g9.1;omega
           case rel=>exact ⟨(wrap64 (c9 + (wrap64 ((wrap64 (b8 - (wrap64 ((wrap64 (j4 * 2)) * a8)))) * (wrap64 (b8 - (wrap64 ((wrap64 (j4 * 2)) * a8)))))))),(4),(T),(U),(X),(j4),(by first|rfl|(simp;done)|(simp [*];done)),(by first|rfl|(simp;done)|(simp [*];done)),H',⟨by have:=g8.1;have:=g9.1;omega⟩,⟨by refine blk_far ?_ d1.1 _;exact C.1⟩,⟨by refine blk_far ?_ d2.1 _;exact B.1⟩,⟨by refine blk_far ?_ d3.1 _;exact F.1⟩,⟨by refine blk_far ?_ d4.1 _;exact G.1⟩,⟨by refine blk_far ?_ c8.1 _;exact I.1⟩,⟨by refine blk_far ?_ d5.1 _;exact D.1⟩,⟨by refine blk_put (cs:=#[.int .i64 T,.int .i64 U,.int .i64 X,.int .i64 Y]) ?_ 3 _ rfl;exact E.1⟩,⟨by repeat (first|(with_reducible first|exact Z.1|apply below_alloc|apply pw_below_drewN|apply below_drew1|refine below_set ?_ d6.1|refine below_set ?_ d7.1|refine below_set ?_ d8.1|refine below_set ?_ d9.1|refine below_set ?_ b9.1|refine below_set ?_ e8.1|refine below_set ?_ f5.1)|exact Z.1)⟩⟩
          ·
           rw [if_neg c62] at H;exact absurd H (by simp)
      ·
       rw [if_neg c34] at H;have c34b0:decide (h0 < 4)=false:=decide_eq_false c34;clear c34
       by_cases c71:e5 < 0
       ·
        rw [if_pos c71] at H;have c71b0:decide (e5 < 0)=true:=decide_eq_true c71;clear c71;have H':=mk0 H;clear H;try go_wp2
        replace C:=bdr C;replace B:=bdr B;replace F:=bdr F;replace G:=bdr G;replace I:=bdr I;replace D:=bdr D;replace E:=bdr E;replace Z:=hdr Z;refine start_ (n:=18) (S:=fun w'=>True) (ds:=[]) #[n_,n_,n_,n_,n_,n_,n_,n_,n_,n_,n_,n_,n_,n_,n_,n_,n_,n_] (by kernel_rfl) rfl rfl trivial (fun R=>?_);refine with_tabW norm_divide.tab17 norm_divide.bits17 (fun V j6=>?_);generalize wr.drew=Bz at C B F G I D E Z R ⊢;refine pure_ (i:=0) (N:=some 51) (v:=?_) (a':=?_) #[y_,n_,n_,n_,n_,n_,n_,n_,n_,n_,n_,n_,n_,n_,n_,n_,n_,n_] rfl rfl (any_of V.1 (by kernel_rfl)) (fun _ _ _ h=>h) (Or.inl ⟨by rfl,?_⟩) ?_ ?_;rotate_left
        ·
         intro w';go_simp;with_reducible rfl
        rotate_left
        ·
         simp only [Act.put,s0_,s1_,s2_,i64_w,i32_w];rfl
        refine pure_ (i:=1) (N:=some 52) (v:=?_) (a':=?_) #[y_,y_,n_,n_,n_,n_,n_,n_,n_,n_,n_,n_,n_,n_,n_,n_,n_,n_] rfl rfl (any_of V.1 (by kernel_rfl)) (fun _ _ _ h=>h) (Or.inl ⟨by rfl,?_⟩) ?_ ?_;rotate_left
        ·
         intro w';go_simp;with_reducible rfl
        rotate_left
        ·
         simp only [Act.put,s0_,s1_,s2_,i64_w,i32_w];rfl
        refine pure_ (i:=2) (N:=some 53) (v:=?_) (a':=?_) #[y_,y_,y_,n_,n_,n_,n_,n_,n_,n_,n_,n_,n_,n_,n_,n_,n_,n_] rfl rfl (any_of V.1 (by kernel_rfl)) (fun _ _ _ h=>h) (Or.inl ⟨by rfl,?_⟩) ?_ ?_;rotate_left
        ·
         intro w';go_simp;with_reducible rfl
        rotate_left
        ·
         simp only [Act.put,s0_,s1_,s2_,i64_w,i32_w];rfl
        refine pure_ (i:=3) (N:=some 54) (v:=undef) (a':=?_) #[y_,y_,y_,y_,n_,n_,n_,n_,n_,n_,n_,n_,n_,n_,n_,n_,n_,n_] rfl rfl (any_of V.1 (by kernel_rfl)) (fun _ _ _ h=>h) (Or.inr ⟨by rfl,rfl⟩) ?_ ?_;rotate_left
        ·
         simp only [Act.put,s0_,s1_,s2_,i64_w,i32_w];rfl
        refine pure_ (i:=4) (N:=some 55) (v:=undef) (a':=?_) #[y_,y_,y_,y_,y_,n_,n_,n_,n_,n_,n_,n_,n_,n_,n_,n_,n_,n_] rfl rfl (any_of V.1 (by kernel_rfl)) (fun _ _ _ h=>h) (Or.inr ⟨by rfl,rfl⟩) ?_ ?_;rotate_left
        ·
         simp only [Act.put,s0_,s1_,s2_,i64_w,i32_w];rfl
        refine pure_ (i:=5) (N:=some 56) (v:=undef) (a':=?_) #[y_,y_,y_,y_,y_,y_,n_,n_,n_,n_,n_,n_,n_,n_,n_,n_,n_,n_] rfl rfl (any_of V.1 (by kernel_rfl)) (fun _ _ _ h=>h) (Or.inr ⟨by rfl,rfl⟩) ?_ ?_;rotate_left
        ·
         simp only [Act.put,s0_,s1_,s2_,i64_w,i32_w];rfl
        refine pure_ (i:=6) (N:=some 57) (v:=?_) (a':=?_) #[y_,y_,y_,y_,y_,y_,y_,n_,n_,n_,n_,n_,n_,n_,n_,n_,n_,n_] rfl rfl (any_of V.1 (by kernel_rfl)) (fun _ _ _ h=>h) (Or.inl ⟨by rfl,?_⟩) ?_ ?_;rotate_left
        ·
         intro w';go_simp;with_reducible rfl
        rotate_left
        ·
         simp only [Act.put,s0_,s1_,s2_,i64_w,i32_w];rfl
        refine pure_ (i:=7) (N:=some 58) (v:=?_) (a':=?_) #[y_,y_,y_,y_,y_,y_,y_,y_,n_,n_,n_,n_,n_,n_,n_,n_,n_,n_] rfl rfl (any_of V.1 (by kernel_rfl)) (fun _ _ _ h=>h) (Or.inl ⟨by rfl,?_⟩) ?_ ?_;rotate_left
        ·
         intro w';go_simp;with_reducible rfl
        rotate_left
        ·
         simp only [Act.put,s0_,s1_,s2_,i64_w,i32_w];rfl
        refine pure_ (i:=8) (N:=some 59) (v:=undef) (a':=?_) #[y_,y_,y_,y_,y_,y_,y_,y_,y_,n_,n_,n_,n_,n_,n_,n_,n_,n_] rfl rfl (any_of V.1 (by kernel_rfl)) (fun _ _ _ h=>h) (Or.inr ⟨by rfl,rfl⟩) ?_ ?_;rotate_left
        ·
         simp only [Act.put,s0_,s1_,s2_,i64_w,i32_w];rfl
        refine pure_ (i:=9) (N:=some 60) (v:=undef) (a':=?_) #[y_,y_,y_,y_,y_,y_,y_,y_,y_,y_,n_,n_,n_,n_,n_,n_,n_,n_] rfl rfl (any_of V.1 (by kernel_rfl)) (fun _ _ _ h=>h) (Or.inr ⟨by rfl,rfl⟩) ?_ ?_;rotate_left
        ·
         simp only [Act.put,s0_,s1_,s2_,i64_w,i32_w];rfl
        refine pure_ (i:=10) (N:=some 61) (v:=undef) (a':=?_) #[y_,y_,y_,y_,y_,y_,y_,y_,y_,y_,y_,n_,n_,n_,n_,n_,n_,n_] rfl rfl (any_of V.1 (by kernel_rfl)) (fun _ _ _ h=>h) (Or.inr ⟨by rfl,rfl⟩) ?_ ?_;rotate_left
        ·
         simp only [Act.put,s0_,s1_,s2_,i64_w,i32_w];rfl
        refine pure_ (i:=11) (N:=some 62) (v:=undef) (a':=?_) #[y_,y_,y_,y_,y_,y_,y_,y_,y_,y_,y_,y_,n_,n_,n_,n_,n_,n_] rfl rfl (any_of V.1 (by kernel_rfl)) (fun _ _ _ h=>h) (Or.inr ⟨by rfl,rfl⟩) ?_ ?_;rotate_left
        ·
         simp only [Act.put,s0_,s1_,s2_,i64_w,i32_w];rfl
        refine pure_ (i:=12) (N:=some 63) (v:=undef) (a':=?_) #[y_,y_,y_,y_,y_,y_,y_,y_,y_,y_,y_,y_,y_,n_,n_,n_,n_,n_] rfl rfl (any_of V.1 (by kernel_rfl)) (fun _ _ _ h=>h) (Or.inr ⟨by rfl,rfl⟩) ?_ ?_;rotate_left
        ·
         simp only [Act.put,s0_,s1_,s2_,i64_w,i32_w];rfl
        refine pure_ (i:=13) (N:=some 64) (v:=undef) (a':=?_) #[y_,y_,y_,y_,y_,y_,y_,y_,y_,y_,y_,y_,y_,y_,n_,n_,n_,n_] rfl rfl (any_of V.1 (by kernel_rfl)) (fun _ _ _ h=>h) (Or.inr ⟨by rfl,rfl⟩) ?_ ?_;rotate_left
        ·
         simp only [Act.put,s0_,s1_,s2_,i64_w,i32_w];rfl
        refine pure_ (i:=14) (N:=some 65) (v:=undef) (a':=?_) #[y_,y_,y_,y_,y_,y_,y_,y_,y_,y_,y_,y_,y_,y_,y_,n_,n_,n_] rfl rfl (any_of V.1 (by kernel_rfl)) (fun _ _ _ h=>h) (Or.inr ⟨by rfl,rfl⟩) ?_ ?_;rotate_left
        ·
         simp only [Act.put,s0_,s1_,s2_,i64_w,i32_w];rfl
        refine pure_ (i:=15) (N:=some 66) (v:=undef) (a':=?_) #[y_,y_,y_,y_,y_,y_,y_,y_,y_,y_,y_,y_,y_,y_,y_,y_,n_,n_] rfl rfl (any_of V.1 (by kernel_rfl)) (fun _ _ _ h=>h) (Or.inr ⟨by rfl,rfl⟩) ?_ ?_;rotate_left
        ·
         simp only [Act.put,s0_,s1_,s2_,i64_w,i32_w];rfl
        refine pure_ (i:=16) (N:=some 67) (v:=undef) (a':=?_) #[y_,y_,y_,y_,y_,y_,y_,y_,y_,y_,y_,y_,y_,y_,y_,y_,y_,n_] rfl rfl (any_of V.1 (by kernel_rfl)) (fun _ _ _ h=>h) (Or.inr ⟨by rfl,rfl⟩) ?_ ?_;rotate_left
        ·
         simp only [Act.put,s0_,s1_,s2_,i64_w,i32_w];rfl
        refine pure_ (i:=17) (N:=some 68) (v:=?_) (a':=?_) #[y_,y_,y_,y_,y_,y_,y_,y_,y_,y_,y_,y_,y_,y_,y_,y_,y_,y_] rfl rfl (any_of V.1 (by kernel_rfl)) (fun _ _ _ h=>h) (Or.inl ⟨by rfl,?_⟩) ?_ ?_;rotate_left
        ·
         intro w';go_simp;with_reducible rfl
        rotate_left
        ·
         simp only [Act.put,s0_,s1_,s2_,i64_w,i32_w];rfl
        refine done_ (done_of V.1 (by kernel_rfl)) ?_;have Y0:=f9.1;have Y1:=d1.1;have Y2:=g0.1;have Y3:=d2.1;have Y4:=g1.1;have Y5:=d3.1;have Y6:=g2.1;have Y7:=d4.1;have Y8:=f3.1;have Y9:=c8.1;have Z0:=g3.1;have Z1:=d5.1;have G2:=q0_ E;have G3:=q1_ E;have G4:=q2_ E;have G5:=q3_ E;have G6:=blk_frozen E.1 0;have G7:=blk_frozen E.1 1;have G8:=blk_frozen E.1 2;have G9:=blk_frozen E.1 3;have Z2:=i1.1;have Z3:=g6.1;have Z4:=i2.1;have Z5:=g7.1;have Z6:=f1.1;have Z7:=f7.1;have Z8:=e4.1;have Z9:=f2.1;have Aa:=h4.1;have Ab:=f8.1;have H0:=q0_ D;have H2:=q1_ D;have H3:=q2_ D;have H4:=q3_ D;have H5:=blk_frozen D.1 0;have H6:=blk_frozen D.1 1;have H7:=blk_frozen D.1 2;have H8:=blk_frozen D.1 3;try go_wp2
        go_roundg k2
        case measure=>have:=g8.1;have:=g9.1;omega
        case rel=>exact ⟨(c9),(wrap64 (a1 + 1)),(T),(U),(X),(Y),(by first|rfl|(simp;done)|(simp [*];done)),(by first|rfl|(simp;done)|(simp [*];done)),H',⟨by have:=g8.1;have:=g9.1;omega⟩,⟨by (iterate 4 refine blk_far ?_ g6.1 _);exact C.1⟩,⟨by (iterate 4 refine blk_far ?_ g7.1 _);exact B.1⟩,⟨by (iterate 4 refine blk_far ?_ f7.1 _);exact F.1⟩,⟨by (iterate 4 refine blk_far ?_ f2.1 _);exact G.1⟩,⟨by (iterate 4 refine blk_far ?_ f8.1 _);exact I.1⟩,⟨by refine blk_put (cs:=#[.int .i64 T,.int .i64 U,.int .i64 X,.int .i64 J]) ?_ 3 _ rfl;refine blk_put (cs:=#[.int .i64 T,.int .i64 U,.int .i64 L,.int .i64 J]) ?_ 2 _ rfl;refine blk_put (cs:=#[.int .i64 T,.int .i64 O,.int .i64 L,.int .i64 J]) ?_ 1 _ rfl;refine blk_put (cs:=#[.int .i64 Q,.int .i64 O,.int .i64 L,.int .i64 J]) ?_ 0 _ rfl;exact D.1⟩,⟨by repeat (first|(with_reducible first|exact Z.1|apply below_alloc|apply pw_below_drewN|apply below_drew1|refine below_set ?_ d6.1|refine below_set ?_ d7.1|refine below_set ?_ d8.1|refine below_set ?_ d9.1|refine below_set ?_ b9.1|refine below_set ?_ e8.1|refine below_set ?_ f5.1)|exact Z.1)⟩⟩
       ·
        rw [if_neg c71] at H;have c71b0:decide (e5 < 0)=false:=decide_eq_false c71;clear c71
        by_cases c86:c9 < e5
        ·
         rw [if_pos c86] at H;have c86b0:decide (c9 < e5)=true:=decide_eq_true c86;clear c86;have H':=mk0 H;clear H;try go_wp2
         replace C:=bdr C;replace B:=bdr B;replace F:=bdr F;replace G:=bdr G;replace I:=bdr I;replace D:=bdr D;replace E:=bdr E;replace Z:=hdr Z;refine start_ (n:=18) (S:=fun w'=>True) (ds:=[]) #[n_,n_,n_,n_,n_,n_,n_,n_,n_,n_,n_,n_,n_,n_,n_,n_,n_,n_] (by kernel_rfl) rfl rfl trivial (fun R=>?_);refine with_tabW norm_divide.tab17 norm_divide.bits17 (fun V j6=>?_);generalize wr.drew=Ca at C B F G I D E Z R ⊢;refine pure_ (i:=0) (N:=some 51) (v:=?_) (a':=?_) #[y_,n_,n_,n_,n_,n_,n_,n_,n_,n_,n_,n_,n_,n_,n_,n_,n_,n_] rfl rfl (any_of V.1 (by kernel_rfl)) (fun _ _ _ h=>h) (Or.inl ⟨by rfl,?_⟩) ?_ ?_;rotate_left
         ·
          intro w';go_simp;with_reducible rfl
         rotate_left
         ·
          simp only [Act.put,s0_,s1_,s2_,i64_w,i32_w];rfl
         refine pure_ (i:=1) (N:=some 52) (v:=?_) (a':=?_) #[y_,y_,n_,n_,n_,n_,n_,n_,n_,n_,n_,n_,n_,n_,n_,n_,n_,n_] rfl rfl (any_of V.1 (by kernel_rfl)) (fun _ _ _ h=>h) (Or.inl ⟨by rfl,?_⟩) ?_ ?_;rotate_left
         ·
          intro w';go_simp;with_reducible rfl
         rotate_left
         ·
          simp only [Act.put,s0_,s1_,s2_,i64_w,i32_w];rfl
         refine pure_ (i:=2) (N:=some 53) (v:=?_) (a':=?_) #[y_,y_,y_,n_,n_,n_,n_,n_,n_,n_,n_,n_,n_,n_,n_,n_,n_,n_] rfl rfl (any_of V.1 (by kernel_rfl)) (fun _ _ _ h=>h) (Or.inl ⟨by rfl,?_⟩) ?_ ?_;rotate_left
         ·
          intro w';go_simp;with_reducible rfl
         rotate_left
         ·
          simp only [Act.put,s0_,s1_,s2_,i64_w,i32_w];rfl
         refine pure_ (i:=3) (N:=some 54) (v:=?_) (a':=?_) #[y_,y_,y_,y_,n_,n_,n_,n_,n_,n_,n_,n_,n_,n_,n_,n_,n_,n_] rfl rfl (any_of V.1 (by kernel_rfl)) (fun _ _ _ h=>h) (Or.inl ⟨by rfl,?_⟩) ?_ ?_;rotate_left
         ·
          intro w';go_simp;with_reducible rfl
         rotate_left
         ·
          simp only [Act.put,s0_,s1_,s2_,i64_w,i32_w];rfl
         refine pure_ (i:=4) (N:=some 55) (v:=?_) (a':=?_) #[y_,y_,y_,y_,y_,n_,n_,n_,n_,n_,n_,n_,n_,n_,n_,n_,n_,n_] rfl rfl (any_of V.1 (by kernel_rfl)) (fun _ _ _ h=>h) (Or.inl ⟨by rfl,?_⟩) ?_ ?_;rotate_left
         ·
          intro w';go_simp;with_reducible rfl
         rotate_left
         ·
          simp only [Act.put,s0_,s1_,s2_,i64_w,i32_w];rfl
         refine pure_ (i:=5) (N:=some 56) (v:=?_) (a':=?_) #[y_,y_,y_,y_,y_,y_,n_,n_,n_,n_,n_,n_,n_,n_,n_,n_,n_,n_] rfl rfl (any_of V.1 (by kernel_rfl)) (fun _ _ _ h=>h) (Or.inl ⟨by rfl,?_⟩) ?_ ?_;rotate_left
         ·
          intro w';go_simp;with_reducible rfl
         rotate_left
         ·
          simp only [Act.put,s0_,s1_,s2_,i64_w,i32_w];rfl
         refine pure_ (i:=6) (N:=some 57) (v:=?_) (a':=?_) #[y_,y_,y_,y_,y_,y_,y_,n_,n_,n_,n_,n_,n_,n_,n_,n_,n_,n_] rfl rfl (any_of V.1 (by kernel_rfl)) (fun _ _ _ h=>h) (Or.inl ⟨by rfl,?_⟩) ?_ ?_;rotate_left
         ·
          intro w';go_simp;with_reducible rfl
         rotate_left
         ·
          simp only [Act.put,s0_,s1_,s2_,i64_w,i32_w];rfl
         refine pure_ (i:=7) (N:=some 58) (v:=?_) (a':=?_) #[y_,y_,y_,y_,y_,y_,y_,y_,n_,n_,n_,n_,n_,n_,n_,n_,n_,n_] rfl rfl (any_of V.1 (by kernel_rfl)) (fun _ _ _ h=>h) (Or.inl ⟨by rfl,?_⟩) ?_ ?_;rotate_left
         ·
          intro w';go_simp;with_reducible rfl
         rotate_left
         ·
          simp only [Act.put,s0_,s1_,s2_,i64_w,i32_w];rfl
         refine pure_ (i:=8) (N:=some 59) (v:=undef) (a':=?_) #[y_,y_,y_,y_,y_,y_,y_,y_,y_,n_,n_,n_,n_,n_,n_,n_,n_,n_] rfl rfl (any_of V.1 (by kernel_rfl)) (fun _ _ _ h=>h) (Or.inr ⟨by rfl,rfl⟩) ?_ ?_;rotate_left
         ·
          simp only [Act.put,s0_,s1_,s2_,i64_w,i32_w];rfl
         refine pure_ (i:=9) (N:=some 60) (v:=undef) (a':=?_) #[y_,y_,y_,y_,y_,y_,y_,y_,y_,y_,n_,n_,n_,n_,n_,n_,n_,n_] rfl rfl (any_of V.1 (by kernel_rfl)) (fun _ _ _ h=>h) (Or.inr ⟨by rfl,rfl⟩) ?_ ?_;rotate_left
         ·
          simp only [Act.put,s0_,s1_,s2_,i64_w,i32_w];rfl
         refine pure_ (i:=10) (N:=some 61) (v:=undef) (a':=?_) #[y_,y_,y_,y_,y_,y_,y_,y_,y_,y_,y_,n_,n_,n_,n_,n_,n_,n_] rfl rfl (any_of V.1 (by kernel_rfl)) (fun _ _ _ h=>h) (Or.inr ⟨by rfl,rfl⟩) ?_ ?_;rotate_left
         ·
          simp only [Act.put,s0_,s1_,s2_,i64_w,i32_w];rfl
         refine pure_ (i:=11) (N:=some 62) (v:=undef) (a':=?_) #[y_,y_,y_,y_,y_,y_,y_,y_,y_,y_,y_,y_,n_,n_,n_,n_,n_,n_] rfl rfl (any_of V.1 (by kernel_rfl)) (fun _ _ _ h=>h) (Or.inr ⟨by rfl,rfl⟩) ?_ ?_;rotate_left
         ·
          simp only [Act.put,s0_,s1_,s2_,i64_w,i32_w];rfl
         refine pure_ (i:=12) (N:=some 63) (v:=undef) (a':=?_) #[y_,y_,y_,y_,y_,y_,y_,y_,y_,y_,y_,y_,y_,n_,n_,n_,n_,n_] rfl rfl (any_of V.1 (by kernel_rfl)) (fun _ _ _ h=>h) (Or.inr ⟨by rfl,rfl⟩) ?_ ?_;rotate_left
         ·
          simp only [Act.put,s0_,s1_,s2_,i64_w,i32_w];rfl
         refine pure_ (i:=13) (N:=some 64) (v:=undef) (a':=?_) #[y_,y_,y_,y_,y_,y_,y_,y_,y_,y_,y_,y_,y_,y_,n_,n_,n_,n_] rfl rfl (any_of V.1 (by kernel_rfl)) (fun _ _ _ h=>h) (Or.inr ⟨by rfl,rfl⟩) ?_ ?_;rotate_left
         ·
          simp only [Act.put,s0_,s1_,s2_,i64_w,i32_w];rfl
         refine pure_ (i:=14) (N:=some 65) (v:=undef) (a':=?_) #[y_,y_,y_,y_,y_,y_,y_,y_,y_,y_,y_,y_,y_,y_,y_,n_,n_,n_] rfl rfl (any_of V.1 (by kernel_rfl)) (fun _ _ _ h=>h) (Or.inr ⟨by rfl,rfl⟩) ?_ ?_;rotate_left
         ·
          simp only [Act.put,s0_,s1_,s2_,i64_w,i32_w];rfl
         refine pure_ (i:=15) (N:=some 66) (v:=undef) (a':=?_) #[y_,y_,y_,y_,y_,y_,y_,y_,y_,y_,y_,y_,y_,y_,y_,y_,n_,n_] rfl rfl (any_of V.1 (by kernel_rfl)) (fun _ _ _ h=>h) (Or.inr ⟨by rfl,rfl⟩) ?_ ?_;rotate_left
         ·
          simp only [Act.put,s0_,s1_,s2_,i64_w,i32_w];rfl
         refine pure_ (i:=16) (N:=some 67) (v:=undef) (a':=?_) #[y_,y_,y_,y_,y_,y_,y_,y_,y_,y_,y_,y_,y_,y_,y_,y_,y_,n_] rfl rfl (any_of V.1 (by kernel_rfl)) (fun _ _ _ h=>h) (Or.inr ⟨by rfl,rfl⟩) ?_ ?_;rotate_left
         ·
          simp only [Act.put,s0_,s1_,s2_,i64_w,i32_w];rfl
         refine pure_ (i:=17) (N:=some 68) (v:=?_) (a':=?_) #[y_,y_,y_,y_,y_,y_,y_,y_,y_,y_,y_,y_,y_,y_,y_,y_,y_,y_] rfl rfl (any_of V.1 (by kernel_rfl)) (fun _ _ _ h=>h) (Or.inl ⟨by rfl,?_⟩) ?_ ?_;rotate_left
         ·
          intro w';go_simp;with_reducible rfl
         rotate_left
         ·
          simp only [Act.put,s0_,s1_,s2_,i64_w,i32_w];rfl
         refine done_ (done_of V.1 (by kernel_rfl)) ?_;have Ac:=f9.1;have Ad:=d1.1;have Ae:=g0.1;have Af:=d2.1;have Ag:=g1.1;have Ah:=d3.1;have Ai:=g2.1;have Aj:=d4.1;have Ak:=f3.1;have Al:=c8.1;have Am:=g3.1;have An:=d5.1;have H9:=q0_ E;have I0:=q1_ E;have I1:=q2_ E;have I2:=q3_ E;have I3:=blk_frozen E.1 0;have I4:=blk_frozen E.1 1;have I5:=blk_frozen E.1 2;have I6:=blk_frozen E.1 3;have Ao:=i1.1;have Ap:=g6.1;have Aq:=i2.1;have Ar:=g7.1;have As:=f1.1;have At:=f7.1;have Au:=e4.1;have Av:=f2.1;have Aw:=h4.1;have Ax:=f8.1;have v0:=q0_ D;have v1:=q1_ D;have v2:=q2_ D;have v3:=q3_ D;have v4:=blk_frozen D.1 0;have v5:=blk_frozen D.1 1;have v6:=blk_frozen D.1 2;have v7:=blk_frozen D.1 3;try go_wp2
         go_roundg k2
         case measure=>have:=g8.1;have:=g9.1;omega
         case rel=>exact ⟨(c9),(wrap64 (a1 + 1)),(T),(U),(X),(Y),(by first|rfl|(simp;done)|(simp [*];done)),(by first|rfl|(simp;done)|(simp [*];done)),H',⟨by have:=g8.1;have:=g9.1;omega⟩,⟨by (iterate 4 refine blk_far ?_ g6.1 _);exact C.1⟩,⟨by (iterate 4 refine blk_far ?_ g7.1 _);exact B.1⟩,⟨by (iterate 4 refine blk_far ?_ f7.1 _);exact F.1⟩,⟨by (iterate 4 refine blk_far ?_ f2.1 _);exact G.1⟩,⟨by (iterate 4 refine blk_far ?_ f8.1 _);exact I.1⟩,⟨by refine blk_put (cs:=#[.int .i64 T,.int .i64 U,.int .i64 X,.int .i64 J]) ?_ 3 _ rfl;refine blk_put (cs:=#[.int .i64 T,.int .i64 U,.int .i64 L,.int .i64 J]) ?_ 2 _ rfl;refine blk_put (cs:=#[.int .i64 T,.int .i64 O,.int .i64 L,.int .i64 J]) ?_ 1 _ rfl;refine blk_put (cs:=#[.int .i64 Q,.int .i64 O,.int .i64 L,.int .i64 J]) ?_ 0 _ rfl;exact D.1⟩,⟨by repeat (first|(with_reducible first|exact Z.1|apply below_alloc|apply pw_below_drewN|apply below_drew1|refine below_set ?_ d6.1|refine below_set ?_ d7.1|refine below_set ?_ d8.1|refine below_set ?_ d9.1|refine below_set ?_ b9.1|refine below_set ?_ e8.1|refine below_set ?_ f5.1)|exact Z.1)⟩⟩
        ·
         rw [if_neg c86] at H;have c86b0:decide (c9 < e5)=false:=decide_eq_false c86;clear c86
         by_cases c101:c9=e5
         ·
          rw [if_pos c101] at H;have c101b0:(c9 == e5)=true:=beq_iff_eq.mpr c101;have c101b1:(c9 != e5)=false:=bne_eq_false_iff_eq.mpr c101;clear c101;replace H:=Option.bind_eq_some_iff.mp H;obtain ⟨l8,o6,H⟩:=H;(try dsimp only at H);have t1:=mk0 o6;clear o6
          by_cases c103:l8 < 0
          ·
           rw [if_pos c103] at H;have c103b0:decide (l8 < 0)=true:=decide_eq_true c103;clear c103;have H':=mk0 H;clear H;try go_wp2
           replace C:=bdr C;replace B:=bdr B;replace F:=bdr F;replace G:=bdr G;replace I:=bdr I;replace D:=bdr D;replace E:=bdr E;replace Z:=hdr Z;refine start_ (n:=18) (S:=fun w'=>w'.cell? ⟨f4,0,none⟩=some (.int .i64 T)∧w'.cell? ⟨f4,1,none⟩=some (.int .i64 U)∧w'.cell? ⟨f4,2,none⟩=some (.int .i64 X)∧w'.cell? ⟨f4,3,none⟩=some (.int .i64 Y)∧w'.cell? ⟨a0,0,none⟩=some (.int .i64 Q)∧w'.cell? ⟨a0,1,none⟩=some (.int .i64 O)∧w'.cell? ⟨a0,2,none⟩=some (.int .i64 L)∧w'.cell? ⟨a0,3,none⟩=some (.int .i64 J)) (ds:=[]) #[n_,n_,n_,n_,n_,n_,n_,n_,n_,n_,n_,n_,n_,n_,n_,n_,n_,n_] (by kernel_rfl) rfl rfl ⟨q0_ E,q1_ E,q2_ E,q3_ E,q0_ D,q1_ D,q2_ D,q3_ D⟩ (fun R=>?_);refine with_tabW norm_divide.tab17 norm_divide.bits17 (fun V j6=>?_);generalize wr.drew=Bn at C B F G I D E Z R ⊢;refine pure_ (i:=0) (N:=some 51) (v:=?_) (a':=?_) #[y_,n_,n_,n_,n_,n_,n_,n_,n_,n_,n_,n_,n_,n_,n_,n_,n_,n_] rfl rfl (any_of V.1 (by kernel_rfl)) (fun _ _ _ h=>h) (Or.inl ⟨by rfl,?_⟩) ?_ ?_;rotate_left
           ·
            intro w';go_simp;with_reducible rfl
           rotate_left
           ·
            simp only [Act.put,s0_,s1_,s2_,i64_w,i32_w];rfl
           refine pure_ (i:=1) (N:=some 52) (v:=?_) (a':=?_) #[y_,y_,n_,n_,n_,n_,n_,n_,n_,n_,n_,n_,n_,n_,n_,n_,n_,n_] rfl rfl (any_of V.1 (by kernel_rfl)) (fun _ _ _ h=>h) (Or.inl ⟨by rfl,?_⟩) ?_ ?_;rotate_left
           ·
            intro w';go_simp;with_reducible rfl
           rotate_left
           ·
            simp only [Act.put,s0_,s1_,s2_,i64_w,i32_w];rfl
           refine pure_ (i:=2) (N:=some 53) (v:=?_) (a':=?_) #[y_,y_,y_,n_,n_,n_,n_,n_,n_,n_,n_,n_,n_,n_,n_,n_,n_,n_] rfl rfl (any_of V.1 (by kernel_rfl)) (fun _ _ _ h=>h) (Or.inl ⟨by rfl,?_⟩) ?_ ?_;rotate_left
           ·
            intro w';go_simp;with_reducible rfl
           rotate_left
           ·
            simp only [Act.put,s0_,s1_,s2_,i64_w,i32_w];rfl
           refine pure_ (i:=3) (N:=some 54) (v:=?_) (a':=?_) #[y_,y_,y_,y_,n_,n_,n_,n_,n_,n_,n_,n_,n_,n_,n_,n_,n_,n_] rfl rfl (any_of V.1 (by kernel_rfl)) (fun _ _ _ h=>h) (Or.inl ⟨by rfl,?_⟩) ?_ ?_;rotate_left
           ·
            intro w';go_simp;with_reducible rfl
           rotate_left
           ·
            simp only [Act.put,s0_,s1_,s2_,i64_w,i32_w];rfl
           refine pure_ (i:=4) (N:=some 55) (v:=?_) (a':=?_) #[y_,y_,y_,y_,y_,n_,n_,n_,n_,n_,n_,n_,n_,n_,n_,n_,n_,n_] rfl rfl (any_of V.1 (by kernel_rfl)) (fun _ _ _ h=>h) (Or.inl ⟨by rfl,?_⟩) ?_ ?_;rotate_left
           ·
            intro w';go_simp;with_reducible rfl
           rotate_left
           ·
            simp only [Act.put,s0_,s1_,s2_,i64_w,i32_w];rfl
           refine pure_ (i:=5) (N:=some 56) (v:=?_) (a':=?_) #[y_,y_,y_,y_,y_,y_,n_,n_,n_,n_,n_,n_,n_,n_,n_,n_,n_,n_] rfl rfl (any_of V.1 (by kernel_rfl)) (fun _ _ _ h=>h) (Or.inl ⟨by rfl,?_⟩) ?_ ?_;rotate_left
           ·
            intro w';go_simp;with_reducible rfl
           rotate_left
           ·
            simp only [Act.put,s0_,s1_,s2_,i64_w,i32_w];rfl
           refine pure_ (i:=6) (N:=some 57) (v:=?_) (a':=?_) #[y_,y_,y_,y_,y_,y_,y_,n_,n_,n_,n_,n_,n_,n_,n_,n_,n_,n_] rfl rfl (any_of V.1 (by kernel_rfl)) (fun _ _ _ h=>h) (Or.inl ⟨by rfl,?_⟩) ?_ ?_;rotate_left
           ·
            intro w';go_simp;with_reducible rfl
           rotate_left
           ·
            simp only [Act.put,s0_,s1_,s2_,i64_w,i32_w];rfl
           refine pure_ (i:=7) (N:=some 58) (v:=?_) (a':=?_) #[y_,y_,y_,y_,y_,y_,y_,y_,n_,n_,n_,n_,n_,n_,n_,n_,n_,n_] rfl rfl (any_of V.1 (by kernel_rfl)) (fun _ _ _ h=>h) (Or.inl ⟨by rfl,?_⟩) ?_ ?_;rotate_left
           ·
            intro w';go_simp;with_reducible rfl
           rotate_left
           ·
            simp only [Act.put,s0_,s1_,s2_,i64_w,i32_w];rfl
           refine pure_ (i:=8) (N:=some 59) (v:=?_) (a':=?_) #[y_,y_,y_,y_,y_,y_,y_,y_,y_,n_,n_,n_,n_,n_,n_,n_,n_,n_] rfl rfl (any_of V.1 (by kernel_rfl)) (fun _ _ _ h=>h) (Or.inl ⟨by rfl,?_⟩) ?_ ?_;rotate_left
           ·
            intro w';go_simp;with_reducible rfl
           rotate_left
           ·
            simp only [Act.put,s0_,s1_,s2_,i64_w,i32_w];rfl
           refine pure_ (i:=9) (N:=some 60) (v:=?_) (a':=?_) #[y_,y_,y_,y_,y_,y_,y_,y_,y_,y_,n_,n_,n_,n_,n_,n_,n_,n_] rfl rfl (any_of V.1 (by kernel_rfl)) (fun _ _ _ h=>h) (Or.inl ⟨by rfl,?_⟩) ?_ ?_;rotate_left
           ·
            intro w';go_simp;with_reducible rfl
           rotate_left
           ·
            simp only [Act.put,s0_,s1_,s2_,i64_w,i32_w];rfl
           refine pure_ (i:=10) (N:=some 61) (v:=?_) (a':=?_) #[y_,y_,y_,y_,y_,y_,y_,y_,y_,y_,y_,n_,n_,n_,n_,n_,n_,n_] rfl rfl (any_of V.1 (by kernel_rfl)) (fun _ _ _ h=>h) (Or.inl ⟨by rfl,?_⟩) ?_ ?_;rotate_left
           ·
            intro w';go_simp;with_reducible rfl
           rotate_left
           ·
            simp only [Act.put,s0_,s1_,s2_,i64_w,i32_w];rfl
           refine pure_ (i:=11) (N:=some 62) (v:=?_) (a':=?_) #[y_,y_,y_,y_,y_,y_,y_,y_,y_,y_,y_,y_,n_,n_,n_,n_,n_,n_] rfl rfl (any_of V.1 (by kernel_rfl)) (fun _ _ _ h=>h) (Or.inl ⟨by rfl,?_⟩) ?_ ?_;rotate_left
           ·
            intro w';go_simp;with_reducible rfl
           rotate_left
           ·
            simp only [Act.put,s0_,s1_,s2_,i64_w,i32_w];rfl
           refine pure_ (i:=12) (N:=some 63) (v:=?_) (a':=?_) #[y_,y_,y_,y_,y_,y_,y_,y_,y_,y_,y_,y_,y_,n_,n_,n_,n_,n_] rfl rfl (any_of V.1 (by kernel_rfl)) (fun _ _ _ h=>h) (Or.inl ⟨by rfl,?_⟩) ?_ ?_;rotate_left
           ·
            intro w';go_simp;with_reducible rfl
           rotate_left
           ·
            simp only [Act.put,s0_,s1_,s2_,i64_w,i32_w];rfl
           refine pure_ (i:=13) (N:=some 64) (v:=?_) (a':=?_) #[y_,y_,y_,y_,y_,y_,y_,y_,y_,y_,y_,y_,y_,y_,n_,n_,n_,n_] rfl rfl (any_of V.1 (by kernel_rfl)) (fun _ _ _ h=>h) (Or.inl ⟨by rfl,?_⟩) ?_ ?_;rotate_left
           ·
            intro w';go_simp;with_reducible rfl
           rotate_left
           ·
            simp only [Act.put,s0_,s1_,s2_,i64_w,i32_w];rfl
           refine one_ (i:=14) (N:=some 65) #[y_,y_,y_,y_,y_,y_,y_,y_,y_,y_,y_,y_,y_,y_,y_,n_,n_,n_] rfl rfl (one_of V.1 (by kernel_rfl)) (by decide) (fun K hK=>?_);refine goes_ Try.func55 (by kernel_rfl) rfl #[.slice (some ⟨f4,0,none⟩) [T,U,X,Y].length 4,.slice (some ⟨a0,0,none⟩) [Q,O,L,J].length 4] (by rfl) rfl rfl (by (try simp only [m0_,m1_,m2_]);first|done|(rw [show [T,U,X,Y].length=4 from rfl,show [Q,O,L,J].length=4 from rfl] <;> rfl)|rfl|(simp only [l0_,l1_];rfl)) ?_;with_reducible refine (slices_Compare_int_int.calls k2 _ _ [T,U,X,Y] _ _ [Q,O,L,J] l8 _ ?side1 ?side2 ?side3 ?side4 t1.1).mono ?_
           (case side1=>exact Go.Proofs.MyWords.C_box (t:=67) (cs:=#[.int .i64 T,.int .i64 U,.int .i64 X,.int .i64 Y]) E.1 (by rfl) (Nat.le_of_ble_eq_true rfl));(case side2=>exact Nat.le_refl _);(case side3=>exact Go.Proofs.MyWords.C_box (t:=67) (cs:=#[.int .i64 Q,.int .i64 O,.int .i64 L,.int .i64 J]) D.1 (by rfl) (Nat.le_of_ble_eq_true rfl));(case side4=>exact Nat.le_refl _);rintro e w' ⟨rfl,⟨nd,rfl⟩⟩;refine ⟨_,rfl,?_⟩;refine hK.out _ _ ⟨q0_ E,q1_ E,q2_ E,q3_ E,q0_ D,q1_ D,q2_ D,q3_ D⟩ (fun R=>?_);clear hK K;refine norm_ (a':=?_) ?_ ?_;rotate_left
           ·
            show Act.put _ (some 65) _=_;simp only [Act.put,s0_,s1_,s2_,i64_w,i32_w];rfl
           refine pure_ (i:=15) (N:=some 66) (v:=?_) (a':=?_) #[y_,y_,y_,y_,y_,y_,y_,y_,y_,y_,y_,y_,y_,y_,y_,y_,n_,n_] rfl rfl (any_of V.1 (by kernel_rfl)) (fun _ _ _ h=>h) (Or.inl ⟨by rfl,?_⟩) ?_ ?_;rotate_left
           ·
            intro w';go_simp;with_reducible rfl
           rotate_left
           ·
            simp only [Act.put,s0_,s1_,s2_,i64_w,i32_w];rfl
           refine pure_ (i:=16) (N:=some 67) (v:=?_) (a':=?_) #[y_,y_,y_,y_,y_,y_,y_,y_,y_,y_,y_,y_,y_,y_,y_,y_,y_,n_] rfl rfl (any_of V.1 (by kernel_rfl)) (fun _ _ _ h=>h) (Or.inl ⟨by rfl,?_⟩) ?_ ?_;rotate_left
           ·
            intro w';go_simp;with_reducible rfl
           rotate_left
           ·
            simp only [Act.put,s0_,s1_,s2_,i64_w,i32_w];rfl
           refine pure_ (i:=17) (N:=some 68) (v:=?_) (a':=?_) #[y_,y_,y_,y_,y_,y_,y_,y_,y_,y_,y_,y_,y_,y_,y_,y_,y_,y_] rfl rfl (any_of V.1 (by kernel_rfl)) (fun _ _ _ h=>h) (Or.inl ⟨by rfl,?_⟩) ?_ ?_;rotate_left
           ·
            intro w';go_simp;with_reducible rfl
           rotate_left
           ·
            simp only [Act.put,s0_,s1_,s2_,i64_w,i32_w];rfl
           refine done_ (done_of V.1 (by kernel_rfl)) ?_;have J8:=f9.1;have J9:=d1.1;have L0:=g0.1;have L1:=d2.1;have L2:=g1.1;have L3:=d3.1;have L4:=g2.1;have L5:=d4.1;have L6:=f3.1;have L7:=c8.1;have L8:=g3.1;have L9:=d5.1;have v8:=q0_ E;have x0:=q1_ E;have x1:=q2_ E;have x2:=q3_ E;have x3:=blk_frozen E.1 0;have x4:=blk_frozen E.1 1;have x5:=blk_frozen E.1 2;have x6:=blk_frozen E.1 3;have M0:=i1.1;have M1:=g6.1;have M2:=i2.1;have M3:=g7.1;have M4:=f1.1;have M5:=f7.1;have M6:=e4.1;have M7:=f2.1;have M8:=h4.1;have M9:=f8.1;have x7:=q0_ D;have x8:=q1_ D;have x9:=q2_ D;have y0:=q3_ D;have y1:=blk_frozen D.1 0;have y2:=blk_frozen D.1 1;have y3:=blk_frozen D.1 2;have y4:=blk_frozen D.1 3;try go_wp2
           go_roundg k2
           case measure=>have:=g8.1;have:=g9.1;omega
           case rel=>exact ⟨(c9),(wrap64 (a1 + 1)),(T),(U),(X),(Y),(by first|rfl|(simp;done)|(simp [*];done)),(by first|rfl|(simp;done)|(simp [*];done)),H',⟨by have:=g8.1;have:=g9.1;omega⟩,⟨by (iterate 4 refine blk_far ?_ g6.1 _);exact C.1⟩,⟨by (iterate 4 refine blk_far ?_ g7.1 _);exact B.1⟩,⟨by (iterate 4 refine blk_far ?_ f7.1 _);exact F.1⟩,⟨by (iterate 4 refine blk_far ?_ f2.1 _);exact G.1⟩,⟨by (iterate 4 refine blk_far ?_ f8.1 _);exact I.1⟩,⟨by refine blk_put (cs:=#[.int .i64 T,.int .i64 U,.int .i64 X,.int .i64 J]) ?_ 3 _ rfl;refine blk_put (cs:=#[.int .i64 T,.int .i64 U,.int .i64 L,.int .i64 J]) ?_ 2 _ rfl;refine blk_put (cs:=#[.int .i64 T,.int .i64 O,.int .i64 L,.int .i64 J]) ?_ 1 _ rfl;refine blk_put (cs:=#[.int .i64 Q,.int .i64 O,.int .i64 L,.int .i64 J]) ?_ 0 _ rfl;exact D.1⟩,⟨by repeat (first|(with_reducible first|exact Z.1|apply below_alloc|apply pw_below_drewN|apply below_drew1|refine below_set ?_ d6.1|refine below_set ?_ d7.1|refine below_set ?_ d8.1|refine below_set ?_ d9.1|refine below_set ?_ b9.1|refine below_set ?_ e8.1|refine below_set ?_ f5.1)|exact Z.1)⟩⟩
          ·
           rw [if_neg c103] at H;have c103b0:decide (l8 < 0)=false:=decide_eq_false c103;clear c103;have H':=mk0 H;clear H;try go_wp2
           replace C:=bdr C;replace B:=bdr B;replace F:=bdr F;replace G:=bdr G;replace I:=bdr I;replace D:=bdr D;replace E:=bdr E;replace Z:=hdr Z;refine start_ (n:=18) (S:=fun w'=>w'.cell? ⟨f4,0,none⟩=some (.int .i64 T)∧w'.cell? ⟨f4,1,none⟩=some (.int .i64 U)∧w'.cell? ⟨f4,2,none⟩=some (.int .i64 X)∧w'.cell? ⟨f4,3,none⟩=some (.int .i64 Y)∧w'.cell? ⟨a0,0,none⟩=some (.int .i64 Q)∧w'.cell? ⟨a0,1,none⟩=some (.int .i64 O)∧w'.cell? ⟨a0,2,none⟩=some (.int .i64 L)∧w'.cell? ⟨a0,3,none⟩=some (.int .i64 J)) (ds:=[]) #[n_,n_,n_,n_,n_,n_,n_,n_,n_,n_,n_,n_,n_,n_,n_,n_,n_,n_] (by kernel_rfl) rfl rfl ⟨q0_ E,q1_ E,q2_ E,q3_ E,q0_ D,q1_ D,q2_ D,q3_ D⟩ (fun R=>?_);refine with_tabW norm_divide.tab17 norm_divide.bits17 (fun V j6=>?_);generalize wr.drew=Bo at C B F G I D E Z R ⊢;refine pure_ (i:=0) (N:=some 51) (v:=?_) (a':=?_) #[y_,n_,n_,n_,n_,n_,n_,n_,n_,n_,n_,n_,n_,n_,n_,n_,n_,n_] rfl rfl (any_of V.1 (by kernel_rfl)) (fun _ _ _ h=>h) (Or.inl ⟨by rfl,?_⟩) ?_ ?_;rotate_left
           ·
            intro w';go_simp;with_reducible rfl
           rotate_left
           ·
            simp only [Act.put,s0_,s1_,s2_,i64_w,i32_w];rfl
           refine pure_ (i:=1) (N:=some 52) (v:=?_) (a':=?_) #[y_,y_,n_,n_,n_,n_,n_,n_,n_,n_,n_,n_,n_,n_,n_,n_,n_,n_] rfl rfl (any_of V.1 (by kernel_rfl)) (fun _ _ _ h=>h) (Or.inl ⟨by rfl,?_⟩) ?_ ?_;rotate_left
           ·
            intro w';go_simp;with_reducible rfl
           rotate_left
           ·
            simp only [Act.put,s0_,s1_,s2_,i64_w,i32_w];rfl
           refine pure_ (i:=2) (N:=some 53) (v:=?_) (a':=?_) #[y_,y_,y_,n_,n_,n_,n_,n_,n_,n_,n_,n_,n_,n_,n_,n_,n_,n_] rfl rfl (any_of V.1 (by kernel_rfl)) (fun _ _ _ h=>h) (Or.inl ⟨by rfl,?_⟩) ?_ ?_;rotate_left
           ·
            intro w';go_simp;with_reducible rfl
           rotate_left
           ·
            simp only [Act.put,s0_,s1_,s2_,i64_w,i32_w];rfl
           refine pure_ (i:=3) (N:=some 54) (v:=?_) (a':=?_) #[y_,y_,y_,y_,n_,n_,n_,n_,n_,n_,n_,n_,n_,n_,n_,n_,n_,n_] rfl rfl (any_of V.1 (by kernel_rfl)) (fun _ _ _ h=>h) (Or.inl ⟨by rfl,?_⟩) ?_ ?_;rotate_left
           ·
            intro w';go_simp;with_reducible rfl
           rotate_left
           ·
            simp only [Act.put,s0_,s1_,s2_,i64_w,i32_w];rfl
           refine pure_ (i:=4) (N:=some 55) (v:=?_) (a':=?_) #[y_,y_,y_,y_,y_,n_,n_,n_,n_,n_,n_,n_,n_,n_,n_,n_,n_,n_] rfl rfl (any_of V.1 (by kernel_rfl)) (fun _ _ _ h=>h) (Or.inl ⟨by rfl,?_⟩) ?_ ?_;rotate_left
           ·
            intro w';go_simp;with_reducible rfl
           rotate_left
           ·
            simp only [Act.put,s0_,s1_,s2_,i64_w,i32_w];rfl
           refine pure_ (i:=5) (N:=some 56) (v:=?_) (a':=?_) #[y_,y_,y_,y_,y_,y_,n_,n_,n_,n_,n_,n_,n_,n_,n_,n_,n_,n_] rfl rfl (any_of V.1 (by kernel_rfl)) (fun _ _ _ h=>h) (Or.inl ⟨by rfl,?_⟩) ?_ ?_;rotate_left
           ·
            intro w';go_simp;with_reducible rfl
           rotate_left
           ·
            simp only [Act.put,s0_,s1_,s2_,i64_w,i32_w];rfl
           refine pure_ (i:=6) (N:=some 57) (v:=?_) (a':=?_) #[y_,y_,y_,y_,y_,y_,y_,n_,n_,n_,n_,n_,n_,n_,n_,n_,n_,n_] rfl rfl (any_of V.1 (by kernel_rfl)) (fun _ _ _ h=>h) (Or.inl ⟨by rfl,?_⟩) ?_ ?_;rotate_left
           ·
            intro w';go_simp;with_reducible rfl
           rotate_left
           ·
            simp only [Act.put,s0_,s1_,s2_,i64_w,i32_w];rfl
           refine pure_ (i:=7) (N:=some 58) (v:=?_) (a':=?_) #[y_,y_,y_,y_,y_,y_,y_,y_,n_,n_,n_,n_,n_,n_,n_,n_,n_,n_] rfl rfl (any_of V.1 (by kernel_rfl)) (fun _ _ _ h=>h) (Or.inl ⟨by rfl,?_⟩) ?_ ?_;rotate_left
           ·
            intro w';go_simp;with_reducible rfl
           rotate_left
           ·
            simp only [Act.put,s0_,s1_,s2_,i64_w,i32_w];rfl
           refine pure_ (i:=8) (N:=some 59) (v:=?_) (a':=?_) #[y_,y_,y_,y_,y_,y_,y_,y_,y_,n_,n_,n_,n_,n_,n_,n_,n_,n_] rfl rfl (any_of V.1 (by kernel_rfl)) (fun _ _ _ h=>h) (Or.inl ⟨by rfl,?_⟩) ?_ ?_;rotate_left
           ·
            intro w';go_simp;with_reducible rfl
           rotate_left
           ·
            simp only [Act.put,s0_,s1_,s2_,i64_w,i32_w];rfl
           refine pure_ (i:=9) (N:=some 60) (v:=?_) (a':=?_) #[y_,y_,y_,y_,y_,y_,y_,y_,y_,y_,n_,n_,n_,n_,n_,n_,n_,n_] rfl rfl (any_of V.1 (by kernel_rfl)) (fun _ _ _ h=>h) (Or.inl ⟨by rfl,?_⟩) ?_ ?_;rotate_left
           ·
            intro w';go_simp;with_reducible rfl
           rotate_left
           ·
            simp only [Act.put,s0_,s1_,s2_,i64_w,i32_w];rfl
           refine pure_ (i:=10) (N:=some 61) (v:=?_) (a':=?_) #[y_,y_,y_,y_,y_,y_,y_,y_,y_,y_,y_,n_,n_,n_,n_,n_,n_,n_] rfl rfl (any_of V.1 (by kernel_rfl)) (fun _ _ _ h=>h) (Or.inl ⟨by rfl,?_⟩) ?_ ?_;rotate_left
           ·
            intro w';go_simp;with_reducible rfl
           rotate_left
           ·
            simp only [Act.put,s0_,s1_,s2_,i64_w,i32_w];rfl
           refine pure_ (i:=11) (N:=some 62) (v:=?_) (a':=?_) #[y_,y_,y_,y_,y_,y_,y_,y_,y_,y_,y_,y_,n_,n_,n_,n_,n_,n_] rfl rfl (any_of V.1 (by kernel_rfl)) (fun _ _ _ h=>h) (Or.inl ⟨by rfl,?_⟩) ?_ ?_;rotate_left
           ·
            intro w';go_simp;with_reducible rfl
           rotate_left
           ·
            simp only [Act.put,s0_,s1_,s2_,i64_w,i32_w];rfl
           refine pure_ (i:=12) (N:=some 63) (v:=?_) (a':=?_) #[y_,y_,y_,y_,y_,y_,y_,y_,y_,y_,y_,y_,y_,n_,n_,n_,n_,n_] rfl rfl (any_of V.1 (by kernel_rfl)) (fun _ _ _ h=>h) (Or.inl ⟨by rfl,?_⟩) ?_ ?_;rotate_left
           ·
            intro w';go_simp;with_reducible rfl
           rotate_left
           ·
            simp only [Act.put,s0_,s1_,s2_,i64_w,i32_w];rfl
           refine pure_ (i:=13) (N:=some 64) (v:=?_) (a':=?_) #[y_,y_,y_,y_,y_,y_,y_,y_,y_,y_,y_,y_,y_,y_,n_,n_,n_,n_] rfl rfl (any_of V.1 (by kernel_rfl)) (fun _ _ _ h=>h) (Or.inl ⟨by rfl,?_⟩) ?_ ?_;rotate_left
           ·
            intro w';go_simp;with_reducible rfl
           rotate_left
           ·
            simp only [Act.put,s0_,s1_,s2_,i64_w,i32_w];rfl
           refine one_ (i:=14) (N:=some 65) #[y_,y_,y_,y_,y_,y_,y_,y_,y_,y_,y_,y_,y_,y_,y_,n_,n_,n_] rfl rfl (one_of V.1 (by kernel_rfl)) (by decide) (fun K hK=>?_);refine goes_ Try.func55 (by kernel_rfl) rfl #[.slice (some ⟨f4,0,none⟩) [T,U,X,Y].length 4,.slice (some ⟨a0,0,none⟩) [Q,O,L,J].length 4] (by rfl) rfl rfl (by (try simp only [m0_,m1_,m2_]);first|done|(rw [show [T,U,X,Y].length=4 from rfl,show [Q,O,L,J].length=4 from rfl] <;> rfl)|rfl|(simp only [l0_,l1_];rfl)) ?_;with_reducible refine (slices_Compare_int_int.calls k2 _ _ [T,U,X,Y] _ _ [Q,O,L,J] l8 _ ?side1 ?side2 ?side3 ?side4 t1.1).mono ?_
           (case side1=>exact Go.Proofs.MyWords.C_box (t:=67) (cs:=#[.int .i64 T,.int .i64 U,.int .i64 X,.int .i64 Y]) E.1 (by rfl) (Nat.le_of_ble_eq_true rfl));(case side2=>exact Nat.le_refl _);(case side3=>exact Go.Proofs.MyWords.C_box (t:=67) (cs:=#[.int .i64 Q,.int .i64 O,.int .i64 L,.int .i64 J]) D.1 (by rfl) (Nat.le_of_ble_eq_true rfl));(case side4=>exact Nat.le_refl _);rintro e w' ⟨rfl,⟨nd,rfl⟩⟩;refine ⟨_,rfl,?_⟩;refine hK.out _ _ ⟨q0_ E,q1_ E,q2_ E,q3_ E,q0_ D,q1_ D,q2_ D,q3_ D⟩ (fun R=>?_);clear hK K;refine norm_ (a':=?_) ?_ ?_;rotate_left
           ·
            show Act.put _ (some 65) _=_;simp only [Act.put,s0_,s1_,s2_,i64_w,i32_w];rfl
           refine pure_ (i:=15) (N:=some 66) (v:=?_) (a':=?_) #[y_,y_,y_,y_,y_,y_,y_,y_,y_,y_,y_,y_,y_,y_,y_,y_,n_,n_] rfl rfl (any_of V.1 (by kernel_rfl)) (fun _ _ _ h=>h) (Or.inl ⟨by rfl,?_⟩) ?_ ?_;rotate_left
           ·
            intro w';go_simp;with_reducible rfl
           rotate_left
           ·
            simp only [Act.put,s0_,s1_,s2_,i64_w,i32_w];rfl
           refine pure_ (i:=16) (N:=some 67) (v:=?_) (a':=?_) #[y_,y_,y_,y_,y_,y_,y_,y_,y_,y_,y_,y_,y_,y_,y_,y_,y_,n_] rfl rfl (any_of V.1 (by kernel_rfl)) (fun _ _ _ h=>h) (Or.inl ⟨by rfl,?_⟩) ?_ ?_;rotate_left
           ·
            intro w';go_simp;with_reducible rfl
           rotate_left
           ·
            simp only [Act.put,s0_,s1_,s2_,i64_w,i32_w];rfl
           refine pure_ (i:=17) (N:=some 68) (v:=?_) (a':=?_) #[y_,y_,y_,y_,y_,y_,y_,y_,y_,y_,y_,y_,y_,y_,y_,y_,y_,y_] rfl rfl (any_of V.1 (by kernel_rfl)) (fun _ _ _ h=>h) (Or.inl ⟨by rfl,?_⟩) ?_ ?_;rotate_left
           ·
            intro w';go_simp;with_reducible rfl
           rotate_left
           ·
            simp only [Act.put,s0_,s1_,s2_,i64_w,i32_w];rfl
           refine done_ (done_of V.1 (by kernel_rfl)) ?_;try go_wp2
           go_roundg k2
           case measure=>have:=g8.1;have:=g9.1;omega
           case rel=>exact ⟨(e5),(wrap64 (a1 + 1)),(Q),(O),(L),(J),(by first|rfl|(simp;done)|(simp [*];done)),(by first|rfl|(simp;done)|(simp [*];done)),H',⟨by have:=g8.1;have:=g9.1;omega⟩,⟨by exact C.1⟩,⟨by exact B.1⟩,⟨by exact F.1⟩,⟨by exact G.1⟩,⟨by exact I.1⟩,⟨by exact D.1⟩,⟨by repeat (first|(with_reducible first|exact Z.1|apply below_alloc|apply pw_below_drewN|apply below_drew1|refine below_set ?_ d6.1|refine below_set ?_ d7.1|refine below_set ?_ d8.1|refine below_set ?_ d9.1|refine below_set ?_ b9.1|refine below_set ?_ e8.1|refine below_set ?_ f5.1)|exact Z.1)⟩⟩
         ·
          rw [if_neg c101] at H;have c101b0:(c9 == e5)=false:=beq_eq_false_iff_ne.mpr c101;have c101b1:(c9 != e5)=true:=bne_iff_ne.mpr c101;have H':=mk0 H;clear H;try go_wp2
          replace C:=bdr C;replace B:=bdr B;replace F:=bdr F;replace G:=bdr G;replace I:=bdr I;replace D:=bdr D;replace E:=bdr E;replace Z:=hdr Z;refine start_ (n:=18) (S:=fun w'=>True) (ds:=[]) #[n_,n_,n_,n_,n_,n_,n_,n_,n_,n_,n_,n_,n_,n_,n_,n_,n_,n_] (by kernel_rfl) rfl rfl trivial (fun R=>?_);refine with_tabW norm_divide.tab17 norm_divide.bits17 (fun V j6=>?_);generalize wr.drew=Bp at C B F G I D E Z R ⊢;refine pure_ (i:=0) (N:=some 51) (v:=?_) (a':=?_) #[y_,n_,n_,n_,n_,n_,n_,n_,n_,n_,n_,n_,n_,n_,n_,n_,n_,n_] rfl rfl (any_of V.1 (by kernel_rfl)) (fun _ _ _ h=>h) (Or.inl ⟨by rfl,?_⟩) ?_ ?_;rotate_left
          ·
           intro w';go_simp;with_reducible rfl
          rotate_left
          ·
           simp only [Act.put,s0_,s1_,s2_,i64_w,i32_w];rfl
          refine pure_ (i:=1) (N:=some 52) (v:=?_) (a':=?_) #[y_,y_,n_,n_,n_,n_,n_,n_,n_,n_,n_,n_,n_,n_,n_,n_,n_,n_] rfl rfl (any_of V.1 (by kernel_rfl)) (fun _ _ _ h=>h) (Or.inl ⟨by rfl,?_⟩) ?_ ?_;rotate_left
          ·
           intro w';go_simp;with_reducible rfl
          rotate_left
          ·
           simp only [Act.put,s0_,s1_,s2_,i64_w,i32_w];rfl
          refine pure_ (i:=2) (N:=some 53) (v:=?_) (a':=?_) #[y_,y_,y_,n_,n_,n_,n_,n_,n_,n_,n_,n_,n_,n_,n_,n_,n_,n_] rfl rfl (any_of V.1 (by kernel_rfl)) (fun _ _ _ h=>h) (Or.inl ⟨by rfl,?_⟩) ?_ ?_;rotate_left
          ·
           intro w';go_simp;with_reducible rfl
          rotate_left
          ·
           simp only [Act.put,s0_,s1_,s2_,i64_w,i32_w];rfl
          refine pure_ (i:=3) (N:=some 54) (v:=?_) (a':=?_) #[y_,y_,y_,y_,n_,n_,n_,n_,n_,n_,n_,n_,n_,n_,n_,n_,n_,n_] rfl rfl (any_of V.1 (by kernel_rfl)) (fun _ _ _ h=>h) (Or.inl ⟨by rfl,?_⟩) ?_ ?_;rotate_left
          ·
           intro w';go_simp;with_reducible rfl
          rotate_left
          ·
           simp only [Act.put,s0_,s1_,s2_,i64_w,i32_w];rfl
          refine pure_ (i:=4) (N:=some 55) (v:=?_) (a':=?_) #[y_,y_,y_,y_,y_,n_,n_,n_,n_,n_,n_,n_,n_,n_,n_,n_,n_,n_] rfl rfl (any_of V.1 (by kernel_rfl)) (fun _ _ _ h=>h) (Or.inl ⟨by rfl,?_⟩) ?_ ?_;rotate_left
          ·
           intro w';go_simp;with_reducible rfl
          rotate_left
          ·
           simp only [Act.put,s0_,s1_,s2_,i64_w,i32_w];rfl
          refine pure_ (i:=5) (N:=some 56) (v:=?_) (a':=?_) #[y_,y_,y_,y_,y_,y_,n_,n_,n_,n_,n_,n_,n_,n_,n_,n_,n_,n_] rfl rfl (any_of V.1 (by kernel_rfl)) (fun _ _ _ h=>h) (Or.inl ⟨by rfl,?_⟩) ?_ ?_;rotate_left
          ·
           intro w';go_simp;with_reducible rfl
          rotate_left
          ·
           simp only [Act.put,s0_,s1_,s2_,i64_w,i32_w];rfl
          refine pure_ (i:=6) (N:=some 57) (v:=?_) (a':=?_) #[y_,y_,y_,y_,y_,y_,y_,n_,n_,n_,n_,n_,n_,n_,n_,n_,n_,n_] rfl rfl (any_of V.1 (by kernel_rfl)) (fun _ _ _ h=>h) (Or.inl ⟨by rfl,?_⟩) ?_ ?_;rotate_left
          ·
           intro w';go_simp;with_reducible rfl
          rotate_left
          ·
           simp only [Act.put,s0_,s1_,s2_,i64_w,i32_w];rfl
          refine pure_ (i:=7) (N:=some 58) (v:=?_) (a':=?_) #[y_,y_,y_,y_,y_,y_,y_,y_,n_,n_,n_,n_,n_,n_,n_,n_,n_,n_] rfl rfl (any_of V.1 (by kernel_rfl)) (fun _ _ _ h=>h) (Or.inl ⟨by rfl,?_⟩) ?_ ?_;rotate_left
          ·
           intro w';go_simp;with_reducible rfl
          rotate_left
          ·
           simp only [Act.put,s0_,s1_,s2_,i64_w,i32_w];rfl
          refine pure_ (i:=8) (N:=some 59) (v:=?_) (a':=?_) #[y_,y_,y_,y_,y_,y_,y_,y_,y_,n_,n_,n_,n_,n_,n_,n_,n_,n_] rfl rfl (any_of V.1 (by kernel_rfl)) (fun _ _ _ h=>h) (Or.inl ⟨by rfl,?_⟩) ?_ ?_;rotate_left
          ·
           intro w';go_simp;with_reducible rfl
          rotate_left
          ·
           simp only [Act.put,s0_,s1_,s2_,i64_w,i32_w];rfl
          refine pure_ (i:=9) (N:=some 60) (v:=?_) (a':=?_) #[y_,y_,y_,y_,y_,y_,y_,y_,y_,y_,n_,n_,n_,n_,n_,n_,n_,n_] rfl rfl (any_of V.1 (by kernel_rfl)) (fun _ _ _ h=>h) (Or.inl ⟨by rfl,?_⟩) ?_ ?_;rotate_left
          ·
           intro w';go_simp;with_reducible rfl
          rotate_left
          ·
           simp only [Act.put,s0_,s1_,s2_,i64_w,i32_w];rfl
          refine pure_ (i:=10) (N:=some 61) (v:=?_) (a':=?_) #[y_,y_,y_,y_,y_,y_,y_,y_,y_,y_,y_,n_,n_,n_,n_,n_,n_,n_] rfl rfl (any_of V.1 (by kernel_rfl)) (fun _ _ _ h=>h) (Or.inl ⟨by rfl,?_⟩) ?_ ?_;rotate_left
          ·
           intro w';go_simp;with_reducible rfl
          rotate_left
          ·
           simp only [Act.put,s0_,s1_,s2_,i64_w,i32_w];rfl
          refine pure_ (i:=11) (N:=some 62) (v:=?_) (a':=?_) #[y_,y_,y_,y_,y_,y_,y_,y_,y_,y_,y_,y_,n_,n_,n_,n_,n_,n_] rfl rfl (any_of V.1 (by kernel_rfl)) (fun _ _ _ h=>h) (Or.inl ⟨by rfl,?_⟩) ?_ ?_;rotate_left
          ·
           intro w';go_simp;with_reducible rfl
          rotate_left
          ·
           simp only [Act.put,s0_,s1_,s2_,i64_w,i32_w];rfl
          refine pure_ (i:=12) (N:=some 63) (v:=undef) (a':=?_) #[y_,y_,y_,y_,y_,y_,y_,y_,y_,y_,y_,y_,y_,n_,n_,n_,n_,n_] rfl rfl (any_of V.1 (by kernel_rfl)) (fun _ _ _ h=>h) (Or.inr ⟨by rfl,rfl⟩) ?_ ?_;rotate_left
          ·
           simp only [Act.put,s0_,s1_,s2_,i64_w,i32_w];rfl
          refine pure_ (i:=13) (N:=some 64) (v:=undef) (a':=?_) #[y_,y_,y_,y_,y_,y_,y_,y_,y_,y_,y_,y_,y_,y_,n_,n_,n_,n_] rfl rfl (any_of V.1 (by kernel_rfl)) (fun _ _ _ h=>h) (Or.inr ⟨by rfl,rfl⟩) ?_ ?_;rotate_left
          ·
           simp only [Act.put,s0_,s1_,s2_,i64_w,i32_w];rfl
          refine pure_ (i:=14) (N:=some 65) (v:=undef) (a':=?_) #[y_,y_,y_,y_,y_,y_,y_,y_,y_,y_,y_,y_,y_,y_,y_,n_,n_,n_] rfl rfl (any_of V.1 (by kernel_rfl)) (fun _ _ _ h=>h) (Or.inr ⟨by rfl,rfl⟩) ?_ ?_;rotate_left
          ·
           simp only [Act.put,s0_,s1_,s2_,i64_w,i32_w];rfl
          refine pure_ (i:=15) (N:=some 66) (v:=undef) (a':=?_) #[y_,y_,y_,y_,y_,y_,y_,y_,y_,y_,y_,y_,y_,y_,y_,y_,n_,n_] rfl rfl (any_of V.1 (by kernel_rfl)) (fun _ _ _ h=>h) (Or.inr ⟨by rfl,rfl⟩) ?_ ?_;rotate_left
          ·
           simp only [Act.put,s0_,s1_,s2_,i64_w,i32_w];rfl
          refine pure_ (i:=16) (N:=some 67) (v:=?_) (a':=?_) #[y_,y_,y_,y_,y_,y_,y_,y_,y_,y_,y_,y_,y_,y_,y_,y_,y_,n_] rfl rfl (any_of V.1 (by kernel_rfl)) (fun _ _ _ h=>h) (Or.inl ⟨by rfl,?_⟩) ?_ ?_;rotate_left
          ·
           intro w';go_simp;with_reducible rfl
          rotate_left
          ·
           simp only [Act.put,s0_,s1_,s2_,i64_w,i32_w];rfl
          refine pure_ (i:=17) (N:=some 68) (v:=?_) (a':=?_) #[y_,y_,y_,y_,y_,y_,y_,y_,y_,y_,y_,y_,y_,y_,y_,y_,y_,y_] rfl rfl (any_of V.1 (by kernel_rfl)) (fun _ _ _ h=>h) (Or.inl ⟨by rfl,?_⟩) ?_ ?_;rotate_left
          ·
           intro w';go_simp;with_reducible rfl
          rotate_left
          ·
           simp only [Act.put,s0_,s1_,s2_,i64_w,i32_w];rfl
          refine done_ (done_of V.1 (by kernel_rfl)) ?_;try go_wp2
          go_roundg k2
          case measure=>have:=g8.1;have:=g9.1;omega
          case rel=>exact ⟨(e5),(wrap64 (a1 + 1)),(Q),(O),(L),(J),(by first|rfl|(simp;done)|(simp [*];done)),(by first|rfl|(simp;done)|(simp [*];done)),H',⟨by have:=g8.1;have:=g9.1;omega⟩,⟨by exact C.1⟩,⟨by exact B.1⟩,⟨by exact F.1⟩,⟨by exact G.1⟩,⟨by exact I.1⟩,⟨by exact D.1⟩,⟨by repeat (first|(with_reducible first|exact Z.1|apply below_alloc|apply pw_below_drewN|apply below_drew1|refine below_set ?_ d6.1|refine below_set ?_ d7.1|refine below_set ?_ d8.1|refine below_set ?_ d9.1|refine below_set ?_ b9.1|refine below_set ?_ e8.1|refine below_set ?_ f5.1)|exact Z.1)⟩⟩
   ·
    rw [if_neg c25] at H;have c25b0:decide (a1 < 2)=false:=decide_eq_false c25;clear c25;obtain ⟨o0,j7⟩:∃ y_:List (S67),y_=(([(⟨Q,O,L,J⟩:S67),(⟨a3,a4,a5,a6⟩:S67)]:List (S67))):=⟨_,rfl⟩
    replace H:((norm_product.f k1 o0).bind fun l5=>((norm_quat_minus.f k1 b2 b3 b4 b5 l5.1 l5.2.1 l5.2.2.1 l5.2.2.2).bind fun l6=>(some (Q,O,L,J,l6.1,l6.2.1,l6.2.2.1,l6.2.2.2))))=some (r1,r2,r3,r4,r5,r6,r7,r8):=by first|(rw [j7];with_reducible exact H)|(have t2:=(Option.bind_some _ _).symm.trans H;rw [j7];with_reducible exact t2)|(have t2:=(Option.bind_some _ _).symm.trans H;with_reducible exact t2)|with_reducible exact H|(rw [j7];exact H)|exact H
    have o7:=mk0 j7;clear j7;replace H:=Option.bind_eq_some_iff.mp H;obtain ⟨⟨o1,o2,o3,o4⟩,o8,H⟩:=H;(try dsimp only at H);have y5:=mk0 o8;clear o8;replace H:=Option.bind_eq_some_iff.mp H;obtain ⟨⟨l9,n6,o5,t3⟩,o9,H⟩:=H;(try dsimp only at H);have y6:=mk0 o9;clear o9;simp only [Option.some.injEq,Prod.mk.injEq] at H;obtain ⟨rfl,rfl,rfl,rfl,rfl,rfl,rfl,rfl⟩:=H;try go_wp2
    replace C:=bdr C;replace B:=bdr B;replace F:=bdr F;replace G:=bdr G;replace I:=bdr I;replace D:=bdr D;replace Z:=hdr Z;refine start_ (n:=9) (S:=fun w'=>w'.cell? ⟨a0,0,none⟩=some (.int .i64 Q)∧w'.cell? ⟨a0,1,none⟩=some (.int .i64 O)∧w'.cell? ⟨a0,2,none⟩=some (.int .i64 L)∧w'.cell? ⟨a0,3,none⟩=some (.int .i64 J)∧w'.cell? ⟨b6,0,none⟩=some (.int .i64 b2)∧w'.cell? ⟨b6,1,none⟩=some (.int .i64 b3)∧w'.cell? ⟨b6,2,none⟩=some (.int .i64 b4)∧w'.cell? ⟨b6,3,none⟩=some (.int .i64 b5)∧w'.cell? ⟨b7,0,none⟩=some (.int .i64 a3)∧w'.cell? ⟨b7,1,none⟩=some (.int .i64 a4)∧w'.cell? ⟨b7,2,none⟩=some (.int .i64 a5)∧w'.cell? ⟨b7,3,none⟩=some (.int .i64 a6)) (ds:=[]) #[n_,n_,n_,n_,n_,n_,n_,n_,n_] (by kernel_rfl) rfl rfl ⟨q0_ D,q1_ D,q2_ D,q3_ D,q0_ C,q1_ C,q2_ C,q3_ C,q0_ B,q1_ B,q2_ B,q3_ B⟩ (fun R=>?_);refine with_tabW norm_divide.tab20 norm_divide.bits20 (fun V j6=>?_);generalize wr.drew=Bq at C B F G I D Z R ⊢;refine take_ (i:=0) (N:=some 72) (v:=?_) (a':=?_) #[y_,n_,n_,n_,n_,n_,n_,n_,n_] rfl rfl (take_ofW V.1 j6.1 (by kernel_rfl)) (fun _ _ _ h=>h) (Or.inl ⟨by rfl,?_⟩) R ?_ ?_;rotate_left
    ·
     rintro w' ⟨s0,s1,s2,s3,s4,s5,s6,s7,s8,s9,t4,t5⟩;go_simp;with_reducible rfl
    rotate_left
    ·
     simp only [Act.put,s0_,s1_,s2_,i64_w,i32_w];rfl
    refine take_ (i:=1) (N:=some 73) (v:=?_) (a':=?_) #[y_,y_,n_,n_,n_,n_,n_,n_,n_] rfl rfl (take_ofW V.1 j6.1 (by kernel_rfl)) (fun _ _ _ h=>h) (Or.inl ⟨by rfl,?_⟩) R ?_ ?_;rotate_left
    ·
     rintro w' ⟨s0,s1,s2,s3,s4,s5,s6,s7,s8,s9,t4,t5⟩;go_simp;with_reducible rfl
    rotate_left
    ·
     simp only [Act.put,s0_,s1_,s2_,i64_w,i32_w];rfl
    refine take_ (i:=2) (N:=some 74) (v:=?_) (a':=?_) #[y_,y_,y_,n_,n_,n_,n_,n_,n_] rfl rfl (take_ofW V.1 j6.1 (by kernel_rfl)) (fun _ _ _ h=>h) (Or.inl ⟨by rfl,?_⟩) R ?_ ?_;rotate_left
    ·
     rintro w' ⟨s0,s1,s2,s3,s4,s5,s6,s7,s8,s9,t4,t5⟩;go_simp;with_reducible rfl
    rotate_left
    ·
     simp only [Act.put,s0_,s1_,s2_,i64_w,i32_w];rfl
    refine take_ (i:=3) (N:=some 75) (v:=?_) (a':=?_) #[y_,y_,y_,y_,n_,n_,n_,n_,n_] rfl rfl (take_ofW V.1 j6.1 (by kernel_rfl)) (fun _ _ _ h=>h) (Or.inl ⟨by rfl,?_⟩) R ?_ ?_;rotate_left
    ·
     rintro w' ⟨s0,s1,s2,s3,s4,s5,s6,s7,s8,s9,t4,t5⟩;go_simp;with_reducible rfl
    rotate_left
    ·
     simp only [Act.put,s0_,s1_,s2_,i64_w,i32_w];rfl
    refine one_ (i:=4) (N:=some 76) #[y_,y_,y_,y_,y_,n_,n_,n_,n_] rfl rfl (one_of V.1 (by kernel_rfl)) (by decide) (fun K hK=>?_);refine Kd.R_lit_step k67 _ 67 ?hg (N:=76) ?hd (xs:=([(⟨Q,O,L,J⟩:S67),(⟨a3,a4,a5,a6⟩:S67)]:List (S67))) (inner:=[.int .i64 Q,.int .i64 O,.int .i64 L,.int .i64 J,.int .i64 a3,.int .i64 a4,.int .i64 a5,.int .i64 a6]) (ok:=fun _=>True) (okp:=fun _=>True) ?hr ?hp (fun _ hk=>hk) trivial (Below.refl _ _) (Nat.le_refl _) (by simp) ?_;(case hd=>rfl);(case hg=>rfl);(case hr=>first|(go_simp;done)|(go_simp;rfl));(case hp=>exact (Reps.c4 (show Kd.M k67 _ _ _ (⟨Q,O,L,J⟩:S67) [.int .i64 Q,.int .i64 O,.int .i64 L,.int .i64 J] from (k67_mkM _ _ _ (⟨Q,O,L,J⟩:S67) )) (Reps.c4 (show Kd.M k67 _ _ _ (⟨a3,a4,a5,a6⟩:S67) [.int .i64 a3,.int .i64 a4,.int .i64 a5,.int .i64 a6] from (k67_mkM _ _ _ (⟨a3,a4,a5,a6⟩:S67) )) (Reps.none _ _))));intro Br Bs j8 hb hg_ u1;clear hg_ u1;(first|rw [← o7.1] at j8|(simp only [Int.reduceToNat] at j8;rw [← o7.1] at j8));have h9:=mk0 (Kd.R_lower (Kd.R_newB (Kd.R_newB (Kd.R_newB (Kd.R_newB (Kd.R_newB (Kd.R_newB j8 (g:=b6) (o:=.cells #[.int .i64 b2,.int .i64 b3,.int .i64 b4,.int .i64 b5] 67 (0,0)) C.1) (g:=b7) (o:=.cells #[.int .i64 a3,.int .i64 a4,.int .i64 a5,.int .i64 a6] 67 (0,0)) B.1) (g:=e6) (o:=.cells #[.int .i64 0,.int .i64 0,.int .i64 0,.int .i64 0] 67 (0,0)) F.1) (g:=e7) (o:=.cells #[.int .i64 0,.int .i64 0,.int .i64 0,.int .i64 0] 67 (0,0)) G.1) (g:=e2) (o:=.cells #[.int .i64 a2,.int .i64 a7,.int .i64 a9,.int .i64 b8] 67 (0,0)) I.1) (g:=a0) (o:=.cells #[.int .i64 Q,.int .i64 O,.int .i64 L,.int .i64 J] 67 (0,0)) D.1) (below_size Z.1));replace C:=bkb C hb;replace B:=bkb B hb;replace F:=bkb F hb;replace G:=bkb G hb;replace I:=bkb I hb;replace D:=bkb D hb;replace Z:=bst Z hb;clear hb j8;obtain ⟨u2,u3,p0⟩:=Kd.R_slice h9.1;(first|subst p0|(injection p0 with f1_ f2_ f3_;have f4_:=f1_.symm;have N0:=f3_.symm;clear f1_ f2_ f3_;subst f4_;subst N0));refine hK.out _ _ ⟨q0_ D,q1_ D,q2_ D,q3_ D,q0_ C,q1_ C,q2_ C,q3_ C,q0_ B,q1_ B,q2_ B,q3_ B⟩ (fun R=>?_);clear hK K;refine norm_ (a':=?_) ?_ ?_;rotate_left
    ·
     show Act.put _ (some 76) _=_;simp only [Act.put,s0_,s1_,s2_,i64_w,i32_w];rfl
    refine one_ (i:=5) (N:=some 77) #[y_,y_,y_,y_,y_,y_,n_,n_,n_] rfl rfl (one_of V.1 (by kernel_rfl)) (by decide) (fun K hK=>?_);refine goes_ Try.func54 (by kernel_rfl) rfl #[.slice u2 o0.length u3] (by rfl) rfl rfl (by (try simp only [m0_,m1_,m2_]);first|done|rfl|(simp only [l0_,l1_];rfl)) ?_;with_reducible refine (norm_product.calls k1 _ _ o0 o1 o2 o3 o4 _ ?side1 ?side2 y5.1).mono ?_
    (case side1=>repeat (first|exact (Kd.R_reads' h9.1).2.2|(with_reducible refine Kd.C_alloc ?_ _)|(with_reducible refine Kd.C_drewN ?_ _)|(with_reducible refine Kd.C_drew ?_)));(case side2=>exact (Kd.R_reads' h9.1).2.1);rintro e Bt ⟨rfl,hb⟩;refine ⟨_,rfl,?_⟩;replace h9:=rbl h9 hb;replace C:=bkb C hb;replace B:=bkb B hb;replace F:=bkb F hb;replace G:=bkb G hb;replace I:=bkb I hb;replace D:=bkb D hb;replace Z:=bst Z hb;(try clear hb);(try clear hk);refine hK.out _ _ ⟨q0_ D,q1_ D,q2_ D,q3_ D,q0_ C,q1_ C,q2_ C,q3_ C,q0_ B,q1_ B,q2_ B,q3_ B⟩ (fun R=>?_);clear hK K;refine norm_ (a':=?_) ?_ ?_;rotate_left
    ·
     show Act.put _ (some 77) _=_;simp only [Act.put,s0_,s1_,s2_,i64_w,i32_w];rfl
    refine one_ (i:=6) (N:=some 78) #[y_,y_,y_,y_,y_,y_,y_,n_,n_] rfl rfl (one_of V.1 (by kernel_rfl)) (by decide) (fun K hK=>?_);refine goes_ Try.func73 (by kernel_rfl) rfl #[.agg #[.int .i64 b2,.int .i64 b3,.int .i64 b4,.int .i64 b5],.agg #[.int .i64 o1,.int .i64 o2,.int .i64 o3,.int .i64 o4]] (by rfl) rfl rfl (by (try simp only [m0_,m1_,m2_]);first|done|rfl|(simp only [l0_,l1_];rfl)) ?_;with_reducible refine (norm_quat_minus.calls k1 b2 b3 b4 b5 o1 o2 o3 o4 l9 n6 o5 t3 _ y6.1).mono ?_
    rintro e Bu ⟨rfl,hb⟩;refine ⟨_,rfl,?_⟩;replace h9:=rbl h9 hb;replace C:=bkb C hb;replace B:=bkb B hb;replace F:=bkb F hb;replace G:=bkb G hb;replace I:=bkb I hb;replace D:=bkb D hb;replace Z:=bst Z hb;(try clear hb);refine hK.out _ _ ⟨q0_ D,q1_ D,q2_ D,q3_ D,q0_ C,q1_ C,q2_ C,q3_ C,q0_ B,q1_ B,q2_ B,q3_ B⟩ (fun R=>?_);clear hK K;refine norm_ (a':=?_) ?_ ?_;rotate_left
    ·
     show Act.put _ (some 78) _=_;simp only [Act.put,s0_,s1_,s2_,i64_w,i32_w];rfl
    refine one_ (i:=7) (N:=none) #[y_,y_,y_,y_,y_,y_,y_,y_,n_] rfl rfl (one_of V.1 (by kernel_rfl)) (by decide) (fun K hK=>?_);have Ay:=q0_ F;have N1:=blk_frozen F.1 0;have y9:=h1.1;have z0:=g4.1;have z1:=h3.1;have z2:=e3.1;have z3:=f1.1;have z4:=n9.1;have z5:=j9.1;have z6:=h2.1;have z7:=c5.1;have z8:=f7.1;have Az:=q1_ F;have N2:=blk_frozen F.1 1;have Ba:=q2_ F;have N3:=blk_frozen F.1 2;have Bb:=q3_ F;have N4:=blk_frozen F.1 3;refine skip_ (w1:=?_) (by rfl) rfl ?_ ?_;rotate_left
    ·
     go_simp;rfl
    refine hK.out _ _ ⟨f4_ f1 R.1,f4_ f1 R.2.1,f4_ f1 R.2.2.1,f4_ f1 R.2.2.2.1,f4_ h1 R.2.2.2.2.1,f4_ h1 R.2.2.2.2.2.1,f4_ h1 R.2.2.2.2.2.2.1,f4_ h1 R.2.2.2.2.2.2.2.1,f4_ g4 R.2.2.2.2.2.2.2.2.1,f4_ g4 R.2.2.2.2.2.2.2.2.2.1,f4_ g4 R.2.2.2.2.2.2.2.2.2.2.1,f4_ g4 R.2.2.2.2.2.2.2.2.2.2.2⟩ (fun R=>?_);clear hK K;refine one_ (i:=8) (N:=none) #[y_,y_,y_,y_,y_,y_,y_,y_,y_] rfl rfl (one_of V.1 (by kernel_rfl)) (by decide) (fun K hK=>?_);have Bc:=q0_ G;have N5:=blk_frozen G.1 0;have z9:=g5.1;have A0:=f6.1;have A1:=h2.1;have A2:=e0.1;have A6:=e4.1;have A7:=l2.1;have A8:=i0.1;have A9:=h3.1;have B0:=c0.1;have B1:=f2.1;have Bd:=q1_ G;have N6:=blk_frozen G.1 1
    have B2:=f6.1;have B3:=h2.1;have B4:=e0.1;have B5:=e4.1;have B6:=l2.1;have B7:=i0.1;have B8:=h3.1;have B9:=c0.1;have C0:=f2.1;have Be:=q2_ G;have N7:=blk_frozen G.1 2;have C1:=g5.1;have Bf:=q3_ G;have N8:=blk_frozen G.1 3;refine skip_ (w1:=?_) (by rfl) rfl ?_ ?_;rotate_left
    ·
     go_simp;rfl
    refine hK.out _ _ ⟨f4_ e4 R.1,f4_ e4 R.2.1,f4_ e4 R.2.2.1,f4_ e4 R.2.2.2.1,f4_ g5 R.2.2.2.2.1,f4_ g5 R.2.2.2.2.2.1,f4_ g5 R.2.2.2.2.2.2.1,f4_ g5 R.2.2.2.2.2.2.2.1,f4_ f6 R.2.2.2.2.2.2.2.2.1,f4_ f6 R.2.2.2.2.2.2.2.2.2.1,f4_ f6 R.2.2.2.2.2.2.2.2.2.2.1,f4_ f6 R.2.2.2.2.2.2.2.2.2.2.2⟩ (fun R=>?_);clear hK K;refine done_ (done_of V.1 (by kernel_rfl)) ?_;try go_wp2
    refine bodyPost_ret (results_cc rfl _ _ e6 e7 67 67 #[.int .i64 Q,.int .i64 O,.int .i64 L,.int .i64 J] #[.int .i64 l9,.int .i64 n6,.int .i64 o5,.int .i64 t3] (0,0) (0,0) _ _ rfl (by (iterate 4 refine blk_far ?_ h2.1 _);refine blk_put (cs:=#[.int .i64 Q,.int .i64 O,.int .i64 L,.int .i64 0]) ?_ 3 _ rfl;refine blk_put (cs:=#[.int .i64 Q,.int .i64 O,.int .i64 0,.int .i64 0]) ?_ 2 _ rfl;refine blk_put (cs:=#[.int .i64 Q,.int .i64 0,.int .i64 0,.int .i64 0]) ?_ 1 _ rfl;refine blk_put (cs:=#[.int .i64 0,.int .i64 0,.int .i64 0,.int .i64 0]) ?_ 0 _ rfl;exact F.1) Try.underlying67 rfl (by kernel_rfl) rfl (by refine blk_put (cs:=#[.int .i64 l9,.int .i64 n6,.int .i64 o5,.int .i64 0]) ?_ 3 _ rfl;refine blk_put (cs:=#[.int .i64 l9,.int .i64 n6,.int .i64 0,.int .i64 0]) ?_ 2 _ rfl;refine blk_put (cs:=#[.int .i64 l9,.int .i64 0,.int .i64 0,.int .i64 0]) ?_ 1 _ rfl;refine blk_put (cs:=#[.int .i64 0,.int .i64 0,.int .i64 0,.int .i64 0]) ?_ 0 _ rfl;(iterate 4 refine blk_far ?_ h3.1 _);exact G.1) Try.underlying67 rfl (by kernel_rfl)) rfl ?_;exact ⟨by first|rfl|(simp [errW_none,errW_some] <;> rfl)|(simp [*,errW_none,errW_some] <;> rfl),by repeat (first|(with_reducible first|exact Z.1|apply below_alloc|apply pw_below_drewN|apply below_drew1|refine below_set ?_ d6.1|refine below_set ?_ d7.1|refine below_set ?_ d8.1|refine below_set ?_ d9.1|refine below_set ?_ b9.1|refine below_set ?_ e8.1)|exact Z.1)⟩
/-! ### norm_quat_api: function 50 -/
def norm_quat_api.f (a0_0:Int) (a0_1:Int) (a0_2:Int) (a0_3:Int):Option (Int × Int × Int × Int):=some (a0_0,a0_1,a0_2,a0_3)
set_option maxHeartbeats 8000000 in
set_option maxRecDepth 100000 in
theorem norm_quat_api.calls (D:Int) (E:Int) (F:Int) (G:Int) (V:Int) (X:Int) (Y:Int) (Z:Int) (w:World) (h:norm_quat_api.f D E F G=some (V,X,Y,Z)) :
    Calls Try.prog 50 #[.agg #[.int .i64 D,.int .i64 E,.int .i64 F,.int .i64 G]] w fun e w'=>e=.returned (.agg #[.int .i64 V,.int .i64 X,.int .i64 Y,.int .i64 Z])∧Below w.heap.size w w':=by
 have b7:=Try.underlying67;have b8:=Try.underlying23;have J:=mk0 (Below.refl w.heap.size w);have H:(some (D,E,F,G))=some (V,X,Y,Z):=h;clear h;simp only [Option.some.injEq,Prod.mk.injEq] at H;obtain ⟨rfl,rfl,rfl,rfl⟩:=H;go_enter Try.func50,Try.ntmps50;go_wp2_with (first|((with_reducible refine gate_dst (N:=1) rfl ?_);refine box_event ?hg (N:=1) ?hd (cs:=#[.int .i64 D,.int .i64 E,.int .i64 F,.int .i64 G]) (t:=67) ?hr ?_;(case hd=>rfl);(case hg=>rfl);(case hr=>first|(go_simp;done)|(go_simp;rfl));intro b6 hg w2 I hb;have B:=mk0 (I);have O:=szw hg J;have Q:=O;replace J:=bst J hb;clear hb I hg)|((with_reducible refine gate_dst (N:=2) rfl ?_);refine box_event ?hg (N:=2) ?hd (cs:=#[.int .i64 0,.int .i64 0,.int .i64 0,.int .i64 0]) (t:=23) ?hr ?_;(case hd=>rfl);(case hg=>rfl);(case hr=>first|(go_simp;done)|(go_simp;rfl));intro R hg w3 I hb;have C:=mk0 (I);have T:=szw hg J;have U:=T;have L:=nlt hg B;have M:=ngt hg B;replace B:=bkb B hb;replace J:=bst J hb;clear hb I hg;have b9:=L.1;have c0:=M.1;have a0:=q0_ B;have a1:=q1_ B;have a2:=q2_ B;have a3:=q3_ B;have a4:=blk_frozen B.1 0;have a5:=blk_frozen B.1 1;have a6:=blk_frozen B.1 2;have a7:=blk_frozen B.1 3;have a8:=q0_ C;have a9:=q1_ C;have b0:=q2_ C;have b1:=q3_ C;have b2:=blk_frozen C.1 0;have b3:=blk_frozen C.1 1;have b4:=blk_frozen C.1 2;have b5:=blk_frozen C.1 3));refine bodyPost_ret (results_cell_row rfl _ _ R 23 #[.int .i64 D,.int .i64 E,.int .i64 F,.int .i64 G] (0,0) _ rfl (by refine blk_put (cs:=#[.int .i64 D,.int .i64 E,.int .i64 F,.int .i64 0]) ?_ 3 _ rfl;refine blk_put (cs:=#[.int .i64 D,.int .i64 E,.int .i64 0,.int .i64 0]) ?_ 2 _ rfl;refine blk_put (cs:=#[.int .i64 D,.int .i64 0,.int .i64 0,.int .i64 0]) ?_ 1 _ rfl;refine blk_put (cs:=#[.int .i64 0,.int .i64 0,.int .i64 0,.int .i64 0]) ?_ 0 _ rfl;exact C.1) Try.underlying23 rfl (by kernel_rfl)) rfl ?_;exact ⟨by first|rfl|(simp [errW_none,errW_some] <;> rfl)|(simp [*,errW_none,errW_some] <;> rfl),by repeat (first|(with_reducible first|exact J.1|apply below_alloc|apply pw_below_drewN|apply below_drew1|refine below_set ?_ Q.1|refine below_set ?_ U.1)|exact J.1)⟩
end Go.Proofs.Ytgfnmimfoicmmaa.PM
