-- Written by pr2.py, a program of this session's, for this claim (through the kit's print).
import Derived.Test.YtgfnmimfoicmmaaPMx0
import Derived.Test.YtgfnmimfoicmmaaPMx19
import Derived.Test.YtgfnmimfoicmmaaPMx21
import Derived.Test.YtgfnmimfoicmmaaPMx22
import Derived.Test.YtgfnmimfoicmmaaPMx24
import Derived.Test.YtgfnmimfoicmmaaPMx30
import Derived.Test.YtgfnmimfoicmmaaPMx33
import Derived.Test.YtgfnmimfoicmmaaPMx36
namespace Go.Proofs.Ytgfnmimfoicmmaa.PM
open Go.Proofs.MyWords Go.RowKit Go.Proofs.YtgfnmimfoicmmaaW.PrintWords Go.Proofs.YtgfnmimfoicmmaaW.PrintLast Go.Proofs.YtgfnmimfoicmmaaW.PrintMore
attribute [local go_sem] max2_int min2_int max_two min_two max_three min_three max_four min_four   -- for this text's walks alone
set_option linter.unusedVariables false
set_option linter.unusedSimpArgs false

attribute [local go_sem] idx67_0 idx67_1 idx67_2 idx67_3
attribute [local go_sem] eqGuard_slices eqlnil36 neqnil36
/-! ### bellpullref04_Divide: function 20 -/
mutual
def bellpullref04_Divide.l0:Nat → List Int → Int → Int → Bool → Int → Int → Int → Int → Int → Int → Int → Int → Int → Int → Int → Int → Int → Option (Int × Int × Int × Int × Int × Int × Int × Int)
  | 0,_,_,_,_,_,_,_,_,_,_,_,_,_,_,_,_,_=>none
  | k + 1,x6,x7,x9,x10,x11,x816000,x816001,x816002,x816003,x817000,x817001,x817002,x817003,x832000,x832001,x832002,x832003=>if x11 < 2 then (bellpullref04_Divide.l1 k x6 x7 x9 x10 x11 0 x816000 x816001 x816002 x816003 x817000 x817001 x817002 x817003 x832000 x832001 x832002 x832003) else ((bellpullref04_Mul.f x832000 x832001 x832002 x832003 x817000 x817001 x817002 x817003).bind fun bt832=>(some (x832000,x832001,x832002,x832003,wrap64 (x816000 - bt832.1),wrap64 (x816001 - bt832.2.1),wrap64 (x816002 - bt832.2.2.1),wrap64 (x816003 - bt832.2.2.2))))
def bellpullref04_Divide.l1:Nat → List Int → Int → Int → Bool → Int → Int → Int → Int → Int → Int → Int → Int → Int → Int → Int → Int → Int → Int → Option (Int × Int × Int × Int × Int × Int × Int × Int)
  | 0,_,_,_,_,_,_,_,_,_,_,_,_,_,_,_,_,_,_=>none
  | k + 1,x6,x7,x9,x10,x11,x12,x816000,x816001,x816002,x816003,x817000,x817001,x817002,x817003,x832000,x832001,x832002,x832003=>if x12 < 16 then (bellpullref04_Divide.l2 k x6 x7 x9 x10 x11 x12 (([]:List Int)) 0 0 x816000 x816001 x816002 x816003 x817000 x817001 x817002 x817003 x832000 x832001 x832002 x832003) else (bellpullref04_Divide.l0 k x6 x7 x9 x10 (wrap64 (x11 + 1)) x816000 x816001 x816002 x816003 x817000 x817001 x817002 x817003 x832000 x832001 x832002 x832003)
def bellpullref04_Divide.l2:Nat → List Int → Int → Int → Bool → Int → Int → List Int → Int → Int → Int → Int → Int → Int → Int → Int → Int → Int → Int → Int → Int → Int → Option (Int × Int × Int × Int × Int × Int × Int × Int)
  | 0,_,_,_,_,_,_,_,_,_,_,_,_,_,_,_,_,_,_,_,_,_=>none
  | k + 1,x6,x7,x9,x10,x11,x12,x13,x14,x15,x816000,x816001,x816002,x816003,x817000,x817001,x817002,x817003,x832000,x832001,x832002,x832003=>if x15 < 4 then (if 0 ≤ x15 then (if x15 < (x6.length:Int) then ((bellpullref04_below.f k (rd x6 x15) x7 x11).bind fun t841=>(if x13.length < 17592186044416 then (bellpullref04_Divide.l2 k x6 x7 x9 x10 x11 x12 (x13 ++ [wrap64 (t841 + (wrap64 (2 * (Go.bits .and .i64 (shr .i64 x12 x15) 1))))]) (wrap64 (x14 + (wrap64 ((wrap64 ((rd x6 x15) - (wrap64 ((wrap64 (t841 + (wrap64 (2 * (Go.bits .and .i64 (shr .i64 x12 x15) 1))))) * x7)))) * (wrap64 ((rd x6 x15) - (wrap64 ((wrap64 (t841 + (wrap64 (2 * (Go.bits .and .i64 (shr .i64 x12 x15) 1))))) * x7)))))))) (wrap64 (x15 + 1)) x816000 x816001 x816002 x816003 x817000 x817001 x817002 x817003 x832000 x832001 x832002 x832003) else (none))) else (none)) else (none)) else ((bellpullref04_Quat.f x13).bind fun bt847=>(if x10=true then (if x14 < x9 then (bellpullref04_Divide.l1 k x6 x7 x14 true x11 (wrap64 (x12 + 1)) x816000 x816001 x816002 x816003 x817000 x817001 x817002 x817003 bt847.1 bt847.2.1 bt847.2.2.1 bt847.2.2.2) else (if x14=x9 then ((bellpullref04_Less.f k bt847.1 bt847.2.1 bt847.2.2.1 bt847.2.2.2 x832000 x832001 x832002 x832003).bind fun t852=>(if t852=true then (bellpullref04_Divide.l1 k x6 x7 x14 true x11 (wrap64 (x12 + 1)) x816000 x816001 x816002 x816003 x817000 x817001 x817002 x817003 bt847.1 bt847.2.1 bt847.2.2.1 bt847.2.2.2) else (bellpullref04_Divide.l1 k x6 x7 x9 x10 x11 (wrap64 (x12 + 1)) x816000 x816001 x816002 x816003 x817000 x817001 x817002 x817003 x832000 x832001 x832002 x832003))) else (bellpullref04_Divide.l1 k x6 x7 x9 x10 x11 (wrap64 (x12 + 1)) x816000 x816001 x816002 x816003 x817000 x817001 x817002 x817003 x832000 x832001 x832002 x832003))) else (bellpullref04_Divide.l1 k x6 x7 x14 true x11 (wrap64 (x12 + 1)) x816000 x816001 x816002 x816003 x817000 x817001 x817002 x817003 bt847.1 bt847.2.1 bt847.2.2.1 bt847.2.2.2)))
end
def bellpullref04_Divide.f (k:Nat) (a0_0:Int) (a0_1:Int) (a0_2:Int) (a0_3:Int) (a1_0:Int) (a1_1:Int) (a1_2:Int) (a1_3:Int):Option (Int × Int × Int × Int × Int × Int × Int × Int):=(bellpullref04_Conj.f a1_0 a1_1 a1_2 a1_3).bind fun bt819=>((bellpullref04_Mul.f a0_0 a0_1 a0_2 a0_3 bt819.1 bt819.2.1 bt819.2.2.1 bt819.2.2.2).bind fun bt823=>((bellpullref04_Parts.f bt823.1 bt823.2.1 bt823.2.2.1 bt823.2.2.2).bind fun t827=>((bellpullref04_Norm.f a1_0 a1_1 a1_2 a1_3).bind fun t830=>(bellpullref04_Divide.l0 k t827 t830 0 false 0 a0_0 a0_1 a0_2 a0_3 a1_0 a1_1 a1_2 a1_3 0 0 0 0))))
theorem bellpullref04_Divide.mono_l:∀ k,(∀ J L M N O Q R T U V B C D E F G I,LeO (bellpullref04_Divide.l0 k J L M N O Q R T U V B C D E F G I) (bellpullref04_Divide.l0 (k + 1) J L M N O Q R T U V B C D E F G I))∧(∀ J L M N O Q R T U V B C D E F G I X,LeO (bellpullref04_Divide.l1 k J L M N O Q R T U V B C D E F G I X) (bellpullref04_Divide.l1 (k + 1) J L M N O Q R T U V B C D E F G I X))∧(∀ J L M N O Q R T U V B C D E F G I X Y Z a0,LeO (bellpullref04_Divide.l2 k J L M N O Q R T U V B C D E F G I X Y Z a0) (bellpullref04_Divide.l2 (k + 1) J L M N O Q R T U V B C D E F G I X Y Z a0))
  | 0=>⟨fun _ _ _ _ _ _ _ _ _ _ _ _ _ _ _ _ _ r h=>by simp [bellpullref04_Divide.l0] at h,fun _ _ _ _ _ _ _ _ _ _ _ _ _ _ _ _ _ _ r h=>by simp [bellpullref04_Divide.l1] at h,fun _ _ _ _ _ _ _ _ _ _ _ _ _ _ _ _ _ _ _ _ _ r h=>by simp [bellpullref04_Divide.l2] at h⟩
  | k + 1=>by
    obtain ⟨a1,a2,a3⟩:=bellpullref04_Divide.mono_l k
    refine ⟨?_,?_,?_⟩
    · intro J L M N O Q R T U V B C D E F G I
      unfold bellpullref04_Divide.l0
      with_reducible repeat' first|exact a1 _ _ _ _ _ _ _ _ _ _ _ _ _ _ _ _ _|exact a2 _ _ _ _ _ _ _ _ _ _ _ _ _ _ _ _ _ _|exact a3 _ _ _ _ _ _ _ _ _ _ _ _ _ _ _ _ _ _ _ _ _|exact bellpullref04_Less.mono _ _ _ _ _ _ _ _ _|exact bellpullref04_below.mono _ _ _ _|exact LeO.refl _|exact LeO.none _|refine LeO.ite ?_ ?_|refine LeO.bind ?_ (fun _=>?_)
    · intro J L M N O Q R T U V B C D E F G I X
      unfold bellpullref04_Divide.l1
      with_reducible repeat' first|exact a1 _ _ _ _ _ _ _ _ _ _ _ _ _ _ _ _ _|exact a2 _ _ _ _ _ _ _ _ _ _ _ _ _ _ _ _ _ _|exact a3 _ _ _ _ _ _ _ _ _ _ _ _ _ _ _ _ _ _ _ _ _|exact bellpullref04_Less.mono _ _ _ _ _ _ _ _ _|exact bellpullref04_below.mono _ _ _ _|exact LeO.refl _|exact LeO.none _|refine LeO.ite ?_ ?_|refine LeO.bind ?_ (fun _=>?_)
    · intro J L M N O Q R T U V B C D E F G I X Y Z a0
      unfold bellpullref04_Divide.l2
      with_reducible repeat' first|exact a1 _ _ _ _ _ _ _ _ _ _ _ _ _ _ _ _ _|exact a2 _ _ _ _ _ _ _ _ _ _ _ _ _ _ _ _ _ _|exact a3 _ _ _ _ _ _ _ _ _ _ _ _ _ _ _ _ _ _ _ _ _|exact bellpullref04_Less.mono _ _ _ _ _ _ _ _ _|exact bellpullref04_below.mono _ _ _ _|exact LeO.refl _|exact LeO.none _|refine LeO.ite ?_ ?_|refine LeO.bind ?_ (fun _=>?_)
theorem bellpullref04_Divide.mono:∀ a0 a1 a2 a3 a4 a5 a6 a7 k,LeO (bellpullref04_Divide.f k a0 a1 a2 a3 a4 a5 a6 a7) (bellpullref04_Divide.f (k + 1) a0 a1 a2 a3 a4 a5 a6 a7):=by
  intro a0 a1 a2 a3 a4 a5 a6 a7 k
  obtain ⟨ih0,ih1,ih2⟩:=bellpullref04_Divide.mono_l k
  unfold bellpullref04_Divide.f
  with_reducible repeat' first|exact ih0 _ _ _ _ _ _ _ _ _ _ _ _ _ _ _ _ _|exact ih1 _ _ _ _ _ _ _ _ _ _ _ _ _ _ _ _ _ _|exact ih2 _ _ _ _ _ _ _ _ _ _ _ _ _ _ _ _ _ _ _ _ _|exact bellpullref04_Less.mono _ _ _ _ _ _ _ _ _|exact bellpullref04_below.mono _ _ _ _|exact LeO.refl _|exact LeO.none _|refine LeO.ite ?_ ?_|refine LeO.bind ?_ (fun _=>?_)
def bellpullref04_Divide.T1:Bool × List (List Nat × List Nat):=(true,[([],[]),([],[]),([1],[1]),([0,2,2],[0,2]),([3,3],[3]),([],[]),([5,4],[5]),([4,6,0,1,2,3,4],[4]),([6,7,0,1,2,3,4,5,6,7],[6])])
def bellpullref04_Divide.B1:List Nat:=[0,0,2,7,15,0,63,127,255]
theorem bellpullref04_Divide.tab1:rtab .any (opsOf Try.f20 1)=bellpullref04_Divide.T1:=by kernel_rfl
theorem bellpullref04_Divide.bits1:waitsOk bellpullref04_Divide.T1.2 bellpullref04_Divide.B1=true:=by kernel_rfl
def bellpullref04_Divide.T13:Bool × List (List Nat × List Nat):=(true,[([],[]),([],[]),([0,1],[0,1]),([2],[2]),([],[]),([],[]),([3,4,5],[3,4,5]),([],[]),([],[]),([7,8],[7,8]),([9],[9]),([10],[10]),([6,11],[6,11]),([12,6,0,1,2,3,4,5,6,7,8,9,10,11,12],[12])])
def bellpullref04_Divide.B13:List Nat:=[0,0,3,7,0,0,63,0,0,384,896,1920,4095,8191]
theorem bellpullref04_Divide.tab13:rtab .any (opsOf Try.f20 13)=bellpullref04_Divide.T13:=by kernel_rfl
theorem bellpullref04_Divide.bits13:waitsOk bellpullref04_Divide.T13.2 bellpullref04_Divide.B13=true:=by kernel_rfl
def bellpullref04_Divide.T15:Bool × List (List Nat × List Nat):=(true,[([],[]),([],[]),([],[]),([1,2],[1,2]),([3],[3]),([],[]),([],[]),([5,6],[5,6]),([4,7],[4,7]),([],[]),([],[]),([9,10],[9,10]),([11],[11]),([],[]),([],[]),([13,14],[13,14]),([12,15],[12,15]),([8,16],[8,16]),([0,17],[0,17]),([18,0,1,2,3,4,5,6,7,8,9,10,11,12,13,14,15,16,17,18],[0,18])])
def bellpullref04_Divide.B15:List Nat:=[0,0,0,6,14,0,0,96,254,0,0,1536,3584,0,0,24576,65024,131070,262143,524287]
theorem bellpullref04_Divide.tab15:rtab .any (opsOf Try.f20 15)=bellpullref04_Divide.T15:=by kernel_rfl
theorem bellpullref04_Divide.bits15:waitsOk bellpullref04_Divide.T15.2 bellpullref04_Divide.B15=true:=by kernel_rfl
def bellpullref04_Divide.T20:Bool × List (List Nat × List Nat):=(true,[([],[]),([],[]),([1],[1]),([],[]),([3],[3]),([2,4],[2,4]),([],[]),([6],[6]),([],[]),([8],[8]),([7,9],[7,9]),([],[]),([11],[11]),([],[]),([13],[13]),([12,14],[12,14]),([],[]),([16],[16]),([],[]),([18],[18]),([17,19],[17,19]),([5,10,15,20],[5,10,15,20]),([0,0],[0]),([21,22,0,1,2,3,4,5,6,7,8,9,10,11,12,13,14,15,16,17,18,19,20,21,22],[21])])
def bellpullref04_Divide.B20:List Nat:=[0,0,2,0,8,30,0,64,0,256,960,0,2048,0,8192,30720,0,65536,0,262144,983040,2097150,1,8388607]
theorem bellpullref04_Divide.tab20:rtab .any (opsOf Try.f20 20)=bellpullref04_Divide.T20:=by kernel_rfl
theorem bellpullref04_Divide.bits20:waitsOk bellpullref04_Divide.T20.2 bellpullref04_Divide.B20=true:=by kernel_rfl
set_option maxHeartbeats 8000000 in
set_option maxRecDepth 100000 in
theorem bellpullref04_Divide.calls (k:Nat) (b2:Int) (c8:Int) (d2:Int) (d3:Int) (b3:Int) (b4:Int) (b5:Int) (b6:Int) (r1:Int) (r2:Int) (r3:Int) (r4:Int) (r5:Int) (r6:Int) (r7:Int) (r8:Int) (w:World) (h:bellpullref04_Divide.f k b2 c8 d2 d3 b3 b4 b5 b6=some (r1,r2,r3,r4,r5,r6,r7,r8)) :
    Calls Try.prog 20 #[.agg #[.int .i64 b2,.int .i64 c8,.int .i64 d2,.int .i64 d3],.agg #[.int .i64 b3,.int .i64 b4,.int .i64 b5,.int .i64 b6]] w fun e w'=>e=.returned (.tuple #[.agg #[.int .i64 r1,.int .i64 r2,.int .i64 r3,.int .i64 r4],.agg #[.int .i64 r5,.int .i64 r6,.int .i64 r7,.int .i64 r8]])∧Below w.heap.size w w':=by
 have Em:=Try.underlying23;have HB:=mk0 (Below.refl w.heap.size w);have H:((bellpullref04_Conj.f b3 b4 b5 b6).bind fun m8=>((bellpullref04_Mul.f b2 c8 d2 d3 m8.1 m8.2.1 m8.2.2.1 m8.2.2.2).bind fun m9=>((bellpullref04_Parts.f m9.1 m9.2.1 m9.2.2.1 m9.2.2.2).bind fun a9=>((bellpullref04_Norm.f b3 b4 b5 b6).bind fun d9=>(bellpullref04_Divide.l0 k a9 d9 0 false 0 b2 c8 d2 d3 b3 b4 b5 b6 0 0 0 0)))))=some (r1,r2,r3,r4,r5,r6,r7,r8):=h;clear h;replace H:=Option.bind_eq_some_iff.mp H;obtain ⟨⟨p4,p5,p6,p7⟩,x0,H⟩:=H;(try dsimp only at H);have A3:=mk0 x0;clear x0;replace H:=Option.bind_eq_some_iff.mp H;obtain ⟨⟨p8,p9,q0,q1⟩,x1,H⟩:=H;(try dsimp only at H);have A4:=mk0 x1;clear x1;replace H:=Option.bind_eq_some_iff.mp H;obtain ⟨a9,x2,H⟩:=H;(try dsimp only at H);have A5:=mk0 x2;clear x2;replace H:=Option.bind_eq_some_iff.mp H;obtain ⟨d9,x3,H⟩:=H;(try dsimp only at H);have A6:=mk0 x3;clear x3;have H':=mk0 H;clear H;go_enter Try.func20,Try.ntmps20;try go_wp2_with (first|((with_reducible refine gate_dst (N:=2) rfl ?_);refine box_event ?hg (N:=2) ?hd (cs:=#[.int .i64 b2,.int .i64 c8,.int .i64 d2,.int .i64 d3]) (t:=23) ?hr ?_;(case hd=>rfl);(case hg=>rfl);(case hr=>first|(go_simp;done)|(go_simp;rfl));intro g0 hg w7 c9 hb;have C:=mk0 (c9);have u7:=szw hg HB;have f4:=u7;replace HB:=bst HB hb;clear hb c9 hg)|((with_reducible refine gate_dst (N:=3) rfl ?_);refine box_event ?hg (N:=3) ?hd (cs:=#[.int .i64 b3,.int .i64 b4,.int .i64 b5,.int .i64 b6]) (t:=23) ?hr ?_;(case hd=>rfl);(case hg=>rfl);(case hr=>first|(go_simp;done)|(go_simp;rfl));intro g7 hg w8 c9 hb;have D:=mk0 (c9);have u8:=szw hg HB;have f5:=u8;have o5:=nlt hg C;have o6:=ngt hg C;replace C:=bkb C hb;replace HB:=bst HB hb;clear hb c9 hg)|((with_reducible refine gate_dst (N:=4) rfl ?_);refine box_event ?hg (N:=4) ?hd (cs:=#[.int .i64 0,.int .i64 0,.int .i64 0,.int .i64 0]) (t:=23) ?hr ?_;(case hd=>rfl);(case hg=>rfl);(case hr=>first|(go_simp;done)|(go_simp;rfl));intro J hg w9 c9 hb;have E:=mk0 (c9);have u9:=szw hg HB;have f6:=u9;have a5:=nlt hg C;have h9:=ngt hg C;have h1:=nlt hg D;have h2:=ngt hg D;replace C:=bkb C hb;replace D:=bkb D hb;replace HB:=bst HB hb;clear hb c9 hg)|((with_reducible refine gate_dst (N:=5) rfl ?_);refine box_event ?hg (N:=5) ?hd (cs:=#[.int .i64 0,.int .i64 0,.int .i64 0,.int .i64 0]) (t:=23) ?hr ?_;(case hd=>rfl);(case hg=>rfl);(case hr=>first|(go_simp;done)|(go_simp;rfl));intro L hg X7 c9 hb;have F:=mk0 (c9);have v0:=szw hg HB;have f7:=v0;have a6:=nlt hg C;have i0:=ngt hg C;have h3:=nlt hg D;have h4:=ngt hg D;have e6:=nlt hg E;have e7:=ngt hg E;replace C:=bkb C hb;replace D:=bkb D hb;replace E:=bkb E hb;replace HB:=bst HB hb;clear hb c9 hg))
 replace C:=bdr C;replace D:=bdr D;replace E:=bdr E;replace F:=bdr F;replace HB:=hdr HB;refine start_ (n:=9) (S:=fun w'=>w'.cell? ⟨g0,0,none⟩=some (.int .i64 b2)∧w'.cell? ⟨g0,1,none⟩=some (.int .i64 c8)∧w'.cell? ⟨g0,2,none⟩=some (.int .i64 d2)∧w'.cell? ⟨g0,3,none⟩=some (.int .i64 d3)∧w'.cell? ⟨g7,0,none⟩=some (.int .i64 b3)∧w'.cell? ⟨g7,1,none⟩=some (.int .i64 b4)∧w'.cell? ⟨g7,2,none⟩=some (.int .i64 b5)∧w'.cell? ⟨g7,3,none⟩=some (.int .i64 b6)) (ds:=[]) #[n_,n_,n_,n_,n_,n_,n_,n_,n_] (by kernel_rfl) rfl rfl ⟨q0_ C,q1_ C,q2_ C,q3_ C,q0_ D,q1_ D,q2_ D,q3_ D⟩ (fun M=>?_);refine with_tabW bellpullref04_Divide.tab1 bellpullref04_Divide.bits1 (fun Z h0=>?_);generalize X7.drew=Ex at C D E F HB M ⊢;refine take_ (i:=0) (N:=some 19) (v:=?_) (a':=?_) #[y_,n_,n_,n_,n_,n_,n_,n_,n_] rfl rfl (take_ofW Z.1 h0.1 (by kernel_rfl)) (fun _ _ _ h=>h) (Or.inl ⟨by rfl,?_⟩) M ?_ ?_;rotate_left
 ·
  rintro w' ⟨s0,s1,s2,s3,s4,s5,s6,s7⟩;go_simp;with_reducible rfl
 rotate_left
 ·
  simp only [Act.put,s0_,s1_,s2_,i64_w,i32_w];rfl
 refine take_ (i:=1) (N:=some 20) (v:=?_) (a':=?_) #[y_,y_,n_,n_,n_,n_,n_,n_,n_] rfl rfl (take_ofW Z.1 h0.1 (by kernel_rfl)) (fun _ _ _ h=>h) (Or.inl ⟨by rfl,?_⟩) M ?_ ?_;rotate_left
 ·
  rintro w' ⟨s0,s1,s2,s3,s4,s5,s6,s7⟩;go_simp;with_reducible rfl
 rotate_left
 ·
  simp only [Act.put,s0_,s1_,s2_,i64_w,i32_w];rfl
 refine take_ (i:=5) (N:=some 24) (v:=?_) (a':=?_) #[y_,y_,n_,n_,n_,y_,n_,n_,n_] rfl rfl (take_ofW Z.1 h0.1 (by kernel_rfl)) (fun _ _ _ h=>h) (Or.inl ⟨by rfl,?_⟩) M ?_ ?_;rotate_left
 ·
  rintro w' ⟨s0,s1,s2,s3,s4,s5,s6,s7⟩;go_simp;with_reducible rfl
 rotate_left
 ·
  simp only [Act.put,s0_,s1_,s2_,i64_w,i32_w];rfl
 refine one_ (i:=2) (N:=some 21) #[y_,y_,y_,n_,n_,y_,n_,n_,n_] rfl rfl (one_of Z.1 (by kernel_rfl)) (by decide) (fun K hK=>?_);refine goes_ Try.func41 (by kernel_rfl) rfl #[.agg #[.int .i64 b3,.int .i64 b4,.int .i64 b5,.int .i64 b6]] (by rfl) rfl rfl (by (try simp only [m0_,m1_,m2_]);first|done|rfl|(simp only [l0_,l1_];rfl)) ?_;with_reducible refine (bellpullref04_Conj.calls b3 b4 b5 b6 p4 p5 p6 p7 _ A3.1).mono ?_
 rintro e Ey ⟨rfl,hb⟩;refine ⟨_,rfl,?_⟩;replace C:=bkb C hb;replace D:=bkb D hb;replace E:=bkb E hb;replace F:=bkb F hb;replace HB:=bst HB hb;(try clear hb);refine hK.out _ _ ⟨q0_ C,q1_ C,q2_ C,q3_ C,q0_ D,q1_ D,q2_ D,q3_ D⟩ (fun M=>?_);clear hK K;refine norm_ (a':=?_) ?_ ?_;rotate_left
 ·
  show Act.put _ (some 21) _=_;simp only [Act.put,s0_,s1_,s2_,i64_w,i32_w];rfl
 refine one_ (i:=3) (N:=some 22) #[y_,y_,y_,y_,n_,y_,n_,n_,n_] rfl rfl (one_of Z.1 (by kernel_rfl)) (by decide) (fun K hK=>?_);refine goes_ Try.func33 (by kernel_rfl) rfl #[.agg #[.int .i64 b2,.int .i64 c8,.int .i64 d2,.int .i64 d3],.agg #[.int .i64 p4,.int .i64 p5,.int .i64 p6,.int .i64 p7]] (by rfl) rfl rfl (by (try simp only [m0_,m1_,m2_]);first|done|rfl|(simp only [l0_,l1_];rfl)) ?_;with_reducible refine (bellpullref04_Mul.calls b2 c8 d2 d3 p4 p5 p6 p7 p8 p9 q0 q1 _ A4.1).mono ?_
 rintro e Ez ⟨rfl,hb⟩;refine ⟨_,rfl,?_⟩;replace C:=bkb C hb;replace D:=bkb D hb;replace E:=bkb E hb;replace F:=bkb F hb;replace HB:=bst HB hb;(try clear hb);refine hK.out _ _ ⟨q0_ C,q1_ C,q2_ C,q3_ C,q0_ D,q1_ D,q2_ D,q3_ D⟩ (fun M=>?_);clear hK K;refine norm_ (a':=?_) ?_ ?_;rotate_left
 ·
  show Act.put _ (some 22) _=_;simp only [Act.put,s0_,s1_,s2_,i64_w,i32_w];rfl
 refine one_ (i:=4) (N:=some 23) #[y_,y_,y_,y_,y_,y_,n_,n_,n_] rfl rfl (one_of Z.1 (by kernel_rfl)) (by decide) (fun K hK=>?_);refine goes_ Try.func45 (by kernel_rfl) rfl #[.agg #[.int .i64 p8,.int .i64 p9,.int .i64 q0,.int .i64 q1]] (by rfl) rfl rfl (by (try simp only [m0_,m1_,m2_]);first|done|rfl|(simp only [l0_,l1_];rfl)) ?_;with_reducible refine (bellpullref04_Parts.calls p8 p9 q0 q1 a9 _ A5.1).mono ?_
 rintro e Fa ⟨n8,rfl,x4,hb⟩;refine ⟨_,rfl,?_⟩;have i9:=mk0 (Kd.R_lower x4 (below_size HB.1));replace C:=bkb C hb;replace D:=bkb D hb;replace E:=bkb E hb;replace F:=bkb F hb;replace HB:=bst HB hb;(try clear hb);(try clear x4);refine hK.out _ _ ⟨q0_ C,q1_ C,q2_ C,q3_ C,q0_ D,q1_ D,q2_ D,q3_ D⟩ (fun M=>?_);clear hK K;refine norm_ (a':=?_) ?_ ?_;rotate_left
 ·
  show Act.put _ (some 23) _=_;simp only [Act.put,s0_,s1_,s2_,i64_w,i32_w];rfl
 refine one_ (i:=6) (N:=some 25) #[y_,y_,y_,y_,y_,y_,y_,n_,n_] rfl rfl (one_of Z.1 (by kernel_rfl)) (by decide) (fun K hK=>?_);refine goes_ Try.func34 (by kernel_rfl) rfl #[.agg #[.int .i64 b3,.int .i64 b4,.int .i64 b5,.int .i64 b6]] (by rfl) rfl rfl (by (try simp only [m0_,m1_,m2_]);first|done|rfl|(simp only [l0_,l1_];rfl)) ?_;with_reducible refine (bellpullref04_Norm.calls b3 b4 b5 b6 d9 _ A6.1).mono ?_
 rintro e Fb ⟨rfl,hb⟩;refine ⟨_,rfl,?_⟩;replace i9:=rbl i9 hb;replace C:=bkb C hb;replace D:=bkb D hb;replace E:=bkb E hb;replace F:=bkb F hb;replace HB:=bst HB hb;(try clear hb);refine hK.out _ _ ⟨q0_ C,q1_ C,q2_ C,q3_ C,q0_ D,q1_ D,q2_ D,q3_ D⟩ (fun M=>?_);clear hK K;refine norm_ (a':=?_) ?_ ?_;rotate_left
 ·
  show Act.put _ (some 25) _=_;simp only [Act.put,s0_,s1_,s2_,i64_w,i32_w];rfl
 refine pure_ (i:=7) (N:=some 6) (v:=?_) (a':=?_) #[y_,y_,y_,y_,y_,y_,y_,y_,n_] rfl rfl (any_of Z.1 (by kernel_rfl)) (fun _ _ _ h=>h) (Or.inl ⟨by rfl,?_⟩) ?_ ?_;rotate_left
 ·
  intro w';go_simp;with_reducible rfl
 rotate_left
 ·
  simp only [Act.put,s0_,s1_,s2_,i64_w,i32_w];rfl
 refine pure_ (i:=8) (N:=some 7) (v:=?_) (a':=?_) #[y_,y_,y_,y_,y_,y_,y_,y_,y_] rfl rfl (any_of Z.1 (by kernel_rfl)) (fun _ _ _ h=>h) (Or.inl ⟨by rfl,?_⟩) ?_ ?_;rotate_left
 ·
  intro w';go_simp;with_reducible rfl
 rotate_left
 ·
  simp only [Act.put,s0_,s1_,s2_,i64_w,i32_w];rfl
 refine done_ (done_of Z.1 (by kernel_rfl)) ?_;try go_wp2_with (first|((with_reducible refine gate_dst (N:=8) rfl ?_);refine box_event ?hg (N:=8) ?hd (cs:=#[.int .i64 0,.int .i64 0,.int .i64 0,.int .i64 0]) (t:=23) ?hr ?_;(case hd=>rfl);(case hg=>rfl);(case hr=>first|(go_simp;done)|(go_simp;rfl));intro b1 hg Fc c9 hb;have B:=mk0 (c9);have v1:=szw hg HB;have f8:=v1;have e1:=nlt hg C;have g3:=ngt hg C;have e2:=nlt hg D;have g4:=ngt hg D;have b7:=nlt hg E;have U:=ngt hg E;have b8:=nlt hg F;have V:=ngt hg F;replace i9:=rbl i9 hb;replace C:=bkb C hb;replace D:=bkb D hb;replace E:=bkb E hb;replace F:=bkb F hb;replace HB:=bst HB hb;clear hb c9 hg;have Bk:=g3.1;have Bl:=e1.1;have Bm:=g4.1;have Bn:=e2.1;have Bo:=U.1;have Bp:=b7.1;have Bq:=V.1;have Br:=b8.1;have l4:=q0_ B;have l5:=q1_ B;have l6:=q2_ B;have l7:=q3_ B;have l8:=blk_frozen B.1 0;have l9:=blk_frozen B.1 1;have m0:=blk_frozen B.1 2;have m1:=blk_frozen B.1 3))
 go_loopg [9,10,11] k (fun kq v9 t2 X8 w'=>∃ (o4:Int) (n0:Bool) (d7:Int) (d5:Int) (d8:Int) (e3:Int) (e8:Int),v9=.int .i64 o4∧t2=.bool n0∧X8=.int .i64 d7∧Aside0 (bellpullref04_Divide.l0 kq a9 d9 o4 n0 d7 b2 c8 d2 d3 b3 b4 b5 b6 d5 d8 e3 e8=some (r1,r2,r3,r4,r5,r6,r7,r8))∧Aside0 (kq ≤ k)∧Aside0 (Kd.R (Kd.int .i64) 3 w' w.heap.size (fun _=>True) n8 a9)∧Aside0 (Q4_ w' g0 b2 c8 d2 d3 23)∧Aside0 (Q4_ w' g7 b3 b4 b5 b6 23)∧Aside0 (Q4_ w' J 0 0 0 0 23)∧Aside0 (Q4_ w' L 0 0 0 0 23)∧Aside0 (Q4_ w' b1 d5 d8 e3 e8 23)∧Aside0 (Below w.heap.size w w'))
 case atStart=>exact ⟨(0),(false),(0),(0),(0),(0),(0),(by first|rfl|(simp;done)|(simp [*];done)),(by first|rfl|(simp;done)|(simp [*];done)),(by first|rfl|(simp;done)|(simp [*];done)),H',⟨Nat.le_refl _⟩,⟨by (with_reducible repeat (first|apply Kd.R_alloc|apply Kd.R_drewN|apply Kd.R_drew));exact Kd.R_mono (Kd.R_far (p:=⟨b1,3,none⟩) (Kd.R_far (p:=⟨b1,2,none⟩) (Kd.R_far (p:=⟨b1,1,none⟩) (Kd.R_far (p:=⟨b1,0,none⟩) (Kd.R_types i9.1 B.1 (by decide)) (fun _ hk=>hk.2) (.int .i64 0)) (fun _ hk=>hk.2) (.int .i64 0)) (fun _ hk=>hk.2) (.int .i64 0)) (fun _ hk=>hk.2) (.int .i64 0)) (fun _ hk=>trivial)⟩,⟨by (iterate 4 refine blk_far ?_ e1.1 _);exact C.1⟩,⟨by (iterate 4 refine blk_far ?_ e2.1 _);exact D.1⟩,⟨by (iterate 4 refine blk_far ?_ b7.1 _);exact E.1⟩,⟨by (iterate 4 refine blk_far ?_ b8.1 _);exact F.1⟩,⟨by refine blk_put (cs:=#[.int .i64 0,.int .i64 0,.int .i64 0,.int .i64 0]) ?_ 3 _ rfl;refine blk_put (cs:=#[.int .i64 0,.int .i64 0,.int .i64 0,.int .i64 0]) ?_ 2 _ rfl;refine blk_put (cs:=#[.int .i64 0,.int .i64 0,.int .i64 0,.int .i64 0]) ?_ 1 _ rfl;refine blk_put (cs:=#[.int .i64 0,.int .i64 0,.int .i64 0,.int .i64 0]) ?_ 0 _ rfl;exact B.1⟩,⟨by repeat (first|(with_reducible first|exact HB.1|apply below_alloc|apply pw_below_drewN|apply below_drew1|refine below_set ?_ f4.1|refine below_set ?_ f5.1|refine below_set ?_ f6.1|refine below_set ?_ f7.1|refine below_set ?_ f8.1)|exact HB.1)⟩⟩
 case round =>
  clear H';try clear c1
  try clear c2
  try clear p2
  try clear c3
  try clear c4
  try clear c17
  try clear c18
  try clear c19
  try clear c20
  try clear l4
  try clear l5
  try clear l6
  try clear l7
  try clear l8
  try clear l9
  try clear m0
  try clear m1
  obtain ⟨o4,n0,d7,d5,d8,e3,e8,rfl,rfl,rfl,HA,i1,T,C,D,E,F,B,HB⟩:=hrel;cases gk with
  | zero=>exact absurd HA.1 (by simp [bellpullref04_Divide.l0])
  | succ k1 =>
   have H:=HA.1;clear HA;simp only [bellpullref04_Divide.l0] at H
   by_cases c22:d7 < 2
   ·
    rw [if_pos c22] at H;have c22b0:decide (d7 < 2)=true:=decide_eq_true c22;clear c22;have H':=mk0 H;clear H;go_wp2
    go_loopg [9,10,12] k1 (fun kq v9 t2 X9 w'=>∃ (e4:Int) (h6:Bool) (d1:Int) (a1:Int) (X:Int) (O:Int) (I:Int),v9=.int .i64 e4∧t2=.bool h6∧X9=.int .i64 d1∧Aside0 (bellpullref04_Divide.l1 kq a9 d9 e4 h6 d7 d1 b2 c8 d2 d3 b3 b4 b5 b6 a1 X O I=some (r1,r2,r3,r4,r5,r6,r7,r8))∧Aside0 (kq ≤ k1)∧Aside0 (Kd.R (Kd.int .i64) 3 w' w.heap.size (fun _=>True) n8 a9)∧Aside0 (Q4_ w' g0 b2 c8 d2 d3 23)∧Aside0 (Q4_ w' g7 b3 b4 b5 b6 23)∧Aside0 (Q4_ w' J 0 0 0 0 23)∧Aside0 (Q4_ w' L 0 0 0 0 23)∧Aside0 (Q4_ w' b1 a1 X O I 23)∧Aside0 (Below w.heap.size w w'))
    case atStart=>exact ⟨(o4),(n0),(0),(d5),(d8),(e3),(e8),(by first|rfl|(simp;done)|(simp [*];done)),(by first|rfl|(simp;done)|(simp [*];done)),(by first|rfl|(simp;done)|(simp [*];done)),H',⟨Nat.le_refl _⟩,⟨by (with_reducible repeat (first|apply Kd.R_alloc|apply Kd.R_drewN|apply Kd.R_drew));exact T.1⟩,⟨by exact C.1⟩,⟨by exact D.1⟩,⟨by exact E.1⟩,⟨by exact F.1⟩,⟨by exact B.1⟩,⟨by repeat (first|(with_reducible first|exact HB.1|apply below_alloc|apply pw_below_drewN|apply below_drew1|refine below_set ?_ f4.1|refine below_set ?_ f5.1|refine below_set ?_ f6.1|refine below_set ?_ f7.1|refine below_set ?_ f8.1)|exact HB.1)⟩⟩
    case round =>
     clear H';try clear c1
     try clear c2
     try clear p2
     try clear c3
     try clear c4
     try clear c17
     try clear c18
     try clear c19
     try clear c20
     try clear c22
     try clear c22b0
     try clear l4
     try clear l5
     try clear l6
     try clear l7
     try clear l8
     try clear l9
     try clear m0
     try clear m1
     try clear p2
     obtain ⟨e4,h6,d1,a1,X,O,I,rfl,rfl,rfl,HA,i2,T,C,D,E,F,B,HB⟩:=hrel;cases gk with
     | zero=>exact absurd HA.1 (by simp [bellpullref04_Divide.l1])
     | succ k2 =>
      have H:=HA.1;clear HA;simp only [bellpullref04_Divide.l1] at H
      by_cases c23:d1 < 16
      ·
       rw [if_pos c23] at H;have c23b0:decide (d1 < 16)=true:=decide_eq_true c23;clear c23;obtain ⟨t3,j0⟩:∃ y_:List Int,y_=(([]:List Int)):=⟨_,rfl⟩
       replace H:(bellpullref04_Divide.l2 k2 a9 d9 e4 h6 d7 d1 t3 0 0 b2 c8 d2 d3 b3 b4 b5 b6 a1 X O I)=some (r1,r2,r3,r4,r5,r6,r7,r8):=by first|(rw [j0];with_reducible exact H)|(have n9:=(Option.bind_some _ _).symm.trans H;rw [j0];with_reducible exact n9)|(have n9:=(Option.bind_some _ _).symm.trans H;with_reducible exact n9)|with_reducible exact H|(rw [j0];exact H)|exact H
       have q9:=mk0 j0;clear j0;have H':=mk0 H;clear H;go_wp2_with (first|((with_reducible refine gate_dst (N:=35) rfl ?_);refine Kd.R_lit (Kd.int .i64) _ 3 ?hg (N:=35) ?hd (xs:=([]:List Int)) (inner:=[]) (ok:=fun _=>True) (okp:=fun _=>True) ?hr ?hp (fun _ hk=>hk) trivial (Below.refl _ _) (Nat.le_refl _) (by simp) ?_;(case hd=>rfl);(case hg=>rfl);(case hr=>first|(go_simp;done)|(go_simp;rfl));(case hp=>exact (Reps.none _ _));intro Er Fd m2 hb hg_ v2;clear hg_ v2;(first|rw [← q9.1] at m2|(simp only [Int.reduceToNat] at m2;rw [← q9.1] at m2));have v3:=mk0 (Kd.R_lower (Kd.R_new' m2 (Kd.R_lt T.1)) (below_size HB.1));replace T:=mk0 (Kd.R_elder' T.1 (Kd.R_base m2) hb);replace C:=bkb C hb;replace D:=bkb D hb;replace E:=bkb E hb;replace F:=bkb F hb;replace B:=bkb B hb;replace HB:=bst HB hb;clear hb m2))
       go_loopg [13,14,15] k2 (fun kq x5 Y0 Y1 w'=>∃ (e5:List Int) (d4:Int) (a2:Int),Y0=.int .i64 d4∧Y1=.int .i64 a2∧Aside0 (bellpullref04_Divide.l2 kq a9 d9 e4 h6 d7 d1 e5 d4 a2 b2 c8 d2 d3 b3 b4 b5 b6 a1 X O I=some (r1,r2,r3,r4,r5,r6,r7,r8))∧Aside0 (kq ≤ k2)∧Aside0 (Kd.R (Kd.int .i64) 3 w' w.heap.size (fun k_=>some k_ ≠ (x5:Value).ownBlock) n8 a9)∧Aside0 (Kd.R (Kd.int .i64) 3 w' w.heap.size (fun k_=>some k_ ≠ (n8:Value).ownBlock) x5 e5)∧Aside0 (Q4_ w' g0 b2 c8 d2 d3 23)∧Aside0 (Q4_ w' g7 b3 b4 b5 b6 23)∧Aside0 (Q4_ w' J 0 0 0 0 23)∧Aside0 (Q4_ w' L 0 0 0 0 23)∧Aside0 (Q4_ w' b1 a1 X O I 23)∧Aside0 (Below w.heap.size w w'))
       case atStart=>exact ⟨(t3),(0),(0),(by first|rfl|(simp;done)|(simp [*];done)),(by first|rfl|(simp;done)|(simp [*];done)),H',⟨Nat.le_refl _⟩,⟨by (with_reducible repeat (first|apply Kd.R_alloc|apply Kd.R_drewN|apply Kd.R_drew));exact Kd.R_mono T.1 (fun _ hk=>hk.2)⟩,⟨by (with_reducible repeat (first|apply Kd.R_alloc|apply Kd.R_drewN|apply Kd.R_drew));exact Kd.R_mono v3.1 (fun _ hk=>hk.2)⟩,⟨by exact C.1⟩,⟨by exact D.1⟩,⟨by exact E.1⟩,⟨by exact F.1⟩,⟨by exact B.1⟩,⟨by repeat (first|(with_reducible first|exact HB.1|apply below_alloc|apply pw_below_drewN|apply below_drew1|refine below_set ?_ f4.1|refine below_set ?_ f5.1|refine below_set ?_ f6.1|refine below_set ?_ f7.1|refine below_set ?_ f8.1)|exact HB.1)⟩⟩
       case round =>
        clear H';try clear c1
        try clear c2
        try clear p2
        try clear c3
        try clear c4
        try clear c17
        try clear c18
        try clear c19
        try clear c20
        try clear c22
        try clear c22b0
        try clear c23
        try clear c23b0
        try clear l4
        try clear l5
        try clear l6
        try clear l7
        try clear l8
        try clear l9
        try clear m0
        try clear m1
        try clear p2
        obtain ⟨e5,d4,a2,rfl,rfl,HA,i5,T,Q,C,D,E,F,B,HB⟩:=hrel;cases gk with
        | zero=>exact absurd HA.1 (by simp [bellpullref04_Divide.l2])
        | succ k3 =>
         have H:=HA.1;clear HA;simp only [bellpullref04_Divide.l2] at H
         by_cases c26:a2 < 4
         ·
          rw [if_pos c26] at H;have c26b0:decide (a2 < 4)=true:=decide_eq_true c26;clear c26
          by_cases c27:0 ≤ a2
          ·
           rw [if_pos c27] at H;have c27b0:decide (0 ≤ a2)=true:=decide_eq_true c27;clear c27
           by_cases c28:a2 < (a9.length:Int)
           ·
            rw [if_pos c28] at H;have c28b0:decide (a2 < (a9.length:Int))=true:=decide_eq_true c28;clear c28;replace H:=Option.bind_eq_some_iff.mp H;obtain ⟨h8,t4,H⟩:=H;(try dsimp only at H);have x6:=mk0 t4;clear t4;have c30b0:=eq_true (of_decide_eq_true (by first|(with_reducible assumption)|assumption):0 ≤ a2);obtain ⟨h5,i6⟩:∃ j_:Int,(shr .i64 d1 a2)=j_:=⟨_,rfl⟩
            replace H:(if e5.length < 17592186044416 then (bellpullref04_Divide.l2 k3 a9 d9 e4 h6 d7 d1 (e5 ++ [wrap64 (h8 + (wrap64 (2 * (Go.bits .and .i64 (h5) 1))))]) (wrap64 (d4 + (wrap64 ((wrap64 ((rd a9 a2) - (wrap64 ((wrap64 (h8 + (wrap64 (2 * (Go.bits .and .i64 (h5) 1))))) * d9)))) * (wrap64 ((rd a9 a2) - (wrap64 ((wrap64 (h8 + (wrap64 (2 * (Go.bits .and .i64 (h5) 1))))) * d9)))))))) (wrap64 (a2 + 1)) b2 c8 d2 d3 b3 b4 b5 b6 a1 X O I) else (none))=some (r1,r2,r3,r4,r5,r6,r7,r8):=by first|(rw [i6] at H;exact H)|(simp only [i6] at H ⊢;exact H)
            (try rw [i6] at x6);have Y2:(d1 / 2 ^ min a2.toNat 64)=h5:=i6;have hji31z:a2 ≤ 64 → (d1 / 2 ^ a2.toNat)=h5:=shr_small i6
            by_cases c32:e5.length < 17592186044416
            ·
             rw [if_pos c32] at H;have v4:=mk0 c32;clear c32;obtain ⟨t5,j1⟩:∃ y_:List Int,y_=(e5 ++ [wrap64 (h8 + (wrap64 (2 * (Go.bits .and .i64 (h5) 1))))]):=⟨_,rfl⟩
             replace H:(bellpullref04_Divide.l2 k3 a9 d9 e4 h6 d7 d1 t5 (wrap64 (d4 + (wrap64 ((wrap64 ((rd a9 a2) - (wrap64 ((wrap64 (h8 + (wrap64 (2 * (Go.bits .and .i64 (h5) 1))))) * d9)))) * (wrap64 ((rd a9 a2) - (wrap64 ((wrap64 (h8 + (wrap64 (2 * (Go.bits .and .i64 (h5) 1))))) * d9)))))))) (wrap64 (a2 + 1)) b2 c8 d2 d3 b3 b4 b5 b6 a1 X O I)=some (r1,r2,r3,r4,r5,r6,r7,r8):=by first|(rw [j1];with_reducible exact H)|(have n9:=(Option.bind_some _ _).symm.trans H;rw [j1];with_reducible exact n9)|(have n9:=(Option.bind_some _ _).symm.trans H;with_reducible exact n9)|with_reducible exact H|(rw [j1];exact H)|exact H
             have v5:=mk0 j1;clear j1;have H':=mk0 H;clear H;try go_wp2
             replace T:=rdr T;replace Q:=rdr Q;replace C:=bdr C;replace D:=bdr D;replace E:=bdr E;replace F:=bdr F;replace B:=bdr B;replace HB:=hdr HB;obtain ⟨Es,x9,t6⟩:=Kd.R_slice T.1;(first|subst t6|(injection t6 with f1_ f2_ f3_;have Y3:=f1_.symm;have Y4:=f3_.symm;clear f1_ f2_ f3_;subst Y3;subst Y4));have q2:0 ≤ (a2:Int):=of_decide_eq_true (by first|(with_reducible assumption)|assumption);have q3:a2 < (a9.length:Int):=of_decide_eq_true (by first|(with_reducible assumption)|assumption);obtain ⟨i7,y0,o1⟩:=Kd.at_int (Kd.R_reads' T.1).2.2 a2 q2 q3;cases y0;replace q2:=eq_true q2;replace q3:=eq_true q3;refine start_ (n:=14) (S:=fun w'=>w'.cell? (i7.add (a2).toNat)=some (.int .i64 (rd a9 a2))) (ds:=[]) #[n_,n_,n_,n_,n_,n_,n_,n_,n_,n_,n_,n_,n_,n_] (by kernel_rfl) rfl rfl (o1) (fun M=>?_);refine with_tabW bellpullref04_Divide.tab13 bellpullref04_Divide.bits13 (fun Z h0=>?_);generalize wr.drew=Fe at T Q C D E F B HB o1 M ⊢;refine pure_ (i:=0) (N:=some 40) (v:=?_) (a':=?_) #[y_,n_,n_,n_,n_,n_,n_,n_,n_,n_,n_,n_,n_,n_] rfl rfl (any_of Z.1 (by kernel_rfl)) (fun _ _ _ h=>h) (Or.inl ⟨by rfl,?_⟩) ?_ ?_;rotate_left
             ·
              intro w';go_simp;with_reducible rfl
             rotate_left
             ·
              simp only [Act.put,s0_,s1_,s2_,i64_w,i32_w];rfl
             refine pure_ (i:=1) (N:=some 41) (v:=?_) (a':=?_) #[y_,y_,n_,n_,n_,n_,n_,n_,n_,n_,n_,n_,n_,n_] rfl rfl (any_of Z.1 (by kernel_rfl)) (fun _ _ _ h=>h) (Or.inl ⟨by rfl,?_⟩) ?_ ?_;rotate_left
             ·
              intro w';go_simp;with_reducible rfl
             rotate_left
             ·
              simp only [Act.put,s0_,s1_,s2_,i64_w,i32_w];rfl
             refine pure_ (i:=2) (N:=some 42) (v:=?_) (a':=?_) #[y_,y_,y_,n_,n_,n_,n_,n_,n_,n_,n_,n_,n_,n_] rfl rfl (any_of Z.1 (by kernel_rfl)) (fun _ _ _ h=>h) (Or.inl ⟨by rfl,?_⟩) ?_ ?_;rotate_left
             ·
              intro w';go_simp;with_reducible rfl
             rotate_left
             ·
              simp only [Act.put,s0_,s1_,s2_,i64_w,i32_w];rfl
             refine pure_ (i:=4) (N:=some 44) (v:=?_) (a':=?_) #[y_,y_,y_,n_,y_,n_,n_,n_,n_,n_,n_,n_,n_,n_] rfl rfl (any_of Z.1 (by kernel_rfl)) (fun _ _ _ h=>h) (Or.inl ⟨by rfl,?_⟩) ?_ ?_;rotate_left
             ·
              intro w';go_simp;with_reducible rfl
             rotate_left
             ·
              simp only [Act.put,s0_,s1_,s2_,i64_w,i32_w];rfl
             refine pure_ (i:=5) (N:=some 45) (v:=?_) (a':=?_) #[y_,y_,y_,n_,y_,y_,n_,n_,n_,n_,n_,n_,n_,n_] rfl rfl (any_of Z.1 (by kernel_rfl)) (fun _ _ _ h=>h) (Or.inl ⟨by rfl,?_⟩) ?_ ?_;rotate_left
             ·
              intro w';go_simp;with_reducible rfl
             rotate_left
             ·
              simp only [Act.put,s0_,s1_,s2_,i64_w,i32_w];rfl
             refine pure_ (i:=7) (N:=some 47) (v:=?_) (a':=?_) #[y_,y_,y_,n_,y_,y_,n_,y_,n_,n_,n_,n_,n_,n_] rfl rfl (any_of Z.1 (by kernel_rfl)) (fun _ _ _ h=>h) (Or.inl ⟨by rfl,?_⟩) ?_ ?_;rotate_left
             ·
              intro w';go_simp;with_reducible rfl
             rotate_left
             ·
              simp only [Act.put,s0_,s1_,s2_,i64_w,i32_w];rfl
             refine pure_ (i:=8) (N:=some 48) (v:=?_) (a':=?_) #[y_,y_,y_,n_,y_,y_,n_,y_,y_,n_,n_,n_,n_,n_] rfl rfl (any_of Z.1 (by kernel_rfl)) (fun _ _ _ h=>h) (Or.inl ⟨by rfl,?_⟩) ?_ ?_;rotate_left
             ·
              intro w';go_simp;with_reducible rfl
             rotate_left
             ·
              simp only [Act.put,s0_,s1_,s2_,i64_w,i32_w];rfl
             refine pure_ (i:=9) (N:=some 49) (v:=?_) (a':=?_) #[y_,y_,y_,n_,y_,y_,n_,y_,y_,y_,n_,n_,n_,n_] rfl rfl (any_of Z.1 (by kernel_rfl)) (fun _ _ _ h=>h) (Or.inl ⟨by rfl,?_⟩) ?_ ?_;rotate_left
             ·
              intro w';go_simp;with_reducible rfl
             rotate_left
             ·
              simp only [Act.put,s0_,s1_,s2_,i64_w,i32_w];rfl
             refine pure_ (i:=10) (N:=some 50) (v:=?_) (a':=?_) #[y_,y_,y_,n_,y_,y_,n_,y_,y_,y_,y_,n_,n_,n_] rfl rfl (any_of Z.1 (by kernel_rfl)) (fun _ _ _ h=>h) (Or.inl ⟨by rfl,?_⟩) ?_ ?_;rotate_left
             ·
              intro w';go_simp;with_reducible rfl
             rotate_left
             ·
              simp only [Act.put,s0_,s1_,s2_,i64_w,i32_w];rfl
             refine pure_ (i:=11) (N:=some 51) (v:=?_) (a':=?_) #[y_,y_,y_,n_,y_,y_,n_,y_,y_,y_,y_,y_,n_,n_] rfl rfl (any_of Z.1 (by kernel_rfl)) (fun _ _ _ h=>h) (Or.inl ⟨by rfl,?_⟩) ?_ ?_;rotate_left
             ·
              intro w';go_simp;with_reducible rfl
             rotate_left
             ·
              simp only [Act.put,s0_,s1_,s2_,i64_w,i32_w];rfl
             refine take_ (i:=3) (N:=some 43) (v:=?_) (a':=?_) #[y_,y_,y_,y_,y_,y_,n_,y_,y_,y_,y_,y_,n_,n_] rfl rfl (take_ofW Z.1 h0.1 (by kernel_rfl)) (fun _ _ _ h=>h) (Or.inl ⟨by rfl,?_⟩) M ?_ ?_;rotate_left
             ·
              intro w' s0;go_simp;with_reducible rfl
             rotate_left
             ·
              simp only [Act.put,s0_,s1_,s2_,i64_w,i32_w];rfl
             refine one_ (i:=6) (N:=some 46) #[y_,y_,y_,y_,y_,y_,y_,y_,y_,y_,y_,y_,n_,n_] rfl rfl (one_of Z.1 (by kernel_rfl)) (by decide) (fun K hK=>?_);refine goes_ Try.func51 (by kernel_rfl) rfl #[.int .i64 (rd a9 a2),.int .i64 d9,.int .i64 d7] (by rfl) rfl rfl (by (try simp only [m0_,m1_,m2_]);first|done|rfl|(simp only [l0_,l1_];rfl)) ?_;with_reducible refine (bellpullref04_below.calls k3 (rd a9 a2) d9 d7 h8 _ x6.1).mono ?_
             rintro e w' ⟨rfl,⟨nd,rfl⟩⟩;refine ⟨_,rfl,?_⟩;refine hK.out _ _ (M) (fun M=>?_);clear hK K;refine norm_ (a':=?_) ?_ ?_;rotate_left
             ·
              show Act.put _ (some 46) _=_;simp only [Act.put,s0_,s1_,s2_,i64_w,i32_w];rfl
             refine pure_ (i:=12) (N:=some 52) (v:=?_) (a':=?_) #[y_,y_,y_,y_,y_,y_,y_,y_,y_,y_,y_,y_,y_,n_] rfl rfl (any_of Z.1 (by kernel_rfl)) (fun _ _ _ h=>h) (Or.inl ⟨by rfl,?_⟩) ?_ ?_;rotate_left
             ·
              intro w';go_simp;with_reducible rfl
             rotate_left
             ·
              simp only [Act.put,s0_,s1_,s2_,i64_w,i32_w];rfl
             refine pure_ (i:=13) (N:=some 16) (v:=?_) (a':=?_) #[y_,y_,y_,y_,y_,y_,y_,y_,y_,y_,y_,y_,y_,y_] rfl rfl (any_of Z.1 (by kernel_rfl)) (fun _ _ _ h=>h) (Or.inl ⟨by rfl,?_⟩) ?_ ?_;rotate_left
             ·
              intro w';go_simp;with_reducible rfl
             rotate_left
             ·
              simp only [Act.put,s0_,s1_,s2_,i64_w,i32_w];rfl
             refine done_ (done_of Z.1 (by kernel_rfl)) ?_;try go_wp2_with (first|((with_reducible refine gate_builtin (b:=.append) (xs:=#[.tmp 53,.tmp 55]) rfl ?_);at_builtin;refine Kd.R_append (Kd.int .i64) (w0:=w) w.heap.size rfl (.tmp 53) (.tmp 55) 36 3 (.int .i64 0) 8 rfl Try.underlying36 info3 rfl (by decide) (by omega) u13 e5 (wrap64 (h8 + (wrap64 (2 * (Go.bits .and .i64 (h5) 1))))) [.int .i64 (wrap64 (h8 + (wrap64 (2 * (Go.bits .and .i64 (h5) 1)))))] (fun k_=>some k_ ≠ (.slice (some i7) a9.length x9:Value).ownBlock) (fun _=>False) rfl rfl ?aP (fun _ hk=>hk.elim) ?aF ?aO ?aB ?aS ?aL ?_;(case aP=>exact rfl);(case aB=>exact (by repeat (first|(with_reducible first|exact HB.1|apply below_alloc|apply pw_below_drewN|apply below_drew1|refine below_set ?_ f4.1|refine below_set ?_ f5.1|refine below_set ?_ f6.1|refine below_set ?_ f7.1|refine below_set ?_ f8.1)|exact HB.1)));(case aF=>exact (fun k_ hk=>Kd.fresh' (Kd.R_lt (by (with_reducible repeat (first|apply Kd.R_alloc|apply Kd.R_drewN|apply Kd.R_drew));exact T.1)) k_ hk));(case aO=>exact (by (with_reducible repeat (first|apply Kd.R_alloc|apply Kd.R_drewN|apply Kd.R_drew));exact Q.1));(case aS=>exact (below_size (by repeat (first|(with_reducible first|exact HB.1|apply below_alloc|apply pw_below_drewN|apply below_drew1|refine below_set ?_ f4.1|refine below_set ?_ f5.1|refine below_set ?_ f6.1|refine below_set ?_ f7.1|refine below_set ?_ f8.1)|exact HB.1))));(case aL=>have:=v4.1;omega);intro Et Y5 ho hb hg hat;rw [← v5.1] at ho;have n1:=mk0 (ho);replace T:=mk0 (Kd.R_after (ok:=(fun _=>True)) (by (with_reducible repeat (first|apply Kd.R_alloc|apply Kd.R_drewN|apply Kd.R_drew));exact Kd.R_mono T.1 (fun _ hk=>⟨trivial,hk⟩)) hg hat);replace C:=mk0 (blk_grown (g:=g0) (o:=.cells #[.int .i64 b2,.int .i64 c8,.int .i64 d2,.int .i64 d3] 23 (0,0)) (by (with_reducible repeat (first|refine blk_drewN ?_ _|refine blk_drew ?_|refine blk_alloc ?_ _));exact C.1) hg (Kd.R_ne Q.1 C.1 (by decide)));replace D:=mk0 (blk_grown (g:=g7) (o:=.cells #[.int .i64 b3,.int .i64 b4,.int .i64 b5,.int .i64 b6] 23 (0,0)) (by (with_reducible repeat (first|refine blk_drewN ?_ _|refine blk_drew ?_|refine blk_alloc ?_ _));exact D.1) hg (Kd.R_ne Q.1 D.1 (by decide)));replace E:=mk0 (blk_grown (g:=J) (o:=.cells #[.int .i64 0,.int .i64 0,.int .i64 0,.int .i64 0] 23 (0,0)) (by (with_reducible repeat (first|refine blk_drewN ?_ _|refine blk_drew ?_|refine blk_alloc ?_ _));exact E.1) hg (Kd.R_ne Q.1 E.1 (by decide)));replace F:=mk0 (blk_grown (g:=L) (o:=.cells #[.int .i64 0,.int .i64 0,.int .i64 0,.int .i64 0] 23 (0,0)) (by (with_reducible repeat (first|refine blk_drewN ?_ _|refine blk_drew ?_|refine blk_alloc ?_ _));exact F.1) hg (Kd.R_ne Q.1 F.1 (by decide)));replace B:=mk0 (blk_grown (g:=b1) (o:=.cells #[.int .i64 a1,.int .i64 X,.int .i64 O,.int .i64 I] 23 (0,0)) (by (with_reducible repeat (first|refine blk_drewN ?_ _|refine blk_drew ?_|refine blk_alloc ?_ _));exact B.1) hg (Kd.R_ne Q.1 B.1 (by decide)));replace HB:=mk0 (hb);clear Q;clear ho hb hg hat))
             replace T:=rdr T;replace n1:=rdr n1;replace C:=bdr C;replace D:=bdr D;replace E:=bdr E;replace F:=bdr F;replace B:=bdr B;replace HB:=hdr HB;have q4:0 ≤ (a2:Int):=of_decide_eq_true (by first|(with_reducible assumption)|assumption);have q5:a2 < (a9.length:Int):=of_decide_eq_true (by first|(with_reducible assumption)|assumption);obtain ⟨v6,y1,o2⟩:=Kd.at_int (Kd.R_reads' T.1).2.2 a2 q4 q5;obtain rfl:i7=v6:=(by injection y1)
             replace q4:=eq_true q4;replace q5:=eq_true q5;have q6:0 ≤ (a2:Int):=of_decide_eq_true (by first|(with_reducible assumption)|assumption);have q7:a2 < (a9.length:Int):=of_decide_eq_true (by first|(with_reducible assumption)|assumption);obtain ⟨v7,y2,o3⟩:=Kd.at_int (Kd.R_reads' T.1).2.2 a2 q6 q7;obtain rfl:i7=v7:=(by injection y2)
             replace q6:=eq_true q6;replace q7:=eq_true q7;refine start_ (n:=20) (S:=fun w'=>w'.cell? (i7.add (a2).toNat)=some (.int .i64 (rd a9 a2))∧w'.cell? (i7.add (a2).toNat)=some (.int .i64 (rd a9 a2))) (ds:=[]) #[n_,n_,n_,n_,n_,n_,n_,n_,n_,n_,n_,n_,n_,n_,n_,n_,n_,n_,n_,n_] (by kernel_rfl) rfl rfl ⟨o2,o3⟩ (fun M=>?_);refine with_tabW bellpullref04_Divide.tab15 bellpullref04_Divide.bits15 (fun Z h0=>?_);generalize Y5.drew=Ff at T n1 C D E F B HB o2 o3 M ⊢;refine pure_ (i:=0) (N:=some 57) (v:=?_) (a':=?_) #[y_,n_,n_,n_,n_,n_,n_,n_,n_,n_,n_,n_,n_,n_,n_,n_,n_,n_,n_,n_] rfl rfl (any_of Z.1 (by kernel_rfl)) (fun _ _ _ h=>h) (Or.inl ⟨by rfl,?_⟩) ?_ ?_;rotate_left
             ·
              intro w';go_simp;with_reducible rfl
             rotate_left
             ·
              simp only [Act.put,s0_,s1_,s2_,i64_w,i32_w];rfl
             refine pure_ (i:=1) (N:=some 58) (v:=?_) (a':=?_) #[y_,y_,n_,n_,n_,n_,n_,n_,n_,n_,n_,n_,n_,n_,n_,n_,n_,n_,n_,n_] rfl rfl (any_of Z.1 (by kernel_rfl)) (fun _ _ _ h=>h) (Or.inl ⟨by rfl,?_⟩) ?_ ?_;rotate_left
             ·
              intro w';go_simp;with_reducible rfl
             rotate_left
             ·
              simp only [Act.put,s0_,s1_,s2_,i64_w,i32_w];rfl
             refine pure_ (i:=2) (N:=some 59) (v:=?_) (a':=?_) #[y_,y_,y_,n_,n_,n_,n_,n_,n_,n_,n_,n_,n_,n_,n_,n_,n_,n_,n_,n_] rfl rfl (any_of Z.1 (by kernel_rfl)) (fun _ _ _ h=>h) (Or.inl ⟨by rfl,?_⟩) ?_ ?_;rotate_left
             ·
              intro w';go_simp;with_reducible rfl
             rotate_left
             ·
              simp only [Act.put,s0_,s1_,s2_,i64_w,i32_w];rfl
             refine pure_ (i:=3) (N:=some 60) (v:=?_) (a':=?_) #[y_,y_,y_,y_,n_,n_,n_,n_,n_,n_,n_,n_,n_,n_,n_,n_,n_,n_,n_,n_] rfl rfl (any_of Z.1 (by kernel_rfl)) (fun _ _ _ h=>h) (Or.inl ⟨by rfl,?_⟩) ?_ ?_;rotate_left
             ·
              intro w';go_simp;with_reducible rfl
             rotate_left
             ·
              simp only [Act.put,s0_,s1_,s2_,i64_w,i32_w];rfl
             refine pure_ (i:=5) (N:=some 62) (v:=?_) (a':=?_) #[y_,y_,y_,y_,n_,y_,n_,n_,n_,n_,n_,n_,n_,n_,n_,n_,n_,n_,n_,n_] rfl rfl (any_of Z.1 (by kernel_rfl)) (fun _ _ _ h=>h) (Or.inl ⟨by rfl,?_⟩) ?_ ?_;rotate_left
             ·
              intro w';go_simp;with_reducible rfl
             rotate_left
             ·
              simp only [Act.put,s0_,s1_,s2_,i64_w,i32_w];rfl
             refine pure_ (i:=6) (N:=some 63) (v:=?_) (a':=?_) #[y_,y_,y_,y_,n_,y_,y_,n_,n_,n_,n_,n_,n_,n_,n_,n_,n_,n_,n_,n_] rfl rfl (any_of Z.1 (by kernel_rfl)) (fun _ _ _ h=>h) (Or.inl ⟨by rfl,?_⟩) ?_ ?_;rotate_left
             ·
              intro w';go_simp;with_reducible rfl
             rotate_left
             ·
              simp only [Act.put,s0_,s1_,s2_,i64_w,i32_w];rfl
             refine pure_ (i:=7) (N:=some 64) (v:=?_) (a':=?_) #[y_,y_,y_,y_,n_,y_,y_,y_,n_,n_,n_,n_,n_,n_,n_,n_,n_,n_,n_,n_] rfl rfl (any_of Z.1 (by kernel_rfl)) (fun _ _ _ h=>h) (Or.inl ⟨by rfl,?_⟩) ?_ ?_;rotate_left
             ·
              intro w';go_simp;with_reducible rfl
             rotate_left
             ·
              simp only [Act.put,s0_,s1_,s2_,i64_w,i32_w];rfl
             refine pure_ (i:=9) (N:=some 66) (v:=?_) (a':=?_) #[y_,y_,y_,y_,n_,y_,y_,y_,n_,y_,n_,n_,n_,n_,n_,n_,n_,n_,n_,n_] rfl rfl (any_of Z.1 (by kernel_rfl)) (fun _ _ _ h=>h) (Or.inl ⟨by rfl,?_⟩) ?_ ?_;rotate_left
             ·
              intro w';go_simp;with_reducible rfl
             rotate_left
             ·
              simp only [Act.put,s0_,s1_,s2_,i64_w,i32_w];rfl
             refine pure_ (i:=10) (N:=some 67) (v:=?_) (a':=?_) #[y_,y_,y_,y_,n_,y_,y_,y_,n_,y_,y_,n_,n_,n_,n_,n_,n_,n_,n_,n_] rfl rfl (any_of Z.1 (by kernel_rfl)) (fun _ _ _ h=>h) (Or.inl ⟨by rfl,?_⟩) ?_ ?_;rotate_left
             ·
              intro w';go_simp;with_reducible rfl
             rotate_left
             ·
              simp only [Act.put,s0_,s1_,s2_,i64_w,i32_w];rfl
             refine pure_ (i:=11) (N:=some 68) (v:=?_) (a':=?_) #[y_,y_,y_,y_,n_,y_,y_,y_,n_,y_,y_,y_,n_,n_,n_,n_,n_,n_,n_,n_] rfl rfl (any_of Z.1 (by kernel_rfl)) (fun _ _ _ h=>h) (Or.inl ⟨by rfl,?_⟩) ?_ ?_;rotate_left
             ·
              intro w';go_simp;with_reducible rfl
             rotate_left
             ·
              simp only [Act.put,s0_,s1_,s2_,i64_w,i32_w];rfl
             refine pure_ (i:=13) (N:=some 70) (v:=?_) (a':=?_) #[y_,y_,y_,y_,n_,y_,y_,y_,n_,y_,y_,y_,n_,y_,n_,n_,n_,n_,n_,n_] rfl rfl (any_of Z.1 (by kernel_rfl)) (fun _ _ _ h=>h) (Or.inl ⟨by rfl,?_⟩) ?_ ?_;rotate_left
             ·
              intro w';go_simp;with_reducible rfl
             rotate_left
             ·
              simp only [Act.put,s0_,s1_,s2_,i64_w,i32_w];rfl
             refine pure_ (i:=14) (N:=some 71) (v:=?_) (a':=?_) #[y_,y_,y_,y_,n_,y_,y_,y_,n_,y_,y_,y_,n_,y_,y_,n_,n_,n_,n_,n_] rfl rfl (any_of Z.1 (by kernel_rfl)) (fun _ _ _ h=>h) (Or.inl ⟨by rfl,?_⟩) ?_ ?_;rotate_left
             ·
              intro w';go_simp;with_reducible rfl
             rotate_left
             ·
              simp only [Act.put,s0_,s1_,s2_,i64_w,i32_w];rfl
             refine pure_ (i:=15) (N:=some 72) (v:=?_) (a':=?_) #[y_,y_,y_,y_,n_,y_,y_,y_,n_,y_,y_,y_,n_,y_,y_,y_,n_,n_,n_,n_] rfl rfl (any_of Z.1 (by kernel_rfl)) (fun _ _ _ h=>h) (Or.inl ⟨by rfl,?_⟩) ?_ ?_;rotate_left
             ·
              intro w';go_simp;with_reducible rfl
             rotate_left
             ·
              simp only [Act.put,s0_,s1_,s2_,i64_w,i32_w];rfl
             refine take_ (i:=4) (N:=some 61) (v:=?_) (a':=?_) #[y_,y_,y_,y_,y_,y_,y_,y_,n_,y_,y_,y_,n_,y_,y_,y_,n_,n_,n_,n_] rfl rfl (take_ofW Z.1 h0.1 (by kernel_rfl)) (fun _ _ _ h=>h) (Or.inl ⟨by rfl,?_⟩) M ?_ ?_;rotate_left
             ·
              rintro w' ⟨s0,s1⟩;go_simp;with_reducible rfl
             rotate_left
             ·
              simp only [Act.put,s0_,s1_,s2_,i64_w,i32_w];rfl
             refine pure_ (i:=8) (N:=some 65) (v:=?_) (a':=?_) #[y_,y_,y_,y_,y_,y_,y_,y_,y_,y_,y_,y_,n_,y_,y_,y_,n_,n_,n_,n_] rfl rfl (any_of Z.1 (by kernel_rfl)) (fun _ _ _ h=>h) (Or.inl ⟨by rfl,?_⟩) ?_ ?_;rotate_left
             ·
              intro w';go_simp;with_reducible rfl
             rotate_left
             ·
              simp only [Act.put,s0_,s1_,s2_,i64_w,i32_w];rfl
             refine take_ (i:=12) (N:=some 69) (v:=?_) (a':=?_) #[y_,y_,y_,y_,y_,y_,y_,y_,y_,y_,y_,y_,y_,y_,y_,y_,n_,n_,n_,n_] rfl rfl (take_ofW Z.1 h0.1 (by kernel_rfl)) (fun _ _ _ h=>h) (Or.inl ⟨by rfl,?_⟩) M ?_ ?_;rotate_left
             ·
              rintro w' ⟨s0,s1⟩;go_simp;with_reducible rfl
             rotate_left
             ·
              simp only [Act.put,s0_,s1_,s2_,i64_w,i32_w];rfl
             refine pure_ (i:=16) (N:=some 73) (v:=?_) (a':=?_) #[y_,y_,y_,y_,y_,y_,y_,y_,y_,y_,y_,y_,y_,y_,y_,y_,y_,n_,n_,n_] rfl rfl (any_of Z.1 (by kernel_rfl)) (fun _ _ _ h=>h) (Or.inl ⟨by rfl,?_⟩) ?_ ?_;rotate_left
             ·
              intro w';go_simp;with_reducible rfl
             rotate_left
             ·
              simp only [Act.put,s0_,s1_,s2_,i64_w,i32_w];rfl
             refine pure_ (i:=17) (N:=some 74) (v:=?_) (a':=?_) #[y_,y_,y_,y_,y_,y_,y_,y_,y_,y_,y_,y_,y_,y_,y_,y_,y_,y_,n_,n_] rfl rfl (any_of Z.1 (by kernel_rfl)) (fun _ _ _ h=>h) (Or.inl ⟨by rfl,?_⟩) ?_ ?_;rotate_left
             ·
              intro w';go_simp;with_reducible rfl
             rotate_left
             ·
              simp only [Act.put,s0_,s1_,s2_,i64_w,i32_w];rfl
             refine pure_ (i:=18) (N:=some 75) (v:=?_) (a':=?_) #[y_,y_,y_,y_,y_,y_,y_,y_,y_,y_,y_,y_,y_,y_,y_,y_,y_,y_,y_,n_] rfl rfl (any_of Z.1 (by kernel_rfl)) (fun _ _ _ h=>h) (Or.inl ⟨by rfl,?_⟩) ?_ ?_;rotate_left
             ·
              intro w';go_simp;with_reducible rfl
             rotate_left
             ·
              simp only [Act.put,s0_,s1_,s2_,i64_w,i32_w];rfl
             refine pure_ (i:=19) (N:=some 14) (v:=?_) (a':=?_) #[y_,y_,y_,y_,y_,y_,y_,y_,y_,y_,y_,y_,y_,y_,y_,y_,y_,y_,y_,y_] rfl rfl (any_of Z.1 (by kernel_rfl)) (fun _ _ _ h=>h) (Or.inl ⟨by rfl,?_⟩) ?_ ?_;rotate_left
             ·
              intro w';go_simp;with_reducible rfl
             rotate_left
             ·
              simp only [Act.put,s0_,s1_,s2_,i64_w,i32_w];rfl
             refine done_ (done_of Z.1 (by kernel_rfl)) ?_;try go_wp2
             go_roundg k3
             case measure=>have:=i1.1;have:=i2.1;have:=i5.1;omega
             case rel=>exact ⟨(t5),(wrap64 (d4 + (wrap64 ((wrap64 ((rd a9 a2) - (wrap64 ((wrap64 (h8 + (wrap64 (2 * (Go.bits .and .i64 (h5) 1))))) * d9)))) * (wrap64 ((rd a9 a2) - (wrap64 ((wrap64 (h8 + (wrap64 (2 * (Go.bits .and .i64 (h5) 1))))) * d9)))))))),(wrap64 (a2 + 1)),(by first|rfl|(simp;done)|(simp only [← i6] <;> (first|rfl|simp))|(simp [*];done)),(by first|rfl|(simp;done)|(simp [*];done)),H',⟨by have:=i1.1;have:=i2.1;have:=i5.1;omega⟩,⟨by (with_reducible repeat (first|apply Kd.R_alloc|apply Kd.R_drewN|apply Kd.R_drew));exact Kd.R_mono T.1 (fun _ hk=>hk.2)⟩,⟨by (with_reducible repeat (first|apply Kd.R_alloc|apply Kd.R_drewN|apply Kd.R_drew));exact n1.1⟩,⟨by exact C.1⟩,⟨by exact D.1⟩,⟨by exact E.1⟩,⟨by exact F.1⟩,⟨by exact B.1⟩,⟨by repeat (first|(with_reducible first|exact HB.1|apply below_alloc|apply pw_below_drewN|apply below_drew1|refine below_set ?_ f4.1|refine below_set ?_ f5.1|refine below_set ?_ f6.1|refine below_set ?_ f7.1|refine below_set ?_ f8.1)|exact HB.1)⟩⟩
            ·
             rw [if_neg c32] at H;exact absurd H (by simp)
           ·
            rw [if_neg c28] at H;exact absurd H (by simp)
          ·
           rw [if_neg c27] at H;exact absurd H (by simp)
         ·
          rw [if_neg c26] at H;have c26b0:decide (a2 < 4)=false:=decide_eq_false c26;clear c26;replace H:=Option.bind_eq_some_iff.mp H;obtain ⟨⟨a8,b0,d0,d6⟩,t7,H⟩:=H;(try dsimp only at H);have o7:=mk0 t7;clear t7
          by_cases r0:h6=true
          ·
           subst r0;have H1:(if d4 < e4 then (bellpullref04_Divide.l1 k3 a9 d9 d4 true d7 (wrap64 (d1 + 1)) b2 c8 d2 d3 b3 b4 b5 b6 a8 b0 d0 d6) else (if d4=e4 then ((bellpullref04_Less.f k3 a8 b0 d0 d6 a1 X O I).bind fun q8=>(if q8=true then (bellpullref04_Divide.l1 k3 a9 d9 d4 true d7 (wrap64 (d1 + 1)) b2 c8 d2 d3 b3 b4 b5 b6 a8 b0 d0 d6) else (bellpullref04_Divide.l1 k3 a9 d9 e4 true d7 (wrap64 (d1 + 1)) b2 c8 d2 d3 b3 b4 b5 b6 a1 X O I))) else (bellpullref04_Divide.l1 k3 a9 d9 e4 true d7 (wrap64 (d1 + 1)) b2 c8 d2 d3 b3 b4 b5 b6 a1 X O I)))=some (r1,r2,r3,r4,r5,r6,r7,r8):=by rw [if_pos rfl] at H;exact H
           clear H;have H:=H1;clear H1
           by_cases c39:d4 < e4
           ·
            rw [if_pos c39] at H;have c39b0:decide (d4 < e4)=true:=decide_eq_true c39;clear c39;have H':=mk0 H;clear H;obtain ⟨y3,y4,y5⟩:=Kd.R_slice Q.1;subst y5;go_wp2_with (first|((with_reducible refine gate_callee (f:=52) rfl ?_);refine goesL_ (some 77) rfl rfl Try.func52 (by kernel_rfl) rfl #[.slice y3 e5.length y4] rfl (by (try simp only [m0_,m1_,m2_]);first|done|rfl|(simp only [l0_,l1_];rfl)) ?_;(with_reducible refine (bellpullref04_Quat.calls _ _ e5 a8 b0 d0 d6 _ ?side1 ?side2 o7.1).mono ?_);(case side1=>repeat (first|exact (Kd.R_reads' Q.1).2.2|(with_reducible refine Kd.C_alloc ?_ _)|(with_reducible refine Kd.C_drewN ?_ _)|(with_reducible refine Kd.C_drew ?_)));(case side2=>exact (Kd.R_reads' Q.1).2.1);rintro e Fg ⟨rfl,hb⟩;refine ⟨_,rfl,?_⟩;replace T:=rbl T hb;replace Q:=rbl Q hb;replace C:=bkb C hb;replace D:=bkb D hb;replace E:=bkb E hb;replace F:=bkb F hb;replace B:=bkb B hb;replace HB:=bst HB hb;(try clear hb))|((with_reducible refine gate_dst (N:=17) rfl ?_);refine box_event ?hg (N:=17) ?hd (cs:=#[.int .i64 0,.int .i64 0,.int .i64 0,.int .i64 0]) (t:=23) ?hr ?_;(case hd=>rfl);(case hg=>rfl);(case hr=>first|(go_simp;done)|(go_simp;rfl));intro a7 hg Fh c9 hb;have G:=mk0 (c9);have h7:=szw hg HB;have g8:=h7;have b9:=nlt hg C;have e9:=ngt hg C;have c0:=nlt hg D;have f0:=ngt hg D;have c5:=nlt hg E;have f1:=ngt hg E;have c6:=nlt hg F;have f2:=ngt hg F;have c7:=nlt hg B;have f3:=ngt hg B;replace T:=rbl T hb;replace Q:=rbl Q hb;replace C:=bkb C hb;replace D:=bkb D hb;replace E:=bkb E hb;replace F:=bkb F hb;replace B:=bkb B hb;replace HB:=bst HB hb;clear hb c9 hg;have Bs:=e9.1;have Bt:=b9.1;have Bu:=f0.1;have Bv:=c0.1;have Bw:=f1.1;have Bx:=c5.1;have By:=f2.1;have Bz:=c6.1;have Ca:=f3.1;have Cb:=c7.1;have N5:=q0_ G;have N6:=q1_ G;have N7:=q2_ G;have N8:=q3_ G;have N9:=blk_frozen G.1 0;have O0:=blk_frozen G.1 1;have O1:=blk_frozen G.1 2;have O2:=blk_frozen G.1 3;have Cc:=g3.1;have Cd:=e1.1;have Ce:=g4.1;have Cf:=e2.1;have Cg:=U.1;have Ch:=b7.1;have Ci:=V.1;have Cj:=b8.1;have O3:=q0_ B;have O4:=q1_ B;have O5:=q2_ B;have O6:=q3_ B;have O7:=blk_frozen B.1 0;have O8:=blk_frozen B.1 1;have O9:=blk_frozen B.1 2;have Q0:=blk_frozen B.1 3));go_roundg k3
            case measure=>have:=i1.1;have:=i2.1;have:=i5.1;omega
            case rel=>exact ⟨(d4),(true),(wrap64 (d1 + 1)),(a8),(b0),(d0),(d6),(by first|rfl|(simp;done)|(simp [*];done)),(by first|rfl|(simp;done)|(simp [*];done)),(by first|rfl|(simp;done)|(simp [*];done)),H',⟨by have:=i1.1;have:=i2.1;have:=i5.1;omega⟩,⟨by (with_reducible repeat (first|apply Kd.R_alloc|apply Kd.R_drewN|apply Kd.R_drew));exact Kd.R_mono (Kd.R_far (p:=⟨b1,3,none⟩) (Kd.R_far (p:=⟨b1,2,none⟩) (Kd.R_far (p:=⟨b1,1,none⟩) (Kd.R_far (p:=⟨b1,0,none⟩) (Kd.R_far (p:=⟨a7,3,none⟩) (Kd.R_far (p:=⟨a7,2,none⟩) (Kd.R_far (p:=⟨a7,1,none⟩) (Kd.R_far (p:=⟨a7,0,none⟩) (Kd.R_types (Kd.R_types T.1 G.1 (by decide)) B.1 (by decide)) (fun _ hk=>hk.1.2) (.int .i64 a8)) (fun _ hk=>hk.1.2) (.int .i64 b0)) (fun _ hk=>hk.1.2) (.int .i64 d0)) (fun _ hk=>hk.1.2) (.int .i64 d6)) (fun _ hk=>hk.2) (.int .i64 a8)) (fun _ hk=>hk.2) (.int .i64 b0)) (fun _ hk=>hk.2) (.int .i64 d0)) (fun _ hk=>hk.2) (.int .i64 d6)) (fun _ hk=>trivial)⟩,⟨by (iterate 4 refine blk_far ?_ e1.1 _);(iterate 4 refine blk_far ?_ b9.1 _);exact C.1⟩,⟨by (iterate 4 refine blk_far ?_ e2.1 _);(iterate 4 refine blk_far ?_ c0.1 _);exact D.1⟩,⟨by (iterate 4 refine blk_far ?_ b7.1 _);(iterate 4 refine blk_far ?_ c5.1 _);exact E.1⟩,⟨by (iterate 4 refine blk_far ?_ b8.1 _);(iterate 4 refine blk_far ?_ c6.1 _);exact F.1⟩,⟨by refine blk_put (cs:=#[.int .i64 a8,.int .i64 b0,.int .i64 d0,.int .i64 I]) ?_ 3 _ rfl;refine blk_put (cs:=#[.int .i64 a8,.int .i64 b0,.int .i64 O,.int .i64 I]) ?_ 2 _ rfl;refine blk_put (cs:=#[.int .i64 a8,.int .i64 X,.int .i64 O,.int .i64 I]) ?_ 1 _ rfl;refine blk_put (cs:=#[.int .i64 a1,.int .i64 X,.int .i64 O,.int .i64 I]) ?_ 0 _ rfl;(iterate 4 refine blk_far ?_ c7.1 _);exact B.1⟩,⟨by repeat (first|(with_reducible first|exact HB.1|apply below_alloc|apply pw_below_drewN|apply below_drew1|refine below_set ?_ f4.1|refine below_set ?_ f5.1|refine below_set ?_ f6.1|refine below_set ?_ f7.1|refine below_set ?_ f8.1|refine below_set ?_ g8.1)|exact HB.1)⟩⟩
           ·
            rw [if_neg c39] at H;have c39b0:decide (d4 < e4)=false:=decide_eq_false c39;clear c39
            by_cases c54:d4=e4
            ·
             rw [if_pos c54] at H;have c54b0:(d4 == e4)=true:=beq_iff_eq.mpr c54;have c54b1:(d4 != e4)=false:=bne_eq_false_iff_eq.mpr c54;clear c54;replace H:=Option.bind_eq_some_iff.mp H;obtain ⟨q8,t8,H⟩:=H;(try dsimp only at H);have x7:=mk0 t8;clear t8
             by_cases r9:q8=true
             ·
              subst r9;have H1:(bellpullref04_Divide.l1 k3 a9 d9 d4 true d7 (wrap64 (d1 + 1)) b2 c8 d2 d3 b3 b4 b5 b6 a8 b0 d0 d6)=some (r1,r2,r3,r4,r5,r6,r7,r8):=by rw [if_pos rfl] at H;exact H
              clear H;have H:=H1;clear H1;have H':=mk0 H;clear H;obtain ⟨y6,y7,y8⟩:=Kd.R_slice Q.1;subst y8;go_wp2_with (first|((with_reducible refine gate_callee (f:=52) rfl ?_);refine goesL_ (some 77) rfl rfl Try.func52 (by kernel_rfl) rfl #[.slice y6 e5.length y7] rfl (by (try simp only [m0_,m1_,m2_]);first|done|rfl|(simp only [l0_,l1_];rfl)) ?_;(with_reducible refine (bellpullref04_Quat.calls _ _ e5 a8 b0 d0 d6 _ ?side1 ?side2 o7.1).mono ?_);(case side1=>repeat (first|exact (Kd.R_reads' Q.1).2.2|(with_reducible refine Kd.C_alloc ?_ _)|(with_reducible refine Kd.C_drewN ?_ _)|(with_reducible refine Kd.C_drew ?_)));(case side2=>exact (Kd.R_reads' Q.1).2.1);rintro e Fi ⟨rfl,hb⟩;refine ⟨_,rfl,?_⟩;replace T:=rbl T hb;replace Q:=rbl Q hb;replace C:=bkb C hb;replace D:=bkb D hb;replace E:=bkb E hb;replace F:=bkb F hb;replace B:=bkb B hb;replace HB:=bst HB hb;(try clear hb);(try clear hk))|((with_reducible refine gate_dst (N:=17) rfl ?_);refine box_event ?hg (N:=17) ?hd (cs:=#[.int .i64 0,.int .i64 0,.int .i64 0,.int .i64 0]) (t:=23) ?hr ?_;(case hd=>rfl);(case hg=>rfl);(case hr=>first|(go_simp;done)|(go_simp;rfl));intro a7 hg Fj c9 hb;have G:=mk0 (c9);have h7:=szw hg HB;have g8:=h7;have b9:=nlt hg C;have e9:=ngt hg C;have c0:=nlt hg D;have f0:=ngt hg D;have c5:=nlt hg E;have f1:=ngt hg E;have c6:=nlt hg F;have f2:=ngt hg F;have c7:=nlt hg B;have f3:=ngt hg B;replace T:=rbl T hb;replace Q:=rbl Q hb;replace C:=bkb C hb;replace D:=bkb D hb;replace E:=bkb E hb;replace F:=bkb F hb;replace B:=bkb B hb;replace HB:=bst HB hb;clear hb c9 hg;have Ck:=e9.1;have Cl:=b9.1;have Cm:=f0.1;have Cn:=c0.1;have Co:=f1.1;have Cp:=c5.1;have Cq:=f2.1;have Cr:=c6.1;have Cs:=f3.1;have Ct:=c7.1;have Q1:=q0_ G;have Q2:=q1_ G;have Q3:=q2_ G;have Q4:=q3_ G;have Q5:=blk_frozen G.1 0;have Q6:=blk_frozen G.1 1;have Q7:=blk_frozen G.1 2;have Q8:=blk_frozen G.1 3;have Cu:=g3.1;have Cv:=e1.1;have Cw:=g4.1;have Cx:=e2.1;have Cy:=U.1;have Cz:=b7.1;have Da:=V.1;have Db:=b8.1;have Q9:=q0_ B;have R0:=q1_ B;have R1:=q2_ B;have R2:=q3_ B;have R3:=blk_frozen B.1 0;have R4:=blk_frozen B.1 1;have R5:=blk_frozen B.1 2;have R6:=blk_frozen B.1 3)|(go_at_call 36;(with_reducible refine (bellpullref04_Less.calls k3 a8 b0 d0 d6 a1 X O I true _ x7.1).mono ?_);rintro e Fk ⟨rfl,hb⟩;replace T:=mk0 (Kd.R_below (by (with_reducible repeat (first|apply Kd.R_alloc|apply Kd.R_drewN|apply Kd.R_drew));exact (Kd.R_mono (Kd.R_far (p:=⟨a7,3,none⟩) (Kd.R_far (p:=⟨a7,2,none⟩) (Kd.R_far (p:=⟨a7,1,none⟩) (Kd.R_far (p:=⟨a7,0,none⟩) (Kd.R_types T.1 G.1 (by decide)) (fun _ hk=>hk.2) (.int .i64 a8)) (fun _ hk=>hk.2) (.int .i64 b0)) (fun _ hk=>hk.2) (.int .i64 d0)) (fun _ hk=>hk.2) (.int .i64 d6)) (fun _ h_=>h_.1))) hb);replace Q:=mk0 (Kd.R_below (by (with_reducible repeat (first|apply Kd.R_alloc|apply Kd.R_drewN|apply Kd.R_drew));exact (Kd.R_mono (Kd.R_far (p:=⟨a7,3,none⟩) (Kd.R_far (p:=⟨a7,2,none⟩) (Kd.R_far (p:=⟨a7,1,none⟩) (Kd.R_far (p:=⟨a7,0,none⟩) (Kd.R_types Q.1 G.1 (by decide)) (fun _ hk=>hk.2) (.int .i64 a8)) (fun _ hk=>hk.2) (.int .i64 b0)) (fun _ hk=>hk.2) (.int .i64 d0)) (fun _ hk=>hk.2) (.int .i64 d6)) (fun _ h_=>h_.1))) hb);replace C:=mk0 (blk_below (g:=g0) (o:=.cells #[.int .i64 b2,.int .i64 c8,.int .i64 d2,.int .i64 d3] 23 (0,0)) (by (iterate 4 refine blk_far ?_ b9.1 _);exact C.1) hb);replace D:=mk0 (blk_below (g:=g7) (o:=.cells #[.int .i64 b3,.int .i64 b4,.int .i64 b5,.int .i64 b6] 23 (0,0)) (by (iterate 4 refine blk_far ?_ c0.1 _);exact D.1) hb);replace E:=mk0 (blk_below (g:=J) (o:=.cells #[.int .i64 0,.int .i64 0,.int .i64 0,.int .i64 0] 23 (0,0)) (by (iterate 4 refine blk_far ?_ c5.1 _);exact E.1) hb);replace F:=mk0 (blk_below (g:=L) (o:=.cells #[.int .i64 0,.int .i64 0,.int .i64 0,.int .i64 0] 23 (0,0)) (by (iterate 4 refine blk_far ?_ c6.1 _);exact F.1) hb);replace B:=mk0 (blk_below (g:=b1) (o:=.cells #[.int .i64 a1,.int .i64 X,.int .i64 O,.int .i64 I] 23 (0,0)) (by (iterate 4 refine blk_far ?_ c7.1 _);exact B.1) hb);replace G:=mk0 (blk_below (g:=a7) (o:=.cells #[.int .i64 a8,.int .i64 b0,.int .i64 d0,.int .i64 d6] 23 (0,0)) (by refine blk_put (cs:=#[.int .i64 a8,.int .i64 b0,.int .i64 d0,.int .i64 0]) ?_ 3 _ rfl;refine blk_put (cs:=#[.int .i64 a8,.int .i64 b0,.int .i64 0,.int .i64 0]) ?_ 2 _ rfl;refine blk_put (cs:=#[.int .i64 a8,.int .i64 0,.int .i64 0,.int .i64 0]) ?_ 1 _ rfl;refine blk_put (cs:=#[.int .i64 0,.int .i64 0,.int .i64 0,.int .i64 0]) ?_ 0 _ rfl;exact G.1) hb);replace HB:=mk0 (below_step (by repeat (with_reducible first|exact HB.1|refine below_set ?_ f4.1|refine below_set ?_ f5.1|refine below_set ?_ f6.1|refine below_set ?_ f7.1|refine below_set ?_ f8.1|refine below_set ?_ g8.1)) hb);(try clear hb);(try clear hk);have R7:=q0_ G;have R8:=q1_ G;have R9:=q2_ G;have T0:=q3_ G;have T1:=blk_frozen G.1 0;have T2:=blk_frozen G.1 1;have T3:=blk_frozen G.1 2;have T4:=blk_frozen G.1 3;have T5:=q0_ B;have T6:=q1_ B;have T7:=q2_ B;have T8:=q3_ B;have T9:=blk_frozen B.1 0;have U0:=blk_frozen B.1 1;have U1:=blk_frozen B.1 2;have U2:=blk_frozen B.1 3))
              go_roundg k3
              case measure=>have:=i1.1;have:=i2.1;have:=i5.1;omega
              case rel=>exact ⟨(d4),(true),(wrap64 (d1 + 1)),(a8),(b0),(d0),(d6),(by first|rfl|(simp;done)|(simp [*];done)),(by first|rfl|(simp;done)|(simp [*];done)),(by first|rfl|(simp;done)|(simp [*];done)),H',⟨by have:=i1.1;have:=i2.1;have:=i5.1;omega⟩,⟨by (with_reducible repeat (first|apply Kd.R_alloc|apply Kd.R_drewN|apply Kd.R_drew));exact Kd.R_mono (Kd.R_far (p:=⟨b1,3,none⟩) (Kd.R_far (p:=⟨b1,2,none⟩) (Kd.R_far (p:=⟨b1,1,none⟩) (Kd.R_far (p:=⟨b1,0,none⟩) (Kd.R_types T.1 B.1 (by decide)) (fun _ hk=>hk.2) (.int .i64 a8)) (fun _ hk=>hk.2) (.int .i64 b0)) (fun _ hk=>hk.2) (.int .i64 d0)) (fun _ hk=>hk.2) (.int .i64 d6)) (fun _ hk=>trivial)⟩,⟨by (iterate 4 refine blk_far ?_ e1.1 _);exact C.1⟩,⟨by (iterate 4 refine blk_far ?_ e2.1 _);exact D.1⟩,⟨by (iterate 4 refine blk_far ?_ b7.1 _);exact E.1⟩,⟨by (iterate 4 refine blk_far ?_ b8.1 _);exact F.1⟩,⟨by refine blk_put (cs:=#[.int .i64 a8,.int .i64 b0,.int .i64 d0,.int .i64 I]) ?_ 3 _ rfl;refine blk_put (cs:=#[.int .i64 a8,.int .i64 b0,.int .i64 O,.int .i64 I]) ?_ 2 _ rfl;refine blk_put (cs:=#[.int .i64 a8,.int .i64 X,.int .i64 O,.int .i64 I]) ?_ 1 _ rfl;refine blk_put (cs:=#[.int .i64 a1,.int .i64 X,.int .i64 O,.int .i64 I]) ?_ 0 _ rfl;exact B.1⟩,⟨by repeat (first|(with_reducible first|exact HB.1|apply below_alloc|apply pw_below_drewN|apply below_drew1|refine below_set ?_ f4.1|refine below_set ?_ f5.1|refine below_set ?_ f6.1|refine below_set ?_ f7.1|refine below_set ?_ f8.1|refine below_set ?_ g8.1)|exact HB.1)⟩⟩
             ·
              replace r9:=Bool.eq_false_iff.mpr r9;subst r9;have H1:(bellpullref04_Divide.l1 k3 a9 d9 e4 true d7 (wrap64 (d1 + 1)) b2 c8 d2 d3 b3 b4 b5 b6 a1 X O I)=some (r1,r2,r3,r4,r5,r6,r7,r8):=by rw [if_neg (show ¬ (false=true) by decide)] at H;exact H
              clear H;have H:=H1;clear H1;have H':=mk0 H;clear H;obtain ⟨y9,z0,z1⟩:=Kd.R_slice Q.1;subst z1;go_wp2_with (first|((with_reducible refine gate_callee (f:=52) rfl ?_);refine goesL_ (some 77) rfl rfl Try.func52 (by kernel_rfl) rfl #[.slice y9 e5.length z0] rfl (by (try simp only [m0_,m1_,m2_]);first|done|rfl|(simp only [l0_,l1_];rfl)) ?_;(with_reducible refine (bellpullref04_Quat.calls _ _ e5 a8 b0 d0 d6 _ ?side1 ?side2 o7.1).mono ?_);(case side1=>repeat (first|exact (Kd.R_reads' Q.1).2.2|(with_reducible refine Kd.C_alloc ?_ _)|(with_reducible refine Kd.C_drewN ?_ _)|(with_reducible refine Kd.C_drew ?_)));(case side2=>exact (Kd.R_reads' Q.1).2.1);rintro e Fl ⟨rfl,hb⟩;refine ⟨_,rfl,?_⟩;replace T:=rbl T hb;replace Q:=rbl Q hb;replace C:=bkb C hb;replace D:=bkb D hb;replace E:=bkb E hb;replace F:=bkb F hb;replace B:=bkb B hb;replace HB:=bst HB hb;(try clear hb);(try clear hk))|((with_reducible refine gate_dst (N:=17) rfl ?_);refine box_event ?hg (N:=17) ?hd (cs:=#[.int .i64 0,.int .i64 0,.int .i64 0,.int .i64 0]) (t:=23) ?hr ?_;(case hd=>rfl);(case hg=>rfl);(case hr=>first|(go_simp;done)|(go_simp;rfl));intro a7 hg Fm c9 hb;have G:=mk0 (c9);have h7:=szw hg HB;have g8:=h7;have b9:=nlt hg C;have e9:=ngt hg C;have c0:=nlt hg D;have f0:=ngt hg D;have c5:=nlt hg E;have f1:=ngt hg E;have c6:=nlt hg F;have f2:=ngt hg F;have c7:=nlt hg B;have f3:=ngt hg B;replace T:=rbl T hb;replace Q:=rbl Q hb;replace C:=bkb C hb;replace D:=bkb D hb;replace E:=bkb E hb;replace F:=bkb F hb;replace B:=bkb B hb;replace HB:=bst HB hb;clear hb c9 hg;have Dc:=e9.1;have Dd:=b9.1;have De:=f0.1;have Df:=c0.1;have Dg:=f1.1;have Dh:=c5.1;have Di:=f2.1;have Dj:=c6.1;have Dk:=f3.1;have Dl:=c7.1;have U3:=q0_ G;have U4:=q1_ G;have U5:=q2_ G;have U6:=q3_ G;have U7:=blk_frozen G.1 0;have U8:=blk_frozen G.1 1;have U9:=blk_frozen G.1 2;have V0:=blk_frozen G.1 3;have Dm:=g3.1;have Dn:=e1.1;have Do:=g4.1;have Dp:=e2.1;have Dq:=U.1;have Dr:=b7.1;have Ds:=V.1;have Dt:=b8.1;have V1:=q0_ B;have V2:=q1_ B;have V3:=q2_ B;have V4:=q3_ B;have V5:=blk_frozen B.1 0;have V6:=blk_frozen B.1 1;have V7:=blk_frozen B.1 2;have V8:=blk_frozen B.1 3)|(go_at_call 36;(with_reducible refine (bellpullref04_Less.calls k3 a8 b0 d0 d6 a1 X O I false _ x7.1).mono ?_);rintro e Fn ⟨rfl,hb⟩;replace T:=mk0 (Kd.R_below (by (with_reducible repeat (first|apply Kd.R_alloc|apply Kd.R_drewN|apply Kd.R_drew));exact (Kd.R_mono (Kd.R_far (p:=⟨a7,3,none⟩) (Kd.R_far (p:=⟨a7,2,none⟩) (Kd.R_far (p:=⟨a7,1,none⟩) (Kd.R_far (p:=⟨a7,0,none⟩) (Kd.R_types T.1 G.1 (by decide)) (fun _ hk=>hk.2) (.int .i64 a8)) (fun _ hk=>hk.2) (.int .i64 b0)) (fun _ hk=>hk.2) (.int .i64 d0)) (fun _ hk=>hk.2) (.int .i64 d6)) (fun _ h_=>h_.1))) hb);replace Q:=mk0 (Kd.R_below (by (with_reducible repeat (first|apply Kd.R_alloc|apply Kd.R_drewN|apply Kd.R_drew));exact (Kd.R_mono (Kd.R_far (p:=⟨a7,3,none⟩) (Kd.R_far (p:=⟨a7,2,none⟩) (Kd.R_far (p:=⟨a7,1,none⟩) (Kd.R_far (p:=⟨a7,0,none⟩) (Kd.R_types Q.1 G.1 (by decide)) (fun _ hk=>hk.2) (.int .i64 a8)) (fun _ hk=>hk.2) (.int .i64 b0)) (fun _ hk=>hk.2) (.int .i64 d0)) (fun _ hk=>hk.2) (.int .i64 d6)) (fun _ h_=>h_.1))) hb);replace C:=mk0 (blk_below (g:=g0) (o:=.cells #[.int .i64 b2,.int .i64 c8,.int .i64 d2,.int .i64 d3] 23 (0,0)) (by (iterate 4 refine blk_far ?_ b9.1 _);exact C.1) hb);replace D:=mk0 (blk_below (g:=g7) (o:=.cells #[.int .i64 b3,.int .i64 b4,.int .i64 b5,.int .i64 b6] 23 (0,0)) (by (iterate 4 refine blk_far ?_ c0.1 _);exact D.1) hb);replace E:=mk0 (blk_below (g:=J) (o:=.cells #[.int .i64 0,.int .i64 0,.int .i64 0,.int .i64 0] 23 (0,0)) (by (iterate 4 refine blk_far ?_ c5.1 _);exact E.1) hb);replace F:=mk0 (blk_below (g:=L) (o:=.cells #[.int .i64 0,.int .i64 0,.int .i64 0,.int .i64 0] 23 (0,0)) (by (iterate 4 refine blk_far ?_ c6.1 _);exact F.1) hb);replace B:=mk0 (blk_below (g:=b1) (o:=.cells #[.int .i64 a1,.int .i64 X,.int .i64 O,.int .i64 I] 23 (0,0)) (by (iterate 4 refine blk_far ?_ c7.1 _);exact B.1) hb);replace G:=mk0 (blk_below (g:=a7) (o:=.cells #[.int .i64 a8,.int .i64 b0,.int .i64 d0,.int .i64 d6] 23 (0,0)) (by refine blk_put (cs:=#[.int .i64 a8,.int .i64 b0,.int .i64 d0,.int .i64 0]) ?_ 3 _ rfl;refine blk_put (cs:=#[.int .i64 a8,.int .i64 b0,.int .i64 0,.int .i64 0]) ?_ 2 _ rfl;refine blk_put (cs:=#[.int .i64 a8,.int .i64 0,.int .i64 0,.int .i64 0]) ?_ 1 _ rfl;refine blk_put (cs:=#[.int .i64 0,.int .i64 0,.int .i64 0,.int .i64 0]) ?_ 0 _ rfl;exact G.1) hb);replace HB:=mk0 (below_step (by repeat (with_reducible first|exact HB.1|refine below_set ?_ f4.1|refine below_set ?_ f5.1|refine below_set ?_ f6.1|refine below_set ?_ f7.1|refine below_set ?_ f8.1|refine below_set ?_ g8.1)) hb);(try clear hb);(try clear hk)))
              go_roundg k3
              case measure=>have:=i1.1;have:=i2.1;have:=i5.1;omega
              case rel=>exact ⟨(e4),(true),(wrap64 (d1 + 1)),(a1),(X),(O),(I),(by first|rfl|(simp;done)|(simp [*];done)),(by first|rfl|(simp;done)|(simp [*];done)),(by first|rfl|(simp;done)|(simp [*];done)),H',⟨by have:=i1.1;have:=i2.1;have:=i5.1;omega⟩,⟨by (with_reducible repeat (first|apply Kd.R_alloc|apply Kd.R_drewN|apply Kd.R_drew));exact Kd.R_mono T.1 (fun _ hk=>trivial)⟩,⟨by exact C.1⟩,⟨by exact D.1⟩,⟨by exact E.1⟩,⟨by exact F.1⟩,⟨by exact B.1⟩,⟨by repeat (first|(with_reducible first|exact HB.1|apply below_alloc|apply pw_below_drewN|apply below_drew1|refine below_set ?_ f4.1|refine below_set ?_ f5.1|refine below_set ?_ f6.1|refine below_set ?_ f7.1|refine below_set ?_ f8.1|refine below_set ?_ g8.1)|exact HB.1)⟩⟩
            ·
             rw [if_neg c54] at H;have c54b0:(d4 == e4)=false:=beq_eq_false_iff_ne.mpr c54;have c54b1:(d4 != e4)=true:=bne_iff_ne.mpr c54;have H':=mk0 H;clear H;obtain ⟨z2,z3,z4⟩:=Kd.R_slice Q.1;subst z4;go_wp2_with (first|((with_reducible refine gate_callee (f:=52) rfl ?_);refine goesL_ (some 77) rfl rfl Try.func52 (by kernel_rfl) rfl #[.slice z2 e5.length z3] rfl (by (try simp only [m0_,m1_,m2_]);first|done|rfl|(simp only [l0_,l1_];rfl)) ?_;(with_reducible refine (bellpullref04_Quat.calls _ _ e5 a8 b0 d0 d6 _ ?side1 ?side2 o7.1).mono ?_);(case side1=>repeat (first|exact (Kd.R_reads' Q.1).2.2|(with_reducible refine Kd.C_alloc ?_ _)|(with_reducible refine Kd.C_drewN ?_ _)|(with_reducible refine Kd.C_drew ?_)));(case side2=>exact (Kd.R_reads' Q.1).2.1);rintro e Fo ⟨rfl,hb⟩;refine ⟨_,rfl,?_⟩;replace T:=rbl T hb;replace Q:=rbl Q hb;replace C:=bkb C hb;replace D:=bkb D hb;replace E:=bkb E hb;replace F:=bkb F hb;replace B:=bkb B hb;replace HB:=bst HB hb;(try clear hb))|((with_reducible refine gate_dst (N:=17) rfl ?_);refine box_event ?hg (N:=17) ?hd (cs:=#[.int .i64 0,.int .i64 0,.int .i64 0,.int .i64 0]) (t:=23) ?hr ?_;(case hd=>rfl);(case hg=>rfl);(case hr=>first|(go_simp;done)|(go_simp;rfl));intro a7 hg Fp c9 hb;have G:=mk0 (c9);have h7:=szw hg HB;have g8:=h7;have b9:=nlt hg C;have e9:=ngt hg C;have c0:=nlt hg D;have f0:=ngt hg D;have c5:=nlt hg E;have f1:=ngt hg E;have c6:=nlt hg F;have f2:=ngt hg F;have c7:=nlt hg B;have f3:=ngt hg B;replace T:=rbl T hb;replace Q:=rbl Q hb;replace C:=bkb C hb;replace D:=bkb D hb;replace E:=bkb E hb;replace F:=bkb F hb;replace B:=bkb B hb;replace HB:=bst HB hb;clear hb c9 hg;have Du:=e9.1;have Dv:=b9.1;have Dw:=f0.1;have Dx:=c0.1;have Dy:=f1.1;have Dz:=c5.1;have Ea:=f2.1;have Eb:=c6.1;have Ec:=f3.1;have Ed:=c7.1;have V9:=q0_ G;have X0:=q1_ G;have X1:=q2_ G;have X2:=q3_ G;have X3:=blk_frozen G.1 0;have X4:=blk_frozen G.1 1;have X5:=blk_frozen G.1 2;have X6:=blk_frozen G.1 3));go_roundg k3
             case measure=>have:=i1.1;have:=i2.1;have:=i5.1;omega
             case rel=>exact ⟨(e4),(true),(wrap64 (d1 + 1)),(a1),(X),(O),(I),(by first|rfl|(simp;done)|(simp [*];done)),(by first|rfl|(simp;done)|(simp [*];done)),(by first|rfl|(simp;done)|(simp [*];done)),H',⟨by have:=i1.1;have:=i2.1;have:=i5.1;omega⟩,⟨by (with_reducible repeat (first|apply Kd.R_alloc|apply Kd.R_drewN|apply Kd.R_drew));exact Kd.R_mono (Kd.R_far (p:=⟨a7,3,none⟩) (Kd.R_far (p:=⟨a7,2,none⟩) (Kd.R_far (p:=⟨a7,1,none⟩) (Kd.R_far (p:=⟨a7,0,none⟩) (Kd.R_types T.1 G.1 (by decide)) (fun _ hk=>hk.2) (.int .i64 a8)) (fun _ hk=>hk.2) (.int .i64 b0)) (fun _ hk=>hk.2) (.int .i64 d0)) (fun _ hk=>hk.2) (.int .i64 d6)) (fun _ hk=>trivial)⟩,⟨by (iterate 4 refine blk_far ?_ b9.1 _);exact C.1⟩,⟨by (iterate 4 refine blk_far ?_ c0.1 _);exact D.1⟩,⟨by (iterate 4 refine blk_far ?_ c5.1 _);exact E.1⟩,⟨by (iterate 4 refine blk_far ?_ c6.1 _);exact F.1⟩,⟨by (iterate 4 refine blk_far ?_ c7.1 _);exact B.1⟩,⟨by repeat (first|(with_reducible first|exact HB.1|apply below_alloc|apply pw_below_drewN|apply below_drew1|refine below_set ?_ f4.1|refine below_set ?_ f5.1|refine below_set ?_ f6.1|refine below_set ?_ f7.1|refine below_set ?_ f8.1|refine below_set ?_ g8.1)|exact HB.1)⟩⟩
          ·
           replace r0:=Bool.eq_false_iff.mpr r0;subst r0;have H1:(bellpullref04_Divide.l1 k3 a9 d9 d4 true d7 (wrap64 (d1 + 1)) b2 c8 d2 d3 b3 b4 b5 b6 a8 b0 d0 d6)=some (r1,r2,r3,r4,r5,r6,r7,r8):=by rw [if_neg (show ¬ (false=true) by decide)] at H;exact H
           clear H;have H:=H1;clear H1;have H':=mk0 H;clear H;obtain ⟨z5,z6,z7⟩:=Kd.R_slice Q.1;subst z7;go_wp2_with (first|((with_reducible refine gate_callee (f:=52) rfl ?_);refine goesL_ (some 77) rfl rfl Try.func52 (by kernel_rfl) rfl #[.slice z5 e5.length z6] rfl (by (try simp only [m0_,m1_,m2_]);first|done|rfl|(simp only [l0_,l1_];rfl)) ?_;(with_reducible refine (bellpullref04_Quat.calls _ _ e5 a8 b0 d0 d6 _ ?side1 ?side2 o7.1).mono ?_);(case side1=>repeat (first|exact (Kd.R_reads' Q.1).2.2|(with_reducible refine Kd.C_alloc ?_ _)|(with_reducible refine Kd.C_drewN ?_ _)|(with_reducible refine Kd.C_drew ?_)));(case side2=>exact (Kd.R_reads' Q.1).2.1);rintro e Fq ⟨rfl,hb⟩;refine ⟨_,rfl,?_⟩;replace T:=rbl T hb;replace Q:=rbl Q hb;replace C:=bkb C hb;replace D:=bkb D hb;replace E:=bkb E hb;replace F:=bkb F hb;replace B:=bkb B hb;replace HB:=bst HB hb;(try clear hb))|((with_reducible refine gate_dst (N:=17) rfl ?_);refine box_event ?hg (N:=17) ?hd (cs:=#[.int .i64 0,.int .i64 0,.int .i64 0,.int .i64 0]) (t:=23) ?hr ?_;(case hd=>rfl);(case hg=>rfl);(case hr=>first|(go_simp;done)|(go_simp;rfl));intro a7 hg Eu c9 hb;have G:=mk0 (c9);have h7:=szw hg HB;have g8:=h7;have b9:=nlt hg C;have e9:=ngt hg C;have c0:=nlt hg D;have f0:=ngt hg D;have c5:=nlt hg E;have f1:=ngt hg E;have c6:=nlt hg F;have f2:=ngt hg F;have c7:=nlt hg B;have f3:=ngt hg B;replace T:=rbl T hb;replace Q:=rbl Q hb;replace C:=bkb C hb;replace D:=bkb D hb;replace E:=bkb E hb;replace F:=bkb F hb;replace B:=bkb B hb;replace HB:=bst HB hb;clear hb c9 hg;have Y6:=e9.1;have Y7:=b9.1;have Y8:=f0.1;have Y9:=c0.1;have Z0:=f1.1;have Z1:=c5.1;have Z2:=f2.1;have Z3:=c6.1;have Z4:=f3.1;have Z5:=c7.1;have z8:=q0_ G;have z9:=q1_ G;have A0:=q2_ G;have A1:=q3_ G;have A2:=blk_frozen G.1 0;have A7:=blk_frozen G.1 1;have A8:=blk_frozen G.1 2;have A9:=blk_frozen G.1 3;have Z6:=g3.1;have Z7:=e1.1;have Z8:=g4.1;have Z9:=e2.1;have Aa:=U.1;have Ab:=b7.1;have Ac:=V.1;have Ad:=b8.1;have B0:=q0_ B;have B1:=q1_ B;have B2:=q2_ B;have B3:=q3_ B;have B4:=blk_frozen B.1 0;have B5:=blk_frozen B.1 1;have B6:=blk_frozen B.1 2;have B7:=blk_frozen B.1 3));go_roundg k3
           case measure=>have:=i1.1;have:=i2.1;have:=i5.1;omega
           case rel=>exact ⟨(d4),(true),(wrap64 (d1 + 1)),(a8),(b0),(d0),(d6),(by first|rfl|(simp;done)|(simp [*];done)),(by first|rfl|(simp;done)|(simp [*];done)),(by first|rfl|(simp;done)|(simp [*];done)),H',⟨by have:=i1.1;have:=i2.1;have:=i5.1;omega⟩,⟨by (with_reducible repeat (first|apply Kd.R_alloc|apply Kd.R_drewN|apply Kd.R_drew));exact Kd.R_mono (Kd.R_far (p:=⟨b1,3,none⟩) (Kd.R_far (p:=⟨b1,2,none⟩) (Kd.R_far (p:=⟨b1,1,none⟩) (Kd.R_far (p:=⟨b1,0,none⟩) (Kd.R_far (p:=⟨a7,3,none⟩) (Kd.R_far (p:=⟨a7,2,none⟩) (Kd.R_far (p:=⟨a7,1,none⟩) (Kd.R_far (p:=⟨a7,0,none⟩) (Kd.R_types (Kd.R_types T.1 G.1 (by decide)) B.1 (by decide)) (fun _ hk=>hk.1.2) (.int .i64 a8)) (fun _ hk=>hk.1.2) (.int .i64 b0)) (fun _ hk=>hk.1.2) (.int .i64 d0)) (fun _ hk=>hk.1.2) (.int .i64 d6)) (fun _ hk=>hk.2) (.int .i64 a8)) (fun _ hk=>hk.2) (.int .i64 b0)) (fun _ hk=>hk.2) (.int .i64 d0)) (fun _ hk=>hk.2) (.int .i64 d6)) (fun _ hk=>trivial)⟩,⟨by (iterate 4 refine blk_far ?_ e1.1 _);(iterate 4 refine blk_far ?_ b9.1 _);exact C.1⟩,⟨by (iterate 4 refine blk_far ?_ e2.1 _);(iterate 4 refine blk_far ?_ c0.1 _);exact D.1⟩,⟨by (iterate 4 refine blk_far ?_ b7.1 _);(iterate 4 refine blk_far ?_ c5.1 _);exact E.1⟩,⟨by (iterate 4 refine blk_far ?_ b8.1 _);(iterate 4 refine blk_far ?_ c6.1 _);exact F.1⟩,⟨by refine blk_put (cs:=#[.int .i64 a8,.int .i64 b0,.int .i64 d0,.int .i64 I]) ?_ 3 _ rfl;refine blk_put (cs:=#[.int .i64 a8,.int .i64 b0,.int .i64 O,.int .i64 I]) ?_ 2 _ rfl;refine blk_put (cs:=#[.int .i64 a8,.int .i64 X,.int .i64 O,.int .i64 I]) ?_ 1 _ rfl;refine blk_put (cs:=#[.int .i64 a1,.int .i64 X,.int .i64 O,.int .i64 I]) ?_ 0 _ rfl;(iterate 4 refine blk_far ?_ c7.1 _);exact B.1⟩,⟨by repeat (first|(with_reducible first|exact HB.1|apply below_alloc|apply pw_below_drewN|apply below_drew1|refine below_set ?_ f4.1|refine below_set ?_ f5.1|refine below_set ?_ f6.1|refine below_set ?_ f7.1|refine below_set ?_ f8.1|refine below_set ?_ g8.1)|exact HB.1)⟩⟩
      ·
       rw [if_neg c23] at H;have c23b0:decide (d1 < 16)=false:=decide_eq_false c23;clear c23;have H':=mk0 H;clear H;go_wp2;go_roundg k2
       case measure=>have:=i1.1;have:=i2.1;omega
       case rel=>exact ⟨(e4),(h6),(wrap64 (d7 + 1)),(a1),(X),(O),(I),(by first|rfl|(simp;done)|(simp [*];done)),(by first|rfl|(simp;done)|(simp [*];done)),(by first|rfl|(simp;done)|(simp [*];done)),H',⟨by have:=i1.1;have:=i2.1;omega⟩,⟨by (with_reducible repeat (first|apply Kd.R_alloc|apply Kd.R_drewN|apply Kd.R_drew));exact T.1⟩,⟨by exact C.1⟩,⟨by exact D.1⟩,⟨by exact E.1⟩,⟨by exact F.1⟩,⟨by exact B.1⟩,⟨by repeat (first|(with_reducible first|exact HB.1|apply below_alloc|apply pw_below_drewN|apply below_drew1|refine below_set ?_ f4.1|refine below_set ?_ f5.1|refine below_set ?_ f6.1|refine below_set ?_ f7.1|refine below_set ?_ f8.1)|exact HB.1)⟩⟩
   ·
    rw [if_neg c22] at H;have c22b0:decide (d7 < 2)=false:=decide_eq_false c22;clear c22;replace H:=Option.bind_eq_some_iff.mp H;obtain ⟨⟨f9,g1,g2,g9⟩,t0,H⟩:=H;(try dsimp only at H);have B8:=mk0 t0;clear t0;simp only [Option.some.injEq,Prod.mk.injEq] at H;obtain ⟨rfl,rfl,rfl,rfl,rfl,rfl,rfl,rfl⟩:=H;have Ae:=g3.1;have Af:=e1.1;have Ag:=g4.1;have Ah:=e2.1;have Ai:=U.1;have Aj:=b7.1;have Ak:=V.1;have Al:=b8.1;have B9:=q0_ B;have C0:=q1_ B;have C1:=q2_ B;have C2:=q3_ B;have C3:=blk_frozen B.1 0;have C4:=blk_frozen B.1 1;have C5:=blk_frozen B.1 2;have C6:=blk_frozen B.1 3;have Am:=o6.1;have An:=o5.1;have Ao:=h1.1;have Ap:=h2.1;have Aq:=h3.1;have Ar:=h4.1;have C7:=q0_ D;have C8:=q1_ D;have C9:=q2_ D;have D0:=q3_ D;have D1:=blk_frozen D.1 0;have D2:=blk_frozen D.1 1;have D3:=blk_frozen D.1 2;have D4:=blk_frozen D.1 3;try go_wp2_with (first|((with_reducible refine gate_callee (f:=33) rfl ?_);refine goesL_ (some 99) rfl rfl Try.func33 (by kernel_rfl) rfl #[.agg #[.int .i64 d5,.int .i64 d8,.int .i64 e3,.int .i64 e8],.agg #[.int .i64 b3,.int .i64 b4,.int .i64 b5,.int .i64 b6]] rfl (by (try simp only [m0_,m1_,m2_]);first|done|rfl|(simp only [l0_,l1_];rfl)) ?_;(with_reducible refine (bellpullref04_Mul.calls d5 d8 e3 e8 b3 b4 b5 b6 f9 g1 g2 g9 _ B8.1).mono ?_);rintro e Ev ⟨rfl,hb⟩;refine ⟨_,rfl,?_⟩;replace T:=rbl T hb;replace C:=bkb C hb;replace D:=bkb D hb;replace E:=bkb E hb;replace F:=bkb F hb;replace B:=bkb B hb;replace HB:=bst HB hb;(try clear hb))|((with_reducible refine gate_dst (N:=18) rfl ?_);refine box_event ?hg (N:=18) ?hd (cs:=#[.int .i64 0,.int .i64 0,.int .i64 0,.int .i64 0]) (t:=23) ?hr ?_;(case hd=>rfl);(case hg=>rfl);(case hr=>first|(go_simp;done)|(go_simp;rfl));intro Y hg i4 c9 hb;have e0:=mk0 (c9);have v8:=szw hg HB;have t1:=v8;have m3:=nlt hg C;have o8:=ngt hg C;have m4:=nlt hg D;have o9:=ngt hg D;have g5:=nlt hg E;have a3:=ngt hg E;have g6:=nlt hg F;have a4:=ngt hg F;have m5:=nlt hg B;have p0:=ngt hg B;replace T:=rbl T hb;replace C:=bkb C hb;replace D:=bkb D hb;replace E:=bkb E hb;replace F:=bkb F hb;replace B:=bkb B hb;replace HB:=bst HB hb;clear hb c9 hg;have As:=o8.1;have At:=m3.1;have Au:=o9.1;have Av:=m4.1;have Aw:=a3.1;have Ax:=g5.1;have Ay:=a4.1;have Az:=g6.1;have Ba:=p0.1;have Bb:=m5.1;have D5:=q0_ e0;have D6:=q1_ e0;have D7:=q2_ e0;have D8:=q3_ e0;have D9:=blk_frozen e0.1 0;have E0:=blk_frozen e0.1 1;have E1:=blk_frozen e0.1 2;have E2:=blk_frozen e0.1 3))
    have t9:Aside0 (Kd.R (Kd.int .i64) 3 ((((i4.setCell ⟨Y,0,none⟩ (.int .i64 f9)).setCell ⟨Y,1,none⟩ (.int .i64 g1)).setCell ⟨Y,2,none⟩ (.int .i64 g2)).setCell ⟨Y,3,none⟩ (.int .i64 g9)) w.heap.size (fun _=>True) n8 a9):=⟨by (with_reducible repeat (first|apply Kd.R_alloc|apply Kd.R_drewN|apply Kd.R_drew));exact Kd.R_mono (Kd.R_far (p:=⟨Y,3,none⟩) (Kd.R_far (p:=⟨Y,2,none⟩) (Kd.R_far (p:=⟨Y,1,none⟩) (Kd.R_far (p:=⟨Y,0,none⟩) (Kd.R_types T.1 e0.1 (by decide)) (fun _ hk=>hk.2) (.int .i64 f9)) (fun _ hk=>hk.2) (.int .i64 g1)) (fun _ hk=>hk.2) (.int .i64 g2)) (fun _ hk=>hk.2) (.int .i64 g9)) (fun _ hk=>trivial)⟩
    have u0:Aside0 (((((i4.setCell ⟨Y,0,none⟩ (.int .i64 f9)).setCell ⟨Y,1,none⟩ (.int .i64 g1)).setCell ⟨Y,2,none⟩ (.int .i64 g2)).setCell ⟨Y,3,none⟩ (.int .i64 g9)).heap[g0]?=some (.cells #[.int .i64 b2,.int .i64 c8,.int .i64 d2,.int .i64 d3] 23 (0,0))):=⟨by (iterate 4 refine blk_far ?_ m3.1 _);exact C.1⟩
    have u1:Aside0 (((((i4.setCell ⟨Y,0,none⟩ (.int .i64 f9)).setCell ⟨Y,1,none⟩ (.int .i64 g1)).setCell ⟨Y,2,none⟩ (.int .i64 g2)).setCell ⟨Y,3,none⟩ (.int .i64 g9)).heap[g7]?=some (.cells #[.int .i64 b3,.int .i64 b4,.int .i64 b5,.int .i64 b6] 23 (0,0))):=⟨by (iterate 4 refine blk_far ?_ m4.1 _);exact D.1⟩
    have u2:Aside0 (((((i4.setCell ⟨Y,0,none⟩ (.int .i64 f9)).setCell ⟨Y,1,none⟩ (.int .i64 g1)).setCell ⟨Y,2,none⟩ (.int .i64 g2)).setCell ⟨Y,3,none⟩ (.int .i64 g9)).heap[J]?=some (.cells #[.int .i64 0,.int .i64 0,.int .i64 0,.int .i64 0] 23 (0,0))):=⟨by (iterate 4 refine blk_far ?_ g5.1 _);exact E.1⟩
    have u3:Aside0 (((((i4.setCell ⟨Y,0,none⟩ (.int .i64 f9)).setCell ⟨Y,1,none⟩ (.int .i64 g1)).setCell ⟨Y,2,none⟩ (.int .i64 g2)).setCell ⟨Y,3,none⟩ (.int .i64 g9)).heap[L]?=some (.cells #[.int .i64 0,.int .i64 0,.int .i64 0,.int .i64 0] 23 (0,0))):=⟨by (iterate 4 refine blk_far ?_ g6.1 _);exact F.1⟩
    have u4:Aside0 (((((i4.setCell ⟨Y,0,none⟩ (.int .i64 f9)).setCell ⟨Y,1,none⟩ (.int .i64 g1)).setCell ⟨Y,2,none⟩ (.int .i64 g2)).setCell ⟨Y,3,none⟩ (.int .i64 g9)).heap[b1]?=some (.cells #[.int .i64 d5,.int .i64 d8,.int .i64 e3,.int .i64 e8] 23 (0,0))):=⟨by (iterate 4 refine blk_far ?_ m5.1 _);exact B.1⟩
    have u5:Aside0 (((((i4.setCell ⟨Y,0,none⟩ (.int .i64 f9)).setCell ⟨Y,1,none⟩ (.int .i64 g1)).setCell ⟨Y,2,none⟩ (.int .i64 g2)).setCell ⟨Y,3,none⟩ (.int .i64 g9)).heap[Y]?=some (.cells #[.int .i64 f9,.int .i64 g1,.int .i64 g2,.int .i64 g9] 23 (0,0))):=⟨by refine blk_put (cs:=#[.int .i64 f9,.int .i64 g1,.int .i64 g2,.int .i64 0]) ?_ 3 _ rfl;refine blk_put (cs:=#[.int .i64 f9,.int .i64 g1,.int .i64 0,.int .i64 0]) ?_ 2 _ rfl;refine blk_put (cs:=#[.int .i64 f9,.int .i64 0,.int .i64 0,.int .i64 0]) ?_ 1 _ rfl;refine blk_put (cs:=#[.int .i64 0,.int .i64 0,.int .i64 0,.int .i64 0]) ?_ 0 _ rfl;exact e0.1⟩
    have u6:Aside0 (Below w.heap.size w ((((i4.setCell ⟨Y,0,none⟩ (.int .i64 f9)).setCell ⟨Y,1,none⟩ (.int .i64 g1)).setCell ⟨Y,2,none⟩ (.int .i64 g2)).setCell ⟨Y,3,none⟩ (.int .i64 g9))):=⟨by repeat (first|(with_reducible first|exact HB.1|apply below_alloc|apply pw_below_drewN|apply below_drew1|refine below_set ?_ f4.1|refine below_set ?_ f5.1|refine below_set ?_ f6.1|refine below_set ?_ f7.1|refine below_set ?_ f8.1|refine below_set ?_ t1.1)|exact HB.1)⟩
    (try clear T);(try clear C);(try clear D);(try clear E);(try clear F);(try clear B);(try clear e0);(try clear HB);generalize ((((i4.setCell ⟨Y,0,none⟩ (.int .i64 f9)).setCell ⟨Y,1,none⟩ (.int .i64 g1)).setCell ⟨Y,2,none⟩ (.int .i64 g2)).setCell ⟨Y,3,none⟩ (.int .i64 g9))=E3 at t9 u0 u1 u2 u3 u4 u5 u6 ⊢;have T:=t9;have C:=u0;have D:=u1;have E:=u2;have F:=u3;have B:=u4;have e0:=u5;have HB:=u6;clear t9 u0 u1 u2 u3 u4 u5 u6;replace T:=rdr T;replace C:=bdr C;replace D:=bdr D;replace E:=bdr E;replace F:=bdr F;replace B:=bdr B;replace e0:=bdr e0;replace HB:=hdr HB;refine start_ (n:=24) (S:=fun w'=>w'.cell? ⟨b1,0,none⟩=some (.int .i64 d5)∧w'.cell? ⟨b1,1,none⟩=some (.int .i64 d8)∧w'.cell? ⟨b1,2,none⟩=some (.int .i64 e3)∧w'.cell? ⟨b1,3,none⟩=some (.int .i64 e8)∧w'.cell? ⟨g0,0,none⟩=some (.int .i64 b2)∧w'.cell? ⟨g0,1,none⟩=some (.int .i64 c8)∧w'.cell? ⟨g0,2,none⟩=some (.int .i64 d2)∧w'.cell? ⟨g0,3,none⟩=some (.int .i64 d3)∧w'.cell? ⟨Y,0,none⟩=some (.int .i64 f9)∧w'.cell? ⟨Y,1,none⟩=some (.int .i64 g1)∧w'.cell? ⟨Y,2,none⟩=some (.int .i64 g2)∧w'.cell? ⟨Y,3,none⟩=some (.int .i64 g9)) (ds:=[]) #[n_,n_,n_,n_,n_,n_,n_,n_,n_,n_,n_,n_,n_,n_,n_,n_,n_,n_,n_,n_,n_,n_,n_,n_] (by kernel_rfl) rfl rfl ⟨q0_ B,q1_ B,q2_ B,q3_ B,q0_ C,q1_ C,q2_ C,q3_ C,q0_ e0,q1_ e0,q2_ e0,q3_ e0⟩ (fun M=>?_);refine with_tabW bellpullref04_Divide.tab20 bellpullref04_Divide.bits20 (fun Z h0=>?_);generalize E3.drew=Ew at T C D E F B e0 HB M ⊢;refine pure_ (i:=1) (N:=some 101) (v:=?_) (a':=?_) #[n_,y_,n_,n_,n_,n_,n_,n_,n_,n_,n_,n_,n_,n_,n_,n_,n_,n_,n_,n_,n_,n_,n_,n_] rfl rfl (any_of Z.1 (by kernel_rfl)) (fun _ _ _ h=>h) (Or.inl ⟨by rfl,?_⟩) ?_ ?_;rotate_left
    ·
     intro w';go_simp;with_reducible rfl
    rotate_left
    ·
     simp only [Act.put,s0_,s1_,s2_,i64_w,i32_w];rfl
    refine pure_ (i:=3) (N:=some 103) (v:=?_) (a':=?_) #[n_,y_,n_,y_,n_,n_,n_,n_,n_,n_,n_,n_,n_,n_,n_,n_,n_,n_,n_,n_,n_,n_,n_,n_] rfl rfl (any_of Z.1 (by kernel_rfl)) (fun _ _ _ h=>h) (Or.inl ⟨by rfl,?_⟩) ?_ ?_;rotate_left
    ·
     intro w';go_simp;with_reducible rfl
    rotate_left
    ·
     simp only [Act.put,s0_,s1_,s2_,i64_w,i32_w];rfl
    refine pure_ (i:=6) (N:=some 106) (v:=?_) (a':=?_) #[n_,y_,n_,y_,n_,n_,y_,n_,n_,n_,n_,n_,n_,n_,n_,n_,n_,n_,n_,n_,n_,n_,n_,n_] rfl rfl (any_of Z.1 (by kernel_rfl)) (fun _ _ _ h=>h) (Or.inl ⟨by rfl,?_⟩) ?_ ?_;rotate_left
    ·
     intro w';go_simp;with_reducible rfl
    rotate_left
    ·
     simp only [Act.put,s0_,s1_,s2_,i64_w,i32_w];rfl
    refine pure_ (i:=8) (N:=some 108) (v:=?_) (a':=?_) #[n_,y_,n_,y_,n_,n_,y_,n_,y_,n_,n_,n_,n_,n_,n_,n_,n_,n_,n_,n_,n_,n_,n_,n_] rfl rfl (any_of Z.1 (by kernel_rfl)) (fun _ _ _ h=>h) (Or.inl ⟨by rfl,?_⟩) ?_ ?_;rotate_left
    ·
     intro w';go_simp;with_reducible rfl
    rotate_left
    ·
     simp only [Act.put,s0_,s1_,s2_,i64_w,i32_w];rfl
    refine pure_ (i:=11) (N:=some 111) (v:=?_) (a':=?_) #[n_,y_,n_,y_,n_,n_,y_,n_,y_,n_,n_,y_,n_,n_,n_,n_,n_,n_,n_,n_,n_,n_,n_,n_] rfl rfl (any_of Z.1 (by kernel_rfl)) (fun _ _ _ h=>h) (Or.inl ⟨by rfl,?_⟩) ?_ ?_;rotate_left
    ·
     intro w';go_simp;with_reducible rfl
    rotate_left
    ·
     simp only [Act.put,s0_,s1_,s2_,i64_w,i32_w];rfl
    refine pure_ (i:=13) (N:=some 113) (v:=?_) (a':=?_) #[n_,y_,n_,y_,n_,n_,y_,n_,y_,n_,n_,y_,n_,y_,n_,n_,n_,n_,n_,n_,n_,n_,n_,n_] rfl rfl (any_of Z.1 (by kernel_rfl)) (fun _ _ _ h=>h) (Or.inl ⟨by rfl,?_⟩) ?_ ?_;rotate_left
    ·
     intro w';go_simp;with_reducible rfl
    rotate_left
    ·
     simp only [Act.put,s0_,s1_,s2_,i64_w,i32_w];rfl
    refine pure_ (i:=16) (N:=some 116) (v:=?_) (a':=?_) #[n_,y_,n_,y_,n_,n_,y_,n_,y_,n_,n_,y_,n_,y_,n_,n_,y_,n_,n_,n_,n_,n_,n_,n_] rfl rfl (any_of Z.1 (by kernel_rfl)) (fun _ _ _ h=>h) (Or.inl ⟨by rfl,?_⟩) ?_ ?_;rotate_left
    ·
     intro w';go_simp;with_reducible rfl
    rotate_left
    ·
     simp only [Act.put,s0_,s1_,s2_,i64_w,i32_w];rfl
    refine pure_ (i:=18) (N:=some 118) (v:=?_) (a':=?_) #[n_,y_,n_,y_,n_,n_,y_,n_,y_,n_,n_,y_,n_,y_,n_,n_,y_,n_,y_,n_,n_,n_,n_,n_] rfl rfl (any_of Z.1 (by kernel_rfl)) (fun _ _ _ h=>h) (Or.inl ⟨by rfl,?_⟩) ?_ ?_;rotate_left
    ·
     intro w';go_simp;with_reducible rfl
    rotate_left
    ·
     simp only [Act.put,s0_,s1_,s2_,i64_w,i32_w];rfl
    refine take_ (i:=0) (N:=some 100) (v:=?_) (a':=?_) #[y_,y_,n_,y_,n_,n_,y_,n_,y_,n_,n_,y_,n_,y_,n_,n_,y_,n_,y_,n_,n_,n_,n_,n_] rfl rfl (take_ofW Z.1 h0.1 (by kernel_rfl)) (fun _ _ _ h=>h) (Or.inl ⟨by rfl,?_⟩) M ?_ ?_;rotate_left
    ·
     rintro w' ⟨s0,s1,s2,s3,s4,s5,s6,s7,s8,s9,m6,m7⟩;go_simp;with_reducible rfl
    rotate_left
    ·
     simp only [Act.put,s0_,s1_,s2_,i64_w,i32_w];rfl
    refine take_ (i:=2) (N:=some 102) (v:=?_) (a':=?_) #[y_,y_,y_,y_,n_,n_,y_,n_,y_,n_,n_,y_,n_,y_,n_,n_,y_,n_,y_,n_,n_,n_,n_,n_] rfl rfl (take_ofW Z.1 h0.1 (by kernel_rfl)) (fun _ _ _ h=>h) (Or.inl ⟨by rfl,?_⟩) M ?_ ?_;rotate_left
    ·
     rintro w' ⟨s0,s1,s2,s3,s4,s5,s6,s7,s8,s9,m6,m7⟩;go_simp;with_reducible rfl
    rotate_left
    ·
     simp only [Act.put,s0_,s1_,s2_,i64_w,i32_w];rfl
    refine take_ (i:=4) (N:=some 104) (v:=?_) (a':=?_) #[y_,y_,y_,y_,y_,n_,y_,n_,y_,n_,n_,y_,n_,y_,n_,n_,y_,n_,y_,n_,n_,n_,n_,n_] rfl rfl (take_ofW Z.1 h0.1 (by kernel_rfl)) (fun _ _ _ h=>h) (Or.inl ⟨by rfl,?_⟩) M ?_ ?_;rotate_left
    ·
     rintro w' ⟨s0,s1,s2,s3,s4,s5,s6,s7,s8,s9,m6,m7⟩;go_simp;with_reducible rfl
    rotate_left
    ·
     simp only [Act.put,s0_,s1_,s2_,i64_w,i32_w];rfl
    refine pure_ (i:=5) (N:=some 105) (v:=?_) (a':=?_) #[y_,y_,y_,y_,y_,y_,y_,n_,y_,n_,n_,y_,n_,y_,n_,n_,y_,n_,y_,n_,n_,n_,n_,n_] rfl rfl (any_of Z.1 (by kernel_rfl)) (fun _ _ _ h=>h) (Or.inl ⟨by rfl,?_⟩) ?_ ?_;rotate_left
    ·
     intro w';go_simp;with_reducible rfl
    rotate_left
    ·
     simp only [Act.put,s0_,s1_,s2_,i64_w,i32_w];rfl
    refine take_ (i:=7) (N:=some 107) (v:=?_) (a':=?_) #[y_,y_,y_,y_,y_,y_,y_,y_,y_,n_,n_,y_,n_,y_,n_,n_,y_,n_,y_,n_,n_,n_,n_,n_] rfl rfl (take_ofW Z.1 h0.1 (by kernel_rfl)) (fun _ _ _ h=>h) (Or.inl ⟨by rfl,?_⟩) M ?_ ?_;rotate_left
    ·
     rintro w' ⟨s0,s1,s2,s3,s4,s5,s6,s7,s8,s9,m6,m7⟩;go_simp;with_reducible rfl
    rotate_left
    ·
     simp only [Act.put,s0_,s1_,s2_,i64_w,i32_w];rfl
    refine take_ (i:=9) (N:=some 109) (v:=?_) (a':=?_) #[y_,y_,y_,y_,y_,y_,y_,y_,y_,y_,n_,y_,n_,y_,n_,n_,y_,n_,y_,n_,n_,n_,n_,n_] rfl rfl (take_ofW Z.1 h0.1 (by kernel_rfl)) (fun _ _ _ h=>h) (Or.inl ⟨by rfl,?_⟩) M ?_ ?_;rotate_left
    ·
     rintro w' ⟨s0,s1,s2,s3,s4,s5,s6,s7,s8,s9,m6,m7⟩;go_simp;with_reducible rfl
    rotate_left
    ·
     simp only [Act.put,s0_,s1_,s2_,i64_w,i32_w];rfl
    refine pure_ (i:=10) (N:=some 110) (v:=?_) (a':=?_) #[y_,y_,y_,y_,y_,y_,y_,y_,y_,y_,y_,y_,n_,y_,n_,n_,y_,n_,y_,n_,n_,n_,n_,n_] rfl rfl (any_of Z.1 (by kernel_rfl)) (fun _ _ _ h=>h) (Or.inl ⟨by rfl,?_⟩) ?_ ?_;rotate_left
    ·
     intro w';go_simp;with_reducible rfl
    rotate_left
    ·
     simp only [Act.put,s0_,s1_,s2_,i64_w,i32_w];rfl
    refine take_ (i:=12) (N:=some 112) (v:=?_) (a':=?_) #[y_,y_,y_,y_,y_,y_,y_,y_,y_,y_,y_,y_,y_,y_,n_,n_,y_,n_,y_,n_,n_,n_,n_,n_] rfl rfl (take_ofW Z.1 h0.1 (by kernel_rfl)) (fun _ _ _ h=>h) (Or.inl ⟨by rfl,?_⟩) M ?_ ?_;rotate_left
    ·
     rintro w' ⟨s0,s1,s2,s3,s4,s5,s6,s7,s8,s9,m6,m7⟩;go_simp;with_reducible rfl
    rotate_left
    ·
     simp only [Act.put,s0_,s1_,s2_,i64_w,i32_w];rfl
    refine take_ (i:=14) (N:=some 114) (v:=?_) (a':=?_) #[y_,y_,y_,y_,y_,y_,y_,y_,y_,y_,y_,y_,y_,y_,y_,n_,y_,n_,y_,n_,n_,n_,n_,n_] rfl rfl (take_ofW Z.1 h0.1 (by kernel_rfl)) (fun _ _ _ h=>h) (Or.inl ⟨by rfl,?_⟩) M ?_ ?_;rotate_left
    ·
     rintro w' ⟨s0,s1,s2,s3,s4,s5,s6,s7,s8,s9,m6,m7⟩;go_simp;with_reducible rfl
    rotate_left
    ·
     simp only [Act.put,s0_,s1_,s2_,i64_w,i32_w];rfl
    refine pure_ (i:=15) (N:=some 115) (v:=?_) (a':=?_) #[y_,y_,y_,y_,y_,y_,y_,y_,y_,y_,y_,y_,y_,y_,y_,y_,y_,n_,y_,n_,n_,n_,n_,n_] rfl rfl (any_of Z.1 (by kernel_rfl)) (fun _ _ _ h=>h) (Or.inl ⟨by rfl,?_⟩) ?_ ?_;rotate_left
    ·
     intro w';go_simp;with_reducible rfl
    rotate_left
    ·
     simp only [Act.put,s0_,s1_,s2_,i64_w,i32_w];rfl
    refine take_ (i:=17) (N:=some 117) (v:=?_) (a':=?_) #[y_,y_,y_,y_,y_,y_,y_,y_,y_,y_,y_,y_,y_,y_,y_,y_,y_,y_,y_,n_,n_,n_,n_,n_] rfl rfl (take_ofW Z.1 h0.1 (by kernel_rfl)) (fun _ _ _ h=>h) (Or.inl ⟨by rfl,?_⟩) M ?_ ?_;rotate_left
    ·
     rintro w' ⟨s0,s1,s2,s3,s4,s5,s6,s7,s8,s9,m6,m7⟩;go_simp;with_reducible rfl
    rotate_left
    ·
     simp only [Act.put,s0_,s1_,s2_,i64_w,i32_w];rfl
    refine take_ (i:=19) (N:=some 119) (v:=?_) (a':=?_) #[y_,y_,y_,y_,y_,y_,y_,y_,y_,y_,y_,y_,y_,y_,y_,y_,y_,y_,y_,y_,n_,n_,n_,n_] rfl rfl (take_ofW Z.1 h0.1 (by kernel_rfl)) (fun _ _ _ h=>h) (Or.inl ⟨by rfl,?_⟩) M ?_ ?_;rotate_left
    ·
     rintro w' ⟨s0,s1,s2,s3,s4,s5,s6,s7,s8,s9,m6,m7⟩;go_simp;with_reducible rfl
    rotate_left
    ·
     simp only [Act.put,s0_,s1_,s2_,i64_w,i32_w];rfl
    refine pure_ (i:=20) (N:=some 120) (v:=?_) (a':=?_) #[y_,y_,y_,y_,y_,y_,y_,y_,y_,y_,y_,y_,y_,y_,y_,y_,y_,y_,y_,y_,y_,n_,n_,n_] rfl rfl (any_of Z.1 (by kernel_rfl)) (fun _ _ _ h=>h) (Or.inl ⟨by rfl,?_⟩) ?_ ?_;rotate_left
    ·
     intro w';go_simp;with_reducible rfl
    rotate_left
    ·
     simp only [Act.put,s0_,s1_,s2_,i64_w,i32_w];rfl
    refine pure_ (i:=21) (N:=some 121) (v:=?_) (a':=?_) #[y_,y_,y_,y_,y_,y_,y_,y_,y_,y_,y_,y_,y_,y_,y_,y_,y_,y_,y_,y_,y_,y_,n_,n_] rfl rfl (any_of Z.1 (by kernel_rfl)) (fun _ _ _ h=>h) (Or.inl ⟨by rfl,?_⟩) ?_ ?_;rotate_left
    ·
     intro w';go_simp;with_reducible rfl
    rotate_left
    ·
     simp only [Act.put,s0_,s1_,s2_,i64_w,i32_w];rfl
    refine one_ (i:=22) (N:=none) #[y_,y_,y_,y_,y_,y_,y_,y_,y_,y_,y_,y_,y_,y_,y_,y_,y_,y_,y_,y_,y_,y_,y_,n_] rfl rfl (one_of Z.1 (by kernel_rfl)) (by decide) (fun K hK=>?_);have Ee:=q0_ E;have Bc:=blk_frozen E.1 0;have E4:=a5.1;have E5:=h1.1;have E6:=e7.1;have E7:=U.1;have E8:=a3.1;have E9:=h9.1;have F0:=h2.1;have F1:=e6.1;have F2:=b7.1;have F3:=g5.1;have Ef:=q1_ E;have Bd:=blk_frozen E.1 1;have F4:=a5.1;have F5:=h1.1;have F6:=e7.1;have F7:=U.1;have F8:=a3.1;have F9:=h9.1;have G0:=h2.1;have G1:=e6.1;have G2:=b7.1;have G3:=g5.1;have Eg:=q2_ E;have Be:=blk_frozen E.1 2;have G4:=a5.1;have G5:=h1.1;have G6:=e7.1;have G7:=U.1;have G8:=a3.1;have G9:=h9.1;have H0:=h2.1;have H2:=e6.1;have H3:=b7.1;have H4:=g5.1;have Eh:=q3_ E;have Bf:=blk_frozen E.1 3;have H5:=a5.1;have H6:=h1.1;have H7:=e7.1;have H8:=U.1;have H9:=a3.1;have I0:=h9.1;have I1:=h2.1;have I2:=e6.1;have I3:=b7.1;have I4:=g5.1;refine skip_ (w1:=?_) (by rfl) rfl ?_ ?_;rotate_left
    ·
     go_simp;rfl
    refine hK.out _ _ ⟨((cell_far (p:=⟨J,_,none⟩) U.1 _).trans (((cell_far (p:=⟨J,_,none⟩) U.1 _).trans (((cell_far (p:=⟨J,_,none⟩) U.1 _).trans (((cell_far (p:=⟨J,_,none⟩) U.1 _).trans (M.1)))))))),((cell_far (p:=⟨J,_,none⟩) U.1 _).trans (((cell_far (p:=⟨J,_,none⟩) U.1 _).trans (((cell_far (p:=⟨J,_,none⟩) U.1 _).trans (((cell_far (p:=⟨J,_,none⟩) U.1 _).trans (M.2.1)))))))),((cell_far (p:=⟨J,_,none⟩) U.1 _).trans (((cell_far (p:=⟨J,_,none⟩) U.1 _).trans (((cell_far (p:=⟨J,_,none⟩) U.1 _).trans (((cell_far (p:=⟨J,_,none⟩) U.1 _).trans (M.2.2.1)))))))),((cell_far (p:=⟨J,_,none⟩) U.1 _).trans (((cell_far (p:=⟨J,_,none⟩) U.1 _).trans (((cell_far (p:=⟨J,_,none⟩) U.1 _).trans (((cell_far (p:=⟨J,_,none⟩) U.1 _).trans (M.2.2.2.1)))))))),((cell_far (p:=⟨J,_,none⟩) a5.1 _).trans (((cell_far (p:=⟨J,_,none⟩) a5.1 _).trans (((cell_far (p:=⟨J,_,none⟩) a5.1 _).trans (((cell_far (p:=⟨J,_,none⟩) a5.1 _).trans (M.2.2.2.2.1)))))))),((cell_far (p:=⟨J,_,none⟩) a5.1 _).trans (((cell_far (p:=⟨J,_,none⟩) a5.1 _).trans (((cell_far (p:=⟨J,_,none⟩) a5.1 _).trans (((cell_far (p:=⟨J,_,none⟩) a5.1 _).trans (M.2.2.2.2.2.1)))))))),((cell_far (p:=⟨J,_,none⟩) a5.1 _).trans (((cell_far (p:=⟨J,_,none⟩) a5.1 _).trans (((cell_far (p:=⟨J,_,none⟩) a5.1 _).trans (((cell_far (p:=⟨J,_,none⟩) a5.1 _).trans (M.2.2.2.2.2.2.1)))))))),((cell_far (p:=⟨J,_,none⟩) a5.1 _).trans (((cell_far (p:=⟨J,_,none⟩) a5.1 _).trans (((cell_far (p:=⟨J,_,none⟩) a5.1 _).trans (((cell_far (p:=⟨J,_,none⟩) a5.1 _).trans (M.2.2.2.2.2.2.2.1)))))))),((cell_far (p:=⟨J,_,none⟩) a3.1 _).trans (((cell_far (p:=⟨J,_,none⟩) a3.1 _).trans (((cell_far (p:=⟨J,_,none⟩) a3.1 _).trans (((cell_far (p:=⟨J,_,none⟩) a3.1 _).trans (M.2.2.2.2.2.2.2.2.1)))))))),((cell_far (p:=⟨J,_,none⟩) a3.1 _).trans (((cell_far (p:=⟨J,_,none⟩) a3.1 _).trans (((cell_far (p:=⟨J,_,none⟩) a3.1 _).trans (((cell_far (p:=⟨J,_,none⟩) a3.1 _).trans (M.2.2.2.2.2.2.2.2.2.1)))))))),((cell_far (p:=⟨J,_,none⟩) a3.1 _).trans (((cell_far (p:=⟨J,_,none⟩) a3.1 _).trans (((cell_far (p:=⟨J,_,none⟩) a3.1 _).trans (((cell_far (p:=⟨J,_,none⟩) a3.1 _).trans (M.2.2.2.2.2.2.2.2.2.2.1)))))))),((cell_far (p:=⟨J,_,none⟩) a3.1 _).trans (((cell_far (p:=⟨J,_,none⟩) a3.1 _).trans (((cell_far (p:=⟨J,_,none⟩) a3.1 _).trans (((cell_far (p:=⟨J,_,none⟩) a3.1 _).trans (M.2.2.2.2.2.2.2.2.2.2.2))))))))⟩ (fun M=>?_);clear hK K;refine one_ (i:=23) (N:=none) #[y_,y_,y_,y_,y_,y_,y_,y_,y_,y_,y_,y_,y_,y_,y_,y_,y_,y_,y_,y_,y_,y_,y_,y_] rfl rfl (one_of Z.1 (by kernel_rfl)) (by decide) (fun K hK=>?_);have Ei:=q0_ F;have Bg:=blk_frozen F.1 0;have I5:=a6.1;have I6:=h3.1;have I7:=e6.1;have I8:=V.1;have I9:=a4.1;have J0:=i0.1;have J1:=h4.1;have J2:=e7.1;have J3:=b8.1;have J4:=g6.1;have Ej:=q1_ F
    have Bh:=blk_frozen F.1 1;have J5:=a6.1;have J6:=h3.1;have J7:=e6.1;have J8:=V.1;have J9:=a4.1;have L0:=i0.1;have L1:=h4.1;have L2:=e7.1;have L3:=b8.1;have L4:=g6.1;have Ek:=q2_ F;have Bi:=blk_frozen F.1 2;have L5:=a6.1;have L6:=h3.1;have L7:=e6.1;have L8:=V.1;have L9:=a4.1;have M0:=i0.1;have M1:=h4.1;have M2:=e7.1;have M3:=b8.1;have M4:=g6.1;have El:=q3_ F;have Bj:=blk_frozen F.1 3;have M5:=a6.1;have M6:=h3.1;have M7:=e6.1;have M8:=V.1;have M9:=a4.1;have N0:=i0.1;have N1:=h4.1;have N2:=e7.1;have N3:=b8.1;have N4:=g6.1;refine skip_ (w1:=?_) (by rfl) rfl ?_ ?_;rotate_left
    ·
     go_simp;rfl
    refine hK.out _ _ ⟨((cell_far (p:=⟨L,_,none⟩) V.1 _).trans (((cell_far (p:=⟨L,_,none⟩) V.1 _).trans (((cell_far (p:=⟨L,_,none⟩) V.1 _).trans (((cell_far (p:=⟨L,_,none⟩) V.1 _).trans (M.1)))))))),((cell_far (p:=⟨L,_,none⟩) V.1 _).trans (((cell_far (p:=⟨L,_,none⟩) V.1 _).trans (((cell_far (p:=⟨L,_,none⟩) V.1 _).trans (((cell_far (p:=⟨L,_,none⟩) V.1 _).trans (M.2.1)))))))),((cell_far (p:=⟨L,_,none⟩) V.1 _).trans (((cell_far (p:=⟨L,_,none⟩) V.1 _).trans (((cell_far (p:=⟨L,_,none⟩) V.1 _).trans (((cell_far (p:=⟨L,_,none⟩) V.1 _).trans (M.2.2.1)))))))),((cell_far (p:=⟨L,_,none⟩) V.1 _).trans (((cell_far (p:=⟨L,_,none⟩) V.1 _).trans (((cell_far (p:=⟨L,_,none⟩) V.1 _).trans (((cell_far (p:=⟨L,_,none⟩) V.1 _).trans (M.2.2.2.1)))))))),((cell_far (p:=⟨L,_,none⟩) a6.1 _).trans (((cell_far (p:=⟨L,_,none⟩) a6.1 _).trans (((cell_far (p:=⟨L,_,none⟩) a6.1 _).trans (((cell_far (p:=⟨L,_,none⟩) a6.1 _).trans (M.2.2.2.2.1)))))))),((cell_far (p:=⟨L,_,none⟩) a6.1 _).trans (((cell_far (p:=⟨L,_,none⟩) a6.1 _).trans (((cell_far (p:=⟨L,_,none⟩) a6.1 _).trans (((cell_far (p:=⟨L,_,none⟩) a6.1 _).trans (M.2.2.2.2.2.1)))))))),((cell_far (p:=⟨L,_,none⟩) a6.1 _).trans (((cell_far (p:=⟨L,_,none⟩) a6.1 _).trans (((cell_far (p:=⟨L,_,none⟩) a6.1 _).trans (((cell_far (p:=⟨L,_,none⟩) a6.1 _).trans (M.2.2.2.2.2.2.1)))))))),((cell_far (p:=⟨L,_,none⟩) a6.1 _).trans (((cell_far (p:=⟨L,_,none⟩) a6.1 _).trans (((cell_far (p:=⟨L,_,none⟩) a6.1 _).trans (((cell_far (p:=⟨L,_,none⟩) a6.1 _).trans (M.2.2.2.2.2.2.2.1)))))))),((cell_far (p:=⟨L,_,none⟩) a4.1 _).trans (((cell_far (p:=⟨L,_,none⟩) a4.1 _).trans (((cell_far (p:=⟨L,_,none⟩) a4.1 _).trans (((cell_far (p:=⟨L,_,none⟩) a4.1 _).trans (M.2.2.2.2.2.2.2.2.1)))))))),((cell_far (p:=⟨L,_,none⟩) a4.1 _).trans (((cell_far (p:=⟨L,_,none⟩) a4.1 _).trans (((cell_far (p:=⟨L,_,none⟩) a4.1 _).trans (((cell_far (p:=⟨L,_,none⟩) a4.1 _).trans (M.2.2.2.2.2.2.2.2.2.1)))))))),((cell_far (p:=⟨L,_,none⟩) a4.1 _).trans (((cell_far (p:=⟨L,_,none⟩) a4.1 _).trans (((cell_far (p:=⟨L,_,none⟩) a4.1 _).trans (((cell_far (p:=⟨L,_,none⟩) a4.1 _).trans (M.2.2.2.2.2.2.2.2.2.2.1)))))))),((cell_far (p:=⟨L,_,none⟩) a4.1 _).trans (((cell_far (p:=⟨L,_,none⟩) a4.1 _).trans (((cell_far (p:=⟨L,_,none⟩) a4.1 _).trans (((cell_far (p:=⟨L,_,none⟩) a4.1 _).trans (M.2.2.2.2.2.2.2.2.2.2.2))))))))⟩ (fun M=>?_);clear hK K;refine done_ (done_of Z.1 (by kernel_rfl)) ?_;try go_wp2
    refine bodyPost_ret (results_cc rfl _ _ J L 23 23 #[.int .i64 d5,.int .i64 d8,.int .i64 e3,.int .i64 e8] #[.int .i64 (wrap64 (b2 - f9)),.int .i64 (wrap64 (c8 - g1)),.int .i64 (wrap64 (d2 - g2)),.int .i64 (wrap64 (d3 - g9))] (0,0) (0,0) _ _ rfl (by (iterate 4 refine blk_far ?_ e6.1 _);refine blk_put (cs:=#[.int .i64 d5,.int .i64 d8,.int .i64 e3,.int .i64 0]) ?_ 3 _ rfl;refine blk_put (cs:=#[.int .i64 d5,.int .i64 d8,.int .i64 0,.int .i64 0]) ?_ 2 _ rfl;refine blk_put (cs:=#[.int .i64 d5,.int .i64 0,.int .i64 0,.int .i64 0]) ?_ 1 _ rfl;refine blk_put (cs:=#[.int .i64 0,.int .i64 0,.int .i64 0,.int .i64 0]) ?_ 0 _ rfl;exact E.1) Try.underlying23 rfl (by kernel_rfl) rfl (by refine blk_put (cs:=#[.int .i64 (wrap64 (b2 - f9)),.int .i64 (wrap64 (c8 - g1)),.int .i64 (wrap64 (d2 - g2)),.int .i64 0]) ?_ 3 _ rfl;refine blk_put (cs:=#[.int .i64 (wrap64 (b2 - f9)),.int .i64 (wrap64 (c8 - g1)),.int .i64 0,.int .i64 0]) ?_ 2 _ rfl;refine blk_put (cs:=#[.int .i64 (wrap64 (b2 - f9)),.int .i64 0,.int .i64 0,.int .i64 0]) ?_ 1 _ rfl;refine blk_put (cs:=#[.int .i64 0,.int .i64 0,.int .i64 0,.int .i64 0]) ?_ 0 _ rfl;(iterate 4 refine blk_far ?_ e7.1 _);exact F.1) Try.underlying23 rfl (by kernel_rfl)) rfl ?_;exact ⟨by first|rfl|(simp [errW_none,errW_some] <;> rfl)|(simp [*,errW_none,errW_some] <;> rfl),by repeat (first|(with_reducible first|exact HB.1|apply below_alloc|apply pw_below_drewN|apply below_drew1|refine below_set ?_ f4.1|refine below_set ?_ f5.1|refine below_set ?_ f6.1|refine below_set ?_ f7.1|refine below_set ?_ f8.1|refine below_set ?_ t1.1)|exact HB.1)⟩
end Go.Proofs.Ytgfnmimfoicmmaa.PM
