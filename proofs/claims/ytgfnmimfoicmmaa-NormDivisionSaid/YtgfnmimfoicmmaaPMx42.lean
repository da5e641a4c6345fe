-- Written by pr2.py, a program of this session's, for this claim (through the kit's print).
import Derived.Test.YtgfnmimfoicmmaaPMx0
import Derived.Test.YtgfnmimfoicmmaaPMx1
import Derived.Test.YtgfnmimfoicmmaaPMx5
import Derived.Test.YtgfnmimfoicmmaaPMx7
import Derived.Test.YtgfnmimfoicmmaaPMx20
import Derived.Test.YtgfnmimfoicmmaaPMx21
import Derived.Test.YtgfnmimfoicmmaaPMx22
import Derived.Test.YtgfnmimfoicmmaaPMx31
namespace Go.Proofs.Ytgfnmimfoicmmaa.PM
open Go.Proofs.MyWords Go.RowKit Go.Proofs.YtgfnmimfoicmmaaW.PrintWords Go.Proofs.YtgfnmimfoicmmaaW.PrintLast Go.Proofs.YtgfnmimfoicmmaaW.PrintMore
attribute [local go_sem] max2_int min2_int max_two min_two max_three min_three max_four min_four   -- for this text's walks alone
set_option linter.unusedVariables false
set_option linter.unusedSimpArgs false

attribute [local go_sem] idx67_0 idx67_1 idx67_2 idx67_3
attribute [local go_sem] eqGuard_slices eqlnil36 neqnil36
attribute [local go_sem high] eqA23
/-! ### bellpulllaw04_NormDivision: function 7 -/
def bellpulllaw04_NormDivision.j0:Nat → Bool → Int → Int → Int → Int → Int → Int → Int → Int → Int → Int → Int → Int → Int → Int → Int → Int → Option (Bool)
  | 0,_,_,_,_,_,_,_,_,_,_,_,_,_,_,_,_,_=>none
  | k + 1,x51,x947000,x947001,x947002,x947003,x948000,x948001,x948002,x948003,x970000,x970001,x970002,x970003,x971000,x971001,x971002,x971003=>if x51=true then (none) else ((bellpullref04_Mul.f x970000 x970001 x970002 x970003 x948000 x948001 x948002 x948003).bind fun bt976=>(if (Go.bits .and .i64 x970000 1)=(Go.bits .and .i64 x970001 1) then (if (Go.bits .and .i64 x970000 1)=(Go.bits .and .i64 x970002 1) then (if (Go.bits .and .i64 x970000 1)=(Go.bits .and .i64 x970003 1) then (if (x947000 == (wrap64 (bt976.1 + x971000)) && (x947001 == (wrap64 (bt976.2.1 + x971001)) && (x947002 == (wrap64 (bt976.2.2.1 + x971002)) && (x947003 == (wrap64 (bt976.2.2.2 + x971003))))))=true then ((bellpullref04_Norm.f x971000 x971001 x971002 x971003).bind fun t981=>((bellpullref04_Norm.f x948000 x948001 x948002 x948003).bind fun t982=>(some (decide ((wrap64 (2 * t981)) ≤ t982))))) else (none)) else (none)) else (none)) else (none)))
def bellpulllaw04_NormDivision.f (k:Nat) (a0_0:Int) (a0_1:Int) (a0_2:Int) (a0_3:Int) (a1_0:Int) (a1_1:Int) (a1_2:Int) (a1_3:Int):Option (Bool):=(bellpulllaw04_made.f k a0_0 a0_1 a0_2 a0_3 1000).bind fun bt938=>((bellpulllaw04_made.f k a1_0 a1_1 a1_2 a1_3 40).bind fun bt942=>(if (bt942.1 == 0 && (bt942.2.1 == 0 && (bt942.2.2.1 == 0 && (bt942.2.2.2 == 0))))=true then ((norm_Divide.f k bt938.1 bt938.2.1 bt938.2.2.1 bt938.2.2.2 bt942.1 bt942.2.1 bt942.2.2.1 bt942.2.2.2).bind fun bt948=>(if bt948.2.2.2.2.2.2.2.2=5 then ((bellpulllaw04_lives.f k).bind fun t959=>(some t959)) else (none))) else ((norm_Divide.f k bt938.1 bt938.2.1 bt938.2.2.1 bt938.2.2.2 bt942.1 bt942.2.1 bt942.2.2.1 bt942.2.2.2).bind fun bt960=>(if bt960.2.2.2.2.2.2.2.2=0 then ((bellpullref04_Check.f k (([(⟨bt960.2.2.2.2.1,bt960.2.2.2.2.2.1,bt960.2.2.2.2.2.2.1,bt960.2.2.2.2.2.2.2.1⟩:S23)]:List (S23)))).bind fun t974=>(if t974=0 then ((bellpulllaw04_lives.f k).bind fun t975=>(bellpulllaw04_NormDivision.j0 k (!t975) bt938.1 bt938.2.1 bt938.2.2.1 bt938.2.2.2 bt942.1 bt942.2.1 bt942.2.2.1 bt942.2.2.2 bt960.1 bt960.2.1 bt960.2.2.1 bt960.2.2.2.1 bt960.2.2.2.2.1 bt960.2.2.2.2.2.1 bt960.2.2.2.2.2.2.1 bt960.2.2.2.2.2.2.2.1)) else (none))) else (none)))))
theorem bellpulllaw04_NormDivision.mono_l:∀ k,(∀ y0 y1 y2 y3 y4 y5 y6 y7 y8 y9 y10 y11 y12 y13 y14 y15 y16,LeO (bellpulllaw04_NormDivision.j0 k y0 y1 y2 y3 y4 y5 y6 y7 y8 y9 y10 y11 y12 y13 y14 y15 y16) (bellpulllaw04_NormDivision.j0 (k + 1) y0 y1 y2 y3 y4 y5 y6 y7 y8 y9 y10 y11 y12 y13 y14 y15 y16))
  | 0=>fun _ _ _ _ _ _ _ _ _ _ _ _ _ _ _ _ _ r h=>by simp [bellpulllaw04_NormDivision.j0] at h
  | k + 1=>by
    have ih0:=bellpulllaw04_NormDivision.mono_l k
    · intro y0 y1 y2 y3 y4 y5 y6 y7 y8 y9 y10 y11 y12 y13 y14 y15 y16
      unfold bellpulllaw04_NormDivision.j0
      with_reducible repeat' first|exact ih0 _ _ _ _ _ _ _ _ _ _ _ _ _ _ _ _ _|exact bellpulllaw04_lives.mono _|exact bellpulllaw04_made.mono _ _ _ _ _ _|exact bellpullref04_Check.mono _ _|exact norm_Divide.mono _ _ _ _ _ _ _ _ _|exact LeO.refl _|exact LeO.none _|refine LeO.ite ?_ ?_|refine LeO.bind ?_ (fun _=>?_)
theorem bellpulllaw04_NormDivision.mono:∀ a0 a1 a2 a3 a4 a5 a6 a7 k,LeO (bellpulllaw04_NormDivision.f k a0 a1 a2 a3 a4 a5 a6 a7) (bellpulllaw04_NormDivision.f (k + 1) a0 a1 a2 a3 a4 a5 a6 a7):=by
  intro a0 a1 a2 a3 a4 a5 a6 a7 k
  have ih0:=bellpulllaw04_NormDivision.mono_l k
  unfold bellpulllaw04_NormDivision.f
  with_reducible repeat' first|exact ih0 _ _ _ _ _ _ _ _ _ _ _ _ _ _ _ _ _|exact bellpulllaw04_lives.mono _|exact bellpulllaw04_made.mono _ _ _ _ _ _|exact bellpullref04_Check.mono _ _|exact norm_Divide.mono _ _ _ _ _ _ _ _ _|exact LeO.refl _|exact LeO.none _|refine LeO.ite ?_ ?_|refine LeO.bind ?_ (fun _=>?_)
def bellpulllaw04_NormDivision.T1:Bool × List (List Nat × List Nat):=(true,[([],[]),([0],[0]),([],[]),([2,1],[2]),([],[]),([],[]),([4,1,3,0,1,4,5],[1,4]),([5,3,6,0,1,2,3,4,5,6],[3,5])])
def bellpulllaw04_NormDivision.B1:List Nat:=[0,1,0,7,0,0,63,127]
theorem bellpulllaw04_NormDivision.tab1:rtab .any (opsOf Try.f7 1)=bellpulllaw04_NormDivision.T1:=by kernel_rfl
theorem bellpulllaw04_NormDivision.bits1:waitsOk bellpulllaw04_NormDivision.T1.2 bellpulllaw04_NormDivision.B1=true:=by kernel_rfl
def bellpulllaw04_NormDivision.T9:Bool × List (List Nat × List Nat):=(true,[([],[]),([0],[0]),([1],[1]),([],[]),([3],[3]),([4],[4]),([2,5],[2,5]),([6],[6]),([7],[7]),([8,7],[7,8]),([9,7],[7,9]),([7],[7]),([11,7],[7,11]),([12,7],[7,12]),([10,13,7],[7,10,13]),([7,14],[7,14]),([15,7],[15]),([16],[16]),([17,16],[16,17]),([18,16],[16,18]),([16],[16]),([20,16],[16,20]),([21,16],[16,21]),([19,22,16],[16,19,22]),([16,23],[16,23]),([24,16],[24]),([25],[25]),([25],[25]),([27,25],[25,27]),([25],[25]),([29,25],[25,29]),([28,30,25],[25,28,30]),([25],[25]),([32,25],[25,32]),([25],[25]),([34,25],[25,34]),([33,35,25],[25,33,35]),([25],[25]),([37,25],[25,37]),([25],[25]),([39,25],[25,39]),([38,40,25],[25,38,40]),([25],[25]),([42,25],[25,42]),([25],[25]),([44,25],[25,44]),([43,45,25],[25,43,45]),([31,36,41,46,25],[25,31,36,41,46]),([26,47,25],[25,26,47]),([25,48],[25,48]),([49,25],[49]),([50],[50]),([51,50,50],[50,51]),([52,50],[50,52]),([50],[50]),([54,52,50],[50,54]),([53,55,50],[50,53,55]),([50,56],[50,56]),([57,55,0,1,2,3,4,5,6,7,8,9,10,11,12,13,14,15,16,17,18,19,20,21,22,23,24,25,26,27,28,29,30,31,32,33,34,35,36,37,38,39,40,41,42,43,44,45,46,47,48,49,50,51,52,53,54,55,56,57],[57])])
def bellpulllaw04_NormDivision.B9:List Nat:=[0,1,3,0,8,24,63,127,255,511,1023,255,2303,6399,16383,32767,65535,131071,262143,524287,131071,1179647,3276799,8388607,16777215,33554431,67108863,67108863,201326591,67108863,603979775,2080374783,67108863,4362076159,67108863,17246978047,64491618303,67108863,137506062335,67108863,549822922751,2061651410943,67108863,4398113619967,67108863,17592253153279,65970764775423,140737421246463,281474976710655,562949953421311,1125899906842623,2251799813685247,4503599627370495,9007199254740991,2251799813685247,27021597764222975,72057594037927935,144115188075855871,288230376151711743]
theorem bellpulllaw04_NormDivision.tab9:rtab .any (opsOf Try.f7 9)=bellpulllaw04_NormDivision.T9:=by kernel_rfl
theorem bellpulllaw04_NormDivision.bits9:waitsOk bellpulllaw04_NormDivision.T9.2 bellpulllaw04_NormDivision.B9=true:=by kernel_rfl
set_option maxHeartbeats 8000000 in
set_option maxRecDepth 100000 in
theorem bellpulllaw04_NormDivision.calls (k:Nat) (a7:Int) (a8:Int) (a9:Int) (b0:Int) (b1:Int) (b2:Int) (b3:Int) (b4:Int) (r:Bool) (w:World) (h:bellpulllaw04_NormDivision.f k a7 a8 a9 b0 b1 b2 b3 b4=some r) :
    Calls Try.prog 7 #[.agg #[.int .i16 a7,.int .i16 a8,.int .i16 a9,.int .i16 b0],.agg #[.int .i16 b1,.int .i16 b2,.int .i16 b3,.int .i16 b4]] w fun e w'=>e=.returned (.bool r)∧Below w.heap.size w w':=by
 have Dj:=Try.underlying47;have Dk:=Try.underlying23;have X:=mk0 (Below.refl w.heap.size w);have H:((bellpulllaw04_made.f k a7 a8 a9 b0 1000).bind fun f5=>((bellpulllaw04_made.f k b1 b2 b3 b4 40).bind fun e4=>(if (e4.1 == 0 && (e4.2.1 == 0 && (e4.2.2.1 == 0 && (e4.2.2.2 == 0))))=true then ((norm_Divide.f k f5.1 f5.2.1 f5.2.2.1 f5.2.2.2 e4.1 e4.2.1 e4.2.2.1 e4.2.2.2).bind fun B4=>(if B4.2.2.2.2.2.2.2.2=5 then ((bellpulllaw04_lives.f k).bind fun r6=>(some r6)) else (none))) else ((norm_Divide.f k f5.1 f5.2.1 f5.2.2.1 f5.2.2.2 e4.1 e4.2.1 e4.2.2.1 e4.2.2.2).bind fun f3=>(if f3.2.2.2.2.2.2.2.2=0 then ((bellpullref04_Check.f k (([(⟨f3.2.2.2.2.1,f3.2.2.2.2.2.1,f3.2.2.2.2.2.2.1,f3.2.2.2.2.2.2.2.1⟩:S23)]:List (S23)))).bind fun j2=>(if j2=0 then ((bellpulllaw04_lives.f k).bind fun m1=>(bellpulllaw04_NormDivision.j0 k (!m1) f5.1 f5.2.1 f5.2.2.1 f5.2.2.2 e4.1 e4.2.1 e4.2.2.1 e4.2.2.2 f3.1 f3.2.1 f3.2.2.1 f3.2.2.2.1 f3.2.2.2.2.1 f3.2.2.2.2.2.1 f3.2.2.2.2.2.2.1 f3.2.2.2.2.2.2.2.1)) else (none))) else (none))))))=some r:=h;clear h;replace H:=Option.bind_eq_some_iff.mp H;obtain ⟨⟨c2,d1,d3,d5⟩,C3,H⟩:=H;(try dsimp only at H);have A3:=mk0 C3;clear C3;replace H:=Option.bind_eq_some_iff.mp H;obtain ⟨⟨c0,d0,d2,d4⟩,C4,H⟩:=H;(try dsimp only at H);have A4:=mk0 C4;clear C4
 by_cases c5:(c0 == 0 && (d0 == 0 && (d2 == 0 && (d4 == 0))))=true
 ·
  rw [if_pos c5] at H;have c5b0:(c0 == 0 && (d0 == 0 && (d2 == 0 && (d4 == 0))))=true:=c5;(try (have c5b1:decide (c0=0 && (d0 == 0 && (d2 == 0 && (d4 == 0))))=true:=by simpa using c5));(try (have c5b2:(c0 == 0 && (d0 == 0 && (d2 == 0 && (d4 == 0))))=true:=by simpa using c5));clear c5;replace H:=Option.bind_eq_some_iff.mp H;obtain ⟨⟨o6,o9,r7,y9,o7,p0,r8,z0,p1⟩,C5,H⟩:=H;(try dsimp only at H);have A6:=mk0 C5;clear C5
  by_cases c7:p1=5
  ·
   rw [if_pos c7] at H;have c7b0:(p1 == 5)=true:=beq_iff_eq.mpr c7;have c7b1:(p1 != 5)=false:=bne_eq_false_iff_eq.mpr c7;clear c7;replace H:=Option.bind_eq_some_iff.mp H;obtain ⟨r6,C6,H⟩:=H;(try dsimp only at H);have A8:=mk0 C6;clear C6;obtain rfl:=Option.some.inj H;go_enter Try.func7,Try.ntmps7;try go_wp2_with (first|((with_reducible refine gate_dst (N:=2) rfl ?_);(try (refine gate_guard (by rfl) ?_;dsimp only));refine box_event ?hg (N:=2) ?hd (cs:=#[.int .i16 a7,.int .i16 a8,.int .i16 a9,.int .i16 b0]) (t:=47) ?hr ?_;(case hd=>rfl);(case hg=>rfl);(case hr=>first|(go_simp;done)|(go_simp;rfl));intro L hg w9 a4 hb;have B:=mk0 (a4);have p3:=szw hg X;have f8:=p3;replace X:=bst X hb;clear hb a4 hg)|((with_reducible refine gate_dst (N:=3) rfl ?_);(try (refine gate_guard (by rfl) ?_;dsimp only));refine box_event ?hg (N:=3) ?hd (cs:=#[.int .i16 b1,.int .i16 b2,.int .i16 b3,.int .i16 b4]) (t:=47) ?hr ?_;(case hd=>rfl);(case hg=>rfl);(case hr=>first|(go_simp;done)|(go_simp;rfl));intro O hg V9 a4 hb;have C:=mk0 (a4);have p4:=szw hg X;have f9:=p4;have q0:=nlt hg B;have q1:=ngt hg B;replace B:=bkb B hb;replace X:=bst X hb;clear hb a4 hg))
   replace B:=bdr B;replace C:=bdr C;replace X:=hdr X;refine start_ (n:=8) (S:=fun w'=>w'.cell? ⟨L,0,none⟩=some (.int .i16 a7)∧w'.cell? ⟨L,1,none⟩=some (.int .i16 a8)∧w'.cell? ⟨L,2,none⟩=some (.int .i16 a9)∧w'.cell? ⟨L,3,none⟩=some (.int .i16 b0)∧w'.cell? ⟨O,0,none⟩=some (.int .i16 b1)∧w'.cell? ⟨O,1,none⟩=some (.int .i16 b2)∧w'.cell? ⟨O,2,none⟩=some (.int .i16 b3)∧w'.cell? ⟨O,3,none⟩=some (.int .i16 b4)) (ds:=[]) #[n_,n_,n_,n_,n_,n_,n_,n_] (by kernel_rfl) rfl rfl ⟨q0_ B,q1_ B,q2_ B,q3_ B,q0_ C,q1_ C,q2_ C,q3_ C⟩ (fun Q=>?_);refine with_tabW bellpulllaw04_NormDivision.tab1 bellpulllaw04_NormDivision.bits1 (fun b6 e9=>?_);generalize V9.drew=Em at B C X Q ⊢;refine take_ (i:=0) (N:=some 14) (v:=?_) (a':=?_) #[y_,n_,n_,n_,n_,n_,n_,n_] rfl rfl (take_ofW b6.1 e9.1 (by kernel_rfl)) (fun _ _ _ h=>h) (Or.inl ⟨by rfl,?_⟩) Q ?_ ?_;rotate_left
   ·
    rintro w' ⟨s0,s1,s2,s3,s4,s5,s6,s7⟩;go_simp;with_reducible rfl
   rotate_left
   ·
    simp only [Act.put,s0_,s1_,s2_,i64_w,i32_w];rfl
   refine take_ (i:=2) (N:=some 16) (v:=?_) (a':=?_) #[y_,n_,y_,n_,n_,n_,n_,n_] rfl rfl (take_ofW b6.1 e9.1 (by kernel_rfl)) (fun _ _ _ h=>h) (Or.inl ⟨by rfl,?_⟩) Q ?_ ?_;rotate_left
   ·
    rintro w' ⟨s0,s1,s2,s3,s4,s5,s6,s7⟩;go_simp;with_reducible rfl
   rotate_left
   ·
    simp only [Act.put,s0_,s1_,s2_,i64_w,i32_w];rfl
   refine join_ (σ:=Nat × Nat) 2 #[y_,y_,y_,y_,y_,y_,n_,n_] (fun s_=>[(15,.agg #[.int .i64 c2,.int .i64 d1,.int .i64 d3,.int .i64 d5]),(17,.agg #[.int .i64 c0,.int .i64 d0,.int .i64 d2,.int .i64 d4]),(5,.pointer (some ⟨s_.1,0,none⟩)),(6,.pointer (some ⟨s_.2,0,none⟩))]) (fun s_ w'=>(w'.cell? ⟨L,0,none⟩=some (.int .i16 a7)∧w'.cell? ⟨L,1,none⟩=some (.int .i16 a8)∧w'.cell? ⟨L,2,none⟩=some (.int .i16 a9)∧w'.cell? ⟨L,3,none⟩=some (.int .i16 b0)∧w'.cell? ⟨O,0,none⟩=some (.int .i16 b1)∧w'.cell? ⟨O,1,none⟩=some (.int .i16 b2)∧w'.cell? ⟨O,2,none⟩=some (.int .i16 b3)∧w'.cell? ⟨O,3,none⟩=some (.int .i16 b4))∧(w'.heap[L]?=some (.cells #[.int .i16 a7,.int .i16 a8,.int .i16 a9,.int .i16 b0] 47 (0,0)))∧(w'.heap[O]?=some (.cells #[.int .i16 b1,.int .i16 b2,.int .i16 b3,.int .i16 b4] 47 (0,0)))∧(Q4_ w' s_.1 0 0 0 0 23)∧(Q4_ w' s_.2 0 0 0 0 23)∧(w.heap.size ≤ s_.1)∧(w.heap.size ≤ s_.1)∧(L ≠ s_.1)∧(s_.1 ≠ L)∧(O ≠ s_.1)∧(s_.1 ≠ O)∧(s_.2 ≠ s_.1)∧(s_.1 ≠ s_.2)∧(w.heap.size ≤ s_.2)∧(w.heap.size ≤ s_.2)∧(L ≠ s_.2)∧(s_.2 ≠ L)∧(O ≠ s_.2)∧(s_.2 ≠ O)∧(Below w.heap.size w w')) ?_ ?_;rotate_left
   ·
    intro f0;refine join_ (σ:=Nat) 3 #[y_,y_,y_,y_,y_,n_,n_,n_] (fun s_=>[(15,.agg #[.int .i64 c2,.int .i64 d1,.int .i64 d3,.int .i64 d5]),(17,.agg #[.int .i64 c0,.int .i64 d0,.int .i64 d2,.int .i64 d4]),(5,.pointer (some ⟨s_,0,none⟩))]) (fun s_ w'=>(w'.cell? ⟨L,0,none⟩=some (.int .i16 a7)∧w'.cell? ⟨L,1,none⟩=some (.int .i16 a8)∧w'.cell? ⟨L,2,none⟩=some (.int .i16 a9)∧w'.cell? ⟨L,3,none⟩=some (.int .i16 b0)∧w'.cell? ⟨O,0,none⟩=some (.int .i16 b1)∧w'.cell? ⟨O,1,none⟩=some (.int .i16 b2)∧w'.cell? ⟨O,2,none⟩=some (.int .i16 b3)∧w'.cell? ⟨O,3,none⟩=some (.int .i16 b4))∧(w'.heap[L]?=some (.cells #[.int .i16 a7,.int .i16 a8,.int .i16 a9,.int .i16 b0] 47 (0,0)))∧(w'.heap[O]?=some (.cells #[.int .i16 b1,.int .i16 b2,.int .i16 b3,.int .i16 b4] 47 (0,0)))∧(Q4_ w' s_ 0 0 0 0 23)∧(w.heap.size ≤ s_)∧(w.heap.size ≤ s_)∧(L ≠ s_)∧(s_ ≠ L)∧(O ≠ s_)∧(s_ ≠ O)∧(Below w.heap.size w w')) ?_ ?_;rotate_left
    ·
     intro i7;refine join_ (σ:=Nat) 3 #[y_,y_,y_,y_,n_,y_,n_,n_] (fun s_=>[(15,.agg #[.int .i64 c2,.int .i64 d1,.int .i64 d3,.int .i64 d5]),(17,.agg #[.int .i64 c0,.int .i64 d0,.int .i64 d2,.int .i64 d4]),(6,.pointer (some ⟨s_,0,none⟩))]) (fun s_ w'=>(w'.cell? ⟨L,0,none⟩=some (.int .i16 a7)∧w'.cell? ⟨L,1,none⟩=some (.int .i16 a8)∧w'.cell? ⟨L,2,none⟩=some (.int .i16 a9)∧w'.cell? ⟨L,3,none⟩=some (.int .i16 b0)∧w'.cell? ⟨O,0,none⟩=some (.int .i16 b1)∧w'.cell? ⟨O,1,none⟩=some (.int .i16 b2)∧w'.cell? ⟨O,2,none⟩=some (.int .i16 b3)∧w'.cell? ⟨O,3,none⟩=some (.int .i16 b4))∧(w'.heap[L]?=some (.cells #[.int .i16 a7,.int .i16 a8,.int .i16 a9,.int .i16 b0] 47 (0,0)))∧(w'.heap[O]?=some (.cells #[.int .i16 b1,.int .i16 b2,.int .i16 b3,.int .i16 b4] 47 (0,0)))∧(Q4_ w' s_ 0 0 0 0 23)∧(w.heap.size ≤ s_)∧(w.heap.size ≤ s_)∧(L ≠ s_)∧(s_ ≠ L)∧(O ≠ s_)∧(s_ ≠ O)∧(Below w.heap.size w w')) ?_ ?_;rotate_left
     ·
      intro i8;refine join_ (σ:=Nat × Nat) 3 #[y_,y_,y_,n_,y_,y_,n_,n_] (fun s_=>[(15,.agg #[.int .i64 c2,.int .i64 d1,.int .i64 d3,.int .i64 d5]),(5,.pointer (some ⟨s_.1,0,none⟩)),(6,.pointer (some ⟨s_.2,0,none⟩))]) (fun s_ w'=>(w'.cell? ⟨L,0,none⟩=some (.int .i16 a7)∧w'.cell? ⟨L,1,none⟩=some (.int .i16 a8)∧w'.cell? ⟨L,2,none⟩=some (.int .i16 a9)∧w'.cell? ⟨L,3,none⟩=some (.int .i16 b0)∧w'.cell? ⟨O,0,none⟩=some (.int .i16 b1)∧w'.cell? ⟨O,1,none⟩=some (.int .i16 b2)∧w'.cell? ⟨O,2,none⟩=some (.int .i16 b3)∧w'.cell? ⟨O,3,none⟩=some (.int .i16 b4))∧(w'.heap[L]?=some (.cells #[.int .i16 a7,.int .i16 a8,.int .i16 a9,.int .i16 b0] 47 (0,0)))∧(w'.heap[O]?=some (.cells #[.int .i16 b1,.int .i16 b2,.int .i16 b3,.int .i16 b4] 47 (0,0)))∧(Q4_ w' s_.1 0 0 0 0 23)∧(Q4_ w' s_.2 0 0 0 0 23)∧(w.heap.size ≤ s_.1)∧(w.heap.size ≤ s_.1)∧(L ≠ s_.1)∧(s_.1 ≠ L)∧(O ≠ s_.1)∧(s_.1 ≠ O)∧(s_.2 ≠ s_.1)∧(s_.1 ≠ s_.2)∧(w.heap.size ≤ s_.2)∧(w.heap.size ≤ s_.2)∧(L ≠ s_.2)∧(s_.2 ≠ L)∧(O ≠ s_.2)∧(s_.2 ≠ O)∧(Below w.heap.size w w')) ?_ ?_;rotate_left
      ·
       intro f7;refine join_ (σ:=Unit) 4 #[y_,y_,y_,y_,n_,n_,n_,n_] (fun s_=>[(15,.agg #[.int .i64 c2,.int .i64 d1,.int .i64 d3,.int .i64 d5]),(17,.agg #[.int .i64 c0,.int .i64 d0,.int .i64 d2,.int .i64 d4])]) (fun s_ w'=>(w'.cell? ⟨L,0,none⟩=some (.int .i16 a7)∧w'.cell? ⟨L,1,none⟩=some (.int .i16 a8)∧w'.cell? ⟨L,2,none⟩=some (.int .i16 a9)∧w'.cell? ⟨L,3,none⟩=some (.int .i16 b0)∧w'.cell? ⟨O,0,none⟩=some (.int .i16 b1)∧w'.cell? ⟨O,1,none⟩=some (.int .i16 b2)∧w'.cell? ⟨O,2,none⟩=some (.int .i16 b3)∧w'.cell? ⟨O,3,none⟩=some (.int .i16 b4))∧(w'.heap[L]?=some (.cells #[.int .i16 a7,.int .i16 a8,.int .i16 a9,.int .i16 b0] 47 (0,0)))∧(w'.heap[O]?=some (.cells #[.int .i16 b1,.int .i16 b2,.int .i16 b3,.int .i16 b4] 47 (0,0)))∧(Below w.heap.size w w')) ?_ ?_;rotate_left
       ·
        intro p5;refine join_ (σ:=Nat) 4 #[y_,y_,y_,n_,y_,n_,n_,n_] (fun s_=>[(15,.agg #[.int .i64 c2,.int .i64 d1,.int .i64 d3,.int .i64 d5]),(5,.pointer (some ⟨s_,0,none⟩))]) (fun s_ w'=>(w'.cell? ⟨L,0,none⟩=some (.int .i16 a7)∧w'.cell? ⟨L,1,none⟩=some (.int .i16 a8)∧w'.cell? ⟨L,2,none⟩=some (.int .i16 a9)∧w'.cell? ⟨L,3,none⟩=some (.int .i16 b0)∧w'.cell? ⟨O,0,none⟩=some (.int .i16 b1)∧w'.cell? ⟨O,1,none⟩=some (.int .i16 b2)∧w'.cell? ⟨O,2,none⟩=some (.int .i16 b3)∧w'.cell? ⟨O,3,none⟩=some (.int .i16 b4))∧(w'.heap[L]?=some (.cells #[.int .i16 a7,.int .i16 a8,.int .i16 a9,.int .i16 b0] 47 (0,0)))∧(w'.heap[O]?=some (.cells #[.int .i16 b1,.int .i16 b2,.int .i16 b3,.int .i16 b4] 47 (0,0)))∧(Q4_ w' s_ 0 0 0 0 23)∧(w.heap.size ≤ s_)∧(w.heap.size ≤ s_)∧(L ≠ s_)∧(s_ ≠ L)∧(O ≠ s_)∧(s_ ≠ O)∧(Below w.heap.size w w')) ?_ ?_;rotate_left
        ·
         intro l2;refine join_ (σ:=Nat) 4 #[y_,y_,y_,n_,n_,y_,n_,n_] (fun s_=>[(15,.agg #[.int .i64 c2,.int .i64 d1,.int .i64 d3,.int .i64 d5]),(6,.pointer (some ⟨s_,0,none⟩))]) (fun s_ w'=>(w'.cell? ⟨L,0,none⟩=some (.int .i16 a7)∧w'.cell? ⟨L,1,none⟩=some (.int .i16 a8)∧w'.cell? ⟨L,2,none⟩=some (.int .i16 a9)∧w'.cell? ⟨L,3,none⟩=some (.int .i16 b0)∧w'.cell? ⟨O,0,none⟩=some (.int .i16 b1)∧w'.cell? ⟨O,1,none⟩=some (.int .i16 b2)∧w'.cell? ⟨O,2,none⟩=some (.int .i16 b3)∧w'.cell? ⟨O,3,none⟩=some (.int .i16 b4))∧(w'.heap[L]?=some (.cells #[.int .i16 a7,.int .i16 a8,.int .i16 a9,.int .i16 b0] 47 (0,0)))∧(w'.heap[O]?=some (.cells #[.int .i16 b1,.int .i16 b2,.int .i16 b3,.int .i16 b4] 47 (0,0)))∧(Q4_ w' s_ 0 0 0 0 23)∧(w.heap.size ≤ s_)∧(w.heap.size ≤ s_)∧(L ≠ s_)∧(s_ ≠ L)∧(O ≠ s_)∧(s_ ≠ O)∧(Below w.heap.size w w')) ?_ ?_;rotate_left
         ·
          intro l3;refine join_ (σ:=Nat × Nat) 4 #[y_,n_,y_,n_,y_,y_,n_,n_] (fun s_=>[(5,.pointer (some ⟨s_.1,0,none⟩)),(6,.pointer (some ⟨s_.2,0,none⟩))]) (fun s_ w'=>(w'.cell? ⟨L,0,none⟩=some (.int .i16 a7)∧w'.cell? ⟨L,1,none⟩=some (.int .i16 a8)∧w'.cell? ⟨L,2,none⟩=some (.int .i16 a9)∧w'.cell? ⟨L,3,none⟩=some (.int .i16 b0)∧w'.cell? ⟨O,0,none⟩=some (.int .i16 b1)∧w'.cell? ⟨O,1,none⟩=some (.int .i16 b2)∧w'.cell? ⟨O,2,none⟩=some (.int .i16 b3)∧w'.cell? ⟨O,3,none⟩=some (.int .i16 b4))∧(w'.heap[L]?=some (.cells #[.int .i16 a7,.int .i16 a8,.int .i16 a9,.int .i16 b0] 47 (0,0)))∧(w'.heap[O]?=some (.cells #[.int .i16 b1,.int .i16 b2,.int .i16 b3,.int .i16 b4] 47 (0,0)))∧(Q4_ w' s_.1 0 0 0 0 23)∧(Q4_ w' s_.2 0 0 0 0 23)∧(w.heap.size ≤ s_.1)∧(w.heap.size ≤ s_.1)∧(L ≠ s_.1)∧(s_.1 ≠ L)∧(O ≠ s_.1)∧(s_.1 ≠ O)∧(s_.2 ≠ s_.1)∧(s_.1 ≠ s_.2)∧(w.heap.size ≤ s_.2)∧(w.heap.size ≤ s_.2)∧(L ≠ s_.2)∧(s_.2 ≠ L)∧(O ≠ s_.2)∧(s_.2 ≠ O)∧(Below w.heap.size w w')) ?_ ?_;rotate_left
          ·
           intro l4;refine join_ (σ:=Unit) 5 #[y_,y_,y_,n_,n_,n_,n_,n_] (fun s_=>[(15,.agg #[.int .i64 c2,.int .i64 d1,.int .i64 d3,.int .i64 d5])]) (fun s_ w'=>(w'.cell? ⟨L,0,none⟩=some (.int .i16 a7)∧w'.cell? ⟨L,1,none⟩=some (.int .i16 a8)∧w'.cell? ⟨L,2,none⟩=some (.int .i16 a9)∧w'.cell? ⟨L,3,none⟩=some (.int .i16 b0)∧w'.cell? ⟨O,0,none⟩=some (.int .i16 b1)∧w'.cell? ⟨O,1,none⟩=some (.int .i16 b2)∧w'.cell? ⟨O,2,none⟩=some (.int .i16 b3)∧w'.cell? ⟨O,3,none⟩=some (.int .i16 b4))∧(w'.heap[L]?=some (.cells #[.int .i16 a7,.int .i16 a8,.int .i16 a9,.int .i16 b0] 47 (0,0)))∧(w'.heap[O]?=some (.cells #[.int .i16 b1,.int .i16 b2,.int .i16 b3,.int .i16 b4] 47 (0,0)))∧(Below w.heap.size w w')) ?_ ?_;rotate_left
           ·
            intro z1;refine join_ (σ:=Nat) 5 #[y_,n_,y_,n_,y_,n_,n_,n_] (fun s_=>[(5,.pointer (some ⟨s_,0,none⟩))]) (fun s_ w'=>(w'.cell? ⟨L,0,none⟩=some (.int .i16 a7)∧w'.cell? ⟨L,1,none⟩=some (.int .i16 a8)∧w'.cell? ⟨L,2,none⟩=some (.int .i16 a9)∧w'.cell? ⟨L,3,none⟩=some (.int .i16 b0)∧w'.cell? ⟨O,0,none⟩=some (.int .i16 b1)∧w'.cell? ⟨O,1,none⟩=some (.int .i16 b2)∧w'.cell? ⟨O,2,none⟩=some (.int .i16 b3)∧w'.cell? ⟨O,3,none⟩=some (.int .i16 b4))∧(w'.heap[L]?=some (.cells #[.int .i16 a7,.int .i16 a8,.int .i16 a9,.int .i16 b0] 47 (0,0)))∧(w'.heap[O]?=some (.cells #[.int .i16 b1,.int .i16 b2,.int .i16 b3,.int .i16 b4] 47 (0,0)))∧(Q4_ w' s_ 0 0 0 0 23)∧(w.heap.size ≤ s_)∧(w.heap.size ≤ s_)∧(L ≠ s_)∧(s_ ≠ L)∧(O ≠ s_)∧(s_ ≠ O)∧(Below w.heap.size w w')) ?_ ?_;rotate_left
            ·
             intro z2;refine join_ (σ:=Nat) 5 #[y_,n_,y_,n_,n_,y_,n_,n_] (fun s_=>[(6,.pointer (some ⟨s_,0,none⟩))]) (fun s_ w'=>(w'.cell? ⟨L,0,none⟩=some (.int .i16 a7)∧w'.cell? ⟨L,1,none⟩=some (.int .i16 a8)∧w'.cell? ⟨L,2,none⟩=some (.int .i16 a9)∧w'.cell? ⟨L,3,none⟩=some (.int .i16 b0)∧w'.cell? ⟨O,0,none⟩=some (.int .i16 b1)∧w'.cell? ⟨O,1,none⟩=some (.int .i16 b2)∧w'.cell? ⟨O,2,none⟩=some (.int .i16 b3)∧w'.cell? ⟨O,3,none⟩=some (.int .i16 b4))∧(w'.heap[L]?=some (.cells #[.int .i16 a7,.int .i16 a8,.int .i16 a9,.int .i16 b0] 47 (0,0)))∧(w'.heap[O]?=some (.cells #[.int .i16 b1,.int .i16 b2,.int .i16 b3,.int .i16 b4] 47 (0,0)))∧(Q4_ w' s_ 0 0 0 0 23)∧(w.heap.size ≤ s_)∧(w.heap.size ≤ s_)∧(L ≠ s_)∧(s_ ≠ L)∧(O ≠ s_)∧(s_ ≠ O)∧(Below w.heap.size w w')) ?_ ?_;rotate_left
             ·
              intro z3;refine three_ (i:=1) (j:=4) (k:=5) (Ni:=some 15) (Nj:=some 5) (Nk:=some 6) #[y_,y_,y_,n_,n_,n_,n_,n_] #[y_,n_,y_,n_,y_,n_,n_,n_] #[y_,n_,y_,n_,n_,y_,n_,n_] rfl rfl rfl rfl rfl rfl (three_of b6.1 (by kernel_rfl)) (by decide) (by decide) (by decide) (fun K hK=>?_) (fun K hK=>?_) (fun K hK=>?_)
              ·
               skip
               refine goes_ Try.func32 (by kernel_rfl) rfl #[.agg #[.int .i16 a7,.int .i16 a8,.int .i16 a9,.int .i16 b0],.int .i64 1000] (by rfl) rfl rfl (by (try simp only [m0_,m1_,m2_]);first|done|rfl|(simp only [l0_,l1_];rfl)) ?_;with_reducible refine (bellpulllaw04_made.calls k a7 a8 a9 b0 1000 c2 d1 d3 d5 _ A3.1).mono ?_
               rintro e C7 ⟨rfl,hb⟩;refine ⟨_,rfl,?_⟩;replace B:=bkb B hb;replace C:=bkb C hb;replace X:=bst X hb;(try clear hb);refine hK.out _ _ ⟨q0_ B,q1_ B,q2_ B,q3_ B,q0_ C,q1_ C,q2_ C,q3_ C⟩ (fun Q=>?_);clear hK K;refine norm_ (a':=?_) ?_ ?_;rotate_left
               ·
                show Act.put _ (some 15) _=_;simp only [Act.put,s0_,s1_,s2_,i64_w,i32_w];rfl
               exact norm_ (by simp only [putAll,Act.put,s0_,s1_,s2_] <;> rfl) (z1 () _ ⟨Q,B.1,C.1,X.1⟩)
              ·
               skip
               refine box_step ?hg (N:=5) ?hd (cs:=#[.int .i64 0,.int .i64 0,.int .i64 0,.int .i64 0]) (t:=23) ?hr ?_;(case hd=>rfl);(case hg=>rfl);(case hr=>first|(go_simp;done)|(go_simp;rfl));intro Y hg C7 a4 hb;have J:=mk0 (a4);have a5:=szw hg X;have a2:=szw hg X;have G:=nlt hg B;have U:=ngt hg B;have I:=nlt hg C;have V:=ngt hg C;replace B:=bkb B hb;replace C:=bkb C hb;replace X:=bst X hb;clear hb a4 hg;refine hK.out _ _ ⟨q0_ B,q1_ B,q2_ B,q3_ B,q0_ C,q1_ C,q2_ C,q3_ C⟩ (fun Q=>?_);clear hK K;refine norm_ (a':=?_) ?_ ?_;rotate_left
               ·
                show Act.put _ (some 5) _=_;simp only [Act.put,s0_,s1_,s2_,i64_w,i32_w];rfl
               exact norm_ (by simp only [putAll,Act.put,s0_,s1_,s2_] <;> rfl) (z2 (Y) _ ⟨Q,B.1,C.1,J.1,a5.1,a2.1,G.1,U.1,I.1,V.1,X.1⟩)
              ·
               skip
               refine box_step ?hg (N:=6) ?hd (cs:=#[.int .i64 0,.int .i64 0,.int .i64 0,.int .i64 0]) (t:=23) ?hr ?_;(case hd=>rfl);(case hg=>rfl);(case hr=>first|(go_simp;done)|(go_simp;rfl));intro Z hg C7 a4 hb;have F:=mk0 (a4);have a6:=szw hg X;have a3:=szw hg X;have D:=nlt hg B;have R:=ngt hg B;have E:=nlt hg C;have T:=ngt hg C;replace B:=bkb B hb;replace C:=bkb C hb;replace X:=bst X hb;clear hb a4 hg;refine hK.out _ _ ⟨q0_ B,q1_ B,q2_ B,q3_ B,q0_ C,q1_ C,q2_ C,q3_ C⟩ (fun Q=>?_);clear hK K;refine norm_ (a':=?_) ?_ ?_;rotate_left
               ·
                show Act.put _ (some 6) _=_;simp only [Act.put,s0_,s1_,s2_,i64_w,i32_w];rfl
               exact norm_ (by simp only [putAll,Act.put,s0_,s1_,s2_] <;> rfl) (z3 (Z) _ ⟨Q,B.1,C.1,F.1,a6.1,a3.1,D.1,R.1,E.1,T.1,X.1⟩)
             ·
              skip
              clear B C X;rintro Z C8 d7;obtain ⟨d8,B,C,F,a6,a3,D,R,E,T,X⟩:=d7;replace B:=mk0 B;replace C:=mk0 C;replace F:=mk0 F;replace a6:=mk0 a6;replace a3:=mk0 a3;replace D:=mk0 D;replace R:=mk0 R;replace E:=mk0 E;replace T:=mk0 T;replace X:=mk0 X;have Q:=d8;refine norm_ (a':=?_) ?_ ?_;rotate_left
              ·
               simp only [putAll,Act.put,s0_,s1_,s2_];rfl
              refine two_ (i:=1) (j:=4) (Ni:=some 15) (Nj:=some 5) #[y_,y_,y_,n_,n_,y_,n_,n_] #[y_,n_,y_,n_,y_,y_,n_,n_] rfl rfl rfl rfl (two_of b6.1 (by kernel_rfl)) (by decide) (by decide) (fun K hK=>?_) (fun K hK=>?_)
              ·
               skip
               refine goes_ Try.func32 (by kernel_rfl) rfl #[.agg #[.int .i16 a7,.int .i16 a8,.int .i16 a9,.int .i16 b0],.int .i64 1000] (by rfl) rfl rfl (by (try simp only [m0_,m1_,m2_]);first|done|rfl|(simp only [l0_,l1_];rfl)) ?_;with_reducible refine (bellpulllaw04_made.calls k a7 a8 a9 b0 1000 c2 d1 d3 d5 _ A3.1).mono ?_
               rintro e l0 ⟨rfl,hb⟩;refine ⟨_,rfl,?_⟩;replace B:=bkb B hb;replace C:=bkb C hb;replace F:=bkb F hb;replace X:=bst X hb;(try clear hb);refine hK.out _ _ ⟨q0_ B,q1_ B,q2_ B,q3_ B,q0_ C,q1_ C,q2_ C,q3_ C⟩ (fun Q=>?_);clear hK K;refine norm_ (a':=?_) ?_ ?_;rotate_left
               ·
                show Act.put _ (some 15) _=_;simp only [Act.put,s0_,s1_,s2_,i64_w,i32_w];rfl
               exact norm_ (by simp only [putAll,Act.put,s0_,s1_,s2_] <;> rfl) (l3 (Z) _ ⟨Q,B.1,C.1,F.1,a6.1,a3.1,D.1,R.1,E.1,T.1,X.1⟩)
              ·
               skip
               refine box_step ?hg (N:=5) ?hd (cs:=#[.int .i64 0,.int .i64 0,.int .i64 0,.int .i64 0]) (t:=23) ?hr ?_;(case hd=>rfl);(case hg=>rfl);(case hr=>first|(go_simp;done)|(go_simp;rfl));intro Y hg l0 a4 hb;have J:=mk0 (a4);have a5:=szw hg X;have a2:=szw hg X;have G:=nlt hg B;have U:=ngt hg B;have I:=nlt hg C;have V:=ngt hg C;have a0:=nlt hg F;have a1:=ngt hg F;replace B:=bkb B hb;replace C:=bkb C hb;replace F:=bkb F hb;replace X:=bst X hb;clear hb a4 hg;refine hK.out _ _ ⟨q0_ B,q1_ B,q2_ B,q3_ B,q0_ C,q1_ C,q2_ C,q3_ C⟩ (fun Q=>?_);clear hK K;refine norm_ (a':=?_) ?_ ?_;rotate_left
               ·
                show Act.put _ (some 5) _=_;simp only [Act.put,s0_,s1_,s2_,i64_w,i32_w];rfl
               exact norm_ (by simp only [putAll,Act.put,s0_,s1_,s2_] <;> rfl) (l4 (Y,Z) _ ⟨Q,B.1,C.1,J.1,F.1,a5.1,a2.1,G.1,U.1,I.1,V.1,a0.1,a1.1,a6.1,a3.1,D.1,R.1,E.1,T.1,X.1⟩)
            ·
             skip
             clear B C X;rintro Y C8 d7;obtain ⟨d8,B,C,J,a5,a2,G,U,I,V,X⟩:=d7;replace B:=mk0 B;replace C:=mk0 C;replace J:=mk0 J;replace a5:=mk0 a5;replace a2:=mk0 a2;replace G:=mk0 G;replace U:=mk0 U;replace I:=mk0 I;replace V:=mk0 V;replace X:=mk0 X;have Q:=d8;refine norm_ (a':=?_) ?_ ?_;rotate_left
             ·
              simp only [putAll,Act.put,s0_,s1_,s2_];rfl
             refine two_ (i:=1) (j:=5) (Ni:=some 15) (Nj:=some 6) #[y_,y_,y_,n_,y_,n_,n_,n_] #[y_,n_,y_,n_,y_,y_,n_,n_] rfl rfl rfl rfl (two_of b6.1 (by kernel_rfl)) (by decide) (by decide) (fun K hK=>?_) (fun K hK=>?_)
             ·
              skip
              refine goes_ Try.func32 (by kernel_rfl) rfl #[.agg #[.int .i16 a7,.int .i16 a8,.int .i16 a9,.int .i16 b0],.int .i64 1000] (by rfl) rfl rfl (by (try simp only [m0_,m1_,m2_]);first|done|rfl|(simp only [l0_,l1_];rfl)) ?_;with_reducible refine (bellpulllaw04_made.calls k a7 a8 a9 b0 1000 c2 d1 d3 d5 _ A3.1).mono ?_
              rintro e l0 ⟨rfl,hb⟩;refine ⟨_,rfl,?_⟩;replace B:=bkb B hb;replace C:=bkb C hb;replace J:=bkb J hb;replace X:=bst X hb;(try clear hb);refine hK.out _ _ ⟨q0_ B,q1_ B,q2_ B,q3_ B,q0_ C,q1_ C,q2_ C,q3_ C⟩ (fun Q=>?_);clear hK K;refine norm_ (a':=?_) ?_ ?_;rotate_left
              ·
               show Act.put _ (some 15) _=_;simp only [Act.put,s0_,s1_,s2_,i64_w,i32_w];rfl
              exact norm_ (by simp only [putAll,Act.put,s0_,s1_,s2_] <;> rfl) (l2 (Y) _ ⟨Q,B.1,C.1,J.1,a5.1,a2.1,G.1,U.1,I.1,V.1,X.1⟩)
             ·
              skip
              refine box_step ?hg (N:=6) ?hd (cs:=#[.int .i64 0,.int .i64 0,.int .i64 0,.int .i64 0]) (t:=23) ?hr ?_;(case hd=>rfl);(case hg=>rfl);(case hr=>first|(go_simp;done)|(go_simp;rfl));intro Z hg l0 a4 hb;have F:=mk0 (a4);have a6:=szw hg X;have a3:=szw hg X;have D:=nlt hg B;have R:=ngt hg B;have E:=nlt hg C;have T:=ngt hg C;have a1:=nlt hg J;have a0:=ngt hg J;replace B:=bkb B hb;replace C:=bkb C hb;replace J:=bkb J hb;replace X:=bst X hb;clear hb a4 hg;refine hK.out _ _ ⟨q0_ B,q1_ B,q2_ B,q3_ B,q0_ C,q1_ C,q2_ C,q3_ C⟩ (fun Q=>?_);clear hK K;refine norm_ (a':=?_) ?_ ?_;rotate_left
              ·
               show Act.put _ (some 6) _=_;simp only [Act.put,s0_,s1_,s2_,i64_w,i32_w];rfl
              exact norm_ (by simp only [putAll,Act.put,s0_,s1_,s2_] <;> rfl) (l4 (Y,Z) _ ⟨Q,B.1,C.1,J.1,F.1,a5.1,a2.1,G.1,U.1,I.1,V.1,a0.1,a1.1,a6.1,a3.1,D.1,R.1,E.1,T.1,X.1⟩)
           ·
            skip
            clear B C X;rintro _ C8 d7;obtain ⟨d8,B,C,X⟩:=d7;replace B:=mk0 B;replace C:=mk0 C;replace X:=mk0 X;have Q:=d8;refine norm_ (a':=?_) ?_ ?_;rotate_left
            ·
             simp only [putAll,Act.put,s0_,s1_,s2_];rfl
            refine three_ (i:=3) (j:=4) (k:=5) (Ni:=some 17) (Nj:=some 5) (Nk:=some 6) #[y_,y_,y_,y_,n_,n_,n_,n_] #[y_,y_,y_,n_,y_,n_,n_,n_] #[y_,y_,y_,n_,n_,y_,n_,n_] rfl rfl rfl rfl rfl rfl (three_of b6.1 (by kernel_rfl)) (by decide) (by decide) (by decide) (fun K hK=>?_) (fun K hK=>?_) (fun K hK=>?_)
            ·
             skip
             refine goes_ Try.func32 (by kernel_rfl) rfl #[.agg #[.int .i16 b1,.int .i16 b2,.int .i16 b3,.int .i16 b4],.int .i64 40] (by rfl) rfl rfl (by (try simp only [m0_,m1_,m2_]);first|done|rfl|(simp only [l0_,l1_];rfl)) ?_;with_reducible refine (bellpulllaw04_made.calls k b1 b2 b3 b4 40 c0 d0 d2 d4 _ A4.1).mono ?_
             rintro e l0 ⟨rfl,hb⟩;refine ⟨_,rfl,?_⟩;replace B:=bkb B hb;replace C:=bkb C hb;replace X:=bst X hb;(try clear hb);refine hK.out _ _ ⟨q0_ B,q1_ B,q2_ B,q3_ B,q0_ C,q1_ C,q2_ C,q3_ C⟩ (fun Q=>?_);clear hK K;refine norm_ (a':=?_) ?_ ?_;rotate_left
             ·
              show Act.put _ (some 17) _=_;simp only [Act.put,s0_,s1_,s2_,i64_w,i32_w];rfl
             exact norm_ (by simp only [putAll,Act.put,s0_,s1_,s2_] <;> rfl) (p5 () _ ⟨Q,B.1,C.1,X.1⟩)
            ·
             skip
             refine box_step ?hg (N:=5) ?hd (cs:=#[.int .i64 0,.int .i64 0,.int .i64 0,.int .i64 0]) (t:=23) ?hr ?_;(case hd=>rfl);(case hg=>rfl);(case hr=>first|(go_simp;done)|(go_simp;rfl));intro Y hg l0 a4 hb;have J:=mk0 (a4);have a5:=szw hg X;have a2:=szw hg X;have G:=nlt hg B;have U:=ngt hg B;have I:=nlt hg C;have V:=ngt hg C;replace B:=bkb B hb;replace C:=bkb C hb;replace X:=bst X hb;clear hb a4 hg;refine hK.out _ _ ⟨q0_ B,q1_ B,q2_ B,q3_ B,q0_ C,q1_ C,q2_ C,q3_ C⟩ (fun Q=>?_);clear hK K;refine norm_ (a':=?_) ?_ ?_;rotate_left
             ·
              show Act.put _ (some 5) _=_;simp only [Act.put,s0_,s1_,s2_,i64_w,i32_w];rfl
             exact norm_ (by simp only [putAll,Act.put,s0_,s1_,s2_] <;> rfl) (l2 (Y) _ ⟨Q,B.1,C.1,J.1,a5.1,a2.1,G.1,U.1,I.1,V.1,X.1⟩)
            ·
             skip
             refine box_step ?hg (N:=6) ?hd (cs:=#[.int .i64 0,.int .i64 0,.int .i64 0,.int .i64 0]) (t:=23) ?hr ?_;(case hd=>rfl);(case hg=>rfl);(case hr=>first|(go_simp;done)|(go_simp;rfl));intro Z hg l0 a4 hb;have F:=mk0 (a4);have a6:=szw hg X;have a3:=szw hg X;have D:=nlt hg B;have R:=ngt hg B;have E:=nlt hg C;have T:=ngt hg C;replace B:=bkb B hb;replace C:=bkb C hb;replace X:=bst X hb;clear hb a4 hg;refine hK.out _ _ ⟨q0_ B,q1_ B,q2_ B,q3_ B,q0_ C,q1_ C,q2_ C,q3_ C⟩ (fun Q=>?_);clear hK K;refine norm_ (a':=?_) ?_ ?_;rotate_left
             ·
              show Act.put _ (some 6) _=_;simp only [Act.put,s0_,s1_,s2_,i64_w,i32_w];rfl
             exact norm_ (by simp only [putAll,Act.put,s0_,s1_,s2_] <;> rfl) (l3 (Z) _ ⟨Q,B.1,C.1,F.1,a6.1,a3.1,D.1,R.1,E.1,T.1,X.1⟩)
          ·
           skip
           clear B C X;rintro ⟨Y,Z⟩ l0 d7;(try dsimp only at d7);obtain ⟨d8,B,C,J,F,a5,a2,G,U,I,V,a0,a1,a6,a3,D,R,E,T,X⟩:=d7;replace B:=mk0 B;replace C:=mk0 C;replace J:=mk0 J;replace F:=mk0 F;replace a5:=mk0 a5;replace a2:=mk0 a2;replace G:=mk0 G;replace U:=mk0 U;replace I:=mk0 I;replace V:=mk0 V;replace a0:=mk0 a0;replace a1:=mk0 a1;replace a6:=mk0 a6;replace a3:=mk0 a3;replace D:=mk0 D;replace R:=mk0 R;replace E:=mk0 E;replace T:=mk0 T;replace X:=mk0 X;have Q:=d8;refine norm_ (a':=?_) ?_ ?_;rotate_left
           ·
            simp only [putAll,Act.put,s0_,s1_,s2_];rfl
           refine one_ (i:=1) (N:=some 15) #[y_,y_,y_,n_,y_,y_,n_,n_] rfl rfl (one_of b6.1 (by kernel_rfl)) (by decide) (fun K hK=>?_);refine goes_ Try.func32 (by kernel_rfl) rfl #[.agg #[.int .i16 a7,.int .i16 a8,.int .i16 a9,.int .i16 b0],.int .i64 1000] (by rfl) rfl rfl (by (try simp only [m0_,m1_,m2_]);first|done|rfl|(simp only [l0_,l1_];rfl)) ?_;with_reducible refine (bellpulllaw04_made.calls k a7 a8 a9 b0 1000 c2 d1 d3 d5 _ A3.1).mono ?_
           rintro e l5 ⟨rfl,hb⟩;refine ⟨_,rfl,?_⟩;replace B:=bkb B hb;replace C:=bkb C hb;replace J:=bkb J hb;replace F:=bkb F hb;replace X:=bst X hb;(try clear hb);refine hK.out _ _ ⟨q0_ B,q1_ B,q2_ B,q3_ B,q0_ C,q1_ C,q2_ C,q3_ C⟩ (fun Q=>?_);clear hK K;refine norm_ (a':=?_) ?_ ?_;rotate_left
           ·
            show Act.put _ (some 15) _=_;simp only [Act.put,s0_,s1_,s2_,i64_w,i32_w];rfl
           exact norm_ (by simp only [putAll,Act.put,s0_,s1_,s2_] <;> rfl) (f7 (Y,Z) _ ⟨Q,B.1,C.1,J.1,F.1,a5.1,a2.1,G.1,U.1,I.1,V.1,a0.1,a1.1,a6.1,a3.1,D.1,R.1,E.1,T.1,X.1⟩)
         ·
          skip
          clear B C X;rintro Z l0 d7;obtain ⟨d8,B,C,F,a6,a3,D,R,E,T,X⟩:=d7;replace B:=mk0 B;replace C:=mk0 C;replace F:=mk0 F;replace a6:=mk0 a6;replace a3:=mk0 a3;replace D:=mk0 D;replace R:=mk0 R;replace E:=mk0 E;replace T:=mk0 T;replace X:=mk0 X;have Q:=d8;refine norm_ (a':=?_) ?_ ?_;rotate_left
          ·
           simp only [putAll,Act.put,s0_,s1_,s2_];rfl
          refine two_ (i:=3) (j:=4) (Ni:=some 17) (Nj:=some 5) #[y_,y_,y_,y_,n_,y_,n_,n_] #[y_,y_,y_,n_,y_,y_,n_,n_] rfl rfl rfl rfl (two_of b6.1 (by kernel_rfl)) (by decide) (by decide) (fun K hK=>?_) (fun K hK=>?_)
          ·
           skip
           refine goes_ Try.func32 (by kernel_rfl) rfl #[.agg #[.int .i16 b1,.int .i16 b2,.int .i16 b3,.int .i16 b4],.int .i64 40] (by rfl) rfl rfl (by (try simp only [m0_,m1_,m2_]);first|done|rfl|(simp only [l0_,l1_];rfl)) ?_;with_reducible refine (bellpulllaw04_made.calls k b1 b2 b3 b4 40 c0 d0 d2 d4 _ A4.1).mono ?_
           rintro e l5 ⟨rfl,hb⟩;refine ⟨_,rfl,?_⟩;replace B:=bkb B hb;replace C:=bkb C hb;replace F:=bkb F hb;replace X:=bst X hb;(try clear hb);refine hK.out _ _ ⟨q0_ B,q1_ B,q2_ B,q3_ B,q0_ C,q1_ C,q2_ C,q3_ C⟩ (fun Q=>?_);clear hK K;refine norm_ (a':=?_) ?_ ?_;rotate_left
           ·
            show Act.put _ (some 17) _=_;simp only [Act.put,s0_,s1_,s2_,i64_w,i32_w];rfl
           exact norm_ (by simp only [putAll,Act.put,s0_,s1_,s2_] <;> rfl) (i8 (Z) _ ⟨Q,B.1,C.1,F.1,a6.1,a3.1,D.1,R.1,E.1,T.1,X.1⟩)
          ·
           skip
           refine box_step ?hg (N:=5) ?hd (cs:=#[.int .i64 0,.int .i64 0,.int .i64 0,.int .i64 0]) (t:=23) ?hr ?_;(case hd=>rfl);(case hg=>rfl);(case hr=>first|(go_simp;done)|(go_simp;rfl));intro Y hg l5 a4 hb;have J:=mk0 (a4);have a5:=szw hg X;have a2:=szw hg X;have G:=nlt hg B;have U:=ngt hg B;have I:=nlt hg C;have V:=ngt hg C;have a0:=nlt hg F;have a1:=ngt hg F;replace B:=bkb B hb;replace C:=bkb C hb;replace F:=bkb F hb;replace X:=bst X hb;clear hb a4 hg;refine hK.out _ _ ⟨q0_ B,q1_ B,q2_ B,q3_ B,q0_ C,q1_ C,q2_ C,q3_ C⟩ (fun Q=>?_);clear hK K;refine norm_ (a':=?_) ?_ ?_;rotate_left
           ·
            show Act.put _ (some 5) _=_;simp only [Act.put,s0_,s1_,s2_,i64_w,i32_w];rfl
           exact norm_ (by simp only [putAll,Act.put,s0_,s1_,s2_] <;> rfl) (f7 (Y,Z) _ ⟨Q,B.1,C.1,J.1,F.1,a5.1,a2.1,G.1,U.1,I.1,V.1,a0.1,a1.1,a6.1,a3.1,D.1,R.1,E.1,T.1,X.1⟩)
        ·
         skip
         clear B C X;rintro Y l0 d7;obtain ⟨d8,B,C,J,a5,a2,G,U,I,V,X⟩:=d7;replace B:=mk0 B;replace C:=mk0 C;replace J:=mk0 J;replace a5:=mk0 a5;replace a2:=mk0 a2;replace G:=mk0 G;replace U:=mk0 U;replace I:=mk0 I;replace V:=mk0 V;replace X:=mk0 X;have Q:=d8;refine norm_ (a':=?_) ?_ ?_;rotate_left
         ·
          simp only [putAll,Act.put,s0_,s1_,s2_];rfl
         refine two_ (i:=3) (j:=5) (Ni:=some 17) (Nj:=some 6) #[y_,y_,y_,y_,y_,n_,n_,n_] #[y_,y_,y_,n_,y_,y_,n_,n_] rfl rfl rfl rfl (two_of b6.1 (by kernel_rfl)) (by decide) (by decide) (fun K hK=>?_) (fun K hK=>?_)
         ·
          skip
          refine goes_ Try.func32 (by kernel_rfl) rfl #[.agg #[.int .i16 b1,.int .i16 b2,.int .i16 b3,.int .i16 b4],.int .i64 40] (by rfl) rfl rfl (by (try simp only [m0_,m1_,m2_]);first|done|rfl|(simp only [l0_,l1_];rfl)) ?_;with_reducible refine (bellpulllaw04_made.calls k b1 b2 b3 b4 40 c0 d0 d2 d4 _ A4.1).mono ?_
          rintro e l5 ⟨rfl,hb⟩;refine ⟨_,rfl,?_⟩;replace B:=bkb B hb;replace C:=bkb C hb;replace J:=bkb J hb;replace X:=bst X hb;(try clear hb);refine hK.out _ _ ⟨q0_ B,q1_ B,q2_ B,q3_ B,q0_ C,q1_ C,q2_ C,q3_ C⟩ (fun Q=>?_);clear hK K;refine norm_ (a':=?_) ?_ ?_;rotate_left
          ·
           show Act.put _ (some 17) _=_;simp only [Act.put,s0_,s1_,s2_,i64_w,i32_w];rfl
          exact norm_ (by simp only [putAll,Act.put,s0_,s1_,s2_] <;> rfl) (i7 (Y) _ ⟨Q,B.1,C.1,J.1,a5.1,a2.1,G.1,U.1,I.1,V.1,X.1⟩)
         ·
          skip
          refine box_step ?hg (N:=6) ?hd (cs:=#[.int .i64 0,.int .i64 0,.int .i64 0,.int .i64 0]) (t:=23) ?hr ?_;(case hd=>rfl);(case hg=>rfl);(case hr=>first|(go_simp;done)|(go_simp;rfl));intro Z hg l5 a4 hb;have F:=mk0 (a4);have a6:=szw hg X;have a3:=szw hg X;have D:=nlt hg B;have R:=ngt hg B;have E:=nlt hg C;have T:=ngt hg C;have a1:=nlt hg J;have a0:=ngt hg J;replace B:=bkb B hb;replace C:=bkb C hb;replace J:=bkb J hb;replace X:=bst X hb;clear hb a4 hg;refine hK.out _ _ ⟨q0_ B,q1_ B,q2_ B,q3_ B,q0_ C,q1_ C,q2_ C,q3_ C⟩ (fun Q=>?_);clear hK K;refine norm_ (a':=?_) ?_ ?_;rotate_left
          ·
           show Act.put _ (some 6) _=_;simp only [Act.put,s0_,s1_,s2_,i64_w,i32_w];rfl
          exact norm_ (by simp only [putAll,Act.put,s0_,s1_,s2_] <;> rfl) (f7 (Y,Z) _ ⟨Q,B.1,C.1,J.1,F.1,a5.1,a2.1,G.1,U.1,I.1,V.1,a0.1,a1.1,a6.1,a3.1,D.1,R.1,E.1,T.1,X.1⟩)
       ·
        skip
        clear B C X;rintro _ l0 d7;obtain ⟨d8,B,C,X⟩:=d7;replace B:=mk0 B;replace C:=mk0 C;replace X:=mk0 X;have Q:=d8;refine norm_ (a':=?_) ?_ ?_;rotate_left
        ·
         simp only [putAll,Act.put,s0_,s1_,s2_];rfl
        refine two_ (i:=4) (j:=5) (Ni:=some 5) (Nj:=some 6) #[y_,y_,y_,y_,y_,n_,n_,n_] #[y_,y_,y_,y_,n_,y_,n_,n_] rfl rfl rfl rfl (two_of b6.1 (by kernel_rfl)) (by decide) (by decide) (fun K hK=>?_) (fun K hK=>?_)
        ·
         skip
         refine box_step ?hg (N:=5) ?hd (cs:=#[.int .i64 0,.int .i64 0,.int .i64 0,.int .i64 0]) (t:=23) ?hr ?_;(case hd=>rfl);(case hg=>rfl);(case hr=>first|(go_simp;done)|(go_simp;rfl));intro Y hg l5 a4 hb;have J:=mk0 (a4);have a5:=szw hg X;have a2:=szw hg X;have G:=nlt hg B;have U:=ngt hg B;have I:=nlt hg C;have V:=ngt hg C;replace B:=bkb B hb;replace C:=bkb C hb;replace X:=bst X hb;clear hb a4 hg;refine hK.out _ _ ⟨q0_ B,q1_ B,q2_ B,q3_ B,q0_ C,q1_ C,q2_ C,q3_ C⟩ (fun Q=>?_);clear hK K;refine norm_ (a':=?_) ?_ ?_;rotate_left
         ·
          show Act.put _ (some 5) _=_;simp only [Act.put,s0_,s1_,s2_,i64_w,i32_w];rfl
         exact norm_ (by simp only [putAll,Act.put,s0_,s1_,s2_] <;> rfl) (i7 (Y) _ ⟨Q,B.1,C.1,J.1,a5.1,a2.1,G.1,U.1,I.1,V.1,X.1⟩)
        ·
         skip
         refine box_step ?hg (N:=6) ?hd (cs:=#[.int .i64 0,.int .i64 0,.int .i64 0,.int .i64 0]) (t:=23) ?hr ?_;(case hd=>rfl);(case hg=>rfl);(case hr=>first|(go_simp;done)|(go_simp;rfl));intro Z hg l5 a4 hb;have F:=mk0 (a4);have a6:=szw hg X;have a3:=szw hg X;have D:=nlt hg B;have R:=ngt hg B;have E:=nlt hg C;have T:=ngt hg C;replace B:=bkb B hb;replace C:=bkb C hb;replace X:=bst X hb;clear hb a4 hg;refine hK.out _ _ ⟨q0_ B,q1_ B,q2_ B,q3_ B,q0_ C,q1_ C,q2_ C,q3_ C⟩ (fun Q=>?_);clear hK K;refine norm_ (a':=?_) ?_ ?_;rotate_left
         ·
          show Act.put _ (some 6) _=_;simp only [Act.put,s0_,s1_,s2_,i64_w,i32_w];rfl
         exact norm_ (by simp only [putAll,Act.put,s0_,s1_,s2_] <;> rfl) (i8 (Z) _ ⟨Q,B.1,C.1,F.1,a6.1,a3.1,D.1,R.1,E.1,T.1,X.1⟩)
      ·
       skip
       clear B C X;rintro ⟨Y,Z⟩ l5 d7;(try dsimp only at d7);obtain ⟨d8,B,C,J,F,a5,a2,G,U,I,V,a0,a1,a6,a3,D,R,E,T,X⟩:=d7;replace B:=mk0 B;replace C:=mk0 C;replace J:=mk0 J;replace F:=mk0 F;replace a5:=mk0 a5;replace a2:=mk0 a2;replace G:=mk0 G;replace U:=mk0 U;replace I:=mk0 I;replace V:=mk0 V;replace a0:=mk0 a0;replace a1:=mk0 a1;replace a6:=mk0 a6;replace a3:=mk0 a3;replace D:=mk0 D;replace R:=mk0 R;replace E:=mk0 E;replace T:=mk0 T;replace X:=mk0 X;have Q:=d8;refine norm_ (a':=?_) ?_ ?_;rotate_left
       ·
        simp only [putAll,Act.put,s0_,s1_,s2_];rfl
       refine one_ (i:=3) (N:=some 17) #[y_,y_,y_,y_,y_,y_,n_,n_] rfl rfl (one_of b6.1 (by kernel_rfl)) (by decide) (fun K hK=>?_);refine goes_ Try.func32 (by kernel_rfl) rfl #[.agg #[.int .i16 b1,.int .i16 b2,.int .i16 b3,.int .i16 b4],.int .i64 40] (by rfl) rfl rfl (by (try simp only [m0_,m1_,m2_]);first|done|rfl|(simp only [l0_,l1_];rfl)) ?_;with_reducible refine (bellpulllaw04_made.calls k b1 b2 b3 b4 40 c0 d0 d2 d4 _ A4.1).mono ?_
       rintro e z4 ⟨rfl,hb⟩;refine ⟨_,rfl,?_⟩;replace B:=bkb B hb;replace C:=bkb C hb;replace J:=bkb J hb;replace F:=bkb F hb;replace X:=bst X hb;(try clear hb);refine hK.out _ _ ⟨q0_ B,q1_ B,q2_ B,q3_ B,q0_ C,q1_ C,q2_ C,q3_ C⟩ (fun Q=>?_);clear hK K;refine norm_ (a':=?_) ?_ ?_;rotate_left
       ·
        show Act.put _ (some 17) _=_;simp only [Act.put,s0_,s1_,s2_,i64_w,i32_w];rfl
       exact norm_ (by simp only [putAll,Act.put,s0_,s1_,s2_] <;> rfl) (f0 (Y,Z) _ ⟨Q,B.1,C.1,J.1,F.1,a5.1,a2.1,G.1,U.1,I.1,V.1,a0.1,a1.1,a6.1,a3.1,D.1,R.1,E.1,T.1,X.1⟩)
     ·
      skip
      clear B C X;rintro Z l5 d7;obtain ⟨d8,B,C,F,a6,a3,D,R,E,T,X⟩:=d7;replace B:=mk0 B;replace C:=mk0 C;replace F:=mk0 F;replace a6:=mk0 a6;replace a3:=mk0 a3;replace D:=mk0 D;replace R:=mk0 R;replace E:=mk0 E;replace T:=mk0 T;replace X:=mk0 X;have Q:=d8;refine norm_ (a':=?_) ?_ ?_;rotate_left
      ·
       simp only [putAll,Act.put,s0_,s1_,s2_];rfl
      refine one_ (i:=4) (N:=some 5) #[y_,y_,y_,y_,y_,y_,n_,n_] rfl rfl (one_of b6.1 (by kernel_rfl)) (by decide) (fun K hK=>?_);refine box_step ?hg (N:=5) ?hd (cs:=#[.int .i64 0,.int .i64 0,.int .i64 0,.int .i64 0]) (t:=23) ?hr ?_;(case hd=>rfl);(case hg=>rfl);(case hr=>first|(go_simp;done)|(go_simp;rfl));intro Y hg z4 a4 hb;have J:=mk0 (a4);have a5:=szw hg X;have a2:=szw hg X;have G:=nlt hg B;have U:=ngt hg B;have I:=nlt hg C;have V:=ngt hg C;have a0:=nlt hg F;have a1:=ngt hg F;replace B:=bkb B hb;replace C:=bkb C hb;replace F:=bkb F hb;replace X:=bst X hb;clear hb a4 hg;refine hK.out _ _ ⟨q0_ B,q1_ B,q2_ B,q3_ B,q0_ C,q1_ C,q2_ C,q3_ C⟩ (fun Q=>?_);clear hK K;refine norm_ (a':=?_) ?_ ?_;rotate_left
      ·
       show Act.put _ (some 5) _=_;simp only [Act.put,s0_,s1_,s2_,i64_w,i32_w];rfl
      exact norm_ (by simp only [putAll,Act.put,s0_,s1_,s2_] <;> rfl) (f0 (Y,Z) _ ⟨Q,B.1,C.1,J.1,F.1,a5.1,a2.1,G.1,U.1,I.1,V.1,a0.1,a1.1,a6.1,a3.1,D.1,R.1,E.1,T.1,X.1⟩)
    ·
     skip
     clear B C X;rintro Y l5 d7;obtain ⟨d8,B,C,J,a5,a2,G,U,I,V,X⟩:=d7;replace B:=mk0 B;replace C:=mk0 C;replace J:=mk0 J;replace a5:=mk0 a5;replace a2:=mk0 a2;replace G:=mk0 G;replace U:=mk0 U;replace I:=mk0 I;replace V:=mk0 V;replace X:=mk0 X;have Q:=d8;refine norm_ (a':=?_) ?_ ?_;rotate_left
     ·
      simp only [putAll,Act.put,s0_,s1_,s2_];rfl
     refine one_ (i:=5) (N:=some 6) #[y_,y_,y_,y_,y_,y_,n_,n_] rfl rfl (one_of b6.1 (by kernel_rfl)) (by decide) (fun K hK=>?_);refine box_step ?hg (N:=6) ?hd (cs:=#[.int .i64 0,.int .i64 0,.int .i64 0,.int .i64 0]) (t:=23) ?hr ?_;(case hd=>rfl);(case hg=>rfl);(case hr=>first|(go_simp;done)|(go_simp;rfl));intro Z hg z4 a4 hb;have F:=mk0 (a4);have a6:=szw hg X;have a3:=szw hg X;have D:=nlt hg B;have R:=ngt hg B;have E:=nlt hg C;have T:=ngt hg C;have a1:=nlt hg J;have a0:=ngt hg J;replace B:=bkb B hb;replace C:=bkb C hb;replace J:=bkb J hb;replace X:=bst X hb;clear hb a4 hg;refine hK.out _ _ ⟨q0_ B,q1_ B,q2_ B,q3_ B,q0_ C,q1_ C,q2_ C,q3_ C⟩ (fun Q=>?_);clear hK K;refine norm_ (a':=?_) ?_ ?_;rotate_left
     ·
      show Act.put _ (some 6) _=_;simp only [Act.put,s0_,s1_,s2_,i64_w,i32_w];rfl
     exact norm_ (by simp only [putAll,Act.put,s0_,s1_,s2_] <;> rfl) (f0 (Y,Z) _ ⟨Q,B.1,C.1,J.1,F.1,a5.1,a2.1,G.1,U.1,I.1,V.1,a0.1,a1.1,a6.1,a3.1,D.1,R.1,E.1,T.1,X.1⟩)
   clear B C X;rintro ⟨Y,Z⟩ z4 d7;(try dsimp only at d7);obtain ⟨d8,B,C,J,F,a5,a2,G,U,I,V,a0,a1,a6,a3,D,R,E,T,X⟩:=d7;replace B:=mk0 B;replace C:=mk0 C;replace J:=mk0 J;replace F:=mk0 F;replace a5:=mk0 a5;replace a2:=mk0 a2;replace G:=mk0 G;replace U:=mk0 U;replace I:=mk0 I;replace V:=mk0 V;replace a0:=mk0 a0;replace a1:=mk0 a1;replace a6:=mk0 a6;replace a3:=mk0 a3;replace D:=mk0 D;replace R:=mk0 R;replace E:=mk0 E;replace T:=mk0 T;replace X:=mk0 X;have Q:=d8;refine norm_ (a':=?_) ?_ ?_;rotate_left
   ·
    simp only [putAll,Act.put,s0_,s1_,s2_];rfl
   refine one_ (i:=6) (N:=none) #[y_,y_,y_,y_,y_,y_,y_,n_] rfl rfl (one_of b6.1 (by kernel_rfl)) (by decide) (fun K hK=>?_);have Dn:=q0_ J;have Af:=blk_frozen J.1 0;have G0:=G.1;have G1:=I.1;have G2:=a0.1;have G3:=U.1;have G4:=V.1;have G5:=a1.1;have Do:=q1_ J;have Ag:=blk_frozen J.1 1;have G6:=G.1;have G7:=I.1;have G8:=a0.1;have G9:=U.1;have H0:=V.1;have H2:=a1.1;have Dp:=q2_ J;have Ah:=blk_frozen J.1 2;have H3:=G.1;have H4:=I.1;have H5:=a0.1;have H6:=U.1;have H7:=V.1;have H8:=a1.1;have Dq:=q3_ J;have Ai:=blk_frozen J.1 3;have H9:=G.1;have I0:=I.1;have I1:=a0.1;have I2:=U.1;have I3:=V.1;have I4:=a1.1;refine skip_ (w1:=?_) (by rfl) rfl ?_ ?_;rotate_left
   ·
    go_simp;rfl
   refine hK.out _ _ ⟨((cell_far (p:=⟨Y,_,none⟩) G.1 _).trans (((cell_far (p:=⟨Y,_,none⟩) G.1 _).trans (((cell_far (p:=⟨Y,_,none⟩) G.1 _).trans (((cell_far (p:=⟨Y,_,none⟩) G.1 _).trans (Q.1)))))))),((cell_far (p:=⟨Y,_,none⟩) G.1 _).trans (((cell_far (p:=⟨Y,_,none⟩) G.1 _).trans (((cell_far (p:=⟨Y,_,none⟩) G.1 _).trans (((cell_far (p:=⟨Y,_,none⟩) G.1 _).trans (Q.2.1)))))))),((cell_far (p:=⟨Y,_,none⟩) G.1 _).trans (((cell_far (p:=⟨Y,_,none⟩) G.1 _).trans (((cell_far (p:=⟨Y,_,none⟩) G.1 _).trans (((cell_far (p:=⟨Y,_,none⟩) G.1 _).trans (Q.2.2.1)))))))),((cell_far (p:=⟨Y,_,none⟩) G.1 _).trans (((cell_far (p:=⟨Y,_,none⟩) G.1 _).trans (((cell_far (p:=⟨Y,_,none⟩) G.1 _).trans (((cell_far (p:=⟨Y,_,none⟩) G.1 _).trans (Q.2.2.2.1)))))))),((cell_far (p:=⟨Y,_,none⟩) I.1 _).trans (((cell_far (p:=⟨Y,_,none⟩) I.1 _).trans (((cell_far (p:=⟨Y,_,none⟩) I.1 _).trans (((cell_far (p:=⟨Y,_,none⟩) I.1 _).trans (Q.2.2.2.2.1)))))))),((cell_far (p:=⟨Y,_,none⟩) I.1 _).trans (((cell_far (p:=⟨Y,_,none⟩) I.1 _).trans (((cell_far (p:=⟨Y,_,none⟩) I.1 _).trans (((cell_far (p:=⟨Y,_,none⟩) I.1 _).trans (Q.2.2.2.2.2.1)))))))),((cell_far (p:=⟨Y,_,none⟩) I.1 _).trans (((cell_far (p:=⟨Y,_,none⟩) I.1 _).trans (((cell_far (p:=⟨Y,_,none⟩) I.1 _).trans (((cell_far (p:=⟨Y,_,none⟩) I.1 _).trans (Q.2.2.2.2.2.2.1)))))))),((cell_far (p:=⟨Y,_,none⟩) I.1 _).trans (((cell_far (p:=⟨Y,_,none⟩) I.1 _).trans (((cell_far (p:=⟨Y,_,none⟩) I.1 _).trans (((cell_far (p:=⟨Y,_,none⟩) I.1 _).trans (Q.2.2.2.2.2.2.2))))))))⟩ (fun Q=>?_);clear hK K;refine one_ (i:=7) (N:=none) #[y_,y_,y_,y_,y_,y_,y_,y_] rfl rfl (one_of b6.1 (by kernel_rfl)) (by decide) (fun K hK=>?_);have Dr:=q0_ F;have Aj:=blk_frozen F.1 0;have I5:=D.1;have I6:=E.1;have I7:=a1.1;have I8:=R.1;have I9:=T.1;have J0:=a0.1;have Ds:=q1_ F;have Ak:=blk_frozen F.1 1;have J1:=D.1;have J2:=E.1;have J3:=a1.1;have J4:=R.1;have J5:=T.1;have J6:=a0.1;have Dt:=q2_ F;have Al:=blk_frozen F.1 2;have J7:=D.1;have J8:=E.1;have J9:=a1.1;have L0:=R.1;have L1:=T.1;have L2:=a0.1;have Du:=q3_ F;have Am:=blk_frozen F.1 3;have L3:=D.1;have L4:=E.1;have L5:=a1.1;have L6:=R.1;have L7:=T.1;have L8:=a0.1;refine skip_ (w1:=?_) (by rfl) rfl ?_ ?_;rotate_left
   ·
    go_simp;rfl
   refine hK.out _ _ ⟨((cell_far (p:=⟨Z,_,none⟩) D.1 _).trans (((cell_far (p:=⟨Z,_,none⟩) D.1 _).trans (((cell_far (p:=⟨Z,_,none⟩) D.1 _).trans (((cell_far (p:=⟨Z,_,none⟩) D.1 _).trans (Q.1)))))))),((cell_far (p:=⟨Z,_,none⟩) D.1 _).trans (((cell_far (p:=⟨Z,_,none⟩) D.1 _).trans (((cell_far (p:=⟨Z,_,none⟩) D.1 _).trans (((cell_far (p:=⟨Z,_,none⟩) D.1 _).trans (Q.2.1)))))))),((cell_far (p:=⟨Z,_,none⟩) D.1 _).trans (((cell_far (p:=⟨Z,_,none⟩) D.1 _).trans (((cell_far (p:=⟨Z,_,none⟩) D.1 _).trans (((cell_far (p:=⟨Z,_,none⟩) D.1 _).trans (Q.2.2.1)))))))),((cell_far (p:=⟨Z,_,none⟩) D.1 _).trans (((cell_far (p:=⟨Z,_,none⟩) D.1 _).trans (((cell_far (p:=⟨Z,_,none⟩) D.1 _).trans (((cell_far (p:=⟨Z,_,none⟩) D.1 _).trans (Q.2.2.2.1)))))))),((cell_far (p:=⟨Z,_,none⟩) E.1 _).trans (((cell_far (p:=⟨Z,_,none⟩) E.1 _).trans (((cell_far (p:=⟨Z,_,none⟩) E.1 _).trans (((cell_far (p:=⟨Z,_,none⟩) E.1 _).trans (Q.2.2.2.2.1)))))))),((cell_far (p:=⟨Z,_,none⟩) E.1 _).trans (((cell_far (p:=⟨Z,_,none⟩) E.1 _).trans (((cell_far (p:=⟨Z,_,none⟩) E.1 _).trans (((cell_far (p:=⟨Z,_,none⟩) E.1 _).trans (Q.2.2.2.2.2.1)))))))),((cell_far (p:=⟨Z,_,none⟩) E.1 _).trans (((cell_far (p:=⟨Z,_,none⟩) E.1 _).trans (((cell_far (p:=⟨Z,_,none⟩) E.1 _).trans (((cell_far (p:=⟨Z,_,none⟩) E.1 _).trans (Q.2.2.2.2.2.2.1)))))))),((cell_far (p:=⟨Z,_,none⟩) E.1 _).trans (((cell_far (p:=⟨Z,_,none⟩) E.1 _).trans (((cell_far (p:=⟨Z,_,none⟩) E.1 _).trans (((cell_far (p:=⟨Z,_,none⟩) E.1 _).trans (Q.2.2.2.2.2.2.2))))))))⟩ (fun Q=>?_);clear hK K;refine done_ (done_of b6.1 (by kernel_rfl)) ?_;have An:=R.1;have Ao:=D.1;have Ap:=T.1;have Aq:=E.1;have Ar:=a0.1;have As:=a1.1;have L9:=q0_ F;have M0:=q1_ F;have M1:=q2_ F;have M2:=q3_ F;have M3:=blk_frozen F.1 0;have M4:=blk_frozen F.1 1;have M5:=blk_frozen F.1 2;have M6:=blk_frozen F.1 3;have At:=U.1;have Au:=G.1;have Av:=V.1;have Aw:=I.1;have M7:=q0_ J;have M8:=q1_ J;have M9:=q2_ J;have N0:=q3_ J;have N1:=blk_frozen J.1 0;have N2:=blk_frozen J.1 1;have N3:=blk_frozen J.1 2;have N4:=blk_frozen J.1 3;try go_wp2_with (first|((with_reducible refine gate_callee (f:=17) rfl ?_);refine goesL_ (some 24) rfl rfl Try.func17 (by kernel_rfl) rfl #[.agg #[.int .i64 c2,.int .i64 d1,.int .i64 d3,.int .i64 d5],.agg #[.int .i64 c0,.int .i64 d0,.int .i64 d2,.int .i64 d4]] rfl (by (try simp only [m0_,m1_,m2_]);first|done|rfl|(simp only [l0_,l1_];rfl)) ?_;(with_reducible refine (norm_Divide.calls k c2 d1 d3 d5 c0 d0 d2 d4 o6 o9 r7 y9 o7 p0 r8 z0 p1 _ A6.1).mono ?_);rintro e En ⟨rfl,hb⟩;refine ⟨_,rfl,?_⟩;replace B:=mk0 (blk_below (g:=L) (o:=.cells #[.int .i16 a7,.int .i16 a8,.int .i16 a9,.int .i16 b0] 47 (0,0)) (by (iterate 4 refine blk_far ?_ D.1 _);(iterate 4 refine blk_far ?_ G.1 _);exact B.1) hb);replace C:=mk0 (blk_below (g:=O) (o:=.cells #[.int .i16 b1,.int .i16 b2,.int .i16 b3,.int .i16 b4] 47 (0,0)) (by (iterate 4 refine blk_far ?_ E.1 _);(iterate 4 refine blk_far ?_ I.1 _);exact C.1) hb);replace J:=mk0 (blk_below (g:=Y) (o:=.cells #[.int .i64 c2,.int .i64 d1,.int .i64 d3,.int .i64 d5] 23 (0,0)) (by (iterate 4 refine blk_far ?_ a1.1 _);refine blk_put (cs:=#[.int .i64 c2,.int .i64 d1,.int .i64 d3,.int .i64 0]) ?_ 3 _ rfl;refine blk_put (cs:=#[.int .i64 c2,.int .i64 d1,.int .i64 0,.int .i64 0]) ?_ 2 _ rfl;refine blk_put (cs:=#[.int .i64 c2,.int .i64 0,.int .i64 0,.int .i64 0]) ?_ 1 _ rfl;refine blk_put (cs:=#[.int .i64 0,.int .i64 0,.int .i64 0,.int .i64 0]) ?_ 0 _ rfl;exact J.1) hb);replace F:=mk0 (blk_below (g:=Z) (o:=.cells #[.int .i64 c0,.int .i64 d0,.int .i64 d2,.int .i64 d4] 23 (0,0)) (by refine blk_put (cs:=#[.int .i64 c0,.int .i64 d0,.int .i64 d2,.int .i64 0]) ?_ 3 _ rfl;refine blk_put (cs:=#[.int .i64 c0,.int .i64 d0,.int .i64 0,.int .i64 0]) ?_ 2 _ rfl;refine blk_put (cs:=#[.int .i64 c0,.int .i64 0,.int .i64 0,.int .i64 0]) ?_ 1 _ rfl;refine blk_put (cs:=#[.int .i64 0,.int .i64 0,.int .i64 0,.int .i64 0]) ?_ 0 _ rfl;(iterate 4 refine blk_far ?_ a0.1 _);exact F.1) hb);replace X:=mk0 (below_step (by repeat (with_reducible first|exact X.1|refine below_set ?_ f8.1|refine below_set ?_ f9.1|refine below_set ?_ a2.1|refine below_set ?_ a3.1)) hb);(try clear hb))|((with_reducible refine gate_dst (N:=7) rfl ?_);(try (refine gate_guard (by rfl) ?_;dsimp only));refine box_event ?hg (N:=7) ?hd (cs:=#[.int .i64 0,.int .i64 0,.int .i64 0,.int .i64 0]) (t:=23) ?hr ?_;(case hd=>rfl);(case hg=>rfl);(case hr=>first|(go_simp;done)|(go_simp;rfl));intro B5 hg Eo a4 hb;have e8:=mk0 (a4);have B6:=szw hg X;have t2:=B6;have m2:=nlt hg B;have q2:=ngt hg B;have m3:=nlt hg C;have q3:=ngt hg C;have m4:=nlt hg J;have q4:=ngt hg J;have m5:=nlt hg F;have q5:=ngt hg F;replace B:=bkb B hb;replace C:=bkb C hb;replace J:=bkb J hb;replace F:=bkb F hb;replace X:=bst X hb;clear hb a4 hg)|((with_reducible refine gate_dst (N:=8) rfl ?_);(try (refine gate_guard (by rfl) ?_;dsimp only));refine box_event ?hg (N:=8) ?hd (cs:=#[.int .i64 0,.int .i64 0,.int .i64 0,.int .i64 0]) (t:=23) ?hr ?_;(case hd=>rfl);(case hg=>rfl);(case hr=>first|(go_simp;done)|(go_simp;rfl));intro B7 hg Ep a4 hb;have g0:=mk0 (a4);have B8:=szw hg X;have t3:=B8;have m6:=nlt hg B;have q6:=ngt hg B;have m7:=nlt hg C;have q7:=ngt hg C;have m8:=nlt hg J;have q8:=ngt hg J;have m9:=nlt hg F;have q9:=ngt hg F;have n0:=nlt hg e8;have n1:=ngt hg e8;replace B:=bkb B hb;replace C:=bkb C hb;replace J:=bkb J hb;replace F:=bkb F hb;replace e8:=bkb e8 hb;replace X:=bst X hb;clear hb a4 hg;have Ax:=q2.1;have Ay:=m2.1;have Az:=q3.1;have Ba:=m3.1;have Bb:=q4.1;have Bc:=m4.1;have Bd:=q5.1;have Be:=m5.1;have Bf:=n0.1;have Bg:=n1.1;have N5:=q0_ e8;have N6:=q1_ e8;have N7:=q2_ e8;have N8:=q3_ e8;have N9:=blk_frozen e8.1 0;have O0:=blk_frozen e8.1 1;have O1:=blk_frozen e8.1 2;have O2:=blk_frozen e8.1 3;have Bh:=q6.1;have Bi:=m6.1;have Bj:=q7.1;have Bk:=m7.1;have Bl:=q8.1;have Bm:=m8.1;have Bn:=q9.1;have Bo:=m9.1;have O3:=q0_ g0;have O4:=q1_ g0;have O5:=q2_ g0;have O6:=q3_ g0;have O7:=blk_frozen g0.1 0;have O8:=blk_frozen g0.1 1;have O9:=blk_frozen g0.1 2;have Q0:=blk_frozen g0.1 3)|(go_at_call 19;(with_reducible refine (bellpulllaw04_lives.calls k  r6 _ A8.1).mono ?_);rintro e Eq ⟨rfl,hb⟩;replace B:=mk0 (blk_below (g:=L) (o:=.cells #[.int .i16 a7,.int .i16 a8,.int .i16 a9,.int .i16 b0] 47 (0,0)) (by (iterate 4 refine blk_far ?_ m6.1 _);(iterate 4 refine blk_far ?_ m2.1 _);exact B.1) hb);replace C:=mk0 (blk_below (g:=O) (o:=.cells #[.int .i16 b1,.int .i16 b2,.int .i16 b3,.int .i16 b4] 47 (0,0)) (by (iterate 4 refine blk_far ?_ m7.1 _);(iterate 4 refine blk_far ?_ m3.1 _);exact C.1) hb);replace J:=mk0 (blk_below (g:=Y) (o:=.cells #[.int .i64 c2,.int .i64 d1,.int .i64 d3,.int .i64 d5] 23 (0,0)) (by (iterate 4 refine blk_far ?_ m8.1 _);(iterate 4 refine blk_far ?_ m4.1 _);exact J.1) hb);replace F:=mk0 (blk_below (g:=Z) (o:=.cells #[.int .i64 c0,.int .i64 d0,.int .i64 d2,.int .i64 d4] 23 (0,0)) (by (iterate 4 refine blk_far ?_ m9.1 _);(iterate 4 refine blk_far ?_ m5.1 _);exact F.1) hb);replace e8:=mk0 (blk_below (g:=B5) (o:=.cells #[.int .i64 o6,.int .i64 o9,.int .i64 r7,.int .i64 y9] 23 (0,0)) (by (iterate 4 refine blk_far ?_ n0.1 _);refine blk_put (cs:=#[.int .i64 o6,.int .i64 o9,.int .i64 r7,.int .i64 0]) ?_ 3 _ rfl;refine blk_put (cs:=#[.int .i64 o6,.int .i64 o9,.int .i64 0,.int .i64 0]) ?_ 2 _ rfl;refine blk_put (cs:=#[.int .i64 o6,.int .i64 0,.int .i64 0,.int .i64 0]) ?_ 1 _ rfl;refine blk_put (cs:=#[.int .i64 0,.int .i64 0,.int .i64 0,.int .i64 0]) ?_ 0 _ rfl;exact e8.1) hb);replace g0:=mk0 (blk_below (g:=B7) (o:=.cells #[.int .i64 o7,.int .i64 p0,.int .i64 r8,.int .i64 z0] 23 (0,0)) (by refine blk_put (cs:=#[.int .i64 o7,.int .i64 p0,.int .i64 r8,.int .i64 0]) ?_ 3 _ rfl;refine blk_put (cs:=#[.int .i64 o7,.int .i64 p0,.int .i64 0,.int .i64 0]) ?_ 2 _ rfl;refine blk_put (cs:=#[.int .i64 o7,.int .i64 0,.int .i64 0,.int .i64 0]) ?_ 1 _ rfl;refine blk_put (cs:=#[.int .i64 0,.int .i64 0,.int .i64 0,.int .i64 0]) ?_ 0 _ rfl;(iterate 4 refine blk_far ?_ n1.1 _);exact g0.1) hb);replace X:=mk0 (below_step (by repeat (with_reducible first|exact X.1|refine below_set ?_ f8.1|refine below_set ?_ f9.1|refine below_set ?_ a2.1|refine below_set ?_ a3.1|refine below_set ?_ t2.1|refine below_set ?_ t3.1)) hb);(try clear hb)))
   go_ret;exact ⟨by first|rfl|(simp [errW_none,errW_some] <;> rfl)|(simp [*,errW_none,errW_some] <;> rfl),by repeat (first|(with_reducible first|exact X.1|apply below_alloc|apply pw_below_drewN|apply below_drew1|refine below_set ?_ f8.1|refine below_set ?_ f9.1|refine below_set ?_ a2.1|refine below_set ?_ a3.1|refine below_set ?_ t2.1|refine below_set ?_ t3.1)|exact X.1)⟩
  ·
   rw [if_neg c7] at H;exact absurd H (by simp)
 ·
  rw [if_neg c5] at H;have c5b0:(c0 == 0 && (d0 == 0 && (d2 == 0 && (d4 == 0))))=false:=by simpa using c5
  (try (have c5b1:decide (c0=0 && (d0 == 0 && (d2 == 0 && (d4 == 0))))=false:=by simpa using c5));(try (have c5b2:(c0 == 0 && (d0 == 0 && (d2 == 0 && (d4 == 0))))=false:=by simpa using c5));(try (have c5b3:¬ (c0=0 && (d0 == 0 && (d2 == 0 && (d4 == 0)))):=by simpa using c5));clear c5;replace H:=Option.bind_eq_some_iff.mp H;obtain ⟨⟨d9,e5,f1,f6,e0,e1,e2,e3,p6⟩,z5,H⟩:=H;(try dsimp only at H);have X0:=mk0 z5;clear z5;have r9:=mk0 H;clear H;go_enter Try.func7,Try.ntmps7;try go_wp2_with (first|((with_reducible refine gate_dst (N:=2) rfl ?_);(try (refine gate_guard (by rfl) ?_;dsimp only));refine box_event ?hg (N:=2) ?hd (cs:=#[.int .i16 a7,.int .i16 a8,.int .i16 a9,.int .i16 b0]) (t:=47) ?hr ?_;(case hd=>rfl);(case hg=>rfl);(case hr=>first|(go_simp;done)|(go_simp;rfl));intro L hg Er a4 hb;have B:=mk0 (a4);have p3:=szw hg X;have f8:=p3;replace X:=bst X hb;clear hb a4 hg)|((with_reducible refine gate_dst (N:=3) rfl ?_);(try (refine gate_guard (by rfl) ?_;dsimp only));refine box_event ?hg (N:=3) ?hd (cs:=#[.int .i16 b1,.int .i16 b2,.int .i16 b3,.int .i16 b4]) (t:=47) ?hr ?_;(case hd=>rfl);(case hg=>rfl);(case hr=>first|(go_simp;done)|(go_simp;rfl));intro O hg X1 a4 hb;have C:=mk0 (a4);have p4:=szw hg X;have f9:=p4;have q0:=nlt hg B;have q1:=ngt hg B;replace B:=bkb B hb;replace X:=bst X hb;clear hb a4 hg))
  replace B:=bdr B;replace C:=bdr C;replace X:=hdr X;refine start_ (n:=8) (S:=fun w'=>w'.cell? ⟨L,0,none⟩=some (.int .i16 a7)∧w'.cell? ⟨L,1,none⟩=some (.int .i16 a8)∧w'.cell? ⟨L,2,none⟩=some (.int .i16 a9)∧w'.cell? ⟨L,3,none⟩=some (.int .i16 b0)∧w'.cell? ⟨O,0,none⟩=some (.int .i16 b1)∧w'.cell? ⟨O,1,none⟩=some (.int .i16 b2)∧w'.cell? ⟨O,2,none⟩=some (.int .i16 b3)∧w'.cell? ⟨O,3,none⟩=some (.int .i16 b4)) (ds:=[]) #[n_,n_,n_,n_,n_,n_,n_,n_] (by kernel_rfl) rfl rfl ⟨q0_ B,q1_ B,q2_ B,q3_ B,q0_ C,q1_ C,q2_ C,q3_ C⟩ (fun Q=>?_);refine with_tabW bellpulllaw04_NormDivision.tab1 bellpulllaw04_NormDivision.bits1 (fun b6 e9=>?_);generalize X1.drew=Es at B C X Q ⊢;refine take_ (i:=0) (N:=some 14) (v:=?_) (a':=?_) #[y_,n_,n_,n_,n_,n_,n_,n_] rfl rfl (take_ofW b6.1 e9.1 (by kernel_rfl)) (fun _ _ _ h=>h) (Or.inl ⟨by rfl,?_⟩) Q ?_ ?_;rotate_left
  ·
   rintro w' ⟨s0,s1,s2,s3,s4,s5,s6,s7⟩;go_simp;with_reducible rfl
  rotate_left
  ·
   simp only [Act.put,s0_,s1_,s2_,i64_w,i32_w];rfl
  refine take_ (i:=2) (N:=some 16) (v:=?_) (a':=?_) #[y_,n_,y_,n_,n_,n_,n_,n_] rfl rfl (take_ofW b6.1 e9.1 (by kernel_rfl)) (fun _ _ _ h=>h) (Or.inl ⟨by rfl,?_⟩) Q ?_ ?_;rotate_left
  ·
   rintro w' ⟨s0,s1,s2,s3,s4,s5,s6,s7⟩;go_simp;with_reducible rfl
  rotate_left
  ·
   simp only [Act.put,s0_,s1_,s2_,i64_w,i32_w];rfl
  refine join_ (σ:=Nat × Nat) 2 #[y_,y_,y_,y_,y_,y_,n_,n_] (fun s_=>[(15,.agg #[.int .i64 c2,.int .i64 d1,.int .i64 d3,.int .i64 d5]),(17,.agg #[.int .i64 c0,.int .i64 d0,.int .i64 d2,.int .i64 d4]),(5,.pointer (some ⟨s_.1,0,none⟩)),(6,.pointer (some ⟨s_.2,0,none⟩))]) (fun s_ w'=>(w'.cell? ⟨L,0,none⟩=some (.int .i16 a7)∧w'.cell? ⟨L,1,none⟩=some (.int .i16 a8)∧w'.cell? ⟨L,2,none⟩=some (.int .i16 a9)∧w'.cell? ⟨L,3,none⟩=some (.int .i16 b0)∧w'.cell? ⟨O,0,none⟩=some (.int .i16 b1)∧w'.cell? ⟨O,1,none⟩=some (.int .i16 b2)∧w'.cell? ⟨O,2,none⟩=some (.int .i16 b3)∧w'.cell? ⟨O,3,none⟩=some (.int .i16 b4))∧(w'.heap[L]?=some (.cells #[.int .i16 a7,.int .i16 a8,.int .i16 a9,.int .i16 b0] 47 (0,0)))∧(w'.heap[O]?=some (.cells #[.int .i16 b1,.int .i16 b2,.int .i16 b3,.int .i16 b4] 47 (0,0)))∧(Q4_ w' s_.1 0 0 0 0 23)∧(Q4_ w' s_.2 0 0 0 0 23)∧(w.heap.size ≤ s_.1)∧(w.heap.size ≤ s_.1)∧(L ≠ s_.1)∧(s_.1 ≠ L)∧(O ≠ s_.1)∧(s_.1 ≠ O)∧(s_.2 ≠ s_.1)∧(s_.1 ≠ s_.2)∧(w.heap.size ≤ s_.2)∧(w.heap.size ≤ s_.2)∧(L ≠ s_.2)∧(s_.2 ≠ L)∧(O ≠ s_.2)∧(s_.2 ≠ O)∧(Below w.heap.size w w')) ?_ ?_;rotate_left
  ·
   intro f0;refine join_ (σ:=Nat) 3 #[y_,y_,y_,y_,y_,n_,n_,n_] (fun s_=>[(15,.agg #[.int .i64 c2,.int .i64 d1,.int .i64 d3,.int .i64 d5]),(17,.agg #[.int .i64 c0,.int .i64 d0,.int .i64 d2,.int .i64 d4]),(5,.pointer (some ⟨s_,0,none⟩))]) (fun s_ w'=>(w'.cell? ⟨L,0,none⟩=some (.int .i16 a7)∧w'.cell? ⟨L,1,none⟩=some (.int .i16 a8)∧w'.cell? ⟨L,2,none⟩=some (.int .i16 a9)∧w'.cell? ⟨L,3,none⟩=some (.int .i16 b0)∧w'.cell? ⟨O,0,none⟩=some (.int .i16 b1)∧w'.cell? ⟨O,1,none⟩=some (.int .i16 b2)∧w'.cell? ⟨O,2,none⟩=some (.int .i16 b3)∧w'.cell? ⟨O,3,none⟩=some (.int .i16 b4))∧(w'.heap[L]?=some (.cells #[.int .i16 a7,.int .i16 a8,.int .i16 a9,.int .i16 b0] 47 (0,0)))∧(w'.heap[O]?=some (.cells #[.int .i16 b1,.int .i16 b2,.int .i16 b3,.int .i16 b4] 47 (0,0)))∧(Q4_ w' s_ 0 0 0 0 23)∧(w.heap.size ≤ s_)∧(w.heap.size ≤ s_)∧(L ≠ s_)∧(s_ ≠ L)∧(O ≠ s_)∧(s_ ≠ O)∧(Below w.heap.size w w')) ?_ ?_;rotate_left
   ·
    intro i7;refine join_ (σ:=Nat) 3 #[y_,y_,y_,y_,n_,y_,n_,n_] (fun s_=>[(15,.agg #[.int .i64 c2,.int .i64 d1,.int .i64 d3,.int .i64 d5]),(17,.agg #[.int .i64 c0,.int .i64 d0,.int .i64 d2,.int .i64 d4]),(6,.pointer (some ⟨s_,0,none⟩))]) (fun s_ w'=>(w'.cell? ⟨L,0,none⟩=some (.int .i16 a7)∧w'.cell? ⟨L,1,none⟩=some (.int .i16 a8)∧w'.cell? ⟨L,2,none⟩=some (.int .i16 a9)∧w'.cell? ⟨L,3,none⟩=some (.int .i16 b0)∧w'.cell? ⟨O,0,none⟩=some (.int .i16 b1)∧w'.cell? ⟨O,1,none⟩=some (.int .i16 b2)∧w'.cell? ⟨O,2,none⟩=some (.int .i16 b3)∧w'.cell? ⟨O,3,none⟩=some (.int .i16 b4))∧(w'.heap[L]?=some (.cells #[.int .i16 a7,.int .i16 a8,.int .i16 a9,.int .i16 b0] 47 (0,0)))∧(w'.heap[O]?=some (.cells #[.int .i16 b1,.int .i16 b2,.int .i16 b3,.int .i16 b4] 47 (0,0)))∧(Q4_ w' s_ 0 0 0 0 23)∧(w.heap.size ≤ s_)∧(w.heap.size ≤ s_)∧(L ≠ s_)∧(s_ ≠ L)∧(O ≠ s_)∧(s_ ≠ O)∧(Below w.heap.size w w')) ?_ ?_;rotate_left
    ·
     intro i8;refine join_ (σ:=Nat × Nat) 3 #[y_,y_,y_,n_,y_,y_,n_,n_] (fun s_=>[(15,.agg #[.int .i64 c2,.int .i64 d1,.int .i64 d3,.int .i64 d5]),(5,.pointer (some ⟨s_.1,0,none⟩)),(6,.pointer (some ⟨s_.2,0,none⟩))]) (fun s_ w'=>(w'.cell? ⟨L,0,none⟩=some (.int .i16 a7)∧w'.cell? ⟨L,1,none⟩=some (.int .i16 a8)∧w'.cell? ⟨L,2,none⟩=some (.int .i16 a9)∧w'.cell? ⟨L,3,none⟩=some (.int .i16 b0)∧w'.cell? ⟨O,0,none⟩=some (.int .i16 b1)∧w'.cell? ⟨O,1,none⟩=some (.int .i16 b2)∧w'.cell? ⟨O,2,none⟩=some (.int .i16 b3)∧w'.cell? ⟨O,3,none⟩=some (.int .i16 b4))∧(w'.heap[L]?=some (.cells #[.int .i16 a7,.int .i16 a8,.int .i16 a9,.int .i16 b0] 47 (0,0)))∧(w'.heap[O]?=some (.cells #[.int .i16 b1,.int .i16 b2,.int .i16 b3,.int .i16 b4] 47 (0,0)))∧(Q4_ w' s_.1 0 0 0 0 23)∧(Q4_ w' s_.2 0 0 0 0 23)∧(w.heap.size ≤ s_.1)∧(w.heap.size ≤ s_.1)∧(L ≠ s_.1)∧(s_.1 ≠ L)∧(O ≠ s_.1)∧(s_.1 ≠ O)∧(s_.2 ≠ s_.1)∧(s_.1 ≠ s_.2)∧(w.heap.size ≤ s_.2)∧(w.heap.size ≤ s_.2)∧(L ≠ s_.2)∧(s_.2 ≠ L)∧(O ≠ s_.2)∧(s_.2 ≠ O)∧(Below w.heap.size w w')) ?_ ?_;rotate_left
     ·
      intro f7;refine join_ (σ:=Unit) 4 #[y_,y_,y_,y_,n_,n_,n_,n_] (fun s_=>[(15,.agg #[.int .i64 c2,.int .i64 d1,.int .i64 d3,.int .i64 d5]),(17,.agg #[.int .i64 c0,.int .i64 d0,.int .i64 d2,.int .i64 d4])]) (fun s_ w'=>(w'.cell? ⟨L,0,none⟩=some (.int .i16 a7)∧w'.cell? ⟨L,1,none⟩=some (.int .i16 a8)∧w'.cell? ⟨L,2,none⟩=some (.int .i16 a9)∧w'.cell? ⟨L,3,none⟩=some (.int .i16 b0)∧w'.cell? ⟨O,0,none⟩=some (.int .i16 b1)∧w'.cell? ⟨O,1,none⟩=some (.int .i16 b2)∧w'.cell? ⟨O,2,none⟩=some (.int .i16 b3)∧w'.cell? ⟨O,3,none⟩=some (.int .i16 b4))∧(w'.heap[L]?=some (.cells #[.int .i16 a7,.int .i16 a8,.int .i16 a9,.int .i16 b0] 47 (0,0)))∧(w'.heap[O]?=some (.cells #[.int .i16 b1,.int .i16 b2,.int .i16 b3,.int .i16 b4] 47 (0,0)))∧(Below w.heap.size w w')) ?_ ?_;rotate_left
      ·
       intro p5;refine join_ (σ:=Nat) 4 #[y_,y_,y_,n_,y_,n_,n_,n_] (fun s_=>[(15,.agg #[.int .i64 c2,.int .i64 d1,.int .i64 d3,.int .i64 d5]),(5,.pointer (some ⟨s_,0,none⟩))]) (fun s_ w'=>(w'.cell? ⟨L,0,none⟩=some (.int .i16 a7)∧w'.cell? ⟨L,1,none⟩=some (.int .i16 a8)∧w'.cell? ⟨L,2,none⟩=some (.int .i16 a9)∧w'.cell? ⟨L,3,none⟩=some (.int .i16 b0)∧w'.cell? ⟨O,0,none⟩=some (.int .i16 b1)∧w'.cell? ⟨O,1,none⟩=some (.int .i16 b2)∧w'.cell? ⟨O,2,none⟩=some (.int .i16 b3)∧w'.cell? ⟨O,3,none⟩=some (.int .i16 b4))∧(w'.heap[L]?=some (.cells #[.int .i16 a7,.int .i16 a8,.int .i16 a9,.int .i16 b0] 47 (0,0)))∧(w'.heap[O]?=some (.cells #[.int .i16 b1,.int .i16 b2,.int .i16 b3,.int .i16 b4] 47 (0,0)))∧(Q4_ w' s_ 0 0 0 0 23)∧(w.heap.size ≤ s_)∧(w.heap.size ≤ s_)∧(L ≠ s_)∧(s_ ≠ L)∧(O ≠ s_)∧(s_ ≠ O)∧(Below w.heap.size w w')) ?_ ?_;rotate_left
       ·
        intro l2;refine join_ (σ:=Nat) 4 #[y_,y_,y_,n_,n_,y_,n_,n_] (fun s_=>[(15,.agg #[.int .i64 c2,.int .i64 d1,.int .i64 d3,.int .i64 d5]),(6,.pointer (some ⟨s_,0,none⟩))]) (fun s_ w'=>(w'.cell? ⟨L,0,none⟩=some (.int .i16 a7)∧w'.cell? ⟨L,1,none⟩=some (.int .i16 a8)∧w'.cell? ⟨L,2,none⟩=some (.int .i16 a9)∧w'.cell? ⟨L,3,none⟩=some (.int .i16 b0)∧w'.cell? ⟨O,0,none⟩=some (.int .i16 b1)∧w'.cell? ⟨O,1,none⟩=some (.int .i16 b2)∧w'.cell? ⟨O,2,none⟩=some (.int .i16 b3)∧w'.cell? ⟨O,3,none⟩=some (.int .i16 b4))∧(w'.heap[L]?=some (.cells #[.int .i16 a7,.int .i16 a8,.int .i16 a9,.int .i16 b0] 47 (0,0)))∧(w'.heap[O]?=some (.cells #[.int .i16 b1,.int .i16 b2,.int .i16 b3,.int .i16 b4] 47 (0,0)))∧(Q4_ w' s_ 0 0 0 0 23)∧(w.heap.size ≤ s_)∧(w.heap.size ≤ s_)∧(L ≠ s_)∧(s_ ≠ L)∧(O ≠ s_)∧(s_ ≠ O)∧(Below w.heap.size w w')) ?_ ?_;rotate_left
        ·
         intro l3;refine join_ (σ:=Nat × Nat) 4 #[y_,n_,y_,n_,y_,y_,n_,n_] (fun s_=>[(5,.pointer (some ⟨s_.1,0,none⟩)),(6,.pointer (some ⟨s_.2,0,none⟩))]) (fun s_ w'=>(w'.cell? ⟨L,0,none⟩=some (.int .i16 a7)∧w'.cell? ⟨L,1,none⟩=some (.int .i16 a8)∧w'.cell? ⟨L,2,none⟩=some (.int .i16 a9)∧w'.cell? ⟨L,3,none⟩=some (.int .i16 b0)∧w'.cell? ⟨O,0,none⟩=some (.int .i16 b1)∧w'.cell? ⟨O,1,none⟩=some (.int .i16 b2)∧w'.cell? ⟨O,2,none⟩=some (.int .i16 b3)∧w'.cell? ⟨O,3,none⟩=some (.int .i16 b4))∧(w'.heap[L]?=some (.cells #[.int .i16 a7,.int .i16 a8,.int .i16 a9,.int .i16 b0] 47 (0,0)))∧(w'.heap[O]?=some (.cells #[.int .i16 b1,.int .i16 b2,.int .i16 b3,.int .i16 b4] 47 (0,0)))∧(Q4_ w' s_.1 0 0 0 0 23)∧(Q4_ w' s_.2 0 0 0 0 23)∧(w.heap.size ≤ s_.1)∧(w.heap.size ≤ s_.1)∧(L ≠ s_.1)∧(s_.1 ≠ L)∧(O ≠ s_.1)∧(s_.1 ≠ O)∧(s_.2 ≠ s_.1)∧(s_.1 ≠ s_.2)∧(w.heap.size ≤ s_.2)∧(w.heap.size ≤ s_.2)∧(L ≠ s_.2)∧(s_.2 ≠ L)∧(O ≠ s_.2)∧(s_.2 ≠ O)∧(Below w.heap.size w w')) ?_ ?_;rotate_left
         ·
          intro l4;refine join_ (σ:=Unit) 5 #[y_,y_,y_,n_,n_,n_,n_,n_] (fun s_=>[(15,.agg #[.int .i64 c2,.int .i64 d1,.int .i64 d3,.int .i64 d5])]) (fun s_ w'=>(w'.cell? ⟨L,0,none⟩=some (.int .i16 a7)∧w'.cell? ⟨L,1,none⟩=some (.int .i16 a8)∧w'.cell? ⟨L,2,none⟩=some (.int .i16 a9)∧w'.cell? ⟨L,3,none⟩=some (.int .i16 b0)∧w'.cell? ⟨O,0,none⟩=some (.int .i16 b1)∧w'.cell? ⟨O,1,none⟩=some (.int .i16 b2)∧w'.cell? ⟨O,2,none⟩=some (.int .i16 b3)∧w'.cell? ⟨O,3,none⟩=some (.int .i16 b4))∧(w'.heap[L]?=some (.cells #[.int .i16 a7,.int .i16 a8,.int .i16 a9,.int .i16 b0] 47 (0,0)))∧(w'.heap[O]?=some (.cells #[.int .i16 b1,.int .i16 b2,.int .i16 b3,.int .i16 b4] 47 (0,0)))∧(Below w.heap.size w w')) ?_ ?_;rotate_left
          ·
           intro z1;refine join_ (σ:=Nat) 5 #[y_,n_,y_,n_,y_,n_,n_,n_] (fun s_=>[(5,.pointer (some ⟨s_,0,none⟩))]) (fun s_ w'=>(w'.cell? ⟨L,0,none⟩=some (.int .i16 a7)∧w'.cell? ⟨L,1,none⟩=some (.int .i16 a8)∧w'.cell? ⟨L,2,none⟩=some (.int .i16 a9)∧w'.cell? ⟨L,3,none⟩=some (.int .i16 b0)∧w'.cell? ⟨O,0,none⟩=some (.int .i16 b1)∧w'.cell? ⟨O,1,none⟩=some (.int .i16 b2)∧w'.cell? ⟨O,2,none⟩=some (.int .i16 b3)∧w'.cell? ⟨O,3,none⟩=some (.int .i16 b4))∧(w'.heap[L]?=some (.cells #[.int .i16 a7,.int .i16 a8,.int .i16 a9,.int .i16 b0] 47 (0,0)))∧(w'.heap[O]?=some (.cells #[.int .i16 b1,.int .i16 b2,.int .i16 b3,.int .i16 b4] 47 (0,0)))∧(Q4_ w' s_ 0 0 0 0 23)∧(w.heap.size ≤ s_)∧(w.heap.size ≤ s_)∧(L ≠ s_)∧(s_ ≠ L)∧(O ≠ s_)∧(s_ ≠ O)∧(Below w.heap.size w w')) ?_ ?_;rotate_left
           ·
            intro z2;refine join_ (σ:=Nat) 5 #[y_,n_,y_,n_,n_,y_,n_,n_] (fun s_=>[(6,.pointer (some ⟨s_,0,none⟩))]) (fun s_ w'=>(w'.cell? ⟨L,0,none⟩=some (.int .i16 a7)∧w'.cell? ⟨L,1,none⟩=some (.int .i16 a8)∧w'.cell? ⟨L,2,none⟩=some (.int .i16 a9)∧w'.cell? ⟨L,3,none⟩=some (.int .i16 b0)∧w'.cell? ⟨O,0,none⟩=some (.int .i16 b1)∧w'.cell? ⟨O,1,none⟩=some (.int .i16 b2)∧w'.cell? ⟨O,2,none⟩=some (.int .i16 b3)∧w'.cell? ⟨O,3,none⟩=some (.int .i16 b4))∧(w'.heap[L]?=some (.cells #[.int .i16 a7,.int .i16 a8,.int .i16 a9,.int .i16 b0] 47 (0,0)))∧(w'.heap[O]?=some (.cells #[.int .i16 b1,.int .i16 b2,.int .i16 b3,.int .i16 b4] 47 (0,0)))∧(Q4_ w' s_ 0 0 0 0 23)∧(w.heap.size ≤ s_)∧(w.heap.size ≤ s_)∧(L ≠ s_)∧(s_ ≠ L)∧(O ≠ s_)∧(s_ ≠ O)∧(Below w.heap.size w w')) ?_ ?_;rotate_left
            ·
             intro z3;refine three_ (i:=1) (j:=4) (k:=5) (Ni:=some 15) (Nj:=some 5) (Nk:=some 6) #[y_,y_,y_,n_,n_,n_,n_,n_] #[y_,n_,y_,n_,y_,n_,n_,n_] #[y_,n_,y_,n_,n_,y_,n_,n_] rfl rfl rfl rfl rfl rfl (three_of b6.1 (by kernel_rfl)) (by decide) (by decide) (by decide) (fun K hK=>?_) (fun K hK=>?_) (fun K hK=>?_)
             ·
              skip
              refine goes_ Try.func32 (by kernel_rfl) rfl #[.agg #[.int .i16 a7,.int .i16 a8,.int .i16 a9,.int .i16 b0],.int .i64 1000] (by rfl) rfl rfl (by (try simp only [m0_,m1_,m2_]);first|done|rfl|(simp only [l0_,l1_];rfl)) ?_;with_reducible refine (bellpulllaw04_made.calls k a7 a8 a9 b0 1000 c2 d1 d3 d5 _ A3.1).mono ?_
              rintro e C9 ⟨rfl,hb⟩;refine ⟨_,rfl,?_⟩;replace B:=bkb B hb;replace C:=bkb C hb;replace X:=bst X hb;(try clear hb);refine hK.out _ _ ⟨q0_ B,q1_ B,q2_ B,q3_ B,q0_ C,q1_ C,q2_ C,q3_ C⟩ (fun Q=>?_);clear hK K;refine norm_ (a':=?_) ?_ ?_;rotate_left
              ·
               show Act.put _ (some 15) _=_;simp only [Act.put,s0_,s1_,s2_,i64_w,i32_w];rfl
              exact norm_ (by simp only [putAll,Act.put,s0_,s1_,s2_] <;> rfl) (z1 () _ ⟨Q,B.1,C.1,X.1⟩)
             ·
              skip
              refine box_step ?hg (N:=5) ?hd (cs:=#[.int .i64 0,.int .i64 0,.int .i64 0,.int .i64 0]) (t:=23) ?hr ?_;(case hd=>rfl);(case hg=>rfl);(case hr=>first|(go_simp;done)|(go_simp;rfl));intro Y hg C9 a4 hb;have J:=mk0 (a4);have a5:=szw hg X;have a2:=szw hg X;have G:=nlt hg B;have U:=ngt hg B;have I:=nlt hg C;have V:=ngt hg C;replace B:=bkb B hb;replace C:=bkb C hb;replace X:=bst X hb;clear hb a4 hg;refine hK.out _ _ ⟨q0_ B,q1_ B,q2_ B,q3_ B,q0_ C,q1_ C,q2_ C,q3_ C⟩ (fun Q=>?_);clear hK K;refine norm_ (a':=?_) ?_ ?_;rotate_left
              ·
               show Act.put _ (some 5) _=_;simp only [Act.put,s0_,s1_,s2_,i64_w,i32_w];rfl
              exact norm_ (by simp only [putAll,Act.put,s0_,s1_,s2_] <;> rfl) (z2 (Y) _ ⟨Q,B.1,C.1,J.1,a5.1,a2.1,G.1,U.1,I.1,V.1,X.1⟩)
             ·
              skip
              refine box_step ?hg (N:=6) ?hd (cs:=#[.int .i64 0,.int .i64 0,.int .i64 0,.int .i64 0]) (t:=23) ?hr ?_;(case hd=>rfl);(case hg=>rfl);(case hr=>first|(go_simp;done)|(go_simp;rfl));intro Z hg C9 a4 hb;have F:=mk0 (a4);have a6:=szw hg X;have a3:=szw hg X;have D:=nlt hg B;have R:=ngt hg B;have E:=nlt hg C;have T:=ngt hg C;replace B:=bkb B hb;replace C:=bkb C hb;replace X:=bst X hb;clear hb a4 hg;refine hK.out _ _ ⟨q0_ B,q1_ B,q2_ B,q3_ B,q0_ C,q1_ C,q2_ C,q3_ C⟩ (fun Q=>?_);clear hK K;refine norm_ (a':=?_) ?_ ?_;rotate_left
              ·
               show Act.put _ (some 6) _=_;simp only [Act.put,s0_,s1_,s2_,i64_w,i32_w];rfl
              exact norm_ (by simp only [putAll,Act.put,s0_,s1_,s2_] <;> rfl) (z3 (Z) _ ⟨Q,B.1,C.1,F.1,a6.1,a3.1,D.1,R.1,E.1,T.1,X.1⟩)
            ·
             skip
             clear B C X;rintro Z D0 d7;obtain ⟨d8,B,C,F,a6,a3,D,R,E,T,X⟩:=d7;replace B:=mk0 B;replace C:=mk0 C;replace F:=mk0 F;replace a6:=mk0 a6;replace a3:=mk0 a3;replace D:=mk0 D;replace R:=mk0 R;replace E:=mk0 E;replace T:=mk0 T;replace X:=mk0 X;have Q:=d8;refine norm_ (a':=?_) ?_ ?_;rotate_left
             ·
              simp only [putAll,Act.put,s0_,s1_,s2_];rfl
             refine two_ (i:=1) (j:=4) (Ni:=some 15) (Nj:=some 5) #[y_,y_,y_,n_,n_,y_,n_,n_] #[y_,n_,y_,n_,y_,y_,n_,n_] rfl rfl rfl rfl (two_of b6.1 (by kernel_rfl)) (by decide) (by decide) (fun K hK=>?_) (fun K hK=>?_)
             ·
              skip
              refine goes_ Try.func32 (by kernel_rfl) rfl #[.agg #[.int .i16 a7,.int .i16 a8,.int .i16 a9,.int .i16 b0],.int .i64 1000] (by rfl) rfl rfl (by (try simp only [m0_,m1_,m2_]);first|done|rfl|(simp only [l0_,l1_];rfl)) ?_;with_reducible refine (bellpulllaw04_made.calls k a7 a8 a9 b0 1000 c2 d1 d3 d5 _ A3.1).mono ?_
              rintro e l1 ⟨rfl,hb⟩;refine ⟨_,rfl,?_⟩;replace B:=bkb B hb;replace C:=bkb C hb;replace F:=bkb F hb;replace X:=bst X hb;(try clear hb);refine hK.out _ _ ⟨q0_ B,q1_ B,q2_ B,q3_ B,q0_ C,q1_ C,q2_ C,q3_ C⟩ (fun Q=>?_);clear hK K;refine norm_ (a':=?_) ?_ ?_;rotate_left
              ·
               show Act.put _ (some 15) _=_;simp only [Act.put,s0_,s1_,s2_,i64_w,i32_w];rfl
              exact norm_ (by simp only [putAll,Act.put,s0_,s1_,s2_] <;> rfl) (l3 (Z) _ ⟨Q,B.1,C.1,F.1,a6.1,a3.1,D.1,R.1,E.1,T.1,X.1⟩)
             ·
              skip
              refine box_step ?hg (N:=5) ?hd (cs:=#[.int .i64 0,.int .i64 0,.int .i64 0,.int .i64 0]) (t:=23) ?hr ?_;(case hd=>rfl);(case hg=>rfl);(case hr=>first|(go_simp;done)|(go_simp;rfl));intro Y hg l1 a4 hb;have J:=mk0 (a4);have a5:=szw hg X;have a2:=szw hg X;have G:=nlt hg B;have U:=ngt hg B;have I:=nlt hg C;have V:=ngt hg C;have a0:=nlt hg F;have a1:=ngt hg F;replace B:=bkb B hb;replace C:=bkb C hb;replace F:=bkb F hb;replace X:=bst X hb;clear hb a4 hg;refine hK.out _ _ ⟨q0_ B,q1_ B,q2_ B,q3_ B,q0_ C,q1_ C,q2_ C,q3_ C⟩ (fun Q=>?_);clear hK K;refine norm_ (a':=?_) ?_ ?_;rotate_left
              ·
               show Act.put _ (some 5) _=_;simp only [Act.put,s0_,s1_,s2_,i64_w,i32_w];rfl
              exact norm_ (by simp only [putAll,Act.put,s0_,s1_,s2_] <;> rfl) (l4 (Y,Z) _ ⟨Q,B.1,C.1,J.1,F.1,a5.1,a2.1,G.1,U.1,I.1,V.1,a0.1,a1.1,a6.1,a3.1,D.1,R.1,E.1,T.1,X.1⟩)
           ·
            skip
            clear B C X;rintro Y D0 d7;obtain ⟨d8,B,C,J,a5,a2,G,U,I,V,X⟩:=d7;replace B:=mk0 B;replace C:=mk0 C;replace J:=mk0 J;replace a5:=mk0 a5;replace a2:=mk0 a2;replace G:=mk0 G;replace U:=mk0 U;replace I:=mk0 I;replace V:=mk0 V;replace X:=mk0 X;have Q:=d8;refine norm_ (a':=?_) ?_ ?_;rotate_left
            ·
             simp only [putAll,Act.put,s0_,s1_,s2_];rfl
            refine two_ (i:=1) (j:=5) (Ni:=some 15) (Nj:=some 6) #[y_,y_,y_,n_,y_,n_,n_,n_] #[y_,n_,y_,n_,y_,y_,n_,n_] rfl rfl rfl rfl (two_of b6.1 (by kernel_rfl)) (by decide) (by decide) (fun K hK=>?_) (fun K hK=>?_)
            ·
             skip
             refine goes_ Try.func32 (by kernel_rfl) rfl #[.agg #[.int .i16 a7,.int .i16 a8,.int .i16 a9,.int .i16 b0],.int .i64 1000] (by rfl) rfl rfl (by (try simp only [m0_,m1_,m2_]);first|done|rfl|(simp only [l0_,l1_];rfl)) ?_;with_reducible refine (bellpulllaw04_made.calls k a7 a8 a9 b0 1000 c2 d1 d3 d5 _ A3.1).mono ?_
             rintro e l1 ⟨rfl,hb⟩;refine ⟨_,rfl,?_⟩;replace B:=bkb B hb;replace C:=bkb C hb;replace J:=bkb J hb;replace X:=bst X hb;(try clear hb);refine hK.out _ _ ⟨q0_ B,q1_ B,q2_ B,q3_ B,q0_ C,q1_ C,q2_ C,q3_ C⟩ (fun Q=>?_);clear hK K;refine norm_ (a':=?_) ?_ ?_;rotate_left
             ·
              show Act.put _ (some 15) _=_;simp only [Act.put,s0_,s1_,s2_,i64_w,i32_w];rfl
             exact norm_ (by simp only [putAll,Act.put,s0_,s1_,s2_] <;> rfl) (l2 (Y) _ ⟨Q,B.1,C.1,J.1,a5.1,a2.1,G.1,U.1,I.1,V.1,X.1⟩)
            ·
             skip
             refine box_step ?hg (N:=6) ?hd (cs:=#[.int .i64 0,.int .i64 0,.int .i64 0,.int .i64 0]) (t:=23) ?hr ?_;(case hd=>rfl);(case hg=>rfl);(case hr=>first|(go_simp;done)|(go_simp;rfl));intro Z hg l1 a4 hb;have F:=mk0 (a4);have a6:=szw hg X;have a3:=szw hg X;have D:=nlt hg B;have R:=ngt hg B;have E:=nlt hg C;have T:=ngt hg C;have a1:=nlt hg J;have a0:=ngt hg J;replace B:=bkb B hb;replace C:=bkb C hb;replace J:=bkb J hb;replace X:=bst X hb;clear hb a4 hg;refine hK.out _ _ ⟨q0_ B,q1_ B,q2_ B,q3_ B,q0_ C,q1_ C,q2_ C,q3_ C⟩ (fun Q=>?_);clear hK K;refine norm_ (a':=?_) ?_ ?_;rotate_left
             ·
              show Act.put _ (some 6) _=_;simp only [Act.put,s0_,s1_,s2_,i64_w,i32_w];rfl
             exact norm_ (by simp only [putAll,Act.put,s0_,s1_,s2_] <;> rfl) (l4 (Y,Z) _ ⟨Q,B.1,C.1,J.1,F.1,a5.1,a2.1,G.1,U.1,I.1,V.1,a0.1,a1.1,a6.1,a3.1,D.1,R.1,E.1,T.1,X.1⟩)
          ·
           skip
           clear B C X;rintro _ D0 d7;obtain ⟨d8,B,C,X⟩:=d7;replace B:=mk0 B;replace C:=mk0 C;replace X:=mk0 X;have Q:=d8;refine norm_ (a':=?_) ?_ ?_;rotate_left
           ·
            simp only [putAll,Act.put,s0_,s1_,s2_];rfl
           refine three_ (i:=3) (j:=4) (k:=5) (Ni:=some 17) (Nj:=some 5) (Nk:=some 6) #[y_,y_,y_,y_,n_,n_,n_,n_] #[y_,y_,y_,n_,y_,n_,n_,n_] #[y_,y_,y_,n_,n_,y_,n_,n_] rfl rfl rfl rfl rfl rfl (three_of b6.1 (by kernel_rfl)) (by decide) (by decide) (by decide) (fun K hK=>?_) (fun K hK=>?_) (fun K hK=>?_)
           ·
            skip
            refine goes_ Try.func32 (by kernel_rfl) rfl #[.agg #[.int .i16 b1,.int .i16 b2,.int .i16 b3,.int .i16 b4],.int .i64 40] (by rfl) rfl rfl (by (try simp only [m0_,m1_,m2_]);first|done|rfl|(simp only [l0_,l1_];rfl)) ?_;with_reducible refine (bellpulllaw04_made.calls k b1 b2 b3 b4 40 c0 d0 d2 d4 _ A4.1).mono ?_
            rintro e l1 ⟨rfl,hb⟩;refine ⟨_,rfl,?_⟩;replace B:=bkb B hb;replace C:=bkb C hb;replace X:=bst X hb;(try clear hb);refine hK.out _ _ ⟨q0_ B,q1_ B,q2_ B,q3_ B,q0_ C,q1_ C,q2_ C,q3_ C⟩ (fun Q=>?_);clear hK K;refine norm_ (a':=?_) ?_ ?_;rotate_left
            ·
             show Act.put _ (some 17) _=_;simp only [Act.put,s0_,s1_,s2_,i64_w,i32_w];rfl
            exact norm_ (by simp only [putAll,Act.put,s0_,s1_,s2_] <;> rfl) (p5 () _ ⟨Q,B.1,C.1,X.1⟩)
           ·
            skip
            refine box_step ?hg (N:=5) ?hd (cs:=#[.int .i64 0,.int .i64 0,.int .i64 0,.int .i64 0]) (t:=23) ?hr ?_;(case hd=>rfl);(case hg=>rfl);(case hr=>first|(go_simp;done)|(go_simp;rfl));intro Y hg l1 a4 hb;have J:=mk0 (a4);have a5:=szw hg X;have a2:=szw hg X;have G:=nlt hg B;have U:=ngt hg B;have I:=nlt hg C;have V:=ngt hg C;replace B:=bkb B hb;replace C:=bkb C hb;replace X:=bst X hb;clear hb a4 hg;refine hK.out _ _ ⟨q0_ B,q1_ B,q2_ B,q3_ B,q0_ C,q1_ C,q2_ C,q3_ C⟩ (fun Q=>?_);clear hK K;refine norm_ (a':=?_) ?_ ?_;rotate_left
            ·
             show Act.put _ (some 5) _=_;simp only [Act.put,s0_,s1_,s2_,i64_w,i32_w];rfl
            exact norm_ (by simp only [putAll,Act.put,s0_,s1_,s2_] <;> rfl) (l2 (Y) _ ⟨Q,B.1,C.1,J.1,a5.1,a2.1,G.1,U.1,I.1,V.1,X.1⟩)
           ·
            skip
            refine box_step ?hg (N:=6) ?hd (cs:=#[.int .i64 0,.int .i64 0,.int .i64 0,.int .i64 0]) (t:=23) ?hr ?_;(case hd=>rfl);(case hg=>rfl);(case hr=>first|(go_simp;done)|(go_simp;rfl));intro Z hg l1 a4 hb;have F:=mk0 (a4);have a6:=szw hg X;have a3:=szw hg X;have D:=nlt hg B;have R:=ngt hg B;have E:=nlt hg C;have T:=ngt hg C;replace B:=bkb B hb;replace C:=bkb C hb;replace X:=bst X hb;clear hb a4 hg;refine hK.out _ _ ⟨q0_ B,q1_ B,q2_ B,q3_ B,q0_ C,q1_ C,q2_ C,q3_ C⟩ (fun Q=>?_);clear hK K;refine norm_ (a':=?_) ?_ ?_;rotate_left
            ·
             show Act.put _ (some 6) _=_;simp only [Act.put,s0_,s1_,s2_,i64_w,i32_w];rfl
            exact norm_ (by simp only [putAll,Act.put,s0_,s1_,s2_] <;> rfl) (l3 (Z) _ ⟨Q,B.1,C.1,F.1,a6.1,a3.1,D.1,R.1,E.1,T.1,X.1⟩)
         ·
          skip
          clear B C X;rintro ⟨Y,Z⟩ l1 d7;(try dsimp only at d7);obtain ⟨d8,B,C,J,F,a5,a2,G,U,I,V,a0,a1,a6,a3,D,R,E,T,X⟩:=d7;replace B:=mk0 B;replace C:=mk0 C;replace J:=mk0 J;replace F:=mk0 F;replace a5:=mk0 a5;replace a2:=mk0 a2;replace G:=mk0 G;replace U:=mk0 U;replace I:=mk0 I;replace V:=mk0 V;replace a0:=mk0 a0;replace a1:=mk0 a1;replace a6:=mk0 a6;replace a3:=mk0 a3;replace D:=mk0 D;replace R:=mk0 R;replace E:=mk0 E;replace T:=mk0 T;replace X:=mk0 X;have Q:=d8;refine norm_ (a':=?_) ?_ ?_;rotate_left
          ·
           simp only [putAll,Act.put,s0_,s1_,s2_];rfl
          refine one_ (i:=1) (N:=some 15) #[y_,y_,y_,n_,y_,y_,n_,n_] rfl rfl (one_of b6.1 (by kernel_rfl)) (by decide) (fun K hK=>?_);refine goes_ Try.func32 (by kernel_rfl) rfl #[.agg #[.int .i16 a7,.int .i16 a8,.int .i16 a9,.int .i16 b0],.int .i64 1000] (by rfl) rfl rfl (by (try simp only [m0_,m1_,m2_]);first|done|rfl|(simp only [l0_,l1_];rfl)) ?_;with_reducible refine (bellpulllaw04_made.calls k a7 a8 a9 b0 1000 c2 d1 d3 d5 _ A3.1).mono ?_
          rintro e l6 ⟨rfl,hb⟩;refine ⟨_,rfl,?_⟩;replace B:=bkb B hb;replace C:=bkb C hb;replace J:=bkb J hb;replace F:=bkb F hb;replace X:=bst X hb;(try clear hb);refine hK.out _ _ ⟨q0_ B,q1_ B,q2_ B,q3_ B,q0_ C,q1_ C,q2_ C,q3_ C⟩ (fun Q=>?_);clear hK K;refine norm_ (a':=?_) ?_ ?_;rotate_left
          ·
           show Act.put _ (some 15) _=_;simp only [Act.put,s0_,s1_,s2_,i64_w,i32_w];rfl
          exact norm_ (by simp only [putAll,Act.put,s0_,s1_,s2_] <;> rfl) (f7 (Y,Z) _ ⟨Q,B.1,C.1,J.1,F.1,a5.1,a2.1,G.1,U.1,I.1,V.1,a0.1,a1.1,a6.1,a3.1,D.1,R.1,E.1,T.1,X.1⟩)
        ·
         skip
         clear B C X;rintro Z l1 d7;obtain ⟨d8,B,C,F,a6,a3,D,R,E,T,X⟩:=d7;replace B:=mk0 B;replace C:=mk0 C;replace F:=mk0 F;replace a6:=mk0 a6;replace a3:=mk0 a3;replace D:=mk0 D;replace R:=mk0 R;replace E:=mk0 E;replace T:=mk0 T;replace X:=mk0 X;have Q:=d8;refine norm_ (a':=?_) ?_ ?_;rotate_left
         ·
          simp only [putAll,Act.put,s0_,s1_,s2_];rfl
         refine two_ (i:=3) (j:=4) (Ni:=some 17) (Nj:=some 5) #[y_,y_,y_,y_,n_,y_,n_,n_] #[y_,y_,y_,n_,y_,y_,n_,n_] rfl rfl rfl rfl (two_of b6.1 (by kernel_rfl)) (by decide) (by decide) (fun K hK=>?_) (fun K hK=>?_)
         ·
          skip
          refine goes_ Try.func32 (by kernel_rfl) rfl #[.agg #[.int .i16 b1,.int .i16 b2,.int .i16 b3,.int .i16 b4],.int .i64 40] (by rfl) rfl rfl (by (try simp only [m0_,m1_,m2_]);first|done|rfl|(simp only [l0_,l1_];rfl)) ?_;with_reducible refine (bellpulllaw04_made.calls k b1 b2 b3 b4 40 c0 d0 d2 d4 _ A4.1).mono ?_
          rintro e l6 ⟨rfl,hb⟩;refine ⟨_,rfl,?_⟩;replace B:=bkb B hb;replace C:=bkb C hb;replace F:=bkb F hb;replace X:=bst X hb;(try clear hb);refine hK.out _ _ ⟨q0_ B,q1_ B,q2_ B,q3_ B,q0_ C,q1_ C,q2_ C,q3_ C⟩ (fun Q=>?_);clear hK K;refine norm_ (a':=?_) ?_ ?_;rotate_left
          ·
           show Act.put _ (some 17) _=_;simp only [Act.put,s0_,s1_,s2_,i64_w,i32_w];rfl
          exact norm_ (by simp only [putAll,Act.put,s0_,s1_,s2_] <;> rfl) (i8 (Z) _ ⟨Q,B.1,C.1,F.1,a6.1,a3.1,D.1,R.1,E.1,T.1,X.1⟩)
         ·
          skip
          refine box_step ?hg (N:=5) ?hd (cs:=#[.int .i64 0,.int .i64 0,.int .i64 0,.int .i64 0]) (t:=23) ?hr ?_;(case hd=>rfl);(case hg=>rfl);(case hr=>first|(go_simp;done)|(go_simp;rfl));intro Y hg l6 a4 hb;have J:=mk0 (a4);have a5:=szw hg X;have a2:=szw hg X;have G:=nlt hg B;have U:=ngt hg B;have I:=nlt hg C;have V:=ngt hg C;have a0:=nlt hg F;have a1:=ngt hg F;replace B:=bkb B hb;replace C:=bkb C hb;replace F:=bkb F hb;replace X:=bst X hb;clear hb a4 hg;refine hK.out _ _ ⟨q0_ B,q1_ B,q2_ B,q3_ B,q0_ C,q1_ C,q2_ C,q3_ C⟩ (fun Q=>?_);clear hK K;refine norm_ (a':=?_) ?_ ?_;rotate_left
          ·
           show Act.put _ (some 5) _=_;simp only [Act.put,s0_,s1_,s2_,i64_w,i32_w];rfl
          exact norm_ (by simp only [putAll,Act.put,s0_,s1_,s2_] <;> rfl) (f7 (Y,Z) _ ⟨Q,B.1,C.1,J.1,F.1,a5.1,a2.1,G.1,U.1,I.1,V.1,a0.1,a1.1,a6.1,a3.1,D.1,R.1,E.1,T.1,X.1⟩)
       ·
        skip
        clear B C X;rintro Y l1 d7;obtain ⟨d8,B,C,J,a5,a2,G,U,I,V,X⟩:=d7;replace B:=mk0 B;replace C:=mk0 C;replace J:=mk0 J;replace a5:=mk0 a5;replace a2:=mk0 a2;replace G:=mk0 G;replace U:=mk0 U;replace I:=mk0 I;replace V:=mk0 V;replace X:=mk0 X;have Q:=d8;refine norm_ (a':=?_) ?_ ?_;rotate_left
        ·
         simp only [putAll,Act.put,s0_,s1_,s2_];rfl
        refine two_ (i:=3) (j:=5) (Ni:=some 17) (Nj:=some 6) #[y_,y_,y_,y_,y_,n_,n_,n_] #[y_,y_,y_,n_,y_,y_,n_,n_] rfl rfl rfl rfl (two_of b6.1 (by kernel_rfl)) (by decide) (by decide) (fun K hK=>?_) (fun K hK=>?_)
        ·
         skip
         refine goes_ Try.func32 (by kernel_rfl) rfl #[.agg #[.int .i16 b1,.int .i16 b2,.int .i16 b3,.int .i16 b4],.int .i64 40] (by rfl) rfl rfl (by (try simp only [m0_,m1_,m2_]);first|done|rfl|(simp only [l0_,l1_];rfl)) ?_;with_reducible refine (bellpulllaw04_made.calls k b1 b2 b3 b4 40 c0 d0 d2 d4 _ A4.1).mono ?_
         rintro e l6 ⟨rfl,hb⟩;refine ⟨_,rfl,?_⟩;replace B:=bkb B hb;replace C:=bkb C hb;replace J:=bkb J hb;replace X:=bst X hb;(try clear hb);refine hK.out _ _ ⟨q0_ B,q1_ B,q2_ B,q3_ B,q0_ C,q1_ C,q2_ C,q3_ C⟩ (fun Q=>?_);clear hK K;refine norm_ (a':=?_) ?_ ?_;rotate_left
         ·
          show Act.put _ (some 17) _=_;simp only [Act.put,s0_,s1_,s2_,i64_w,i32_w];rfl
         exact norm_ (by simp only [putAll,Act.put,s0_,s1_,s2_] <;> rfl) (i7 (Y) _ ⟨Q,B.1,C.1,J.1,a5.1,a2.1,G.1,U.1,I.1,V.1,X.1⟩)
        ·
         skip
         refine box_step ?hg (N:=6) ?hd (cs:=#[.int .i64 0,.int .i64 0,.int .i64 0,.int .i64 0]) (t:=23) ?hr ?_;(case hd=>rfl);(case hg=>rfl);(case hr=>first|(go_simp;done)|(go_simp;rfl));intro Z hg l6 a4 hb;have F:=mk0 (a4);have a6:=szw hg X;have a3:=szw hg X;have D:=nlt hg B;have R:=ngt hg B;have E:=nlt hg C;have T:=ngt hg C;have a1:=nlt hg J;have a0:=ngt hg J;replace B:=bkb B hb;replace C:=bkb C hb;replace J:=bkb J hb;replace X:=bst X hb;clear hb a4 hg;refine hK.out _ _ ⟨q0_ B,q1_ B,q2_ B,q3_ B,q0_ C,q1_ C,q2_ C,q3_ C⟩ (fun Q=>?_);clear hK K;refine norm_ (a':=?_) ?_ ?_;rotate_left
         ·
          show Act.put _ (some 6) _=_;simp only [Act.put,s0_,s1_,s2_,i64_w,i32_w];rfl
         exact norm_ (by simp only [putAll,Act.put,s0_,s1_,s2_] <;> rfl) (f7 (Y,Z) _ ⟨Q,B.1,C.1,J.1,F.1,a5.1,a2.1,G.1,U.1,I.1,V.1,a0.1,a1.1,a6.1,a3.1,D.1,R.1,E.1,T.1,X.1⟩)
      ·
       skip
       clear B C X;rintro _ l1 d7;obtain ⟨d8,B,C,X⟩:=d7;replace B:=mk0 B;replace C:=mk0 C;replace X:=mk0 X;have Q:=d8;refine norm_ (a':=?_) ?_ ?_;rotate_left
       ·
        simp only [putAll,Act.put,s0_,s1_,s2_];rfl
       refine two_ (i:=4) (j:=5) (Ni:=some 5) (Nj:=some 6) #[y_,y_,y_,y_,y_,n_,n_,n_] #[y_,y_,y_,y_,n_,y_,n_,n_] rfl rfl rfl rfl (two_of b6.1 (by kernel_rfl)) (by decide) (by decide) (fun K hK=>?_) (fun K hK=>?_)
       ·
        skip
        refine box_step ?hg (N:=5) ?hd (cs:=#[.int .i64 0,.int .i64 0,.int .i64 0,.int .i64 0]) (t:=23) ?hr ?_;(case hd=>rfl);(case hg=>rfl);(case hr=>first|(go_simp;done)|(go_simp;rfl));intro Y hg l6 a4 hb;have J:=mk0 (a4);have a5:=szw hg X;have a2:=szw hg X;have G:=nlt hg B;have U:=ngt hg B;have I:=nlt hg C;have V:=ngt hg C;replace B:=bkb B hb;replace C:=bkb C hb;replace X:=bst X hb;clear hb a4 hg;refine hK.out _ _ ⟨q0_ B,q1_ B,q2_ B,q3_ B,q0_ C,q1_ C,q2_ C,q3_ C⟩ (fun Q=>?_);clear hK K;refine norm_ (a':=?_) ?_ ?_;rotate_left
        ·
         show Act.put _ (some 5) _=_;simp only [Act.put,s0_,s1_,s2_,i64_w,i32_w];rfl
        exact norm_ (by simp only [putAll,Act.put,s0_,s1_,s2_] <;> rfl) (i7 (Y) _ ⟨Q,B.1,C.1,J.1,a5.1,a2.1,G.1,U.1,I.1,V.1,X.1⟩)
       ·
        skip
        refine box_step ?hg (N:=6) ?hd (cs:=#[.int .i64 0,.int .i64 0,.int .i64 0,.int .i64 0]) (t:=23) ?hr ?_;(case hd=>rfl);(case hg=>rfl);(case hr=>first|(go_simp;done)|(go_simp;rfl));intro Z hg l6 a4 hb;have F:=mk0 (a4);have a6:=szw hg X;have a3:=szw hg X;have D:=nlt hg B;have R:=ngt hg B;have E:=nlt hg C;have T:=ngt hg C;replace B:=bkb B hb;replace C:=bkb C hb;replace X:=bst X hb;clear hb a4 hg;refine hK.out _ _ ⟨q0_ B,q1_ B,q2_ B,q3_ B,q0_ C,q1_ C,q2_ C,q3_ C⟩ (fun Q=>?_);clear hK K;refine norm_ (a':=?_) ?_ ?_;rotate_left
        ·
         show Act.put _ (some 6) _=_;simp only [Act.put,s0_,s1_,s2_,i64_w,i32_w];rfl
        exact norm_ (by simp only [putAll,Act.put,s0_,s1_,s2_] <;> rfl) (i8 (Z) _ ⟨Q,B.1,C.1,F.1,a6.1,a3.1,D.1,R.1,E.1,T.1,X.1⟩)
     ·
      skip
      clear B C X;rintro ⟨Y,Z⟩ l6 d7;(try dsimp only at d7);obtain ⟨d8,B,C,J,F,a5,a2,G,U,I,V,a0,a1,a6,a3,D,R,E,T,X⟩:=d7;replace B:=mk0 B;replace C:=mk0 C;replace J:=mk0 J;replace F:=mk0 F;replace a5:=mk0 a5;replace a2:=mk0 a2;replace G:=mk0 G;replace U:=mk0 U;replace I:=mk0 I;replace V:=mk0 V;replace a0:=mk0 a0;replace a1:=mk0 a1;replace a6:=mk0 a6;replace a3:=mk0 a3;replace D:=mk0 D;replace R:=mk0 R;replace E:=mk0 E;replace T:=mk0 T;replace X:=mk0 X;have Q:=d8;refine norm_ (a':=?_) ?_ ?_;rotate_left
      ·
       simp only [putAll,Act.put,s0_,s1_,s2_];rfl
      refine one_ (i:=3) (N:=some 17) #[y_,y_,y_,y_,y_,y_,n_,n_] rfl rfl (one_of b6.1 (by kernel_rfl)) (by decide) (fun K hK=>?_);refine goes_ Try.func32 (by kernel_rfl) rfl #[.agg #[.int .i16 b1,.int .i16 b2,.int .i16 b3,.int .i16 b4],.int .i64 40] (by rfl) rfl rfl (by (try simp only [m0_,m1_,m2_]);first|done|rfl|(simp only [l0_,l1_];rfl)) ?_;with_reducible refine (bellpulllaw04_made.calls k b1 b2 b3 b4 40 c0 d0 d2 d4 _ A4.1).mono ?_
      rintro e z6 ⟨rfl,hb⟩;refine ⟨_,rfl,?_⟩;replace B:=bkb B hb;replace C:=bkb C hb;replace J:=bkb J hb;replace F:=bkb F hb;replace X:=bst X hb;(try clear hb);refine hK.out _ _ ⟨q0_ B,q1_ B,q2_ B,q3_ B,q0_ C,q1_ C,q2_ C,q3_ C⟩ (fun Q=>?_);clear hK K;refine norm_ (a':=?_) ?_ ?_;rotate_left
      ·
       show Act.put _ (some 17) _=_;simp only [Act.put,s0_,s1_,s2_,i64_w,i32_w];rfl
      exact norm_ (by simp only [putAll,Act.put,s0_,s1_,s2_] <;> rfl) (f0 (Y,Z) _ ⟨Q,B.1,C.1,J.1,F.1,a5.1,a2.1,G.1,U.1,I.1,V.1,a0.1,a1.1,a6.1,a3.1,D.1,R.1,E.1,T.1,X.1⟩)
    ·
     skip
     clear B C X;rintro Z l6 d7;obtain ⟨d8,B,C,F,a6,a3,D,R,E,T,X⟩:=d7;replace B:=mk0 B;replace C:=mk0 C;replace F:=mk0 F;replace a6:=mk0 a6;replace a3:=mk0 a3;replace D:=mk0 D;replace R:=mk0 R;replace E:=mk0 E;replace T:=mk0 T;replace X:=mk0 X;have Q:=d8;refine norm_ (a':=?_) ?_ ?_;rotate_left
     ·
      simp only [putAll,Act.put,s0_,s1_,s2_];rfl
     refine one_ (i:=4) (N:=some 5) #[y_,y_,y_,y_,y_,y_,n_,n_] rfl rfl (one_of b6.1 (by kernel_rfl)) (by decide) (fun K hK=>?_);refine box_step ?hg (N:=5) ?hd (cs:=#[.int .i64 0,.int .i64 0,.int .i64 0,.int .i64 0]) (t:=23) ?hr ?_;(case hd=>rfl);(case hg=>rfl);(case hr=>first|(go_simp;done)|(go_simp;rfl));intro Y hg z6 a4 hb;have J:=mk0 (a4);have a5:=szw hg X;have a2:=szw hg X;have G:=nlt hg B;have U:=ngt hg B;have I:=nlt hg C;have V:=ngt hg C;have a0:=nlt hg F;have a1:=ngt hg F;replace B:=bkb B hb;replace C:=bkb C hb;replace F:=bkb F hb;replace X:=bst X hb;clear hb a4 hg;refine hK.out _ _ ⟨q0_ B,q1_ B,q2_ B,q3_ B,q0_ C,q1_ C,q2_ C,q3_ C⟩ (fun Q=>?_);clear hK K;refine norm_ (a':=?_) ?_ ?_;rotate_left
     ·
      show Act.put _ (some 5) _=_;simp only [Act.put,s0_,s1_,s2_,i64_w,i32_w];rfl
     exact norm_ (by simp only [putAll,Act.put,s0_,s1_,s2_] <;> rfl) (f0 (Y,Z) _ ⟨Q,B.1,C.1,J.1,F.1,a5.1,a2.1,G.1,U.1,I.1,V.1,a0.1,a1.1,a6.1,a3.1,D.1,R.1,E.1,T.1,X.1⟩)
   ·
    skip
    clear B C X;rintro Y l6 d7;obtain ⟨d8,B,C,J,a5,a2,G,U,I,V,X⟩:=d7;replace B:=mk0 B;replace C:=mk0 C;replace J:=mk0 J;replace a5:=mk0 a5;replace a2:=mk0 a2;replace G:=mk0 G;replace U:=mk0 U;replace I:=mk0 I;replace V:=mk0 V;replace X:=mk0 X;have Q:=d8;refine norm_ (a':=?_) ?_ ?_;rotate_left
    ·
     simp only [putAll,Act.put,s0_,s1_,s2_];rfl
    refine one_ (i:=5) (N:=some 6) #[y_,y_,y_,y_,y_,y_,n_,n_] rfl rfl (one_of b6.1 (by kernel_rfl)) (by decide) (fun K hK=>?_);refine box_step ?hg (N:=6) ?hd (cs:=#[.int .i64 0,.int .i64 0,.int .i64 0,.int .i64 0]) (t:=23) ?hr ?_;(case hd=>rfl);(case hg=>rfl);(case hr=>first|(go_simp;done)|(go_simp;rfl));intro Z hg z6 a4 hb;have F:=mk0 (a4);have a6:=szw hg X;have a3:=szw hg X;have D:=nlt hg B;have R:=ngt hg B;have E:=nlt hg C;have T:=ngt hg C;have a1:=nlt hg J;have a0:=ngt hg J;replace B:=bkb B hb;replace C:=bkb C hb;replace J:=bkb J hb;replace X:=bst X hb;clear hb a4 hg;refine hK.out _ _ ⟨q0_ B,q1_ B,q2_ B,q3_ B,q0_ C,q1_ C,q2_ C,q3_ C⟩ (fun Q=>?_);clear hK K;refine norm_ (a':=?_) ?_ ?_;rotate_left
    ·
     show Act.put _ (some 6) _=_;simp only [Act.put,s0_,s1_,s2_,i64_w,i32_w];rfl
    exact norm_ (by simp only [putAll,Act.put,s0_,s1_,s2_] <;> rfl) (f0 (Y,Z) _ ⟨Q,B.1,C.1,J.1,F.1,a5.1,a2.1,G.1,U.1,I.1,V.1,a0.1,a1.1,a6.1,a3.1,D.1,R.1,E.1,T.1,X.1⟩)
  clear B C X;rintro ⟨Y,Z⟩ z6 d7;(try dsimp only at d7);obtain ⟨d8,B,C,J,F,a5,a2,G,U,I,V,a0,a1,a6,a3,D,R,E,T,X⟩:=d7;replace B:=mk0 B;replace C:=mk0 C;replace J:=mk0 J;replace F:=mk0 F;replace a5:=mk0 a5;replace a2:=mk0 a2;replace G:=mk0 G;replace U:=mk0 U;replace I:=mk0 I;replace V:=mk0 V;replace a0:=mk0 a0;replace a1:=mk0 a1;replace a6:=mk0 a6;replace a3:=mk0 a3;replace D:=mk0 D;replace R:=mk0 R;replace E:=mk0 E;replace T:=mk0 T;replace X:=mk0 X;have Q:=d8;refine norm_ (a':=?_) ?_ ?_;rotate_left
  ·
   simp only [putAll,Act.put,s0_,s1_,s2_];rfl
  refine one_ (i:=6) (N:=none) #[y_,y_,y_,y_,y_,y_,y_,n_] rfl rfl (one_of b6.1 (by kernel_rfl)) (by decide) (fun K hK=>?_);have Dv:=q0_ J;have Bp:=blk_frozen J.1 0;have Q1:=G.1;have Q2:=I.1;have Q3:=a0.1;have Q4:=U.1;have Q5:=V.1;have Q6:=a1.1;have Dw:=q1_ J;have Bq:=blk_frozen J.1 1;have Q7:=G.1;have Q8:=I.1;have Q9:=a0.1;have R0:=U.1;have R1:=V.1;have R2:=a1.1;have Dx:=q2_ J;have Br:=blk_frozen J.1 2;have R3:=G.1;have R4:=I.1;have R5:=a0.1;have R6:=U.1;have R7:=V.1;have R8:=a1.1;have Dy:=q3_ J;have Bs:=blk_frozen J.1 3;have R9:=G.1;have T0:=I.1;have T1:=a0.1;have T2:=U.1;have T3:=V.1;have T4:=a1.1;refine skip_ (w1:=?_) (by rfl) rfl ?_ ?_;rotate_left
  ·
   go_simp;rfl
  refine hK.out _ _ ⟨((cell_far (p:=⟨Y,_,none⟩) G.1 _).trans (((cell_far (p:=⟨Y,_,none⟩) G.1 _).trans (((cell_far (p:=⟨Y,_,none⟩) G.1 _).trans (((cell_far (p:=⟨Y,_,none⟩) G.1 _).trans (Q.1)))))))),((cell_far (p:=⟨Y,_,none⟩) G.1 _).trans (((cell_far (p:=⟨Y,_,none⟩) G.1 _).trans (((cell_far (p:=⟨Y,_,none⟩) G.1 _).trans (((cell_far (p:=⟨Y,_,none⟩) G.1 _).trans (Q.2.1)))))))),((cell_far (p:=⟨Y,_,none⟩) G.1 _).trans (((cell_far (p:=⟨Y,_,none⟩) G.1 _).trans (((cell_far (p:=⟨Y,_,none⟩) G.1 _).trans (((cell_far (p:=⟨Y,_,none⟩) G.1 _).trans (Q.2.2.1)))))))),((cell_far (p:=⟨Y,_,none⟩) G.1 _).trans (((cell_far (p:=⟨Y,_,none⟩) G.1 _).trans (((cell_far (p:=⟨Y,_,none⟩) G.1 _).trans (((cell_far (p:=⟨Y,_,none⟩) G.1 _).trans (Q.2.2.2.1)))))))),((cell_far (p:=⟨Y,_,none⟩) I.1 _).trans (((cell_far (p:=⟨Y,_,none⟩) I.1 _).trans (((cell_far (p:=⟨Y,_,none⟩) I.1 _).trans (((cell_far (p:=⟨Y,_,none⟩) I.1 _).trans (Q.2.2.2.2.1)))))))),((cell_far (p:=⟨Y,_,none⟩) I.1 _).trans (((cell_far (p:=⟨Y,_,none⟩) I.1 _).trans (((cell_far (p:=⟨Y,_,none⟩) I.1 _).trans (((cell_far (p:=⟨Y,_,none⟩) I.1 _).trans (Q.2.2.2.2.2.1)))))))),((cell_far (p:=⟨Y,_,none⟩) I.1 _).trans (((cell_far (p:=⟨Y,_,none⟩) I.1 _).trans (((cell_far (p:=⟨Y,_,none⟩) I.1 _).trans (((cell_far (p:=⟨Y,_,none⟩) I.1 _).trans (Q.2.2.2.2.2.2.1)))))))),((cell_far (p:=⟨Y,_,none⟩) I.1 _).trans (((cell_far (p:=⟨Y,_,none⟩) I.1 _).trans (((cell_far (p:=⟨Y,_,none⟩) I.1 _).trans (((cell_far (p:=⟨Y,_,none⟩) I.1 _).trans (Q.2.2.2.2.2.2.2))))))))⟩ (fun Q=>?_);clear hK K;refine one_ (i:=7) (N:=none) #[y_,y_,y_,y_,y_,y_,y_,y_] rfl rfl (one_of b6.1 (by kernel_rfl)) (by decide) (fun K hK=>?_);have Dz:=q0_ F;have Bt:=blk_frozen F.1 0;have T5:=D.1;have T6:=E.1;have T7:=a1.1;have T8:=R.1;have T9:=T.1;have U0:=a0.1;have Ea:=q1_ F;have Bu:=blk_frozen F.1 1;have U1:=D.1;have U2:=E.1;have U3:=a1.1;have U4:=R.1;have U5:=T.1;have U6:=a0.1;have Eb:=q2_ F;have Bv:=blk_frozen F.1 2;have U7:=D.1;have U8:=E.1;have U9:=a1.1;have V0:=R.1;have V1:=T.1;have V2:=a0.1;have Ec:=q3_ F;have Bw:=blk_frozen F.1 3;have V3:=D.1;have V4:=E.1;have V5:=a1.1;have V6:=R.1;have V7:=T.1;have V8:=a0.1;refine skip_ (w1:=?_) (by rfl) rfl ?_ ?_;rotate_left
  ·
   go_simp;rfl
  refine hK.out _ _ ⟨((cell_far (p:=⟨Z,_,none⟩) D.1 _).trans (((cell_far (p:=⟨Z,_,none⟩) D.1 _).trans (((cell_far (p:=⟨Z,_,none⟩) D.1 _).trans (((cell_far (p:=⟨Z,_,none⟩) D.1 _).trans (Q.1)))))))),((cell_far (p:=⟨Z,_,none⟩) D.1 _).trans (((cell_far (p:=⟨Z,_,none⟩) D.1 _).trans (((cell_far (p:=⟨Z,_,none⟩) D.1 _).trans (((cell_far (p:=⟨Z,_,none⟩) D.1 _).trans (Q.2.1)))))))),((cell_far (p:=⟨Z,_,none⟩) D.1 _).trans (((cell_far (p:=⟨Z,_,none⟩) D.1 _).trans (((cell_far (p:=⟨Z,_,none⟩) D.1 _).trans (((cell_far (p:=⟨Z,_,none⟩) D.1 _).trans (Q.2.2.1)))))))),((cell_far (p:=⟨Z,_,none⟩) D.1 _).trans (((cell_far (p:=⟨Z,_,none⟩) D.1 _).trans (((cell_far (p:=⟨Z,_,none⟩) D.1 _).trans (((cell_far (p:=⟨Z,_,none⟩) D.1 _).trans (Q.2.2.2.1)))))))),((cell_far (p:=⟨Z,_,none⟩) E.1 _).trans (((cell_far (p:=⟨Z,_,none⟩) E.1 _).trans (((cell_far (p:=⟨Z,_,none⟩) E.1 _).trans (((cell_far (p:=⟨Z,_,none⟩) E.1 _).trans (Q.2.2.2.2.1)))))))),((cell_far (p:=⟨Z,_,none⟩) E.1 _).trans (((cell_far (p:=⟨Z,_,none⟩) E.1 _).trans (((cell_far (p:=⟨Z,_,none⟩) E.1 _).trans (((cell_far (p:=⟨Z,_,none⟩) E.1 _).trans (Q.2.2.2.2.2.1)))))))),((cell_far (p:=⟨Z,_,none⟩) E.1 _).trans (((cell_far (p:=⟨Z,_,none⟩) E.1 _).trans (((cell_far (p:=⟨Z,_,none⟩) E.1 _).trans (((cell_far (p:=⟨Z,_,none⟩) E.1 _).trans (Q.2.2.2.2.2.2.1)))))))),((cell_far (p:=⟨Z,_,none⟩) E.1 _).trans (((cell_far (p:=⟨Z,_,none⟩) E.1 _).trans (((cell_far (p:=⟨Z,_,none⟩) E.1 _).trans (((cell_far (p:=⟨Z,_,none⟩) E.1 _).trans (Q.2.2.2.2.2.2.2))))))))⟩ (fun Q=>?_);clear hK K;refine done_ (done_of b6.1 (by kernel_rfl)) ?_;have Bx:=R.1;have By:=D.1;have Bz:=T.1;have Ca:=E.1;have Cb:=a0.1;have Cc:=a1.1;have t9:=q0_ F;have u0:=q1_ F;have u1:=q2_ F;have u2:=q3_ F;have u3:=blk_frozen F.1 0;have u4:=blk_frozen F.1 1;have u5:=blk_frozen F.1 2;have u6:=blk_frozen F.1 3;have Cd:=U.1;have Ce:=G.1;have Cf:=V.1;have Cg:=I.1;have u7:=q0_ J;have u8:=q1_ J;have u9:=q2_ J;have v0:=q3_ J;have v1:=blk_frozen J.1 0;have v2:=blk_frozen J.1 1;have v3:=blk_frozen J.1 2;have v4:=blk_frozen J.1 3;go_upto_region 6 with (first|((with_reducible refine gate_callee (f:=17) rfl ?_);refine goesL_ (some 36) rfl rfl Try.func17 (by kernel_rfl) rfl #[.agg #[.int .i64 c2,.int .i64 d1,.int .i64 d3,.int .i64 d5],.agg #[.int .i64 c0,.int .i64 d0,.int .i64 d2,.int .i64 d4]] rfl (by (try simp only [m0_,m1_,m2_]);first|done|rfl|(simp only [l0_,l1_];rfl)) ?_;(with_reducible refine (norm_Divide.calls k c2 d1 d3 d5 c0 d0 d2 d4 d9 e5 f1 f6 e0 e1 e2 e3 p6 _ X0.1).mono ?_);rintro e Et ⟨rfl,hb⟩;refine ⟨_,rfl,?_⟩;replace B:=mk0 (blk_below (g:=L) (o:=.cells #[.int .i16 a7,.int .i16 a8,.int .i16 a9,.int .i16 b0] 47 (0,0)) (by (iterate 4 refine blk_far ?_ D.1 _);(iterate 4 refine blk_far ?_ G.1 _);exact B.1) hb);replace C:=mk0 (blk_below (g:=O) (o:=.cells #[.int .i16 b1,.int .i16 b2,.int .i16 b3,.int .i16 b4] 47 (0,0)) (by (iterate 4 refine blk_far ?_ E.1 _);(iterate 4 refine blk_far ?_ I.1 _);exact C.1) hb);replace J:=mk0 (blk_below (g:=Y) (o:=.cells #[.int .i64 c2,.int .i64 d1,.int .i64 d3,.int .i64 d5] 23 (0,0)) (by (iterate 4 refine blk_far ?_ a1.1 _);refine blk_put (cs:=#[.int .i64 c2,.int .i64 d1,.int .i64 d3,.int .i64 0]) ?_ 3 _ rfl;refine blk_put (cs:=#[.int .i64 c2,.int .i64 d1,.int .i64 0,.int .i64 0]) ?_ 2 _ rfl;refine blk_put (cs:=#[.int .i64 c2,.int .i64 0,.int .i64 0,.int .i64 0]) ?_ 1 _ rfl;refine blk_put (cs:=#[.int .i64 0,.int .i64 0,.int .i64 0,.int .i64 0]) ?_ 0 _ rfl;exact J.1) hb);replace F:=mk0 (blk_below (g:=Z) (o:=.cells #[.int .i64 c0,.int .i64 d0,.int .i64 d2,.int .i64 d4] 23 (0,0)) (by refine blk_put (cs:=#[.int .i64 c0,.int .i64 d0,.int .i64 d2,.int .i64 0]) ?_ 3 _ rfl;refine blk_put (cs:=#[.int .i64 c0,.int .i64 d0,.int .i64 0,.int .i64 0]) ?_ 2 _ rfl;refine blk_put (cs:=#[.int .i64 c0,.int .i64 0,.int .i64 0,.int .i64 0]) ?_ 1 _ rfl;refine blk_put (cs:=#[.int .i64 0,.int .i64 0,.int .i64 0,.int .i64 0]) ?_ 0 _ rfl;(iterate 4 refine blk_far ?_ a0.1 _);exact F.1) hb);replace X:=mk0 (below_step (by repeat (with_reducible first|exact X.1|refine below_set ?_ f8.1|refine below_set ?_ f9.1|refine below_set ?_ a2.1|refine below_set ?_ a3.1)) hb);(try clear hb))|((with_reducible refine gate_dst (N:=10) rfl ?_);(try (refine gate_guard (by rfl) ?_;dsimp only));refine box_event ?hg (N:=10) ?hd (cs:=#[.int .i64 0,.int .i64 0,.int .i64 0,.int .i64 0]) (t:=23) ?hr ?_;(case hd=>rfl);(case hg=>rfl);(case hr=>first|(go_simp;done)|(go_simp;rfl));intro h4 hg Eu a4 hb;have b5:=mk0 (a4);have B9:=szw hg X;have l7:=B9;have j3:=nlt hg B;have n2:=ngt hg B;have j4:=nlt hg C;have n3:=ngt hg C;have h5:=nlt hg J;have n4:=ngt hg J;have h6:=nlt hg F;have n5:=ngt hg F;replace B:=bkb B hb;replace C:=bkb C hb;replace J:=bkb J hb;replace F:=bkb F hb;replace X:=bst X hb;clear hb a4 hg)|((with_reducible refine gate_dst (N:=11) rfl ?_);(try (refine gate_guard (by rfl) ?_;dsimp only));refine box_event ?hg (N:=11) ?hd (cs:=#[.int .i64 0,.int .i64 0,.int .i64 0,.int .i64 0]) (t:=23) ?hr ?_;(case hd=>rfl);(case hg=>rfl);(case hr=>first|(go_simp;done)|(go_simp;rfl));intro h7 hg Ev a4 hb;have b8:=mk0 (a4);have C0:=szw hg X;have l8:=C0;have j5:=nlt hg B;have n6:=ngt hg B;have j6:=nlt hg C;have n7:=ngt hg C;have h8:=nlt hg J;have n8:=ngt hg J;have g1:=nlt hg F;have j7:=ngt hg F;have g2:=nlt hg b5;have g3:=ngt hg b5;replace B:=bkb B hb;replace C:=bkb C hb;replace J:=bkb J hb;replace F:=bkb F hb;replace b5:=bkb b5 hb;replace X:=bst X hb;clear hb a4 hg;have Ch:=n2.1;have Ci:=j3.1;have Cj:=n3.1;have Ck:=j4.1;have Cl:=n4.1;have Cm:=h5.1;have Cn:=n5.1;have Co:=h6.1;have Cp:=g2.1;have Cq:=g3.1;have v5:=q0_ b5;have v6:=q1_ b5;have v7:=q2_ b5;have v8:=q3_ b5;have v9:=blk_frozen b5.1 0;have x0:=blk_frozen b5.1 1;have x1:=blk_frozen b5.1 2;have x2:=blk_frozen b5.1 3;have Cr:=n6.1;have Cs:=j5.1;have Ct:=n7.1;have Cu:=j6.1;have Cv:=n8.1;have Cw:=h8.1;have Cx:=j7.1;have Cy:=g1.1;have x3:=q0_ b8;have x4:=q1_ b8;have x5:=q2_ b8;have x6:=q3_ b8;have x7:=blk_frozen b8.1 0;have x8:=blk_frozen b8.1 1;have x9:=blk_frozen b8.1 2;have y0:=blk_frozen b8.1 3))
  (try simp only [Act.put,s0_,s1_,s2_])
  go_cut [51] (fun X2 wc=>∃ (kq:Nat) (l9:Bool),X2=.bool l9∧Aside0 (bellpulllaw04_NormDivision.j0 kq l9 c2 d1 d3 d5 c0 d0 d2 d4 d9 e5 f1 f6 e0 e1 e2 e3=some r)∧Aside0 (kq ≤ k)∧Aside0 (wc.heap[L]?=some (.cells #[.int .i16 a7,.int .i16 a8,.int .i16 a9,.int .i16 b0] 47 (0,0)))∧Aside0 (wc.heap[O]?=some (.cells #[.int .i16 b1,.int .i16 b2,.int .i16 b3,.int .i16 b4] 47 (0,0)))∧Aside0 (Q4_ wc Y c2 d1 d3 d5 23)∧Aside0 (Q4_ wc Z c0 d0 d2 d4 23)∧Aside0 (Q4_ wc h4 d9 e5 f1 f6 23)∧Aside0 (Q4_ wc h7 e0 e1 e2 e3 23)∧Aside0 (Below w.heap.size w wc))
  case first =>
   have H:=r9.1;clear r9
   by_cases c86:p6=0
   ·
    rw [if_pos c86] at H;have c86b0:(p6 == 0)=true:=beq_iff_eq.mpr c86;have c86b1:(p6 != 0)=false:=bne_eq_false_iff_eq.mpr c86;clear c86;(first|rw [c86b0]|(simp only [i64_w,i32_w];rw [c86b0])|skip);obtain ⟨z7,m0⟩:∃ y_:List (S23),y_=(([(⟨e0,e1,e2,e3⟩:S23)]:List (S23))):=⟨_,rfl⟩
    replace H:((bellpullref04_Check.f k z7).bind fun j2=>(if j2=0 then ((bellpulllaw04_lives.f k).bind fun m1=>(bellpulllaw04_NormDivision.j0 k (!m1) c2 d1 d3 d5 c0 d0 d2 d4 d9 e5 f1 f6 e0 e1 e2 e3)) else (none)))=some r:=by first|(rw [m0];with_reducible exact H)|(have z8:=(Option.bind_some _ _).symm.trans H;rw [m0];with_reducible exact z8)|(have z8:=(Option.bind_some _ _).symm.trans H;with_reducible exact z8)|with_reducible exact H|(rw [m0];exact H)|exact H
    have t4:=mk0 m0;clear m0;replace H:=Option.bind_eq_some_iff.mp H;obtain ⟨j2,z9,H⟩:=H;(try dsimp only at H);have X3:=mk0 z9;clear z9
    by_cases c88:j2=0
    ·
     rw [if_pos c88] at H;have c88b0:(j2 == 0)=true:=beq_iff_eq.mpr c88;have c88b1:(j2 != 0)=false:=bne_eq_false_iff_eq.mpr c88;clear c88;replace H:=Option.bind_eq_some_iff.mp H;obtain ⟨m1,A0,H⟩:=H;(try dsimp only at H);have X4:=mk0 A0;clear A0;have H':=mk0 H;clear H;have Cz:=n6.1;have Da:=j5.1;have Db:=n7.1;have Dc:=j6.1;have Dd:=n8.1;have De:=h8.1;have Df:=j7.1;have Dg:=g1.1;have Dh:=g3.1;have Di:=g2.1;have y1:=q0_ b8;have y2:=q1_ b8;have y3:=q2_ b8;have y4:=q3_ b8;have y5:=blk_frozen b8.1 0;have y6:=blk_frozen b8.1 1;have y7:=blk_frozen b8.1 2;have y8:=blk_frozen b8.1 3;go_wp2_with (first|((with_reducible refine gate_dst (N:=44) rfl ?_);(try (refine gate_guard (by rfl) ?_;dsimp only));refine Kd.R_lit k23 _ 23 ?hg (N:=44) ?hd (xs:=([(⟨e0,e1,e2,e3⟩:S23)]:List (S23))) (inner:=[.int .i64 e0,.int .i64 e1,.int .i64 e2,.int .i64 e3]) (ok:=fun _=>True) (okp:=fun _=>True) ?hr ?hp (fun _ hk=>hk) trivial (Below.refl _ _) (Nat.le_refl _) (by simp) ?_;(case hd=>rfl);(case hg=>rfl);(case hr=>first|(go_simp;done)|(go_simp;rfl));(case hp=>exact (Reps.c4 (show Kd.M k23 _ _ _ (⟨e0,e1,e2,e3⟩:S23) [.int .i64 e0,.int .i64 e1,.int .i64 e2,.int .i64 e3] from (k23_mkM _ _ _ (⟨e0,e1,e2,e3⟩:S23) )) (Reps.none _ _)));intro Ed Ew o8 hb hg_ C1;clear hg_ C1;(first|rw [← t4.1] at o8|(simp only [Int.reduceToNat] at o8;rw [← t4.1] at o8));have i9:=mk0 (Kd.R_lower (Kd.R_newB (Kd.R_newB (Kd.R_newB (Kd.R_newB o8 (g:=Y) (o:=.cells #[.int .i64 c2,.int .i64 d1,.int .i64 d3,.int .i64 d5] 23 (0,0)) (by (iterate 4 refine blk_far ?_ h8.1 _);(iterate 4 refine blk_far ?_ h5.1 _);exact J.1)) (g:=Z) (o:=.cells #[.int .i64 c0,.int .i64 d0,.int .i64 d2,.int .i64 d4] 23 (0,0)) (by (iterate 4 refine blk_far ?_ g1.1 _);(iterate 4 refine blk_far ?_ h6.1 _);exact F.1)) (g:=h4) (o:=.cells #[.int .i64 d9,.int .i64 e5,.int .i64 f1,.int .i64 f6] 23 (0,0)) (by (iterate 4 refine blk_far ?_ g2.1 _);refine blk_put (cs:=#[.int .i64 d9,.int .i64 e5,.int .i64 f1,.int .i64 0]) ?_ 3 _ rfl;refine blk_put (cs:=#[.int .i64 d9,.int .i64 e5,.int .i64 0,.int .i64 0]) ?_ 2 _ rfl;refine blk_put (cs:=#[.int .i64 d9,.int .i64 0,.int .i64 0,.int .i64 0]) ?_ 1 _ rfl;refine blk_put (cs:=#[.int .i64 0,.int .i64 0,.int .i64 0,.int .i64 0]) ?_ 0 _ rfl;exact b5.1)) (g:=h7) (o:=.cells #[.int .i64 e0,.int .i64 e1,.int .i64 e2,.int .i64 e3] 23 (0,0)) (by refine blk_put (cs:=#[.int .i64 e0,.int .i64 e1,.int .i64 e2,.int .i64 0]) ?_ 3 _ rfl;refine blk_put (cs:=#[.int .i64 e0,.int .i64 e1,.int .i64 0,.int .i64 0]) ?_ 2 _ rfl;refine blk_put (cs:=#[.int .i64 e0,.int .i64 0,.int .i64 0,.int .i64 0]) ?_ 1 _ rfl;refine blk_put (cs:=#[.int .i64 0,.int .i64 0,.int .i64 0,.int .i64 0]) ?_ 0 _ rfl;(iterate 4 refine blk_far ?_ g3.1 _);exact b8.1)) (below_size (by repeat (with_reducible first|exact X.1|refine below_set ?_ f8.1|refine below_set ?_ f9.1|refine below_set ?_ a2.1|refine below_set ?_ a3.1|refine below_set ?_ l7.1|refine below_set ?_ l8.1))));replace B:=mk0 (blk_below (g:=L) (o:=.cells #[.int .i16 a7,.int .i16 a8,.int .i16 a9,.int .i16 b0] 47 (0,0)) (by (iterate 4 refine blk_far ?_ j5.1 _);(iterate 4 refine blk_far ?_ j3.1 _);exact B.1) hb);replace C:=mk0 (blk_below (g:=O) (o:=.cells #[.int .i16 b1,.int .i16 b2,.int .i16 b3,.int .i16 b4] 47 (0,0)) (by (iterate 4 refine blk_far ?_ j6.1 _);(iterate 4 refine blk_far ?_ j4.1 _);exact C.1) hb);replace J:=mk0 (blk_below (g:=Y) (o:=.cells #[.int .i64 c2,.int .i64 d1,.int .i64 d3,.int .i64 d5] 23 (0,0)) (by (iterate 4 refine blk_far ?_ h8.1 _);(iterate 4 refine blk_far ?_ h5.1 _);exact J.1) hb);replace F:=mk0 (blk_below (g:=Z) (o:=.cells #[.int .i64 c0,.int .i64 d0,.int .i64 d2,.int .i64 d4] 23 (0,0)) (by (iterate 4 refine blk_far ?_ g1.1 _);(iterate 4 refine blk_far ?_ h6.1 _);exact F.1) hb);replace b5:=mk0 (blk_below (g:=h4) (o:=.cells #[.int .i64 d9,.int .i64 e5,.int .i64 f1,.int .i64 f6] 23 (0,0)) (by (iterate 4 refine blk_far ?_ g2.1 _);refine blk_put (cs:=#[.int .i64 d9,.int .i64 e5,.int .i64 f1,.int .i64 0]) ?_ 3 _ rfl;refine blk_put (cs:=#[.int .i64 d9,.int .i64 e5,.int .i64 0,.int .i64 0]) ?_ 2 _ rfl;refine blk_put (cs:=#[.int .i64 d9,.int .i64 0,.int .i64 0,.int .i64 0]) ?_ 1 _ rfl;refine blk_put (cs:=#[.int .i64 0,.int .i64 0,.int .i64 0,.int .i64 0]) ?_ 0 _ rfl;exact b5.1) hb);replace b8:=mk0 (blk_below (g:=h7) (o:=.cells #[.int .i64 e0,.int .i64 e1,.int .i64 e2,.int .i64 e3] 23 (0,0)) (by refine blk_put (cs:=#[.int .i64 e0,.int .i64 e1,.int .i64 e2,.int .i64 0]) ?_ 3 _ rfl;refine blk_put (cs:=#[.int .i64 e0,.int .i64 e1,.int .i64 0,.int .i64 0]) ?_ 2 _ rfl;refine blk_put (cs:=#[.int .i64 e0,.int .i64 0,.int .i64 0,.int .i64 0]) ?_ 1 _ rfl;refine blk_put (cs:=#[.int .i64 0,.int .i64 0,.int .i64 0,.int .i64 0]) ?_ 0 _ rfl;(iterate 4 refine blk_far ?_ g3.1 _);exact b8.1) hb);replace X:=mk0 (below_step (by repeat (with_reducible first|exact X.1|refine below_set ?_ f8.1|refine below_set ?_ f9.1|refine below_set ?_ a2.1|refine below_set ?_ a3.1|refine below_set ?_ l7.1|refine below_set ?_ l8.1)) hb);clear hb o8;obtain ⟨Ee,Ef,D1⟩:=Kd.R_slice i9.1;subst D1)|(go_at_call 18;(with_reducible refine (bellpullref04_Check.calls k _ _ z7 j2 _ ?side1 ?side2 X3.1).mono ?_);(case side1=>repeat (first|exact (Kd.R_reads' i9.1).2.2|(with_reducible refine Kd.C_alloc ?_ _)|(with_reducible refine Kd.C_drewN ?_ _)|(with_reducible refine Kd.C_drew ?_)));(case side2=>exact (Kd.R_reads' i9.1).2.1);rintro e Ex ⟨rfl,hb⟩;replace i9:=rbl i9 hb;replace B:=bkb B hb;replace C:=bkb C hb;replace J:=bkb J hb;replace F:=bkb F hb;replace b5:=bkb b5 hb;replace b8:=bkb b8 hb;replace X:=bst X hb;(try clear hb);(try clear hk))|(go_at_call 19;(with_reducible refine (bellpulllaw04_lives.calls k  m1 _ X4.1).mono ?_);rintro e Eg ⟨rfl,hb⟩;replace i9:=rbl i9 hb;replace B:=bkb B hb;replace C:=bkb C hb;replace J:=bkb J hb;replace F:=bkb F hb;replace b5:=bkb b5 hb;replace b8:=bkb b8 hb;replace X:=bst X hb;(try clear hb);(try clear hk)))
     go_meet
     case rel=>exact ⟨_,(!m1),(by first|rfl|(simp;done)|(simp [*];done)),H',⟨by first|omega|exact Nat.le_refl _⟩,⟨by exact B.1⟩,⟨by exact C.1⟩,⟨by exact J.1⟩,⟨by exact F.1⟩,⟨by exact b5.1⟩,⟨by exact b8.1⟩,⟨by repeat (first|(with_reducible first|exact X.1|apply below_alloc|apply pw_below_drewN|apply below_drew1|refine below_set ?_ f8.1|refine below_set ?_ f9.1|refine below_set ?_ a2.1|refine below_set ?_ a3.1|refine below_set ?_ l7.1|refine below_set ?_ l8.1)|exact X.1)⟩⟩
    ·
     rw [if_neg c88] at H;exact absurd H (by simp)
   ·
    rw [if_neg c86] at H;exact absurd H (by simp)
  case rest =>
   clear r9;try clear c1
   try clear p2
   try clear c3
   try clear c4
   try clear c6
   try clear c7
   try clear c8
   try clear c9
   try clear c17
   try clear c32
   try clear c65
   try clear c66
   try clear c67
   try clear c69
   try clear c70
   try clear c75
   try clear c76
   try clear c77
   try clear c78
   try clear c79
   try clear c81
   try clear c82
   try clear c83
   try clear c84
   try clear c86
   try clear c86b0
   try clear c86b1
   try clear c88
   try clear c88b0
   try clear c88b1
   try clear c90
   try clear c91
   try clear c92
   try clear c93
   try clear c94
   try clear t9
   try clear u0
   try clear u1
   try clear u2
   try clear u7
   try clear u8
   try clear u9
   try clear v0
   try clear v5
   try clear v6
   try clear v7
   try clear v8
   try clear x3
   try clear x4
   try clear x5
   try clear x6
   try clear y1
   try clear y2
   try clear y3
   try clear y4
   try clear u3
   try clear u4
   try clear u5
   try clear u6
   try clear v1
   try clear v2
   try clear v3
   try clear v4
   try clear v9
   try clear x0
   try clear x1
   try clear x2
   try clear x7
   try clear x8
   try clear x9
   try clear y0
   try clear y5
   try clear y6
   try clear y7
   try clear y8
   obtain ⟨kq,l9,rfl,HA,Eh,B,C,J,F,b5,b8,X⟩:=hcut;cases kq with
   | zero=>exact absurd HA.1 (by simp [bellpulllaw04_NormDivision.j0])
   | succ kj47 =>
    have H:=HA.1;clear HA;simp only [bellpulllaw04_NormDivision.j0] at H
    by_cases p7:l9=true
    ·
     subst p7;have H1:(none)=some r:=by rw [if_pos rfl] at H;exact H
     clear H;have H:=H1;clear H1;exact absurd H (by simp)
    ·
     replace p7:=Bool.eq_false_iff.mpr p7;subst p7;have H1:((bellpullref04_Mul.f d9 e5 f1 f6 c0 d0 d2 d4).bind fun o5=>(if (Go.bits .and .i64 d9 1)=(Go.bits .and .i64 e5 1) then (if (Go.bits .and .i64 d9 1)=(Go.bits .and .i64 f1 1) then (if (Go.bits .and .i64 d9 1)=(Go.bits .and .i64 f6 1) then (if (c2 == (wrap64 (o5.1 + e0)) && (d1 == (wrap64 (o5.2.1 + e1)) && (d3 == (wrap64 (o5.2.2.1 + e2)) && (d5 == (wrap64 (o5.2.2.2 + e3))))))=true then ((bellpullref04_Norm.f e0 e1 e2 e3).bind fun t0=>((bellpullref04_Norm.f c0 d0 d2 d4).bind fun t1=>(some (decide ((wrap64 (2 * t0)) ≤ t1))))) else (none)) else (none)) else (none)) else (none)))=some r:=by rw [if_neg (show ¬ (false=true) by decide)] at H;exact H
     clear H;have H:=H1;clear H1;replace H:=Option.bind_eq_some_iff.mp H;obtain ⟨⟨e6,e7,f2,f4⟩,t5,H⟩:=H;(try dsimp only at H);have D2:=mk0 t5;clear t5
     by_cases c103:(Go.bits .and .i64 d9 1)=(Go.bits .and .i64 e5 1)
     ·
      rw [if_pos c103] at H;have c103b0:((Go.bits .and .i64 d9 1) == (Go.bits .and .i64 e5 1))=true:=beq_iff_eq.mpr c103;have c103b1:((Go.bits .and .i64 d9 1) != (Go.bits .and .i64 e5 1))=false:=bne_eq_false_iff_eq.mpr c103;clear c103
      by_cases c104:(Go.bits .and .i64 d9 1)=(Go.bits .and .i64 f1 1)
      ·
       rw [if_pos c104] at H;have c104b0:((Go.bits .and .i64 d9 1) == (Go.bits .and .i64 f1 1))=true:=beq_iff_eq.mpr c104;have c104b1:((Go.bits .and .i64 d9 1) != (Go.bits .and .i64 f1 1))=false:=bne_eq_false_iff_eq.mpr c104;clear c104
       by_cases c105:(Go.bits .and .i64 d9 1)=(Go.bits .and .i64 f6 1)
       ·
        rw [if_pos c105] at H;have c105b0:((Go.bits .and .i64 d9 1) == (Go.bits .and .i64 f6 1))=true:=beq_iff_eq.mpr c105;have c105b1:((Go.bits .and .i64 d9 1) != (Go.bits .and .i64 f6 1))=false:=bne_eq_false_iff_eq.mpr c105;clear c105
        by_cases c106:(c2 == (wrap64 (e6 + e0)) && (d1 == (wrap64 (e7 + e1)) && (d3 == (wrap64 (f2 + e2)) && (d5 == (wrap64 (f4 + e3))))))=true
        ·
         rw [if_pos c106] at H;have c106b0:(c2 == (wrap64 (e6 + e0)) && (d1 == (wrap64 (e7 + e1)) && (d3 == (wrap64 (f2 + e2)) && (d5 == (wrap64 (f4 + e3))))))=true:=c106;(try (have c106b1:decide (c2=(wrap64 (e6 + e0)) && (d1 == (wrap64 (e7 + e1)) && (d3 == (wrap64 (f2 + e2)) && (d5 == (wrap64 (f4 + e3))))))=true:=by simpa using c106));(try (have c106b2:(c2 == (wrap64 (e6 + e0)) && (d1 == (wrap64 (e7 + e1)) && (d3 == (wrap64 (f2 + e2)) && (d5 == (wrap64 (f4 + e3))))))=true:=by simpa using c106));clear c106;replace H:=Option.bind_eq_some_iff.mp H;obtain ⟨t0,t6,H⟩:=H;(try dsimp only at H);have D3:=mk0 t6;clear t6;replace H:=Option.bind_eq_some_iff.mp H;obtain ⟨t1,t7,H⟩:=H;(try dsimp only at H);have D4:=mk0 t7;clear t7;obtain rfl:=Option.some.inj H;have X5:=n2.1;have X6:=j3.1;have X7:=n3.1;have X8:=j4.1;have X9:=n4.1;have Y0:=h5.1;have Y1:=n5.1;have Y2:=h6.1;have Y3:=g2.1;have Y4:=g3.1;have D5:=q0_ b5;have D6:=q1_ b5;have D7:=q2_ b5;have D8:=q3_ b5;have D9:=blk_frozen b5.1 0;have E0:=blk_frozen b5.1 1;have E1:=blk_frozen b5.1 2;have E2:=blk_frozen b5.1 3;have Y5:=R.1;have Y6:=D.1;have Y7:=T.1;have Y8:=E.1;have Y9:=a0.1;have Z0:=a1.1;have Z1:=g1.1;have Z2:=j7.1;have E3:=q0_ F;have E4:=q1_ F;have E5:=q2_ F;have E6:=q3_ F;have E7:=blk_frozen F.1 0;have E8:=blk_frozen F.1 1;have E9:=blk_frozen F.1 2;have F0:=blk_frozen F.1 3;try go_wp2_with (first|((with_reducible refine gate_callee (f:=33) rfl ?_);refine goesL_ (some 54) rfl rfl Try.func33 (by kernel_rfl) rfl #[.agg #[.int .i64 d9,.int .i64 e5,.int .i64 f1,.int .i64 f6],.agg #[.int .i64 c0,.int .i64 d0,.int .i64 d2,.int .i64 d4]] rfl (by (try simp only [m0_,m1_,m2_]);first|done|rfl|(simp only [l0_,l1_];rfl)) ?_;(with_reducible refine (bellpullref04_Mul.calls d9 e5 f1 f6 c0 d0 d2 d4 e6 e7 f2 f4 _ D2.1).mono ?_);rintro e Ei ⟨rfl,hb⟩;refine ⟨_,rfl,?_⟩;replace B:=bkb B hb;replace C:=bkb C hb;replace J:=bkb J hb;replace F:=bkb F hb;replace b5:=bkb b5 hb;replace b8:=bkb b8 hb;replace X:=bst X hb;(try clear hb))|((with_reducible refine gate_dst (N:=13) rfl ?_);(try (refine gate_guard (by rfl) ?_;dsimp only));refine box_event ?hg (N:=13) ?hd (cs:=#[.int .i64 0,.int .i64 0,.int .i64 0,.int .i64 0]) (t:=23) ?hr ?_;(case hd=>rfl);(case hg=>rfl);(case hr=>first|(go_simp;done)|(go_simp;rfl));intro b9 hg j1 a4 hb;have d6:=mk0 (a4);have C2:=szw hg X;have t8:=C2;have n9:=nlt hg B;have r0:=ngt hg B;have o0:=nlt hg C;have r1:=ngt hg C;have o1:=nlt hg J;have r2:=ngt hg J;have o2:=nlt hg F;have r3:=ngt hg F;have o3:=nlt hg b5;have r4:=ngt hg b5;have o4:=nlt hg b8;have r5:=ngt hg b8;replace B:=bkb B hb;replace C:=bkb C hb;replace J:=bkb J hb;replace F:=bkb F hb;replace b5:=bkb b5 hb;replace b8:=bkb b8 hb;replace X:=bst X hb;clear hb a4 hg;have Z3:=r0.1;have Z4:=n9.1;have Z5:=r1.1;have Z6:=o0.1;have Z7:=r2.1;have Z8:=o1.1;have Z9:=r3.1;have Aa:=o2.1;have Ab:=r4.1;have Ac:=o3.1;have Ad:=r5.1;have Ae:=o4.1;have F1:=q0_ d6;have F2:=q1_ d6;have F3:=q2_ d6;have F4:=q3_ d6;have F5:=blk_frozen d6.1 0;have F6:=blk_frozen d6.1 1;have F7:=blk_frozen d6.1 2;have F8:=blk_frozen d6.1 3))
         have A2:Aside0 (((((j1.setCell ⟨b9,0,none⟩ (.int .i64 e6)).setCell ⟨b9,1,none⟩ (.int .i64 e7)).setCell ⟨b9,2,none⟩ (.int .i64 f2)).setCell ⟨b9,3,none⟩ (.int .i64 f4)).heap[L]?=some (.cells #[.int .i16 a7,.int .i16 a8,.int .i16 a9,.int .i16 b0] 47 (0,0))):=⟨by (iterate 4 refine blk_far ?_ n9.1 _);exact B.1⟩
         have A5:Aside0 (((((j1.setCell ⟨b9,0,none⟩ (.int .i64 e6)).setCell ⟨b9,1,none⟩ (.int .i64 e7)).setCell ⟨b9,2,none⟩ (.int .i64 f2)).setCell ⟨b9,3,none⟩ (.int .i64 f4)).heap[O]?=some (.cells #[.int .i16 b1,.int .i16 b2,.int .i16 b3,.int .i16 b4] 47 (0,0))):=⟨by (iterate 4 refine blk_far ?_ o0.1 _);exact C.1⟩
         have A7:Aside0 (((((j1.setCell ⟨b9,0,none⟩ (.int .i64 e6)).setCell ⟨b9,1,none⟩ (.int .i64 e7)).setCell ⟨b9,2,none⟩ (.int .i64 f2)).setCell ⟨b9,3,none⟩ (.int .i64 f4)).heap[Y]?=some (.cells #[.int .i64 c2,.int .i64 d1,.int .i64 d3,.int .i64 d5] 23 (0,0))):=⟨by (iterate 4 refine blk_far ?_ o1.1 _);exact J.1⟩
         have A9:Aside0 (((((j1.setCell ⟨b9,0,none⟩ (.int .i64 e6)).setCell ⟨b9,1,none⟩ (.int .i64 e7)).setCell ⟨b9,2,none⟩ (.int .i64 f2)).setCell ⟨b9,3,none⟩ (.int .i64 f4)).heap[Z]?=some (.cells #[.int .i64 c0,.int .i64 d0,.int .i64 d2,.int .i64 d4] 23 (0,0))):=⟨by (iterate 4 refine blk_far ?_ o2.1 _);exact F.1⟩
         have B0:Aside0 (((((j1.setCell ⟨b9,0,none⟩ (.int .i64 e6)).setCell ⟨b9,1,none⟩ (.int .i64 e7)).setCell ⟨b9,2,none⟩ (.int .i64 f2)).setCell ⟨b9,3,none⟩ (.int .i64 f4)).heap[h4]?=some (.cells #[.int .i64 d9,.int .i64 e5,.int .i64 f1,.int .i64 f6] 23 (0,0))):=⟨by (iterate 4 refine blk_far ?_ o3.1 _);exact b5.1⟩
         have B1:Aside0 (((((j1.setCell ⟨b9,0,none⟩ (.int .i64 e6)).setCell ⟨b9,1,none⟩ (.int .i64 e7)).setCell ⟨b9,2,none⟩ (.int .i64 f2)).setCell ⟨b9,3,none⟩ (.int .i64 f4)).heap[h7]?=some (.cells #[.int .i64 e0,.int .i64 e1,.int .i64 e2,.int .i64 e3] 23 (0,0))):=⟨by (iterate 4 refine blk_far ?_ o4.1 _);exact b8.1⟩
         have B2:Aside0 (((((j1.setCell ⟨b9,0,none⟩ (.int .i64 e6)).setCell ⟨b9,1,none⟩ (.int .i64 e7)).setCell ⟨b9,2,none⟩ (.int .i64 f2)).setCell ⟨b9,3,none⟩ (.int .i64 f4)).heap[b9]?=some (.cells #[.int .i64 e6,.int .i64 e7,.int .i64 f2,.int .i64 f4] 23 (0,0))):=⟨by refine blk_put (cs:=#[.int .i64 e6,.int .i64 e7,.int .i64 f2,.int .i64 0]) ?_ 3 _ rfl;refine blk_put (cs:=#[.int .i64 e6,.int .i64 e7,.int .i64 0,.int .i64 0]) ?_ 2 _ rfl;refine blk_put (cs:=#[.int .i64 e6,.int .i64 0,.int .i64 0,.int .i64 0]) ?_ 1 _ rfl;refine blk_put (cs:=#[.int .i64 0,.int .i64 0,.int .i64 0,.int .i64 0]) ?_ 0 _ rfl;exact d6.1⟩
         have B3:Aside0 (Below w.heap.size w ((((j1.setCell ⟨b9,0,none⟩ (.int .i64 e6)).setCell ⟨b9,1,none⟩ (.int .i64 e7)).setCell ⟨b9,2,none⟩ (.int .i64 f2)).setCell ⟨b9,3,none⟩ (.int .i64 f4))):=⟨by repeat (first|(with_reducible first|exact X.1|apply below_alloc|apply pw_below_drewN|apply below_drew1|refine below_set ?_ f8.1|refine below_set ?_ f9.1|refine below_set ?_ a2.1|refine below_set ?_ a3.1|refine below_set ?_ l7.1|refine below_set ?_ l8.1|refine below_set ?_ t8.1)|exact X.1)⟩
         (try clear B);(try clear C);(try clear J);(try clear F);(try clear b5);(try clear b8);(try clear d6);(try clear X);generalize ((((j1.setCell ⟨b9,0,none⟩ (.int .i64 e6)).setCell ⟨b9,1,none⟩ (.int .i64 e7)).setCell ⟨b9,2,none⟩ (.int .i64 f2)).setCell ⟨b9,3,none⟩ (.int .i64 f4))=F9 at A2 A5 A7 A9 B0 B1 B2 B3 ⊢;have B:=A2;have C:=A5;have J:=A7;have F:=A9;have b5:=B0;have b8:=B1;have d6:=B2;have X:=B3;clear A2 A5 A7 A9 B0 B1 B2 B3;replace B:=bdr B;replace C:=bdr C;replace J:=bdr J;replace F:=bdr F;replace b5:=bdr b5;replace b8:=bdr b8;replace d6:=bdr d6;replace X:=hdr X;refine start_ (n:=59) (S:=fun w'=>w'.cell? ⟨h4,0,none⟩=some (.int .i64 d9)∧w'.cell? ⟨h4,1,none⟩=some (.int .i64 e5)∧w'.cell? ⟨h4,2,none⟩=some (.int .i64 f1)∧w'.cell? ⟨h4,3,none⟩=some (.int .i64 f6)∧w'.cell? ⟨Y,0,none⟩=some (.int .i64 c2)∧w'.cell? ⟨Y,1,none⟩=some (.int .i64 d1)∧w'.cell? ⟨Y,2,none⟩=some (.int .i64 d3)∧w'.cell? ⟨Y,3,none⟩=some (.int .i64 d5)∧w'.cell? ⟨b9,0,none⟩=some (.int .i64 e6)∧w'.cell? ⟨b9,1,none⟩=some (.int .i64 e7)∧w'.cell? ⟨b9,2,none⟩=some (.int .i64 f2)∧w'.cell? ⟨b9,3,none⟩=some (.int .i64 f4)∧w'.cell? ⟨h7,0,none⟩=some (.int .i64 e0)∧w'.cell? ⟨h7,1,none⟩=some (.int .i64 e1)∧w'.cell? ⟨h7,2,none⟩=some (.int .i64 e2)∧w'.cell? ⟨h7,3,none⟩=some (.int .i64 e3)∧w'.cell? ⟨Z,0,none⟩=some (.int .i64 c0)∧w'.cell? ⟨Z,1,none⟩=some (.int .i64 d0)∧w'.cell? ⟨Z,2,none⟩=some (.int .i64 d2)∧w'.cell? ⟨Z,3,none⟩=some (.int .i64 d4)) (ds:=[]) #[n_,n_,n_,n_,n_,n_,n_,n_,n_,n_,n_,n_,n_,n_,n_,n_,n_,n_,n_,n_,n_,n_,n_,n_,n_,n_,n_,n_,n_,n_,n_,n_,n_,n_,n_,n_,n_,n_,n_,n_,n_,n_,n_,n_,n_,n_,n_,n_,n_,n_,n_,n_,n_,n_,n_,n_,n_,n_,n_] (by kernel_rfl) rfl rfl ⟨q0_ b5,q1_ b5,q2_ b5,q3_ b5,q0_ J,q1_ J,q2_ J,q3_ J,q0_ d6,q1_ d6,q2_ d6,q3_ d6,q0_ b8,q1_ b8,q2_ b8,q3_ b8,q0_ F,q1_ F,q2_ F,q3_ F⟩ (fun Q=>?_);refine with_tabW bellpulllaw04_NormDivision.tab9 bellpulllaw04_NormDivision.bits9 (fun b6 e9=>?_);generalize F9.drew=Ej at B C J F b5 b8 d6 X Q ⊢;refine pure_ (i:=0) (N:=some 55) (v:=?_) (a':=?_) #[y_,n_,n_,n_,n_,n_,n_,n_,n_,n_,n_,n_,n_,n_,n_,n_,n_,n_,n_,n_,n_,n_,n_,n_,n_,n_,n_,n_,n_,n_,n_,n_,n_,n_,n_,n_,n_,n_,n_,n_,n_,n_,n_,n_,n_,n_,n_,n_,n_,n_,n_,n_,n_,n_,n_,n_,n_,n_,n_] rfl rfl (any_of b6.1 (by kernel_rfl)) (fun _ _ _ h=>h) (Or.inl ⟨by rfl,?_⟩) ?_ ?_;rotate_left
         ·
          intro w';go_simp;with_reducible rfl
         rotate_left
         ·
          simp only [Act.put,s0_,s1_,s2_,i64_w,i32_w];rfl
         refine pure_ (i:=3) (N:=some 58) (v:=?_) (a':=?_) #[y_,n_,n_,y_,n_,n_,n_,n_,n_,n_,n_,n_,n_,n_,n_,n_,n_,n_,n_,n_,n_,n_,n_,n_,n_,n_,n_,n_,n_,n_,n_,n_,n_,n_,n_,n_,n_,n_,n_,n_,n_,n_,n_,n_,n_,n_,n_,n_,n_,n_,n_,n_,n_,n_,n_,n_,n_,n_,n_] rfl rfl (any_of b6.1 (by kernel_rfl)) (fun _ _ _ h=>h) (Or.inl ⟨by rfl,?_⟩) ?_ ?_;rotate_left
         ·
          intro w';go_simp;with_reducible rfl
         rotate_left
         ·
          simp only [Act.put,s0_,s1_,s2_,i64_w,i32_w];rfl
         refine take_ (i:=1) (N:=some 56) (v:=?_) (a':=?_) #[y_,y_,n_,y_,n_,n_,n_,n_,n_,n_,n_,n_,n_,n_,n_,n_,n_,n_,n_,n_,n_,n_,n_,n_,n_,n_,n_,n_,n_,n_,n_,n_,n_,n_,n_,n_,n_,n_,n_,n_,n_,n_,n_,n_,n_,n_,n_,n_,n_,n_,n_,n_,n_,n_,n_,n_,n_,n_,n_] rfl rfl (take_ofW b6.1 e9.1 (by kernel_rfl)) (fun _ _ _ h=>h) (Or.inl ⟨by rfl,?_⟩) Q ?_ ?_;rotate_left
         ·
          rintro w' ⟨s0,s1,s2,s3,s4,s5,s6,s7,s8,s9,g4,g5,g6,g7,g8,g9,h0,h1,h2,h3⟩;go_simp;with_reducible rfl
         rotate_left
         ·
          simp only [Act.put,s0_,s1_,s2_,i64_w,i32_w];rfl
         refine pure_ (i:=2) (N:=some 57) (v:=?_) (a':=?_) #[y_,y_,y_,y_,n_,n_,n_,n_,n_,n_,n_,n_,n_,n_,n_,n_,n_,n_,n_,n_,n_,n_,n_,n_,n_,n_,n_,n_,n_,n_,n_,n_,n_,n_,n_,n_,n_,n_,n_,n_,n_,n_,n_,n_,n_,n_,n_,n_,n_,n_,n_,n_,n_,n_,n_,n_,n_,n_,n_] rfl rfl (any_of b6.1 (by kernel_rfl)) (fun _ _ _ h=>h) (Or.inl ⟨by rfl,?_⟩) ?_ ?_;rotate_left
         ·
          intro w';go_simp;with_reducible rfl
         rotate_left
         ·
          simp only [Act.put,s0_,s1_,s2_,i64_w,i32_w];rfl
         refine take_ (i:=4) (N:=some 59) (v:=?_) (a':=?_) #[y_,y_,y_,y_,y_,n_,n_,n_,n_,n_,n_,n_,n_,n_,n_,n_,n_,n_,n_,n_,n_,n_,n_,n_,n_,n_,n_,n_,n_,n_,n_,n_,n_,n_,n_,n_,n_,n_,n_,n_,n_,n_,n_,n_,n_,n_,n_,n_,n_,n_,n_,n_,n_,n_,n_,n_,n_,n_,n_] rfl rfl (take_ofW b6.1 e9.1 (by kernel_rfl)) (fun _ _ _ h=>h) (Or.inl ⟨by rfl,?_⟩) Q ?_ ?_;rotate_left
         ·
          rintro w' ⟨s0,s1,s2,s3,s4,s5,s6,s7,s8,s9,g4,g5,g6,g7,g8,g9,h0,h1,h2,h3⟩;go_simp;with_reducible rfl
         rotate_left
         ·
          simp only [Act.put,s0_,s1_,s2_,i64_w,i32_w];rfl
         refine pure_ (i:=5) (N:=some 60) (v:=?_) (a':=?_) #[y_,y_,y_,y_,y_,y_,n_,n_,n_,n_,n_,n_,n_,n_,n_,n_,n_,n_,n_,n_,n_,n_,n_,n_,n_,n_,n_,n_,n_,n_,n_,n_,n_,n_,n_,n_,n_,n_,n_,n_,n_,n_,n_,n_,n_,n_,n_,n_,n_,n_,n_,n_,n_,n_,n_,n_,n_,n_,n_] rfl rfl (any_of b6.1 (by kernel_rfl)) (fun _ _ _ h=>h) (Or.inl ⟨by rfl,?_⟩) ?_ ?_;rotate_left
         ·
          intro w';go_simp;with_reducible rfl
         rotate_left
         ·
          simp only [Act.put,s0_,s1_,s2_,i64_w,i32_w];rfl
         refine pure_ (i:=6) (N:=some 61) (v:=?_) (a':=?_) #[y_,y_,y_,y_,y_,y_,y_,n_,n_,n_,n_,n_,n_,n_,n_,n_,n_,n_,n_,n_,n_,n_,n_,n_,n_,n_,n_,n_,n_,n_,n_,n_,n_,n_,n_,n_,n_,n_,n_,n_,n_,n_,n_,n_,n_,n_,n_,n_,n_,n_,n_,n_,n_,n_,n_,n_,n_,n_,n_] rfl rfl (any_of b6.1 (by kernel_rfl)) (fun _ _ _ h=>h) (Or.inl ⟨by rfl,?_⟩) ?_ ?_;rotate_left
         ·
          intro w';go_simp;with_reducible rfl
         rotate_left
         ·
          simp only [Act.put,s0_,s1_,s2_,i64_w,i32_w];rfl
         refine pure_ (i:=7) (N:=some 62) (v:=?_) (a':=?_) #[y_,y_,y_,y_,y_,y_,y_,y_,n_,n_,n_,n_,n_,n_,n_,n_,n_,n_,n_,n_,n_,n_,n_,n_,n_,n_,n_,n_,n_,n_,n_,n_,n_,n_,n_,n_,n_,n_,n_,n_,n_,n_,n_,n_,n_,n_,n_,n_,n_,n_,n_,n_,n_,n_,n_,n_,n_,n_,n_] rfl rfl (any_of b6.1 (by kernel_rfl)) (fun _ _ _ h=>h) (Or.inl ⟨by rfl,?_⟩) ?_ ?_;rotate_left
         ·
          intro w';go_simp;with_reducible rfl
         rotate_left
         ·
          simp only [Act.put,s0_,s1_,s2_,i64_w,i32_w];rfl
         refine pure_ (i:=8) (N:=some 63) (v:=?_) (a':=?_) #[y_,y_,y_,y_,y_,y_,y_,y_,y_,n_,n_,n_,n_,n_,n_,n_,n_,n_,n_,n_,n_,n_,n_,n_,n_,n_,n_,n_,n_,n_,n_,n_,n_,n_,n_,n_,n_,n_,n_,n_,n_,n_,n_,n_,n_,n_,n_,n_,n_,n_,n_,n_,n_,n_,n_,n_,n_,n_,n_] rfl rfl (any_of b6.1 (by kernel_rfl)) (fun _ _ _ h=>h) (Or.inl ⟨by rfl,?_⟩) ?_ ?_;rotate_left
         ·
          intro w';go_simp;with_reducible rfl
         rotate_left
         ·
          simp only [Act.put,s0_,s1_,s2_,i64_w,i32_w];rfl
         refine pure_ (i:=11) (N:=some 66) (v:=?_) (a':=?_) #[y_,y_,y_,y_,y_,y_,y_,y_,y_,n_,n_,y_,n_,n_,n_,n_,n_,n_,n_,n_,n_,n_,n_,n_,n_,n_,n_,n_,n_,n_,n_,n_,n_,n_,n_,n_,n_,n_,n_,n_,n_,n_,n_,n_,n_,n_,n_,n_,n_,n_,n_,n_,n_,n_,n_,n_,n_,n_,n_] rfl rfl (any_of b6.1 (by kernel_rfl)) (fun _ _ _ h=>h) (Or.inl ⟨by rfl,?_⟩) ?_ ?_;rotate_left
         ·
          intro w';go_simp;with_reducible rfl
         rotate_left
         ·
          simp only [Act.put,s0_,s1_,s2_,i64_w,i32_w];rfl
         refine take_ (i:=9) (N:=some 64) (v:=?_) (a':=?_) #[y_,y_,y_,y_,y_,y_,y_,y_,y_,y_,n_,y_,n_,n_,n_,n_,n_,n_,n_,n_,n_,n_,n_,n_,n_,n_,n_,n_,n_,n_,n_,n_,n_,n_,n_,n_,n_,n_,n_,n_,n_,n_,n_,n_,n_,n_,n_,n_,n_,n_,n_,n_,n_,n_,n_,n_,n_,n_,n_] rfl rfl (take_ofW b6.1 e9.1 (by kernel_rfl)) (fun _ _ _ h=>h) (Or.inl ⟨by rfl,?_⟩) Q ?_ ?_;rotate_left
         ·
          rintro w' ⟨s0,s1,s2,s3,s4,s5,s6,s7,s8,s9,g4,g5,g6,g7,g8,g9,h0,h1,h2,h3⟩;go_simp;with_reducible rfl
         rotate_left
         ·
          simp only [Act.put,s0_,s1_,s2_,i64_w,i32_w];rfl
         refine pure_ (i:=10) (N:=some 65) (v:=?_) (a':=?_) #[y_,y_,y_,y_,y_,y_,y_,y_,y_,y_,y_,y_,n_,n_,n_,n_,n_,n_,n_,n_,n_,n_,n_,n_,n_,n_,n_,n_,n_,n_,n_,n_,n_,n_,n_,n_,n_,n_,n_,n_,n_,n_,n_,n_,n_,n_,n_,n_,n_,n_,n_,n_,n_,n_,n_,n_,n_,n_,n_] rfl rfl (any_of b6.1 (by kernel_rfl)) (fun _ _ _ h=>h) (Or.inl ⟨by rfl,?_⟩) ?_ ?_;rotate_left
         ·
          intro w';go_simp;with_reducible rfl
         rotate_left
         ·
          simp only [Act.put,s0_,s1_,s2_,i64_w,i32_w];rfl
         refine take_ (i:=12) (N:=some 67) (v:=?_) (a':=?_) #[y_,y_,y_,y_,y_,y_,y_,y_,y_,y_,y_,y_,y_,n_,n_,n_,n_,n_,n_,n_,n_,n_,n_,n_,n_,n_,n_,n_,n_,n_,n_,n_,n_,n_,n_,n_,n_,n_,n_,n_,n_,n_,n_,n_,n_,n_,n_,n_,n_,n_,n_,n_,n_,n_,n_,n_,n_,n_,n_] rfl rfl (take_ofW b6.1 e9.1 (by kernel_rfl)) (fun _ _ _ h=>h) (Or.inl ⟨by rfl,?_⟩) Q ?_ ?_;rotate_left
         ·
          rintro w' ⟨s0,s1,s2,s3,s4,s5,s6,s7,s8,s9,g4,g5,g6,g7,g8,g9,h0,h1,h2,h3⟩;go_simp;with_reducible rfl
         rotate_left
         ·
          simp only [Act.put,s0_,s1_,s2_,i64_w,i32_w];rfl
         refine pure_ (i:=13) (N:=some 68) (v:=?_) (a':=?_) #[y_,y_,y_,y_,y_,y_,y_,y_,y_,y_,y_,y_,y_,y_,n_,n_,n_,n_,n_,n_,n_,n_,n_,n_,n_,n_,n_,n_,n_,n_,n_,n_,n_,n_,n_,n_,n_,n_,n_,n_,n_,n_,n_,n_,n_,n_,n_,n_,n_,n_,n_,n_,n_,n_,n_,n_,n_,n_,n_] rfl rfl (any_of b6.1 (by kernel_rfl)) (fun _ _ _ h=>h) (Or.inl ⟨by rfl,?_⟩) ?_ ?_;rotate_left
         ·
          intro w';go_simp;with_reducible rfl
         rotate_left
         ·
          simp only [Act.put,s0_,s1_,s2_,i64_w,i32_w];rfl
         refine pure_ (i:=14) (N:=some 69) (v:=?_) (a':=?_) #[y_,y_,y_,y_,y_,y_,y_,y_,y_,y_,y_,y_,y_,y_,y_,n_,n_,n_,n_,n_,n_,n_,n_,n_,n_,n_,n_,n_,n_,n_,n_,n_,n_,n_,n_,n_,n_,n_,n_,n_,n_,n_,n_,n_,n_,n_,n_,n_,n_,n_,n_,n_,n_,n_,n_,n_,n_,n_,n_] rfl rfl (any_of b6.1 (by kernel_rfl)) (fun _ _ _ h=>h) (Or.inl ⟨by rfl,?_⟩) ?_ ?_;rotate_left
         ·
          intro w';go_simp;with_reducible rfl
         rotate_left
         ·
          simp only [Act.put,s0_,s1_,s2_,i64_w,i32_w];rfl
         refine pure_ (i:=15) (N:=some 70) (v:=?_) (a':=?_) #[y_,y_,y_,y_,y_,y_,y_,y_,y_,y_,y_,y_,y_,y_,y_,y_,n_,n_,n_,n_,n_,n_,n_,n_,n_,n_,n_,n_,n_,n_,n_,n_,n_,n_,n_,n_,n_,n_,n_,n_,n_,n_,n_,n_,n_,n_,n_,n_,n_,n_,n_,n_,n_,n_,n_,n_,n_,n_,n_] rfl rfl (any_of b6.1 (by kernel_rfl)) (fun _ _ _ h=>h) (Or.inl ⟨by rfl,?_⟩) ?_ ?_;rotate_left
         ·
          intro w';go_simp;with_reducible rfl
         rotate_left
         ·
          simp only [Act.put,s0_,s1_,s2_,i64_w,i32_w];rfl
         refine pure_ (i:=16) (N:=some 71) (v:=?_) (a':=?_) #[y_,y_,y_,y_,y_,y_,y_,y_,y_,y_,y_,y_,y_,y_,y_,y_,y_,n_,n_,n_,n_,n_,n_,n_,n_,n_,n_,n_,n_,n_,n_,n_,n_,n_,n_,n_,n_,n_,n_,n_,n_,n_,n_,n_,n_,n_,n_,n_,n_,n_,n_,n_,n_,n_,n_,n_,n_,n_,n_] rfl rfl (any_of b6.1 (by kernel_rfl)) (fun _ _ _ h=>h) (Or.inl ⟨by rfl,?_⟩) ?_ ?_;rotate_left
         ·
          intro w';go_simp;with_reducible rfl
         rotate_left
         ·
          simp only [Act.put,s0_,s1_,s2_,i64_w,i32_w];rfl
         refine pure_ (i:=17) (N:=some 72) (v:=?_) (a':=?_) #[y_,y_,y_,y_,y_,y_,y_,y_,y_,y_,y_,y_,y_,y_,y_,y_,y_,y_,n_,n_,n_,n_,n_,n_,n_,n_,n_,n_,n_,n_,n_,n_,n_,n_,n_,n_,n_,n_,n_,n_,n_,n_,n_,n_,n_,n_,n_,n_,n_,n_,n_,n_,n_,n_,n_,n_,n_,n_,n_] rfl rfl (any_of b6.1 (by kernel_rfl)) (fun _ _ _ h=>h) (Or.inl ⟨by rfl,?_⟩) ?_ ?_;rotate_left
         ·
          intro w';go_simp;with_reducible rfl
         rotate_left
         ·
          simp only [Act.put,s0_,s1_,s2_,i64_w,i32_w];rfl
         refine pure_ (i:=20) (N:=some 75) (v:=?_) (a':=?_) #[y_,y_,y_,y_,y_,y_,y_,y_,y_,y_,y_,y_,y_,y_,y_,y_,y_,y_,n_,n_,y_,n_,n_,n_,n_,n_,n_,n_,n_,n_,n_,n_,n_,n_,n_,n_,n_,n_,n_,n_,n_,n_,n_,n_,n_,n_,n_,n_,n_,n_,n_,n_,n_,n_,n_,n_,n_,n_,n_] rfl rfl (any_of b6.1 (by kernel_rfl)) (fun _ _ _ h=>h) (Or.inl ⟨by rfl,?_⟩) ?_ ?_;rotate_left
         ·
          intro w';go_simp;with_reducible rfl
         rotate_left
         ·
          simp only [Act.put,s0_,s1_,s2_,i64_w,i32_w];rfl
         refine take_ (i:=18) (N:=some 73) (v:=?_) (a':=?_) #[y_,y_,y_,y_,y_,y_,y_,y_,y_,y_,y_,y_,y_,y_,y_,y_,y_,y_,y_,n_,y_,n_,n_,n_,n_,n_,n_,n_,n_,n_,n_,n_,n_,n_,n_,n_,n_,n_,n_,n_,n_,n_,n_,n_,n_,n_,n_,n_,n_,n_,n_,n_,n_,n_,n_,n_,n_,n_,n_] rfl rfl (take_ofW b6.1 e9.1 (by kernel_rfl)) (fun _ _ _ h=>h) (Or.inl ⟨by rfl,?_⟩) Q ?_ ?_;rotate_left
         ·
          rintro w' ⟨s0,s1,s2,s3,s4,s5,s6,s7,s8,s9,g4,g5,g6,g7,g8,g9,h0,h1,h2,h3⟩;go_simp;with_reducible rfl
         rotate_left
         ·
          simp only [Act.put,s0_,s1_,s2_,i64_w,i32_w];rfl
         refine pure_ (i:=19) (N:=some 74) (v:=?_) (a':=?_) #[y_,y_,y_,y_,y_,y_,y_,y_,y_,y_,y_,y_,y_,y_,y_,y_,y_,y_,y_,y_,y_,n_,n_,n_,n_,n_,n_,n_,n_,n_,n_,n_,n_,n_,n_,n_,n_,n_,n_,n_,n_,n_,n_,n_,n_,n_,n_,n_,n_,n_,n_,n_,n_,n_,n_,n_,n_,n_,n_] rfl rfl (any_of b6.1 (by kernel_rfl)) (fun _ _ _ h=>h) (Or.inl ⟨by rfl,?_⟩) ?_ ?_;rotate_left
         ·
          intro w';go_simp;with_reducible rfl
         rotate_left
         ·
          simp only [Act.put,s0_,s1_,s2_,i64_w,i32_w];rfl
         refine take_ (i:=21) (N:=some 76) (v:=?_) (a':=?_) #[y_,y_,y_,y_,y_,y_,y_,y_,y_,y_,y_,y_,y_,y_,y_,y_,y_,y_,y_,y_,y_,y_,n_,n_,n_,n_,n_,n_,n_,n_,n_,n_,n_,n_,n_,n_,n_,n_,n_,n_,n_,n_,n_,n_,n_,n_,n_,n_,n_,n_,n_,n_,n_,n_,n_,n_,n_,n_,n_] rfl rfl (take_ofW b6.1 e9.1 (by kernel_rfl)) (fun _ _ _ h=>h) (Or.inl ⟨by rfl,?_⟩) Q ?_ ?_;rotate_left
         ·
          rintro w' ⟨s0,s1,s2,s3,s4,s5,s6,s7,s8,s9,g4,g5,g6,g7,g8,g9,h0,h1,h2,h3⟩;go_simp;with_reducible rfl
         rotate_left
         ·
          simp only [Act.put,s0_,s1_,s2_,i64_w,i32_w];rfl
         refine pure_ (i:=22) (N:=some 77) (v:=?_) (a':=?_) #[y_,y_,y_,y_,y_,y_,y_,y_,y_,y_,y_,y_,y_,y_,y_,y_,y_,y_,y_,y_,y_,y_,y_,n_,n_,n_,n_,n_,n_,n_,n_,n_,n_,n_,n_,n_,n_,n_,n_,n_,n_,n_,n_,n_,n_,n_,n_,n_,n_,n_,n_,n_,n_,n_,n_,n_,n_,n_,n_] rfl rfl (any_of b6.1 (by kernel_rfl)) (fun _ _ _ h=>h) (Or.inl ⟨by rfl,?_⟩) ?_ ?_;rotate_left
         ·
          intro w';go_simp;with_reducible rfl
         rotate_left
         ·
          simp only [Act.put,s0_,s1_,s2_,i64_w,i32_w];rfl
         refine pure_ (i:=23) (N:=some 78) (v:=?_) (a':=?_) #[y_,y_,y_,y_,y_,y_,y_,y_,y_,y_,y_,y_,y_,y_,y_,y_,y_,y_,y_,y_,y_,y_,y_,y_,n_,n_,n_,n_,n_,n_,n_,n_,n_,n_,n_,n_,n_,n_,n_,n_,n_,n_,n_,n_,n_,n_,n_,n_,n_,n_,n_,n_,n_,n_,n_,n_,n_,n_,n_] rfl rfl (any_of b6.1 (by kernel_rfl)) (fun _ _ _ h=>h) (Or.inl ⟨by rfl,?_⟩) ?_ ?_;rotate_left
         ·
          intro w';go_simp;with_reducible rfl
         rotate_left
         ·
          simp only [Act.put,s0_,s1_,s2_,i64_w,i32_w];rfl
         refine pure_ (i:=24) (N:=some 79) (v:=?_) (a':=?_) #[y_,y_,y_,y_,y_,y_,y_,y_,y_,y_,y_,y_,y_,y_,y_,y_,y_,y_,y_,y_,y_,y_,y_,y_,y_,n_,n_,n_,n_,n_,n_,n_,n_,n_,n_,n_,n_,n_,n_,n_,n_,n_,n_,n_,n_,n_,n_,n_,n_,n_,n_,n_,n_,n_,n_,n_,n_,n_,n_] rfl rfl (any_of b6.1 (by kernel_rfl)) (fun _ _ _ h=>h) (Or.inl ⟨by rfl,?_⟩) ?_ ?_;rotate_left
         ·
          intro w';go_simp;with_reducible rfl
         rotate_left
         ·
          simp only [Act.put,s0_,s1_,s2_,i64_w,i32_w];rfl
         refine pure_ (i:=25) (N:=some 80) (v:=?_) (a':=?_) #[y_,y_,y_,y_,y_,y_,y_,y_,y_,y_,y_,y_,y_,y_,y_,y_,y_,y_,y_,y_,y_,y_,y_,y_,y_,y_,n_,n_,n_,n_,n_,n_,n_,n_,n_,n_,n_,n_,n_,n_,n_,n_,n_,n_,n_,n_,n_,n_,n_,n_,n_,n_,n_,n_,n_,n_,n_,n_,n_] rfl rfl (any_of b6.1 (by kernel_rfl)) (fun _ _ _ h=>h) (Or.inl ⟨by rfl,?_⟩) ?_ ?_;rotate_left
         ·
          intro w';go_simp;with_reducible rfl
         rotate_left
         ·
          simp only [Act.put,s0_,s1_,s2_,i64_w,i32_w];rfl
         refine pure_ (i:=27) (N:=some 82) (v:=?_) (a':=?_) #[y_,y_,y_,y_,y_,y_,y_,y_,y_,y_,y_,y_,y_,y_,y_,y_,y_,y_,y_,y_,y_,y_,y_,y_,y_,y_,n_,y_,n_,n_,n_,n_,n_,n_,n_,n_,n_,n_,n_,n_,n_,n_,n_,n_,n_,n_,n_,n_,n_,n_,n_,n_,n_,n_,n_,n_,n_,n_,n_] rfl rfl (any_of b6.1 (by kernel_rfl)) (fun _ _ _ h=>h) (Or.inl ⟨by rfl,?_⟩) ?_ ?_;rotate_left
         ·
          intro w';go_simp;with_reducible rfl
         rotate_left
         ·
          simp only [Act.put,s0_,s1_,s2_,i64_w,i32_w];rfl
         refine pure_ (i:=29) (N:=some 84) (v:=?_) (a':=?_) #[y_,y_,y_,y_,y_,y_,y_,y_,y_,y_,y_,y_,y_,y_,y_,y_,y_,y_,y_,y_,y_,y_,y_,y_,y_,y_,n_,y_,n_,y_,n_,n_,n_,n_,n_,n_,n_,n_,n_,n_,n_,n_,n_,n_,n_,n_,n_,n_,n_,n_,n_,n_,n_,n_,n_,n_,n_,n_,n_] rfl rfl (any_of b6.1 (by kernel_rfl)) (fun _ _ _ h=>h) (Or.inl ⟨by rfl,?_⟩) ?_ ?_;rotate_left
         ·
          intro w';go_simp;with_reducible rfl
         rotate_left
         ·
          simp only [Act.put,s0_,s1_,s2_,i64_w,i32_w];rfl
         refine pure_ (i:=32) (N:=some 87) (v:=?_) (a':=?_) #[y_,y_,y_,y_,y_,y_,y_,y_,y_,y_,y_,y_,y_,y_,y_,y_,y_,y_,y_,y_,y_,y_,y_,y_,y_,y_,n_,y_,n_,y_,n_,n_,y_,n_,n_,n_,n_,n_,n_,n_,n_,n_,n_,n_,n_,n_,n_,n_,n_,n_,n_,n_,n_,n_,n_,n_,n_,n_,n_] rfl rfl (any_of b6.1 (by kernel_rfl)) (fun _ _ _ h=>h) (Or.inl ⟨by rfl,?_⟩) ?_ ?_;rotate_left
         ·
          intro w';go_simp;with_reducible rfl
         rotate_left
         ·
          simp only [Act.put,s0_,s1_,s2_,i64_w,i32_w];rfl
         refine pure_ (i:=34) (N:=some 89) (v:=?_) (a':=?_) #[y_,y_,y_,y_,y_,y_,y_,y_,y_,y_,y_,y_,y_,y_,y_,y_,y_,y_,y_,y_,y_,y_,y_,y_,y_,y_,n_,y_,n_,y_,n_,n_,y_,n_,y_,n_,n_,n_,n_,n_,n_,n_,n_,n_,n_,n_,n_,n_,n_,n_,n_,n_,n_,n_,n_,n_,n_,n_,n_] rfl rfl (any_of b6.1 (by kernel_rfl)) (fun _ _ _ h=>h) (Or.inl ⟨by rfl,?_⟩) ?_ ?_;rotate_left
         ·
          intro w';go_simp;with_reducible rfl
         rotate_left
         ·
          simp only [Act.put,s0_,s1_,s2_,i64_w,i32_w];rfl
         refine pure_ (i:=37) (N:=some 92) (v:=?_) (a':=?_) #[y_,y_,y_,y_,y_,y_,y_,y_,y_,y_,y_,y_,y_,y_,y_,y_,y_,y_,y_,y_,y_,y_,y_,y_,y_,y_,n_,y_,n_,y_,n_,n_,y_,n_,y_,n_,n_,y_,n_,n_,n_,n_,n_,n_,n_,n_,n_,n_,n_,n_,n_,n_,n_,n_,n_,n_,n_,n_,n_] rfl rfl (any_of b6.1 (by kernel_rfl)) (fun _ _ _ h=>h) (Or.inl ⟨by rfl,?_⟩) ?_ ?_;rotate_left
         ·
          intro w';go_simp;with_reducible rfl
         rotate_left
         ·
          simp only [Act.put,s0_,s1_,s2_,i64_w,i32_w];rfl
         refine pure_ (i:=39) (N:=some 94) (v:=?_) (a':=?_) #[y_,y_,y_,y_,y_,y_,y_,y_,y_,y_,y_,y_,y_,y_,y_,y_,y_,y_,y_,y_,y_,y_,y_,y_,y_,y_,n_,y_,n_,y_,n_,n_,y_,n_,y_,n_,n_,y_,n_,y_,n_,n_,n_,n_,n_,n_,n_,n_,n_,n_,n_,n_,n_,n_,n_,n_,n_,n_,n_] rfl rfl (any_of b6.1 (by kernel_rfl)) (fun _ _ _ h=>h) (Or.inl ⟨by rfl,?_⟩) ?_ ?_;rotate_left
         ·
          intro w';go_simp;with_reducible rfl
         rotate_left
         ·
          simp only [Act.put,s0_,s1_,s2_,i64_w,i32_w];rfl
         refine pure_ (i:=42) (N:=some 97) (v:=?_) (a':=?_) #[y_,y_,y_,y_,y_,y_,y_,y_,y_,y_,y_,y_,y_,y_,y_,y_,y_,y_,y_,y_,y_,y_,y_,y_,y_,y_,n_,y_,n_,y_,n_,n_,y_,n_,y_,n_,n_,y_,n_,y_,n_,n_,y_,n_,n_,n_,n_,n_,n_,n_,n_,n_,n_,n_,n_,n_,n_,n_,n_] rfl rfl (any_of b6.1 (by kernel_rfl)) (fun _ _ _ h=>h) (Or.inl ⟨by rfl,?_⟩) ?_ ?_;rotate_left
         ·
          intro w';go_simp;with_reducible rfl
         rotate_left
         ·
          simp only [Act.put,s0_,s1_,s2_,i64_w,i32_w];rfl
         refine pure_ (i:=44) (N:=some 99) (v:=?_) (a':=?_) #[y_,y_,y_,y_,y_,y_,y_,y_,y_,y_,y_,y_,y_,y_,y_,y_,y_,y_,y_,y_,y_,y_,y_,y_,y_,y_,n_,y_,n_,y_,n_,n_,y_,n_,y_,n_,n_,y_,n_,y_,n_,n_,y_,n_,y_,n_,n_,n_,n_,n_,n_,n_,n_,n_,n_,n_,n_,n_,n_] rfl rfl (any_of b6.1 (by kernel_rfl)) (fun _ _ _ h=>h) (Or.inl ⟨by rfl,?_⟩) ?_ ?_;rotate_left
         ·
          intro w';go_simp;with_reducible rfl
         rotate_left
         ·
          simp only [Act.put,s0_,s1_,s2_,i64_w,i32_w];rfl
         refine take_ (i:=26) (N:=some 81) (v:=?_) (a':=?_) #[y_,y_,y_,y_,y_,y_,y_,y_,y_,y_,y_,y_,y_,y_,y_,y_,y_,y_,y_,y_,y_,y_,y_,y_,y_,y_,y_,y_,n_,y_,n_,n_,y_,n_,y_,n_,n_,y_,n_,y_,n_,n_,y_,n_,y_,n_,n_,n_,n_,n_,n_,n_,n_,n_,n_,n_,n_,n_,n_] rfl rfl (take_ofW b6.1 e9.1 (by kernel_rfl)) (fun _ _ _ h=>h) (Or.inl ⟨by rfl,?_⟩) Q ?_ ?_;rotate_left
         ·
          rintro w' ⟨s0,s1,s2,s3,s4,s5,s6,s7,s8,s9,g4,g5,g6,g7,g8,g9,h0,h1,h2,h3⟩;go_simp;with_reducible rfl
         rotate_left
         ·
          simp only [Act.put,s0_,s1_,s2_,i64_w,i32_w];rfl
         refine take_ (i:=28) (N:=some 83) (v:=?_) (a':=?_) #[y_,y_,y_,y_,y_,y_,y_,y_,y_,y_,y_,y_,y_,y_,y_,y_,y_,y_,y_,y_,y_,y_,y_,y_,y_,y_,y_,y_,y_,y_,n_,n_,y_,n_,y_,n_,n_,y_,n_,y_,n_,n_,y_,n_,y_,n_,n_,n_,n_,n_,n_,n_,n_,n_,n_,n_,n_,n_,n_] rfl rfl (take_ofW b6.1 e9.1 (by kernel_rfl)) (fun _ _ _ h=>h) (Or.inl ⟨by rfl,?_⟩) Q ?_ ?_;rotate_left
         ·
          rintro w' ⟨s0,s1,s2,s3,s4,s5,s6,s7,s8,s9,g4,g5,g6,g7,g8,g9,h0,h1,h2,h3⟩;go_simp;with_reducible rfl
         rotate_left
         ·
          simp only [Act.put,s0_,s1_,s2_,i64_w,i32_w];rfl
         refine take_ (i:=30) (N:=some 85) (v:=?_) (a':=?_) #[y_,y_,y_,y_,y_,y_,y_,y_,y_,y_,y_,y_,y_,y_,y_,y_,y_,y_,y_,y_,y_,y_,y_,y_,y_,y_,y_,y_,y_,y_,y_,n_,y_,n_,y_,n_,n_,y_,n_,y_,n_,n_,y_,n_,y_,n_,n_,n_,n_,n_,n_,n_,n_,n_,n_,n_,n_,n_,n_] rfl rfl (take_ofW b6.1 e9.1 (by kernel_rfl)) (fun _ _ _ h=>h) (Or.inl ⟨by rfl,?_⟩) Q ?_ ?_;rotate_left
         ·
          rintro w' ⟨s0,s1,s2,s3,s4,s5,s6,s7,s8,s9,g4,g5,g6,g7,g8,g9,h0,h1,h2,h3⟩;go_simp;with_reducible rfl
         rotate_left
         ·
          simp only [Act.put,s0_,s1_,s2_,i64_w,i32_w];rfl
         refine pure_ (i:=31) (N:=some 86) (v:=?_) (a':=?_) #[y_,y_,y_,y_,y_,y_,y_,y_,y_,y_,y_,y_,y_,y_,y_,y_,y_,y_,y_,y_,y_,y_,y_,y_,y_,y_,y_,y_,y_,y_,y_,y_,y_,n_,y_,n_,n_,y_,n_,y_,n_,n_,y_,n_,y_,n_,n_,n_,n_,n_,n_,n_,n_,n_,n_,n_,n_,n_,n_] rfl rfl (any_of b6.1 (by kernel_rfl)) (fun _ _ _ h=>h) (Or.inl ⟨by rfl,?_⟩) ?_ ?_;rotate_left
         ·
          intro w';go_simp;with_reducible rfl
         rotate_left
         ·
          simp only [Act.put,s0_,s1_,s2_,i64_w,i32_w];rfl
         refine take_ (i:=33) (N:=some 88) (v:=?_) (a':=?_) #[y_,y_,y_,y_,y_,y_,y_,y_,y_,y_,y_,y_,y_,y_,y_,y_,y_,y_,y_,y_,y_,y_,y_,y_,y_,y_,y_,y_,y_,y_,y_,y_,y_,y_,y_,n_,n_,y_,n_,y_,n_,n_,y_,n_,y_,n_,n_,n_,n_,n_,n_,n_,n_,n_,n_,n_,n_,n_,n_] rfl rfl (take_ofW b6.1 e9.1 (by kernel_rfl)) (fun _ _ _ h=>h) (Or.inl ⟨by rfl,?_⟩) Q ?_ ?_;rotate_left
         ·
          rintro w' ⟨s0,s1,s2,s3,s4,s5,s6,s7,s8,s9,g4,g5,g6,g7,g8,g9,h0,h1,h2,h3⟩;go_simp;with_reducible rfl
         rotate_left
         ·
          simp only [Act.put,s0_,s1_,s2_,i64_w,i32_w];rfl
         refine take_ (i:=35) (N:=some 90) (v:=?_) (a':=?_) #[y_,y_,y_,y_,y_,y_,y_,y_,y_,y_,y_,y_,y_,y_,y_,y_,y_,y_,y_,y_,y_,y_,y_,y_,y_,y_,y_,y_,y_,y_,y_,y_,y_,y_,y_,y_,n_,y_,n_,y_,n_,n_,y_,n_,y_,n_,n_,n_,n_,n_,n_,n_,n_,n_,n_,n_,n_,n_,n_] rfl rfl (take_ofW b6.1 e9.1 (by kernel_rfl)) (fun _ _ _ h=>h) (Or.inl ⟨by rfl,?_⟩) Q ?_ ?_;rotate_left
         ·
          rintro w' ⟨s0,s1,s2,s3,s4,s5,s6,s7,s8,s9,g4,g5,g6,g7,g8,g9,h0,h1,h2,h3⟩;go_simp;with_reducible rfl
         rotate_left
         ·
          simp only [Act.put,s0_,s1_,s2_,i64_w,i32_w];rfl
         refine pure_ (i:=36) (N:=some 91) (v:=?_) (a':=?_) #[y_,y_,y_,y_,y_,y_,y_,y_,y_,y_,y_,y_,y_,y_,y_,y_,y_,y_,y_,y_,y_,y_,y_,y_,y_,y_,y_,y_,y_,y_,y_,y_,y_,y_,y_,y_,y_,y_,n_,y_,n_,n_,y_,n_,y_,n_,n_,n_,n_,n_,n_,n_,n_,n_,n_,n_,n_,n_,n_] rfl rfl (any_of b6.1 (by kernel_rfl)) (fun _ _ _ h=>h) (Or.inl ⟨by rfl,?_⟩) ?_ ?_;rotate_left
         ·
          intro w';go_simp;with_reducible rfl
         rotate_left
         ·
          simp only [Act.put,s0_,s1_,s2_,i64_w,i32_w];rfl
         refine take_ (i:=38) (N:=some 93) (v:=?_) (a':=?_) #[y_,y_,y_,y_,y_,y_,y_,y_,y_,y_,y_,y_,y_,y_,y_,y_,y_,y_,y_,y_,y_,y_,y_,y_,y_,y_,y_,y_,y_,y_,y_,y_,y_,y_,y_,y_,y_,y_,y_,y_,n_,n_,y_,n_,y_,n_,n_,n_,n_,n_,n_,n_,n_,n_,n_,n_,n_,n_,n_] rfl rfl (take_ofW b6.1 e9.1 (by kernel_rfl)) (fun _ _ _ h=>h) (Or.inl ⟨by rfl,?_⟩) Q ?_ ?_;rotate_left
         ·
          rintro w' ⟨s0,s1,s2,s3,s4,s5,s6,s7,s8,s9,g4,g5,g6,g7,g8,g9,h0,h1,h2,h3⟩;go_simp;with_reducible rfl
         rotate_left
         ·
          simp only [Act.put,s0_,s1_,s2_,i64_w,i32_w];rfl
         refine take_ (i:=40) (N:=some 95) (v:=?_) (a':=?_) #[y_,y_,y_,y_,y_,y_,y_,y_,y_,y_,y_,y_,y_,y_,y_,y_,y_,y_,y_,y_,y_,y_,y_,y_,y_,y_,y_,y_,y_,y_,y_,y_,y_,y_,y_,y_,y_,y_,y_,y_,y_,n_,y_,n_,y_,n_,n_,n_,n_,n_,n_,n_,n_,n_,n_,n_,n_,n_,n_] rfl rfl (take_ofW b6.1 e9.1 (by kernel_rfl)) (fun _ _ _ h=>h) (Or.inl ⟨by rfl,?_⟩) Q ?_ ?_;rotate_left
         ·
          rintro w' ⟨s0,s1,s2,s3,s4,s5,s6,s7,s8,s9,g4,g5,g6,g7,g8,g9,h0,h1,h2,h3⟩;go_simp;with_reducible rfl
         rotate_left
         ·
          simp only [Act.put,s0_,s1_,s2_,i64_w,i32_w];rfl
         refine pure_ (i:=41) (N:=some 96) (v:=?_) (a':=?_) #[y_,y_,y_,y_,y_,y_,y_,y_,y_,y_,y_,y_,y_,y_,y_,y_,y_,y_,y_,y_,y_,y_,y_,y_,y_,y_,y_,y_,y_,y_,y_,y_,y_,y_,y_,y_,y_,y_,y_,y_,y_,y_,y_,n_,y_,n_,n_,n_,n_,n_,n_,n_,n_,n_,n_,n_,n_,n_,n_] rfl rfl (any_of b6.1 (by kernel_rfl)) (fun _ _ _ h=>h) (Or.inl ⟨by rfl,?_⟩) ?_ ?_;rotate_left
         ·
          intro w';go_simp;with_reducible rfl
         rotate_left
         ·
          simp only [Act.put,s0_,s1_,s2_,i64_w,i32_w];rfl
         refine take_ (i:=43) (N:=some 98) (v:=?_) (a':=?_) #[y_,y_,y_,y_,y_,y_,y_,y_,y_,y_,y_,y_,y_,y_,y_,y_,y_,y_,y_,y_,y_,y_,y_,y_,y_,y_,y_,y_,y_,y_,y_,y_,y_,y_,y_,y_,y_,y_,y_,y_,y_,y_,y_,y_,y_,n_,n_,n_,n_,n_,n_,n_,n_,n_,n_,n_,n_,n_,n_] rfl rfl (take_ofW b6.1 e9.1 (by kernel_rfl)) (fun _ _ _ h=>h) (Or.inl ⟨by rfl,?_⟩) Q ?_ ?_;rotate_left
         ·
          rintro w' ⟨s0,s1,s2,s3,s4,s5,s6,s7,s8,s9,g4,g5,g6,g7,g8,g9,h0,h1,h2,h3⟩;go_simp;with_reducible rfl
         rotate_left
         ·
          simp only [Act.put,s0_,s1_,s2_,i64_w,i32_w];rfl
         refine take_ (i:=45) (N:=some 100) (v:=?_) (a':=?_) #[y_,y_,y_,y_,y_,y_,y_,y_,y_,y_,y_,y_,y_,y_,y_,y_,y_,y_,y_,y_,y_,y_,y_,y_,y_,y_,y_,y_,y_,y_,y_,y_,y_,y_,y_,y_,y_,y_,y_,y_,y_,y_,y_,y_,y_,y_,n_,n_,n_,n_,n_,n_,n_,n_,n_,n_,n_,n_,n_] rfl rfl (take_ofW b6.1 e9.1 (by kernel_rfl)) (fun _ _ _ h=>h) (Or.inl ⟨by rfl,?_⟩) Q ?_ ?_;rotate_left
         ·
          rintro w' ⟨s0,s1,s2,s3,s4,s5,s6,s7,s8,s9,g4,g5,g6,g7,g8,g9,h0,h1,h2,h3⟩;go_simp;with_reducible rfl
         rotate_left
         ·
          simp only [Act.put,s0_,s1_,s2_,i64_w,i32_w];rfl
         refine pure_ (i:=46) (N:=some 101) (v:=?_) (a':=?_) #[y_,y_,y_,y_,y_,y_,y_,y_,y_,y_,y_,y_,y_,y_,y_,y_,y_,y_,y_,y_,y_,y_,y_,y_,y_,y_,y_,y_,y_,y_,y_,y_,y_,y_,y_,y_,y_,y_,y_,y_,y_,y_,y_,y_,y_,y_,y_,n_,n_,n_,n_,n_,n_,n_,n_,n_,n_,n_,n_] rfl rfl (any_of b6.1 (by kernel_rfl)) (fun _ _ _ h=>h) (Or.inl ⟨by rfl,?_⟩) ?_ ?_;rotate_left
         ·
          intro w';go_simp;with_reducible rfl
         rotate_left
         ·
          simp only [Act.put,s0_,s1_,s2_,i64_w,i32_w];rfl
         refine pure_ (i:=47) (N:=some 102) (v:=?_) (a':=?_) #[y_,y_,y_,y_,y_,y_,y_,y_,y_,y_,y_,y_,y_,y_,y_,y_,y_,y_,y_,y_,y_,y_,y_,y_,y_,y_,y_,y_,y_,y_,y_,y_,y_,y_,y_,y_,y_,y_,y_,y_,y_,y_,y_,y_,y_,y_,y_,y_,n_,n_,n_,n_,n_,n_,n_,n_,n_,n_,n_] rfl rfl (any_of b6.1 (by kernel_rfl)) (fun _ _ _ h=>h) (Or.inl ⟨by rfl,?_⟩) ?_ ?_;rotate_left
         ·
          intro w';go_simp;with_reducible rfl
         rotate_left
         ·
          simp only [Act.put,s0_,s1_,s2_,i64_w,i32_w];rfl
         refine pure_ (i:=48) (N:=some 103) (v:=?_) (a':=?_) #[y_,y_,y_,y_,y_,y_,y_,y_,y_,y_,y_,y_,y_,y_,y_,y_,y_,y_,y_,y_,y_,y_,y_,y_,y_,y_,y_,y_,y_,y_,y_,y_,y_,y_,y_,y_,y_,y_,y_,y_,y_,y_,y_,y_,y_,y_,y_,y_,y_,n_,n_,n_,n_,n_,n_,n_,n_,n_,n_] rfl rfl (any_of b6.1 (by kernel_rfl)) (fun _ _ _ h=>h) (Or.inl ⟨by rfl,?_⟩) ?_ ?_;rotate_left
         ·
          intro w';go_simp;with_reducible rfl
         rotate_left
         ·
          simp only [Act.put,s0_,s1_,s2_,i64_w,i32_w];rfl
         refine pure_ (i:=49) (N:=some 104) (v:=?_) (a':=?_) #[y_,y_,y_,y_,y_,y_,y_,y_,y_,y_,y_,y_,y_,y_,y_,y_,y_,y_,y_,y_,y_,y_,y_,y_,y_,y_,y_,y_,y_,y_,y_,y_,y_,y_,y_,y_,y_,y_,y_,y_,y_,y_,y_,y_,y_,y_,y_,y_,y_,y_,n_,n_,n_,n_,n_,n_,n_,n_,n_] rfl rfl (any_of b6.1 (by kernel_rfl)) (fun _ _ _ h=>h) (Or.inl ⟨by rfl,?_⟩) ?_ ?_;rotate_left
         ·
          intro w';go_simp;with_reducible rfl
         rotate_left
         ·
          simp only [Act.put,s0_,s1_,s2_,i64_w,i32_w];rfl
         refine pure_ (i:=50) (N:=some 105) (v:=?_) (a':=?_) #[y_,y_,y_,y_,y_,y_,y_,y_,y_,y_,y_,y_,y_,y_,y_,y_,y_,y_,y_,y_,y_,y_,y_,y_,y_,y_,y_,y_,y_,y_,y_,y_,y_,y_,y_,y_,y_,y_,y_,y_,y_,y_,y_,y_,y_,y_,y_,y_,y_,y_,y_,n_,n_,n_,n_,n_,n_,n_,n_] rfl rfl (any_of b6.1 (by kernel_rfl)) (fun _ _ _ h=>h) (Or.inl ⟨by rfl,?_⟩) ?_ ?_;rotate_left
         ·
          intro w';go_simp;with_reducible rfl
         rotate_left
         ·
          simp only [Act.put,s0_,s1_,s2_,i64_w,i32_w];rfl
         refine take_ (i:=51) (N:=some 106) (v:=?_) (a':=?_) #[y_,y_,y_,y_,y_,y_,y_,y_,y_,y_,y_,y_,y_,y_,y_,y_,y_,y_,y_,y_,y_,y_,y_,y_,y_,y_,y_,y_,y_,y_,y_,y_,y_,y_,y_,y_,y_,y_,y_,y_,y_,y_,y_,y_,y_,y_,y_,y_,y_,y_,y_,y_,n_,n_,n_,n_,n_,n_,n_] rfl rfl (take_ofW b6.1 e9.1 (by kernel_rfl)) (fun _ _ _ h=>h) (Or.inl ⟨by rfl,?_⟩) Q ?_ ?_;rotate_left
         ·
          rintro w' ⟨s0,s1,s2,s3,s4,s5,s6,s7,s8,s9,g4,g5,g6,g7,g8,g9,h0,h1,h2,h3⟩;go_simp;with_reducible rfl
         rotate_left
         ·
          simp only [Act.put,s0_,s1_,s2_,i64_w,i32_w];rfl
         refine take_ (i:=54) (N:=some 109) (v:=?_) (a':=?_) #[y_,y_,y_,y_,y_,y_,y_,y_,y_,y_,y_,y_,y_,y_,y_,y_,y_,y_,y_,y_,y_,y_,y_,y_,y_,y_,y_,y_,y_,y_,y_,y_,y_,y_,y_,y_,y_,y_,y_,y_,y_,y_,y_,y_,y_,y_,y_,y_,y_,y_,y_,y_,n_,n_,y_,n_,n_,n_,n_] rfl rfl (take_ofW b6.1 e9.1 (by kernel_rfl)) (fun _ _ _ h=>h) (Or.inl ⟨by rfl,?_⟩) Q ?_ ?_;rotate_left
         ·
          rintro w' ⟨s0,s1,s2,s3,s4,s5,s6,s7,s8,s9,g4,g5,g6,g7,g8,g9,h0,h1,h2,h3⟩;go_simp;with_reducible rfl
         rotate_left
         ·
          simp only [Act.put,s0_,s1_,s2_,i64_w,i32_w];rfl
         refine one_ (i:=52) (N:=some 107) #[y_,y_,y_,y_,y_,y_,y_,y_,y_,y_,y_,y_,y_,y_,y_,y_,y_,y_,y_,y_,y_,y_,y_,y_,y_,y_,y_,y_,y_,y_,y_,y_,y_,y_,y_,y_,y_,y_,y_,y_,y_,y_,y_,y_,y_,y_,y_,y_,y_,y_,y_,y_,y_,n_,y_,n_,n_,n_,n_] rfl rfl (one_of b6.1 (by kernel_rfl)) (by decide) (fun K hK=>?_);refine goes_ Try.func34 (by kernel_rfl) rfl #[.agg #[.int .i64 e0,.int .i64 e1,.int .i64 e2,.int .i64 e3]] (by rfl) rfl rfl (by (try simp only [m0_,m1_,m2_]);first|done|rfl|(simp only [l0_,l1_];rfl)) ?_;with_reducible refine (bellpullref04_Norm.calls e0 e1 e2 e3 t0 _ D3.1).mono ?_
         rintro e Ek ⟨rfl,hb⟩;refine ⟨_,rfl,?_⟩;replace B:=bkb B hb;replace C:=bkb C hb;replace J:=bkb J hb;replace F:=bkb F hb;replace b5:=bkb b5 hb;replace b8:=bkb b8 hb;replace d6:=bkb d6 hb;replace X:=bst X hb;(try clear hb);refine hK.out _ _ ⟨q0_ b5,q1_ b5,q2_ b5,q3_ b5,q0_ J,q1_ J,q2_ J,q3_ J,q0_ d6,q1_ d6,q2_ d6,q3_ d6,q0_ b8,q1_ b8,q2_ b8,q3_ b8,q0_ F,q1_ F,q2_ F,q3_ F⟩ (fun Q=>?_);clear hK K;refine norm_ (a':=?_) ?_ ?_;rotate_left
         ·
          show Act.put _ (some 107) _=_;simp only [Act.put,s0_,s1_,s2_,i64_w,i32_w];rfl
         refine pure_ (i:=53) (N:=some 108) (v:=?_) (a':=?_) #[y_,y_,y_,y_,y_,y_,y_,y_,y_,y_,y_,y_,y_,y_,y_,y_,y_,y_,y_,y_,y_,y_,y_,y_,y_,y_,y_,y_,y_,y_,y_,y_,y_,y_,y_,y_,y_,y_,y_,y_,y_,y_,y_,y_,y_,y_,y_,y_,y_,y_,y_,y_,y_,y_,y_,n_,n_,n_,n_] rfl rfl (any_of b6.1 (by kernel_rfl)) (fun _ _ _ h=>h) (Or.inl ⟨by rfl,?_⟩) ?_ ?_;rotate_left
         ·
          intro w';go_simp;with_reducible rfl
         rotate_left
         ·
          simp only [Act.put,s0_,s1_,s2_,i64_w,i32_w];rfl
         refine one_ (i:=55) (N:=some 110) #[y_,y_,y_,y_,y_,y_,y_,y_,y_,y_,y_,y_,y_,y_,y_,y_,y_,y_,y_,y_,y_,y_,y_,y_,y_,y_,y_,y_,y_,y_,y_,y_,y_,y_,y_,y_,y_,y_,y_,y_,y_,y_,y_,y_,y_,y_,y_,y_,y_,y_,y_,y_,y_,y_,y_,y_,n_,n_,n_] rfl rfl (one_of b6.1 (by kernel_rfl)) (by decide) (fun K hK=>?_);refine goes_ Try.func34 (by kernel_rfl) rfl #[.agg #[.int .i64 c0,.int .i64 d0,.int .i64 d2,.int .i64 d4]] (by rfl) rfl rfl (by (try simp only [m0_,m1_,m2_]);first|done|rfl|(simp only [l0_,l1_];rfl)) ?_;with_reducible refine (bellpullref04_Norm.calls c0 d0 d2 d4 t1 _ D4.1).mono ?_
         rintro e El ⟨rfl,hb⟩;refine ⟨_,rfl,?_⟩;replace B:=bkb B hb;replace C:=bkb C hb;replace J:=bkb J hb;replace F:=bkb F hb;replace b5:=bkb b5 hb;replace b8:=bkb b8 hb;replace d6:=bkb d6 hb;replace X:=bst X hb;(try clear hb);refine hK.out _ _ ⟨q0_ b5,q1_ b5,q2_ b5,q3_ b5,q0_ J,q1_ J,q2_ J,q3_ J,q0_ d6,q1_ d6,q2_ d6,q3_ d6,q0_ b8,q1_ b8,q2_ b8,q3_ b8,q0_ F,q1_ F,q2_ F,q3_ F⟩ (fun Q=>?_);clear hK K;refine norm_ (a':=?_) ?_ ?_;rotate_left
         ·
          show Act.put _ (some 110) _=_;simp only [Act.put,s0_,s1_,s2_,i64_w,i32_w];rfl
         refine pure_ (i:=56) (N:=some 111) (v:=?_) (a':=?_) #[y_,y_,y_,y_,y_,y_,y_,y_,y_,y_,y_,y_,y_,y_,y_,y_,y_,y_,y_,y_,y_,y_,y_,y_,y_,y_,y_,y_,y_,y_,y_,y_,y_,y_,y_,y_,y_,y_,y_,y_,y_,y_,y_,y_,y_,y_,y_,y_,y_,y_,y_,y_,y_,y_,y_,y_,y_,n_,n_] rfl rfl (any_of b6.1 (by kernel_rfl)) (fun _ _ _ h=>h) (Or.inl ⟨by rfl,?_⟩) ?_ ?_;rotate_left
         ·
          intro w';go_simp;with_reducible rfl
         rotate_left
         ·
          simp only [Act.put,s0_,s1_,s2_,i64_w,i32_w];rfl
         refine pure_ (i:=57) (N:=some 112) (v:=?_) (a':=?_) #[y_,y_,y_,y_,y_,y_,y_,y_,y_,y_,y_,y_,y_,y_,y_,y_,y_,y_,y_,y_,y_,y_,y_,y_,y_,y_,y_,y_,y_,y_,y_,y_,y_,y_,y_,y_,y_,y_,y_,y_,y_,y_,y_,y_,y_,y_,y_,y_,y_,y_,y_,y_,y_,y_,y_,y_,y_,y_,n_] rfl rfl (any_of b6.1 (by kernel_rfl)) (fun _ _ _ h=>h) (Or.inl ⟨by rfl,?_⟩) ?_ ?_;rotate_left
         ·
          intro w';go_simp;with_reducible rfl
         rotate_left
         ·
          simp only [Act.put,s0_,s1_,s2_,i64_w,i32_w];rfl
         refine pure_ (i:=58) (N:=some 4) (v:=?_) (a':=?_) #[y_,y_,y_,y_,y_,y_,y_,y_,y_,y_,y_,y_,y_,y_,y_,y_,y_,y_,y_,y_,y_,y_,y_,y_,y_,y_,y_,y_,y_,y_,y_,y_,y_,y_,y_,y_,y_,y_,y_,y_,y_,y_,y_,y_,y_,y_,y_,y_,y_,y_,y_,y_,y_,y_,y_,y_,y_,y_,y_] rfl rfl (any_of b6.1 (by kernel_rfl)) (fun _ _ _ h=>h) (Or.inl ⟨by rfl,?_⟩) ?_ ?_;rotate_left
         ·
          intro w';go_simp;with_reducible rfl
         rotate_left
         ·
          simp only [Act.put,s0_,s1_,s2_,i64_w,i32_w];rfl
         refine done_ (done_of b6.1 (by kernel_rfl)) ?_;try go_wp2
         go_ret;exact ⟨by first|rfl|(simp [errW_none,errW_some] <;> rfl)|(simp [*,errW_none,errW_some] <;> rfl),by repeat (first|(with_reducible first|exact X.1|apply below_alloc|apply pw_below_drewN|apply below_drew1|refine below_set ?_ f8.1|refine below_set ?_ f9.1|refine below_set ?_ a2.1|refine below_set ?_ a3.1|refine below_set ?_ l7.1|refine below_set ?_ l8.1|refine below_set ?_ t8.1)|exact X.1)⟩
        ·
         rw [if_neg c106] at H;exact absurd H (by simp)
       ·
        rw [if_neg c105] at H;exact absurd H (by simp)
      ·
       rw [if_neg c104] at H;exact absurd H (by simp)
     ·
      rw [if_neg c103] at H;exact absurd H (by simp)
end Go.Proofs.Ytgfnmimfoicmmaa.PM
