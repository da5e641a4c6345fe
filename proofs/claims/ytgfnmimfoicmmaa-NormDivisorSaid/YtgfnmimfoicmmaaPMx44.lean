-- Written by pr2.py, a program of this session's, for this claim (through the kit's print).
import Derived.Test.YtgfnmimfoicmmaaWFour
import Derived.Test.YtgfnmimfoicmmaaPMx0
import Derived.Test.YtgfnmimfoicmmaaPMx1
import Derived.Test.YtgfnmimfoicmmaaPMx6
import Derived.Test.YtgfnmimfoicmmaaPMx7
import Derived.Test.YtgfnmimfoicmmaaPMx20
import Derived.Test.YtgfnmimfoicmmaaPMx21
import Derived.Test.YtgfnmimfoicmmaaPMx22
import Derived.Test.YtgfnmimfoicmmaaPMx31
import Derived.Test.YtgfnmimfoicmmaaPMx33
import Derived.Test.YtgfnmimfoicmmaaPMx43
namespace Go.Proofs.Ytgfnmimfoicmmaa.PM
open Go.Proofs.MyWords Go.RowKit Go.Proofs.YtgfnmimfoicmmaaW.PrintWords Go.Proofs.YtgfnmimfoicmmaaW.PrintLast Go.Proofs.YtgfnmimfoicmmaaW.PrintMore
attribute [local go_sem] max2_int min2_int max_two min_two max_three min_three max_four min_four   -- for this text's walks alone
set_option linter.unusedVariables false
set_option linter.unusedSimpArgs false

attribute [local go_sem] idx67_0 idx67_1 idx67_2 idx67_3
attribute [local go_sem] eqGuard_slices eqlnil36 neqnil36
attribute [local go_sem high] eqA23
theorem bf4_ {w:World} {g p:Nat} {cs:Array Value} {t:TypeId} (a b c d:Int) (h:Aside0 (g ≠ p)) (e:Aside0 (w.heap[g]?=some (.cells cs t (0,0)))):Aside0 (((((w.setCell ⟨p,0,none⟩ (.int .i64 a)).setCell ⟨p,1,none⟩ (.int .i64 b)).setCell ⟨p,2,none⟩ (.int .i64 c)).setCell ⟨p,3,none⟩ (.int .i64 d)).heap[g]?=some (.cells cs t (0,0))):=⟨blk_far (blk_far (blk_far (blk_far e.1 h.1 _) h.1 _) h.1 _) h.1 _⟩
theorem bp4_ {w:World} {p:Nat} {x y z u:Value} {t:TypeId} (a b c d:Int) (e:Aside0 (w.heap[p]?=some (.cells #[x,y,z,u] t (0,0)))):Aside0 (((((w.setCell ⟨p,0,none⟩ (.int .i64 a)).setCell ⟨p,1,none⟩ (.int .i64 b)).setCell ⟨p,2,none⟩ (.int .i64 c)).setCell ⟨p,3,none⟩ (.int .i64 d)).heap[p]?=some (.cells #[.int .i64 a,.int .i64 b,.int .i64 c,.int .i64 d] t (0,0))):=⟨blk_put (blk_put (blk_put (blk_put e.1 0 _ rfl) 1 _ rfl) 2 _ rfl) 3 _ rfl⟩
theorem bl4_ {w0 w:World} {p:Nat} (a b c d:Int) (h:Aside0 (w0.heap.size ≤ p)) (e:Aside0 (Below w0.heap.size w0 w)):Aside0 (Below w0.heap.size w0 ((((w.setCell ⟨p,0,none⟩ (.int .i64 a)).setCell ⟨p,1,none⟩ (.int .i64 b)).setCell ⟨p,2,none⟩ (.int .i64 c)).setCell ⟨p,3,none⟩ (.int .i64 d))):=⟨below_set (below_set (below_set (below_set e.1 h.1) h.1) h.1) h.1⟩
/-! ### bellpulllaw04_NormDivisor: function 8 -/
mutual
def bellpulllaw04_NormDivisor.j0:Nat → Bool → Int → Int → Int → Int → Int → Int → Int → Int → Int → Int → Int → Int → Option (Bool)
  | 0,_,_,_,_,_,_,_,_,_,_,_,_,_=>none
  | k + 1,x37,x1014000,x1014001,x1014002,x1014003,x1023000,x1023001,x1023002,x1023003,x1024000,x1024001,x1024002,x1024003=>if x37=true then ((norm_Gcd.f k x1023000 x1023001 x1023002 x1023003 x1024000 x1024001 x1024002 x1024003).bind fun bt1024=>(if bt1024.2.2.2.2=5 then ((bellpulllaw04_lives.f k).bind fun t1030=>(some t1030)) else (none))) else ((norm_Gcd.f k x1023000 x1023001 x1023002 x1023003 x1024000 x1024001 x1024002 x1024003).bind fun bt1031=>(if bt1031.2.2.2.2=0 then ((bellpullref04_Check.f k (([(⟨bt1031.1,bt1031.2.1,bt1031.2.2.1,bt1031.2.2.2.1⟩:S23)]:List (S23)))).bind fun t1040=>(if t1040=0 then ((bellpulllaw04_divides.f k bt1031.1 bt1031.2.1 bt1031.2.2.1 bt1031.2.2.2.1 x1023000 x1023001 x1023002 x1023003).bind fun t1041=>(if t1041=true then ((bellpulllaw04_divides.f k bt1031.1 bt1031.2.1 bt1031.2.2.1 bt1031.2.2.2.1 x1024000 x1024001 x1024002 x1024003).bind fun t1042=>(if t1042=true then ((bellpulllaw04_divides.f k x1014000 x1014001 x1014002 x1014003 bt1031.1 bt1031.2.1 bt1031.2.2.1 bt1031.2.2.2.1).bind fun t1043=>(if t1043=true then ((bellpulllaw04_lives.f k).bind fun t1044=>(bellpulllaw04_NormDivisor.j1 k (!t1044) x1023000 x1023001 x1023002 x1023003)) else (none))) else (none))) else (none))) else (none))) else (none)))
def bellpulllaw04_NormDivisor.j1:Nat → Bool → Int → Int → Int → Int → Option (Bool)
  | 0,_,_,_,_,_=>none
  | k + 1,x84,x1023000,x1023001,x1023002,x1023003=>if x84=true then (none) else (if (x1023000 == 0 && (x1023001 == 0 && (x1023002 == 0 && (x1023003 == 0))))=true then (some true) else ((norm_Gcd.f k x1023000 x1023001 x1023002 x1023003 0 0 0 0).bind fun bt1045=>(if bt1045.2.2.2.2=0 then ((bellpullref04_Norm.f bt1045.1 bt1045.2.1 bt1045.2.2.1 bt1045.2.2.2.1).bind fun t1051=>((bellpullref04_Norm.f x1023000 x1023001 x1023002 x1023003).bind fun t1052=>(if t1051=t1052 then ((bellpulllaw04_divides.f k bt1045.1 bt1045.2.1 bt1045.2.2.1 bt1045.2.2.2.1 x1023000 x1023001 x1023002 x1023003).bind fun t1053=>(if t1053=true then ((bellpullref04_Less.f k bt1045.1 bt1045.2.1 bt1045.2.2.1 bt1045.2.2.2.1 x1023000 x1023001 x1023002 x1023003).bind fun t1054=>(some (!t1054))) else (none))) else (none)))) else (none))))
end
def bellpulllaw04_NormDivisor.f (k:Nat) (a0_0:Int) (a0_1:Int) (a0_2:Int) (a0_3:Int) (a1_0:Int) (a1_1:Int) (a1_2:Int) (a1_3:Int) (a2_0:Int) (a2_1:Int) (a2_2:Int) (a2_3:Int):Option (Bool):=(bellpulllaw04_made.f k a0_0 a0_1 a0_2 a0_3 15).bind fun bt999=>((bellpulllaw04_made.f k a1_0 a1_1 a1_2 a1_3 15).bind fun bt1003=>((bellpulllaw04_made.f k a2_0 a2_1 a2_2 a2_3 15).bind fun bt1007=>((bellpullref04_Mul.f bt999.1 bt999.2.1 bt999.2.2.1 bt999.2.2.2 bt1007.1 bt1007.2.1 bt1007.2.2.1 bt1007.2.2.2).bind fun bt1014=>((bellpullref04_Mul.f bt1003.1 bt1003.2.1 bt1003.2.2.1 bt1003.2.2.2 bt1007.1 bt1007.2.1 bt1007.2.2.1 bt1007.2.2.2).bind fun bt1018=>(if (bt1014.1 == 0 && (bt1014.2.1 == 0 && (bt1014.2.2.1 == 0 && (bt1014.2.2.2 == 0))))=true then (bellpulllaw04_NormDivisor.j0 k (bt1018.1 == 0 && (bt1018.2.1 == 0 && (bt1018.2.2.1 == 0 && (bt1018.2.2.2 == 0)))) bt1007.1 bt1007.2.1 bt1007.2.2.1 bt1007.2.2.2 bt1014.1 bt1014.2.1 bt1014.2.2.1 bt1014.2.2.2 bt1018.1 bt1018.2.1 bt1018.2.2.1 bt1018.2.2.2) else (bellpulllaw04_NormDivisor.j0 k false bt1007.1 bt1007.2.1 bt1007.2.2.1 bt1007.2.2.2 bt1014.1 bt1014.2.1 bt1014.2.2.1 bt1014.2.2.2 bt1018.1 bt1018.2.1 bt1018.2.2.1 bt1018.2.2.2))))))
theorem bellpulllaw04_NormDivisor.mono_l:∀ k,(∀ B C D E F N O Q R T G I J,LeO (bellpulllaw04_NormDivisor.j0 k B C D E F N O Q R T G I J) (bellpulllaw04_NormDivisor.j0 (k + 1) B C D E F N O Q R T G I J))∧(∀ B C D E F,LeO (bellpulllaw04_NormDivisor.j1 k B C D E F) (bellpulllaw04_NormDivisor.j1 (k + 1) B C D E F))
  | 0=>⟨fun _ _ _ _ _ _ _ _ _ _ _ _ _ r h=>by simp [bellpulllaw04_NormDivisor.j0] at h,fun _ _ _ _ _ r h=>by simp [bellpulllaw04_NormDivisor.j1] at h⟩
  | k + 1=>by
    obtain ⟨L,M⟩:=bellpulllaw04_NormDivisor.mono_l k
    refine ⟨?_,?_⟩
    · intro B C D E F N O Q R T G I J
      unfold bellpulllaw04_NormDivisor.j0
      with_reducible repeat' first|exact L _ _ _ _ _ _ _ _ _ _ _ _ _|exact M _ _ _ _ _|exact bellpulllaw04_divides.mono _ _ _ _ _ _ _ _ _|exact bellpulllaw04_lives.mono _|exact bellpulllaw04_made.mono _ _ _ _ _ _|exact bellpullref04_Check.mono _ _|exact bellpullref04_Less.mono _ _ _ _ _ _ _ _ _|exact norm_Gcd.mono _ _ _ _ _ _ _ _ _|exact LeO.refl _|exact LeO.none _|refine LeO.ite ?_ ?_|refine LeO.bind ?_ (fun _=>?_)
    · intro B C D E F
      unfold bellpulllaw04_NormDivisor.j1
      with_reducible repeat' first|exact L _ _ _ _ _ _ _ _ _ _ _ _ _|exact M _ _ _ _ _|exact bellpulllaw04_divides.mono _ _ _ _ _ _ _ _ _|exact bellpulllaw04_lives.mono _|exact bellpulllaw04_made.mono _ _ _ _ _ _|exact bellpullref04_Check.mono _ _|exact bellpullref04_Less.mono _ _ _ _ _ _ _ _ _|exact norm_Gcd.mono _ _ _ _ _ _ _ _ _|exact LeO.refl _|exact LeO.none _|refine LeO.ite ?_ ?_|refine LeO.bind ?_ (fun _=>?_)
theorem bellpulllaw04_NormDivisor.mono:∀ a0 a1 a2 a3 a4 a5 a6 a7 a8 a9 a10 a11 k,LeO (bellpulllaw04_NormDivisor.f k a0 a1 a2 a3 a4 a5 a6 a7 a8 a9 a10 a11) (bellpulllaw04_NormDivisor.f (k + 1) a0 a1 a2 a3 a4 a5 a6 a7 a8 a9 a10 a11):=by
  intro a0 a1 a2 a3 a4 a5 a6 a7 a8 a9 a10 a11 k
  obtain ⟨ih0,ih1⟩:=bellpulllaw04_NormDivisor.mono_l k
  unfold bellpulllaw04_NormDivisor.f
  with_reducible repeat' first|exact ih0 _ _ _ _ _ _ _ _ _ _ _ _ _|exact ih1 _ _ _ _ _|exact bellpulllaw04_divides.mono _ _ _ _ _ _ _ _ _|exact bellpulllaw04_lives.mono _|exact bellpulllaw04_made.mono _ _ _ _ _ _|exact bellpullref04_Check.mono _ _|exact bellpullref04_Less.mono _ _ _ _ _ _ _ _ _|exact norm_Gcd.mono _ _ _ _ _ _ _ _ _|exact LeO.refl _|exact LeO.none _|refine LeO.ite ?_ ?_|refine LeO.bind ?_ (fun _=>?_)
def bellpulllaw04_NormDivisor.T1:Bool × List (List Nat × List Nat):=(true,[([],[]),([0],[0]),([],[]),([2,1],[2]),([],[]),([4,3],[4]),([],[]),([],[]),([],[]),([6,1,5,0,1,6,7,8],[1,6]),([7,3,9,0,1,2,3,6,7,8,9],[3,7]),([8,5,10,0,1,2,3,4,5,6,7,8,9,10],[5,8])])
def bellpulllaw04_NormDivisor.B1:List Nat:=[0,1,0,7,0,31,0,0,0,511,1023,2047]
theorem bellpulllaw04_NormDivisor.tab1:rtab .any (opsOf Try.f8 1)=bellpulllaw04_NormDivisor.T1:=by kernel_rfl
theorem bellpulllaw04_NormDivisor.bits1:waitsOk bellpulllaw04_NormDivisor.T1.2 bellpulllaw04_NormDivisor.B1=true:=by kernel_rfl
def bellpulllaw04_NormDivisor.T2:Bool × List (List Nat × List Nat):=(true,[([],[]),([],[]),([0,1],[0,1]),([],[]),([],[]),([3,4,2],[3,4]),([],[]),([],[]),([6,2,5,0,1,2,6,7],[2,6]),([7,5,8,0,1,2,3,4,5,6,7,8],[5,7])])
def bellpulllaw04_NormDivisor.B2:List Nat:=[0,0,3,0,0,31,0,0,255,511]
theorem bellpulllaw04_NormDivisor.tab2:rtab .any (opsOf Try.f8 2)=bellpulllaw04_NormDivisor.T2:=by kernel_rfl
theorem bellpulllaw04_NormDivisor.bits2:waitsOk bellpulllaw04_NormDivisor.T2.2 bellpulllaw04_NormDivisor.B2=true:=by kernel_rfl
def bellpulllaw04_NormDivisor.T12:Bool × List (List Nat × List Nat):=(true,[([],[]),([0],[0]),([1],[1]),([2],[2]),([3,2,2],[2,3]),([2],[2]),([5,4,2],[2,5]),([4,6,2],[2,4,6]),([2,7],[2,7]),([8,6],[8]),([9],[9]),([9],[9]),([10,11,9,9],[9,10,11]),([9,12],[9,12]),([13,12],[13]),([14],[14]),([14],[14]),([15,16,14,14],[14,15,16]),([17,14],[14,17]),([14,18],[14,18]),([19,17,0,1,2,3,4,5,6,7,8,9,10,11,12,13,14,15,16,17,18,19],[19])])
def bellpulllaw04_NormDivisor.B12:List Nat:=[0,1,3,7,15,7,63,127,255,511,1023,1023,4095,8191,16383,32767,32767,131071,262143,524287,1048575]
theorem bellpulllaw04_NormDivisor.tab12:rtab .any (opsOf Try.f8 12)=bellpulllaw04_NormDivisor.T12:=by kernel_rfl
theorem bellpulllaw04_NormDivisor.bits12:waitsOk bellpulllaw04_NormDivisor.T12.2 bellpulllaw04_NormDivisor.B12=true:=by kernel_rfl
set_option maxHeartbeats 100000000 in
set_option maxRecDepth 100000 in
theorem bellpulllaw04_NormDivisor.calls (k:Nat) (e7:Int) (e8:Int) (e9:Int) (f0:Int) (f1:Int) (f2:Int) (f3:Int) (f4:Int) (f5:Int) (f6:Int) (f7:Int) (f8:Int) (r:Bool) (w:World) (h:bellpulllaw04_NormDivisor.f k e7 e8 e9 f0 f1 f2 f3 f4 f5 f6 f7 f8=some r) :
    Calls Try.prog 8 #[.agg #[.int .i16 e7,.int .i16 e8,.int .i16 e9,.int .i16 f0],.agg #[.int .i16 f1,.int .i16 f2,.int .i16 f3,.int .i16 f4],.agg #[.int .i16 f5,.int .i16 f6,.int .i16 f7,.int .i16 f8]] w fun e w'=>e=.returned (.bool r)∧Below w.heap.size w w':=by
 have Pp:=Try.underlying47;have Pq:=Try.underlying23;have U:=mk0 (Below.refl w.heap.size w);have H:((bellpulllaw04_made.f k e7 e8 e9 f0 15).bind fun y4=>((bellpulllaw04_made.f k f1 f2 f3 f4 15).bind fun u1=>((bellpulllaw04_made.f k f5 f6 f7 f8 15).bind fun m9=>((bellpullref04_Mul.f y4.1 y4.2.1 y4.2.2.1 y4.2.2.2 m9.1 m9.2.1 m9.2.2.1 m9.2.2.2).bind fun n3=>((bellpullref04_Mul.f u1.1 u1.2.1 u1.2.2.1 u1.2.2.2 m9.1 m9.2.1 m9.2.2.1 m9.2.2.2).bind fun n4=>(if (n3.1 == 0 && (n3.2.1 == 0 && (n3.2.2.1 == 0 && (n3.2.2.2 == 0))))=true then (bellpulllaw04_NormDivisor.j0 k (n4.1 == 0 && (n4.2.1 == 0 && (n4.2.2.1 == 0 && (n4.2.2.2 == 0)))) m9.1 m9.2.1 m9.2.2.1 m9.2.2.2 n3.1 n3.2.1 n3.2.2.1 n3.2.2.2 n4.1 n4.2.1 n4.2.2.1 n4.2.2.2) else (bellpulllaw04_NormDivisor.j0 k false m9.1 m9.2.1 m9.2.2.1 m9.2.2.2 n3.1 n3.2.1 n3.2.2.1 n3.2.2.2 n4.1 n4.2.1 n4.2.2.1 n4.2.2.2)))))))=some r:=h;clear h;replace H:=Option.bind_eq_some_iff.mp H;obtain ⟨⟨i8,e6,f9,g1⟩,Ab,H⟩:=H;(try dsimp only at H);have A4:=mk0 Ab;clear Ab;replace H:=Option.bind_eq_some_iff.mp H;obtain ⟨⟨g5,g6,h0,h2⟩,Ac,H⟩:=H;(try dsimp only at H);have A5:=mk0 Ac;clear Ac;replace H:=Option.bind_eq_some_iff.mp H;obtain ⟨⟨g0,g2,g3,g4⟩,Ad,H⟩:=H;(try dsimp only at H);have A6:=mk0 Ad;clear Ad;replace H:=Option.bind_eq_some_iff.mp H;obtain ⟨⟨h1,h3,h8,h9⟩,Ae,H⟩:=H;(try dsimp only at H);have A7:=mk0 Ae;clear Ae;replace H:=Option.bind_eq_some_iff.mp H;obtain ⟨⟨l4,l5,l8,l9⟩,Af,H⟩:=H;(try dsimp only at H);have A8:=mk0 Af;clear Af;have X5:=mk0 H;clear H;go_enter Try.func8,Try.ntmps8;try go_wp2_with (first|((with_reducible refine gate_dst (N:=3) rfl ?_);(try (refine gate_guard (by rfl) ?_;dsimp only));refine box_event ?hg (N:=3) ?hd (cs:=#[.int .i16 e7,.int .i16 e8,.int .i16 e9,.int .i16 f0]) (t:=47) ?hr ?_;(case hd=>rfl);(case hg=>rfl);(case hr=>first|(go_simp;done)|(go_simp;rfl));intro J hg Ra a7 hb;have B:=mk0 (a7);have Z4:=szw hg U;have o1:=Z4;replace U:=bst U hb;clear hb a7 hg)|((with_reducible refine gate_dst (N:=4) rfl ?_);(try (refine gate_guard (by rfl) ?_;dsimp only));refine box_event ?hg (N:=4) ?hd (cs:=#[.int .i16 f1,.int .i16 f2,.int .i16 f3,.int .i16 f4]) (t:=47) ?hr ?_;(case hd=>rfl);(case hg=>rfl);(case hr=>first|(go_simp;done)|(go_simp;rfl));intro L hg Rb a7 hb;have C:=mk0 (a7);have Z5:=szw hg U;have o2:=Z5;have Ag:=nlt hg B;have Ah:=ngt hg B;replace B:=bkb B hb;replace U:=bst U hb;clear hb a7 hg)|((with_reducible refine gate_dst (N:=5) rfl ?_);(try (refine gate_guard (by rfl) ?_;dsimp only));refine box_event ?hg (N:=5) ?hd (cs:=#[.int .i16 f5,.int .i16 f6,.int .i16 f7,.int .i16 f8]) (t:=47) ?hr ?_;(case hd=>rfl);(case hg=>rfl);(case hr=>first|(go_simp;done)|(go_simp;rfl));intro O hg Fj a7 hb;have D:=mk0 (a7);have Z6:=szw hg U;have o3:=Z6;have Ai:=nlt hg B;have Aj:=ngt hg B;have Ak:=nlt hg C;have Al:=ngt hg C;replace B:=bkb B hb;replace C:=bkb C hb;replace U:=bst U hb;clear hb a7 hg))
 replace B:=bdr B;replace C:=bdr C;replace D:=bdr D;replace U:=hdr U;refine start_ (n:=12) (S:=fun w'=>w'.cell? ⟨J,0,none⟩=some (.int .i16 e7)∧w'.cell? ⟨J,1,none⟩=some (.int .i16 e8)∧w'.cell? ⟨J,2,none⟩=some (.int .i16 e9)∧w'.cell? ⟨J,3,none⟩=some (.int .i16 f0)∧w'.cell? ⟨L,0,none⟩=some (.int .i16 f1)∧w'.cell? ⟨L,1,none⟩=some (.int .i16 f2)∧w'.cell? ⟨L,2,none⟩=some (.int .i16 f3)∧w'.cell? ⟨L,3,none⟩=some (.int .i16 f4)∧w'.cell? ⟨O,0,none⟩=some (.int .i16 f5)∧w'.cell? ⟨O,1,none⟩=some (.int .i16 f6)∧w'.cell? ⟨O,2,none⟩=some (.int .i16 f7)∧w'.cell? ⟨O,3,none⟩=some (.int .i16 f8)) (ds:=[]) #[n_,n_,n_,n_,n_,n_,n_,n_,n_,n_,n_,n_] (by kernel_rfl) rfl rfl ⟨q0_ B,q1_ B,q2_ B,q3_ B,q0_ C,q1_ C,q2_ C,q3_ C,q0_ D,q1_ D,q2_ D,q3_ D⟩ (fun I=>?_);refine with_tabW bellpulllaw04_NormDivisor.tab1 bellpulllaw04_NormDivisor.bits1 (fun j9 p5=>?_);generalize Fj.drew=Rc at B C D U I ⊢;refine take_ (i:=0) (N:=some 18) (v:=?_) (a':=?_) #[y_,n_,n_,n_,n_,n_,n_,n_,n_,n_,n_,n_] rfl rfl (take_ofW j9.1 p5.1 (by kernel_rfl)) (fun _ _ _ h=>h) (Or.inl ⟨by rfl,?_⟩) I ?_ ?_;rotate_left
 ·
  rintro w' ⟨s0,s1,s2,s3,s4,s5,s6,s7,s8,s9,B6,B7⟩;go_simp;with_reducible rfl
 rotate_left
 ·
  simp only [Act.put,s0_,s1_,s2_,i64_w,i32_w];rfl
 refine take_ (i:=2) (N:=some 20) (v:=?_) (a':=?_) #[y_,n_,y_,n_,n_,n_,n_,n_,n_,n_,n_,n_] rfl rfl (take_ofW j9.1 p5.1 (by kernel_rfl)) (fun _ _ _ h=>h) (Or.inl ⟨by rfl,?_⟩) I ?_ ?_;rotate_left
 ·
  rintro w' ⟨s0,s1,s2,s3,s4,s5,s6,s7,s8,s9,B6,B7⟩;go_simp;with_reducible rfl
 rotate_left
 ·
  simp only [Act.put,s0_,s1_,s2_,i64_w,i32_w];rfl
 refine take_ (i:=4) (N:=some 22) (v:=?_) (a':=?_) #[y_,n_,y_,n_,y_,n_,n_,n_,n_,n_,n_,n_] rfl rfl (take_ofW j9.1 p5.1 (by kernel_rfl)) (fun _ _ _ h=>h) (Or.inl ⟨by rfl,?_⟩) I ?_ ?_;rotate_left
 ·
  rintro w' ⟨s0,s1,s2,s3,s4,s5,s6,s7,s8,s9,B6,B7⟩;go_simp;with_reducible rfl
 rotate_left
 ·
  simp only [Act.put,s0_,s1_,s2_,i64_w,i32_w];rfl
 refine join_ (σ:=Nat × Nat × Nat) 3 #[y_,y_,y_,y_,y_,y_,y_,y_,y_,n_,n_,n_] (fun s_=>[(19,.agg #[.int .i64 i8,.int .i64 e6,.int .i64 f9,.int .i64 g1]),(21,.agg #[.int .i64 g5,.int .i64 g6,.int .i64 h0,.int .i64 h2]),(23,.agg #[.int .i64 g0,.int .i64 g2,.int .i64 g3,.int .i64 g4]),(7,.pointer (some ⟨s_.1,0,none⟩)),(8,.pointer (some ⟨s_.2.1,0,none⟩)),(9,.pointer (some ⟨s_.2.2,0,none⟩))]) (fun s_ w'=>(w'.cell? ⟨J,0,none⟩=some (.int .i16 e7)∧w'.cell? ⟨J,1,none⟩=some (.int .i16 e8)∧w'.cell? ⟨J,2,none⟩=some (.int .i16 e9)∧w'.cell? ⟨J,3,none⟩=some (.int .i16 f0)∧w'.cell? ⟨L,0,none⟩=some (.int .i16 f1)∧w'.cell? ⟨L,1,none⟩=some (.int .i16 f2)∧w'.cell? ⟨L,2,none⟩=some (.int .i16 f3)∧w'.cell? ⟨L,3,none⟩=some (.int .i16 f4)∧w'.cell? ⟨O,0,none⟩=some (.int .i16 f5)∧w'.cell? ⟨O,1,none⟩=some (.int .i16 f6)∧w'.cell? ⟨O,2,none⟩=some (.int .i16 f7)∧w'.cell? ⟨O,3,none⟩=some (.int .i16 f8))∧(Q4_ w' s_.1 0 0 0 0 23)∧(Q4_ w' s_.2.1 0 0 0 0 23)∧(Q4_ w' s_.2.2 0 0 0 0 23)∧(w'.heap[J]?=some (.cells #[.int .i16 e7,.int .i16 e8,.int .i16 e9,.int .i16 f0] 47 (0,0)))∧(w'.heap[L]?=some (.cells #[.int .i16 f1,.int .i16 f2,.int .i16 f3,.int .i16 f4] 47 (0,0)))∧(w'.heap[O]?=some (.cells #[.int .i16 f5,.int .i16 f6,.int .i16 f7,.int .i16 f8] 47 (0,0)))∧(w.heap.size ≤ s_.1)∧(w.heap.size ≤ s_.1)∧(s_.2.1 ≠ s_.1)∧(s_.1 ≠ s_.2.1)∧(s_.2.2 ≠ s_.1)∧(s_.1 ≠ s_.2.2)∧(J ≠ s_.1)∧(s_.1 ≠ J)∧(L ≠ s_.1)∧(s_.1 ≠ L)∧(O ≠ s_.1)∧(s_.1 ≠ O)∧(w.heap.size ≤ s_.2.1)∧(w.heap.size ≤ s_.2.1)∧(s_.2.2 ≠ s_.2.1)∧(s_.2.1 ≠ s_.2.2)∧(J ≠ s_.2.1)∧(s_.2.1 ≠ J)∧(L ≠ s_.2.1)∧(s_.2.1 ≠ L)∧(O ≠ s_.2.1)∧(s_.2.1 ≠ O)∧(w.heap.size ≤ s_.2.2)∧(w.heap.size ≤ s_.2.2)∧(J ≠ s_.2.2)∧(s_.2.2 ≠ J)∧(L ≠ s_.2.2)∧(s_.2.2 ≠ L)∧(O ≠ s_.2.2)∧(s_.2.2 ≠ O)∧(Below w.heap.size w w')) ?_ ?_;rotate_left
 ·
  intro n9;refine join_ (σ:=Nat × Nat) 4 #[y_,y_,y_,y_,y_,y_,y_,y_,n_,n_,n_,n_] (fun s_=>[(19,.agg #[.int .i64 i8,.int .i64 e6,.int .i64 f9,.int .i64 g1]),(21,.agg #[.int .i64 g5,.int .i64 g6,.int .i64 h0,.int .i64 h2]),(23,.agg #[.int .i64 g0,.int .i64 g2,.int .i64 g3,.int .i64 g4]),(7,.pointer (some ⟨s_.1,0,none⟩)),(8,.pointer (some ⟨s_.2,0,none⟩))]) (fun s_ w'=>(w'.cell? ⟨J,0,none⟩=some (.int .i16 e7)∧w'.cell? ⟨J,1,none⟩=some (.int .i16 e8)∧w'.cell? ⟨J,2,none⟩=some (.int .i16 e9)∧w'.cell? ⟨J,3,none⟩=some (.int .i16 f0)∧w'.cell? ⟨L,0,none⟩=some (.int .i16 f1)∧w'.cell? ⟨L,1,none⟩=some (.int .i16 f2)∧w'.cell? ⟨L,2,none⟩=some (.int .i16 f3)∧w'.cell? ⟨L,3,none⟩=some (.int .i16 f4)∧w'.cell? ⟨O,0,none⟩=some (.int .i16 f5)∧w'.cell? ⟨O,1,none⟩=some (.int .i16 f6)∧w'.cell? ⟨O,2,none⟩=some (.int .i16 f7)∧w'.cell? ⟨O,3,none⟩=some (.int .i16 f8))∧(Q4_ w' s_.1 0 0 0 0 23)∧(Q4_ w' s_.2 0 0 0 0 23)∧(w'.heap[J]?=some (.cells #[.int .i16 e7,.int .i16 e8,.int .i16 e9,.int .i16 f0] 47 (0,0)))∧(w'.heap[L]?=some (.cells #[.int .i16 f1,.int .i16 f2,.int .i16 f3,.int .i16 f4] 47 (0,0)))∧(w'.heap[O]?=some (.cells #[.int .i16 f5,.int .i16 f6,.int .i16 f7,.int .i16 f8] 47 (0,0)))∧(w.heap.size ≤ s_.1)∧(w.heap.size ≤ s_.1)∧(s_.2 ≠ s_.1)∧(s_.1 ≠ s_.2)∧(J ≠ s_.1)∧(s_.1 ≠ J)∧(L ≠ s_.1)∧(s_.1 ≠ L)∧(O ≠ s_.1)∧(s_.1 ≠ O)∧(w.heap.size ≤ s_.2)∧(w.heap.size ≤ s_.2)∧(J ≠ s_.2)∧(s_.2 ≠ J)∧(L ≠ s_.2)∧(s_.2 ≠ L)∧(O ≠ s_.2)∧(s_.2 ≠ O)∧(Below w.heap.size w w')) ?_ ?_;rotate_left
  ·
   intro p8;refine join_ (σ:=Nat × Nat) 4 #[y_,y_,y_,y_,y_,y_,y_,n_,y_,n_,n_,n_] (fun s_=>[(19,.agg #[.int .i64 i8,.int .i64 e6,.int .i64 f9,.int .i64 g1]),(21,.agg #[.int .i64 g5,.int .i64 g6,.int .i64 h0,.int .i64 h2]),(23,.agg #[.int .i64 g0,.int .i64 g2,.int .i64 g3,.int .i64 g4]),(7,.pointer (some ⟨s_.1,0,none⟩)),(9,.pointer (some ⟨s_.2,0,none⟩))]) (fun s_ w'=>(w'.cell? ⟨J,0,none⟩=some (.int .i16 e7)∧w'.cell? ⟨J,1,none⟩=some (.int .i16 e8)∧w'.cell? ⟨J,2,none⟩=some (.int .i16 e9)∧w'.cell? ⟨J,3,none⟩=some (.int .i16 f0)∧w'.cell? ⟨L,0,none⟩=some (.int .i16 f1)∧w'.cell? ⟨L,1,none⟩=some (.int .i16 f2)∧w'.cell? ⟨L,2,none⟩=some (.int .i16 f3)∧w'.cell? ⟨L,3,none⟩=some (.int .i16 f4)∧w'.cell? ⟨O,0,none⟩=some (.int .i16 f5)∧w'.cell? ⟨O,1,none⟩=some (.int .i16 f6)∧w'.cell? ⟨O,2,none⟩=some (.int .i16 f7)∧w'.cell? ⟨O,3,none⟩=some (.int .i16 f8))∧(Q4_ w' s_.1 0 0 0 0 23)∧(Q4_ w' s_.2 0 0 0 0 23)∧(w'.heap[J]?=some (.cells #[.int .i16 e7,.int .i16 e8,.int .i16 e9,.int .i16 f0] 47 (0,0)))∧(w'.heap[L]?=some (.cells #[.int .i16 f1,.int .i16 f2,.int .i16 f3,.int .i16 f4] 47 (0,0)))∧(w'.heap[O]?=some (.cells #[.int .i16 f5,.int .i16 f6,.int .i16 f7,.int .i16 f8] 47 (0,0)))∧(w.heap.size ≤ s_.1)∧(w.heap.size ≤ s_.1)∧(s_.2 ≠ s_.1)∧(s_.1 ≠ s_.2)∧(J ≠ s_.1)∧(s_.1 ≠ J)∧(L ≠ s_.1)∧(s_.1 ≠ L)∧(O ≠ s_.1)∧(s_.1 ≠ O)∧(w.heap.size ≤ s_.2)∧(w.heap.size ≤ s_.2)∧(J ≠ s_.2)∧(s_.2 ≠ J)∧(L ≠ s_.2)∧(s_.2 ≠ L)∧(O ≠ s_.2)∧(s_.2 ≠ O)∧(Below w.heap.size w w')) ?_ ?_;rotate_left
   ·
    intro p9;refine join_ (σ:=Nat × Nat) 4 #[y_,y_,y_,y_,y_,y_,n_,y_,y_,n_,n_,n_] (fun s_=>[(19,.agg #[.int .i64 i8,.int .i64 e6,.int .i64 f9,.int .i64 g1]),(21,.agg #[.int .i64 g5,.int .i64 g6,.int .i64 h0,.int .i64 h2]),(23,.agg #[.int .i64 g0,.int .i64 g2,.int .i64 g3,.int .i64 g4]),(8,.pointer (some ⟨s_.1,0,none⟩)),(9,.pointer (some ⟨s_.2,0,none⟩))]) (fun s_ w'=>(w'.cell? ⟨J,0,none⟩=some (.int .i16 e7)∧w'.cell? ⟨J,1,none⟩=some (.int .i16 e8)∧w'.cell? ⟨J,2,none⟩=some (.int .i16 e9)∧w'.cell? ⟨J,3,none⟩=some (.int .i16 f0)∧w'.cell? ⟨L,0,none⟩=some (.int .i16 f1)∧w'.cell? ⟨L,1,none⟩=some (.int .i16 f2)∧w'.cell? ⟨L,2,none⟩=some (.int .i16 f3)∧w'.cell? ⟨L,3,none⟩=some (.int .i16 f4)∧w'.cell? ⟨O,0,none⟩=some (.int .i16 f5)∧w'.cell? ⟨O,1,none⟩=some (.int .i16 f6)∧w'.cell? ⟨O,2,none⟩=some (.int .i16 f7)∧w'.cell? ⟨O,3,none⟩=some (.int .i16 f8))∧(Q4_ w' s_.1 0 0 0 0 23)∧(Q4_ w' s_.2 0 0 0 0 23)∧(w'.heap[J]?=some (.cells #[.int .i16 e7,.int .i16 e8,.int .i16 e9,.int .i16 f0] 47 (0,0)))∧(w'.heap[L]?=some (.cells #[.int .i16 f1,.int .i16 f2,.int .i16 f3,.int .i16 f4] 47 (0,0)))∧(w'.heap[O]?=some (.cells #[.int .i16 f5,.int .i16 f6,.int .i16 f7,.int .i16 f8] 47 (0,0)))∧(w.heap.size ≤ s_.1)∧(w.heap.size ≤ s_.1)∧(s_.2 ≠ s_.1)∧(s_.1 ≠ s_.2)∧(J ≠ s_.1)∧(s_.1 ≠ J)∧(L ≠ s_.1)∧(s_.1 ≠ L)∧(O ≠ s_.1)∧(s_.1 ≠ O)∧(w.heap.size ≤ s_.2)∧(w.heap.size ≤ s_.2)∧(J ≠ s_.2)∧(s_.2 ≠ J)∧(L ≠ s_.2)∧(s_.2 ≠ L)∧(O ≠ s_.2)∧(s_.2 ≠ O)∧(Below w.heap.size w w')) ?_ ?_;rotate_left
    ·
     intro q0;refine join_ (σ:=Nat × Nat × Nat) 4 #[y_,y_,y_,y_,y_,n_,y_,y_,y_,n_,n_,n_] (fun s_=>[(19,.agg #[.int .i64 i8,.int .i64 e6,.int .i64 f9,.int .i64 g1]),(21,.agg #[.int .i64 g5,.int .i64 g6,.int .i64 h0,.int .i64 h2]),(7,.pointer (some ⟨s_.1,0,none⟩)),(8,.pointer (some ⟨s_.2.1,0,none⟩)),(9,.pointer (some ⟨s_.2.2,0,none⟩))]) (fun s_ w'=>(w'.cell? ⟨J,0,none⟩=some (.int .i16 e7)∧w'.cell? ⟨J,1,none⟩=some (.int .i16 e8)∧w'.cell? ⟨J,2,none⟩=some (.int .i16 e9)∧w'.cell? ⟨J,3,none⟩=some (.int .i16 f0)∧w'.cell? ⟨L,0,none⟩=some (.int .i16 f1)∧w'.cell? ⟨L,1,none⟩=some (.int .i16 f2)∧w'.cell? ⟨L,2,none⟩=some (.int .i16 f3)∧w'.cell? ⟨L,3,none⟩=some (.int .i16 f4)∧w'.cell? ⟨O,0,none⟩=some (.int .i16 f5)∧w'.cell? ⟨O,1,none⟩=some (.int .i16 f6)∧w'.cell? ⟨O,2,none⟩=some (.int .i16 f7)∧w'.cell? ⟨O,3,none⟩=some (.int .i16 f8))∧(Q4_ w' s_.1 0 0 0 0 23)∧(Q4_ w' s_.2.1 0 0 0 0 23)∧(Q4_ w' s_.2.2 0 0 0 0 23)∧(w'.heap[J]?=some (.cells #[.int .i16 e7,.int .i16 e8,.int .i16 e9,.int .i16 f0] 47 (0,0)))∧(w'.heap[L]?=some (.cells #[.int .i16 f1,.int .i16 f2,.int .i16 f3,.int .i16 f4] 47 (0,0)))∧(w'.heap[O]?=some (.cells #[.int .i16 f5,.int .i16 f6,.int .i16 f7,.int .i16 f8] 47 (0,0)))∧(w.heap.size ≤ s_.1)∧(w.heap.size ≤ s_.1)∧(s_.2.1 ≠ s_.1)∧(s_.1 ≠ s_.2.1)∧(s_.2.2 ≠ s_.1)∧(s_.1 ≠ s_.2.2)∧(J ≠ s_.1)∧(s_.1 ≠ J)∧(L ≠ s_.1)∧(s_.1 ≠ L)∧(O ≠ s_.1)∧(s_.1 ≠ O)∧(w.heap.size ≤ s_.2.1)∧(w.heap.size ≤ s_.2.1)∧(s_.2.2 ≠ s_.2.1)∧(s_.2.1 ≠ s_.2.2)∧(J ≠ s_.2.1)∧(s_.2.1 ≠ J)∧(L ≠ s_.2.1)∧(s_.2.1 ≠ L)∧(O ≠ s_.2.1)∧(s_.2.1 ≠ O)∧(w.heap.size ≤ s_.2.2)∧(w.heap.size ≤ s_.2.2)∧(J ≠ s_.2.2)∧(s_.2.2 ≠ J)∧(L ≠ s_.2.2)∧(s_.2.2 ≠ L)∧(O ≠ s_.2.2)∧(s_.2.2 ≠ O)∧(Below w.heap.size w w')) ?_ ?_;rotate_left
     ·
      intro o5;refine join_ (σ:=Nat) 5 #[y_,y_,y_,y_,y_,y_,y_,n_,n_,n_,n_,n_] (fun s_=>[(19,.agg #[.int .i64 i8,.int .i64 e6,.int .i64 f9,.int .i64 g1]),(21,.agg #[.int .i64 g5,.int .i64 g6,.int .i64 h0,.int .i64 h2]),(23,.agg #[.int .i64 g0,.int .i64 g2,.int .i64 g3,.int .i64 g4]),(7,.pointer (some ⟨s_,0,none⟩))]) (fun s_ w'=>(w'.cell? ⟨J,0,none⟩=some (.int .i16 e7)∧w'.cell? ⟨J,1,none⟩=some (.int .i16 e8)∧w'.cell? ⟨J,2,none⟩=some (.int .i16 e9)∧w'.cell? ⟨J,3,none⟩=some (.int .i16 f0)∧w'.cell? ⟨L,0,none⟩=some (.int .i16 f1)∧w'.cell? ⟨L,1,none⟩=some (.int .i16 f2)∧w'.cell? ⟨L,2,none⟩=some (.int .i16 f3)∧w'.cell? ⟨L,3,none⟩=some (.int .i16 f4)∧w'.cell? ⟨O,0,none⟩=some (.int .i16 f5)∧w'.cell? ⟨O,1,none⟩=some (.int .i16 f6)∧w'.cell? ⟨O,2,none⟩=some (.int .i16 f7)∧w'.cell? ⟨O,3,none⟩=some (.int .i16 f8))∧(Q4_ w' s_ 0 0 0 0 23)∧(w'.heap[J]?=some (.cells #[.int .i16 e7,.int .i16 e8,.int .i16 e9,.int .i16 f0] 47 (0,0)))∧(w'.heap[L]?=some (.cells #[.int .i16 f1,.int .i16 f2,.int .i16 f3,.int .i16 f4] 47 (0,0)))∧(w'.heap[O]?=some (.cells #[.int .i16 f5,.int .i16 f6,.int .i16 f7,.int .i16 f8] 47 (0,0)))∧(w.heap.size ≤ s_)∧(w.heap.size ≤ s_)∧(J ≠ s_)∧(s_ ≠ J)∧(L ≠ s_)∧(s_ ≠ L)∧(O ≠ s_)∧(s_ ≠ O)∧(Below w.heap.size w w')) ?_ ?_;rotate_left
      ·
       intro x3;refine join_ (σ:=Nat) 5 #[y_,y_,y_,y_,y_,y_,n_,y_,n_,n_,n_,n_] (fun s_=>[(19,.agg #[.int .i64 i8,.int .i64 e6,.int .i64 f9,.int .i64 g1]),(21,.agg #[.int .i64 g5,.int .i64 g6,.int .i64 h0,.int .i64 h2]),(23,.agg #[.int .i64 g0,.int .i64 g2,.int .i64 g3,.int .i64 g4]),(8,.pointer (some ⟨s_,0,none⟩))]) (fun s_ w'=>(w'.cell? ⟨J,0,none⟩=some (.int .i16 e7)∧w'.cell? ⟨J,1,none⟩=some (.int .i16 e8)∧w'.cell? ⟨J,2,none⟩=some (.int .i16 e9)∧w'.cell? ⟨J,3,none⟩=some (.int .i16 f0)∧w'.cell? ⟨L,0,none⟩=some (.int .i16 f1)∧w'.cell? ⟨L,1,none⟩=some (.int .i16 f2)∧w'.cell? ⟨L,2,none⟩=some (.int .i16 f3)∧w'.cell? ⟨L,3,none⟩=some (.int .i16 f4)∧w'.cell? ⟨O,0,none⟩=some (.int .i16 f5)∧w'.cell? ⟨O,1,none⟩=some (.int .i16 f6)∧w'.cell? ⟨O,2,none⟩=some (.int .i16 f7)∧w'.cell? ⟨O,3,none⟩=some (.int .i16 f8))∧(Q4_ w' s_ 0 0 0 0 23)∧(w'.heap[J]?=some (.cells #[.int .i16 e7,.int .i16 e8,.int .i16 e9,.int .i16 f0] 47 (0,0)))∧(w'.heap[L]?=some (.cells #[.int .i16 f1,.int .i16 f2,.int .i16 f3,.int .i16 f4] 47 (0,0)))∧(w'.heap[O]?=some (.cells #[.int .i16 f5,.int .i16 f6,.int .i16 f7,.int .i16 f8] 47 (0,0)))∧(w.heap.size ≤ s_)∧(w.heap.size ≤ s_)∧(J ≠ s_)∧(s_ ≠ J)∧(L ≠ s_)∧(s_ ≠ L)∧(O ≠ s_)∧(s_ ≠ O)∧(Below w.heap.size w w')) ?_ ?_;rotate_left
       ·
        intro x4;refine join_ (σ:=Nat) 5 #[y_,y_,y_,y_,y_,y_,n_,n_,y_,n_,n_,n_] (fun s_=>[(19,.agg #[.int .i64 i8,.int .i64 e6,.int .i64 f9,.int .i64 g1]),(21,.agg #[.int .i64 g5,.int .i64 g6,.int .i64 h0,.int .i64 h2]),(23,.agg #[.int .i64 g0,.int .i64 g2,.int .i64 g3,.int .i64 g4]),(9,.pointer (some ⟨s_,0,none⟩))]) (fun s_ w'=>(w'.cell? ⟨J,0,none⟩=some (.int .i16 e7)∧w'.cell? ⟨J,1,none⟩=some (.int .i16 e8)∧w'.cell? ⟨J,2,none⟩=some (.int .i16 e9)∧w'.cell? ⟨J,3,none⟩=some (.int .i16 f0)∧w'.cell? ⟨L,0,none⟩=some (.int .i16 f1)∧w'.cell? ⟨L,1,none⟩=some (.int .i16 f2)∧w'.cell? ⟨L,2,none⟩=some (.int .i16 f3)∧w'.cell? ⟨L,3,none⟩=some (.int .i16 f4)∧w'.cell? ⟨O,0,none⟩=some (.int .i16 f5)∧w'.cell? ⟨O,1,none⟩=some (.int .i16 f6)∧w'.cell? ⟨O,2,none⟩=some (.int .i16 f7)∧w'.cell? ⟨O,3,none⟩=some (.int .i16 f8))∧(Q4_ w' s_ 0 0 0 0 23)∧(w'.heap[J]?=some (.cells #[.int .i16 e7,.int .i16 e8,.int .i16 e9,.int .i16 f0] 47 (0,0)))∧(w'.heap[L]?=some (.cells #[.int .i16 f1,.int .i16 f2,.int .i16 f3,.int .i16 f4] 47 (0,0)))∧(w'.heap[O]?=some (.cells #[.int .i16 f5,.int .i16 f6,.int .i16 f7,.int .i16 f8] 47 (0,0)))∧(w.heap.size ≤ s_)∧(w.heap.size ≤ s_)∧(J ≠ s_)∧(s_ ≠ J)∧(L ≠ s_)∧(s_ ≠ L)∧(O ≠ s_)∧(s_ ≠ O)∧(Below w.heap.size w w')) ?_ ?_;rotate_left
        ·
         intro x5;refine join_ (σ:=Nat × Nat) 5 #[y_,y_,y_,y_,y_,n_,y_,y_,n_,n_,n_,n_] (fun s_=>[(19,.agg #[.int .i64 i8,.int .i64 e6,.int .i64 f9,.int .i64 g1]),(21,.agg #[.int .i64 g5,.int .i64 g6,.int .i64 h0,.int .i64 h2]),(7,.pointer (some ⟨s_.1,0,none⟩)),(8,.pointer (some ⟨s_.2,0,none⟩))]) (fun s_ w'=>(w'.cell? ⟨J,0,none⟩=some (.int .i16 e7)∧w'.cell? ⟨J,1,none⟩=some (.int .i16 e8)∧w'.cell? ⟨J,2,none⟩=some (.int .i16 e9)∧w'.cell? ⟨J,3,none⟩=some (.int .i16 f0)∧w'.cell? ⟨L,0,none⟩=some (.int .i16 f1)∧w'.cell? ⟨L,1,none⟩=some (.int .i16 f2)∧w'.cell? ⟨L,2,none⟩=some (.int .i16 f3)∧w'.cell? ⟨L,3,none⟩=some (.int .i16 f4)∧w'.cell? ⟨O,0,none⟩=some (.int .i16 f5)∧w'.cell? ⟨O,1,none⟩=some (.int .i16 f6)∧w'.cell? ⟨O,2,none⟩=some (.int .i16 f7)∧w'.cell? ⟨O,3,none⟩=some (.int .i16 f8))∧(Q4_ w' s_.1 0 0 0 0 23)∧(Q4_ w' s_.2 0 0 0 0 23)∧(w'.heap[J]?=some (.cells #[.int .i16 e7,.int .i16 e8,.int .i16 e9,.int .i16 f0] 47 (0,0)))∧(w'.heap[L]?=some (.cells #[.int .i16 f1,.int .i16 f2,.int .i16 f3,.int .i16 f4] 47 (0,0)))∧(w'.heap[O]?=some (.cells #[.int .i16 f5,.int .i16 f6,.int .i16 f7,.int .i16 f8] 47 (0,0)))∧(w.heap.size ≤ s_.1)∧(w.heap.size ≤ s_.1)∧(s_.2 ≠ s_.1)∧(s_.1 ≠ s_.2)∧(J ≠ s_.1)∧(s_.1 ≠ J)∧(L ≠ s_.1)∧(s_.1 ≠ L)∧(O ≠ s_.1)∧(s_.1 ≠ O)∧(w.heap.size ≤ s_.2)∧(w.heap.size ≤ s_.2)∧(J ≠ s_.2)∧(s_.2 ≠ J)∧(L ≠ s_.2)∧(s_.2 ≠ L)∧(O ≠ s_.2)∧(s_.2 ≠ O)∧(Below w.heap.size w w')) ?_ ?_;rotate_left
         ·
          intro q7;refine join_ (σ:=Nat × Nat) 5 #[y_,y_,y_,y_,y_,n_,y_,n_,y_,n_,n_,n_] (fun s_=>[(19,.agg #[.int .i64 i8,.int .i64 e6,.int .i64 f9,.int .i64 g1]),(21,.agg #[.int .i64 g5,.int .i64 g6,.int .i64 h0,.int .i64 h2]),(7,.pointer (some ⟨s_.1,0,none⟩)),(9,.pointer (some ⟨s_.2,0,none⟩))]) (fun s_ w'=>(w'.cell? ⟨J,0,none⟩=some (.int .i16 e7)∧w'.cell? ⟨J,1,none⟩=some (.int .i16 e8)∧w'.cell? ⟨J,2,none⟩=some (.int .i16 e9)∧w'.cell? ⟨J,3,none⟩=some (.int .i16 f0)∧w'.cell? ⟨L,0,none⟩=some (.int .i16 f1)∧w'.cell? ⟨L,1,none⟩=some (.int .i16 f2)∧w'.cell? ⟨L,2,none⟩=some (.int .i16 f3)∧w'.cell? ⟨L,3,none⟩=some (.int .i16 f4)∧w'.cell? ⟨O,0,none⟩=some (.int .i16 f5)∧w'.cell? ⟨O,1,none⟩=some (.int .i16 f6)∧w'.cell? ⟨O,2,none⟩=some (.int .i16 f7)∧w'.cell? ⟨O,3,none⟩=some (.int .i16 f8))∧(Q4_ w' s_.1 0 0 0 0 23)∧(Q4_ w' s_.2 0 0 0 0 23)∧(w'.heap[J]?=some (.cells #[.int .i16 e7,.int .i16 e8,.int .i16 e9,.int .i16 f0] 47 (0,0)))∧(w'.heap[L]?=some (.cells #[.int .i16 f1,.int .i16 f2,.int .i16 f3,.int .i16 f4] 47 (0,0)))∧(w'.heap[O]?=some (.cells #[.int .i16 f5,.int .i16 f6,.int .i16 f7,.int .i16 f8] 47 (0,0)))∧(w.heap.size ≤ s_.1)∧(w.heap.size ≤ s_.1)∧(s_.2 ≠ s_.1)∧(s_.1 ≠ s_.2)∧(J ≠ s_.1)∧(s_.1 ≠ J)∧(L ≠ s_.1)∧(s_.1 ≠ L)∧(O ≠ s_.1)∧(s_.1 ≠ O)∧(w.heap.size ≤ s_.2)∧(w.heap.size ≤ s_.2)∧(J ≠ s_.2)∧(s_.2 ≠ J)∧(L ≠ s_.2)∧(s_.2 ≠ L)∧(O ≠ s_.2)∧(s_.2 ≠ O)∧(Below w.heap.size w w')) ?_ ?_;rotate_left
          ·
           intro q8;refine join_ (σ:=Nat × Nat) 5 #[y_,y_,y_,y_,y_,n_,n_,y_,y_,n_,n_,n_] (fun s_=>[(19,.agg #[.int .i64 i8,.int .i64 e6,.int .i64 f9,.int .i64 g1]),(21,.agg #[.int .i64 g5,.int .i64 g6,.int .i64 h0,.int .i64 h2]),(8,.pointer (some ⟨s_.1,0,none⟩)),(9,.pointer (some ⟨s_.2,0,none⟩))]) (fun s_ w'=>(w'.cell? ⟨J,0,none⟩=some (.int .i16 e7)∧w'.cell? ⟨J,1,none⟩=some (.int .i16 e8)∧w'.cell? ⟨J,2,none⟩=some (.int .i16 e9)∧w'.cell? ⟨J,3,none⟩=some (.int .i16 f0)∧w'.cell? ⟨L,0,none⟩=some (.int .i16 f1)∧w'.cell? ⟨L,1,none⟩=some (.int .i16 f2)∧w'.cell? ⟨L,2,none⟩=some (.int .i16 f3)∧w'.cell? ⟨L,3,none⟩=some (.int .i16 f4)∧w'.cell? ⟨O,0,none⟩=some (.int .i16 f5)∧w'.cell? ⟨O,1,none⟩=some (.int .i16 f6)∧w'.cell? ⟨O,2,none⟩=some (.int .i16 f7)∧w'.cell? ⟨O,3,none⟩=some (.int .i16 f8))∧(Q4_ w' s_.1 0 0 0 0 23)∧(Q4_ w' s_.2 0 0 0 0 23)∧(w'.heap[J]?=some (.cells #[.int .i16 e7,.int .i16 e8,.int .i16 e9,.int .i16 f0] 47 (0,0)))∧(w'.heap[L]?=some (.cells #[.int .i16 f1,.int .i16 f2,.int .i16 f3,.int .i16 f4] 47 (0,0)))∧(w'.heap[O]?=some (.cells #[.int .i16 f5,.int .i16 f6,.int .i16 f7,.int .i16 f8] 47 (0,0)))∧(w.heap.size ≤ s_.1)∧(w.heap.size ≤ s_.1)∧(s_.2 ≠ s_.1)∧(s_.1 ≠ s_.2)∧(J ≠ s_.1)∧(s_.1 ≠ J)∧(L ≠ s_.1)∧(s_.1 ≠ L)∧(O ≠ s_.1)∧(s_.1 ≠ O)∧(w.heap.size ≤ s_.2)∧(w.heap.size ≤ s_.2)∧(J ≠ s_.2)∧(s_.2 ≠ J)∧(L ≠ s_.2)∧(s_.2 ≠ L)∧(O ≠ s_.2)∧(s_.2 ≠ O)∧(Below w.heap.size w w')) ?_ ?_;rotate_left
           ·
            intro q9;refine join_ (σ:=Nat × Nat × Nat) 5 #[y_,y_,y_,n_,y_,n_,y_,y_,y_,n_,n_,n_] (fun s_=>[(19,.agg #[.int .i64 i8,.int .i64 e6,.int .i64 f9,.int .i64 g1]),(7,.pointer (some ⟨s_.1,0,none⟩)),(8,.pointer (some ⟨s_.2.1,0,none⟩)),(9,.pointer (some ⟨s_.2.2,0,none⟩))]) (fun s_ w'=>(w'.cell? ⟨J,0,none⟩=some (.int .i16 e7)∧w'.cell? ⟨J,1,none⟩=some (.int .i16 e8)∧w'.cell? ⟨J,2,none⟩=some (.int .i16 e9)∧w'.cell? ⟨J,3,none⟩=some (.int .i16 f0)∧w'.cell? ⟨L,0,none⟩=some (.int .i16 f1)∧w'.cell? ⟨L,1,none⟩=some (.int .i16 f2)∧w'.cell? ⟨L,2,none⟩=some (.int .i16 f3)∧w'.cell? ⟨L,3,none⟩=some (.int .i16 f4)∧w'.cell? ⟨O,0,none⟩=some (.int .i16 f5)∧w'.cell? ⟨O,1,none⟩=some (.int .i16 f6)∧w'.cell? ⟨O,2,none⟩=some (.int .i16 f7)∧w'.cell? ⟨O,3,none⟩=some (.int .i16 f8))∧(Q4_ w' s_.1 0 0 0 0 23)∧(Q4_ w' s_.2.1 0 0 0 0 23)∧(Q4_ w' s_.2.2 0 0 0 0 23)∧(w'.heap[J]?=some (.cells #[.int .i16 e7,.int .i16 e8,.int .i16 e9,.int .i16 f0] 47 (0,0)))∧(w'.heap[L]?=some (.cells #[.int .i16 f1,.int .i16 f2,.int .i16 f3,.int .i16 f4] 47 (0,0)))∧(w'.heap[O]?=some (.cells #[.int .i16 f5,.int .i16 f6,.int .i16 f7,.int .i16 f8] 47 (0,0)))∧(w.heap.size ≤ s_.1)∧(w.heap.size ≤ s_.1)∧(s_.2.1 ≠ s_.1)∧(s_.1 ≠ s_.2.1)∧(s_.2.2 ≠ s_.1)∧(s_.1 ≠ s_.2.2)∧(J ≠ s_.1)∧(s_.1 ≠ J)∧(L ≠ s_.1)∧(s_.1 ≠ L)∧(O ≠ s_.1)∧(s_.1 ≠ O)∧(w.heap.size ≤ s_.2.1)∧(w.heap.size ≤ s_.2.1)∧(s_.2.2 ≠ s_.2.1)∧(s_.2.1 ≠ s_.2.2)∧(J ≠ s_.2.1)∧(s_.2.1 ≠ J)∧(L ≠ s_.2.1)∧(s_.2.1 ≠ L)∧(O ≠ s_.2.1)∧(s_.2.1 ≠ O)∧(w.heap.size ≤ s_.2.2)∧(w.heap.size ≤ s_.2.2)∧(J ≠ s_.2.2)∧(s_.2.2 ≠ J)∧(L ≠ s_.2.2)∧(s_.2.2 ≠ L)∧(O ≠ s_.2.2)∧(s_.2.2 ≠ O)∧(Below w.heap.size w w')) ?_ ?_;rotate_left
            ·
             intro p6;refine join_ (σ:=Unit) 6 #[y_,y_,y_,y_,y_,y_,n_,n_,n_,n_,n_,n_] (fun s_=>[(19,.agg #[.int .i64 i8,.int .i64 e6,.int .i64 f9,.int .i64 g1]),(21,.agg #[.int .i64 g5,.int .i64 g6,.int .i64 h0,.int .i64 h2]),(23,.agg #[.int .i64 g0,.int .i64 g2,.int .i64 g3,.int .i64 g4])]) (fun s_ w'=>(w'.cell? ⟨J,0,none⟩=some (.int .i16 e7)∧w'.cell? ⟨J,1,none⟩=some (.int .i16 e8)∧w'.cell? ⟨J,2,none⟩=some (.int .i16 e9)∧w'.cell? ⟨J,3,none⟩=some (.int .i16 f0)∧w'.cell? ⟨L,0,none⟩=some (.int .i16 f1)∧w'.cell? ⟨L,1,none⟩=some (.int .i16 f2)∧w'.cell? ⟨L,2,none⟩=some (.int .i16 f3)∧w'.cell? ⟨L,3,none⟩=some (.int .i16 f4)∧w'.cell? ⟨O,0,none⟩=some (.int .i16 f5)∧w'.cell? ⟨O,1,none⟩=some (.int .i16 f6)∧w'.cell? ⟨O,2,none⟩=some (.int .i16 f7)∧w'.cell? ⟨O,3,none⟩=some (.int .i16 f8))∧(w'.heap[J]?=some (.cells #[.int .i16 e7,.int .i16 e8,.int .i16 e9,.int .i16 f0] 47 (0,0)))∧(w'.heap[L]?=some (.cells #[.int .i16 f1,.int .i16 f2,.int .i16 f3,.int .i16 f4] 47 (0,0)))∧(w'.heap[O]?=some (.cells #[.int .i16 f5,.int .i16 f6,.int .i16 f7,.int .i16 f8] 47 (0,0)))∧(Below w.heap.size w w')) ?_ ?_;rotate_left
             ·
              intro U8;refine join_ (σ:=Nat) 6 #[y_,y_,y_,y_,y_,n_,y_,n_,n_,n_,n_,n_] (fun s_=>[(19,.agg #[.int .i64 i8,.int .i64 e6,.int .i64 f9,.int .i64 g1]),(21,.agg #[.int .i64 g5,.int .i64 g6,.int .i64 h0,.int .i64 h2]),(7,.pointer (some ⟨s_,0,none⟩))]) (fun s_ w'=>(w'.cell? ⟨J,0,none⟩=some (.int .i16 e7)∧w'.cell? ⟨J,1,none⟩=some (.int .i16 e8)∧w'.cell? ⟨J,2,none⟩=some (.int .i16 e9)∧w'.cell? ⟨J,3,none⟩=some (.int .i16 f0)∧w'.cell? ⟨L,0,none⟩=some (.int .i16 f1)∧w'.cell? ⟨L,1,none⟩=some (.int .i16 f2)∧w'.cell? ⟨L,2,none⟩=some (.int .i16 f3)∧w'.cell? ⟨L,3,none⟩=some (.int .i16 f4)∧w'.cell? ⟨O,0,none⟩=some (.int .i16 f5)∧w'.cell? ⟨O,1,none⟩=some (.int .i16 f6)∧w'.cell? ⟨O,2,none⟩=some (.int .i16 f7)∧w'.cell? ⟨O,3,none⟩=some (.int .i16 f8))∧(Q4_ w' s_ 0 0 0 0 23)∧(w'.heap[J]?=some (.cells #[.int .i16 e7,.int .i16 e8,.int .i16 e9,.int .i16 f0] 47 (0,0)))∧(w'.heap[L]?=some (.cells #[.int .i16 f1,.int .i16 f2,.int .i16 f3,.int .i16 f4] 47 (0,0)))∧(w'.heap[O]?=some (.cells #[.int .i16 f5,.int .i16 f6,.int .i16 f7,.int .i16 f8] 47 (0,0)))∧(w.heap.size ≤ s_)∧(w.heap.size ≤ s_)∧(J ≠ s_)∧(s_ ≠ J)∧(L ≠ s_)∧(s_ ≠ L)∧(O ≠ s_)∧(s_ ≠ O)∧(Below w.heap.size w w')) ?_ ?_;rotate_left
              ·
               intro B8;refine join_ (σ:=Nat) 6 #[y_,y_,y_,y_,y_,n_,n_,y_,n_,n_,n_,n_] (fun s_=>[(19,.agg #[.int .i64 i8,.int .i64 e6,.int .i64 f9,.int .i64 g1]),(21,.agg #[.int .i64 g5,.int .i64 g6,.int .i64 h0,.int .i64 h2]),(8,.pointer (some ⟨s_,0,none⟩))]) (fun s_ w'=>(w'.cell? ⟨J,0,none⟩=some (.int .i16 e7)∧w'.cell? ⟨J,1,none⟩=some (.int .i16 e8)∧w'.cell? ⟨J,2,none⟩=some (.int .i16 e9)∧w'.cell? ⟨J,3,none⟩=some (.int .i16 f0)∧w'.cell? ⟨L,0,none⟩=some (.int .i16 f1)∧w'.cell? ⟨L,1,none⟩=some (.int .i16 f2)∧w'.cell? ⟨L,2,none⟩=some (.int .i16 f3)∧w'.cell? ⟨L,3,none⟩=some (.int .i16 f4)∧w'.cell? ⟨O,0,none⟩=some (.int .i16 f5)∧w'.cell? ⟨O,1,none⟩=some (.int .i16 f6)∧w'.cell? ⟨O,2,none⟩=some (.int .i16 f7)∧w'.cell? ⟨O,3,none⟩=some (.int .i16 f8))∧(Q4_ w' s_ 0 0 0 0 23)∧(w'.heap[J]?=some (.cells #[.int .i16 e7,.int .i16 e8,.int .i16 e9,.int .i16 f0] 47 (0,0)))∧(w'.heap[L]?=some (.cells #[.int .i16 f1,.int .i16 f2,.int .i16 f3,.int .i16 f4] 47 (0,0)))∧(w'.heap[O]?=some (.cells #[.int .i16 f5,.int .i16 f6,.int .i16 f7,.int .i16 f8] 47 (0,0)))∧(w.heap.size ≤ s_)∧(w.heap.size ≤ s_)∧(J ≠ s_)∧(s_ ≠ J)∧(L ≠ s_)∧(s_ ≠ L)∧(O ≠ s_)∧(s_ ≠ O)∧(Below w.heap.size w w')) ?_ ?_;rotate_left
               ·
                intro B9;refine join_ (σ:=Nat) 6 #[y_,y_,y_,y_,y_,n_,n_,n_,y_,n_,n_,n_] (fun s_=>[(19,.agg #[.int .i64 i8,.int .i64 e6,.int .i64 f9,.int .i64 g1]),(21,.agg #[.int .i64 g5,.int .i64 g6,.int .i64 h0,.int .i64 h2]),(9,.pointer (some ⟨s_,0,none⟩))]) (fun s_ w'=>(w'.cell? ⟨J,0,none⟩=some (.int .i16 e7)∧w'.cell? ⟨J,1,none⟩=some (.int .i16 e8)∧w'.cell? ⟨J,2,none⟩=some (.int .i16 e9)∧w'.cell? ⟨J,3,none⟩=some (.int .i16 f0)∧w'.cell? ⟨L,0,none⟩=some (.int .i16 f1)∧w'.cell? ⟨L,1,none⟩=some (.int .i16 f2)∧w'.cell? ⟨L,2,none⟩=some (.int .i16 f3)∧w'.cell? ⟨L,3,none⟩=some (.int .i16 f4)∧w'.cell? ⟨O,0,none⟩=some (.int .i16 f5)∧w'.cell? ⟨O,1,none⟩=some (.int .i16 f6)∧w'.cell? ⟨O,2,none⟩=some (.int .i16 f7)∧w'.cell? ⟨O,3,none⟩=some (.int .i16 f8))∧(Q4_ w' s_ 0 0 0 0 23)∧(w'.heap[J]?=some (.cells #[.int .i16 e7,.int .i16 e8,.int .i16 e9,.int .i16 f0] 47 (0,0)))∧(w'.heap[L]?=some (.cells #[.int .i16 f1,.int .i16 f2,.int .i16 f3,.int .i16 f4] 47 (0,0)))∧(w'.heap[O]?=some (.cells #[.int .i16 f5,.int .i16 f6,.int .i16 f7,.int .i16 f8] 47 (0,0)))∧(w.heap.size ≤ s_)∧(w.heap.size ≤ s_)∧(J ≠ s_)∧(s_ ≠ J)∧(L ≠ s_)∧(s_ ≠ L)∧(O ≠ s_)∧(s_ ≠ O)∧(Below w.heap.size w w')) ?_ ?_;rotate_left
                ·
                 intro C0;refine join_ (σ:=Nat × Nat) 6 #[y_,y_,y_,n_,y_,n_,y_,y_,n_,n_,n_,n_] (fun s_=>[(19,.agg #[.int .i64 i8,.int .i64 e6,.int .i64 f9,.int .i64 g1]),(7,.pointer (some ⟨s_.1,0,none⟩)),(8,.pointer (some ⟨s_.2,0,none⟩))]) (fun s_ w'=>(w'.cell? ⟨J,0,none⟩=some (.int .i16 e7)∧w'.cell? ⟨J,1,none⟩=some (.int .i16 e8)∧w'.cell? ⟨J,2,none⟩=some (.int .i16 e9)∧w'.cell? ⟨J,3,none⟩=some (.int .i16 f0)∧w'.cell? ⟨L,0,none⟩=some (.int .i16 f1)∧w'.cell? ⟨L,1,none⟩=some (.int .i16 f2)∧w'.cell? ⟨L,2,none⟩=some (.int .i16 f3)∧w'.cell? ⟨L,3,none⟩=some (.int .i16 f4)∧w'.cell? ⟨O,0,none⟩=some (.int .i16 f5)∧w'.cell? ⟨O,1,none⟩=some (.int .i16 f6)∧w'.cell? ⟨O,2,none⟩=some (.int .i16 f7)∧w'.cell? ⟨O,3,none⟩=some (.int .i16 f8))∧(Q4_ w' s_.1 0 0 0 0 23)∧(Q4_ w' s_.2 0 0 0 0 23)∧(w'.heap[J]?=some (.cells #[.int .i16 e7,.int .i16 e8,.int .i16 e9,.int .i16 f0] 47 (0,0)))∧(w'.heap[L]?=some (.cells #[.int .i16 f1,.int .i16 f2,.int .i16 f3,.int .i16 f4] 47 (0,0)))∧(w'.heap[O]?=some (.cells #[.int .i16 f5,.int .i16 f6,.int .i16 f7,.int .i16 f8] 47 (0,0)))∧(w.heap.size ≤ s_.1)∧(w.heap.size ≤ s_.1)∧(s_.2 ≠ s_.1)∧(s_.1 ≠ s_.2)∧(J ≠ s_.1)∧(s_.1 ≠ J)∧(L ≠ s_.1)∧(s_.1 ≠ L)∧(O ≠ s_.1)∧(s_.1 ≠ O)∧(w.heap.size ≤ s_.2)∧(w.heap.size ≤ s_.2)∧(J ≠ s_.2)∧(s_.2 ≠ J)∧(L ≠ s_.2)∧(s_.2 ≠ L)∧(O ≠ s_.2)∧(s_.2 ≠ O)∧(Below w.heap.size w w')) ?_ ?_;rotate_left
                 ·
                  intro v8;refine join_ (σ:=Nat × Nat) 6 #[y_,y_,y_,n_,y_,n_,y_,n_,y_,n_,n_,n_] (fun s_=>[(19,.agg #[.int .i64 i8,.int .i64 e6,.int .i64 f9,.int .i64 g1]),(7,.pointer (some ⟨s_.1,0,none⟩)),(9,.pointer (some ⟨s_.2,0,none⟩))]) (fun s_ w'=>(w'.cell? ⟨J,0,none⟩=some (.int .i16 e7)∧w'.cell? ⟨J,1,none⟩=some (.int .i16 e8)∧w'.cell? ⟨J,2,none⟩=some (.int .i16 e9)∧w'.cell? ⟨J,3,none⟩=some (.int .i16 f0)∧w'.cell? ⟨L,0,none⟩=some (.int .i16 f1)∧w'.cell? ⟨L,1,none⟩=some (.int .i16 f2)∧w'.cell? ⟨L,2,none⟩=some (.int .i16 f3)∧w'.cell? ⟨L,3,none⟩=some (.int .i16 f4)∧w'.cell? ⟨O,0,none⟩=some (.int .i16 f5)∧w'.cell? ⟨O,1,none⟩=some (.int .i16 f6)∧w'.cell? ⟨O,2,none⟩=some (.int .i16 f7)∧w'.cell? ⟨O,3,none⟩=some (.int .i16 f8))∧(Q4_ w' s_.1 0 0 0 0 23)∧(Q4_ w' s_.2 0 0 0 0 23)∧(w'.heap[J]?=some (.cells #[.int .i16 e7,.int .i16 e8,.int .i16 e9,.int .i16 f0] 47 (0,0)))∧(w'.heap[L]?=some (.cells #[.int .i16 f1,.int .i16 f2,.int .i16 f3,.int .i16 f4] 47 (0,0)))∧(w'.heap[O]?=some (.cells #[.int .i16 f5,.int .i16 f6,.int .i16 f7,.int .i16 f8] 47 (0,0)))∧(w.heap.size ≤ s_.1)∧(w.heap.size ≤ s_.1)∧(s_.2 ≠ s_.1)∧(s_.1 ≠ s_.2)∧(J ≠ s_.1)∧(s_.1 ≠ J)∧(L ≠ s_.1)∧(s_.1 ≠ L)∧(O ≠ s_.1)∧(s_.1 ≠ O)∧(w.heap.size ≤ s_.2)∧(w.heap.size ≤ s_.2)∧(J ≠ s_.2)∧(s_.2 ≠ J)∧(L ≠ s_.2)∧(s_.2 ≠ L)∧(O ≠ s_.2)∧(s_.2 ≠ O)∧(Below w.heap.size w w')) ?_ ?_;rotate_left
                  ·
                   intro v9;refine join_ (σ:=Nat × Nat) 6 #[y_,y_,y_,n_,y_,n_,n_,y_,y_,n_,n_,n_] (fun s_=>[(19,.agg #[.int .i64 i8,.int .i64 e6,.int .i64 f9,.int .i64 g1]),(8,.pointer (some ⟨s_.1,0,none⟩)),(9,.pointer (some ⟨s_.2,0,none⟩))]) (fun s_ w'=>(w'.cell? ⟨J,0,none⟩=some (.int .i16 e7)∧w'.cell? ⟨J,1,none⟩=some (.int .i16 e8)∧w'.cell? ⟨J,2,none⟩=some (.int .i16 e9)∧w'.cell? ⟨J,3,none⟩=some (.int .i16 f0)∧w'.cell? ⟨L,0,none⟩=some (.int .i16 f1)∧w'.cell? ⟨L,1,none⟩=some (.int .i16 f2)∧w'.cell? ⟨L,2,none⟩=some (.int .i16 f3)∧w'.cell? ⟨L,3,none⟩=some (.int .i16 f4)∧w'.cell? ⟨O,0,none⟩=some (.int .i16 f5)∧w'.cell? ⟨O,1,none⟩=some (.int .i16 f6)∧w'.cell? ⟨O,2,none⟩=some (.int .i16 f7)∧w'.cell? ⟨O,3,none⟩=some (.int .i16 f8))∧(Q4_ w' s_.1 0 0 0 0 23)∧(Q4_ w' s_.2 0 0 0 0 23)∧(w'.heap[J]?=some (.cells #[.int .i16 e7,.int .i16 e8,.int .i16 e9,.int .i16 f0] 47 (0,0)))∧(w'.heap[L]?=some (.cells #[.int .i16 f1,.int .i16 f2,.int .i16 f3,.int .i16 f4] 47 (0,0)))∧(w'.heap[O]?=some (.cells #[.int .i16 f5,.int .i16 f6,.int .i16 f7,.int .i16 f8] 47 (0,0)))∧(w.heap.size ≤ s_.1)∧(w.heap.size ≤ s_.1)∧(s_.2 ≠ s_.1)∧(s_.1 ≠ s_.2)∧(J ≠ s_.1)∧(s_.1 ≠ J)∧(L ≠ s_.1)∧(s_.1 ≠ L)∧(O ≠ s_.1)∧(s_.1 ≠ O)∧(w.heap.size ≤ s_.2)∧(w.heap.size ≤ s_.2)∧(J ≠ s_.2)∧(s_.2 ≠ J)∧(L ≠ s_.2)∧(s_.2 ≠ L)∧(O ≠ s_.2)∧(s_.2 ≠ O)∧(Below w.heap.size w w')) ?_ ?_;rotate_left
                   ·
                    intro x0;refine join_ (σ:=Nat × Nat × Nat) 6 #[y_,n_,y_,n_,y_,n_,y_,y_,y_,n_,n_,n_] (fun s_=>[(7,.pointer (some ⟨s_.1,0,none⟩)),(8,.pointer (some ⟨s_.2.1,0,none⟩)),(9,.pointer (some ⟨s_.2.2,0,none⟩))]) (fun s_ w'=>(w'.cell? ⟨J,0,none⟩=some (.int .i16 e7)∧w'.cell? ⟨J,1,none⟩=some (.int .i16 e8)∧w'.cell? ⟨J,2,none⟩=some (.int .i16 e9)∧w'.cell? ⟨J,3,none⟩=some (.int .i16 f0)∧w'.cell? ⟨L,0,none⟩=some (.int .i16 f1)∧w'.cell? ⟨L,1,none⟩=some (.int .i16 f2)∧w'.cell? ⟨L,2,none⟩=some (.int .i16 f3)∧w'.cell? ⟨L,3,none⟩=some (.int .i16 f4)∧w'.cell? ⟨O,0,none⟩=some (.int .i16 f5)∧w'.cell? ⟨O,1,none⟩=some (.int .i16 f6)∧w'.cell? ⟨O,2,none⟩=some (.int .i16 f7)∧w'.cell? ⟨O,3,none⟩=some (.int .i16 f8))∧(Q4_ w' s_.1 0 0 0 0 23)∧(Q4_ w' s_.2.1 0 0 0 0 23)∧(Q4_ w' s_.2.2 0 0 0 0 23)∧(w'.heap[J]?=some (.cells #[.int .i16 e7,.int .i16 e8,.int .i16 e9,.int .i16 f0] 47 (0,0)))∧(w'.heap[L]?=some (.cells #[.int .i16 f1,.int .i16 f2,.int .i16 f3,.int .i16 f4] 47 (0,0)))∧(w'.heap[O]?=some (.cells #[.int .i16 f5,.int .i16 f6,.int .i16 f7,.int .i16 f8] 47 (0,0)))∧(w.heap.size ≤ s_.1)∧(w.heap.size ≤ s_.1)∧(s_.2.1 ≠ s_.1)∧(s_.1 ≠ s_.2.1)∧(s_.2.2 ≠ s_.1)∧(s_.1 ≠ s_.2.2)∧(J ≠ s_.1)∧(s_.1 ≠ J)∧(L ≠ s_.1)∧(s_.1 ≠ L)∧(O ≠ s_.1)∧(s_.1 ≠ O)∧(w.heap.size ≤ s_.2.1)∧(w.heap.size ≤ s_.2.1)∧(s_.2.2 ≠ s_.2.1)∧(s_.2.1 ≠ s_.2.2)∧(J ≠ s_.2.1)∧(s_.2.1 ≠ J)∧(L ≠ s_.2.1)∧(s_.2.1 ≠ L)∧(O ≠ s_.2.1)∧(s_.2.1 ≠ O)∧(w.heap.size ≤ s_.2.2)∧(w.heap.size ≤ s_.2.2)∧(J ≠ s_.2.2)∧(s_.2.2 ≠ J)∧(L ≠ s_.2.2)∧(s_.2.2 ≠ L)∧(O ≠ s_.2.2)∧(s_.2.2 ≠ O)∧(Below w.heap.size w w')) ?_ ?_;rotate_left
                    ·
                     intro x1;refine join_ (σ:=Unit) 7 #[y_,y_,y_,y_,y_,n_,n_,n_,n_,n_,n_,n_] (fun s_=>[(19,.agg #[.int .i64 i8,.int .i64 e6,.int .i64 f9,.int .i64 g1]),(21,.agg #[.int .i64 g5,.int .i64 g6,.int .i64 h0,.int .i64 h2])]) (fun s_ w'=>(w'.cell? ⟨J,0,none⟩=some (.int .i16 e7)∧w'.cell? ⟨J,1,none⟩=some (.int .i16 e8)∧w'.cell? ⟨J,2,none⟩=some (.int .i16 e9)∧w'.cell? ⟨J,3,none⟩=some (.int .i16 f0)∧w'.cell? ⟨L,0,none⟩=some (.int .i16 f1)∧w'.cell? ⟨L,1,none⟩=some (.int .i16 f2)∧w'.cell? ⟨L,2,none⟩=some (.int .i16 f3)∧w'.cell? ⟨L,3,none⟩=some (.int .i16 f4)∧w'.cell? ⟨O,0,none⟩=some (.int .i16 f5)∧w'.cell? ⟨O,1,none⟩=some (.int .i16 f6)∧w'.cell? ⟨O,2,none⟩=some (.int .i16 f7)∧w'.cell? ⟨O,3,none⟩=some (.int .i16 f8))∧(w'.heap[J]?=some (.cells #[.int .i16 e7,.int .i16 e8,.int .i16 e9,.int .i16 f0] 47 (0,0)))∧(w'.heap[L]?=some (.cells #[.int .i16 f1,.int .i16 f2,.int .i16 f3,.int .i16 f4] 47 (0,0)))∧(w'.heap[O]?=some (.cells #[.int .i16 f5,.int .i16 f6,.int .i16 f7,.int .i16 f8] 47 (0,0)))∧(Below w.heap.size w w')) ?_ ?_;rotate_left
                     ·
                      intro Z7;refine join_ (σ:=Nat) 7 #[y_,y_,y_,n_,y_,n_,y_,n_,n_,n_,n_,n_] (fun s_=>[(19,.agg #[.int .i64 i8,.int .i64 e6,.int .i64 f9,.int .i64 g1]),(7,.pointer (some ⟨s_,0,none⟩))]) (fun s_ w'=>(w'.cell? ⟨J,0,none⟩=some (.int .i16 e7)∧w'.cell? ⟨J,1,none⟩=some (.int .i16 e8)∧w'.cell? ⟨J,2,none⟩=some (.int .i16 e9)∧w'.cell? ⟨J,3,none⟩=some (.int .i16 f0)∧w'.cell? ⟨L,0,none⟩=some (.int .i16 f1)∧w'.cell? ⟨L,1,none⟩=some (.int .i16 f2)∧w'.cell? ⟨L,2,none⟩=some (.int .i16 f3)∧w'.cell? ⟨L,3,none⟩=some (.int .i16 f4)∧w'.cell? ⟨O,0,none⟩=some (.int .i16 f5)∧w'.cell? ⟨O,1,none⟩=some (.int .i16 f6)∧w'.cell? ⟨O,2,none⟩=some (.int .i16 f7)∧w'.cell? ⟨O,3,none⟩=some (.int .i16 f8))∧(Q4_ w' s_ 0 0 0 0 23)∧(w'.heap[J]?=some (.cells #[.int .i16 e7,.int .i16 e8,.int .i16 e9,.int .i16 f0] 47 (0,0)))∧(w'.heap[L]?=some (.cells #[.int .i16 f1,.int .i16 f2,.int .i16 f3,.int .i16 f4] 47 (0,0)))∧(w'.heap[O]?=some (.cells #[.int .i16 f5,.int .i16 f6,.int .i16 f7,.int .i16 f8] 47 (0,0)))∧(w.heap.size ≤ s_)∧(w.heap.size ≤ s_)∧(J ≠ s_)∧(s_ ≠ J)∧(L ≠ s_)∧(s_ ≠ L)∧(O ≠ s_)∧(s_ ≠ O)∧(Below w.heap.size w w')) ?_ ?_;rotate_left
                      ·
                       intro R6;refine join_ (σ:=Nat) 7 #[y_,y_,y_,n_,y_,n_,n_,y_,n_,n_,n_,n_] (fun s_=>[(19,.agg #[.int .i64 i8,.int .i64 e6,.int .i64 f9,.int .i64 g1]),(8,.pointer (some ⟨s_,0,none⟩))]) (fun s_ w'=>(w'.cell? ⟨J,0,none⟩=some (.int .i16 e7)∧w'.cell? ⟨J,1,none⟩=some (.int .i16 e8)∧w'.cell? ⟨J,2,none⟩=some (.int .i16 e9)∧w'.cell? ⟨J,3,none⟩=some (.int .i16 f0)∧w'.cell? ⟨L,0,none⟩=some (.int .i16 f1)∧w'.cell? ⟨L,1,none⟩=some (.int .i16 f2)∧w'.cell? ⟨L,2,none⟩=some (.int .i16 f3)∧w'.cell? ⟨L,3,none⟩=some (.int .i16 f4)∧w'.cell? ⟨O,0,none⟩=some (.int .i16 f5)∧w'.cell? ⟨O,1,none⟩=some (.int .i16 f6)∧w'.cell? ⟨O,2,none⟩=some (.int .i16 f7)∧w'.cell? ⟨O,3,none⟩=some (.int .i16 f8))∧(Q4_ w' s_ 0 0 0 0 23)∧(w'.heap[J]?=some (.cells #[.int .i16 e7,.int .i16 e8,.int .i16 e9,.int .i16 f0] 47 (0,0)))∧(w'.heap[L]?=some (.cells #[.int .i16 f1,.int .i16 f2,.int .i16 f3,.int .i16 f4] 47 (0,0)))∧(w'.heap[O]?=some (.cells #[.int .i16 f5,.int .i16 f6,.int .i16 f7,.int .i16 f8] 47 (0,0)))∧(w.heap.size ≤ s_)∧(w.heap.size ≤ s_)∧(J ≠ s_)∧(s_ ≠ J)∧(L ≠ s_)∧(s_ ≠ L)∧(O ≠ s_)∧(s_ ≠ O)∧(Below w.heap.size w w')) ?_ ?_;rotate_left
                       ·
                        intro R7;refine join_ (σ:=Nat) 7 #[y_,y_,y_,n_,y_,n_,n_,n_,y_,n_,n_,n_] (fun s_=>[(19,.agg #[.int .i64 i8,.int .i64 e6,.int .i64 f9,.int .i64 g1]),(9,.pointer (some ⟨s_,0,none⟩))]) (fun s_ w'=>(w'.cell? ⟨J,0,none⟩=some (.int .i16 e7)∧w'.cell? ⟨J,1,none⟩=some (.int .i16 e8)∧w'.cell? ⟨J,2,none⟩=some (.int .i16 e9)∧w'.cell? ⟨J,3,none⟩=some (.int .i16 f0)∧w'.cell? ⟨L,0,none⟩=some (.int .i16 f1)∧w'.cell? ⟨L,1,none⟩=some (.int .i16 f2)∧w'.cell? ⟨L,2,none⟩=some (.int .i16 f3)∧w'.cell? ⟨L,3,none⟩=some (.int .i16 f4)∧w'.cell? ⟨O,0,none⟩=some (.int .i16 f5)∧w'.cell? ⟨O,1,none⟩=some (.int .i16 f6)∧w'.cell? ⟨O,2,none⟩=some (.int .i16 f7)∧w'.cell? ⟨O,3,none⟩=some (.int .i16 f8))∧(Q4_ w' s_ 0 0 0 0 23)∧(w'.heap[J]?=some (.cells #[.int .i16 e7,.int .i16 e8,.int .i16 e9,.int .i16 f0] 47 (0,0)))∧(w'.heap[L]?=some (.cells #[.int .i16 f1,.int .i16 f2,.int .i16 f3,.int .i16 f4] 47 (0,0)))∧(w'.heap[O]?=some (.cells #[.int .i16 f5,.int .i16 f6,.int .i16 f7,.int .i16 f8] 47 (0,0)))∧(w.heap.size ≤ s_)∧(w.heap.size ≤ s_)∧(J ≠ s_)∧(s_ ≠ J)∧(L ≠ s_)∧(s_ ≠ L)∧(O ≠ s_)∧(s_ ≠ O)∧(Below w.heap.size w w')) ?_ ?_;rotate_left
                        ·
                         intro R8;refine join_ (σ:=Nat × Nat) 7 #[y_,n_,y_,n_,y_,n_,y_,y_,n_,n_,n_,n_] (fun s_=>[(7,.pointer (some ⟨s_.1,0,none⟩)),(8,.pointer (some ⟨s_.2,0,none⟩))]) (fun s_ w'=>(w'.cell? ⟨J,0,none⟩=some (.int .i16 e7)∧w'.cell? ⟨J,1,none⟩=some (.int .i16 e8)∧w'.cell? ⟨J,2,none⟩=some (.int .i16 e9)∧w'.cell? ⟨J,3,none⟩=some (.int .i16 f0)∧w'.cell? ⟨L,0,none⟩=some (.int .i16 f1)∧w'.cell? ⟨L,1,none⟩=some (.int .i16 f2)∧w'.cell? ⟨L,2,none⟩=some (.int .i16 f3)∧w'.cell? ⟨L,3,none⟩=some (.int .i16 f4)∧w'.cell? ⟨O,0,none⟩=some (.int .i16 f5)∧w'.cell? ⟨O,1,none⟩=some (.int .i16 f6)∧w'.cell? ⟨O,2,none⟩=some (.int .i16 f7)∧w'.cell? ⟨O,3,none⟩=some (.int .i16 f8))∧(Q4_ w' s_.1 0 0 0 0 23)∧(Q4_ w' s_.2 0 0 0 0 23)∧(w'.heap[J]?=some (.cells #[.int .i16 e7,.int .i16 e8,.int .i16 e9,.int .i16 f0] 47 (0,0)))∧(w'.heap[L]?=some (.cells #[.int .i16 f1,.int .i16 f2,.int .i16 f3,.int .i16 f4] 47 (0,0)))∧(w'.heap[O]?=some (.cells #[.int .i16 f5,.int .i16 f6,.int .i16 f7,.int .i16 f8] 47 (0,0)))∧(w.heap.size ≤ s_.1)∧(w.heap.size ≤ s_.1)∧(s_.2 ≠ s_.1)∧(s_.1 ≠ s_.2)∧(J ≠ s_.1)∧(s_.1 ≠ J)∧(L ≠ s_.1)∧(s_.1 ≠ L)∧(O ≠ s_.1)∧(s_.1 ≠ O)∧(w.heap.size ≤ s_.2)∧(w.heap.size ≤ s_.2)∧(J ≠ s_.2)∧(s_.2 ≠ J)∧(L ≠ s_.2)∧(s_.2 ≠ L)∧(O ≠ s_.2)∧(s_.2 ≠ O)∧(Below w.heap.size w w')) ?_ ?_;rotate_left
                         ·
                          intro u2;refine join_ (σ:=Nat × Nat) 7 #[y_,n_,y_,n_,y_,n_,y_,n_,y_,n_,n_,n_] (fun s_=>[(7,.pointer (some ⟨s_.1,0,none⟩)),(9,.pointer (some ⟨s_.2,0,none⟩))]) (fun s_ w'=>(w'.cell? ⟨J,0,none⟩=some (.int .i16 e7)∧w'.cell? ⟨J,1,none⟩=some (.int .i16 e8)∧w'.cell? ⟨J,2,none⟩=some (.int .i16 e9)∧w'.cell? ⟨J,3,none⟩=some (.int .i16 f0)∧w'.cell? ⟨L,0,none⟩=some (.int .i16 f1)∧w'.cell? ⟨L,1,none⟩=some (.int .i16 f2)∧w'.cell? ⟨L,2,none⟩=some (.int .i16 f3)∧w'.cell? ⟨L,3,none⟩=some (.int .i16 f4)∧w'.cell? ⟨O,0,none⟩=some (.int .i16 f5)∧w'.cell? ⟨O,1,none⟩=some (.int .i16 f6)∧w'.cell? ⟨O,2,none⟩=some (.int .i16 f7)∧w'.cell? ⟨O,3,none⟩=some (.int .i16 f8))∧(Q4_ w' s_.1 0 0 0 0 23)∧(Q4_ w' s_.2 0 0 0 0 23)∧(w'.heap[J]?=some (.cells #[.int .i16 e7,.int .i16 e8,.int .i16 e9,.int .i16 f0] 47 (0,0)))∧(w'.heap[L]?=some (.cells #[.int .i16 f1,.int .i16 f2,.int .i16 f3,.int .i16 f4] 47 (0,0)))∧(w'.heap[O]?=some (.cells #[.int .i16 f5,.int .i16 f6,.int .i16 f7,.int .i16 f8] 47 (0,0)))∧(w.heap.size ≤ s_.1)∧(w.heap.size ≤ s_.1)∧(s_.2 ≠ s_.1)∧(s_.1 ≠ s_.2)∧(J ≠ s_.1)∧(s_.1 ≠ J)∧(L ≠ s_.1)∧(s_.1 ≠ L)∧(O ≠ s_.1)∧(s_.1 ≠ O)∧(w.heap.size ≤ s_.2)∧(w.heap.size ≤ s_.2)∧(J ≠ s_.2)∧(s_.2 ≠ J)∧(L ≠ s_.2)∧(s_.2 ≠ L)∧(O ≠ s_.2)∧(s_.2 ≠ O)∧(Below w.heap.size w w')) ?_ ?_;rotate_left
                          ·
                           intro R9;refine join_ (σ:=Nat × Nat) 7 #[y_,n_,y_,n_,y_,n_,n_,y_,y_,n_,n_,n_] (fun s_=>[(8,.pointer (some ⟨s_.1,0,none⟩)),(9,.pointer (some ⟨s_.2,0,none⟩))]) (fun s_ w'=>(w'.cell? ⟨J,0,none⟩=some (.int .i16 e7)∧w'.cell? ⟨J,1,none⟩=some (.int .i16 e8)∧w'.cell? ⟨J,2,none⟩=some (.int .i16 e9)∧w'.cell? ⟨J,3,none⟩=some (.int .i16 f0)∧w'.cell? ⟨L,0,none⟩=some (.int .i16 f1)∧w'.cell? ⟨L,1,none⟩=some (.int .i16 f2)∧w'.cell? ⟨L,2,none⟩=some (.int .i16 f3)∧w'.cell? ⟨L,3,none⟩=some (.int .i16 f4)∧w'.cell? ⟨O,0,none⟩=some (.int .i16 f5)∧w'.cell? ⟨O,1,none⟩=some (.int .i16 f6)∧w'.cell? ⟨O,2,none⟩=some (.int .i16 f7)∧w'.cell? ⟨O,3,none⟩=some (.int .i16 f8))∧(Q4_ w' s_.1 0 0 0 0 23)∧(Q4_ w' s_.2 0 0 0 0 23)∧(w'.heap[J]?=some (.cells #[.int .i16 e7,.int .i16 e8,.int .i16 e9,.int .i16 f0] 47 (0,0)))∧(w'.heap[L]?=some (.cells #[.int .i16 f1,.int .i16 f2,.int .i16 f3,.int .i16 f4] 47 (0,0)))∧(w'.heap[O]?=some (.cells #[.int .i16 f5,.int .i16 f6,.int .i16 f7,.int .i16 f8] 47 (0,0)))∧(w.heap.size ≤ s_.1)∧(w.heap.size ≤ s_.1)∧(s_.2 ≠ s_.1)∧(s_.1 ≠ s_.2)∧(J ≠ s_.1)∧(s_.1 ≠ J)∧(L ≠ s_.1)∧(s_.1 ≠ L)∧(O ≠ s_.1)∧(s_.1 ≠ O)∧(w.heap.size ≤ s_.2)∧(w.heap.size ≤ s_.2)∧(J ≠ s_.2)∧(s_.2 ≠ J)∧(L ≠ s_.2)∧(s_.2 ≠ L)∧(O ≠ s_.2)∧(s_.2 ≠ O)∧(Below w.heap.size w w')) ?_ ?_;rotate_left
                           ·
                            intro T0;refine join_ (σ:=Unit) 8 #[y_,y_,y_,n_,y_,n_,n_,n_,n_,n_,n_,n_] (fun s_=>[(19,.agg #[.int .i64 i8,.int .i64 e6,.int .i64 f9,.int .i64 g1])]) (fun s_ w'=>(w'.cell? ⟨J,0,none⟩=some (.int .i16 e7)∧w'.cell? ⟨J,1,none⟩=some (.int .i16 e8)∧w'.cell? ⟨J,2,none⟩=some (.int .i16 e9)∧w'.cell? ⟨J,3,none⟩=some (.int .i16 f0)∧w'.cell? ⟨L,0,none⟩=some (.int .i16 f1)∧w'.cell? ⟨L,1,none⟩=some (.int .i16 f2)∧w'.cell? ⟨L,2,none⟩=some (.int .i16 f3)∧w'.cell? ⟨L,3,none⟩=some (.int .i16 f4)∧w'.cell? ⟨O,0,none⟩=some (.int .i16 f5)∧w'.cell? ⟨O,1,none⟩=some (.int .i16 f6)∧w'.cell? ⟨O,2,none⟩=some (.int .i16 f7)∧w'.cell? ⟨O,3,none⟩=some (.int .i16 f8))∧(w'.heap[J]?=some (.cells #[.int .i16 e7,.int .i16 e8,.int .i16 e9,.int .i16 f0] 47 (0,0)))∧(w'.heap[L]?=some (.cells #[.int .i16 f1,.int .i16 f2,.int .i16 f3,.int .i16 f4] 47 (0,0)))∧(w'.heap[O]?=some (.cells #[.int .i16 f5,.int .i16 f6,.int .i16 f7,.int .i16 f8] 47 (0,0)))∧(Below w.heap.size w w')) ?_ ?_;rotate_left
                            ·
                             intro Fk;refine join_ (σ:=Nat) 8 #[y_,n_,y_,n_,y_,n_,y_,n_,n_,n_,n_,n_] (fun s_=>[(7,.pointer (some ⟨s_,0,none⟩))]) (fun s_ w'=>(w'.cell? ⟨J,0,none⟩=some (.int .i16 e7)∧w'.cell? ⟨J,1,none⟩=some (.int .i16 e8)∧w'.cell? ⟨J,2,none⟩=some (.int .i16 e9)∧w'.cell? ⟨J,3,none⟩=some (.int .i16 f0)∧w'.cell? ⟨L,0,none⟩=some (.int .i16 f1)∧w'.cell? ⟨L,1,none⟩=some (.int .i16 f2)∧w'.cell? ⟨L,2,none⟩=some (.int .i16 f3)∧w'.cell? ⟨L,3,none⟩=some (.int .i16 f4)∧w'.cell? ⟨O,0,none⟩=some (.int .i16 f5)∧w'.cell? ⟨O,1,none⟩=some (.int .i16 f6)∧w'.cell? ⟨O,2,none⟩=some (.int .i16 f7)∧w'.cell? ⟨O,3,none⟩=some (.int .i16 f8))∧(Q4_ w' s_ 0 0 0 0 23)∧(w'.heap[J]?=some (.cells #[.int .i16 e7,.int .i16 e8,.int .i16 e9,.int .i16 f0] 47 (0,0)))∧(w'.heap[L]?=some (.cells #[.int .i16 f1,.int .i16 f2,.int .i16 f3,.int .i16 f4] 47 (0,0)))∧(w'.heap[O]?=some (.cells #[.int .i16 f5,.int .i16 f6,.int .i16 f7,.int .i16 f8] 47 (0,0)))∧(w.heap.size ≤ s_)∧(w.heap.size ≤ s_)∧(J ≠ s_)∧(s_ ≠ J)∧(L ≠ s_)∧(s_ ≠ L)∧(O ≠ s_)∧(s_ ≠ O)∧(Below w.heap.size w w')) ?_ ?_;rotate_left
                             ·
                              intro X6;refine join_ (σ:=Nat) 8 #[y_,n_,y_,n_,y_,n_,n_,y_,n_,n_,n_,n_] (fun s_=>[(8,.pointer (some ⟨s_,0,none⟩))]) (fun s_ w'=>(w'.cell? ⟨J,0,none⟩=some (.int .i16 e7)∧w'.cell? ⟨J,1,none⟩=some (.int .i16 e8)∧w'.cell? ⟨J,2,none⟩=some (.int .i16 e9)∧w'.cell? ⟨J,3,none⟩=some (.int .i16 f0)∧w'.cell? ⟨L,0,none⟩=some (.int .i16 f1)∧w'.cell? ⟨L,1,none⟩=some (.int .i16 f2)∧w'.cell? ⟨L,2,none⟩=some (.int .i16 f3)∧w'.cell? ⟨L,3,none⟩=some (.int .i16 f4)∧w'.cell? ⟨O,0,none⟩=some (.int .i16 f5)∧w'.cell? ⟨O,1,none⟩=some (.int .i16 f6)∧w'.cell? ⟨O,2,none⟩=some (.int .i16 f7)∧w'.cell? ⟨O,3,none⟩=some (.int .i16 f8))∧(Q4_ w' s_ 0 0 0 0 23)∧(w'.heap[J]?=some (.cells #[.int .i16 e7,.int .i16 e8,.int .i16 e9,.int .i16 f0] 47 (0,0)))∧(w'.heap[L]?=some (.cells #[.int .i16 f1,.int .i16 f2,.int .i16 f3,.int .i16 f4] 47 (0,0)))∧(w'.heap[O]?=some (.cells #[.int .i16 f5,.int .i16 f6,.int .i16 f7,.int .i16 f8] 47 (0,0)))∧(w.heap.size ≤ s_)∧(w.heap.size ≤ s_)∧(J ≠ s_)∧(s_ ≠ J)∧(L ≠ s_)∧(s_ ≠ L)∧(O ≠ s_)∧(s_ ≠ O)∧(Below w.heap.size w w')) ?_ ?_;rotate_left
                              ·
                               intro X7;refine join_ (σ:=Nat) 8 #[y_,n_,y_,n_,y_,n_,n_,n_,y_,n_,n_,n_] (fun s_=>[(9,.pointer (some ⟨s_,0,none⟩))]) (fun s_ w'=>(w'.cell? ⟨J,0,none⟩=some (.int .i16 e7)∧w'.cell? ⟨J,1,none⟩=some (.int .i16 e8)∧w'.cell? ⟨J,2,none⟩=some (.int .i16 e9)∧w'.cell? ⟨J,3,none⟩=some (.int .i16 f0)∧w'.cell? ⟨L,0,none⟩=some (.int .i16 f1)∧w'.cell? ⟨L,1,none⟩=some (.int .i16 f2)∧w'.cell? ⟨L,2,none⟩=some (.int .i16 f3)∧w'.cell? ⟨L,3,none⟩=some (.int .i16 f4)∧w'.cell? ⟨O,0,none⟩=some (.int .i16 f5)∧w'.cell? ⟨O,1,none⟩=some (.int .i16 f6)∧w'.cell? ⟨O,2,none⟩=some (.int .i16 f7)∧w'.cell? ⟨O,3,none⟩=some (.int .i16 f8))∧(Q4_ w' s_ 0 0 0 0 23)∧(w'.heap[J]?=some (.cells #[.int .i16 e7,.int .i16 e8,.int .i16 e9,.int .i16 f0] 47 (0,0)))∧(w'.heap[L]?=some (.cells #[.int .i16 f1,.int .i16 f2,.int .i16 f3,.int .i16 f4] 47 (0,0)))∧(w'.heap[O]?=some (.cells #[.int .i16 f5,.int .i16 f6,.int .i16 f7,.int .i16 f8] 47 (0,0)))∧(w.heap.size ≤ s_)∧(w.heap.size ≤ s_)∧(J ≠ s_)∧(s_ ≠ J)∧(L ≠ s_)∧(s_ ≠ L)∧(O ≠ s_)∧(s_ ≠ O)∧(Below w.heap.size w w')) ?_ ?_;rotate_left
                               ·
                                intro Fl;refine four_ (i:=1) (j:=6) (k:=7) (m:=8) (Ni:=some 19) (Nj:=some 7) (Nk:=some 8) (Nm:=some 9) #[y_,y_,y_,n_,y_,n_,n_,n_,n_,n_,n_,n_] #[y_,n_,y_,n_,y_,n_,y_,n_,n_,n_,n_,n_] #[y_,n_,y_,n_,y_,n_,n_,y_,n_,n_,n_,n_] #[y_,n_,y_,n_,y_,n_,n_,n_,y_,n_,n_,n_] rfl rfl rfl rfl rfl rfl rfl rfl (four_of j9.1 (by kernel_rfl)) (by decide) (by decide) (by decide) (by decide) (fun K hK=>?_) (fun K hK=>?_) (fun K hK=>?_) (fun K hK=>?_)
                                ·
                                 skip
                                 refine goes_ Try.func32 (by kernel_rfl) rfl #[.agg #[.int .i16 e7,.int .i16 e8,.int .i16 e9,.int .i16 f0],.int .i64 15] (by rfl) rfl rfl (by (try simp only [m0_,m1_,m2_]);first|done|rfl|(simp only [l0_,l1_];rfl)) ?_;with_reducible refine (bellpulllaw04_made.calls k e7 e8 e9 f0 15 i8 e6 f9 g1 _ A4.1).mono ?_
                                 rintro e X8 ⟨rfl,hb⟩;refine ⟨_,rfl,?_⟩;replace B:=bkb B hb;replace C:=bkb C hb;replace D:=bkb D hb;replace U:=bst U hb;(try clear hb);refine hK.out _ _ ⟨q0_ B,q1_ B,q2_ B,q3_ B,q0_ C,q1_ C,q2_ C,q3_ C,q0_ D,q1_ D,q2_ D,q3_ D⟩ (fun I=>?_);clear hK K;refine norm_ (a':=?_) ?_ ?_;rotate_left
                                 ·
                                  show Act.put _ (some 19) _=_;simp only [Act.put,s0_,s1_,s2_,i64_w,i32_w];rfl
                                 exact norm_ (by simp only [putAll,Act.put,s0_,s1_,s2_] <;> rfl) (Fk () _ ⟨I,B.1,C.1,D.1,U.1⟩)
                                ·
                                 skip
                                 refine box_step ?hg (N:=7) ?hd (cs:=#[.int .i64 0,.int .i64 0,.int .i64 0,.int .i64 0]) (t:=23) ?hr ?_;(case hd=>rfl);(case hg=>rfl);(case hr=>first|(go_simp;done)|(go_simp;rfl));intro Q hg X8 a7 hb;have F:=mk0 (a7);have d6:=szw hg U;have d3:=szw hg U;have a4:=nlt hg B;have b4:=ngt hg B;have a5:=nlt hg C;have b5:=ngt hg C;have a6:=nlt hg D;have b6:=ngt hg D;replace B:=bkb B hb;replace C:=bkb C hb;replace D:=bkb D hb;replace U:=bst U hb;clear hb a7 hg;refine hK.out _ _ ⟨q0_ B,q1_ B,q2_ B,q3_ B,q0_ C,q1_ C,q2_ C,q3_ C,q0_ D,q1_ D,q2_ D,q3_ D⟩ (fun I=>?_);clear hK K;refine norm_ (a':=?_) ?_ ?_;rotate_left
                                 ·
                                  show Act.put _ (some 7) _=_;simp only [Act.put,s0_,s1_,s2_,i64_w,i32_w];rfl
                                 exact norm_ (by simp only [putAll,Act.put,s0_,s1_,s2_] <;> rfl) (X6 (Q) _ ⟨I,F.1,B.1,C.1,D.1,d6.1,d3.1,a4.1,b4.1,a5.1,b5.1,a6.1,b6.1,U.1⟩)
                                ·
                                 skip
                                 refine box_step ?hg (N:=8) ?hd (cs:=#[.int .i64 0,.int .i64 0,.int .i64 0,.int .i64 0]) (t:=23) ?hr ?_;(case hd=>rfl);(case hg=>rfl);(case hr=>first|(go_simp;done)|(go_simp;rfl));intro R hg X8 a7 hb;have G:=mk0 (a7);have d7:=szw hg U;have d4:=szw hg U;have a0:=nlt hg B;have b1:=ngt hg B;have a1:=nlt hg C;have b2:=ngt hg C;have a2:=nlt hg D;have b3:=ngt hg D;replace B:=bkb B hb;replace C:=bkb C hb;replace D:=bkb D hb;replace U:=bst U hb;clear hb a7 hg;refine hK.out _ _ ⟨q0_ B,q1_ B,q2_ B,q3_ B,q0_ C,q1_ C,q2_ C,q3_ C,q0_ D,q1_ D,q2_ D,q3_ D⟩ (fun I=>?_);clear hK K;refine norm_ (a':=?_) ?_ ?_;rotate_left
                                 ·
                                  show Act.put _ (some 8) _=_;simp only [Act.put,s0_,s1_,s2_,i64_w,i32_w];rfl
                                 exact norm_ (by simp only [putAll,Act.put,s0_,s1_,s2_] <;> rfl) (X7 (R) _ ⟨I,G.1,B.1,C.1,D.1,d7.1,d4.1,a0.1,b1.1,a1.1,b2.1,a2.1,b3.1,U.1⟩)
                                ·
                                 skip
                                 refine box_step ?hg (N:=9) ?hd (cs:=#[.int .i64 0,.int .i64 0,.int .i64 0,.int .i64 0]) (t:=23) ?hr ?_;(case hd=>rfl);(case hg=>rfl);(case hr=>first|(go_simp;done)|(go_simp;rfl));intro T hg X8 a7 hb;have E:=mk0 (a7);have d8:=szw hg U;have d5:=szw hg U;have X:=nlt hg B;have a8:=ngt hg B;have Y:=nlt hg C;have a9:=ngt hg C;have Z:=nlt hg D;have b0:=ngt hg D;replace B:=bkb B hb;replace C:=bkb C hb;replace D:=bkb D hb;replace U:=bst U hb;clear hb a7 hg;refine hK.out _ _ ⟨q0_ B,q1_ B,q2_ B,q3_ B,q0_ C,q1_ C,q2_ C,q3_ C,q0_ D,q1_ D,q2_ D,q3_ D⟩ (fun I=>?_);clear hK K;refine norm_ (a':=?_) ?_ ?_;rotate_left
                                 ·
                                  show Act.put _ (some 9) _=_;simp only [Act.put,s0_,s1_,s2_,i64_w,i32_w];rfl
                                 exact norm_ (by simp only [putAll,Act.put,s0_,s1_,s2_] <;> rfl) (Fl (T) _ ⟨I,E.1,B.1,C.1,D.1,d8.1,d5.1,X.1,a8.1,Y.1,a9.1,Z.1,b0.1,U.1⟩)
                               ·
                                skip
                                clear B C D U;rintro T X9 d2;replace d2:=h_ (m4_ (m4_ (m4_ l_))) d2;obtain ⟨j8,E,B,C,D,d8,d5,X,a8,Y,a9,Z,b0,U⟩:=d2;have I:=j8;refine norm_ (a':=?_) ?_ ?_;rotate_left
                                ·
                                 simp only [putAll,Act.put,s0_,s1_,s2_];rfl
                                refine three_ (i:=1) (j:=6) (k:=7) (Ni:=some 19) (Nj:=some 7) (Nk:=some 8) #[y_,y_,y_,n_,y_,n_,n_,n_,y_,n_,n_,n_] #[y_,n_,y_,n_,y_,n_,y_,n_,y_,n_,n_,n_] #[y_,n_,y_,n_,y_,n_,n_,y_,y_,n_,n_,n_] rfl rfl rfl rfl rfl rfl (three_of j9.1 (by kernel_rfl)) (by decide) (by decide) (by decide) (fun K hK=>?_) (fun K hK=>?_) (fun K hK=>?_)
                                ·
                                 skip
                                 refine goes_ Try.func32 (by kernel_rfl) rfl #[.agg #[.int .i16 e7,.int .i16 e8,.int .i16 e9,.int .i16 f0],.int .i64 15] (by rfl) rfl rfl (by (try simp only [m0_,m1_,m2_]);first|done|rfl|(simp only [l0_,l1_];rfl)) ?_;with_reducible refine (bellpulllaw04_made.calls k e7 e8 e9 f0 15 i8 e6 f9 g1 _ A4.1).mono ?_
                                 rintro e o4 ⟨rfl,hb⟩;refine ⟨_,rfl,?_⟩;replace B:=bkb B hb;replace C:=bkb C hb;replace D:=bkb D hb;replace E:=bkb E hb;replace U:=bst U hb;(try clear hb);refine hK.out _ _ ⟨q0_ B,q1_ B,q2_ B,q3_ B,q0_ C,q1_ C,q2_ C,q3_ C,q0_ D,q1_ D,q2_ D,q3_ D⟩ (fun I=>?_);clear hK K;refine norm_ (a':=?_) ?_ ?_;rotate_left
                                 ·
                                  show Act.put _ (some 19) _=_;simp only [Act.put,s0_,s1_,s2_,i64_w,i32_w];rfl
                                 exact norm_ (by simp only [putAll,Act.put,s0_,s1_,s2_] <;> rfl) (R8 (T) _ ⟨I,E.1,B.1,C.1,D.1,d8.1,d5.1,X.1,a8.1,Y.1,a9.1,Z.1,b0.1,U.1⟩)
                                ·
                                 skip
                                 refine box_step ?hg (N:=7) ?hd (cs:=#[.int .i64 0,.int .i64 0,.int .i64 0,.int .i64 0]) (t:=23) ?hr ?_;(case hd=>rfl);(case hg=>rfl);(case hr=>first|(go_simp;done)|(go_simp;rfl));intro Q hg o4 a7 hb;have F:=mk0 (a7);have d6:=szw hg U;have d3:=szw hg U;have a4:=nlt hg B;have b4:=ngt hg B;have a5:=nlt hg C;have b5:=ngt hg C;have a6:=nlt hg D;have b6:=ngt hg D;have c0:=nlt hg E;have c3:=ngt hg E;replace B:=bkb B hb;replace C:=bkb C hb;replace D:=bkb D hb;replace E:=bkb E hb;replace U:=bst U hb;clear hb a7 hg;refine hK.out _ _ ⟨q0_ B,q1_ B,q2_ B,q3_ B,q0_ C,q1_ C,q2_ C,q3_ C,q0_ D,q1_ D,q2_ D,q3_ D⟩ (fun I=>?_);clear hK K;refine norm_ (a':=?_) ?_ ?_;rotate_left
                                 ·
                                  show Act.put _ (some 7) _=_;simp only [Act.put,s0_,s1_,s2_,i64_w,i32_w];rfl
                                 exact norm_ (by simp only [putAll,Act.put,s0_,s1_,s2_] <;> rfl) (R9 (Q,T) _ ⟨I,F.1,E.1,B.1,C.1,D.1,d6.1,d3.1,c0.1,c3.1,a4.1,b4.1,a5.1,b5.1,a6.1,b6.1,d8.1,d5.1,X.1,a8.1,Y.1,a9.1,Z.1,b0.1,U.1⟩)
                                ·
                                 skip
                                 refine box_step ?hg (N:=8) ?hd (cs:=#[.int .i64 0,.int .i64 0,.int .i64 0,.int .i64 0]) (t:=23) ?hr ?_;(case hd=>rfl);(case hg=>rfl);(case hr=>first|(go_simp;done)|(go_simp;rfl));intro R hg o4 a7 hb;have G:=mk0 (a7);have d7:=szw hg U;have d4:=szw hg U;have a0:=nlt hg B;have b1:=ngt hg B;have a1:=nlt hg C;have b2:=ngt hg C;have a2:=nlt hg D;have b3:=ngt hg D;have b7:=nlt hg E;have b8:=ngt hg E;replace B:=bkb B hb;replace C:=bkb C hb;replace D:=bkb D hb;replace E:=bkb E hb;replace U:=bst U hb;clear hb a7 hg;refine hK.out _ _ ⟨q0_ B,q1_ B,q2_ B,q3_ B,q0_ C,q1_ C,q2_ C,q3_ C,q0_ D,q1_ D,q2_ D,q3_ D⟩ (fun I=>?_);clear hK K;refine norm_ (a':=?_) ?_ ?_;rotate_left
                                 ·
                                  show Act.put _ (some 8) _=_;simp only [Act.put,s0_,s1_,s2_,i64_w,i32_w];rfl
                                 exact norm_ (by simp only [putAll,Act.put,s0_,s1_,s2_] <;> rfl) (T0 (R,T) _ ⟨I,G.1,E.1,B.1,C.1,D.1,d7.1,d4.1,b7.1,b8.1,a0.1,b1.1,a1.1,b2.1,a2.1,b3.1,d8.1,d5.1,X.1,a8.1,Y.1,a9.1,Z.1,b0.1,U.1⟩)
                              ·
                               skip
                               clear B C D U;rintro R X9 d2;replace d2:=h_ (m4_ (m4_ (m4_ l_))) d2;obtain ⟨j8,G,B,C,D,d7,d4,a0,b1,a1,b2,a2,b3,U⟩:=d2;have I:=j8;refine norm_ (a':=?_) ?_ ?_;rotate_left
                               ·
                                simp only [putAll,Act.put,s0_,s1_,s2_];rfl
                               refine three_ (i:=1) (j:=6) (k:=8) (Ni:=some 19) (Nj:=some 7) (Nk:=some 9) #[y_,y_,y_,n_,y_,n_,n_,y_,n_,n_,n_,n_] #[y_,n_,y_,n_,y_,n_,y_,y_,n_,n_,n_,n_] #[y_,n_,y_,n_,y_,n_,n_,y_,y_,n_,n_,n_] rfl rfl rfl rfl rfl rfl (three_of j9.1 (by kernel_rfl)) (by decide) (by decide) (by decide) (fun K hK=>?_) (fun K hK=>?_) (fun K hK=>?_)
                               ·
                                skip
                                refine goes_ Try.func32 (by kernel_rfl) rfl #[.agg #[.int .i16 e7,.int .i16 e8,.int .i16 e9,.int .i16 f0],.int .i64 15] (by rfl) rfl rfl (by (try simp only [m0_,m1_,m2_]);first|done|rfl|(simp only [l0_,l1_];rfl)) ?_;with_reducible refine (bellpulllaw04_made.calls k e7 e8 e9 f0 15 i8 e6 f9 g1 _ A4.1).mono ?_
                                rintro e o4 ⟨rfl,hb⟩;refine ⟨_,rfl,?_⟩;replace B:=bkb B hb;replace C:=bkb C hb;replace D:=bkb D hb;replace G:=bkb G hb;replace U:=bst U hb;(try clear hb);refine hK.out _ _ ⟨q0_ B,q1_ B,q2_ B,q3_ B,q0_ C,q1_ C,q2_ C,q3_ C,q0_ D,q1_ D,q2_ D,q3_ D⟩ (fun I=>?_);clear hK K;refine norm_ (a':=?_) ?_ ?_;rotate_left
                                ·
                                 show Act.put _ (some 19) _=_;simp only [Act.put,s0_,s1_,s2_,i64_w,i32_w];rfl
                                exact norm_ (by simp only [putAll,Act.put,s0_,s1_,s2_] <;> rfl) (R7 (R) _ ⟨I,G.1,B.1,C.1,D.1,d7.1,d4.1,a0.1,b1.1,a1.1,b2.1,a2.1,b3.1,U.1⟩)
                               ·
                                skip
                                refine box_step ?hg (N:=7) ?hd (cs:=#[.int .i64 0,.int .i64 0,.int .i64 0,.int .i64 0]) (t:=23) ?hr ?_;(case hd=>rfl);(case hg=>rfl);(case hr=>first|(go_simp;done)|(go_simp;rfl));intro Q hg o4 a7 hb;have F:=mk0 (a7);have d6:=szw hg U;have d3:=szw hg U;have a4:=nlt hg B;have b4:=ngt hg B;have a5:=nlt hg C;have b5:=ngt hg C;have a6:=nlt hg D;have b6:=ngt hg D;have d0:=nlt hg G;have d1:=ngt hg G;replace B:=bkb B hb;replace C:=bkb C hb;replace D:=bkb D hb;replace G:=bkb G hb;replace U:=bst U hb;clear hb a7 hg;refine hK.out _ _ ⟨q0_ B,q1_ B,q2_ B,q3_ B,q0_ C,q1_ C,q2_ C,q3_ C,q0_ D,q1_ D,q2_ D,q3_ D⟩ (fun I=>?_);clear hK K;refine norm_ (a':=?_) ?_ ?_;rotate_left
                                ·
                                 show Act.put _ (some 7) _=_;simp only [Act.put,s0_,s1_,s2_,i64_w,i32_w];rfl
                                exact norm_ (by simp only [putAll,Act.put,s0_,s1_,s2_] <;> rfl) (u2 (Q,R) _ ⟨I,F.1,G.1,B.1,C.1,D.1,d6.1,d3.1,d0.1,d1.1,a4.1,b4.1,a5.1,b5.1,a6.1,b6.1,d7.1,d4.1,a0.1,b1.1,a1.1,b2.1,a2.1,b3.1,U.1⟩)
                               ·
                                skip
                                refine box_step ?hg (N:=9) ?hd (cs:=#[.int .i64 0,.int .i64 0,.int .i64 0,.int .i64 0]) (t:=23) ?hr ?_;(case hd=>rfl);(case hg=>rfl);(case hr=>first|(go_simp;done)|(go_simp;rfl));intro T hg o4 a7 hb;have E:=mk0 (a7);have d8:=szw hg U;have d5:=szw hg U;have X:=nlt hg B;have a8:=ngt hg B;have Y:=nlt hg C;have a9:=ngt hg C;have Z:=nlt hg D;have b0:=ngt hg D;have b8:=nlt hg G;have b7:=ngt hg G;replace B:=bkb B hb;replace C:=bkb C hb;replace D:=bkb D hb;replace G:=bkb G hb;replace U:=bst U hb;clear hb a7 hg;refine hK.out _ _ ⟨q0_ B,q1_ B,q2_ B,q3_ B,q0_ C,q1_ C,q2_ C,q3_ C,q0_ D,q1_ D,q2_ D,q3_ D⟩ (fun I=>?_);clear hK K;refine norm_ (a':=?_) ?_ ?_;rotate_left
                                ·
                                 show Act.put _ (some 9) _=_;simp only [Act.put,s0_,s1_,s2_,i64_w,i32_w];rfl
                                exact norm_ (by simp only [putAll,Act.put,s0_,s1_,s2_] <;> rfl) (T0 (R,T) _ ⟨I,G.1,E.1,B.1,C.1,D.1,d7.1,d4.1,b7.1,b8.1,a0.1,b1.1,a1.1,b2.1,a2.1,b3.1,d8.1,d5.1,X.1,a8.1,Y.1,a9.1,Z.1,b0.1,U.1⟩)
                             ·
                              skip
                              clear B C D U;rintro Q X9 d2;replace d2:=h_ (m4_ (m4_ (m4_ l_))) d2;obtain ⟨j8,F,B,C,D,d6,d3,a4,b4,a5,b5,a6,b6,U⟩:=d2;have I:=j8;refine norm_ (a':=?_) ?_ ?_;rotate_left
                              ·
                               simp only [putAll,Act.put,s0_,s1_,s2_];rfl
                              refine three_ (i:=1) (j:=7) (k:=8) (Ni:=some 19) (Nj:=some 8) (Nk:=some 9) #[y_,y_,y_,n_,y_,n_,y_,n_,n_,n_,n_,n_] #[y_,n_,y_,n_,y_,n_,y_,y_,n_,n_,n_,n_] #[y_,n_,y_,n_,y_,n_,y_,n_,y_,n_,n_,n_] rfl rfl rfl rfl rfl rfl (three_of j9.1 (by kernel_rfl)) (by decide) (by decide) (by decide) (fun K hK=>?_) (fun K hK=>?_) (fun K hK=>?_)
                              ·
                               skip
                               refine goes_ Try.func32 (by kernel_rfl) rfl #[.agg #[.int .i16 e7,.int .i16 e8,.int .i16 e9,.int .i16 f0],.int .i64 15] (by rfl) rfl rfl (by (try simp only [m0_,m1_,m2_]);first|done|rfl|(simp only [l0_,l1_];rfl)) ?_;with_reducible refine (bellpulllaw04_made.calls k e7 e8 e9 f0 15 i8 e6 f9 g1 _ A4.1).mono ?_
                               rintro e o4 ⟨rfl,hb⟩;refine ⟨_,rfl,?_⟩;replace B:=bkb B hb;replace C:=bkb C hb;replace D:=bkb D hb;replace F:=bkb F hb;replace U:=bst U hb;(try clear hb);refine hK.out _ _ ⟨q0_ B,q1_ B,q2_ B,q3_ B,q0_ C,q1_ C,q2_ C,q3_ C,q0_ D,q1_ D,q2_ D,q3_ D⟩ (fun I=>?_);clear hK K;refine norm_ (a':=?_) ?_ ?_;rotate_left
                               ·
                                show Act.put _ (some 19) _=_;simp only [Act.put,s0_,s1_,s2_,i64_w,i32_w];rfl
                               exact norm_ (by simp only [putAll,Act.put,s0_,s1_,s2_] <;> rfl) (R6 (Q) _ ⟨I,F.1,B.1,C.1,D.1,d6.1,d3.1,a4.1,b4.1,a5.1,b5.1,a6.1,b6.1,U.1⟩)
                              ·
                               skip
                               refine box_step ?hg (N:=8) ?hd (cs:=#[.int .i64 0,.int .i64 0,.int .i64 0,.int .i64 0]) (t:=23) ?hr ?_;(case hd=>rfl);(case hg=>rfl);(case hr=>first|(go_simp;done)|(go_simp;rfl));intro R hg o4 a7 hb;have G:=mk0 (a7);have d7:=szw hg U;have d4:=szw hg U;have a0:=nlt hg B;have b1:=ngt hg B;have a1:=nlt hg C;have b2:=ngt hg C;have a2:=nlt hg D;have b3:=ngt hg D;have d1:=nlt hg F;have d0:=ngt hg F;replace B:=bkb B hb;replace C:=bkb C hb;replace D:=bkb D hb;replace F:=bkb F hb;replace U:=bst U hb;clear hb a7 hg;refine hK.out _ _ ⟨q0_ B,q1_ B,q2_ B,q3_ B,q0_ C,q1_ C,q2_ C,q3_ C,q0_ D,q1_ D,q2_ D,q3_ D⟩ (fun I=>?_);clear hK K;refine norm_ (a':=?_) ?_ ?_;rotate_left
                               ·
                                show Act.put _ (some 8) _=_;simp only [Act.put,s0_,s1_,s2_,i64_w,i32_w];rfl
                               exact norm_ (by simp only [putAll,Act.put,s0_,s1_,s2_] <;> rfl) (u2 (Q,R) _ ⟨I,F.1,G.1,B.1,C.1,D.1,d6.1,d3.1,d0.1,d1.1,a4.1,b4.1,a5.1,b5.1,a6.1,b6.1,d7.1,d4.1,a0.1,b1.1,a1.1,b2.1,a2.1,b3.1,U.1⟩)
                              ·
                               skip
                               refine box_step ?hg (N:=9) ?hd (cs:=#[.int .i64 0,.int .i64 0,.int .i64 0,.int .i64 0]) (t:=23) ?hr ?_;(case hd=>rfl);(case hg=>rfl);(case hr=>first|(go_simp;done)|(go_simp;rfl));intro T hg o4 a7 hb;have E:=mk0 (a7);have d8:=szw hg U;have d5:=szw hg U;have X:=nlt hg B;have a8:=ngt hg B;have Y:=nlt hg C;have a9:=ngt hg C;have Z:=nlt hg D;have b0:=ngt hg D;have c3:=nlt hg F;have c0:=ngt hg F;replace B:=bkb B hb;replace C:=bkb C hb;replace D:=bkb D hb;replace F:=bkb F hb;replace U:=bst U hb;clear hb a7 hg;refine hK.out _ _ ⟨q0_ B,q1_ B,q2_ B,q3_ B,q0_ C,q1_ C,q2_ C,q3_ C,q0_ D,q1_ D,q2_ D,q3_ D⟩ (fun I=>?_);clear hK K;refine norm_ (a':=?_) ?_ ?_;rotate_left
                               ·
                                show Act.put _ (some 9) _=_;simp only [Act.put,s0_,s1_,s2_,i64_w,i32_w];rfl
                               exact norm_ (by simp only [putAll,Act.put,s0_,s1_,s2_] <;> rfl) (R9 (Q,T) _ ⟨I,F.1,E.1,B.1,C.1,D.1,d6.1,d3.1,c0.1,c3.1,a4.1,b4.1,a5.1,b5.1,a6.1,b6.1,d8.1,d5.1,X.1,a8.1,Y.1,a9.1,Z.1,b0.1,U.1⟩)
                            ·
                             skip
                             clear B C D U;rintro _ X9 d2;replace d2:=h_ (m_ (m_ (m_ l_))) d2;obtain ⟨j8,B,C,D,U⟩:=d2;have I:=j8;refine norm_ (a':=?_) ?_ ?_;rotate_left
                             ·
                              simp only [putAll,Act.put,s0_,s1_,s2_];rfl
                             refine four_ (i:=3) (j:=6) (k:=7) (m:=8) (Ni:=some 21) (Nj:=some 7) (Nk:=some 8) (Nm:=some 9) #[y_,y_,y_,y_,y_,n_,n_,n_,n_,n_,n_,n_] #[y_,y_,y_,n_,y_,n_,y_,n_,n_,n_,n_,n_] #[y_,y_,y_,n_,y_,n_,n_,y_,n_,n_,n_,n_] #[y_,y_,y_,n_,y_,n_,n_,n_,y_,n_,n_,n_] rfl rfl rfl rfl rfl rfl rfl rfl (four_of j9.1 (by kernel_rfl)) (by decide) (by decide) (by decide) (by decide) (fun K hK=>?_) (fun K hK=>?_) (fun K hK=>?_) (fun K hK=>?_)
                             ·
                              skip
                              refine goes_ Try.func32 (by kernel_rfl) rfl #[.agg #[.int .i16 f1,.int .i16 f2,.int .i16 f3,.int .i16 f4],.int .i64 15] (by rfl) rfl rfl (by (try simp only [m0_,m1_,m2_]);first|done|rfl|(simp only [l0_,l1_];rfl)) ?_;with_reducible refine (bellpulllaw04_made.calls k f1 f2 f3 f4 15 g5 g6 h0 h2 _ A5.1).mono ?_
                              rintro e o4 ⟨rfl,hb⟩;refine ⟨_,rfl,?_⟩;replace B:=bkb B hb;replace C:=bkb C hb;replace D:=bkb D hb;replace U:=bst U hb;(try clear hb);refine hK.out _ _ ⟨q0_ B,q1_ B,q2_ B,q3_ B,q0_ C,q1_ C,q2_ C,q3_ C,q0_ D,q1_ D,q2_ D,q3_ D⟩ (fun I=>?_);clear hK K;refine norm_ (a':=?_) ?_ ?_;rotate_left
                              ·
                               show Act.put _ (some 21) _=_;simp only [Act.put,s0_,s1_,s2_,i64_w,i32_w];rfl
                              exact norm_ (by simp only [putAll,Act.put,s0_,s1_,s2_] <;> rfl) (Z7 () _ ⟨I,B.1,C.1,D.1,U.1⟩)
                             ·
                              skip
                              refine box_step ?hg (N:=7) ?hd (cs:=#[.int .i64 0,.int .i64 0,.int .i64 0,.int .i64 0]) (t:=23) ?hr ?_;(case hd=>rfl);(case hg=>rfl);(case hr=>first|(go_simp;done)|(go_simp;rfl));intro Q hg o4 a7 hb;have F:=mk0 (a7);have d6:=szw hg U;have d3:=szw hg U;have a4:=nlt hg B;have b4:=ngt hg B;have a5:=nlt hg C;have b5:=ngt hg C;have a6:=nlt hg D;have b6:=ngt hg D;replace B:=bkb B hb;replace C:=bkb C hb;replace D:=bkb D hb;replace U:=bst U hb;clear hb a7 hg;refine hK.out _ _ ⟨q0_ B,q1_ B,q2_ B,q3_ B,q0_ C,q1_ C,q2_ C,q3_ C,q0_ D,q1_ D,q2_ D,q3_ D⟩ (fun I=>?_);clear hK K;refine norm_ (a':=?_) ?_ ?_;rotate_left
                              ·
                               show Act.put _ (some 7) _=_;simp only [Act.put,s0_,s1_,s2_,i64_w,i32_w];rfl
                              exact norm_ (by simp only [putAll,Act.put,s0_,s1_,s2_] <;> rfl) (R6 (Q) _ ⟨I,F.1,B.1,C.1,D.1,d6.1,d3.1,a4.1,b4.1,a5.1,b5.1,a6.1,b6.1,U.1⟩)
                             ·
                              skip
                              refine box_step ?hg (N:=8) ?hd (cs:=#[.int .i64 0,.int .i64 0,.int .i64 0,.int .i64 0]) (t:=23) ?hr ?_;(case hd=>rfl);(case hg=>rfl);(case hr=>first|(go_simp;done)|(go_simp;rfl));intro R hg o4 a7 hb;have G:=mk0 (a7);have d7:=szw hg U;have d4:=szw hg U;have a0:=nlt hg B;have b1:=ngt hg B;have a1:=nlt hg C;have b2:=ngt hg C;have a2:=nlt hg D;have b3:=ngt hg D;replace B:=bkb B hb;replace C:=bkb C hb;replace D:=bkb D hb;replace U:=bst U hb;clear hb a7 hg;refine hK.out _ _ ⟨q0_ B,q1_ B,q2_ B,q3_ B,q0_ C,q1_ C,q2_ C,q3_ C,q0_ D,q1_ D,q2_ D,q3_ D⟩ (fun I=>?_);clear hK K;refine norm_ (a':=?_) ?_ ?_;rotate_left
                              ·
                               show Act.put _ (some 8) _=_;simp only [Act.put,s0_,s1_,s2_,i64_w,i32_w];rfl
                              exact norm_ (by simp only [putAll,Act.put,s0_,s1_,s2_] <;> rfl) (R7 (R) _ ⟨I,G.1,B.1,C.1,D.1,d7.1,d4.1,a0.1,b1.1,a1.1,b2.1,a2.1,b3.1,U.1⟩)
                             ·
                              skip
                              refine box_step ?hg (N:=9) ?hd (cs:=#[.int .i64 0,.int .i64 0,.int .i64 0,.int .i64 0]) (t:=23) ?hr ?_;(case hd=>rfl);(case hg=>rfl);(case hr=>first|(go_simp;done)|(go_simp;rfl));intro T hg o4 a7 hb;have E:=mk0 (a7);have d8:=szw hg U;have d5:=szw hg U;have X:=nlt hg B;have a8:=ngt hg B;have Y:=nlt hg C;have a9:=ngt hg C;have Z:=nlt hg D;have b0:=ngt hg D;replace B:=bkb B hb;replace C:=bkb C hb;replace D:=bkb D hb;replace U:=bst U hb;clear hb a7 hg;refine hK.out _ _ ⟨q0_ B,q1_ B,q2_ B,q3_ B,q0_ C,q1_ C,q2_ C,q3_ C,q0_ D,q1_ D,q2_ D,q3_ D⟩ (fun I=>?_);clear hK K;refine norm_ (a':=?_) ?_ ?_;rotate_left
                              ·
                               show Act.put _ (some 9) _=_;simp only [Act.put,s0_,s1_,s2_,i64_w,i32_w];rfl
                              exact norm_ (by simp only [putAll,Act.put,s0_,s1_,s2_] <;> rfl) (R8 (T) _ ⟨I,E.1,B.1,C.1,D.1,d8.1,d5.1,X.1,a8.1,Y.1,a9.1,Z.1,b0.1,U.1⟩)
                           ·
                            skip
                            clear B C D U;rintro ⟨R,T⟩ o4 d2;(try dsimp only at d2);replace d2:=h_ (m4_ (m4_ (m4_ (m4_ (m4_ (m_ (m_ (m_ l_)))))))) d2;obtain ⟨j8,G,E,B,C,D,d7,d4,b7,b8,a0,b1,a1,b2,a2,b3,d8,d5,X,a8,Y,a9,Z,b0,U⟩:=d2;have I:=j8;refine norm_ (a':=?_) ?_ ?_;rotate_left
                            ·
                             simp only [putAll,Act.put,s0_,s1_,s2_];rfl
                            refine two_ (i:=1) (j:=6) (Ni:=some 19) (Nj:=some 7) #[y_,y_,y_,n_,y_,n_,n_,y_,y_,n_,n_,n_] #[y_,n_,y_,n_,y_,n_,y_,y_,y_,n_,n_,n_] rfl rfl rfl rfl (two_of j9.1 (by kernel_rfl)) (by decide) (by decide) (fun K hK=>?_) (fun K hK=>?_)
                            ·
                             skip
                             refine goes_ Try.func32 (by kernel_rfl) rfl #[.agg #[.int .i16 e7,.int .i16 e8,.int .i16 e9,.int .i16 f0],.int .i64 15] (by rfl) rfl rfl (by (try simp only [m0_,m1_,m2_]);first|done|rfl|(simp only [l0_,l1_];rfl)) ?_;with_reducible refine (bellpulllaw04_made.calls k e7 e8 e9 f0 15 i8 e6 f9 g1 _ A4.1).mono ?_
                             rintro e n2 ⟨rfl,hb⟩;refine ⟨_,rfl,?_⟩;replace B:=bkb B hb;replace C:=bkb C hb;replace D:=bkb D hb;replace G:=bkb G hb;replace E:=bkb E hb;replace U:=bst U hb;(try clear hb);refine hK.out _ _ ⟨q0_ B,q1_ B,q2_ B,q3_ B,q0_ C,q1_ C,q2_ C,q3_ C,q0_ D,q1_ D,q2_ D,q3_ D⟩ (fun I=>?_);clear hK K;refine norm_ (a':=?_) ?_ ?_;rotate_left
                             ·
                              show Act.put _ (some 19) _=_;simp only [Act.put,s0_,s1_,s2_,i64_w,i32_w];rfl
                             exact norm_ (by simp only [putAll,Act.put,s0_,s1_,s2_] <;> rfl) (x0 (R,T) _ ⟨I,G.1,E.1,B.1,C.1,D.1,d7.1,d4.1,b7.1,b8.1,a0.1,b1.1,a1.1,b2.1,a2.1,b3.1,d8.1,d5.1,X.1,a8.1,Y.1,a9.1,Z.1,b0.1,U.1⟩)
                            ·
                             skip
                             refine box_step ?hg (N:=7) ?hd (cs:=#[.int .i64 0,.int .i64 0,.int .i64 0,.int .i64 0]) (t:=23) ?hr ?_;(case hd=>rfl);(case hg=>rfl);(case hr=>first|(go_simp;done)|(go_simp;rfl));intro Q hg n2 a7 hb;have F:=mk0 (a7);have d6:=szw hg U;have d3:=szw hg U;have a4:=nlt hg B;have b4:=ngt hg B;have a5:=nlt hg C;have b5:=ngt hg C;have a6:=nlt hg D;have b6:=ngt hg D;have d0:=nlt hg G;have d1:=ngt hg G;have c0:=nlt hg E;have c3:=ngt hg E;replace B:=bkb B hb;replace C:=bkb C hb;replace D:=bkb D hb;replace G:=bkb G hb;replace E:=bkb E hb;replace U:=bst U hb;clear hb a7 hg;refine hK.out _ _ ⟨q0_ B,q1_ B,q2_ B,q3_ B,q0_ C,q1_ C,q2_ C,q3_ C,q0_ D,q1_ D,q2_ D,q3_ D⟩ (fun I=>?_);clear hK K;refine norm_ (a':=?_) ?_ ?_;rotate_left
                             ·
                              show Act.put _ (some 7) _=_;simp only [Act.put,s0_,s1_,s2_,i64_w,i32_w];rfl
                             exact norm_ (by simp only [putAll,Act.put,s0_,s1_,s2_] <;> rfl) (x1 (Q,R,T) _ ⟨I,F.1,G.1,E.1,B.1,C.1,D.1,d6.1,d3.1,d0.1,d1.1,c0.1,c3.1,a4.1,b4.1,a5.1,b5.1,a6.1,b6.1,d7.1,d4.1,b7.1,b8.1,a0.1,b1.1,a1.1,b2.1,a2.1,b3.1,d8.1,d5.1,X.1,a8.1,Y.1,a9.1,Z.1,b0.1,U.1⟩)
                          ·
                           skip
                           clear B C D U;rintro ⟨Q,T⟩ o4 d2;(try dsimp only at d2);replace d2:=h_ (m4_ (m4_ (m4_ (m4_ (m4_ (m_ (m_ (m_ l_)))))))) d2;obtain ⟨j8,F,E,B,C,D,d6,d3,c0,c3,a4,b4,a5,b5,a6,b6,d8,d5,X,a8,Y,a9,Z,b0,U⟩:=d2;have I:=j8;refine norm_ (a':=?_) ?_ ?_;rotate_left
                           ·
                            simp only [putAll,Act.put,s0_,s1_,s2_];rfl
                           refine two_ (i:=1) (j:=7) (Ni:=some 19) (Nj:=some 8) #[y_,y_,y_,n_,y_,n_,y_,n_,y_,n_,n_,n_] #[y_,n_,y_,n_,y_,n_,y_,y_,y_,n_,n_,n_] rfl rfl rfl rfl (two_of j9.1 (by kernel_rfl)) (by decide) (by decide) (fun K hK=>?_) (fun K hK=>?_)
                           ·
                            skip
                            refine goes_ Try.func32 (by kernel_rfl) rfl #[.agg #[.int .i16 e7,.int .i16 e8,.int .i16 e9,.int .i16 f0],.int .i64 15] (by rfl) rfl rfl (by (try simp only [m0_,m1_,m2_]);first|done|rfl|(simp only [l0_,l1_];rfl)) ?_;with_reducible refine (bellpulllaw04_made.calls k e7 e8 e9 f0 15 i8 e6 f9 g1 _ A4.1).mono ?_
                            rintro e n2 ⟨rfl,hb⟩;refine ⟨_,rfl,?_⟩;replace B:=bkb B hb;replace C:=bkb C hb;replace D:=bkb D hb;replace F:=bkb F hb;replace E:=bkb E hb;replace U:=bst U hb;(try clear hb);refine hK.out _ _ ⟨q0_ B,q1_ B,q2_ B,q3_ B,q0_ C,q1_ C,q2_ C,q3_ C,q0_ D,q1_ D,q2_ D,q3_ D⟩ (fun I=>?_);clear hK K;refine norm_ (a':=?_) ?_ ?_;rotate_left
                            ·
                             show Act.put _ (some 19) _=_;simp only [Act.put,s0_,s1_,s2_,i64_w,i32_w];rfl
                            exact norm_ (by simp only [putAll,Act.put,s0_,s1_,s2_] <;> rfl) (v9 (Q,T) _ ⟨I,F.1,E.1,B.1,C.1,D.1,d6.1,d3.1,c0.1,c3.1,a4.1,b4.1,a5.1,b5.1,a6.1,b6.1,d8.1,d5.1,X.1,a8.1,Y.1,a9.1,Z.1,b0.1,U.1⟩)
                           ·
                            skip
                            refine box_step ?hg (N:=8) ?hd (cs:=#[.int .i64 0,.int .i64 0,.int .i64 0,.int .i64 0]) (t:=23) ?hr ?_;(case hd=>rfl);(case hg=>rfl);(case hr=>first|(go_simp;done)|(go_simp;rfl));intro R hg n2 a7 hb;have G:=mk0 (a7);have d7:=szw hg U;have d4:=szw hg U;have a0:=nlt hg B;have b1:=ngt hg B;have a1:=nlt hg C;have b2:=ngt hg C;have a2:=nlt hg D;have b3:=ngt hg D;have d1:=nlt hg F;have d0:=ngt hg F;have b7:=nlt hg E;have b8:=ngt hg E;replace B:=bkb B hb;replace C:=bkb C hb;replace D:=bkb D hb;replace F:=bkb F hb;replace E:=bkb E hb;replace U:=bst U hb;clear hb a7 hg;refine hK.out _ _ ⟨q0_ B,q1_ B,q2_ B,q3_ B,q0_ C,q1_ C,q2_ C,q3_ C,q0_ D,q1_ D,q2_ D,q3_ D⟩ (fun I=>?_);clear hK K;refine norm_ (a':=?_) ?_ ?_;rotate_left
                            ·
                             show Act.put _ (some 8) _=_;simp only [Act.put,s0_,s1_,s2_,i64_w,i32_w];rfl
                            exact norm_ (by simp only [putAll,Act.put,s0_,s1_,s2_] <;> rfl) (x1 (Q,R,T) _ ⟨I,F.1,G.1,E.1,B.1,C.1,D.1,d6.1,d3.1,d0.1,d1.1,c0.1,c3.1,a4.1,b4.1,a5.1,b5.1,a6.1,b6.1,d7.1,d4.1,b7.1,b8.1,a0.1,b1.1,a1.1,b2.1,a2.1,b3.1,d8.1,d5.1,X.1,a8.1,Y.1,a9.1,Z.1,b0.1,U.1⟩)
                         ·
                          skip
                          clear B C D U;rintro ⟨Q,R⟩ o4 d2;(try dsimp only at d2);replace d2:=h_ (m4_ (m4_ (m4_ (m4_ (m4_ (m_ (m_ (m_ l_)))))))) d2;obtain ⟨j8,F,G,B,C,D,d6,d3,d0,d1,a4,b4,a5,b5,a6,b6,d7,d4,a0,b1,a1,b2,a2,b3,U⟩:=d2;have I:=j8;refine norm_ (a':=?_) ?_ ?_;rotate_left
                          ·
                           simp only [putAll,Act.put,s0_,s1_,s2_];rfl
                          refine two_ (i:=1) (j:=8) (Ni:=some 19) (Nj:=some 9) #[y_,y_,y_,n_,y_,n_,y_,y_,n_,n_,n_,n_] #[y_,n_,y_,n_,y_,n_,y_,y_,y_,n_,n_,n_] rfl rfl rfl rfl (two_of j9.1 (by kernel_rfl)) (by decide) (by decide) (fun K hK=>?_) (fun K hK=>?_)
                          ·
                           skip
                           refine goes_ Try.func32 (by kernel_rfl) rfl #[.agg #[.int .i16 e7,.int .i16 e8,.int .i16 e9,.int .i16 f0],.int .i64 15] (by rfl) rfl rfl (by (try simp only [m0_,m1_,m2_]);first|done|rfl|(simp only [l0_,l1_];rfl)) ?_;with_reducible refine (bellpulllaw04_made.calls k e7 e8 e9 f0 15 i8 e6 f9 g1 _ A4.1).mono ?_
                           rintro e n2 ⟨rfl,hb⟩;refine ⟨_,rfl,?_⟩;replace B:=bkb B hb;replace C:=bkb C hb;replace D:=bkb D hb;replace F:=bkb F hb;replace G:=bkb G hb;replace U:=bst U hb;(try clear hb);refine hK.out _ _ ⟨q0_ B,q1_ B,q2_ B,q3_ B,q0_ C,q1_ C,q2_ C,q3_ C,q0_ D,q1_ D,q2_ D,q3_ D⟩ (fun I=>?_);clear hK K;refine norm_ (a':=?_) ?_ ?_;rotate_left
                           ·
                            show Act.put _ (some 19) _=_;simp only [Act.put,s0_,s1_,s2_,i64_w,i32_w];rfl
                           exact norm_ (by simp only [putAll,Act.put,s0_,s1_,s2_] <;> rfl) (v8 (Q,R) _ ⟨I,F.1,G.1,B.1,C.1,D.1,d6.1,d3.1,d0.1,d1.1,a4.1,b4.1,a5.1,b5.1,a6.1,b6.1,d7.1,d4.1,a0.1,b1.1,a1.1,b2.1,a2.1,b3.1,U.1⟩)
                          ·
                           skip
                           refine box_step ?hg (N:=9) ?hd (cs:=#[.int .i64 0,.int .i64 0,.int .i64 0,.int .i64 0]) (t:=23) ?hr ?_;(case hd=>rfl);(case hg=>rfl);(case hr=>first|(go_simp;done)|(go_simp;rfl));intro T hg n2 a7 hb;have E:=mk0 (a7);have d8:=szw hg U;have d5:=szw hg U;have X:=nlt hg B;have a8:=ngt hg B;have Y:=nlt hg C;have a9:=ngt hg C;have Z:=nlt hg D;have b0:=ngt hg D;have c3:=nlt hg F;have c0:=ngt hg F;have b8:=nlt hg G;have b7:=ngt hg G;replace B:=bkb B hb;replace C:=bkb C hb;replace D:=bkb D hb;replace F:=bkb F hb;replace G:=bkb G hb;replace U:=bst U hb;clear hb a7 hg;refine hK.out _ _ ⟨q0_ B,q1_ B,q2_ B,q3_ B,q0_ C,q1_ C,q2_ C,q3_ C,q0_ D,q1_ D,q2_ D,q3_ D⟩ (fun I=>?_);clear hK K;refine norm_ (a':=?_) ?_ ?_;rotate_left
                           ·
                            show Act.put _ (some 9) _=_;simp only [Act.put,s0_,s1_,s2_,i64_w,i32_w];rfl
                           exact norm_ (by simp only [putAll,Act.put,s0_,s1_,s2_] <;> rfl) (x1 (Q,R,T) _ ⟨I,F.1,G.1,E.1,B.1,C.1,D.1,d6.1,d3.1,d0.1,d1.1,c0.1,c3.1,a4.1,b4.1,a5.1,b5.1,a6.1,b6.1,d7.1,d4.1,b7.1,b8.1,a0.1,b1.1,a1.1,b2.1,a2.1,b3.1,d8.1,d5.1,X.1,a8.1,Y.1,a9.1,Z.1,b0.1,U.1⟩)
                        ·
                         skip
                         clear B C D U;rintro T o4 d2;replace d2:=h_ (m4_ (m4_ (m4_ l_))) d2;obtain ⟨j8,E,B,C,D,d8,d5,X,a8,Y,a9,Z,b0,U⟩:=d2;have I:=j8;refine norm_ (a':=?_) ?_ ?_;rotate_left
                         ·
                          simp only [putAll,Act.put,s0_,s1_,s2_];rfl
                         refine three_ (i:=3) (j:=6) (k:=7) (Ni:=some 21) (Nj:=some 7) (Nk:=some 8) #[y_,y_,y_,y_,y_,n_,n_,n_,y_,n_,n_,n_] #[y_,y_,y_,n_,y_,n_,y_,n_,y_,n_,n_,n_] #[y_,y_,y_,n_,y_,n_,n_,y_,y_,n_,n_,n_] rfl rfl rfl rfl rfl rfl (three_of j9.1 (by kernel_rfl)) (by decide) (by decide) (by decide) (fun K hK=>?_) (fun K hK=>?_) (fun K hK=>?_)
                         ·
                          skip
                          refine goes_ Try.func32 (by kernel_rfl) rfl #[.agg #[.int .i16 f1,.int .i16 f2,.int .i16 f3,.int .i16 f4],.int .i64 15] (by rfl) rfl rfl (by (try simp only [m0_,m1_,m2_]);first|done|rfl|(simp only [l0_,l1_];rfl)) ?_;with_reducible refine (bellpulllaw04_made.calls k f1 f2 f3 f4 15 g5 g6 h0 h2 _ A5.1).mono ?_
                          rintro e n2 ⟨rfl,hb⟩;refine ⟨_,rfl,?_⟩;replace B:=bkb B hb;replace C:=bkb C hb;replace D:=bkb D hb;replace E:=bkb E hb;replace U:=bst U hb;(try clear hb);refine hK.out _ _ ⟨q0_ B,q1_ B,q2_ B,q3_ B,q0_ C,q1_ C,q2_ C,q3_ C,q0_ D,q1_ D,q2_ D,q3_ D⟩ (fun I=>?_);clear hK K;refine norm_ (a':=?_) ?_ ?_;rotate_left
                          ·
                           show Act.put _ (some 21) _=_;simp only [Act.put,s0_,s1_,s2_,i64_w,i32_w];rfl
                          exact norm_ (by simp only [putAll,Act.put,s0_,s1_,s2_] <;> rfl) (C0 (T) _ ⟨I,E.1,B.1,C.1,D.1,d8.1,d5.1,X.1,a8.1,Y.1,a9.1,Z.1,b0.1,U.1⟩)
                         ·
                          skip
                          refine box_step ?hg (N:=7) ?hd (cs:=#[.int .i64 0,.int .i64 0,.int .i64 0,.int .i64 0]) (t:=23) ?hr ?_;(case hd=>rfl);(case hg=>rfl);(case hr=>first|(go_simp;done)|(go_simp;rfl));intro Q hg n2 a7 hb;have F:=mk0 (a7);have d6:=szw hg U;have d3:=szw hg U;have a4:=nlt hg B;have b4:=ngt hg B;have a5:=nlt hg C;have b5:=ngt hg C;have a6:=nlt hg D;have b6:=ngt hg D;have c0:=nlt hg E;have c3:=ngt hg E;replace B:=bkb B hb;replace C:=bkb C hb;replace D:=bkb D hb;replace E:=bkb E hb;replace U:=bst U hb;clear hb a7 hg;refine hK.out _ _ ⟨q0_ B,q1_ B,q2_ B,q3_ B,q0_ C,q1_ C,q2_ C,q3_ C,q0_ D,q1_ D,q2_ D,q3_ D⟩ (fun I=>?_);clear hK K;refine norm_ (a':=?_) ?_ ?_;rotate_left
                          ·
                           show Act.put _ (some 7) _=_;simp only [Act.put,s0_,s1_,s2_,i64_w,i32_w];rfl
                          exact norm_ (by simp only [putAll,Act.put,s0_,s1_,s2_] <;> rfl) (v9 (Q,T) _ ⟨I,F.1,E.1,B.1,C.1,D.1,d6.1,d3.1,c0.1,c3.1,a4.1,b4.1,a5.1,b5.1,a6.1,b6.1,d8.1,d5.1,X.1,a8.1,Y.1,a9.1,Z.1,b0.1,U.1⟩)
                         ·
                          skip
                          refine box_step ?hg (N:=8) ?hd (cs:=#[.int .i64 0,.int .i64 0,.int .i64 0,.int .i64 0]) (t:=23) ?hr ?_;(case hd=>rfl);(case hg=>rfl);(case hr=>first|(go_simp;done)|(go_simp;rfl));intro R hg n2 a7 hb;have G:=mk0 (a7);have d7:=szw hg U;have d4:=szw hg U;have a0:=nlt hg B;have b1:=ngt hg B;have a1:=nlt hg C;have b2:=ngt hg C;have a2:=nlt hg D;have b3:=ngt hg D;have b7:=nlt hg E;have b8:=ngt hg E;replace B:=bkb B hb;replace C:=bkb C hb;replace D:=bkb D hb;replace E:=bkb E hb;replace U:=bst U hb;clear hb a7 hg;refine hK.out _ _ ⟨q0_ B,q1_ B,q2_ B,q3_ B,q0_ C,q1_ C,q2_ C,q3_ C,q0_ D,q1_ D,q2_ D,q3_ D⟩ (fun I=>?_);clear hK K;refine norm_ (a':=?_) ?_ ?_;rotate_left
                          ·
                           show Act.put _ (some 8) _=_;simp only [Act.put,s0_,s1_,s2_,i64_w,i32_w];rfl
                          exact norm_ (by simp only [putAll,Act.put,s0_,s1_,s2_] <;> rfl) (x0 (R,T) _ ⟨I,G.1,E.1,B.1,C.1,D.1,d7.1,d4.1,b7.1,b8.1,a0.1,b1.1,a1.1,b2.1,a2.1,b3.1,d8.1,d5.1,X.1,a8.1,Y.1,a9.1,Z.1,b0.1,U.1⟩)
                       ·
                        skip
                        clear B C D U;rintro R o4 d2;replace d2:=h_ (m4_ (m4_ (m4_ l_))) d2;obtain ⟨j8,G,B,C,D,d7,d4,a0,b1,a1,b2,a2,b3,U⟩:=d2;have I:=j8;refine norm_ (a':=?_) ?_ ?_;rotate_left
                        ·
                         simp only [putAll,Act.put,s0_,s1_,s2_];rfl
                        refine three_ (i:=3) (j:=6) (k:=8) (Ni:=some 21) (Nj:=some 7) (Nk:=some 9) #[y_,y_,y_,y_,y_,n_,n_,y_,n_,n_,n_,n_] #[y_,y_,y_,n_,y_,n_,y_,y_,n_,n_,n_,n_] #[y_,y_,y_,n_,y_,n_,n_,y_,y_,n_,n_,n_] rfl rfl rfl rfl rfl rfl (three_of j9.1 (by kernel_rfl)) (by decide) (by decide) (by decide) (fun K hK=>?_) (fun K hK=>?_) (fun K hK=>?_)
                        ·
                         skip
                         refine goes_ Try.func32 (by kernel_rfl) rfl #[.agg #[.int .i16 f1,.int .i16 f2,.int .i16 f3,.int .i16 f4],.int .i64 15] (by rfl) rfl rfl (by (try simp only [m0_,m1_,m2_]);first|done|rfl|(simp only [l0_,l1_];rfl)) ?_;with_reducible refine (bellpulllaw04_made.calls k f1 f2 f3 f4 15 g5 g6 h0 h2 _ A5.1).mono ?_
                         rintro e n2 ⟨rfl,hb⟩;refine ⟨_,rfl,?_⟩;replace B:=bkb B hb;replace C:=bkb C hb;replace D:=bkb D hb;replace G:=bkb G hb;replace U:=bst U hb;(try clear hb);refine hK.out _ _ ⟨q0_ B,q1_ B,q2_ B,q3_ B,q0_ C,q1_ C,q2_ C,q3_ C,q0_ D,q1_ D,q2_ D,q3_ D⟩ (fun I=>?_);clear hK K;refine norm_ (a':=?_) ?_ ?_;rotate_left
                         ·
                          show Act.put _ (some 21) _=_;simp only [Act.put,s0_,s1_,s2_,i64_w,i32_w];rfl
                         exact norm_ (by simp only [putAll,Act.put,s0_,s1_,s2_] <;> rfl) (B9 (R) _ ⟨I,G.1,B.1,C.1,D.1,d7.1,d4.1,a0.1,b1.1,a1.1,b2.1,a2.1,b3.1,U.1⟩)
                        ·
                         skip
                         refine box_step ?hg (N:=7) ?hd (cs:=#[.int .i64 0,.int .i64 0,.int .i64 0,.int .i64 0]) (t:=23) ?hr ?_;(case hd=>rfl);(case hg=>rfl);(case hr=>first|(go_simp;done)|(go_simp;rfl));intro Q hg n2 a7 hb;have F:=mk0 (a7);have d6:=szw hg U;have d3:=szw hg U;have a4:=nlt hg B;have b4:=ngt hg B;have a5:=nlt hg C;have b5:=ngt hg C;have a6:=nlt hg D;have b6:=ngt hg D;have d0:=nlt hg G;have d1:=ngt hg G;replace B:=bkb B hb;replace C:=bkb C hb;replace D:=bkb D hb;replace G:=bkb G hb;replace U:=bst U hb;clear hb a7 hg;refine hK.out _ _ ⟨q0_ B,q1_ B,q2_ B,q3_ B,q0_ C,q1_ C,q2_ C,q3_ C,q0_ D,q1_ D,q2_ D,q3_ D⟩ (fun I=>?_);clear hK K;refine norm_ (a':=?_) ?_ ?_;rotate_left
                         ·
                          show Act.put _ (some 7) _=_;simp only [Act.put,s0_,s1_,s2_,i64_w,i32_w];rfl
                         exact norm_ (by simp only [putAll,Act.put,s0_,s1_,s2_] <;> rfl) (v8 (Q,R) _ ⟨I,F.1,G.1,B.1,C.1,D.1,d6.1,d3.1,d0.1,d1.1,a4.1,b4.1,a5.1,b5.1,a6.1,b6.1,d7.1,d4.1,a0.1,b1.1,a1.1,b2.1,a2.1,b3.1,U.1⟩)
                        ·
                         skip
                         refine box_step ?hg (N:=9) ?hd (cs:=#[.int .i64 0,.int .i64 0,.int .i64 0,.int .i64 0]) (t:=23) ?hr ?_;(case hd=>rfl);(case hg=>rfl);(case hr=>first|(go_simp;done)|(go_simp;rfl));intro T hg n2 a7 hb;have E:=mk0 (a7);have d8:=szw hg U;have d5:=szw hg U;have X:=nlt hg B;have a8:=ngt hg B;have Y:=nlt hg C;have a9:=ngt hg C;have Z:=nlt hg D;have b0:=ngt hg D;have b8:=nlt hg G;have b7:=ngt hg G;replace B:=bkb B hb;replace C:=bkb C hb;replace D:=bkb D hb;replace G:=bkb G hb;replace U:=bst U hb;clear hb a7 hg;refine hK.out _ _ ⟨q0_ B,q1_ B,q2_ B,q3_ B,q0_ C,q1_ C,q2_ C,q3_ C,q0_ D,q1_ D,q2_ D,q3_ D⟩ (fun I=>?_);clear hK K;refine norm_ (a':=?_) ?_ ?_;rotate_left
                         ·
                          show Act.put _ (some 9) _=_;simp only [Act.put,s0_,s1_,s2_,i64_w,i32_w];rfl
                         exact norm_ (by simp only [putAll,Act.put,s0_,s1_,s2_] <;> rfl) (x0 (R,T) _ ⟨I,G.1,E.1,B.1,C.1,D.1,d7.1,d4.1,b7.1,b8.1,a0.1,b1.1,a1.1,b2.1,a2.1,b3.1,d8.1,d5.1,X.1,a8.1,Y.1,a9.1,Z.1,b0.1,U.1⟩)
                      ·
                       skip
                       clear B C D U;rintro Q o4 d2;replace d2:=h_ (m4_ (m4_ (m4_ l_))) d2;obtain ⟨j8,F,B,C,D,d6,d3,a4,b4,a5,b5,a6,b6,U⟩:=d2;have I:=j8;refine norm_ (a':=?_) ?_ ?_;rotate_left
                       ·
                        simp only [putAll,Act.put,s0_,s1_,s2_];rfl
                       refine three_ (i:=3) (j:=7) (k:=8) (Ni:=some 21) (Nj:=some 8) (Nk:=some 9) #[y_,y_,y_,y_,y_,n_,y_,n_,n_,n_,n_,n_] #[y_,y_,y_,n_,y_,n_,y_,y_,n_,n_,n_,n_] #[y_,y_,y_,n_,y_,n_,y_,n_,y_,n_,n_,n_] rfl rfl rfl rfl rfl rfl (three_of j9.1 (by kernel_rfl)) (by decide) (by decide) (by decide) (fun K hK=>?_) (fun K hK=>?_) (fun K hK=>?_)
                       ·
                        skip
                        refine goes_ Try.func32 (by kernel_rfl) rfl #[.agg #[.int .i16 f1,.int .i16 f2,.int .i16 f3,.int .i16 f4],.int .i64 15] (by rfl) rfl rfl (by (try simp only [m0_,m1_,m2_]);first|done|rfl|(simp only [l0_,l1_];rfl)) ?_;with_reducible refine (bellpulllaw04_made.calls k f1 f2 f3 f4 15 g5 g6 h0 h2 _ A5.1).mono ?_
                        rintro e n2 ⟨rfl,hb⟩;refine ⟨_,rfl,?_⟩;replace B:=bkb B hb;replace C:=bkb C hb;replace D:=bkb D hb;replace F:=bkb F hb;replace U:=bst U hb;(try clear hb);refine hK.out _ _ ⟨q0_ B,q1_ B,q2_ B,q3_ B,q0_ C,q1_ C,q2_ C,q3_ C,q0_ D,q1_ D,q2_ D,q3_ D⟩ (fun I=>?_);clear hK K;refine norm_ (a':=?_) ?_ ?_;rotate_left
                        ·
                         show Act.put _ (some 21) _=_;simp only [Act.put,s0_,s1_,s2_,i64_w,i32_w];rfl
                        exact norm_ (by simp only [putAll,Act.put,s0_,s1_,s2_] <;> rfl) (B8 (Q) _ ⟨I,F.1,B.1,C.1,D.1,d6.1,d3.1,a4.1,b4.1,a5.1,b5.1,a6.1,b6.1,U.1⟩)
                       ·
                        skip
                        refine box_step ?hg (N:=8) ?hd (cs:=#[.int .i64 0,.int .i64 0,.int .i64 0,.int .i64 0]) (t:=23) ?hr ?_;(case hd=>rfl);(case hg=>rfl);(case hr=>first|(go_simp;done)|(go_simp;rfl));intro R hg n2 a7 hb;have G:=mk0 (a7);have d7:=szw hg U;have d4:=szw hg U;have a0:=nlt hg B;have b1:=ngt hg B;have a1:=nlt hg C;have b2:=ngt hg C;have a2:=nlt hg D;have b3:=ngt hg D;have d1:=nlt hg F;have d0:=ngt hg F;replace B:=bkb B hb;replace C:=bkb C hb;replace D:=bkb D hb;replace F:=bkb F hb;replace U:=bst U hb;clear hb a7 hg;refine hK.out _ _ ⟨q0_ B,q1_ B,q2_ B,q3_ B,q0_ C,q1_ C,q2_ C,q3_ C,q0_ D,q1_ D,q2_ D,q3_ D⟩ (fun I=>?_);clear hK K;refine norm_ (a':=?_) ?_ ?_;rotate_left
                        ·
                         show Act.put _ (some 8) _=_;simp only [Act.put,s0_,s1_,s2_,i64_w,i32_w];rfl
                        exact norm_ (by simp only [putAll,Act.put,s0_,s1_,s2_] <;> rfl) (v8 (Q,R) _ ⟨I,F.1,G.1,B.1,C.1,D.1,d6.1,d3.1,d0.1,d1.1,a4.1,b4.1,a5.1,b5.1,a6.1,b6.1,d7.1,d4.1,a0.1,b1.1,a1.1,b2.1,a2.1,b3.1,U.1⟩)
                       ·
                        skip
                        refine box_step ?hg (N:=9) ?hd (cs:=#[.int .i64 0,.int .i64 0,.int .i64 0,.int .i64 0]) (t:=23) ?hr ?_;(case hd=>rfl);(case hg=>rfl);(case hr=>first|(go_simp;done)|(go_simp;rfl));intro T hg n2 a7 hb;have E:=mk0 (a7);have d8:=szw hg U;have d5:=szw hg U;have X:=nlt hg B;have a8:=ngt hg B;have Y:=nlt hg C;have a9:=ngt hg C;have Z:=nlt hg D;have b0:=ngt hg D;have c3:=nlt hg F;have c0:=ngt hg F;replace B:=bkb B hb;replace C:=bkb C hb;replace D:=bkb D hb;replace F:=bkb F hb;replace U:=bst U hb;clear hb a7 hg;refine hK.out _ _ ⟨q0_ B,q1_ B,q2_ B,q3_ B,q0_ C,q1_ C,q2_ C,q3_ C,q0_ D,q1_ D,q2_ D,q3_ D⟩ (fun I=>?_);clear hK K;refine norm_ (a':=?_) ?_ ?_;rotate_left
                        ·
                         show Act.put _ (some 9) _=_;simp only [Act.put,s0_,s1_,s2_,i64_w,i32_w];rfl
                        exact norm_ (by simp only [putAll,Act.put,s0_,s1_,s2_] <;> rfl) (v9 (Q,T) _ ⟨I,F.1,E.1,B.1,C.1,D.1,d6.1,d3.1,c0.1,c3.1,a4.1,b4.1,a5.1,b5.1,a6.1,b6.1,d8.1,d5.1,X.1,a8.1,Y.1,a9.1,Z.1,b0.1,U.1⟩)
                     ·
                      skip
                      clear B C D U;rintro _ o4 d2;replace d2:=h_ (m_ (m_ (m_ l_))) d2;obtain ⟨j8,B,C,D,U⟩:=d2;have I:=j8;refine norm_ (a':=?_) ?_ ?_;rotate_left
                      ·
                       simp only [putAll,Act.put,s0_,s1_,s2_];rfl
                      refine four_ (i:=5) (j:=6) (k:=7) (m:=8) (Ni:=some 23) (Nj:=some 7) (Nk:=some 8) (Nm:=some 9) #[y_,y_,y_,y_,y_,y_,n_,n_,n_,n_,n_,n_] #[y_,y_,y_,y_,y_,n_,y_,n_,n_,n_,n_,n_] #[y_,y_,y_,y_,y_,n_,n_,y_,n_,n_,n_,n_] #[y_,y_,y_,y_,y_,n_,n_,n_,y_,n_,n_,n_] rfl rfl rfl rfl rfl rfl rfl rfl (four_of j9.1 (by kernel_rfl)) (by decide) (by decide) (by decide) (by decide) (fun K hK=>?_) (fun K hK=>?_) (fun K hK=>?_) (fun K hK=>?_)
                      ·
                       skip
                       refine goes_ Try.func32 (by kernel_rfl) rfl #[.agg #[.int .i16 f5,.int .i16 f6,.int .i16 f7,.int .i16 f8],.int .i64 15] (by rfl) rfl rfl (by (try simp only [m0_,m1_,m2_]);first|done|rfl|(simp only [l0_,l1_];rfl)) ?_;with_reducible refine (bellpulllaw04_made.calls k f5 f6 f7 f8 15 g0 g2 g3 g4 _ A6.1).mono ?_
                       rintro e n2 ⟨rfl,hb⟩;refine ⟨_,rfl,?_⟩;replace B:=bkb B hb;replace C:=bkb C hb;replace D:=bkb D hb;replace U:=bst U hb;(try clear hb);refine hK.out _ _ ⟨q0_ B,q1_ B,q2_ B,q3_ B,q0_ C,q1_ C,q2_ C,q3_ C,q0_ D,q1_ D,q2_ D,q3_ D⟩ (fun I=>?_);clear hK K;refine norm_ (a':=?_) ?_ ?_;rotate_left
                       ·
                        show Act.put _ (some 23) _=_;simp only [Act.put,s0_,s1_,s2_,i64_w,i32_w];rfl
                       exact norm_ (by simp only [putAll,Act.put,s0_,s1_,s2_] <;> rfl) (U8 () _ ⟨I,B.1,C.1,D.1,U.1⟩)
                      ·
                       skip
                       refine box_step ?hg (N:=7) ?hd (cs:=#[.int .i64 0,.int .i64 0,.int .i64 0,.int .i64 0]) (t:=23) ?hr ?_;(case hd=>rfl);(case hg=>rfl);(case hr=>first|(go_simp;done)|(go_simp;rfl));intro Q hg n2 a7 hb;have F:=mk0 (a7);have d6:=szw hg U;have d3:=szw hg U;have a4:=nlt hg B;have b4:=ngt hg B;have a5:=nlt hg C;have b5:=ngt hg C;have a6:=nlt hg D;have b6:=ngt hg D;replace B:=bkb B hb;replace C:=bkb C hb;replace D:=bkb D hb;replace U:=bst U hb;clear hb a7 hg;refine hK.out _ _ ⟨q0_ B,q1_ B,q2_ B,q3_ B,q0_ C,q1_ C,q2_ C,q3_ C,q0_ D,q1_ D,q2_ D,q3_ D⟩ (fun I=>?_);clear hK K;refine norm_ (a':=?_) ?_ ?_;rotate_left
                       ·
                        show Act.put _ (some 7) _=_;simp only [Act.put,s0_,s1_,s2_,i64_w,i32_w];rfl
                       exact norm_ (by simp only [putAll,Act.put,s0_,s1_,s2_] <;> rfl) (B8 (Q) _ ⟨I,F.1,B.1,C.1,D.1,d6.1,d3.1,a4.1,b4.1,a5.1,b5.1,a6.1,b6.1,U.1⟩)
                      ·
                       skip
                       refine box_step ?hg (N:=8) ?hd (cs:=#[.int .i64 0,.int .i64 0,.int .i64 0,.int .i64 0]) (t:=23) ?hr ?_;(case hd=>rfl);(case hg=>rfl);(case hr=>first|(go_simp;done)|(go_simp;rfl));intro R hg n2 a7 hb;have G:=mk0 (a7);have d7:=szw hg U;have d4:=szw hg U;have a0:=nlt hg B;have b1:=ngt hg B;have a1:=nlt hg C;have b2:=ngt hg C;have a2:=nlt hg D;have b3:=ngt hg D;replace B:=bkb B hb;replace C:=bkb C hb;replace D:=bkb D hb;replace U:=bst U hb;clear hb a7 hg;refine hK.out _ _ ⟨q0_ B,q1_ B,q2_ B,q3_ B,q0_ C,q1_ C,q2_ C,q3_ C,q0_ D,q1_ D,q2_ D,q3_ D⟩ (fun I=>?_);clear hK K;refine norm_ (a':=?_) ?_ ?_;rotate_left
                       ·
                        show Act.put _ (some 8) _=_;simp only [Act.put,s0_,s1_,s2_,i64_w,i32_w];rfl
                       exact norm_ (by simp only [putAll,Act.put,s0_,s1_,s2_] <;> rfl) (B9 (R) _ ⟨I,G.1,B.1,C.1,D.1,d7.1,d4.1,a0.1,b1.1,a1.1,b2.1,a2.1,b3.1,U.1⟩)
                      ·
                       skip
                       refine box_step ?hg (N:=9) ?hd (cs:=#[.int .i64 0,.int .i64 0,.int .i64 0,.int .i64 0]) (t:=23) ?hr ?_;(case hd=>rfl);(case hg=>rfl);(case hr=>first|(go_simp;done)|(go_simp;rfl));intro T hg n2 a7 hb;have E:=mk0 (a7);have d8:=szw hg U;have d5:=szw hg U;have X:=nlt hg B;have a8:=ngt hg B;have Y:=nlt hg C;have a9:=ngt hg C;have Z:=nlt hg D;have b0:=ngt hg D;replace B:=bkb B hb;replace C:=bkb C hb;replace D:=bkb D hb;replace U:=bst U hb;clear hb a7 hg;refine hK.out _ _ ⟨q0_ B,q1_ B,q2_ B,q3_ B,q0_ C,q1_ C,q2_ C,q3_ C,q0_ D,q1_ D,q2_ D,q3_ D⟩ (fun I=>?_);clear hK K;refine norm_ (a':=?_) ?_ ?_;rotate_left
                       ·
                        show Act.put _ (some 9) _=_;simp only [Act.put,s0_,s1_,s2_,i64_w,i32_w];rfl
                       exact norm_ (by simp only [putAll,Act.put,s0_,s1_,s2_] <;> rfl) (C0 (T) _ ⟨I,E.1,B.1,C.1,D.1,d8.1,d5.1,X.1,a8.1,Y.1,a9.1,Z.1,b0.1,U.1⟩)
                    ·
                     skip
                     clear B C D U;rintro ⟨Q,R,T⟩ n2 d2;(try dsimp only at d2);replace d2:=h_ (m4_ (m4_ (m4_ (m4_ (m4_ (m4_ (m4_ (m4_ (m4_ l_))))))))) d2;obtain ⟨j8,F,G,E,B,C,D,d6,d3,d0,d1,c0,c3,a4,b4,a5,b5,a6,b6,d7,d4,b7,b8,a0,b1,a1,b2,a2,b3,d8,d5,X,a8,Y,a9,Z,b0,U⟩:=d2;have I:=j8;refine norm_ (a':=?_) ?_ ?_;rotate_left
                     ·
                      simp only [putAll,Act.put,s0_,s1_,s2_];rfl
                     refine one_ (i:=1) (N:=some 19) #[y_,y_,y_,n_,y_,n_,y_,y_,y_,n_,n_,n_] rfl rfl (one_of j9.1 (by kernel_rfl)) (by decide) (fun K hK=>?_);refine goes_ Try.func32 (by kernel_rfl) rfl #[.agg #[.int .i16 e7,.int .i16 e8,.int .i16 e9,.int .i16 f0],.int .i64 15] (by rfl) rfl rfl (by (try simp only [m0_,m1_,m2_]);first|done|rfl|(simp only [l0_,l1_];rfl)) ?_;with_reducible refine (bellpulllaw04_made.calls k e7 e8 e9 f0 15 i8 e6 f9 g1 _ A4.1).mono ?_
                     rintro e n5 ⟨rfl,hb⟩;refine ⟨_,rfl,?_⟩;replace B:=bkb B hb;replace C:=bkb C hb;replace D:=bkb D hb;replace F:=bkb F hb;replace G:=bkb G hb;replace E:=bkb E hb;replace U:=bst U hb;(try clear hb);refine hK.out _ _ ⟨q0_ B,q1_ B,q2_ B,q3_ B,q0_ C,q1_ C,q2_ C,q3_ C,q0_ D,q1_ D,q2_ D,q3_ D⟩ (fun I=>?_);clear hK K;refine norm_ (a':=?_) ?_ ?_;rotate_left
                     ·
                      show Act.put _ (some 19) _=_;simp only [Act.put,s0_,s1_,s2_,i64_w,i32_w];rfl
                     exact norm_ (by simp only [putAll,Act.put,s0_,s1_,s2_] <;> rfl) (p6 (Q,R,T) _ ⟨I,F.1,G.1,E.1,B.1,C.1,D.1,d6.1,d3.1,d0.1,d1.1,c0.1,c3.1,a4.1,b4.1,a5.1,b5.1,a6.1,b6.1,d7.1,d4.1,b7.1,b8.1,a0.1,b1.1,a1.1,b2.1,a2.1,b3.1,d8.1,d5.1,X.1,a8.1,Y.1,a9.1,Z.1,b0.1,U.1⟩)
                   ·
                    skip
                    clear B C D U;rintro ⟨R,T⟩ n2 d2;(try dsimp only at d2);replace d2:=h_ (m4_ (m4_ (m4_ (m4_ (m4_ (m_ (m_ (m_ l_)))))))) d2;obtain ⟨j8,G,E,B,C,D,d7,d4,b7,b8,a0,b1,a1,b2,a2,b3,d8,d5,X,a8,Y,a9,Z,b0,U⟩:=d2;have I:=j8;refine norm_ (a':=?_) ?_ ?_;rotate_left
                    ·
                     simp only [putAll,Act.put,s0_,s1_,s2_];rfl
                    refine two_ (i:=3) (j:=6) (Ni:=some 21) (Nj:=some 7) #[y_,y_,y_,y_,y_,n_,n_,y_,y_,n_,n_,n_] #[y_,y_,y_,n_,y_,n_,y_,y_,y_,n_,n_,n_] rfl rfl rfl rfl (two_of j9.1 (by kernel_rfl)) (by decide) (by decide) (fun K hK=>?_) (fun K hK=>?_)
                    ·
                     skip
                     refine goes_ Try.func32 (by kernel_rfl) rfl #[.agg #[.int .i16 f1,.int .i16 f2,.int .i16 f3,.int .i16 f4],.int .i64 15] (by rfl) rfl rfl (by (try simp only [m0_,m1_,m2_]);first|done|rfl|(simp only [l0_,l1_];rfl)) ?_;with_reducible refine (bellpulllaw04_made.calls k f1 f2 f3 f4 15 g5 g6 h0 h2 _ A5.1).mono ?_
                     rintro e n5 ⟨rfl,hb⟩;refine ⟨_,rfl,?_⟩;replace B:=bkb B hb;replace C:=bkb C hb;replace D:=bkb D hb;replace G:=bkb G hb;replace E:=bkb E hb;replace U:=bst U hb;(try clear hb);refine hK.out _ _ ⟨q0_ B,q1_ B,q2_ B,q3_ B,q0_ C,q1_ C,q2_ C,q3_ C,q0_ D,q1_ D,q2_ D,q3_ D⟩ (fun I=>?_);clear hK K;refine norm_ (a':=?_) ?_ ?_;rotate_left
                     ·
                      show Act.put _ (some 21) _=_;simp only [Act.put,s0_,s1_,s2_,i64_w,i32_w];rfl
                     exact norm_ (by simp only [putAll,Act.put,s0_,s1_,s2_] <;> rfl) (q9 (R,T) _ ⟨I,G.1,E.1,B.1,C.1,D.1,d7.1,d4.1,b7.1,b8.1,a0.1,b1.1,a1.1,b2.1,a2.1,b3.1,d8.1,d5.1,X.1,a8.1,Y.1,a9.1,Z.1,b0.1,U.1⟩)
                    ·
                     skip
                     refine box_step ?hg (N:=7) ?hd (cs:=#[.int .i64 0,.int .i64 0,.int .i64 0,.int .i64 0]) (t:=23) ?hr ?_;(case hd=>rfl);(case hg=>rfl);(case hr=>first|(go_simp;done)|(go_simp;rfl));intro Q hg n5 a7 hb;have F:=mk0 (a7);have d6:=szw hg U;have d3:=szw hg U;have a4:=nlt hg B;have b4:=ngt hg B;have a5:=nlt hg C;have b5:=ngt hg C;have a6:=nlt hg D;have b6:=ngt hg D;have d0:=nlt hg G;have d1:=ngt hg G;have c0:=nlt hg E;have c3:=ngt hg E;replace B:=bkb B hb;replace C:=bkb C hb;replace D:=bkb D hb;replace G:=bkb G hb;replace E:=bkb E hb;replace U:=bst U hb;clear hb a7 hg;refine hK.out _ _ ⟨q0_ B,q1_ B,q2_ B,q3_ B,q0_ C,q1_ C,q2_ C,q3_ C,q0_ D,q1_ D,q2_ D,q3_ D⟩ (fun I=>?_);clear hK K;refine norm_ (a':=?_) ?_ ?_;rotate_left
                     ·
                      show Act.put _ (some 7) _=_;simp only [Act.put,s0_,s1_,s2_,i64_w,i32_w];rfl
                     exact norm_ (by simp only [putAll,Act.put,s0_,s1_,s2_] <;> rfl) (p6 (Q,R,T) _ ⟨I,F.1,G.1,E.1,B.1,C.1,D.1,d6.1,d3.1,d0.1,d1.1,c0.1,c3.1,a4.1,b4.1,a5.1,b5.1,a6.1,b6.1,d7.1,d4.1,b7.1,b8.1,a0.1,b1.1,a1.1,b2.1,a2.1,b3.1,d8.1,d5.1,X.1,a8.1,Y.1,a9.1,Z.1,b0.1,U.1⟩)
                  ·
                   skip
                   clear B C D U;rintro ⟨Q,T⟩ n2 d2;(try dsimp only at d2);replace d2:=h_ (m4_ (m4_ (m4_ (m4_ (m4_ (m_ (m_ (m_ l_)))))))) d2;obtain ⟨j8,F,E,B,C,D,d6,d3,c0,c3,a4,b4,a5,b5,a6,b6,d8,d5,X,a8,Y,a9,Z,b0,U⟩:=d2;have I:=j8;refine norm_ (a':=?_) ?_ ?_;rotate_left
                   ·
                    simp only [putAll,Act.put,s0_,s1_,s2_];rfl
                   refine two_ (i:=3) (j:=7) (Ni:=some 21) (Nj:=some 8) #[y_,y_,y_,y_,y_,n_,y_,n_,y_,n_,n_,n_] #[y_,y_,y_,n_,y_,n_,y_,y_,y_,n_,n_,n_] rfl rfl rfl rfl (two_of j9.1 (by kernel_rfl)) (by decide) (by decide) (fun K hK=>?_) (fun K hK=>?_)
                   ·
                    skip
                    refine goes_ Try.func32 (by kernel_rfl) rfl #[.agg #[.int .i16 f1,.int .i16 f2,.int .i16 f3,.int .i16 f4],.int .i64 15] (by rfl) rfl rfl (by (try simp only [m0_,m1_,m2_]);first|done|rfl|(simp only [l0_,l1_];rfl)) ?_;with_reducible refine (bellpulllaw04_made.calls k f1 f2 f3 f4 15 g5 g6 h0 h2 _ A5.1).mono ?_
                    rintro e n5 ⟨rfl,hb⟩;refine ⟨_,rfl,?_⟩;replace B:=bkb B hb;replace C:=bkb C hb;replace D:=bkb D hb;replace F:=bkb F hb;replace E:=bkb E hb;replace U:=bst U hb;(try clear hb);refine hK.out _ _ ⟨q0_ B,q1_ B,q2_ B,q3_ B,q0_ C,q1_ C,q2_ C,q3_ C,q0_ D,q1_ D,q2_ D,q3_ D⟩ (fun I=>?_);clear hK K;refine norm_ (a':=?_) ?_ ?_;rotate_left
                    ·
                     show Act.put _ (some 21) _=_;simp only [Act.put,s0_,s1_,s2_,i64_w,i32_w];rfl
                    exact norm_ (by simp only [putAll,Act.put,s0_,s1_,s2_] <;> rfl) (q8 (Q,T) _ ⟨I,F.1,E.1,B.1,C.1,D.1,d6.1,d3.1,c0.1,c3.1,a4.1,b4.1,a5.1,b5.1,a6.1,b6.1,d8.1,d5.1,X.1,a8.1,Y.1,a9.1,Z.1,b0.1,U.1⟩)
                   ·
                    skip
                    refine box_step ?hg (N:=8) ?hd (cs:=#[.int .i64 0,.int .i64 0,.int .i64 0,.int .i64 0]) (t:=23) ?hr ?_;(case hd=>rfl);(case hg=>rfl);(case hr=>first|(go_simp;done)|(go_simp;rfl));intro R hg n5 a7 hb;have G:=mk0 (a7);have d7:=szw hg U;have d4:=szw hg U;have a0:=nlt hg B;have b1:=ngt hg B;have a1:=nlt hg C;have b2:=ngt hg C;have a2:=nlt hg D;have b3:=ngt hg D;have d1:=nlt hg F;have d0:=ngt hg F;have b7:=nlt hg E;have b8:=ngt hg E;replace B:=bkb B hb;replace C:=bkb C hb;replace D:=bkb D hb;replace F:=bkb F hb;replace E:=bkb E hb;replace U:=bst U hb;clear hb a7 hg;refine hK.out _ _ ⟨q0_ B,q1_ B,q2_ B,q3_ B,q0_ C,q1_ C,q2_ C,q3_ C,q0_ D,q1_ D,q2_ D,q3_ D⟩ (fun I=>?_);clear hK K;refine norm_ (a':=?_) ?_ ?_;rotate_left
                    ·
                     show Act.put _ (some 8) _=_;simp only [Act.put,s0_,s1_,s2_,i64_w,i32_w];rfl
                    exact norm_ (by simp only [putAll,Act.put,s0_,s1_,s2_] <;> rfl) (p6 (Q,R,T) _ ⟨I,F.1,G.1,E.1,B.1,C.1,D.1,d6.1,d3.1,d0.1,d1.1,c0.1,c3.1,a4.1,b4.1,a5.1,b5.1,a6.1,b6.1,d7.1,d4.1,b7.1,b8.1,a0.1,b1.1,a1.1,b2.1,a2.1,b3.1,d8.1,d5.1,X.1,a8.1,Y.1,a9.1,Z.1,b0.1,U.1⟩)
                 ·
                  skip
                  clear B C D U;rintro ⟨Q,R⟩ n2 d2;(try dsimp only at d2);replace d2:=h_ (m4_ (m4_ (m4_ (m4_ (m4_ (m_ (m_ (m_ l_)))))))) d2;obtain ⟨j8,F,G,B,C,D,d6,d3,d0,d1,a4,b4,a5,b5,a6,b6,d7,d4,a0,b1,a1,b2,a2,b3,U⟩:=d2;have I:=j8;refine norm_ (a':=?_) ?_ ?_;rotate_left
                  ·
                   simp only [putAll,Act.put,s0_,s1_,s2_];rfl
                  refine two_ (i:=3) (j:=8) (Ni:=some 21) (Nj:=some 9) #[y_,y_,y_,y_,y_,n_,y_,y_,n_,n_,n_,n_] #[y_,y_,y_,n_,y_,n_,y_,y_,y_,n_,n_,n_] rfl rfl rfl rfl (two_of j9.1 (by kernel_rfl)) (by decide) (by decide) (fun K hK=>?_) (fun K hK=>?_)
                  ·
                   skip
                   refine goes_ Try.func32 (by kernel_rfl) rfl #[.agg #[.int .i16 f1,.int .i16 f2,.int .i16 f3,.int .i16 f4],.int .i64 15] (by rfl) rfl rfl (by (try simp only [m0_,m1_,m2_]);first|done|rfl|(simp only [l0_,l1_];rfl)) ?_;with_reducible refine (bellpulllaw04_made.calls k f1 f2 f3 f4 15 g5 g6 h0 h2 _ A5.1).mono ?_
                   rintro e n5 ⟨rfl,hb⟩;refine ⟨_,rfl,?_⟩;replace B:=bkb B hb;replace C:=bkb C hb;replace D:=bkb D hb;replace F:=bkb F hb;replace G:=bkb G hb;replace U:=bst U hb;(try clear hb);refine hK.out _ _ ⟨q0_ B,q1_ B,q2_ B,q3_ B,q0_ C,q1_ C,q2_ C,q3_ C,q0_ D,q1_ D,q2_ D,q3_ D⟩ (fun I=>?_);clear hK K;refine norm_ (a':=?_) ?_ ?_;rotate_left
                   ·
                    show Act.put _ (some 21) _=_;simp only [Act.put,s0_,s1_,s2_,i64_w,i32_w];rfl
                   exact norm_ (by simp only [putAll,Act.put,s0_,s1_,s2_] <;> rfl) (q7 (Q,R) _ ⟨I,F.1,G.1,B.1,C.1,D.1,d6.1,d3.1,d0.1,d1.1,a4.1,b4.1,a5.1,b5.1,a6.1,b6.1,d7.1,d4.1,a0.1,b1.1,a1.1,b2.1,a2.1,b3.1,U.1⟩)
                  ·
                   skip
                   refine box_step ?hg (N:=9) ?hd (cs:=#[.int .i64 0,.int .i64 0,.int .i64 0,.int .i64 0]) (t:=23) ?hr ?_;(case hd=>rfl);(case hg=>rfl);(case hr=>first|(go_simp;done)|(go_simp;rfl));intro T hg n5 a7 hb;have E:=mk0 (a7);have d8:=szw hg U;have d5:=szw hg U;have X:=nlt hg B;have a8:=ngt hg B;have Y:=nlt hg C;have a9:=ngt hg C;have Z:=nlt hg D;have b0:=ngt hg D;have c3:=nlt hg F;have c0:=ngt hg F;have b8:=nlt hg G;have b7:=ngt hg G;replace B:=bkb B hb;replace C:=bkb C hb;replace D:=bkb D hb;replace F:=bkb F hb;replace G:=bkb G hb;replace U:=bst U hb;clear hb a7 hg;refine hK.out _ _ ⟨q0_ B,q1_ B,q2_ B,q3_ B,q0_ C,q1_ C,q2_ C,q3_ C,q0_ D,q1_ D,q2_ D,q3_ D⟩ (fun I=>?_);clear hK K;refine norm_ (a':=?_) ?_ ?_;rotate_left
                   ·
                    show Act.put _ (some 9) _=_;simp only [Act.put,s0_,s1_,s2_,i64_w,i32_w];rfl
                   exact norm_ (by simp only [putAll,Act.put,s0_,s1_,s2_] <;> rfl) (p6 (Q,R,T) _ ⟨I,F.1,G.1,E.1,B.1,C.1,D.1,d6.1,d3.1,d0.1,d1.1,c0.1,c3.1,a4.1,b4.1,a5.1,b5.1,a6.1,b6.1,d7.1,d4.1,b7.1,b8.1,a0.1,b1.1,a1.1,b2.1,a2.1,b3.1,d8.1,d5.1,X.1,a8.1,Y.1,a9.1,Z.1,b0.1,U.1⟩)
                ·
                 skip
                 clear B C D U;rintro T n2 d2;replace d2:=h_ (m4_ (m4_ (m4_ l_))) d2;obtain ⟨j8,E,B,C,D,d8,d5,X,a8,Y,a9,Z,b0,U⟩:=d2;have I:=j8;refine norm_ (a':=?_) ?_ ?_;rotate_left
                 ·
                  simp only [putAll,Act.put,s0_,s1_,s2_];rfl
                 refine three_ (i:=5) (j:=6) (k:=7) (Ni:=some 23) (Nj:=some 7) (Nk:=some 8) #[y_,y_,y_,y_,y_,y_,n_,n_,y_,n_,n_,n_] #[y_,y_,y_,y_,y_,n_,y_,n_,y_,n_,n_,n_] #[y_,y_,y_,y_,y_,n_,n_,y_,y_,n_,n_,n_] rfl rfl rfl rfl rfl rfl (three_of j9.1 (by kernel_rfl)) (by decide) (by decide) (by decide) (fun K hK=>?_) (fun K hK=>?_) (fun K hK=>?_)
                 ·
                  skip
                  refine goes_ Try.func32 (by kernel_rfl) rfl #[.agg #[.int .i16 f5,.int .i16 f6,.int .i16 f7,.int .i16 f8],.int .i64 15] (by rfl) rfl rfl (by (try simp only [m0_,m1_,m2_]);first|done|rfl|(simp only [l0_,l1_];rfl)) ?_;with_reducible refine (bellpulllaw04_made.calls k f5 f6 f7 f8 15 g0 g2 g3 g4 _ A6.1).mono ?_
                  rintro e n5 ⟨rfl,hb⟩;refine ⟨_,rfl,?_⟩;replace B:=bkb B hb;replace C:=bkb C hb;replace D:=bkb D hb;replace E:=bkb E hb;replace U:=bst U hb;(try clear hb);refine hK.out _ _ ⟨q0_ B,q1_ B,q2_ B,q3_ B,q0_ C,q1_ C,q2_ C,q3_ C,q0_ D,q1_ D,q2_ D,q3_ D⟩ (fun I=>?_);clear hK K;refine norm_ (a':=?_) ?_ ?_;rotate_left
                  ·
                   show Act.put _ (some 23) _=_;simp only [Act.put,s0_,s1_,s2_,i64_w,i32_w];rfl
                  exact norm_ (by simp only [putAll,Act.put,s0_,s1_,s2_] <;> rfl) (x5 (T) _ ⟨I,E.1,B.1,C.1,D.1,d8.1,d5.1,X.1,a8.1,Y.1,a9.1,Z.1,b0.1,U.1⟩)
                 ·
                  skip
                  refine box_step ?hg (N:=7) ?hd (cs:=#[.int .i64 0,.int .i64 0,.int .i64 0,.int .i64 0]) (t:=23) ?hr ?_;(case hd=>rfl);(case hg=>rfl);(case hr=>first|(go_simp;done)|(go_simp;rfl));intro Q hg n5 a7 hb;have F:=mk0 (a7);have d6:=szw hg U;have d3:=szw hg U;have a4:=nlt hg B;have b4:=ngt hg B;have a5:=nlt hg C;have b5:=ngt hg C;have a6:=nlt hg D;have b6:=ngt hg D;have c0:=nlt hg E;have c3:=ngt hg E;replace B:=bkb B hb;replace C:=bkb C hb;replace D:=bkb D hb;replace E:=bkb E hb;replace U:=bst U hb;clear hb a7 hg;refine hK.out _ _ ⟨q0_ B,q1_ B,q2_ B,q3_ B,q0_ C,q1_ C,q2_ C,q3_ C,q0_ D,q1_ D,q2_ D,q3_ D⟩ (fun I=>?_);clear hK K;refine norm_ (a':=?_) ?_ ?_;rotate_left
                  ·
                   show Act.put _ (some 7) _=_;simp only [Act.put,s0_,s1_,s2_,i64_w,i32_w];rfl
                  exact norm_ (by simp only [putAll,Act.put,s0_,s1_,s2_] <;> rfl) (q8 (Q,T) _ ⟨I,F.1,E.1,B.1,C.1,D.1,d6.1,d3.1,c0.1,c3.1,a4.1,b4.1,a5.1,b5.1,a6.1,b6.1,d8.1,d5.1,X.1,a8.1,Y.1,a9.1,Z.1,b0.1,U.1⟩)
                 ·
                  skip
                  refine box_step ?hg (N:=8) ?hd (cs:=#[.int .i64 0,.int .i64 0,.int .i64 0,.int .i64 0]) (t:=23) ?hr ?_;(case hd=>rfl);(case hg=>rfl);(case hr=>first|(go_simp;done)|(go_simp;rfl));intro R hg n5 a7 hb;have G:=mk0 (a7);have d7:=szw hg U;have d4:=szw hg U;have a0:=nlt hg B;have b1:=ngt hg B;have a1:=nlt hg C;have b2:=ngt hg C;have a2:=nlt hg D;have b3:=ngt hg D;have b7:=nlt hg E;have b8:=ngt hg E;replace B:=bkb B hb;replace C:=bkb C hb;replace D:=bkb D hb;replace E:=bkb E hb;replace U:=bst U hb;clear hb a7 hg;refine hK.out _ _ ⟨q0_ B,q1_ B,q2_ B,q3_ B,q0_ C,q1_ C,q2_ C,q3_ C,q0_ D,q1_ D,q2_ D,q3_ D⟩ (fun I=>?_);clear hK K;refine norm_ (a':=?_) ?_ ?_;rotate_left
                  ·
                   show Act.put _ (some 8) _=_;simp only [Act.put,s0_,s1_,s2_,i64_w,i32_w];rfl
                  exact norm_ (by simp only [putAll,Act.put,s0_,s1_,s2_] <;> rfl) (q9 (R,T) _ ⟨I,G.1,E.1,B.1,C.1,D.1,d7.1,d4.1,b7.1,b8.1,a0.1,b1.1,a1.1,b2.1,a2.1,b3.1,d8.1,d5.1,X.1,a8.1,Y.1,a9.1,Z.1,b0.1,U.1⟩)
               ·
                skip
                clear B C D U;rintro R n2 d2;replace d2:=h_ (m4_ (m4_ (m4_ l_))) d2;obtain ⟨j8,G,B,C,D,d7,d4,a0,b1,a1,b2,a2,b3,U⟩:=d2;have I:=j8;refine norm_ (a':=?_) ?_ ?_;rotate_left
                ·
                 simp only [putAll,Act.put,s0_,s1_,s2_];rfl
                refine three_ (i:=5) (j:=6) (k:=8) (Ni:=some 23) (Nj:=some 7) (Nk:=some 9) #[y_,y_,y_,y_,y_,y_,n_,y_,n_,n_,n_,n_] #[y_,y_,y_,y_,y_,n_,y_,y_,n_,n_,n_,n_] #[y_,y_,y_,y_,y_,n_,n_,y_,y_,n_,n_,n_] rfl rfl rfl rfl rfl rfl (three_of j9.1 (by kernel_rfl)) (by decide) (by decide) (by decide) (fun K hK=>?_) (fun K hK=>?_) (fun K hK=>?_)
                ·
                 skip
                 refine goes_ Try.func32 (by kernel_rfl) rfl #[.agg #[.int .i16 f5,.int .i16 f6,.int .i16 f7,.int .i16 f8],.int .i64 15] (by rfl) rfl rfl (by (try simp only [m0_,m1_,m2_]);first|done|rfl|(simp only [l0_,l1_];rfl)) ?_;with_reducible refine (bellpulllaw04_made.calls k f5 f6 f7 f8 15 g0 g2 g3 g4 _ A6.1).mono ?_
                 rintro e n5 ⟨rfl,hb⟩;refine ⟨_,rfl,?_⟩;replace B:=bkb B hb;replace C:=bkb C hb;replace D:=bkb D hb;replace G:=bkb G hb;replace U:=bst U hb;(try clear hb);refine hK.out _ _ ⟨q0_ B,q1_ B,q2_ B,q3_ B,q0_ C,q1_ C,q2_ C,q3_ C,q0_ D,q1_ D,q2_ D,q3_ D⟩ (fun I=>?_);clear hK K;refine norm_ (a':=?_) ?_ ?_;rotate_left
                 ·
                  show Act.put _ (some 23) _=_;simp only [Act.put,s0_,s1_,s2_,i64_w,i32_w];rfl
                 exact norm_ (by simp only [putAll,Act.put,s0_,s1_,s2_] <;> rfl) (x4 (R) _ ⟨I,G.1,B.1,C.1,D.1,d7.1,d4.1,a0.1,b1.1,a1.1,b2.1,a2.1,b3.1,U.1⟩)
                ·
                 skip
                 refine box_step ?hg (N:=7) ?hd (cs:=#[.int .i64 0,.int .i64 0,.int .i64 0,.int .i64 0]) (t:=23) ?hr ?_;(case hd=>rfl);(case hg=>rfl);(case hr=>first|(go_simp;done)|(go_simp;rfl));intro Q hg n5 a7 hb;have F:=mk0 (a7);have d6:=szw hg U;have d3:=szw hg U;have a4:=nlt hg B;have b4:=ngt hg B;have a5:=nlt hg C;have b5:=ngt hg C;have a6:=nlt hg D;have b6:=ngt hg D;have d0:=nlt hg G;have d1:=ngt hg G;replace B:=bkb B hb;replace C:=bkb C hb;replace D:=bkb D hb;replace G:=bkb G hb;replace U:=bst U hb;clear hb a7 hg;refine hK.out _ _ ⟨q0_ B,q1_ B,q2_ B,q3_ B,q0_ C,q1_ C,q2_ C,q3_ C,q0_ D,q1_ D,q2_ D,q3_ D⟩ (fun I=>?_);clear hK K;refine norm_ (a':=?_) ?_ ?_;rotate_left
                 ·
                  show Act.put _ (some 7) _=_;simp only [Act.put,s0_,s1_,s2_,i64_w,i32_w];rfl
                 exact norm_ (by simp only [putAll,Act.put,s0_,s1_,s2_] <;> rfl) (q7 (Q,R) _ ⟨I,F.1,G.1,B.1,C.1,D.1,d6.1,d3.1,d0.1,d1.1,a4.1,b4.1,a5.1,b5.1,a6.1,b6.1,d7.1,d4.1,a0.1,b1.1,a1.1,b2.1,a2.1,b3.1,U.1⟩)
                ·
                 skip
                 refine box_step ?hg (N:=9) ?hd (cs:=#[.int .i64 0,.int .i64 0,.int .i64 0,.int .i64 0]) (t:=23) ?hr ?_;(case hd=>rfl);(case hg=>rfl);(case hr=>first|(go_simp;done)|(go_simp;rfl));intro T hg n5 a7 hb;have E:=mk0 (a7);have d8:=szw hg U;have d5:=szw hg U;have X:=nlt hg B;have a8:=ngt hg B;have Y:=nlt hg C;have a9:=ngt hg C;have Z:=nlt hg D;have b0:=ngt hg D;have b8:=nlt hg G;have b7:=ngt hg G;replace B:=bkb B hb;replace C:=bkb C hb;replace D:=bkb D hb;replace G:=bkb G hb;replace U:=bst U hb;clear hb a7 hg;refine hK.out _ _ ⟨q0_ B,q1_ B,q2_ B,q3_ B,q0_ C,q1_ C,q2_ C,q3_ C,q0_ D,q1_ D,q2_ D,q3_ D⟩ (fun I=>?_);clear hK K;refine norm_ (a':=?_) ?_ ?_;rotate_left
                 ·
                  show Act.put _ (some 9) _=_;simp only [Act.put,s0_,s1_,s2_,i64_w,i32_w];rfl
                 exact norm_ (by simp only [putAll,Act.put,s0_,s1_,s2_] <;> rfl) (q9 (R,T) _ ⟨I,G.1,E.1,B.1,C.1,D.1,d7.1,d4.1,b7.1,b8.1,a0.1,b1.1,a1.1,b2.1,a2.1,b3.1,d8.1,d5.1,X.1,a8.1,Y.1,a9.1,Z.1,b0.1,U.1⟩)
              ·
               skip
               clear B C D U;rintro Q n2 d2;replace d2:=h_ (m4_ (m4_ (m4_ l_))) d2;obtain ⟨j8,F,B,C,D,d6,d3,a4,b4,a5,b5,a6,b6,U⟩:=d2;have I:=j8;refine norm_ (a':=?_) ?_ ?_;rotate_left
               ·
                simp only [putAll,Act.put,s0_,s1_,s2_];rfl
               refine three_ (i:=5) (j:=7) (k:=8) (Ni:=some 23) (Nj:=some 8) (Nk:=some 9) #[y_,y_,y_,y_,y_,y_,y_,n_,n_,n_,n_,n_] #[y_,y_,y_,y_,y_,n_,y_,y_,n_,n_,n_,n_] #[y_,y_,y_,y_,y_,n_,y_,n_,y_,n_,n_,n_] rfl rfl rfl rfl rfl rfl (three_of j9.1 (by kernel_rfl)) (by decide) (by decide) (by decide) (fun K hK=>?_) (fun K hK=>?_) (fun K hK=>?_)
               ·
                skip
                refine goes_ Try.func32 (by kernel_rfl) rfl #[.agg #[.int .i16 f5,.int .i16 f6,.int .i16 f7,.int .i16 f8],.int .i64 15] (by rfl) rfl rfl (by (try simp only [m0_,m1_,m2_]);first|done|rfl|(simp only [l0_,l1_];rfl)) ?_;with_reducible refine (bellpulllaw04_made.calls k f5 f6 f7 f8 15 g0 g2 g3 g4 _ A6.1).mono ?_
                rintro e n5 ⟨rfl,hb⟩;refine ⟨_,rfl,?_⟩;replace B:=bkb B hb;replace C:=bkb C hb;replace D:=bkb D hb;replace F:=bkb F hb;replace U:=bst U hb;(try clear hb);refine hK.out _ _ ⟨q0_ B,q1_ B,q2_ B,q3_ B,q0_ C,q1_ C,q2_ C,q3_ C,q0_ D,q1_ D,q2_ D,q3_ D⟩ (fun I=>?_);clear hK K;refine norm_ (a':=?_) ?_ ?_;rotate_left
                ·
                 show Act.put _ (some 23) _=_;simp only [Act.put,s0_,s1_,s2_,i64_w,i32_w];rfl
                exact norm_ (by simp only [putAll,Act.put,s0_,s1_,s2_] <;> rfl) (x3 (Q) _ ⟨I,F.1,B.1,C.1,D.1,d6.1,d3.1,a4.1,b4.1,a5.1,b5.1,a6.1,b6.1,U.1⟩)
               ·
                skip
                refine box_step ?hg (N:=8) ?hd (cs:=#[.int .i64 0,.int .i64 0,.int .i64 0,.int .i64 0]) (t:=23) ?hr ?_;(case hd=>rfl);(case hg=>rfl);(case hr=>first|(go_simp;done)|(go_simp;rfl));intro R hg n5 a7 hb;have G:=mk0 (a7);have d7:=szw hg U;have d4:=szw hg U;have a0:=nlt hg B;have b1:=ngt hg B;have a1:=nlt hg C;have b2:=ngt hg C;have a2:=nlt hg D;have b3:=ngt hg D;have d1:=nlt hg F;have d0:=ngt hg F;replace B:=bkb B hb;replace C:=bkb C hb;replace D:=bkb D hb;replace F:=bkb F hb;replace U:=bst U hb;clear hb a7 hg;refine hK.out _ _ ⟨q0_ B,q1_ B,q2_ B,q3_ B,q0_ C,q1_ C,q2_ C,q3_ C,q0_ D,q1_ D,q2_ D,q3_ D⟩ (fun I=>?_);clear hK K;refine norm_ (a':=?_) ?_ ?_;rotate_left
                ·
                 show Act.put _ (some 8) _=_;simp only [Act.put,s0_,s1_,s2_,i64_w,i32_w];rfl
                exact norm_ (by simp only [putAll,Act.put,s0_,s1_,s2_] <;> rfl) (q7 (Q,R) _ ⟨I,F.1,G.1,B.1,C.1,D.1,d6.1,d3.1,d0.1,d1.1,a4.1,b4.1,a5.1,b5.1,a6.1,b6.1,d7.1,d4.1,a0.1,b1.1,a1.1,b2.1,a2.1,b3.1,U.1⟩)
               ·
                skip
                refine box_step ?hg (N:=9) ?hd (cs:=#[.int .i64 0,.int .i64 0,.int .i64 0,.int .i64 0]) (t:=23) ?hr ?_;(case hd=>rfl);(case hg=>rfl);(case hr=>first|(go_simp;done)|(go_simp;rfl));intro T hg n5 a7 hb;have E:=mk0 (a7);have d8:=szw hg U;have d5:=szw hg U;have X:=nlt hg B;have a8:=ngt hg B;have Y:=nlt hg C;have a9:=ngt hg C;have Z:=nlt hg D;have b0:=ngt hg D;have c3:=nlt hg F;have c0:=ngt hg F;replace B:=bkb B hb;replace C:=bkb C hb;replace D:=bkb D hb;replace F:=bkb F hb;replace U:=bst U hb;clear hb a7 hg;refine hK.out _ _ ⟨q0_ B,q1_ B,q2_ B,q3_ B,q0_ C,q1_ C,q2_ C,q3_ C,q0_ D,q1_ D,q2_ D,q3_ D⟩ (fun I=>?_);clear hK K;refine norm_ (a':=?_) ?_ ?_;rotate_left
                ·
                 show Act.put _ (some 9) _=_;simp only [Act.put,s0_,s1_,s2_,i64_w,i32_w];rfl
                exact norm_ (by simp only [putAll,Act.put,s0_,s1_,s2_] <;> rfl) (q8 (Q,T) _ ⟨I,F.1,E.1,B.1,C.1,D.1,d6.1,d3.1,c0.1,c3.1,a4.1,b4.1,a5.1,b5.1,a6.1,b6.1,d8.1,d5.1,X.1,a8.1,Y.1,a9.1,Z.1,b0.1,U.1⟩)
             ·
              skip
              clear B C D U;rintro _ n2 d2;replace d2:=h_ (m_ (m_ (m_ l_))) d2;obtain ⟨j8,B,C,D,U⟩:=d2;have I:=j8;refine norm_ (a':=?_) ?_ ?_;rotate_left
              ·
               simp only [putAll,Act.put,s0_,s1_,s2_];rfl
              refine three_ (i:=6) (j:=7) (k:=8) (Ni:=some 7) (Nj:=some 8) (Nk:=some 9) #[y_,y_,y_,y_,y_,y_,y_,n_,n_,n_,n_,n_] #[y_,y_,y_,y_,y_,y_,n_,y_,n_,n_,n_,n_] #[y_,y_,y_,y_,y_,y_,n_,n_,y_,n_,n_,n_] rfl rfl rfl rfl rfl rfl (three_of j9.1 (by kernel_rfl)) (by decide) (by decide) (by decide) (fun K hK=>?_) (fun K hK=>?_) (fun K hK=>?_)
              ·
               skip
               refine box_step ?hg (N:=7) ?hd (cs:=#[.int .i64 0,.int .i64 0,.int .i64 0,.int .i64 0]) (t:=23) ?hr ?_;(case hd=>rfl);(case hg=>rfl);(case hr=>first|(go_simp;done)|(go_simp;rfl));intro Q hg n5 a7 hb;have F:=mk0 (a7);have d6:=szw hg U;have d3:=szw hg U;have a4:=nlt hg B;have b4:=ngt hg B;have a5:=nlt hg C;have b5:=ngt hg C;have a6:=nlt hg D;have b6:=ngt hg D;replace B:=bkb B hb;replace C:=bkb C hb;replace D:=bkb D hb;replace U:=bst U hb;clear hb a7 hg;refine hK.out _ _ ⟨q0_ B,q1_ B,q2_ B,q3_ B,q0_ C,q1_ C,q2_ C,q3_ C,q0_ D,q1_ D,q2_ D,q3_ D⟩ (fun I=>?_);clear hK K;refine norm_ (a':=?_) ?_ ?_;rotate_left
               ·
                show Act.put _ (some 7) _=_;simp only [Act.put,s0_,s1_,s2_,i64_w,i32_w];rfl
               exact norm_ (by simp only [putAll,Act.put,s0_,s1_,s2_] <;> rfl) (x3 (Q) _ ⟨I,F.1,B.1,C.1,D.1,d6.1,d3.1,a4.1,b4.1,a5.1,b5.1,a6.1,b6.1,U.1⟩)
              ·
               skip
               refine box_step ?hg (N:=8) ?hd (cs:=#[.int .i64 0,.int .i64 0,.int .i64 0,.int .i64 0]) (t:=23) ?hr ?_;(case hd=>rfl);(case hg=>rfl);(case hr=>first|(go_simp;done)|(go_simp;rfl));intro R hg n5 a7 hb;have G:=mk0 (a7);have d7:=szw hg U;have d4:=szw hg U;have a0:=nlt hg B;have b1:=ngt hg B;have a1:=nlt hg C;have b2:=ngt hg C;have a2:=nlt hg D;have b3:=ngt hg D;replace B:=bkb B hb;replace C:=bkb C hb;replace D:=bkb D hb;replace U:=bst U hb;clear hb a7 hg;refine hK.out _ _ ⟨q0_ B,q1_ B,q2_ B,q3_ B,q0_ C,q1_ C,q2_ C,q3_ C,q0_ D,q1_ D,q2_ D,q3_ D⟩ (fun I=>?_);clear hK K;refine norm_ (a':=?_) ?_ ?_;rotate_left
               ·
                show Act.put _ (some 8) _=_;simp only [Act.put,s0_,s1_,s2_,i64_w,i32_w];rfl
               exact norm_ (by simp only [putAll,Act.put,s0_,s1_,s2_] <;> rfl) (x4 (R) _ ⟨I,G.1,B.1,C.1,D.1,d7.1,d4.1,a0.1,b1.1,a1.1,b2.1,a2.1,b3.1,U.1⟩)
              ·
               skip
               refine box_step ?hg (N:=9) ?hd (cs:=#[.int .i64 0,.int .i64 0,.int .i64 0,.int .i64 0]) (t:=23) ?hr ?_;(case hd=>rfl);(case hg=>rfl);(case hr=>first|(go_simp;done)|(go_simp;rfl));intro T hg n5 a7 hb;have E:=mk0 (a7);have d8:=szw hg U;have d5:=szw hg U;have X:=nlt hg B;have a8:=ngt hg B;have Y:=nlt hg C;have a9:=ngt hg C;have Z:=nlt hg D;have b0:=ngt hg D;replace B:=bkb B hb;replace C:=bkb C hb;replace D:=bkb D hb;replace U:=bst U hb;clear hb a7 hg;refine hK.out _ _ ⟨q0_ B,q1_ B,q2_ B,q3_ B,q0_ C,q1_ C,q2_ C,q3_ C,q0_ D,q1_ D,q2_ D,q3_ D⟩ (fun I=>?_);clear hK K;refine norm_ (a':=?_) ?_ ?_;rotate_left
               ·
                show Act.put _ (some 9) _=_;simp only [Act.put,s0_,s1_,s2_,i64_w,i32_w];rfl
               exact norm_ (by simp only [putAll,Act.put,s0_,s1_,s2_] <;> rfl) (x5 (T) _ ⟨I,E.1,B.1,C.1,D.1,d8.1,d5.1,X.1,a8.1,Y.1,a9.1,Z.1,b0.1,U.1⟩)
            ·
             skip
             clear B C D U;rintro ⟨Q,R,T⟩ n5 d2;(try dsimp only at d2);replace d2:=h_ (m4_ (m4_ (m4_ (m4_ (m4_ (m4_ (m4_ (m4_ (m4_ l_))))))))) d2;obtain ⟨j8,F,G,E,B,C,D,d6,d3,d0,d1,c0,c3,a4,b4,a5,b5,a6,b6,d7,d4,b7,b8,a0,b1,a1,b2,a2,b3,d8,d5,X,a8,Y,a9,Z,b0,U⟩:=d2;have I:=j8;refine norm_ (a':=?_) ?_ ?_;rotate_left
             ·
              simp only [putAll,Act.put,s0_,s1_,s2_];rfl
             refine one_ (i:=3) (N:=some 21) #[y_,y_,y_,y_,y_,n_,y_,y_,y_,n_,n_,n_] rfl rfl (one_of j9.1 (by kernel_rfl)) (by decide) (fun K hK=>?_);refine goes_ Try.func32 (by kernel_rfl) rfl #[.agg #[.int .i16 f1,.int .i16 f2,.int .i16 f3,.int .i16 f4],.int .i64 15] (by rfl) rfl rfl (by (try simp only [m0_,m1_,m2_]);first|done|rfl|(simp only [l0_,l1_];rfl)) ?_;with_reducible refine (bellpulllaw04_made.calls k f1 f2 f3 f4 15 g5 g6 h0 h2 _ A5.1).mono ?_
             rintro e p3 ⟨rfl,hb⟩;refine ⟨_,rfl,?_⟩;replace B:=bkb B hb;replace C:=bkb C hb;replace D:=bkb D hb;replace F:=bkb F hb;replace G:=bkb G hb;replace E:=bkb E hb;replace U:=bst U hb;(try clear hb);refine hK.out _ _ ⟨q0_ B,q1_ B,q2_ B,q3_ B,q0_ C,q1_ C,q2_ C,q3_ C,q0_ D,q1_ D,q2_ D,q3_ D⟩ (fun I=>?_);clear hK K;refine norm_ (a':=?_) ?_ ?_;rotate_left
             ·
              show Act.put _ (some 21) _=_;simp only [Act.put,s0_,s1_,s2_,i64_w,i32_w];rfl
             exact norm_ (by simp only [putAll,Act.put,s0_,s1_,s2_] <;> rfl) (o5 (Q,R,T) _ ⟨I,F.1,G.1,E.1,B.1,C.1,D.1,d6.1,d3.1,d0.1,d1.1,c0.1,c3.1,a4.1,b4.1,a5.1,b5.1,a6.1,b6.1,d7.1,d4.1,b7.1,b8.1,a0.1,b1.1,a1.1,b2.1,a2.1,b3.1,d8.1,d5.1,X.1,a8.1,Y.1,a9.1,Z.1,b0.1,U.1⟩)
           ·
            skip
            clear B C D U;rintro ⟨R,T⟩ n5 d2;(try dsimp only at d2);replace d2:=h_ (m4_ (m4_ (m4_ (m4_ (m4_ (m_ (m_ (m_ l_)))))))) d2;obtain ⟨j8,G,E,B,C,D,d7,d4,b7,b8,a0,b1,a1,b2,a2,b3,d8,d5,X,a8,Y,a9,Z,b0,U⟩:=d2;have I:=j8;refine norm_ (a':=?_) ?_ ?_;rotate_left
            ·
             simp only [putAll,Act.put,s0_,s1_,s2_];rfl
            refine two_ (i:=5) (j:=6) (Ni:=some 23) (Nj:=some 7) #[y_,y_,y_,y_,y_,y_,n_,y_,y_,n_,n_,n_] #[y_,y_,y_,y_,y_,n_,y_,y_,y_,n_,n_,n_] rfl rfl rfl rfl (two_of j9.1 (by kernel_rfl)) (by decide) (by decide) (fun K hK=>?_) (fun K hK=>?_)
            ·
             skip
             refine goes_ Try.func32 (by kernel_rfl) rfl #[.agg #[.int .i16 f5,.int .i16 f6,.int .i16 f7,.int .i16 f8],.int .i64 15] (by rfl) rfl rfl (by (try simp only [m0_,m1_,m2_]);first|done|rfl|(simp only [l0_,l1_];rfl)) ?_;with_reducible refine (bellpulllaw04_made.calls k f5 f6 f7 f8 15 g0 g2 g3 g4 _ A6.1).mono ?_
             rintro e p3 ⟨rfl,hb⟩;refine ⟨_,rfl,?_⟩;replace B:=bkb B hb;replace C:=bkb C hb;replace D:=bkb D hb;replace G:=bkb G hb;replace E:=bkb E hb;replace U:=bst U hb;(try clear hb);refine hK.out _ _ ⟨q0_ B,q1_ B,q2_ B,q3_ B,q0_ C,q1_ C,q2_ C,q3_ C,q0_ D,q1_ D,q2_ D,q3_ D⟩ (fun I=>?_);clear hK K;refine norm_ (a':=?_) ?_ ?_;rotate_left
             ·
              show Act.put _ (some 23) _=_;simp only [Act.put,s0_,s1_,s2_,i64_w,i32_w];rfl
             exact norm_ (by simp only [putAll,Act.put,s0_,s1_,s2_] <;> rfl) (q0 (R,T) _ ⟨I,G.1,E.1,B.1,C.1,D.1,d7.1,d4.1,b7.1,b8.1,a0.1,b1.1,a1.1,b2.1,a2.1,b3.1,d8.1,d5.1,X.1,a8.1,Y.1,a9.1,Z.1,b0.1,U.1⟩)
            ·
             skip
             refine box_step ?hg (N:=7) ?hd (cs:=#[.int .i64 0,.int .i64 0,.int .i64 0,.int .i64 0]) (t:=23) ?hr ?_;(case hd=>rfl);(case hg=>rfl);(case hr=>first|(go_simp;done)|(go_simp;rfl));intro Q hg p3 a7 hb;have F:=mk0 (a7);have d6:=szw hg U;have d3:=szw hg U;have a4:=nlt hg B;have b4:=ngt hg B;have a5:=nlt hg C;have b5:=ngt hg C;have a6:=nlt hg D;have b6:=ngt hg D;have d0:=nlt hg G;have d1:=ngt hg G;have c0:=nlt hg E;have c3:=ngt hg E;replace B:=bkb B hb;replace C:=bkb C hb;replace D:=bkb D hb;replace G:=bkb G hb;replace E:=bkb E hb;replace U:=bst U hb;clear hb a7 hg;refine hK.out _ _ ⟨q0_ B,q1_ B,q2_ B,q3_ B,q0_ C,q1_ C,q2_ C,q3_ C,q0_ D,q1_ D,q2_ D,q3_ D⟩ (fun I=>?_);clear hK K;refine norm_ (a':=?_) ?_ ?_;rotate_left
             ·
              show Act.put _ (some 7) _=_;simp only [Act.put,s0_,s1_,s2_,i64_w,i32_w];rfl
             exact norm_ (by simp only [putAll,Act.put,s0_,s1_,s2_] <;> rfl) (o5 (Q,R,T) _ ⟨I,F.1,G.1,E.1,B.1,C.1,D.1,d6.1,d3.1,d0.1,d1.1,c0.1,c3.1,a4.1,b4.1,a5.1,b5.1,a6.1,b6.1,d7.1,d4.1,b7.1,b8.1,a0.1,b1.1,a1.1,b2.1,a2.1,b3.1,d8.1,d5.1,X.1,a8.1,Y.1,a9.1,Z.1,b0.1,U.1⟩)
          ·
           skip
           clear B C D U;rintro ⟨Q,T⟩ n5 d2;(try dsimp only at d2);replace d2:=h_ (m4_ (m4_ (m4_ (m4_ (m4_ (m_ (m_ (m_ l_)))))))) d2;obtain ⟨j8,F,E,B,C,D,d6,d3,c0,c3,a4,b4,a5,b5,a6,b6,d8,d5,X,a8,Y,a9,Z,b0,U⟩:=d2;have I:=j8;refine norm_ (a':=?_) ?_ ?_;rotate_left
           ·
            simp only [putAll,Act.put,s0_,s1_,s2_];rfl
           refine two_ (i:=5) (j:=7) (Ni:=some 23) (Nj:=some 8) #[y_,y_,y_,y_,y_,y_,y_,n_,y_,n_,n_,n_] #[y_,y_,y_,y_,y_,n_,y_,y_,y_,n_,n_,n_] rfl rfl rfl rfl (two_of j9.1 (by kernel_rfl)) (by decide) (by decide) (fun K hK=>?_) (fun K hK=>?_)
           ·
            skip
            refine goes_ Try.func32 (by kernel_rfl) rfl #[.agg #[.int .i16 f5,.int .i16 f6,.int .i16 f7,.int .i16 f8],.int .i64 15] (by rfl) rfl rfl (by (try simp only [m0_,m1_,m2_]);first|done|rfl|(simp only [l0_,l1_];rfl)) ?_;with_reducible refine (bellpulllaw04_made.calls k f5 f6 f7 f8 15 g0 g2 g3 g4 _ A6.1).mono ?_
            rintro e p3 ⟨rfl,hb⟩;refine ⟨_,rfl,?_⟩;replace B:=bkb B hb;replace C:=bkb C hb;replace D:=bkb D hb;replace F:=bkb F hb;replace E:=bkb E hb;replace U:=bst U hb;(try clear hb);refine hK.out _ _ ⟨q0_ B,q1_ B,q2_ B,q3_ B,q0_ C,q1_ C,q2_ C,q3_ C,q0_ D,q1_ D,q2_ D,q3_ D⟩ (fun I=>?_);clear hK K;refine norm_ (a':=?_) ?_ ?_;rotate_left
            ·
             show Act.put _ (some 23) _=_;simp only [Act.put,s0_,s1_,s2_,i64_w,i32_w];rfl
            exact norm_ (by simp only [putAll,Act.put,s0_,s1_,s2_] <;> rfl) (p9 (Q,T) _ ⟨I,F.1,E.1,B.1,C.1,D.1,d6.1,d3.1,c0.1,c3.1,a4.1,b4.1,a5.1,b5.1,a6.1,b6.1,d8.1,d5.1,X.1,a8.1,Y.1,a9.1,Z.1,b0.1,U.1⟩)
           ·
            skip
            refine box_step ?hg (N:=8) ?hd (cs:=#[.int .i64 0,.int .i64 0,.int .i64 0,.int .i64 0]) (t:=23) ?hr ?_;(case hd=>rfl);(case hg=>rfl);(case hr=>first|(go_simp;done)|(go_simp;rfl));intro R hg p3 a7 hb;have G:=mk0 (a7);have d7:=szw hg U;have d4:=szw hg U;have a0:=nlt hg B;have b1:=ngt hg B;have a1:=nlt hg C;have b2:=ngt hg C;have a2:=nlt hg D;have b3:=ngt hg D;have d1:=nlt hg F;have d0:=ngt hg F;have b7:=nlt hg E;have b8:=ngt hg E;replace B:=bkb B hb;replace C:=bkb C hb;replace D:=bkb D hb;replace F:=bkb F hb;replace E:=bkb E hb;replace U:=bst U hb;clear hb a7 hg;refine hK.out _ _ ⟨q0_ B,q1_ B,q2_ B,q3_ B,q0_ C,q1_ C,q2_ C,q3_ C,q0_ D,q1_ D,q2_ D,q3_ D⟩ (fun I=>?_);clear hK K;refine norm_ (a':=?_) ?_ ?_;rotate_left
            ·
             show Act.put _ (some 8) _=_;simp only [Act.put,s0_,s1_,s2_,i64_w,i32_w];rfl
            exact norm_ (by simp only [putAll,Act.put,s0_,s1_,s2_] <;> rfl) (o5 (Q,R,T) _ ⟨I,F.1,G.1,E.1,B.1,C.1,D.1,d6.1,d3.1,d0.1,d1.1,c0.1,c3.1,a4.1,b4.1,a5.1,b5.1,a6.1,b6.1,d7.1,d4.1,b7.1,b8.1,a0.1,b1.1,a1.1,b2.1,a2.1,b3.1,d8.1,d5.1,X.1,a8.1,Y.1,a9.1,Z.1,b0.1,U.1⟩)
         ·
          skip
          clear B C D U;rintro ⟨Q,R⟩ n5 d2;(try dsimp only at d2);replace d2:=h_ (m4_ (m4_ (m4_ (m4_ (m4_ (m_ (m_ (m_ l_)))))))) d2;obtain ⟨j8,F,G,B,C,D,d6,d3,d0,d1,a4,b4,a5,b5,a6,b6,d7,d4,a0,b1,a1,b2,a2,b3,U⟩:=d2;have I:=j8;refine norm_ (a':=?_) ?_ ?_;rotate_left
          ·
           simp only [putAll,Act.put,s0_,s1_,s2_];rfl
          refine two_ (i:=5) (j:=8) (Ni:=some 23) (Nj:=some 9) #[y_,y_,y_,y_,y_,y_,y_,y_,n_,n_,n_,n_] #[y_,y_,y_,y_,y_,n_,y_,y_,y_,n_,n_,n_] rfl rfl rfl rfl (two_of j9.1 (by kernel_rfl)) (by decide) (by decide) (fun K hK=>?_) (fun K hK=>?_)
          ·
           skip
           refine goes_ Try.func32 (by kernel_rfl) rfl #[.agg #[.int .i16 f5,.int .i16 f6,.int .i16 f7,.int .i16 f8],.int .i64 15] (by rfl) rfl rfl (by (try simp only [m0_,m1_,m2_]);first|done|rfl|(simp only [l0_,l1_];rfl)) ?_;with_reducible refine (bellpulllaw04_made.calls k f5 f6 f7 f8 15 g0 g2 g3 g4 _ A6.1).mono ?_
           rintro e p3 ⟨rfl,hb⟩;refine ⟨_,rfl,?_⟩;replace B:=bkb B hb;replace C:=bkb C hb;replace D:=bkb D hb;replace F:=bkb F hb;replace G:=bkb G hb;replace U:=bst U hb;(try clear hb);refine hK.out _ _ ⟨q0_ B,q1_ B,q2_ B,q3_ B,q0_ C,q1_ C,q2_ C,q3_ C,q0_ D,q1_ D,q2_ D,q3_ D⟩ (fun I=>?_);clear hK K;refine norm_ (a':=?_) ?_ ?_;rotate_left
           ·
            show Act.put _ (some 23) _=_;simp only [Act.put,s0_,s1_,s2_,i64_w,i32_w];rfl
           exact norm_ (by simp only [putAll,Act.put,s0_,s1_,s2_] <;> rfl) (p8 (Q,R) _ ⟨I,F.1,G.1,B.1,C.1,D.1,d6.1,d3.1,d0.1,d1.1,a4.1,b4.1,a5.1,b5.1,a6.1,b6.1,d7.1,d4.1,a0.1,b1.1,a1.1,b2.1,a2.1,b3.1,U.1⟩)
          ·
           skip
           refine box_step ?hg (N:=9) ?hd (cs:=#[.int .i64 0,.int .i64 0,.int .i64 0,.int .i64 0]) (t:=23) ?hr ?_;(case hd=>rfl);(case hg=>rfl);(case hr=>first|(go_simp;done)|(go_simp;rfl));intro T hg p3 a7 hb;have E:=mk0 (a7);have d8:=szw hg U;have d5:=szw hg U;have X:=nlt hg B;have a8:=ngt hg B;have Y:=nlt hg C;have a9:=ngt hg C;have Z:=nlt hg D;have b0:=ngt hg D;have c3:=nlt hg F;have c0:=ngt hg F;have b8:=nlt hg G;have b7:=ngt hg G;replace B:=bkb B hb;replace C:=bkb C hb;replace D:=bkb D hb;replace F:=bkb F hb;replace G:=bkb G hb;replace U:=bst U hb;clear hb a7 hg;refine hK.out _ _ ⟨q0_ B,q1_ B,q2_ B,q3_ B,q0_ C,q1_ C,q2_ C,q3_ C,q0_ D,q1_ D,q2_ D,q3_ D⟩ (fun I=>?_);clear hK K;refine norm_ (a':=?_) ?_ ?_;rotate_left
           ·
            show Act.put _ (some 9) _=_;simp only [Act.put,s0_,s1_,s2_,i64_w,i32_w];rfl
           exact norm_ (by simp only [putAll,Act.put,s0_,s1_,s2_] <;> rfl) (o5 (Q,R,T) _ ⟨I,F.1,G.1,E.1,B.1,C.1,D.1,d6.1,d3.1,d0.1,d1.1,c0.1,c3.1,a4.1,b4.1,a5.1,b5.1,a6.1,b6.1,d7.1,d4.1,b7.1,b8.1,a0.1,b1.1,a1.1,b2.1,a2.1,b3.1,d8.1,d5.1,X.1,a8.1,Y.1,a9.1,Z.1,b0.1,U.1⟩)
        ·
         skip
         clear B C D U;rintro T n5 d2;replace d2:=h_ (m4_ (m4_ (m4_ l_))) d2;obtain ⟨j8,E,B,C,D,d8,d5,X,a8,Y,a9,Z,b0,U⟩:=d2;have I:=j8;refine norm_ (a':=?_) ?_ ?_;rotate_left
         ·
          simp only [putAll,Act.put,s0_,s1_,s2_];rfl
         refine two_ (i:=6) (j:=7) (Ni:=some 7) (Nj:=some 8) #[y_,y_,y_,y_,y_,y_,y_,n_,y_,n_,n_,n_] #[y_,y_,y_,y_,y_,y_,n_,y_,y_,n_,n_,n_] rfl rfl rfl rfl (two_of j9.1 (by kernel_rfl)) (by decide) (by decide) (fun K hK=>?_) (fun K hK=>?_)
         ·
          skip
          refine box_step ?hg (N:=7) ?hd (cs:=#[.int .i64 0,.int .i64 0,.int .i64 0,.int .i64 0]) (t:=23) ?hr ?_;(case hd=>rfl);(case hg=>rfl);(case hr=>first|(go_simp;done)|(go_simp;rfl));intro Q hg p3 a7 hb;have F:=mk0 (a7);have d6:=szw hg U;have d3:=szw hg U;have a4:=nlt hg B;have b4:=ngt hg B;have a5:=nlt hg C;have b5:=ngt hg C;have a6:=nlt hg D;have b6:=ngt hg D;have c0:=nlt hg E;have c3:=ngt hg E;replace B:=bkb B hb;replace C:=bkb C hb;replace D:=bkb D hb;replace E:=bkb E hb;replace U:=bst U hb;clear hb a7 hg;refine hK.out _ _ ⟨q0_ B,q1_ B,q2_ B,q3_ B,q0_ C,q1_ C,q2_ C,q3_ C,q0_ D,q1_ D,q2_ D,q3_ D⟩ (fun I=>?_);clear hK K;refine norm_ (a':=?_) ?_ ?_;rotate_left
          ·
           show Act.put _ (some 7) _=_;simp only [Act.put,s0_,s1_,s2_,i64_w,i32_w];rfl
          exact norm_ (by simp only [putAll,Act.put,s0_,s1_,s2_] <;> rfl) (p9 (Q,T) _ ⟨I,F.1,E.1,B.1,C.1,D.1,d6.1,d3.1,c0.1,c3.1,a4.1,b4.1,a5.1,b5.1,a6.1,b6.1,d8.1,d5.1,X.1,a8.1,Y.1,a9.1,Z.1,b0.1,U.1⟩)
         ·
          skip
          refine box_step ?hg (N:=8) ?hd (cs:=#[.int .i64 0,.int .i64 0,.int .i64 0,.int .i64 0]) (t:=23) ?hr ?_;(case hd=>rfl);(case hg=>rfl);(case hr=>first|(go_simp;done)|(go_simp;rfl));intro R hg p3 a7 hb;have G:=mk0 (a7);have d7:=szw hg U;have d4:=szw hg U;have a0:=nlt hg B;have b1:=ngt hg B;have a1:=nlt hg C;have b2:=ngt hg C;have a2:=nlt hg D;have b3:=ngt hg D;have b7:=nlt hg E;have b8:=ngt hg E;replace B:=bkb B hb;replace C:=bkb C hb;replace D:=bkb D hb;replace E:=bkb E hb;replace U:=bst U hb;clear hb a7 hg;refine hK.out _ _ ⟨q0_ B,q1_ B,q2_ B,q3_ B,q0_ C,q1_ C,q2_ C,q3_ C,q0_ D,q1_ D,q2_ D,q3_ D⟩ (fun I=>?_);clear hK K;refine norm_ (a':=?_) ?_ ?_;rotate_left
          ·
           show Act.put _ (some 8) _=_;simp only [Act.put,s0_,s1_,s2_,i64_w,i32_w];rfl
          exact norm_ (by simp only [putAll,Act.put,s0_,s1_,s2_] <;> rfl) (q0 (R,T) _ ⟨I,G.1,E.1,B.1,C.1,D.1,d7.1,d4.1,b7.1,b8.1,a0.1,b1.1,a1.1,b2.1,a2.1,b3.1,d8.1,d5.1,X.1,a8.1,Y.1,a9.1,Z.1,b0.1,U.1⟩)
       ·
        skip
        clear B C D U;rintro R n5 d2;replace d2:=h_ (m4_ (m4_ (m4_ l_))) d2;obtain ⟨j8,G,B,C,D,d7,d4,a0,b1,a1,b2,a2,b3,U⟩:=d2;have I:=j8;refine norm_ (a':=?_) ?_ ?_;rotate_left
        ·
         simp only [putAll,Act.put,s0_,s1_,s2_];rfl
        refine two_ (i:=6) (j:=8) (Ni:=some 7) (Nj:=some 9) #[y_,y_,y_,y_,y_,y_,y_,y_,n_,n_,n_,n_] #[y_,y_,y_,y_,y_,y_,n_,y_,y_,n_,n_,n_] rfl rfl rfl rfl (two_of j9.1 (by kernel_rfl)) (by decide) (by decide) (fun K hK=>?_) (fun K hK=>?_)
        ·
         skip
         refine box_step ?hg (N:=7) ?hd (cs:=#[.int .i64 0,.int .i64 0,.int .i64 0,.int .i64 0]) (t:=23) ?hr ?_;(case hd=>rfl);(case hg=>rfl);(case hr=>first|(go_simp;done)|(go_simp;rfl));intro Q hg p3 a7 hb;have F:=mk0 (a7);have d6:=szw hg U;have d3:=szw hg U;have a4:=nlt hg B;have b4:=ngt hg B;have a5:=nlt hg C;have b5:=ngt hg C;have a6:=nlt hg D;have b6:=ngt hg D;have d0:=nlt hg G;have d1:=ngt hg G;replace B:=bkb B hb;replace C:=bkb C hb;replace D:=bkb D hb;replace G:=bkb G hb;replace U:=bst U hb;clear hb a7 hg;refine hK.out _ _ ⟨q0_ B,q1_ B,q2_ B,q3_ B,q0_ C,q1_ C,q2_ C,q3_ C,q0_ D,q1_ D,q2_ D,q3_ D⟩ (fun I=>?_);clear hK K;refine norm_ (a':=?_) ?_ ?_;rotate_left
         ·
          show Act.put _ (some 7) _=_;simp only [Act.put,s0_,s1_,s2_,i64_w,i32_w];rfl
         exact norm_ (by simp only [putAll,Act.put,s0_,s1_,s2_] <;> rfl) (p8 (Q,R) _ ⟨I,F.1,G.1,B.1,C.1,D.1,d6.1,d3.1,d0.1,d1.1,a4.1,b4.1,a5.1,b5.1,a6.1,b6.1,d7.1,d4.1,a0.1,b1.1,a1.1,b2.1,a2.1,b3.1,U.1⟩)
        ·
         skip
         refine box_step ?hg (N:=9) ?hd (cs:=#[.int .i64 0,.int .i64 0,.int .i64 0,.int .i64 0]) (t:=23) ?hr ?_;(case hd=>rfl);(case hg=>rfl);(case hr=>first|(go_simp;done)|(go_simp;rfl));intro T hg p3 a7 hb;have E:=mk0 (a7);have d8:=szw hg U;have d5:=szw hg U;have X:=nlt hg B;have a8:=ngt hg B;have Y:=nlt hg C;have a9:=ngt hg C;have Z:=nlt hg D;have b0:=ngt hg D;have b8:=nlt hg G;have b7:=ngt hg G;replace B:=bkb B hb;replace C:=bkb C hb;replace D:=bkb D hb;replace G:=bkb G hb;replace U:=bst U hb;clear hb a7 hg;refine hK.out _ _ ⟨q0_ B,q1_ B,q2_ B,q3_ B,q0_ C,q1_ C,q2_ C,q3_ C,q0_ D,q1_ D,q2_ D,q3_ D⟩ (fun I=>?_);clear hK K;refine norm_ (a':=?_) ?_ ?_;rotate_left
         ·
          show Act.put _ (some 9) _=_;simp only [Act.put,s0_,s1_,s2_,i64_w,i32_w];rfl
         exact norm_ (by simp only [putAll,Act.put,s0_,s1_,s2_] <;> rfl) (q0 (R,T) _ ⟨I,G.1,E.1,B.1,C.1,D.1,d7.1,d4.1,b7.1,b8.1,a0.1,b1.1,a1.1,b2.1,a2.1,b3.1,d8.1,d5.1,X.1,a8.1,Y.1,a9.1,Z.1,b0.1,U.1⟩)
      ·
       skip
       clear B C D U;rintro Q n5 d2;replace d2:=h_ (m4_ (m4_ (m4_ l_))) d2;obtain ⟨j8,F,B,C,D,d6,d3,a4,b4,a5,b5,a6,b6,U⟩:=d2;have I:=j8;refine norm_ (a':=?_) ?_ ?_;rotate_left
       ·
        simp only [putAll,Act.put,s0_,s1_,s2_];rfl
       refine two_ (i:=7) (j:=8) (Ni:=some 8) (Nj:=some 9) #[y_,y_,y_,y_,y_,y_,y_,y_,n_,n_,n_,n_] #[y_,y_,y_,y_,y_,y_,y_,n_,y_,n_,n_,n_] rfl rfl rfl rfl (two_of j9.1 (by kernel_rfl)) (by decide) (by decide) (fun K hK=>?_) (fun K hK=>?_)
       ·
        skip
        refine box_step ?hg (N:=8) ?hd (cs:=#[.int .i64 0,.int .i64 0,.int .i64 0,.int .i64 0]) (t:=23) ?hr ?_;(case hd=>rfl);(case hg=>rfl);(case hr=>first|(go_simp;done)|(go_simp;rfl));intro R hg p3 a7 hb;have G:=mk0 (a7);have d7:=szw hg U;have d4:=szw hg U;have a0:=nlt hg B;have b1:=ngt hg B;have a1:=nlt hg C;have b2:=ngt hg C;have a2:=nlt hg D;have b3:=ngt hg D;have d1:=nlt hg F;have d0:=ngt hg F;replace B:=bkb B hb;replace C:=bkb C hb;replace D:=bkb D hb;replace F:=bkb F hb;replace U:=bst U hb;clear hb a7 hg;refine hK.out _ _ ⟨q0_ B,q1_ B,q2_ B,q3_ B,q0_ C,q1_ C,q2_ C,q3_ C,q0_ D,q1_ D,q2_ D,q3_ D⟩ (fun I=>?_);clear hK K;refine norm_ (a':=?_) ?_ ?_;rotate_left
        ·
         show Act.put _ (some 8) _=_;simp only [Act.put,s0_,s1_,s2_,i64_w,i32_w];rfl
        exact norm_ (by simp only [putAll,Act.put,s0_,s1_,s2_] <;> rfl) (p8 (Q,R) _ ⟨I,F.1,G.1,B.1,C.1,D.1,d6.1,d3.1,d0.1,d1.1,a4.1,b4.1,a5.1,b5.1,a6.1,b6.1,d7.1,d4.1,a0.1,b1.1,a1.1,b2.1,a2.1,b3.1,U.1⟩)
       ·
        skip
        refine box_step ?hg (N:=9) ?hd (cs:=#[.int .i64 0,.int .i64 0,.int .i64 0,.int .i64 0]) (t:=23) ?hr ?_;(case hd=>rfl);(case hg=>rfl);(case hr=>first|(go_simp;done)|(go_simp;rfl));intro T hg p3 a7 hb;have E:=mk0 (a7);have d8:=szw hg U;have d5:=szw hg U;have X:=nlt hg B;have a8:=ngt hg B;have Y:=nlt hg C;have a9:=ngt hg C;have Z:=nlt hg D;have b0:=ngt hg D;have c3:=nlt hg F;have c0:=ngt hg F;replace B:=bkb B hb;replace C:=bkb C hb;replace D:=bkb D hb;replace F:=bkb F hb;replace U:=bst U hb;clear hb a7 hg;refine hK.out _ _ ⟨q0_ B,q1_ B,q2_ B,q3_ B,q0_ C,q1_ C,q2_ C,q3_ C,q0_ D,q1_ D,q2_ D,q3_ D⟩ (fun I=>?_);clear hK K;refine norm_ (a':=?_) ?_ ?_;rotate_left
        ·
         show Act.put _ (some 9) _=_;simp only [Act.put,s0_,s1_,s2_,i64_w,i32_w];rfl
        exact norm_ (by simp only [putAll,Act.put,s0_,s1_,s2_] <;> rfl) (p9 (Q,T) _ ⟨I,F.1,E.1,B.1,C.1,D.1,d6.1,d3.1,c0.1,c3.1,a4.1,b4.1,a5.1,b5.1,a6.1,b6.1,d8.1,d5.1,X.1,a8.1,Y.1,a9.1,Z.1,b0.1,U.1⟩)
     ·
      skip
      clear B C D U;rintro ⟨Q,R,T⟩ p3 d2;(try dsimp only at d2);replace d2:=h_ (m4_ (m4_ (m4_ (m4_ (m4_ (m4_ (m4_ (m4_ (m4_ l_))))))))) d2;obtain ⟨j8,F,G,E,B,C,D,d6,d3,d0,d1,c0,c3,a4,b4,a5,b5,a6,b6,d7,d4,b7,b8,a0,b1,a1,b2,a2,b3,d8,d5,X,a8,Y,a9,Z,b0,U⟩:=d2;have I:=j8;refine norm_ (a':=?_) ?_ ?_;rotate_left
      ·
       simp only [putAll,Act.put,s0_,s1_,s2_];rfl
      refine one_ (i:=5) (N:=some 23) #[y_,y_,y_,y_,y_,y_,y_,y_,y_,n_,n_,n_] rfl rfl (one_of j9.1 (by kernel_rfl)) (by decide) (fun K hK=>?_);refine goes_ Try.func32 (by kernel_rfl) rfl #[.agg #[.int .i16 f5,.int .i16 f6,.int .i16 f7,.int .i16 f8],.int .i64 15] (by rfl) rfl rfl (by (try simp only [m0_,m1_,m2_]);first|done|rfl|(simp only [l0_,l1_];rfl)) ?_;with_reducible refine (bellpulllaw04_made.calls k f5 f6 f7 f8 15 g0 g2 g3 g4 _ A6.1).mono ?_
      rintro e q6 ⟨rfl,hb⟩;refine ⟨_,rfl,?_⟩;replace B:=bkb B hb;replace C:=bkb C hb;replace D:=bkb D hb;replace F:=bkb F hb;replace G:=bkb G hb;replace E:=bkb E hb;replace U:=bst U hb;(try clear hb);refine hK.out _ _ ⟨q0_ B,q1_ B,q2_ B,q3_ B,q0_ C,q1_ C,q2_ C,q3_ C,q0_ D,q1_ D,q2_ D,q3_ D⟩ (fun I=>?_);clear hK K;refine norm_ (a':=?_) ?_ ?_;rotate_left
      ·
       show Act.put _ (some 23) _=_;simp only [Act.put,s0_,s1_,s2_,i64_w,i32_w];rfl
      exact norm_ (by simp only [putAll,Act.put,s0_,s1_,s2_] <;> rfl) (n9 (Q,R,T) _ ⟨I,F.1,G.1,E.1,B.1,C.1,D.1,d6.1,d3.1,d0.1,d1.1,c0.1,c3.1,a4.1,b4.1,a5.1,b5.1,a6.1,b6.1,d7.1,d4.1,b7.1,b8.1,a0.1,b1.1,a1.1,b2.1,a2.1,b3.1,d8.1,d5.1,X.1,a8.1,Y.1,a9.1,Z.1,b0.1,U.1⟩)
    ·
     skip
     clear B C D U;rintro ⟨R,T⟩ p3 d2;(try dsimp only at d2);replace d2:=h_ (m4_ (m4_ (m4_ (m4_ (m4_ (m_ (m_ (m_ l_)))))))) d2;obtain ⟨j8,G,E,B,C,D,d7,d4,b7,b8,a0,b1,a1,b2,a2,b3,d8,d5,X,a8,Y,a9,Z,b0,U⟩:=d2;have I:=j8;refine norm_ (a':=?_) ?_ ?_;rotate_left
     ·
      simp only [putAll,Act.put,s0_,s1_,s2_];rfl
     refine one_ (i:=6) (N:=some 7) #[y_,y_,y_,y_,y_,y_,y_,y_,y_,n_,n_,n_] rfl rfl (one_of j9.1 (by kernel_rfl)) (by decide) (fun K hK=>?_);refine box_step ?hg (N:=7) ?hd (cs:=#[.int .i64 0,.int .i64 0,.int .i64 0,.int .i64 0]) (t:=23) ?hr ?_;(case hd=>rfl);(case hg=>rfl);(case hr=>first|(go_simp;done)|(go_simp;rfl));intro Q hg q6 a7 hb;have F:=mk0 (a7);have d6:=szw hg U;have d3:=szw hg U;have a4:=nlt hg B;have b4:=ngt hg B;have a5:=nlt hg C;have b5:=ngt hg C;have a6:=nlt hg D;have b6:=ngt hg D;have d0:=nlt hg G;have d1:=ngt hg G;have c0:=nlt hg E;have c3:=ngt hg E;replace B:=bkb B hb;replace C:=bkb C hb;replace D:=bkb D hb;replace G:=bkb G hb;replace E:=bkb E hb;replace U:=bst U hb;clear hb a7 hg;refine hK.out _ _ ⟨q0_ B,q1_ B,q2_ B,q3_ B,q0_ C,q1_ C,q2_ C,q3_ C,q0_ D,q1_ D,q2_ D,q3_ D⟩ (fun I=>?_);clear hK K;refine norm_ (a':=?_) ?_ ?_;rotate_left
     ·
      show Act.put _ (some 7) _=_;simp only [Act.put,s0_,s1_,s2_,i64_w,i32_w];rfl
     exact norm_ (by simp only [putAll,Act.put,s0_,s1_,s2_] <;> rfl) (n9 (Q,R,T) _ ⟨I,F.1,G.1,E.1,B.1,C.1,D.1,d6.1,d3.1,d0.1,d1.1,c0.1,c3.1,a4.1,b4.1,a5.1,b5.1,a6.1,b6.1,d7.1,d4.1,b7.1,b8.1,a0.1,b1.1,a1.1,b2.1,a2.1,b3.1,d8.1,d5.1,X.1,a8.1,Y.1,a9.1,Z.1,b0.1,U.1⟩)
   ·
    skip
    clear B C D U;rintro ⟨Q,T⟩ p3 d2;(try dsimp only at d2);replace d2:=h_ (m4_ (m4_ (m4_ (m4_ (m4_ (m_ (m_ (m_ l_)))))))) d2;obtain ⟨j8,F,E,B,C,D,d6,d3,c0,c3,a4,b4,a5,b5,a6,b6,d8,d5,X,a8,Y,a9,Z,b0,U⟩:=d2;have I:=j8;refine norm_ (a':=?_) ?_ ?_;rotate_left
    ·
     simp only [putAll,Act.put,s0_,s1_,s2_];rfl
    refine one_ (i:=7) (N:=some 8) #[y_,y_,y_,y_,y_,y_,y_,y_,y_,n_,n_,n_] rfl rfl (one_of j9.1 (by kernel_rfl)) (by decide) (fun K hK=>?_);refine box_step ?hg (N:=8) ?hd (cs:=#[.int .i64 0,.int .i64 0,.int .i64 0,.int .i64 0]) (t:=23) ?hr ?_;(case hd=>rfl);(case hg=>rfl);(case hr=>first|(go_simp;done)|(go_simp;rfl));intro R hg q6 a7 hb;have G:=mk0 (a7);have d7:=szw hg U;have d4:=szw hg U;have a0:=nlt hg B;have b1:=ngt hg B;have a1:=nlt hg C;have b2:=ngt hg C;have a2:=nlt hg D;have b3:=ngt hg D;have d1:=nlt hg F;have d0:=ngt hg F;have b7:=nlt hg E;have b8:=ngt hg E;replace B:=bkb B hb;replace C:=bkb C hb;replace D:=bkb D hb;replace F:=bkb F hb;replace E:=bkb E hb;replace U:=bst U hb;clear hb a7 hg;refine hK.out _ _ ⟨q0_ B,q1_ B,q2_ B,q3_ B,q0_ C,q1_ C,q2_ C,q3_ C,q0_ D,q1_ D,q2_ D,q3_ D⟩ (fun I=>?_);clear hK K;refine norm_ (a':=?_) ?_ ?_;rotate_left
    ·
     show Act.put _ (some 8) _=_;simp only [Act.put,s0_,s1_,s2_,i64_w,i32_w];rfl
    exact norm_ (by simp only [putAll,Act.put,s0_,s1_,s2_] <;> rfl) (n9 (Q,R,T) _ ⟨I,F.1,G.1,E.1,B.1,C.1,D.1,d6.1,d3.1,d0.1,d1.1,c0.1,c3.1,a4.1,b4.1,a5.1,b5.1,a6.1,b6.1,d7.1,d4.1,b7.1,b8.1,a0.1,b1.1,a1.1,b2.1,a2.1,b3.1,d8.1,d5.1,X.1,a8.1,Y.1,a9.1,Z.1,b0.1,U.1⟩)
  ·
   skip
   clear B C D U;rintro ⟨Q,R⟩ p3 d2;(try dsimp only at d2);replace d2:=h_ (m4_ (m4_ (m4_ (m4_ (m4_ (m_ (m_ (m_ l_)))))))) d2;obtain ⟨j8,F,G,B,C,D,d6,d3,d0,d1,a4,b4,a5,b5,a6,b6,d7,d4,a0,b1,a1,b2,a2,b3,U⟩:=d2;have I:=j8;refine norm_ (a':=?_) ?_ ?_;rotate_left
   ·
    simp only [putAll,Act.put,s0_,s1_,s2_];rfl
   refine one_ (i:=8) (N:=some 9) #[y_,y_,y_,y_,y_,y_,y_,y_,y_,n_,n_,n_] rfl rfl (one_of j9.1 (by kernel_rfl)) (by decide) (fun K hK=>?_);refine box_step ?hg (N:=9) ?hd (cs:=#[.int .i64 0,.int .i64 0,.int .i64 0,.int .i64 0]) (t:=23) ?hr ?_;(case hd=>rfl);(case hg=>rfl);(case hr=>first|(go_simp;done)|(go_simp;rfl));intro T hg q6 a7 hb;have E:=mk0 (a7);have d8:=szw hg U;have d5:=szw hg U;have X:=nlt hg B;have a8:=ngt hg B;have Y:=nlt hg C;have a9:=ngt hg C;have Z:=nlt hg D;have b0:=ngt hg D;have c3:=nlt hg F;have c0:=ngt hg F;have b8:=nlt hg G;have b7:=ngt hg G;replace B:=bkb B hb;replace C:=bkb C hb;replace D:=bkb D hb;replace F:=bkb F hb;replace G:=bkb G hb;replace U:=bst U hb;clear hb a7 hg;refine hK.out _ _ ⟨q0_ B,q1_ B,q2_ B,q3_ B,q0_ C,q1_ C,q2_ C,q3_ C,q0_ D,q1_ D,q2_ D,q3_ D⟩ (fun I=>?_);clear hK K;refine norm_ (a':=?_) ?_ ?_;rotate_left
   ·
    show Act.put _ (some 9) _=_;simp only [Act.put,s0_,s1_,s2_,i64_w,i32_w];rfl
   exact norm_ (by simp only [putAll,Act.put,s0_,s1_,s2_] <;> rfl) (n9 (Q,R,T) _ ⟨I,F.1,G.1,E.1,B.1,C.1,D.1,d6.1,d3.1,d0.1,d1.1,c0.1,c3.1,a4.1,b4.1,a5.1,b5.1,a6.1,b6.1,d7.1,d4.1,b7.1,b8.1,a0.1,b1.1,a1.1,b2.1,a2.1,b3.1,d8.1,d5.1,X.1,a8.1,Y.1,a9.1,Z.1,b0.1,U.1⟩)
 clear B C D U;rintro ⟨Q,R,T⟩ q6 d2;(try dsimp only at d2);replace d2:=h_ (m4_ (m4_ (m4_ (m4_ (m4_ (m4_ (m4_ (m4_ (m4_ l_))))))))) d2;obtain ⟨j8,F,G,E,B,C,D,d6,d3,d0,d1,c0,c3,a4,b4,a5,b5,a6,b6,d7,d4,b7,b8,a0,b1,a1,b2,a2,b3,d8,d5,X,a8,Y,a9,Z,b0,U⟩:=d2;have I:=j8;refine norm_ (a':=?_) ?_ ?_;rotate_left
 ·
  simp only [putAll,Act.put,s0_,s1_,s2_];rfl
 refine one_ (i:=9) (N:=none) #[y_,y_,y_,y_,y_,y_,y_,y_,y_,y_,n_,n_] rfl rfl (one_of j9.1 (by kernel_rfl)) (by decide) (fun K hK=>?_);have Pr:=q0_ F;have Lk:=blk_frozen F.1 0;have By:=a4.1;have Bz:=a5.1;have Ca:=a6.1;have Cb:=d0.1;have Cc:=c0.1;have Cd:=b4.1;have Ce:=b5.1;have Cf:=b6.1;have Cg:=d1.1;have Ch:=c3.1;have Ps:=q1_ F;have Ll:=blk_frozen F.1 1;have Pt:=q2_ F;have Lm:=blk_frozen F.1 2;have Pu:=q3_ F;have Ln:=blk_frozen F.1 3;refine skip_ (w1:=?_) (by rfl) rfl ?_ ?_;rotate_left
 ·
  go_simp;rfl
 refine hK.out _ _ ⟨f4_ a4 I.1,f4_ a4 I.2.1,f4_ a4 I.2.2.1,f4_ a4 I.2.2.2.1,f4_ a5 I.2.2.2.2.1,f4_ a5 I.2.2.2.2.2.1,f4_ a5 I.2.2.2.2.2.2.1,f4_ a5 I.2.2.2.2.2.2.2.1,f4_ a6 I.2.2.2.2.2.2.2.2.1,f4_ a6 I.2.2.2.2.2.2.2.2.2.1,f4_ a6 I.2.2.2.2.2.2.2.2.2.2.1,f4_ a6 I.2.2.2.2.2.2.2.2.2.2.2⟩ (fun I=>?_);clear hK K Pr Lk By Bz Ca Cb Cc Cd Ce Cf Cg Ch Ps Ll Pt Lm Pu Ln;replace B:=bf4_ i8 e6 f9 g1 a4 B;replace C:=bf4_ i8 e6 f9 g1 a5 C;replace D:=bf4_ i8 e6 f9 g1 a6 D;replace F:=bp4_ i8 e6 f9 g1 F;replace G:=bf4_ i8 e6 f9 g1 d0 G;replace E:=bf4_ i8 e6 f9 g1 c0 E;replace U:=bl4_ (p:=Q) i8 e6 f9 g1 (by first|exact o1|exact o2|exact o3|exact d3|exact d4|exact d5) U;generalize ((((q6.setCell ⟨Q,0,none⟩ (.int .i64 i8)).setCell ⟨Q,1,none⟩ (.int .i64 e6)).setCell ⟨Q,2,none⟩ (.int .i64 f9)).setCell ⟨Q,3,none⟩ (.int .i64 g1))=wq1_ at B C D F G E U I ⊢;refine one_ (i:=10) (N:=none) #[y_,y_,y_,y_,y_,y_,y_,y_,y_,y_,y_,n_] rfl rfl (one_of j9.1 (by kernel_rfl)) (by decide) (fun K hK=>?_);have Pv:=q0_ G;have Lo:=blk_frozen G.1 0;have Ci:=a0.1;have Cj:=a1.1;have Ck:=a2.1;have Cl:=d1.1;have Cm:=b7.1;have Cn:=b1.1;have Co:=b2.1;have Cp:=b3.1;have Cq:=d0.1;have Cr:=b8.1;have Pw:=q1_ G
 have Lp:=blk_frozen G.1 1;have Cs:=a0.1;have Ct:=a1.1;have Cu:=a2.1;have Cv:=d1.1;have Cw:=b7.1;have Cx:=b1.1;have Cy:=b2.1;have Cz:=b3.1;have Da:=d0.1;have Db:=b8.1;have Px:=q2_ G;have Lq:=blk_frozen G.1 2;have Py:=q3_ G;have Lr:=blk_frozen G.1 3;refine skip_ (w1:=?_) (by rfl) rfl ?_ ?_;rotate_left
 ·
  go_simp;rfl
 refine hK.out _ _ ⟨f4_ a0 I.1,f4_ a0 I.2.1,f4_ a0 I.2.2.1,f4_ a0 I.2.2.2.1,f4_ a1 I.2.2.2.2.1,f4_ a1 I.2.2.2.2.2.1,f4_ a1 I.2.2.2.2.2.2.1,f4_ a1 I.2.2.2.2.2.2.2.1,f4_ a2 I.2.2.2.2.2.2.2.2.1,f4_ a2 I.2.2.2.2.2.2.2.2.2.1,f4_ a2 I.2.2.2.2.2.2.2.2.2.2.1,f4_ a2 I.2.2.2.2.2.2.2.2.2.2.2⟩ (fun I=>?_);clear hK K Pv Lo Ci Cj Ck Cl Cm Cn Co Cp Cq Cr Pw Lp Cs Ct Cu Cv Cw Cx Cy Cz Da Db Px Lq Py Lr;replace B:=bf4_ g5 g6 h0 h2 a0 B;replace C:=bf4_ g5 g6 h0 h2 a1 C;replace D:=bf4_ g5 g6 h0 h2 a2 D;replace F:=bf4_ g5 g6 h0 h2 d1 F;replace G:=bp4_ g5 g6 h0 h2 G;replace E:=bf4_ g5 g6 h0 h2 b7 E;replace U:=bl4_ (p:=R) g5 g6 h0 h2 (by first|exact o1|exact o2|exact o3|exact d3|exact d4|exact d5) U;generalize ((((wq1_.setCell ⟨R,0,none⟩ (.int .i64 g5)).setCell ⟨R,1,none⟩ (.int .i64 g6)).setCell ⟨R,2,none⟩ (.int .i64 h0)).setCell ⟨R,3,none⟩ (.int .i64 h2))=wq2_ at B C D F G E U I ⊢;refine one_ (i:=11) (N:=none) #[y_,y_,y_,y_,y_,y_,y_,y_,y_,y_,y_,y_] rfl rfl (one_of j9.1 (by kernel_rfl)) (by decide) (fun K hK=>?_);have Pz:=q0_ E;have Ls:=blk_frozen E.1 0;have Dc:=X.1;have Dd:=Y.1;have De:=Z.1;have Df:=c3.1;have Dg:=b8.1;have Dh:=a8.1;have Di:=a9.1;have Dj:=b0.1;have Dk:=c0.1;have Dl:=b7.1;have Qa:=q1_ E
 have Lt:=blk_frozen E.1 1;have Dm:=X.1;have Dn:=Y.1;have Do:=Z.1;have Dp:=c3.1;have Dq:=b8.1;have Dr:=a8.1;have Ds:=a9.1;have Dt:=b0.1;have Du:=c0.1;have Dv:=b7.1;have Qb:=q2_ E;have Lu:=blk_frozen E.1 2;have Qc:=q3_ E;have Lv:=blk_frozen E.1 3;refine skip_ (w1:=?_) (by rfl) rfl ?_ ?_;rotate_left
 ·
  go_simp;rfl
 refine hK.out _ _ ⟨f4_ X I.1,f4_ X I.2.1,f4_ X I.2.2.1,f4_ X I.2.2.2.1,f4_ Y I.2.2.2.2.1,f4_ Y I.2.2.2.2.2.1,f4_ Y I.2.2.2.2.2.2.1,f4_ Y I.2.2.2.2.2.2.2.1,f4_ Z I.2.2.2.2.2.2.2.2.1,f4_ Z I.2.2.2.2.2.2.2.2.2.1,f4_ Z I.2.2.2.2.2.2.2.2.2.2.1,f4_ Z I.2.2.2.2.2.2.2.2.2.2.2⟩ (fun I=>?_);clear hK K Pz Ls Dc Dd De Df Dg Dh Di Dj Dk Dl Qa Lt Dm Dn Do Dp Dq Dr Ds Dt Du Dv Qb Lu Qc Lv;replace B:=bf4_ g0 g2 g3 g4 X B;replace C:=bf4_ g0 g2 g3 g4 Y C;replace D:=bf4_ g0 g2 g3 g4 Z D;replace F:=bf4_ g0 g2 g3 g4 c3 F;replace G:=bf4_ g0 g2 g3 g4 b8 G;replace E:=bp4_ g0 g2 g3 g4 E;replace U:=bl4_ (p:=T) g0 g2 g3 g4 (by first|exact o1|exact o2|exact o3|exact d3|exact d4|exact d5) U;generalize ((((wq2_.setCell ⟨T,0,none⟩ (.int .i64 g0)).setCell ⟨T,1,none⟩ (.int .i64 g2)).setCell ⟨T,2,none⟩ (.int .i64 g3)).setCell ⟨T,3,none⟩ (.int .i64 g4))=Fm at B C D F G E U I ⊢;refine done_ (done_of j9.1 (by kernel_rfl)) ?_;try go_wp2
 replace B:=bdr B;replace C:=bdr C;replace D:=bdr D;replace F:=bdr F;replace G:=bdr G;replace E:=bdr E;replace U:=hdr U;refine start_ (n:=10) (S:=fun w'=>w'.cell? ⟨Q,0,none⟩=some (.int .i64 i8)∧w'.cell? ⟨Q,1,none⟩=some (.int .i64 e6)∧w'.cell? ⟨Q,2,none⟩=some (.int .i64 f9)∧w'.cell? ⟨Q,3,none⟩=some (.int .i64 g1)∧w'.cell? ⟨T,0,none⟩=some (.int .i64 g0)∧w'.cell? ⟨T,1,none⟩=some (.int .i64 g2)∧w'.cell? ⟨T,2,none⟩=some (.int .i64 g3)∧w'.cell? ⟨T,3,none⟩=some (.int .i64 g4)∧w'.cell? ⟨R,0,none⟩=some (.int .i64 g5)∧w'.cell? ⟨R,1,none⟩=some (.int .i64 g6)∧w'.cell? ⟨R,2,none⟩=some (.int .i64 h0)∧w'.cell? ⟨R,3,none⟩=some (.int .i64 h2)) (ds:=[]) #[n_,n_,n_,n_,n_,n_,n_,n_,n_,n_] (by kernel_rfl) rfl rfl ⟨q0_ F,q1_ F,q2_ F,q3_ F,q0_ E,q1_ E,q2_ E,q3_ E,q0_ G,q1_ G,q2_ G,q3_ G⟩ (fun I=>?_);refine with_tabW bellpulllaw04_NormDivisor.tab2 bellpulllaw04_NormDivisor.bits2 (fun j9 p5=>?_);generalize Fm.drew=Rd at B C D F G E U I ⊢;refine take_ (i:=0) (N:=some 24) (v:=?_) (a':=?_) #[y_,n_,n_,n_,n_,n_,n_,n_,n_,n_] rfl rfl (take_ofW j9.1 p5.1 (by kernel_rfl)) (fun _ _ _ h=>h) (Or.inl ⟨by rfl,?_⟩) I ?_ ?_;rotate_left
 ·
  rintro w' ⟨s0,s1,s2,s3,s4,s5,s6,s7,s8,s9,B6,B7⟩;go_simp;with_reducible rfl
 rotate_left
 ·
  simp only [Act.put,s0_,s1_,s2_,i64_w,i32_w];rfl
 refine take_ (i:=1) (N:=some 25) (v:=?_) (a':=?_) #[y_,y_,n_,n_,n_,n_,n_,n_,n_,n_] rfl rfl (take_ofW j9.1 p5.1 (by kernel_rfl)) (fun _ _ _ h=>h) (Or.inl ⟨by rfl,?_⟩) I ?_ ?_;rotate_left
 ·
  rintro w' ⟨s0,s1,s2,s3,s4,s5,s6,s7,s8,s9,B6,B7⟩;go_simp;with_reducible rfl
 rotate_left
 ·
  simp only [Act.put,s0_,s1_,s2_,i64_w,i32_w];rfl
 refine take_ (i:=3) (N:=some 27) (v:=?_) (a':=?_) #[y_,y_,n_,y_,n_,n_,n_,n_,n_,n_] rfl rfl (take_ofW j9.1 p5.1 (by kernel_rfl)) (fun _ _ _ h=>h) (Or.inl ⟨by rfl,?_⟩) I ?_ ?_;rotate_left
 ·
  rintro w' ⟨s0,s1,s2,s3,s4,s5,s6,s7,s8,s9,B6,B7⟩;go_simp;with_reducible rfl
 rotate_left
 ·
  simp only [Act.put,s0_,s1_,s2_,i64_w,i32_w];rfl
 refine take_ (i:=4) (N:=some 28) (v:=?_) (a':=?_) #[y_,y_,n_,y_,y_,n_,n_,n_,n_,n_] rfl rfl (take_ofW j9.1 p5.1 (by kernel_rfl)) (fun _ _ _ h=>h) (Or.inl ⟨by rfl,?_⟩) I ?_ ?_;rotate_left
 ·
  rintro w' ⟨s0,s1,s2,s3,s4,s5,s6,s7,s8,s9,B6,B7⟩;go_simp;with_reducible rfl
 rotate_left
 ·
  simp only [Act.put,s0_,s1_,s2_,i64_w,i32_w];rfl
 refine join_ (σ:=Nat × Nat) 2 #[y_,y_,y_,y_,y_,y_,y_,y_,n_,n_] (fun s_=>[(26,.agg #[.int .i64 h1,.int .i64 h3,.int .i64 h8,.int .i64 h9]),(29,.agg #[.int .i64 l4,.int .i64 l5,.int .i64 l8,.int .i64 l9]),(10,.pointer (some ⟨s_.1,0,none⟩)),(11,.pointer (some ⟨s_.2,0,none⟩))]) (fun s_ w'=>(w'.cell? ⟨Q,0,none⟩=some (.int .i64 i8)∧w'.cell? ⟨Q,1,none⟩=some (.int .i64 e6)∧w'.cell? ⟨Q,2,none⟩=some (.int .i64 f9)∧w'.cell? ⟨Q,3,none⟩=some (.int .i64 g1)∧w'.cell? ⟨T,0,none⟩=some (.int .i64 g0)∧w'.cell? ⟨T,1,none⟩=some (.int .i64 g2)∧w'.cell? ⟨T,2,none⟩=some (.int .i64 g3)∧w'.cell? ⟨T,3,none⟩=some (.int .i64 g4)∧w'.cell? ⟨R,0,none⟩=some (.int .i64 g5)∧w'.cell? ⟨R,1,none⟩=some (.int .i64 g6)∧w'.cell? ⟨R,2,none⟩=some (.int .i64 h0)∧w'.cell? ⟨R,3,none⟩=some (.int .i64 h2))∧(Q4_ w' Q i8 e6 f9 g1 23)∧(Q4_ w' R g5 g6 h0 h2 23)∧(Q4_ w' T g0 g2 g3 g4 23)∧(Q4_ w' s_.1 0 0 0 0 23)∧(Q4_ w' s_.2 0 0 0 0 23)∧(w'.heap[J]?=some (.cells #[.int .i16 e7,.int .i16 e8,.int .i16 e9,.int .i16 f0] 47 (0,0)))∧(w'.heap[L]?=some (.cells #[.int .i16 f1,.int .i16 f2,.int .i16 f3,.int .i16 f4] 47 (0,0)))∧(w'.heap[O]?=some (.cells #[.int .i16 f5,.int .i16 f6,.int .i16 f7,.int .i16 f8] 47 (0,0)))∧(w.heap.size ≤ s_.1)∧(w.heap.size ≤ s_.1)∧(Q ≠ s_.1)∧(s_.1 ≠ Q)∧(R ≠ s_.1)∧(s_.1 ≠ R)∧(T ≠ s_.1)∧(s_.1 ≠ T)∧(s_.2 ≠ s_.1)∧(s_.1 ≠ s_.2)∧(J ≠ s_.1)∧(s_.1 ≠ J)∧(L ≠ s_.1)∧(s_.1 ≠ L)∧(O ≠ s_.1)∧(s_.1 ≠ O)∧(w.heap.size ≤ s_.2)∧(w.heap.size ≤ s_.2)∧(Q ≠ s_.2)∧(s_.2 ≠ Q)∧(R ≠ s_.2)∧(s_.2 ≠ R)∧(T ≠ s_.2)∧(s_.2 ≠ T)∧(J ≠ s_.2)∧(s_.2 ≠ J)∧(L ≠ s_.2)∧(s_.2 ≠ L)∧(O ≠ s_.2)∧(s_.2 ≠ O)∧(Below w.heap.size w w')) ?_ ?_;rotate_left
 ·
  intro r0;refine join_ (σ:=Nat) 3 #[y_,y_,y_,y_,y_,y_,y_,n_,n_,n_] (fun s_=>[(26,.agg #[.int .i64 h1,.int .i64 h3,.int .i64 h8,.int .i64 h9]),(29,.agg #[.int .i64 l4,.int .i64 l5,.int .i64 l8,.int .i64 l9]),(10,.pointer (some ⟨s_,0,none⟩))]) (fun s_ w'=>(w'.cell? ⟨Q,0,none⟩=some (.int .i64 i8)∧w'.cell? ⟨Q,1,none⟩=some (.int .i64 e6)∧w'.cell? ⟨Q,2,none⟩=some (.int .i64 f9)∧w'.cell? ⟨Q,3,none⟩=some (.int .i64 g1)∧w'.cell? ⟨T,0,none⟩=some (.int .i64 g0)∧w'.cell? ⟨T,1,none⟩=some (.int .i64 g2)∧w'.cell? ⟨T,2,none⟩=some (.int .i64 g3)∧w'.cell? ⟨T,3,none⟩=some (.int .i64 g4)∧w'.cell? ⟨R,0,none⟩=some (.int .i64 g5)∧w'.cell? ⟨R,1,none⟩=some (.int .i64 g6)∧w'.cell? ⟨R,2,none⟩=some (.int .i64 h0)∧w'.cell? ⟨R,3,none⟩=some (.int .i64 h2))∧(Q4_ w' Q i8 e6 f9 g1 23)∧(Q4_ w' R g5 g6 h0 h2 23)∧(Q4_ w' T g0 g2 g3 g4 23)∧(Q4_ w' s_ 0 0 0 0 23)∧(w'.heap[J]?=some (.cells #[.int .i16 e7,.int .i16 e8,.int .i16 e9,.int .i16 f0] 47 (0,0)))∧(w'.heap[L]?=some (.cells #[.int .i16 f1,.int .i16 f2,.int .i16 f3,.int .i16 f4] 47 (0,0)))∧(w'.heap[O]?=some (.cells #[.int .i16 f5,.int .i16 f6,.int .i16 f7,.int .i16 f8] 47 (0,0)))∧(w.heap.size ≤ s_)∧(w.heap.size ≤ s_)∧(Q ≠ s_)∧(s_ ≠ Q)∧(R ≠ s_)∧(s_ ≠ R)∧(T ≠ s_)∧(s_ ≠ T)∧(J ≠ s_)∧(s_ ≠ J)∧(L ≠ s_)∧(s_ ≠ L)∧(O ≠ s_)∧(s_ ≠ O)∧(Below w.heap.size w w')) ?_ ?_;rotate_left
  ·
   intro C1;refine join_ (σ:=Nat) 3 #[y_,y_,y_,y_,y_,y_,n_,y_,n_,n_] (fun s_=>[(26,.agg #[.int .i64 h1,.int .i64 h3,.int .i64 h8,.int .i64 h9]),(29,.agg #[.int .i64 l4,.int .i64 l5,.int .i64 l8,.int .i64 l9]),(11,.pointer (some ⟨s_,0,none⟩))]) (fun s_ w'=>(w'.cell? ⟨Q,0,none⟩=some (.int .i64 i8)∧w'.cell? ⟨Q,1,none⟩=some (.int .i64 e6)∧w'.cell? ⟨Q,2,none⟩=some (.int .i64 f9)∧w'.cell? ⟨Q,3,none⟩=some (.int .i64 g1)∧w'.cell? ⟨T,0,none⟩=some (.int .i64 g0)∧w'.cell? ⟨T,1,none⟩=some (.int .i64 g2)∧w'.cell? ⟨T,2,none⟩=some (.int .i64 g3)∧w'.cell? ⟨T,3,none⟩=some (.int .i64 g4)∧w'.cell? ⟨R,0,none⟩=some (.int .i64 g5)∧w'.cell? ⟨R,1,none⟩=some (.int .i64 g6)∧w'.cell? ⟨R,2,none⟩=some (.int .i64 h0)∧w'.cell? ⟨R,3,none⟩=some (.int .i64 h2))∧(Q4_ w' Q i8 e6 f9 g1 23)∧(Q4_ w' R g5 g6 h0 h2 23)∧(Q4_ w' T g0 g2 g3 g4 23)∧(Q4_ w' s_ 0 0 0 0 23)∧(w'.heap[J]?=some (.cells #[.int .i16 e7,.int .i16 e8,.int .i16 e9,.int .i16 f0] 47 (0,0)))∧(w'.heap[L]?=some (.cells #[.int .i16 f1,.int .i16 f2,.int .i16 f3,.int .i16 f4] 47 (0,0)))∧(w'.heap[O]?=some (.cells #[.int .i16 f5,.int .i16 f6,.int .i16 f7,.int .i16 f8] 47 (0,0)))∧(w.heap.size ≤ s_)∧(w.heap.size ≤ s_)∧(Q ≠ s_)∧(s_ ≠ Q)∧(R ≠ s_)∧(s_ ≠ R)∧(T ≠ s_)∧(s_ ≠ T)∧(J ≠ s_)∧(s_ ≠ J)∧(L ≠ s_)∧(s_ ≠ L)∧(O ≠ s_)∧(s_ ≠ O)∧(Below w.heap.size w w')) ?_ ?_;rotate_left
   ·
    intro C2;refine join_ (σ:=Nat × Nat) 3 #[y_,y_,y_,y_,y_,n_,y_,y_,n_,n_] (fun s_=>[(26,.agg #[.int .i64 h1,.int .i64 h3,.int .i64 h8,.int .i64 h9]),(10,.pointer (some ⟨s_.1,0,none⟩)),(11,.pointer (some ⟨s_.2,0,none⟩))]) (fun s_ w'=>(w'.cell? ⟨Q,0,none⟩=some (.int .i64 i8)∧w'.cell? ⟨Q,1,none⟩=some (.int .i64 e6)∧w'.cell? ⟨Q,2,none⟩=some (.int .i64 f9)∧w'.cell? ⟨Q,3,none⟩=some (.int .i64 g1)∧w'.cell? ⟨T,0,none⟩=some (.int .i64 g0)∧w'.cell? ⟨T,1,none⟩=some (.int .i64 g2)∧w'.cell? ⟨T,2,none⟩=some (.int .i64 g3)∧w'.cell? ⟨T,3,none⟩=some (.int .i64 g4)∧w'.cell? ⟨R,0,none⟩=some (.int .i64 g5)∧w'.cell? ⟨R,1,none⟩=some (.int .i64 g6)∧w'.cell? ⟨R,2,none⟩=some (.int .i64 h0)∧w'.cell? ⟨R,3,none⟩=some (.int .i64 h2))∧(Q4_ w' Q i8 e6 f9 g1 23)∧(Q4_ w' R g5 g6 h0 h2 23)∧(Q4_ w' T g0 g2 g3 g4 23)∧(Q4_ w' s_.1 0 0 0 0 23)∧(Q4_ w' s_.2 0 0 0 0 23)∧(w'.heap[J]?=some (.cells #[.int .i16 e7,.int .i16 e8,.int .i16 e9,.int .i16 f0] 47 (0,0)))∧(w'.heap[L]?=some (.cells #[.int .i16 f1,.int .i16 f2,.int .i16 f3,.int .i16 f4] 47 (0,0)))∧(w'.heap[O]?=some (.cells #[.int .i16 f5,.int .i16 f6,.int .i16 f7,.int .i16 f8] 47 (0,0)))∧(w.heap.size ≤ s_.1)∧(w.heap.size ≤ s_.1)∧(Q ≠ s_.1)∧(s_.1 ≠ Q)∧(R ≠ s_.1)∧(s_.1 ≠ R)∧(T ≠ s_.1)∧(s_.1 ≠ T)∧(s_.2 ≠ s_.1)∧(s_.1 ≠ s_.2)∧(J ≠ s_.1)∧(s_.1 ≠ J)∧(L ≠ s_.1)∧(s_.1 ≠ L)∧(O ≠ s_.1)∧(s_.1 ≠ O)∧(w.heap.size ≤ s_.2)∧(w.heap.size ≤ s_.2)∧(Q ≠ s_.2)∧(s_.2 ≠ Q)∧(R ≠ s_.2)∧(s_.2 ≠ R)∧(T ≠ s_.2)∧(s_.2 ≠ T)∧(J ≠ s_.2)∧(s_.2 ≠ J)∧(L ≠ s_.2)∧(s_.2 ≠ L)∧(O ≠ s_.2)∧(s_.2 ≠ O)∧(Below w.heap.size w w')) ?_ ?_;rotate_left
    ·
     intro x2;refine join_ (σ:=Unit) 4 #[y_,y_,y_,y_,y_,y_,n_,n_,n_,n_] (fun s_=>[(26,.agg #[.int .i64 h1,.int .i64 h3,.int .i64 h8,.int .i64 h9]),(29,.agg #[.int .i64 l4,.int .i64 l5,.int .i64 l8,.int .i64 l9])]) (fun s_ w'=>(w'.cell? ⟨Q,0,none⟩=some (.int .i64 i8)∧w'.cell? ⟨Q,1,none⟩=some (.int .i64 e6)∧w'.cell? ⟨Q,2,none⟩=some (.int .i64 f9)∧w'.cell? ⟨Q,3,none⟩=some (.int .i64 g1)∧w'.cell? ⟨T,0,none⟩=some (.int .i64 g0)∧w'.cell? ⟨T,1,none⟩=some (.int .i64 g2)∧w'.cell? ⟨T,2,none⟩=some (.int .i64 g3)∧w'.cell? ⟨T,3,none⟩=some (.int .i64 g4)∧w'.cell? ⟨R,0,none⟩=some (.int .i64 g5)∧w'.cell? ⟨R,1,none⟩=some (.int .i64 g6)∧w'.cell? ⟨R,2,none⟩=some (.int .i64 h0)∧w'.cell? ⟨R,3,none⟩=some (.int .i64 h2))∧(Q4_ w' Q i8 e6 f9 g1 23)∧(Q4_ w' R g5 g6 h0 h2 23)∧(Q4_ w' T g0 g2 g3 g4 23)∧(w'.heap[J]?=some (.cells #[.int .i16 e7,.int .i16 e8,.int .i16 e9,.int .i16 f0] 47 (0,0)))∧(w'.heap[L]?=some (.cells #[.int .i16 f1,.int .i16 f2,.int .i16 f3,.int .i16 f4] 47 (0,0)))∧(w'.heap[O]?=some (.cells #[.int .i16 f5,.int .i16 f6,.int .i16 f7,.int .i16 f8] 47 (0,0)))∧(Below w.heap.size w w')) ?_ ?_;rotate_left
     ·
      intro Z8;refine join_ (σ:=Nat) 4 #[y_,y_,y_,y_,y_,n_,y_,n_,n_,n_] (fun s_=>[(26,.agg #[.int .i64 h1,.int .i64 h3,.int .i64 h8,.int .i64 h9]),(10,.pointer (some ⟨s_,0,none⟩))]) (fun s_ w'=>(w'.cell? ⟨Q,0,none⟩=some (.int .i64 i8)∧w'.cell? ⟨Q,1,none⟩=some (.int .i64 e6)∧w'.cell? ⟨Q,2,none⟩=some (.int .i64 f9)∧w'.cell? ⟨Q,3,none⟩=some (.int .i64 g1)∧w'.cell? ⟨T,0,none⟩=some (.int .i64 g0)∧w'.cell? ⟨T,1,none⟩=some (.int .i64 g2)∧w'.cell? ⟨T,2,none⟩=some (.int .i64 g3)∧w'.cell? ⟨T,3,none⟩=some (.int .i64 g4)∧w'.cell? ⟨R,0,none⟩=some (.int .i64 g5)∧w'.cell? ⟨R,1,none⟩=some (.int .i64 g6)∧w'.cell? ⟨R,2,none⟩=some (.int .i64 h0)∧w'.cell? ⟨R,3,none⟩=some (.int .i64 h2))∧(Q4_ w' Q i8 e6 f9 g1 23)∧(Q4_ w' R g5 g6 h0 h2 23)∧(Q4_ w' T g0 g2 g3 g4 23)∧(Q4_ w' s_ 0 0 0 0 23)∧(w'.heap[J]?=some (.cells #[.int .i16 e7,.int .i16 e8,.int .i16 e9,.int .i16 f0] 47 (0,0)))∧(w'.heap[L]?=some (.cells #[.int .i16 f1,.int .i16 f2,.int .i16 f3,.int .i16 f4] 47 (0,0)))∧(w'.heap[O]?=some (.cells #[.int .i16 f5,.int .i16 f6,.int .i16 f7,.int .i16 f8] 47 (0,0)))∧(w.heap.size ≤ s_)∧(w.heap.size ≤ s_)∧(Q ≠ s_)∧(s_ ≠ Q)∧(R ≠ s_)∧(s_ ≠ R)∧(T ≠ s_)∧(s_ ≠ T)∧(J ≠ s_)∧(s_ ≠ J)∧(L ≠ s_)∧(s_ ≠ L)∧(O ≠ s_)∧(s_ ≠ O)∧(Below w.heap.size w w')) ?_ ?_;rotate_left
      ·
       intro T1;refine join_ (σ:=Nat) 4 #[y_,y_,y_,y_,y_,n_,n_,y_,n_,n_] (fun s_=>[(26,.agg #[.int .i64 h1,.int .i64 h3,.int .i64 h8,.int .i64 h9]),(11,.pointer (some ⟨s_,0,none⟩))]) (fun s_ w'=>(w'.cell? ⟨Q,0,none⟩=some (.int .i64 i8)∧w'.cell? ⟨Q,1,none⟩=some (.int .i64 e6)∧w'.cell? ⟨Q,2,none⟩=some (.int .i64 f9)∧w'.cell? ⟨Q,3,none⟩=some (.int .i64 g1)∧w'.cell? ⟨T,0,none⟩=some (.int .i64 g0)∧w'.cell? ⟨T,1,none⟩=some (.int .i64 g2)∧w'.cell? ⟨T,2,none⟩=some (.int .i64 g3)∧w'.cell? ⟨T,3,none⟩=some (.int .i64 g4)∧w'.cell? ⟨R,0,none⟩=some (.int .i64 g5)∧w'.cell? ⟨R,1,none⟩=some (.int .i64 g6)∧w'.cell? ⟨R,2,none⟩=some (.int .i64 h0)∧w'.cell? ⟨R,3,none⟩=some (.int .i64 h2))∧(Q4_ w' Q i8 e6 f9 g1 23)∧(Q4_ w' R g5 g6 h0 h2 23)∧(Q4_ w' T g0 g2 g3 g4 23)∧(Q4_ w' s_ 0 0 0 0 23)∧(w'.heap[J]?=some (.cells #[.int .i16 e7,.int .i16 e8,.int .i16 e9,.int .i16 f0] 47 (0,0)))∧(w'.heap[L]?=some (.cells #[.int .i16 f1,.int .i16 f2,.int .i16 f3,.int .i16 f4] 47 (0,0)))∧(w'.heap[O]?=some (.cells #[.int .i16 f5,.int .i16 f6,.int .i16 f7,.int .i16 f8] 47 (0,0)))∧(w.heap.size ≤ s_)∧(w.heap.size ≤ s_)∧(Q ≠ s_)∧(s_ ≠ Q)∧(R ≠ s_)∧(s_ ≠ R)∧(T ≠ s_)∧(s_ ≠ T)∧(J ≠ s_)∧(s_ ≠ J)∧(L ≠ s_)∧(s_ ≠ L)∧(O ≠ s_)∧(s_ ≠ O)∧(Below w.heap.size w w')) ?_ ?_;rotate_left
       ·
        intro T2;refine join_ (σ:=Nat × Nat) 4 #[y_,y_,n_,y_,y_,n_,y_,y_,n_,n_] (fun s_=>[(10,.pointer (some ⟨s_.1,0,none⟩)),(11,.pointer (some ⟨s_.2,0,none⟩))]) (fun s_ w'=>(w'.cell? ⟨Q,0,none⟩=some (.int .i64 i8)∧w'.cell? ⟨Q,1,none⟩=some (.int .i64 e6)∧w'.cell? ⟨Q,2,none⟩=some (.int .i64 f9)∧w'.cell? ⟨Q,3,none⟩=some (.int .i64 g1)∧w'.cell? ⟨T,0,none⟩=some (.int .i64 g0)∧w'.cell? ⟨T,1,none⟩=some (.int .i64 g2)∧w'.cell? ⟨T,2,none⟩=some (.int .i64 g3)∧w'.cell? ⟨T,3,none⟩=some (.int .i64 g4)∧w'.cell? ⟨R,0,none⟩=some (.int .i64 g5)∧w'.cell? ⟨R,1,none⟩=some (.int .i64 g6)∧w'.cell? ⟨R,2,none⟩=some (.int .i64 h0)∧w'.cell? ⟨R,3,none⟩=some (.int .i64 h2))∧(Q4_ w' Q i8 e6 f9 g1 23)∧(Q4_ w' R g5 g6 h0 h2 23)∧(Q4_ w' T g0 g2 g3 g4 23)∧(Q4_ w' s_.1 0 0 0 0 23)∧(Q4_ w' s_.2 0 0 0 0 23)∧(w'.heap[J]?=some (.cells #[.int .i16 e7,.int .i16 e8,.int .i16 e9,.int .i16 f0] 47 (0,0)))∧(w'.heap[L]?=some (.cells #[.int .i16 f1,.int .i16 f2,.int .i16 f3,.int .i16 f4] 47 (0,0)))∧(w'.heap[O]?=some (.cells #[.int .i16 f5,.int .i16 f6,.int .i16 f7,.int .i16 f8] 47 (0,0)))∧(w.heap.size ≤ s_.1)∧(w.heap.size ≤ s_.1)∧(Q ≠ s_.1)∧(s_.1 ≠ Q)∧(R ≠ s_.1)∧(s_.1 ≠ R)∧(T ≠ s_.1)∧(s_.1 ≠ T)∧(s_.2 ≠ s_.1)∧(s_.1 ≠ s_.2)∧(J ≠ s_.1)∧(s_.1 ≠ J)∧(L ≠ s_.1)∧(s_.1 ≠ L)∧(O ≠ s_.1)∧(s_.1 ≠ O)∧(w.heap.size ≤ s_.2)∧(w.heap.size ≤ s_.2)∧(Q ≠ s_.2)∧(s_.2 ≠ Q)∧(R ≠ s_.2)∧(s_.2 ≠ R)∧(T ≠ s_.2)∧(s_.2 ≠ T)∧(J ≠ s_.2)∧(s_.2 ≠ J)∧(L ≠ s_.2)∧(s_.2 ≠ L)∧(O ≠ s_.2)∧(s_.2 ≠ O)∧(Below w.heap.size w w')) ?_ ?_;rotate_left
        ·
         intro u2;refine join_ (σ:=Unit) 5 #[y_,y_,y_,y_,y_,n_,n_,n_,n_,n_] (fun s_=>[(26,.agg #[.int .i64 h1,.int .i64 h3,.int .i64 h8,.int .i64 h9])]) (fun s_ w'=>(w'.cell? ⟨Q,0,none⟩=some (.int .i64 i8)∧w'.cell? ⟨Q,1,none⟩=some (.int .i64 e6)∧w'.cell? ⟨Q,2,none⟩=some (.int .i64 f9)∧w'.cell? ⟨Q,3,none⟩=some (.int .i64 g1)∧w'.cell? ⟨T,0,none⟩=some (.int .i64 g0)∧w'.cell? ⟨T,1,none⟩=some (.int .i64 g2)∧w'.cell? ⟨T,2,none⟩=some (.int .i64 g3)∧w'.cell? ⟨T,3,none⟩=some (.int .i64 g4)∧w'.cell? ⟨R,0,none⟩=some (.int .i64 g5)∧w'.cell? ⟨R,1,none⟩=some (.int .i64 g6)∧w'.cell? ⟨R,2,none⟩=some (.int .i64 h0)∧w'.cell? ⟨R,3,none⟩=some (.int .i64 h2))∧(Q4_ w' Q i8 e6 f9 g1 23)∧(Q4_ w' R g5 g6 h0 h2 23)∧(Q4_ w' T g0 g2 g3 g4 23)∧(w'.heap[J]?=some (.cells #[.int .i16 e7,.int .i16 e8,.int .i16 e9,.int .i16 f0] 47 (0,0)))∧(w'.heap[L]?=some (.cells #[.int .i16 f1,.int .i16 f2,.int .i16 f3,.int .i16 f4] 47 (0,0)))∧(w'.heap[O]?=some (.cells #[.int .i16 f5,.int .i16 f6,.int .i16 f7,.int .i16 f8] 47 (0,0)))∧(Below w.heap.size w w')) ?_ ?_;rotate_left
         ·
          intro Fn;refine join_ (σ:=Nat) 5 #[y_,y_,n_,y_,y_,n_,y_,n_,n_,n_] (fun s_=>[(10,.pointer (some ⟨s_,0,none⟩))]) (fun s_ w'=>(w'.cell? ⟨Q,0,none⟩=some (.int .i64 i8)∧w'.cell? ⟨Q,1,none⟩=some (.int .i64 e6)∧w'.cell? ⟨Q,2,none⟩=some (.int .i64 f9)∧w'.cell? ⟨Q,3,none⟩=some (.int .i64 g1)∧w'.cell? ⟨T,0,none⟩=some (.int .i64 g0)∧w'.cell? ⟨T,1,none⟩=some (.int .i64 g2)∧w'.cell? ⟨T,2,none⟩=some (.int .i64 g3)∧w'.cell? ⟨T,3,none⟩=some (.int .i64 g4)∧w'.cell? ⟨R,0,none⟩=some (.int .i64 g5)∧w'.cell? ⟨R,1,none⟩=some (.int .i64 g6)∧w'.cell? ⟨R,2,none⟩=some (.int .i64 h0)∧w'.cell? ⟨R,3,none⟩=some (.int .i64 h2))∧(Q4_ w' Q i8 e6 f9 g1 23)∧(Q4_ w' R g5 g6 h0 h2 23)∧(Q4_ w' T g0 g2 g3 g4 23)∧(Q4_ w' s_ 0 0 0 0 23)∧(w'.heap[J]?=some (.cells #[.int .i16 e7,.int .i16 e8,.int .i16 e9,.int .i16 f0] 47 (0,0)))∧(w'.heap[L]?=some (.cells #[.int .i16 f1,.int .i16 f2,.int .i16 f3,.int .i16 f4] 47 (0,0)))∧(w'.heap[O]?=some (.cells #[.int .i16 f5,.int .i16 f6,.int .i16 f7,.int .i16 f8] 47 (0,0)))∧(w.heap.size ≤ s_)∧(w.heap.size ≤ s_)∧(Q ≠ s_)∧(s_ ≠ Q)∧(R ≠ s_)∧(s_ ≠ R)∧(T ≠ s_)∧(s_ ≠ T)∧(J ≠ s_)∧(s_ ≠ J)∧(L ≠ s_)∧(s_ ≠ L)∧(O ≠ s_)∧(s_ ≠ O)∧(Below w.heap.size w w')) ?_ ?_;rotate_left
          ·
           intro X6;refine join_ (σ:=Nat) 5 #[y_,y_,n_,y_,y_,n_,n_,y_,n_,n_] (fun s_=>[(11,.pointer (some ⟨s_,0,none⟩))]) (fun s_ w'=>(w'.cell? ⟨Q,0,none⟩=some (.int .i64 i8)∧w'.cell? ⟨Q,1,none⟩=some (.int .i64 e6)∧w'.cell? ⟨Q,2,none⟩=some (.int .i64 f9)∧w'.cell? ⟨Q,3,none⟩=some (.int .i64 g1)∧w'.cell? ⟨T,0,none⟩=some (.int .i64 g0)∧w'.cell? ⟨T,1,none⟩=some (.int .i64 g2)∧w'.cell? ⟨T,2,none⟩=some (.int .i64 g3)∧w'.cell? ⟨T,3,none⟩=some (.int .i64 g4)∧w'.cell? ⟨R,0,none⟩=some (.int .i64 g5)∧w'.cell? ⟨R,1,none⟩=some (.int .i64 g6)∧w'.cell? ⟨R,2,none⟩=some (.int .i64 h0)∧w'.cell? ⟨R,3,none⟩=some (.int .i64 h2))∧(Q4_ w' Q i8 e6 f9 g1 23)∧(Q4_ w' R g5 g6 h0 h2 23)∧(Q4_ w' T g0 g2 g3 g4 23)∧(Q4_ w' s_ 0 0 0 0 23)∧(w'.heap[J]?=some (.cells #[.int .i16 e7,.int .i16 e8,.int .i16 e9,.int .i16 f0] 47 (0,0)))∧(w'.heap[L]?=some (.cells #[.int .i16 f1,.int .i16 f2,.int .i16 f3,.int .i16 f4] 47 (0,0)))∧(w'.heap[O]?=some (.cells #[.int .i16 f5,.int .i16 f6,.int .i16 f7,.int .i16 f8] 47 (0,0)))∧(w.heap.size ≤ s_)∧(w.heap.size ≤ s_)∧(Q ≠ s_)∧(s_ ≠ Q)∧(R ≠ s_)∧(s_ ≠ R)∧(T ≠ s_)∧(s_ ≠ T)∧(J ≠ s_)∧(s_ ≠ J)∧(L ≠ s_)∧(s_ ≠ L)∧(O ≠ s_)∧(s_ ≠ O)∧(Below w.heap.size w w')) ?_ ?_;rotate_left
           ·
            intro X7;refine three_ (i:=2) (j:=6) (k:=7) (Ni:=some 26) (Nj:=some 10) (Nk:=some 11) #[y_,y_,y_,y_,y_,n_,n_,n_,n_,n_] #[y_,y_,n_,y_,y_,n_,y_,n_,n_,n_] #[y_,y_,n_,y_,y_,n_,n_,y_,n_,n_] rfl rfl rfl rfl rfl rfl (three_of j9.1 (by kernel_rfl)) (by decide) (by decide) (by decide) (fun K hK=>?_) (fun K hK=>?_) (fun K hK=>?_)
            ·
             skip
             refine goes_ Try.func33 (by kernel_rfl) rfl #[.agg #[.int .i64 i8,.int .i64 e6,.int .i64 f9,.int .i64 g1],.agg #[.int .i64 g0,.int .i64 g2,.int .i64 g3,.int .i64 g4]] (by rfl) rfl rfl (by (try simp only [m0_,m1_,m2_]);first|done|rfl|(simp only [l0_,l1_];rfl)) ?_;with_reducible refine (bellpullref04_Mul.calls i8 e6 f9 g1 g0 g2 g3 g4 h1 h3 h8 h9 _ A7.1).mono ?_
             rintro e Am ⟨rfl,hb⟩;refine ⟨_,rfl,?_⟩;replace B:=bkb B hb;replace C:=bkb C hb;replace D:=bkb D hb;replace F:=bkb F hb;replace G:=bkb G hb;replace E:=bkb E hb;replace U:=bst U hb;(try clear hb);refine hK.out _ _ ⟨q0_ F,q1_ F,q2_ F,q3_ F,q0_ E,q1_ E,q2_ E,q3_ E,q0_ G,q1_ G,q2_ G,q3_ G⟩ (fun I=>?_);clear hK K;refine norm_ (a':=?_) ?_ ?_;rotate_left
             ·
              show Act.put _ (some 26) _=_;simp only [Act.put,s0_,s1_,s2_,i64_w,i32_w];rfl
             exact norm_ (by simp only [putAll,Act.put,s0_,s1_,s2_] <;> rfl) (Fn () _ ⟨I,F.1,G.1,E.1,B.1,C.1,D.1,U.1⟩)
            ·
             skip
             refine box_step ?hg (N:=10) ?hd (cs:=#[.int .i64 0,.int .i64 0,.int .i64 0,.int .i64 0]) (t:=23) ?hr ?_;(case hd=>rfl);(case hg=>rfl);(case hr=>first|(go_simp;done)|(go_simp;rfl));intro l0 hg Am a7 hb;have V:=mk0 (a7);have l6:=szw hg U;have l1:=szw hg U;have h4:=nlt hg B;have i0:=ngt hg B;have h5:=nlt hg C;have i1:=ngt hg C;have h6:=nlt hg D;have i2:=ngt hg D;have e0:=nlt hg F;have g7:=ngt hg F;have e1:=nlt hg G;have g8:=ngt hg G;have e2:=nlt hg E;have g9:=ngt hg E;replace B:=bkb B hb;replace C:=bkb C hb;replace D:=bkb D hb;replace F:=bkb F hb;replace G:=bkb G hb;replace E:=bkb E hb;replace U:=bst U hb;clear hb a7 hg;refine hK.out _ _ ⟨q0_ F,q1_ F,q2_ F,q3_ F,q0_ E,q1_ E,q2_ E,q3_ E,q0_ G,q1_ G,q2_ G,q3_ G⟩ (fun I=>?_);clear hK K;refine norm_ (a':=?_) ?_ ?_;rotate_left
             ·
              show Act.put _ (some 10) _=_;simp only [Act.put,s0_,s1_,s2_,i64_w,i32_w];rfl
             exact norm_ (by simp only [putAll,Act.put,s0_,s1_,s2_] <;> rfl) (X6 (l0) _ ⟨I,F.1,G.1,E.1,V.1,B.1,C.1,D.1,l6.1,l1.1,e0.1,g7.1,e1.1,g8.1,e2.1,g9.1,h4.1,i0.1,h5.1,i1.1,h6.1,i2.1,U.1⟩)
            ·
             skip
             refine box_step ?hg (N:=11) ?hd (cs:=#[.int .i64 0,.int .i64 0,.int .i64 0,.int .i64 0]) (t:=23) ?hr ?_;(case hd=>rfl);(case hg=>rfl);(case hr=>first|(go_simp;done)|(go_simp;rfl));intro l3 hg Am a7 hb;have a3:=mk0 (a7);have l7:=szw hg U;have l2:=szw hg U;have i3:=nlt hg B;have j3:=ngt hg B;have i4:=nlt hg C;have j4:=ngt hg C;have i5:=nlt hg D;have j5:=ngt hg D;have e3:=nlt hg F;have h7:=ngt hg F;have e4:=nlt hg G;have i6:=ngt hg G;have e5:=nlt hg E;have i7:=ngt hg E;replace B:=bkb B hb;replace C:=bkb C hb;replace D:=bkb D hb;replace F:=bkb F hb;replace G:=bkb G hb;replace E:=bkb E hb;replace U:=bst U hb;clear hb a7 hg;refine hK.out _ _ ⟨q0_ F,q1_ F,q2_ F,q3_ F,q0_ E,q1_ E,q2_ E,q3_ E,q0_ G,q1_ G,q2_ G,q3_ G⟩ (fun I=>?_);clear hK K;refine norm_ (a':=?_) ?_ ?_;rotate_left
             ·
              show Act.put _ (some 11) _=_;simp only [Act.put,s0_,s1_,s2_,i64_w,i32_w];rfl
             exact norm_ (by simp only [putAll,Act.put,s0_,s1_,s2_] <;> rfl) (X7 (l3) _ ⟨I,F.1,G.1,E.1,a3.1,B.1,C.1,D.1,l7.1,l2.1,e3.1,h7.1,e4.1,i6.1,e5.1,i7.1,i3.1,j3.1,i4.1,j4.1,i5.1,j5.1,U.1⟩)
           ·
            skip
            clear B C D F G E U;rintro l3 An d2;replace d2:=h_ (m4_ (m4_ (m4_ (m4_ (m4_ (m_ l_)))))) d2;obtain ⟨j8,F,G,E,a3,B,C,D,l7,l2,e3,h7,e4,i6,e5,i7,i3,j3,i4,j4,i5,j5,U⟩:=d2;have I:=j8;refine norm_ (a':=?_) ?_ ?_;rotate_left
            ·
             simp only [putAll,Act.put,s0_,s1_,s2_];rfl
            refine two_ (i:=2) (j:=6) (Ni:=some 26) (Nj:=some 10) #[y_,y_,y_,y_,y_,n_,n_,y_,n_,n_] #[y_,y_,n_,y_,y_,n_,y_,y_,n_,n_] rfl rfl rfl rfl (two_of j9.1 (by kernel_rfl)) (by decide) (by decide) (fun K hK=>?_) (fun K hK=>?_)
            ·
             skip
             refine goes_ Try.func33 (by kernel_rfl) rfl #[.agg #[.int .i64 i8,.int .i64 e6,.int .i64 f9,.int .i64 g1],.agg #[.int .i64 g0,.int .i64 g2,.int .i64 g3,.int .i64 g4]] (by rfl) rfl rfl (by (try simp only [m0_,m1_,m2_]);first|done|rfl|(simp only [l0_,l1_];rfl)) ?_;with_reducible refine (bellpullref04_Mul.calls i8 e6 f9 g1 g0 g2 g3 g4 h1 h3 h8 h9 _ A7.1).mono ?_
             rintro e r5 ⟨rfl,hb⟩;refine ⟨_,rfl,?_⟩;replace B:=bkb B hb;replace C:=bkb C hb;replace D:=bkb D hb;replace F:=bkb F hb;replace G:=bkb G hb;replace E:=bkb E hb;replace a3:=bkb a3 hb;replace U:=bst U hb;(try clear hb);refine hK.out _ _ ⟨q0_ F,q1_ F,q2_ F,q3_ F,q0_ E,q1_ E,q2_ E,q3_ E,q0_ G,q1_ G,q2_ G,q3_ G⟩ (fun I=>?_);clear hK K;refine norm_ (a':=?_) ?_ ?_;rotate_left
             ·
              show Act.put _ (some 26) _=_;simp only [Act.put,s0_,s1_,s2_,i64_w,i32_w];rfl
             exact norm_ (by simp only [putAll,Act.put,s0_,s1_,s2_] <;> rfl) (T2 (l3) _ ⟨I,F.1,G.1,E.1,a3.1,B.1,C.1,D.1,l7.1,l2.1,e3.1,h7.1,e4.1,i6.1,e5.1,i7.1,i3.1,j3.1,i4.1,j4.1,i5.1,j5.1,U.1⟩)
            ·
             skip
             refine box_step ?hg (N:=10) ?hd (cs:=#[.int .i64 0,.int .i64 0,.int .i64 0,.int .i64 0]) (t:=23) ?hr ?_;(case hd=>rfl);(case hg=>rfl);(case hr=>first|(go_simp;done)|(go_simp;rfl));intro l0 hg r5 a7 hb;have V:=mk0 (a7);have l6:=szw hg U;have l1:=szw hg U;have h4:=nlt hg B;have i0:=ngt hg B;have h5:=nlt hg C;have i1:=ngt hg C;have h6:=nlt hg D;have i2:=ngt hg D;have e0:=nlt hg F;have g7:=ngt hg F;have e1:=nlt hg G;have g8:=ngt hg G;have e2:=nlt hg E;have g9:=ngt hg E;have j6:=nlt hg a3;have j2:=ngt hg a3;replace B:=bkb B hb;replace C:=bkb C hb;replace D:=bkb D hb;replace F:=bkb F hb;replace G:=bkb G hb;replace E:=bkb E hb;replace a3:=bkb a3 hb;replace U:=bst U hb;clear hb a7 hg;refine hK.out _ _ ⟨q0_ F,q1_ F,q2_ F,q3_ F,q0_ E,q1_ E,q2_ E,q3_ E,q0_ G,q1_ G,q2_ G,q3_ G⟩ (fun I=>?_);clear hK K;refine norm_ (a':=?_) ?_ ?_;rotate_left
             ·
              show Act.put _ (some 10) _=_;simp only [Act.put,s0_,s1_,s2_,i64_w,i32_w];rfl
             exact norm_ (by simp only [putAll,Act.put,s0_,s1_,s2_] <;> rfl) (u2 (l0,l3) _ ⟨I,F.1,G.1,E.1,V.1,a3.1,B.1,C.1,D.1,l6.1,l1.1,e0.1,g7.1,e1.1,g8.1,e2.1,g9.1,j6.1,j2.1,h4.1,i0.1,h5.1,i1.1,h6.1,i2.1,l7.1,l2.1,e3.1,h7.1,e4.1,i6.1,e5.1,i7.1,i3.1,j3.1,i4.1,j4.1,i5.1,j5.1,U.1⟩)
          ·
           skip
           clear B C D F G E U;rintro l0 An d2;replace d2:=h_ (m4_ (m4_ (m4_ (m4_ (m4_ (m_ l_)))))) d2;obtain ⟨j8,F,G,E,V,B,C,D,l6,l1,e0,g7,e1,g8,e2,g9,h4,i0,h5,i1,h6,i2,U⟩:=d2;have I:=j8;refine norm_ (a':=?_) ?_ ?_;rotate_left
           ·
            simp only [putAll,Act.put,s0_,s1_,s2_];rfl
           refine two_ (i:=2) (j:=7) (Ni:=some 26) (Nj:=some 11) #[y_,y_,y_,y_,y_,n_,y_,n_,n_,n_] #[y_,y_,n_,y_,y_,n_,y_,y_,n_,n_] rfl rfl rfl rfl (two_of j9.1 (by kernel_rfl)) (by decide) (by decide) (fun K hK=>?_) (fun K hK=>?_)
           ·
            skip
            refine goes_ Try.func33 (by kernel_rfl) rfl #[.agg #[.int .i64 i8,.int .i64 e6,.int .i64 f9,.int .i64 g1],.agg #[.int .i64 g0,.int .i64 g2,.int .i64 g3,.int .i64 g4]] (by rfl) rfl rfl (by (try simp only [m0_,m1_,m2_]);first|done|rfl|(simp only [l0_,l1_];rfl)) ?_;with_reducible refine (bellpullref04_Mul.calls i8 e6 f9 g1 g0 g2 g3 g4 h1 h3 h8 h9 _ A7.1).mono ?_
            rintro e r5 ⟨rfl,hb⟩;refine ⟨_,rfl,?_⟩;replace B:=bkb B hb;replace C:=bkb C hb;replace D:=bkb D hb;replace F:=bkb F hb;replace G:=bkb G hb;replace E:=bkb E hb;replace V:=bkb V hb;replace U:=bst U hb;(try clear hb);refine hK.out _ _ ⟨q0_ F,q1_ F,q2_ F,q3_ F,q0_ E,q1_ E,q2_ E,q3_ E,q0_ G,q1_ G,q2_ G,q3_ G⟩ (fun I=>?_);clear hK K;refine norm_ (a':=?_) ?_ ?_;rotate_left
            ·
             show Act.put _ (some 26) _=_;simp only [Act.put,s0_,s1_,s2_,i64_w,i32_w];rfl
            exact norm_ (by simp only [putAll,Act.put,s0_,s1_,s2_] <;> rfl) (T1 (l0) _ ⟨I,F.1,G.1,E.1,V.1,B.1,C.1,D.1,l6.1,l1.1,e0.1,g7.1,e1.1,g8.1,e2.1,g9.1,h4.1,i0.1,h5.1,i1.1,h6.1,i2.1,U.1⟩)
           ·
            skip
            refine box_step ?hg (N:=11) ?hd (cs:=#[.int .i64 0,.int .i64 0,.int .i64 0,.int .i64 0]) (t:=23) ?hr ?_;(case hd=>rfl);(case hg=>rfl);(case hr=>first|(go_simp;done)|(go_simp;rfl));intro l3 hg r5 a7 hb;have a3:=mk0 (a7);have l7:=szw hg U;have l2:=szw hg U;have i3:=nlt hg B;have j3:=ngt hg B;have i4:=nlt hg C;have j4:=ngt hg C;have i5:=nlt hg D;have j5:=ngt hg D;have e3:=nlt hg F;have h7:=ngt hg F;have e4:=nlt hg G;have i6:=ngt hg G;have e5:=nlt hg E;have i7:=ngt hg E;have j2:=nlt hg V;have j6:=ngt hg V;replace B:=bkb B hb;replace C:=bkb C hb;replace D:=bkb D hb;replace F:=bkb F hb;replace G:=bkb G hb;replace E:=bkb E hb;replace V:=bkb V hb;replace U:=bst U hb;clear hb a7 hg;refine hK.out _ _ ⟨q0_ F,q1_ F,q2_ F,q3_ F,q0_ E,q1_ E,q2_ E,q3_ E,q0_ G,q1_ G,q2_ G,q3_ G⟩ (fun I=>?_);clear hK K;refine norm_ (a':=?_) ?_ ?_;rotate_left
            ·
             show Act.put _ (some 11) _=_;simp only [Act.put,s0_,s1_,s2_,i64_w,i32_w];rfl
            exact norm_ (by simp only [putAll,Act.put,s0_,s1_,s2_] <;> rfl) (u2 (l0,l3) _ ⟨I,F.1,G.1,E.1,V.1,a3.1,B.1,C.1,D.1,l6.1,l1.1,e0.1,g7.1,e1.1,g8.1,e2.1,g9.1,j6.1,j2.1,h4.1,i0.1,h5.1,i1.1,h6.1,i2.1,l7.1,l2.1,e3.1,h7.1,e4.1,i6.1,e5.1,i7.1,i3.1,j3.1,i4.1,j4.1,i5.1,j5.1,U.1⟩)
         ·
          skip
          clear B C D F G E U;rintro _ An d2;replace d2:=h_ (m4_ (m_ (m_ l_))) d2;obtain ⟨j8,F,G,E,B,C,D,U⟩:=d2;have I:=j8;refine norm_ (a':=?_) ?_ ?_;rotate_left
          ·
           simp only [putAll,Act.put,s0_,s1_,s2_];rfl
          refine three_ (i:=5) (j:=6) (k:=7) (Ni:=some 29) (Nj:=some 10) (Nk:=some 11) #[y_,y_,y_,y_,y_,y_,n_,n_,n_,n_] #[y_,y_,y_,y_,y_,n_,y_,n_,n_,n_] #[y_,y_,y_,y_,y_,n_,n_,y_,n_,n_] rfl rfl rfl rfl rfl rfl (three_of j9.1 (by kernel_rfl)) (by decide) (by decide) (by decide) (fun K hK=>?_) (fun K hK=>?_) (fun K hK=>?_)
          ·
           skip
           refine goes_ Try.func33 (by kernel_rfl) rfl #[.agg #[.int .i64 g5,.int .i64 g6,.int .i64 h0,.int .i64 h2],.agg #[.int .i64 g0,.int .i64 g2,.int .i64 g3,.int .i64 g4]] (by rfl) rfl rfl (by (try simp only [m0_,m1_,m2_]);first|done|rfl|(simp only [l0_,l1_];rfl)) ?_;with_reducible refine (bellpullref04_Mul.calls g5 g6 h0 h2 g0 g2 g3 g4 l4 l5 l8 l9 _ A8.1).mono ?_
           rintro e r5 ⟨rfl,hb⟩;refine ⟨_,rfl,?_⟩;replace B:=bkb B hb;replace C:=bkb C hb;replace D:=bkb D hb;replace F:=bkb F hb;replace G:=bkb G hb;replace E:=bkb E hb;replace U:=bst U hb;(try clear hb);refine hK.out _ _ ⟨q0_ F,q1_ F,q2_ F,q3_ F,q0_ E,q1_ E,q2_ E,q3_ E,q0_ G,q1_ G,q2_ G,q3_ G⟩ (fun I=>?_);clear hK K;refine norm_ (a':=?_) ?_ ?_;rotate_left
           ·
            show Act.put _ (some 29) _=_;simp only [Act.put,s0_,s1_,s2_,i64_w,i32_w];rfl
           exact norm_ (by simp only [putAll,Act.put,s0_,s1_,s2_] <;> rfl) (Z8 () _ ⟨I,F.1,G.1,E.1,B.1,C.1,D.1,U.1⟩)
          ·
           skip
           refine box_step ?hg (N:=10) ?hd (cs:=#[.int .i64 0,.int .i64 0,.int .i64 0,.int .i64 0]) (t:=23) ?hr ?_;(case hd=>rfl);(case hg=>rfl);(case hr=>first|(go_simp;done)|(go_simp;rfl));intro l0 hg r5 a7 hb;have V:=mk0 (a7);have l6:=szw hg U;have l1:=szw hg U;have h4:=nlt hg B;have i0:=ngt hg B;have h5:=nlt hg C;have i1:=ngt hg C;have h6:=nlt hg D;have i2:=ngt hg D;have e0:=nlt hg F;have g7:=ngt hg F;have e1:=nlt hg G;have g8:=ngt hg G;have e2:=nlt hg E;have g9:=ngt hg E;replace B:=bkb B hb;replace C:=bkb C hb;replace D:=bkb D hb;replace F:=bkb F hb;replace G:=bkb G hb;replace E:=bkb E hb;replace U:=bst U hb;clear hb a7 hg;refine hK.out _ _ ⟨q0_ F,q1_ F,q2_ F,q3_ F,q0_ E,q1_ E,q2_ E,q3_ E,q0_ G,q1_ G,q2_ G,q3_ G⟩ (fun I=>?_);clear hK K;refine norm_ (a':=?_) ?_ ?_;rotate_left
           ·
            show Act.put _ (some 10) _=_;simp only [Act.put,s0_,s1_,s2_,i64_w,i32_w];rfl
           exact norm_ (by simp only [putAll,Act.put,s0_,s1_,s2_] <;> rfl) (T1 (l0) _ ⟨I,F.1,G.1,E.1,V.1,B.1,C.1,D.1,l6.1,l1.1,e0.1,g7.1,e1.1,g8.1,e2.1,g9.1,h4.1,i0.1,h5.1,i1.1,h6.1,i2.1,U.1⟩)
          ·
           skip
           refine box_step ?hg (N:=11) ?hd (cs:=#[.int .i64 0,.int .i64 0,.int .i64 0,.int .i64 0]) (t:=23) ?hr ?_;(case hd=>rfl);(case hg=>rfl);(case hr=>first|(go_simp;done)|(go_simp;rfl));intro l3 hg r5 a7 hb;have a3:=mk0 (a7);have l7:=szw hg U;have l2:=szw hg U;have i3:=nlt hg B;have j3:=ngt hg B;have i4:=nlt hg C;have j4:=ngt hg C;have i5:=nlt hg D;have j5:=ngt hg D;have e3:=nlt hg F;have h7:=ngt hg F;have e4:=nlt hg G;have i6:=ngt hg G;have e5:=nlt hg E;have i7:=ngt hg E;replace B:=bkb B hb;replace C:=bkb C hb;replace D:=bkb D hb;replace F:=bkb F hb;replace G:=bkb G hb;replace E:=bkb E hb;replace U:=bst U hb;clear hb a7 hg;refine hK.out _ _ ⟨q0_ F,q1_ F,q2_ F,q3_ F,q0_ E,q1_ E,q2_ E,q3_ E,q0_ G,q1_ G,q2_ G,q3_ G⟩ (fun I=>?_);clear hK K;refine norm_ (a':=?_) ?_ ?_;rotate_left
           ·
            show Act.put _ (some 11) _=_;simp only [Act.put,s0_,s1_,s2_,i64_w,i32_w];rfl
           exact norm_ (by simp only [putAll,Act.put,s0_,s1_,s2_] <;> rfl) (T2 (l3) _ ⟨I,F.1,G.1,E.1,a3.1,B.1,C.1,D.1,l7.1,l2.1,e3.1,h7.1,e4.1,i6.1,e5.1,i7.1,i3.1,j3.1,i4.1,j4.1,i5.1,j5.1,U.1⟩)
        ·
         skip
         clear B C D F G E U;rintro ⟨l0,l3⟩ r5 d2;(try dsimp only at d2);replace d2:=h_ (m4_ (m4_ (m4_ (m4_ (m4_ (m4_ (m4_ (m4_ (m4_ (m_ (m_ l_))))))))))) d2;obtain ⟨j8,F,G,E,V,a3,B,C,D,l6,l1,e0,g7,e1,g8,e2,g9,j6,j2,h4,i0,h5,i1,h6,i2,l7,l2,e3,h7,e4,i6,e5,i7,i3,j3,i4,j4,i5,j5,U⟩:=d2;have I:=j8;refine norm_ (a':=?_) ?_ ?_;rotate_left
         ·
          simp only [putAll,Act.put,s0_,s1_,s2_];rfl
         refine one_ (i:=2) (N:=some 26) #[y_,y_,y_,y_,y_,n_,y_,y_,n_,n_] rfl rfl (one_of j9.1 (by kernel_rfl)) (by decide) (fun K hK=>?_);refine goes_ Try.func33 (by kernel_rfl) rfl #[.agg #[.int .i64 i8,.int .i64 e6,.int .i64 f9,.int .i64 g1],.agg #[.int .i64 g0,.int .i64 g2,.int .i64 g3,.int .i64 g4]] (by rfl) rfl rfl (by (try simp only [m0_,m1_,m2_]);first|done|rfl|(simp only [l0_,l1_];rfl)) ?_;with_reducible refine (bellpullref04_Mul.calls i8 e6 f9 g1 g0 g2 g3 g4 h1 h3 h8 h9 _ A7.1).mono ?_
         rintro e u3 ⟨rfl,hb⟩;refine ⟨_,rfl,?_⟩;replace B:=bkb B hb;replace C:=bkb C hb;replace D:=bkb D hb;replace F:=bkb F hb;replace G:=bkb G hb;replace E:=bkb E hb;replace V:=bkb V hb;replace a3:=bkb a3 hb;replace U:=bst U hb;(try clear hb);refine hK.out _ _ ⟨q0_ F,q1_ F,q2_ F,q3_ F,q0_ E,q1_ E,q2_ E,q3_ E,q0_ G,q1_ G,q2_ G,q3_ G⟩ (fun I=>?_);clear hK K;refine norm_ (a':=?_) ?_ ?_;rotate_left
         ·
          show Act.put _ (some 26) _=_;simp only [Act.put,s0_,s1_,s2_,i64_w,i32_w];rfl
         exact norm_ (by simp only [putAll,Act.put,s0_,s1_,s2_] <;> rfl) (x2 (l0,l3) _ ⟨I,F.1,G.1,E.1,V.1,a3.1,B.1,C.1,D.1,l6.1,l1.1,e0.1,g7.1,e1.1,g8.1,e2.1,g9.1,j6.1,j2.1,h4.1,i0.1,h5.1,i1.1,h6.1,i2.1,l7.1,l2.1,e3.1,h7.1,e4.1,i6.1,e5.1,i7.1,i3.1,j3.1,i4.1,j4.1,i5.1,j5.1,U.1⟩)
       ·
        skip
        clear B C D F G E U;rintro l3 r5 d2;replace d2:=h_ (m4_ (m4_ (m4_ (m4_ (m4_ (m_ l_)))))) d2;obtain ⟨j8,F,G,E,a3,B,C,D,l7,l2,e3,h7,e4,i6,e5,i7,i3,j3,i4,j4,i5,j5,U⟩:=d2;have I:=j8;refine norm_ (a':=?_) ?_ ?_;rotate_left
        ·
         simp only [putAll,Act.put,s0_,s1_,s2_];rfl
        refine two_ (i:=5) (j:=6) (Ni:=some 29) (Nj:=some 10) #[y_,y_,y_,y_,y_,y_,n_,y_,n_,n_] #[y_,y_,y_,y_,y_,n_,y_,y_,n_,n_] rfl rfl rfl rfl (two_of j9.1 (by kernel_rfl)) (by decide) (by decide) (fun K hK=>?_) (fun K hK=>?_)
        ·
         skip
         refine goes_ Try.func33 (by kernel_rfl) rfl #[.agg #[.int .i64 g5,.int .i64 g6,.int .i64 h0,.int .i64 h2],.agg #[.int .i64 g0,.int .i64 g2,.int .i64 g3,.int .i64 g4]] (by rfl) rfl rfl (by (try simp only [m0_,m1_,m2_]);first|done|rfl|(simp only [l0_,l1_];rfl)) ?_;with_reducible refine (bellpullref04_Mul.calls g5 g6 h0 h2 g0 g2 g3 g4 l4 l5 l8 l9 _ A8.1).mono ?_
         rintro e u3 ⟨rfl,hb⟩;refine ⟨_,rfl,?_⟩;replace B:=bkb B hb;replace C:=bkb C hb;replace D:=bkb D hb;replace F:=bkb F hb;replace G:=bkb G hb;replace E:=bkb E hb;replace a3:=bkb a3 hb;replace U:=bst U hb;(try clear hb);refine hK.out _ _ ⟨q0_ F,q1_ F,q2_ F,q3_ F,q0_ E,q1_ E,q2_ E,q3_ E,q0_ G,q1_ G,q2_ G,q3_ G⟩ (fun I=>?_);clear hK K;refine norm_ (a':=?_) ?_ ?_;rotate_left
         ·
          show Act.put _ (some 29) _=_;simp only [Act.put,s0_,s1_,s2_,i64_w,i32_w];rfl
         exact norm_ (by simp only [putAll,Act.put,s0_,s1_,s2_] <;> rfl) (C2 (l3) _ ⟨I,F.1,G.1,E.1,a3.1,B.1,C.1,D.1,l7.1,l2.1,e3.1,h7.1,e4.1,i6.1,e5.1,i7.1,i3.1,j3.1,i4.1,j4.1,i5.1,j5.1,U.1⟩)
        ·
         skip
         refine box_step ?hg (N:=10) ?hd (cs:=#[.int .i64 0,.int .i64 0,.int .i64 0,.int .i64 0]) (t:=23) ?hr ?_;(case hd=>rfl);(case hg=>rfl);(case hr=>first|(go_simp;done)|(go_simp;rfl));intro l0 hg u3 a7 hb;have V:=mk0 (a7);have l6:=szw hg U;have l1:=szw hg U;have h4:=nlt hg B;have i0:=ngt hg B;have h5:=nlt hg C;have i1:=ngt hg C;have h6:=nlt hg D;have i2:=ngt hg D;have e0:=nlt hg F;have g7:=ngt hg F;have e1:=nlt hg G;have g8:=ngt hg G;have e2:=nlt hg E;have g9:=ngt hg E;have j6:=nlt hg a3;have j2:=ngt hg a3;replace B:=bkb B hb;replace C:=bkb C hb;replace D:=bkb D hb;replace F:=bkb F hb;replace G:=bkb G hb;replace E:=bkb E hb;replace a3:=bkb a3 hb;replace U:=bst U hb;clear hb a7 hg;refine hK.out _ _ ⟨q0_ F,q1_ F,q2_ F,q3_ F,q0_ E,q1_ E,q2_ E,q3_ E,q0_ G,q1_ G,q2_ G,q3_ G⟩ (fun I=>?_);clear hK K;refine norm_ (a':=?_) ?_ ?_;rotate_left
         ·
          show Act.put _ (some 10) _=_;simp only [Act.put,s0_,s1_,s2_,i64_w,i32_w];rfl
         exact norm_ (by simp only [putAll,Act.put,s0_,s1_,s2_] <;> rfl) (x2 (l0,l3) _ ⟨I,F.1,G.1,E.1,V.1,a3.1,B.1,C.1,D.1,l6.1,l1.1,e0.1,g7.1,e1.1,g8.1,e2.1,g9.1,j6.1,j2.1,h4.1,i0.1,h5.1,i1.1,h6.1,i2.1,l7.1,l2.1,e3.1,h7.1,e4.1,i6.1,e5.1,i7.1,i3.1,j3.1,i4.1,j4.1,i5.1,j5.1,U.1⟩)
      ·
       skip
       clear B C D F G E U;rintro l0 r5 d2;replace d2:=h_ (m4_ (m4_ (m4_ (m4_ (m4_ (m_ l_)))))) d2;obtain ⟨j8,F,G,E,V,B,C,D,l6,l1,e0,g7,e1,g8,e2,g9,h4,i0,h5,i1,h6,i2,U⟩:=d2;have I:=j8;refine norm_ (a':=?_) ?_ ?_;rotate_left
       ·
        simp only [putAll,Act.put,s0_,s1_,s2_];rfl
       refine two_ (i:=5) (j:=7) (Ni:=some 29) (Nj:=some 11) #[y_,y_,y_,y_,y_,y_,y_,n_,n_,n_] #[y_,y_,y_,y_,y_,n_,y_,y_,n_,n_] rfl rfl rfl rfl (two_of j9.1 (by kernel_rfl)) (by decide) (by decide) (fun K hK=>?_) (fun K hK=>?_)
       ·
        skip
        refine goes_ Try.func33 (by kernel_rfl) rfl #[.agg #[.int .i64 g5,.int .i64 g6,.int .i64 h0,.int .i64 h2],.agg #[.int .i64 g0,.int .i64 g2,.int .i64 g3,.int .i64 g4]] (by rfl) rfl rfl (by (try simp only [m0_,m1_,m2_]);first|done|rfl|(simp only [l0_,l1_];rfl)) ?_;with_reducible refine (bellpullref04_Mul.calls g5 g6 h0 h2 g0 g2 g3 g4 l4 l5 l8 l9 _ A8.1).mono ?_
        rintro e u3 ⟨rfl,hb⟩;refine ⟨_,rfl,?_⟩;replace B:=bkb B hb;replace C:=bkb C hb;replace D:=bkb D hb;replace F:=bkb F hb;replace G:=bkb G hb;replace E:=bkb E hb;replace V:=bkb V hb;replace U:=bst U hb;(try clear hb);refine hK.out _ _ ⟨q0_ F,q1_ F,q2_ F,q3_ F,q0_ E,q1_ E,q2_ E,q3_ E,q0_ G,q1_ G,q2_ G,q3_ G⟩ (fun I=>?_);clear hK K;refine norm_ (a':=?_) ?_ ?_;rotate_left
        ·
         show Act.put _ (some 29) _=_;simp only [Act.put,s0_,s1_,s2_,i64_w,i32_w];rfl
        exact norm_ (by simp only [putAll,Act.put,s0_,s1_,s2_] <;> rfl) (C1 (l0) _ ⟨I,F.1,G.1,E.1,V.1,B.1,C.1,D.1,l6.1,l1.1,e0.1,g7.1,e1.1,g8.1,e2.1,g9.1,h4.1,i0.1,h5.1,i1.1,h6.1,i2.1,U.1⟩)
       ·
        skip
        refine box_step ?hg (N:=11) ?hd (cs:=#[.int .i64 0,.int .i64 0,.int .i64 0,.int .i64 0]) (t:=23) ?hr ?_;(case hd=>rfl);(case hg=>rfl);(case hr=>first|(go_simp;done)|(go_simp;rfl));intro l3 hg u3 a7 hb;have a3:=mk0 (a7);have l7:=szw hg U;have l2:=szw hg U;have i3:=nlt hg B;have j3:=ngt hg B;have i4:=nlt hg C;have j4:=ngt hg C;have i5:=nlt hg D;have j5:=ngt hg D;have e3:=nlt hg F;have h7:=ngt hg F;have e4:=nlt hg G;have i6:=ngt hg G;have e5:=nlt hg E;have i7:=ngt hg E;have j2:=nlt hg V;have j6:=ngt hg V;replace B:=bkb B hb;replace C:=bkb C hb;replace D:=bkb D hb;replace F:=bkb F hb;replace G:=bkb G hb;replace E:=bkb E hb;replace V:=bkb V hb;replace U:=bst U hb;clear hb a7 hg;refine hK.out _ _ ⟨q0_ F,q1_ F,q2_ F,q3_ F,q0_ E,q1_ E,q2_ E,q3_ E,q0_ G,q1_ G,q2_ G,q3_ G⟩ (fun I=>?_);clear hK K;refine norm_ (a':=?_) ?_ ?_;rotate_left
        ·
         show Act.put _ (some 11) _=_;simp only [Act.put,s0_,s1_,s2_,i64_w,i32_w];rfl
        exact norm_ (by simp only [putAll,Act.put,s0_,s1_,s2_] <;> rfl) (x2 (l0,l3) _ ⟨I,F.1,G.1,E.1,V.1,a3.1,B.1,C.1,D.1,l6.1,l1.1,e0.1,g7.1,e1.1,g8.1,e2.1,g9.1,j6.1,j2.1,h4.1,i0.1,h5.1,i1.1,h6.1,i2.1,l7.1,l2.1,e3.1,h7.1,e4.1,i6.1,e5.1,i7.1,i3.1,j3.1,i4.1,j4.1,i5.1,j5.1,U.1⟩)
     ·
      skip
      clear B C D F G E U;rintro _ r5 d2;replace d2:=h_ (m4_ (m_ (m_ l_))) d2;obtain ⟨j8,F,G,E,B,C,D,U⟩:=d2;have I:=j8;refine norm_ (a':=?_) ?_ ?_;rotate_left
      ·
       simp only [putAll,Act.put,s0_,s1_,s2_];rfl
      refine two_ (i:=6) (j:=7) (Ni:=some 10) (Nj:=some 11) #[y_,y_,y_,y_,y_,y_,y_,n_,n_,n_] #[y_,y_,y_,y_,y_,y_,n_,y_,n_,n_] rfl rfl rfl rfl (two_of j9.1 (by kernel_rfl)) (by decide) (by decide) (fun K hK=>?_) (fun K hK=>?_)
      ·
       skip
       refine box_step ?hg (N:=10) ?hd (cs:=#[.int .i64 0,.int .i64 0,.int .i64 0,.int .i64 0]) (t:=23) ?hr ?_;(case hd=>rfl);(case hg=>rfl);(case hr=>first|(go_simp;done)|(go_simp;rfl));intro l0 hg u3 a7 hb;have V:=mk0 (a7);have l6:=szw hg U;have l1:=szw hg U;have h4:=nlt hg B;have i0:=ngt hg B;have h5:=nlt hg C;have i1:=ngt hg C;have h6:=nlt hg D;have i2:=ngt hg D;have e0:=nlt hg F;have g7:=ngt hg F;have e1:=nlt hg G;have g8:=ngt hg G;have e2:=nlt hg E;have g9:=ngt hg E;replace B:=bkb B hb;replace C:=bkb C hb;replace D:=bkb D hb;replace F:=bkb F hb;replace G:=bkb G hb;replace E:=bkb E hb;replace U:=bst U hb;clear hb a7 hg;refine hK.out _ _ ⟨q0_ F,q1_ F,q2_ F,q3_ F,q0_ E,q1_ E,q2_ E,q3_ E,q0_ G,q1_ G,q2_ G,q3_ G⟩ (fun I=>?_);clear hK K;refine norm_ (a':=?_) ?_ ?_;rotate_left
       ·
        show Act.put _ (some 10) _=_;simp only [Act.put,s0_,s1_,s2_,i64_w,i32_w];rfl
       exact norm_ (by simp only [putAll,Act.put,s0_,s1_,s2_] <;> rfl) (C1 (l0) _ ⟨I,F.1,G.1,E.1,V.1,B.1,C.1,D.1,l6.1,l1.1,e0.1,g7.1,e1.1,g8.1,e2.1,g9.1,h4.1,i0.1,h5.1,i1.1,h6.1,i2.1,U.1⟩)
      ·
       skip
       refine box_step ?hg (N:=11) ?hd (cs:=#[.int .i64 0,.int .i64 0,.int .i64 0,.int .i64 0]) (t:=23) ?hr ?_;(case hd=>rfl);(case hg=>rfl);(case hr=>first|(go_simp;done)|(go_simp;rfl));intro l3 hg u3 a7 hb;have a3:=mk0 (a7);have l7:=szw hg U;have l2:=szw hg U;have i3:=nlt hg B;have j3:=ngt hg B;have i4:=nlt hg C;have j4:=ngt hg C;have i5:=nlt hg D;have j5:=ngt hg D;have e3:=nlt hg F;have h7:=ngt hg F;have e4:=nlt hg G;have i6:=ngt hg G;have e5:=nlt hg E;have i7:=ngt hg E;replace B:=bkb B hb;replace C:=bkb C hb;replace D:=bkb D hb;replace F:=bkb F hb;replace G:=bkb G hb;replace E:=bkb E hb;replace U:=bst U hb;clear hb a7 hg;refine hK.out _ _ ⟨q0_ F,q1_ F,q2_ F,q3_ F,q0_ E,q1_ E,q2_ E,q3_ E,q0_ G,q1_ G,q2_ G,q3_ G⟩ (fun I=>?_);clear hK K;refine norm_ (a':=?_) ?_ ?_;rotate_left
       ·
        show Act.put _ (some 11) _=_;simp only [Act.put,s0_,s1_,s2_,i64_w,i32_w];rfl
       exact norm_ (by simp only [putAll,Act.put,s0_,s1_,s2_] <;> rfl) (C2 (l3) _ ⟨I,F.1,G.1,E.1,a3.1,B.1,C.1,D.1,l7.1,l2.1,e3.1,h7.1,e4.1,i6.1,e5.1,i7.1,i3.1,j3.1,i4.1,j4.1,i5.1,j5.1,U.1⟩)
    ·
     skip
     clear B C D F G E U;rintro ⟨l0,l3⟩ u3 d2;(try dsimp only at d2);replace d2:=h_ (m4_ (m4_ (m4_ (m4_ (m4_ (m4_ (m4_ (m4_ (m4_ (m_ (m_ l_))))))))))) d2;obtain ⟨j8,F,G,E,V,a3,B,C,D,l6,l1,e0,g7,e1,g8,e2,g9,j6,j2,h4,i0,h5,i1,h6,i2,l7,l2,e3,h7,e4,i6,e5,i7,i3,j3,i4,j4,i5,j5,U⟩:=d2;have I:=j8;refine norm_ (a':=?_) ?_ ?_;rotate_left
     ·
      simp only [putAll,Act.put,s0_,s1_,s2_];rfl
     refine one_ (i:=5) (N:=some 29) #[y_,y_,y_,y_,y_,y_,y_,y_,n_,n_] rfl rfl (one_of j9.1 (by kernel_rfl)) (by decide) (fun K hK=>?_);refine goes_ Try.func33 (by kernel_rfl) rfl #[.agg #[.int .i64 g5,.int .i64 g6,.int .i64 h0,.int .i64 h2],.agg #[.int .i64 g0,.int .i64 g2,.int .i64 g3,.int .i64 g4]] (by rfl) rfl rfl (by (try simp only [m0_,m1_,m2_]);first|done|rfl|(simp only [l0_,l1_];rfl)) ?_;with_reducible refine (bellpullref04_Mul.calls g5 g6 h0 h2 g0 g2 g3 g4 l4 l5 l8 l9 _ A8.1).mono ?_
     rintro e Y0 ⟨rfl,hb⟩;refine ⟨_,rfl,?_⟩;replace B:=bkb B hb;replace C:=bkb C hb;replace D:=bkb D hb;replace F:=bkb F hb;replace G:=bkb G hb;replace E:=bkb E hb;replace V:=bkb V hb;replace a3:=bkb a3 hb;replace U:=bst U hb;(try clear hb);refine hK.out _ _ ⟨q0_ F,q1_ F,q2_ F,q3_ F,q0_ E,q1_ E,q2_ E,q3_ E,q0_ G,q1_ G,q2_ G,q3_ G⟩ (fun I=>?_);clear hK K;refine norm_ (a':=?_) ?_ ?_;rotate_left
     ·
      show Act.put _ (some 29) _=_;simp only [Act.put,s0_,s1_,s2_,i64_w,i32_w];rfl
     exact norm_ (by simp only [putAll,Act.put,s0_,s1_,s2_] <;> rfl) (r0 (l0,l3) _ ⟨I,F.1,G.1,E.1,V.1,a3.1,B.1,C.1,D.1,l6.1,l1.1,e0.1,g7.1,e1.1,g8.1,e2.1,g9.1,j6.1,j2.1,h4.1,i0.1,h5.1,i1.1,h6.1,i2.1,l7.1,l2.1,e3.1,h7.1,e4.1,i6.1,e5.1,i7.1,i3.1,j3.1,i4.1,j4.1,i5.1,j5.1,U.1⟩)
   ·
    skip
    clear B C D F G E U;rintro l3 u3 d2;replace d2:=h_ (m4_ (m4_ (m4_ (m4_ (m4_ (m_ l_)))))) d2;obtain ⟨j8,F,G,E,a3,B,C,D,l7,l2,e3,h7,e4,i6,e5,i7,i3,j3,i4,j4,i5,j5,U⟩:=d2;have I:=j8;refine norm_ (a':=?_) ?_ ?_;rotate_left
    ·
     simp only [putAll,Act.put,s0_,s1_,s2_];rfl
    refine one_ (i:=6) (N:=some 10) #[y_,y_,y_,y_,y_,y_,y_,y_,n_,n_] rfl rfl (one_of j9.1 (by kernel_rfl)) (by decide) (fun K hK=>?_);refine box_step ?hg (N:=10) ?hd (cs:=#[.int .i64 0,.int .i64 0,.int .i64 0,.int .i64 0]) (t:=23) ?hr ?_;(case hd=>rfl);(case hg=>rfl);(case hr=>first|(go_simp;done)|(go_simp;rfl));intro l0 hg Y0 a7 hb;have V:=mk0 (a7);have l6:=szw hg U;have l1:=szw hg U;have h4:=nlt hg B;have i0:=ngt hg B;have h5:=nlt hg C;have i1:=ngt hg C;have h6:=nlt hg D;have i2:=ngt hg D;have e0:=nlt hg F;have g7:=ngt hg F;have e1:=nlt hg G;have g8:=ngt hg G;have e2:=nlt hg E;have g9:=ngt hg E;have j6:=nlt hg a3;have j2:=ngt hg a3;replace B:=bkb B hb;replace C:=bkb C hb;replace D:=bkb D hb;replace F:=bkb F hb;replace G:=bkb G hb;replace E:=bkb E hb;replace a3:=bkb a3 hb;replace U:=bst U hb;clear hb a7 hg;refine hK.out _ _ ⟨q0_ F,q1_ F,q2_ F,q3_ F,q0_ E,q1_ E,q2_ E,q3_ E,q0_ G,q1_ G,q2_ G,q3_ G⟩ (fun I=>?_);clear hK K;refine norm_ (a':=?_) ?_ ?_;rotate_left
    ·
     show Act.put _ (some 10) _=_;simp only [Act.put,s0_,s1_,s2_,i64_w,i32_w];rfl
    exact norm_ (by simp only [putAll,Act.put,s0_,s1_,s2_] <;> rfl) (r0 (l0,l3) _ ⟨I,F.1,G.1,E.1,V.1,a3.1,B.1,C.1,D.1,l6.1,l1.1,e0.1,g7.1,e1.1,g8.1,e2.1,g9.1,j6.1,j2.1,h4.1,i0.1,h5.1,i1.1,h6.1,i2.1,l7.1,l2.1,e3.1,h7.1,e4.1,i6.1,e5.1,i7.1,i3.1,j3.1,i4.1,j4.1,i5.1,j5.1,U.1⟩)
  ·
   skip
   clear B C D F G E U;rintro l0 u3 d2;replace d2:=h_ (m4_ (m4_ (m4_ (m4_ (m4_ (m_ l_)))))) d2;obtain ⟨j8,F,G,E,V,B,C,D,l6,l1,e0,g7,e1,g8,e2,g9,h4,i0,h5,i1,h6,i2,U⟩:=d2;have I:=j8;refine norm_ (a':=?_) ?_ ?_;rotate_left
   ·
    simp only [putAll,Act.put,s0_,s1_,s2_];rfl
   refine one_ (i:=7) (N:=some 11) #[y_,y_,y_,y_,y_,y_,y_,y_,n_,n_] rfl rfl (one_of j9.1 (by kernel_rfl)) (by decide) (fun K hK=>?_);refine box_step ?hg (N:=11) ?hd (cs:=#[.int .i64 0,.int .i64 0,.int .i64 0,.int .i64 0]) (t:=23) ?hr ?_;(case hd=>rfl);(case hg=>rfl);(case hr=>first|(go_simp;done)|(go_simp;rfl));intro l3 hg Y0 a7 hb;have a3:=mk0 (a7);have l7:=szw hg U;have l2:=szw hg U;have i3:=nlt hg B;have j3:=ngt hg B;have i4:=nlt hg C;have j4:=ngt hg C;have i5:=nlt hg D;have j5:=ngt hg D;have e3:=nlt hg F;have h7:=ngt hg F;have e4:=nlt hg G;have i6:=ngt hg G;have e5:=nlt hg E;have i7:=ngt hg E;have j2:=nlt hg V;have j6:=ngt hg V;replace B:=bkb B hb;replace C:=bkb C hb;replace D:=bkb D hb;replace F:=bkb F hb;replace G:=bkb G hb;replace E:=bkb E hb;replace V:=bkb V hb;replace U:=bst U hb;clear hb a7 hg;refine hK.out _ _ ⟨q0_ F,q1_ F,q2_ F,q3_ F,q0_ E,q1_ E,q2_ E,q3_ E,q0_ G,q1_ G,q2_ G,q3_ G⟩ (fun I=>?_);clear hK K;refine norm_ (a':=?_) ?_ ?_;rotate_left
   ·
    show Act.put _ (some 11) _=_;simp only [Act.put,s0_,s1_,s2_,i64_w,i32_w];rfl
   exact norm_ (by simp only [putAll,Act.put,s0_,s1_,s2_] <;> rfl) (r0 (l0,l3) _ ⟨I,F.1,G.1,E.1,V.1,a3.1,B.1,C.1,D.1,l6.1,l1.1,e0.1,g7.1,e1.1,g8.1,e2.1,g9.1,j6.1,j2.1,h4.1,i0.1,h5.1,i1.1,h6.1,i2.1,l7.1,l2.1,e3.1,h7.1,e4.1,i6.1,e5.1,i7.1,i3.1,j3.1,i4.1,j4.1,i5.1,j5.1,U.1⟩)
 clear B C D F G E U;rintro ⟨l0,l3⟩ Y0 d2;(try dsimp only at d2);replace d2:=h_ (m4_ (m4_ (m4_ (m4_ (m4_ (m4_ (m4_ (m4_ (m4_ (m_ (m_ l_))))))))))) d2;obtain ⟨j8,F,G,E,V,a3,B,C,D,l6,l1,e0,g7,e1,g8,e2,g9,j6,j2,h4,i0,h5,i1,h6,i2,l7,l2,e3,h7,e4,i6,e5,i7,i3,j3,i4,j4,i5,j5,U⟩:=d2;have I:=j8;refine norm_ (a':=?_) ?_ ?_;rotate_left
 ·
  simp only [putAll,Act.put,s0_,s1_,s2_];rfl
 refine one_ (i:=8) (N:=none) #[y_,y_,y_,y_,y_,y_,y_,y_,y_,n_] rfl rfl (one_of j9.1 (by kernel_rfl)) (by decide) (fun K hK=>?_);have Qd:=q0_ V;have Lw:=blk_frozen V.1 0;have Dw:=h4.1;have Dx:=h5.1;have Dy:=h6.1;have Dz:=e0.1;have Ea:=e1.1;have Eb:=e2.1;have Ec:=j6.1;have Ed:=i0.1;have Ee:=i1.1;have Ef:=i2.1;have Eg:=g7.1;have Eh:=g8.1;have Ei:=g9.1;have Ej:=j2.1;have Qe:=q1_ V;have Lx:=blk_frozen V.1 1;have Qf:=q2_ V;have Ly:=blk_frozen V.1 2;have Qg:=q3_ V;have Lz:=blk_frozen V.1 3;refine skip_ (w1:=?_) (by rfl) rfl ?_ ?_;rotate_left
 ·
  go_simp;rfl
 refine hK.out _ _ ⟨f4_ e0 I.1,f4_ e0 I.2.1,f4_ e0 I.2.2.1,f4_ e0 I.2.2.2.1,f4_ e2 I.2.2.2.2.1,f4_ e2 I.2.2.2.2.2.1,f4_ e2 I.2.2.2.2.2.2.1,f4_ e2 I.2.2.2.2.2.2.2.1,f4_ e1 I.2.2.2.2.2.2.2.2.1,f4_ e1 I.2.2.2.2.2.2.2.2.2.1,f4_ e1 I.2.2.2.2.2.2.2.2.2.2.1,f4_ e1 I.2.2.2.2.2.2.2.2.2.2.2⟩ (fun I=>?_);clear hK K Qd Lw Dw Dx Dy Dz Ea Eb Ec Ed Ee Ef Eg Eh Ei Ej Qe Lx Qf Ly Qg Lz;replace B:=bf4_ h1 h3 h8 h9 h4 B;replace C:=bf4_ h1 h3 h8 h9 h5 C;replace D:=bf4_ h1 h3 h8 h9 h6 D;replace F:=bf4_ h1 h3 h8 h9 e0 F;replace G:=bf4_ h1 h3 h8 h9 e1 G;replace E:=bf4_ h1 h3 h8 h9 e2 E;replace V:=bp4_ h1 h3 h8 h9 V;replace a3:=bf4_ h1 h3 h8 h9 j6 a3;replace U:=bl4_ (p:=l0) h1 h3 h8 h9 (by first|exact o1|exact o2|exact o3|exact d3|exact d4|exact d5|exact l1|exact l2) U;generalize ((((Y0.setCell ⟨l0,0,none⟩ (.int .i64 h1)).setCell ⟨l0,1,none⟩ (.int .i64 h3)).setCell ⟨l0,2,none⟩ (.int .i64 h8)).setCell ⟨l0,3,none⟩ (.int .i64 h9))=wq3_ at B C D F G E V a3 U I ⊢;refine one_ (i:=9) (N:=none) #[y_,y_,y_,y_,y_,y_,y_,y_,y_,y_] rfl rfl (one_of j9.1 (by kernel_rfl)) (by decide) (fun K hK=>?_);have Qh:=q0_ a3;have Ma:=blk_frozen a3.1 0;have Ek:=i3.1;have El:=i4.1;have Em:=i5.1;have En:=e3.1;have Eo:=e4.1;have Ep:=e5.1;have Eq:=j2.1;have Er:=j3.1;have Es:=j4.1;have Et:=j5.1;have Eu:=h7.1
 have Ev:=i6.1;have Ew:=i7.1;have Ex:=j6.1;have Qi:=q1_ a3;have Mb:=blk_frozen a3.1 1;have Ey:=i3.1;have Ez:=i4.1;have Fa:=i5.1;have Fb:=e3.1;have Fc:=e4.1;have Fd:=e5.1;have Fe:=j2.1;have Ff:=j3.1;have Fg:=j4.1;have Fh:=j5.1;have Fi:=h7.1;have Qj:=q2_ a3;have Mc:=blk_frozen a3.1 2;have Qk:=q3_ a3;have Md:=blk_frozen a3.1 3;refine skip_ (w1:=?_) (by rfl) rfl ?_ ?_;rotate_left
 ·
  go_simp;rfl
 refine hK.out _ _ ⟨f4_ e3 I.1,f4_ e3 I.2.1,f4_ e3 I.2.2.1,f4_ e3 I.2.2.2.1,f4_ e5 I.2.2.2.2.1,f4_ e5 I.2.2.2.2.2.1,f4_ e5 I.2.2.2.2.2.2.1,f4_ e5 I.2.2.2.2.2.2.2.1,f4_ e4 I.2.2.2.2.2.2.2.2.1,f4_ e4 I.2.2.2.2.2.2.2.2.2.1,f4_ e4 I.2.2.2.2.2.2.2.2.2.2.1,f4_ e4 I.2.2.2.2.2.2.2.2.2.2.2⟩ (fun I=>?_);clear hK K Qh Ma Ek El Em En Eo Ep Eq Er Es Et Eu Ev Ew Ex Qi Mb Ey Ez Fa Fb Fc Fd Fe Ff Fg Fh Fi Qj Mc Qk Md;replace B:=bf4_ l4 l5 l8 l9 i3 B;replace C:=bf4_ l4 l5 l8 l9 i4 C;replace D:=bf4_ l4 l5 l8 l9 i5 D;replace F:=bf4_ l4 l5 l8 l9 e3 F;replace G:=bf4_ l4 l5 l8 l9 e4 G;replace E:=bf4_ l4 l5 l8 l9 e5 E;replace V:=bf4_ l4 l5 l8 l9 j2 V;replace a3:=bp4_ l4 l5 l8 l9 a3;replace U:=bl4_ (p:=l3) l4 l5 l8 l9 (by first|exact o1|exact o2|exact o3|exact d3|exact d4|exact d5|exact l1|exact l2) U;generalize ((((wq3_.setCell ⟨l3,0,none⟩ (.int .i64 l4)).setCell ⟨l3,1,none⟩ (.int .i64 l5)).setCell ⟨l3,2,none⟩ (.int .i64 l8)).setCell ⟨l3,3,none⟩ (.int .i64 l9))=wq4_ at B C D F G E V a3 U I ⊢;refine done_ (done_of j9.1 (by kernel_rfl)) ?_;go_upto_region 3 with (fail)
 go_cut [37] (fun Fo wc=>∃ (kq:Nat) (y5:Bool),Fo=.bool y5∧Aside0 (bellpulllaw04_NormDivisor.j0 kq y5 g0 g2 g3 g4 h1 h3 h8 h9 l4 l5 l8 l9=some r)∧Aside0 (kq ≤ k)∧Aside0 (wc.heap[J]?=some (.cells #[.int .i16 e7,.int .i16 e8,.int .i16 e9,.int .i16 f0] 47 (0,0)))∧Aside0 (wc.heap[L]?=some (.cells #[.int .i16 f1,.int .i16 f2,.int .i16 f3,.int .i16 f4] 47 (0,0)))∧Aside0 (wc.heap[O]?=some (.cells #[.int .i16 f5,.int .i16 f6,.int .i16 f7,.int .i16 f8] 47 (0,0)))∧Aside0 (Q4_ wc Q i8 e6 f9 g1 23)∧Aside0 (Q4_ wc R g5 g6 h0 h2 23)∧Aside0 (Q4_ wc T g0 g2 g3 g4 23)∧Aside0 (Q4_ wc l0 h1 h3 h8 h9 23)∧Aside0 (Q4_ wc l3 l4 l5 l8 l9 23)∧Aside0 (Below w.heap.size w wc))
 case first =>
  have H:=X5.1;clear X5
  by_cases c48:(h1 == 0 && (h3 == 0 && (h8 == 0 && (h9 == 0))))=true
  ·
   rw [if_pos c48] at H;have c48b0:(h1 == 0 && (h3 == 0 && (h8 == 0 && (h9 == 0))))=true:=c48;(try (have c48b1:decide (h1=0 && (h3 == 0 && (h8 == 0 && (h9 == 0))))=true:=by simpa using c48));(try (have c48b2:(h1 == 0 && (h3 == 0 && (h8 == 0 && (h9 == 0))))=true:=by simpa using c48));clear c48;(first|rw [c48b0]|(simp only [i64_w,i32_w];rw [c48b0])|skip);have H':=mk0 H;clear H;have Me:=i0.1;have Mf:=h4.1;have Mg:=i1.1;have Mh:=h5.1;have Mi:=i2.1;have Mj:=h6.1;have Mk:=g7.1;have Ml:=e0.1;have Mm:=g8.1;have Mn:=e1.1;have Mo:=g9.1;have Mp:=e2.1;have Mq:=j2.1;have Mr:=j6.1;have C3:=q0_ V;have C4:=q1_ V;have C5:=q2_ V;have C6:=q3_ V;have C7:=blk_frozen V.1 0;have C8:=blk_frozen V.1 1;have C9:=blk_frozen V.1 2;have D0:=blk_frozen V.1 3;have Ms:=j3.1;have Mt:=i3.1;have Mu:=j4.1;have Mv:=i4.1;have Mw:=j5.1;have Mx:=i5.1;have My:=h7.1;have Mz:=e3.1;have Na:=i6.1;have Nb:=e4.1;have Nc:=i7.1;have Nd:=e5.1;have D1:=q0_ a3;have D2:=q1_ a3;have D3:=q2_ a3;have D4:=q3_ a3;have D5:=blk_frozen a3.1 0;have D6:=blk_frozen a3.1 1;have D7:=blk_frozen a3.1 2;have D8:=blk_frozen a3.1 3;go_wp2;go_meet
   case rel=>exact ⟨_,((l4 == 0 && (l5 == 0 && (l8 == 0 && (l9 == 0))))),(by first|rfl|(simp;done)|(simp [*];done)),H',⟨by first|omega|exact Nat.le_refl _⟩,⟨B.1⟩,⟨C.1⟩,⟨D.1⟩,⟨F.1⟩,⟨G.1⟩,⟨E.1⟩,⟨V.1⟩,⟨a3.1⟩,⟨by repeat (first|(with_reducible first|exact U.1|apply below_alloc|apply pw_below_drewN|apply below_drew1|refine below_set ?_ o1.1|refine below_set ?_ o2.1|refine below_set ?_ o3.1|refine below_set ?_ d3.1|refine below_set ?_ d4.1|refine below_set ?_ d5.1|refine below_set ?_ l1.1|refine below_set ?_ l2.1)|exact U.1)⟩⟩
  ·
   rw [if_neg c48] at H;have c48b0:(h1 == 0 && (h3 == 0 && (h8 == 0 && (h9 == 0))))=false:=by simpa using c48
   (try (have c48b1:decide (h1=0 && (h3 == 0 && (h8 == 0 && (h9 == 0))))=false:=by simpa using c48));(try (have c48b2:(h1 == 0 && (h3 == 0 && (h8 == 0 && (h9 == 0))))=false:=by simpa using c48));(try (have c48b3:¬ (h1=0 && (h3 == 0 && (h8 == 0 && (h9 == 0)))):=by simpa using c48));clear c48;(first|rw [c48b0]|(simp only [i64_w,i32_w];rw [c48b0])|skip);have H':=mk0 H;clear H;have Ne:=i0.1;have Nf:=h4.1;have Ng:=i1.1;have Nh:=h5.1;have Nl:=i2.1;have Nn:=h6.1;have No:=g7.1;have Np:=e0.1;have Nq:=g8.1;have Nr:=e1.1;have Ns:=g9.1;have Nt:=e2.1;have Nu:=j2.1;have Nv:=j6.1;have D9:=q0_ V;have E0:=q1_ V;have E1:=q2_ V;have E2:=q3_ V;have E3:=blk_frozen V.1 0;have E4:=blk_frozen V.1 1;have E5:=blk_frozen V.1 2;have E6:=blk_frozen V.1 3;go_wp2;go_meet
   case rel=>exact ⟨_,(false),(by first|rfl|(simp;done)|(simp [*];done)),H',⟨by first|omega|exact Nat.le_refl _⟩,⟨B.1⟩,⟨C.1⟩,⟨D.1⟩,⟨F.1⟩,⟨G.1⟩,⟨E.1⟩,⟨V.1⟩,⟨a3.1⟩,⟨by repeat (first|(with_reducible first|exact U.1|apply below_alloc|apply pw_below_drewN|apply below_drew1|refine below_set ?_ o1.1|refine below_set ?_ o2.1|refine below_set ?_ o3.1|refine below_set ?_ d3.1|refine below_set ?_ d4.1|refine below_set ?_ d5.1|refine below_set ?_ l1.1|refine below_set ?_ l2.1)|exact U.1)⟩⟩
 case rest =>
  clear X5;try clear p2
  try clear c4
  try clear c5
  try clear c6
  try clear c7
  try clear c48
  try clear c48b0
  try clear c48b1
  try clear c48b2
  try clear c49
  try clear c50
  try clear c51
  try clear c52
  try clear c53
  try clear c54
  try clear c55
  try clear c57
  try clear c58
  try clear c59
  try clear c60
  try clear c61
  try clear c62
  try clear c64
  try clear c65
  try clear c66
  try clear c67
  try clear c68
  try clear c69
  try clear c70
  try clear C3
  try clear C4
  try clear C5
  try clear C6
  try clear D1
  try clear D2
  try clear D3
  try clear D4
  try clear D9
  try clear E0
  try clear E1
  try clear E2
  try clear C7
  try clear C8
  try clear C9
  try clear D0
  try clear D5
  try clear D6
  try clear D7
  try clear D8
  try clear E3
  try clear E4
  try clear E5
  try clear E6
  obtain ⟨kq,y5,rfl,HA,Fp,B,C,D,F,G,E,V,a3,U⟩:=hcut;cases kq with
  | zero=>exact absurd HA.1 (by simp [bellpulllaw04_NormDivisor.j0])
  | succ kj8 =>
   have H:=HA.1;clear HA;simp only [bellpulllaw04_NormDivisor.j0] at H
   by_cases G2:y5=true
   ·
    subst G2;have H1:((norm_Gcd.f kj8 h1 h3 h8 h9 l4 l5 l8 l9).bind fun Y1=>(if Y1.2.2.2.2=5 then ((bellpulllaw04_lives.f kj8).bind fun E7=>(some E7)) else (none)))=some r:=by rw [if_pos rfl] at H;exact H
    clear H;have H:=H1;clear H1;replace H:=Option.bind_eq_some_iff.mp H;obtain ⟨⟨u4,y6,E8,T3,y7⟩,Y2,H⟩:=H;(try dsimp only at H);have Fq:=mk0 Y2;clear Y2
    by_cases c74:y7=5
    ·
     rw [if_pos c74] at H;have c74b0:(y7 == 5)=true:=beq_iff_eq.mpr c74;have c74b1:(y7 != 5)=false:=bne_eq_false_iff_eq.mpr c74;clear c74;replace H:=Option.bind_eq_some_iff.mp H;obtain ⟨E7,Y3,H⟩:=H;(try dsimp only at H);have Fr:=mk0 Y3;clear Y3;obtain rfl:=Option.some.inj H;have Nw:=i0.1;have Nx:=h4.1;have Ny:=i1.1;have Nz:=h5.1;have Oa:=i2.1;have Ob:=h6.1;have Oc:=g7.1;have Od:=e0.1;have Oe:=g8.1;have Of:=e1.1;have Og:=g9.1;have Oh:=e2.1;have Oi:=j2.1;have Oj:=j6.1;have U9:=q0_ V;have V0:=q1_ V;have V1:=q2_ V;have V2:=q3_ V;have V3:=blk_frozen V.1 0;have V4:=blk_frozen V.1 1;have V5:=blk_frozen V.1 2;have V6:=blk_frozen V.1 3;have Ok:=j3.1;have Ol:=i3.1;have Om:=j4.1;have On:=i4.1;have Oo:=j5.1;have Op:=i5.1;have Oq:=h7.1;have Os:=e3.1;have Ot:=i6.1;have Ou:=e4.1;have Ov:=i7.1;have Ow:=e5.1;have V7:=q0_ a3;have V8:=q1_ a3;have V9:=q2_ a3;have X0:=q3_ a3;have X1:=blk_frozen a3.1 0;have X2:=blk_frozen a3.1 1;have X3:=blk_frozen a3.1 2;have X4:=blk_frozen a3.1 3;go_wp2_with (first|((with_reducible refine gate_callee (f:=21) rfl ?_);refine goesL_ (some 41) rfl rfl Try.func21 (by kernel_rfl) rfl #[.agg #[.int .i64 h1,.int .i64 h3,.int .i64 h8,.int .i64 h9],.agg #[.int .i64 l4,.int .i64 l5,.int .i64 l8,.int .i64 l9]] rfl (by (try simp only [m0_,m1_,m2_]);first|done|rfl|(simp only [l0_,l1_];rfl)) ?_;(with_reducible refine (norm_Gcd.calls kj8 h1 h3 h8 h9 l4 l5 l8 l9 u4 y6 E8 T3 y7 _ Fq.1).mono ?_);rintro e Re ⟨rfl,hb⟩;refine ⟨_,rfl,?_⟩;replace B:=bkb B hb;replace C:=bkb C hb;replace D:=bkb D hb;replace F:=bkb F hb;replace G:=bkb G hb;replace E:=bkb E hb;replace V:=bkb V hb;replace a3:=bkb a3 hb;replace U:=bst U hb;(try clear hb))|((with_reducible refine gate_dst (N:=12) rfl ?_);(try (refine gate_guard (by rfl) ?_;dsimp only));refine box_event ?hg (N:=12) ?hd (cs:=#[.int .i64 0,.int .i64 0,.int .i64 0,.int .i64 0]) (t:=23) ?hr ?_;(case hd=>rfl);(case hg=>rfl);(case hr=>first|(go_simp;done)|(go_simp;rfl));intro Y4 hg Rf a7 hb;have n8:=mk0 (a7);have Y5:=szw hg U;have G3:=Y5;have u5:=nlt hg B;have E9:=ngt hg B;have u6:=nlt hg C;have F0:=ngt hg C;have u7:=nlt hg D;have F1:=ngt hg D;have r6:=nlt hg F;have A0:=ngt hg F;have r7:=nlt hg G;have A1:=ngt hg G;have r8:=nlt hg E;have A2:=ngt hg E;have r9:=nlt hg V;have A3:=ngt hg V;have t0:=nlt hg a3;have A9:=ngt hg a3;replace B:=bkb B hb;replace C:=bkb C hb;replace D:=bkb D hb;replace F:=bkb F hb;replace G:=bkb G hb;replace E:=bkb E hb;replace V:=bkb V hb;replace a3:=bkb a3 hb;replace U:=bst U hb;clear hb a7 hg;have Ox:=E9.1;have Oy:=u5.1;have Oz:=F0.1;have Pa:=u6.1;have Pb:=F1.1;have Pc:=u7.1;have Pd:=A0.1;have Pe:=r6.1;have Pf:=A1.1;have Pg:=r7.1;have Ph:=A2.1;have Pi:=r8.1;have Pj:=A3.1;have Pk:=r9.1;have Fs:=A9.1;have Ft:=t0.1;have G6:=q0_ n8;have G7:=q1_ n8;have G8:=q2_ n8;have G9:=q3_ n8;have H0:=blk_frozen n8.1 0;have H2:=blk_frozen n8.1 1;have H3:=blk_frozen n8.1 2;have H4:=blk_frozen n8.1 3)|(go_at_call 19;(with_reducible refine (bellpulllaw04_lives.calls kj8  E7 _ Fr.1).mono ?_);rintro e Ql ⟨rfl,hb⟩;replace B:=mk0 (blk_below (g:=J) (o:=.cells #[.int .i16 e7,.int .i16 e8,.int .i16 e9,.int .i16 f0] 47 (0,0)) (by (iterate 4 refine blk_far ?_ u5.1 _);exact B.1) hb);replace C:=mk0 (blk_below (g:=L) (o:=.cells #[.int .i16 f1,.int .i16 f2,.int .i16 f3,.int .i16 f4] 47 (0,0)) (by (iterate 4 refine blk_far ?_ u6.1 _);exact C.1) hb);replace D:=mk0 (blk_below (g:=O) (o:=.cells #[.int .i16 f5,.int .i16 f6,.int .i16 f7,.int .i16 f8] 47 (0,0)) (by (iterate 4 refine blk_far ?_ u7.1 _);exact D.1) hb);replace F:=mk0 (blk_below (g:=Q) (o:=.cells #[.int .i64 i8,.int .i64 e6,.int .i64 f9,.int .i64 g1] 23 (0,0)) (by (iterate 4 refine blk_far ?_ r6.1 _);exact F.1) hb);replace G:=mk0 (blk_below (g:=R) (o:=.cells #[.int .i64 g5,.int .i64 g6,.int .i64 h0,.int .i64 h2] 23 (0,0)) (by (iterate 4 refine blk_far ?_ r7.1 _);exact G.1) hb);replace E:=mk0 (blk_below (g:=T) (o:=.cells #[.int .i64 g0,.int .i64 g2,.int .i64 g3,.int .i64 g4] 23 (0,0)) (by (iterate 4 refine blk_far ?_ r8.1 _);exact E.1) hb);replace V:=mk0 (blk_below (g:=l0) (o:=.cells #[.int .i64 h1,.int .i64 h3,.int .i64 h8,.int .i64 h9] 23 (0,0)) (by (iterate 4 refine blk_far ?_ r9.1 _);exact V.1) hb);replace a3:=mk0 (blk_below (g:=l3) (o:=.cells #[.int .i64 l4,.int .i64 l5,.int .i64 l8,.int .i64 l9] 23 (0,0)) (by (iterate 4 refine blk_far ?_ t0.1 _);exact a3.1) hb);replace n8:=mk0 (blk_below (g:=Y4) (o:=.cells #[.int .i64 u4,.int .i64 y6,.int .i64 E8,.int .i64 T3] 23 (0,0)) (by refine blk_put (cs:=#[.int .i64 u4,.int .i64 y6,.int .i64 E8,.int .i64 0]) ?_ 3 _ rfl;refine blk_put (cs:=#[.int .i64 u4,.int .i64 y6,.int .i64 0,.int .i64 0]) ?_ 2 _ rfl;refine blk_put (cs:=#[.int .i64 u4,.int .i64 0,.int .i64 0,.int .i64 0]) ?_ 1 _ rfl;refine blk_put (cs:=#[.int .i64 0,.int .i64 0,.int .i64 0,.int .i64 0]) ?_ 0 _ rfl;exact n8.1) hb);replace U:=mk0 (below_step (by repeat (with_reducible first|exact U.1|refine below_set ?_ o1.1|refine below_set ?_ o2.1|refine below_set ?_ o3.1|refine below_set ?_ d3.1|refine below_set ?_ d4.1|refine below_set ?_ d5.1|refine below_set ?_ l1.1|refine below_set ?_ l2.1|refine below_set ?_ G3.1)) hb);(try clear hb)))
     go_ret;exact ⟨by first|rfl|(simp [errW_none,errW_some] <;> rfl)|(simp [*,errW_none,errW_some] <;> rfl),by repeat (first|(with_reducible first|exact U.1|apply below_alloc|apply pw_below_drewN|apply below_drew1|refine below_set ?_ o1.1|refine below_set ?_ o2.1|refine below_set ?_ o3.1|refine below_set ?_ d3.1|refine below_set ?_ d4.1|refine below_set ?_ d5.1|refine below_set ?_ l1.1|refine below_set ?_ l2.1|refine below_set ?_ G3.1)|exact U.1)⟩
    ·
     rw [if_neg c74] at H;exact absurd H (by simp)
   ·
    replace G2:=Bool.eq_false_iff.mpr G2;subst G2;have H1:((norm_Gcd.f kj8 h1 h3 h8 h9 l4 l5 l8 l9).bind fun m7=>(if m7.2.2.2.2=0 then ((bellpullref04_Check.f kj8 (([(⟨m7.1,m7.2.1,m7.2.2.1,m7.2.2.2.1⟩:S23)]:List (S23)))).bind fun p7=>(if p7=0 then ((bellpulllaw04_divides.f kj8 m7.1 m7.2.1 m7.2.2.1 m7.2.2.2.1 h1 h3 h8 h9).bind fun u8=>(if u8=true then ((bellpulllaw04_divides.f kj8 m7.1 m7.2.1 m7.2.2.1 m7.2.2.2.1 l4 l5 l8 l9).bind fun q2=>(if q2=true then ((bellpulllaw04_divides.f kj8 g0 g2 g3 g4 m7.1 m7.2.1 m7.2.2.1 m7.2.2.2.1).bind fun p4=>(if p4=true then ((bellpulllaw04_lives.f kj8).bind fun o0=>(bellpulllaw04_NormDivisor.j1 kj8 (!o0) h1 h3 h8 h9)) else (none))) else (none))) else (none))) else (none))) else (none)))=some r:=by rw [if_neg (show ¬ (false=true) by decide)] at H;exact H
    clear H;have H:=H1;clear H1;replace H:=Option.bind_eq_some_iff.mp H;obtain ⟨⟨m0,m2,m5,m8,y8⟩,T4,H⟩:=H;(try dsimp only at H);have Ao:=mk0 T4;clear T4;have F2:=mk0 H;clear H;have Fu:=i0.1;have Fv:=h4.1;have Fw:=i1.1;have Fx:=h5.1;have Fy:=i2.1;have Fz:=h6.1;have Ga:=g7.1;have Gb:=e0.1;have Gc:=g8.1;have Gd:=e1.1;have Ge:=g9.1;have Gf:=e2.1;have Gg:=j2.1;have Gh:=j6.1;have H5:=q0_ V;have H6:=q1_ V;have H7:=q2_ V;have H8:=q3_ V;have H9:=blk_frozen V.1 0;have I0:=blk_frozen V.1 1;have I1:=blk_frozen V.1 2;have I2:=blk_frozen V.1 3;have Gi:=j3.1;have Gj:=i3.1;have Gk:=j4.1;have Gl:=i4.1;have Gm:=j5.1;have Gn:=i5.1;have Go:=h7.1;have Gp:=e3.1;have Gq:=i6.1;have Gr:=e4.1;have Gs:=i7.1;have Gt:=e5.1;have I3:=q0_ a3;have I4:=q1_ a3;have I5:=q2_ a3;have I6:=q3_ a3;have I7:=blk_frozen a3.1 0;have I8:=blk_frozen a3.1 1;have I9:=blk_frozen a3.1 2;have J0:=blk_frozen a3.1 3;go_upto_region 7 with (first|((with_reducible refine gate_callee (f:=21) rfl ?_);refine goesL_ (some 52) rfl rfl Try.func21 (by kernel_rfl) rfl #[.agg #[.int .i64 h1,.int .i64 h3,.int .i64 h8,.int .i64 h9],.agg #[.int .i64 l4,.int .i64 l5,.int .i64 l8,.int .i64 l9]] rfl (by (try simp only [m0_,m1_,m2_]);first|done|rfl|(simp only [l0_,l1_];rfl)) ?_;(with_reducible refine (norm_Gcd.calls kj8 h1 h3 h8 h9 l4 l5 l8 l9 m0 m2 m5 m8 y8 _ Ao.1).mono ?_);rintro e Qm ⟨rfl,hb⟩;refine ⟨_,rfl,?_⟩;replace B:=bkb B hb;replace C:=bkb C hb;replace D:=bkb D hb;replace F:=bkb F hb;replace G:=bkb G hb;replace E:=bkb E hb;replace V:=bkb V hb;replace a3:=bkb a3 hb;replace U:=bst U hb;(try clear hb))|((with_reducible refine gate_dst (N:=14) rfl ?_);(try (refine gate_guard (by rfl) ?_;dsimp only));refine box_event ?hg (N:=14) ?hd (cs:=#[.int .i64 0,.int .i64 0,.int .i64 0,.int .i64 0]) (t:=23) ?hr ?_;(case hd=>rfl);(case hg=>rfl);(case hr=>first|(go_simp;done)|(go_simp;rfl));intro u9 hg Qn a7 hb;have d9:=mk0 (a7);have Y6:=szw hg U;have q1:=Y6;have q3:=nlt hg B;have v0:=ngt hg B;have q4:=nlt hg C;have v1:=ngt hg C;have q5:=nlt hg D;have v2:=ngt hg D;have o6:=nlt hg F;have t1:=ngt hg F;have o7:=nlt hg G;have t2:=ngt hg G;have o8:=nlt hg E;have t3:=ngt hg E;have n6:=nlt hg V;have o9:=ngt hg V;have p0:=nlt hg a3;have t4:=ngt hg a3;replace B:=bkb B hb;replace C:=bkb C hb;replace D:=bkb D hb;replace F:=bkb F hb;replace G:=bkb G hb;replace E:=bkb E hb;replace V:=bkb V hb;replace a3:=bkb a3 hb;replace U:=bst U hb;clear hb a7 hg;have Gu:=v0.1;have Gv:=q3.1;have Gw:=v1.1;have Gx:=q4.1;have Gy:=v2.1;have Gz:=q5.1;have Ha:=t1.1;have Hb:=o6.1;have Hc:=t2.1;have Hd:=o7.1;have He:=t3.1;have Hf:=o8.1;have Hg:=o9.1;have Hh:=n6.1;have Hi:=t4.1;have Hj:=p0.1;have J1:=q0_ d9;have J2:=q1_ d9;have J3:=q2_ d9;have J4:=q3_ d9;have J5:=blk_frozen d9.1 0;have J6:=blk_frozen d9.1 1;have J7:=blk_frozen d9.1 2;have J8:=blk_frozen d9.1 3))
    (try simp only [Act.put,s0_,s1_,s2_])
    go_cut [84] (fun Hk wc=>∃ (kq:Nat) (r2:Bool),Hk=.bool r2∧Aside0 (bellpulllaw04_NormDivisor.j1 kq r2 h1 h3 h8 h9=some r)∧Aside0 (kq ≤ kj8)∧Aside0 (wc.heap[J]?=some (.cells #[.int .i16 e7,.int .i16 e8,.int .i16 e9,.int .i16 f0] 47 (0,0)))∧Aside0 (wc.heap[L]?=some (.cells #[.int .i16 f1,.int .i16 f2,.int .i16 f3,.int .i16 f4] 47 (0,0)))∧Aside0 (wc.heap[O]?=some (.cells #[.int .i16 f5,.int .i16 f6,.int .i16 f7,.int .i16 f8] 47 (0,0)))∧Aside0 (Q4_ wc Q i8 e6 f9 g1 23)∧Aside0 (Q4_ wc R g5 g6 h0 h2 23)∧Aside0 (Q4_ wc T g0 g2 g3 g4 23)∧Aside0 (Q4_ wc l0 h1 h3 h8 h9 23)∧Aside0 (Q4_ wc l3 l4 l5 l8 l9 23)∧Aside0 (Q4_ wc u9 m0 m2 m5 m8 23)∧Aside0 (Below w.heap.size w wc))
    case first =>
     have H:=F2.1;clear F2
     by_cases c131:y8=0
     ·
      rw [if_pos c131] at H;have c131b0:(y8 == 0)=true:=beq_iff_eq.mpr c131;have c131b1:(y8 != 0)=false:=bne_eq_false_iff_eq.mpr c131;clear c131;(first|rw [c131b0]|(simp only [i64_w,i32_w];rw [c131b0])|skip);obtain ⟨T5,r1⟩:∃ y_:List (S23),y_=(([(⟨m0,m2,m5,m8⟩:S23)]:List (S23))):=⟨_,rfl⟩
      replace H:((bellpullref04_Check.f kj8 T5).bind fun p7=>(if p7=0 then ((bellpulllaw04_divides.f kj8 m0 m2 m5 m8 h1 h3 h8 h9).bind fun u8=>(if u8=true then ((bellpulllaw04_divides.f kj8 m0 m2 m5 m8 l4 l5 l8 l9).bind fun q2=>(if q2=true then ((bellpulllaw04_divides.f kj8 g0 g2 g3 g4 m0 m2 m5 m8).bind fun p4=>(if p4=true then ((bellpulllaw04_lives.f kj8).bind fun o0=>(bellpulllaw04_NormDivisor.j1 kj8 (!o0) h1 h3 h8 h9)) else (none))) else (none))) else (none))) else (none)))=some r:=by first|(rw [r1];with_reducible exact H)|(have Y7:=(Option.bind_some _ _).symm.trans H;rw [r1];with_reducible exact Y7)|(have Y7:=(Option.bind_some _ _).symm.trans H;with_reducible exact Y7)|with_reducible exact H|(rw [r1];exact H)|exact H
      have G4:=mk0 r1;clear r1;replace H:=Option.bind_eq_some_iff.mp H;obtain ⟨p7,T6,H⟩:=H;(try dsimp only at H);have Ap:=mk0 T6;clear T6
      by_cases c133:p7=0
      ·
       rw [if_pos c133] at H;have c133b0:(p7 == 0)=true:=beq_iff_eq.mpr c133;have c133b1:(p7 != 0)=false:=bne_eq_false_iff_eq.mpr c133;clear c133;replace H:=Option.bind_eq_some_iff.mp H;obtain ⟨u8,T7,H⟩:=H;(try dsimp only at H);have Aq:=mk0 T7;clear T7
       by_cases z7:u8=true
       ·
        subst z7;have H1:((bellpulllaw04_divides.f kj8 m0 m2 m5 m8 l4 l5 l8 l9).bind fun q2=>(if q2=true then ((bellpulllaw04_divides.f kj8 g0 g2 g3 g4 m0 m2 m5 m8).bind fun p4=>(if p4=true then ((bellpulllaw04_lives.f kj8).bind fun o0=>(bellpulllaw04_NormDivisor.j1 kj8 (!o0) h1 h3 h8 h9)) else (none))) else (none)))=some r:=by rw [if_pos rfl] at H;exact H
        clear H;have H:=H1;clear H1;replace H:=Option.bind_eq_some_iff.mp H;obtain ⟨q2,T8,H⟩:=H;(try dsimp only at H);have Ar:=mk0 T8;clear T8
        by_cases z8:q2=true
        ·
         subst z8;have H1:((bellpulllaw04_divides.f kj8 g0 g2 g3 g4 m0 m2 m5 m8).bind fun p4=>(if p4=true then ((bellpulllaw04_lives.f kj8).bind fun o0=>(bellpulllaw04_NormDivisor.j1 kj8 (!o0) h1 h3 h8 h9)) else (none)))=some r:=by rw [if_pos rfl] at H;exact H
         clear H;have H:=H1;clear H1;replace H:=Option.bind_eq_some_iff.mp H;obtain ⟨p4,T9,H⟩:=H;(try dsimp only at H);have As:=mk0 T9;clear T9
         by_cases z9:p4=true
         ·
          subst z9;have H1:((bellpulllaw04_lives.f kj8).bind fun o0=>(bellpulllaw04_NormDivisor.j1 kj8 (!o0) h1 h3 h8 h9))=some r:=by rw [if_pos rfl] at H;exact H
          clear H;have H:=H1;clear H1;replace H:=Option.bind_eq_some_iff.mp H;obtain ⟨o0,U0,H⟩:=H;(try dsimp only at H);have At:=mk0 U0;clear U0;have H':=mk0 H;clear H;have Hl:=v0.1;have Hm:=q3.1;have Hn:=v1.1;have Ho:=q4.1;have Hp:=v2.1;have Hq:=q5.1;have Hr:=t1.1;have Hs:=o6.1;have Ht:=t2.1;have Hu:=o7.1;have Hv:=t3.1;have Hw:=o8.1;have Hx:=o9.1;have Hy:=n6.1;have Hz:=t4.1;have Ia:=p0.1;have J9:=q0_ d9;have L0:=q1_ d9;have L1:=q2_ d9;have L2:=q3_ d9;have L3:=blk_frozen d9.1 0;have L4:=blk_frozen d9.1 1;have L5:=blk_frozen d9.1 2;have L6:=blk_frozen d9.1 3;go_wp2_with (first|((with_reducible refine gate_dst (N:=59) rfl ?_);(try (refine gate_guard (by rfl) ?_;dsimp only));refine Kd.R_lit k23 _ 23 ?hg (N:=59) ?hd (xs:=([(⟨m0,m2,m5,m8⟩:S23)]:List (S23))) (inner:=[.int .i64 m0,.int .i64 m2,.int .i64 m5,.int .i64 m8]) (ok:=fun _=>True) (okp:=fun _=>True) ?hr ?hp (fun _ hk=>hk) trivial (Below.refl _ _) (Nat.le_refl _) (by simp) ?_;(case hd=>rfl);(case hg=>rfl);(case hr=>first|(go_simp;done)|(go_simp;rfl));(case hp=>exact (Reps.c4 (show Kd.M k23 _ _ _ (⟨m0,m2,m5,m8⟩:S23) [.int .i64 m0,.int .i64 m2,.int .i64 m5,.int .i64 m8] from (k23_mkM _ _ _ (⟨m0,m2,m5,m8⟩:S23) )) (Reps.none _ _)));intro Pl Qo v3 hb hg_ Z9;clear hg_ Z9;(first|rw [← G4.1] at v3|(simp only [Int.reduceToNat] at v3;rw [← G4.1] at v3));have n0:=mk0 (Kd.R_lower (Kd.R_newB (Kd.R_newB (Kd.R_newB (Kd.R_newB (Kd.R_newB (Kd.R_newB v3 (g:=Q) (o:=.cells #[.int .i64 i8,.int .i64 e6,.int .i64 f9,.int .i64 g1] 23 (0,0)) (by (iterate 4 refine blk_far ?_ o6.1 _);exact F.1)) (g:=R) (o:=.cells #[.int .i64 g5,.int .i64 g6,.int .i64 h0,.int .i64 h2] 23 (0,0)) (by (iterate 4 refine blk_far ?_ o7.1 _);exact G.1)) (g:=T) (o:=.cells #[.int .i64 g0,.int .i64 g2,.int .i64 g3,.int .i64 g4] 23 (0,0)) (by (iterate 4 refine blk_far ?_ o8.1 _);exact E.1)) (g:=l0) (o:=.cells #[.int .i64 h1,.int .i64 h3,.int .i64 h8,.int .i64 h9] 23 (0,0)) (by (iterate 4 refine blk_far ?_ n6.1 _);exact V.1)) (g:=l3) (o:=.cells #[.int .i64 l4,.int .i64 l5,.int .i64 l8,.int .i64 l9] 23 (0,0)) (by (iterate 4 refine blk_far ?_ p0.1 _);exact a3.1)) (g:=u9) (o:=.cells #[.int .i64 m0,.int .i64 m2,.int .i64 m5,.int .i64 m8] 23 (0,0)) (by refine blk_put (cs:=#[.int .i64 m0,.int .i64 m2,.int .i64 m5,.int .i64 0]) ?_ 3 _ rfl;refine blk_put (cs:=#[.int .i64 m0,.int .i64 m2,.int .i64 0,.int .i64 0]) ?_ 2 _ rfl;refine blk_put (cs:=#[.int .i64 m0,.int .i64 0,.int .i64 0,.int .i64 0]) ?_ 1 _ rfl;refine blk_put (cs:=#[.int .i64 0,.int .i64 0,.int .i64 0,.int .i64 0]) ?_ 0 _ rfl;exact d9.1)) (below_size (by repeat (with_reducible first|exact U.1|refine below_set ?_ o1.1|refine below_set ?_ o2.1|refine below_set ?_ o3.1|refine below_set ?_ d3.1|refine below_set ?_ d4.1|refine below_set ?_ d5.1|refine below_set ?_ l1.1|refine below_set ?_ l2.1|refine below_set ?_ q1.1))));replace B:=mk0 (blk_below (g:=J) (o:=.cells #[.int .i16 e7,.int .i16 e8,.int .i16 e9,.int .i16 f0] 47 (0,0)) (by (iterate 4 refine blk_far ?_ q3.1 _);exact B.1) hb);replace C:=mk0 (blk_below (g:=L) (o:=.cells #[.int .i16 f1,.int .i16 f2,.int .i16 f3,.int .i16 f4] 47 (0,0)) (by (iterate 4 refine blk_far ?_ q4.1 _);exact C.1) hb);replace D:=mk0 (blk_below (g:=O) (o:=.cells #[.int .i16 f5,.int .i16 f6,.int .i16 f7,.int .i16 f8] 47 (0,0)) (by (iterate 4 refine blk_far ?_ q5.1 _);exact D.1) hb);replace F:=mk0 (blk_below (g:=Q) (o:=.cells #[.int .i64 i8,.int .i64 e6,.int .i64 f9,.int .i64 g1] 23 (0,0)) (by (iterate 4 refine blk_far ?_ o6.1 _);exact F.1) hb);replace G:=mk0 (blk_below (g:=R) (o:=.cells #[.int .i64 g5,.int .i64 g6,.int .i64 h0,.int .i64 h2] 23 (0,0)) (by (iterate 4 refine blk_far ?_ o7.1 _);exact G.1) hb);replace E:=mk0 (blk_below (g:=T) (o:=.cells #[.int .i64 g0,.int .i64 g2,.int .i64 g3,.int .i64 g4] 23 (0,0)) (by (iterate 4 refine blk_far ?_ o8.1 _);exact E.1) hb);replace V:=mk0 (blk_below (g:=l0) (o:=.cells #[.int .i64 h1,.int .i64 h3,.int .i64 h8,.int .i64 h9] 23 (0,0)) (by (iterate 4 refine blk_far ?_ n6.1 _);exact V.1) hb);replace a3:=mk0 (blk_below (g:=l3) (o:=.cells #[.int .i64 l4,.int .i64 l5,.int .i64 l8,.int .i64 l9] 23 (0,0)) (by (iterate 4 refine blk_far ?_ p0.1 _);exact a3.1) hb);replace d9:=mk0 (blk_below (g:=u9) (o:=.cells #[.int .i64 m0,.int .i64 m2,.int .i64 m5,.int .i64 m8] 23 (0,0)) (by refine blk_put (cs:=#[.int .i64 m0,.int .i64 m2,.int .i64 m5,.int .i64 0]) ?_ 3 _ rfl;refine blk_put (cs:=#[.int .i64 m0,.int .i64 m2,.int .i64 0,.int .i64 0]) ?_ 2 _ rfl;refine blk_put (cs:=#[.int .i64 m0,.int .i64 0,.int .i64 0,.int .i64 0]) ?_ 1 _ rfl;refine blk_put (cs:=#[.int .i64 0,.int .i64 0,.int .i64 0,.int .i64 0]) ?_ 0 _ rfl;exact d9.1) hb);replace U:=mk0 (below_step (by repeat (with_reducible first|exact U.1|refine below_set ?_ o1.1|refine below_set ?_ o2.1|refine below_set ?_ o3.1|refine below_set ?_ d3.1|refine below_set ?_ d4.1|refine below_set ?_ d5.1|refine below_set ?_ l1.1|refine below_set ?_ l2.1|refine below_set ?_ q1.1)) hb);clear hb v3;obtain ⟨Pm,Pn,Aa⟩:=Kd.R_slice n0.1;subst Aa)|(go_at_call 18;(with_reducible refine (bellpullref04_Check.calls kj8 _ _ T5 p7 _ ?side1 ?side2 Ap.1).mono ?_);(case side1=>repeat (first|exact (Kd.R_reads' n0.1).2.2|(with_reducible refine Kd.C_alloc ?_ _)|(with_reducible refine Kd.C_drewN ?_ _)|(with_reducible refine Kd.C_drew ?_)));(case side2=>exact (Kd.R_reads' n0.1).2.1);rintro e Qp ⟨rfl,hb⟩;replace n0:=rbl n0 hb;replace B:=bkb B hb;replace C:=bkb C hb;replace D:=bkb D hb;replace F:=bkb F hb;replace G:=bkb G hb;replace E:=bkb E hb;replace V:=bkb V hb;replace a3:=bkb a3 hb;replace d9:=bkb d9 hb;replace U:=bst U hb;(try clear hb);(try clear hk);have L7:=q0_ d9;have L8:=q1_ d9;have L9:=q2_ d9;have M0:=q3_ d9;have M1:=blk_frozen d9.1 0;have M2:=blk_frozen d9.1 1;have M3:=blk_frozen d9.1 2;have M4:=blk_frozen d9.1 3;have Ib:=i0.1;have Ic:=h4.1;have Id:=i1.1;have Ie:=h5.1;have If:=i2.1;have Ig:=h6.1;have Ih:=g7.1;have Ii:=e0.1;have Ij:=g8.1;have Ik:=e1.1;have Il:=g9.1;have Im:=e2.1;have In:=j2.1;have Io:=j6.1;have M5:=q0_ V;have M6:=q1_ V;have M7:=q2_ V;have M8:=q3_ V;have M9:=blk_frozen V.1 0;have N0:=blk_frozen V.1 1;have N1:=blk_frozen V.1 2;have N2:=blk_frozen V.1 3)|(go_at_call 35;(with_reducible refine (bellpulllaw04_divides.calls kj8 m0 m2 m5 m8 h1 h3 h8 h9 true _ Aq.1).mono ?_);rintro e Qq ⟨rfl,hb⟩;replace n0:=rbl n0 hb;replace B:=bkb B hb;replace C:=bkb C hb;replace D:=bkb D hb;replace F:=bkb F hb;replace G:=bkb G hb;replace E:=bkb E hb;replace V:=bkb V hb;replace a3:=bkb a3 hb;replace d9:=bkb d9 hb;replace U:=bst U hb;(try clear hb);(try clear hk);have N3:=q0_ d9;have N4:=q1_ d9;have N5:=q2_ d9;have N6:=q3_ d9;have N7:=blk_frozen d9.1 0;have N8:=blk_frozen d9.1 1;have N9:=blk_frozen d9.1 2;have O0:=blk_frozen d9.1 3;have Ip:=j3.1;have Iq:=i3.1;have Ir:=j4.1;have Is:=i4.1;have It:=j5.1;have Iu:=i5.1;have Iv:=h7.1;have Iw:=e3.1;have Ix:=i6.1;have Iy:=e4.1;have Iz:=i7.1;have Ja:=e5.1;have O1:=q0_ a3;have O2:=q1_ a3;have O3:=q2_ a3;have O4:=q3_ a3;have O5:=blk_frozen a3.1 0;have O6:=blk_frozen a3.1 1;have O7:=blk_frozen a3.1 2;have O8:=blk_frozen a3.1 3)|(go_at_call 35;(with_reducible refine (bellpulllaw04_divides.calls kj8 m0 m2 m5 m8 l4 l5 l8 l9 true _ Ar.1).mono ?_);rintro e Qr ⟨rfl,hb⟩;replace n0:=rbl n0 hb;replace B:=bkb B hb;replace C:=bkb C hb;replace D:=bkb D hb;replace F:=bkb F hb;replace G:=bkb G hb;replace E:=bkb E hb;replace V:=bkb V hb;replace a3:=bkb a3 hb;replace d9:=bkb d9 hb;replace U:=bst U hb;(try clear hb);(try clear hk);have Jb:=a8.1;have Jc:=X.1;have Jd:=a9.1;have Je:=Y.1;have Jf:=b0.1;have Jg:=Z.1;have Jh:=c0.1;have Ji:=c3.1;have Jj:=b7.1;have Jk:=b8.1;have O9:=q0_ E;have Q0:=q1_ E;have Q1:=q2_ E;have Q2:=q3_ E;have Q3:=blk_frozen E.1 0;have Q4:=blk_frozen E.1 1;have Q5:=blk_frozen E.1 2;have Q6:=blk_frozen E.1 3;have Q7:=q0_ d9;have Q8:=q1_ d9;have Q9:=q2_ d9;have R0:=q3_ d9;have R1:=blk_frozen d9.1 0;have R2:=blk_frozen d9.1 1;have R3:=blk_frozen d9.1 2;have R4:=blk_frozen d9.1 3)|(go_at_call 35;(with_reducible refine (bellpulllaw04_divides.calls kj8 g0 g2 g3 g4 m0 m2 m5 m8 true _ As.1).mono ?_);rintro e Qs ⟨rfl,hb⟩;replace n0:=rbl n0 hb;replace B:=bkb B hb;replace C:=bkb C hb;replace D:=bkb D hb;replace F:=bkb F hb;replace G:=bkb G hb;replace E:=bkb E hb;replace V:=bkb V hb;replace a3:=bkb a3 hb;replace d9:=bkb d9 hb;replace U:=bst U hb;(try clear hb);(try clear hk))|(go_at_call 19;(with_reducible refine (bellpulllaw04_lives.calls kj8  o0 _ At.1).mono ?_);rintro e Qt ⟨rfl,hb⟩;replace n0:=rbl n0 hb;replace B:=bkb B hb;replace C:=bkb C hb;replace D:=bkb D hb;replace F:=bkb F hb;replace G:=bkb G hb;replace E:=bkb E hb;replace V:=bkb V hb;replace a3:=bkb a3 hb;replace d9:=bkb d9 hb;replace U:=bst U hb;(try clear hb);(try clear hk)))
          go_meet
          case rel=>exact ⟨_,(!o0),(by first|rfl|(simp;done)|(simp [*];done)),H',⟨by have:=Fp.1;first|omega|exact Nat.le_refl _⟩,⟨by exact B.1⟩,⟨by exact C.1⟩,⟨by exact D.1⟩,⟨by exact F.1⟩,⟨by exact G.1⟩,⟨by exact E.1⟩,⟨by exact V.1⟩,⟨by exact a3.1⟩,⟨by exact d9.1⟩,⟨by repeat (first|(with_reducible first|exact U.1|apply below_alloc|apply pw_below_drewN|apply below_drew1|refine below_set ?_ o1.1|refine below_set ?_ o2.1|refine below_set ?_ o3.1|refine below_set ?_ d3.1|refine below_set ?_ d4.1|refine below_set ?_ d5.1|refine below_set ?_ l1.1|refine below_set ?_ l2.1|refine below_set ?_ q1.1)|exact U.1)⟩⟩
         ·
          replace z9:=Bool.eq_false_iff.mpr z9;subst z9;have H1:(none)=some r:=by rw [if_neg (show ¬ (false=true) by decide)] at H;exact H
          clear H;have H:=H1;clear H1;exact absurd H (by simp)
        ·
         replace z8:=Bool.eq_false_iff.mpr z8;subst z8;have H1:(none)=some r:=by rw [if_neg (show ¬ (false=true) by decide)] at H;exact H
         clear H;have H:=H1;clear H1;exact absurd H (by simp)
       ·
        replace z7:=Bool.eq_false_iff.mpr z7;subst z7;have H1:(none)=some r:=by rw [if_neg (show ¬ (false=true) by decide)] at H;exact H
        clear H;have H:=H1;clear H1;exact absurd H (by simp)
      ·
       rw [if_neg c133] at H;exact absurd H (by simp)
     ·
      rw [if_neg c131] at H;exact absurd H (by simp)
    case rest =>
     clear F2;try clear c1
     try clear c2
     try clear p2
     try clear c4
     try clear c5
     try clear c6
     try clear c7
     try clear c8
     try clear c9
     try clear c10
     try clear c11
     try clear c12
     try clear c13
     try clear c14
     try clear c15
     try clear c16
     try clear c17
     try clear c21
     try clear c48
     try clear c48b0
     try clear c48b1
     try clear c48b2
     try clear c49
     try clear c50
     try clear c51
     try clear c52
     try clear c53
     try clear c54
     try clear c55
     try clear c57
     try clear c58
     try clear c59
     try clear c60
     try clear c61
     try clear c62
     try clear c64
     try clear c65
     try clear c66
     try clear c67
     try clear c68
     try clear c69
     try clear c70
     try clear G2
     try clear c74
     try clear c74b0
     try clear c74b1
     try clear c76
     try clear c77
     try clear c78
     try clear c79
     try clear c80
     try clear c81
     try clear c82
     try clear c84
     try clear c85
     try clear c86
     try clear c87
     try clear c88
     try clear c89
     try clear c93
     try clear c94
     try clear c95
     try clear c96
     try clear c97
     try clear c98
     try clear c99
     try clear c100
     try clear c105
     try clear c106
     try clear c107
     try clear c108
     try clear c109
     try clear c110
     try clear c111
     try clear c113
     try clear c114
     try clear c115
     try clear c116
     try clear c117
     try clear c118
     try clear c122
     try clear c123
     try clear c124
     try clear c125
     try clear c126
     try clear c127
     try clear c128
     try clear c129
     try clear c131
     try clear c131b0
     try clear c131b1
     try clear c133
     try clear c133b0
     try clear c133b1
     try clear z7
     try clear z8
     try clear z9
     try clear c141
     try clear c142
     try clear c143
     try clear c144
     try clear c145
     try clear c146
     try clear c147
     try clear c148
     try clear c155
     try clear c156
     try clear c157
     try clear c158
     try clear c159
     try clear c160
     try clear c161
     try clear c165
     try clear c166
     try clear c167
     try clear c168
     try clear c169
     try clear c170
     try clear c173
     try clear c174
     try clear c175
     try clear c176
     try clear c177
     try clear G6
     try clear G7
     try clear G8
     try clear G9
     try clear H5
     try clear H6
     try clear H7
     try clear H8
     try clear I3
     try clear I4
     try clear I5
     try clear I6
     try clear J1
     try clear J2
     try clear J3
     try clear J4
     try clear J9
     try clear L0
     try clear L1
     try clear L2
     try clear L7
     try clear L8
     try clear L9
     try clear M0
     try clear M5
     try clear M6
     try clear M7
     try clear M8
     try clear N3
     try clear N4
     try clear N5
     try clear N6
     try clear O1
     try clear O2
     try clear O3
     try clear O4
     try clear O9
     try clear Q0
     try clear Q1
     try clear Q2
     try clear Q7
     try clear Q8
     try clear Q9
     try clear R0
     try clear C3
     try clear C4
     try clear C5
     try clear C6
     try clear D1
     try clear D2
     try clear D3
     try clear D4
     try clear D9
     try clear E0
     try clear E1
     try clear E2
     try clear U9
     try clear V0
     try clear V1
     try clear V2
     try clear V7
     try clear V8
     try clear V9
     try clear X0
     try clear H0
     try clear H2
     try clear H3
     try clear H4
     try clear H9
     try clear I0
     try clear I1
     try clear I2
     try clear I7
     try clear I8
     try clear I9
     try clear J0
     try clear J5
     try clear J6
     try clear J7
     try clear J8
     try clear L3
     try clear L4
     try clear L5
     try clear L6
     try clear M1
     try clear M2
     try clear M3
     try clear M4
     try clear M9
     try clear N0
     try clear N1
     try clear N2
     try clear N7
     try clear N8
     try clear N9
     try clear O0
     try clear O5
     try clear O6
     try clear O7
     try clear O8
     try clear Q3
     try clear Q4
     try clear Q5
     try clear Q6
     try clear R1
     try clear R2
     try clear R3
     try clear R4
     try clear C7
     try clear C8
     try clear C9
     try clear D0
     try clear D5
     try clear D6
     try clear D7
     try clear D8
     try clear E3
     try clear E4
     try clear E5
     try clear E6
     try clear V3
     try clear V4
     try clear V5
     try clear V6
     try clear X1
     try clear X2
     try clear X3
     try clear X4
     try clear p2
     obtain ⟨kq,r2,rfl,HA,Po,B,C,D,F,G,E,V,a3,d9,U⟩:=hcut;cases kq with
     | zero=>exact absurd HA.1 (by simp [bellpulllaw04_NormDivisor.j1])
     | succ kj103 =>
      have H:=HA.1;clear HA;simp only [bellpulllaw04_NormDivisor.j1] at H
      by_cases F3:r2=true
      ·
       subst F3;have H1:(none)=some r:=by rw [if_pos rfl] at H;exact H
       clear H;have H:=H1;clear H1;exact absurd H (by simp)
      ·
       replace F3:=Bool.eq_false_iff.mpr F3;subst F3;have H1:(if (h1 == 0 && (h3 == 0 && (h8 == 0 && (h9 == 0))))=true then (some true) else ((norm_Gcd.f kj103 h1 h3 h8 h9 0 0 0 0).bind fun n1=>(if n1.2.2.2.2=0 then ((bellpullref04_Norm.f n1.1 n1.2.1 n1.2.2.1 n1.2.2.2.1).bind fun r3=>((bellpullref04_Norm.f h1 h3 h8 h9).bind fun r4=>(if r3=r4 then ((bellpulllaw04_divides.f kj103 n1.1 n1.2.1 n1.2.2.1 n1.2.2.2.1 h1 h3 h8 h9).bind fun F4=>(if F4=true then ((bellpullref04_Less.f kj103 n1.1 n1.2.1 n1.2.2.1 n1.2.2.2.1 h1 h3 h8 h9).bind fun v4=>(some (!v4))) else (none))) else (none)))) else (none))))=some r:=by rw [if_neg (show ¬ (false=true) by decide)] at H;exact H
       clear H;have H:=H1;clear H1
       by_cases c183:(h1 == 0 && (h3 == 0 && (h8 == 0 && (h9 == 0))))=true
       ·
        rw [if_pos c183] at H;have c183b0:(h1 == 0 && (h3 == 0 && (h8 == 0 && (h9 == 0))))=true:=c183;(try (have c183b1:decide (h1=0 && (h3 == 0 && (h8 == 0 && (h9 == 0))))=true:=by simpa using c183));(try (have c183b2:(h1 == 0 && (h3 == 0 && (h8 == 0 && (h9 == 0))))=true:=by simpa using c183));clear c183;obtain rfl:=Option.some.inj H;have Jl:=i0.1;have Jm:=h4.1;have Jn:=i1.1;have Jo:=h5.1;have Jp:=i2.1;have Jq:=h6.1;have Jr:=g7.1;have Js:=e0.1;have Jt:=g8.1;have Ju:=e1.1;have Jv:=g9.1;have Jw:=e2.1;have Jx:=j2.1;have Jy:=j6.1;have Jz:=n6.1;have Ka:=o9.1;have Au:=q0_ V;have Av:=q1_ V;have Aw:=q2_ V;have Ax:=q3_ V;have Ay:=blk_frozen V.1 0;have Az:=blk_frozen V.1 1;have Ba:=blk_frozen V.1 2;have Bb:=blk_frozen V.1 3;go_wp2;go_ret;exact ⟨by first|rfl|(simp [errW_none,errW_some] <;> rfl)|(simp [*,errW_none,errW_some] <;> rfl),by repeat (first|(with_reducible first|exact U.1|apply below_alloc|apply pw_below_drewN|apply below_drew1|refine below_set ?_ o1.1|refine below_set ?_ o2.1|refine below_set ?_ o3.1|refine below_set ?_ d3.1|refine below_set ?_ d4.1|refine below_set ?_ d5.1|refine below_set ?_ l1.1|refine below_set ?_ l2.1|refine below_set ?_ q1.1)|exact U.1)⟩
       ·
        rw [if_neg c183] at H;have c183b0:(h1 == 0 && (h3 == 0 && (h8 == 0 && (h9 == 0))))=false:=by simpa using c183
        (try (have c183b1:decide (h1=0 && (h3 == 0 && (h8 == 0 && (h9 == 0))))=false:=by simpa using c183));(try (have c183b2:(h1 == 0 && (h3 == 0 && (h8 == 0 && (h9 == 0))))=false:=by simpa using c183));(try (have c183b3:¬ (h1=0 && (h3 == 0 && (h8 == 0 && (h9 == 0)))):=by simpa using c183));clear c183;replace H:=Option.bind_eq_some_iff.mp H;obtain ⟨⟨m1,m3,m4,m6,y9⟩,U1,H⟩:=H;(try dsimp only at H);have Bc:=mk0 U1;clear U1
        by_cases c194:y9=0
        ·
         rw [if_pos c194] at H;have c194b0:(y9 == 0)=true:=beq_iff_eq.mpr c194;have c194b1:(y9 != 0)=false:=bne_eq_false_iff_eq.mpr c194;clear c194;replace H:=Option.bind_eq_some_iff.mp H;obtain ⟨r3,U2,H⟩:=H;(try dsimp only at H);have Bd:=mk0 U2;clear U2;replace H:=Option.bind_eq_some_iff.mp H;obtain ⟨r4,U3,H⟩:=H;(try dsimp only at H);have Be:=mk0 U3;clear U3
         by_cases c197:r3=r4
         ·
          rw [if_pos c197] at H;have c197b0:(r3 == r4)=true:=beq_iff_eq.mpr c197;have c197b1:(r3 != r4)=false:=bne_eq_false_iff_eq.mpr c197;clear c197;replace H:=Option.bind_eq_some_iff.mp H;obtain ⟨F4,U4,H⟩:=H;(try dsimp only at H);have Bf:=mk0 U4;clear U4
          by_cases F5:F4=true
          ·
           subst F5;have H1:((bellpullref04_Less.f kj103 m1 m3 m4 m6 h1 h3 h8 h9).bind fun v4=>(some (!v4)))=some r:=by rw [if_pos rfl] at H;exact H
           clear H;have H:=H1;clear H1;replace H:=Option.bind_eq_some_iff.mp H;obtain ⟨v4,U5,H⟩:=H;(try dsimp only at H);have Bg:=mk0 U5;clear U5;obtain rfl:=Option.some.inj H;have Kb:=i0.1;have Kc:=h4.1;have Ke:=i1.1;have Kf:=h5.1;have Kg:=i2.1;have Kh:=h6.1;have Ki:=g7.1;have Kj:=e0.1;have Kk:=g8.1;have Kl:=e1.1;have Km:=g9.1;have Kn:=e2.1;have Ko:=j2.1;have Kp:=j6.1;have Kq:=n6.1;have Kr:=o9.1;have Bh:=q0_ V;have Bi:=q1_ V;have Bj:=q2_ V;have Bk:=q3_ V;have Bl:=blk_frozen V.1 0;have Bm:=blk_frozen V.1 1;have Bn:=blk_frozen V.1 2;have Bo:=blk_frozen V.1 3;try go_wp2_with (first|((with_reducible refine gate_callee (f:=21) rfl ?_);refine goesL_ (some 91) rfl rfl Try.func21 (by kernel_rfl) rfl #[.agg #[.int .i64 h1,.int .i64 h3,.int .i64 h8,.int .i64 h9],.agg #[.int .i64 0,.int .i64 0,.int .i64 0,.int .i64 0]] rfl (by (try simp only [m0_,m1_,m2_]);first|done|rfl|(simp only [l0_,l1_];rfl)) ?_;(with_reducible refine (norm_Gcd.calls kj103 h1 h3 h8 h9 0 0 0 0 m1 m3 m4 m6 y9 _ Bc.1).mono ?_);rintro e Qu ⟨rfl,hb⟩;refine ⟨_,rfl,?_⟩;replace B:=bkb B hb;replace C:=bkb C hb;replace D:=bkb D hb;replace F:=bkb F hb;replace G:=bkb G hb;replace E:=bkb E hb;replace V:=bkb V hb;replace a3:=bkb a3 hb;replace d9:=bkb d9 hb;replace U:=bst U hb;(try clear hb))|((with_reducible refine gate_dst (N:=16) rfl ?_);(try (refine gate_guard (by rfl) ?_;dsimp only));refine box_event ?hg (N:=16) ?hd (cs:=#[.int .i64 0,.int .i64 0,.int .i64 0,.int .i64 0]) (t:=23) ?hr ?_;(case hd=>rfl);(case hg=>rfl);(case hr=>first|(go_simp;done)|(go_simp;rfl));intro i9 hg p1 a7 hb;have j7:=mk0 (a7);have Y8:=szw hg U;have G5:=Y8;have v5:=nlt hg B;have F6:=ngt hg B;have v6:=nlt hg C;have F7:=ngt hg C;have v7:=nlt hg D;have F8:=ngt hg D;have t5:=nlt hg F;have B0:=ngt hg F;have t6:=nlt hg G;have B1:=ngt hg G;have t7:=nlt hg E;have B2:=ngt hg E;have t8:=nlt hg V;have B3:=ngt hg V;have t9:=nlt hg a3;have B4:=ngt hg a3;have u0:=nlt hg d9;have B5:=ngt hg d9;replace B:=bkb B hb;replace C:=bkb C hb;replace D:=bkb D hb;replace F:=bkb F hb;replace G:=bkb G hb;replace E:=bkb E hb;replace V:=bkb V hb;replace a3:=bkb a3 hb;replace d9:=bkb d9 hb;replace U:=bst U hb;clear hb a7 hg;have Ks:=F6.1;have Kt:=v5.1;have Ku:=F7.1;have Kv:=v6.1;have Kw:=F8.1;have Kx:=v7.1;have Ky:=B0.1;have Kz:=t5.1;have La:=B1.1;have Lb:=t6.1;have Lc:=B2.1;have Ld:=t7.1;have Le:=B3.1;have Lf:=t8.1;have Lg:=B4.1;have Lh:=t9.1;have Li:=B5.1;have Lj:=u0.1;have Bp:=q0_ j7;have Bq:=q1_ j7;have Br:=q2_ j7;have Bs:=q3_ j7;have Bt:=blk_frozen j7.1 0;have Bu:=blk_frozen j7.1 1;have Bv:=blk_frozen j7.1 2;have Bw:=blk_frozen j7.1 3))
           have z0:Aside0 (((((p1.setCell ⟨i9,0,none⟩ (.int .i64 m1)).setCell ⟨i9,1,none⟩ (.int .i64 m3)).setCell ⟨i9,2,none⟩ (.int .i64 m4)).setCell ⟨i9,3,none⟩ (.int .i64 m6)).heap[J]?=some (.cells #[.int .i16 e7,.int .i16 e8,.int .i16 e9,.int .i16 f0] 47 (0,0))):=⟨by (iterate 4 refine blk_far ?_ v5.1 _);exact B.1⟩
           have z1:Aside0 (((((p1.setCell ⟨i9,0,none⟩ (.int .i64 m1)).setCell ⟨i9,1,none⟩ (.int .i64 m3)).setCell ⟨i9,2,none⟩ (.int .i64 m4)).setCell ⟨i9,3,none⟩ (.int .i64 m6)).heap[L]?=some (.cells #[.int .i16 f1,.int .i16 f2,.int .i16 f3,.int .i16 f4] 47 (0,0))):=⟨by (iterate 4 refine blk_far ?_ v6.1 _);exact C.1⟩
           have z2:Aside0 (((((p1.setCell ⟨i9,0,none⟩ (.int .i64 m1)).setCell ⟨i9,1,none⟩ (.int .i64 m3)).setCell ⟨i9,2,none⟩ (.int .i64 m4)).setCell ⟨i9,3,none⟩ (.int .i64 m6)).heap[O]?=some (.cells #[.int .i16 f5,.int .i16 f6,.int .i16 f7,.int .i16 f8] 47 (0,0))):=⟨by (iterate 4 refine blk_far ?_ v7.1 _);exact D.1⟩
           have z3:Aside0 (((((p1.setCell ⟨i9,0,none⟩ (.int .i64 m1)).setCell ⟨i9,1,none⟩ (.int .i64 m3)).setCell ⟨i9,2,none⟩ (.int .i64 m4)).setCell ⟨i9,3,none⟩ (.int .i64 m6)).heap[Q]?=some (.cells #[.int .i64 i8,.int .i64 e6,.int .i64 f9,.int .i64 g1] 23 (0,0))):=⟨by (iterate 4 refine blk_far ?_ t5.1 _);exact F.1⟩
           have z4:Aside0 (((((p1.setCell ⟨i9,0,none⟩ (.int .i64 m1)).setCell ⟨i9,1,none⟩ (.int .i64 m3)).setCell ⟨i9,2,none⟩ (.int .i64 m4)).setCell ⟨i9,3,none⟩ (.int .i64 m6)).heap[R]?=some (.cells #[.int .i64 g5,.int .i64 g6,.int .i64 h0,.int .i64 h2] 23 (0,0))):=⟨by (iterate 4 refine blk_far ?_ t6.1 _);exact G.1⟩
           have z5:Aside0 (((((p1.setCell ⟨i9,0,none⟩ (.int .i64 m1)).setCell ⟨i9,1,none⟩ (.int .i64 m3)).setCell ⟨i9,2,none⟩ (.int .i64 m4)).setCell ⟨i9,3,none⟩ (.int .i64 m6)).heap[T]?=some (.cells #[.int .i64 g0,.int .i64 g2,.int .i64 g3,.int .i64 g4] 23 (0,0))):=⟨by (iterate 4 refine blk_far ?_ t7.1 _);exact E.1⟩
           have z6:Aside0 (((((p1.setCell ⟨i9,0,none⟩ (.int .i64 m1)).setCell ⟨i9,1,none⟩ (.int .i64 m3)).setCell ⟨i9,2,none⟩ (.int .i64 m4)).setCell ⟨i9,3,none⟩ (.int .i64 m6)).heap[l0]?=some (.cells #[.int .i64 h1,.int .i64 h3,.int .i64 h8,.int .i64 h9] 23 (0,0))):=⟨by (iterate 4 refine blk_far ?_ t8.1 _);exact V.1⟩
           have Y9:Aside0 (((((p1.setCell ⟨i9,0,none⟩ (.int .i64 m1)).setCell ⟨i9,1,none⟩ (.int .i64 m3)).setCell ⟨i9,2,none⟩ (.int .i64 m4)).setCell ⟨i9,3,none⟩ (.int .i64 m6)).heap[l3]?=some (.cells #[.int .i64 l4,.int .i64 l5,.int .i64 l8,.int .i64 l9] 23 (0,0))):=⟨by (iterate 4 refine blk_far ?_ t9.1 _);exact a3.1⟩
           have Z0:Aside0 (((((p1.setCell ⟨i9,0,none⟩ (.int .i64 m1)).setCell ⟨i9,1,none⟩ (.int .i64 m3)).setCell ⟨i9,2,none⟩ (.int .i64 m4)).setCell ⟨i9,3,none⟩ (.int .i64 m6)).heap[u9]?=some (.cells #[.int .i64 m0,.int .i64 m2,.int .i64 m5,.int .i64 m8] 23 (0,0))):=⟨by (iterate 4 refine blk_far ?_ u0.1 _);exact d9.1⟩
           have Z1:Aside0 (((((p1.setCell ⟨i9,0,none⟩ (.int .i64 m1)).setCell ⟨i9,1,none⟩ (.int .i64 m3)).setCell ⟨i9,2,none⟩ (.int .i64 m4)).setCell ⟨i9,3,none⟩ (.int .i64 m6)).heap[i9]?=some (.cells #[.int .i64 m1,.int .i64 m3,.int .i64 m4,.int .i64 m6] 23 (0,0))):=⟨by refine blk_put (cs:=#[.int .i64 m1,.int .i64 m3,.int .i64 m4,.int .i64 0]) ?_ 3 _ rfl;refine blk_put (cs:=#[.int .i64 m1,.int .i64 m3,.int .i64 0,.int .i64 0]) ?_ 2 _ rfl;refine blk_put (cs:=#[.int .i64 m1,.int .i64 0,.int .i64 0,.int .i64 0]) ?_ 1 _ rfl;refine blk_put (cs:=#[.int .i64 0,.int .i64 0,.int .i64 0,.int .i64 0]) ?_ 0 _ rfl;exact j7.1⟩
           have R5:Aside0 (Below w.heap.size w ((((p1.setCell ⟨i9,0,none⟩ (.int .i64 m1)).setCell ⟨i9,1,none⟩ (.int .i64 m3)).setCell ⟨i9,2,none⟩ (.int .i64 m4)).setCell ⟨i9,3,none⟩ (.int .i64 m6))):=⟨by repeat (first|(with_reducible first|exact U.1|apply below_alloc|apply pw_below_drewN|apply below_drew1|refine below_set ?_ o1.1|refine below_set ?_ o2.1|refine below_set ?_ o3.1|refine below_set ?_ d3.1|refine below_set ?_ d4.1|refine below_set ?_ d5.1|refine below_set ?_ l1.1|refine below_set ?_ l2.1|refine below_set ?_ q1.1|refine below_set ?_ G5.1)|exact U.1)⟩
           (try clear B);(try clear C);(try clear D);(try clear F);(try clear G);(try clear E);(try clear V);(try clear a3);(try clear d9);(try clear j7);(try clear U);generalize ((((p1.setCell ⟨i9,0,none⟩ (.int .i64 m1)).setCell ⟨i9,1,none⟩ (.int .i64 m3)).setCell ⟨i9,2,none⟩ (.int .i64 m4)).setCell ⟨i9,3,none⟩ (.int .i64 m6))=Bx at z0 z1 z2 z3 z4 z5 z6 Y9 Z0 Z1 R5 ⊢;have B:=z0;have C:=z1;have D:=z2;have F:=z3;have G:=z4;have E:=z5;have V:=z6;have a3:=Y9;have d9:=Z0;have j7:=Z1;have U:=R5;clear z0 z1 z2 z3 z4 z5 z6 Y9 Z0 Z1 R5;replace B:=bdr B;replace C:=bdr C;replace D:=bdr D;replace F:=bdr F;replace G:=bdr G;replace E:=bdr E;replace V:=bdr V;replace a3:=bdr a3;replace d9:=bdr d9;replace j7:=bdr j7;replace U:=hdr U;refine start_ (n:=21) (S:=fun w'=>w'.cell? ⟨i9,0,none⟩=some (.int .i64 m1)∧w'.cell? ⟨i9,1,none⟩=some (.int .i64 m3)∧w'.cell? ⟨i9,2,none⟩=some (.int .i64 m4)∧w'.cell? ⟨i9,3,none⟩=some (.int .i64 m6)∧w'.cell? ⟨l0,0,none⟩=some (.int .i64 h1)∧w'.cell? ⟨l0,1,none⟩=some (.int .i64 h3)∧w'.cell? ⟨l0,2,none⟩=some (.int .i64 h8)∧w'.cell? ⟨l0,3,none⟩=some (.int .i64 h9)) (ds:=[]) #[n_,n_,n_,n_,n_,n_,n_,n_,n_,n_,n_,n_,n_,n_,n_,n_,n_,n_,n_,n_,n_] (by kernel_rfl) rfl rfl ⟨q0_ j7,q1_ j7,q2_ j7,q3_ j7,q0_ V,q1_ V,q2_ V,q3_ V⟩ (fun I=>?_);refine with_tabW bellpulllaw04_NormDivisor.tab12 bellpulllaw04_NormDivisor.bits12 (fun j9 p5=>?_);generalize Bx.drew=Qv at B C D F G E V a3 d9 j7 U I ⊢;refine pure_ (i:=0) (N:=some 94) (v:=?_) (a':=?_) #[y_,n_,n_,n_,n_,n_,n_,n_,n_,n_,n_,n_,n_,n_,n_,n_,n_,n_,n_,n_,n_] rfl rfl (any_of j9.1 (by kernel_rfl)) (fun _ _ _ h=>h) (Or.inl ⟨by rfl,?_⟩) ?_ ?_;rotate_left
           ·
            intro w';go_simp;with_reducible rfl
           rotate_left
           ·
            simp only [Act.put,s0_,s1_,s2_,i64_w,i32_w];rfl
           refine pure_ (i:=1) (N:=some 95) (v:=?_) (a':=?_) #[y_,y_,n_,n_,n_,n_,n_,n_,n_,n_,n_,n_,n_,n_,n_,n_,n_,n_,n_,n_,n_] rfl rfl (any_of j9.1 (by kernel_rfl)) (fun _ _ _ h=>h) (Or.inl ⟨by rfl,?_⟩) ?_ ?_;rotate_left
           ·
            intro w';go_simp;with_reducible rfl
           rotate_left
           ·
            simp only [Act.put,s0_,s1_,s2_,i64_w,i32_w];rfl
           refine pure_ (i:=2) (N:=some 96) (v:=?_) (a':=?_) #[y_,y_,y_,n_,n_,n_,n_,n_,n_,n_,n_,n_,n_,n_,n_,n_,n_,n_,n_,n_,n_] rfl rfl (any_of j9.1 (by kernel_rfl)) (fun _ _ _ h=>h) (Or.inl ⟨by rfl,?_⟩) ?_ ?_;rotate_left
           ·
            intro w';go_simp;with_reducible rfl
           rotate_left
           ·
            simp only [Act.put,s0_,s1_,s2_,i64_w,i32_w];rfl
           refine take_ (i:=3) (N:=some 97) (v:=?_) (a':=?_) #[y_,y_,y_,y_,n_,n_,n_,n_,n_,n_,n_,n_,n_,n_,n_,n_,n_,n_,n_,n_,n_] rfl rfl (take_ofW j9.1 p5.1 (by kernel_rfl)) (fun _ _ _ h=>h) (Or.inl ⟨by rfl,?_⟩) I ?_ ?_;rotate_left
           ·
            rintro w' ⟨s0,s1,s2,s3,s4,s5,s6,s7⟩;go_simp;with_reducible rfl
           rotate_left
           ·
            simp only [Act.put,s0_,s1_,s2_,i64_w,i32_w];rfl
           refine take_ (i:=5) (N:=some 99) (v:=?_) (a':=?_) #[y_,y_,y_,y_,n_,y_,n_,n_,n_,n_,n_,n_,n_,n_,n_,n_,n_,n_,n_,n_,n_] rfl rfl (take_ofW j9.1 p5.1 (by kernel_rfl)) (fun _ _ _ h=>h) (Or.inl ⟨by rfl,?_⟩) I ?_ ?_;rotate_left
           ·
            rintro w' ⟨s0,s1,s2,s3,s4,s5,s6,s7⟩;go_simp;with_reducible rfl
           rotate_left
           ·
            simp only [Act.put,s0_,s1_,s2_,i64_w,i32_w];rfl
           refine one_ (i:=4) (N:=some 98) #[y_,y_,y_,y_,y_,y_,n_,n_,n_,n_,n_,n_,n_,n_,n_,n_,n_,n_,n_,n_,n_] rfl rfl (one_of j9.1 (by kernel_rfl)) (by decide) (fun K hK=>?_);refine goes_ Try.func34 (by kernel_rfl) rfl #[.agg #[.int .i64 m1,.int .i64 m3,.int .i64 m4,.int .i64 m6]] (by rfl) rfl rfl (by (try simp only [m0_,m1_,m2_]);first|done|rfl|(simp only [l0_,l1_];rfl)) ?_;with_reducible refine (bellpullref04_Norm.calls m1 m3 m4 m6 r3 _ Bd.1).mono ?_
           rintro e Qw ⟨rfl,hb⟩;refine ⟨_,rfl,?_⟩;replace B:=bkb B hb;replace C:=bkb C hb;replace D:=bkb D hb;replace F:=bkb F hb;replace G:=bkb G hb;replace E:=bkb E hb;replace V:=bkb V hb;replace a3:=bkb a3 hb;replace d9:=bkb d9 hb;replace j7:=bkb j7 hb;replace U:=bst U hb;(try clear hb);refine hK.out _ _ ⟨q0_ j7,q1_ j7,q2_ j7,q3_ j7,q0_ V,q1_ V,q2_ V,q3_ V⟩ (fun I=>?_);clear hK K;refine norm_ (a':=?_) ?_ ?_;rotate_left
           ·
            show Act.put _ (some 98) _=_;simp only [Act.put,s0_,s1_,s2_,i64_w,i32_w];rfl
           refine one_ (i:=6) (N:=some 100) #[y_,y_,y_,y_,y_,y_,y_,n_,n_,n_,n_,n_,n_,n_,n_,n_,n_,n_,n_,n_,n_] rfl rfl (one_of j9.1 (by kernel_rfl)) (by decide) (fun K hK=>?_);refine goes_ Try.func34 (by kernel_rfl) rfl #[.agg #[.int .i64 h1,.int .i64 h3,.int .i64 h8,.int .i64 h9]] (by rfl) rfl rfl (by (try simp only [m0_,m1_,m2_]);first|done|rfl|(simp only [l0_,l1_];rfl)) ?_;with_reducible refine (bellpullref04_Norm.calls h1 h3 h8 h9 r4 _ Be.1).mono ?_
           rintro e Qx ⟨rfl,hb⟩;refine ⟨_,rfl,?_⟩;replace B:=bkb B hb;replace C:=bkb C hb;replace D:=bkb D hb;replace F:=bkb F hb;replace G:=bkb G hb;replace E:=bkb E hb;replace V:=bkb V hb;replace a3:=bkb a3 hb;replace d9:=bkb d9 hb;replace j7:=bkb j7 hb;replace U:=bst U hb;(try clear hb);refine hK.out _ _ ⟨q0_ j7,q1_ j7,q2_ j7,q3_ j7,q0_ V,q1_ V,q2_ V,q3_ V⟩ (fun I=>?_);clear hK K;refine norm_ (a':=?_) ?_ ?_;rotate_left
           ·
            show Act.put _ (some 100) _=_;simp only [Act.put,s0_,s1_,s2_,i64_w,i32_w];rfl
           refine pure_ (i:=7) (N:=some 101) (v:=?_) (a':=?_) #[y_,y_,y_,y_,y_,y_,y_,y_,n_,n_,n_,n_,n_,n_,n_,n_,n_,n_,n_,n_,n_] rfl rfl (any_of j9.1 (by kernel_rfl)) (fun _ _ _ h=>h) (Or.inl ⟨by rfl,?_⟩) ?_ ?_;rotate_left
           ·
            intro w';go_simp;with_reducible rfl
           rotate_left
           ·
            simp only [Act.put,s0_,s1_,s2_,i64_w,i32_w];rfl
           refine pure_ (i:=8) (N:=some 102) (v:=?_) (a':=?_) #[y_,y_,y_,y_,y_,y_,y_,y_,y_,n_,n_,n_,n_,n_,n_,n_,n_,n_,n_,n_,n_] rfl rfl (any_of j9.1 (by kernel_rfl)) (fun _ _ _ h=>h) (Or.inl ⟨by rfl,?_⟩) ?_ ?_;rotate_left
           ·
            intro w';go_simp;with_reducible rfl
           rotate_left
           ·
            simp only [Act.put,s0_,s1_,s2_,i64_w,i32_w];rfl
           refine pure_ (i:=9) (N:=some 103) (v:=?_) (a':=?_) #[y_,y_,y_,y_,y_,y_,y_,y_,y_,y_,n_,n_,n_,n_,n_,n_,n_,n_,n_,n_,n_] rfl rfl (any_of j9.1 (by kernel_rfl)) (fun _ _ _ h=>h) (Or.inl ⟨by rfl,?_⟩) ?_ ?_;rotate_left
           ·
            intro w';go_simp;with_reducible rfl
           rotate_left
           ·
            simp only [Act.put,s0_,s1_,s2_,i64_w,i32_w];rfl
           refine take_ (i:=10) (N:=some 104) (v:=?_) (a':=?_) #[y_,y_,y_,y_,y_,y_,y_,y_,y_,y_,y_,n_,n_,n_,n_,n_,n_,n_,n_,n_,n_] rfl rfl (take_ofW j9.1 p5.1 (by kernel_rfl)) (fun _ _ _ h=>h) (Or.inl ⟨by rfl,?_⟩) I ?_ ?_;rotate_left
           ·
            rintro w' ⟨s0,s1,s2,s3,s4,s5,s6,s7⟩;go_simp;with_reducible rfl
           rotate_left
           ·
            simp only [Act.put,s0_,s1_,s2_,i64_w,i32_w];rfl
           refine take_ (i:=11) (N:=some 105) (v:=?_) (a':=?_) #[y_,y_,y_,y_,y_,y_,y_,y_,y_,y_,y_,y_,n_,n_,n_,n_,n_,n_,n_,n_,n_] rfl rfl (take_ofW j9.1 p5.1 (by kernel_rfl)) (fun _ _ _ h=>h) (Or.inl ⟨by rfl,?_⟩) I ?_ ?_;rotate_left
           ·
            rintro w' ⟨s0,s1,s2,s3,s4,s5,s6,s7⟩;go_simp;with_reducible rfl
           rotate_left
           ·
            simp only [Act.put,s0_,s1_,s2_,i64_w,i32_w];rfl
           refine one_ (i:=12) (N:=some 106) #[y_,y_,y_,y_,y_,y_,y_,y_,y_,y_,y_,y_,y_,n_,n_,n_,n_,n_,n_,n_,n_] rfl rfl (one_of j9.1 (by kernel_rfl)) (by decide) (fun K hK=>?_);refine goes_ Try.func35 (by kernel_rfl) rfl #[.agg #[.int .i64 m1,.int .i64 m3,.int .i64 m4,.int .i64 m6],.agg #[.int .i64 h1,.int .i64 h3,.int .i64 h8,.int .i64 h9]] (by rfl) rfl rfl (by (try simp only [m0_,m1_,m2_]);first|done|rfl|(simp only [l0_,l1_];rfl)) ?_;with_reducible refine (bellpulllaw04_divides.calls kj103 m1 m3 m4 m6 h1 h3 h8 h9 true _ Bf.1).mono ?_
           rintro e Qy ⟨rfl,hb⟩;refine ⟨_,rfl,?_⟩;replace B:=bkb B hb;replace C:=bkb C hb;replace D:=bkb D hb;replace F:=bkb F hb;replace G:=bkb G hb;replace E:=bkb E hb;replace V:=bkb V hb;replace a3:=bkb a3 hb;replace d9:=bkb d9 hb;replace j7:=bkb j7 hb;replace U:=bst U hb;(try clear hb);refine hK.out _ _ ⟨q0_ j7,q1_ j7,q2_ j7,q3_ j7,q0_ V,q1_ V,q2_ V,q3_ V⟩ (fun I=>?_);clear hK K;refine norm_ (a':=?_) ?_ ?_;rotate_left
           ·
            show Act.put _ (some 106) _=_;simp only [Act.put,s0_,s1_,s2_,i64_w,i32_w];rfl
           refine pure_ (i:=13) (N:=some 107) (v:=?_) (a':=?_) #[y_,y_,y_,y_,y_,y_,y_,y_,y_,y_,y_,y_,y_,y_,n_,n_,n_,n_,n_,n_,n_] rfl rfl (any_of j9.1 (by kernel_rfl)) (fun _ _ _ h=>h) (Or.inl ⟨by rfl,?_⟩) ?_ ?_;rotate_left
           ·
            intro w';go_simp;with_reducible rfl
           rotate_left
           ·
            simp only [Act.put,s0_,s1_,s2_,i64_w,i32_w];rfl
           refine pure_ (i:=14) (N:=some 108) (v:=?_) (a':=?_) #[y_,y_,y_,y_,y_,y_,y_,y_,y_,y_,y_,y_,y_,y_,y_,n_,n_,n_,n_,n_,n_] rfl rfl (any_of j9.1 (by kernel_rfl)) (fun _ _ _ h=>h) (Or.inl ⟨by rfl,?_⟩) ?_ ?_;rotate_left
           ·
            intro w';go_simp;with_reducible rfl
           rotate_left
           ·
            simp only [Act.put,s0_,s1_,s2_,i64_w,i32_w];rfl
           refine take_ (i:=15) (N:=some 109) (v:=?_) (a':=?_) #[y_,y_,y_,y_,y_,y_,y_,y_,y_,y_,y_,y_,y_,y_,y_,y_,n_,n_,n_,n_,n_] rfl rfl (take_ofW j9.1 p5.1 (by kernel_rfl)) (fun _ _ _ h=>h) (Or.inl ⟨by rfl,?_⟩) I ?_ ?_;rotate_left
           ·
            rintro w' ⟨s0,s1,s2,s3,s4,s5,s6,s7⟩;go_simp;with_reducible rfl
           rotate_left
           ·
            simp only [Act.put,s0_,s1_,s2_,i64_w,i32_w];rfl
           refine take_ (i:=16) (N:=some 110) (v:=?_) (a':=?_) #[y_,y_,y_,y_,y_,y_,y_,y_,y_,y_,y_,y_,y_,y_,y_,y_,y_,n_,n_,n_,n_] rfl rfl (take_ofW j9.1 p5.1 (by kernel_rfl)) (fun _ _ _ h=>h) (Or.inl ⟨by rfl,?_⟩) I ?_ ?_;rotate_left
           ·
            rintro w' ⟨s0,s1,s2,s3,s4,s5,s6,s7⟩;go_simp;with_reducible rfl
           rotate_left
           ·
            simp only [Act.put,s0_,s1_,s2_,i64_w,i32_w];rfl
           refine one_ (i:=17) (N:=some 111) #[y_,y_,y_,y_,y_,y_,y_,y_,y_,y_,y_,y_,y_,y_,y_,y_,y_,y_,n_,n_,n_] rfl rfl (one_of j9.1 (by kernel_rfl)) (by decide) (fun K hK=>?_);refine goes_ Try.func36 (by kernel_rfl) rfl #[.agg #[.int .i64 m1,.int .i64 m3,.int .i64 m4,.int .i64 m6],.agg #[.int .i64 h1,.int .i64 h3,.int .i64 h8,.int .i64 h9]] (by rfl) rfl rfl (by (try simp only [m0_,m1_,m2_]);first|done|rfl|(simp only [l0_,l1_];rfl)) ?_;with_reducible refine (bellpullref04_Less.calls kj103 m1 m3 m4 m6 h1 h3 h8 h9 v4 _ Bg.1).mono ?_
           rintro e Qz ⟨rfl,hb⟩;refine ⟨_,rfl,?_⟩;replace B:=bkb B hb;replace C:=bkb C hb;replace D:=bkb D hb;replace F:=bkb F hb;replace G:=bkb G hb;replace E:=bkb E hb;replace V:=bkb V hb;replace a3:=bkb a3 hb;replace d9:=bkb d9 hb;replace j7:=bkb j7 hb;replace U:=bst U hb;(try clear hb);refine hK.out _ _ ⟨q0_ j7,q1_ j7,q2_ j7,q3_ j7,q0_ V,q1_ V,q2_ V,q3_ V⟩ (fun I=>?_);clear hK K;refine norm_ (a':=?_) ?_ ?_;rotate_left
           ·
            show Act.put _ (some 111) _=_;simp only [Act.put,s0_,s1_,s2_,i64_w,i32_w];rfl
           refine pure_ (i:=18) (N:=some 112) (v:=?_) (a':=?_) #[y_,y_,y_,y_,y_,y_,y_,y_,y_,y_,y_,y_,y_,y_,y_,y_,y_,y_,y_,n_,n_] rfl rfl (any_of j9.1 (by kernel_rfl)) (fun _ _ _ h=>h) (Or.inl ⟨by rfl,?_⟩) ?_ ?_;rotate_left
           ·
            intro w';go_simp;with_reducible rfl
           rotate_left
           ·
            simp only [Act.put,s0_,s1_,s2_,i64_w,i32_w];rfl
           refine pure_ (i:=19) (N:=some 113) (v:=?_) (a':=?_) #[y_,y_,y_,y_,y_,y_,y_,y_,y_,y_,y_,y_,y_,y_,y_,y_,y_,y_,y_,y_,n_] rfl rfl (any_of j9.1 (by kernel_rfl)) (fun _ _ _ h=>h) (Or.inl ⟨by rfl,?_⟩) ?_ ?_;rotate_left
           ·
            intro w';go_simp;with_reducible rfl
           rotate_left
           ·
            simp only [Act.put,s0_,s1_,s2_,i64_w,i32_w];rfl
           refine pure_ (i:=20) (N:=some 6) (v:=?_) (a':=?_) #[y_,y_,y_,y_,y_,y_,y_,y_,y_,y_,y_,y_,y_,y_,y_,y_,y_,y_,y_,y_,y_] rfl rfl (any_of j9.1 (by kernel_rfl)) (fun _ _ _ h=>h) (Or.inl ⟨by rfl,?_⟩) ?_ ?_;rotate_left
           ·
            intro w';go_simp;with_reducible rfl
           rotate_left
           ·
            simp only [Act.put,s0_,s1_,s2_,i64_w,i32_w];rfl
           refine done_ (done_of j9.1 (by kernel_rfl)) ?_;try go_wp2
           go_ret;exact ⟨by first|rfl|(simp [errW_none,errW_some] <;> rfl)|(simp [*,errW_none,errW_some] <;> rfl),by repeat (first|(with_reducible first|exact U.1|apply below_alloc|apply pw_below_drewN|apply below_drew1|refine below_set ?_ o1.1|refine below_set ?_ o2.1|refine below_set ?_ o3.1|refine below_set ?_ d3.1|refine below_set ?_ d4.1|refine below_set ?_ d5.1|refine below_set ?_ l1.1|refine below_set ?_ l2.1|refine below_set ?_ q1.1|refine below_set ?_ G5.1)|exact U.1)⟩
          ·
           replace F5:=Bool.eq_false_iff.mpr F5;subst F5;have H1:(none)=some r:=by rw [if_neg (show ¬ (false=true) by decide)] at H;exact H
           clear H;have H:=H1;clear H1;exact absurd H (by simp)
         ·
          rw [if_neg c197] at H;exact absurd H (by simp)
        ·
         rw [if_neg c194] at H;exact absurd H (by simp)
end Go.Proofs.Ytgfnmimfoicmmaa.PM
