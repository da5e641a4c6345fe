-- Written by pr2.py, a program of this session's, for this claim (through the kit's print).
import Derived.Test.YtgfnmimfoicmmaaPMx0
import Derived.Test.YtgfnmimfoicmmaaPMx1
import Derived.Test.YtgfnmimfoicmmaaPMx7
import Derived.Test.YtgfnmimfoicmmaaPMx20
import Derived.Test.YtgfnmimfoicmmaaPMx22
import Derived.Test.YtgfnmimfoicmmaaPMx23
import Derived.Test.YtgfnmimfoicmmaaPMx33
import Derived.Test.YtgfnmimfoicmmaaPMx34
namespace Go.Proofs.Ytgfnmimfoicmmaa.PM
open Go.Proofs.MyWords Go.RowKit Go.Proofs.YtgfnmimfoicmmaaW.PrintWords Go.Proofs.YtgfnmimfoicmmaaW.PrintLast Go.Proofs.YtgfnmimfoicmmaaW.PrintMore
attribute [local go_sem] max2_int min2_int max_two min_two max_three min_three max_four min_four   -- for this text's walks alone
set_option linter.unusedVariables false
set_option linter.unusedSimpArgs false

attribute [local go_sem] idx67_0 idx67_1 idx67_2 idx67_3
attribute [local go_sem] eqGuard_slices eqlnil36 neqnil36
attribute [local go_sem high] eqA23
/-! ### bellpulllaw04_NormUnits: function 16 -/
mutual
def bellpulllaw04_NormUnits.j0:Nat → Int → Int → List (S23) → Bool → Option (Bool)
  | 0,_,_,_,_=>none
  | k + 1,x0,x1,x5,x23=>if x23=true then (none) else (bellpulllaw04_NormUnits.l0 k x0 x1 x5 0)
def bellpulllaw04_NormUnits.l0:Nat → Int → Int → List (S23) → Int → Option (Bool)
  | 0,_,_,_,_=>none
  | k + 1,x0,x1,x5,x6=>if x6 < 24 then (if 0 ≤ x6 then (if x6 < (x5.length:Int) then ((bellpullref04_Check.f k (([(⟨(rd_T23 x5 x6).f0,(rd_T23 x5 x6).f1,(rd_T23 x5 x6).f2,(rd_T23 x5 x6).f3⟩:S23)]:List (S23)))).bind fun t780=>(if t780=0 then ((bellpullref04_Norm.f ((rd_T23 x5 x6).f0) ((rd_T23 x5 x6).f1) ((rd_T23 x5 x6).f2) ((rd_T23 x5 x6).f3)).bind fun t782=>(if t782=1 then (if x6 > 0 then (if 0 ≤ (wrap64 (x6 - 1)) then (if (wrap64 (x6 - 1)) < (x5.length:Int) then ((bellpullref04_Less.f k ((rd_T23 x5 (wrap64 (x6 - 1))).f0) ((rd_T23 x5 (wrap64 (x6 - 1))).f1) ((rd_T23 x5 (wrap64 (x6 - 1))).f2) ((rd_T23 x5 (wrap64 (x6 - 1))).f3) ((rd_T23 x5 x6).f0) ((rd_T23 x5 x6).f1) ((rd_T23 x5 x6).f2) ((rd_T23 x5 x6).f3)).bind fun t785=>(if t785=true then (bellpulllaw04_NormUnits.l0 k x0 x1 x5 (wrap64 (x6 + 1))) else (none))) else (none)) else (none)) else (bellpulllaw04_NormUnits.l0 k x0 x1 x5 (wrap64 (x6 + 1)))) else (none))) else (none))) else (none)) else (none)) else (if 0 ≤ (Int.tmod (wrap64 (x0)) 24) then (if (Int.tmod (wrap64 (x0)) 24) < (x5.length:Int) then (if 0 ≤ (Int.tmod (wrap64 (x1)) 24) then (if (Int.tmod (wrap64 (x1)) 24) < (x5.length:Int) then ((norm_Mul.f k ((rd_T23 x5 (Int.tmod (wrap64 (x0)) 24)).f0) ((rd_T23 x5 (Int.tmod (wrap64 (x0)) 24)).f1) ((rd_T23 x5 (Int.tmod (wrap64 (x0)) 24)).f2) ((rd_T23 x5 (Int.tmod (wrap64 (x0)) 24)).f3) ((rd_T23 x5 (Int.tmod (wrap64 (x1)) 24)).f0) ((rd_T23 x5 (Int.tmod (wrap64 (x1)) 24)).f1) ((rd_T23 x5 (Int.tmod (wrap64 (x1)) 24)).f2) ((rd_T23 x5 (Int.tmod (wrap64 (x1)) 24)).f3)).bind fun bt788=>((norm_Conj.f k ((rd_T23 x5 (Int.tmod (wrap64 (x0)) 24)).f0) ((rd_T23 x5 (Int.tmod (wrap64 (x0)) 24)).f1) ((rd_T23 x5 (Int.tmod (wrap64 (x0)) 24)).f2) ((rd_T23 x5 (Int.tmod (wrap64 (x0)) 24)).f3)).bind fun bt795=>((norm_Mul.f k ((rd_T23 x5 (Int.tmod (wrap64 (x0)) 24)).f0) ((rd_T23 x5 (Int.tmod (wrap64 (x0)) 24)).f1) ((rd_T23 x5 (Int.tmod (wrap64 (x0)) 24)).f2) ((rd_T23 x5 (Int.tmod (wrap64 (x0)) 24)).f3) bt795.1 bt795.2.1 bt795.2.2.1 bt795.2.2.2.1).bind fun bt802=>(bellpulllaw04_NormUnits.l1 k x5 bt788.2.2.2.2 bt795.2.2.2.2 bt802.2.2.2.2 false 0 bt788.1 bt788.2.1 bt788.2.2.1 bt788.2.2.2.1 bt802.1 bt802.2.1 bt802.2.2.1 bt802.2.2.2.1)))) else (none)) else (none)) else (none)) else (none))
def bellpulllaw04_NormUnits.l1:Nat → List (S23) → Int → Int → Int → Bool → Int → Int → Int → Int → Int → Int → Int → Int → Int → Option (Bool)
  | 0,_,_,_,_,_,_,_,_,_,_,_,_,_,_=>none
  | k + 1,x5,x8,x10,x12,x13,x14,x794000,x794001,x794002,x794003,x808000,x808001,x808002,x808003=>if x14 < 24 then (if x13=true then (bellpulllaw04_NormUnits.l1 k x5 x8 x10 x12 true (wrap64 (x14 + 1)) x794000 x794001 x794002 x794003 x808000 x808001 x808002 x808003) else (if 0 ≤ x14 then (if x14 < (x5.length:Int) then (bellpulllaw04_NormUnits.l1 k x5 x8 x10 x12 (((rd_T23 x5 x14).f0) == x794000 && (((rd_T23 x5 x14).f1) == x794001 && (((rd_T23 x5 x14).f2) == x794002 && (((rd_T23 x5 x14).f3) == x794003)))) (wrap64 (x14 + 1)) x794000 x794001 x794002 x794003 x808000 x808001 x808002 x808003) else (none)) else (none))) else (if 0 < (x5.length:Int) then ((some (x5.set (0:Int).toNat (⟨0,0,0,0⟩:S23):List (S23))).bind fun y809=>((norm_Units.f k).bind fun t810=>(if x8=0 then (if x10=0 then (if x12=0 then (if x13=true then (if (x808000 == 2 && (x808001 == 0 && (x808002 == 0 && (x808003 == 0))))=true then (if (t810.length:Int)=24 then (if 0 < (t810.length:Int) then (some (!(((rd_T23 t810 0).f0) == ((rd_T23 y809 0).f0)) || (!(((rd_T23 t810 0).f1) == ((rd_T23 y809 0).f1)) || (!(((rd_T23 t810 0).f2) == ((rd_T23 y809 0).f2)) || (!(((rd_T23 t810 0).f3) == ((rd_T23 y809 0).f3))))))) else (none)) else (none)) else (none)) else (none)) else (none)) else (none)) else (none)))) else (none))
end
def bellpulllaw04_NormUnits.f (k:Nat) (a0:Int) (a1:Int):Option (Bool):=(norm_Units.f k).bind fun t772=>(if (t772.length:Int)=24 then ((bellpulllaw04_lives.f k).bind fun t775=>(bellpulllaw04_NormUnits.j0 k a0 a1 t772 (!t775))) else (none))
theorem bellpulllaw04_NormUnits.mono_l:∀ k,(∀ B C D E,LeO (bellpulllaw04_NormUnits.j0 k B C D E) (bellpulllaw04_NormUnits.j0 (k + 1) B C D E))∧(∀ B C D E,LeO (bellpulllaw04_NormUnits.l0 k B C D E) (bellpulllaw04_NormUnits.l0 (k + 1) B C D E))∧(∀ B C D E O Q R T U V F G I J,LeO (bellpulllaw04_NormUnits.l1 k B C D E O Q R T U V F G I J) (bellpulllaw04_NormUnits.l1 (k + 1) B C D E O Q R T U V F G I J))
  | 0=>⟨fun _ _ _ _ r h=>by simp [bellpulllaw04_NormUnits.j0] at h,fun _ _ _ _ r h=>by simp [bellpulllaw04_NormUnits.l0] at h,fun _ _ _ _ _ _ _ _ _ _ _ _ _ _ r h=>by simp [bellpulllaw04_NormUnits.l1] at h⟩
  | k + 1=>by
    obtain ⟨L,M,N⟩:=bellpulllaw04_NormUnits.mono_l k
    refine ⟨?_,?_,?_⟩
    · intro B C D E
      unfold bellpulllaw04_NormUnits.j0
      with_reducible repeat' first|exact L _ _ _ _|exact M _ _ _ _|exact N _ _ _ _ _ _ _ _ _ _ _ _ _ _|exact bellpulllaw04_lives.mono _|exact bellpullref04_Check.mono _ _|exact bellpullref04_Less.mono _ _ _ _ _ _ _ _ _|exact norm_Conj.mono _ _ _ _ _|exact norm_Mul.mono _ _ _ _ _ _ _ _ _|exact norm_Units.mono _|exact LeO.refl _|exact LeO.none _|refine LeO.ite ?_ ?_|refine LeO.bind ?_ (fun _=>?_)
    · intro B C D E
      unfold bellpulllaw04_NormUnits.l0
      with_reducible repeat' first|exact L _ _ _ _|exact M _ _ _ _|exact N _ _ _ _ _ _ _ _ _ _ _ _ _ _|exact bellpulllaw04_lives.mono _|exact bellpullref04_Check.mono _ _|exact bellpullref04_Less.mono _ _ _ _ _ _ _ _ _|exact norm_Conj.mono _ _ _ _ _|exact norm_Mul.mono _ _ _ _ _ _ _ _ _|exact norm_Units.mono _|exact LeO.refl _|exact LeO.none _|refine LeO.ite ?_ ?_|refine LeO.bind ?_ (fun _=>?_)
    · intro B C D E O Q R T U V F G I J
      unfold bellpulllaw04_NormUnits.l1
      with_reducible repeat' first|exact L _ _ _ _|exact M _ _ _ _|exact N _ _ _ _ _ _ _ _ _ _ _ _ _ _|exact bellpulllaw04_lives.mono _|exact bellpullref04_Check.mono _ _|exact bellpullref04_Less.mono _ _ _ _ _ _ _ _ _|exact norm_Conj.mono _ _ _ _ _|exact norm_Mul.mono _ _ _ _ _ _ _ _ _|exact norm_Units.mono _|exact LeO.refl _|exact LeO.none _|refine LeO.ite ?_ ?_|refine LeO.bind ?_ (fun _=>?_)
theorem bellpulllaw04_NormUnits.mono:∀ a0 a1 k,LeO (bellpulllaw04_NormUnits.f k a0 a1) (bellpulllaw04_NormUnits.f (k + 1) a0 a1):=by
  intro a0 a1 k
  obtain ⟨ih0,ih1,ih2⟩:=bellpulllaw04_NormUnits.mono_l k
  unfold bellpulllaw04_NormUnits.f
  with_reducible repeat' first|exact ih0 _ _ _ _|exact ih1 _ _ _ _|exact ih2 _ _ _ _ _ _ _ _ _ _ _ _ _ _|exact bellpulllaw04_lives.mono _|exact bellpullref04_Check.mono _ _|exact bellpullref04_Less.mono _ _ _ _ _ _ _ _ _|exact norm_Conj.mono _ _ _ _ _|exact norm_Mul.mono _ _ _ _ _ _ _ _ _|exact norm_Units.mono _|exact LeO.refl _|exact LeO.none _|refine LeO.ite ?_ ?_|refine LeO.bind ?_ (fun _=>?_)
def bellpulllaw04_NormUnits.T7:Bool × List (List Nat × List Nat):=(true,[([],[]),([],[]),([0,1],[0,1]),([2],[2]),([3],[3]),([4],[4]),([5],[5]),([6,5],[6]),([7],[7]),([7],[7]),([8,9,7],[7,8,9]),([10,7],[7,10]),([11,7,7],[7,11]),([12,7],[7,12]),([7,13],[7,13]),([14,12],[14]),([15],[15]),([16,15],[15,16]),([17,15,15],[15,17]),([18],[18]),([18],[18]),([20,18],[18,20]),([19,21,18],[18,19,21]),([22,18],[18,22]),([18],[18]),([18],[18]),([24,25,18],[18,24,25]),([26,18],[18,26]),([23,27,18,18],[18,23,27]),([28,18],[18,28]),([18,29,15],[15,18,29]),([15,30],[15,30])])
def bellpulllaw04_NormUnits.B7:List Nat:=[0,0,3,7,15,31,63,127,255,255,1023,2047,4095,8191,16383,32767,65535,131071,262143,524287,524287,1572863,4194303,8388607,524287,524287,50855935,117964799,268435455,536870911,1073741823,2147483647]
theorem bellpulllaw04_NormUnits.tab7:rtab .any (opsOf Try.f16 7)=bellpulllaw04_NormUnits.T7:=by kernel_rfl
theorem bellpulllaw04_NormUnits.bits7:waitsOk bellpulllaw04_NormUnits.T7.2 bellpulllaw04_NormUnits.B7=true:=by kernel_rfl
def bellpulllaw04_NormUnits.T9:Bool × List (List Nat × List Nat):=(true,[([],[]),([],[]),([1],[1]),([2],[2]),([0,3],[0,3]),([4],[4]),([],[]),([],[]),([7],[7]),([8],[8]),([6,9],[6,9]),([10],[10]),([5,11],[5,11]),([12],[12]),([13],[13]),([13],[13]),([],[]),([16,14,12,0,1,2,3,4,5,6,7,8,9,10,11,12,13,14,16],[14,16]),([15,17,0,1,2,3,4,5,6,7,8,9,10,11,12,13,14,15,16,17],[15])])
def bellpulllaw04_NormUnits.B9:List Nat:=[0,0,2,6,15,31,0,0,128,384,960,1984,4095,8191,16383,16383,0,98303,262143]
theorem bellpulllaw04_NormUnits.tab9:rtab .any (opsOf Try.f16 9)=bellpulllaw04_NormUnits.T9:=by kernel_rfl
theorem bellpulllaw04_NormUnits.bits9:waitsOk bellpulllaw04_NormUnits.T9.2 bellpulllaw04_NormUnits.B9=true:=by kernel_rfl
def bellpulllaw04_NormUnits.T11:Bool × List (List Nat × List Nat):=(true,[([],[]),([],[]),([1],[1]),([2],[2]),([0,3],[0,3]),([4],[4]),([],[]),([5,6],[5,6]),([7],[7]),([8],[8]),([8],[8]),([],[]),([11,9,7,0,1,2,3,4,5,6,7,8,9,11],[9,11]),([10,12,0,1,2,3,4,5,6,7,8,9,10,11,12],[10])])
def bellpulllaw04_NormUnits.B11:List Nat:=[0,0,2,6,15,31,0,127,255,511,511,0,3071,8191]
theorem bellpulllaw04_NormUnits.tab11:rtab .any (opsOf Try.f16 11)=bellpulllaw04_NormUnits.T11:=by kernel_rfl
theorem bellpulllaw04_NormUnits.bits11:waitsOk bellpulllaw04_NormUnits.T11.2 bellpulllaw04_NormUnits.B11=true:=by kernel_rfl
def bellpulllaw04_NormUnits.T16:Bool × List (List Nat × List Nat):=(true,[([],[]),([0],[0]),([1],[1]),([1],[1]),([2,3,1],[1,2,3]),([4,1],[1,4]),([1],[1]),([5,6,1],[1,5,6]),([1,7],[1,7]),([8,1,0,1,2,3,4,5,6,7,8],[0,8])])
def bellpulllaw04_NormUnits.B16:List Nat:=[0,1,3,3,15,31,3,127,255,511]
theorem bellpulllaw04_NormUnits.tab16:rtab .any (opsOf Try.f16 16)=bellpulllaw04_NormUnits.T16:=by kernel_rfl
theorem bellpulllaw04_NormUnits.bits16:waitsOk bellpulllaw04_NormUnits.T16.2 bellpulllaw04_NormUnits.B16=true:=by kernel_rfl
def bellpulllaw04_NormUnits.T19:Bool × List (List Nat × List Nat):=(true,[([],[]),([0],[0]),([1],[1]),([2],[2]),([3,2],[2,3]),([2,4],[2,4]),([5,2],[5]),([6],[6]),([7,6],[6,7]),([6,8],[6,8]),([9,6],[9]),([10],[10]),([10,11],[10,11]),([12,10],[12]),([13],[13]),([13],[13]),([14,15,13],[13,14,15]),([13,16],[13,16]),([17,13],[17]),([18],[18]),([19,18],[18,19]),([20,18],[18,20]),([18,21],[18,21]),([22,18],[22]),([23],[23]),([24,23],[23,24]),([25,23],[23,25]),([23],[23]),([27,23],[23,27]),([28,23],[23,28]),([26,29,23],[23,26,29]),([23,30],[23,30]),([31,23,0,1,2,3,4,5,6,7,8,9,10,11,12,13,14,15,16,17,18,19,20,21,22,23,24,25,26,27,28,29,30,31],[31])])
def bellpulllaw04_NormUnits.B19:List Nat:=[0,1,3,7,15,31,63,127,255,511,1023,2047,4095,8191,16383,16383,65535,131071,262143,524287,1048575,2097151,4194303,8388607,16777215,33554431,67108863,16777215,150994943,419430399,1073741823,2147483647,4294967295]
theorem bellpulllaw04_NormUnits.tab19:rtab .any (opsOf Try.f16 19)=bellpulllaw04_NormUnits.T19:=by kernel_rfl
theorem bellpulllaw04_NormUnits.bits19:waitsOk bellpulllaw04_NormUnits.T19.2 bellpulllaw04_NormUnits.B19=true:=by kernel_rfl
set_option maxHeartbeats 8000000 in
set_option maxRecDepth 100000 in
theorem bellpulllaw04_NormUnits.calls (k:Nat) (a0:Int) (a1:Int) (r:Bool) (w:World) (h:bellpulllaw04_NormUnits.f k a0 a1=some r) :
    Calls Try.prog 16 #[.int .u8 a0,.int .u8 a1] w fun e w'=>e=.returned (.bool r)∧Below w.heap.size w w':=by
 have J5:=Try.underlying23;have V:=mk0 (Below.refl w.heap.size w);have H:((norm_Units.f k).bind fun C=>(if (C.length:Int)=24 then ((bellpulllaw04_lives.f k).bind fun t4=>(bellpulllaw04_NormUnits.j0 k a0 a1 C (!t4))) else (none)))=some r:=h;clear h;replace H:=Option.bind_eq_some_iff.mp H;obtain ⟨C,E4,H⟩:=H;(try dsimp only at H);have A3:=mk0 E4;clear E4;have z8:=mk0 H;clear H;go_enter Try.func16,Try.ntmps16;go_upto_region 2 with (first|((with_reducible refine gate_callee (f:=46) rfl ?_);refine goesL_ (some 16) rfl rfl Try.func46 (by kernel_rfl) rfl #[] rfl (by (try simp only [m0_,m1_,m2_]);first|done|rfl|(simp only [l0_,l1_];rfl)) ?_;(with_reducible refine (norm_Units.calls k  C _ A3.1).mono ?_);rintro e w5 ⟨z9,rfl,r3,hb⟩;refine ⟨_,rfl,?_⟩;have p0:=mk0 (Kd.R_lower r3 (below_size V.1));replace V:=bst V hb;(try clear hb);(try clear r3)));(try simp only [Act.put,s0_,s1_,s2_])
 go_cut [23] (fun G7 wc=>∃ (kq:Nat) (p1:Bool),G7=.bool p1∧Aside0 (bellpulllaw04_NormUnits.j0 kq a0 a1 C p1=some r)∧Aside0 (kq ≤ k)∧Aside0 (Kd.R k23 23 wc w.heap.size (fun _=>True) z9 C)∧Aside0 (Below w.heap.size w wc))
 case first =>
  have H:=z8.1;clear z8
  by_cases c6:(C.length:Int)=24
  ·
   rw [if_pos c6] at H;have c6b0:((C.length:Int) == 24)=true:=beq_iff_eq.mpr c6;have c6b1:((C.length:Int) != 24)=false:=bne_eq_false_iff_eq.mpr c6;clear c6;(first|rw [c6b0]|(simp only [i64_w,i32_w];rw [c6b0])|skip);replace H:=Option.bind_eq_some_iff.mp H;obtain ⟨t4,E5,H⟩:=H;(try dsimp only at H);have A7:=mk0 E5;clear E5;have H':=mk0 H;clear H;obtain ⟨N1,N2,G8⟩:=Kd.R_slice p0.1;subst G8;go_wp2_with (first|(go_at_call 19;(with_reducible refine (bellpulllaw04_lives.calls k  t4 _ A7.1).mono ?_);rintro e w9 ⟨rfl,hb⟩;replace p0:=rbl p0 hb;replace V:=bst V hb;(try clear hb)));go_meet
   case rel=>exact ⟨_,(!t4),(by first|rfl|(simp;done)|(simp [*];done)),H',⟨by first|omega|exact Nat.le_refl _⟩,⟨by (with_reducible repeat (first|apply Kd.R_alloc|apply Kd.R_drewN|apply Kd.R_drew));exact p0.1⟩,⟨by repeat (first|(with_reducible first|exact V.1|apply below_alloc|apply pw_below_drewN|apply below_drew1)|exact V.1)⟩⟩
  ·
   rw [if_neg c6] at H;exact absurd H (by simp)
 case rest =>
  clear z8;try clear c1
  try clear p2
  try clear c4
  try clear c6
  try clear c6b0
  try clear c6b1
  obtain ⟨kq,p1,rfl,HA,o5,D,V⟩:=hcut;cases kq with
  | zero=>exact absurd HA.1 (by simp [bellpulllaw04_NormUnits.j0])
  | succ kj3 =>
   have H:=HA.1;clear HA;simp only [bellpulllaw04_NormUnits.j0] at H
   by_cases u2:p1=true
   ·
    subst u2;have H1:(none)=some r:=by rw [if_pos rfl] at H;exact H
    clear H;have H:=H1;clear H1;exact absurd H (by simp)
   ·
    replace u2:=Bool.eq_false_iff.mpr u2;subst u2;have H1:(bellpulllaw04_NormUnits.l0 kj3 a0 a1 C 0)=some r:=by rw [if_neg (show ¬ (false=true) by decide)] at H;exact H
    clear H;have H:=H1;clear H1;have H':=mk0 H;clear H;go_wp2
    go_loopg [6] kj3 (fun kq v6 w'=>∃ (E:Int),v6=.int .i64 E∧Aside0 (bellpulllaw04_NormUnits.l0 kq a0 a1 C E=some r)∧Aside0 (kq ≤ kj3)∧Aside0 (Kd.R k23 23 w' w.heap.size (fun _=>True) z9 C)∧Aside0 (Below w.heap.size w w'))
    case atStart=>exact ⟨(0),(by first|rfl|(simp;done)|(simp [*];done)),H',⟨Nat.le_refl _⟩,⟨by (with_reducible repeat (first|apply Kd.R_alloc|apply Kd.R_drewN|apply Kd.R_drew));exact D.1⟩,⟨by repeat (first|(with_reducible first|exact V.1|apply below_alloc|apply pw_below_drewN|apply below_drew1)|exact V.1)⟩⟩
    case round =>
     clear H';try clear c1
     try clear p2
     try clear c4
     try clear c6
     try clear c6b0
     try clear c6b1
     try clear u2
     try clear p2
     obtain ⟨E,rfl,HA,o6,D,V⟩:=hrel;cases gk with
     | zero=>exact absurd HA.1 (by simp [bellpulllaw04_NormUnits.l0])
     | succ k2 =>
      have H:=HA.1;clear HA;simp only [bellpulllaw04_NormUnits.l0] at H
      by_cases c11:E < 24
      ·
       rw [if_pos c11] at H;have c11b0:decide (E < 24)=true:=decide_eq_true c11;clear c11
       by_cases c12:0 ≤ E
       ·
        rw [if_pos c12] at H;have c12b0:decide (0 ≤ E)=true:=decide_eq_true c12;clear c12
        by_cases c13:E < (C.length:Int)
        ·
         rw [if_pos c13] at H;have c13b0:decide (E < (C.length:Int))=true:=decide_eq_true c13;clear c13;obtain ⟨p9,l4⟩:∃ y_:List (S23),y_=(([(⟨(rd_T23 C E).f0,(rd_T23 C E).f1,(rd_T23 C E).f2,(rd_T23 C E).f3⟩:S23)]:List (S23))):=⟨_,rfl⟩
         replace H:((bellpullref04_Check.f k2 p9).bind fun j4=>(if j4=0 then ((bellpullref04_Norm.f ((rd_T23 C E).f0) ((rd_T23 C E).f1) ((rd_T23 C E).f2) ((rd_T23 C E).f3)).bind fun j5=>(if j5=1 then (if E > 0 then (if 0 ≤ (wrap64 (E - 1)) then (if (wrap64 (E - 1)) < (C.length:Int) then ((bellpullref04_Less.f k2 ((rd_T23 C (wrap64 (E - 1))).f0) ((rd_T23 C (wrap64 (E - 1))).f1) ((rd_T23 C (wrap64 (E - 1))).f2) ((rd_T23 C (wrap64 (E - 1))).f3) ((rd_T23 C E).f0) ((rd_T23 C E).f1) ((rd_T23 C E).f2) ((rd_T23 C E).f3)).bind fun q0=>(if q0=true then (bellpulllaw04_NormUnits.l0 k2 a0 a1 C (wrap64 (E + 1))) else (none))) else (none)) else (none)) else (bellpulllaw04_NormUnits.l0 k2 a0 a1 C (wrap64 (E + 1)))) else (none))) else (none)))=some r:=by first|(rw [l4];with_reducible exact H)|(have q1:=(Option.bind_some _ _).symm.trans H;rw [l4];with_reducible exact q1)|(have q1:=(Option.bind_some _ _).symm.trans H;with_reducible exact q1)|with_reducible exact H|(rw [l4];exact H)|exact H
         have p3:=mk0 l4;clear l4;replace H:=Option.bind_eq_some_iff.mp H;obtain ⟨j4,A0,H⟩:=H;(try dsimp only at H);have A1:=mk0 A0;clear A0
         by_cases c15:j4=0
         ·
          rw [if_pos c15] at H;have c15b0:(j4 == 0)=true:=beq_iff_eq.mpr c15;have c15b1:(j4 != 0)=false:=bne_eq_false_iff_eq.mpr c15;clear c15;replace H:=Option.bind_eq_some_iff.mp H;obtain ⟨j5,A2,H⟩:=H;(try dsimp only at H);have A4:=mk0 A2;clear A2
          by_cases c17:j5=1
          ·
           rw [if_pos c17] at H;have c17b0:(j5 == 1)=true:=beq_iff_eq.mpr c17;have c17b1:(j5 != 1)=false:=bne_eq_false_iff_eq.mpr c17;clear c17
           by_cases c18:E > 0
           ·
            rw [if_pos c18] at H;have c18b0:decide (0 < E)=true:=decide_eq_true c18;clear c18;obtain ⟨a2,i6⟩:∃ j_:Int,(wrap64 (E - 1))=j_:=⟨_,rfl⟩
            replace H:(if 0 ≤ (a2) then (if (a2) < (C.length:Int) then ((bellpullref04_Less.f k2 ((rd_T23 C (a2)).f0) ((rd_T23 C (a2)).f1) ((rd_T23 C (a2)).f2) ((rd_T23 C (a2)).f3) ((rd_T23 C E).f0) ((rd_T23 C E).f1) ((rd_T23 C E).f2) ((rd_T23 C E).f3)).bind fun q0=>(if q0=true then (bellpulllaw04_NormUnits.l0 k2 a0 a1 C (wrap64 (E + 1))) else (none))) else (none)) else (none))=some r:=by first|(rw [i6] at H;exact H)|(simp only [i6] at H ⊢;exact H)
            (try rw [i6] at A1);(try rw [i6] at A4);have hji19w:(IntKind.i64.wrap (E - 1))=a2:=(i64_w _).trans i6
            by_cases c20:0 ≤ (a2)
            ·
             rw [if_pos c20] at H;have c20b0:decide (0 ≤ (a2))=true:=decide_eq_true c20;clear c20
             by_cases c21:(a2) < (C.length:Int)
             ·
              rw [if_pos c21] at H;have c21b0:decide ((a2) < (C.length:Int))=true:=decide_eq_true c21;clear c21;replace H:=Option.bind_eq_some_iff.mp H;obtain ⟨q0,A5,H⟩:=H;(try dsimp only at H);have G9:=mk0 A5;clear A5
              by_cases y2:q0=true
              ·
               subst y2;have H1:(bellpulllaw04_NormUnits.l0 k2 a0 a1 C (wrap64 (E + 1)))=some r:=by rw [if_pos rfl] at H;exact H
               clear H;have H:=H1;clear H1;have H':=mk0 H;clear H;try go_wp2
               replace D:=rdr D;replace V:=hdr V;obtain ⟨J9,L0,A6⟩:=Kd.R_slice D.1;(first|subst A6|(injection A6 with f1_ f2_ f3_;have f4_:=f1_.symm;have i4:=f3_.symm;clear f1_ f2_ f3_;subst f4_;subst i4));have j6:0 ≤ (E:Int):=of_decide_eq_true (by first|(with_reducible assumption)|assumption);have j7:E < (C.length:Int):=of_decide_eq_true (by first|(with_reducible assumption)|assumption);obtain ⟨U,v4,g4,g5,g6,g7⟩:=at_T23 (Kd.R_reads' D.1).2.2 E j6 j7;cases v4;replace j6:=eq_true j6;replace j7:=eq_true j7;have j8:0 ≤ (E:Int):=of_decide_eq_true (by first|(with_reducible assumption)|assumption);have j9:E < (C.length:Int):=of_decide_eq_true (by first|(with_reducible assumption)|assumption);obtain ⟨t5,v5,g8,g9,h0,h1⟩:=at_T23 (Kd.R_reads' D.1).2.2 E j8 j9;obtain rfl:U=t5:=(by injection v5)
               replace j8:=eq_true j8;replace j9:=eq_true j9;have v7:0 ≤ ((a2):Int):=of_decide_eq_true (by first|(with_reducible assumption)|assumption);have v8:(a2) < (C.length:Int):=of_decide_eq_true (by first|(with_reducible assumption)|assumption);obtain ⟨D5,E8,r4,r5,r6,r7⟩:=at_T23 (Kd.R_reads' D.1).2.2 (a2) v7 v8;obtain rfl:U=D5:=(by injection E8)
               replace v7:=eq_true v7;replace v8:=eq_true v8;have v9:0 ≤ (E:Int):=of_decide_eq_true (by first|(with_reducible assumption)|assumption);have x0:E < (C.length:Int):=of_decide_eq_true (by first|(with_reducible assumption)|assumption);obtain ⟨D6,E9,r8,r9,t0,t1⟩:=at_T23 (Kd.R_reads' D.1).2.2 E v9 x0;obtain rfl:U=D6:=(by injection E9)
               replace v9:=eq_true v9;replace x0:=eq_true x0;refine start_ (n:=32) (S:=fun w'=>w'.cell? (U.add ((E).toNat * 4))=some (.int .i64 ((rd_T23 C E).f0))∧w'.cell? ⟨(U.add ((E).toNat * 4)).block,(U.add ((E).toNat * 4)).off + 1,none⟩=some (.int .i64 ((rd_T23 C E).f1))∧w'.cell? ⟨(U.add ((E).toNat * 4)).block,(U.add ((E).toNat * 4)).off + 2,none⟩=some (.int .i64 ((rd_T23 C E).f2))∧w'.cell? ⟨(U.add ((E).toNat * 4)).block,(U.add ((E).toNat * 4)).off + 3,none⟩=some (.int .i64 ((rd_T23 C E).f3))∧w'.cell? (U.add ((E).toNat * 4))=some (.int .i64 ((rd_T23 C E).f0))∧w'.cell? ⟨(U.add ((E).toNat * 4)).block,(U.add ((E).toNat * 4)).off + 1,none⟩=some (.int .i64 ((rd_T23 C E).f1))∧w'.cell? ⟨(U.add ((E).toNat * 4)).block,(U.add ((E).toNat * 4)).off + 2,none⟩=some (.int .i64 ((rd_T23 C E).f2))∧w'.cell? ⟨(U.add ((E).toNat * 4)).block,(U.add ((E).toNat * 4)).off + 3,none⟩=some (.int .i64 ((rd_T23 C E).f3))∧w'.cell? (U.add (((a2)).toNat * 4))=some (.int .i64 ((rd_T23 C (a2)).f0))∧w'.cell? ⟨(U.add (((a2)).toNat * 4)).block,(U.add (((a2)).toNat * 4)).off + 1,none⟩=some (.int .i64 ((rd_T23 C (a2)).f1))∧w'.cell? ⟨(U.add (((a2)).toNat * 4)).block,(U.add (((a2)).toNat * 4)).off + 2,none⟩=some (.int .i64 ((rd_T23 C (a2)).f2))∧w'.cell? ⟨(U.add (((a2)).toNat * 4)).block,(U.add (((a2)).toNat * 4)).off + 3,none⟩=some (.int .i64 ((rd_T23 C (a2)).f3))∧w'.cell? (U.add ((E).toNat * 4))=some (.int .i64 ((rd_T23 C E).f0))∧w'.cell? ⟨(U.add ((E).toNat * 4)).block,(U.add ((E).toNat * 4)).off + 1,none⟩=some (.int .i64 ((rd_T23 C E).f1))∧w'.cell? ⟨(U.add ((E).toNat * 4)).block,(U.add ((E).toNat * 4)).off + 2,none⟩=some (.int .i64 ((rd_T23 C E).f2))∧w'.cell? ⟨(U.add ((E).toNat * 4)).block,(U.add ((E).toNat * 4)).off + 3,none⟩=some (.int .i64 ((rd_T23 C E).f3))) (ds:=[]) #[n_,n_,n_,n_,n_,n_,n_,n_,n_,n_,n_,n_,n_,n_,n_,n_,n_,n_,n_,n_,n_,n_,n_,n_,n_,n_,n_,n_,n_,n_,n_,n_] (by kernel_rfl) rfl rfl ⟨g4,g5,g6,g7,g8,g9,h0,h1,r4,r5,r6,r7,r8,r9,t0,t1⟩ (fun B=>?_);refine with_tabW bellpulllaw04_NormUnits.tab7 bellpulllaw04_NormUnits.bits7 (fun G e1=>?_);generalize wr.drew=N3 at D V g4 g5 g6 g7 g8 g9 h0 h1 r4 r5 r6 r7 r8 r9 t0 t1 B ⊢;refine pure_ (i:=0) (N:=some 28) (v:=?_) (a':=?_) #[y_,n_,n_,n_,n_,n_,n_,n_,n_,n_,n_,n_,n_,n_,n_,n_,n_,n_,n_,n_,n_,n_,n_,n_,n_,n_,n_,n_,n_,n_,n_,n_] rfl rfl (any_of G.1 (by kernel_rfl)) (fun _ _ _ h=>h) (Or.inl ⟨by rfl,?_⟩) ?_ ?_;rotate_left
               ·
                intro w';go_simp;with_reducible rfl
               rotate_left
               ·
                simp only [Act.put,s0_,s1_,s2_,i64_w,i32_w];rfl
               refine pure_ (i:=1) (N:=some 29) (v:=?_) (a':=?_) #[y_,y_,n_,n_,n_,n_,n_,n_,n_,n_,n_,n_,n_,n_,n_,n_,n_,n_,n_,n_,n_,n_,n_,n_,n_,n_,n_,n_,n_,n_,n_,n_] rfl rfl (any_of G.1 (by kernel_rfl)) (fun _ _ _ h=>h) (Or.inl ⟨by rfl,?_⟩) ?_ ?_;rotate_left
               ·
                intro w';go_simp;with_reducible rfl
               rotate_left
               ·
                simp only [Act.put,s0_,s1_,s2_,i64_w,i32_w];rfl
               refine pure_ (i:=2) (N:=some 30) (v:=?_) (a':=?_) #[y_,y_,y_,n_,n_,n_,n_,n_,n_,n_,n_,n_,n_,n_,n_,n_,n_,n_,n_,n_,n_,n_,n_,n_,n_,n_,n_,n_,n_,n_,n_,n_] rfl rfl (any_of G.1 (by kernel_rfl)) (fun _ _ _ h=>h) (Or.inl ⟨by rfl,?_⟩) ?_ ?_;rotate_left
               ·
                intro w';go_simp;with_reducible rfl
               rotate_left
               ·
                simp only [Act.put,s0_,s1_,s2_,i64_w,i32_w];rfl
               refine take_ (i:=3) (N:=some 31) (v:=?_) (a':=?_) #[y_,y_,y_,y_,n_,n_,n_,n_,n_,n_,n_,n_,n_,n_,n_,n_,n_,n_,n_,n_,n_,n_,n_,n_,n_,n_,n_,n_,n_,n_,n_,n_] rfl rfl (take_ofW G.1 e1.1 (by kernel_rfl)) (fun _ _ _ h=>h) (Or.inl ⟨by rfl,?_⟩) B ?_ ?_;rotate_left
               ·
                rintro w' ⟨s0,s1,s2,s3,s4,s5,s6,s7,s8,s9,t2,t3,A8,A9,B0,B1⟩;go_simp;with_reducible rfl
               rotate_left
               ·
                simp only [Act.put,s0_,s1_,s2_,i64_w,i32_w];rfl
               refine one_ (i:=4) (N:=some 32) #[y_,y_,y_,y_,y_,n_,n_,n_,n_,n_,n_,n_,n_,n_,n_,n_,n_,n_,n_,n_,n_,n_,n_,n_,n_,n_,n_,n_,n_,n_,n_,n_] rfl rfl (one_of G.1 (by kernel_rfl)) (by decide) (fun K hK=>?_);refine Kd.R_lit_step k23 _ 23 ?hg (N:=32) ?hd (xs:=([(⟨(rd_T23 C E).f0,(rd_T23 C E).f1,(rd_T23 C E).f2,(rd_T23 C E).f3⟩:S23)]:List (S23))) (inner:=[.int .i64 ((rd_T23 C E).f0),.int .i64 ((rd_T23 C E).f1),.int .i64 ((rd_T23 C E).f2),.int .i64 ((rd_T23 C E).f3)]) (ok:=fun _=>True) (okp:=fun _=>True) ?hr ?hp (fun _ hk=>hk) trivial (Below.refl _ _) (Nat.le_refl _) (by simp) ?_;(case hd=>rfl);(case hg=>rfl);(case hr=>first|(go_simp;done)|(go_simp;rfl));(case hp=>exact (Reps.c4 (show Kd.M k23 _ _ _ (⟨(rd_T23 C E).f0,(rd_T23 C E).f1,(rd_T23 C E).f2,(rd_T23 C E).f3⟩:S23) [.int .i64 ((rd_T23 C E).f0),.int .i64 ((rd_T23 C E).f1),.int .i64 ((rd_T23 C E).f2),.int .i64 ((rd_T23 C E).f3)] from (k23_mkM _ _ _ (⟨(rd_T23 C E).f0,(rd_T23 C E).f1,(rd_T23 C E).f2,(rd_T23 C E).f3⟩:S23) )) (Reps.none _ _)));intro F0 N4 n0 hb hg_ t6;have c2:=(hb.cell (World.block_lt_of_cell? _ _ (B.1))).trans (B.1);have c7:=(hb.cell (World.block_lt_of_cell? _ _ (B.2.1))).trans (B.2.1);have c8:=(hb.cell (World.block_lt_of_cell? _ _ (B.2.2.1))).trans (B.2.2.1);have c9:=(hb.cell (World.block_lt_of_cell? _ _ (B.2.2.2.1))).trans (B.2.2.2.1);have a3:=(hb.cell (World.block_lt_of_cell? _ _ (B.2.2.2.2.1))).trans (B.2.2.2.2.1);have a4:=(hb.cell (World.block_lt_of_cell? _ _ (B.2.2.2.2.2.1))).trans (B.2.2.2.2.2.1);have a5:=(hb.cell (World.block_lt_of_cell? _ _ (B.2.2.2.2.2.2.1))).trans (B.2.2.2.2.2.2.1);have a6:=(hb.cell (World.block_lt_of_cell? _ _ (B.2.2.2.2.2.2.2.1))).trans (B.2.2.2.2.2.2.2.1);have l2:=(hb.cell (World.block_lt_of_cell? _ _ (B.2.2.2.2.2.2.2.2.1))).trans (B.2.2.2.2.2.2.2.2.1);have l3:=(hb.cell (World.block_lt_of_cell? _ _ (B.2.2.2.2.2.2.2.2.2.1))).trans (B.2.2.2.2.2.2.2.2.2.1);have h6:=(hb.cell (World.block_lt_of_cell? _ _ (B.2.2.2.2.2.2.2.2.2.2.1))).trans (B.2.2.2.2.2.2.2.2.2.2.1);have h7:=(hb.cell (World.block_lt_of_cell? _ _ (B.2.2.2.2.2.2.2.2.2.2.2.1))).trans (B.2.2.2.2.2.2.2.2.2.2.2.1);have h8:=(hb.cell (World.block_lt_of_cell? _ _ (B.2.2.2.2.2.2.2.2.2.2.2.2.1))).trans (B.2.2.2.2.2.2.2.2.2.2.2.2.1);have h9:=(hb.cell (World.block_lt_of_cell? _ _ (B.2.2.2.2.2.2.2.2.2.2.2.2.2.1))).trans (B.2.2.2.2.2.2.2.2.2.2.2.2.2.1);have i0:=(hb.cell (World.block_lt_of_cell? _ _ (B.2.2.2.2.2.2.2.2.2.2.2.2.2.2.1))).trans (B.2.2.2.2.2.2.2.2.2.2.2.2.2.2.1);have i1:=(hb.cell (World.block_lt_of_cell? _ _ (B.2.2.2.2.2.2.2.2.2.2.2.2.2.2.2))).trans (B.2.2.2.2.2.2.2.2.2.2.2.2.2.2.2);clear hg_ t6;(first|rw [← p3.1] at n0|(simp only [Int.reduceToNat] at n0;rw [← p3.1] at n0));have c0:=mk0 (Kd.R_lower (Kd.R_new' n0 (Kd.R_lt D.1)) (below_size V.1));replace D:=mk0 (Kd.R_elder' D.1 (Kd.R_base n0) hb);replace V:=bst V hb;clear hb n0;obtain ⟨F1,F2,B2⟩:=Kd.R_slice c0.1;(first|subst B2|(injection B2 with f1_ f2_ f3_;have f4_:=f1_.symm;have i4:=f3_.symm;clear f1_ f2_ f3_;subst f4_;subst i4));refine hK.out _ _ ⟨c2,c7,c8,c9,a3,a4,a5,a6,l2,l3,h6,h7,h8,h9,i0,i1⟩ (fun B=>?_);clear hK K;refine norm_ (a':=?_) ?_ ?_;rotate_left
               ·
                show Act.put _ (some 32) _=_;simp only [Act.put,s0_,s1_,s2_,i64_w,i32_w];rfl
               refine one_ (i:=5) (N:=some 33) #[y_,y_,y_,y_,y_,y_,n_,n_,n_,n_,n_,n_,n_,n_,n_,n_,n_,n_,n_,n_,n_,n_,n_,n_,n_,n_,n_,n_,n_,n_,n_,n_] rfl rfl (one_of G.1 (by kernel_rfl)) (by decide) (fun K hK=>?_);refine goes_ Try.func18 (by kernel_rfl) rfl #[.slice F1 p9.length F2] (by rfl) rfl rfl (by (try simp only [m0_,m1_,m2_]);first|done|rfl|(simp only [l0_,l1_];rfl)) ?_;with_reducible refine (bellpullref04_Check.calls k2 _ _ p9 j4 _ ?side1 ?side2 A1.1).mono ?_
               (case side1=>repeat (first|exact (Kd.R_reads' c0.1).2.2|(with_reducible refine Kd.C_alloc ?_ _)|(with_reducible refine Kd.C_drewN ?_ _)|(with_reducible refine Kd.C_drew ?_)));(case side2=>exact (Kd.R_reads' c0.1).2.1);rintro e N5 ⟨rfl,hb⟩;have c2:=(hb.cell (World.block_lt_of_cell? _ _ (B.1))).trans (B.1);have c7:=(hb.cell (World.block_lt_of_cell? _ _ (B.2.1))).trans (B.2.1);have c8:=(hb.cell (World.block_lt_of_cell? _ _ (B.2.2.1))).trans (B.2.2.1);have c9:=(hb.cell (World.block_lt_of_cell? _ _ (B.2.2.2.1))).trans (B.2.2.2.1);have a3:=(hb.cell (World.block_lt_of_cell? _ _ (B.2.2.2.2.1))).trans (B.2.2.2.2.1);have a4:=(hb.cell (World.block_lt_of_cell? _ _ (B.2.2.2.2.2.1))).trans (B.2.2.2.2.2.1);have a5:=(hb.cell (World.block_lt_of_cell? _ _ (B.2.2.2.2.2.2.1))).trans (B.2.2.2.2.2.2.1);have a6:=(hb.cell (World.block_lt_of_cell? _ _ (B.2.2.2.2.2.2.2.1))).trans (B.2.2.2.2.2.2.2.1);have l2:=(hb.cell (World.block_lt_of_cell? _ _ (B.2.2.2.2.2.2.2.2.1))).trans (B.2.2.2.2.2.2.2.2.1);have l3:=(hb.cell (World.block_lt_of_cell? _ _ (B.2.2.2.2.2.2.2.2.2.1))).trans (B.2.2.2.2.2.2.2.2.2.1);have h6:=(hb.cell (World.block_lt_of_cell? _ _ (B.2.2.2.2.2.2.2.2.2.2.1))).trans (B.2.2.2.2.2.2.2.2.2.2.1);have h7:=(hb.cell (World.block_lt_of_cell? _ _ (B.2.2.2.2.2.2.2.2.2.2.2.1))).trans (B.2.2.2.2.2.2.2.2.2.2.2.1);have h8:=(hb.cell (World.block_lt_of_cell? _ _ (B.2.2.2.2.2.2.2.2.2.2.2.2.1))).trans (B.2.2.2.2.2.2.2.2.2.2.2.2.1);have h9:=(hb.cell (World.block_lt_of_cell? _ _ (B.2.2.2.2.2.2.2.2.2.2.2.2.2.1))).trans (B.2.2.2.2.2.2.2.2.2.2.2.2.2.1);have i0:=(hb.cell (World.block_lt_of_cell? _ _ (B.2.2.2.2.2.2.2.2.2.2.2.2.2.2.1))).trans (B.2.2.2.2.2.2.2.2.2.2.2.2.2.2.1);have i1:=(hb.cell (World.block_lt_of_cell? _ _ (B.2.2.2.2.2.2.2.2.2.2.2.2.2.2.2))).trans (B.2.2.2.2.2.2.2.2.2.2.2.2.2.2.2);refine ⟨_,rfl,?_⟩;replace D:=rbl D hb;replace c0:=rbl c0 hb;replace V:=bst V hb;(try clear hb);refine hK.out _ _ ⟨c2,c7,c8,c9,a3,a4,a5,a6,l2,l3,h6,h7,h8,h9,i0,i1⟩ (fun B=>?_);clear hK K;refine norm_ (a':=?_) ?_ ?_;rotate_left
               ·
                show Act.put _ (some 33) _=_;simp only [Act.put,s0_,s1_,s2_,i64_w,i32_w];rfl
               refine pure_ (i:=6) (N:=some 34) (v:=?_) (a':=?_) #[y_,y_,y_,y_,y_,y_,y_,n_,n_,n_,n_,n_,n_,n_,n_,n_,n_,n_,n_,n_,n_,n_,n_,n_,n_,n_,n_,n_,n_,n_,n_,n_] rfl rfl (any_of G.1 (by kernel_rfl)) (fun _ _ _ h=>h) (Or.inl ⟨by rfl,?_⟩) ?_ ?_;rotate_left
               ·
                intro w';go_simp;with_reducible rfl
               rotate_left
               ·
                simp only [Act.put,s0_,s1_,s2_,i64_w,i32_w];rfl
               refine pure_ (i:=7) (N:=some 35) (v:=?_) (a':=?_) #[y_,y_,y_,y_,y_,y_,y_,y_,n_,n_,n_,n_,n_,n_,n_,n_,n_,n_,n_,n_,n_,n_,n_,n_,n_,n_,n_,n_,n_,n_,n_,n_] rfl rfl (any_of G.1 (by kernel_rfl)) (fun _ _ _ h=>h) (Or.inl ⟨by rfl,?_⟩) ?_ ?_;rotate_left
               ·
                intro w';go_simp;with_reducible rfl
               rotate_left
               ·
                simp only [Act.put,s0_,s1_,s2_,i64_w,i32_w];rfl
               refine pure_ (i:=8) (N:=some 36) (v:=?_) (a':=?_) #[y_,y_,y_,y_,y_,y_,y_,y_,y_,n_,n_,n_,n_,n_,n_,n_,n_,n_,n_,n_,n_,n_,n_,n_,n_,n_,n_,n_,n_,n_,n_,n_] rfl rfl (any_of G.1 (by kernel_rfl)) (fun _ _ _ h=>h) (Or.inl ⟨by rfl,?_⟩) ?_ ?_;rotate_left
               ·
                intro w';go_simp;with_reducible rfl
               rotate_left
               ·
                simp only [Act.put,s0_,s1_,s2_,i64_w,i32_w];rfl
               refine pure_ (i:=9) (N:=some 37) (v:=?_) (a':=?_) #[y_,y_,y_,y_,y_,y_,y_,y_,y_,y_,n_,n_,n_,n_,n_,n_,n_,n_,n_,n_,n_,n_,n_,n_,n_,n_,n_,n_,n_,n_,n_,n_] rfl rfl (any_of G.1 (by kernel_rfl)) (fun _ _ _ h=>h) (Or.inl ⟨by rfl,?_⟩) ?_ ?_;rotate_left
               ·
                intro w';go_simp;with_reducible rfl
               rotate_left
               ·
                simp only [Act.put,s0_,s1_,s2_,i64_w,i32_w];rfl
               refine pure_ (i:=10) (N:=some 38) (v:=?_) (a':=?_) #[y_,y_,y_,y_,y_,y_,y_,y_,y_,y_,y_,n_,n_,n_,n_,n_,n_,n_,n_,n_,n_,n_,n_,n_,n_,n_,n_,n_,n_,n_,n_,n_] rfl rfl (any_of G.1 (by kernel_rfl)) (fun _ _ _ h=>h) (Or.inl ⟨by rfl,?_⟩) ?_ ?_;rotate_left
               ·
                intro w';go_simp;with_reducible rfl
               rotate_left
               ·
                simp only [Act.put,s0_,s1_,s2_,i64_w,i32_w];rfl
               refine take_ (i:=11) (N:=some 39) (v:=?_) (a':=?_) #[y_,y_,y_,y_,y_,y_,y_,y_,y_,y_,y_,y_,n_,n_,n_,n_,n_,n_,n_,n_,n_,n_,n_,n_,n_,n_,n_,n_,n_,n_,n_,n_] rfl rfl (take_ofW G.1 e1.1 (by kernel_rfl)) (fun _ _ _ h=>h) (Or.inl ⟨by rfl,?_⟩) B ?_ ?_;rotate_left
               ·
                rintro w' ⟨s0,s1,s2,s3,s4,s5,s6,s7,s8,s9,t2,t3,A8,A9,B0,B1⟩;go_simp;with_reducible rfl
               rotate_left
               ·
                simp only [Act.put,s0_,s1_,s2_,i64_w,i32_w];rfl
               refine one_ (i:=12) (N:=some 40) #[y_,y_,y_,y_,y_,y_,y_,y_,y_,y_,y_,y_,y_,n_,n_,n_,n_,n_,n_,n_,n_,n_,n_,n_,n_,n_,n_,n_,n_,n_,n_,n_] rfl rfl (one_of G.1 (by kernel_rfl)) (by decide) (fun K hK=>?_);refine goes_ Try.func34 (by kernel_rfl) rfl #[.agg #[.int .i64 ((rd_T23 C E).f0),.int .i64 ((rd_T23 C E).f1),.int .i64 ((rd_T23 C E).f2),.int .i64 ((rd_T23 C E).f3)]] (by rfl) rfl rfl (by (try simp only [m0_,m1_,m2_]);first|done|rfl|(simp only [l0_,l1_];rfl)) ?_;with_reducible refine (bellpullref04_Norm.calls ((rd_T23 C E).f0) ((rd_T23 C E).f1) ((rd_T23 C E).f2) ((rd_T23 C E).f3) j5 _ A4.1).mono ?_
               rintro e N6 ⟨rfl,hb⟩;have c2:=(hb.cell (World.block_lt_of_cell? _ _ (B.1))).trans (B.1);have c7:=(hb.cell (World.block_lt_of_cell? _ _ (B.2.1))).trans (B.2.1);have c8:=(hb.cell (World.block_lt_of_cell? _ _ (B.2.2.1))).trans (B.2.2.1);have c9:=(hb.cell (World.block_lt_of_cell? _ _ (B.2.2.2.1))).trans (B.2.2.2.1);have a3:=(hb.cell (World.block_lt_of_cell? _ _ (B.2.2.2.2.1))).trans (B.2.2.2.2.1);have a4:=(hb.cell (World.block_lt_of_cell? _ _ (B.2.2.2.2.2.1))).trans (B.2.2.2.2.2.1);have a5:=(hb.cell (World.block_lt_of_cell? _ _ (B.2.2.2.2.2.2.1))).trans (B.2.2.2.2.2.2.1);have a6:=(hb.cell (World.block_lt_of_cell? _ _ (B.2.2.2.2.2.2.2.1))).trans (B.2.2.2.2.2.2.2.1);have l2:=(hb.cell (World.block_lt_of_cell? _ _ (B.2.2.2.2.2.2.2.2.1))).trans (B.2.2.2.2.2.2.2.2.1);have l3:=(hb.cell (World.block_lt_of_cell? _ _ (B.2.2.2.2.2.2.2.2.2.1))).trans (B.2.2.2.2.2.2.2.2.2.1);have h6:=(hb.cell (World.block_lt_of_cell? _ _ (B.2.2.2.2.2.2.2.2.2.2.1))).trans (B.2.2.2.2.2.2.2.2.2.2.1);have h7:=(hb.cell (World.block_lt_of_cell? _ _ (B.2.2.2.2.2.2.2.2.2.2.2.1))).trans (B.2.2.2.2.2.2.2.2.2.2.2.1);have h8:=(hb.cell (World.block_lt_of_cell? _ _ (B.2.2.2.2.2.2.2.2.2.2.2.2.1))).trans (B.2.2.2.2.2.2.2.2.2.2.2.2.1);have h9:=(hb.cell (World.block_lt_of_cell? _ _ (B.2.2.2.2.2.2.2.2.2.2.2.2.2.1))).trans (B.2.2.2.2.2.2.2.2.2.2.2.2.2.1);have i0:=(hb.cell (World.block_lt_of_cell? _ _ (B.2.2.2.2.2.2.2.2.2.2.2.2.2.2.1))).trans (B.2.2.2.2.2.2.2.2.2.2.2.2.2.2.1);have i1:=(hb.cell (World.block_lt_of_cell? _ _ (B.2.2.2.2.2.2.2.2.2.2.2.2.2.2.2))).trans (B.2.2.2.2.2.2.2.2.2.2.2.2.2.2.2);refine ⟨_,rfl,?_⟩;replace D:=rbl D hb;replace c0:=rbl c0 hb;replace V:=bst V hb;(try clear hb);refine hK.out _ _ ⟨c2,c7,c8,c9,a3,a4,a5,a6,l2,l3,h6,h7,h8,h9,i0,i1⟩ (fun B=>?_);clear hK K;refine norm_ (a':=?_) ?_ ?_;rotate_left
               ·
                show Act.put _ (some 40) _=_;simp only [Act.put,s0_,s1_,s2_,i64_w,i32_w];rfl
               refine pure_ (i:=13) (N:=some 41) (v:=?_) (a':=?_) #[y_,y_,y_,y_,y_,y_,y_,y_,y_,y_,y_,y_,y_,y_,n_,n_,n_,n_,n_,n_,n_,n_,n_,n_,n_,n_,n_,n_,n_,n_,n_,n_] rfl rfl (any_of G.1 (by kernel_rfl)) (fun _ _ _ h=>h) (Or.inl ⟨by rfl,?_⟩) ?_ ?_;rotate_left
               ·
                intro w';go_simp;with_reducible rfl
               rotate_left
               ·
                simp only [Act.put,s0_,s1_,s2_,i64_w,i32_w];rfl
               refine pure_ (i:=14) (N:=some 42) (v:=?_) (a':=?_) #[y_,y_,y_,y_,y_,y_,y_,y_,y_,y_,y_,y_,y_,y_,y_,n_,n_,n_,n_,n_,n_,n_,n_,n_,n_,n_,n_,n_,n_,n_,n_,n_] rfl rfl (any_of G.1 (by kernel_rfl)) (fun _ _ _ h=>h) (Or.inl ⟨by rfl,?_⟩) ?_ ?_;rotate_left
               ·
                intro w';go_simp;with_reducible rfl
               rotate_left
               ·
                simp only [Act.put,s0_,s1_,s2_,i64_w,i32_w];rfl
               refine pure_ (i:=15) (N:=some 43) (v:=?_) (a':=?_) #[y_,y_,y_,y_,y_,y_,y_,y_,y_,y_,y_,y_,y_,y_,y_,y_,n_,n_,n_,n_,n_,n_,n_,n_,n_,n_,n_,n_,n_,n_,n_,n_] rfl rfl (any_of G.1 (by kernel_rfl)) (fun _ _ _ h=>h) (Or.inl ⟨by rfl,?_⟩) ?_ ?_;rotate_left
               ·
                intro w';go_simp;with_reducible rfl
               rotate_left
               ·
                simp only [Act.put,s0_,s1_,s2_,i64_w,i32_w];rfl
               refine pure_ (i:=16) (N:=some 44) (v:=?_) (a':=?_) #[y_,y_,y_,y_,y_,y_,y_,y_,y_,y_,y_,y_,y_,y_,y_,y_,y_,n_,n_,n_,n_,n_,n_,n_,n_,n_,n_,n_,n_,n_,n_,n_] rfl rfl (any_of G.1 (by kernel_rfl)) (fun _ _ _ h=>h) (Or.inl ⟨by rfl,?_⟩) ?_ ?_;rotate_left
               ·
                intro w';go_simp;with_reducible rfl
               rotate_left
               ·
                simp only [Act.put,s0_,s1_,s2_,i64_w,i32_w];rfl
               refine pure_ (i:=17) (N:=some 45) (v:=?_) (a':=?_) #[y_,y_,y_,y_,y_,y_,y_,y_,y_,y_,y_,y_,y_,y_,y_,y_,y_,y_,n_,n_,n_,n_,n_,n_,n_,n_,n_,n_,n_,n_,n_,n_] rfl rfl (any_of G.1 (by kernel_rfl)) (fun _ _ _ h=>h) (Or.inl ⟨by rfl,?_⟩) ?_ ?_;rotate_left
               ·
                intro w';go_simp;with_reducible rfl
               rotate_left
               ·
                simp only [Act.put,s0_,s1_,s2_,i64_w,i32_w];rfl
               refine pure_ (i:=18) (N:=some 46) (v:=?_) (a':=?_) #[y_,y_,y_,y_,y_,y_,y_,y_,y_,y_,y_,y_,y_,y_,y_,y_,y_,y_,y_,n_,n_,n_,n_,n_,n_,n_,n_,n_,n_,n_,n_,n_] rfl rfl (any_of G.1 (by kernel_rfl)) (fun _ _ _ h=>h) (Or.inl ⟨by rfl,?_⟩) ?_ ?_;rotate_left
               ·
                intro w';go_simp;with_reducible rfl
               rotate_left
               ·
                simp only [Act.put,s0_,s1_,s2_,i64_w,i32_w];rfl
               refine pure_ (i:=19) (N:=some 47) (v:=?_) (a':=?_) #[y_,y_,y_,y_,y_,y_,y_,y_,y_,y_,y_,y_,y_,y_,y_,y_,y_,y_,y_,y_,n_,n_,n_,n_,n_,n_,n_,n_,n_,n_,n_,n_] rfl rfl (any_of G.1 (by kernel_rfl)) (fun _ _ _ h=>h) (Or.inl ⟨by rfl,?_⟩) ?_ ?_;rotate_left
               ·
                intro w';go_simp;with_reducible rfl
               rotate_left
               ·
                simp only [Act.put,s0_,s1_,s2_,i64_w,i32_w];rfl
               refine pure_ (i:=20) (N:=some 48) (v:=?_) (a':=?_) #[y_,y_,y_,y_,y_,y_,y_,y_,y_,y_,y_,y_,y_,y_,y_,y_,y_,y_,y_,y_,y_,n_,n_,n_,n_,n_,n_,n_,n_,n_,n_,n_] rfl rfl (any_of G.1 (by kernel_rfl)) (fun _ _ _ h=>h) (Or.inl ⟨by rfl,?_⟩) ?_ ?_;rotate_left
               ·
                intro w';go_simp;with_reducible rfl
               rotate_left
               ·
                simp only [Act.put,s0_,s1_,s2_,i64_w,i32_w];rfl
               refine pure_ (i:=21) (N:=some 49) (v:=?_) (a':=?_) #[y_,y_,y_,y_,y_,y_,y_,y_,y_,y_,y_,y_,y_,y_,y_,y_,y_,y_,y_,y_,y_,y_,n_,n_,n_,n_,n_,n_,n_,n_,n_,n_] rfl rfl (any_of G.1 (by kernel_rfl)) (fun _ _ _ h=>h) (Or.inl ⟨by rfl,?_⟩) ?_ ?_;rotate_left
               ·
                intro w';go_simp;with_reducible rfl
               rotate_left
               ·
                simp only [Act.put,s0_,s1_,s2_,i64_w,i32_w];rfl
               refine pure_ (i:=22) (N:=some 50) (v:=?_) (a':=?_) #[y_,y_,y_,y_,y_,y_,y_,y_,y_,y_,y_,y_,y_,y_,y_,y_,y_,y_,y_,y_,y_,y_,y_,n_,n_,n_,n_,n_,n_,n_,n_,n_] rfl rfl (any_of G.1 (by kernel_rfl)) (fun _ _ _ h=>h) (Or.inl ⟨by rfl,?_⟩) ?_ ?_;rotate_left
               ·
                intro w';go_simp;with_reducible rfl
               rotate_left
               ·
                simp only [Act.put,s0_,s1_,s2_,i64_w,i32_w];rfl
               refine pure_ (i:=24) (N:=some 52) (v:=?_) (a':=?_) #[y_,y_,y_,y_,y_,y_,y_,y_,y_,y_,y_,y_,y_,y_,y_,y_,y_,y_,y_,y_,y_,y_,y_,n_,y_,n_,n_,n_,n_,n_,n_,n_] rfl rfl (any_of G.1 (by kernel_rfl)) (fun _ _ _ h=>h) (Or.inl ⟨by rfl,?_⟩) ?_ ?_;rotate_left
               ·
                intro w';go_simp;with_reducible rfl
               rotate_left
               ·
                simp only [Act.put,s0_,s1_,s2_,i64_w,i32_w];rfl
               refine pure_ (i:=25) (N:=some 53) (v:=?_) (a':=?_) #[y_,y_,y_,y_,y_,y_,y_,y_,y_,y_,y_,y_,y_,y_,y_,y_,y_,y_,y_,y_,y_,y_,y_,n_,y_,y_,n_,n_,n_,n_,n_,n_] rfl rfl (any_of G.1 (by kernel_rfl)) (fun _ _ _ h=>h) (Or.inl ⟨by rfl,?_⟩) ?_ ?_;rotate_left
               ·
                intro w';go_simp;with_reducible rfl
               rotate_left
               ·
                simp only [Act.put,s0_,s1_,s2_,i64_w,i32_w];rfl
               refine pure_ (i:=26) (N:=some 54) (v:=?_) (a':=?_) #[y_,y_,y_,y_,y_,y_,y_,y_,y_,y_,y_,y_,y_,y_,y_,y_,y_,y_,y_,y_,y_,y_,y_,n_,y_,y_,y_,n_,n_,n_,n_,n_] rfl rfl (any_of G.1 (by kernel_rfl)) (fun _ _ _ h=>h) (Or.inl ⟨by rfl,?_⟩) ?_ ?_;rotate_left
               ·
                intro w';go_simp;with_reducible rfl
               rotate_left
               ·
                simp only [Act.put,s0_,s1_,s2_,i64_w,i32_w];rfl
               refine take_ (i:=23) (N:=some 51) (v:=?_) (a':=?_) #[y_,y_,y_,y_,y_,y_,y_,y_,y_,y_,y_,y_,y_,y_,y_,y_,y_,y_,y_,y_,y_,y_,y_,y_,y_,y_,y_,n_,n_,n_,n_,n_] rfl rfl (take_ofW G.1 e1.1 (by kernel_rfl)) (fun _ _ _ h=>h) (Or.inl ⟨by rfl,?_⟩) B ?_ ?_;rotate_left
               ·
                rintro w' ⟨s0,s1,s2,s3,s4,s5,s6,s7,s8,s9,t2,t3,A8,A9,B0,B1⟩;go_simp;with_reducible rfl
               rotate_left
               ·
                simp only [Act.put,s0_,s1_,s2_,i64_w,i32_w];rfl
               refine take_ (i:=27) (N:=some 55) (v:=?_) (a':=?_) #[y_,y_,y_,y_,y_,y_,y_,y_,y_,y_,y_,y_,y_,y_,y_,y_,y_,y_,y_,y_,y_,y_,y_,y_,y_,y_,y_,y_,n_,n_,n_,n_] rfl rfl (take_ofW G.1 e1.1 (by kernel_rfl)) (fun _ _ _ h=>h) (Or.inl ⟨by rfl,?_⟩) B ?_ ?_;rotate_left
               ·
                rintro w' ⟨s0,s1,s2,s3,s4,s5,s6,s7,s8,s9,t2,t3,A8,A9,B0,B1⟩;go_simp;with_reducible rfl
               rotate_left
               ·
                simp only [Act.put,s0_,s1_,s2_,i64_w,i32_w];rfl
               refine one_ (i:=28) (N:=some 56) #[y_,y_,y_,y_,y_,y_,y_,y_,y_,y_,y_,y_,y_,y_,y_,y_,y_,y_,y_,y_,y_,y_,y_,y_,y_,y_,y_,y_,y_,n_,n_,n_] rfl rfl (one_of G.1 (by kernel_rfl)) (by decide) (fun K hK=>?_);refine goes_ Try.func36 (by kernel_rfl) rfl #[.agg #[.int .i64 ((rd_T23 C (a2)).f0),.int .i64 ((rd_T23 C (a2)).f1),.int .i64 ((rd_T23 C (a2)).f2),.int .i64 ((rd_T23 C (a2)).f3)],.agg #[.int .i64 ((rd_T23 C E).f0),.int .i64 ((rd_T23 C E).f1),.int .i64 ((rd_T23 C E).f2),.int .i64 ((rd_T23 C E).f3)]] (by rfl) rfl rfl (by (try simp only [m0_,m1_,m2_]);first|done|(simp only [i6];rfl)|rfl|(simp only [l0_,l1_];rfl)) ?_;with_reducible refine (bellpullref04_Less.calls k2 ((rd_T23 C (a2)).f0) ((rd_T23 C (a2)).f1) ((rd_T23 C (a2)).f2) ((rd_T23 C (a2)).f3) ((rd_T23 C E).f0) ((rd_T23 C E).f1) ((rd_T23 C E).f2) ((rd_T23 C E).f3) true _ G9.1).mono ?_
               rintro e N7 ⟨rfl,hb⟩;have c2:=(hb.cell (World.block_lt_of_cell? _ _ (B.1))).trans (B.1);have c7:=(hb.cell (World.block_lt_of_cell? _ _ (B.2.1))).trans (B.2.1);have c8:=(hb.cell (World.block_lt_of_cell? _ _ (B.2.2.1))).trans (B.2.2.1);have c9:=(hb.cell (World.block_lt_of_cell? _ _ (B.2.2.2.1))).trans (B.2.2.2.1);have a3:=(hb.cell (World.block_lt_of_cell? _ _ (B.2.2.2.2.1))).trans (B.2.2.2.2.1);have a4:=(hb.cell (World.block_lt_of_cell? _ _ (B.2.2.2.2.2.1))).trans (B.2.2.2.2.2.1);have a5:=(hb.cell (World.block_lt_of_cell? _ _ (B.2.2.2.2.2.2.1))).trans (B.2.2.2.2.2.2.1);have a6:=(hb.cell (World.block_lt_of_cell? _ _ (B.2.2.2.2.2.2.2.1))).trans (B.2.2.2.2.2.2.2.1);have l2:=(hb.cell (World.block_lt_of_cell? _ _ (B.2.2.2.2.2.2.2.2.1))).trans (B.2.2.2.2.2.2.2.2.1);have l3:=(hb.cell (World.block_lt_of_cell? _ _ (B.2.2.2.2.2.2.2.2.2.1))).trans (B.2.2.2.2.2.2.2.2.2.1);have h6:=(hb.cell (World.block_lt_of_cell? _ _ (B.2.2.2.2.2.2.2.2.2.2.1))).trans (B.2.2.2.2.2.2.2.2.2.2.1);have h7:=(hb.cell (World.block_lt_of_cell? _ _ (B.2.2.2.2.2.2.2.2.2.2.2.1))).trans (B.2.2.2.2.2.2.2.2.2.2.2.1);have h8:=(hb.cell (World.block_lt_of_cell? _ _ (B.2.2.2.2.2.2.2.2.2.2.2.2.1))).trans (B.2.2.2.2.2.2.2.2.2.2.2.2.1);have h9:=(hb.cell (World.block_lt_of_cell? _ _ (B.2.2.2.2.2.2.2.2.2.2.2.2.2.1))).trans (B.2.2.2.2.2.2.2.2.2.2.2.2.2.1);have i0:=(hb.cell (World.block_lt_of_cell? _ _ (B.2.2.2.2.2.2.2.2.2.2.2.2.2.2.1))).trans (B.2.2.2.2.2.2.2.2.2.2.2.2.2.2.1);have i1:=(hb.cell (World.block_lt_of_cell? _ _ (B.2.2.2.2.2.2.2.2.2.2.2.2.2.2.2))).trans (B.2.2.2.2.2.2.2.2.2.2.2.2.2.2.2);refine ⟨_,rfl,?_⟩;replace D:=rbl D hb;replace c0:=rbl c0 hb;replace V:=bst V hb;(try clear hb);refine hK.out _ _ ⟨c2,c7,c8,c9,a3,a4,a5,a6,l2,l3,h6,h7,h8,h9,i0,i1⟩ (fun B=>?_);clear hK K;refine norm_ (a':=?_) ?_ ?_;rotate_left
               ·
                show Act.put _ (some 56) _=_;simp only [Act.put,s0_,s1_,s2_,i64_w,i32_w];rfl
               refine pure_ (i:=29) (N:=some 57) (v:=?_) (a':=?_) #[y_,y_,y_,y_,y_,y_,y_,y_,y_,y_,y_,y_,y_,y_,y_,y_,y_,y_,y_,y_,y_,y_,y_,y_,y_,y_,y_,y_,y_,y_,n_,n_] rfl rfl (any_of G.1 (by kernel_rfl)) (fun _ _ _ h=>h) (Or.inl ⟨by rfl,?_⟩) ?_ ?_;rotate_left
               ·
                intro w';go_simp;with_reducible rfl
               rotate_left
               ·
                simp only [Act.put,s0_,s1_,s2_,i64_w,i32_w];rfl
               refine pure_ (i:=30) (N:=some 58) (v:=?_) (a':=?_) #[y_,y_,y_,y_,y_,y_,y_,y_,y_,y_,y_,y_,y_,y_,y_,y_,y_,y_,y_,y_,y_,y_,y_,y_,y_,y_,y_,y_,y_,y_,y_,n_] rfl rfl (any_of G.1 (by kernel_rfl)) (fun _ _ _ h=>h) (Or.inl ⟨by rfl,?_⟩) ?_ ?_;rotate_left
               ·
                intro w';go_simp;with_reducible rfl
               rotate_left
               ·
                simp only [Act.put,s0_,s1_,s2_,i64_w,i32_w];rfl
               refine pure_ (i:=31) (N:=some 59) (v:=?_) (a':=?_) #[y_,y_,y_,y_,y_,y_,y_,y_,y_,y_,y_,y_,y_,y_,y_,y_,y_,y_,y_,y_,y_,y_,y_,y_,y_,y_,y_,y_,y_,y_,y_,y_] rfl rfl (any_of G.1 (by kernel_rfl)) (fun _ _ _ h=>h) (Or.inl ⟨by rfl,?_⟩) ?_ ?_;rotate_left
               ·
                intro w';go_simp;with_reducible rfl
               rotate_left
               ·
                simp only [Act.put,s0_,s1_,s2_,i64_w,i32_w];rfl
               refine done_ (done_of G.1 (by kernel_rfl)) ?_;try go_wp2
               go_roundg k2
               case measure=>have:=o5.1;have:=o6.1;omega
               case rel=>exact ⟨(wrap64 (E + 1)),(by first|rfl|(simp;done)|(simp [*];done)),H',⟨by have:=o5.1;have:=o6.1;omega⟩,⟨by (with_reducible repeat (first|apply Kd.R_alloc|apply Kd.R_drewN|apply Kd.R_drew));exact Kd.R_mono D.1 (fun _ hk=>trivial)⟩,⟨by repeat (first|(with_reducible first|exact V.1|apply below_alloc|apply pw_below_drewN|apply below_drew1)|exact V.1)⟩⟩
              ·
               replace y2:=Bool.eq_false_iff.mpr y2;subst y2;have H1:(none)=some r:=by rw [if_neg (show ¬ (false=true) by decide)] at H;exact H
               clear H;have H:=H1;clear H1;exact absurd H (by simp)
             ·
              rw [if_neg c21] at H;exact absurd H (by simp)
            ·
             rw [if_neg c20] at H;exact absurd H (by simp)
           ·
            rw [if_neg c18] at H;have c18b0:decide (0 < E)=false:=decide_eq_false c18;clear c18;have H':=mk0 H;clear H;try go_wp2
            replace D:=rdr D;replace V:=hdr V;obtain ⟨L1,L2,B3⟩:=Kd.R_slice D.1;(first|subst B3|(injection B3 with f1_ f2_ f3_;have f4_:=f1_.symm;have i4:=f3_.symm;clear f1_ f2_ f3_;subst f4_;subst i4));have j6:0 ≤ (E:Int):=of_decide_eq_true (by first|(with_reducible assumption)|assumption);have j7:E < (C.length:Int):=of_decide_eq_true (by first|(with_reducible assumption)|assumption);obtain ⟨U,v4,g4,g5,g6,g7⟩:=at_T23 (Kd.R_reads' D.1).2.2 E j6 j7;cases v4;replace j6:=eq_true j6;replace j7:=eq_true j7;have j8:0 ≤ (E:Int):=of_decide_eq_true (by first|(with_reducible assumption)|assumption);have j9:E < (C.length:Int):=of_decide_eq_true (by first|(with_reducible assumption)|assumption);obtain ⟨t5,v5,g8,g9,h0,h1⟩:=at_T23 (Kd.R_reads' D.1).2.2 E j8 j9;obtain rfl:U=t5:=(by injection v5)
            replace j8:=eq_true j8;replace j9:=eq_true j9;refine start_ (n:=32) (S:=fun w'=>w'.cell? (U.add ((E).toNat * 4))=some (.int .i64 ((rd_T23 C E).f0))∧w'.cell? ⟨(U.add ((E).toNat * 4)).block,(U.add ((E).toNat * 4)).off + 1,none⟩=some (.int .i64 ((rd_T23 C E).f1))∧w'.cell? ⟨(U.add ((E).toNat * 4)).block,(U.add ((E).toNat * 4)).off + 2,none⟩=some (.int .i64 ((rd_T23 C E).f2))∧w'.cell? ⟨(U.add ((E).toNat * 4)).block,(U.add ((E).toNat * 4)).off + 3,none⟩=some (.int .i64 ((rd_T23 C E).f3))∧w'.cell? (U.add ((E).toNat * 4))=some (.int .i64 ((rd_T23 C E).f0))∧w'.cell? ⟨(U.add ((E).toNat * 4)).block,(U.add ((E).toNat * 4)).off + 1,none⟩=some (.int .i64 ((rd_T23 C E).f1))∧w'.cell? ⟨(U.add ((E).toNat * 4)).block,(U.add ((E).toNat * 4)).off + 2,none⟩=some (.int .i64 ((rd_T23 C E).f2))∧w'.cell? ⟨(U.add ((E).toNat * 4)).block,(U.add ((E).toNat * 4)).off + 3,none⟩=some (.int .i64 ((rd_T23 C E).f3))) (ds:=[]) #[n_,n_,n_,n_,n_,n_,n_,n_,n_,n_,n_,n_,n_,n_,n_,n_,n_,n_,n_,n_,n_,n_,n_,n_,n_,n_,n_,n_,n_,n_,n_,n_] (by kernel_rfl) rfl rfl ⟨g4,g5,g6,g7,g8,g9,h0,h1⟩ (fun B=>?_);refine with_tabW bellpulllaw04_NormUnits.tab7 bellpulllaw04_NormUnits.bits7 (fun G e1=>?_);generalize wr.drew=N8 at D V g4 g5 g6 g7 g8 g9 h0 h1 B ⊢;refine pure_ (i:=0) (N:=some 28) (v:=?_) (a':=?_) #[y_,n_,n_,n_,n_,n_,n_,n_,n_,n_,n_,n_,n_,n_,n_,n_,n_,n_,n_,n_,n_,n_,n_,n_,n_,n_,n_,n_,n_,n_,n_,n_] rfl rfl (any_of G.1 (by kernel_rfl)) (fun _ _ _ h=>h) (Or.inl ⟨by rfl,?_⟩) ?_ ?_;rotate_left
            ·
             intro w';go_simp;with_reducible rfl
            rotate_left
            ·
             simp only [Act.put,s0_,s1_,s2_,i64_w,i32_w];rfl
            refine pure_ (i:=1) (N:=some 29) (v:=?_) (a':=?_) #[y_,y_,n_,n_,n_,n_,n_,n_,n_,n_,n_,n_,n_,n_,n_,n_,n_,n_,n_,n_,n_,n_,n_,n_,n_,n_,n_,n_,n_,n_,n_,n_] rfl rfl (any_of G.1 (by kernel_rfl)) (fun _ _ _ h=>h) (Or.inl ⟨by rfl,?_⟩) ?_ ?_;rotate_left
            ·
             intro w';go_simp;with_reducible rfl
            rotate_left
            ·
             simp only [Act.put,s0_,s1_,s2_,i64_w,i32_w];rfl
            refine pure_ (i:=2) (N:=some 30) (v:=?_) (a':=?_) #[y_,y_,y_,n_,n_,n_,n_,n_,n_,n_,n_,n_,n_,n_,n_,n_,n_,n_,n_,n_,n_,n_,n_,n_,n_,n_,n_,n_,n_,n_,n_,n_] rfl rfl (any_of G.1 (by kernel_rfl)) (fun _ _ _ h=>h) (Or.inl ⟨by rfl,?_⟩) ?_ ?_;rotate_left
            ·
             intro w';go_simp;with_reducible rfl
            rotate_left
            ·
             simp only [Act.put,s0_,s1_,s2_,i64_w,i32_w];rfl
            refine take_ (i:=3) (N:=some 31) (v:=?_) (a':=?_) #[y_,y_,y_,y_,n_,n_,n_,n_,n_,n_,n_,n_,n_,n_,n_,n_,n_,n_,n_,n_,n_,n_,n_,n_,n_,n_,n_,n_,n_,n_,n_,n_] rfl rfl (take_ofW G.1 e1.1 (by kernel_rfl)) (fun _ _ _ h=>h) (Or.inl ⟨by rfl,?_⟩) B ?_ ?_;rotate_left
            ·
             rintro w' ⟨s0,s1,s2,s3,s4,s5,s6,s7⟩;go_simp;with_reducible rfl
            rotate_left
            ·
             simp only [Act.put,s0_,s1_,s2_,i64_w,i32_w];rfl
            refine one_ (i:=4) (N:=some 32) #[y_,y_,y_,y_,y_,n_,n_,n_,n_,n_,n_,n_,n_,n_,n_,n_,n_,n_,n_,n_,n_,n_,n_,n_,n_,n_,n_,n_,n_,n_,n_,n_] rfl rfl (one_of G.1 (by kernel_rfl)) (by decide) (fun K hK=>?_);refine Kd.R_lit_step k23 _ 23 ?hg (N:=32) ?hd (xs:=([(⟨(rd_T23 C E).f0,(rd_T23 C E).f1,(rd_T23 C E).f2,(rd_T23 C E).f3⟩:S23)]:List (S23))) (inner:=[.int .i64 ((rd_T23 C E).f0),.int .i64 ((rd_T23 C E).f1),.int .i64 ((rd_T23 C E).f2),.int .i64 ((rd_T23 C E).f3)]) (ok:=fun _=>True) (okp:=fun _=>True) ?hr ?hp (fun _ hk=>hk) trivial (Below.refl _ _) (Nat.le_refl _) (by simp) ?_;(case hd=>rfl);(case hg=>rfl);(case hr=>first|(go_simp;done)|(go_simp;rfl));(case hp=>exact (Reps.c4 (show Kd.M k23 _ _ _ (⟨(rd_T23 C E).f0,(rd_T23 C E).f1,(rd_T23 C E).f2,(rd_T23 C E).f3⟩:S23) [.int .i64 ((rd_T23 C E).f0),.int .i64 ((rd_T23 C E).f1),.int .i64 ((rd_T23 C E).f2),.int .i64 ((rd_T23 C E).f3)] from (k23_mkM _ _ _ (⟨(rd_T23 C E).f0,(rd_T23 C E).f1,(rd_T23 C E).f2,(rd_T23 C E).f3⟩:S23) )) (Reps.none _ _)));intro F0 N9 n1 hb hg_ t6;have c2:=(hb.cell (World.block_lt_of_cell? _ _ (B.1))).trans (B.1);have c7:=(hb.cell (World.block_lt_of_cell? _ _ (B.2.1))).trans (B.2.1);have c8:=(hb.cell (World.block_lt_of_cell? _ _ (B.2.2.1))).trans (B.2.2.1);have c9:=(hb.cell (World.block_lt_of_cell? _ _ (B.2.2.2.1))).trans (B.2.2.2.1);have a3:=(hb.cell (World.block_lt_of_cell? _ _ (B.2.2.2.2.1))).trans (B.2.2.2.2.1);have a4:=(hb.cell (World.block_lt_of_cell? _ _ (B.2.2.2.2.2.1))).trans (B.2.2.2.2.2.1);have a5:=(hb.cell (World.block_lt_of_cell? _ _ (B.2.2.2.2.2.2.1))).trans (B.2.2.2.2.2.2.1);have a6:=(hb.cell (World.block_lt_of_cell? _ _ (B.2.2.2.2.2.2.2))).trans (B.2.2.2.2.2.2.2);clear hg_ t6;(first|rw [← p3.1] at n1|(simp only [Int.reduceToNat] at n1;rw [← p3.1] at n1));have c0:=mk0 (Kd.R_lower (Kd.R_new' n1 (Kd.R_lt D.1)) (below_size V.1));replace D:=mk0 (Kd.R_elder' D.1 (Kd.R_base n1) hb);replace V:=bst V hb;clear hb n1;obtain ⟨F3,F4,B4⟩:=Kd.R_slice c0.1;(first|subst B4|(injection B4 with f1_ f2_ f3_;have f4_:=f1_.symm;have i4:=f3_.symm;clear f1_ f2_ f3_;subst f4_;subst i4));refine hK.out _ _ ⟨c2,c7,c8,c9,a3,a4,a5,a6⟩ (fun B=>?_);clear hK K;refine norm_ (a':=?_) ?_ ?_;rotate_left
            ·
             show Act.put _ (some 32) _=_;simp only [Act.put,s0_,s1_,s2_,i64_w,i32_w];rfl
            refine one_ (i:=5) (N:=some 33) #[y_,y_,y_,y_,y_,y_,n_,n_,n_,n_,n_,n_,n_,n_,n_,n_,n_,n_,n_,n_,n_,n_,n_,n_,n_,n_,n_,n_,n_,n_,n_,n_] rfl rfl (one_of G.1 (by kernel_rfl)) (by decide) (fun K hK=>?_);refine goes_ Try.func18 (by kernel_rfl) rfl #[.slice F3 p9.length F4] (by rfl) rfl rfl (by (try simp only [m0_,m1_,m2_]);first|done|rfl|(simp only [l0_,l1_];rfl)) ?_;with_reducible refine (bellpullref04_Check.calls k2 _ _ p9 j4 _ ?side1 ?side2 A1.1).mono ?_
            (case side1=>repeat (first|exact (Kd.R_reads' c0.1).2.2|(with_reducible refine Kd.C_alloc ?_ _)|(with_reducible refine Kd.C_drewN ?_ _)|(with_reducible refine Kd.C_drew ?_)));(case side2=>exact (Kd.R_reads' c0.1).2.1);rintro e O0 ⟨rfl,hb⟩;have c2:=(hb.cell (World.block_lt_of_cell? _ _ (B.1))).trans (B.1);have c7:=(hb.cell (World.block_lt_of_cell? _ _ (B.2.1))).trans (B.2.1);have c8:=(hb.cell (World.block_lt_of_cell? _ _ (B.2.2.1))).trans (B.2.2.1);have c9:=(hb.cell (World.block_lt_of_cell? _ _ (B.2.2.2.1))).trans (B.2.2.2.1);have a3:=(hb.cell (World.block_lt_of_cell? _ _ (B.2.2.2.2.1))).trans (B.2.2.2.2.1);have a4:=(hb.cell (World.block_lt_of_cell? _ _ (B.2.2.2.2.2.1))).trans (B.2.2.2.2.2.1);have a5:=(hb.cell (World.block_lt_of_cell? _ _ (B.2.2.2.2.2.2.1))).trans (B.2.2.2.2.2.2.1);have a6:=(hb.cell (World.block_lt_of_cell? _ _ (B.2.2.2.2.2.2.2))).trans (B.2.2.2.2.2.2.2);refine ⟨_,rfl,?_⟩;replace D:=rbl D hb;replace c0:=rbl c0 hb;replace V:=bst V hb;(try clear hb);refine hK.out _ _ ⟨c2,c7,c8,c9,a3,a4,a5,a6⟩ (fun B=>?_);clear hK K;refine norm_ (a':=?_) ?_ ?_;rotate_left
            ·
             show Act.put _ (some 33) _=_;simp only [Act.put,s0_,s1_,s2_,i64_w,i32_w];rfl
            refine pure_ (i:=6) (N:=some 34) (v:=?_) (a':=?_) #[y_,y_,y_,y_,y_,y_,y_,n_,n_,n_,n_,n_,n_,n_,n_,n_,n_,n_,n_,n_,n_,n_,n_,n_,n_,n_,n_,n_,n_,n_,n_,n_] rfl rfl (any_of G.1 (by kernel_rfl)) (fun _ _ _ h=>h) (Or.inl ⟨by rfl,?_⟩) ?_ ?_;rotate_left
            ·
             intro w';go_simp;with_reducible rfl
            rotate_left
            ·
             simp only [Act.put,s0_,s1_,s2_,i64_w,i32_w];rfl
            refine pure_ (i:=7) (N:=some 35) (v:=?_) (a':=?_) #[y_,y_,y_,y_,y_,y_,y_,y_,n_,n_,n_,n_,n_,n_,n_,n_,n_,n_,n_,n_,n_,n_,n_,n_,n_,n_,n_,n_,n_,n_,n_,n_] rfl rfl (any_of G.1 (by kernel_rfl)) (fun _ _ _ h=>h) (Or.inl ⟨by rfl,?_⟩) ?_ ?_;rotate_left
            ·
             intro w';go_simp;with_reducible rfl
            rotate_left
            ·
             simp only [Act.put,s0_,s1_,s2_,i64_w,i32_w];rfl
            refine pure_ (i:=8) (N:=some 36) (v:=?_) (a':=?_) #[y_,y_,y_,y_,y_,y_,y_,y_,y_,n_,n_,n_,n_,n_,n_,n_,n_,n_,n_,n_,n_,n_,n_,n_,n_,n_,n_,n_,n_,n_,n_,n_] rfl rfl (any_of G.1 (by kernel_rfl)) (fun _ _ _ h=>h) (Or.inl ⟨by rfl,?_⟩) ?_ ?_;rotate_left
            ·
             intro w';go_simp;with_reducible rfl
            rotate_left
            ·
             simp only [Act.put,s0_,s1_,s2_,i64_w,i32_w];rfl
            refine pure_ (i:=9) (N:=some 37) (v:=?_) (a':=?_) #[y_,y_,y_,y_,y_,y_,y_,y_,y_,y_,n_,n_,n_,n_,n_,n_,n_,n_,n_,n_,n_,n_,n_,n_,n_,n_,n_,n_,n_,n_,n_,n_] rfl rfl (any_of G.1 (by kernel_rfl)) (fun _ _ _ h=>h) (Or.inl ⟨by rfl,?_⟩) ?_ ?_;rotate_left
            ·
             intro w';go_simp;with_reducible rfl
            rotate_left
            ·
             simp only [Act.put,s0_,s1_,s2_,i64_w,i32_w];rfl
            refine pure_ (i:=10) (N:=some 38) (v:=?_) (a':=?_) #[y_,y_,y_,y_,y_,y_,y_,y_,y_,y_,y_,n_,n_,n_,n_,n_,n_,n_,n_,n_,n_,n_,n_,n_,n_,n_,n_,n_,n_,n_,n_,n_] rfl rfl (any_of G.1 (by kernel_rfl)) (fun _ _ _ h=>h) (Or.inl ⟨by rfl,?_⟩) ?_ ?_;rotate_left
            ·
             intro w';go_simp;with_reducible rfl
            rotate_left
            ·
             simp only [Act.put,s0_,s1_,s2_,i64_w,i32_w];rfl
            refine take_ (i:=11) (N:=some 39) (v:=?_) (a':=?_) #[y_,y_,y_,y_,y_,y_,y_,y_,y_,y_,y_,y_,n_,n_,n_,n_,n_,n_,n_,n_,n_,n_,n_,n_,n_,n_,n_,n_,n_,n_,n_,n_] rfl rfl (take_ofW G.1 e1.1 (by kernel_rfl)) (fun _ _ _ h=>h) (Or.inl ⟨by rfl,?_⟩) B ?_ ?_;rotate_left
            ·
             rintro w' ⟨s0,s1,s2,s3,s4,s5,s6,s7⟩;go_simp;with_reducible rfl
            rotate_left
            ·
             simp only [Act.put,s0_,s1_,s2_,i64_w,i32_w];rfl
            refine one_ (i:=12) (N:=some 40) #[y_,y_,y_,y_,y_,y_,y_,y_,y_,y_,y_,y_,y_,n_,n_,n_,n_,n_,n_,n_,n_,n_,n_,n_,n_,n_,n_,n_,n_,n_,n_,n_] rfl rfl (one_of G.1 (by kernel_rfl)) (by decide) (fun K hK=>?_);refine goes_ Try.func34 (by kernel_rfl) rfl #[.agg #[.int .i64 ((rd_T23 C E).f0),.int .i64 ((rd_T23 C E).f1),.int .i64 ((rd_T23 C E).f2),.int .i64 ((rd_T23 C E).f3)]] (by rfl) rfl rfl (by (try simp only [m0_,m1_,m2_]);first|done|rfl|(simp only [l0_,l1_];rfl)) ?_;with_reducible refine (bellpullref04_Norm.calls ((rd_T23 C E).f0) ((rd_T23 C E).f1) ((rd_T23 C E).f2) ((rd_T23 C E).f3) j5 _ A4.1).mono ?_
            rintro e O1 ⟨rfl,hb⟩;have c2:=(hb.cell (World.block_lt_of_cell? _ _ (B.1))).trans (B.1);have c7:=(hb.cell (World.block_lt_of_cell? _ _ (B.2.1))).trans (B.2.1);have c8:=(hb.cell (World.block_lt_of_cell? _ _ (B.2.2.1))).trans (B.2.2.1);have c9:=(hb.cell (World.block_lt_of_cell? _ _ (B.2.2.2.1))).trans (B.2.2.2.1);have a3:=(hb.cell (World.block_lt_of_cell? _ _ (B.2.2.2.2.1))).trans (B.2.2.2.2.1);have a4:=(hb.cell (World.block_lt_of_cell? _ _ (B.2.2.2.2.2.1))).trans (B.2.2.2.2.2.1);have a5:=(hb.cell (World.block_lt_of_cell? _ _ (B.2.2.2.2.2.2.1))).trans (B.2.2.2.2.2.2.1);have a6:=(hb.cell (World.block_lt_of_cell? _ _ (B.2.2.2.2.2.2.2))).trans (B.2.2.2.2.2.2.2);refine ⟨_,rfl,?_⟩;replace D:=rbl D hb;replace c0:=rbl c0 hb;replace V:=bst V hb;(try clear hb);refine hK.out _ _ ⟨c2,c7,c8,c9,a3,a4,a5,a6⟩ (fun B=>?_);clear hK K;refine norm_ (a':=?_) ?_ ?_;rotate_left
            ·
             show Act.put _ (some 40) _=_;simp only [Act.put,s0_,s1_,s2_,i64_w,i32_w];rfl
            refine pure_ (i:=13) (N:=some 41) (v:=?_) (a':=?_) #[y_,y_,y_,y_,y_,y_,y_,y_,y_,y_,y_,y_,y_,y_,n_,n_,n_,n_,n_,n_,n_,n_,n_,n_,n_,n_,n_,n_,n_,n_,n_,n_] rfl rfl (any_of G.1 (by kernel_rfl)) (fun _ _ _ h=>h) (Or.inl ⟨by rfl,?_⟩) ?_ ?_;rotate_left
            ·
             intro w';go_simp;with_reducible rfl
            rotate_left
            ·
             simp only [Act.put,s0_,s1_,s2_,i64_w,i32_w];rfl
            refine pure_ (i:=14) (N:=some 42) (v:=?_) (a':=?_) #[y_,y_,y_,y_,y_,y_,y_,y_,y_,y_,y_,y_,y_,y_,y_,n_,n_,n_,n_,n_,n_,n_,n_,n_,n_,n_,n_,n_,n_,n_,n_,n_] rfl rfl (any_of G.1 (by kernel_rfl)) (fun _ _ _ h=>h) (Or.inl ⟨by rfl,?_⟩) ?_ ?_;rotate_left
            ·
             intro w';go_simp;with_reducible rfl
            rotate_left
            ·
             simp only [Act.put,s0_,s1_,s2_,i64_w,i32_w];rfl
            refine pure_ (i:=15) (N:=some 43) (v:=?_) (a':=?_) #[y_,y_,y_,y_,y_,y_,y_,y_,y_,y_,y_,y_,y_,y_,y_,y_,n_,n_,n_,n_,n_,n_,n_,n_,n_,n_,n_,n_,n_,n_,n_,n_] rfl rfl (any_of G.1 (by kernel_rfl)) (fun _ _ _ h=>h) (Or.inl ⟨by rfl,?_⟩) ?_ ?_;rotate_left
            ·
             intro w';go_simp;with_reducible rfl
            rotate_left
            ·
             simp only [Act.put,s0_,s1_,s2_,i64_w,i32_w];rfl
            refine pure_ (i:=16) (N:=some 44) (v:=?_) (a':=?_) #[y_,y_,y_,y_,y_,y_,y_,y_,y_,y_,y_,y_,y_,y_,y_,y_,y_,n_,n_,n_,n_,n_,n_,n_,n_,n_,n_,n_,n_,n_,n_,n_] rfl rfl (any_of G.1 (by kernel_rfl)) (fun _ _ _ h=>h) (Or.inl ⟨by rfl,?_⟩) ?_ ?_;rotate_left
            ·
             intro w';go_simp;with_reducible rfl
            rotate_left
            ·
             simp only [Act.put,s0_,s1_,s2_,i64_w,i32_w];rfl
            refine pure_ (i:=17) (N:=some 45) (v:=?_) (a':=?_) #[y_,y_,y_,y_,y_,y_,y_,y_,y_,y_,y_,y_,y_,y_,y_,y_,y_,y_,n_,n_,n_,n_,n_,n_,n_,n_,n_,n_,n_,n_,n_,n_] rfl rfl (any_of G.1 (by kernel_rfl)) (fun _ _ _ h=>h) (Or.inl ⟨by rfl,?_⟩) ?_ ?_;rotate_left
            ·
             intro w';go_simp;with_reducible rfl
            rotate_left
            ·
             simp only [Act.put,s0_,s1_,s2_,i64_w,i32_w];rfl
            refine pure_ (i:=18) (N:=some 46) (v:=?_) (a':=?_) #[y_,y_,y_,y_,y_,y_,y_,y_,y_,y_,y_,y_,y_,y_,y_,y_,y_,y_,y_,n_,n_,n_,n_,n_,n_,n_,n_,n_,n_,n_,n_,n_] rfl rfl (any_of G.1 (by kernel_rfl)) (fun _ _ _ h=>h) (Or.inl ⟨by rfl,?_⟩) ?_ ?_;rotate_left
            ·
             intro w';go_simp;with_reducible rfl
            rotate_left
            ·
             simp only [Act.put,s0_,s1_,s2_,i64_w,i32_w];rfl
            refine pure_ (i:=19) (N:=some 47) (v:=undef) (a':=?_) #[y_,y_,y_,y_,y_,y_,y_,y_,y_,y_,y_,y_,y_,y_,y_,y_,y_,y_,y_,y_,n_,n_,n_,n_,n_,n_,n_,n_,n_,n_,n_,n_] rfl rfl (any_of G.1 (by kernel_rfl)) (fun _ _ _ h=>h) (Or.inr ⟨by rfl,rfl⟩) ?_ ?_;rotate_left
            ·
             simp only [Act.put,s0_,s1_,s2_,i64_w,i32_w];rfl
            refine pure_ (i:=20) (N:=some 48) (v:=undef) (a':=?_) #[y_,y_,y_,y_,y_,y_,y_,y_,y_,y_,y_,y_,y_,y_,y_,y_,y_,y_,y_,y_,y_,n_,n_,n_,n_,n_,n_,n_,n_,n_,n_,n_] rfl rfl (any_of G.1 (by kernel_rfl)) (fun _ _ _ h=>h) (Or.inr ⟨by rfl,rfl⟩) ?_ ?_;rotate_left
            ·
             simp only [Act.put,s0_,s1_,s2_,i64_w,i32_w];rfl
            refine pure_ (i:=21) (N:=some 49) (v:=undef) (a':=?_) #[y_,y_,y_,y_,y_,y_,y_,y_,y_,y_,y_,y_,y_,y_,y_,y_,y_,y_,y_,y_,y_,y_,n_,n_,n_,n_,n_,n_,n_,n_,n_,n_] rfl rfl (any_of G.1 (by kernel_rfl)) (fun _ _ _ h=>h) (Or.inr ⟨by rfl,rfl⟩) ?_ ?_;rotate_left
            ·
             simp only [Act.put,s0_,s1_,s2_,i64_w,i32_w];rfl
            refine pure_ (i:=22) (N:=some 50) (v:=undef) (a':=?_) #[y_,y_,y_,y_,y_,y_,y_,y_,y_,y_,y_,y_,y_,y_,y_,y_,y_,y_,y_,y_,y_,y_,y_,n_,n_,n_,n_,n_,n_,n_,n_,n_] rfl rfl (any_of G.1 (by kernel_rfl)) (fun _ _ _ h=>h) (Or.inr ⟨by rfl,rfl⟩) ?_ ?_;rotate_left
            ·
             simp only [Act.put,s0_,s1_,s2_,i64_w,i32_w];rfl
            refine pure_ (i:=23) (N:=some 51) (v:=undef) (a':=?_) #[y_,y_,y_,y_,y_,y_,y_,y_,y_,y_,y_,y_,y_,y_,y_,y_,y_,y_,y_,y_,y_,y_,y_,y_,n_,n_,n_,n_,n_,n_,n_,n_] rfl rfl (any_of G.1 (by kernel_rfl)) (fun _ _ _ h=>h) (Or.inr ⟨by rfl,rfl⟩) ?_ ?_;rotate_left
            ·
             simp only [Act.put,s0_,s1_,s2_,i64_w,i32_w];rfl
            refine pure_ (i:=24) (N:=some 52) (v:=undef) (a':=?_) #[y_,y_,y_,y_,y_,y_,y_,y_,y_,y_,y_,y_,y_,y_,y_,y_,y_,y_,y_,y_,y_,y_,y_,y_,y_,n_,n_,n_,n_,n_,n_,n_] rfl rfl (any_of G.1 (by kernel_rfl)) (fun _ _ _ h=>h) (Or.inr ⟨by rfl,rfl⟩) ?_ ?_;rotate_left
            ·
             simp only [Act.put,s0_,s1_,s2_,i64_w,i32_w];rfl
            refine pure_ (i:=25) (N:=some 53) (v:=undef) (a':=?_) #[y_,y_,y_,y_,y_,y_,y_,y_,y_,y_,y_,y_,y_,y_,y_,y_,y_,y_,y_,y_,y_,y_,y_,y_,y_,y_,n_,n_,n_,n_,n_,n_] rfl rfl (any_of G.1 (by kernel_rfl)) (fun _ _ _ h=>h) (Or.inr ⟨by rfl,rfl⟩) ?_ ?_;rotate_left
            ·
             simp only [Act.put,s0_,s1_,s2_,i64_w,i32_w];rfl
            refine pure_ (i:=26) (N:=some 54) (v:=undef) (a':=?_) #[y_,y_,y_,y_,y_,y_,y_,y_,y_,y_,y_,y_,y_,y_,y_,y_,y_,y_,y_,y_,y_,y_,y_,y_,y_,y_,y_,n_,n_,n_,n_,n_] rfl rfl (any_of G.1 (by kernel_rfl)) (fun _ _ _ h=>h) (Or.inr ⟨by rfl,rfl⟩) ?_ ?_;rotate_left
            ·
             simp only [Act.put,s0_,s1_,s2_,i64_w,i32_w];rfl
            refine pure_ (i:=27) (N:=some 55) (v:=undef) (a':=?_) #[y_,y_,y_,y_,y_,y_,y_,y_,y_,y_,y_,y_,y_,y_,y_,y_,y_,y_,y_,y_,y_,y_,y_,y_,y_,y_,y_,y_,n_,n_,n_,n_] rfl rfl (any_of G.1 (by kernel_rfl)) (fun _ _ _ h=>h) (Or.inr ⟨by rfl,rfl⟩) ?_ ?_;rotate_left
            ·
             simp only [Act.put,s0_,s1_,s2_,i64_w,i32_w];rfl
            refine pure_ (i:=28) (N:=some 56) (v:=undef) (a':=?_) #[y_,y_,y_,y_,y_,y_,y_,y_,y_,y_,y_,y_,y_,y_,y_,y_,y_,y_,y_,y_,y_,y_,y_,y_,y_,y_,y_,y_,y_,n_,n_,n_] rfl rfl (any_of G.1 (by kernel_rfl)) (fun _ _ _ h=>h) (Or.inr ⟨by rfl,rfl⟩) ?_ ?_;rotate_left
            ·
             simp only [Act.put,s0_,s1_,s2_,i64_w,i32_w];rfl
            refine pure_ (i:=29) (N:=some 57) (v:=undef) (a':=?_) #[y_,y_,y_,y_,y_,y_,y_,y_,y_,y_,y_,y_,y_,y_,y_,y_,y_,y_,y_,y_,y_,y_,y_,y_,y_,y_,y_,y_,y_,y_,n_,n_] rfl rfl (any_of G.1 (by kernel_rfl)) (fun _ _ _ h=>h) (Or.inr ⟨by rfl,rfl⟩) ?_ ?_;rotate_left
            ·
             simp only [Act.put,s0_,s1_,s2_,i64_w,i32_w];rfl
            refine pure_ (i:=30) (N:=some 58) (v:=?_) (a':=?_) #[y_,y_,y_,y_,y_,y_,y_,y_,y_,y_,y_,y_,y_,y_,y_,y_,y_,y_,y_,y_,y_,y_,y_,y_,y_,y_,y_,y_,y_,y_,y_,n_] rfl rfl (any_of G.1 (by kernel_rfl)) (fun _ _ _ h=>h) (Or.inl ⟨by rfl,?_⟩) ?_ ?_;rotate_left
            ·
             intro w';go_simp;with_reducible rfl
            rotate_left
            ·
             simp only [Act.put,s0_,s1_,s2_,i64_w,i32_w];rfl
            refine pure_ (i:=31) (N:=some 59) (v:=?_) (a':=?_) #[y_,y_,y_,y_,y_,y_,y_,y_,y_,y_,y_,y_,y_,y_,y_,y_,y_,y_,y_,y_,y_,y_,y_,y_,y_,y_,y_,y_,y_,y_,y_,y_] rfl rfl (any_of G.1 (by kernel_rfl)) (fun _ _ _ h=>h) (Or.inl ⟨by rfl,?_⟩) ?_ ?_;rotate_left
            ·
             intro w';go_simp;with_reducible rfl
            rotate_left
            ·
             simp only [Act.put,s0_,s1_,s2_,i64_w,i32_w];rfl
            refine done_ (done_of G.1 (by kernel_rfl)) ?_;try go_wp2
            go_roundg k2
            case measure=>have:=o5.1;have:=o6.1;omega
            case rel=>exact ⟨(wrap64 (E + 1)),(by first|rfl|(simp;done)|(simp [*];done)),H',⟨by have:=o5.1;have:=o6.1;omega⟩,⟨by (with_reducible repeat (first|apply Kd.R_alloc|apply Kd.R_drewN|apply Kd.R_drew));exact Kd.R_mono D.1 (fun _ hk=>trivial)⟩,⟨by repeat (first|(with_reducible first|exact V.1|apply below_alloc|apply pw_below_drewN|apply below_drew1)|exact V.1)⟩⟩
          ·
           rw [if_neg c17] at H;exact absurd H (by simp)
         ·
          rw [if_neg c15] at H;exact absurd H (by simp)
        ·
         rw [if_neg c13] at H;exact absurd H (by simp)
       ·
        rw [if_neg c12] at H;exact absurd H (by simp)
      ·
       rw [if_neg c11] at H;have c11b0:decide (E < 24)=false:=decide_eq_false c11;clear c11;obtain ⟨F,g2⟩:∃ j_:Int,(Int.tmod (wrap64 (a0)) 24)=j_:=⟨_,rfl⟩
       replace H:(if 0 ≤ (F) then (if (F) < (C.length:Int) then (if 0 ≤ (Int.tmod (wrap64 (a1)) 24) then (if (Int.tmod (wrap64 (a1)) 24) < (C.length:Int) then ((norm_Mul.f k2 ((rd_T23 C (F)).f0) ((rd_T23 C (F)).f1) ((rd_T23 C (F)).f2) ((rd_T23 C (F)).f3) ((rd_T23 C (Int.tmod (wrap64 (a1)) 24)).f0) ((rd_T23 C (Int.tmod (wrap64 (a1)) 24)).f1) ((rd_T23 C (Int.tmod (wrap64 (a1)) 24)).f2) ((rd_T23 C (Int.tmod (wrap64 (a1)) 24)).f3)).bind fun e8=>((norm_Conj.f k2 ((rd_T23 C (F)).f0) ((rd_T23 C (F)).f1) ((rd_T23 C (F)).f2) ((rd_T23 C (F)).f3)).bind fun e9=>((norm_Mul.f k2 ((rd_T23 C (F)).f0) ((rd_T23 C (F)).f1) ((rd_T23 C (F)).f2) ((rd_T23 C (F)).f3) e9.1 e9.2.1 e9.2.2.1 e9.2.2.2.1).bind fun f4=>(bellpulllaw04_NormUnits.l1 k2 C e8.2.2.2.2 e9.2.2.2.2 f4.2.2.2.2 false 0 e8.1 e8.2.1 e8.2.2.1 e8.2.2.2.1 f4.1 f4.2.1 f4.2.2.1 f4.2.2.2.1)))) else (none)) else (none)) else (none)) else (none))=some r:=by first|(rw [g2] at H;exact H)|(simp only [g2] at H ⊢;exact H)
       by_cases c40:0 ≤ (F)
       ·
        rw [if_pos c40] at H;have c40b0:decide (0 ≤ (F))=true:=decide_eq_true c40;clear c40
        by_cases c41:(F) < (C.length:Int)
        ·
         rw [if_pos c41] at H;have c41b0:decide ((F) < (C.length:Int))=true:=decide_eq_true c41;clear c41;obtain ⟨T,m3⟩:∃ j_:Int,(Int.tmod (wrap64 (a1)) 24)=j_:=⟨_,rfl⟩
         replace H:(if 0 ≤ (T) then (if (T) < (C.length:Int) then ((norm_Mul.f k2 ((rd_T23 C (F)).f0) ((rd_T23 C (F)).f1) ((rd_T23 C (F)).f2) ((rd_T23 C (F)).f3) ((rd_T23 C (T)).f0) ((rd_T23 C (T)).f1) ((rd_T23 C (T)).f2) ((rd_T23 C (T)).f3)).bind fun e8=>((norm_Conj.f k2 ((rd_T23 C (F)).f0) ((rd_T23 C (F)).f1) ((rd_T23 C (F)).f2) ((rd_T23 C (F)).f3)).bind fun e9=>((norm_Mul.f k2 ((rd_T23 C (F)).f0) ((rd_T23 C (F)).f1) ((rd_T23 C (F)).f2) ((rd_T23 C (F)).f3) e9.1 e9.2.1 e9.2.2.1 e9.2.2.2.1).bind fun f4=>(bellpulllaw04_NormUnits.l1 k2 C e8.2.2.2.2 e9.2.2.2.2 f4.2.2.2.2 false 0 e8.1 e8.2.1 e8.2.2.1 e8.2.2.2.1 f4.1 f4.2.1 f4.2.2.1 f4.2.2.2.1)))) else (none)) else (none))=some r:=by first|(rw [m3] at H;exact H)|(simp only [m3] at H ⊢;exact H)
         by_cases c43:0 ≤ (T)
         ·
          rw [if_pos c43] at H;have c43b0:decide (0 ≤ (T))=true:=decide_eq_true c43;clear c43
          by_cases c44:(T) < (C.length:Int)
          ·
           rw [if_pos c44] at H;have c44b0:decide ((T) < (C.length:Int))=true:=decide_eq_true c44;clear c44;replace H:=Option.bind_eq_some_iff.mp H;obtain ⟨⟨a8,b0,b6,b7,f9⟩,B5,H⟩:=H;(try dsimp only at H);have E6:=mk0 B5;clear B5;replace H:=Option.bind_eq_some_iff.mp H;obtain ⟨⟨b8,d0,d2,d5,i5⟩,B6,H⟩:=H;(try dsimp only at H);have H0:=mk0 B6;clear B6;replace H:=Option.bind_eq_some_iff.mp H;obtain ⟨⟨b9,d1,d3,d6,g0⟩,B7,H⟩:=H;(try dsimp only at H);have E7:=mk0 B7;clear B7;have H':=mk0 H;clear H;try go_wp2
           replace D:=rdr D;replace V:=hdr V;obtain ⟨L3,n2,B8⟩:=Kd.R_slice D.1;(first|subst B8|(injection B8 with f1_ f2_ f3_;have f4_:=f1_.symm;have i4:=f3_.symm;clear f1_ f2_ f3_;subst f4_;subst i4));have x1:0 ≤ ((F):Int):=of_decide_eq_true (by first|(with_reducible assumption)|assumption);have x2:(F) < (C.length:Int):=of_decide_eq_true (by first|(with_reducible assumption)|assumption);obtain ⟨I,F5,n3,n4,n5,n6⟩:=at_T23 (Kd.R_reads' D.1).2.2 (F) x1 x2;cases F5;replace x1:=eq_true x1;replace x2:=eq_true x2;have x3:0 ≤ ((T):Int):=of_decide_eq_true (by first|(with_reducible assumption)|assumption);have x4:(T) < (C.length:Int):=of_decide_eq_true (by first|(with_reducible assumption)|assumption);obtain ⟨D7,F6,n7,n8,n9,o0⟩:=at_T23 (Kd.R_reads' D.1).2.2 (T) x3 x4;obtain rfl:I=D7:=(by injection F6)
           replace x3:=eq_true x3;replace x4:=eq_true x4;refine start_ (n:=19) (S:=fun w'=>w'.cell? (I.add (((F)).toNat * 4))=some (.int .i64 ((rd_T23 C (F)).f0))∧w'.cell? ⟨(I.add (((F)).toNat * 4)).block,(I.add (((F)).toNat * 4)).off + 1,none⟩=some (.int .i64 ((rd_T23 C (F)).f1))∧w'.cell? ⟨(I.add (((F)).toNat * 4)).block,(I.add (((F)).toNat * 4)).off + 2,none⟩=some (.int .i64 ((rd_T23 C (F)).f2))∧w'.cell? ⟨(I.add (((F)).toNat * 4)).block,(I.add (((F)).toNat * 4)).off + 3,none⟩=some (.int .i64 ((rd_T23 C (F)).f3))∧w'.cell? (I.add (((T)).toNat * 4))=some (.int .i64 ((rd_T23 C (T)).f0))∧w'.cell? ⟨(I.add (((T)).toNat * 4)).block,(I.add (((T)).toNat * 4)).off + 1,none⟩=some (.int .i64 ((rd_T23 C (T)).f1))∧w'.cell? ⟨(I.add (((T)).toNat * 4)).block,(I.add (((T)).toNat * 4)).off + 2,none⟩=some (.int .i64 ((rd_T23 C (T)).f2))∧w'.cell? ⟨(I.add (((T)).toNat * 4)).block,(I.add (((T)).toNat * 4)).off + 3,none⟩=some (.int .i64 ((rd_T23 C (T)).f3))) (ds:=[]) #[n_,n_,n_,n_,n_,n_,n_,n_,n_,n_,n_,n_,n_,n_,n_,n_,n_,n_,n_] (by kernel_rfl) rfl rfl ⟨n3,n4,n5,n6,n7,n8,n9,o0⟩ (fun B=>?_);refine with_tabW bellpulllaw04_NormUnits.tab9 bellpulllaw04_NormUnits.bits9 (fun G e1=>?_);generalize wr.drew=O2 at D V n3 n4 n5 n6 n7 n8 n9 o0 B ⊢;refine pure_ (i:=0) (N:=some 61) (v:=?_) (a':=?_) #[y_,n_,n_,n_,n_,n_,n_,n_,n_,n_,n_,n_,n_,n_,n_,n_,n_,n_,n_] rfl rfl (any_of G.1 (by kernel_rfl)) (fun _ _ _ h=>h) (Or.inl ⟨by rfl,?_⟩) ?_ ?_;rotate_left
           ·
            intro w';go_simp;with_reducible rfl
           rotate_left
           ·
            simp only [Act.put,s0_,s1_,s2_,i64_w,i32_w];rfl
           refine pure_ (i:=1) (N:=some 62) (v:=?_) (a':=?_) #[y_,y_,n_,n_,n_,n_,n_,n_,n_,n_,n_,n_,n_,n_,n_,n_,n_,n_,n_] rfl rfl (any_of G.1 (by kernel_rfl)) (fun _ _ _ h=>h) (Or.inl ⟨by rfl,?_⟩) ?_ ?_;rotate_left
           ·
            intro w';go_simp;with_reducible rfl
           rotate_left
           ·
            simp only [Act.put,s0_,s1_,s2_,i64_w,i32_w];rfl
           refine pure_ (i:=2) (N:=some 63) (v:=?_) (a':=?_) #[y_,y_,y_,n_,n_,n_,n_,n_,n_,n_,n_,n_,n_,n_,n_,n_,n_,n_,n_] rfl rfl (any_of G.1 (by kernel_rfl)) (fun _ _ _ h=>h) (Or.inl ⟨by rfl,?_⟩) ?_ ?_;rotate_left
           ·
            intro w';go_simp;with_reducible rfl
           rotate_left
           ·
            simp only [Act.put,s0_,s1_,s2_,i64_w,i32_w];rfl
           refine pure_ (i:=3) (N:=some 64) (v:=?_) (a':=?_) #[y_,y_,y_,y_,n_,n_,n_,n_,n_,n_,n_,n_,n_,n_,n_,n_,n_,n_,n_] rfl rfl (any_of G.1 (by kernel_rfl)) (fun _ _ _ h=>h) (Or.inl ⟨by rfl,?_⟩) ?_ ?_;rotate_left
           ·
            intro w';go_simp;with_reducible rfl
           rotate_left
           ·
            simp only [Act.put,s0_,s1_,s2_,i64_w,i32_w];rfl
           refine pure_ (i:=4) (N:=some 65) (v:=?_) (a':=?_) #[y_,y_,y_,y_,y_,n_,n_,n_,n_,n_,n_,n_,n_,n_,n_,n_,n_,n_,n_] rfl rfl (any_of G.1 (by kernel_rfl)) (fun _ _ _ h=>h) (Or.inl ⟨by rfl,?_⟩) ?_ ?_;rotate_left
           ·
            intro w';go_simp;with_reducible rfl
           rotate_left
           ·
            simp only [Act.put,s0_,s1_,s2_,i64_w,i32_w];rfl
           refine pure_ (i:=6) (N:=some 67) (v:=?_) (a':=?_) #[y_,y_,y_,y_,y_,n_,y_,n_,n_,n_,n_,n_,n_,n_,n_,n_,n_,n_,n_] rfl rfl (any_of G.1 (by kernel_rfl)) (fun _ _ _ h=>h) (Or.inl ⟨by rfl,?_⟩) ?_ ?_;rotate_left
           ·
            intro w';go_simp;with_reducible rfl
           rotate_left
           ·
            simp only [Act.put,s0_,s1_,s2_,i64_w,i32_w];rfl
           refine pure_ (i:=7) (N:=some 68) (v:=?_) (a':=?_) #[y_,y_,y_,y_,y_,n_,y_,y_,n_,n_,n_,n_,n_,n_,n_,n_,n_,n_,n_] rfl rfl (any_of G.1 (by kernel_rfl)) (fun _ _ _ h=>h) (Or.inl ⟨by rfl,?_⟩) ?_ ?_;rotate_left
           ·
            intro w';go_simp;with_reducible rfl
           rotate_left
           ·
            simp only [Act.put,s0_,s1_,s2_,i64_w,i32_w];rfl
           refine pure_ (i:=8) (N:=some 69) (v:=?_) (a':=?_) #[y_,y_,y_,y_,y_,n_,y_,y_,y_,n_,n_,n_,n_,n_,n_,n_,n_,n_,n_] rfl rfl (any_of G.1 (by kernel_rfl)) (fun _ _ _ h=>h) (Or.inl ⟨by rfl,?_⟩) ?_ ?_;rotate_left
           ·
            intro w';go_simp;with_reducible rfl
           rotate_left
           ·
            simp only [Act.put,s0_,s1_,s2_,i64_w,i32_w];rfl
           refine pure_ (i:=9) (N:=some 70) (v:=?_) (a':=?_) #[y_,y_,y_,y_,y_,n_,y_,y_,y_,y_,n_,n_,n_,n_,n_,n_,n_,n_,n_] rfl rfl (any_of G.1 (by kernel_rfl)) (fun _ _ _ h=>h) (Or.inl ⟨by rfl,?_⟩) ?_ ?_;rotate_left
           ·
            intro w';go_simp;with_reducible rfl
           rotate_left
           ·
            simp only [Act.put,s0_,s1_,s2_,i64_w,i32_w];rfl
           refine pure_ (i:=10) (N:=some 71) (v:=?_) (a':=?_) #[y_,y_,y_,y_,y_,n_,y_,y_,y_,y_,y_,n_,n_,n_,n_,n_,n_,n_,n_] rfl rfl (any_of G.1 (by kernel_rfl)) (fun _ _ _ h=>h) (Or.inl ⟨by rfl,?_⟩) ?_ ?_;rotate_left
           ·
            intro w';go_simp;with_reducible rfl
           rotate_left
           ·
            simp only [Act.put,s0_,s1_,s2_,i64_w,i32_w];rfl
           refine take_ (i:=5) (N:=some 66) (v:=?_) (a':=?_) #[y_,y_,y_,y_,y_,y_,y_,y_,y_,y_,y_,n_,n_,n_,n_,n_,n_,n_,n_] rfl rfl (take_ofW G.1 e1.1 (by kernel_rfl)) (fun _ _ _ h=>h) (Or.inl ⟨by rfl,?_⟩) B ?_ ?_;rotate_left
           ·
            rintro w' ⟨s0,s1,s2,s3,s4,s5,s6,s7⟩;go_simp;with_reducible rfl
           rotate_left
           ·
            simp only [Act.put,s0_,s1_,s2_,i64_w,i32_w];rfl
           refine take_ (i:=11) (N:=some 72) (v:=?_) (a':=?_) #[y_,y_,y_,y_,y_,y_,y_,y_,y_,y_,y_,y_,n_,n_,n_,n_,n_,n_,n_] rfl rfl (take_ofW G.1 e1.1 (by kernel_rfl)) (fun _ _ _ h=>h) (Or.inl ⟨by rfl,?_⟩) B ?_ ?_;rotate_left
           ·
            rintro w' ⟨s0,s1,s2,s3,s4,s5,s6,s7⟩;go_simp;with_reducible rfl
           rotate_left
           ·
            simp only [Act.put,s0_,s1_,s2_,i64_w,i32_w];rfl
           refine join_ (σ:=Nat) 2 #[y_,y_,y_,y_,y_,y_,y_,y_,y_,y_,y_,y_,y_,y_,y_,y_,y_,n_,n_] (fun s_=>[(73,.tuple #[.agg #[.int .i64 a8,.int .i64 b0,.int .i64 b6,.int .i64 b7],.int .i64 f9]),(7,.pointer (some ⟨s_,0,none⟩)),(60,.tuple #[.agg #[.int .i64 a8,.int .i64 b0,.int .i64 b6,.int .i64 b7],.int .i64 f9]),(74,.agg #[.int .i64 a8,.int .i64 b0,.int .i64 b6,.int .i64 b7]),(75,.int .i64 f9)]) (fun s_ w'=>(w'.cell? (I.add (((F)).toNat * 4))=some (.int .i64 ((rd_T23 C (F)).f0))∧w'.cell? ⟨(I.add (((F)).toNat * 4)).block,(I.add (((F)).toNat * 4)).off + 1,none⟩=some (.int .i64 ((rd_T23 C (F)).f1))∧w'.cell? ⟨(I.add (((F)).toNat * 4)).block,(I.add (((F)).toNat * 4)).off + 2,none⟩=some (.int .i64 ((rd_T23 C (F)).f2))∧w'.cell? ⟨(I.add (((F)).toNat * 4)).block,(I.add (((F)).toNat * 4)).off + 3,none⟩=some (.int .i64 ((rd_T23 C (F)).f3))∧w'.cell? (I.add (((T)).toNat * 4))=some (.int .i64 ((rd_T23 C (T)).f0))∧w'.cell? ⟨(I.add (((T)).toNat * 4)).block,(I.add (((T)).toNat * 4)).off + 1,none⟩=some (.int .i64 ((rd_T23 C (T)).f1))∧w'.cell? ⟨(I.add (((T)).toNat * 4)).block,(I.add (((T)).toNat * 4)).off + 2,none⟩=some (.int .i64 ((rd_T23 C (T)).f2))∧w'.cell? ⟨(I.add (((T)).toNat * 4)).block,(I.add (((T)).toNat * 4)).off + 3,none⟩=some (.int .i64 ((rd_T23 C (T)).f3)))∧(Kd.R k23 23 w' w.heap.size (fun k_=>k_ ≠ s_) (.slice (some I) C.length n2) C)∧(Q4_ w' s_ 0 0 0 0 23)∧(w.heap.size ≤ s_)∧(w.heap.size ≤ s_)∧(Below w.heap.size w w')) ?_ ?_;rotate_left
           ·
            intro hCont;refine two_ (i:=12) (j:=16) (Ni:=some 73) (Nj:=some 7) #[y_,y_,y_,y_,y_,y_,y_,y_,y_,y_,y_,y_,y_,n_,n_,n_,n_,n_,n_] #[y_,y_,y_,y_,y_,y_,y_,y_,y_,y_,y_,y_,n_,n_,n_,n_,y_,n_,n_] rfl rfl rfl rfl (two_of G.1 (by kernel_rfl)) (by decide) (by decide) (fun K hK=>?_) (fun K hK=>?_)
            ·
             skip
             refine goes_ Try.func38 (by kernel_rfl) rfl #[.agg #[.int .i64 ((rd_T23 C (F)).f0),.int .i64 ((rd_T23 C (F)).f1),.int .i64 ((rd_T23 C (F)).f2),.int .i64 ((rd_T23 C (F)).f3)],.agg #[.int .i64 ((rd_T23 C (T)).f0),.int .i64 ((rd_T23 C (T)).f1),.int .i64 ((rd_T23 C (T)).f2),.int .i64 ((rd_T23 C (T)).f3)]] (by rfl) rfl rfl (by (try simp only [m0_,m1_,m2_]);first|done|(simp only [g2,m3];rfl)|rfl|(simp only [l0_,l1_];rfl)) ?_;with_reducible refine (norm_Mul.calls k2 ((rd_T23 C (F)).f0) ((rd_T23 C (F)).f1) ((rd_T23 C (F)).f2) ((rd_T23 C (F)).f3) ((rd_T23 C (T)).f0) ((rd_T23 C (T)).f1) ((rd_T23 C (T)).f2) ((rd_T23 C (T)).f3) a8 b0 b6 b7 f9 _ E6.1).mono ?_
             rintro e H2 ⟨rfl,hb⟩;have c2:=(hb.cell (World.block_lt_of_cell? _ _ (B.1))).trans (B.1);have c7:=(hb.cell (World.block_lt_of_cell? _ _ (B.2.1))).trans (B.2.1);have c8:=(hb.cell (World.block_lt_of_cell? _ _ (B.2.2.1))).trans (B.2.2.1);have c9:=(hb.cell (World.block_lt_of_cell? _ _ (B.2.2.2.1))).trans (B.2.2.2.1);have a3:=(hb.cell (World.block_lt_of_cell? _ _ (B.2.2.2.2.1))).trans (B.2.2.2.2.1);have a4:=(hb.cell (World.block_lt_of_cell? _ _ (B.2.2.2.2.2.1))).trans (B.2.2.2.2.2.1);have a5:=(hb.cell (World.block_lt_of_cell? _ _ (B.2.2.2.2.2.2.1))).trans (B.2.2.2.2.2.2.1);have a6:=(hb.cell (World.block_lt_of_cell? _ _ (B.2.2.2.2.2.2.2))).trans (B.2.2.2.2.2.2.2);refine ⟨_,rfl,?_⟩;replace D:=rbl D hb;replace V:=bst V hb;(try clear hb);refine hK.out _ _ ⟨c2,c7,c8,c9,a3,a4,a5,a6⟩ (fun B=>?_);clear hK K;refine norm_ (a':=?_) ?_ ?_;rotate_left
             ·
              show Act.put _ (some 73) _=_;simp only [Act.put,s0_,s1_,s2_,i64_w,i32_w];rfl
             refine pure_ (i:=13) (N:=some 60) (v:=?_) (a':=?_) #[y_,y_,y_,y_,y_,y_,y_,y_,y_,y_,y_,y_,y_,y_,n_,n_,n_,n_,n_] rfl rfl (any_of G.1 (by kernel_rfl)) (fun _ _ _ h=>h) (Or.inl ⟨by rfl,?_⟩) ?_ ?_;rotate_left
             ·
              intro w';go_simp;with_reducible rfl
             rotate_left
             ·
              simp only [Act.put,s0_,s1_,s2_,i64_w,i32_w];rfl
             refine pure_ (i:=14) (N:=some 74) (v:=?_) (a':=?_) #[y_,y_,y_,y_,y_,y_,y_,y_,y_,y_,y_,y_,y_,y_,y_,n_,n_,n_,n_] rfl rfl (any_of G.1 (by kernel_rfl)) (fun _ _ _ h=>h) (Or.inl ⟨by rfl,?_⟩) ?_ ?_;rotate_left
             ·
              intro w';go_simp;with_reducible rfl
             rotate_left
             ·
              simp only [Act.put,s0_,s1_,s2_,i64_w,i32_w];rfl
             refine pure_ (i:=15) (N:=some 75) (v:=?_) (a':=?_) #[y_,y_,y_,y_,y_,y_,y_,y_,y_,y_,y_,y_,y_,y_,y_,y_,n_,n_,n_] rfl rfl (any_of G.1 (by kernel_rfl)) (fun _ _ _ h=>h) (Or.inl ⟨by rfl,?_⟩) ?_ ?_;rotate_left
             ·
              intro w';go_simp;with_reducible rfl
             rotate_left
             ·
              simp only [Act.put,s0_,s1_,s2_,i64_w,i32_w];rfl
             refine one_ (i:=16) (N:=some 7) #[y_,y_,y_,y_,y_,y_,y_,y_,y_,y_,y_,y_,y_,y_,y_,y_,y_,n_,n_] rfl rfl (one_of G.1 (by kernel_rfl)) (by decide) (fun K hK=>?_);refine box_step ?hg (N:=7) ?hd (cs:=#[.int .i64 0,.int .i64 0,.int .i64 0,.int .i64 0]) (t:=23) ?hr ?_;(case hd=>rfl);(case hg=>rfl);(case hr=>first|(go_simp;done)|(go_simp;rfl));intro J hg H3 f5 hb;have c2:=(hb.cell (World.block_lt_of_cell? _ _ (B.1))).trans (B.1);have c7:=(hb.cell (World.block_lt_of_cell? _ _ (B.2.1))).trans (B.2.1);have c8:=(hb.cell (World.block_lt_of_cell? _ _ (B.2.2.1))).trans (B.2.2.1);have c9:=(hb.cell (World.block_lt_of_cell? _ _ (B.2.2.2.1))).trans (B.2.2.2.1);have a3:=(hb.cell (World.block_lt_of_cell? _ _ (B.2.2.2.2.1))).trans (B.2.2.2.2.1);have a4:=(hb.cell (World.block_lt_of_cell? _ _ (B.2.2.2.2.2.1))).trans (B.2.2.2.2.2.1);have a5:=(hb.cell (World.block_lt_of_cell? _ _ (B.2.2.2.2.2.2.1))).trans (B.2.2.2.2.2.2.1);have a6:=(hb.cell (World.block_lt_of_cell? _ _ (B.2.2.2.2.2.2.2))).trans (B.2.2.2.2.2.2.2);have L:=mk0 (f5);have p4:=szw hg V;have f6:=szw hg V;replace D:=mk0 (Kd.R_below (Kd.R_elderB D.1 J (Nat.le_of_eq hg.symm)) hb);replace V:=bst V hb;clear hb f5 hg;refine hK.out _ _ ⟨c2,c7,c8,c9,a3,a4,a5,a6⟩ (fun B=>?_);clear hK K;refine norm_ (a':=?_) ?_ ?_;rotate_left
             ·
              show Act.put _ (some 7) _=_;simp only [Act.put,s0_,s1_,s2_,i64_w,i32_w];rfl
             exact norm_ (by simp only [putAll,Act.put,s0_,s1_,s2_]) (hCont (J) _ ⟨B,(by (with_reducible repeat (first|apply Kd.R_alloc|apply Kd.R_drewN|apply Kd.R_drew));exact Kd.R_mono D.1 (fun _ hk=>hk.2)),L.1,p4.1,f6.1,V.1⟩)
            ·
             skip
             refine box_step ?hg (N:=7) ?hd (cs:=#[.int .i64 0,.int .i64 0,.int .i64 0,.int .i64 0]) (t:=23) ?hr ?_;(case hd=>rfl);(case hg=>rfl);(case hr=>first|(go_simp;done)|(go_simp;rfl));intro J hg H2 f5 hb;have c2:=(hb.cell (World.block_lt_of_cell? _ _ (B.1))).trans (B.1);have c7:=(hb.cell (World.block_lt_of_cell? _ _ (B.2.1))).trans (B.2.1);have c8:=(hb.cell (World.block_lt_of_cell? _ _ (B.2.2.1))).trans (B.2.2.1);have c9:=(hb.cell (World.block_lt_of_cell? _ _ (B.2.2.2.1))).trans (B.2.2.2.1);have a3:=(hb.cell (World.block_lt_of_cell? _ _ (B.2.2.2.2.1))).trans (B.2.2.2.2.1);have a4:=(hb.cell (World.block_lt_of_cell? _ _ (B.2.2.2.2.2.1))).trans (B.2.2.2.2.2.1);have a5:=(hb.cell (World.block_lt_of_cell? _ _ (B.2.2.2.2.2.2.1))).trans (B.2.2.2.2.2.2.1);have a6:=(hb.cell (World.block_lt_of_cell? _ _ (B.2.2.2.2.2.2.2))).trans (B.2.2.2.2.2.2.2);have L:=mk0 (f5);have p4:=szw hg V;have f6:=szw hg V;replace D:=mk0 (Kd.R_below (Kd.R_elderB D.1 J (Nat.le_of_eq hg.symm)) hb);replace V:=bst V hb;clear hb f5 hg;refine hK.out _ _ ⟨c2,c7,c8,c9,a3,a4,a5,a6⟩ (fun B=>?_);clear hK K;refine norm_ (a':=?_) ?_ ?_;rotate_left
             ·
              show Act.put _ (some 7) _=_;simp only [Act.put,s0_,s1_,s2_,i64_w,i32_w];rfl
             refine one_ (i:=12) (N:=some 73) #[y_,y_,y_,y_,y_,y_,y_,y_,y_,y_,y_,y_,y_,n_,n_,n_,y_,n_,n_] rfl rfl (one_of G.1 (by kernel_rfl)) (by decide) (fun K hK=>?_);refine goes_ Try.func38 (by kernel_rfl) rfl #[.agg #[.int .i64 ((rd_T23 C (F)).f0),.int .i64 ((rd_T23 C (F)).f1),.int .i64 ((rd_T23 C (F)).f2),.int .i64 ((rd_T23 C (F)).f3)],.agg #[.int .i64 ((rd_T23 C (T)).f0),.int .i64 ((rd_T23 C (T)).f1),.int .i64 ((rd_T23 C (T)).f2),.int .i64 ((rd_T23 C (T)).f3)]] (by rfl) rfl rfl (by (try simp only [m0_,m1_,m2_]);first|done|(simp only [g2,m3];rfl)|rfl|(simp only [l0_,l1_];rfl)) ?_;with_reducible refine (norm_Mul.calls k2 ((rd_T23 C (F)).f0) ((rd_T23 C (F)).f1) ((rd_T23 C (F)).f2) ((rd_T23 C (F)).f3) ((rd_T23 C (T)).f0) ((rd_T23 C (T)).f1) ((rd_T23 C (T)).f2) ((rd_T23 C (T)).f3) a8 b0 b6 b7 f9 _ E6.1).mono ?_
             rintro e H3 ⟨rfl,hb⟩;have c2:=(hb.cell (World.block_lt_of_cell? _ _ (B.1))).trans (B.1);have c7:=(hb.cell (World.block_lt_of_cell? _ _ (B.2.1))).trans (B.2.1);have c8:=(hb.cell (World.block_lt_of_cell? _ _ (B.2.2.1))).trans (B.2.2.1);have c9:=(hb.cell (World.block_lt_of_cell? _ _ (B.2.2.2.1))).trans (B.2.2.2.1);have a3:=(hb.cell (World.block_lt_of_cell? _ _ (B.2.2.2.2.1))).trans (B.2.2.2.2.1);have a4:=(hb.cell (World.block_lt_of_cell? _ _ (B.2.2.2.2.2.1))).trans (B.2.2.2.2.2.1);have a5:=(hb.cell (World.block_lt_of_cell? _ _ (B.2.2.2.2.2.2.1))).trans (B.2.2.2.2.2.2.1);have a6:=(hb.cell (World.block_lt_of_cell? _ _ (B.2.2.2.2.2.2.2))).trans (B.2.2.2.2.2.2.2);refine ⟨_,rfl,?_⟩;replace D:=rbl D hb;replace L:=bkb L hb;replace V:=bst V hb;(try clear hb);refine hK.out _ _ ⟨c2,c7,c8,c9,a3,a4,a5,a6⟩ (fun B=>?_);clear hK K;refine norm_ (a':=?_) ?_ ?_;rotate_left
             ·
              show Act.put _ (some 73) _=_;simp only [Act.put,s0_,s1_,s2_,i64_w,i32_w];rfl
             refine pure_ (i:=13) (N:=some 60) (v:=?_) (a':=?_) #[y_,y_,y_,y_,y_,y_,y_,y_,y_,y_,y_,y_,y_,y_,n_,n_,y_,n_,n_] rfl rfl (any_of G.1 (by kernel_rfl)) (fun _ _ _ h=>h) (Or.inl ⟨by rfl,?_⟩) ?_ ?_;rotate_left
             ·
              intro w';go_simp;with_reducible rfl
             rotate_left
             ·
              simp only [Act.put,s0_,s1_,s2_,i64_w,i32_w];rfl
             refine pure_ (i:=14) (N:=some 74) (v:=?_) (a':=?_) #[y_,y_,y_,y_,y_,y_,y_,y_,y_,y_,y_,y_,y_,y_,y_,n_,y_,n_,n_] rfl rfl (any_of G.1 (by kernel_rfl)) (fun _ _ _ h=>h) (Or.inl ⟨by rfl,?_⟩) ?_ ?_;rotate_left
             ·
              intro w';go_simp;with_reducible rfl
             rotate_left
             ·
              simp only [Act.put,s0_,s1_,s2_,i64_w,i32_w];rfl
             refine pure_ (i:=15) (N:=some 75) (v:=?_) (a':=?_) #[y_,y_,y_,y_,y_,y_,y_,y_,y_,y_,y_,y_,y_,y_,y_,y_,y_,n_,n_] rfl rfl (any_of G.1 (by kernel_rfl)) (fun _ _ _ h=>h) (Or.inl ⟨by rfl,?_⟩) ?_ ?_;rotate_left
             ·
              intro w';go_simp;with_reducible rfl
             rotate_left
             ·
              simp only [Act.put,s0_,s1_,s2_,i64_w,i32_w];rfl
             exact norm_ (by simp only [putAll,Act.put,s0_,s1_,s2_]) (hCont (J) _ ⟨B,(by (with_reducible repeat (first|apply Kd.R_alloc|apply Kd.R_drewN|apply Kd.R_drew));exact Kd.R_mono D.1 (fun _ hk=>hk.2)),L.1,p4.1,f6.1,V.1⟩)
           clear D V;rintro J o7 q2;replace q2:=h_ (m4_ l_) q2;obtain ⟨B9,D,L,p4,f6,V⟩:=q2;have B:o7.cell? (I.add (((F)).toNat * 4))=some (.int .i64 ((rd_T23 C (F)).f0))∧o7.cell? ⟨(I.add (((F)).toNat * 4)).block,(I.add (((F)).toNat * 4)).off + 1,none⟩=some (.int .i64 ((rd_T23 C (F)).f1))∧o7.cell? ⟨(I.add (((F)).toNat * 4)).block,(I.add (((F)).toNat * 4)).off + 2,none⟩=some (.int .i64 ((rd_T23 C (F)).f2))∧o7.cell? ⟨(I.add (((F)).toNat * 4)).block,(I.add (((F)).toNat * 4)).off + 3,none⟩=some (.int .i64 ((rd_T23 C (F)).f3))∧o7.cell? (I.add (((T)).toNat * 4))=some (.int .i64 ((rd_T23 C (T)).f0))∧o7.cell? ⟨(I.add (((T)).toNat * 4)).block,(I.add (((T)).toNat * 4)).off + 1,none⟩=some (.int .i64 ((rd_T23 C (T)).f1))∧o7.cell? ⟨(I.add (((T)).toNat * 4)).block,(I.add (((T)).toNat * 4)).off + 2,none⟩=some (.int .i64 ((rd_T23 C (T)).f2))∧o7.cell? ⟨(I.add (((T)).toNat * 4)).block,(I.add (((T)).toNat * 4)).off + 3,none⟩=some (.int .i64 ((rd_T23 C (T)).f3)):=B9;refine norm_ (a':=?_) ?_ ?_;rotate_left
           ·
            simp only [putAll,Act.put,s0_,s1_,s2_];rfl
           refine one_ (i:=17) (N:=none) #[y_,y_,y_,y_,y_,y_,y_,y_,y_,y_,y_,y_,y_,y_,y_,y_,y_,y_,n_] rfl rfl (one_of G.1 (by kernel_rfl)) (by decide) (fun K hK=>?_);have L4:=q0_ L;have I1:=blk_frozen L.1 0;have L5:=q1_ L;have I2:=blk_frozen L.1 1;have L6:=q2_ L;have I3:=blk_frozen L.1 2;have L7:=q3_ L;have I4:=blk_frozen L.1 3;refine skip_ (w1:=?_) (by rfl) rfl ?_ ?_;rotate_left
           ·
            go_simp;rfl
           refine hK.out _ _ ⟨((cell_far (p:=⟨J,_,none⟩) (by first|exact Kd.own_blk (Kd.R_away D.1 (fun _ hk=>hk))|(rw [add_block];exact Kd.own_blk (Kd.R_away D.1 (fun _ hk=>hk)))|(show (Addr.add _ _).block ≠ _;rw [add_block];exact Kd.own_blk (Kd.R_away D.1 (fun _ hk=>hk)))|(dsimp only;exact Kd.own_blk (Kd.R_away D.1 (fun _ hk=>hk)))) _).trans (((cell_far (p:=⟨J,_,none⟩) (by first|exact Kd.own_blk (Kd.R_away D.1 (fun _ hk=>hk))|(rw [add_block];exact Kd.own_blk (Kd.R_away D.1 (fun _ hk=>hk)))|(show (Addr.add _ _).block ≠ _;rw [add_block];exact Kd.own_blk (Kd.R_away D.1 (fun _ hk=>hk)))|(dsimp only;exact Kd.own_blk (Kd.R_away D.1 (fun _ hk=>hk)))) _).trans (((cell_far (p:=⟨J,_,none⟩) (by first|exact Kd.own_blk (Kd.R_away D.1 (fun _ hk=>hk))|(rw [add_block];exact Kd.own_blk (Kd.R_away D.1 (fun _ hk=>hk)))|(show (Addr.add _ _).block ≠ _;rw [add_block];exact Kd.own_blk (Kd.R_away D.1 (fun _ hk=>hk)))|(dsimp only;exact Kd.own_blk (Kd.R_away D.1 (fun _ hk=>hk)))) _).trans (((cell_far (p:=⟨J,_,none⟩) (by first|exact Kd.own_blk (Kd.R_away D.1 (fun _ hk=>hk))|(rw [add_block];exact Kd.own_blk (Kd.R_away D.1 (fun _ hk=>hk)))|(show (Addr.add _ _).block ≠ _;rw [add_block];exact Kd.own_blk (Kd.R_away D.1 (fun _ hk=>hk)))|(dsimp only;exact Kd.own_blk (Kd.R_away D.1 (fun _ hk=>hk)))) _).trans (B.1)))))))),((cell_far (p:=⟨J,_,none⟩) (by first|exact Kd.own_blk (Kd.R_away D.1 (fun _ hk=>hk))|(rw [add_block];exact Kd.own_blk (Kd.R_away D.1 (fun _ hk=>hk)))|(show (Addr.add _ _).block ≠ _;rw [add_block];exact Kd.own_blk (Kd.R_away D.1 (fun _ hk=>hk)))|(dsimp only;exact Kd.own_blk (Kd.R_away D.1 (fun _ hk=>hk)))) _).trans (((cell_far (p:=⟨J,_,none⟩) (by first|exact Kd.own_blk (Kd.R_away D.1 (fun _ hk=>hk))|(rw [add_block];exact Kd.own_blk (Kd.R_away D.1 (fun _ hk=>hk)))|(show (Addr.add _ _).block ≠ _;rw [add_block];exact Kd.own_blk (Kd.R_away D.1 (fun _ hk=>hk)))|(dsimp only;exact Kd.own_blk (Kd.R_away D.1 (fun _ hk=>hk)))) _).trans (((cell_far (p:=⟨J,_,none⟩) (by first|exact Kd.own_blk (Kd.R_away D.1 (fun _ hk=>hk))|(rw [add_block];exact Kd.own_blk (Kd.R_away D.1 (fun _ hk=>hk)))|(show (Addr.add _ _).block ≠ _;rw [add_block];exact Kd.own_blk (Kd.R_away D.1 (fun _ hk=>hk)))|(dsimp only;exact Kd.own_blk (Kd.R_away D.1 (fun _ hk=>hk)))) _).trans (((cell_far (p:=⟨J,_,none⟩) (by first|exact Kd.own_blk (Kd.R_away D.1 (fun _ hk=>hk))|(rw [add_block];exact Kd.own_blk (Kd.R_away D.1 (fun _ hk=>hk)))|(show (Addr.add _ _).block ≠ _;rw [add_block];exact Kd.own_blk (Kd.R_away D.1 (fun _ hk=>hk)))|(dsimp only;exact Kd.own_blk (Kd.R_away D.1 (fun _ hk=>hk)))) _).trans (B.2.1)))))))),((cell_far (p:=⟨J,_,none⟩) (by first|exact Kd.own_blk (Kd.R_away D.1 (fun _ hk=>hk))|(rw [add_block];exact Kd.own_blk (Kd.R_away D.1 (fun _ hk=>hk)))|(show (Addr.add _ _).block ≠ _;rw [add_block];exact Kd.own_blk (Kd.R_away D.1 (fun _ hk=>hk)))|(dsimp only;exact Kd.own_blk (Kd.R_away D.1 (fun _ hk=>hk)))) _).trans (((cell_far (p:=⟨J,_,none⟩) (by first|exact Kd.own_blk (Kd.R_away D.1 (fun _ hk=>hk))|(rw [add_block];exact Kd.own_blk (Kd.R_away D.1 (fun _ hk=>hk)))|(show (Addr.add _ _).block ≠ _;rw [add_block];exact Kd.own_blk (Kd.R_away D.1 (fun _ hk=>hk)))|(dsimp only;exact Kd.own_blk (Kd.R_away D.1 (fun _ hk=>hk)))) _).trans (((cell_far (p:=⟨J,_,none⟩) (by first|exact Kd.own_blk (Kd.R_away D.1 (fun _ hk=>hk))|(rw [add_block];exact Kd.own_blk (Kd.R_away D.1 (fun _ hk=>hk)))|(show (Addr.add _ _).block ≠ _;rw [add_block];exact Kd.own_blk (Kd.R_away D.1 (fun _ hk=>hk)))|(dsimp only;exact Kd.own_blk (Kd.R_away D.1 (fun _ hk=>hk)))) _).trans (((cell_far (p:=⟨J,_,none⟩) (by first|exact Kd.own_blk (Kd.R_away D.1 (fun _ hk=>hk))|(rw [add_block];exact Kd.own_blk (Kd.R_away D.1 (fun _ hk=>hk)))|(show (Addr.add _ _).block ≠ _;rw [add_block];exact Kd.own_blk (Kd.R_away D.1 (fun _ hk=>hk)))|(dsimp only;exact Kd.own_blk (Kd.R_away D.1 (fun _ hk=>hk)))) _).trans (B.2.2.1)))))))),((cell_far (p:=⟨J,_,none⟩) (by first|exact Kd.own_blk (Kd.R_away D.1 (fun _ hk=>hk))|(rw [add_block];exact Kd.own_blk (Kd.R_away D.1 (fun _ hk=>hk)))|(show (Addr.add _ _).block ≠ _;rw [add_block];exact Kd.own_blk (Kd.R_away D.1 (fun _ hk=>hk)))|(dsimp only;exact Kd.own_blk (Kd.R_away D.1 (fun _ hk=>hk)))) _).trans (((cell_far (p:=⟨J,_,none⟩) (by first|exact Kd.own_blk (Kd.R_away D.1 (fun _ hk=>hk))|(rw [add_block];exact Kd.own_blk (Kd.R_away D.1 (fun _ hk=>hk)))|(show (Addr.add _ _).block ≠ _;rw [add_block];exact Kd.own_blk (Kd.R_away D.1 (fun _ hk=>hk)))|(dsimp only;exact Kd.own_blk (Kd.R_away D.1 (fun _ hk=>hk)))) _).trans (((cell_far (p:=⟨J,_,none⟩) (by first|exact Kd.own_blk (Kd.R_away D.1 (fun _ hk=>hk))|(rw [add_block];exact Kd.own_blk (Kd.R_away D.1 (fun _ hk=>hk)))|(show (Addr.add _ _).block ≠ _;rw [add_block];exact Kd.own_blk (Kd.R_away D.1 (fun _ hk=>hk)))|(dsimp only;exact Kd.own_blk (Kd.R_away D.1 (fun _ hk=>hk)))) _).trans (((cell_far (p:=⟨J,_,none⟩) (by first|exact Kd.own_blk (Kd.R_away D.1 (fun _ hk=>hk))|(rw [add_block];exact Kd.own_blk (Kd.R_away D.1 (fun _ hk=>hk)))|(show (Addr.add _ _).block ≠ _;rw [add_block];exact Kd.own_blk (Kd.R_away D.1 (fun _ hk=>hk)))|(dsimp only;exact Kd.own_blk (Kd.R_away D.1 (fun _ hk=>hk)))) _).trans (B.2.2.2.1)))))))),((cell_far (p:=⟨J,_,none⟩) (by first|exact Kd.own_blk (Kd.R_away D.1 (fun _ hk=>hk))|(rw [add_block];exact Kd.own_blk (Kd.R_away D.1 (fun _ hk=>hk)))|(show (Addr.add _ _).block ≠ _;rw [add_block];exact Kd.own_blk (Kd.R_away D.1 (fun _ hk=>hk)))|(dsimp only;exact Kd.own_blk (Kd.R_away D.1 (fun _ hk=>hk)))) _).trans (((cell_far (p:=⟨J,_,none⟩) (by first|exact Kd.own_blk (Kd.R_away D.1 (fun _ hk=>hk))|(rw [add_block];exact Kd.own_blk (Kd.R_away D.1 (fun _ hk=>hk)))|(show (Addr.add _ _).block ≠ _;rw [add_block];exact Kd.own_blk (Kd.R_away D.1 (fun _ hk=>hk)))|(dsimp only;exact Kd.own_blk (Kd.R_away D.1 (fun _ hk=>hk)))) _).trans (((cell_far (p:=⟨J,_,none⟩) (by first|exact Kd.own_blk (Kd.R_away D.1 (fun _ hk=>hk))|(rw [add_block];exact Kd.own_blk (Kd.R_away D.1 (fun _ hk=>hk)))|(show (Addr.add _ _).block ≠ _;rw [add_block];exact Kd.own_blk (Kd.R_away D.1 (fun _ hk=>hk)))|(dsimp only;exact Kd.own_blk (Kd.R_away D.1 (fun _ hk=>hk)))) _).trans (((cell_far (p:=⟨J,_,none⟩) (by first|exact Kd.own_blk (Kd.R_away D.1 (fun _ hk=>hk))|(rw [add_block];exact Kd.own_blk (Kd.R_away D.1 (fun _ hk=>hk)))|(show (Addr.add _ _).block ≠ _;rw [add_block];exact Kd.own_blk (Kd.R_away D.1 (fun _ hk=>hk)))|(dsimp only;exact Kd.own_blk (Kd.R_away D.1 (fun _ hk=>hk)))) _).trans (B.2.2.2.2.1)))))))),((cell_far (p:=⟨J,_,none⟩) (by first|exact Kd.own_blk (Kd.R_away D.1 (fun _ hk=>hk))|(rw [add_block];exact Kd.own_blk (Kd.R_away D.1 (fun _ hk=>hk)))|(show (Addr.add _ _).block ≠ _;rw [add_block];exact Kd.own_blk (Kd.R_away D.1 (fun _ hk=>hk)))|(dsimp only;exact Kd.own_blk (Kd.R_away D.1 (fun _ hk=>hk)))) _).trans (((cell_far (p:=⟨J,_,none⟩) (by first|exact Kd.own_blk (Kd.R_away D.1 (fun _ hk=>hk))|(rw [add_block];exact Kd.own_blk (Kd.R_away D.1 (fun _ hk=>hk)))|(show (Addr.add _ _).block ≠ _;rw [add_block];exact Kd.own_blk (Kd.R_away D.1 (fun _ hk=>hk)))|(dsimp only;exact Kd.own_blk (Kd.R_away D.1 (fun _ hk=>hk)))) _).trans (((cell_far (p:=⟨J,_,none⟩) (by first|exact Kd.own_blk (Kd.R_away D.1 (fun _ hk=>hk))|(rw [add_block];exact Kd.own_blk (Kd.R_away D.1 (fun _ hk=>hk)))|(show (Addr.add _ _).block ≠ _;rw [add_block];exact Kd.own_blk (Kd.R_away D.1 (fun _ hk=>hk)))|(dsimp only;exact Kd.own_blk (Kd.R_away D.1 (fun _ hk=>hk)))) _).trans (((cell_far (p:=⟨J,_,none⟩) (by first|exact Kd.own_blk (Kd.R_away D.1 (fun _ hk=>hk))|(rw [add_block];exact Kd.own_blk (Kd.R_away D.1 (fun _ hk=>hk)))|(show (Addr.add _ _).block ≠ _;rw [add_block];exact Kd.own_blk (Kd.R_away D.1 (fun _ hk=>hk)))|(dsimp only;exact Kd.own_blk (Kd.R_away D.1 (fun _ hk=>hk)))) _).trans (B.2.2.2.2.2.1)))))))),((cell_far (p:=⟨J,_,none⟩) (by first|exact Kd.own_blk (Kd.R_away D.1 (fun _ hk=>hk))|(rw [add_block];exact Kd.own_blk (Kd.R_away D.1 (fun _ hk=>hk)))|(show (Addr.add _ _).block ≠ _;rw [add_block];exact Kd.own_blk (Kd.R_away D.1 (fun _ hk=>hk)))|(dsimp only;exact Kd.own_blk (Kd.R_away D.1 (fun _ hk=>hk)))) _).trans (((cell_far (p:=⟨J,_,none⟩) (by first|exact Kd.own_blk (Kd.R_away D.1 (fun _ hk=>hk))|(rw [add_block];exact Kd.own_blk (Kd.R_away D.1 (fun _ hk=>hk)))|(show (Addr.add _ _).block ≠ _;rw [add_block];exact Kd.own_blk (Kd.R_away D.1 (fun _ hk=>hk)))|(dsimp only;exact Kd.own_blk (Kd.R_away D.1 (fun _ hk=>hk)))) _).trans (((cell_far (p:=⟨J,_,none⟩) (by first|exact Kd.own_blk (Kd.R_away D.1 (fun _ hk=>hk))|(rw [add_block];exact Kd.own_blk (Kd.R_away D.1 (fun _ hk=>hk)))|(show (Addr.add _ _).block ≠ _;rw [add_block];exact Kd.own_blk (Kd.R_away D.1 (fun _ hk=>hk)))|(dsimp only;exact Kd.own_blk (Kd.R_away D.1 (fun _ hk=>hk)))) _).trans (((cell_far (p:=⟨J,_,none⟩) (by first|exact Kd.own_blk (Kd.R_away D.1 (fun _ hk=>hk))|(rw [add_block];exact Kd.own_blk (Kd.R_away D.1 (fun _ hk=>hk)))|(show (Addr.add _ _).block ≠ _;rw [add_block];exact Kd.own_blk (Kd.R_away D.1 (fun _ hk=>hk)))|(dsimp only;exact Kd.own_blk (Kd.R_away D.1 (fun _ hk=>hk)))) _).trans (B.2.2.2.2.2.2.1)))))))),((cell_far (p:=⟨J,_,none⟩) (by first|exact Kd.own_blk (Kd.R_away D.1 (fun _ hk=>hk))|(rw [add_block];exact Kd.own_blk (Kd.R_away D.1 (fun _ hk=>hk)))|(show (Addr.add _ _).block ≠ _;rw [add_block];exact Kd.own_blk (Kd.R_away D.1 (fun _ hk=>hk)))|(dsimp only;exact Kd.own_blk (Kd.R_away D.1 (fun _ hk=>hk)))) _).trans (((cell_far (p:=⟨J,_,none⟩) (by first|exact Kd.own_blk (Kd.R_away D.1 (fun _ hk=>hk))|(rw [add_block];exact Kd.own_blk (Kd.R_away D.1 (fun _ hk=>hk)))|(show (Addr.add _ _).block ≠ _;rw [add_block];exact Kd.own_blk (Kd.R_away D.1 (fun _ hk=>hk)))|(dsimp only;exact Kd.own_blk (Kd.R_away D.1 (fun _ hk=>hk)))) _).trans (((cell_far (p:=⟨J,_,none⟩) (by first|exact Kd.own_blk (Kd.R_away D.1 (fun _ hk=>hk))|(rw [add_block];exact Kd.own_blk (Kd.R_away D.1 (fun _ hk=>hk)))|(show (Addr.add _ _).block ≠ _;rw [add_block];exact Kd.own_blk (Kd.R_away D.1 (fun _ hk=>hk)))|(dsimp only;exact Kd.own_blk (Kd.R_away D.1 (fun _ hk=>hk)))) _).trans (((cell_far (p:=⟨J,_,none⟩) (by first|exact Kd.own_blk (Kd.R_away D.1 (fun _ hk=>hk))|(rw [add_block];exact Kd.own_blk (Kd.R_away D.1 (fun _ hk=>hk)))|(show (Addr.add _ _).block ≠ _;rw [add_block];exact Kd.own_blk (Kd.R_away D.1 (fun _ hk=>hk)))|(dsimp only;exact Kd.own_blk (Kd.R_away D.1 (fun _ hk=>hk)))) _).trans (B.2.2.2.2.2.2.2))))))))⟩ (fun B=>?_)
           clear hK K;refine pure_ (i:=18) (N:=some 8) (v:=?_) (a':=?_) #[y_,y_,y_,y_,y_,y_,y_,y_,y_,y_,y_,y_,y_,y_,y_,y_,y_,y_,y_] rfl rfl (any_of G.1 (by kernel_rfl)) (fun _ _ _ h=>h) (Or.inl ⟨by rfl,?_⟩) ?_ ?_;rotate_left
           ·
            intro w';go_simp;with_reducible rfl
           rotate_left
           ·
            simp only [Act.put,s0_,s1_,s2_,i64_w,i32_w];rfl
           refine done_ (done_of G.1 (by kernel_rfl)) ?_;have t7:0 ≤ ((F):Int):=of_decide_eq_true (by first|(with_reducible assumption)|assumption);have t8:(F) < (C.length:Int):=of_decide_eq_true (by first|(with_reducible assumption)|assumption);obtain ⟨D8,F7,d7,d8,d9,e0⟩:=at_T23 (Kd.R_reads' D.1).2.2 (F) t7 t8;obtain rfl:I=D8:=(by injection F7)
           have b2:I.block ≠ J:=(by first|exact Kd.own_blk (Kd.R_ne D.1 L.1 (by decide))|exact Kd.own_blk (Kd.R_away D.1 (fun _ hk=>hk))|exact Kd.own_blk (Kd.R_away D.1 (fun _ hk=>hk.2)));have b3:I.block ≠ J:=(by first|exact Kd.own_blk (Kd.R_ne D.1 L.1 (by decide))|exact Kd.own_blk (Kd.R_away D.1 (fun _ hk=>hk))|exact Kd.own_blk (Kd.R_away D.1 (fun _ hk=>hk.2)));have b4:I.block ≠ J:=(by first|exact Kd.own_blk (Kd.R_ne D.1 L.1 (by decide))|exact Kd.own_blk (Kd.R_away D.1 (fun _ hk=>hk))|exact Kd.own_blk (Kd.R_away D.1 (fun _ hk=>hk.2)));have b5:I.block ≠ J:=(by first|exact Kd.own_blk (Kd.R_ne D.1 L.1 (by decide))|exact Kd.own_blk (Kd.R_away D.1 (fun _ hk=>hk))|exact Kd.own_blk (Kd.R_away D.1 (fun _ hk=>hk.2)));replace d7:=(cell_far (p:=⟨J,0,none⟩) (by first|(rw [add_block];exact b2)|(show (Addr.add _ _).block ≠ _;rw [add_block];exact b2)|exact b2) (.int .i64 a8)).trans d7;replace d8:=(cell_far (p:=⟨J,0,none⟩) (by first|(rw [add_block];exact b2)|(show (Addr.add _ _).block ≠ _;rw [add_block];exact b2)|exact b2) (.int .i64 a8)).trans d8;replace d9:=(cell_far (p:=⟨J,0,none⟩) (by first|(rw [add_block];exact b2)|(show (Addr.add _ _).block ≠ _;rw [add_block];exact b2)|exact b2) (.int .i64 a8)).trans d9;replace e0:=(cell_far (p:=⟨J,0,none⟩) (by first|(rw [add_block];exact b2)|(show (Addr.add _ _).block ≠ _;rw [add_block];exact b2)|exact b2) (.int .i64 a8)).trans e0;replace d7:=(cell_far (p:=⟨J,1,none⟩) (by first|(rw [add_block];exact b3)|(show (Addr.add _ _).block ≠ _;rw [add_block];exact b3)|exact b3) (.int .i64 b0)).trans d7;replace d8:=(cell_far (p:=⟨J,1,none⟩) (by first|(rw [add_block];exact b3)|(show (Addr.add _ _).block ≠ _;rw [add_block];exact b3)|exact b3) (.int .i64 b0)).trans d8;replace d9:=(cell_far (p:=⟨J,1,none⟩) (by first|(rw [add_block];exact b3)|(show (Addr.add _ _).block ≠ _;rw [add_block];exact b3)|exact b3) (.int .i64 b0)).trans d9;replace e0:=(cell_far (p:=⟨J,1,none⟩) (by first|(rw [add_block];exact b3)|(show (Addr.add _ _).block ≠ _;rw [add_block];exact b3)|exact b3) (.int .i64 b0)).trans e0;replace d7:=(cell_far (p:=⟨J,2,none⟩) (by first|(rw [add_block];exact b4)|(show (Addr.add _ _).block ≠ _;rw [add_block];exact b4)|exact b4) (.int .i64 b6)).trans d7;replace d8:=(cell_far (p:=⟨J,2,none⟩) (by first|(rw [add_block];exact b4)|(show (Addr.add _ _).block ≠ _;rw [add_block];exact b4)|exact b4) (.int .i64 b6)).trans d8;replace d9:=(cell_far (p:=⟨J,2,none⟩) (by first|(rw [add_block];exact b4)|(show (Addr.add _ _).block ≠ _;rw [add_block];exact b4)|exact b4) (.int .i64 b6)).trans d9;replace e0:=(cell_far (p:=⟨J,2,none⟩) (by first|(rw [add_block];exact b4)|(show (Addr.add _ _).block ≠ _;rw [add_block];exact b4)|exact b4) (.int .i64 b6)).trans e0;replace d7:=(cell_far (p:=⟨J,3,none⟩) (by first|(rw [add_block];exact b5)|(show (Addr.add _ _).block ≠ _;rw [add_block];exact b5)|exact b5) (.int .i64 b7)).trans d7;replace d8:=(cell_far (p:=⟨J,3,none⟩) (by first|(rw [add_block];exact b5)|(show (Addr.add _ _).block ≠ _;rw [add_block];exact b5)|exact b5) (.int .i64 b7)).trans d8;replace d9:=(cell_far (p:=⟨J,3,none⟩) (by first|(rw [add_block];exact b5)|(show (Addr.add _ _).block ≠ _;rw [add_block];exact b5)|exact b5) (.int .i64 b7)).trans d9;replace e0:=(cell_far (p:=⟨J,3,none⟩) (by first|(rw [add_block];exact b5)|(show (Addr.add _ _).block ≠ _;rw [add_block];exact b5)|exact b5) (.int .i64 b7)).trans e0;clear b2;clear b3;clear b4;clear b5;replace t7:=eq_true t7;replace t8:=eq_true t8;try go_wp2_with (first|((with_reducible refine gate_callee (f:=39) rfl ?_);refine goesL_ (some 83) rfl rfl Try.func39 (by kernel_rfl) rfl #[.agg #[.int .i64 ((rd_T23 C (F)).f0),.int .i64 ((rd_T23 C (F)).f1),.int .i64 ((rd_T23 C (F)).f2),.int .i64 ((rd_T23 C (F)).f3)]] rfl (by (try simp only [m0_,m1_,m2_]);first|done|(simp only [g2];rfl)|rfl|(simp only [l0_,l1_];rfl)) ?_;(with_reducible refine (norm_Conj.calls k2 ((rd_T23 C (F)).f0) ((rd_T23 C (F)).f1) ((rd_T23 C (F)).f2) ((rd_T23 C (F)).f3) b8 d0 d2 d5 i5 _ H0.1).mono ?_);rintro e O3 ⟨rfl,hb⟩;refine ⟨_,rfl,?_⟩;replace D:=mk0 (Kd.R_below (by (with_reducible repeat (first|apply Kd.R_alloc|apply Kd.R_drewN|apply Kd.R_drew));exact (Kd.R_mono (Kd.R_far (p:=⟨J,3,none⟩) (Kd.R_far (p:=⟨J,2,none⟩) (Kd.R_far (p:=⟨J,1,none⟩) (Kd.R_far (p:=⟨J,0,none⟩) (Kd.R_mono D.1 (fun k_ hk=>(⟨hk,hk⟩:_∧k_ ≠ J))) (fun _ hk=>hk.2) (.int .i64 a8)) (fun _ hk=>hk.2) (.int .i64 b0)) (fun _ hk=>hk.2) (.int .i64 b6)) (fun _ hk=>hk.2) (.int .i64 b7)) (fun _ h_=>h_.1))) hb);replace L:=mk0 (blk_below (g:=J) (o:=.cells #[.int .i64 a8,.int .i64 b0,.int .i64 b6,.int .i64 b7] 23 (0,0)) (by refine blk_put (cs:=#[.int .i64 a8,.int .i64 b0,.int .i64 b6,.int .i64 0]) ?_ 3 _ rfl;refine blk_put (cs:=#[.int .i64 a8,.int .i64 b0,.int .i64 0,.int .i64 0]) ?_ 2 _ rfl;refine blk_put (cs:=#[.int .i64 a8,.int .i64 0,.int .i64 0,.int .i64 0]) ?_ 1 _ rfl;refine blk_put (cs:=#[.int .i64 0,.int .i64 0,.int .i64 0,.int .i64 0]) ?_ 0 _ rfl;exact L.1) hb);replace V:=mk0 (below_step (by repeat (with_reducible first|exact V.1|refine below_set ?_ f6.1)) hb);(try clear hb);(try clear hk))|((with_reducible refine gate_dst (N:=9) rfl ?_);(try (refine gate_guard (by rfl) ?_;dsimp only));refine box_event ?hg (N:=9) ?hd (cs:=#[.int .i64 0,.int .i64 0,.int .i64 0,.int .i64 0]) (t:=23) ?hr ?_;(case hd=>rfl);(case hg=>rfl);(case hr=>first|(go_simp;done)|(go_simp;rfl));intro Q hg u3 f5 hb;have O:=mk0 (f5);have D9:=szw hg V;have m4:=D9;have o8:=nlt hg L;have u4:=ngt hg L;replace D:=mk0 (Kd.R_below (Kd.R_elderB D.1 Q (Nat.le_of_eq hg.symm)) hb);replace L:=bkb L hb;replace V:=bst V hb;clear hb f5 hg;have I5:=u4.1;have I6:=o8.1;have z0:=q0_ O;have z1:=q1_ O;have z2:=q2_ O;have z3:=q3_ O;have z4:=blk_frozen O.1 0;have z5:=blk_frozen O.1 1;have z6:=blk_frozen O.1 2;have z7:=blk_frozen O.1 3))
           have C0:Aside0 (Kd.R k23 23 ((((u3.setCell ⟨Q,0,none⟩ (.int .i64 b8)).setCell ⟨Q,1,none⟩ (.int .i64 d0)).setCell ⟨Q,2,none⟩ (.int .i64 d2)).setCell ⟨Q,3,none⟩ (.int .i64 d5)) w.heap.size (fun k_=>k_ ≠ J∧k_ ≠ Q) (.slice (some I) C.length n2) C):=⟨by (with_reducible repeat (first|apply Kd.R_alloc|apply Kd.R_drewN|apply Kd.R_drew));exact Kd.R_mono (Kd.R_far (p:=⟨Q,3,none⟩) (Kd.R_far (p:=⟨Q,2,none⟩) (Kd.R_far (p:=⟨Q,1,none⟩) (Kd.R_far (p:=⟨Q,0,none⟩) (Kd.R_mono D.1 (fun k_ hk=>(⟨hk,hk.2⟩:_∧k_ ≠ Q))) (fun _ hk=>hk.2) (.int .i64 b8)) (fun _ hk=>hk.2) (.int .i64 d0)) (fun _ hk=>hk.2) (.int .i64 d2)) (fun _ hk=>hk.2) (.int .i64 d5)) (fun _ hk=>⟨hk.1.1,hk.1.2⟩)⟩
           have C1:Aside0 (((((u3.setCell ⟨Q,0,none⟩ (.int .i64 b8)).setCell ⟨Q,1,none⟩ (.int .i64 d0)).setCell ⟨Q,2,none⟩ (.int .i64 d2)).setCell ⟨Q,3,none⟩ (.int .i64 d5)).heap[J]?=some (.cells #[.int .i64 a8,.int .i64 b0,.int .i64 b6,.int .i64 b7] 23 (0,0))):=⟨by (iterate 4 refine blk_far ?_ o8.1 _);exact L.1⟩
           have C2:Aside0 (((((u3.setCell ⟨Q,0,none⟩ (.int .i64 b8)).setCell ⟨Q,1,none⟩ (.int .i64 d0)).setCell ⟨Q,2,none⟩ (.int .i64 d2)).setCell ⟨Q,3,none⟩ (.int .i64 d5)).heap[Q]?=some (.cells #[.int .i64 b8,.int .i64 d0,.int .i64 d2,.int .i64 d5] 23 (0,0))):=⟨by refine blk_put (cs:=#[.int .i64 b8,.int .i64 d0,.int .i64 d2,.int .i64 0]) ?_ 3 _ rfl;refine blk_put (cs:=#[.int .i64 b8,.int .i64 d0,.int .i64 0,.int .i64 0]) ?_ 2 _ rfl;refine blk_put (cs:=#[.int .i64 b8,.int .i64 0,.int .i64 0,.int .i64 0]) ?_ 1 _ rfl;refine blk_put (cs:=#[.int .i64 0,.int .i64 0,.int .i64 0,.int .i64 0]) ?_ 0 _ rfl;exact O.1⟩
           have C3:Aside0 (Below w.heap.size w ((((u3.setCell ⟨Q,0,none⟩ (.int .i64 b8)).setCell ⟨Q,1,none⟩ (.int .i64 d0)).setCell ⟨Q,2,none⟩ (.int .i64 d2)).setCell ⟨Q,3,none⟩ (.int .i64 d5))):=⟨by repeat (first|(with_reducible first|exact V.1|apply below_alloc|apply pw_below_drewN|apply below_drew1|refine below_set ?_ f6.1|refine below_set ?_ m4.1)|exact V.1)⟩
           (try clear D);(try clear L);(try clear O);(try clear V);generalize ((((u3.setCell ⟨Q,0,none⟩ (.int .i64 b8)).setCell ⟨Q,1,none⟩ (.int .i64 d0)).setCell ⟨Q,2,none⟩ (.int .i64 d2)).setCell ⟨Q,3,none⟩ (.int .i64 d5))=H4 at C0 C1 C2 C3 ⊢;have D:=C0;have L:=C1;have O:=C2;have V:=C3;clear C0 C1 C2 C3;replace D:=rdr D;replace L:=bdr L;replace O:=bdr O;replace V:=hdr V;have t9:0 ≤ ((F):Int):=of_decide_eq_true (by first|(with_reducible assumption)|assumption);have u0:(F) < (C.length:Int):=of_decide_eq_true (by first|(with_reducible assumption)|assumption);obtain ⟨E0,F8,i7,i8,i9,j1⟩:=at_T23 (Kd.R_reads' D.1).2.2 (F) t9 u0;obtain rfl:I=E0:=(by injection F8)
           replace t9:=eq_true t9;replace u0:=eq_true u0;refine start_ (n:=14) (S:=fun w'=>w'.cell? ⟨Q,0,none⟩=some (.int .i64 b8)∧w'.cell? ⟨Q,1,none⟩=some (.int .i64 d0)∧w'.cell? ⟨Q,2,none⟩=some (.int .i64 d2)∧w'.cell? ⟨Q,3,none⟩=some (.int .i64 d5)∧w'.cell? (I.add (((F)).toNat * 4))=some (.int .i64 ((rd_T23 C (F)).f0))∧w'.cell? ⟨(I.add (((F)).toNat * 4)).block,(I.add (((F)).toNat * 4)).off + 1,none⟩=some (.int .i64 ((rd_T23 C (F)).f1))∧w'.cell? ⟨(I.add (((F)).toNat * 4)).block,(I.add (((F)).toNat * 4)).off + 2,none⟩=some (.int .i64 ((rd_T23 C (F)).f2))∧w'.cell? ⟨(I.add (((F)).toNat * 4)).block,(I.add (((F)).toNat * 4)).off + 3,none⟩=some (.int .i64 ((rd_T23 C (F)).f3))) (ds:=[]) #[n_,n_,n_,n_,n_,n_,n_,n_,n_,n_,n_,n_,n_,n_] (by kernel_rfl) rfl rfl ⟨q0_ O,q1_ O,q2_ O,q3_ O,i7,i8,i9,j1⟩ (fun B=>?_);refine with_tabW bellpulllaw04_NormUnits.tab11 bellpulllaw04_NormUnits.bits11 (fun G e1=>?_);generalize H4.drew=O4 at D L O V i7 i8 i9 j1 B ⊢;refine pure_ (i:=0) (N:=some 87) (v:=?_) (a':=?_) #[y_,n_,n_,n_,n_,n_,n_,n_,n_,n_,n_,n_,n_,n_] rfl rfl (any_of G.1 (by kernel_rfl)) (fun _ _ _ h=>h) (Or.inl ⟨by rfl,?_⟩) ?_ ?_;rotate_left
           ·
            intro w';go_simp;with_reducible rfl
           rotate_left
           ·
            simp only [Act.put,s0_,s1_,s2_,i64_w,i32_w];rfl
           refine pure_ (i:=1) (N:=some 88) (v:=?_) (a':=?_) #[y_,y_,n_,n_,n_,n_,n_,n_,n_,n_,n_,n_,n_,n_] rfl rfl (any_of G.1 (by kernel_rfl)) (fun _ _ _ h=>h) (Or.inl ⟨by rfl,?_⟩) ?_ ?_;rotate_left
           ·
            intro w';go_simp;with_reducible rfl
           rotate_left
           ·
            simp only [Act.put,s0_,s1_,s2_,i64_w,i32_w];rfl
           refine pure_ (i:=2) (N:=some 89) (v:=?_) (a':=?_) #[y_,y_,y_,n_,n_,n_,n_,n_,n_,n_,n_,n_,n_,n_] rfl rfl (any_of G.1 (by kernel_rfl)) (fun _ _ _ h=>h) (Or.inl ⟨by rfl,?_⟩) ?_ ?_;rotate_left
           ·
            intro w';go_simp;with_reducible rfl
           rotate_left
           ·
            simp only [Act.put,s0_,s1_,s2_,i64_w,i32_w];rfl
           refine pure_ (i:=3) (N:=some 90) (v:=?_) (a':=?_) #[y_,y_,y_,y_,n_,n_,n_,n_,n_,n_,n_,n_,n_,n_] rfl rfl (any_of G.1 (by kernel_rfl)) (fun _ _ _ h=>h) (Or.inl ⟨by rfl,?_⟩) ?_ ?_;rotate_left
           ·
            intro w';go_simp;with_reducible rfl
           rotate_left
           ·
            simp only [Act.put,s0_,s1_,s2_,i64_w,i32_w];rfl
           refine pure_ (i:=4) (N:=some 91) (v:=?_) (a':=?_) #[y_,y_,y_,y_,y_,n_,n_,n_,n_,n_,n_,n_,n_,n_] rfl rfl (any_of G.1 (by kernel_rfl)) (fun _ _ _ h=>h) (Or.inl ⟨by rfl,?_⟩) ?_ ?_;rotate_left
           ·
            intro w';go_simp;with_reducible rfl
           rotate_left
           ·
            simp only [Act.put,s0_,s1_,s2_,i64_w,i32_w];rfl
           refine take_ (i:=5) (N:=some 92) (v:=?_) (a':=?_) #[y_,y_,y_,y_,y_,y_,n_,n_,n_,n_,n_,n_,n_,n_] rfl rfl (take_ofW G.1 e1.1 (by kernel_rfl)) (fun _ _ _ h=>h) (Or.inl ⟨by rfl,?_⟩) B ?_ ?_;rotate_left
           ·
            rintro w' ⟨s0,s1,s2,s3,s4,s5,s6,s7⟩;go_simp;with_reducible rfl
           rotate_left
           ·
            simp only [Act.put,s0_,s1_,s2_,i64_w,i32_w];rfl
           refine take_ (i:=6) (N:=some 93) (v:=?_) (a':=?_) #[y_,y_,y_,y_,y_,y_,y_,n_,n_,n_,n_,n_,n_,n_] rfl rfl (take_ofW G.1 e1.1 (by kernel_rfl)) (fun _ _ _ h=>h) (Or.inl ⟨by rfl,?_⟩) B ?_ ?_;rotate_left
           ·
            rintro w' ⟨s0,s1,s2,s3,s4,s5,s6,s7⟩;go_simp;with_reducible rfl
           rotate_left
           ·
            simp only [Act.put,s0_,s1_,s2_,i64_w,i32_w];rfl
           refine join_ (σ:=Nat) 2 #[y_,y_,y_,y_,y_,y_,y_,y_,y_,y_,y_,y_,n_,n_] (fun s_=>[(94,.tuple #[.agg #[.int .i64 b9,.int .i64 d1,.int .i64 d3,.int .i64 d6],.int .i64 g0]),(11,.pointer (some ⟨s_,0,none⟩)),(86,.tuple #[.agg #[.int .i64 b9,.int .i64 d1,.int .i64 d3,.int .i64 d6],.int .i64 g0]),(95,.agg #[.int .i64 b9,.int .i64 d1,.int .i64 d3,.int .i64 d6]),(96,.int .i64 g0)]) (fun s_ w'=>(w'.cell? ⟨Q,0,none⟩=some (.int .i64 b8)∧w'.cell? ⟨Q,1,none⟩=some (.int .i64 d0)∧w'.cell? ⟨Q,2,none⟩=some (.int .i64 d2)∧w'.cell? ⟨Q,3,none⟩=some (.int .i64 d5)∧w'.cell? (I.add (((F)).toNat * 4))=some (.int .i64 ((rd_T23 C (F)).f0))∧w'.cell? ⟨(I.add (((F)).toNat * 4)).block,(I.add (((F)).toNat * 4)).off + 1,none⟩=some (.int .i64 ((rd_T23 C (F)).f1))∧w'.cell? ⟨(I.add (((F)).toNat * 4)).block,(I.add (((F)).toNat * 4)).off + 2,none⟩=some (.int .i64 ((rd_T23 C (F)).f2))∧w'.cell? ⟨(I.add (((F)).toNat * 4)).block,(I.add (((F)).toNat * 4)).off + 3,none⟩=some (.int .i64 ((rd_T23 C (F)).f3)))∧(Kd.R k23 23 w' w.heap.size (fun k_=>k_ ≠ J∧k_ ≠ Q∧k_ ≠ s_) (.slice (some I) C.length n2) C)∧(Q4_ w' J a8 b0 b6 b7 23)∧(Q4_ w' Q b8 d0 d2 d5 23)∧(Q4_ w' s_ 0 0 0 0 23)∧(w.heap.size ≤ s_)∧(w.heap.size ≤ s_)∧(J ≠ s_)∧(s_ ≠ J)∧(Q ≠ s_)∧(s_ ≠ Q)∧(Below w.heap.size w w')) ?_ ?_;rotate_left
           ·
            intro hCont;refine two_ (i:=7) (j:=11) (Ni:=some 94) (Nj:=some 11) #[y_,y_,y_,y_,y_,y_,y_,y_,n_,n_,n_,n_,n_,n_] #[y_,y_,y_,y_,y_,y_,y_,n_,n_,n_,n_,y_,n_,n_] rfl rfl rfl rfl (two_of G.1 (by kernel_rfl)) (by decide) (by decide) (fun K hK=>?_) (fun K hK=>?_)
            ·
             skip
             refine goes_ Try.func38 (by kernel_rfl) rfl #[.agg #[.int .i64 ((rd_T23 C (F)).f0),.int .i64 ((rd_T23 C (F)).f1),.int .i64 ((rd_T23 C (F)).f2),.int .i64 ((rd_T23 C (F)).f3)],.agg #[.int .i64 b8,.int .i64 d0,.int .i64 d2,.int .i64 d5]] (by rfl) rfl rfl (by (try simp only [m0_,m1_,m2_]);first|done|(simp only [g2];rfl)|rfl|(simp only [l0_,l1_];rfl)) ?_;with_reducible refine (norm_Mul.calls k2 ((rd_T23 C (F)).f0) ((rd_T23 C (F)).f1) ((rd_T23 C (F)).f2) ((rd_T23 C (F)).f3) b8 d0 d2 d5 b9 d1 d3 d6 g0 _ E7.1).mono ?_
             rintro e H5 ⟨rfl,hb⟩;have a3:=(hb.cell (World.block_lt_of_cell? _ _ (B.2.2.2.2.1))).trans (B.2.2.2.2.1);have a4:=(hb.cell (World.block_lt_of_cell? _ _ (B.2.2.2.2.2.1))).trans (B.2.2.2.2.2.1);have a5:=(hb.cell (World.block_lt_of_cell? _ _ (B.2.2.2.2.2.2.1))).trans (B.2.2.2.2.2.2.1);have a6:=(hb.cell (World.block_lt_of_cell? _ _ (B.2.2.2.2.2.2.2))).trans (B.2.2.2.2.2.2.2);refine ⟨_,rfl,?_⟩;replace D:=rbl D hb;replace L:=bkb L hb;replace O:=bkb O hb;replace V:=bst V hb;(try clear hb);refine hK.out _ _ ⟨q0_ O,q1_ O,q2_ O,q3_ O,a3,a4,a5,a6⟩ (fun B=>?_);clear hK K;refine norm_ (a':=?_) ?_ ?_;rotate_left
             ·
              show Act.put _ (some 94) _=_;simp only [Act.put,s0_,s1_,s2_,i64_w,i32_w];rfl
             refine pure_ (i:=8) (N:=some 86) (v:=?_) (a':=?_) #[y_,y_,y_,y_,y_,y_,y_,y_,y_,n_,n_,n_,n_,n_] rfl rfl (any_of G.1 (by kernel_rfl)) (fun _ _ _ h=>h) (Or.inl ⟨by rfl,?_⟩) ?_ ?_;rotate_left
             ·
              intro w';go_simp;with_reducible rfl
             rotate_left
             ·
              simp only [Act.put,s0_,s1_,s2_,i64_w,i32_w];rfl
             refine pure_ (i:=9) (N:=some 95) (v:=?_) (a':=?_) #[y_,y_,y_,y_,y_,y_,y_,y_,y_,y_,n_,n_,n_,n_] rfl rfl (any_of G.1 (by kernel_rfl)) (fun _ _ _ h=>h) (Or.inl ⟨by rfl,?_⟩) ?_ ?_;rotate_left
             ·
              intro w';go_simp;with_reducible rfl
             rotate_left
             ·
              simp only [Act.put,s0_,s1_,s2_,i64_w,i32_w];rfl
             refine pure_ (i:=10) (N:=some 96) (v:=?_) (a':=?_) #[y_,y_,y_,y_,y_,y_,y_,y_,y_,y_,y_,n_,n_,n_] rfl rfl (any_of G.1 (by kernel_rfl)) (fun _ _ _ h=>h) (Or.inl ⟨by rfl,?_⟩) ?_ ?_;rotate_left
             ·
              intro w';go_simp;with_reducible rfl
             rotate_left
             ·
              simp only [Act.put,s0_,s1_,s2_,i64_w,i32_w];rfl
             refine one_ (i:=11) (N:=some 11) #[y_,y_,y_,y_,y_,y_,y_,y_,y_,y_,y_,y_,n_,n_] rfl rfl (one_of G.1 (by kernel_rfl)) (by decide) (fun K hK=>?_);refine box_step ?hg (N:=11) ?hd (cs:=#[.int .i64 0,.int .i64 0,.int .i64 0,.int .i64 0]) (t:=23) ?hr ?_;(case hd=>rfl);(case hg=>rfl);(case hr=>first|(go_simp;done)|(go_simp;rfl));intro Y hg H6 f5 hb;have a3:=(hb.cell (World.block_lt_of_cell? _ _ (B.2.2.2.2.1))).trans (B.2.2.2.2.1);have a4:=(hb.cell (World.block_lt_of_cell? _ _ (B.2.2.2.2.2.1))).trans (B.2.2.2.2.2.1);have a5:=(hb.cell (World.block_lt_of_cell? _ _ (B.2.2.2.2.2.2.1))).trans (B.2.2.2.2.2.2.1);have a6:=(hb.cell (World.block_lt_of_cell? _ _ (B.2.2.2.2.2.2.2))).trans (B.2.2.2.2.2.2.2);have Z:=mk0 (f5);have p5:=szw hg V;have g3:=szw hg V;have e3:=nlt hg L;have f7:=ngt hg L;have b1:=nlt hg O;have f8:=ngt hg O;replace D:=mk0 (Kd.R_below (Kd.R_elderB D.1 Y (Nat.le_of_eq hg.symm)) hb);replace L:=bkb L hb;replace O:=bkb O hb;replace V:=bst V hb;clear hb f5 hg;refine hK.out _ _ ⟨q0_ O,q1_ O,q2_ O,q3_ O,a3,a4,a5,a6⟩ (fun B=>?_);clear hK K;refine norm_ (a':=?_) ?_ ?_;rotate_left
             ·
              show Act.put _ (some 11) _=_;simp only [Act.put,s0_,s1_,s2_,i64_w,i32_w];rfl
             exact norm_ (by simp only [putAll,Act.put,s0_,s1_,s2_]) (hCont (Y) _ ⟨B,(by (with_reducible repeat (first|apply Kd.R_alloc|apply Kd.R_drewN|apply Kd.R_drew));exact Kd.R_mono D.1 (fun _ hk=>⟨hk.1.1,⟨hk.1.2,hk.2⟩⟩)),L.1,O.1,Z.1,p5.1,g3.1,e3.1,f7.1,b1.1,f8.1,V.1⟩)
            ·
             skip
             refine box_step ?hg (N:=11) ?hd (cs:=#[.int .i64 0,.int .i64 0,.int .i64 0,.int .i64 0]) (t:=23) ?hr ?_;(case hd=>rfl);(case hg=>rfl);(case hr=>first|(go_simp;done)|(go_simp;rfl));intro Y hg H5 f5 hb;have a3:=(hb.cell (World.block_lt_of_cell? _ _ (B.2.2.2.2.1))).trans (B.2.2.2.2.1);have a4:=(hb.cell (World.block_lt_of_cell? _ _ (B.2.2.2.2.2.1))).trans (B.2.2.2.2.2.1);have a5:=(hb.cell (World.block_lt_of_cell? _ _ (B.2.2.2.2.2.2.1))).trans (B.2.2.2.2.2.2.1);have a6:=(hb.cell (World.block_lt_of_cell? _ _ (B.2.2.2.2.2.2.2))).trans (B.2.2.2.2.2.2.2);have Z:=mk0 (f5);have p5:=szw hg V;have g3:=szw hg V;have e3:=nlt hg L;have f7:=ngt hg L;have b1:=nlt hg O;have f8:=ngt hg O;replace D:=mk0 (Kd.R_below (Kd.R_elderB D.1 Y (Nat.le_of_eq hg.symm)) hb);replace L:=bkb L hb;replace O:=bkb O hb;replace V:=bst V hb;clear hb f5 hg;refine hK.out _ _ ⟨q0_ O,q1_ O,q2_ O,q3_ O,a3,a4,a5,a6⟩ (fun B=>?_);clear hK K;refine norm_ (a':=?_) ?_ ?_;rotate_left
             ·
              show Act.put _ (some 11) _=_;simp only [Act.put,s0_,s1_,s2_,i64_w,i32_w];rfl
             refine one_ (i:=7) (N:=some 94) #[y_,y_,y_,y_,y_,y_,y_,y_,n_,n_,n_,y_,n_,n_] rfl rfl (one_of G.1 (by kernel_rfl)) (by decide) (fun K hK=>?_);refine goes_ Try.func38 (by kernel_rfl) rfl #[.agg #[.int .i64 ((rd_T23 C (F)).f0),.int .i64 ((rd_T23 C (F)).f1),.int .i64 ((rd_T23 C (F)).f2),.int .i64 ((rd_T23 C (F)).f3)],.agg #[.int .i64 b8,.int .i64 d0,.int .i64 d2,.int .i64 d5]] (by rfl) rfl rfl (by (try simp only [m0_,m1_,m2_]);first|done|(simp only [g2];rfl)|rfl|(simp only [l0_,l1_];rfl)) ?_;with_reducible refine (norm_Mul.calls k2 ((rd_T23 C (F)).f0) ((rd_T23 C (F)).f1) ((rd_T23 C (F)).f2) ((rd_T23 C (F)).f3) b8 d0 d2 d5 b9 d1 d3 d6 g0 _ E7.1).mono ?_
             rintro e H6 ⟨rfl,hb⟩;have a3:=(hb.cell (World.block_lt_of_cell? _ _ (B.2.2.2.2.1))).trans (B.2.2.2.2.1);have a4:=(hb.cell (World.block_lt_of_cell? _ _ (B.2.2.2.2.2.1))).trans (B.2.2.2.2.2.1);have a5:=(hb.cell (World.block_lt_of_cell? _ _ (B.2.2.2.2.2.2.1))).trans (B.2.2.2.2.2.2.1);have a6:=(hb.cell (World.block_lt_of_cell? _ _ (B.2.2.2.2.2.2.2))).trans (B.2.2.2.2.2.2.2);refine ⟨_,rfl,?_⟩;replace D:=rbl D hb;replace L:=bkb L hb;replace O:=bkb O hb;replace Z:=bkb Z hb;replace V:=bst V hb;(try clear hb);refine hK.out _ _ ⟨q0_ O,q1_ O,q2_ O,q3_ O,a3,a4,a5,a6⟩ (fun B=>?_);clear hK K;refine norm_ (a':=?_) ?_ ?_;rotate_left
             ·
              show Act.put _ (some 94) _=_;simp only [Act.put,s0_,s1_,s2_,i64_w,i32_w];rfl
             refine pure_ (i:=8) (N:=some 86) (v:=?_) (a':=?_) #[y_,y_,y_,y_,y_,y_,y_,y_,y_,n_,n_,y_,n_,n_] rfl rfl (any_of G.1 (by kernel_rfl)) (fun _ _ _ h=>h) (Or.inl ⟨by rfl,?_⟩) ?_ ?_;rotate_left
             ·
              intro w';go_simp;with_reducible rfl
             rotate_left
             ·
              simp only [Act.put,s0_,s1_,s2_,i64_w,i32_w];rfl
             refine pure_ (i:=9) (N:=some 95) (v:=?_) (a':=?_) #[y_,y_,y_,y_,y_,y_,y_,y_,y_,y_,n_,y_,n_,n_] rfl rfl (any_of G.1 (by kernel_rfl)) (fun _ _ _ h=>h) (Or.inl ⟨by rfl,?_⟩) ?_ ?_;rotate_left
             ·
              intro w';go_simp;with_reducible rfl
             rotate_left
             ·
              simp only [Act.put,s0_,s1_,s2_,i64_w,i32_w];rfl
             refine pure_ (i:=10) (N:=some 96) (v:=?_) (a':=?_) #[y_,y_,y_,y_,y_,y_,y_,y_,y_,y_,y_,y_,n_,n_] rfl rfl (any_of G.1 (by kernel_rfl)) (fun _ _ _ h=>h) (Or.inl ⟨by rfl,?_⟩) ?_ ?_;rotate_left
             ·
              intro w';go_simp;with_reducible rfl
             rotate_left
             ·
              simp only [Act.put,s0_,s1_,s2_,i64_w,i32_w];rfl
             exact norm_ (by simp only [putAll,Act.put,s0_,s1_,s2_]) (hCont (Y) _ ⟨B,(by (with_reducible repeat (first|apply Kd.R_alloc|apply Kd.R_drewN|apply Kd.R_drew));exact Kd.R_mono D.1 (fun _ hk=>⟨hk.1.1,⟨hk.1.2,hk.2⟩⟩)),L.1,O.1,Z.1,p5.1,g3.1,e3.1,f7.1,b1.1,f8.1,V.1⟩)
           clear D L O V;rintro Y o9 q2;replace q2:=h_ (m4_ (m4_ (m_ (m_ l_)))) q2;obtain ⟨B9,D,L,O,Z,p5,g3,e3,f7,b1,f8,V⟩:=q2;have B:o9.cell? ⟨Q,0,none⟩=some (.int .i64 b8)∧o9.cell? ⟨Q,1,none⟩=some (.int .i64 d0)∧o9.cell? ⟨Q,2,none⟩=some (.int .i64 d2)∧o9.cell? ⟨Q,3,none⟩=some (.int .i64 d5)∧o9.cell? (I.add (((F)).toNat * 4))=some (.int .i64 ((rd_T23 C (F)).f0))∧o9.cell? ⟨(I.add (((F)).toNat * 4)).block,(I.add (((F)).toNat * 4)).off + 1,none⟩=some (.int .i64 ((rd_T23 C (F)).f1))∧o9.cell? ⟨(I.add (((F)).toNat * 4)).block,(I.add (((F)).toNat * 4)).off + 2,none⟩=some (.int .i64 ((rd_T23 C (F)).f2))∧o9.cell? ⟨(I.add (((F)).toNat * 4)).block,(I.add (((F)).toNat * 4)).off + 3,none⟩=some (.int .i64 ((rd_T23 C (F)).f3)):=B9;refine norm_ (a':=?_) ?_ ?_;rotate_left
           ·
            simp only [putAll,Act.put,s0_,s1_,s2_];rfl
           refine one_ (i:=12) (N:=none) #[y_,y_,y_,y_,y_,y_,y_,y_,y_,y_,y_,y_,y_,n_] rfl rfl (one_of G.1 (by kernel_rfl)) (by decide) (fun K hK=>?_);have L8:=q0_ Z;have I7:=blk_frozen Z.1 0;have G3:=e3.1;have G4:=b1.1;have G5:=f7.1;have G6:=f8.1;have L9:=q1_ Z;have I8:=blk_frozen Z.1 1;have M0:=q2_ Z;have I9:=blk_frozen Z.1 2;have M1:=q3_ Z;have J0:=blk_frozen Z.1 3;refine skip_ (w1:=?_) (by rfl) rfl ?_ ?_;rotate_left
           ·
            go_simp;rfl
           refine hK.out _ _ ⟨f4_ b1 B.1,f4_ b1 B.2.1,f4_ b1 B.2.2.1,f4_ b1 B.2.2.2.1,((cell_far (p:=⟨Y,_,none⟩) (by first|exact Kd.own_blk (Kd.R_away D.1 (fun _ hk=>hk.2.2))|(rw [add_block];exact Kd.own_blk (Kd.R_away D.1 (fun _ hk=>hk.2.2)))|(show (Addr.add _ _).block ≠ _;rw [add_block];exact Kd.own_blk (Kd.R_away D.1 (fun _ hk=>hk.2.2)))|(dsimp only;exact Kd.own_blk (Kd.R_away D.1 (fun _ hk=>hk.2.2)))) _).trans (((cell_far (p:=⟨Y,_,none⟩) (by first|exact Kd.own_blk (Kd.R_away D.1 (fun _ hk=>hk.2.2))|(rw [add_block];exact Kd.own_blk (Kd.R_away D.1 (fun _ hk=>hk.2.2)))|(show (Addr.add _ _).block ≠ _;rw [add_block];exact Kd.own_blk (Kd.R_away D.1 (fun _ hk=>hk.2.2)))|(dsimp only;exact Kd.own_blk (Kd.R_away D.1 (fun _ hk=>hk.2.2)))) _).trans (((cell_far (p:=⟨Y,_,none⟩) (by first|exact Kd.own_blk (Kd.R_away D.1 (fun _ hk=>hk.2.2))|(rw [add_block];exact Kd.own_blk (Kd.R_away D.1 (fun _ hk=>hk.2.2)))|(show (Addr.add _ _).block ≠ _;rw [add_block];exact Kd.own_blk (Kd.R_away D.1 (fun _ hk=>hk.2.2)))|(dsimp only;exact Kd.own_blk (Kd.R_away D.1 (fun _ hk=>hk.2.2)))) _).trans (((cell_far (p:=⟨Y,_,none⟩) (by first|exact Kd.own_blk (Kd.R_away D.1 (fun _ hk=>hk.2.2))|(rw [add_block];exact Kd.own_blk (Kd.R_away D.1 (fun _ hk=>hk.2.2)))|(show (Addr.add _ _).block ≠ _;rw [add_block];exact Kd.own_blk (Kd.R_away D.1 (fun _ hk=>hk.2.2)))|(dsimp only;exact Kd.own_blk (Kd.R_away D.1 (fun _ hk=>hk.2.2)))) _).trans (B.2.2.2.2.1)))))))),((cell_far (p:=⟨Y,_,none⟩) (by first|exact Kd.own_blk (Kd.R_away D.1 (fun _ hk=>hk.2.2))|(rw [add_block];exact Kd.own_blk (Kd.R_away D.1 (fun _ hk=>hk.2.2)))|(show (Addr.add _ _).block ≠ _;rw [add_block];exact Kd.own_blk (Kd.R_away D.1 (fun _ hk=>hk.2.2)))|(dsimp only;exact Kd.own_blk (Kd.R_away D.1 (fun _ hk=>hk.2.2)))) _).trans (((cell_far (p:=⟨Y,_,none⟩) (by first|exact Kd.own_blk (Kd.R_away D.1 (fun _ hk=>hk.2.2))|(rw [add_block];exact Kd.own_blk (Kd.R_away D.1 (fun _ hk=>hk.2.2)))|(show (Addr.add _ _).block ≠ _;rw [add_block];exact Kd.own_blk (Kd.R_away D.1 (fun _ hk=>hk.2.2)))|(dsimp only;exact Kd.own_blk (Kd.R_away D.1 (fun _ hk=>hk.2.2)))) _).trans (((cell_far (p:=⟨Y,_,none⟩) (by first|exact Kd.own_blk (Kd.R_away D.1 (fun _ hk=>hk.2.2))|(rw [add_block];exact Kd.own_blk (Kd.R_away D.1 (fun _ hk=>hk.2.2)))|(show (Addr.add _ _).block ≠ _;rw [add_block];exact Kd.own_blk (Kd.R_away D.1 (fun _ hk=>hk.2.2)))|(dsimp only;exact Kd.own_blk (Kd.R_away D.1 (fun _ hk=>hk.2.2)))) _).trans (((cell_far (p:=⟨Y,_,none⟩) (by first|exact Kd.own_blk (Kd.R_away D.1 (fun _ hk=>hk.2.2))|(rw [add_block];exact Kd.own_blk (Kd.R_away D.1 (fun _ hk=>hk.2.2)))|(show (Addr.add _ _).block ≠ _;rw [add_block];exact Kd.own_blk (Kd.R_away D.1 (fun _ hk=>hk.2.2)))|(dsimp only;exact Kd.own_blk (Kd.R_away D.1 (fun _ hk=>hk.2.2)))) _).trans (B.2.2.2.2.2.1)))))))),((cell_far (p:=⟨Y,_,none⟩) (by first|exact Kd.own_blk (Kd.R_away D.1 (fun _ hk=>hk.2.2))|(rw [add_block];exact Kd.own_blk (Kd.R_away D.1 (fun _ hk=>hk.2.2)))|(show (Addr.add _ _).block ≠ _;rw [add_block];exact Kd.own_blk (Kd.R_away D.1 (fun _ hk=>hk.2.2)))|(dsimp only;exact Kd.own_blk (Kd.R_away D.1 (fun _ hk=>hk.2.2)))) _).trans (((cell_far (p:=⟨Y,_,none⟩) (by first|exact Kd.own_blk (Kd.R_away D.1 (fun _ hk=>hk.2.2))|(rw [add_block];exact Kd.own_blk (Kd.R_away D.1 (fun _ hk=>hk.2.2)))|(show (Addr.add _ _).block ≠ _;rw [add_block];exact Kd.own_blk (Kd.R_away D.1 (fun _ hk=>hk.2.2)))|(dsimp only;exact Kd.own_blk (Kd.R_away D.1 (fun _ hk=>hk.2.2)))) _).trans (((cell_far (p:=⟨Y,_,none⟩) (by first|exact Kd.own_blk (Kd.R_away D.1 (fun _ hk=>hk.2.2))|(rw [add_block];exact Kd.own_blk (Kd.R_away D.1 (fun _ hk=>hk.2.2)))|(show (Addr.add _ _).block ≠ _;rw [add_block];exact Kd.own_blk (Kd.R_away D.1 (fun _ hk=>hk.2.2)))|(dsimp only;exact Kd.own_blk (Kd.R_away D.1 (fun _ hk=>hk.2.2)))) _).trans (((cell_far (p:=⟨Y,_,none⟩) (by first|exact Kd.own_blk (Kd.R_away D.1 (fun _ hk=>hk.2.2))|(rw [add_block];exact Kd.own_blk (Kd.R_away D.1 (fun _ hk=>hk.2.2)))|(show (Addr.add _ _).block ≠ _;rw [add_block];exact Kd.own_blk (Kd.R_away D.1 (fun _ hk=>hk.2.2)))|(dsimp only;exact Kd.own_blk (Kd.R_away D.1 (fun _ hk=>hk.2.2)))) _).trans (B.2.2.2.2.2.2.1)))))))),((cell_far (p:=⟨Y,_,none⟩) (by first|exact Kd.own_blk (Kd.R_away D.1 (fun _ hk=>hk.2.2))|(rw [add_block];exact Kd.own_blk (Kd.R_away D.1 (fun _ hk=>hk.2.2)))|(show (Addr.add _ _).block ≠ _;rw [add_block];exact Kd.own_blk (Kd.R_away D.1 (fun _ hk=>hk.2.2)))|(dsimp only;exact Kd.own_blk (Kd.R_away D.1 (fun _ hk=>hk.2.2)))) _).trans (((cell_far (p:=⟨Y,_,none⟩) (by first|exact Kd.own_blk (Kd.R_away D.1 (fun _ hk=>hk.2.2))|(rw [add_block];exact Kd.own_blk (Kd.R_away D.1 (fun _ hk=>hk.2.2)))|(show (Addr.add _ _).block ≠ _;rw [add_block];exact Kd.own_blk (Kd.R_away D.1 (fun _ hk=>hk.2.2)))|(dsimp only;exact Kd.own_blk (Kd.R_away D.1 (fun _ hk=>hk.2.2)))) _).trans (((cell_far (p:=⟨Y,_,none⟩) (by first|exact Kd.own_blk (Kd.R_away D.1 (fun _ hk=>hk.2.2))|(rw [add_block];exact Kd.own_blk (Kd.R_away D.1 (fun _ hk=>hk.2.2)))|(show (Addr.add _ _).block ≠ _;rw [add_block];exact Kd.own_blk (Kd.R_away D.1 (fun _ hk=>hk.2.2)))|(dsimp only;exact Kd.own_blk (Kd.R_away D.1 (fun _ hk=>hk.2.2)))) _).trans (((cell_far (p:=⟨Y,_,none⟩) (by first|exact Kd.own_blk (Kd.R_away D.1 (fun _ hk=>hk.2.2))|(rw [add_block];exact Kd.own_blk (Kd.R_away D.1 (fun _ hk=>hk.2.2)))|(show (Addr.add _ _).block ≠ _;rw [add_block];exact Kd.own_blk (Kd.R_away D.1 (fun _ hk=>hk.2.2)))|(dsimp only;exact Kd.own_blk (Kd.R_away D.1 (fun _ hk=>hk.2.2)))) _).trans (B.2.2.2.2.2.2.2))))))))⟩ (fun B=>?_)
           clear hK K;refine pure_ (i:=13) (N:=some 12) (v:=?_) (a':=?_) #[y_,y_,y_,y_,y_,y_,y_,y_,y_,y_,y_,y_,y_,y_] rfl rfl (any_of G.1 (by kernel_rfl)) (fun _ _ _ h=>h) (Or.inl ⟨by rfl,?_⟩) ?_ ?_;rotate_left
           ·
            intro w';go_simp;with_reducible rfl
           rotate_left
           ·
            simp only [Act.put,s0_,s1_,s2_,i64_w,i32_w];rfl
           refine done_ (done_of G.1 (by kernel_rfl)) ?_;try go_wp2
           go_loopg [13,14] k2 (fun kq H7 H8 w'=>∃ (j2:Bool) (X:Int),H7=.bool j2∧H8=.int .i64 X∧Aside0 (bellpulllaw04_NormUnits.l1 kq C f9 i5 g0 j2 X a8 b0 b6 b7 b9 d1 d3 d6=some r)∧Aside0 (kq ≤ k2)∧Aside0 (Kd.R k23 23 w' w.heap.size (fun k_=>k_ ≠ J∧k_ ≠ Q∧k_ ≠ Y) (.slice (some I) C.length n2) C)∧Aside0 (Q4_ w' J a8 b0 b6 b7 23)∧Aside0 (Q4_ w' Q b8 d0 d2 d5 23)∧Aside0 (Q4_ w' Y b9 d1 d3 d6 23)∧Aside0 (Below w.heap.size w w'))
           case atStart=>exact ⟨(false),(0),(by first|rfl|(simp;done)|(simp [*];done)),(by first|rfl|(simp;done)|(simp [*];done)),H',⟨Nat.le_refl _⟩,⟨by (with_reducible repeat (first|apply Kd.R_alloc|apply Kd.R_drewN|apply Kd.R_drew));exact Kd.R_mono (Kd.R_far (p:=⟨Y,3,none⟩) (Kd.R_far (p:=⟨Y,2,none⟩) (Kd.R_far (p:=⟨Y,1,none⟩) (Kd.R_far (p:=⟨Y,0,none⟩) (Kd.R_mono D.1 (fun k_ hk=>(⟨hk,hk.2.2⟩:_∧k_ ≠ Y))) (fun _ hk=>hk.2) (.int .i64 b9)) (fun _ hk=>hk.2) (.int .i64 d1)) (fun _ hk=>hk.2) (.int .i64 d3)) (fun _ hk=>hk.2) (.int .i64 d6)) (fun _ hk=>⟨hk.1.1,⟨hk.1.2.1,hk.1.2.2⟩⟩)⟩,⟨by (iterate 4 refine blk_far ?_ e3.1 _);exact L.1⟩,⟨by (iterate 4 refine blk_far ?_ b1.1 _);exact O.1⟩,⟨by refine blk_put (cs:=#[.int .i64 b9,.int .i64 d1,.int .i64 d3,.int .i64 0]) ?_ 3 _ rfl;refine blk_put (cs:=#[.int .i64 b9,.int .i64 d1,.int .i64 0,.int .i64 0]) ?_ 2 _ rfl;refine blk_put (cs:=#[.int .i64 b9,.int .i64 0,.int .i64 0,.int .i64 0]) ?_ 1 _ rfl;refine blk_put (cs:=#[.int .i64 0,.int .i64 0,.int .i64 0,.int .i64 0]) ?_ 0 _ rfl;exact Z.1⟩,⟨by repeat (first|(with_reducible first|exact V.1|apply below_alloc|apply pw_below_drewN|apply below_drew1|refine below_set ?_ f6.1|refine below_set ?_ m4.1|refine below_set ?_ g3.1)|exact V.1)⟩⟩
           case round =>
            clear H';try clear p2
            try clear c3
            try clear c5
            try clear p7
            try clear q7
            try clear hx7
            try clear p8
            try clear q8
            try clear hx8
            try clear c38
            try clear c39
            try clear c59
            try clear z0
            try clear z1
            try clear z2
            try clear z3
            try clear z4
            try clear z5
            try clear z6
            try clear z7
            try clear d7
            try clear d8
            try clear d9
            try clear e0
            try clear i7
            try clear i8
            try clear i9
            try clear j1
            try clear t7
            try clear t9
            try clear t8
            try clear u0
            obtain ⟨j2,X,rfl,rfl,HA,y3,D,L,O,Z,V⟩:=hrel;cases gk with
            | zero=>exact absurd HA.1 (by simp [bellpulllaw04_NormUnits.l1])
            | succ k3 =>
             have H:=HA.1;clear HA;simp only [bellpulllaw04_NormUnits.l1] at H
             by_cases c70:X < 24
             ·
              rw [if_pos c70] at H;have c70b0:decide (X < 24)=true:=decide_eq_true c70;clear c70
              by_cases y4:j2=true
              ·
               subst y4;have H1:(bellpulllaw04_NormUnits.l1 k3 C f9 i5 g0 true (wrap64 (X + 1)) a8 b0 b6 b7 b9 d1 d3 d6)=some r:=by rw [if_pos rfl] at H;exact H
               clear H;have H:=H1;clear H1;have H':=mk0 H;clear H;try go_wp2
               replace D:=rdr D;replace L:=bdr L;replace O:=bdr O;replace Z:=bdr Z;replace V:=hdr V;refine start_ (n:=10) (S:=fun w'=>True) (ds:=[]) #[n_,n_,n_,n_,n_,n_,n_,n_,n_,n_] (by kernel_rfl) rfl rfl trivial (fun B=>?_);refine with_tabW bellpulllaw04_NormUnits.tab16 bellpulllaw04_NormUnits.bits16 (fun G e1=>?_);generalize wr.drew=O5 at D L O Z V B ⊢;refine pure_ (i:=0) (N:=some 101) (v:=?_) (a':=?_) #[y_,n_,n_,n_,n_,n_,n_,n_,n_,n_] rfl rfl (any_of G.1 (by kernel_rfl)) (fun _ _ _ h=>h) (Or.inl ⟨by rfl,?_⟩) ?_ ?_;rotate_left
               ·
                intro w';go_simp;with_reducible rfl
               rotate_left
               ·
                simp only [Act.put,s0_,s1_,s2_,i64_w,i32_w];rfl
               refine pure_ (i:=1) (N:=some 102) (v:=?_) (a':=?_) #[y_,y_,n_,n_,n_,n_,n_,n_,n_,n_] rfl rfl (any_of G.1 (by kernel_rfl)) (fun _ _ _ h=>h) (Or.inl ⟨by rfl,?_⟩) ?_ ?_;rotate_left
               ·
                intro w';go_simp;with_reducible rfl
               rotate_left
               ·
                simp only [Act.put,s0_,s1_,s2_,i64_w,i32_w];rfl
               refine pure_ (i:=2) (N:=some 103) (v:=undef) (a':=?_) #[y_,y_,y_,n_,n_,n_,n_,n_,n_,n_] rfl rfl (any_of G.1 (by kernel_rfl)) (fun _ _ _ h=>h) (Or.inr ⟨by rfl,rfl⟩) ?_ ?_;rotate_left
               ·
                simp only [Act.put,s0_,s1_,s2_,i64_w,i32_w];rfl
               refine pure_ (i:=3) (N:=some 104) (v:=undef) (a':=?_) #[y_,y_,y_,y_,n_,n_,n_,n_,n_,n_] rfl rfl (any_of G.1 (by kernel_rfl)) (fun _ _ _ h=>h) (Or.inr ⟨by rfl,rfl⟩) ?_ ?_;rotate_left
               ·
                simp only [Act.put,s0_,s1_,s2_,i64_w,i32_w];rfl
               refine pure_ (i:=4) (N:=some 105) (v:=undef) (a':=?_) #[y_,y_,y_,y_,y_,n_,n_,n_,n_,n_] rfl rfl (any_of G.1 (by kernel_rfl)) (fun _ _ _ h=>h) (Or.inr ⟨by rfl,rfl⟩) ?_ ?_;rotate_left
               ·
                simp only [Act.put,s0_,s1_,s2_,i64_w,i32_w];rfl
               refine pure_ (i:=5) (N:=some 106) (v:=undef) (a':=?_) #[y_,y_,y_,y_,y_,y_,n_,n_,n_,n_] rfl rfl (any_of G.1 (by kernel_rfl)) (fun _ _ _ h=>h) (Or.inr ⟨by rfl,rfl⟩) ?_ ?_;rotate_left
               ·
                simp only [Act.put,s0_,s1_,s2_,i64_w,i32_w];rfl
               refine pure_ (i:=6) (N:=some 107) (v:=undef) (a':=?_) #[y_,y_,y_,y_,y_,y_,y_,n_,n_,n_] rfl rfl (any_of G.1 (by kernel_rfl)) (fun _ _ _ h=>h) (Or.inr ⟨by rfl,rfl⟩) ?_ ?_;rotate_left
               ·
                simp only [Act.put,s0_,s1_,s2_,i64_w,i32_w];rfl
               refine pure_ (i:=7) (N:=some 108) (v:=undef) (a':=?_) #[y_,y_,y_,y_,y_,y_,y_,y_,n_,n_] rfl rfl (any_of G.1 (by kernel_rfl)) (fun _ _ _ h=>h) (Or.inr ⟨by rfl,rfl⟩) ?_ ?_;rotate_left
               ·
                simp only [Act.put,s0_,s1_,s2_,i64_w,i32_w];rfl
               refine pure_ (i:=8) (N:=some 109) (v:=?_) (a':=?_) #[y_,y_,y_,y_,y_,y_,y_,y_,y_,n_] rfl rfl (any_of G.1 (by kernel_rfl)) (fun _ _ _ h=>h) (Or.inl ⟨by rfl,?_⟩) ?_ ?_;rotate_left
               ·
                intro w';go_simp;with_reducible rfl
               rotate_left
               ·
                simp only [Act.put,s0_,s1_,s2_,i64_w,i32_w];rfl
               refine pure_ (i:=9) (N:=some 13) (v:=?_) (a':=?_) #[y_,y_,y_,y_,y_,y_,y_,y_,y_,y_] rfl rfl (any_of G.1 (by kernel_rfl)) (fun _ _ _ h=>h) (Or.inl ⟨by rfl,?_⟩) ?_ ?_;rotate_left
               ·
                intro w';go_simp;with_reducible rfl
               rotate_left
               ·
                simp only [Act.put,s0_,s1_,s2_,i64_w,i32_w];rfl
               refine done_ (done_of G.1 (by kernel_rfl)) ?_;try go_wp2
               go_roundg k3
               case measure=>have:=o5.1;have:=o6.1;have:=y3.1;omega
               case rel=>exact ⟨(true),(wrap64 (X + 1)),(by first|rfl|(simp;done)|(simp [*];done)),(by first|rfl|(simp;done)|(simp [*];done)),H',⟨by have:=o5.1;have:=o6.1;have:=y3.1;omega⟩,⟨by (with_reducible repeat (first|apply Kd.R_alloc|apply Kd.R_drewN|apply Kd.R_drew));exact D.1⟩,⟨by exact L.1⟩,⟨by exact O.1⟩,⟨by exact Z.1⟩,⟨by repeat (first|(with_reducible first|exact V.1|apply below_alloc|apply pw_below_drewN|apply below_drew1|refine below_set ?_ f6.1|refine below_set ?_ m4.1|refine below_set ?_ g3.1)|exact V.1)⟩⟩
              ·
               replace y4:=Bool.eq_false_iff.mpr y4;subst y4;have H1:(if 0 ≤ X then (if X < (C.length:Int) then (bellpulllaw04_NormUnits.l1 k3 C f9 i5 g0 (((rd_T23 C X).f0) == a8 && (((rd_T23 C X).f1) == b0 && (((rd_T23 C X).f2) == b6 && (((rd_T23 C X).f3) == b7)))) (wrap64 (X + 1)) a8 b0 b6 b7 b9 d1 d3 d6) else (none)) else (none))=some r:=by rw [if_neg (show ¬ (false=true) by decide)] at H;exact H
               clear H;have H:=H1;clear H1
               by_cases c73:0 ≤ X
               ·
                rw [if_pos c73] at H;have c73b0:decide (0 ≤ X)=true:=decide_eq_true c73;clear c73
                by_cases c74:X < (C.length:Int)
                ·
                 rw [if_pos c74] at H;have c74b0:decide (X < (C.length:Int))=true:=decide_eq_true c74;clear c74;have H':=mk0 H;clear H;try go_wp2
                 replace D:=rdr D;replace L:=bdr L;replace O:=bdr O;replace Z:=bdr Z;replace V:=hdr V;have x5:0 ≤ (X:Int):=of_decide_eq_true (by first|(with_reducible assumption)|assumption);have x6:X < (C.length:Int):=of_decide_eq_true (by first|(with_reducible assumption)|assumption);obtain ⟨E1,F9,o1,o2,o3,o4⟩:=at_T23 (Kd.R_reads' D.1).2.2 X x5 x6;obtain rfl:I=E1:=(by injection F9)
                 replace x5:=eq_true x5;replace x6:=eq_true x6;refine start_ (n:=10) (S:=fun w'=>w'.cell? ⟨J,0,none⟩=some (.int .i64 a8)∧w'.cell? ⟨J,1,none⟩=some (.int .i64 b0)∧w'.cell? ⟨J,2,none⟩=some (.int .i64 b6)∧w'.cell? ⟨J,3,none⟩=some (.int .i64 b7)∧w'.cell? (I.add ((X).toNat * 4))=some (.int .i64 ((rd_T23 C X).f0))∧w'.cell? ⟨(I.add ((X).toNat * 4)).block,(I.add ((X).toNat * 4)).off + 1,none⟩=some (.int .i64 ((rd_T23 C X).f1))∧w'.cell? ⟨(I.add ((X).toNat * 4)).block,(I.add ((X).toNat * 4)).off + 2,none⟩=some (.int .i64 ((rd_T23 C X).f2))∧w'.cell? ⟨(I.add ((X).toNat * 4)).block,(I.add ((X).toNat * 4)).off + 3,none⟩=some (.int .i64 ((rd_T23 C X).f3))) (ds:=[]) #[n_,n_,n_,n_,n_,n_,n_,n_,n_,n_] (by kernel_rfl) rfl rfl ⟨q0_ L,q1_ L,q2_ L,q3_ L,o1,o2,o3,o4⟩ (fun B=>?_);refine with_tabW bellpulllaw04_NormUnits.tab16 bellpulllaw04_NormUnits.bits16 (fun G e1=>?_);generalize wr.drew=O6 at D L O Z V o1 o2 o3 o4 B ⊢;refine pure_ (i:=0) (N:=some 101) (v:=?_) (a':=?_) #[y_,n_,n_,n_,n_,n_,n_,n_,n_,n_] rfl rfl (any_of G.1 (by kernel_rfl)) (fun _ _ _ h=>h) (Or.inl ⟨by rfl,?_⟩) ?_ ?_;rotate_left
                 ·
                  intro w';go_simp;with_reducible rfl
                 rotate_left
                 ·
                  simp only [Act.put,s0_,s1_,s2_,i64_w,i32_w];rfl
                 refine pure_ (i:=1) (N:=some 102) (v:=?_) (a':=?_) #[y_,y_,n_,n_,n_,n_,n_,n_,n_,n_] rfl rfl (any_of G.1 (by kernel_rfl)) (fun _ _ _ h=>h) (Or.inl ⟨by rfl,?_⟩) ?_ ?_;rotate_left
                 ·
                  intro w';go_simp;with_reducible rfl
                 rotate_left
                 ·
                  simp only [Act.put,s0_,s1_,s2_,i64_w,i32_w];rfl
                 refine pure_ (i:=2) (N:=some 103) (v:=?_) (a':=?_) #[y_,y_,y_,n_,n_,n_,n_,n_,n_,n_] rfl rfl (any_of G.1 (by kernel_rfl)) (fun _ _ _ h=>h) (Or.inl ⟨by rfl,?_⟩) ?_ ?_;rotate_left
                 ·
                  intro w';go_simp;with_reducible rfl
                 rotate_left
                 ·
                  simp only [Act.put,s0_,s1_,s2_,i64_w,i32_w];rfl
                 refine pure_ (i:=3) (N:=some 104) (v:=?_) (a':=?_) #[y_,y_,y_,y_,n_,n_,n_,n_,n_,n_] rfl rfl (any_of G.1 (by kernel_rfl)) (fun _ _ _ h=>h) (Or.inl ⟨by rfl,?_⟩) ?_ ?_;rotate_left
                 ·
                  intro w';go_simp;with_reducible rfl
                 rotate_left
                 ·
                  simp only [Act.put,s0_,s1_,s2_,i64_w,i32_w];rfl
                 refine pure_ (i:=4) (N:=some 105) (v:=?_) (a':=?_) #[y_,y_,y_,y_,y_,n_,n_,n_,n_,n_] rfl rfl (any_of G.1 (by kernel_rfl)) (fun _ _ _ h=>h) (Or.inl ⟨by rfl,?_⟩) ?_ ?_;rotate_left
                 ·
                  intro w';go_simp;with_reducible rfl
                 rotate_left
                 ·
                  simp only [Act.put,s0_,s1_,s2_,i64_w,i32_w];rfl
                 refine take_ (i:=5) (N:=some 106) (v:=?_) (a':=?_) #[y_,y_,y_,y_,y_,y_,n_,n_,n_,n_] rfl rfl (take_ofW G.1 e1.1 (by kernel_rfl)) (fun _ _ _ h=>h) (Or.inl ⟨by rfl,?_⟩) B ?_ ?_;rotate_left
                 ·
                  rintro w' ⟨s0,s1,s2,s3,s4,s5,s6,s7⟩;go_simp;with_reducible rfl
                 rotate_left
                 ·
                  simp only [Act.put,s0_,s1_,s2_,i64_w,i32_w];rfl
                 refine take_ (i:=6) (N:=some 107) (v:=?_) (a':=?_) #[y_,y_,y_,y_,y_,y_,y_,n_,n_,n_] rfl rfl (take_ofW G.1 e1.1 (by kernel_rfl)) (fun _ _ _ h=>h) (Or.inl ⟨by rfl,?_⟩) B ?_ ?_;rotate_left
                 ·
                  rintro w' ⟨s0,s1,s2,s3,s4,s5,s6,s7⟩;go_simp;with_reducible rfl
                 rotate_left
                 ·
                  simp only [Act.put,s0_,s1_,s2_,i64_w,i32_w];rfl
                 refine pure_ (i:=7) (N:=some 108) (v:=?_) (a':=?_) #[y_,y_,y_,y_,y_,y_,y_,y_,n_,n_] rfl rfl (any_of G.1 (by kernel_rfl)) (fun _ _ _ h=>h) (Or.inl ⟨by rfl,?_⟩) ?_ ?_;rotate_left
                 ·
                  intro w';go_simp;with_reducible rfl
                 rotate_left
                 ·
                  simp only [Act.put,s0_,s1_,s2_,i64_w,i32_w];rfl
                 refine pure_ (i:=8) (N:=some 109) (v:=?_) (a':=?_) #[y_,y_,y_,y_,y_,y_,y_,y_,y_,n_] rfl rfl (any_of G.1 (by kernel_rfl)) (fun _ _ _ h=>h) (Or.inl ⟨by rfl,?_⟩) ?_ ?_;rotate_left
                 ·
                  intro w';go_simp;with_reducible rfl
                 rotate_left
                 ·
                  simp only [Act.put,s0_,s1_,s2_,i64_w,i32_w];rfl
                 refine pure_ (i:=9) (N:=some 13) (v:=?_) (a':=?_) #[y_,y_,y_,y_,y_,y_,y_,y_,y_,y_] rfl rfl (any_of G.1 (by kernel_rfl)) (fun _ _ _ h=>h) (Or.inl ⟨by rfl,?_⟩) ?_ ?_;rotate_left
                 ·
                  intro w';go_simp;with_reducible rfl
                 rotate_left
                 ·
                  simp only [Act.put,s0_,s1_,s2_,i64_w,i32_w];rfl
                 refine done_ (done_of G.1 (by kernel_rfl)) ?_;try go_wp2
                 go_roundg k3
                 case measure=>have:=o5.1;have:=o6.1;have:=y3.1;omega
                 case rel=>exact ⟨((((rd_T23 C X).f0) == a8 && (((rd_T23 C X).f1) == b0 && (((rd_T23 C X).f2) == b6 && (((rd_T23 C X).f3) == b7))))),(wrap64 (X + 1)),(by first|rfl|(simp;done)|(simp [*];done)),(by first|rfl|(simp;done)|(simp [*];done)),H',⟨by have:=o5.1;have:=o6.1;have:=y3.1;omega⟩,⟨by (with_reducible repeat (first|apply Kd.R_alloc|apply Kd.R_drewN|apply Kd.R_drew));exact D.1⟩,⟨by exact L.1⟩,⟨by exact O.1⟩,⟨by exact Z.1⟩,⟨by repeat (first|(with_reducible first|exact V.1|apply below_alloc|apply pw_below_drewN|apply below_drew1|refine below_set ?_ f6.1|refine below_set ?_ m4.1|refine below_set ?_ g3.1)|exact V.1)⟩⟩
                ·
                 rw [if_neg c74] at H;exact absurd H (by simp)
               ·
                rw [if_neg c73] at H;exact absurd H (by simp)
             ·
              rw [if_neg c70] at H;have c70b0:decide (X < 24)=false:=decide_eq_false c70;clear c70
              by_cases c76:0 < (C.length:Int)
              ·
               rw [if_pos c76] at H;have c76b0:decide (0 < (C.length:Int))=true:=decide_eq_true c76;have c76b1:decide (0 < C.length)=true:=decide_eq_true (by omega);clear c76;obtain ⟨e2,m5⟩:∃ y_:List (S23),y_=(C.set (0:Int).toNat (⟨0,0,0,0⟩:S23)):=⟨_,rfl⟩
               replace H:((norm_Units.f k3).bind fun a7=>(if f9=0 then (if i5=0 then (if g0=0 then (if j2=true then (if (b9 == 2 && (d1 == 0 && (d3 == 0 && (d6 == 0))))=true then (if (a7.length:Int)=24 then (if 0 < (a7.length:Int) then (some (!(((rd_T23 a7 0).f0) == ((rd_T23 e2 0).f0)) || (!(((rd_T23 a7 0).f1) == ((rd_T23 e2 0).f1)) || (!(((rd_T23 a7 0).f2) == ((rd_T23 e2 0).f2)) || (!(((rd_T23 a7 0).f3) == ((rd_T23 e2 0).f3))))))) else (none)) else (none)) else (none)) else (none)) else (none)) else (none)) else (none)))=some r:=by first|(rw [m5];with_reducible exact H)|(have q1:=(Option.bind_some _ _).symm.trans H;rw [m5];with_reducible exact q1)|(have q1:=(Option.bind_some _ _).symm.trans H;with_reducible exact q1)|with_reducible exact H|(rw [m5];exact H)|exact H
               have y5:=mk0 m5;clear m5;replace H:=Option.bind_eq_some_iff.mp H;obtain ⟨a7,C4,H⟩:=H;(try dsimp only at H);have H9:=mk0 C4;clear C4
               by_cases c79:f9=0
               ·
                rw [if_pos c79] at H;have c79b0:(f9 == 0)=true:=beq_iff_eq.mpr c79;have c79b1:(f9 != 0)=false:=bne_eq_false_iff_eq.mpr c79;clear c79
                by_cases c80:i5=0
                ·
                 rw [if_pos c80] at H;have c80b0:(i5 == 0)=true:=beq_iff_eq.mpr c80;have c80b1:(i5 != 0)=false:=bne_eq_false_iff_eq.mpr c80;clear c80
                 by_cases c81:g0=0
                 ·
                  rw [if_pos c81] at H;have c81b0:(g0 == 0)=true:=beq_iff_eq.mpr c81;have c81b1:(g0 != 0)=false:=bne_eq_false_iff_eq.mpr c81;clear c81
                  by_cases y6:j2=true
                  ·
                   subst y6;have H1:(if (b9 == 2 && (d1 == 0 && (d3 == 0 && (d6 == 0))))=true then (if (a7.length:Int)=24 then (if 0 < (a7.length:Int) then (some (!(((rd_T23 a7 0).f0) == ((rd_T23 e2 0).f0)) || (!(((rd_T23 a7 0).f1) == ((rd_T23 e2 0).f1)) || (!(((rd_T23 a7 0).f2) == ((rd_T23 e2 0).f2)) || (!(((rd_T23 a7 0).f3) == ((rd_T23 e2 0).f3))))))) else (none)) else (none)) else (none))=some r:=by rw [if_pos rfl] at H;exact H
                   clear H;have H:=H1;clear H1
                   by_cases c83:(b9 == 2 && (d1 == 0 && (d3 == 0 && (d6 == 0))))=true
                   ·
                    rw [if_pos c83] at H;have c83b0:(b9 == 2 && (d1 == 0 && (d3 == 0 && (d6 == 0))))=true:=c83;(try (have c83b1:decide (b9=2 && (d1 == 0 && (d3 == 0 && (d6 == 0))))=true:=by simpa using c83));(try (have c83b2:(b9 == 2 && (d1 == 0 && (d3 == 0 && (d6 == 0))))=true:=by simpa using c83));clear c83
                    by_cases c84:(a7.length:Int)=24
                    ·
                     rw [if_pos c84] at H;have c84b0:((a7.length:Int) == 24)=true:=beq_iff_eq.mpr c84;have c84b1:((a7.length:Int) != 24)=false:=bne_eq_false_iff_eq.mpr c84;clear c84
                     by_cases c85:0 < (a7.length:Int)
                     ·
                      rw [if_pos c85] at H;have c85b0:decide (0 < (a7.length:Int))=true:=decide_eq_true c85;have c85b1:decide (0 < a7.length)=true:=decide_eq_true (by omega);clear c85;obtain rfl:=Option.some.inj H;have C5:0 ≤ (0:Int):=(by omega)
                      have C6:(0:Int) < ((C.length:Int):Int):=of_decide_eq_true (by first|(with_reducible assumption)|assumption);have M2:(0 < C.length)=True:=eq_true (by omega);obtain ⟨d4,M3,C7,C8,G0,M4,C9⟩:=Kd.R_form D.1 (by omega);(first|cases C7|(injection C7 with ea_ en_ ec_;(first|subst ea_|(injection ea_ with ea_;subst ea_));subst ec_;clear en_));have u1:=mk0 C8;have M5:=mk0 C9;clear C8 G0 C9;(first|simp only [add_plain] at n3|skip);(first|simp only [add_plain] at n4|skip);(first|simp only [add_plain] at n5|skip);(first|simp only [add_plain] at n6|skip);(first|simp only [add_plain] at n7|skip);(first|simp only [add_plain] at n8|skip);(first|simp only [add_plain] at n9|skip);(first|simp only [add_plain] at o0|skip);(first|simp only [add_plain] at d7|skip);(first|simp only [add_plain] at d8|skip);(first|simp only [add_plain] at d9|skip);(first|simp only [add_plain] at e0|skip);(first|simp only [add_plain] at i7|skip);(first|simp only [add_plain] at i8|skip);(first|simp only [add_plain] at i9|skip);(first|simp only [add_plain] at j1|skip);(first|simp only [add_plain] at o1|skip);(first|simp only [add_plain] at o2|skip);(first|simp only [add_plain] at o3|skip);(first|simp only [add_plain] at o4|skip);obtain ⟨M6,E2,D0,m6,m7⟩:=Kd.R_elem D.1 z23 (0:Int) C5 C6;obtain rfl:=k23_openM D0;have u5:wr.cell? ⟨d4,(0:Int).toNat * 4,none⟩=some (.int .i64 ((rd_T23 C 0).f0)):=m6 0 _ rfl;have u6:wr.cell? ⟨d4,(0:Int).toNat * 4 + 1,none⟩=some (.int .i64 ((rd_T23 C 0).f1)):=m6 1 _ rfl;have u7:wr.cell? ⟨d4,(0:Int).toNat * 4 + 2,none⟩=some (.int .i64 ((rd_T23 C 0).f2)):=m6 2 _ rfl;have u9:wr.cell? ⟨d4,(0:Int).toNat * 4 + 3,none⟩=some (.int .i64 ((rd_T23 C 0).f3)):=m6 3 _ rfl;have v0:wr.frozen? ⟨d4,(0:Int).toNat * 4,none⟩=false:=m7 0;have v1:wr.frozen? ⟨d4,(0:Int).toNat * 4 + 1,none⟩=false:=m7 1;have v2:wr.frozen? ⟨d4,(0:Int).toNat * 4 + 2,none⟩=false:=m7 2;have v3:wr.frozen? ⟨d4,(0:Int).toNat * 4 + 3,none⟩=false:=m7 3;clear E2 m6 m7 D0;(try rw [show ((0:Int)).toNat=0 from rfl] at u5);(try simp only [Nat.reduceMul,Nat.zero_mul,Nat.zero_add,Nat.reduceAdd] at u5);(try rw [show ((0:Int)).toNat=0 from rfl] at v0);(try simp only [Nat.reduceMul,Nat.zero_mul,Nat.zero_add,Nat.reduceAdd] at v0);(try rw [show ((0:Int)).toNat=0 from rfl] at u6);(try simp only [Nat.reduceMul,Nat.zero_mul,Nat.zero_add,Nat.reduceAdd] at u6);(try rw [show ((0:Int)).toNat=0 from rfl] at v1);(try simp only [Nat.reduceMul,Nat.zero_mul,Nat.zero_add,Nat.reduceAdd] at v1);(try rw [show ((0:Int)).toNat=0 from rfl] at u7);(try simp only [Nat.reduceMul,Nat.zero_mul,Nat.zero_add,Nat.reduceAdd] at u7);(try rw [show ((0:Int)).toNat=0 from rfl] at v2);(try simp only [Nat.reduceMul,Nat.zero_mul,Nat.zero_add,Nat.reduceAdd] at v2);(try rw [show ((0:Int)).toNat=0 from rfl] at u9);(try simp only [Nat.reduceMul,Nat.zero_mul,Nat.zero_add,Nat.reduceAdd] at u9);(try rw [show ((0:Int)).toNat=0 from rfl] at v3);(try simp only [Nat.reduceMul,Nat.zero_mul,Nat.zero_add,Nat.reduceAdd] at v3);replace C5:=eq_true C5;replace C6:=eq_true C6;have D1:=mk0 (show Kd.R k23 23 wr w.heap.size (fun k_=>k_ ≠ J∧k_ ≠ Q∧k_ ≠ Y) (.slice (some ⟨d4,0,none⟩) C.length n2) C from D.1);obtain ⟨M7,y7,D2,j3,m8⟩:=Kd.R_elem D1.1 z23 (0:Int) (by omega) (by have h_:(0:Int) < ((C.length:Int):Int):=of_decide_eq_true (by first|(with_reducible assumption)|assumption);first|exact h_|(have e_:=(Kd.R_reads' D.1).1;omega)|simpa using h_)
                      obtain rfl:=k23_openM D2;have x7:=Kd.R_seg D1.1 (0:Int) (by omega) (by have h_:(0:Int) < ((C.length:Int):Int):=of_decide_eq_true (by first|(with_reducible assumption)|assumption);first|exact h_|(have e_:=(Kd.R_reads' D.1).1;omega)|simpa using h_) (seg:=[.int .i64 0,.int .i64 0,.int .i64 0,.int .i64 0]) (j:=0) y7 j3 (show 4 ≤ 4 from by decide) (x':=(⟨0,0,0,0⟩:S23)) (k23_mkM _ _ _ (⟨0,0,0,0⟩:S23) ) (fun _ hk=>hk);have q3:=j3 0 _ rfl;(try simp only [show (k23).sz=4 from rfl,Nat.mul_one,Nat.add_zero] at q3);(try rw [show ((0:Int)).toNat=0 from rfl] at q3);(try simp only [Nat.reduceMul,Nat.zero_mul,Nat.zero_add,Nat.reduceAdd] at q3);have q4:=m8 0;(try simp only [show (k23).sz=4 from rfl,Nat.mul_one,Nat.add_zero] at q4);(try rw [show ((0:Int)).toNat=0 from rfl] at q4);(try simp only [Nat.reduceMul,Nat.zero_mul,Nat.zero_add,Nat.reduceAdd] at q4);have q5:=j3 1 _ rfl;(try simp only [show (k23).sz=4 from rfl,Nat.mul_one,Nat.add_zero] at q5);(try rw [show ((0:Int)).toNat=0 from rfl] at q5);(try simp only [Nat.reduceMul,Nat.zero_mul,Nat.zero_add,Nat.reduceAdd] at q5);have q6:=m8 1;(try simp only [show (k23).sz=4 from rfl,Nat.mul_one,Nat.add_zero] at q6);(try rw [show ((0:Int)).toNat=0 from rfl] at q6);(try simp only [Nat.reduceMul,Nat.zero_mul,Nat.zero_add,Nat.reduceAdd] at q6);have q9:=j3 2 _ rfl;(try simp only [show (k23).sz=4 from rfl,Nat.mul_one,Nat.add_zero] at q9);(try rw [show ((0:Int)).toNat=0 from rfl] at q9);(try simp only [Nat.reduceMul,Nat.zero_mul,Nat.zero_add,Nat.reduceAdd] at q9);have r0:=m8 2;(try simp only [show (k23).sz=4 from rfl,Nat.mul_one,Nat.add_zero] at r0);(try rw [show ((0:Int)).toNat=0 from rfl] at r0);(try simp only [Nat.reduceMul,Nat.zero_mul,Nat.zero_add,Nat.reduceAdd] at r0);have r1:=j3 3 _ rfl;(try simp only [show (k23).sz=4 from rfl,Nat.mul_one,Nat.add_zero] at r1);(try rw [show ((0:Int)).toNat=0 from rfl] at r1);(try simp only [Nat.reduceMul,Nat.zero_mul,Nat.zero_add,Nat.reduceAdd] at r1);have r2:=m8 3;(try simp only [show (k23).sz=4 from rfl,Nat.mul_one,Nat.add_zero] at r2);(try rw [show ((0:Int)).toNat=0 from rfl] at r2);(try simp only [Nat.reduceMul,Nat.zero_mul,Nat.zero_add,Nat.reduceAdd] at r2);clear y7 j3 m8 D2;try go_wp2_with (first|((with_reducible refine gate_store (t:=23) (p:=112) rfl ?_);refine store_event (t:=23) (p:=112) (v:=?vo_w87) (w1:=((((wr.setCell ⟨d4,0,none⟩ (.int .i64 0)).setCell ⟨d4,1,none⟩ (.int .i64 0)).setCell ⟨d4,2,none⟩ (.int .i64 0)).setCell ⟨d4,3,none⟩ (.int .i64 0))) ?hg ?ho ?hn ?hr ?_;(case ho=>rfl);(case hg=>rfl);(case hn=>rfl);(case hr=>first|(go_simp;done)|(go_simp;rfl));intro D3 hw;have hg:wr.grownBy D3 (some d4):=(by rw [hw];exact x7.2);have hp_:Kd.R k23 23 D3 w.heap.size (fun k_=>k_ ≠ J∧k_ ≠ Q∧k_ ≠ Y) (.slice (some ⟨d4,0,none⟩) C.length n2) e2:=(by rw [hw,y5.1];exact x7.1);clear x7;replace L:=mk0 (blk_grown (g:=J) (o:=.cells #[.int .i64 a8,.int .i64 b0,.int .i64 b6,.int .i64 b7] 23 (0,0)) L.1 hg (Kd.R_away D.1 (fun _ hk=>hk.1)));replace O:=mk0 (blk_grown (g:=Q) (o:=.cells #[.int .i64 b8,.int .i64 d0,.int .i64 d2,.int .i64 d5] 23 (0,0)) O.1 hg (Kd.R_away D.1 (fun _ hk=>hk.2.1)));replace Z:=mk0 (blk_grown (g:=Y) (o:=.cells #[.int .i64 b9,.int .i64 d1,.int .i64 d3,.int .i64 d6] 23 (0,0)) Z.1 hg (Kd.R_away D.1 (fun _ hk=>hk.2.2)));replace D:=mk0 (hp_);replace V:=mk0 ((by rw [hw];exact below_set (below_set (below_set (below_set (V.1) u1.1) u1.1) u1.1) u1.1:Below w.heap.size w D3));clear hg hw hp_)|((with_reducible refine gate_callee (f:=46) rfl ?_);refine goesL_ (some 113) rfl rfl Try.func46 (by kernel_rfl) rfl #[] rfl (by (try simp only [m0_,m1_,m2_]);first|done|rfl|(simp only [l0_,l1_];rfl)) ?_;(with_reducible refine (norm_Units.calls k3  a7 _ H9.1).mono ?_);rintro e I0 ⟨M8,rfl,r3,hb⟩;refine ⟨_,rfl,?_⟩;have m9:=mk0 (Kd.R_lower (Kd.R_newB (Kd.R_newB (Kd.R_newB (Kd.R_new' r3 (Kd.R_lt D.1)) (g:=J) (o:=.cells #[.int .i64 a8,.int .i64 b0,.int .i64 b6,.int .i64 b7] 23 (0,0)) L.1) (g:=Q) (o:=.cells #[.int .i64 b8,.int .i64 d0,.int .i64 d2,.int .i64 d5] 23 (0,0)) O.1) (g:=Y) (o:=.cells #[.int .i64 b9,.int .i64 d1,.int .i64 d3,.int .i64 d6] 23 (0,0)) Z.1) (below_size V.1));replace D:=mk0 (Kd.R_elder' D.1 (Kd.R_base r3) hb);replace L:=bkb L hb;replace O:=bkb O hb;replace Z:=bkb Z hb;replace V:=bst V hb;(try clear hb);(try clear hk);(try clear r3)))
                      replace D:=rdr D;replace m9:=rdr m9;replace L:=bdr L;replace O:=bdr O;replace Z:=bdr Z;replace V:=hdr V;obtain ⟨M9,N0,D4⟩:=Kd.R_slice m9.1;(first|subst D4|(injection D4 with f1_ f2_ f3_;have f4_:=f1_.symm;have i4:=f3_.symm;clear f1_ f2_ f3_;subst f4_;subst i4));have x8:0 ≤ (0:Int):=(by omega)
                      have x9:0 < (a7.length:Int):=of_decide_eq_true (by first|(with_reducible assumption)|assumption);obtain ⟨i2,G1,h2,h3,h4,h5⟩:=at_T23 (Kd.R_reads' m9.1).2.2 0 x8 x9;cases G1;have J1:(0 < a7.length)=True:=eq_true (by omega);(try rw [show ((0:Int)).toNat=0 from rfl] at h2);(try rw [show 0 * 4=0 from rfl] at h2);(try rw [Addr.add_zero'] at h2);(try rw [show ((0:Int)).toNat=0 from rfl] at h3);(try rw [show 0 * 4=0 from rfl] at h3);(try rw [Addr.add_zero'] at h3);(try rw [show ((0:Int)).toNat=0 from rfl] at h4);(try rw [show 0 * 4=0 from rfl] at h4);(try rw [Addr.add_zero'] at h4);(try rw [show ((0:Int)).toNat=0 from rfl] at h5);(try rw [show 0 * 4=0 from rfl] at h5);(try rw [Addr.add_zero'] at h5);replace x8:=eq_true x8;replace x9:=eq_true x9;have y0:0 ≤ (0:Int):=(by omega)
                      have y1:0 < (e2.length:Int):=(by have h_:(0:Int) < ((C.length:Int):Int):=of_decide_eq_true (by first|(with_reducible assumption)|assumption);first|(have e_:=(Kd.R_reads' D.1).1;omega)|simpa only [y5.1,List.length_set] using h_)
                      have J2:((0:Int) < ((C.length:Int):Int))=True:=eq_true (of_decide_eq_true (by first|(with_reducible assumption)|assumption));(try have J3:(0 < C.length)=True:=eq_true (by have h_:(0:Int) < ((C.length:Int):Int):=of_decide_eq_true (by first|(with_reducible assumption)|assumption);omega));obtain ⟨E3,G2,e4,e5,e6,e7⟩:=at_T23 (Kd.R_reads' D.1).2.2 0 y0 y1;obtain rfl:(⟨d4,0,none⟩:Addr)=E3:=(by injection G2)
                      (first|simp only [add_plain] at e4|simp only [add_at] at e4|simp only [Addr.add,Nat.zero_add] at e4|skip);(first|simp only [add_plain] at e5|simp only [add_at] at e5|simp only [Addr.add,Nat.zero_add] at e5|skip);(first|simp only [add_plain] at e6|simp only [add_at] at e6|simp only [Addr.add,Nat.zero_add] at e6|skip);(first|simp only [add_plain] at e7|simp only [add_at] at e7|simp only [Addr.add,Nat.zero_add] at e7|skip);have J4:(0 < e2.length)=True:=eq_true (by omega);(try rw [show ((0:Int)).toNat=0 from rfl] at e4);(try rw [show 0 * 4=0 from rfl] at e4);(try rw [Addr.add_zero'] at e4);(try rw [show ((0:Int)).toNat=0 from rfl] at e5);(try rw [show 0 * 4=0 from rfl] at e5);(try rw [Addr.add_zero'] at e5);(try rw [show ((0:Int)).toNat=0 from rfl] at e6);(try rw [show 0 * 4=0 from rfl] at e6);(try rw [Addr.add_zero'] at e6);(try rw [show ((0:Int)).toNat=0 from rfl] at e7);(try rw [show 0 * 4=0 from rfl] at e7);(try rw [Addr.add_zero'] at e7);replace y0:=eq_true y0;replace y1:=eq_true y1;refine start_ (n:=33) (S:=fun w'=>w'.cell? ⟨Y,0,none⟩=some (.int .i64 b9)∧w'.cell? ⟨Y,1,none⟩=some (.int .i64 d1)∧w'.cell? ⟨Y,2,none⟩=some (.int .i64 d3)∧w'.cell? ⟨Y,3,none⟩=some (.int .i64 d6)∧w'.cell? i2=some (.int .i64 ((rd_T23 a7 0).f0))∧w'.cell? ⟨i2.block,i2.off + 1,none⟩=some (.int .i64 ((rd_T23 a7 0).f1))∧w'.cell? ⟨i2.block,i2.off + 2,none⟩=some (.int .i64 ((rd_T23 a7 0).f2))∧w'.cell? ⟨i2.block,i2.off + 3,none⟩=some (.int .i64 ((rd_T23 a7 0).f3))∧w'.cell? ⟨d4,0,none⟩=some (.int .i64 ((rd_T23 e2 0).f0))∧w'.cell? ⟨d4,1,none⟩=some (.int .i64 ((rd_T23 e2 0).f1))∧w'.cell? ⟨d4,2,none⟩=some (.int .i64 ((rd_T23 e2 0).f2))∧w'.cell? ⟨d4,3,none⟩=some (.int .i64 ((rd_T23 e2 0).f3))) (ds:=[]) #[n_,n_,n_,n_,n_,n_,n_,n_,n_,n_,n_,n_,n_,n_,n_,n_,n_,n_,n_,n_,n_,n_,n_,n_,n_,n_,n_,n_,n_,n_,n_,n_,n_] (by kernel_rfl) rfl rfl ⟨q0_ Z,q1_ Z,q2_ Z,q3_ Z,h2,h3,h4,h5,e4,e5,e6,e7⟩ (fun B=>?_);refine with_tabW bellpulllaw04_NormUnits.tab19 bellpulllaw04_NormUnits.bits19 (fun G e1=>?_);generalize I0.drew=O7 at D m9 L O Z V h2 h3 h4 h5 e4 e5 e6 e7 B ⊢;refine pure_ (i:=0) (N:=some 114) (v:=?_) (a':=?_) #[y_,n_,n_,n_,n_,n_,n_,n_,n_,n_,n_,n_,n_,n_,n_,n_,n_,n_,n_,n_,n_,n_,n_,n_,n_,n_,n_,n_,n_,n_,n_,n_,n_] rfl rfl (any_of G.1 (by kernel_rfl)) (fun _ _ _ h=>h) (Or.inl ⟨by rfl,?_⟩) ?_ ?_;rotate_left
                      ·
                       intro w';go_simp;with_reducible rfl
                      rotate_left
                      ·
                       simp only [Act.put,s0_,s1_,s2_,i64_w,i32_w];rfl
                      refine pure_ (i:=1) (N:=some 115) (v:=?_) (a':=?_) #[y_,y_,n_,n_,n_,n_,n_,n_,n_,n_,n_,n_,n_,n_,n_,n_,n_,n_,n_,n_,n_,n_,n_,n_,n_,n_,n_,n_,n_,n_,n_,n_,n_] rfl rfl (any_of G.1 (by kernel_rfl)) (fun _ _ _ h=>h) (Or.inl ⟨by rfl,?_⟩) ?_ ?_;rotate_left
                      ·
                       intro w';go_simp;with_reducible rfl
                      rotate_left
                      ·
                       simp only [Act.put,s0_,s1_,s2_,i64_w,i32_w];rfl
                      refine pure_ (i:=2) (N:=some 116) (v:=?_) (a':=?_) #[y_,y_,y_,n_,n_,n_,n_,n_,n_,n_,n_,n_,n_,n_,n_,n_,n_,n_,n_,n_,n_,n_,n_,n_,n_,n_,n_,n_,n_,n_,n_,n_,n_] rfl rfl (any_of G.1 (by kernel_rfl)) (fun _ _ _ h=>h) (Or.inl ⟨by rfl,?_⟩) ?_ ?_;rotate_left
                      ·
                       intro w';go_simp;with_reducible rfl
                      rotate_left
                      ·
                       simp only [Act.put,s0_,s1_,s2_,i64_w,i32_w];rfl
                      refine pure_ (i:=3) (N:=some 117) (v:=?_) (a':=?_) #[y_,y_,y_,y_,n_,n_,n_,n_,n_,n_,n_,n_,n_,n_,n_,n_,n_,n_,n_,n_,n_,n_,n_,n_,n_,n_,n_,n_,n_,n_,n_,n_,n_] rfl rfl (any_of G.1 (by kernel_rfl)) (fun _ _ _ h=>h) (Or.inl ⟨by rfl,?_⟩) ?_ ?_;rotate_left
                      ·
                       intro w';go_simp;with_reducible rfl
                      rotate_left
                      ·
                       simp only [Act.put,s0_,s1_,s2_,i64_w,i32_w];rfl
                      refine pure_ (i:=4) (N:=some 118) (v:=?_) (a':=?_) #[y_,y_,y_,y_,y_,n_,n_,n_,n_,n_,n_,n_,n_,n_,n_,n_,n_,n_,n_,n_,n_,n_,n_,n_,n_,n_,n_,n_,n_,n_,n_,n_,n_] rfl rfl (any_of G.1 (by kernel_rfl)) (fun _ _ _ h=>h) (Or.inl ⟨by rfl,?_⟩) ?_ ?_;rotate_left
                      ·
                       intro w';go_simp;with_reducible rfl
                      rotate_left
                      ·
                       simp only [Act.put,s0_,s1_,s2_,i64_w,i32_w];rfl
                      refine pure_ (i:=5) (N:=some 119) (v:=?_) (a':=?_) #[y_,y_,y_,y_,y_,y_,n_,n_,n_,n_,n_,n_,n_,n_,n_,n_,n_,n_,n_,n_,n_,n_,n_,n_,n_,n_,n_,n_,n_,n_,n_,n_,n_] rfl rfl (any_of G.1 (by kernel_rfl)) (fun _ _ _ h=>h) (Or.inl ⟨by rfl,?_⟩) ?_ ?_;rotate_left
                      ·
                       intro w';go_simp;with_reducible rfl
                      rotate_left
                      ·
                       simp only [Act.put,s0_,s1_,s2_,i64_w,i32_w];rfl
                      refine pure_ (i:=6) (N:=some 120) (v:=?_) (a':=?_) #[y_,y_,y_,y_,y_,y_,y_,n_,n_,n_,n_,n_,n_,n_,n_,n_,n_,n_,n_,n_,n_,n_,n_,n_,n_,n_,n_,n_,n_,n_,n_,n_,n_] rfl rfl (any_of G.1 (by kernel_rfl)) (fun _ _ _ h=>h) (Or.inl ⟨by rfl,?_⟩) ?_ ?_;rotate_left
                      ·
                       intro w';go_simp;with_reducible rfl
                      rotate_left
                      ·
                       simp only [Act.put,s0_,s1_,s2_,i64_w,i32_w];rfl
                      refine pure_ (i:=7) (N:=some 121) (v:=?_) (a':=?_) #[y_,y_,y_,y_,y_,y_,y_,y_,n_,n_,n_,n_,n_,n_,n_,n_,n_,n_,n_,n_,n_,n_,n_,n_,n_,n_,n_,n_,n_,n_,n_,n_,n_] rfl rfl (any_of G.1 (by kernel_rfl)) (fun _ _ _ h=>h) (Or.inl ⟨by rfl,?_⟩) ?_ ?_;rotate_left
                      ·
                       intro w';go_simp;with_reducible rfl
                      rotate_left
                      ·
                       simp only [Act.put,s0_,s1_,s2_,i64_w,i32_w];rfl
                      refine pure_ (i:=8) (N:=some 122) (v:=?_) (a':=?_) #[y_,y_,y_,y_,y_,y_,y_,y_,y_,n_,n_,n_,n_,n_,n_,n_,n_,n_,n_,n_,n_,n_,n_,n_,n_,n_,n_,n_,n_,n_,n_,n_,n_] rfl rfl (any_of G.1 (by kernel_rfl)) (fun _ _ _ h=>h) (Or.inl ⟨by rfl,?_⟩) ?_ ?_;rotate_left
                      ·
                       intro w';go_simp;with_reducible rfl
                      rotate_left
                      ·
                       simp only [Act.put,s0_,s1_,s2_,i64_w,i32_w];rfl
                      refine pure_ (i:=9) (N:=some 123) (v:=?_) (a':=?_) #[y_,y_,y_,y_,y_,y_,y_,y_,y_,y_,n_,n_,n_,n_,n_,n_,n_,n_,n_,n_,n_,n_,n_,n_,n_,n_,n_,n_,n_,n_,n_,n_,n_] rfl rfl (any_of G.1 (by kernel_rfl)) (fun _ _ _ h=>h) (Or.inl ⟨by rfl,?_⟩) ?_ ?_;rotate_left
                      ·
                       intro w';go_simp;with_reducible rfl
                      rotate_left
                      ·
                       simp only [Act.put,s0_,s1_,s2_,i64_w,i32_w];rfl
                      refine pure_ (i:=10) (N:=some 124) (v:=?_) (a':=?_) #[y_,y_,y_,y_,y_,y_,y_,y_,y_,y_,y_,n_,n_,n_,n_,n_,n_,n_,n_,n_,n_,n_,n_,n_,n_,n_,n_,n_,n_,n_,n_,n_,n_] rfl rfl (any_of G.1 (by kernel_rfl)) (fun _ _ _ h=>h) (Or.inl ⟨by rfl,?_⟩) ?_ ?_;rotate_left
                      ·
                       intro w';go_simp;with_reducible rfl
                      rotate_left
                      ·
                       simp only [Act.put,s0_,s1_,s2_,i64_w,i32_w];rfl
                      refine pure_ (i:=11) (N:=some 125) (v:=?_) (a':=?_) #[y_,y_,y_,y_,y_,y_,y_,y_,y_,y_,y_,y_,n_,n_,n_,n_,n_,n_,n_,n_,n_,n_,n_,n_,n_,n_,n_,n_,n_,n_,n_,n_,n_] rfl rfl (any_of G.1 (by kernel_rfl)) (fun _ _ _ h=>h) (Or.inl ⟨by rfl,?_⟩) ?_ ?_;rotate_left
                      ·
                       intro w';go_simp;with_reducible rfl
                      rotate_left
                      ·
                       simp only [Act.put,s0_,s1_,s2_,i64_w,i32_w];rfl
                      refine pure_ (i:=12) (N:=some 126) (v:=?_) (a':=?_) #[y_,y_,y_,y_,y_,y_,y_,y_,y_,y_,y_,y_,y_,n_,n_,n_,n_,n_,n_,n_,n_,n_,n_,n_,n_,n_,n_,n_,n_,n_,n_,n_,n_] rfl rfl (any_of G.1 (by kernel_rfl)) (fun _ _ _ h=>h) (Or.inl ⟨by rfl,?_⟩) ?_ ?_;rotate_left
                      ·
                       intro w';go_simp;with_reducible rfl
                      rotate_left
                      ·
                       simp only [Act.put,s0_,s1_,s2_,i64_w,i32_w];rfl
                      refine pure_ (i:=13) (N:=some 127) (v:=?_) (a':=?_) #[y_,y_,y_,y_,y_,y_,y_,y_,y_,y_,y_,y_,y_,y_,n_,n_,n_,n_,n_,n_,n_,n_,n_,n_,n_,n_,n_,n_,n_,n_,n_,n_,n_] rfl rfl (any_of G.1 (by kernel_rfl)) (fun _ _ _ h=>h) (Or.inl ⟨by rfl,?_⟩) ?_ ?_;rotate_left
                      ·
                       intro w';go_simp;with_reducible rfl
                      rotate_left
                      ·
                       simp only [Act.put,s0_,s1_,s2_,i64_w,i32_w];rfl
                      refine pure_ (i:=15) (N:=some 129) (v:=?_) (a':=?_) #[y_,y_,y_,y_,y_,y_,y_,y_,y_,y_,y_,y_,y_,y_,n_,y_,n_,n_,n_,n_,n_,n_,n_,n_,n_,n_,n_,n_,n_,n_,n_,n_,n_] rfl rfl (any_of G.1 (by kernel_rfl)) (fun _ _ _ h=>h) (Or.inl ⟨by rfl,?_⟩) ?_ ?_;rotate_left
                      ·
                       intro w';go_simp;with_reducible rfl
                      rotate_left
                      ·
                       simp only [Act.put,s0_,s1_,s2_,i64_w,i32_w];rfl
                      refine take_ (i:=14) (N:=some 128) (v:=?_) (a':=?_) #[y_,y_,y_,y_,y_,y_,y_,y_,y_,y_,y_,y_,y_,y_,y_,y_,n_,n_,n_,n_,n_,n_,n_,n_,n_,n_,n_,n_,n_,n_,n_,n_,n_] rfl rfl (take_ofW G.1 e1.1 (by kernel_rfl)) (fun _ _ _ h=>h) (Or.inl ⟨by rfl,?_⟩) B ?_ ?_;rotate_left
                      ·
                       rintro w' ⟨s0,s1,s2,s3,s4,s5,s6,s7,s8,s9,t2,t3⟩;go_simp;with_reducible rfl
                      rotate_left
                      ·
                       simp only [Act.put,s0_,s1_,s2_,i64_w,i32_w];rfl
                      refine pure_ (i:=16) (N:=some 130) (v:=?_) (a':=?_) #[y_,y_,y_,y_,y_,y_,y_,y_,y_,y_,y_,y_,y_,y_,y_,y_,y_,n_,n_,n_,n_,n_,n_,n_,n_,n_,n_,n_,n_,n_,n_,n_,n_] rfl rfl (any_of G.1 (by kernel_rfl)) (fun _ _ _ h=>h) (Or.inl ⟨by rfl,?_⟩) ?_ ?_;rotate_left
                      ·
                       intro w';go_simp;with_reducible rfl
                      rotate_left
                      ·
                       simp only [Act.put,s0_,s1_,s2_,i64_w,i32_w];rfl
                      refine pure_ (i:=17) (N:=some 131) (v:=?_) (a':=?_) #[y_,y_,y_,y_,y_,y_,y_,y_,y_,y_,y_,y_,y_,y_,y_,y_,y_,y_,n_,n_,n_,n_,n_,n_,n_,n_,n_,n_,n_,n_,n_,n_,n_] rfl rfl (any_of G.1 (by kernel_rfl)) (fun _ _ _ h=>h) (Or.inl ⟨by rfl,?_⟩) ?_ ?_;rotate_left
                      ·
                       intro w';go_simp;with_reducible rfl
                      rotate_left
                      ·
                       simp only [Act.put,s0_,s1_,s2_,i64_w,i32_w];rfl
                      refine pure_ (i:=18) (N:=some 132) (v:=?_) (a':=?_) #[y_,y_,y_,y_,y_,y_,y_,y_,y_,y_,y_,y_,y_,y_,y_,y_,y_,y_,y_,n_,n_,n_,n_,n_,n_,n_,n_,n_,n_,n_,n_,n_,n_] rfl rfl (any_of G.1 (by kernel_rfl)) (fun _ _ _ h=>h) (Or.inl ⟨by rfl,?_⟩) ?_ ?_;rotate_left
                      ·
                       intro w';go_simp;with_reducible rfl
                      rotate_left
                      ·
                       simp only [Act.put,s0_,s1_,s2_,i64_w,i32_w];rfl
                      refine pure_ (i:=19) (N:=some 133) (v:=?_) (a':=?_) #[y_,y_,y_,y_,y_,y_,y_,y_,y_,y_,y_,y_,y_,y_,y_,y_,y_,y_,y_,y_,n_,n_,n_,n_,n_,n_,n_,n_,n_,n_,n_,n_,n_] rfl rfl (any_of G.1 (by kernel_rfl)) (fun _ _ _ h=>h) (Or.inl ⟨by rfl,?_⟩) ?_ ?_;rotate_left
                      ·
                       intro w';go_simp;with_reducible rfl
                      rotate_left
                      ·
                       simp only [Act.put,s0_,s1_,s2_,i64_w,i32_w];rfl
                      refine pure_ (i:=20) (N:=some 134) (v:=?_) (a':=?_) #[y_,y_,y_,y_,y_,y_,y_,y_,y_,y_,y_,y_,y_,y_,y_,y_,y_,y_,y_,y_,y_,n_,n_,n_,n_,n_,n_,n_,n_,n_,n_,n_,n_] rfl rfl (any_of G.1 (by kernel_rfl)) (fun _ _ _ h=>h) (Or.inl ⟨by rfl,?_⟩) ?_ ?_;rotate_left
                      ·
                       intro w';go_simp;with_reducible rfl
                      rotate_left
                      ·
                       simp only [Act.put,s0_,s1_,s2_,i64_w,i32_w];rfl
                      refine pure_ (i:=21) (N:=some 135) (v:=?_) (a':=?_) #[y_,y_,y_,y_,y_,y_,y_,y_,y_,y_,y_,y_,y_,y_,y_,y_,y_,y_,y_,y_,y_,y_,n_,n_,n_,n_,n_,n_,n_,n_,n_,n_,n_] rfl rfl (any_of G.1 (by kernel_rfl)) (fun _ _ _ h=>h) (Or.inl ⟨by rfl,?_⟩) ?_ ?_;rotate_left
                      ·
                       intro w';go_simp;with_reducible rfl
                      rotate_left
                      ·
                       simp only [Act.put,s0_,s1_,s2_,i64_w,i32_w];rfl
                      refine pure_ (i:=22) (N:=some 136) (v:=?_) (a':=?_) #[y_,y_,y_,y_,y_,y_,y_,y_,y_,y_,y_,y_,y_,y_,y_,y_,y_,y_,y_,y_,y_,y_,y_,n_,n_,n_,n_,n_,n_,n_,n_,n_,n_] rfl rfl (any_of G.1 (by kernel_rfl)) (fun _ _ _ h=>h) (Or.inl ⟨by rfl,?_⟩) ?_ ?_;rotate_left
                      ·
                       intro w';go_simp;with_reducible rfl
                      rotate_left
                      ·
                       simp only [Act.put,s0_,s1_,s2_,i64_w,i32_w];rfl
                      refine pure_ (i:=23) (N:=some 137) (v:=?_) (a':=?_) #[y_,y_,y_,y_,y_,y_,y_,y_,y_,y_,y_,y_,y_,y_,y_,y_,y_,y_,y_,y_,y_,y_,y_,y_,n_,n_,n_,n_,n_,n_,n_,n_,n_] rfl rfl (any_of G.1 (by kernel_rfl)) (fun _ _ _ h=>h) (Or.inl ⟨by rfl,?_⟩) ?_ ?_;rotate_left
                      ·
                       intro w';go_simp;with_reducible rfl
                      rotate_left
                      ·
                       simp only [Act.put,s0_,s1_,s2_,i64_w,i32_w];rfl
                      refine pure_ (i:=24) (N:=some 138) (v:=?_) (a':=?_) #[y_,y_,y_,y_,y_,y_,y_,y_,y_,y_,y_,y_,y_,y_,y_,y_,y_,y_,y_,y_,y_,y_,y_,y_,y_,n_,n_,n_,n_,n_,n_,n_,n_] rfl rfl (any_of G.1 (by kernel_rfl)) (fun _ _ _ h=>h) (Or.inl ⟨by rfl,?_⟩) ?_ ?_;rotate_left
                      ·
                       intro w';go_simp;with_reducible rfl
                      rotate_left
                      ·
                       simp only [Act.put,s0_,s1_,s2_,i64_w,i32_w];rfl
                      refine pure_ (i:=25) (N:=some 139) (v:=?_) (a':=?_) #[y_,y_,y_,y_,y_,y_,y_,y_,y_,y_,y_,y_,y_,y_,y_,y_,y_,y_,y_,y_,y_,y_,y_,y_,y_,y_,n_,n_,n_,n_,n_,n_,n_] rfl rfl (any_of G.1 (by kernel_rfl)) (fun _ _ _ h=>h) (Or.inl ⟨by rfl,?_⟩) ?_ ?_;rotate_left
                      ·
                       intro w';go_simp;with_reducible rfl
                      rotate_left
                      ·
                       simp only [Act.put,s0_,s1_,s2_,i64_w,i32_w];rfl
                      refine pure_ (i:=27) (N:=some 141) (v:=?_) (a':=?_) #[y_,y_,y_,y_,y_,y_,y_,y_,y_,y_,y_,y_,y_,y_,y_,y_,y_,y_,y_,y_,y_,y_,y_,y_,y_,y_,n_,y_,n_,n_,n_,n_,n_] rfl rfl (any_of G.1 (by kernel_rfl)) (fun _ _ _ h=>h) (Or.inl ⟨by rfl,?_⟩) ?_ ?_;rotate_left
                      ·
                       intro w';go_simp;with_reducible rfl
                      rotate_left
                      ·
                       simp only [Act.put,s0_,s1_,s2_,i64_w,i32_w];rfl
                      refine pure_ (i:=28) (N:=some 142) (v:=?_) (a':=?_) #[y_,y_,y_,y_,y_,y_,y_,y_,y_,y_,y_,y_,y_,y_,y_,y_,y_,y_,y_,y_,y_,y_,y_,y_,y_,y_,n_,y_,y_,n_,n_,n_,n_] rfl rfl (any_of G.1 (by kernel_rfl)) (fun _ _ _ h=>h) (Or.inl ⟨by rfl,?_⟩) ?_ ?_;rotate_left
                      ·
                       intro w';go_simp;with_reducible rfl
                      rotate_left
                      ·
                       simp only [Act.put,s0_,s1_,s2_,i64_w,i32_w];rfl
                      refine take_ (i:=26) (N:=some 140) (v:=?_) (a':=?_) #[y_,y_,y_,y_,y_,y_,y_,y_,y_,y_,y_,y_,y_,y_,y_,y_,y_,y_,y_,y_,y_,y_,y_,y_,y_,y_,y_,y_,y_,n_,n_,n_,n_] rfl rfl (take_ofW G.1 e1.1 (by kernel_rfl)) (fun _ _ _ h=>h) (Or.inl ⟨by rfl,?_⟩) B ?_ ?_;rotate_left
                      ·
                       rintro w' ⟨s0,s1,s2,s3,s4,s5,s6,s7,s8,s9,t2,t3⟩;go_simp;with_reducible rfl
                      rotate_left
                      ·
                       simp only [Act.put,s0_,s1_,s2_,i64_w,i32_w];rfl
                      refine take_ (i:=29) (N:=some 143) (v:=?_) (a':=?_) #[y_,y_,y_,y_,y_,y_,y_,y_,y_,y_,y_,y_,y_,y_,y_,y_,y_,y_,y_,y_,y_,y_,y_,y_,y_,y_,y_,y_,y_,y_,n_,n_,n_] rfl rfl (take_ofW G.1 e1.1 (by kernel_rfl)) (fun _ _ _ h=>h) (Or.inl ⟨by rfl,?_⟩) B ?_ ?_;rotate_left
                      ·
                       rintro w' ⟨s0,s1,s2,s3,s4,s5,s6,s7,s8,s9,t2,t3⟩;go_simp;with_reducible rfl
                      rotate_left
                      ·
                       simp only [Act.put,s0_,s1_,s2_,i64_w,i32_w];rfl
                      refine pure_ (i:=30) (N:=some 144) (v:=?_) (a':=?_) #[y_,y_,y_,y_,y_,y_,y_,y_,y_,y_,y_,y_,y_,y_,y_,y_,y_,y_,y_,y_,y_,y_,y_,y_,y_,y_,y_,y_,y_,y_,y_,n_,n_] rfl rfl (any_of G.1 (by kernel_rfl)) (fun _ _ _ h=>h) (Or.inl ⟨by rfl,?_⟩) ?_ ?_;rotate_left
                      ·
                       intro w';go_simp;with_reducible rfl
                      rotate_left
                      ·
                       simp only [Act.put,s0_,s1_,s2_,i64_w,i32_w];rfl
                      refine pure_ (i:=31) (N:=some 145) (v:=?_) (a':=?_) #[y_,y_,y_,y_,y_,y_,y_,y_,y_,y_,y_,y_,y_,y_,y_,y_,y_,y_,y_,y_,y_,y_,y_,y_,y_,y_,y_,y_,y_,y_,y_,y_,n_] rfl rfl (any_of G.1 (by kernel_rfl)) (fun _ _ _ h=>h) (Or.inl ⟨by rfl,?_⟩) ?_ ?_;rotate_left
                      ·
                       intro w';go_simp;with_reducible rfl
                      rotate_left
                      ·
                       simp only [Act.put,s0_,s1_,s2_,i64_w,i32_w];rfl
                      refine pure_ (i:=32) (N:=some 4) (v:=?_) (a':=?_) #[y_,y_,y_,y_,y_,y_,y_,y_,y_,y_,y_,y_,y_,y_,y_,y_,y_,y_,y_,y_,y_,y_,y_,y_,y_,y_,y_,y_,y_,y_,y_,y_,y_] rfl rfl (any_of G.1 (by kernel_rfl)) (fun _ _ _ h=>h) (Or.inl ⟨by rfl,?_⟩) ?_ ?_;rotate_left
                      ·
                       intro w';go_simp;with_reducible rfl
                      rotate_left
                      ·
                       simp only [Act.put,s0_,s1_,s2_,i64_w,i32_w];rfl
                      refine done_ (done_of G.1 (by kernel_rfl)) ?_;try go_wp2
                      go_ret;exact ⟨by first|rfl|(simp [errW_none,errW_some] <;> rfl)|(simp only [← g2,← m3];first|rfl|(simp [errW_none,errW_some] <;> rfl))|(simp [*,errW_none,errW_some] <;> rfl),by repeat (first|(with_reducible first|exact V.1|apply below_alloc|apply pw_below_drewN|apply below_drew1|refine below_set ?_ f6.1|refine below_set ?_ m4.1|refine below_set ?_ g3.1)|exact V.1)⟩
                     ·
                      rw [if_neg c85] at H;exact absurd H (by simp)
                    ·
                     rw [if_neg c84] at H;exact absurd H (by simp)
                   ·
                    rw [if_neg c83] at H;exact absurd H (by simp)
                  ·
                   replace y6:=Bool.eq_false_iff.mpr y6;subst y6;have H1:(none)=some r:=by rw [if_neg (show ¬ (false=true) by decide)] at H;exact H
                   clear H;have H:=H1;clear H1;exact absurd H (by simp)
                 ·
                  rw [if_neg c81] at H;exact absurd H (by simp)
                ·
                 rw [if_neg c80] at H;exact absurd H (by simp)
               ·
                rw [if_neg c79] at H;exact absurd H (by simp)
              ·
               rw [if_neg c76] at H;exact absurd H (by simp)
          ·
           rw [if_neg c44] at H;exact absurd H (by simp)
         ·
          rw [if_neg c43] at H;exact absurd H (by simp)
        ·
         rw [if_neg c41] at H;exact absurd H (by simp)
       ·
        rw [if_neg c40] at H;exact absurd H (by simp)
/-- THE ONE PURE STATEMENT of bellpulllaw04_NormUnits: yours. -/
def bellpulllaw04_NormUnits.Pure:Prop:=∀ (a0:Int) (a1:Int),(Lit.int .u8 a0).wf=true → (Lit.int .u8 a1).wf=true → ∃ k,bellpulllaw04_NormUnits.f k a0 a1=some true
theorem bellpulllaw04_NormUnits.walk (P:bellpulllaw04_NormUnits.Pure) (a0:Int) (a1:Int) (w:World) (w0:(Lit.int .u8 a0).wf=true) (w1:(Lit.int .u8 a1).wf=true) :
    Calls Try.prog 16 #[.int .u8 a0,.int .u8 a1] w fun e w'=>e=.returned (.bool true)∧Below w.heap.size w w':=by
  obtain ⟨k,h⟩:=P a0 a1 w0 w1
  refine (bellpulllaw04_NormUnits.calls k a0 a1 true w h).mono ?_
  rintro e w' ⟨rfl,hd⟩
  exact ⟨rfl,hd⟩

end Go.Proofs.Ytgfnmimfoicmmaa.PM
