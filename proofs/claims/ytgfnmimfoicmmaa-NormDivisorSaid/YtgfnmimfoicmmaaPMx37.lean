-- Written by pr2.py, a program of this session's, for this claim (through the kit's print).
import Derived.Test.YtgfnmimfoicmmaaPMx0
import Derived.Test.YtgfnmimfoicmmaaPMx19
import Derived.Test.YtgfnmimfoicmmaaPMx21
import Derived.Test.YtgfnmimfoicmmaaPMx22
import Derived.Test.YtgfnmimfoicmmaaPMx24
import Derived.Test.YtgfnmimfoicmmaaPMx30
import Derived.Test.YtgfnmimfoicmmaaPMx33
import Derived.Test.YtgfnmimfoicmmaaPMx36
namespace Go.Proofs.Ytgfnmimfoicmmaa.PM
open Go.Proofs.MyWords Go.RowKit Go.Proofs.YtgfnmimfoicmmaaW.PrintWords Go.Proofs.YtgfnmimfoicmmaaW.PrintLast Go.Proofs.YtgfnmimfoicmmaaW.PrintMore
attribute [local go_sem] max2_int min2_int max_two min_two max_three min_three max_four min_four   -- for this text's walks alone
set_option linter.unusedVariables false
set_option linter.unusedSimpArgs false

attribute [local go_sem] idx67_0 idx67_1 idx67_2 idx67_3
attribute [local go_sem] eqGuard_slices eqlnil36 neqnil36
/-! ### bellpullref04_Divide: function 20 -/
mutual
def bellpullref04_Divide.l0:Nat → List Int → Int → Int → Bool → Int → Int → Int → Int → Int → Int → Int → Int → Int → Int → Int → Int → Int → Option (Int × Int × Int × Int × Int × Int × Int × Int)
  | 0,_,_,_,_,_,_,_,_,_,_,_,_,_,_,_,_,_=>none
  | k + 1,x6,x7,x9,x10,x11,x816000,x816001,x816002,x816003,x817000,x817001,x817002,x817003,x832000,x832001,x832002,x832003=>if x11 < 2 then (bellpullref04_Divide.l1 k x6 x7 x9 x10 x11 0 x816000 x816001 x816002 x816003 x817000 x817001 x817002 x817003 x832000 x832001 x832002 x832003) else ((bellpullref04_Mul.f x832000 x832001 x832002 x832003 x817000 x817001 x817002 x817003).bind fun bt832=>(some (x832000,x832001,x832002,x832003,wrap64 (x816000 - bt832.1),wrap64 (x816001 - bt832.2.1),wrap64 (x816002 - bt832.2.2.1),wrap64 (x816003 - bt832.2.2.2))))
def bellpullref04_Divide.l1:Nat → List Int → Int → Int → Bool → Int → Int → Int → Int → Int → Int → Int → Int → Int → Int → Int → Int → Int → Int → Option (Int × Int × Int × Int × Int × Int × Int × Int)
  | 0,_,_,_,_,_,_,_,_,_,_,_,_,_,_,_,_,_,_=>none
  | k + 1,x6,x7,x9,x10,x11,x12,x816000,x816001,x816002,x816003,x817000,x817001,x817002,x817003,x832000,x832001,x832002,x832003=>if x12 < 16 then (bellpullref04_Divide.l2 k x6 x7 x9 x10 x11 x12 (([]:List Int)) 0 0 x816000 x816001 x816002 x816003 x817000 x817001 x817002 x817003 x832000 x832001 x832002 x832003) else (bellpullref04_Divide.l0 k x6 x7 x9 x10 (wrap64 (x11 + 1)) x816000 x816001 x816002 x816003 x817000 x817001 x817002 x817003 x832000 x832001 x832002 x832003)
def bellpullref04_Divide.l2:Nat → List Int → Int → Int → Bool → Int → Int → List Int → Int → Int → Int → Int → Int → Int → Int → Int → Int → Int → Int → Int → Int → Int → Option (Int × Int × Int × Int × Int × Int × Int × Int)
  | 0,_,_,_,_,_,_,_,_,_,_,_,_,_,_,_,_,_,_,_,_,_=>none
  | k + 1,x6,x7,x9,x10,x11,x12,x13,x14,x15,x816000,x816001,x816002,x816003,x817000,x817001,x817002,x817003,x832000,x832001,x832002,x832003=>if x15 < 4 then (if 0 ≤ x15 then (if x15 < (x6.length:Int) then ((bellpullref04_below.f k (rd x6 x15) x7 x11).bind fun t841=>(if x13.length < 17592186044416 then (bellpullref04_Divide.l2 k x6 x7 x9 x10 x11 x12 (x13 ++ [wrap64 (t841 + (wrap64 (2 * (Go.bits .and .i64 (shr .i64 x12 x15) 1))))]) (wrap64 (x14 + (wrap64 ((wrap64 ((rd x6 x15) - (wrap64 ((wrap64 (t841 + (wrap64 (2 * (Go.bits .and .i64 (shr .i64 x12 x15) 1))))) * x7)))) * (wrap64 ((rd x6 x15) - (wrap64 ((wrap64 (t841 + (wrap64 (2 * (Go.bits .and .i64 (shr .i64 x12 x15) 1))))) * x7)))))))) (wrap64 (x15 + 1)) x816000 x816001 x816002 x816003 x817000 x817001 x817002 x817003 x832000 x832001 x832002 x832003) else (none))) else (none)) else (none)) else ((bellpullref04_Quat.f x13).bind fun bt847=>(if x10=true then (if x14 < x9 then (bellpullref04_Divide.l1 k x6 x7 x14 true x11 (wrap64 (x12 + 1)) x816000 x816001 x816002 x816003 x817000 x817001 x817002 x817003 bt847.1 bt847.2.1 bt847.2.2.1 bt847.2.2.2) else (if x14=x9 then ((bellpullref04_Less.f k bt847.1 bt847.2.1 bt847.2.2.1 bt847.2.2.2 x832000 x832001 x832002 x832003).bind fun t852=>(if t852=true then (bellpullref04_Divide.l1 k x6 x7 x14 true x11 (wrap64 (x12 + 1)) x816000 x816001 x816002 x816003 x817000 x817001 x817002 x817003 bt847.1 bt847.2.1 bt847.2.2.1 bt847.2.2.2) else (bellpullref04_Divide.l1 k x6 x7 x9 x10 x11 (wrap64 (x12 + 1)) x816000 x816001 x816002 x816003 x817000 x817001 x817002 x817003 x832000 x832001 x832002 x832003))) else (bellpullref04_Divide.l1 k x6 x7 x9 x10 x11 (wrap64 (x12 + 1)) x816000 x816001 x816002 x816003 x817000 x817001 x817002 x817003 x832000 x832001 x832002 x832003))) else (bellpullref04_Divide.l1 k x6 x7 x14 true x11 (wrap64 (x12 + 1)) x816000 x816001 x816002 x816003 x817000 x817001 x817002 x817003 bt847.1 bt847.2.1 bt847.2.2.1 bt847.2.2.2)))
end
def bellpullref04_Divide.f (k:Nat) (a0_0:Int) (a0_1:Int) (a0_2:Int) (a0_3:Int) (a1_0:Int) (a1_1:Int) (a1_2:Int) (a1_3:Int):Option (Int × Int × Int × Int × Int × Int × Int × Int):=(bellpullref04_Conj.f a1_0 a1_1 a1_2 a1_3).bind fun bt819=>((bellpullref04_Mul.f a0_0 a0_1 a0_2 a0_3 bt819.1 bt819.2.1 bt819.2.2.1 bt819.2.2.2).bind fun bt823=>((bellpullref04_Parts.f bt823.1 bt823.2.1 bt823.2.2.1 bt823.2.2.2).bind fun t827=>((bellpullref04_Norm.f a1_0 a1_1 a1_2 a1_3).bind fun t830=>(bellpullref04_Divide.l0 k t827 t830 0 false 0 a0_0 a0_1 a0_2 a0_3 a1_0 a1_1 a1_2 a1_3 0 0 0 0))))
theorem bellpullref04_Divide.mono_l:∀ k,(∀ J L M N O Q R T U V B C D E F G I,LeO (bellpullref04_Divide.l0 k J L M N O Q R T U V B C D E F G I) (bellpullref04_Divide.l0 (k + 1) J L M N O Q R T U V B C D E F G I))∧(∀ J L M N O Q R T U V B C D E F G I X,LeO (bellpullref04_Divide.l1 k J L M N O Q R T U V B C D E F G I X) (bellpullref04_Divide.l1 (k + 1) J L M N O Q R T U V B C D E F G I X))∧(∀ J L M N O Q R T U V B C D E F G I X Y Z a0,LeO (bellpullref04_Divide.l2 k J L M N O Q R T U V B C D E F G I X Y Z a0) (bellpullref04_Divide.l2 (k + 1) J L M N O Q R T U V B C D E F G I X Y Z a0))
  | 0=>⟨fun _ _ _ _ _ _ _ _ _ _ _ _ _ _ _ _ _ r h=>by simp [bellpullref04_Divide.l0] at h,fun _ _ _ _ _ _ _ _ _ _ _ _ _ _ _ _ _ _ r h=>by simp [bellpullref04_Divide.l1] at h,fun _ _ _ _ _ _ _ _ _ _ _ _ _ _ _ _ _ _ _ _ _ r h=>by simp [bellpullref04_Divide.l2] at h⟩
  | k + 1=>by
    obtain ⟨a1,a2,a3⟩:=bellpullref04_Divide.mono_l k
    refine ⟨?_,?_,?_⟩
    · intro J L M N O Q R T U V B C D E F G I
      unfold bellpullref04_Divide.l0
      with_reducible repeat' first|exact a1 _ _ _ _ _ _ _ _ _ _ _ _ _ _ _ _ _|exact a2 _ _ _ _ _ _ _ _ _ _ _ _ _ _ _ _ _ _|exact a3 _ _ _ _ _ _ _ _ _ _ _ _ _ _ _ _ _ _ _ _ _|exact bellpullref04_Less.mono _ _ _ _ _ _ _ _ _|exact bellpullref04_below.mono _ _ _ _|exact LeO.refl _|exact LeO.none _|refine LeO.ite ?_ ?_|refine LeO.bind ?_ (fun _=>?_)
    · intro J L M N O Q R T U V B C D E F G I X
      unfold bellpullref04_Divide.l1
      with_reducible repeat' first|exact a1 _ _ _ _ _ _ _ _ _ _ _ _ _ _ _ _ _|exact a2 _ _ _ _ _ _ _ _ _ _ _ _ _ _ _ _ _ _|exact a3 _ _ _ _ _ _ _ _ _ _ _ _ _ _ _ _ _ _ _ _ _|exact bellpullref04_Less.mono _ _ _ _ _ _ _ _ _|exact bellpullref04_below.mono _ _ _ _|exact LeO.refl _|exact LeO.none _|refine LeO.ite ?_ ?_|refine LeO.bind ?_ (fun _=>?_)
    · intro J L M N O Q R T U V B C D E F G I X Y Z a0
      unfold bellpullref04_Divide.l2
      with_reducible repeat' first|exact a1 _ _ _ _ _ _ _ _ _ _ _ _ _ _ _ _ _|exact a2 _ _ _ _ _ _ _ _ _ _ _ _ _ _ _ _ _ _|exact a3 _ _ _ _ _ _ _ _ _ _ _ _ _ _ _ _ _ _ _ _ _|exact bellpullref04_Less.mono _ _ _ _ _ _ _ _ _|exact bellpullref04_below.mono _ _ _ _|exact LeO.refl _|exact LeO.none _|refine LeO.ite ?_ ?_|refine LeO.bind ?_ (fun _=>?_)
theorem bellpullref04_Divide.mono:∀ a0 a1 a2 a3 a4 a5 a6 a7 k,LeO (bellpullref04_Divide.f k a0 a1 a2 a3 a4 a5 a6 a7) (bellpullref04_Divide.f (k + 1) a0 a1 a2 a3 a4 a5 a6 a7):=by
  intro a0 a1 a2 a3 a4 a5 a6 a7 k
  obtain ⟨ih0,ih1,ih2⟩:=bellpullref04_Divide.mono_l k
  unfold bellpullref04_Divide.f
  with_reducible repeat' first|exact ih0 _ _ _ _ _ _ _ _ _ _ _ _ _ _ _ _ _|exact ih1 _ _ _ _ _ _ _ _ _ _ _ _ _ _ _ _ _ _|exact ih2 _ _ _ _ _ _ _ _ _ _ _ _ _ _ _ _ _ _ _ _ _|exact bellpullref04_Less.mono _ _ _ _ _ _ _ _ _|exact bellpullref04_below.mono _ _ _ _|exact LeO.refl _|exact LeO.none _|refine LeO.ite ?_ ?_|refine LeO.bind ?_ (fun _=>?_)
end Go.Proofs.Ytgfnmimfoicmmaa.PM
