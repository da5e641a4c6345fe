-- Written by pr2.py, a program of this session's, for this claim (through the kit's print).
import Derived.Test.YtgfnmimfoicmmaaPMx0
namespace Go.Proofs.Ytgfnmimfoicmmaa.PM
open Go.Proofs.MyWords Go.RowKit Go.Proofs.YtgfnmimfoicmmaaW.PrintWords Go.Proofs.YtgfnmimfoicmmaaW.PrintLast Go.Proofs.YtgfnmimfoicmmaaW.PrintMore
attribute [local go_sem] max2_int min2_int max_two min_two max_three min_three max_four min_four   -- for this text's walks alone
set_option linter.unusedVariables false
set_option linter.unusedSimpArgs false

attribute [local go_sem] idx67_0 idx67_1 idx67_2 idx67_3
attribute [local go_sem] eqGuard_slices eqlnil36 neqnil36
/-! ### bellpullref04_below: function 51 -/
def bellpullref04_below.l0:Nat → Int → Int → Int → Int → Option (Int)
  | 0,_,_,_,_=>none
  | k + 1,x0,x1,x2,x7=>if (wrap64 (x7 * x1)) > x0 then (bellpullref04_below.l0 k x0 x1 x2 (wrap64 (x7 - 1))) else (if (Go.bits .and .i64 x7 1)=x2 then (some x7) else (bellpullref04_below.l0 k x0 x1 x2 (wrap64 (x7 - 1))))
def bellpullref04_below.f (k:Nat) (a0:Int) (a1:Int) (a2:Int):Option (Int):=if a1=0 then (none) else (bellpullref04_below.l0 k a0 a1 a2 (wrap64 (Int.tdiv a0 a1)))
theorem bellpullref04_below.mono_l:∀ k,(∀ y0 y1 y2 y3,LeO (bellpullref04_below.l0 k y0 y1 y2 y3) (bellpullref04_below.l0 (k + 1) y0 y1 y2 y3))
  | 0=>fun _ _ _ _ r h=>by simp [bellpullref04_below.l0] at h
  | k + 1=>by
    have ih0:=bellpullref04_below.mono_l k
    · intro y0 y1 y2 y3
      unfold bellpullref04_below.l0
      with_reducible repeat' first|exact ih0 _ _ _ _|exact LeO.refl _|exact LeO.none _|refine LeO.ite ?_ ?_|refine LeO.bind ?_ (fun _=>?_)
theorem bellpullref04_below.mono:∀ a0 a1 a2 k,LeO (bellpullref04_below.f k a0 a1 a2) (bellpullref04_below.f (k + 1) a0 a1 a2):=by
  intro a0 a1 a2 k
  have ih0:=bellpullref04_below.mono_l k
  unfold bellpullref04_below.f
  with_reducible repeat' first|exact ih0 _ _ _ _|exact LeO.refl _|exact LeO.none _|refine LeO.ite ?_ ?_|refine LeO.bind ?_ (fun _=>?_)
set_option maxHeartbeats 8000000 in
set_option maxRecDepth 100000 in
theorem bellpullref04_below.calls (k:Nat) (D:Int) (C:Int) (E:Int) (r:Int) (w:World) (h:bellpullref04_below.f k D C E=some r) :
    Calls Try.prog 51 #[.int .i64 D,.int .i64 C,.int .i64 E] w fun e w'=>e=.returned (.int .i64 r)∧Drawn0 w w':=by
 have H:(if C=0 then (none) else (bellpullref04_below.l0 k D C E (wrap64 (Int.tdiv D C))))=some r:=h;clear h
 by_cases c4:C=0
 ·
  rw [if_pos c4] at H;exact absurd H (by simp)
 ·
  rw [if_neg c4] at H;have c4b0:(C == 0)=false:=beq_eq_false_iff_ne.mpr c4;have c4b1:(C != 0)=true:=bne_iff_ne.mpr c4;have H':=mk0 H;clear H;go_enter Try.func51,Try.ntmps51;go_wp2
  go_loopg [7] k (fun kq G w'=>∃ (B:Int),G=.int .i64 B∧Aside0 (bellpullref04_below.l0 kq D C E B=some r)∧Aside0 (kq ≤ k)∧Drawn0 w w')
  case atStart=>exact ⟨(wrap64 (Int.tdiv D C)),(by first|rfl|(simp;done)|(simp [*];done)),H',⟨Nat.le_refl _⟩,by repeat (first|exact Drawn0.refl _|apply Drawn0.step)⟩
  case round =>
   clear H';try clear p2
   try clear c4
   try clear c4b0
   try clear c4b1
   obtain ⟨B,rfl,HA,F,⟨I,rfl⟩⟩:=hrel;cases gk with
   | zero=>exact absurd HA.1 (by simp [bellpullref04_below.l0])
   | succ k1 =>
    have H:=HA.1;clear HA;simp only [bellpullref04_below.l0] at H
    by_cases c5:(wrap64 (B * C)) > D
    ·
     rw [if_pos c5] at H;have c5b0:decide (D < (wrap64 (B * C)))=true:=decide_eq_true c5;clear c5;have H':=mk0 H;clear H;go_wp2;go_roundg k1
     case measure=>have:=F.1;omega
     case rel=>exact ⟨(wrap64 (B - 1)),(by first|rfl|(simp;done)|(simp [*];done)),H',⟨by have:=F.1;omega⟩,by repeat (first|exact Drawn0.refl _|apply Drawn0.step)⟩
    ·
     rw [if_neg c5] at H;have c5b0:decide (D < (wrap64 (B * C)))=false:=decide_eq_false c5;clear c5
     by_cases c6:(Go.bits .and .i64 B 1)=E
     ·
      rw [if_pos c6] at H;have c6b0:((Go.bits .and .i64 B 1) == E)=true:=beq_iff_eq.mpr c6;have c6b1:((Go.bits .and .i64 B 1) != E)=false:=bne_eq_false_iff_eq.mpr c6;clear c6;obtain rfl:=Option.some.inj H;go_wp2;go_ret;exact ⟨by first|rfl|(simp;done)|(simp [*];done),by repeat (first|exact Drawn0.refl _|apply Drawn0.step)⟩
     ·
      rw [if_neg c6] at H;have c6b0:((Go.bits .and .i64 B 1) == E)=false:=beq_eq_false_iff_ne.mpr c6;have c6b1:((Go.bits .and .i64 B 1) != E)=true:=bne_iff_ne.mpr c6;have H':=mk0 H;clear H;go_wp2;go_roundg k1
      case measure=>have:=F.1;omega
      case rel=>exact ⟨(wrap64 (B - 1)),(by first|rfl|(simp;done)|(simp [*];done)),H',⟨by have:=F.1;omega⟩,by repeat (first|exact Drawn0.refl _|apply Drawn0.step)⟩
end Go.Proofs.Ytgfnmimfoicmmaa.PM
