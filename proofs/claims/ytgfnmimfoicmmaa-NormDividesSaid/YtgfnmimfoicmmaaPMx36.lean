import Derived.Test.YtgfnmimfoicmmaaPMx0
namespace Go.Proofs.Ytgfnmimfoicmmaa.PM
open Go.Proofs.MyWords Go.RowKit Go.Proofs.YtgfnmimfoicmmaaW.PrintWords Go.Proofs.YtgfnmimfoicmmaaW.PrintLast Go.Proofs.YtgfnmimfoicmmaaW.PrintMore
set_option linter.unusedVariables false
set_option linter.unusedSimpArgs false
attribute [local go_sem] idx67_0 idx67_1 idx67_2 idx67_3
attribute [local go_sem] eqGuard_slices eqlnil36 neqnil36
/-! ### bellpullref04_below: function 51 -/
def bellpullref04_below.l0:Nat → Int → Int → Int → Int → Option (Int)
  | 0,_,_,_,_=>none
  | k + 1,x0,x1,x2,x7=>if (wrap64 (x7 * x1)) > x0 then (bellpullref04_below.l0 k x0 x1 x2 (wrap64 (x7 - 1))) else (if (Go.bits .and .i64 x7 1)=x2 then (some x7) else (bellpullref04_below.l0 k x0 x1 x2 (wrap64 (x7 - 1))))
def bellpullref04_below.f (k:Nat) (a0:Int) (a1:Int) (a2:Int):Option (Int):=if a1=0 then (none) else (bellpullref04_below.l0 k a0 a1 a2 (wrap64 (Int.tdiv a0 a1)))
theorem bellpullref04_below.mono_l:∀ k,(∀ y0 y1 y2 y3,LeO (bellpullref04_below.l0 k y0 y1 y2 y3) (bellpullref04_below.l0 (k + 1) y0 y1 y2 y3))
  | 0=>fun _ _ _ _ r h=>by simp [bellpullref04_below.l0] at h
  | k + 1=>by
    have ih0:=bellpullref04_below.mono_l k
    · intro y0 y1 y2 y3
      unfold bellpullref04_below.l0
      with_reducible repeat' first|exact ih0 _ _ _ _|exact LeO.refl _|exact LeO.none _|refine LeO.ite ?_ ?_|refine LeO.bind ?_ (fun _=>?_)
theorem bellpullref04_below.mono:∀ a0 a1 a2 k,LeO (bellpullref04_below.f k a0 a1 a2) (bellpullref04_below.f (k + 1) a0 a1 a2):=by
  intro a0 a1 a2 k
  have ih0:=bellpullref04_below.mono_l k
  unfold bellpullref04_below.f
  with_reducible repeat' first|exact ih0 _ _ _ _|exact LeO.refl _|exact LeO.none _|refine LeO.ite ?_ ?_|refine LeO.bind ?_ (fun _=>?_)
set_option maxHeartbeats 8000000 in
set_option maxRecDepth 100000 in
theorem bellpullref04_below.calls (k:Nat) (a0:Int) (a1:Int) (a2:Int) (r:Int) (w:World) (h:bellpullref04_below.f k a0 a1 a2=some r) :
    Calls Try.prog 51 #[.int .i64 a0,.int .i64 a1,.int .i64 a2] w fun e w'=>e=.returned (.int .i64 r)∧Drawn0 w w':=by
 have H:(if a1=0 then (none) else (bellpullref04_below.l0 k a0 a1 a2 (wrap64 (Int.tdiv a0 a1))))=some r:=h;clear h
 by_cases c4:a1=0
 ·
  rw [if_pos c4] at H;exact absurd H (by simp)
 ·
  rw [if_neg c4] at H;have c4b0:(a1 == 0)=false:=beq_eq_false_iff_ne.mpr c4;have c4b1:(a1 != 0)=true:=bne_iff_ne.mpr c4;have H':=mk0 H;clear H;go_enter Try.func51,Try.ntmps51;go_wp2
  go_loopg [7] k (fun kq v7 w'=>∃ (x7_1:Int),v7=.int .i64 x7_1∧Aside0 (bellpullref04_below.l0 kq a0 a1 a2 x7_1=some r)∧Aside0 (kq ≤ k)∧Drawn0 w w')
  case atStart=>exact ⟨(wrap64 (Int.tdiv a0 a1)),(by first|rfl|(simp;done)|(simp [*];done)),H',⟨Nat.le_refl _⟩,by repeat (first|exact Drawn0.refl _|apply Drawn0.step)⟩
  case round =>
   clear H';try clear p2
   try clear c4
   try clear c4b0
   try clear c4b1
   obtain ⟨x7_1,rfl,HA,HK1,⟨m1,rfl⟩⟩:=hrel;cases gk with
   | zero=>exact absurd HA.out (by simp [bellpullref04_below.l0])
   | succ k1 =>
    have H:=HA.out;clear HA;simp only [bellpullref04_below.l0] at H
    by_cases c5:(wrap64 (x7_1 * a1)) > a0
    ·
     rw [if_pos c5] at H;have c5b0:decide (a0 < (wrap64 (x7_1 * a1)))=true:=decide_eq_true c5;clear c5;have H':=mk0 H;clear H;go_wp2;go_roundg k1
     case measure=>have:=HK1.out;omega
     case rel=>exact ⟨(wrap64 (x7_1 - 1)),(by first|rfl|(simp;done)|(simp [*];done)),H',⟨by have:=HK1.out;omega⟩,by repeat (first|exact Drawn0.refl _|apply Drawn0.step)⟩
    ·
     rw [if_neg c5] at H;have c5b0:decide (a0 < (wrap64 (x7_1 * a1)))=false:=decide_eq_false c5;clear c5
     by_cases c6:(Go.bits .and .i64 x7_1 1)=a2
     ·
      rw [if_pos c6] at H;have c6b0:((Go.bits .and .i64 x7_1 1) == a2)=true:=beq_iff_eq.mpr c6;have c6b1:((Go.bits .and .i64 x7_1 1) != a2)=false:=bne_eq_false_iff_eq.mpr c6;clear c6;obtain rfl:=Option.some.inj H;go_wp2;go_ret;exact ⟨by first|rfl|(simp;done)|(simp [*];done),by repeat (first|exact Drawn0.refl _|apply Drawn0.step)⟩
     ·
      rw [if_neg c6] at H;have c6b0:((Go.bits .and .i64 x7_1 1) == a2)=false:=beq_eq_false_iff_ne.mpr c6;have c6b1:((Go.bits .and .i64 x7_1 1) != a2)=true:=bne_iff_ne.mpr c6;have H':=mk0 H;clear H;go_wp2;go_roundg k1
      case measure=>have:=HK1.out;omega
      case rel=>exact ⟨(wrap64 (x7_1 - 1)),(by first|rfl|(simp;done)|(simp [*];done)),H',⟨by have:=HK1.out;omega⟩,by repeat (first|exact Drawn0.refl _|apply Drawn0.step)⟩
end Go.Proofs.Ytgfnmimfoicmmaa.PM
