-- Written by pr2.py, a program of this session's, for this claim (through the kit's print).
import Derived.Test.YtploaicljkennaaPWx0
namespace Go.Proofs.Ytploaicljkennaa.PW
open Go.Proofs.MyWords Go.RowKit Go.Proofs.YtploaicljkennaaW.PrintWords Go.Proofs.YtploaicljkennaaW.PrintLast Go.Proofs.YtploaicljkennaaW.PrintMore
attribute [local go_sem] max2_int min2_int max_two min_two max_three min_three max_four min_four   -- for this text's walks alone
set_option linter.unusedVariables false
set_option linter.unusedSimpArgs false

/-! ### bellpulllaw02_between: function 24 -/
def bellpulllaw02_between.f (a0:Int) (a1:Int) (a2:Int):Option (Int):=if (wrap64 ((wrap64 (a2 - a1)) + 1))=0 then (none) else (some (wrap64 (a1 + (Int.tmod (wrap64 (a0)) (wrap64 ((wrap64 (a2 - a1)) + 1))))))
set_option maxHeartbeats 8000000 in
set_option maxRecDepth 100000 in
theorem bellpulllaw02_between.calls (a0:Int) (a1:Int) (a2:Int) (r:Int) (w:World) (h:bellpulllaw02_between.f a0 a1 a2=some r) :
    Calls Try.prog 24 #[.int .u16 a0,.int .i64 a1,.int .i64 a2] w fun e w'=>e=.returned (.int .i64 r)∧Drawn0 w w':=by
 have H:(if (wrap64 ((wrap64 (a2 - a1)) + 1))=0 then (none) else (some (wrap64 (a1 + (Int.tmod (wrap64 (a0)) (wrap64 ((wrap64 (a2 - a1)) + 1)))))))=some r:=h;clear h
 by_cases c4:(wrap64 ((wrap64 (a2 - a1)) + 1))=0
 ·
  rw [if_pos c4] at H;exact absurd H (by simp)
 ·
  rw [if_neg c4] at H;have c4b0:((wrap64 ((wrap64 (a2 - a1)) + 1)) == 0)=false:=beq_eq_false_iff_ne.mpr c4;have c4b1:((wrap64 ((wrap64 (a2 - a1)) + 1)) != 0)=true:=bne_iff_ne.mpr c4;obtain rfl:=Option.some.inj H;go_enter Try.func24,Try.ntmps24;go_wp2;go_ret;exact ⟨by first|rfl|(simp;done)|(simp [*];done),by repeat (first|exact Drawn0.refl _|apply Drawn0.step)⟩
end Go.Proofs.Ytploaicljkennaa.PW
