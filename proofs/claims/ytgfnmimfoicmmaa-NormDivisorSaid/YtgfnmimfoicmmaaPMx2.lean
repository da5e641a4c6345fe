-- Written by pr2.py, a program of this session's, for this claim (through the kit's print).
import Derived.Test.YtgfnmimfoicmmaaPMx0
namespace Go.Proofs.Ytgfnmimfoicmmaa.PM
open Go.Proofs.MyWords Go.RowKit Go.Proofs.YtgfnmimfoicmmaaW.PrintWords Go.Proofs.YtgfnmimfoicmmaaW.PrintLast Go.Proofs.YtgfnmimfoicmmaaW.PrintMore
attribute [local go_sem] max2_int min2_int max_two min_two max_three min_three max_four min_four   -- for this text's walks alone
set_option linter.unusedVariables false
set_option linter.unusedSimpArgs false

attribute [local go_sem] idx67_0 idx67_1 idx67_2 idx67_3
attribute [local go_sem] eqGuard_slices eqlnil36 neqnil36
theorem eqA67 (d:Nat) (w:World) (x0 x1 x2 x3 y0 y1 y2 B:Int) :
    (Op.equalIn (d + 2) 67 (.agg #[.int .i64 x0,.int .i64 x1,.int .i64 x2,.int .i64 x3]) (.agg #[.int .i64 y0,.int .i64 y1,.int .i64 y2,.int .i64 B])).run Try.prog w=.ok (x0 == y0 && (x1 == y1 && (x2 == y2 && (x3 == B)))) w:=by
  obtain ⟨i,hi⟩:∃ i,Try.prog.info? 3=some i:=by
    have h:(Try.prog.info? 3).map (fun i=>(i.zero,i.size,i.bytes))=some (some (.int .i64 0),1,8):=by kernel_rfl
    cases hq:Try.prog.info? 3 with
    | none=>rw [hq] at h;exact absurd h (by simp)
    | some i=>exact ⟨i,rfl⟩
  have hc:Try.prog.cellsOf 3=1:=by kernel_rfl
  have hp:Try.prog.plainKey 3=true:=by kernel_rfl
  have C:Try.prog.underlying 3=some (.int .i64):=by kernel_rfl
  have he:∀ (d:Nat) (a b:Int),(Op.equalIn (d + 1) 3 (.int .i64 a) (.int .i64 b)).run Try.prog w=.ok (a == b) w:=fun d a b=>run_equalIn_int w d 3 .i64 .i64 a b C
  rw [run_equalIn_array w (d + 1) _ _ Try.underlying67 hi,hc]
  simp only [List.range,List.range.loop,Op.eqItems,Sem.run_bind,Nat.mul_one]
  rw [run_part_plain w hp (v:=.int .i64 x0) rfl,Result.andThen_ok,run_part_plain w hp (v:=.int .i64 y0) rfl,Result.andThen_ok,he,Result.andThen_ok]
  cases x0 == y0
  · simp
  simp only [Bool.not_true,Bool.false_eq_true,if_false,Sem.run_bind,Bool.true_and]
  rw [run_part_plain w hp (v:=.int .i64 x1) rfl,Result.andThen_ok,run_part_plain w hp (v:=.int .i64 y1) rfl,Result.andThen_ok,he,Result.andThen_ok]
  cases x1 == y1
  · simp
  simp only [Bool.not_true,Bool.false_eq_true,if_false,Sem.run_bind,Bool.true_and]
  rw [run_part_plain w hp (v:=.int .i64 x2) rfl,Result.andThen_ok,run_part_plain w hp (v:=.int .i64 y2) rfl,Result.andThen_ok,he,Result.andThen_ok]
  cases x2 == y2
  · simp
  simp only [Bool.not_true,Bool.false_eq_true,if_false,Sem.run_bind,Bool.true_and]
  rw [run_part_plain w hp (v:=.int .i64 x3) rfl,Result.andThen_ok,run_part_plain w hp (v:=.int .i64 B) rfl,Result.andThen_ok,he,Result.andThen_ok]
  cases x3 == B <;> simp
end Go.Proofs.Ytgfnmimfoicmmaa.PM
