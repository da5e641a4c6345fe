-- Written by pr2.py, a program of this session's, for this claim (through the kit's print).
import Derived.Test.YtploaicljkennaaPWx0
import Derived.Test.YtploaicljkennaaPWx3
namespace Go.Proofs.Ytploaicljkennaa.PW
open Go.Proofs.MyWords Go.RowKit Go.Proofs.YtploaicljkennaaW.PrintWords Go.Proofs.YtploaicljkennaaW.PrintLast Go.Proofs.YtploaicljkennaaW.PrintMore
attribute [local go_sem] max2_int min2_int max_two min_two max_three min_three max_four min_four   -- for this text's walks alone
set_option linter.unusedVariables false
set_option linter.unusedSimpArgs false

/-! ### echo_Count: function 39 -/
def echo_Count.f (k:Nat) (a0:Int):Option (Int × Int):=if a0 < 0 then some (0,1) else if a0 > 16 then some (0,1) else (echo_words.f k a0.toNat).bind fun S=>some ((S.length:Int),0)
theorem echo_Count.mono:∀ a0 k,LeO (echo_Count.f k a0) (echo_Count.f (k + 1) a0):=by
  intro a0 k
  unfold echo_Count.f
  exact LeO.ite (LeO.refl _) (LeO.ite (LeO.refl _) (LeO.bind (echo_words.mono_n _ _) (fun _=>LeO.refl _)))
set_option maxHeartbeats 4000000 in
set_option maxRecDepth 100000 in
theorem echo_Count.calls (k:Nat) (a0:Int) (r1 r2:Int) (w:World) (h:echo_Count.f k a0=some (r1,r2)):Calls Try.prog 39 #[.int .i64 a0] w fun e w'=>e=.returned (.tuple #[.int .i64 r1,.int .i64 r2])∧Below w.heap.size w w':=by
  unfold echo_Count.f at h
  by_cases h1:a0 < 0
  · rw [if_pos h1] at h
    have hd1:decide (a0 < 0)=true:=decide_eq_true h1
    obtain ⟨rfl,rfl⟩:=Prod.mk.inj (Option.some.inj h)
    clear h h1
    go_enter Try.func39,Try.ntmps39
    go_wp2
    go_ret2
    exact ⟨rfl,Below.refl _ _⟩
  · rw [if_neg h1] at h
    have hd1:decide (a0 < 0)=false:=decide_eq_false h1
    by_cases h2:a0 > 16
    · rw [if_pos h2] at h
      have hd2:decide (16 < a0)=true:=decide_eq_true h2
      obtain ⟨rfl,rfl⟩:=Prod.mk.inj (Option.some.inj h)
      clear h h1 h2
      go_enter Try.func39,Try.ntmps39
      go_wp2
      go_ret2
      exact ⟨rfl,Below.refl _ _⟩
    · rw [if_neg h2] at h
      have hd2:decide (16 < a0)=false:=decide_eq_false h2
      obtain ⟨S0,hS0,h9⟩:=Option.bind_eq_some_iff.mp h
      obtain ⟨n,rfl⟩:∃ n:Nat,a0=n:=⟨a0.toNat,by omega⟩
      rw [Int.toNat_natCast] at hS0
      have HC:=Aside0.mk (echo_words.calls k n (by omega) w ⟨S0,hS0⟩)
      have HS:=Aside0.mk hS0
      have HR:=Aside0.mk (Prod.mk.inj (Option.some.inj h9))
      clear h h9 h1 h2 hS0
      go_enter Try.func39,Try.ntmps39
      go_wp2_with (first
        | (go_at_call 50;(with_reducible refine HC.out.mono ?_);rintro e w1 ⟨b,S,S1,rfl,hb,hs,hn,hf,hp,hB⟩;have HSS:=Aside0.mk hs;have HP:=Aside0.mk hp;have HF:=Aside0.mk hf;have HB:=Aside0.mk hB;clear hb hs hn hf hp hB)
        | (at_len;refine SetW.len_set _ rfl (.tmp 11) 65 9 4 rfl Try.underlying65 b S rfl HSS.out ?_))
      go_ret2
      refine ⟨?_,HB.out⟩
      have e1:S1=S0:=Option.some.inj (HF.out.symm.trans HS.out)
      have e2:=HP.out.length_eq
      obtain ⟨e3,e4⟩:=HR.out
      rw [← e3,← e4,← e1,← e2]
      rfl

end Go.Proofs.Ytploaicljkennaa.PW
