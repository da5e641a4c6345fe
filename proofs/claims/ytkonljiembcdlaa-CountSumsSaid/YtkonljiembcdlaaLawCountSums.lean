/- CountSums: for every input the statement's function returns true, and it never panics. There is no further condition. -/
import Derived.Test.YtkonljiembcdlaaRows
import Derived.WalkKit
import Derived.ProofKit
import Derived.OpenShut
import Derived.ShutString
import Derived.ChangeOld
import Derived.Below
import Derived.SizedLaws
import Derived.Test.YtkonljiembcdlaaWSized
import Derived.Test.YtkonljiembcdlaaZ0
import Derived.Test.YtkonljiembcdlaaZ1
-- Written by mklawc.py, a program of this session's, for this claim, after the rows that the kit prints.
namespace Go.Proofs.Ytkonljiembcdlaa.countSums
open Go.ChangeShapes Go.WideShapes Go.ChangeAt Go.RowKit
open Go.ChangeMaps (open_string shut_string)
open Go.Proofs.Ytkonljiembcdlaa.RowT
open Go.Proofs.YtkonljiembcdlaaW.PrintWords
set_option linter.unusedVariables false
theorem own:ownKnob Try.prog.godebug=none:=by kernel_rfl
theorem laidOut:laidOutB Try.prog=true:=by kernel_rfl
set_option maxRecDepth 100000 in
theorem lifted (os:Os) (started:os.Started) (H:Type) (enc:TypeId × Value → H) :
    ReturnsInHanded {} Try.checked os 12 .any (Rows.countSumsSpec.pre6 enc Try.prog Try.f12 Rows.countSumsRow.domain false) (Rows.countSumsSpec.post enc Try.prog Try.f12 false true false false):=by
  refine returnsInHanded_of_change_sized (C:=Try.checked) own started (by kernel_rfl) Try.func12
    (ChangeSpec.witness6 (enc:=enc) (C:=Try.checked) false ⟨#[],#[.agg #[.int .i64 0,.int .i64 0,.slice none 0 0,.slice none 0 0,.slice none 0 0]],[]⟩ 8 (by kernel_rfl) (by kernel_rfl) (by kernel_rfl) (by kernel_rfl)) ?_
  intro W base args ds gs before hval0 hW hcnd hsz0 _
  have hsz:(DataW.weightsEach Try.prog (Try.f12.params.toList ++ Rows.countSumsSpec.plain.varTypes Try.prog) (ds ++ gs)).all (· ≤ reachBytes)=true:=hsz0
  have hval:∀ (j:Nat) t v,Try.f12.params[j]?=some t → args[j]?=some v → Value.okWide Try.prog W .any base t v:=hval0
  have hW':=hW
  obtain ⟨p,q,hA0,hV,rfl,hfz,hnd⟩:=hW
  have hA:DataW.TrodAll enc Try.prog W 0 (fun _=>true) true Try.f12.params.toList args.toList ds p:=hA0
  rw [Try.params12] at hA hval hsz
  obtain ⟨v0,vs0,d0,ds0,p0,q0,hargs,rfl,rfl,h0,r0⟩:=trodAll_cons hA
  obtain ⟨rfl,rfl,rfl⟩:=trodAll_nil r0
  obtain rfl:args=#[v0]:=by cases args;simp_all
  obtain ⟨rfl,rfl⟩:=trodVars_none hV
  have k0:=h0
  have lt0:∀ x ∈ p0,x.block < W.heap.size:=by obtain ⟨m,hm⟩:=k0;exact DataW.trod_lt m _ _ _ hm
  obtain ⟨a0_0,a0_1,A0a,c0a,l0_2,A0b,c0b,l0_3,A0c,c0c,l0_4,rfl,w0a,w0b,g0a,n0a,g0b,n0b,g0c,n0c⟩:=open_query (hval 0 25 v0 rfl rfl) h0
  clear hA0 hval0 hsz0 hsz
  obtain ⟨k,hk⟩:=Pure.CountSums a0_0 a0_1 l0_2 l0_3 l0_4 w0a w0b
  refine (PC.bellpulllaw05_CountSums.calls k a0_0 a0_1 _ _ l0_2 _ _ l0_3 _ _ l0_4 true W g0a n0a g0b n0b g0c n0c hk).mono fun e W' ⟨he,bel⟩=>?_
  subst he
  exact ⟨_,rfl,_,_,_,[],_,[],hW',trodAll_mk1 (shut_bool Try.underlying4 _),(trodAll_cons_mk (Below.trod laidOut (by kernel_rfl) (of_decide_eq_true (by kernel_rfl)) k0 bel lt0) trodAll_mk0),rfl,bel.frame _,fun h=>by cases h⟩
theorem over:Rows.countSumsRow.holds Try.pinned (OpenSpec.ofChange Rows.countSumsSpec) :=
  OpenClaim.holds_of_wide 12 Try.f12 rfl rfl rfl rfl rfl rfl rfl ⟨rfl,rfl,rfl,rfl,rfl⟩ rfl rfl rfl rfl rfl (by kernel_rfl) Try.func12 (by kernel_rfl)
    (of_decide_eq_true (by kernel_rfl)) (by unfold Func.isWrapper;first|(rw [if_pos (by decide +kernel)];kernel_rfl)|(rw [if_neg (by decide +kernel)];exact ⟨rfl,rfl⟩))
    (fun os started H enc _=>lifted os started H enc)
theorem proved:Rows.CountSumsSaid:=over
#print axioms proved
end Go.Proofs.Ytkonljiembcdlaa.countSums
namespace Go.Proofs.Ytkonljiembcdlaa
theorem countSums_holds:Rows.CountSumsSaid:=countSums.proved
end Go.Proofs.Ytkonljiembcdlaa
