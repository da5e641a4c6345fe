/- CountOrder: for every input the statement's function returns true, and it never panics. There is no further condition. -/
import Derived.Test.YtkonljiembcdlaaRows
import Derived.WalkKit
import Derived.ProofKit
import Derived.OpenShut
import Derived.ShutString
import Derived.ChangeOld
import Derived.Below
import Derived.SizedLaws
import Derived.Test.YtkonljiembcdlaaWSized
import Derived.Test.YtkonljiembcdlaaZ0
-- Written by mklawc.py, a program of this session's, for this claim, after the rows that the kit prints.
namespace Go.Proofs.Ytkonljiembcdlaa.countOrder
open Go.ChangeShapes Go.WideShapes Go.ChangeAt Go.RowKit
open Go.ChangeMaps (open_string shut_string)
open Go.Proofs.Ytkonljiembcdlaa.RowT
open Go.Proofs.YtkonljiembcdlaaW.PrintWords
set_option linter.unusedVariables false
theorem own:ownKnob Try.prog.godebug=none:=by kernel_rfl
theorem laidOut:laidOutB Try.prog=true:=by kernel_rfl
set_option maxRecDepth 100000 in
theorem lifted (os:Os) (started:os.Started) (H:Type) (enc:TypeId × Value → H) :
    ReturnsInHanded {} Try.checked os 8 .any (Rows.countOrderSpec.pre6 enc Try.prog Try.f8 Rows.countOrderRow.domain false) (Rows.countOrderSpec.post enc Try.prog Try.f8 false true false false):=by
  refine returnsInHanded_of_change_sized (C:=Try.checked) own started (by kernel_rfl) Try.func8
    (ChangeSpec.witness6 (enc:=enc) (C:=Try.checked) false ⟨#[],#[.agg #[.int .u8 0,.slice none 0 0,.slice none 0 0],.int .u8 0,.agg #[.int .u8 0,.int .u8 0,.int .u8 0]],[]⟩ 8 (by kernel_rfl) (by kernel_rfl) (by kernel_rfl) (by kernel_rfl)) ?_
  intro W base args ds gs before hval0 hW hcnd hsz0 _
  have hsz:(DataW.weightsEach Try.prog (Try.f8.params.toList ++ Rows.countOrderSpec.plain.varTypes Try.prog) (ds ++ gs)).all (· ≤ reachBytes)=true:=hsz0
  have hval:∀ (j:Nat) t v,Try.f8.params[j]?=some t → args[j]?=some v → Value.okWide Try.prog W .any base t v:=hval0
  have hW':=hW
  obtain ⟨p,q,hA0,hV,rfl,hfz,hnd⟩:=hW
  have hA:DataW.TrodAll enc Try.prog W 0 (fun _=>true) true Try.f8.params.toList args.toList ds p:=hA0
  rw [Try.params8] at hA hval hsz
  obtain ⟨v0,vs0,d0,ds0,p0,q0,hargs,rfl,rfl,h0,r0⟩:=trodAll_cons hA
  obtain ⟨v1,vs1,d1,ds1,p1,q1,rfl,rfl,rfl,h1,r1⟩:=trodAll_cons r0
  obtain ⟨v2,vs2,d2,ds2,p2,q2,rfl,rfl,rfl,h2,r2⟩:=trodAll_cons r1
  obtain ⟨rfl,rfl,rfl⟩:=trodAll_nil r2
  obtain rfl:args=#[v0,v1,v2]:=by cases args;simp_all
  obtain ⟨rfl,rfl⟩:=trodVars_none hV
  have k0:=h0
  have lt0:∀ x ∈ p0,x.block < W.heap.size:=by obtain ⟨m,hm⟩:=k0;exact DataW.trod_lt m _ _ _ hm
  obtain ⟨a0_0,A0a,c0a,l0_1,A0b,c0b,l0_2,rfl,w0,g0a,n0a,g0b,n0b,m0a,m0b,s0a,s0b⟩:=open_plan (hval 0 55 v0 rfl rfl) h0 hsz
  obtain ⟨a1,rfl,rfl,rfl,w1⟩:=open_int Try.underlying5 (hval 1 5 v1 rfl rfl) h1
  obtain ⟨a2_0,a2_1,a2_2,rfl,rfl,rfl,w2⟩:=open_three (hval 2 51 v2 rfl rfl) h2
  clear hA0 hval0 hsz0 hsz
  obtain ⟨k,hk⟩:=Pure.CountOrder a0_0 l0_1 l0_2 a1 a2_0 a2_1 a2_2 w0 m0a m0b s0a s0b w1 w2.1 w2.2.1 w2.2.2
  refine (PC.bellpulllaw05_CountOrder.calls k a0_0 _ _ l0_1 _ _ l0_2 a1 a2_0 a2_1 a2_2 true W g0a n0a g0b n0b hk).mono fun e W' ⟨he,bel⟩=>?_
  subst he
  exact ⟨_,rfl,_,_,_,[],_,[],hW',trodAll_mk1 (shut_bool Try.underlying4 _),(trodAll_cons_mk (Below.trod laidOut (by kernel_rfl) (of_decide_eq_true (by kernel_rfl)) k0 bel lt0) (trodAll_cons_mk (shut_int Try.underlying5 w1) (trodAll_cons_mk (shut_three w2) trodAll_mk0))),rfl,bel.frame _,fun h=>by cases h⟩
theorem over:Rows.countOrderRow.holds Try.pinned (OpenSpec.ofChange Rows.countOrderSpec) :=
  OpenClaim.holds_of_wide 8 Try.f8 rfl rfl rfl rfl rfl rfl rfl ⟨rfl,rfl,rfl,rfl,rfl⟩ rfl rfl rfl rfl rfl (by kernel_rfl) Try.func8 (by kernel_rfl)
    (of_decide_eq_true (by kernel_rfl)) (by unfold Func.isWrapper;first|(rw [if_pos (by decide +kernel)];kernel_rfl)|(rw [if_neg (by decide +kernel)];exact ⟨rfl,rfl⟩))
    (fun os started H enc _=>lifted os started H enc)
theorem proved:Rows.CountOrderSaid:=over
#print axioms proved
end Go.Proofs.Ytkonljiembcdlaa.countOrder
namespace Go.Proofs.Ytkonljiembcdlaa
theorem countOrder_holds:Rows.CountOrderSaid:=countOrder.proved
end Go.Proofs.Ytkonljiembcdlaa
