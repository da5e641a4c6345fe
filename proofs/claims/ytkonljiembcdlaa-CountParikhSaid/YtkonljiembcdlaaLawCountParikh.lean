import Derived.Test.YtkonljiembcdlaaRows
import Derived.WalkKit
import Derived.ProofKit
import Derived.OpenShut
import Derived.ShutString
import Derived.ChangeOld
import Derived.Below
import Derived.SizedLaws
import Derived.Test.YtkonljiembcdlaaWSized
import Derived.Test.YtkonljiembcdlaaZ0
-- Written by mklawc.py, a program of this session's, for this claim, after the rows that the kit prints.
namespace Go.Proofs.Ytkonljiembcdlaa.countParikh
open Go.ChangeShapes Go.WideShapes Go.ChangeAt Go.RowKit
open Go.ChangeMaps (open_string shut_string)
open Go.Proofs.Ytkonljiembcdlaa.RowT
open Go.Proofs.YtkonljiembcdlaaW.PrintWords
set_option linter.unusedVariables false
theorem own:ownKnob Try.prog.godebug=none:=by kernel_rfl
theorem laidOut:laidOutB Try.prog=true:=by kernel_rfl
set_option maxRecDepth 100000 in
theorem lifted (os:Os) (started:os.Started) (H:Type) (enc:TypeId × Value → H) :
    ReturnsInHanded {} Try.checked os 6 .any (Rows.countParikhSpec.pre6 enc Try.prog Try.f6 Rows.countParikhRow.domain false) (Rows.countParikhSpec.post enc Try.prog Try.f6 false true false false):=by
  refine returnsInHanded_of_change_sized (C:=Try.checked) own started (by kernel_rfl) Try.func6
    (ChangeSpec.witness6 (enc:=enc) (C:=Try.checked) false ⟨#[],#[.slice none 0 0,.agg #[.int .u8 0,.int .u8 0,.int .u8 0]],[]⟩ 8 (by kernel_rfl) (by kernel_rfl) (by kernel_rfl) (by kernel_rfl)) ?_
  intro W base args ds gs before hval0 hW hcnd hsz0 _
  have hsz:(DataW.weightsEach Try.prog (Try.f6.params.toList ++ Rows.countParikhSpec.plain.varTypes Try.prog) (ds ++ gs)).all (· ≤ reachBytes)=true:=hsz0
  have hval:∀ (j:Nat) t v,Try.f6.params[j]?=some t → args[j]?=some v → Value.okWide Try.prog W .any base t v:=hval0
  have hW':=hW
  obtain ⟨p,q,hA0,hV,rfl,hfz,hnd⟩:=hW
  have hA:DataW.TrodAll enc Try.prog W 0 (fun _=>true) true Try.f6.params.toList args.toList ds p:=hA0
  rw [Try.params6] at hA hval hsz
  obtain ⟨v0,vs0,d0,ds0,p0,q0,hargs,rfl,rfl,h0,r0⟩:=trodAll_cons hA
  obtain ⟨v1,vs1,d1,ds1,p1,q1,rfl,rfl,rfl,h1,r1⟩:=trodAll_cons r0
  obtain ⟨rfl,rfl,rfl⟩:=trodAll_nil r1
  obtain rfl:args=#[v0,v1]:=by cases args;simp_all
  obtain ⟨rfl,rfl⟩:=trodVars_none hV
  obtain ⟨A0,len0,cap0,rfl⟩:=okWide_slice Try.underlying50 (hval 0 50 v0 rfl rfl)
  have k0:=h0
  have lt0:∀ x ∈ p0,x.block < W.heap.size:=by obtain ⟨m,hm⟩:=k0;exact DataW.trod_lt m _ _ _ hm
  obtain ⟨z0,w0⟩:=rowOf h0
  have y0:len0 * 1 ≤ 140737488351232:=sized_ints hsz (j:=0) (t:=50) rfl rfl Try.underlying50 Try.underlying5 (by kernel_rfl) (by kernel_rfl) h0
  obtain ⟨l0,rfl,hr0,hm0,hw0,hc0⟩:=ReadsInt.ofRowC w0
  obtain ⟨a1_0,a1_1,a1_2,rfl,rfl,rfl,w1⟩:=open_three (hval 1 51 v1 rfl rfl) h1
  clear hA0 hval0 hsz0 hsz
  obtain ⟨k,hk⟩:=Pure.CountParikh l0 a1_0 a1_1 a1_2 (by omega) hw0 w1.1 w1.2.1 w1.2.2
  refine (PC.bellpulllaw05_CountParikh.calls k _ _ l0 a1_0 a1_1 a1_2 true W (Kd.C_of_reads (d:=(0:Int)) (h1:=fun _=>rfl) hr0) hc0 hk).mono fun e W' ⟨he,bel⟩=>?_
  subst he
  exact ⟨_,rfl,_,_,_,[],_,[],hW',trodAll_mk1 (shut_bool Try.underlying4 _),(trodAll_cons_mk (Below.trod laidOut (by kernel_rfl) (of_decide_eq_true (by kernel_rfl)) k0 bel lt0) (trodAll_cons_mk (shut_three w1) trodAll_mk0)),rfl,bel.frame _,fun h=>by cases h⟩
theorem over:Rows.countParikhRow.holds Try.pinned (OpenSpec.ofChange Rows.countParikhSpec) :=
  OpenClaim.holds_of_wide 6 Try.f6 rfl rfl rfl rfl rfl rfl rfl ⟨rfl,rfl,rfl,rfl,rfl⟩ rfl rfl rfl rfl rfl (by kernel_rfl) Try.func6 (by kernel_rfl)
    (of_decide_eq_true (by kernel_rfl)) (by unfold Func.isWrapper;first|(rw [if_pos (by decide +kernel)];kernel_rfl)|(rw [if_neg (by decide +kernel)];exact ⟨rfl,rfl⟩))
    (fun os started H enc _=>lifted os started H enc)
theorem proved:Rows.CountParikhSaid:=over
#print axioms proved
end Go.Proofs.Ytkonljiembcdlaa.countParikh
namespace Go.Proofs.Ytkonljiembcdlaa
theorem countParikh_holds:Rows.CountParikhSaid:=countParikh.proved
end Go.Proofs.Ytkonljiembcdlaa
