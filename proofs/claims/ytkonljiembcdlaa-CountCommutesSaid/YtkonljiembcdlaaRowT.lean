/- An array of three bytes, and a slice of bytes, as arguments: opened, and shut. -/
import Derived.Test.YtkonljiembcdlaaProg
import Derived.WalkKit
import Derived.ProofKit
import Derived.OpenShut
import Derived.Lib.SmallJoins
import Derived.SizedLaws
set_option linter.unusedVariables false
set_option linter.constructorNameAsVariable false
namespace Go.Proofs.Ytkonljiembcdlaa.RowT
open Go.ChangeShapes Go.WideShapes Go.ChangeAt Go.RowKit Go.Joins
section
variable {H:Type} {enc:TypeId × Value → H} {w:World} {base:Nat} {spare:Nat → Bool} {held:Bool}
theorem open_three {r:Reach} {b0:Nat} {v:Value} {d:DataW H} {p:List MemPlace} (hv:Value.okWide Try.prog w r b0 51 v) (h:DataW.Trod enc Try.prog w base spare held 51 v d p) :
    ∃ a b c:Int,v=.agg #[.int .u8 a,.int .u8 b,.int .u8 c]∧d=.agg [.lit (.int .u8 a),.lit (.int .u8 b),.lit (.int .u8 c)]∧p=[] ∧
      (Lit.int .u8 a).wf=true∧(Lit.int .u8 b).wf=true∧(Lit.int .u8 c).wf=true:=by
  simp only [Value.okWide,Try.underlying51] at hv
  obtain ⟨cs,rfl,hs,_⟩:=hv
  have hC:Try.prog.cellsOf 51=3:=by kernel_rfl
  have hE:Try.prog.cellsOf 5=1:=by kernel_rfl
  obtain ⟨v0,v1,v2,rfl⟩:=array3 (hs.trans hC)
  obtain ⟨fuel,hf⟩:=h
  cases fuel with
  | zero=>simp [DataW.trod] at hf
  | succ m =>
    rw [DataW.trod_step] at hf
    unfold DataW.trodStep at hf
    simp only [Try.underlying51,Value.cells] at hf
    rw [if_pos (by rw [hC];rfl)] at hf
    simp only [Option.map_eq_some_iff] at hf
    obtain ⟨ys,hy,e1⟩:=hf
    rw [hE] at hy
    simp only [show List.range 3=[0,1,2] from rfl,List.mapM_cons,List.mapM_nil,bind,pure,Option.bind_eq_some_iff,Option.some.injEq] at hy
    obtain ⟨y0,h0,z0,⟨y1,h1,z1,⟨y2,h2,z2,rfl,rfl⟩,rfl⟩,rfl⟩:=hy
    obtain ⟨a,ea,rfl,wa⟩:=DataW.trod_int Try.underlying5 h0
    obtain ⟨b,eb,rfl,wb⟩:=DataW.trod_int Try.underlying5 h1
    obtain ⟨c,ec,rfl,wc⟩:=DataW.trod_int Try.underlying5 h2
    simp at ea eb ec e1
    subst ea eb ec
    exact ⟨a,b,c,rfl,e1.1.symm,e1.2.symm ▸ rfl,wa,wb,wc⟩
theorem shut_three {a b c:Int} (h:(Lit.int .u8 a).wf=true∧(Lit.int .u8 b).wf=true∧(Lit.int .u8 c).wf=true) :
    DataW.Trod enc Try.prog w base spare held 51 (.agg #[.int .u8 a,.int .u8 b,.int .u8 c]) (.agg [.lit (.int .u8 a),.lit (.int .u8 b),.lit (.int .u8 c)]) []:=by
  have hC:Try.prog.cellsOf 51=3:=by kernel_rfl
  have hE:Try.prog.cellsOf 5=1:=by kernel_rfl
  refine ⟨2,?_⟩
  rw [DataW.trod_step]
  unfold DataW.trodStep
  simp only [Try.underlying51,Value.cells]
  rw [if_pos (by rw [hC];rfl),hE]
  have t:∀ n,(Lit.int .u8 n).wf=true → DataW.trod enc Try.prog w base spare held 1 5 [.int .u8 n]=some (.lit (.int .u8 n),[]):=fun n hn=>trod_int_mk 0 Try.underlying5 hn
  simp only [show List.range 3=[0,1,2] from rfl,List.mapM_cons,List.mapM_nil,bind,pure]
  simp [t _ h.1,t _ h.2.1,t _ h.2.2]
theorem rowOf {a:Option Addr} {len cap:Nat} {d:DataW H} {p:List MemPlace} (h:DataW.Trod enc Try.prog w base (fun _=>true) held 50 (.slice a len cap) d p) :
    ∃ zs:List Int,(a=none∧len=0∧cap=0∧zs=[]) ∨ ∃ x,a=some x∧len ≤ cap∧cap ≤ maxLen∧zs.length=cap∧(∀ i,i < zs.length → w.cell? (x.add i)=some (.int .u8 (zs.getD i 0)))∧∀ n ∈ zs,(Lit.int .u8 n).wf=true:=by
  obtain ⟨fuel,hf⟩:=h
  rcases open_ints Try.underlying50 Try.underlying5 (by kernel_rfl) hf with ⟨hcs,_⟩|⟨x,l,c,zs,hcs,_,hl,hm,hz,_,hcell,hwz⟩
  · simp [Value.cells] at hcs
    obtain ⟨rfl,rfl,rfl⟩:=hcs
    exact ⟨[],.inl ⟨rfl,rfl,rfl,rfl⟩⟩
  · simp [Value.cells] at hcs
    obtain ⟨rfl,rfl,rfl⟩:=hcs
    exact ⟨zs,.inr ⟨_,rfl,hl,hm,by simpa using hz,hcell,hwz⟩⟩
end
end Go.Proofs.Ytkonljiembcdlaa.RowT
