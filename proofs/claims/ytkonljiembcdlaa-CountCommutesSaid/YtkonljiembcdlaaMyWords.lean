/- Small words of my own beside the kit's print: cuts with a capacity that is the cut's end. -/
import Derived.Test.YtkonljiembcdlaaWMore
set_option linter.unusedVariables false
namespace Go.Proofs.MyWords
open Go.RowKit Go.Proofs.YtkonljiembcdlaaW.PrintWords Go.Proofs.YtkonljiembcdlaaW.PrintMore
section
variable {P:Program}
theorem cut_to_m (t e:TypeId) (kh km:IntKind) {i:TypeInfo} (ht:P.underlying t=some (.slice e)) (hi:P.info? e=some i) (A:Option Addr) (n c:Nat) (j:Int) (h0:0 ≤ j) (hm:j ≤ n) (hc:n ≤ c) :
    ∀ W:World,(Instr.slice t (.slice A n c) none (some (.int kh j)) (some (.int km j))).run P W=.ok (.slice A j.toNat j.toNat) W:=by
  intro W
  have hel:P.elem t=e:=by simp [Program.elem,ht]
  have hu:P.underlying t=some (.slice (P.elem t)):=by rw [hel];exact ht
  have ha:(A.map fun x=>x.add 0)=A:=by cases A <;> simp [Addr.add]
  rw [run_slice_hm W t A n c hu kh km j j h0 (by omega) (by omega),hel]
  simp [sizeOf,typeInfo,hi,sliced,Result.andThen,ha]
end
section
variable {α:Type} {d:Kd α} {w W:World} {ok:Nat → Prop} {A:Option Addr} {xs:List α} {lo hi:Nat}
end
theorem C_box {w:World} {g:Nat} {t:TypeId} {k:IntKind} {cs:Array Value} {xs:List Int} (h:w.heap[g]?=some (.cells cs t (0,0))) (hx:cs.toList=xs.map (Value.int k)) (hn:xs.length ≤ 100):Kd.C (Kd.int k) w (some ⟨g,0,none⟩) xs.length xs:=by
  refine ⟨rfl,by omega,fun _=>⟨⟨g,0,none⟩,rfl,fun j p hj=>⟨[.int k p],rfl,rfl,fun i u hi=>?_⟩⟩⟩
  have hi0:i=0:=by
    cases i with
    | zero=>rfl
    | succ i=>simp at hi
  subst hi0
  have hu:u=.int k p:=by simpa using hi.symm
  subst hu
  have hs:(Kd.int k).sz=1:=rfl
  rw [hs,Nat.mul_one,Nat.add_zero]
  have e:(⟨g,0,none⟩:Addr).add j=⟨g,j,none⟩:=by simp only [Addr.add,Nat.zero_add];split <;> simp_all
  rw [e,blk_cell h]
  rw [← Array.getElem?_toList,hx,List.getElem?_map,hj]
  rfl
end Go.Proofs.MyWords
