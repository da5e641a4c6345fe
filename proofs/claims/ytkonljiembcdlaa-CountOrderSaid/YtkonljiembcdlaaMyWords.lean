/- Small words of my own beside the kit's print: cuts with a capacity that is the cut's end. -/
import Derived.Test.YtkonljiembcdlaaWMore
set_option linter.unusedVariables false
namespace Go.Proofs.MyWords
open Go.RowKit Go.Proofs.YtkonljiembcdlaaW.PrintWords Go.Proofs.YtkonljiembcdlaaW.PrintMore
section
variable {P:Program}
theorem cut_to_m (t e:TypeId) (kh km:IntKind) {i:TypeInfo} (ht:P.underlying t=some (.slice e)) (hi:P.info? e=some i) (A:Option Addr) (n c:Nat) (j:Int) (h0:0 ≤ j) (hm:j ≤ n) (hc:n ≤ c) :
    ∀ W:World,(Instr.slice t (.slice A n c) none (some (.int kh j)) (some (.int km j))).run P W=.ok (.slice A j.toNat j.toNat) W:=by
  intro W
  have hel:P.elem t=e:=by simp [Program.elem,ht]
  have hu:P.underlying t=some (.slice (P.elem t)):=by rw [hel];exact ht
  have ha:(A.map fun x=>x.add 0)=A:=by cases A <;> simp [Addr.add]
  rw [run_slice_hm W t A n c hu kh km j j h0 (by omega) (by omega),hel]
  simp [sizeOf,typeInfo,hi,sliced,Result.andThen,ha]
theorem cut_mid_m (t e:TypeId) (kl kh km:IntKind) {i:TypeInfo} (ht:P.underlying t=some (.slice e)) (hi:P.info? e=some i) (size:Nat) (hsz:i.size=size) (A:Option Addr) (n c:Nat) (lo hi':Int) (h0:0 ≤ lo) (h1:lo ≤ hi') (h2:hi' ≤ n) (hc:n ≤ c) :
    ∀ W:World,(Instr.slice t (.slice A n c) (some (.int kl lo)) (some (.int kh hi')) (some (.int km hi'))).run P W=.ok (.slice (if hi'.toNat=lo.toNat then A else A.map (·.add (lo.toNat * size))) (hi'.toNat - lo.toNat) (hi'.toNat - lo.toNat)) W:=by
  intro W
  have hel:P.elem t=e:=by simp [Program.elem,ht]
  have hu:P.underlying t=some (.slice (P.elem t)):=by rw [hel];exact ht
  rw [run_slice_lhm W t A n c hu kl kh km lo hi' hi' h0 h1 (by omega) (by omega),hel]
  simp [sizeOf,typeInfo,hi,hsz,sliced,Result.andThen]
end
section
variable {α:Type} {d:Kd α} {w W:World} {ok:Nat → Prop} {A:Option Addr} {xs:List α} {lo hi:Nat}
theorem C_midm (h:d.C w A xs.length xs) (h1:lo ≤ hi) (h2:hi ≤ xs.length):d.C w (if hi=lo then A else A.map (·.add (lo * d.sz))) ((xs.take hi).drop lo).length ((xs.take hi).drop lo):=by
  have hl:(xs.take hi).length=hi:=by rw [List.length_take];omega
  exact Kd.C_drop (Kd.C_take h h2) (by omega) (by omega)
theorem F_midm (h:Kd.F d W ok A xs.length xs) (h1:lo ≤ hi) (h2:hi ≤ xs.length):Kd.F d W ok (if hi=lo then A else A.map (·.add (lo * d.sz))) ((xs.take hi).drop lo).length ((xs.take hi).drop lo):=Kd.F_imp h (fun _ hC=>C_midm hC h1 h2)
theorem V_at {e base n:Nat} {v:Value} (hq:w.drewN n=W) (h:Kd.V d e w base ok v xs):Kd.V d e W base ok v xs:=by subst hq;exact Kd.V_drewN h n
end
theorem C_box {w:World} {g:Nat} {t:TypeId} {k:IntKind} {cs:Array Value} {xs:List Int} (h:w.heap[g]?=some (.cells cs t (0,0))) (hx:cs.toList=xs.map (Value.int k)) (hn:xs.length ≤ 100):Kd.C (Kd.int k) w (some ⟨g,0,none⟩) xs.length xs:=by
  refine ⟨rfl,by omega,fun _=>⟨⟨g,0,none⟩,rfl,fun j p hj=>⟨[.int k p],rfl,rfl,fun i u hi=>?_⟩⟩⟩
  have hi0:i=0:=by
    cases i with
    | zero=>rfl
    | succ i=>simp at hi
  subst hi0
  have hu:u=.int k p:=by simpa using hi.symm
  subst hu
  have hs:(Kd.int k).sz=1:=rfl
  rw [hs,Nat.mul_one,Nat.add_zero]
  have e:(⟨g,0,none⟩:Addr).add j=⟨g,j,none⟩:=by simp only [Addr.add,Nat.zero_add];split <;> simp_all
  rw [e,blk_cell h]
  rw [← Array.getElem?_toList,hx,List.getElem?_map,hj]
  rfl
end Go.Proofs.MyWords
