/- CountCommutes: for every input the law returns true. -/
import Derived.Test.YtkonljiembcdlaaPCx7
import Derived.Test.YtkonljiembcdlaaCodeW
import Derived.Test.YtkonljiembcdlaaAccW
import Derived.Test.YtkonljiembcdlaaLivesW
set_option linter.unusedVariables false
set_option linter.unusedSimpArgs false
namespace Go.Proofs.Ytkonljiembcdlaa.Pure
open Go.RowKit Go.Proofs.YtkonljiembcdlaaW.PrintWords Go.Proofs.Ytkonljiembcdlaa.PC
theorem mod5 {a:Int} (h:(Lit.int .u8 a).wf=true):0 ≤ Int.tmod (wrap64 a) 5∧Int.tmod (wrap64 a) 5 ≤ 8:=by
  have:=wf_u8 h
  rw [wrap_id (by omega) (by omega),Int.tmod_eq_emod_of_nonneg this.1]
  omega
theorem code_ev (l:List Int) (most:Nat) (hm:1 ≤ most∧most ≤ 100) (hw:∀ x ∈ l,(Lit.int .u8 x).wf=true) (hl:l.length ≤ 140737488351232):∃ p,Ev (fun k=>bellpulllaw05_code.f k l (most:Int)) p∧Pre p 1∧p.size ≤ most:=by
  obtain ⟨k,r,h1,h2,h3⟩:=code_some l most hm (fun v hv=>by have:=wf_u8 (hw v hv);omega) hl
  exact ⟨r,Ev.of (fun k=>bellpulllaw05_code.mono _ _ k) h1,h2,h3⟩
theorem CountCommutes:∀ (l0:List Int) (l1:List Int) (a2_0 a2_1 a2_2:Int),l0.length ≤ 140737488351232 → (∀ x ∈ l0,(Lit.int .u8 x).wf=true) → l1.length ≤ 140737488351232 → (∀ x ∈ l1,(Lit.int .u8 x).wf=true) → (Lit.int .u8 a2_0).wf=true → (Lit.int .u8 a2_1).wf=true → (Lit.int .u8 a2_2).wf=true → ∃ k,bellpulllaw05_CountCommutes.f k l0 l1 a2_0 a2_1 a2_2=some true:=by
  intro l0 l1 a b c hl0 hw0 hl1 hw1 ha hb hc
  obtain ⟨p,ep,pp,sp⟩:=code_ev l0 10 (by omega) hw0 hl0
  obtain ⟨q,eq,pq,sq⟩:=code_ev l1 10 (by omega) hw1 hl1
  have ma:=mod5 ha
  have mb:=mod5 hb
  have mc:=mod5 hc
  obtain ⟨v,hv⟩:∃ v:List Int,v=[Int.tmod (wrap64 a) 5,Int.tmod (wrap64 b) 5,Int.tmod (wrap64 c) 5]:=⟨_,rfl⟩
  have six:=accepts_six p q v pp pq (by omega) (by rw [hv];rfl) (fun x hx=>by
    rw [hv] at hx
    simp only [List.mem_cons,List.not_mem_nil,or_false] at hx
    rcases hx with rfl|rfl|rfl
    · exact ma
    · exact mb
    · exact mc)
  obtain ⟨Kp,hp⟩:=ep
  obtain ⟨Kq,hq⟩:=eq
  obtain ⟨Kl,hl⟩:=lives_ev
  obtain ⟨K,hK⟩:∃ K,K=Kp + Kq + Kl + 730:=⟨_,rfl⟩
  refine ⟨K,?_⟩
  obtain ⟨x,d,j,i,e1,e2,e3,e4,e5,e6,e7⟩:=six K (by omega)
  have hp':=hp K (by omega)
  have hq':=hq K (by omega)
  have hl':=hl K (by omega)
  simp only at hp' hq' hl'
  have s1:(p ++ q).size=p.size + q.size:=ByteArray.size_append
  have s2:(q ++ p).size=q.size + p.size:=ByteArray.size_append
  unfold bellpulllaw05_CountCommutes.f
  rw [show (10:Int)=((10:Nat):Int) from rfl,hp',Option.bind_some,hq',Option.bind_some,Option.bind_some,← hv,if_pos (by omega),if_pos (by omega),e1,Option.bind_some,if_pos (by omega),if_pos (by omega),e2,Option.bind_some,e3,Option.bind_some,e4,Option.bind_some,e5,Option.bind_some,e6,Option.bind_some]
  subst e7
  simp only [if_pos rfl]
  cases x <;> cases j <;> cases i <;> simp [hl']
end Go.Proofs.Ytkonljiembcdlaa.Pure
