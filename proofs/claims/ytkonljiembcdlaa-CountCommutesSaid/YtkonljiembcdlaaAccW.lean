/- Accepts of well-formed expressions, in plain Lean. -/
import Derived.Test.YtkonljiembcdlaaPCx3
import Derived.Test.YtkonljiembcdlaaMachR
namespace Go.Proofs.Ytkonljiembcdlaa.PC
open Go.Proofs.MyWords Go.RowKit Go.Proofs.YtkonljiembcdlaaW.PrintWords Go.Proofs.YtkonljiembcdlaaW.PrintLast Go.Proofs.YtkonljiembcdlaaW.PrintMore
set_option linter.unusedVariables false
set_option linter.unusedSimpArgs false
def GoodL (m:FoundW.V3) (L:List FoundW.V3):Prop:=L.Nodup∧∀ s,s ∈ L → good3 m s
theorem GoodL.len {m:FoundW.V3} {L:List FoundW.V3} (hm:mok m) (h:GoodL m L):L.length ≤ 729:=by
  rw [← boxL_len]
  exact nodup_len3 L boxL h.1 (fun s hs=>mem_boxL ((h.2 s hs).mok hm))
theorem fStar_some (m:FoundW.V3) (hm:mok m) (A:List FoundW.V3) (hA:GoodL m A):∀ (n k:Nat) (O:List FoundW.V3),GoodL m O → 729 - O.length ≤ n → n < k → ∃ r,fStar m A k O=some r∧GoodL m r
  | n,0,O,hO,hn,hk=>by omega
  | n,k + 1,O,hO,hn,hk=>by
    rw [fStar]
    by_cases h:(fBoth O (fJoin m O A)).length=O.length
    · exact ⟨O,by rw [if_pos h],hO⟩
    · rw [if_neg h]
      have hN:GoodL m (fBoth O (fJoin m O A)):=⟨dd_nodup _,fBoth_good hO.2 (fJoin_good hO.2 hA.2)⟩
      have h1:=fBoth_len O (fJoin m O A) hO.1
      have h2:=hN.len hm
      match n,hn,hk with
      | 0,hn,hk=>omega
      | n + 1,hn,hk=>exact fStar_some m hm A hA n k _ hN (by omega) (by omega)
theorem runF_total (m:FoundW.V3) (hm:mok m) (k:Nat) (hk:730 ≤ k):Mach.Total (fun i=>some (fLetter m i)) (fun a b=>some (fJoin m a b)) (fun a b=>some (fBoth a b)) (fun a=>fStar m a k [(0,0,0)]) (GoodL m) where
  l:=fun i _=>⟨_,rfl,by
    refine ⟨?_,fLetter_good m i⟩
    unfold fLetter
    exact List.Sublist.nodup (List.filter_sublist) (by simp)⟩
  j:=fun a b ha hb=>⟨_,rfl,dd_nodup _,fJoin_good ha.2 hb.2⟩
  e:=fun a b ha hb=>⟨_,rfl,dd_nodup _,fBoth_good ha.2 hb.2⟩
  s:=fun a ha=>fStar_some m hm a ha 729 k _ ⟨by simp,zero_good hm⟩ (by omega) (by omega)
theorem add3_comm (v u:FoundW.V3):add3 v u=add3 u v:=by
  unfold add3
  rw [Int.add_comm v.1,Int.add_comm v.2.1,Int.add_comm v.2.2]
theorem fJoin_comm (m:FoundW.V3) (A B:List FoundW.V3) (s:FoundW.V3):s ∈ fJoin m A B ↔ s ∈ fJoin m B A:=by
  rw [mem_fJoin,mem_fJoin]
  constructor
  · rintro ⟨⟨v,hv,u,hu,e⟩,h⟩
    exact ⟨⟨u,hu,v,hv,e.trans (add3_comm v u)⟩,h⟩
  · rintro ⟨⟨v,hv,u,hu,e⟩,h⟩
    exact ⟨⟨u,hu,v,hv,e.trans (add3_comm v u)⟩,h⟩
theorem accepts_of {k:Nat} {s:ByteArray} {l:List Int} (hs:s.size ≤ 30) (hl:l.length=3) (hv:∀ x,x ∈ l → 0 ≤ x∧x ≤ 8) {L:List FoundW.V3} (h:runF k (v3of l) s.data.toList []=some (some L)):count_Accepts.f k s l=some (decide (v3of l ∈ L),0):=by
  have ha:¬ (l.any (fun x=>decide (x < 0) || decide (8 < x))=true):=by
    intro h
    obtain ⟨x,hx,h2⟩:=List.any_eq_true.1 h
    have:=hv x hx
    simp at h2
    omega
  rw [count_Accepts.f,if_neg (by omega),if_neg ha,if_pos hl,h]
  rfl
theorem mok_v3 {l:List Int} (hl:l.length=3) (hv:∀ x,x ∈ l → 0 ≤ x∧x ≤ 8):mok (v3of l):=by
  match l,hl with
  | [a,b,c],_=>exact ⟨hv a (by simp),hv b (by simp),hv c (by simp)⟩
theorem accepts_six (p q:ByteArray) (l:List Int) (hp:Mach.hts p.data.toList 0=some 1) (hq:Mach.hts q.data.toList 0=some 1) (hpq:p.size + q.size + 1 ≤ 30) (hl:l.length=3) (hv:∀ x,x ∈ l → 0 ≤ x∧x ≤ 8) (k:Nat) (hk:730 ≤ k) :
    ∃ a d j i:Bool,count_Accepts.f k (p ++ q ++ ⟨#[46]⟩) l=some (a,0)∧count_Accepts.f k (q ++ p ++ ⟨#[46]⟩) l=some (a,0)∧count_Accepts.f k (p ++ q ++ ⟨#[43]⟩) l=some (d,0)∧count_Accepts.f k (q ++ p ++ ⟨#[43]⟩) l=some (d,0) ∧
      count_Accepts.f k p l=some (j,0)∧count_Accepts.f k q l=some (i,0)∧d=(j || i):=by
  obtain ⟨X,Y,gX,gY,e1,e2,e3,e4,e5,e6⟩:=Mach.run_two _ _ _ _ (runF_total (v3of l) (mok_v3 hl hv) k hk) hp hq
  have dt:∀ (a b:ByteArray) (c:UInt8),(a ++ b ++ (⟨#[c]⟩:ByteArray)).data.toList=a.data.toList ++ b.data.toList ++ [c]:=fun a b c=>by simp
  have sz:∀ (a b:ByteArray) (c:UInt8),(a ++ b ++ (⟨#[c]⟩:ByteArray)).size=a.size + b.size + 1:=fun a b c=>by
    rw [ByteArray.size_append,ByteArray.size_append];rfl
  refine ⟨decide (v3of l ∈ fJoin (v3of l) X Y),decide (v3of l ∈ fBoth X Y),decide (v3of l ∈ X),decide (v3of l ∈ Y),?_,?_,?_,?_,?_,?_,?_⟩
  · exact accepts_of (by rw [sz];omega) hl hv (by rw [dt];exact e3)
  · rw [accepts_of (L:=fJoin (v3of l) Y X) (by rw [sz];omega) hl hv (by rw [dt];exact e4)]
    congr 2
    exact decide_eq_decide.2 (fJoin_comm _ _ _ _)
  · exact accepts_of (by rw [sz];omega) hl hv (by rw [dt];exact e5)
  · rw [accepts_of (L:=fBoth Y X) (by rw [sz];omega) hl hv (by rw [dt];exact e6)]
    congr 2
    refine decide_eq_decide.2 ?_
    rw [mem_fBoth,mem_fBoth]
    exact Or.comm
  · exact accepts_of (by omega) hl hv e1
  · exact accepts_of (by omega) hl hv e2
  · rw [← Bool.decide_or]
    exact decide_eq_decide.2 mem_fBoth
end Go.Proofs.Ytkonljiembcdlaa.PC
