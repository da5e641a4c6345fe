/- What code derives is well-formed and short. -/
import Derived.Test.YtkonljiembcdlaaPCx6
import Derived.Test.YtkonljiembcdlaaMachR
namespace Go.Proofs.Ytkonljiembcdlaa.PC
open Go.Proofs.MyWords Go.RowKit Go.Proofs.YtkonljiembcdlaaW.PrintWords Go.Proofs.YtkonljiembcdlaaW.PrintLast Go.Proofs.YtkonljiembcdlaaW.PrintMore
set_option linter.unusedVariables false
set_option linter.unusedSimpArgs false
def Pre (s:ByteArray) (h:Nat):Prop:=Mach.hts s.data.toList 0=some h
theorem Pre.add {s:ByteArray} {h:Nat} (H:Pre s h) (c:UInt8) (m:Nat) (e:Mach.hts [c] h=some m):Pre (s ++ ⟨#[c]⟩) m:=by
  unfold Pre at *
  have:(s ++ (⟨#[c]⟩:ByteArray)).data.toList=s.data.toList ++ [c]:=by simp
  rw [this,Mach.hts_app _ _ _ _ H,e]
theorem size_add (s:ByteArray) (c:UInt8):(s ++ (⟨#[c]⟩:ByteArray)).size=s.size + 1:=by
  rw [ByteArray.size_append];rfl
theorem wrap_small {x:Int} (h:-1000000 ≤ x∧x ≤ 1000000000000000):wrap64 x=x:=by unfold wrap64;omega
theorem code_l1:∀ (h:Nat) (s:ByteArray),1 ≤ h → Pre s h → s.size + h ≤ 1000 → ∃ k r,bellpulllaw05_code.l1 k s (h:Int)=some r∧Pre r 1∧r.size + 1=s.size + h
  | 0,s,h1,_,_=>by omega
  | 1,s,h1,H,hs=>⟨1,s,by rw [bellpulllaw05_code.l1,if_neg (by simp)],H,rfl⟩
  | h + 2,s,h1,H,hs=>by
    obtain ⟨k,r,e,h2,h3⟩:=code_l1 (h + 1) (s ++ ⟨#[46]⟩) (by omega) (H.add 46 (h + 1) (by simp [Mach.hts])) (by rw [size_add];omega)
    rw [size_add] at h3
    refine ⟨k + 1,r,?_,h2,by omega⟩
    rw [bellpulllaw05_code.l1,if_pos (by omega),if_pos (by omega),wrap_small (by omega),← e]
    congr 1
    omega
theorem code_l0 (l:List Int) (most:Nat) (hm:1 ≤ most∧most ≤ 100) (hl:∀ v,v ∈ l → 0 ≤ v∧v < 256) (hlen:l.length ≤ 140737488351232):∀ (n i:Nat) (s:ByteArray) (h:Nat),l.length - i=n → i ≤ l.length → Pre s h → s.size + h ≤ most →
    ∃ k r,bellpulllaw05_code.l0 k l (most:Int) s (h:Int) (i:Int)=some r∧Pre r 1∧r.size ≤ most:=by
  intro n
  induction n with
  | zero =>
    intro i s h e hi H hs
    have hil:i=l.length:=by omega
    subst hil
    by_cases h0:h=0
    · subst h0
      refine ⟨2,⟨#[101]⟩,?_,by unfold Pre;simp [Mach.hts],hm.1⟩
      rw [bellpulllaw05_code.l0,if_neg (by omega),bellpulllaw05_code.j1,if_neg (by simp),if_pos (by simp)]
    · obtain ⟨k,r,e,h2,h3⟩:=code_l1 h s (by omega) H (by omega)
      refine ⟨k + 2,r,?_,h2,by omega⟩
      rw [bellpulllaw05_code.l0,if_neg (by omega),bellpulllaw05_code.j1,if_neg (by simp),if_neg (by omega)]
      exact e
  | succ n ih =>
    intro i s h e hi H hs
    have hil:i < l.length:=by omega
    by_cases hroom:s.size + h < most
    · have hd:decide (wrap64 ((s.size:Int) + (h:Int)) < (most:Int))=true:=decide_eq_true (by rw [wrap_small (by omega)];omega)
      have hw:wrap64 ((i:Int) + 1)=((i + 1:Nat):Int):=by rw [wrap_small (by omega)];omega
      obtain ⟨v,hv⟩:∃ v,v=rd l (i:Int):=⟨_,rfl⟩
      have hvr:0 ≤ v∧v < 256:=by
        rw [hv]
        unfold rd
        simp only [Int.toNat_natCast]
        rw [show l.getD i 0=l[i]'hil from by simp [List.getD,hil]]
        exact hl _ (List.getElem_mem hil)
      have hmod:Int.tmod v 10=v % 10:=Int.tmod_eq_emod_of_nonneg hvr.1
      have q0:0 ≤ (i:Int):=by omega
      have q1:(i:Int) < (l.length:Int):=by omega
      have start:∀ k,bellpulllaw05_code.l0 (k + 2) l (most:Int) s (h:Int) (i:Int)=if v % 10 < 2 then bellpulllaw05_code.j2 k l most s h i (v % 10) (decide ((h:Int) > 1)) else bellpulllaw05_code.j2 k l most s h i (v % 10) false:=fun k=>by
        rw [bellpulllaw05_code.l0,if_pos q1,bellpulllaw05_code.j1,hd,if_pos rfl,if_pos q0,if_pos q1,← hv,hmod]
      have LT:Aside0 (v % 10 ≠ 2 ∨ h=0 → (¬ (v % 10 < 2∧1 < h)) → ∃ k r,bellpulllaw05_code.j2 k l most s h i (v % 10) false=some r∧Pre r 1∧r.size ≤ most):=⟨fun h2 hn=>by
        have j3f:∀ k,bellpulllaw05_code.j2 (k + 1) l most s h i (v % 10) false=bellpulllaw05_code.j3 k l most s h i false:=fun k=>by
          rw [bellpulllaw05_code.j2,if_neg (by simp)]
          by_cases h3:v % 10=2
          · rw [if_pos h3]
            have:decide ((h:Int) > 0)=false:=decide_eq_false (by omega)
            rw [this]
          · rw [if_neg h3]
        by_cases hfit:s.size + h + 2 ≤ most
        · have hq:(((Int.tdiv v 10) % 256) % 4)=(v / 10) % 4:=by
            rw [Int.tdiv_eq_ediv_of_nonneg hvr.1];omega
          obtain ⟨c,hc1,hc2⟩:∃ c:UInt8,rdOf ByteArray.empty ([(⟨#[97]⟩:ByteArray),(⟨#[98]⟩:ByteArray),(⟨#[99]⟩:ByteArray),(⟨#[101]⟩:ByteArray)]:List ByteArray) ((v / 10) % 4)=⟨#[c]⟩∧(c=97 ∨ c=98 ∨ c=99 ∨ c=101):=by
            have:(v / 10) % 4=0 ∨ (v / 10) % 4=1 ∨ (v / 10) % 4=2 ∨ (v / 10) % 4=3:=by omega
            rcases this with e|e|e|e <;> rw [e]
            · exact ⟨97,rfl,by simp⟩
            · exact ⟨98,rfl,by simp⟩
            · exact ⟨99,rfl,by simp⟩
            · exact ⟨101,rfl,by simp⟩
          obtain ⟨k,r,e1,e2,e3⟩:=ih (i + 1) (s ++ ⟨#[c]⟩) (h + 1) (by omega) (by omega) (H.add c (h + 1) (by rw [Mach.hts,if_pos hc2,Mach.hts])) (by rw [size_add];omega)
          refine ⟨k + 2,r,?_,e2,e3⟩
          rw [j3f,bellpulllaw05_code.j3,if_neg (by simp),wrap_small (x:=(s.size:Int) + (h:Int)) (by omega),wrap_small (x:=(s.size:Int) + (h:Int) + 2) (by omega),if_pos (by omega),Option.bind_some,if_pos q0,if_pos q1,← hv,hq,if_pos (by omega),
            if_pos (by simp;omega),hc1,if_pos (by show s.size + 1 ≤ 9223372036854775807;omega),wrap_small (x:=(h:Int) + 1) (by omega),hw]
          exact e1
        · obtain ⟨k,r,e1,e2,e3⟩:=ih (i + 1) s h (by omega) (by omega) H hs
          refine ⟨k + 2,r,?_,e2,e3⟩
          rw [j3f,bellpulllaw05_code.j3,if_neg (by simp),wrap_small (x:=(s.size:Int) + (h:Int)) (by omega),wrap_small (x:=(s.size:Int) + (h:Int) + 2) (by omega),if_neg (by omega),hw]
          exact e1⟩
      by_cases hb:v % 10 < 2
      · by_cases hh:1 < h
        · obtain ⟨c,hc1,hc2⟩:∃ c:UInt8,rdOf ByteArray.empty ([(⟨#[46]⟩:ByteArray),(⟨#[43]⟩:ByteArray)]:List ByteArray) (v % 10)=⟨#[c]⟩∧(c=46 ∨ c=43):=by
            have:v % 10=0 ∨ v % 10=1:=by omega
            rcases this with e|e <;> rw [e]
            · exact ⟨46,rfl,by simp⟩
            · exact ⟨43,rfl,by simp⟩
          obtain ⟨k,r,e1,e2,e3⟩:=ih (i + 1) (s ++ ⟨#[c]⟩) (h - 1) (by omega) (by omega) (H.add c (h - 1) (by have h2:2 ≤ h:=(by omega);rcases hc2 with rfl|rfl <;> simp [Mach.hts,h2])) (by rw [size_add];omega)
          refine ⟨k + 3,r,?_,e2,e3⟩
          rw [show k + 3=(k + 1) + 2 from rfl,start,if_pos hb,show decide ((h:Int) > 1)=true from decide_eq_true (by omega),bellpulllaw05_code.j2,if_pos rfl,Option.bind_some,if_pos (by omega),if_pos (by simp;omega),hc1,if_pos (by show s.size + 1 ≤ 9223372036854775807;omega),wrap_small (x:=(h:Int) - 1) (by omega),hw,← e1]
          congr 1
          omega
        · obtain ⟨k,r,e1,e2,e3⟩:=LT.out (.inl (by omega)) (fun hx=>hh hx.2)
          refine ⟨k + 2,r,?_,e2,e3⟩
          rw [start,if_pos hb,show decide ((h:Int) > 1)=false from decide_eq_false (by omega)]
          exact e1
      · by_cases h2:v % 10=2∧0 < h
        · obtain ⟨k,r,e1,e2,e3⟩:=ih (i + 1) (s ++ ⟨#[42]⟩) h (by omega) (by omega) (H.add 42 h (by have h3:1 ≤ h:=(by omega);simp [Mach.hts];omega)) (by rw [size_add];omega)
          refine ⟨k + 4,r,?_,e2,e3⟩
          rw [show k + 4=(k + 2) + 2 from rfl,start,if_neg hb,bellpulllaw05_code.j2,if_neg (by simp),if_pos h2.1,show decide ((h:Int) > 0)=true from decide_eq_true (by omega),bellpulllaw05_code.j3,if_pos rfl,if_pos (by omega),hw]
          exact e1
        · obtain ⟨k,r,e1,e2,e3⟩:=LT.out (Classical.byCases (p:=v % 10=2) (fun h3=>.inr (by omega)) .inl) (fun hx=>hb hx.1)
          refine ⟨k + 2,r,?_,e2,e3⟩
          rw [start,if_neg hb]
          exact e1
    · have hd:decide (wrap64 ((s.size:Int) + (h:Int)) < (most:Int))=false:=decide_eq_false (by rw [wrap_small (by omega)];omega)
      by_cases h0:h=0
      · subst h0
        refine ⟨2,⟨#[101]⟩,?_,by unfold Pre;simp [Mach.hts],hm.1⟩
        rw [bellpulllaw05_code.l0,if_pos (by omega),hd,bellpulllaw05_code.j1,if_neg (by simp),if_pos (by simp)]
      · obtain ⟨k,r,e,h2,h3⟩:=code_l1 h s (by omega) H (by omega)
        refine ⟨k + 2,r,?_,h2,by omega⟩
        rw [bellpulllaw05_code.l0,if_pos (by omega),hd,bellpulllaw05_code.j1,if_neg (by simp),if_neg (by omega)]
        exact e
theorem code_some (l:List Int) (most:Nat) (hm:1 ≤ most∧most ≤ 100) (hl:∀ v,v ∈ l → 0 ≤ v∧v < 256) (hlen:l.length ≤ 140737488351232):∃ k r,bellpulllaw05_code.f k l (most:Int)=some r∧Pre r 1∧r.size ≤ most :=
  code_l0 l most hm hl hlen l.length 0 _ 0 (by omega) (by omega) (by unfold Pre;rfl) (by show 0 + 0 ≤ most;omega)
end Go.Proofs.Ytkonljiembcdlaa.PC
