-- Written by pr2.py, a program of this session's, for this claim (through the kit's print).
import Derived.Test.YtploaicljkennaaPWx0
import Derived.Test.YtploaicljkennaaPWx2
import Derived.Test.YtploaicljkennaaPWx3
import Derived.Test.YtploaicljkennaaPWx23
import Derived.Test.YtploaicljkennaaPWx24
import Derived.Test.YtploaicljkennaaPWx25
namespace Go.Proofs.Ytploaicljkennaa.PW
open Go.Proofs.MyWords Go.RowKit Go.Proofs.YtploaicljkennaaW.PrintWords Go.Proofs.YtploaicljkennaaW.PrintLast Go.Proofs.YtploaicljkennaaW.PrintMore
attribute [local go_sem] max2_int min2_int max_two min_two max_three min_three max_four min_four   -- for this text's walks alone
set_option linter.unusedVariables false
set_option linter.unusedSimpArgs false

/-! ### echo_Words: function 38 -/
open Go.Shelf Go.Lib
/-- How two words compare. -/
def lexc:List Int → List Int → Int
  | [],[]=>0
  | [],_ :: _=>-1
  | _ :: _,[]=>1
  | a :: x,b :: y=>if a < b then -1 else if b < a then 1 else lexc x y
theorem lexc_self:∀ x,lexc x x=0
  | []=>rfl
  | a :: x=>by simp only [lexc];rw [if_neg (by omega),if_neg (by omega)];exact lexc_self x
theorem lexc_anti:∀ x y,lexc y x=- lexc x y
  | [],[]=>rfl
  | [],_ :: _=>rfl
  | _ :: _,[]=>rfl
  | a :: x,b :: y=>by
    simp only [lexc]
    have:=lexc_anti x y
    by_cases h1:a < b
    · rw [if_pos h1,if_neg (show ¬ b < a by omega),if_pos h1];rfl
    · by_cases h2:b < a
      · rw [if_pos h2,if_neg h1,if_pos h2]
      · rw [if_neg h2,if_neg h1,if_neg h1,if_neg h2];exact this
theorem lexc_le:∀ x y z,lexc x y ≤ 0 → lexc y z ≤ 0 → lexc x z ≤ 0∧(lexc x y < 0 ∨ lexc y z < 0 → lexc x z < 0)
  | [],[],z,_,h2=>⟨h2,fun h=>h.elim (fun h=>absurd h (by simp [lexc])) id⟩
  | [],_ :: _,[],_,h=>by simp [lexc] at h
  | [],_ :: _,_ :: _,_,_=>by simp [lexc]
  | _ :: _,[],_,h,_=>by simp [lexc] at h
  | _ :: _,_ :: _,[],_,h=>by simp [lexc] at h
  | a :: x,b :: y,c :: z,h1,h2=>by
    simp only [lexc] at h1 h2 ⊢
    have ih:=lexc_le x y z
    by_cases p1:a < b
    · by_cases p2:b < c
      · rw [if_pos (show a < c by omega)];omega
      · rw [if_neg p2] at h2
        by_cases p3:c < b
        · rw [if_pos p3] at h2;omega
        · rw [if_pos (show a < c by omega)];omega
    · rw [if_neg p1] at h1
      by_cases p3:b < a
      · rw [if_pos p3] at h1;omega
      · rw [if_neg p3] at h1
        obtain rfl:a=b:=by omega
        by_cases p2:a < c
        · rw [if_pos p2];simp
        · rw [if_neg p2] at h2
          by_cases p4:c < a
          · rw [if_pos p4] at h2;omega
          · rw [if_neg p4] at h2
            rw [if_neg p2,if_neg p4,if_neg p1,if_neg p3,if_neg p2,if_neg p4]
            exact ih h1 h2
theorem lexc_eq:∀ x y,lexc x y=0 → x=y
  | [],[],_=>rfl
  | [],_ :: _,h=>by simp [lexc] at h
  | _ :: _,[],h=>by simp [lexc] at h
  | a :: x,b :: y,h=>by
    simp only [lexc] at h
    split at h
    · cases h
    · split at h
      · cases h
      · obtain rfl:a=b:=by omega
        rw [lexc_eq x y h]
/-- One permutation of a row is sorted strictly, another one weakly: they are the same. -/
theorem lexc_unique:∀ (L M:List (List Int)),L.Perm M → L.Pairwise (fun x y=>lexc x y < 0) → M.Pairwise (fun x y=>¬ lexc y x < 0) → L=M
  | [],M,h,_,_=>(List.nil_perm.1 h).symm
  | a :: L,M,h,hL,hM=>by
    rcases M with _|⟨b,M⟩
    · exact absurd h.length_eq (by simp)
    · have ha:a ∈ b :: M:=h.mem_iff.1 (by simp)
      have hb:b ∈ a :: L:=h.mem_iff.2 (by simp)
      obtain ⟨hL1,hL2⟩:=List.pairwise_cons.1 hL
      obtain ⟨hM1,hM2⟩:=List.pairwise_cons.1 hM
      have e:a=b:=by
        rcases List.mem_cons.1 ha with e|ha
        · exact e
        · rcases List.mem_cons.1 hb with e|hb
          · exact e.symm
          · exact absurd (hL1 b hb) (hM1 a ha)
      subst e
      rw [lexc_unique L M (List.Perm.cons_inv h) hL2 hM2]
theorem cmp_eqw (a b:Int):cmp_Compare_int.f a b=some (if a < b then -1 else if a > b then 1 else 0):=by
  unfold cmp_Compare_int.f cmp_isNaN_int.f
  simp
  split
  · rfl
  · split <;> rfl
theorem rdw (l:List Int) (j:Nat) (h:j < l.length):rd l (j:Int)=l[j]:=by
  simp [rd,List.getD_eq_getElem?_getD,List.getElem?_eq_getElem h]
theorem compare_loop (l m:List Int) (hl:l.length ≤ 100000):∀ (d i k:Nat),i + d=l.length → i ≤ m.length → d < k → slices_Compare_int_int.l0 k l m l (l.length:Int) (i:Int)=some (lexc (l.drop i) (m.drop i))
  | d,i,0,_,_,h=>by omega
  | 0,i,k + 1,h,hm,_=>by
    simp only [slices_Compare_int_int.l0]
    rw [if_neg (by omega),List.drop_of_length_le (by omega:l.length ≤ i)]
    by_cases hc:i < m.length
    · rw [if_pos (by omega),List.drop_eq_getElem_cons hc];rfl
    · rw [if_neg (by omega),List.drop_of_length_le (by omega:m.length ≤ i)];rfl
  | d + 1,i,k + 1,h,hm,hk=>by
    have hi:i < l.length:=by omega
    have hw:wrap64 ((i:Int) + 1)=((i + 1:Nat):Int):=by unfold wrap64;omega
    simp only [slices_Compare_int_int.l0]
    rw [if_pos (by omega),if_pos (by omega),if_pos (by omega),List.drop_eq_getElem_cons hi]
    by_cases hc:i < m.length
    · rw [if_neg (by omega),if_pos (by omega),cmp_eqw,Option.bind_some,rdw l i hi,rdw m i hc,List.drop_eq_getElem_cons hc,hw]
      simp only [lexc]
      by_cases h1:l[i] < m[i]
      · rw [if_pos h1,if_pos h1];simp
      · rw [if_neg h1,if_neg h1]
        by_cases h2:m[i] < l[i]
        · rw [if_pos h2,if_pos h2];simp
        · rw [if_neg h2,if_neg h2,if_pos rfl]
          exact compare_loop l m hl d (i + 1) k (by omega) (by omega) (by omega)
    · rw [if_pos (by omega),List.drop_of_length_le (by omega:m.length ≤ i)];rfl
theorem compare_ev (l m:List Int) (hl:l.length ≤ 100000):slices_Compare_int_int.f (l.length + 1) l m=some (lexc l m):=by
  unfold slices_Compare_int_int.f
  exact compare_loop l m hl l.length 0 (l.length + 1) (by omega) (by omega) (by omega)
/-- A word that lies readable in W, whatever becomes of block g. -/
def WordIn (W:World) (base g:Nat):Type:={ x:Value × List Int // ∃ A c,x.1=.slice A x.2.length c∧x.2.length ≤ c∧x.2.length ≤ 100000∧Kd.F (Kd.int .i64) W (fun q=>base ≤ q∧q ≠ g) A x.2.length x.2 }
def WordIn.enc {W:World} {base g:Nat} (x:WordIn W base g):Value:=x.1.1
def WordIn.cf {W:World} {base g:Nat} (x y:WordIn W base g):Int:=lexc x.1.2 y.1.2
theorem WordIn.swo (W:World) (base g:Nat):Sort.SWO (ltOf (WordIn.cf (W:=W) (base:=base) (g:=g))) where
  irrefl x:=by unfold ltOf WordIn.cf;rw [lexc_self];rfl
  trans x y z h1 h2:=by
    unfold ltOf WordIn.cf at *
    simp only [decide_eq_true_eq] at *
    exact (lexc_le _ _ _ (by omega) (by omega)).2 (.inl h1)
  ntrans x y z h1 h2:=by
    unfold ltOf WordIn.cf at *
    simp only [decide_eq_false_iff_not] at *
    have a1:=lexc_anti x.1.2 y.1.2
    have a2:=lexc_anti y.1.2 z.1.2
    have a3:=lexc_anti x.1.2 z.1.2
    have:=(lexc_le z.1.2 y.1.2 x.1.2 (by omega) (by omega)).1
    omega
theorem heap_sorted {α:Type} [Inhabited α] {enc:α → Value} {w:World} {g off n:Nat} {d:Array α} {os:Array Obj} {q:Nat} (hq:q < w.heap.size) (hne:q ≠ g):(sortWorld enc w g off n d os).heap[q]?=w.heap[q]?:=by
  unfold sortWorld
  rw [Sort.heap_grow_old _ _ (by simpa using hq)]
  have:g ≠ q:=fun e=>hne e.symm
  simp [Sort.putRow,Sort.mapBlock,Sort.ahead,Array.getElem?_modify,this]
theorem grown_sorted {α:Type} [Inhabited α] {enc:α → Value} {w:World} {g off n:Nat} {d:Array α} {os:Array Obj}:w.grownBy (sortWorld enc w g off n d os) (some g):=by
  refine ⟨rfl,rfl,rfl,by unfold sortWorld;simp,fun k hk hne=>heap_sorted hk (fun e=>hne (by rw [e]))⟩
/-- The rows' words, one by one. -/
theorem rows_words {W:World} {base g cap:Nat} {ok:Nat → Prop} {L:List (List Int)} (HO:Kd.R (Kd.slice 3 (Kd.int .i64)) 22 W base ok (.slice (some ⟨g,0,none⟩) L.length cap) L) (hlen:∀ x ∈ L,x.length ≤ 100000) :
    ∃ ws:List (WordIn W base g),ws.map (fun x=>x.1.2)=L∧(∀ j (h:j < ws.length),W.cell? ⟨g,j,none⟩=some (ws[j].enc)∧W.frozen? ⟨g,j,none⟩=false)∧g < W.heap.size∧base ≤ g:=by
  have HB:=Kd.R_bound HO
  have hg:=(HB.1 g (by simp [Value.ownBlock])).2
  obtain ⟨h0,inner,hown,hl,hr⟩:=HB
  have hsz:(Kd.slice 3 (Kd.int .i64)).sz=1:=rfl
  rw [hsz] at hl
  have el:∀ j (hj:j < L.length),∃ x:WordIn W base g,x.1.2=L[j]∧inner[j]?=some x.enc:=fun j hj=>by
    obtain ⟨v,hv,hR⟩:=hr j L[j] (List.getElem?_eq_getElem hj)
    rw [hsz,Nat.mul_one] at hv
    have hR':=Kd.R_mono (ok':=fun q=>base ≤ q∧q ≠ g) hR (fun q hq=>⟨hq.1.2.1,fun e=>hq.2 (by rw [e];simp [Value.ownBlock])⟩)
    obtain ⟨A,c,rfl⟩:=Kd.R_slice hR'
    have hrd:=Kd.R_reads' hR'
    refine ⟨⟨(.slice A L[j].length c,L[j]),A,c,rfl,hrd.2.1,hlen _ (List.getElem_mem hj),Kd.R_F hR'⟩,rfl,?_⟩
    have:(inner.drop j)[0]?=some (.slice A L[j].length c):=by
      have h1:=congrArg (fun l=>l[0]?) hv
      simpa using h1
    show inner[j]?=some (.slice A L[j].length c)
    simpa using this
  have mk:∀ m,m ≤ L.length → ∃ ws:List (WordIn W base g),ws.map (fun x=>x.1.2)=L.take m∧∀ j (h:j < ws.length),inner[j]?=some (ws[j].enc):=fun m=>by
    induction m with
    | zero=>exact fun _=>⟨[],by simp,fun j h=>absurd h (by simp)⟩
    | succ m ih =>
      intro hm
      obtain ⟨ws,h1,h2⟩:=ih (by omega)
      obtain ⟨x,hx1,hx2⟩:=el m (by omega)
      have hlw:ws.length=m:=by have:=congrArg List.length h1;simp at this;omega
      refine ⟨ws ++ [x],by rw [List.map_append,h1,List.take_succ_eq_append_getElem (by omega)];simp [hx1],fun j h=>?_⟩
      rcases Nat.lt_or_ge j m with hj|hj
      · rw [List.getElem_append_left (by omega)];exact h2 j (by omega)
      · have:j=m:=by simp at h;omega
        subst this
        rw [List.getElem_append_right (by omega)]
        simpa [hlw] using hx2
  obtain ⟨ws,h1,h2⟩:=mk L.length (Nat.le_refl _)
  rw [List.take_length] at h1
  have hlw:ws.length=L.length:=by rw [← h1];simp
  obtain ⟨cells,hc⟩:=own_typed hown g (by simp [Value.ownBlock])
  refine ⟨ws,h1,fun j h=>⟨?_,blk_frozen hc _⟩,hg.2.1,hg.1⟩
  have:=hown.cells (g:=g) (by simp [Value.ownBlock]) j _ (h2 j h)
  rwa [add_plain] at this
/-- slices.SortFunc with slices.Compare, at a row of words of the call's own. -/
theorem sort_words {W:World} {base g cap:Nat} {ok:Nat → Prop} {L:List (List Int)} (HO:Kd.R (Kd.slice 3 (Kd.int .i64)) 22 W base ok (.slice (some ⟨g,0,none⟩) L.length cap) L) (hne:0 < L.length) (hlen:∀ x ∈ L,x.length ≤ 100000) (hL:L.length ≤ 1000000) :
    Calls Try.prog 52 #[.slice (some ⟨g,0,none⟩) L.length cap,.func (.func 53) #[] #[]] W fun e w'=>e=.returned (.tuple #[])∧∃ L',L'.Perm L∧L'.Pairwise (fun x y=>¬ lexc y x < 0)∧W.grownBy w' (some g)∧g < W.heap.size∧base ≤ g∧Kd.V (Kd.slice 3 (Kd.int .i64)) 22 w' base (fun q=>base ≤ q) (.slice (some ⟨g,0,none⟩) L'.length cap) L':=by
  obtain ⟨ws,h1,h2,hg,hb⟩:=rows_words HO hlen
  have hcap:L.length ≤ cap:=(Kd.R_reads' HO).2.1
  have hlw:ws.length=L.length:=by rw [← h1];simp
  have hpos:0 < ws.length:=by omega
  haveI:Inhabited (WordIn W base g):=⟨ws[0]⟩
  have eg:∀ args w,(callFunc 53 args).run Try.prog w=.ok (.enter 53 args) w:=enters_of Try.func53 (by kernel_rfl) rfl
  have hcmp:CmpLays1 Try.prog 53 #[] (WordIn.enc (W:=W) (base:=base) (g:=g)) WordIn.cf g 0 ws.toArray.size W:=fun m os dk hs x y=>by
    obtain ⟨Ax,cx,ex,hlx,hnx,hFx⟩:=x.2
    obtain ⟨Ay,cy,ey,hly,hny,hFy⟩:=y.2
    have hx:=hFx (sortWorld WordIn.enc W g 0 m dk os) (fun q hq hlt=>heap_sorted hlt hq.2)
    have hy:=hFy (sortWorld WordIn.enc W g 0 m dk os) (fun q hq hlt=>heap_sorted hlt hq.2)
    show Calls Try.prog 53 #[x.1.1,y.1.1] _ _
    rw [ex,ey]
    refine (slices_Compare_int_int.calls (x.1.2.length + 1) Ax cx x.1.2 Ay cy y.1.2 (lexc x.1.2 y.1.2) _ hx hlx hy hly (compare_ev x.1.2 y.1.2 hnx)).mono ?_
    rintro e w' ⟨rfl,⟨q,hq⟩⟩
    exact ⟨rfl,q,#[],by rw [hq,Sort.grow_empty]⟩
  have hH:Sort.Holds (WordIn.enc (W:=W) (base:=base) (g:=g)) W g 0 ws.toArray:=fun j hj=>by
    have hj':j < ws.length:=by simpa using hj
    have:=h2 j hj'
    rw [Nat.zero_add]
    simpa [hj'] using this
  have hS:=Any.slices_SortFunc Try.sortW (WordIn.enc (W:=W) (base:=base) (g:=g)) (fun x=>by obtain ⟨x,A,c,hx,_⟩:=x;show (x.1).oneCell'=true;rw [hx];rfl) WordIn.cf (WordIn.swo W base g) 53 #[] g 0 cap ws.toArray W eg hcmp hH hg (by simp;omega)
  have hS':Calls Try.prog 52 #[.slice (some ⟨g,0,none⟩) ws.toArray.size cap,.func (.func 53) #[] #[]] W _:=hS
  rw [show ws.toArray.size=L.length by simp [hlw]] at hS'
  refine hS'.mono ?_
  rintro e w' ⟨rfl,d',n,os,hp,hs,rfl⟩
  obtain ⟨hp1,_,hp3⟩:=hp
  have hds:d'.size=ws.length:=by rw [hp1];simp
  have hperm:(d'.toList.map (fun x=>x.1.2)).Perm L:=by
    have e1:d'.extract 0 L.length=d':=by rw [← hlw,← hds];simp
    have e2:ws.toArray.extract 0 L.length=ws.toArray:=by rw [← hlw];simp
    rw [e1,e2] at hp3
    rw [← h1]
    exact (by simpa using hp3.map (fun x=>x.1.2))
  refine ⟨rfl,_,hperm,?_,grown_sorted,hg,hb,?_⟩
  · rw [List.pairwise_map]
    refine List.pairwise_iff_getElem.2 (fun i j hi hj hij=>?_)
    have:=hs i j (Nat.zero_le _) hij (by simp at hj;omega)
    simp only [ltOf,WordIn.cf,decide_eq_false_iff_not] at this
    simp at hi hj
    simpa [hi,hj] using this
  · refine Kd.V_mk (by simp;omega) ?_
    intro W' hW'
    have hgw:W'.heap[g]?=(sortWorld WordIn.enc W g 0 n d' os).heap[g]?:=hW' g hb (Nat.lt_of_lt_of_le hg (grown_sorted (enc:=WordIn.enc)).size)
    have hcell:∀ j (h:j < d'.size),W'.cell? ⟨g,j,none⟩=some (d'[j]).enc:=fun j h=>by
      rw [World.cell?_of_block (a:=⟨g,j,none⟩) hgw]
      have e0:(sortWorld WordIn.enc W g 0 n d' os).cell? ⟨g,j,none⟩=(Sort.putRow WordIn.enc (Sort.ahead W n) g 0 d').cell? ⟨g,j,none⟩:=World.cell?_of_block (a:=⟨g,j,none⟩) (Sort.heap_grow_old _ _ (by simpa using hg))
      rw [e0]
      have:=Sort.cell?_putRow WordIn.enc (Sort.ahead W n) g 0 ws.toArray d' (Sort.holds_ahead _ _ _ _ _ _ hH) hp1 j h
      rw [Nat.zero_add] at this
      rw [this]
      simp [h]
    refine ⟨rfl,by simp;omega,fun _=>⟨⟨g,0,none⟩,rfl,fun j p hj=>?_⟩⟩
    have hjd:j < d'.size:=by
      have:=(List.getElem?_eq_some_iff.1 hj).1
      simpa using this
    have hp':p=(d'[j]).1.2:=by
      simp [hjd] at hj
      exact hj.symm
    obtain ⟨A,c,hx,hl,hn,hF⟩:=(d'[j]).2
    refine ⟨[(d'[j]).enc],rfl,⟨A,c,?_,?_,?_⟩,fun i u hi=>?_⟩
    · show [(d'[j]).1.1]=_
      rw [hx,hp']
    · rw [hp'];exact hl
    · rw [hp']
      refine hF W' (fun q hq hlt=>?_)
      rw [hW' q hq.1 (Nat.lt_of_lt_of_le hlt (grown_sorted (enc:=WordIn.enc)).size)]
      exact heap_sorted hlt hq.2
    · have hi0:i=0:=by
        cases i with
        | zero=>rfl
        | succ i=>simp at hi
      subst hi0
      have hu:u=(d'[j]).enc:=by simpa using hi.symm
      subst hu
      have:=hcell j hjd
      rw [show (Kd.slice 3 (Kd.int .i64)).sz=1 from rfl,Nat.mul_one,Nat.add_zero]
      rwa [add_plain]
def echo_Words.lett (k:Nat) (s:List UInt8):List Int:=(echo_letters.f k ⟨s.toArray⟩).getD []
/-- What the sort and the rows want. -/
def echo_Words.good (k:Nat) (S:List (List UInt8)):Prop:=0 < S.length∧S.length ≤ 1000000∧(∀ s ∈ S,(echo_letters.f k ⟨s.toArray⟩).isSome=true)∧(S.map (echo_Words.lett k)).Pairwise (fun x y=>lexc x y < 0)∧∀ x ∈ S.map (echo_Words.lett k),x.length ≤ 100000
instance (k:Nat) (S:List (List UInt8)):Decidable (echo_Words.good k S):=by unfold echo_Words.good;infer_instance
def echo_Words.f (k:Nat) (a0:Int):Option (List (List Int) × Int):=if a0 < 0 then some ([],1) else if a0 > 10 then some ([],1) else (echo_words.f k a0.toNat).bind fun S=>if echo_Words.good k S then some (S.map (echo_Words.lett k),0) else none
theorem echo_Words.mono:∀ a0 k,LeO (echo_Words.f k a0) (echo_Words.f (k + 1) a0):=by
  intro a0 k
  unfold echo_Words.f
  refine LeO.ite (LeO.refl _) (LeO.ite (LeO.refl _) (LeO.bind (echo_words.mono_n _ _) (fun S=>?_)))
  intro r hr
  split at hr
  · rename_i hg
    have hs:∀ s ∈ S,echo_letters.f (k + 1) ⟨s.toArray⟩=echo_letters.f k ⟨s.toArray⟩:=fun s hs=>by
      have:=hg.2.2.1 s hs
      rcases he:echo_letters.f k ⟨s.toArray⟩ with _|l
      · rw [he] at this;cases this
      · exact echo_letters.mono _ _ _ he
    have hm:S.map (echo_Words.lett (k + 1))=S.map (echo_Words.lett k):=List.map_congr_left (fun s h=>by unfold echo_Words.lett;rw [hs s h])
    have hg':echo_Words.good (k + 1) S:=by
      obtain ⟨g1,g2,g3,g4,g5⟩:=hg
      refine ⟨g1,g2,fun s h=>by rw [hs s h];exact g3 s h,?_,?_⟩
      · rw [hm];exact g4
      · rw [hm];exact g5
    rw [if_pos hg',hm]
    exact hr
  · cases hr
/-- The loop over the map. -/
def echo_Words.R (k:Nat) (w:World) (b r:Nat) (S:List (List UInt8)) (v:Value) (wr:World):Prop:=∃ T L,L=T.map (echo_Words.lett k)∧SetW.RangeOf Try.prog 9 4 wr b r S T∧Kd.R (Kd.slice 3 (Kd.int .i64)) 22 wr w.heap.size (fun q=>q ≠ b∧q ≠ r) v L∧Below w.heap.size w wr
def echo_Words.P (w:World) (r1:List (List Int)) (r2:Int) (e:Ending) (w':World):Prop:=∃ v0_:Value,e=.returned (.tuple #[v0_,.int .i64 r2])∧Kd.V (Kd.slice 3 (Kd.int .i64)) 22 w' w.heap.size (fun k_=>(w.heap.size ≤ k_)) v0_ r1∧Below w.heap.size w w'
theorem word_M {w7 w8:World} {base:Nat} {okp:Nat → Prop} {v:Value} {l:List Int} (h:Kd.R (Kd.int .i64) 3 w8 w7.heap.size (fun _=>True) v l) (hb:base ≤ w7.heap.size) (hok:∀ q,w7.heap.size ≤ q → okp q):(Kd.slice 3 (Kd.int .i64)).M w8 base okp l [v] :=
  ⟨v,rfl,Kd.R_lower (Kd.R_mono (Kd.R_bound h) (fun q hq=>hok q hq.2.1)) hb⟩
set_option maxHeartbeats 8000000 in
set_option maxRecDepth 100000 in
theorem echo_Words.main (k n:Nat) (hn:n ≤ 10) (w:World) (S0:List (List UInt8)) (hf:echo_words.f k n=some S0) (hg:echo_Words.good k S0):Calls Try.prog 38 #[.int .i64 n] w (echo_Words.P w (S0.map (echo_Words.lett k)) 0):=by
  have HC:=Aside0.mk (echo_words.calls k n (by omega) w ⟨S0,hf⟩)
  have HF:=Aside0.mk hf;have HG:=Aside0.mk hg
  have hd1:decide ((n:Int) < 0)=false:=decide_eq_false (by omega)
  have hd2:decide ((10:Int) < (n:Int))=false:=decide_eq_false (by omega)
  have hd3:decide (10 < n)=false:=decide_eq_false (by omega)
  clear hf hg
  go_enter Try.func38,Try.ntmps38
  go_wp2_with (first
    | (go_at_call 50;(with_reducible refine HC.out.mono ?_);rintro e w1 ⟨b,S,S1,rfl,hb,hs,hnd,hf1,hp,hB⟩;have HSS:=Aside0.mk hs;have HP:=Aside0.mk hp;have HND:=Aside0.mk hnd;have HF1:=Aside0.mk hf1;have HB:=Aside0.mk hB;have HBB:=Aside0.mk hb;clear hb hs hnd hf1 hp hB)
    | ((with_reducible refine gate_dst (N:=14) rfl ?_);refine SetW.range_set _ rfl (.tmp 13) 65 9 4 rfl Try.underlying9 Try.underlying65 b S rfl HSS.out ?_;intro r w3 hz3 hr3 hb3;have HR:=Aside0.mk hr3;have HB3:=Aside0.mk (below_step HB.out hb3);have HZR:Aside0 (w.heap.size ≤ r):=⟨by have:=HB.out.size;omega⟩;clear hr3 hb3 hz3))
  go_frame
  go_loopw [4] (fun v wr=>echo_Words.R k w b r S v wr) (fun _ wr=>wr.rangeLeft b r)
  case atStart=>exact ⟨[],[],rfl,HR.out,Kd.R_nil _ _ _ _ _,HB3.out⟩
  case round =>
    obtain ⟨T,L,hTL,hR,hO,hB⟩:=hrel
    have HTL:=Aside0.mk hTL
    clear hTL
    have HR1:=Aside0.mk hR;have HO1:=Aside0.mk hO;have HB1:=Aside0.mk hB
    clear hR hO hB HR HB3
    go_wp2_with ((at_next;refine SetW.next_set _ rfl (.tmp 14) rfl 9 4 Try.underlying9 Try.underlying4 b r S T rfl HR1.out (fun hall=>stop_ ?_) (fun s c w5 hsS hsT hr5 hl5 hg5 hz5 hen=>stop_ ?_)))
    · delta Stop
      have e1:S1=S0:=Option.some.inj (HF1.out.symm.trans HF.out)
      have hperm:T.Perm S0:=by rw [← e1];exact ((List.perm_ext_iff_of_nodup HR1.out.1 HND.out).2 fun a=>⟨HR1.out.2.1 a,hall a⟩).trans HP.out
      have hl:L.length=S0.length:=by rw [HTL.out,List.length_map];exact hperm.length_eq
      obtain ⟨g,cap,hv,hbg,hgl,cells,hcg⟩:=Kd.R_form HO1.out (by rw [hl];exact HG.out.1)
      subst hv
      have hS:=sort_words HO1.out (by rw [hl];exact HG.out.1) (fun x hx=>HG.out.2.2.2.2 x ((hperm.map _).mem_iff.1 (by rw [← HTL.out];exact hx))) (by rw [hl];exact HG.out.2.1)
      have HS:=Aside0.mk hS;have HPM:=Aside0.mk hperm;have HBG:=Aside0.mk hbg;have HGL:=Aside0.mk hgl
      clear hS hperm hl hbg hgl hcg hall e1
      go_wp2_with (go_at_call 52;(with_reducible refine HS.out.mono ?_);rintro e w6 ⟨rfl,L',hp',hs',hg',hgl',hbg',hV'⟩;have HP':=Aside0.mk hp';have HS':=Aside0.mk hs';have HG':=Aside0.mk hg';have HV':=Aside0.mk hV';clear hp' hs' hg' hgl' hbg' hV')
      go_ret2
      have hL:L'=S0.map (echo_Words.lett k):=(lexc_unique _ _ ((HP'.out.trans (by rw [HTL.out];exact HPM.out.map _)).symm) HG.out.2.2.2.1 (HS'.out.imp (fun h=>by omega))).symm
      have hlen:L.length=L'.length:=HP'.out.length_eq.symm
      refine ⟨_,rfl,?_,Below.grown HB1.out HG'.out HB1.out.size (fun q hq=>by have:=HBG.out;simp at hq;omega)⟩
      rw [← hL]
      show Kd.V _ _ _ _ _ (.slice (some ⟨g,0,none⟩) L.length cap) L'
      rw [hlen]
      exact HV'.out
    · delta Stop
      have e1:S1=S0:=Option.some.inj (HF1.out.symm.trans HF.out)
      have hsome:echo_letters.f k s=some (echo_Words.lett k s.data.toList):=by
        have h1:=HG.out.2.2.1 s.data.toList (HP.out.mem_iff.1 hsS |> fun h=>by rwa [e1] at h)
        have h2:(⟨s.data.toList.toArray⟩:ByteArray)=s:=by cases s;rfl
        unfold echo_Words.lett
        rw [h2] at h1 ⊢
        rcases he:echo_letters.f k s with _|l
        · rw [he] at h1;cases h1
        · rfl
      have hroom:(L.length + 1) * 24 ≤ 140737488355328:=by
        have h3:=nodup_len T S HR1.out.1 HR1.out.2.1
        have h4:=HP.out.length_eq
        have h5:=HG.out.2.1
        rw [HTL.out,List.length_map]
        rw [e1] at h4
        omega
      have HL:=Aside0.mk hsome;have HRM:=Aside0.mk hroom;have HL5:=Aside0.mk hl5;have HR5:=Aside0.mk hr5
      have HO5:=Aside0.mk (Kd.R_grown HO1.out hg5 (fun q hq e=>hq.2 (by injection e)))
      have HB5:=Aside0.mk (Below.grown HB1.out hg5 HB1.out.size (fun z hz=>by have:=HZR.out;simp at hz;omega))
      have HZ5:=Aside0.mk hz5
      clear hsome hroom e1 hl5 hr5 hg5 hz5 hsS hsT
      go_wp2_with (first
        | (go_at_call 51;(with_reducible refine (echo_letters.calls k s (echo_Words.lett k s.data.toList) _ HL.out).mono ?_);rintro e w8 ⟨v8,rfl,ho8,hb8⟩;obtain ⟨A8,c8,eo8⟩:=Kd.R_slice ho8;subst eo8;have HM8:=Aside0.mk (word_M (base:=w.heap.size) (okp:=fun q=>w5.heap.size ≤ q) ho8 HB5.out.size (fun q h=>h));have HR8:=Aside0.mk (HR5.out.below hb8);have HO8:=Aside0.mk (Kd.R_below HO5.out hb8);have HL8:Aside0 (w8.rangeLeft b r < wr.rangeLeft b r):=⟨by rw [SetW.left_heap (hb8.block b HR5.out.lt.1) (hb8.block r HR5.out.lt.2)];exact HL5.out⟩;have HB8:=Aside0.mk (below_step HB5.out hb8);have HS8:=Aside0.mk hb8.size;clear ho8 hb8)
        | ((with_reducible refine gate_builtin (b:=.append) (xs:=#[.tmp 19,.tmp 22]) rfl ?_);at_builtin;refine Kd.R_append (Kd.slice 3 (Kd.int .i64)) (w0:=w) w.heap.size rfl (.tmp 19) (.tmp 22) 45 22 (.slice none 0 0) 24 rfl Try.underlying45 info22 rfl (by decide) (by omega) _ L (echo_Words.lett k s.data.toList) [.slice A8 (echo_Words.lett k s.data.toList).length c8] (fun q=>q ≠ b∧q ≠ r) (fun q=>w5.heap.size ≤ q) rfl rfl HM8.out ?aK ?aF HO8.out HB8.out HB8.out.size HRM.out ?_;(case aK=>exact fun q hq=>⟨by have:=HR5.out.lt;omega,fun e=>by have:=(Kd.R_bound HO5.out).1 q e.symm;omega⟩);(case aF=>exact fun q hq=>by have:=HR8.out.lt;omega);intro v9 w9 ho9 hb9 hg9 hat9;have HO9:=Aside0.mk ho9;have HB9:=Aside0.mk hb9;have HR9:=Aside0.mk (HR8.out.heap (hg9.block b HR8.out.lt.1 (fun e=>(HO8.out.1 b e.symm).1 rfl)) (hg9.block r HR8.out.lt.2 (fun e=>(HO8.out.1 r e.symm).2 rfl)));have HL9:Aside0 (w9.rangeLeft b r < wr.rangeLeft b r):=⟨by rw [SetW.left_heap (hg9.block b HR8.out.lt.1 (fun e=>(HO8.out.1 b e.symm).1 rfl)) (hg9.block r HR8.out.lt.2 (fun e=>(HO8.out.1 r e.symm).2 rfl))];exact HL8.out⟩;clear ho9 hb9 hg9 hat9))
      go_roundw
      case rel=>exact ⟨T ++ [s.data.toList],_,by rw [List.map_append,HTL.out];rfl,HR9.out,HO9.out,HB9.out⟩
      case measure=>exact HL9.out
theorem echo_Words.calls (k:Nat) (a0:Int) (r1:List (List Int)) (r2:Int) (w:World) (h:echo_Words.f k a0=some (r1,r2)) :
    Calls Try.prog 38 #[.int .i64 a0] w fun e w'=>∃ v0_:Value,e=.returned (.tuple #[v0_,.int .i64 r2])∧Kd.V (Kd.slice 3 (Kd.int .i64)) 22 w' w.heap.size (fun k_=>(w.heap.size ≤ k_)) v0_ r1∧Below w.heap.size w w':=by
  unfold echo_Words.f at h
  by_cases h1:a0 < 0
  · rw [if_pos h1] at h
    have hd1:decide (a0 < 0)=true:=decide_eq_true h1
    obtain ⟨rfl,rfl⟩:=Prod.mk.inj (Option.some.inj h)
    clear h h1
    go_enter Try.func38,Try.ntmps38
    go_wp2
    go_ret2
    exact ⟨_,rfl,Kd.V_nil _ _ _ _ _,Below.refl _ _⟩
  · rw [if_neg h1] at h
    have hd1:decide (a0 < 0)=false:=decide_eq_false h1
    by_cases h2:a0 > 10
    · rw [if_pos h2] at h
      have hd2:decide (10 < a0)=true:=decide_eq_true h2
      obtain ⟨rfl,rfl⟩:=Prod.mk.inj (Option.some.inj h)
      clear h h1 h2
      go_enter Try.func38,Try.ntmps38
      go_wp2
      go_ret2
      exact ⟨_,rfl,Kd.V_nil _ _ _ _ _,Below.refl _ _⟩
    · rw [if_neg h2] at h
      obtain ⟨S0,hS0,h9⟩:=Option.bind_eq_some_iff.mp h
      obtain ⟨n,rfl⟩:∃ n:Nat,a0=n:=⟨a0.toNat,by omega⟩
      rw [Int.toNat_natCast] at hS0
      split at h9
      · rename_i hg
        obtain ⟨rfl,rfl⟩:=Prod.mk.inj (Option.some.inj h9)
        exact echo_Words.main k n (by omega) w S0 hS0 hg
      · cases h9

end Go.Proofs.Ytploaicljkennaa.PW
