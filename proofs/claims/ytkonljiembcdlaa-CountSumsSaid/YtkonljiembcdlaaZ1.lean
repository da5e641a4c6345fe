import Derived.Test.YtkonljiembcdlaaPCx0
import Derived.Deep.Slices
import Derived.Test.YtkonljiembcdlaaZ0
/- A query, and a plan, as arguments: opened. -/
set_option linter.unusedVariables false
set_option linter.constructorNameAsVariable false
namespace Go.Proofs.Ytkonljiembcdlaa.RowT
open Go.ChangeShapes Go.WideShapes Go.ChangeAt Go.RowKit Go.Joins Go.Proofs.YtkonljiembcdlaaW.PrintWords Go.Proofs.Ytkonljiembcdlaa.PC
theorem list_of {α:Type} {p:Nat → α → Prop}:∀ n:Nat,(∀ i,i < n → ∃ y,p i y) → ∃ xs:List α,xs.length=n∧∀ i y,xs[i]?=some y → p i y
  | 0,_=>⟨[],rfl,fun i y h=>by simp at h⟩
  | n + 1,h=>by
    obtain ⟨xs,h1,h2⟩:=list_of n (fun i hi=>h i (by omega))
    obtain ⟨y,hy⟩:=h n (by omega)
    refine ⟨xs ++ [y],by simp [h1],fun i z hz=>?_⟩
    by_cases hi:i < n
    · rw [List.getElem?_append_left (by omega)] at hz
      exact h2 i z hz
    · have:i < (xs ++ [y]).length:=by
        apply Classical.byContradiction
        intro hn
        rw [List.getElem?_eq_none (by omega)] at hz
        cases hz
      obtain rfl:i=n:=by simp [h1] at this;omega
      rw [List.getElem?_append_right (by omega),h1,Nat.sub_self] at hz
      obtain rfl:=Option.some.inj hz
      exact hy
section
variable {H:Type} {enc:TypeId × Value → H} {w:World} {base:Nat} {held:Bool}
theorem addr_add (a:Addr) (m k:Nat):(a.add m).add k=a.add (m + k):=by
  by_cases h1:k=0
  · subst h1;simp [Addr.add]
  · by_cases h2:m=0
    · subst h2;simp [Addr.add,h1]
    · simp [Addr.add,h1,h2,Nat.add_assoc]
theorem C_of_trod {α:Type} (d:Kd α) {t e:TypeId} (ht:Try.prog.underlying t=some (.slice e)) (hc:Try.prog.cellsOf e=d.sz)
    (hx:∀ fuel cs x,DataW.trod enc Try.prog w base (fun _=>true) held fuel e cs=some x → ∃ y,d.K w y cs) {fuel:Nat} {cs:List Value} {x:DataW H × List MemPlace} (h:DataW.trod enc Try.prog w base (fun _=>true) held fuel t cs=some x) :
    ∃ (A:Option Addr) (c:Nat) (xs:List α),cs=[.slice A xs.length c]∧xs.length ≤ c∧d.C w A xs.length xs:=by
  rcases Go.Deep.open_slice ht h with ⟨rfl,_⟩|⟨a,len,cap,m,n,D,Pl,rfl,_,hl,hm,hmm,_,hel⟩
  · exact ⟨none,0,[],rfl,Nat.le_refl _,rfl,Nat.zero_le _,fun h=>by simp at h⟩
  · have hlm:len ≤ m:=by rw [hmm];simp;exact hl
    have hcap:cap ≤ 9223372036854775807:=hm
    obtain ⟨xs,h1,h2⟩:=list_of (p:=fun i y=>∃ c:List Value,c.length=d.sz∧d.K w y c∧∀ k u,c[k]?=some u → w.cell? (a.add (i * d.sz + k))=some u) len (fun i hi=>by
      obtain ⟨cs',hcs,hr⟩:=hel i (by omega)
      obtain ⟨_,hlen,hcell⟩:=World.cells?_some hcs
      obtain ⟨y,hy⟩:=hx n cs' _ hr
      refine ⟨y,cs',hlen.trans hc,hy,fun k u hu=>?_⟩
      have hk:k < cs'.length:=by
        apply Classical.byContradiction
        intro hn
        rw [List.getElem?_eq_none (by omega)] at hu
        cases hu
      have:=hcell k (by omega)
      rw [hu,hc] at this
      have e:(a.add (i * d.sz)).add k=a.add (i * d.sz + k):=addr_add a _ k
      rw [e] at this
      exact this)
    refine ⟨some a,cap,xs,by rw [h1],by omega,rfl,by omega,fun _=>⟨a,rfl,h2⟩⟩
theorem int_of_trod:∀ (fuel:Nat) (cs:List Value) (x:DataW H × List MemPlace),DataW.trod enc Try.prog w base (fun _=>true) held fuel 3 cs=some x → ∃ y,(Kd.int .i64).K w y cs:=fun fuel cs x h=>by
  obtain ⟨n,rfl,_,_⟩:=DataW.trod_int Try.underlying3 h
  exact ⟨n,rfl⟩
theorem ints_of_trod {fuel:Nat} {cs:List Value} {x:DataW H × List MemPlace} (h:DataW.trod enc Try.prog w base (fun _=>true) held fuel 23 cs=some x):∃ (A:Option Addr) (c:Nat) (xs:List Int),cs=[.slice A xs.length c]∧xs.length ≤ c∧(Kd.int .i64).C w A xs.length xs :=
  C_of_trod (Kd.int .i64) Try.underlying23 (by kernel_rfl) int_of_trod h
set_option maxRecDepth 100000 in
theorem lin_of_trod (fuel:Nat) (cs:List Value) (x:DataW H × List MemPlace) (h:DataW.trod enc Try.prog w base (fun _=>true) held fuel 60 cs=some x):∃ y,k60.K w y cs:=by
  have c60:Try.prog.cellsOf 60=2:=by kernel_rfl
  have c23:Try.prog.cellsOf 23=1:=by kernel_rfl
  have c58:Try.prog.cellsOf 58=1:=by kernel_rfl
  obtain ⟨y0,y1,n,_,hl,h0,h1⟩:=trod_struct2 Try.underlying60 h
  rw [c60] at hl
  match cs,hl with
  | [v0,v1],_ =>
    have e0:(([v0,v1]:List Value).drop 0).take (Try.prog.cellsOf 23)=[v0]:=by rw [c23];rfl
    have e1:(([v0,v1]:List Value).drop 1).take (Try.prog.cellsOf 58)=[v1]:=by rw [c58];rfl
    dsimp only at h0 h1
    rw [e0] at h0
    rw [e1] at h1
    obtain ⟨A0,c0,xs,hv0,hl0,g0⟩:=ints_of_trod h0
    obtain ⟨A1,c1,ys,hv1,hl1,g1⟩:=C_of_trod (Kd.slice 3 (Kd.int .i64)) Try.underlying58 c23 (fun fuel cs x h=>by
      obtain ⟨A,c,zs,rfl,hl,g⟩:=ints_of_trod h
      exact ⟨zs,A,c,rfl,hl,g⟩) h1
    obtain rfl:v0=.slice A0 xs.length c0:=by simpa using hv0
    obtain rfl:v1=.slice A1 ys.length c1:=by simpa using hv1
    exact ⟨⟨xs,ys⟩,k60_mk w ⟨xs,ys⟩ hl0 g0 hl1 g1⟩
set_option maxRecDepth 100000 in
theorem lins_of_trod {fuel:Nat} {cs:List Value} {x:DataW H × List MemPlace} (h:DataW.trod enc Try.prog w base (fun _=>true) held fuel 22 cs=some x):∃ (A:Option Addr) (c:Nat) (xs:List S60),cs=[.slice A xs.length c]∧xs.length ≤ c∧k60.C w A xs.length xs :=
  C_of_trod k60 Try.underlying22 (by kernel_rfl) lin_of_trod h
set_option maxRecDepth 100000 in
theorem open_query {r:Reach} {b0:Nat} {v:Value} {d:DataW H} {p:List MemPlace} (hv:Value.okWide Try.prog w r b0 25 v) (h:DataW.Trod enc Try.prog w base (fun _=>true) held 25 v d p) :
    ∃ (D N:Int) (A2:Option Addr) (c2:Nat) (X:List S60) (A3:Option Addr) (c3:Nat) (Y:List S60) (A4:Option Addr) (c4:Nat) (V:List Int),v=.agg #[.int .i64 D,.int .i64 N,.slice A2 X.length c2,.slice A3 Y.length c3,.slice A4 V.length c4] ∧
      (Lit.int .i64 D).wf=true∧(Lit.int .i64 N).wf=true∧k60.C w A2 X.length X∧X.length ≤ c2∧k60.C w A3 Y.length Y∧Y.length ≤ c3∧(Kd.int .i64).C w A4 V.length V∧V.length ≤ c4:=by
  obtain ⟨cs,rfl,hsz⟩:=okWide_struct Try.underlying25 hv
  have c25:Try.prog.cellsOf 25=5:=by kernel_rfl
  have c3':Try.prog.cellsOf 3=1:=by kernel_rfl
  have c22:Try.prog.cellsOf 22=1:=by kernel_rfl
  have c23:Try.prog.cellsOf 23=1:=by kernel_rfl
  rw [c25] at hsz
  obtain ⟨l,rfl⟩:∃ l:List Value,cs=l.toArray:=⟨cs.toList,by simp⟩
  have hl:l.length=5:=by simpa using hsz
  obtain ⟨fuel,hf⟩:=h
  match l,hl with
  | [v0,v1,v2,v3,v4],_ =>
    cases fuel with
    | zero=>simp [DataW.trod] at hf
    | succ m =>
      rw [DataW.trod_step] at hf
      unfold DataW.trodStep at hf
      simp only [Try.underlying25,Value.cells] at hf
      rw [if_pos (by rw [c25];rfl)] at hf
      simp only [Option.map_eq_some_iff] at hf
      obtain ⟨ys,hy,_⟩:=hf
      simp only [c3',c22,c23,List.mapM_cons,List.mapM_nil,bind,pure,Option.bind_eq_some_iff,Option.some.injEq] at hy
      obtain ⟨y0,h0,_,⟨y1,h1,_,⟨y2,h2,_,⟨y3,h3,_,⟨y4,h4,_,rfl,rfl⟩,rfl⟩,rfl⟩,rfl⟩,rfl⟩:=hy
      obtain ⟨D,eD,_,wD⟩:=DataW.trod_int Try.underlying3 h0
      obtain ⟨N,eN,_,wN⟩:=DataW.trod_int Try.underlying3 h1
      obtain ⟨A2,c2,X,eX,l2,g2⟩:=lins_of_trod h2
      obtain ⟨A3,c3,Y,eY,l3,g3⟩:=lins_of_trod h3
      obtain ⟨A4,c4,V,eV,l4,g4⟩:=ints_of_trod h4
      simp at eD eN eX eY eV
      subst eD eN eX eY eV
      exact ⟨D,N,A2,c2,X,A3,c3,Y,A4,c4,V,rfl,wD,wN,g2,l2,g3,l3,g4,l4⟩
end
end Go.Proofs.Ytkonljiembcdlaa.RowT
