import Derived.Test.YtkonljiembcdlaaPCx0
import Derived.Test.YtkonljiembcdlaaPCx1
import Derived.Test.YtkonljiembcdlaaPCx4
import Derived.Test.YtkonljiembcdlaaPCx3
import Derived.Test.YtkonljiembcdlaaMyTiny
import Derived.Test.YtkonljiembcdlaaPCx5
import Derived.Test.YtkonljiembcdlaaPCx2
import Derived.Test.YtkonljiembcdlaaProg
import Derived.WalkKit
import Derived.ProofKit
import Derived.OpenShut
import Derived.Lib.SmallJoins
import Derived.SizedLaws
import Derived.Deep.Slices
import Derived.Test.YtkonljiembcdlaaZ0
/- Which error semilinear sets have, by the program and by the reference, in plain Lean. -/
set_option linter.unusedVariables false
set_option linter.unusedSimpArgs false
namespace Go.Proofs.Ytkonljiembcdlaa.Pure
open Go.RowKit Go.Proofs.MyWords Go.Proofs.YtkonljiembcdlaaW.PrintWords Go.Proofs.YtkonljiembcdlaaW.PrintLast Go.Proofs.YtkonljiembcdlaaW.PrintMore Go.Proofs.Ytkonljiembcdlaa.PC Go.Proofs.Ytkonljiembcdlaa.Sem
def farV (v:List Int):Bool:=v.any fun x=>decide (x < 0) || decide (20 < x)
def oddV (d:Int) (v:List Int):Bool:=(v.length:Int) != d
def longS (s:List S60):Bool:=s.any (fun l=>decide ((l.f1.length:Int) > 4)) || decide ((s.length:Int) > 8)
def wideS (s:List S60):Bool:=s.any fun l=>farV l.f0 || l.f1.any farV
def oddS (d:Int) (s:List S60):Bool:=s.any fun l=>oddV d l.f0 || l.f1.any (oddV d)
def badD (d:Int):Bool:=decide (d < 1) || decide (d > 3)
def chk (d:Int) (ss:List (List S60)):Int:=if ss.any longS=true then 3 else if (badD d || ss.any wideS)=true then 1 else if ss.any (oddS d)=true then 2 else 0
def short {α:Type} (l:List α):Prop:=l.length < 1000000000
theorem short.tail {α:Type} {x:α} {l:List α} (h:short (x :: l)):short l:=by unfold short at *;simp at h;omega
section
variable (d:Int) (lg:Bool) (ss:List (List S60)) (n2 i2:Int) (set:List S60) (n1 i1:Int)
theorem check_l2:∀ (t pre:List (List Int)) (fr od:Bool) (r:Int),short (pre ++ t) → Ev (fun k=>count_check.l1 k d lg (fr || t.any farV) (od || t.any (oddV d)) ss n2 i2 set n1 (wrap64 (i1 + 1))) r →
    Ev (fun k=>count_check.l2 k d lg fr od ss n2 i2 set n1 i1 (pre ++ t) ((pre ++ t).length:Int) (pre.length:Int)) r
  | [],pre,fr,od,r,hs,h=>by
    refine Ev.succ ?_
    simp only [count_check.l2]
    refine Ev.neg (by simp) ?_
    simpa using h
  | p :: t,pre,fr,od,r,hs,h=>by
    have ws:wrap64 ((pre.length:Int) + 1)=((pre.length + 1:Nat):Int):=wsucc (by unfold short at hs;simp at hs;omega)
    have ih:∀ fr od,Ev (fun k=>count_check.l1 k d lg (fr || t.any farV) (od || t.any (oddV d)) ss n2 i2 set n1 (wrap64 (i1 + 1))) r → Ev (fun k=>count_check.l2 k d lg fr od ss n2 i2 set n1 i1 (pre ++ p :: t) ((pre ++ p :: t).length:Int) ((pre.length + 1:Nat):Int)) r:=fun fr od h2=>by
      have:=check_l2 t (pre ++ [p]) fr od r (by rw [← app_snoc];exact hs) h2
      rw [← app_snoc,← len_snoc] at this
      exact this
    rw [List.any_cons,List.any_cons,← Bool.or_assoc,← Bool.or_assoc] at h
    refine Ev.succ ?_
    simp only [count_check.l2,rdL1_app,ws]
    refine Ev.pos (lt_app _ _ _) (Ev.pos (by omega) (Ev.pos (lt_app _ _ _) ?_))
    have inner:∀ f2,f2=(fr || farV p) → Ev (fun k=>if od=true then count_check.l2 k d lg f2 true ss n2 i2 set n1 i1 (pre ++ p :: t) ((pre ++ p :: t).length:Int) ((pre.length + 1:Nat):Int) else count_check.l2 k d lg f2 ((p.length:Int) != d) ss n2 i2 set n1 i1 (pre ++ p :: t) ((pre ++ p :: t).length:Int) ((pre.length + 1:Nat):Int)) r:=fun f2 e=>by
      subst e
      cases od with
      | true=>exact Ev.pos rfl (ih _ _ h)
      | false=>exact Ev.neg (by simp) (ih _ _ h)
    cases fr with
    | true=>exact Ev.pos rfl (inner _ rfl)
    | false =>
      refine Ev.neg (by simp) ?_
      refine Ev.bindc (x:=farV p) rfl ?_
      exact inner _ rfl
end
theorem check_l1 (d:Int) (ss:List (List S60)) (n2 i2:Int):∀ (t pre:List S60) (lg fr od:Bool) (r:Int),short (pre ++ t) → (∀ l,l ∈ t → short l.f1) →
    Ev (fun k=>count_check.l0 k d (lg || t.any (fun l=>decide ((l.f1.length:Int) > 4))) (fr || wideS t) (od || oddS d t) ss n2 (wrap64 (i2 + 1))) r →
    Ev (fun k=>count_check.l1 k d lg fr od ss n2 i2 (pre ++ t) ((pre ++ t).length:Int) (pre.length:Int)) r
  | [],pre,lg,fr,od,r,hs,hp,h=>by
    refine Ev.succ ?_
    simp only [count_check.l1]
    refine Ev.neg (by simp) ?_
    simpa [wideS,oddS] using h
  | l :: t,pre,lg,fr,od,r,hs,hp,h=>by
    have ws:wrap64 ((pre.length:Int) + 1)=((pre.length + 1:Nat):Int):=wsucc (by unfold short at hs;simp at hs;omega)
    have ih:∀ lg fr od,Ev (fun k=>count_check.l0 k d (lg || t.any (fun l=>decide ((l.f1.length:Int) > 4))) (fr || wideS t) (od || oddS d t) ss n2 (wrap64 (i2 + 1))) r → Ev (fun k=>count_check.l1 k d lg fr od ss n2 i2 (pre ++ l :: t) ((pre ++ l :: t).length:Int) ((pre.length + 1:Nat):Int)) r:=fun lg fr od h2=>by
      have:=check_l1 d ss n2 i2 t (pre ++ [l]) lg fr od r (by rw [← app_snoc];exact hs) (fun x hx=>hp x (by simp [hx])) h2
      rw [← app_snoc,← len_snoc] at this
      exact this
    have e1:wideS (l :: t)=(farV l.f0 || l.f1.any farV || wideS t):=by unfold wideS;rw [List.any_cons]
    have e2:oddS d (l :: t)=(oddV d l.f0 || l.f1.any (oddV d) || oddS d t):=by unfold oddS;rw [List.any_cons]
    rw [List.any_cons,e1,e2,← Bool.or_assoc,← Bool.or_assoc,← Bool.or_assoc,← Bool.or_assoc,← Bool.or_assoc] at h
    have s6:∀ lg fr od,Ev (fun k=>count_check.l0 k d (lg || t.any (fun l=>decide ((l.f1.length:Int) > 4))) (fr || l.f1.any farV || wideS t) (od || l.f1.any (oddV d) || oddS d t) ss n2 (wrap64 (i2 + 1))) r → Ev (fun k=>count_check.j6 k d lg fr od ss n2 i2 (pre ++ l :: t) ((pre ++ l :: t).length:Int) (pre.length:Int) l.f0 l.f1) r:=fun lg fr od h2=>by
      refine Ev.succ ?_
      simp only [count_check.j6]
      refine check_l2 d lg ss n2 i2 _ _ _ l.f1 [] fr od r (hp l (by simp)) ?_
      rw [ws]
      exact ih _ _ _ h2
    have s5:∀ lg fr od,Ev (fun k=>count_check.l0 k d (lg || t.any (fun l=>decide ((l.f1.length:Int) > 4))) (fr || l.f1.any farV || wideS t) (od || oddV d l.f0 || l.f1.any (oddV d) || oddS d t) ss n2 (wrap64 (i2 + 1))) r → Ev (fun k=>count_check.j5 k d lg fr od ss n2 i2 (pre ++ l :: t) ((pre ++ l :: t).length:Int) (pre.length:Int) l.f0 l.f1) r:=fun lg fr od h2=>by
      refine Ev.succ ?_
      simp only [count_check.j5]
      cases od with
      | true=>exact Ev.pos rfl (s6 _ _ _ (by simpa using h2))
      | false=>exact Ev.neg (by simp) (s6 _ _ _ (by simpa [oddV] using h2))
    have s4:∀ lg fr od,Ev (fun k=>count_check.l0 k d (lg || t.any (fun l=>decide ((l.f1.length:Int) > 4))) (fr || farV l.f0 || l.f1.any farV || wideS t) (od || oddV d l.f0 || l.f1.any (oddV d) || oddS d t) ss n2 (wrap64 (i2 + 1))) r → Ev (fun k=>count_check.j4 k d lg fr od ss n2 i2 (pre ++ l :: t) ((pre ++ l :: t).length:Int) (pre.length:Int) l.f0 l.f1) r:=fun lg fr od h2=>by
      refine Ev.succ ?_
      simp only [count_check.j4]
      cases fr with
      | true=>exact Ev.pos rfl (s5 _ _ _ (by simpa using h2))
      | false =>
        refine Ev.neg (by simp) ?_
        refine Ev.bindc (x:=farV l.f0) rfl ?_
        exact s5 _ _ _ (by simpa using h2)
    refine Ev.succ ?_
    simp only [count_check.l1,rdT60_app]
    refine Ev.pos (lt_app _ _ _) (Ev.pos (by omega) (Ev.pos (lt_app _ _ _) ?_))
    cases lg with
    | true=>exact Ev.pos rfl (s4 _ _ _ (by simpa using h))
    | false=>exact Ev.neg (by simp) (s4 _ _ _ (by simpa using h))
def tell (lg fr od:Bool):Int:=if lg=true then 3 else if fr=true then 1 else if od=true then 2 else 0
theorem check_l0 (d:Int):∀ (t pre:List (List S60)) (lg fr od:Bool),short (pre ++ t) → (∀ s,s ∈ t → short s∧∀ l,l ∈ s → short l.f1) →
    Ev (fun k=>count_check.l0 k d lg fr od (pre ++ t) ((pre ++ t).length:Int) (pre.length:Int)) (tell (lg || t.any longS) (fr || t.any wideS) (od || t.any (oddS d)))
  | [],pre,lg,fr,od,hs,hp=>by
    refine Ev.succ ?_
    simp only [count_check.l0]
    refine Ev.neg (by simp) ?_
    unfold tell
    cases lg
    · refine Ev.neg (by simp) ?_
      cases fr
      · refine Ev.neg (by simp) ?_
        cases od
        · exact Ev.neg (by simp) (Ev.now _)
        · exact Ev.pos rfl (Ev.now _)
      · exact Ev.pos rfl (Ev.now _)
    · exact Ev.pos rfl (Ev.now _)
  | s :: t,pre,lg,fr,od,hs,hp=>by
    have ws:wrap64 ((pre.length:Int) + 1)=((pre.length + 1:Nat):Int):=wsucc (by unfold short at hs;simp at hs;omega)
    have ih:∀ lg fr od,Ev (fun k=>count_check.l0 k d lg fr od (pre ++ s :: t) ((pre ++ s :: t).length:Int) ((pre.length + 1:Nat):Int)) (tell (lg || t.any longS) (fr || t.any wideS) (od || t.any (oddS d))):=fun lg fr od=>by
      have:=check_l0 d t (pre ++ [s]) lg fr od (by rw [← app_snoc];exact hs) (fun x hx=>hp x (by simp [hx]))
      rw [← app_snoc,← len_snoc] at this
      exact this
    have j2:∀ lg,Ev (fun k=>count_check.j2 k d lg fr od s (pre ++ s :: t) ((pre ++ s :: t).length:Int) (pre.length:Int)) (tell ((lg || s.any (fun l=>decide ((l.f1.length:Int) > 4))) || t.any longS) (fr || wideS s || t.any wideS) (od || oddS d s || t.any (oddS d))):=fun lg=>by
      refine Ev.succ ?_
      simp only [count_check.j2]
      refine check_l1 d _ _ _ s [] lg fr od _ (hp s (by simp)).1 (hp s (by simp)).2 ?_
      rw [ws]
      exact ih _ _ _
    refine Ev.succ ?_
    simp only [count_check.l0,rdL4_app]
    refine Ev.pos (lt_app _ _ _) (Ev.pos (by omega) (Ev.pos (lt_app _ _ _) ?_))
    rw [List.any_cons,List.any_cons,List.any_cons,← Bool.or_assoc,← Bool.or_assoc,← Bool.or_assoc]
    cases lg with
    | true =>
      refine Ev.pos rfl ?_
      simpa using j2 true
    | false =>
      refine Ev.neg (by simp) ?_
      have:=j2 (decide ((s.length:Int) > 8))
      rw [Bool.or_comm (decide ((s.length:Int) > 8))] at this
      rw [Bool.false_or]
      exact this
theorem check_ev (d:Int) (ss:List (List S60)) (hs:short ss) (hp:∀ s,s ∈ ss → short s∧∀ l,l ∈ s → short l.f1):Ev (fun k=>count_check.f k d ss) (chk d ss):=by
  have go:∀ fr,Ev (fun k=>count_check.j0 k d ss false fr false) (tell (ss.any longS) (fr || ss.any wideS) (ss.any (oddS d))):=fun fr=>by
    refine Ev.succ ?_
    simp only [count_check.j0]
    have:=check_l0 d ss [] false fr false hs hp
    simpa using this
  unfold count_check.f
  by_cases h:d < 1
  · have e:badD d=true:=by unfold badD;simp [h]
    refine Ev.pos h ?_
    have:=go true
    unfold chk
    rw [e]
    exact this
  · have e:badD d=decide (d > 3):=by unfold badD;simp [h]
    refine Ev.neg h ?_
    have:=go (decide (d > 3))
    unfold chk
    rw [e]
    exact this
def shortL (l:S60):Prop:=short l.f0∧short (l.f0 :: l.f1)∧∀ p,p ∈ l.f1 → short p
def shortS (s:List S60):Prop:=short s∧∀ l,l ∈ s → shortL l
def okSet (d:Nat) (s:List S60):Prop:=s.length ≤ 8∧∀ l,l ∈ s → okV d 20 l.f0∧l.f1.length ≤ 4∧∀ p,p ∈ l.f1 → okV d 20 p
theorem farV_iff (v:List Int):farV v=false ↔ inB 20 v:=by
  have:=outside_iff v 20
  unfold farV
  rw [← Bool.not_eq_true,this]
  exact ⟨fun h=>Classical.byContradiction h,fun h h2=>h2 h⟩
theorem oddV_iff (d:Int) (v:List Int):oddV d v=false ↔ (v.length:Int)=d:=by unfold oddV;simp
theorem chk_ok {d:Int} {ss:List (List S60)}:chk d ss=0 ↔ (1 ≤ d∧d ≤ 3)∧∀ s,s ∈ ss → okSet d.toNat s:=by
  have hl:∀ s,longS s=false ↔ s.length ≤ 8∧∀ l,l ∈ s → l.f1.length ≤ 4:=fun s=>by
    unfold longS
    rw [Bool.or_eq_false_iff,← Bool.not_eq_true,List.any_eq_true,decide_eq_false_iff_not]
    constructor
    · rintro ⟨h1,h2⟩
      exact ⟨by omega,fun l hl=>Nat.le_of_not_lt (fun h=>h1 ⟨l,hl,decide_eq_true (by omega)⟩)⟩
    · rintro ⟨h1,h2⟩
      exact ⟨fun ⟨l,hl,h⟩=>by have:=h2 l hl;have:=of_decide_eq_true h;omega,by omega⟩
  have hw:∀ s,wideS s=false ↔ ∀ l,l ∈ s → inB 20 l.f0∧∀ p,p ∈ l.f1 → inB 20 p:=fun s=>by
    unfold wideS
    rw [← Bool.not_eq_true,List.any_eq_true]
    constructor
    · intro h l hl
      have:(farV l.f0 || l.f1.any farV)=false:=by
        rw [← Bool.not_eq_true];exact fun h2=>h ⟨l,hl,h2⟩
      rw [Bool.or_eq_false_iff,← Bool.not_eq_true (l.f1.any farV),List.any_eq_true] at this
      exact ⟨(farV_iff _).1 this.1,fun p hp=>(farV_iff _).1 (by rw [← Bool.not_eq_true];exact fun h2=>this.2 ⟨p,hp,h2⟩)⟩
    · rintro h ⟨l,hl,h2⟩
      rcases (Bool.or_eq_true _ _).mp h2 with h2|h2
      · rw [(farV_iff _).2 (h l hl).1] at h2;cases h2
      · obtain ⟨p,hp,h2⟩:=List.any_eq_true.1 h2
        rw [(farV_iff _).2 ((h l hl).2 p hp)] at h2;cases h2
  have ho:∀ s,oddS d s=false ↔ ∀ l,l ∈ s → (l.f0.length:Int)=d∧∀ p,p ∈ l.f1 → (p.length:Int)=d:=fun s=>by
    unfold oddS
    rw [← Bool.not_eq_true,List.any_eq_true]
    constructor
    · intro h l hl
      have:(oddV d l.f0 || l.f1.any (oddV d))=false:=by
        rw [← Bool.not_eq_true];exact fun h2=>h ⟨l,hl,h2⟩
      rw [Bool.or_eq_false_iff,← Bool.not_eq_true (l.f1.any (oddV d)),List.any_eq_true] at this
      exact ⟨(oddV_iff _ _).1 this.1,fun p hp=>(oddV_iff _ _).1 (by rw [← Bool.not_eq_true];exact fun h2=>this.2 ⟨p,hp,h2⟩)⟩
    · rintro h ⟨l,hl,h2⟩
      rcases (Bool.or_eq_true _ _).mp h2 with h2|h2
      · rw [(oddV_iff _ _).2 (h l hl).1] at h2;cases h2
      · obtain ⟨p,hp,h2⟩:=List.any_eq_true.1 h2
        rw [(oddV_iff _ _).2 ((h l hl).2 p hp)] at h2;cases h2
  have anyF:∀ (f:List S60 → Bool),ss.any f=false ↔ ∀ s,s ∈ ss → f s=false:=fun f=>by
    rw [← Bool.not_eq_true,List.any_eq_true]
    exact ⟨fun h s hs=>by rw [← Bool.not_eq_true];exact fun h2=>h ⟨s,hs,h2⟩,fun h ⟨s,hs,h2⟩=>by rw [h s hs] at h2;cases h2⟩
  have hb:badD d=false ↔ 1 ≤ d∧d ≤ 3:=by unfold badD;rw [Bool.or_eq_false_iff,decide_eq_false_iff_not,decide_eq_false_iff_not];omega
  have h0:chk d ss=0 ↔ ss.any longS=false∧badD d=false∧ss.any wideS=false∧ss.any (oddS d)=false:=by
    unfold chk
    cases ss.any longS <;> cases badD d <;> cases ss.any wideS <;> cases ss.any (oddS d) <;> simp
  rw [h0,anyF,anyF,anyF,hb]
  constructor
  · rintro ⟨h1,h2,h3,h4⟩
    refine ⟨h2,fun s hs=>⟨((hl s).1 (h1 s hs)).1,fun l hls=>?_⟩⟩
    have q3:=(hw s).1 (h3 s hs) l hls
    have q4:=(ho s).1 (h4 s hs) l hls
    exact ⟨⟨by omega,q3.1⟩,((hl s).1 (h1 s hs)).2 l hls,fun p hp=>⟨by have:=q4.2 p hp;omega,q3.2 p hp⟩⟩
  · rintro ⟨h1,h2⟩
    refine ⟨fun s hs=>(hl s).2 ⟨(h2 s hs).1,fun l hls=>((h2 s hs).2 l hls).2.1⟩,h1,fun s hs=>(hw s).2 (fun l hls=>?_),fun s hs=>(ho s).2 (fun l hls=>?_)⟩
    · have:=(h2 s hs).2 l hls
      exact ⟨this.1.2,fun p hp=>(this.2.2 p hp).2⟩
    · have:=(h2 s hs).2 l hls
      exact ⟨by have:=this.1.1;omega,fun p hp=>by have:=(this.2.2 p hp).1;omega⟩
theorem okSet.shorts {d:Nat} (hd:d ≤ 3) {s:List S60} (h:okSet d s):shortS s:=by
  refine ⟨by have:=h.1;unfold short;omega,fun l hl=>?_⟩
  have:=h.2 l hl
  exact ⟨by have:=this.1.1;unfold short;omega,by have:=this.2.1;unfold short;simp;omega,fun p hp=>by have:=(this.2.2 p hp).1;unfold short;omega⟩
theorem okSet.okL {d:Nat} {s:List S60} (h:okSet d s):∀ l,l ∈ s → okL d l:=fun l hl=>by
  have:=h.2 l hl
  exact ⟨this.1.mono (by decide),fun p hp=>(this.2.2 p hp).mono (by decide),by omega⟩
end Go.Proofs.Ytkonljiembcdlaa.Pure
/- The program's sums and stars of semilinear sets, in plain Lean. -/
set_option linter.unusedVariables false
set_option linter.unusedSimpArgs false
namespace Go.Proofs.Ytkonljiembcdlaa.Pure
open Go.RowKit Go.Proofs.MyWords Go.Proofs.YtkonljiembcdlaaW.PrintWords Go.Proofs.YtkonljiembcdlaaW.PrintLast Go.Proofs.YtkonljiembcdlaaW.PrintMore Go.Proofs.Ytkonljiembcdlaa.PC Go.Proofs.Ytkonljiembcdlaa.Sem
theorem plus_go:∀ (v2 w2 v1 w1 o1:List Int),v1.length=w1.length → o1.length=v1.length → v2.length=w2.length → inB 1000000 v2 → inB 1000000 w2 → (v1 ++ v2).length < 1000000 →
    Ev (fun k=>count_plus.l0 k (v1 ++ v2) (w1 ++ w2) (o1 ++ List.replicate v2.length 0) ((v1 ++ v2).length:Int) (v1.length:Int)) (o1 ++ addV v2 w2)
  | [],[],v1,w1,o1,h1,h2,h3,b1,b2,hl=>by
    refine Ev.succ ?_
    simp only [count_plus.l0]
    refine Ev.neg (by simp) ?_
    simp [addV]
    exact Ev.now _
  | x :: v2,y :: w2,v1,w1,o1,h1,h2,h3,b1,b2,hl=>by
    have ih:=plus_go v2 w2 (v1 ++ [x]) (w1 ++ [y]) (o1 ++ [x + y]) (by simp [h1]) (by simp [h2]) (by simpa using h3) (fun z hz=>b1 z (by simp [hz])) (fun z hz=>b2 z (by simp [hz])) (by simp at hl ⊢;omega)
    have bx:=b1 x (by simp)
    have by':=b2 y (by simp)
    refine Ev.succ ?_
    simp only [count_plus.l0]
    refine Ev.pos (by simp;omega) (Ev.pos (by omega) (Ev.pos (by simp;omega) (Ev.pos (by simp;omega) (Ev.pos (by simp;omega) ?_))))
    rw [rd_app v1 x v2,show (v1.length:Int)=(w1.length:Int) by omega,rd_app w1 y w2,← h1,wrap_id (by omega) (by omega),wsucc (by simp at hl;omega)]
    rw [← app_snoc,← app_snoc] at ih
    have e:(o1 ++ List.replicate (x :: v2).length 0).set ((v1.length:Int)).toNat (x + y)=o1 ++ [x + y] ++ List.replicate v2.length 0:=by
      rw [← h2,List.length_cons,List.replicate_succ,set_app];simp
    rw [e,len_snoc v1 x,addV]
    rw [List.append_assoc o1 [x + y] (addV v2 w2)] at ih
    exact ih
theorem plus_ev {v w:List Int} (h:v.length=w.length) (hv:inB 1000000 v) (hw:inB 1000000 w) (hl:v.length < 1000000):Ev (fun k=>count_plus.f k v w) (addV v w):=by
  have:=plus_go v w [] [] [] rfl rfl h hv hw hl
  simp only [List.nil_append,List.length_nil] at this
  unfold count_plus.f
  refine Ev.pos (by omega) (Ev.pos (by omega) ?_)
  rw [Int.toNat_natCast]
  exact this
theorem copies_go:∀ (t pre:List (List Int)),(pre ++ t).length < 1000000 → (∀ p,p ∈ t → p.length ≤ 5000000) → Ev (fun k=>count_copies.l0 k pre (pre ++ t) ((pre ++ t).length:Int) (pre.length:Int)) (pre ++ t)
  | [],pre,hl,hp=>by
    refine Ev.succ ?_
    simp only [count_copies.l0]
    refine Ev.neg (by simp) ?_
    rw [List.append_nil]
    exact Ev.now _
  | p :: t,pre,hl,hp=>by
    have ih:=copies_go t (pre ++ [p]) (by rw [← app_snoc];exact hl) (fun q hq=>hp q (by simp [hq]))
    rw [← app_snoc,← len_snoc] at ih
    have hl2:pre.length < 1000000:=by simp at hl;omega
    refine Ev.succ ?_
    simp only [count_copies.l0,rdL1_app,wsucc (show pre.length < 4611686018427387904 by omega)]
    refine Ev.pos (lt_app _ _ _) (Ev.pos (by omega) (Ev.pos (lt_app _ _ _) ?_))
    exact Ev.bindc (if_pos (hp p (by simp))) (Ev.pos (by omega) ih)
theorem copies_ev {ps:List (List Int)} (hl:ps.length < 1000000) (hp:∀ p,p ∈ ps → p.length ≤ 5000000):Ev (fun k=>count_copies.f k ps) ps:=copies_go ps [] hl hp
def midL (d:Nat) (l:S60):Prop:=okV d 1000 l.f0∧l.f1.length ≤ 1000∧∀ p,p ∈ l.f1 → okV d 1000 p
theorem el_ev {d:Nat} (hd:d ≤ 3) {a b:S60} (ha:midL d a) (hb:midL d b):Ev (fun k=>count_sum.el k a b) (sumE a b):=by
  unfold count_sum.el
  have e:=plus_ev (ha.1.1.trans hb.1.1.symm) (ha.1.mono (n:=1000000) (by decide)).2 (hb.1.mono (n:=1000000) (by decide)).2 (by have:=ha.1.1;omega)
  have hlen:(a.f1 ++ b.f1).length ≤ 2000:=by rw [List.length_append];have:=ha.2.1;have:=hb.2.1;omega
  refine Ev.bind e (Ev.pos (by omega) (Ev.bind (copies_ev (by omega) (fun p hp=>?_)) (Ev.now _)))
  rcases List.mem_append.1 hp with hp|hp
  · have:=(ha.2.2 p hp).1;omega
  · have:=(hb.2.2 p hp).1;omega
theorem row_ev {d:Nat} (hd:d ≤ 3) {a:S60} (ha:midL d a):∀ y:List S60,(∀ b,b ∈ y → midL d b) → Ev (fun k=>count_sum.row k a y) (y.map (sumE a))
  | [],_=>Ev.now _
  | b :: y,h=>Ev.bind (el_ev hd ha (h b (by simp))) (Ev.bind (row_ev hd ha y (fun c hc=>h c (by simp [hc]))) (Ev.now _))
theorem sum_ev {d:Nat} (hd:d ≤ 3) {x y:List S60} (hx:∀ a,a ∈ x → midL d a) (hy:∀ a,a ∈ y → midL d a) (h1:x.length ≤ 5000) (h2:y.length ≤ 5000):Ev (fun k=>count_sum.f k x y) (sumL x y):=by
  have go:∀ x:List S60,(∀ a,a ∈ x → midL d a) → Ev (fun k=>count_sum.g k y x) (sumL x y):=fun x=>by
    induction x with
    | nil=>exact fun _=>Ev.now _
    | cons a x ih=>exact fun h=>Ev.bind (row_ev hd (h a (by simp)) y hy) (Ev.bind (ih (fun c hc=>h c (by simp [hc]))) (Ev.now _))
  unfold count_sum.f
  exact Ev.pos ⟨h1,h2⟩ (go x hx)
theorem okSet.mid {d:Nat} {s:List S60} (h:okSet d s):∀ l,l ∈ s → midL d l:=fun l hl=>by
  have:=h.2 l hl
  exact ⟨this.1.mono (by decide),by omega,fun p hp=>(this.2.2 p hp).mono (by decide)⟩
theorem inB_addV {m n:Int}:∀ {v w:List Int},inB m v → inB n w → inB (m + n) (addV v w)
  | [],w,_,_=>by intro x hx;simp [addV] at hx
  | x :: v,[],_,_=>by intro x hx;simp [addV] at hx
  | x :: v,y :: w,hv,hw=>by
    intro z hz
    rw [addV] at hz
    rcases List.mem_cons.1 hz with rfl|hz
    · have:=hv x (by simp)
      have:=hw y (by simp)
      omega
    · exact inB_addV (fun a ha=>hv a (by simp [ha])) (fun a ha=>hw a (by simp [ha])) z hz
section
variable {d:Nat} (hd:d ≤ 3) (x:List S60) (hx:okSet d x)
include hd hx
end
end Go.Proofs.Ytkonljiembcdlaa.Pure
/- What a plan's sets are, in plain Lean. -/
set_option linter.unusedVariables false
set_option linter.unusedSimpArgs false
namespace Go.Proofs.Ytkonljiembcdlaa.Pure
open Go.RowKit Go.Proofs.MyWords Go.Proofs.YtkonljiembcdlaaW.PrintWords Go.Proofs.YtkonljiembcdlaaW.PrintLast Go.Proofs.YtkonljiembcdlaaW.PrintMore Go.Proofs.Ytkonljiembcdlaa.PC Go.Proofs.Ytkonljiembcdlaa.Sem
def tinyL (d:Nat) (l:S60):Prop:=okV d 4 l.f0∧l.f1.length ≤ 2∧∀ p,p ∈ l.f1 → okV d 4 p
theorem nextV_ok {x:List Int} (hx:∀ z,z ∈ x → 0 ≤ z∧z ≤ 255) (d p:Nat):okV d 4 (nextV d x p):=by
  unfold nextV
  refine ⟨by simp,fun z hz=>?_⟩
  obtain ⟨k,_,rfl⟩:=List.mem_map.1 hz
  by_cases h:p + k < x.length
  · rw [if_pos h,rd_nat x (p + k) h]
    have h1:=hx _ (List.getElem_mem h)
    rw [wrap_id (by omega) (by omega),Int.tmod_eq_emod_of_nonneg h1.1]
    omega
  · rw [if_neg h];decide
theorem manyV_two {x:List Int} (hx:∀ z,z ∈ x → 0 ≤ z∧z ≤ 255) {p:Nat} (hp:p < x.length):manyV x p ≤ 2:=by
  unfold manyV
  rw [rd_nat x p hp]
  have h1:=hx _ (List.getElem_mem hp)
  rw [wrap_id (by omega) (by omega),Int.tmod_eq_emod_of_nonneg h1.1]
  omega
theorem madeG_ok {x:List Int} (hx:∀ z,z ∈ x → 0 ≤ z∧z ≤ 255) (d:Nat):∀ m p,(madeG d x m p).length ≤ m∧∀ l,l ∈ madeG d x m p → tinyL d l
  | 0,p=>⟨by simp [madeG],fun l hl=>by simp [madeG] at hl⟩
  | m + 1,p=>by
    rw [madeG]
    split
    · rename_i hp
      obtain ⟨h1,h2⟩:=madeG_ok hx d m (p + 1 + d + d * manyV x p)
      refine ⟨by simp;exact h1,fun l hl=>?_⟩
      rcases List.mem_cons.1 hl with rfl|hl
      · refine ⟨nextV_ok hx _ _,?_,fun q hq=>?_⟩
        · show (perV d x (p + 1 + d) (manyV x p)).length ≤ 2
          unfold perV
          rw [List.length_map,List.length_range]
          exact manyV_two hx hp
        · obtain ⟨k,_,rfl⟩:=List.mem_map.1 (show q ∈ perV d x (p + 1 + d) (manyV x p) from hq)
          exact nextV_ok hx _ _
      · exact h2 l hl
    · exact ⟨by simp,fun l hl=>by simp at hl⟩
theorem madeG_set {x:List Int} (hx:∀ z,z ∈ x → 0 ≤ z∧z ≤ 255) (d m:Nat) (hm:m ≤ 8):okSet d (madeG d x m 0):=by
  obtain ⟨h1,h2⟩:=madeG_ok hx d m 0
  exact ⟨by omega,fun l hl=>⟨(h2 l hl).1.mono (by decide),by have:=(h2 l hl).2.1;omega,fun p hp=>((h2 l hl).2.2 p hp).mono (by decide)⟩⟩
def dimD (D:Int):Nat:=(D % 3).toNat + 1
theorem dimD_range (D:Int):1 ≤ dimD D∧dimD D ≤ 3:=by unfold dimD;omega
theorem bytes_of {l:List Int} (h:∀ x ∈ l,(Lit.int .u8 x).wf=true):∀ z,z ∈ l → 0 ≤ z∧z ≤ 255:=fun z hz=>wf_u8 (h z hz)
theorem sets_f {D:Int} {X Y:List Int} (hD:(Lit.int .u8 D).wf=true) (hX:∀ x ∈ X,(Lit.int .u8 x).wf=true) (hY:∀ x ∈ Y,(Lit.int .u8 x).wf=true) (lX:X.length ≤ 140737488351232) (lY:Y.length ≤ 140737488351232) (most:Nat) (hm:most ≤ 1000) :
    bellpulllaw05_Plan_sets.f D X Y (most:Int)=some ((dimD D:Int),madeG (dimD D) X most 0,madeG (dimD D) Y most 0):=by
  have h8:=wf_u8 hD
  have e:wrap64 ((Int.tmod (wrap64 D) 3) + 1)=((dimD D:Nat):Int):=by
    rw [wrap_id (x:=D) (by omega) (by omega),Int.tmod_eq_emod_of_nonneg h8.1,wrap_id (by omega) (by omega)]
    unfold dimD;omega
  have hd:=dimD_range D
  have mk:∀ (Z:List Int),(∀ x ∈ Z,(Lit.int .u8 x).wf=true) → Z.length ≤ 140737488351232 → bellpulllaw05_made.f ((dimD D:Nat):Int) Z (most:Int)=some (madeG (dimD D) Z most 0):=fun Z hZ lZ=>by
    unfold bellpulllaw05_made.f
    rw [if_pos,Int.toNat_natCast,Int.toNat_natCast]
    refine ⟨by omega,by omega,by omega,by omega,by omega,List.all_eq_true.2 (fun z hz=>?_)⟩
    have:=wf_u8 (hZ z hz)
    simp;omega
  unfold bellpulllaw05_Plan_sets.f
  rw [e,mk X hX lX,Option.bind_some,mk Y hY lY,Option.bind_some]
end Go.Proofs.Ytkonljiembcdlaa.Pure
/- All vectors of a sum, as the reference lists them, in plain Lean. -/
set_option linter.unusedVariables false
set_option linter.unusedSimpArgs false
namespace Go.Proofs.Ytkonljiembcdlaa.Pure
open Go.RowKit Go.Proofs.MyWords Go.Proofs.YtkonljiembcdlaaW.PrintWords Go.Proofs.YtkonljiembcdlaaW.PrintLast Go.Proofs.YtkonljiembcdlaaW.PrintMore Go.Proofs.Ytkonljiembcdlaa.PC Go.Proofs.Ytkonljiembcdlaa.Sem
def allL:Nat → Nat → List (List Int)
  | 0,n=>[[(n:Int)]]
  | d + 1,n=>(List.range (n + 1)).flatMap fun v=>(allL d (n - v)).map fun r=>(v:Int) :: r
theorem allL_len:∀ (d n:Nat),d ≤ 2 → n ≤ 60 → (allL d n).length ≤ 4000
  | 0,n,_,_=>by simp [allL]
  | 1,n,_,hn=>by
    have:∀ l:List Nat,(l.flatMap fun v=>(allL 0 (n - v)).map fun r=>(v:Int) :: r).length=l.length:=fun l=>by
      induction l with
      | nil=>rfl
      | cons a l ih=>rw [List.flatMap_cons,List.length_append,ih];simp [allL];omega
    rw [allL,this];simp;omega
  | 2,n,_,hn=>by
    have h1:∀ k,k ≤ 60 → (allL 1 k).length ≤ 61:=fun k hk=>by
      have:∀ l:List Nat,(l.flatMap fun v=>(allL 0 (k - v)).map fun r=>(v:Int) :: r).length=l.length:=fun l=>by
        induction l with
        | nil=>rfl
        | cons a l ih=>rw [List.flatMap_cons,List.length_append,ih];simp [allL];omega
      rw [allL,this];simp;omega
    have:∀ l:List Nat,(l.flatMap fun v=>(allL 1 (n - v)).map fun r=>(v:Int) :: r).length ≤ 61 * l.length:=fun l=>by
      induction l with
      | nil=>simp
      | cons a l ih =>
        have:=h1 (n - a) (by omega)
        rw [List.flatMap_cons,List.length_append,List.length_map,List.length_cons]
        omega
    rw [allL]
    have:=this (List.range (n + 1))
    rw [List.length_range] at this
    omega
theorem mem_allL:∀ {d n:Nat} {v:List Int},v ∈ allL d n ↔ v.length=d + 1∧nnV v∧v.sum=(n:Int)
  | 0,n,v=>by
    rw [allL,List.mem_singleton]
    constructor
    · rintro rfl
      exact ⟨rfl,fun x hx=>by obtain rfl:x=(n:Int):=(by simpa using hx);omega,by simp⟩
    · rintro ⟨h1,h2,h3⟩
      match v,h1 with
      | [x],_=>simp at h3;rw [h3]
  | d + 1,n,v=>by
    rw [allL,List.mem_flatMap]
    constructor
    · rintro ⟨a,ha,hv⟩
      obtain ⟨r,hr,rfl⟩:=List.mem_map.1 hv
      obtain ⟨h1,h2,h3⟩:=mem_allL.1 hr
      have ha:=List.mem_range.1 ha
      refine ⟨by simp [h1],fun x hx=>?_,by rw [List.sum_cons,h3];omega⟩
      rcases List.mem_cons.1 hx with rfl|hx
      · omega
      · exact h2 x hx
    · rintro ⟨h1,h2,h3⟩
      match v,h1 with
      | x :: r,h1 =>
        have hx:=h2 x (by simp)
        have hr:nnV r:=fun z hz=>h2 z (by simp [hz])
        have hs:=sum_nn hr
        rw [List.sum_cons] at h3
        refine ⟨x.toNat,List.mem_range.2 (by omega),List.mem_map.2 ⟨r,mem_allL.2 ⟨by simpa using h1,hr,by omega⟩,?_⟩⟩
        rw [Int.toNat_of_nonneg hx]
theorem all_l1 (d n:Int) (a:Int) (m:List (List Int)):∀ (t pre o:List (List Int)) (r:List (List Int)),m=pre ++ t → m.length < 1000000 → o.length + t.length < 1000000000 → (∀ p,p ∈ t → p.length < 1000) →
    Ev (fun k=>bellpullref05_All.l0 k d n (o ++ t.map (a :: ·)) (wrap64 (a + 1))) r → Ev (fun k=>bellpullref05_All.l1 k d n o a m (pre.length:Int)) r
  | [],pre,o,r,e,hl,ho,hp,h=>by
    have:m.length=pre.length:=by rw [e];simp
    refine Ev.succ ?_
    simp only [bellpullref05_All.l1]
    refine Ev.neg (by omega) ?_
    rw [List.map_nil,List.append_nil] at h
    exact h
  | p :: t,pre,o,r,e,hl,ho,hp,h=>by
    have hml:m.length=pre.length + (t.length + 1):=by rw [e];simp
    have hrd:rd_L1 m (pre.length:Int)=p:=by rw [e];exact rdL1_app _ _ _
    have pl:=hp p (by simp)
    have ih:=all_l1 d n a m t (pre ++ [p]) (o ++ [a :: p]) r (by rw [e];simp) hl (by simp at ho ⊢;omega) (fun q hq=>hp q (by simp [hq])) (by
      rw [List.append_assoc];exact h)
    rw [← len_snoc] at ih
    refine Ev.succ ?_
    simp only [bellpullref05_All.l1,hrd,wsucc (show pre.length < 4611686018427387904 by omega)]
    simp at ho
    exact Ev.pos (by omega) (Ev.bindc rfl (Ev.pos (by omega) (Ev.pos (by simp;omega) (Ev.pos (by omega) ih))))
theorem all_ev:∀ (d n:Nat),d ≤ 2 → n ≤ 60 → Ev (fun k=>bellpullref05_All.f k ((d + 1:Nat):Int) (n:Int)) (allL d n)
  | 0,n,_,_=>by
    refine Ev.succ ?_
    simp only [bellpullref05_All.f]
    exact Ev.pos (by simp) (Ev.now _)
  | d + 1,n,hd,hn=>by
    have IH:=fun m=>all_ev d m (by omega)
    have loop:∀ (j v:Nat) (o:List (List Int)),n + 1 - v=j → v ≤ n + 1 → o.length ≤ 4000 * v → Ev (fun k=>bellpullref05_All.l0 k ((d + 1 + 1:Nat):Int) (n:Int) o (v:Int)) (o ++ (List.range' v j).flatMap fun v=>(allL d (n - v)).map fun r=>(v:Int) :: r):=fun j=>by
      induction j with
      | zero =>
        intro v o hj hv ho
        refine Ev.succ ?_
        simp only [bellpullref05_All.l0]
        refine Ev.neg (by omega) ?_
        simp
        exact Ev.now _
      | succ j ih =>
        intro v o hj hv ho
        have hl:=allL_len d (n - v) (by omega) (by omega)
        have ih:=ih (v + 1) (o ++ (allL d (n - v)).map ((v:Int) :: ·)) (by omega) (by omega) (by rw [List.length_append,List.length_map];omega)
        have w1:wrap64 (((d + 1 + 1:Nat):Int) - 1)=((d + 1:Nat):Int):=by rw [wrap_id (by omega) (by omega)];omega
        have w2:wrap64 ((n:Int) - (v:Int))=((n - v:Nat):Int):=by rw [wrap_id (by omega) (by omega)];omega
        refine Ev.succ ?_
        simp only [bellpullref05_All.l0,w1,w2]
        refine Ev.pos (by omega) (Ev.bind (IH (n - v) (by omega)) ?_)
        refine all_l1 _ _ (v:Int) (allL d (n - v)) (allL d (n - v)) [] o _ rfl (by omega) (by omega) (fun p hp=>by have:=(mem_allL.1 hp).1;omega) ?_
        rw [wsucc (by omega),List.range'_succ,List.flatMap_cons,← List.append_assoc]
        exact ih
    refine Ev.succ ?_
    simp only [bellpullref05_All.f]
    refine Ev.neg (by omega) ?_
    have:=loop (n + 1) 0 [] (by omega) (by omega) (by simp)
    rw [List.nil_append,← List.range_eq_range'] at this
    exact this
end Go.Proofs.Ytkonljiembcdlaa.Pure
namespace Go.Proofs.Ytkonljiembcdlaa.PC
open Go.Proofs.MyWords Go.RowKit Go.Proofs.YtkonljiembcdlaaW.PrintWords Go.Proofs.YtkonljiembcdlaaW.PrintLast Go.Proofs.YtkonljiembcdlaaW.PrintMore
attribute [local go_sem] max2_int min2_int max_two min_two max_three min_three max_four min_four   -- for this text's walks alone
set_option linter.unusedVariables false
set_option linter.unusedSimpArgs false
attribute [local go_sem] eqGuard_slices eqlnil23 neqnil23 eqlnil58 neqnil58
end Go.Proofs.Ytkonljiembcdlaa.PC
/- The statements' measure of a long search has a value, in plain Lean. -/
set_option linter.unusedVariables false
set_option linter.unusedSimpArgs false
namespace Go.Proofs.Ytkonljiembcdlaa.Pure
open Go.RowKit Go.Proofs.MyWords Go.Proofs.YtkonljiembcdlaaW.PrintWords Go.Proofs.YtkonljiembcdlaaW.PrintLast Go.Proofs.YtkonljiembcdlaaW.PrintMore Go.Proofs.Ytkonljiembcdlaa.PC Go.Proofs.Ytkonljiembcdlaa.Sem
theorem Has_ok {d:Nat} (h1:1 ≤ d) (hd:d ≤ 3) {set:List S60} (h:okSet d set) {v:List Int} (hv:okV d 60 v):∃ b,Ev (fun k=>count_Has.f k (d:Int) set v) (b,0)∧(b=true ↔ InS d set v):=by
  obtain ⟨b,hb,ib⟩:=has_ev (by omega) hv h.okL
  refine ⟨b,?_,ib⟩
  have hs:=h.shorts hd
  have hc:Ev (fun k=>count_check.f k (d:Int) [set]) 0:=by
    have:=check_ev (d:Int) [set] (by unfold short;simp) (fun t ht=>by
      obtain rfl:t=set:=by simpa using ht
      exact ⟨hs.1,fun l hl=>(hs.2 l hl).2.1.tail⟩)
    rw [chk_ok.2 ⟨by omega,fun t ht=>by
      obtain rfl:t=set:=by simpa using ht
      exact h⟩] at this
    exact this
  have ho:count_outside.f v 60=some false:=by
    unfold count_outside.f
    have:¬ (v.any fun x=>decide (x < 0) || decide (60 < x))=true:=by rw [outside_iff];exact fun h2=>h2 hv.2
    rw [Bool.not_eq_true] at this
    rw [this]
  unfold count_Has.f
  refine Ev.bind hc (Ev.neg (by decide) (Ev.neg (by decide) (Ev.bindc ho ?_)))
  refine Ev.succ ?_
  simp only [count_Has.j0]
  refine Ev.neg (by simp) (Ev.pos trivial (Ev.pos (by rw [hv.1]) (Ev.bind hb (Ev.now _))))
end Go.Proofs.Ytkonljiembcdlaa.Pure
/- The document's examples. -/
set_option linter.unusedVariables false
namespace Go.Proofs.Ytkonljiembcdlaa.Pure
open Go.RowKit Go.Proofs.YtkonljiembcdlaaW.PrintWords Go.Proofs.Ytkonljiembcdlaa.PC
theorem lives_ev:Ev (fun k=>bellpulllaw05_lives.f k) true :=
  Ev.of (fun k=>bellpulllaw05_lives.mono k) (k:=60) (by kernel_rfl)
end Go.Proofs.Ytkonljiembcdlaa.Pure
/- CountSum: for every input the law returns true. -/
set_option linter.unusedVariables false
set_option linter.unusedSimpArgs false
namespace Go.Proofs.Ytkonljiembcdlaa.Pure
open Go.RowKit Go.Proofs.MyWords Go.Proofs.YtkonljiembcdlaaW.PrintWords Go.Proofs.YtkonljiembcdlaaW.PrintLast Go.Proofs.YtkonljiembcdlaaW.PrintMore Go.Proofs.Ytkonljiembcdlaa.PC Go.Proofs.Ytkonljiembcdlaa.Sem
theorem fullS_ev {d:Nat} (h1:1 ≤ d) (hd:d ≤ 3) {s:List S60} (h:okSet d s):Ev (fun k=>count_full.f k (d:Int) s) (s,0):=by
  have hs:=h.shorts hd
  have hc:Ev (fun k=>count_check.f k (d:Int) [s]) 0:=by
    have:=check_ev (d:Int) [s] (by unfold short;simp) (fun t ht=>by
      obtain rfl:t=s:=by simpa using ht
      exact ⟨hs.1,fun l hl=>(hs.2 l hl).2.1.tail⟩)
    rw [chk_ok.2 ⟨by omega,fun t ht=>by
      obtain rfl:t=s:=by simpa using ht
      exact h⟩] at this
    exact this
  unfold count_full.f
  exact Ev.bind hc (Ev.pos rfl (Ev.now _))
theorem sumE_tiny {d:Nat} {a b:S60} (ha:tinyL d a) (hb:tinyL d b):okV d 20 (sumE a b).f0∧(sumE a b).f1.length ≤ 4∧∀ p,p ∈ (sumE a b).f1 → okV d 20 p:=by
  refine ⟨⟨addV_len ha.1.1 hb.1.1,fun z hz=>?_⟩,?_,fun p hp=>?_⟩
  · have:=inB_addV ha.1.2 hb.1.2 z hz
    omega
  · show (a.f1 ++ b.f1).length ≤ 4
    rw [List.length_append];have:=ha.2.1;have:=hb.2.1;omega
  · rcases List.mem_append.1 hp with hp|hp
    · exact (ha.2.2 p hp).mono (by decide)
    · exact (hb.2.2 p hp).mono (by decide)
theorem sumL_tiny {d:Nat} {x y:List S60} (hx:∀ l,l ∈ x → tinyL d l) (hy:∀ l,l ∈ y → tinyL d l) (lx:x.length ≤ 2) (ly:y.length ≤ 2):okSet d (sumL x y):=by
  constructor
  · have:∀ x:List S60,(sumL x y).length=x.length * y.length:=fun x=>by
      induction x with
      | nil=>simp [sumL]
      | cons a x ih =>
        unfold sumL at ih ⊢
        rw [List.flatMap_cons,List.length_append,List.length_map,ih,List.length_cons,Nat.add_mul]
        omega
    rw [this]
    have:=Nat.mul_le_mul lx ly
    omega
  · intro l hl
    obtain ⟨a,ha,hl⟩:=List.mem_flatMap.1 hl
    obtain ⟨b,hb,rfl⟩:=List.mem_map.1 hl
    exact sumE_tiny (hx a ha) (hy b hb)
section
variable {d:Nat} (h1:1 ≤ d) (hd:d ≤ 3) {x y s:List S60} (hx:okSet d x) (hy:okSet d y) (hs:okSet d s)
def GoodP (d:Nat) (x y:List S60) (v p:List Int):Prop:=nnV (subV v p)∧InS d x p∧InS d y (subV v p)
theorem all60 {n:Nat} (hn:n ≤ 60) {p:List Int} (hd1:1 ≤ d) (hp:p ∈ allL (d - 1) n):okV d 60 p:=by
  obtain ⟨q1,q2,q3⟩:=mem_allL.1 hp
  exact ⟨by omega,fun z hz=>⟨q2 z hz,by have:=mem_le_sum q2 z hz;omega⟩⟩
include h1 hd hx hy
theorem sum_l3 (n:Nat) (hn:n ≤ 6) (i:Nat) (hi:i < (allL (d - 1) n).length) (v:List Int) (hv:(allL (d - 1) n)[i]?=some v) (m:Nat) (hm:m ≤ 6) (r:Bool):∀ (t pre:List (List Int)) (b:Bool),allL (d - 1) m=pre ++ t →
    (∀ c:Bool,(c=true ↔ b=true ∨ ∃ p,p ∈ t∧GoodP d x y v p) → Ev (fun k=>bellpulllaw05_CountSum.l2 k (d:Int) x y s (n:Int) (allL (d - 1) n) (i:Int) c ((m + 1:Nat):Int)) r) →
    Ev (fun k=>bellpulllaw05_CountSum.l3 k (d:Int) x y s (n:Int) (allL (d - 1) n) (i:Int) b (m:Int) (allL (d - 1) m) (pre.length:Int)) r
  | [],pre,b,e,h=>by
    have hl:(allL (d - 1) m).length=pre.length:=by rw [e];simp
    refine Ev.succ ?_
    simp only [bellpulllaw05_CountSum.l3]
    refine Ev.neg (by omega) (Ev.succ ?_)
    simp only [bellpulllaw05_CountSum.j6,wsucc (show m < 4611686018427387904 by omega)]
    exact Ev.neg (by simp) (h b (by simp))
  | p :: t,pre,b,e,h=>by
    have hl:(allL (d - 1) m).length=pre.length + (t.length + 1):=by rw [e];simp
    have hl4:=allL_len (d - 1) m (by omega) (by omega)
    have hp:p ∈ allL (d - 1) m:=by rw [e];simp
    have hrd:rd_L1 (allL (d - 1) m) (pre.length:Int)=p:=by rw [e];exact rdL1_app _ _ _
    have hrv:rd_L1 (allL (d - 1) n) (i:Int)=v:=by
      unfold rd_L1;rw [Int.toNat_natCast,List.getD_eq_getElem?_getD,hv];rfl
    have hvm:v ∈ allL (d - 1) n:=List.mem_of_getElem? hv
    have ov:okV d 60 v:=all60 (by omega) h1 hvm
    have op:okV d 60 p:=all60 (by omega) h1 hp
    refine Ev.succ ?_
    simp only [bellpulllaw05_CountSum.l3]
    refine Ev.pos (by omega) (Ev.succ ?_)
    simp only [bellpulllaw05_CountSum.j6,hrd,hrv,wsucc (show m < 4611686018427387904 by omega),wsucc (show pre.length < 4611686018427387904 by omega)]
    cases b
    · have next:∀ c:Bool,(c=true ↔ GoodP d x y v p) → Ev (fun k=>bellpulllaw05_CountSum.l3 k (d:Int) x y s (n:Int) (allL (d - 1) n) (i:Int) c (m:Int) (allL (d - 1) m) ((pre.length + 1:Nat):Int)) r:=fun c hc=>by
        have ih:=sum_l3 n hn i hi v hv m hm r t (pre ++ [p]) c (by rw [e];simp) (fun b2 hb2=>h b2 (by
          rw [hb2,hc]
          constructor
          · rintro (h|⟨q,hq,h⟩)
            · exact .inr ⟨p,by simp,h⟩
            · exact .inr ⟨q,by simp [hq],h⟩
          · rintro (g|⟨q,hq,g⟩)
            · cases g
            · rcases List.mem_cons.1 hq with rfl|hq
              · exact .inl g
              · exact .inr ⟨q,hq,g⟩))
        rw [← len_snoc] at ih
        exact ih
      have hle:=refLess_ev (ov.1.trans op.1.symm) (ov.mono (n:=1000000) (by decide)).2 (op.mono (n:=1000000) (by decide)).2 (by have:=ov.1;omega)
      refine Ev.pos (by simp) (Ev.pos (by omega) (Ev.pos (by omega) (Ev.pos (by omega) (Ev.pos (by omega) (Ev.bind hle ?_)))))
      have lk:∀ {z:List S60},okSet d z → ∀ l,l ∈ z → okL d l∧l.f1.length < 1000000:=fun hz l hl=>⟨hz.okL l hl,by have:=(hz.2 l hl).2.1;omega⟩
      by_cases hnn:nnV (subV v p)
      · obtain ⟨b1,e1,i1⟩:=refHas_ev (d:=d) (by omega) op (lk hx) (by have:=hx.1;omega)
        refine Ev.pos (decide_eq_true hnn) (Ev.bind e1 ?_)
        cases b1
        · exact Ev.neg (by simp) (next false ⟨fun h=>(by cases h),fun h=>(by have:=i1.2 h.2.1;cases this)⟩)
        · obtain ⟨b2,e2,i2⟩:=refHas_ev (d:=d) (by omega) (sub60 ov (op.mono (by decide)) hnn) (lk hy) (by have:=hy.1;omega)
          refine Ev.pos rfl (Ev.bind e2 (next b2 ?_))
          rw [i2]
          exact ⟨fun h=>⟨hnn,i1.1 rfl,h⟩,fun h=>h.2.2⟩
      · exact Ev.neg (by simpa using hnn) (next false ⟨fun h=>(by cases h),fun h=>absurd h.1 hnn⟩)
    · refine Ev.neg (by simp) (h true (by simp))
theorem sum_l2 (n:Nat) (hn:n ≤ 6) (i:Nat) (hi:i < (allL (d - 1) n).length) (v:List Int) (hv:(allL (d - 1) n)[i]?=some v) (r:Bool):∀ (j m:Nat) (b:Bool),n + 1 - m=j → m ≤ n + 1 →
    (∀ (c:Bool) (m':Int),(c=true ↔ b=true ∨ ∃ m',m ≤ m'∧m' ≤ n∧∃ p,p ∈ allL (d - 1) m'∧GoodP d x y v p) → Ev (fun k=>bellpulllaw05_CountSum.j4 k (d:Int) x y s (n:Int) (allL (d - 1) n) (i:Int) c m' false) r) →
    Ev (fun k=>bellpulllaw05_CountSum.l2 k (d:Int) x y s (n:Int) (allL (d - 1) n) (i:Int) b (m:Int)) r
  | 0,m,b,hj,hm,h=>by
    refine Ev.succ ?_
    simp only [bellpulllaw05_CountSum.l2]
    refine Ev.neg (by omega) (h b _ ?_)
    exact ⟨.inl,fun h=>h.resolve_right (fun ⟨m',q1,q2,_⟩=>by omega)⟩
  | j + 1,m,b,hj,hm,h=>by
    refine Ev.succ ?_
    simp only [bellpulllaw05_CountSum.l2]
    refine Ev.pos (by omega) ?_
    cases b
    · refine Ev.succ ?_
      simp only [bellpulllaw05_CountSum.j4]
      have ha:=all_ev (d - 1) m (by omega) (by omega)
      rw [show d - 1 + 1=d by omega] at ha
      refine Ev.pos (by simp) (Ev.bind ha ?_)
      refine sum_l3 h1 hd hx hy n hn i hi v hv m (by omega) r (allL (d - 1) m) [] false rfl (fun c hc=>?_)
      refine sum_l2 n hn i hi v hv r j (m + 1) c (by omega) (by omega) (fun c2 m2 hc2=>h c2 m2 ?_)
      rw [hc2,hc]
      constructor
      · rintro ((h|⟨p,hp,h⟩)|⟨m',q1,q2,h⟩)
        · exact .inl h
        · exact .inr ⟨m,Nat.le_refl _,by omega,p,hp,h⟩
        · exact .inr ⟨m',by omega,q2,h⟩
      · rintro (g|⟨m',q1,q2,p,hp,g⟩)
        · exact .inl (.inl g)
        · by_cases e:m'=m
          · subst e;exact .inl (.inr ⟨p,hp,g⟩)
          · exact .inr ⟨m',by omega,q2,p,hp,g⟩
    · exact h true _ (by simp)
include hs in
theorem sum_l1 (hsum:∀ v,InS d s v ↔ ∃ u w,InS d x u∧InS d y w∧v=addV u w) (n:Nat) (hn:n ≤ 6) (r:Bool) (h:Ev (fun k=>bellpulllaw05_CountSum.l0 k (d:Int) x y s ((n + 1:Nat):Int)) r):∀ (t pre:List (List Int)),allL (d - 1) n=pre ++ t → Ev (fun k=>bellpulllaw05_CountSum.l1 k (d:Int) x y s (n:Int) (allL (d - 1) n) (pre.length:Int)) r
  | [],pre,e=>by
    have hl:(allL (d - 1) n).length=pre.length:=by rw [e];simp
    refine Ev.succ ?_
    simp only [bellpulllaw05_CountSum.l1,wsucc (show n < 4611686018427387904 by omega)]
    exact Ev.neg (by omega) h
  | v :: t,pre,e=>by
    have hl:(allL (d - 1) n).length=pre.length + (t.length + 1):=by rw [e];simp
    have hl4:=allL_len (d - 1) n (by omega) (by omega)
    have ih:=sum_l1 hsum n hn r h t (pre ++ [v]) (by rw [e];simp)
    rw [← len_snoc] at ih
    have hv:(allL (d - 1) n)[pre.length]?=some v:=by rw [e];simp
    have hvm:v ∈ allL (d - 1) n:=by rw [e];simp
    have ov:okV d 60 v:=all60 (by omega) h1 hvm
    have hrd:rd_L1 (allL (d - 1) n) (pre.length:Int)=v:=by rw [e];exact rdL1_app _ _ _
    refine Ev.succ ?_
    simp only [bellpulllaw05_CountSum.l1]
    refine Ev.pos (by omega) ?_
    refine sum_l2 h1 hd hx hy n hn pre.length (by omega) v hv r (n + 1) 0 false rfl (by omega) (fun c m' hc=>?_)
    have key:c=true ↔ InS d s v:=by
      rw [hc,hsum]
      constructor
      · rintro (h|⟨m,_,hm,p,hp,g⟩)
        · cases h
        · exact ⟨p,subV v p,g.2.1,g.2.2,by rw [addV_comm,subV_add (ov.1.trans (all60 (by omega) h1 hp).1.symm)]⟩
      · rintro ⟨u,w,hu,hw,rfl⟩
        obtain ⟨q1,q2⟩:=InS.len hx.okL hu
        obtain ⟨q3,q4⟩:=InS.len hy.okL hw
        have hs1:=sum_addV (q1.trans q3.symm)
        have hs2:=(mem_allL.1 hvm).2.2
        have:=sum_nn q2
        have:=sum_nn q4
        have e:subV (addV u w) u=w:=by rw [addV_comm,addV_sub (q3.trans q1.symm)]
        refine .inr ⟨u.sum.toNat,Nat.zero_le _,by omega,u,mem_allL.2 ⟨by omega,q2,by omega⟩,?_⟩
        unfold GoodP
        rw [e]
        exact ⟨q4,hu,hw⟩
    obtain ⟨b,e1,i1⟩:=Has_ok h1 hd hs ov
    refine Ev.succ ?_
    simp only [bellpulllaw05_CountSum.j4,hrd,wsucc (show pre.length < 4611686018427387904 by omega)]
    refine Ev.neg (by simp) (Ev.pos (by omega) (Ev.pos (by omega) (Ev.bind e1 (Ev.pos rfl ?_))))
    have hbc:b=c:=by rw [Bool.eq_iff_iff,i1,key]
    subst hbc
    cases b
    · exact Ev.neg (by simp) (Ev.neg (by simp) ih)
    · exact Ev.pos rfl (Ev.pos rfl ih)
end
theorem CountSum:∀ (a0_0:Int) (l0_1 l0_2:List Int),(Lit.int .u8 a0_0).wf=true → (∀ x ∈ l0_1,(Lit.int .u8 x).wf=true) → (∀ x ∈ l0_2,(Lit.int .u8 x).wf=true) → l0_1.length ≤ 140737488351232 → l0_2.length ≤ 140737488351232 → ∃ k,bellpulllaw05_CountSum.f k a0_0 l0_1 l0_2=some true:=by
  intro D X Y hD hX hY lX lY
  refine Ev.rounds (g:=fun k=>bellpulllaw05_CountSum.f k D X Y) ?_
  obtain ⟨d,hdd⟩:∃ d,d=dimD D:=⟨_,rfl⟩
  have hr:=dimD_range D
  rw [← hdd] at hr
  have hset:=sets_f hD hX hY lX lY 2 (by omega)
  rw [← hdd] at hset
  obtain ⟨x,hx⟩:∃ x,x=madeG d X 2 0:=⟨_,rfl⟩
  obtain ⟨y,hy⟩:∃ y,y=madeG d Y 2 0:=⟨_,rfl⟩
  have ox:okSet d x:=by rw [hx];exact madeG_set (bytes_of hX) d 2 (by omega)
  have oy:okSet d y:=by rw [hy];exact madeG_set (bytes_of hY) d 2 (by omega)
  have tx:=madeG_ok (bytes_of hX) d 2 0
  have ty:=madeG_ok (bytes_of hY) d 2 0
  rw [← hx] at tx
  rw [← hy] at ty
  rw [← hx,← hy] at hset
  have os:=sumL_tiny tx.2 ty.2 tx.1 ty.1
  unfold bellpulllaw05_CountSum.f
  refine Ev.bindc hset ?_
  have hchk:Ev (fun k=>count_check.f k (d:Int) [x,y]) 0:=by
    have sx:=ox.shorts hr.2
    have sy:=oy.shorts hr.2
    have:=check_ev (d:Int) [x,y] (by unfold short;simp) (fun t ht=>by
      simp only [List.mem_cons,List.not_mem_nil,or_false] at ht
      rcases ht with rfl|rfl
      · exact ⟨sx.1,fun l hl=>(sx.2 l hl).2.1.tail⟩
      · exact ⟨sy.1,fun l hl=>(sy.2 l hl).2.1.tail⟩)
    rw [chk_ok.2 ⟨by omega,fun t ht=>by
      simp only [List.mem_cons,List.not_mem_nil,or_false] at ht
      rcases ht with rfl|rfl
      · exact ox
      · exact oy⟩] at this
    exact this
  have hsum:Ev (fun k=>count_Sum.f k (d:Int) x y) (sumL x y,0):=by
    unfold count_Sum.f
    exact Ev.bind hchk (Ev.pos rfl (Ev.bind (sum_ev hr.2 ox.mid oy.mid (by have:=ox.1;omega) (by have:=oy.1;omega)) (Ev.bind (fullS_ev hr.1 hr.2 os) (Ev.now _))))
  refine Ev.bind hsum (Ev.pos rfl (Ev.bind lives_ev (Ev.succ ?_)))
  simp only [bellpulllaw05_CountSum.j0]
  refine Ev.neg (by simp) ?_
  have loop:∀ (j n:Nat),7 - n=j → n ≤ 7 → Ev (fun k=>bellpulllaw05_CountSum.l0 k (d:Int) x y (sumL x y) (n:Int)) true:=fun j=>by
    induction j with
    | zero =>
      intro n hj hn
      refine Ev.succ ?_
      simp only [bellpulllaw05_CountSum.l0]
      exact Ev.neg (by omega) (Ev.now _)
    | succ j ih =>
      intro n hj hn
      have ha:=all_ev (d - 1) n (by omega) (by omega)
      rw [show d - 1 + 1=d by omega] at ha
      refine Ev.succ ?_
      simp only [bellpulllaw05_CountSum.l0]
      exact Ev.pos (by omega) (Ev.bind ha (sum_l1 hr.1 hr.2 ox oy os (fun v=>inS_sum ox.okL oy.okL) n (by omega) true (ih (n + 1) (by omega) (by omega)) (allL (d - 1) n) [] rfl))
  exact loop 7 0 rfl (by omega)
end Go.Proofs.Ytkonljiembcdlaa.Pure
/- An array of three bytes, and a slice of bytes, as arguments: opened, and shut. -/
set_option linter.unusedVariables false
set_option linter.constructorNameAsVariable false
namespace Go.Proofs.Ytkonljiembcdlaa.RowT
open Go.ChangeShapes Go.WideShapes Go.ChangeAt Go.RowKit Go.Joins
section
variable {H:Type} {enc:TypeId × Value → H} {w:World} {base:Nat} {spare:Nat → Bool} {held:Bool}
end
end Go.Proofs.Ytkonljiembcdlaa.RowT
/- A query, and a plan, as arguments: opened. -/
set_option linter.unusedVariables false
set_option linter.constructorNameAsVariable false
namespace Go.Proofs.Ytkonljiembcdlaa.RowT
open Go.ChangeShapes Go.WideShapes Go.ChangeAt Go.RowKit Go.Joins Go.Proofs.YtkonljiembcdlaaW.PrintWords Go.Proofs.Ytkonljiembcdlaa.PC
theorem list_of {α:Type} {p:Nat → α → Prop}:∀ n:Nat,(∀ i,i < n → ∃ y,p i y) → ∃ xs:List α,xs.length=n∧∀ i y,xs[i]?=some y → p i y
  | 0,_=>⟨[],rfl,fun i y h=>by simp at h⟩
  | n + 1,h=>by
    obtain ⟨xs,h1,h2⟩:=list_of n (fun i hi=>h i (by omega))
    obtain ⟨y,hy⟩:=h n (by omega)
    refine ⟨xs ++ [y],by simp [h1],fun i z hz=>?_⟩
    by_cases hi:i < n
    · rw [List.getElem?_append_left (by omega)] at hz
      exact h2 i z hz
    · have:i < (xs ++ [y]).length:=by
        apply Classical.byContradiction
        intro hn
        rw [List.getElem?_eq_none (by omega)] at hz
        cases hz
      obtain rfl:i=n:=by simp [h1] at this;omega
      rw [List.getElem?_append_right (by omega),h1,Nat.sub_self] at hz
      obtain rfl:=Option.some.inj hz
      exact hy
section
variable {H:Type} {enc:TypeId × Value → H} {w:World} {base:Nat} {held:Bool}
def kwf:Kd {n:Int // (Lit.int .u8 n).wf=true}:=Kd.iso (Kd.int .u8) (fun x=>x.1)
theorem addr_add (a:Addr) (m k:Nat):(a.add m).add k=a.add (m + k):=by
  by_cases h1:k=0
  · subst h1;simp [Addr.add]
  · by_cases h2:m=0
    · subst h2;simp [Addr.add,h1]
    · simp [Addr.add,h1,h2,Nat.add_assoc]
theorem C_of_trod {α:Type} (d:Kd α) {t e:TypeId} (ht:Try.prog.underlying t=some (.slice e)) (hc:Try.prog.cellsOf e=d.sz)
    (hx:∀ fuel cs x,DataW.trod enc Try.prog w base (fun _=>true) held fuel e cs=some x → ∃ y,d.K w y cs) {fuel:Nat} {cs:List Value} {x:DataW H × List MemPlace} (h:DataW.trod enc Try.prog w base (fun _=>true) held fuel t cs=some x) :
    ∃ (A:Option Addr) (c:Nat) (xs:List α),cs=[.slice A xs.length c]∧xs.length ≤ c∧d.C w A xs.length xs:=by
  rcases Go.Deep.open_slice ht h with ⟨rfl,_⟩|⟨a,len,cap,m,n,D,Pl,rfl,_,hl,hm,hmm,_,hel⟩
  · exact ⟨none,0,[],rfl,Nat.le_refl _,rfl,Nat.zero_le _,fun h=>by simp at h⟩
  · have hlm:len ≤ m:=by rw [hmm];simp;exact hl
    have hcap:cap ≤ 9223372036854775807:=hm
    obtain ⟨xs,h1,h2⟩:=list_of (p:=fun i y=>∃ c:List Value,c.length=d.sz∧d.K w y c∧∀ k u,c[k]?=some u → w.cell? (a.add (i * d.sz + k))=some u) len (fun i hi=>by
      obtain ⟨cs',hcs,hr⟩:=hel i (by omega)
      obtain ⟨_,hlen,hcell⟩:=World.cells?_some hcs
      obtain ⟨y,hy⟩:=hx n cs' _ hr
      refine ⟨y,cs',hlen.trans hc,hy,fun k u hu=>?_⟩
      have hk:k < cs'.length:=by
        apply Classical.byContradiction
        intro hn
        rw [List.getElem?_eq_none (by omega)] at hu
        cases hu
      have:=hcell k (by omega)
      rw [hu,hc] at this
      have e:(a.add (i * d.sz)).add k=a.add (i * d.sz + k):=addr_add a _ k
      rw [e] at this
      exact this)
    refine ⟨some a,cap,xs,by rw [h1],by omega,rfl,by omega,fun _=>⟨a,rfl,h2⟩⟩
theorem u8_of_trod:∀ (fuel:Nat) (cs:List Value) (x:DataW H × List MemPlace),DataW.trod enc Try.prog w base (fun _=>true) held fuel 5 cs=some x → ∃ y:{n:Int // (Lit.int .u8 n).wf=true},(kwf).K w y cs:=fun fuel cs x h=>by
  obtain ⟨n,rfl,_,hw⟩:=DataW.trod_int Try.underlying5 h
  exact ⟨⟨n,hw⟩,rfl⟩
theorem u8s_of_trod {fuel:Nat} {cs:List Value} {x:DataW H × List MemPlace} (h:DataW.trod enc Try.prog w base (fun _=>true) held fuel 50 cs=some x):∃ (A:Option Addr) (c:Nat) (xs:List Int),cs=[.slice A xs.length c]∧xs.length ≤ c∧(Kd.int .u8).C w A xs.length xs∧∀ z ∈ xs,(Lit.int .u8 z).wf=true:=by
  obtain ⟨A,c,xs,rfl,hl,hC⟩:=C_of_trod kwf Try.underlying50 (by kernel_rfl) u8_of_trod h
  refine ⟨A,c,xs.map (·.1),by rw [List.length_map],by rw [List.length_map];exact hl,?_,fun z hz=>?_⟩
  · obtain ⟨h1,h2,h3⟩:=hC
    refine ⟨rfl,by rw [List.length_map];exact h2,fun h0=>?_⟩
    rw [List.length_map] at h0
    obtain ⟨ad,rfl,h4⟩:=h3 h0
    refine ⟨ad,rfl,fun j y hy=>?_⟩
    rw [List.getElem?_map,Option.map_eq_some_iff] at hy
    obtain ⟨z,hz,rfl⟩:=hy
    obtain ⟨c,e1,e2,e3⟩:=h4 j z hz
    exact ⟨c,e1,e2,e3⟩
  · obtain ⟨y,_,rfl⟩:=List.mem_map.1 hz
    exact y.2
theorem slice_weight {fuel:Nat} {A:Option Addr} {len cap:Nat} {x:DataW H × List MemPlace} (h:DataW.trod enc Try.prog w base (fun _=>true) held fuel 50 [.slice A len cap]=some x):len=0 ∨ ∃ n r,n ∈ DataW.weights Try.prog 50 x.1∧len ≤ n∧r=n:=by
  rcases Go.Deep.open_slice Try.underlying50 h with ⟨h1,_⟩|⟨a,l,c,m,n,D,Pl,h1,_,_,_,_,rfl,_⟩
  · left
    simp at h1
    exact h1.2.1
  · right
    have hl:len=l:=by simp at h1;exact h1.2.1
    have hb:Try.prog.bytesOf 5=1:=by kernel_rfl
    refine ⟨_,_,by rw [DataW.weights,Try.underlying50];exact List.mem_cons_self,?_,rfl⟩
    rw [hb,Nat.mul_one,List.length_map,List.length_range]
    omega
theorem plan_sized {ts:List TypeId} {ds:List (DataW H)} {y0 y1 y2:DataW H × List MemPlace} (hsz:(DataW.weightsEach Try.prog (55 :: ts) (.agg [y0.1,y1.1,y2.1] :: ds)).all (· ≤ reachBytes)=true) :
    (∀ n,n ∈ DataW.weights Try.prog 50 y1.1 → n ≤ 140737488351232)∧(∀ n,n ∈ DataW.weights Try.prog 50 y2.1 → n ≤ 140737488351232):=by
  rw [List.all_eq_true] at hsz
  have key:∀ n,n ∈ DataW.weights Try.prog 50 y1.1 ∨ n ∈ DataW.weights Try.prog 50 y2.1 → n ≤ 140737488351232:=fun n hn=>by
    have hm:n ∈ DataW.weightsEach Try.prog (55 :: ts) (.agg [y0.1,y1.1,y2.1] :: ds):=by
      rw [DataW.weightsEach]
      refine List.mem_append_left _ ?_
      rw [DataW.weights,Try.underlying55]
      show n ∈ DataW.weightsEach Try.prog [5,50,50] [y0.1,y1.1,y2.1]
      rw [DataW.weightsEach,DataW.weightsEach,DataW.weightsEach]
      rcases hn with hn|hn
      · exact List.mem_append_right _ (List.mem_append_left _ hn)
      · exact List.mem_append_right _ (List.mem_append_right _ (List.mem_append_left _ hn))
    exact of_decide_eq_true (hsz n hm)
  exact ⟨fun n h=>key n (.inl h),fun n h=>key n (.inr h)⟩
set_option maxRecDepth 100000 in
theorem open_plan {r:Reach} {b0:Nat} {v:Value} {d:DataW H} {p:List MemPlace} {ts:List TypeId} {ds:List (DataW H)} (hv:Value.okWide Try.prog w r b0 55 v) (h:DataW.Trod enc Try.prog w base (fun _=>true) held 55 v d p) (hsz:(DataW.weightsEach Try.prog (55 :: ts) (d :: ds)).all (· ≤ reachBytes)=true) :
    ∃ (D:Int) (A1:Option Addr) (c1:Nat) (X:List Int) (A2:Option Addr) (c2:Nat) (Y:List Int),v=.agg #[.int .u8 D,.slice A1 X.length c1,.slice A2 Y.length c2]∧(Lit.int .u8 D).wf=true ∧
      (Kd.int .u8).C w A1 X.length X∧X.length ≤ c1∧(Kd.int .u8).C w A2 Y.length Y∧Y.length ≤ c2∧(∀ z ∈ X,(Lit.int .u8 z).wf=true)∧(∀ z ∈ Y,(Lit.int .u8 z).wf=true)∧X.length ≤ 140737488351232∧Y.length ≤ 140737488351232:=by
  obtain ⟨v0,v1,v2,y0,y1,y2,n,rfl,rfl,_,h0,h1,h2⟩:=open_agg3 Try.underlying55 (by kernel_rfl) (by kernel_rfl) hv h
  dsimp only at h0 h1 h2
  obtain ⟨D,eD,_,wD⟩:=DataW.trod_int Try.underlying5 h0
  obtain ⟨A1,c1,X,eX,l1,g1,m1⟩:=u8s_of_trod h1
  obtain ⟨A2,c2,Y,eY,l2,g2,m2⟩:=u8s_of_trod h2
  obtain rfl:v0=_:=by simpa using eD
  obtain rfl:v1=_:=by simpa using eX
  obtain rfl:v2=_:=by simpa using eY
  obtain ⟨s1,s2⟩:=plan_sized hsz
  refine ⟨D,A1,c1,X,A2,c2,Y,rfl,wD,g1,l1,g2,l2,m1,m2,?_,?_⟩
  · rcases slice_weight h1 with h|⟨n,_,hn,hl,_⟩
    · omega
    · exact Nat.le_trans hl (s1 n hn)
  · rcases slice_weight h2 with h|⟨n,_,hn,hl,_⟩
    · omega
    · exact Nat.le_trans hl (s2 n hn)
end
end Go.Proofs.Ytkonljiembcdlaa.RowT
