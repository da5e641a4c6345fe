import Derived.Test.YtkonljiembcdlaaPCx0
import Derived.Test.YtkonljiembcdlaaPCx1
import Derived.Test.YtkonljiembcdlaaPCx4
import Derived.Test.YtkonljiembcdlaaPCx3
import Derived.Test.YtkonljiembcdlaaPCx5
import Derived.Test.YtkonljiembcdlaaMyTiny
import Derived.Test.YtkonljiembcdlaaMach
import Derived.Test.YtkonljiembcdlaaPCx2
import Derived.Test.YtkonljiembcdlaaProg
import Derived.WalkKit
import Derived.ProofKit
import Derived.OpenShut
import Derived.Lib.SmallJoins
import Derived.SizedLaws
import Derived.Test.YtkonljiembcdlaaZ0
/- Which error semilinear sets have, by the program and by the reference, in plain Lean. -/
set_option linter.unusedVariables false
set_option linter.unusedSimpArgs false
namespace Go.Proofs.Ytkonljiembcdlaa.Pure
open Go.RowKit Go.Proofs.MyWords Go.Proofs.YtkonljiembcdlaaW.PrintWords Go.Proofs.YtkonljiembcdlaaW.PrintLast Go.Proofs.YtkonljiembcdlaaW.PrintMore Go.Proofs.Ytkonljiembcdlaa.PC Go.Proofs.Ytkonljiembcdlaa.Sem
def farV (v:List Int):Bool:=v.any fun x=>decide (x < 0) || decide (20 < x)
def oddV (d:Int) (v:List Int):Bool:=(v.length:Int) != d
def longS (s:List S60):Bool:=s.any (fun l=>decide ((l.f1.length:Int) > 4)) || decide ((s.length:Int) > 8)
def wideS (s:List S60):Bool:=s.any fun l=>farV l.f0 || l.f1.any farV
def oddS (d:Int) (s:List S60):Bool:=s.any fun l=>oddV d l.f0 || l.f1.any (oddV d)
def badD (d:Int):Bool:=decide (d < 1) || decide (d > 3)
def chk (d:Int) (ss:List (List S60)):Int:=if ss.any longS=true then 3 else if (badD d || ss.any wideS)=true then 1 else if ss.any (oddS d)=true then 2 else 0
def short {α:Type} (l:List α):Prop:=l.length < 1000000000
theorem short.tail {α:Type} {x:α} {l:List α} (h:short (x :: l)):short l:=by unfold short at *;simp at h;omega
section
variable (d:Int) (lg:Bool) (ss:List (List S60)) (n2 i2:Int) (set:List S60) (n1 i1:Int)
theorem check_l2:∀ (t pre:List (List Int)) (fr od:Bool) (r:Int),short (pre ++ t) → Ev (fun k=>count_check.l1 k d lg (fr || t.any farV) (od || t.any (oddV d)) ss n2 i2 set n1 (wrap64 (i1 + 1))) r →
    Ev (fun k=>count_check.l2 k d lg fr od ss n2 i2 set n1 i1 (pre ++ t) ((pre ++ t).length:Int) (pre.length:Int)) r
  | [],pre,fr,od,r,hs,h=>by
    refine Ev.succ ?_
    simp only [count_check.l2]
    refine Ev.neg (by simp) ?_
    simpa using h
  | p :: t,pre,fr,od,r,hs,h=>by
    have ws:wrap64 ((pre.length:Int) + 1)=((pre.length + 1:Nat):Int):=wsucc (by unfold short at hs;simp at hs;omega)
    have ih:∀ fr od,Ev (fun k=>count_check.l1 k d lg (fr || t.any farV) (od || t.any (oddV d)) ss n2 i2 set n1 (wrap64 (i1 + 1))) r → Ev (fun k=>count_check.l2 k d lg fr od ss n2 i2 set n1 i1 (pre ++ p :: t) ((pre ++ p :: t).length:Int) ((pre.length + 1:Nat):Int)) r:=fun fr od h2=>by
      have:=check_l2 t (pre ++ [p]) fr od r (by rw [← app_snoc];exact hs) h2
      rw [← app_snoc,← len_snoc] at this
      exact this
    rw [List.any_cons,List.any_cons,← Bool.or_assoc,← Bool.or_assoc] at h
    refine Ev.succ ?_
    simp only [count_check.l2,rdL1_app,ws]
    refine Ev.pos (lt_app _ _ _) (Ev.pos (by omega) (Ev.pos (lt_app _ _ _) ?_))
    have inner:∀ f2,f2=(fr || farV p) → Ev (fun k=>if od=true then count_check.l2 k d lg f2 true ss n2 i2 set n1 i1 (pre ++ p :: t) ((pre ++ p :: t).length:Int) ((pre.length + 1:Nat):Int) else count_check.l2 k d lg f2 ((p.length:Int) != d) ss n2 i2 set n1 i1 (pre ++ p :: t) ((pre ++ p :: t).length:Int) ((pre.length + 1:Nat):Int)) r:=fun f2 e=>by
      subst e
      cases od with
      | true=>exact Ev.pos rfl (ih _ _ h)
      | false=>exact Ev.neg (by simp) (ih _ _ h)
    cases fr with
    | true=>exact Ev.pos rfl (inner _ rfl)
    | false =>
      refine Ev.neg (by simp) ?_
      refine Ev.bindc (x:=farV p) rfl ?_
      exact inner _ rfl
end
theorem check_l1 (d:Int) (ss:List (List S60)) (n2 i2:Int):∀ (t pre:List S60) (lg fr od:Bool) (r:Int),short (pre ++ t) → (∀ l,l ∈ t → short l.f1) →
    Ev (fun k=>count_check.l0 k d (lg || t.any (fun l=>decide ((l.f1.length:Int) > 4))) (fr || wideS t) (od || oddS d t) ss n2 (wrap64 (i2 + 1))) r →
    Ev (fun k=>count_check.l1 k d lg fr od ss n2 i2 (pre ++ t) ((pre ++ t).length:Int) (pre.length:Int)) r
  | [],pre,lg,fr,od,r,hs,hp,h=>by
    refine Ev.succ ?_
    simp only [count_check.l1]
    refine Ev.neg (by simp) ?_
    simpa [wideS,oddS] using h
  | l :: t,pre,lg,fr,od,r,hs,hp,h=>by
    have ws:wrap64 ((pre.length:Int) + 1)=((pre.length + 1:Nat):Int):=wsucc (by unfold short at hs;simp at hs;omega)
    have ih:∀ lg fr od,Ev (fun k=>count_check.l0 k d (lg || t.any (fun l=>decide ((l.f1.length:Int) > 4))) (fr || wideS t) (od || oddS d t) ss n2 (wrap64 (i2 + 1))) r → Ev (fun k=>count_check.l1 k d lg fr od ss n2 i2 (pre ++ l :: t) ((pre ++ l :: t).length:Int) ((pre.length + 1:Nat):Int)) r:=fun lg fr od h2=>by
      have:=check_l1 d ss n2 i2 t (pre ++ [l]) lg fr od r (by rw [← app_snoc];exact hs) (fun x hx=>hp x (by simp [hx])) h2
      rw [← app_snoc,← len_snoc] at this
      exact this
    have e1:wideS (l :: t)=(farV l.f0 || l.f1.any farV || wideS t):=by unfold wideS;rw [List.any_cons]
    have e2:oddS d (l :: t)=(oddV d l.f0 || l.f1.any (oddV d) || oddS d t):=by unfold oddS;rw [List.any_cons]
    rw [List.any_cons,e1,e2,← Bool.or_assoc,← Bool.or_assoc,← Bool.or_assoc,← Bool.or_assoc,← Bool.or_assoc] at h
    have s6:∀ lg fr od,Ev (fun k=>count_check.l0 k d (lg || t.any (fun l=>decide ((l.f1.length:Int) > 4))) (fr || l.f1.any farV || wideS t) (od || l.f1.any (oddV d) || oddS d t) ss n2 (wrap64 (i2 + 1))) r → Ev (fun k=>count_check.j6 k d lg fr od ss n2 i2 (pre ++ l :: t) ((pre ++ l :: t).length:Int) (pre.length:Int) l.f0 l.f1) r:=fun lg fr od h2=>by
      refine Ev.succ ?_
      simp only [count_check.j6]
      refine check_l2 d lg ss n2 i2 _ _ _ l.f1 [] fr od r (hp l (by simp)) ?_
      rw [ws]
      exact ih _ _ _ h2
    have s5:∀ lg fr od,Ev (fun k=>count_check.l0 k d (lg || t.any (fun l=>decide ((l.f1.length:Int) > 4))) (fr || l.f1.any farV || wideS t) (od || oddV d l.f0 || l.f1.any (oddV d) || oddS d t) ss n2 (wrap64 (i2 + 1))) r → Ev (fun k=>count_check.j5 k d lg fr od ss n2 i2 (pre ++ l :: t) ((pre ++ l :: t).length:Int) (pre.length:Int) l.f0 l.f1) r:=fun lg fr od h2=>by
      refine Ev.succ ?_
      simp only [count_check.j5]
      cases od with
      | true=>exact Ev.pos rfl (s6 _ _ _ (by simpa using h2))
      | false=>exact Ev.neg (by simp) (s6 _ _ _ (by simpa [oddV] using h2))
    have s4:∀ lg fr od,Ev (fun k=>count_check.l0 k d (lg || t.any (fun l=>decide ((l.f1.length:Int) > 4))) (fr || farV l.f0 || l.f1.any farV || wideS t) (od || oddV d l.f0 || l.f1.any (oddV d) || oddS d t) ss n2 (wrap64 (i2 + 1))) r → Ev (fun k=>count_check.j4 k d lg fr od ss n2 i2 (pre ++ l :: t) ((pre ++ l :: t).length:Int) (pre.length:Int) l.f0 l.f1) r:=fun lg fr od h2=>by
      refine Ev.succ ?_
      simp only [count_check.j4]
      cases fr with
      | true=>exact Ev.pos rfl (s5 _ _ _ (by simpa using h2))
      | false =>
        refine Ev.neg (by simp) ?_
        refine Ev.bindc (x:=farV l.f0) rfl ?_
        exact s5 _ _ _ (by simpa using h2)
    refine Ev.succ ?_
    simp only [count_check.l1,rdT60_app]
    refine Ev.pos (lt_app _ _ _) (Ev.pos (by omega) (Ev.pos (lt_app _ _ _) ?_))
    cases lg with
    | true=>exact Ev.pos rfl (s4 _ _ _ (by simpa using h))
    | false=>exact Ev.neg (by simp) (s4 _ _ _ (by simpa using h))
def tell (lg fr od:Bool):Int:=if lg=true then 3 else if fr=true then 1 else if od=true then 2 else 0
theorem check_l0 (d:Int):∀ (t pre:List (List S60)) (lg fr od:Bool),short (pre ++ t) → (∀ s,s ∈ t → short s∧∀ l,l ∈ s → short l.f1) →
    Ev (fun k=>count_check.l0 k d lg fr od (pre ++ t) ((pre ++ t).length:Int) (pre.length:Int)) (tell (lg || t.any longS) (fr || t.any wideS) (od || t.any (oddS d)))
  | [],pre,lg,fr,od,hs,hp=>by
    refine Ev.succ ?_
    simp only [count_check.l0]
    refine Ev.neg (by simp) ?_
    unfold tell
    cases lg
    · refine Ev.neg (by simp) ?_
      cases fr
      · refine Ev.neg (by simp) ?_
        cases od
        · exact Ev.neg (by simp) (Ev.now _)
        · exact Ev.pos rfl (Ev.now _)
      · exact Ev.pos rfl (Ev.now _)
    · exact Ev.pos rfl (Ev.now _)
  | s :: t,pre,lg,fr,od,hs,hp=>by
    have ws:wrap64 ((pre.length:Int) + 1)=((pre.length + 1:Nat):Int):=wsucc (by unfold short at hs;simp at hs;omega)
    have ih:∀ lg fr od,Ev (fun k=>count_check.l0 k d lg fr od (pre ++ s :: t) ((pre ++ s :: t).length:Int) ((pre.length + 1:Nat):Int)) (tell (lg || t.any longS) (fr || t.any wideS) (od || t.any (oddS d))):=fun lg fr od=>by
      have:=check_l0 d t (pre ++ [s]) lg fr od (by rw [← app_snoc];exact hs) (fun x hx=>hp x (by simp [hx]))
      rw [← app_snoc,← len_snoc] at this
      exact this
    have j2:∀ lg,Ev (fun k=>count_check.j2 k d lg fr od s (pre ++ s :: t) ((pre ++ s :: t).length:Int) (pre.length:Int)) (tell ((lg || s.any (fun l=>decide ((l.f1.length:Int) > 4))) || t.any longS) (fr || wideS s || t.any wideS) (od || oddS d s || t.any (oddS d))):=fun lg=>by
      refine Ev.succ ?_
      simp only [count_check.j2]
      refine check_l1 d _ _ _ s [] lg fr od _ (hp s (by simp)).1 (hp s (by simp)).2 ?_
      rw [ws]
      exact ih _ _ _
    refine Ev.succ ?_
    simp only [count_check.l0,rdL4_app]
    refine Ev.pos (lt_app _ _ _) (Ev.pos (by omega) (Ev.pos (lt_app _ _ _) ?_))
    rw [List.any_cons,List.any_cons,List.any_cons,← Bool.or_assoc,← Bool.or_assoc,← Bool.or_assoc]
    cases lg with
    | true =>
      refine Ev.pos rfl ?_
      simpa using j2 true
    | false =>
      refine Ev.neg (by simp) ?_
      have:=j2 (decide ((s.length:Int) > 8))
      rw [Bool.or_comm (decide ((s.length:Int) > 8))] at this
      rw [Bool.false_or]
      exact this
theorem check_ev (d:Int) (ss:List (List S60)) (hs:short ss) (hp:∀ s,s ∈ ss → short s∧∀ l,l ∈ s → short l.f1):Ev (fun k=>count_check.f k d ss) (chk d ss):=by
  have go:∀ fr,Ev (fun k=>count_check.j0 k d ss false fr false) (tell (ss.any longS) (fr || ss.any wideS) (ss.any (oddS d))):=fun fr=>by
    refine Ev.succ ?_
    simp only [count_check.j0]
    have:=check_l0 d ss [] false fr false hs hp
    simpa using this
  unfold count_check.f
  by_cases h:d < 1
  · have e:badD d=true:=by unfold badD;simp [h]
    refine Ev.pos h ?_
    have:=go true
    unfold chk
    rw [e]
    exact this
  · have e:badD d=decide (d > 3):=by unfold badD;simp [h]
    refine Ev.neg h ?_
    have:=go (decide (d > 3))
    unfold chk
    rw [e]
    exact this
theorem long_go:∀ (t pre:List S60),short (pre ++ t) → Ev (fun k=>bellpullref05_Long.l0 k (pre ++ t) (pre.length:Int)) (t.any (fun l=>decide ((l.f1.length:Int) > 4)) || decide (((pre ++ t).length:Int) > 8))
  | [],pre,hs=>by
    refine Ev.succ ?_
    simp only [bellpullref05_Long.l0]
    refine Ev.neg (by simp) ?_
    simp only [List.any_nil,Bool.false_or]
    exact Ev.now _
  | l :: t,pre,hs=>by
    have ws:wrap64 ((pre.length:Int) + 1)=((pre.length + 1:Nat):Int):=wsucc (by unfold short at hs;simp at hs;omega)
    have ih:=long_go t (pre ++ [l]) (by rw [← app_snoc];exact hs)
    rw [← app_snoc,← len_snoc] at ih
    refine Ev.succ ?_
    simp only [bellpullref05_Long.l0,rdT60_app,ws]
    refine Ev.pos (lt_app _ _ _) (Ev.pos (by omega) ?_)
    rw [List.any_cons]
    by_cases h:(l.f1.length:Int) > 4
    · rw [decide_eq_true h,Bool.true_or,Bool.true_or]
      exact Ev.pos h (Ev.now _)
    · rw [decide_eq_false h,Bool.false_or]
      exact Ev.neg h ih
theorem wide_go (m:Int):∀ (t pre:List Int),short (pre ++ t) → Ev (fun k=>bellpullref05_wide.l0 k (pre ++ t) m (pre.length:Int)) (t.any fun x=>decide (x < 0) || decide (m < x))
  | [],pre,hs=>by
    refine Ev.succ ?_
    simp only [bellpullref05_wide.l0]
    exact Ev.neg (by simp) (Ev.now _)
  | x :: t,pre,hs=>by
    have ws:wrap64 ((pre.length:Int) + 1)=((pre.length + 1:Nat):Int):=wsucc (by unfold short at hs;simp at hs;omega)
    have ih:=wide_go m t (pre ++ [x]) (by rw [← app_snoc];exact hs)
    rw [← app_snoc,← len_snoc] at ih
    refine Ev.succ ?_
    simp only [bellpullref05_wide.l0,rd_app,ws]
    refine Ev.pos (lt_app _ _ _) (Ev.pos (by omega) ?_)
    refine Ev.bindc (x:=!(decide (x < 0) || decide (m < x))) (by
      unfold bellpullref01_In.f
      by_cases h:x ≥ 0
      · rw [if_pos h,decide_eq_false (show ¬ x < 0 by omega),Bool.false_or]
        congr 1
        by_cases h2:x ≤ m
        · rw [decide_eq_true h2,decide_eq_false (by omega)];rfl
        · rw [decide_eq_false h2,decide_eq_true (by omega)];rfl
      · rw [if_neg h,decide_eq_true (show x < 0 by omega)];rfl) ?_
    rw [List.any_cons]
    cases hx:(decide (x < 0) || decide (m < x))
    · rw [Bool.false_or];exact Ev.pos rfl ih
    · exact Ev.neg (by simp) (Ev.now _)
theorem wide_ev (v:List Int) (hs:short v) (m:Int):Ev (fun k=>bellpullref05_wide.f k v m) (v.any fun x=>decide (x < 0) || decide (m < x)):=wide_go m v [] hs
theorem vectors_f (l:S60) (h:short l.f1):bellpullref05_vectors.f l.f0 l.f1=some (l.f0 :: l.f1):=by
  unfold bellpullref05_vectors.f short at *
  rw [Option.bind_some,if_pos (by simp;omega)]
  rfl
def shortL (l:S60):Prop:=short l.f0∧short (l.f0 :: l.f1)∧∀ p,p ∈ l.f1 → short p
def shortS (s:List S60):Prop:=short s∧∀ l,l ∈ s → shortL l
theorem Wide_l1 (set:List S60) (i:Int):∀ (t pre:List (List Int)) (r:Bool),short (pre ++ t) → (∀ p,p ∈ t → short p) → (t.any farV=false → Ev (fun k=>bellpullref05_Wide.l0 k set (wrap64 (i + 1))) r) → Ev (fun k=>bellpullref05_Wide.l1 k set i (pre ++ t) (pre.length:Int)) (t.any farV || r)
  | [],pre,r,hs,hp,h=>by
    refine Ev.succ ?_
    simp only [bellpullref05_Wide.l1]
    refine Ev.neg (by simp) ?_
    rw [List.any_nil,Bool.false_or]
    exact h rfl
  | p :: t,pre,r,hs,hp,h=>by
    have ws:wrap64 ((pre.length:Int) + 1)=((pre.length + 1:Nat):Int):=wsucc (by unfold short at hs;simp at hs;omega)
    refine Ev.succ ?_
    simp only [bellpullref05_Wide.l1,rdL1_app,ws]
    refine Ev.pos (lt_app _ _ _) (Ev.pos (by omega) (Ev.bind (wide_ev p (hp p (by simp)) 20) ?_))
    rw [List.any_cons]
    change Ev (fun k=>if farV p=true then _ else _) _
    cases hf:farV p with
    | true=>exact Ev.pos rfl (Ev.now _)
    | false =>
      have ih:=Wide_l1 set i t (pre ++ [p]) r (by rw [← app_snoc];exact hs) (fun x hx=>hp x (by simp [hx])) (fun h2=>h (by rw [List.any_cons,hf,h2];rfl))
      rw [← app_snoc,← len_snoc] at ih
      exact Ev.neg (by simp) ih
theorem Wide_l0:∀ (t pre:List S60),short (pre ++ t) → (∀ l,l ∈ t → shortL l) → Ev (fun k=>bellpullref05_Wide.l0 k (pre ++ t) (pre.length:Int)) (wideS t)
  | [],pre,hs,hp=>by
    refine Ev.succ ?_
    simp only [bellpullref05_Wide.l0]
    exact Ev.neg (by simp) (Ev.now _)
  | l :: t,pre,hs,hp=>by
    have ws:wrap64 ((pre.length:Int) + 1)=((pre.length + 1:Nat):Int):=wsucc (by unfold short at hs;simp at hs;omega)
    have ih:=Wide_l0 t (pre ++ [l]) (by rw [← app_snoc];exact hs) (fun x hx=>hp x (by simp [hx]))
    rw [← app_snoc,← len_snoc] at ih
    obtain ⟨h0,h1,h2⟩:=hp l (by simp)
    refine Ev.succ ?_
    simp only [bellpullref05_Wide.l0,rdT60_app]
    refine Ev.pos (lt_app _ _ _) (Ev.pos (by omega) (Ev.bindc (vectors_f l h1.tail) ?_))
    have:=Wide_l1 (pre ++ l :: t) (pre.length:Int) (l.f0 :: l.f1) [] (wideS t) h1 (fun p hp=>by
      rcases List.mem_cons.1 hp with rfl|hp
      · exact h0
      · exact h2 p hp) (fun _=>by rw [ws];exact ih)
    have e1:wideS (l :: t)=((l.f0 :: l.f1).any farV || wideS t):=by unfold wideS;rw [List.any_cons,List.any_cons]
    rw [e1]
    exact this
theorem Odd_l1 (d:Int) (set:List S60) (i:Int):∀ (t pre:List (List Int)) (r:Bool),short (pre ++ t) → Ev (fun k=>bellpullref05_Odd.l0 k d set (wrap64 (i + 1))) r → Ev (fun k=>bellpullref05_Odd.l1 k d set i (pre ++ t) (pre.length:Int)) (t.any (oddV d) || r)
  | [],pre,r,hs,h=>by
    refine Ev.succ ?_
    simp only [bellpullref05_Odd.l1]
    refine Ev.neg (by simp) ?_
    rw [List.any_nil,Bool.false_or]
    exact h
  | p :: t,pre,r,hs,h=>by
    have ws:wrap64 ((pre.length:Int) + 1)=((pre.length + 1:Nat):Int):=wsucc (by unfold short at hs;simp at hs;omega)
    refine Ev.succ ?_
    simp only [bellpullref05_Odd.l1,rdL1_app,ws]
    refine Ev.pos (lt_app _ _ _) (Ev.pos (by omega) ?_)
    rw [List.any_cons]
    by_cases hf:(p.length:Int)=d
    · have ih:=Odd_l1 d set i t (pre ++ [p]) r (by rw [← app_snoc];exact hs) h
      rw [← app_snoc,← len_snoc] at ih
      have:oddV d p=false:=by unfold oddV;simp [hf]
      rw [this,Bool.false_or]
      exact Ev.pos hf ih
    · have:oddV d p=true:=by unfold oddV;simp [hf]
      rw [this]
      exact Ev.neg hf (Ev.now _)
theorem Odd_l0 (d:Int):∀ (t pre:List S60),short (pre ++ t) → (∀ l,l ∈ t → shortL l) → Ev (fun k=>bellpullref05_Odd.l0 k d (pre ++ t) (pre.length:Int)) (oddS d t)
  | [],pre,hs,hp=>by
    refine Ev.succ ?_
    simp only [bellpullref05_Odd.l0]
    exact Ev.neg (by simp) (Ev.now _)
  | l :: t,pre,hs,hp=>by
    have ws:wrap64 ((pre.length:Int) + 1)=((pre.length + 1:Nat):Int):=wsucc (by unfold short at hs;simp at hs;omega)
    have ih:=Odd_l0 d t (pre ++ [l]) (by rw [← app_snoc];exact hs) (fun x hx=>hp x (by simp [hx]))
    rw [← app_snoc,← len_snoc] at ih
    obtain ⟨h0,h1,h2⟩:=hp l (by simp)
    refine Ev.succ ?_
    simp only [bellpullref05_Odd.l0,rdT60_app]
    refine Ev.pos (lt_app _ _ _) (Ev.pos (by omega) (Ev.bindc (vectors_f l h1.tail) ?_))
    have:=Odd_l1 d (pre ++ l :: t) (pre.length:Int) (l.f0 :: l.f1) [] (oddS d t) h1 (by rw [ws];exact ih)
    have e1:oddS d (l :: t)=((l.f0 :: l.f1).any (oddV d) || oddS d t):=by unfold oddS;rw [List.any_cons,List.any_cons]
    rw [e1]
    exact this
theorem inD (d:Int):bellpullref01_In.f d 1 3=some (!badD d):=by
  unfold bellpullref01_In.f badD
  by_cases h:d ≥ 1
  · rw [if_pos h,decide_eq_false (show ¬ d < 1 by omega),Bool.false_or]
    congr 1
    by_cases h2:d ≤ 3
    · rw [decide_eq_true h2,decide_eq_false (by omega)];rfl
    · rw [decide_eq_false h2,decide_eq_true (by omega)];rfl
  · rw [if_neg h,decide_eq_true (show d < 1 by omega)];rfl
theorem Check_l2 (d:Int) (hd:badD d=false):∀ (t pre:List (List S60)),short (pre ++ t) → (∀ s,s ∈ t → shortS s) → Ev (fun k=>bellpullref05_Check.l2 k d (pre ++ t) (pre.length:Int)) (if t.any (oddS d)=true then 2 else 0)
  | [],pre,hs,hp=>by
    refine Ev.succ ?_
    simp only [bellpullref05_Check.l2]
    exact Ev.neg (by simp) (Ev.now _)
  | s :: t,pre,hs,hp=>by
    have ws:wrap64 ((pre.length:Int) + 1)=((pre.length + 1:Nat):Int):=wsucc (by unfold short at hs;simp at hs;omega)
    have ih:=Check_l2 d hd t (pre ++ [s]) (by rw [← app_snoc];exact hs) (fun x hx=>hp x (by simp [hx]))
    rw [← app_snoc,← len_snoc] at ih
    have ho:Ev (fun k=>bellpullref05_Odd.f k d s) (oddS d s):=Odd_l0 d s [] (hp s (by simp)).1 (hp s (by simp)).2
    refine Ev.succ ?_
    simp only [bellpullref05_Check.l2,rdL4_app,ws]
    refine Ev.pos (lt_app _ _ _) (Ev.pos (by omega) (Ev.bind ho ?_))
    rw [List.any_cons]
    cases h:oddS d s
    · rw [Bool.false_or];exact Ev.neg (by simp) ih
    · exact Ev.pos rfl (Ev.now _)
theorem Check_l1 (d:Int) (all:List (List S60)) (r:Int) (hr:badD d=false → Ev (fun k=>bellpullref05_Check.l2 k d all 0) r):∀ (t pre:List (List S60)),all=pre ++ t → short (pre ++ t) → (∀ s,s ∈ t → shortS s) → Ev (fun k=>bellpullref05_Check.l1 k d all (pre.length:Int)) (if (badD d || t.any wideS)=true then 1 else r)
  | [],pre,ha,hs,hp=>by
    subst ha
    refine Ev.succ ?_
    simp only [bellpullref05_Check.l1]
    refine Ev.neg (by simp) (Ev.bindc (inD d) ?_)
    rw [List.any_nil,Bool.or_false]
    cases h:badD d
    · exact Ev.pos rfl (hr h)
    · exact Ev.neg (by simp) (Ev.now _)
  | s :: t,pre,ha,hs,hp=>by
    have ws:wrap64 ((pre.length:Int) + 1)=((pre.length + 1:Nat):Int):=wsucc (by unfold short at hs;simp at hs;omega)
    have ih:=Check_l1 d all r hr t (pre ++ [s]) (by rw [← app_snoc];exact ha) (by rw [← app_snoc];exact hs) (fun x hx=>hp x (by simp [hx]))
    rw [← len_snoc] at ih
    subst ha
    have hw:Ev (fun k=>bellpullref05_Wide.f k d s) (badD d || wideS s):=by
      unfold bellpullref05_Wide.f
      refine Ev.bindc (inD d) ?_
      cases h:badD d
      · rw [Bool.false_or];exact Ev.pos rfl (Wide_l0 s [] (hp s (by simp)).1 (hp s (by simp)).2)
      · exact Ev.neg (by simp) (Ev.now _)
    refine Ev.succ ?_
    simp only [bellpullref05_Check.l1,rdL4_app,ws]
    refine Ev.pos (lt_app _ _ _) (Ev.pos (by omega) (Ev.bind hw ?_))
    rw [List.any_cons]
    cases h:badD d
    · rw [h] at ih
      cases h2:wideS s
      · rw [Bool.false_or,Bool.false_or];exact Ev.neg (by simp) (by simpa using ih)
      · exact Ev.pos rfl (Ev.now _)
    · rw [Bool.true_or,Bool.true_or];exact Ev.pos rfl (Ev.now _)
theorem Check_l0 (d:Int) (all:List (List S60)) (r:Int) (hr:Ev (fun k=>bellpullref05_Check.l1 k d all 0) r):∀ (t pre:List (List S60)),all=pre ++ t → short (pre ++ t) → (∀ s,s ∈ t → shortS s) → Ev (fun k=>bellpullref05_Check.l0 k d all (pre.length:Int)) (if t.any longS=true then 3 else r)
  | [],pre,ha,hs,hp=>by
    subst ha
    refine Ev.succ ?_
    simp only [bellpullref05_Check.l0]
    exact Ev.neg (by simp) hr
  | s :: t,pre,ha,hs,hp=>by
    have ws:wrap64 ((pre.length:Int) + 1)=((pre.length + 1:Nat):Int):=wsucc (by unfold short at hs;simp at hs;omega)
    have ih:=Check_l0 d all r hr t (pre ++ [s]) (by rw [← app_snoc];exact ha) (by rw [← app_snoc];exact hs) (fun x hx=>hp x (by simp [hx]))
    rw [← len_snoc] at ih
    subst ha
    have hw:Ev (fun k=>bellpullref05_Long.f k s) (longS s):=long_go s [] (hp s (by simp)).1
    refine Ev.succ ?_
    simp only [bellpullref05_Check.l0,rdL4_app,ws]
    refine Ev.pos (lt_app _ _ _) (Ev.pos (by omega) (Ev.bind hw ?_))
    rw [List.any_cons]
    cases h2:longS s
    · rw [Bool.false_or];exact Ev.neg (by simp) ih
    · exact Ev.pos rfl (Ev.now _)
theorem refCheck_ev (d:Int) (ss:List (List S60)) (hs:short ss) (hp:∀ s,s ∈ ss → shortS s):Ev (fun k=>bellpullref05_Check.f k d ss) (chk d ss):=by
  unfold chk
  exact Check_l0 d ss _ (Check_l1 d ss _ (fun h=>Check_l2 d h ss [] hs hp) ss [] rfl hs hp) ss [] rfl hs hp
def okSet (d:Nat) (s:List S60):Prop:=s.length ≤ 8∧∀ l,l ∈ s → okV d 20 l.f0∧l.f1.length ≤ 4∧∀ p,p ∈ l.f1 → okV d 20 p
theorem farV_iff (v:List Int):farV v=false ↔ inB 20 v:=by
  have:=outside_iff v 20
  unfold farV
  rw [← Bool.not_eq_true,this]
  exact ⟨fun h=>Classical.byContradiction h,fun h h2=>h2 h⟩
theorem oddV_iff (d:Int) (v:List Int):oddV d v=false ↔ (v.length:Int)=d:=by unfold oddV;simp
theorem chk_ok {d:Int} {ss:List (List S60)}:chk d ss=0 ↔ (1 ≤ d∧d ≤ 3)∧∀ s,s ∈ ss → okSet d.toNat s:=by
  have hl:∀ s,longS s=false ↔ s.length ≤ 8∧∀ l,l ∈ s → l.f1.length ≤ 4:=fun s=>by
    unfold longS
    rw [Bool.or_eq_false_iff,← Bool.not_eq_true,List.any_eq_true,decide_eq_false_iff_not]
    constructor
    · rintro ⟨h1,h2⟩
      exact ⟨by omega,fun l hl=>Nat.le_of_not_lt (fun h=>h1 ⟨l,hl,decide_eq_true (by omega)⟩)⟩
    · rintro ⟨h1,h2⟩
      exact ⟨fun ⟨l,hl,h⟩=>by have:=h2 l hl;have:=of_decide_eq_true h;omega,by omega⟩
  have hw:∀ s,wideS s=false ↔ ∀ l,l ∈ s → inB 20 l.f0∧∀ p,p ∈ l.f1 → inB 20 p:=fun s=>by
    unfold wideS
    rw [← Bool.not_eq_true,List.any_eq_true]
    constructor
    · intro h l hl
      have:(farV l.f0 || l.f1.any farV)=false:=by
        rw [← Bool.not_eq_true];exact fun h2=>h ⟨l,hl,h2⟩
      rw [Bool.or_eq_false_iff,← Bool.not_eq_true (l.f1.any farV),List.any_eq_true] at this
      exact ⟨(farV_iff _).1 this.1,fun p hp=>(farV_iff _).1 (by rw [← Bool.not_eq_true];exact fun h2=>this.2 ⟨p,hp,h2⟩)⟩
    · rintro h ⟨l,hl,h2⟩
      rcases (Bool.or_eq_true _ _).mp h2 with h2|h2
      · rw [(farV_iff _).2 (h l hl).1] at h2;cases h2
      · obtain ⟨p,hp,h2⟩:=List.any_eq_true.1 h2
        rw [(farV_iff _).2 ((h l hl).2 p hp)] at h2;cases h2
  have ho:∀ s,oddS d s=false ↔ ∀ l,l ∈ s → (l.f0.length:Int)=d∧∀ p,p ∈ l.f1 → (p.length:Int)=d:=fun s=>by
    unfold oddS
    rw [← Bool.not_eq_true,List.any_eq_true]
    constructor
    · intro h l hl
      have:(oddV d l.f0 || l.f1.any (oddV d))=false:=by
        rw [← Bool.not_eq_true];exact fun h2=>h ⟨l,hl,h2⟩
      rw [Bool.or_eq_false_iff,← Bool.not_eq_true (l.f1.any (oddV d)),List.any_eq_true] at this
      exact ⟨(oddV_iff _ _).1 this.1,fun p hp=>(oddV_iff _ _).1 (by rw [← Bool.not_eq_true];exact fun h2=>this.2 ⟨p,hp,h2⟩)⟩
    · rintro h ⟨l,hl,h2⟩
      rcases (Bool.or_eq_true _ _).mp h2 with h2|h2
      · rw [(oddV_iff _ _).2 (h l hl).1] at h2;cases h2
      · obtain ⟨p,hp,h2⟩:=List.any_eq_true.1 h2
        rw [(oddV_iff _ _).2 ((h l hl).2 p hp)] at h2;cases h2
  have anyF:∀ (f:List S60 → Bool),ss.any f=false ↔ ∀ s,s ∈ ss → f s=false:=fun f=>by
    rw [← Bool.not_eq_true,List.any_eq_true]
    exact ⟨fun h s hs=>by rw [← Bool.not_eq_true];exact fun h2=>h ⟨s,hs,h2⟩,fun h ⟨s,hs,h2⟩=>by rw [h s hs] at h2;cases h2⟩
  have hb:badD d=false ↔ 1 ≤ d∧d ≤ 3:=by unfold badD;rw [Bool.or_eq_false_iff,decide_eq_false_iff_not,decide_eq_false_iff_not];omega
  have h0:chk d ss=0 ↔ ss.any longS=false∧badD d=false∧ss.any wideS=false∧ss.any (oddS d)=false:=by
    unfold chk
    cases ss.any longS <;> cases badD d <;> cases ss.any wideS <;> cases ss.any (oddS d) <;> simp
  rw [h0,anyF,anyF,anyF,hb]
  constructor
  · rintro ⟨h1,h2,h3,h4⟩
    refine ⟨h2,fun s hs=>⟨((hl s).1 (h1 s hs)).1,fun l hls=>?_⟩⟩
    have q3:=(hw s).1 (h3 s hs) l hls
    have q4:=(ho s).1 (h4 s hs) l hls
    exact ⟨⟨by omega,q3.1⟩,((hl s).1 (h1 s hs)).2 l hls,fun p hp=>⟨by have:=q4.2 p hp;omega,q3.2 p hp⟩⟩
  · rintro ⟨h1,h2⟩
    refine ⟨fun s hs=>(hl s).2 ⟨(h2 s hs).1,fun l hls=>((h2 s hs).2 l hls).2.1⟩,h1,fun s hs=>(hw s).2 (fun l hls=>?_),fun s hs=>(ho s).2 (fun l hls=>?_)⟩
    · have:=(h2 s hs).2 l hls
      exact ⟨this.1.2,fun p hp=>(this.2.2 p hp).2⟩
    · have:=(h2 s hs).2 l hls
      exact ⟨by have:=this.1.1;omega,fun p hp=>by have:=(this.2.2 p hp).1;omega⟩
end Go.Proofs.Ytkonljiembcdlaa.Pure
/- The program's sums and stars of semilinear sets, in plain Lean. -/
set_option linter.unusedVariables false
set_option linter.unusedSimpArgs false
namespace Go.Proofs.Ytkonljiembcdlaa.Pure
open Go.RowKit Go.Proofs.MyWords Go.Proofs.YtkonljiembcdlaaW.PrintWords Go.Proofs.YtkonljiembcdlaaW.PrintLast Go.Proofs.YtkonljiembcdlaaW.PrintMore Go.Proofs.Ytkonljiembcdlaa.PC Go.Proofs.Ytkonljiembcdlaa.Sem
theorem plus_go:∀ (v2 w2 v1 w1 o1:List Int),v1.length=w1.length → o1.length=v1.length → v2.length=w2.length → inB 1000000 v2 → inB 1000000 w2 → (v1 ++ v2).length < 1000000 →
    Ev (fun k=>count_plus.l0 k (v1 ++ v2) (w1 ++ w2) (o1 ++ List.replicate v2.length 0) ((v1 ++ v2).length:Int) (v1.length:Int)) (o1 ++ addV v2 w2)
  | [],[],v1,w1,o1,h1,h2,h3,b1,b2,hl=>by
    refine Ev.succ ?_
    simp only [count_plus.l0]
    refine Ev.neg (by simp) ?_
    simp [addV]
    exact Ev.now _
  | x :: v2,y :: w2,v1,w1,o1,h1,h2,h3,b1,b2,hl=>by
    have ih:=plus_go v2 w2 (v1 ++ [x]) (w1 ++ [y]) (o1 ++ [x + y]) (by simp [h1]) (by simp [h2]) (by simpa using h3) (fun z hz=>b1 z (by simp [hz])) (fun z hz=>b2 z (by simp [hz])) (by simp at hl ⊢;omega)
    have bx:=b1 x (by simp)
    have by':=b2 y (by simp)
    refine Ev.succ ?_
    simp only [count_plus.l0]
    refine Ev.pos (by simp;omega) (Ev.pos (by omega) (Ev.pos (by simp;omega) (Ev.pos (by simp;omega) (Ev.pos (by simp;omega) ?_))))
    rw [rd_app v1 x v2,show (v1.length:Int)=(w1.length:Int) by omega,rd_app w1 y w2,← h1,wrap_id (by omega) (by omega),wsucc (by simp at hl;omega)]
    rw [← app_snoc,← app_snoc] at ih
    have e:(o1 ++ List.replicate (x :: v2).length 0).set ((v1.length:Int)).toNat (x + y)=o1 ++ [x + y] ++ List.replicate v2.length 0:=by
      rw [← h2,List.length_cons,List.replicate_succ,set_app];simp
    rw [e,len_snoc v1 x,addV]
    rw [List.append_assoc o1 [x + y] (addV v2 w2)] at ih
    exact ih
theorem plus_ev {v w:List Int} (h:v.length=w.length) (hv:inB 1000000 v) (hw:inB 1000000 w) (hl:v.length < 1000000):Ev (fun k=>count_plus.f k v w) (addV v w):=by
  have:=plus_go v w [] [] [] rfl rfl h hv hw hl
  simp only [List.nil_append,List.length_nil] at this
  unfold count_plus.f
  refine Ev.pos (by omega) (Ev.pos (by omega) ?_)
  rw [Int.toNat_natCast]
  exact this
theorem copies_go:∀ (t pre:List (List Int)),(pre ++ t).length < 1000000 → (∀ p,p ∈ t → p.length ≤ 5000000) → Ev (fun k=>count_copies.l0 k pre (pre ++ t) ((pre ++ t).length:Int) (pre.length:Int)) (pre ++ t)
  | [],pre,hl,hp=>by
    refine Ev.succ ?_
    simp only [count_copies.l0]
    refine Ev.neg (by simp) ?_
    rw [List.append_nil]
    exact Ev.now _
  | p :: t,pre,hl,hp=>by
    have ih:=copies_go t (pre ++ [p]) (by rw [← app_snoc];exact hl) (fun q hq=>hp q (by simp [hq]))
    rw [← app_snoc,← len_snoc] at ih
    have hl2:pre.length < 1000000:=by simp at hl;omega
    refine Ev.succ ?_
    simp only [count_copies.l0,rdL1_app,wsucc (show pre.length < 4611686018427387904 by omega)]
    refine Ev.pos (lt_app _ _ _) (Ev.pos (by omega) (Ev.pos (lt_app _ _ _) ?_))
    exact Ev.bindc (if_pos (hp p (by simp))) (Ev.pos (by omega) ih)
theorem copies_ev {ps:List (List Int)} (hl:ps.length < 1000000) (hp:∀ p,p ∈ ps → p.length ≤ 5000000):Ev (fun k=>count_copies.f k ps) ps:=copies_go ps [] hl hp
def midL (d:Nat) (l:S60):Prop:=okV d 1000 l.f0∧l.f1.length ≤ 1000∧∀ p,p ∈ l.f1 → okV d 1000 p
theorem midL.okL {d:Nat} {l:S60} (h:midL d l):okL d l:=⟨h.1.mono (by decide),fun p hp=>(h.2.2 p hp).mono (by decide),by have:=h.2.1;omega⟩
theorem el_ev {d:Nat} (hd:d ≤ 3) {a b:S60} (ha:midL d a) (hb:midL d b):Ev (fun k=>count_sum.el k a b) (sumE a b):=by
  unfold count_sum.el
  have e:=plus_ev (ha.1.1.trans hb.1.1.symm) (ha.1.mono (n:=1000000) (by decide)).2 (hb.1.mono (n:=1000000) (by decide)).2 (by have:=ha.1.1;omega)
  have hlen:(a.f1 ++ b.f1).length ≤ 2000:=by rw [List.length_append];have:=ha.2.1;have:=hb.2.1;omega
  refine Ev.bind e (Ev.pos (by omega) (Ev.bind (copies_ev (by omega) (fun p hp=>?_)) (Ev.now _)))
  rcases List.mem_append.1 hp with hp|hp
  · have:=(ha.2.2 p hp).1;omega
  · have:=(hb.2.2 p hp).1;omega
theorem row_ev {d:Nat} (hd:d ≤ 3) {a:S60} (ha:midL d a):∀ y:List S60,(∀ b,b ∈ y → midL d b) → Ev (fun k=>count_sum.row k a y) (y.map (sumE a))
  | [],_=>Ev.now _
  | b :: y,h=>Ev.bind (el_ev hd ha (h b (by simp))) (Ev.bind (row_ev hd ha y (fun c hc=>h c (by simp [hc]))) (Ev.now _))
theorem sum_ev {d:Nat} (hd:d ≤ 3) {x y:List S60} (hx:∀ a,a ∈ x → midL d a) (hy:∀ a,a ∈ y → midL d a) (h1:x.length ≤ 5000) (h2:y.length ≤ 5000):Ev (fun k=>count_sum.f k x y) (sumL x y):=by
  have go:∀ x:List S60,(∀ a,a ∈ x → midL d a) → Ev (fun k=>count_sum.g k y x) (sumL x y):=fun x=>by
    induction x with
    | nil=>exact fun _=>Ev.now _
    | cons a x ih=>exact fun h=>Ev.bind (row_ev hd (h a (by simp)) y hy) (Ev.bind (ih (fun c hc=>h c (by simp [hc]))) (Ev.now _))
  unfold count_sum.f
  exact Ev.pos ⟨h1,h2⟩ (go x hx)
theorem bit_f:∀ c:Nat,c < 256 → Go.bits .and .i64 ((c:Nat):Int) 1=((c % 2:Nat):Int):=by decide +kernel
theorem shr_f (c i:Nat) (hi:i ≤ 60):shr .i64 (c:Int) (i:Int)=((c / 2 ^ i:Nat):Int):=by
  unfold shr
  rw [Int.toNat_natCast,Nat.min_eq_left (by show i ≤ 64;omega),Int.natCast_ediv,Int.natCast_pow]
  rfl
theorem shl_f:∀ n:Nat,n ≤ 8 → shl .i64 1 ((n:Nat):Int)=((2 ^ n:Nat):Int):=fun n hn=>by
  have:n=0 ∨ n=1 ∨ n=2 ∨ n=3 ∨ n=4 ∨ n=5 ∨ n=6 ∨ n=7 ∨ n=8:=by omega
  rcases this with rfl|rfl|rfl|rfl|rfl|rfl|rfl|rfl|rfl <;> decide +kernel
theorem okSet.mid {d:Nat} {s:List S60} (h:okSet d s):∀ l,l ∈ s → midL d l:=fun l hl=>by
  have:=h.2 l hl
  exact ⟨this.1.mono (by decide),by omega,fun p hp=>(this.2.2 p hp).mono (by decide)⟩
theorem inB_addV {m n:Int}:∀ {v w:List Int},inB m v → inB n w → inB (m + n) (addV v w)
  | [],w,_,_=>by intro x hx;simp [addV] at hx
  | x :: v,[],_,_=>by intro x hx;simp [addV] at hx
  | x :: v,y :: w,hv,hw=>by
    intro z hz
    rw [addV] at hz
    rcases List.mem_cons.1 hz with rfl|hz
    · have:=hv x (by simp)
      have:=hw y (by simp)
      omega
    · exact inB_addV (fun a ha=>hv a (by simp [ha])) (fun a ha=>hw a (by simp [ha])) z hz
section
variable {d:Nat} (hd:d ≤ 3) (x:List S60) (hx:okSet d x)
include hd hx
theorem star_l1 (out:List S60) (ho:out.length < 1000000) (c:Nat) (hc:c < 256) (r:List S60):∀ (t pre:List S60) (b:List Int) (ps:List (List Int)),x=pre ++ t → b.length=d → inB (20 * pre.length) b → ps.length ≤ 5 * pre.length → (∀ p,p ∈ ps → p.length=d) →
    Ev (fun k=>count_star.l0 k (d:Int) x (out ++ [⟨addV b (sumB d (pickN (c / 2 ^ pre.length) t)),ps ++ (pickN (c / 2 ^ pre.length) t).flatMap fun a=>a.f0 :: a.f1⟩]) (wrap64 ((c:Int) + 1))) r →
    Ev (fun k=>count_star.l1 k (d:Int) x out (c:Int) x (x.length:Int) (pre.length:Int) b ps) r
  | [],pre,b,ps,e,hb,ib,hps,hpl,h=>by
    refine Ev.succ ?_
    simp only [count_star.l1]
    have hl:x.length=pre.length:=by rw [e];simp
    refine Ev.neg (by omega) (Ev.pos (by omega) ?_)
    rw [pickN,sumB,addV_zero hb,List.flatMap_nil,List.append_nil] at h
    exact h
  | a :: t,pre,b,ps,e,hb,ib,hps,hpl,h=>by
    have hl:x.length=pre.length + (t.length + 1):=by rw [e];simp
    have h8:pre.length ≤ 7:=by have:=hx.1;omega
    have ha:=hx.2 a (by rw [e];simp)
    have h1:rd_T60 x (pre.length:Int)=a:=by rw [e];exact rdT60_app _ _ _
    have ih:=fun b ps=>star_l1 out ho c hc r t (pre ++ [a]) b ps (by rw [e];simp)
    have e2:c / 2 ^ (pre ++ [a]).length=c / 2 ^ pre.length / 2:=by rw [← len_snoc,Nat.pow_succ,Nat.div_div_eq_div_mul]
    rw [e2,← len_snoc] at ih
    have hq:c / 2 ^ pre.length < 256:=Nat.lt_of_le_of_lt (Nat.div_le_self _ _) hc
    refine Ev.succ ?_
    simp only [count_star.l1,h1,shr_f c pre.length (by omega),wsucc (show pre.length < 4611686018427387904 by omega),bit_f _ hq]
    refine Ev.pos (by omega) (Ev.pos (by omega) (Ev.pos (by omega) ?_))
    rw [pickN] at h
    by_cases hbit:c / 2 ^ pre.length % 2=1
    · rw [if_pos hbit,sumB,← addV_assoc,List.flatMap_cons,← List.append_assoc] at h
      have ibm:inB 1000000 b:=fun z hz=>⟨(ib z hz).1,by have:=(ib z hz).2;omega⟩
      have ep:=plus_ev (hb.trans ha.1.1.symm) ibm (ha.1.mono (n:=1000000) (by decide)).2 (by omega)
      have hcop:=copies_ev (ps:=a.f0 :: a.f1) (by have:=ha.2.1;simp;omega) (fun p hp=>by
        rcases List.mem_cons.1 hp with rfl|hp
        · have:=ha.1.1;omega
        · have:=(ha.2.2 p hp).1;omega)
      have l5:(a.f0 :: a.f1).length ≤ 5:=by have:=ha.2.1;simp;omega
      refine Ev.pos (by omega) (Ev.bind ep (Ev.bindc rfl (Ev.pos (by simp;omega) (Ev.bind hcop (Ev.pos (by omega) ?_)))))
      refine ih _ _ (addV_len hb ha.1.1) (fun z hz=>?_) (by rw [List.length_append];omega) (fun p hp=>?_) h
      · have:=inB_addV ib ha.1.2 z hz
        rw [Int.natCast_succ];omega
      · rcases List.mem_append.1 hp with hp|hp
        · exact hpl p hp
        · rcases List.mem_cons.1 hp with rfl|hp
          · exact ha.1.1
          · exact (ha.2.2 p hp).1
    · rw [if_neg hbit] at h
      refine Ev.neg (by omega) (ih b ps hb (fun z hz=>?_) (by omega) hpl h)
      have:=ib z hz
      rw [Int.natCast_succ];omega
theorem star_l0:∀ (n c:Nat),2 ^ x.length - c=n → c ≤ 2 ^ x.length → 1 ≤ c → Ev (fun k=>count_star.l0 k (d:Int) x ((List.range c).map fun c=>starOf d (pickN c x)) (c:Int)) (starL d x):=by
  have hp:2 ^ x.length ≤ 256:=Nat.pow_le_pow_right (n:=2) (by omega) hx.1
  intro n
  induction n with
  | zero =>
    intro c hn hc h1
    have e:c=2 ^ x.length:=by omega
    refine Ev.succ ?_
    simp only [count_star.l0,shl_f x.length hx.1]
    refine Ev.neg (by omega) ?_
    rw [e]
    exact Ev.now _
  | succ n ih =>
    intro c hn hc h1
    have ih:=ih (c + 1) (by omega) (by omega) (by omega)
    refine Ev.succ ?_
    simp only [count_star.l0,shl_f x.length hx.1]
    refine Ev.pos (by omega) (Ev.pos (by omega) (Ev.pos (by omega) ?_))
    rw [Int.toNat_natCast]
    refine star_l1 hd x hx _ (by simp;omega) c (by omega) _ x [] (List.replicate d 0) [] rfl (by simp) (fun z hz=>by rw [List.eq_of_mem_replicate hz];simp) (by simp) (fun p hp=>by simp at hp) ?_
    rw [wsucc (by omega),List.length_nil,Nat.pow_zero,Nat.div_one,List.nil_append]
    rw [List.range_succ,List.map_append] at ih
    have e:addV (List.replicate d 0) (sumB d (pickN c x))=sumB d (pickN c x):=zero_addV (sumB_len (fun a ha=>(hx.mid a ((pick_sub x c).subset ha)).okL)).1
    rw [e]
    exact ih
theorem star_ev:Ev (fun k=>count_star.f k (d:Int) x) (starL d x):=by
  unfold count_star.f
  refine Ev.pos (by omega) (Ev.pos (by omega) ?_)
  have:=star_l0 hd x hx _ 1 rfl (Nat.one_le_two_pow) (Nat.le_refl _)
  have e:((List.range 1).map fun c=>starOf d (pickN c x))=[⟨List.replicate ((d:Int)).toNat 0,[]⟩]:=by
    rw [Int.toNat_natCast]
    show [starOf d (pickN 0 x)]=_
    rw [pick_zero];rfl
  rw [e] at this
  exact this
end
theorem inB_sumB {d:Nat}:∀ {ch:List S60},(∀ a,a ∈ ch → okV d 20 a.f0) → inB (20 * ch.length) (sumB d ch)
  | [],_=>fun z hz=>by rw [zeroN_mem hz];simp
  | a :: t,h=>fun z hz=>by
    have:=inB_addV (h a (by simp)).2 (inB_sumB (ch:=t) (fun b hb=>h b (by simp [hb]))) z hz
    rw [List.length_cons,Int.natCast_succ];omega
theorem star_mid {d:Nat} {x:List S60} (hx:okSet d x):(starL d x).length ≤ 256∧∀ l,l ∈ starL d x → midL d l:=by
  have hp:2 ^ x.length ≤ 256:=Nat.pow_le_pow_right (n:=2) (by omega) hx.1
  unfold starL
  refine ⟨by rw [List.length_map,List.length_range];exact hp,fun l hl=>?_⟩
  obtain ⟨c,_,rfl⟩:=List.mem_map.1 hl
  have hs:=pick_sub x c
  have hl8:(pickN c x).length ≤ 8:=Nat.le_trans hs.length_le hx.1
  have flen:∀ ch:List S60,(∀ a,a ∈ ch → a.f1.length ≤ 4) → (ch.flatMap fun a=>a.f0 :: a.f1).length ≤ 5 * ch.length:=fun ch=>by
    induction ch with
    | nil=>intro _;simp
    | cons a t ih =>
      intro h
      have h1:=h a (by simp)
      have h2:=ih (fun b hb=>h b (by simp [hb]))
      rw [List.flatMap_cons,List.length_append,List.length_cons,List.length_cons]
      omega
  refine ⟨⟨(sumB_len (fun a ha=>(hx.mid a (hs.subset ha)).okL)).1,fun z hz=>?_⟩,?_,fun p hp=>?_⟩
  · have:=inB_sumB (d:=d) (fun a ha=>(hx.2 a (hs.subset ha)).1) z hz
    omega
  · have:=flen (pickN c x) (fun a ha=>(hx.2 a (hs.subset ha)).2.1)
    show ((pickN c x).flatMap fun a=>a.f0 :: a.f1).length ≤ 1000
    omega
  · obtain ⟨a,ha,hp⟩:=List.mem_flatMap.1 hp
    have:=hx.2 a (hs.subset ha)
    rcases List.mem_cons.1 hp with rfl|hp
    · exact this.1.mono (by decide)
    · exact (this.2.2 p hp).mono (by decide)
theorem sum_mid {d:Nat} {x y:List S60} (hx:okSet d x) (hy:okSet d y):(sumL x y).length ≤ 64∧∀ l,l ∈ sumL x y → midL d l:=by
  constructor
  · have:∀ x:List S60,(sumL x y).length=x.length * y.length:=fun x=>by
      induction x with
      | nil=>simp [sumL]
      | cons a x ih =>
        unfold sumL at ih ⊢
        rw [List.flatMap_cons,List.length_append,List.length_map,ih,List.length_cons,Nat.add_mul]
        omega
    rw [this]
    exact Nat.mul_le_mul hx.1 hy.1
  · intro l hl
    obtain ⟨a,ha,hl⟩:=List.mem_flatMap.1 hl
    obtain ⟨b,hb,rfl⟩:=List.mem_map.1 hl
    have h1:=hx.2 a ha
    have h2:=hy.2 b hb
    refine ⟨⟨addV_len h1.1.1 h2.1.1,fun z hz=>?_⟩,?_,fun p hp=>?_⟩
    · have:=inB_addV h1.1.2 h2.1.2 z hz
      omega
    · show (a.f1 ++ b.f1).length ≤ 1000
      rw [List.length_append];omega
    · rcases List.mem_append.1 hp with hp|hp
      · exact (h1.2.2 p hp).mono (by decide)
      · exact (h2.2.2 p hp).mono (by decide)
end Go.Proofs.Ytkonljiembcdlaa.Pure
/- The reference's sum of vectors, and of sets, in plain Lean. -/
set_option linter.unusedVariables false
set_option linter.unusedSimpArgs false
namespace Go.Proofs.Ytkonljiembcdlaa.Pure
open Go.RowKit Go.Proofs.MyWords Go.Proofs.YtkonljiembcdlaaW.PrintWords Go.Proofs.YtkonljiembcdlaaW.PrintLast Go.Proofs.YtkonljiembcdlaaW.PrintMore Go.Proofs.Ytkonljiembcdlaa.PC Go.Proofs.Ytkonljiembcdlaa.Sem
theorem rplus_l0:∀ (v w pv pw acc:List Int),pv.length=pw.length → v.length=w.length → acc.length=pv.length → pv.length + v.length ≤ 1000 → inB 1000000 v → inB 1000000 w → Ev (fun k=>bellpullref05_Plus.l0 k (pv ++ v) (pw ++ w) acc (pv.length:Int)) (acc ++ addV v w)
  | [],w,pv,pw,acc,h1,h2,h3,h4,hv,hw=>by
    refine Ev.succ ?_
    simp only [bellpullref05_Plus.l0]
    refine Ev.neg (by simp) ?_
    simp only [addV,List.append_nil]
    exact Ev.now _
  | x :: v,[],pv,pw,acc,h1,h2,h3,h4,hv,hw=>by simp at h2
  | x :: v,y :: w,pv,pw,acc,h1,h2,h3,h4,hv,hw=>by
    simp at h2 h4
    have bx:=hv x (by simp)
    have by_:=hw y (by simp)
    have e1:rd (pv ++ x :: v) (pv.length:Int)=x:=rd_app _ _ _
    have e2:rd (pw ++ y :: w) (pv.length:Int)=y:=by rw [h1];exact rd_app _ _ _
    have ih:=rplus_l0 v w (pv ++ [x]) (pw ++ [y]) (acc ++ [x + y]) (by simp [h1]) h2 (by simp [h3]) (by simp;omega) (fun z hz=>hv z (by simp [hz])) (fun z hz=>hw z (by simp [hz]))
    rw [List.append_assoc,List.append_assoc,List.append_assoc] at ih
    refine Ev.succ ?_
    simp only [bellpullref05_Plus.l0,e1,e2]
    refine Ev.pos (by simp <;> omega) (Ev.pos (by omega) (Ev.pos (by simp <;> omega) (Ev.pos (by omega) ?_)))
    rw [wrap_id (x:=x + y) (by omega) (by omega),wrap_id (x:=(pv.length:Int) + 1) (by omega) (by omega)]
    have e3:((pv ++ [x]).length:Int)=(pv.length:Int) + 1:=by simp
    rw [e3] at ih
    exact ih
theorem rplus_ev {d:Nat} {v w:List Int} (hd:d ≤ 3) (hv:okV d 1000000 v) (hw:okV d 1000000 w):Ev (fun k=>bellpullref05_Plus.f k v w) (addV v w) :=
  rplus_l0 v w [] [] [] rfl (hv.1.trans hw.1.symm) rfl (by have:=hv.1;simp;omega) hv.2 hw.2
theorem rel_ev {d:Nat} (hd:d ≤ 3) {a b:S60} (ha:midL d a) (hb:midL d b):Ev (fun k=>refSum.el k a b) (sumE a b):=by
  unfold refSum.el
  refine Ev.bind (rplus_ev hd (ha.1.mono (by decide)) (hb.1.mono (by decide))) (Ev.pos ?_ (Ev.now _))
  have:=ha.2.1
  have:=hb.2.1
  omega
theorem rrow_ev {d:Nat} (hd:d ≤ 3) {a:S60} (ha:midL d a):∀ y:List S60,(∀ b,b ∈ y → midL d b) → Ev (fun k=>pr.row (refSum.el k) a y) (y.map (sumE a))
  | [],_=>Ev.now _
  | b :: y,h=>Ev.bind (rel_ev hd ha (h b (by simp))) (Ev.bind (rrow_ev hd ha y (fun c hc=>h c (by simp [hc]))) (Ev.now _))
theorem rg_ev {d:Nat} (hd:d ≤ 3) {y:List S60} (hy:∀ b,b ∈ y → midL d b):∀ x:List S60,(∀ b,b ∈ x → midL d b) → Ev (fun k=>pr.g (refSum.el k) y x) (sumL x y)
  | [],_=>Ev.now _
  | a :: x,h=>by
    have e:sumL (a :: x) y=y.map (sumE a) ++ sumL x y:=by unfold sumL;rw [List.flatMap_cons]
    rw [e]
    exact Ev.bind (rrow_ev hd (h a (by simp)) y hy) (Ev.bind (rg_ev hd hy x (fun c hc=>h c (by simp [hc]))) (Ev.now _))
theorem rsum_ev {d:Nat} (hd:d ≤ 3) {x y:List S60} (hx:∀ a,a ∈ x → midL d a) (hy:∀ a,a ∈ y → midL d a) (h1:x.length ≤ 5000) (h2:y.length ≤ 5000):Ev (fun k=>bellpullref05_Sum.f k x y) (sumL x y):=by
  unfold bellpullref05_Sum.f
  exact Ev.pos ⟨h1,h2⟩ (rg_ev hd hy x hx)
end Go.Proofs.Ytkonljiembcdlaa.Pure
namespace Go.Proofs.Ytkonljiembcdlaa.PC
open Go.Proofs.MyWords Go.RowKit Go.Proofs.YtkonljiembcdlaaW.PrintWords Go.Proofs.YtkonljiembcdlaaW.PrintLast Go.Proofs.YtkonljiembcdlaaW.PrintMore
attribute [local go_sem] max2_int min2_int max_two min_two max_three min_three max_four min_four   -- for this text's walks alone
set_option linter.unusedVariables false
set_option linter.unusedSimpArgs false
attribute [local go_sem] eqGuard_slices eqlnil23 neqnil23 eqlnil58 neqnil58
structure TwoSets (w:World) (Ax:Option Addr) (cx:Nat) (x:List S60) (Ay:Option Addr) (cy:Nat) (y:List S60) (gx gy gm:Nat):Prop where
  lx:w.heap.size ≤ gx
  ly:w.heap.size ≤ gy
  lm:w.heap.size ≤ gm
  nx:gx ≠ gm
  ny:gy ≠ gm
  kx:Kd.C k60 w Ax x.length x
  ky:Kd.C k60 w Ay y.length y
  ex:x.length ≤ cx
  ey:y.length ≤ cy
end Go.Proofs.Ytkonljiembcdlaa.PC
namespace Go.Proofs.Ytkonljiembcdlaa.PC
open Go.Proofs.MyWords Go.RowKit Go.Proofs.YtkonljiembcdlaaW.PrintWords Go.Proofs.YtkonljiembcdlaaW.PrintLast Go.Proofs.YtkonljiembcdlaaW.PrintMore
attribute [local go_sem] max2_int min2_int max_two min_two max_three min_three max_four min_four   -- for this text's walks alone
set_option linter.unusedVariables false
set_option linter.unusedSimpArgs false
attribute [local go_sem] eqGuard_slices eqlnil23 neqnil23 eqlnil58 neqnil58
end Go.Proofs.Ytkonljiembcdlaa.PC
namespace Go.Proofs.Ytkonljiembcdlaa.PC
open Go.Proofs.MyWords Go.RowKit Go.Proofs.YtkonljiembcdlaaW.PrintWords Go.Proofs.YtkonljiembcdlaaW.PrintLast Go.Proofs.YtkonljiembcdlaaW.PrintMore
attribute [local go_sem] max2_int min2_int max_two min_two max_three min_three max_four min_four   -- for this text's walks alone
set_option linter.unusedVariables false
set_option linter.unusedSimpArgs false
attribute [local go_sem] eqGuard_slices eqlnil23 neqnil23 eqlnil58 neqnil58
end Go.Proofs.Ytkonljiembcdlaa.PC
namespace Go.Proofs.Ytkonljiembcdlaa.PC
open Go.Proofs.MyWords Go.RowKit Go.Proofs.YtkonljiembcdlaaW.PrintWords Go.Proofs.YtkonljiembcdlaaW.PrintLast Go.Proofs.YtkonljiembcdlaaW.PrintMore
attribute [local go_sem] max2_int min2_int max_two min_two max_three min_three max_four min_four   -- for this text's walks alone
set_option linter.unusedVariables false
set_option linter.unusedSimpArgs false
attribute [local go_sem] eqGuard_slices eqlnil23 neqnil23 eqlnil58 neqnil58
end Go.Proofs.Ytkonljiembcdlaa.PC
namespace Go.Proofs.Ytkonljiembcdlaa.PC
open Go.Proofs.MyWords Go.RowKit Go.Proofs.YtkonljiembcdlaaW.PrintWords Go.Proofs.YtkonljiembcdlaaW.PrintLast Go.Proofs.YtkonljiembcdlaaW.PrintMore
attribute [local go_sem] max2_int min2_int max_two min_two max_three min_three max_four min_four   -- for this text's walks alone
set_option linter.unusedVariables false
set_option linter.unusedSimpArgs false
attribute [local go_sem] eqGuard_slices eqlnil23 neqnil23 eqlnil58 neqnil58
end Go.Proofs.Ytkonljiembcdlaa.PC
namespace Go.Proofs.Ytkonljiembcdlaa.PC
open Go.Proofs.MyWords Go.RowKit Go.Proofs.YtkonljiembcdlaaW.PrintWords Go.Proofs.YtkonljiembcdlaaW.PrintLast Go.Proofs.YtkonljiembcdlaaW.PrintMore
attribute [local go_sem] max2_int min2_int max_two min_two max_three min_three max_four min_four   -- for this text's walks alone
set_option linter.unusedVariables false
set_option linter.unusedSimpArgs false
attribute [local go_sem] eqGuard_slices eqlnil23 neqnil23 eqlnil58 neqnil58
end Go.Proofs.Ytkonljiembcdlaa.PC
namespace Go.Proofs.Ytkonljiembcdlaa.PC
open Go.Proofs.MyWords Go.RowKit Go.Proofs.YtkonljiembcdlaaW.PrintWords Go.Proofs.YtkonljiembcdlaaW.PrintLast Go.Proofs.YtkonljiembcdlaaW.PrintMore
attribute [local go_sem] max2_int min2_int max_two min_two max_three min_three max_four min_four   -- for this text's walks alone
set_option linter.unusedVariables false
set_option linter.unusedSimpArgs false
attribute [local go_sem] eqGuard_slices eqlnil23 neqnil23 eqlnil58 neqnil58
end Go.Proofs.Ytkonljiembcdlaa.PC
/- The statements' measure of a long search has a value, in plain Lean. -/
set_option linter.unusedVariables false
set_option linter.unusedSimpArgs false
namespace Go.Proofs.Ytkonljiembcdlaa.Pure
open Go.RowKit Go.Proofs.MyWords Go.Proofs.YtkonljiembcdlaaW.PrintWords Go.Proofs.YtkonljiembcdlaaW.PrintLast Go.Proofs.YtkonljiembcdlaaW.PrintMore Go.Proofs.Ytkonljiembcdlaa.PC Go.Proofs.Ytkonljiembcdlaa.Sem
end Go.Proofs.Ytkonljiembcdlaa.Pure
/- A vector's total, as the program takes it, in plain Lean. -/
set_option linter.unusedVariables false
set_option linter.unusedSimpArgs false
namespace Go.Proofs.Ytkonljiembcdlaa.Pure
open Go.RowKit Go.Proofs.MyWords Go.Proofs.YtkonljiembcdlaaW.PrintWords Go.Proofs.YtkonljiembcdlaaW.PrintLast Go.Proofs.YtkonljiembcdlaaW.PrintMore Go.Proofs.Ytkonljiembcdlaa.PC Go.Proofs.Ytkonljiembcdlaa.Sem
end Go.Proofs.Ytkonljiembcdlaa.Pure
/- count.Least and count.Count in plain Lean. -/
set_option linter.unusedVariables false
set_option linter.unusedSimpArgs false
namespace Go.Proofs.Ytkonljiembcdlaa.Pure
open Go.RowKit Go.Proofs.MyWords Go.Proofs.YtkonljiembcdlaaW.PrintWords Go.Proofs.YtkonljiembcdlaaW.PrintLast Go.Proofs.YtkonljiembcdlaaW.PrintMore Go.Proofs.Ytkonljiembcdlaa.PC Go.Proofs.Ytkonljiembcdlaa.Sem
def cmpL:List Int → List Int → Int
  | [],[]=>0
  | [],_ :: _=>-1
  | _ :: _,[]=>1
  | a :: s,b :: t=>if a < b then -1 else if a > b then 1 else cmpL s t
section
variable {d:Nat} (h1:1 ≤ d) (hd:d ≤ 3) {x:List S60} (hx:okSet d x)
include h1 hd hx
end
end Go.Proofs.Ytkonljiembcdlaa.Pure
/- What the statements cut off, in plain Lean. -/
set_option linter.unusedVariables false
set_option linter.unusedSimpArgs false
namespace Go.Proofs.Ytkonljiembcdlaa.Pure
open Go.RowKit Go.Proofs.MyWords Go.Proofs.YtkonljiembcdlaaW.PrintWords Go.Proofs.YtkonljiembcdlaaW.PrintLast Go.Proofs.YtkonljiembcdlaaW.PrintMore Go.Proofs.Ytkonljiembcdlaa.PC Go.Proofs.Ytkonljiembcdlaa.Sem
theorem text_f (s:ByteArray):∃ t,bellpulllaw05_text.f s=some t∧t.size ≤ 31:=by
  unfold bellpulllaw05_text.f mn
  by_cases h:(31:Int) < (s.size:Int)
  · rw [if_pos h,if_pos (by omega),if_pos (by omega)]
    exact ⟨_,rfl,by rw [ByteArray.size_extract];omega⟩
  · rw [if_neg h,if_pos (by omega),if_pos (by omega)]
    exact ⟨_,rfl,by rw [ByteArray.size_extract];omega⟩
end Go.Proofs.Ytkonljiembcdlaa.Pure
/- What the statements cut off of semilinear sets, in plain Lean. -/
set_option linter.unusedVariables false
set_option linter.unusedSimpArgs false
namespace Go.Proofs.Ytkonljiembcdlaa.Pure
open Go.RowKit Go.Proofs.MyWords Go.Proofs.YtkonljiembcdlaaW.PrintWords Go.Proofs.YtkonljiembcdlaaW.PrintLast Go.Proofs.YtkonljiembcdlaaW.PrintMore Go.Proofs.Ytkonljiembcdlaa.PC Go.Proofs.Ytkonljiembcdlaa.Sem
end Go.Proofs.Ytkonljiembcdlaa.Pure
namespace Go.Proofs.Ytkonljiembcdlaa.PC
open Go.Proofs.MyWords Go.RowKit Go.Proofs.YtkonljiembcdlaaW.PrintWords Go.Proofs.YtkonljiembcdlaaW.PrintLast Go.Proofs.YtkonljiembcdlaaW.PrintMore
attribute [local go_sem] max2_int min2_int max_two min_two max_three min_three max_four min_four   -- for this text's walks alone
set_option linter.unusedVariables false
set_option linter.unusedSimpArgs false
attribute [local go_sem] eqGuard_slices eqlnil23 neqnil23 eqlnil58 neqnil58
end Go.Proofs.Ytkonljiembcdlaa.PC
/- All vectors of a sum, as the reference lists them, in plain Lean. -/
set_option linter.unusedVariables false
set_option linter.unusedSimpArgs false
namespace Go.Proofs.Ytkonljiembcdlaa.Pure
open Go.RowKit Go.Proofs.MyWords Go.Proofs.YtkonljiembcdlaaW.PrintWords Go.Proofs.YtkonljiembcdlaaW.PrintLast Go.Proofs.YtkonljiembcdlaaW.PrintMore Go.Proofs.Ytkonljiembcdlaa.PC Go.Proofs.Ytkonljiembcdlaa.Sem
end Go.Proofs.Ytkonljiembcdlaa.Pure
/- The document's examples. -/
set_option linter.unusedVariables false
namespace Go.Proofs.Ytkonljiembcdlaa.Pure
open Go.RowKit Go.Proofs.YtkonljiembcdlaaW.PrintWords Go.Proofs.Ytkonljiembcdlaa.PC
theorem lives_ev:Ev (fun k=>bellpulllaw05_lives.f k) true :=
  Ev.of (fun k=>bellpulllaw05_lives.mono k) (k:=60) (by kernel_rfl)
end Go.Proofs.Ytkonljiembcdlaa.Pure
/- count.Differ in plain Lean. -/
set_option linter.unusedVariables false
set_option linter.unusedSimpArgs false
namespace Go.Proofs.Ytkonljiembcdlaa.Pure
open Go.RowKit Go.Proofs.MyWords Go.Proofs.YtkonljiembcdlaaW.PrintWords Go.Proofs.YtkonljiembcdlaaW.PrintLast Go.Proofs.YtkonljiembcdlaaW.PrintMore Go.Proofs.Ytkonljiembcdlaa.PC Go.Proofs.Ytkonljiembcdlaa.Sem
theorem before_go:∀ (s t v w:List Int),v.length=w.length → (v ++ s).length < 1000000 → Ev (fun k=>bellpullref01_Before.l0 k (v ++ s) (w ++ t) (v.length:Int)) (decide (cmpL s t < 0))
  | [],[],v,w,hl,h1=>by
    refine Ev.succ ?_
    simp only [bellpullref01_Before.l0]
    refine Ev.neg (by simp) (Ev.succ ?_)
    simp only [bellpullref01_Before.j1]
    refine Ev.neg (by simp) (Ev.const ?_)
    simp [cmpL,hl]
  | [],b :: t,v,w,hl,h1=>by
    refine Ev.succ ?_
    simp only [bellpullref01_Before.l0]
    refine Ev.neg (by simp) (Ev.succ ?_)
    simp only [bellpullref01_Before.j1]
    refine Ev.neg (by simp) (Ev.const ?_)
    simp [cmpL,hl]
    omega
  | a :: s,[],v,w,hl,h1=>by
    have e:decide ((v.length:Int) < ((w ++ []).length:Int))=false:=decide_eq_false (by simp;omega)
    refine Ev.succ ?_
    simp only [bellpullref01_Before.l0,e]
    refine Ev.pos (by simp;omega) (Ev.succ ?_)
    simp only [bellpullref01_Before.j1]
    refine Ev.neg (by simp) (Ev.const ?_)
    simp [cmpL,hl]
    omega
  | a :: s,b :: t,v,w,hl,h1=>by
    have hv:v.length < 1000000:=by simp at h1;omega
    have e:decide ((v.length:Int) < ((w ++ b :: t).length:Int))=true:=decide_eq_true (by simp;omega)
    have e2:rd (w ++ b :: t) (v.length:Int)=b:=by rw [hl];exact rd_app _ _ _
    have ih:=before_go s t (v ++ [a]) (w ++ [b]) (by simp;omega) (by simpa using h1)
    rw [← app_snoc,← app_snoc,← len_snoc] at ih
    refine Ev.succ ?_
    simp only [bellpullref01_Before.l0,e]
    refine Ev.pos (by simp;omega) (Ev.succ ?_)
    simp only [bellpullref01_Before.j1,rd_app,e2,wsucc (show v.length < 4611686018427387904 by omega)]
    refine Ev.pos trivial (Ev.pos (by omega) (Ev.pos (by simp;omega) (Ev.pos (by simp;omega) ?_)))
    by_cases c:a=b
    · subst c
      have:cmpL (a :: s) (a :: t)=cmpL s t:=by simp [cmpL]
      rw [this]
      exact Ev.pos rfl ih
    · refine Ev.neg c (Ev.const ?_)
      by_cases c1:a < b
      · simp [cmpL,c1]
      · have c2:a > b:=by omega
        simp [cmpL,c1,c2]
theorem before_ev {s t:List Int} (h1:s.length < 1000000):Ev (fun k=>bellpullref01_Before.f k s t) (decide (cmpL s t < 0)):=before_go s t [] [] rfl h1
theorem cmp_self:∀ s:List Int,cmpL s s=0
  | []=>rfl
  | a :: s=>by simp [cmpL,cmp_self s]
theorem same_ev {s:List Int} (h:s.length < 1000000):Ev (fun k=>bellpullref01_Same.f k s s) true:=by
  have b:=before_ev (s:=s) (t:=s) h
  rw [cmp_self] at b
  unfold bellpullref01_Same.f
  exact Ev.bind b (Ev.neg (by simp) (Ev.bind b (Ev.now _)))
section
variable {d:Nat} {x y:List S60}
end
end Go.Proofs.Ytkonljiembcdlaa.Pure
/- CountSums: for every input the law returns true. -/
set_option linter.unusedVariables false
set_option linter.unusedSimpArgs false
namespace Go.Proofs.Ytkonljiembcdlaa.Pure
open Go.RowKit Go.Proofs.MyWords Go.Proofs.YtkonljiembcdlaaW.PrintWords Go.Proofs.YtkonljiembcdlaaW.PrintLast Go.Proofs.YtkonljiembcdlaaW.PrintMore Go.Proofs.Ytkonljiembcdlaa.PC Go.Proofs.Ytkonljiembcdlaa.Sem
theorem rstar_inn {d:Nat} (hd:d ≤ 3) (c:Nat):∀ (t:List S60) (i:Nat) (b:List Int) (ps:List (List Int)),(∀ a,a ∈ t → okV d 20 a.f0∧a.f1.length ≤ 4) → t.length ≤ 8 → okV d (20 * (i:Int)) b → i + t.length ≤ 8 → ps.length ≤ 5 * i → Ev (fun k=>refStar.inn k c t i ⟨b,ps⟩) ⟨addV b (sumB d (pickN (c / 2 ^ i) t)),ps ++ (pickN (c / 2 ^ i) t).flatMap fun a=>a.f0 :: a.f1⟩
  | [],i,b,ps,h,hl,hb,hi,hp=>by
    rw [pickN,sumB,addV_zero hb.1,List.flatMap_nil,List.append_nil]
    exact Ev.now _
  | a :: t,i,b,ps,h,hl,hb,hi,hp=>by
    rw [List.length_cons] at hl hi
    have ha:=h a (by simp)
    have e2:c / 2 ^ (i + 1)=c / 2 ^ i / 2:=by rw [Nat.pow_succ,Nat.div_div_eq_div_mul]
    have ih:=fun b ps=>rstar_inn hd c t (i + 1) b ps (fun x hx=>h x (by simp [hx])) (by omega)
    rw [e2] at ih
    simp only [refStar.inn]
    rw [pickN]
    by_cases hbit:c / 2 ^ i % 2=1
    · rw [if_pos hbit,sumB,← addV_assoc,List.flatMap_cons,← List.append_assoc]
      have l5:(a.f0 :: a.f1).length ≤ 5:=by rw [List.length_cons];omega
      refine Ev.pos hbit (Ev.bind (rplus_ev hd (hb.mono (by omega)) (ha.1.mono (by decide))) (Ev.pos ⟨by show ps.length ≤ 100000;omega,by omega⟩ ?_))
      refine ih _ _ ⟨addV_len hb.1 ha.1.1,fun z hz=>?_⟩ (by omega) (by rw [List.length_append];omega)
      have:=inB_addV hb.2 ha.1.2 z hz
      push_cast
      omega
    · rw [if_neg hbit]
      exact Ev.neg hbit (ih b ps (hb.mono (by push_cast;omega)) (by omega) (by omega))
def rstarL (d:Nat) (x:List S60):List S60:=(List.range (refStar.m x)).map fun c=>starOf d (pickN c x)
theorem okV_zero (d:Nat) (m:Int) (hm:0 ≤ m):okV d m (List.replicate d 0):=⟨by simp,fun z hz=>by rw [List.eq_of_mem_replicate hz];omega⟩
theorem rstar_out {d:Nat} (hd:d ≤ 3) {x:List S60} (hx:okSet d x):∀ (n c:Nat),Ev (fun k=>refStar.out k (d:Int) x n c) ((List.range' c n).map fun c=>starOf d (pickN c x))
  | 0,c=>Ev.now _
  | n + 1,c=>by
    have h:=rstar_inn hd c x 0 (List.replicate d 0) [] (fun a ha=>⟨(hx.2 a ha).1,(hx.2 a ha).2.1⟩) hx.1 (okV_zero d _ (by decide)) (by have:=hx.1;omega) (by simp)
    rw [Nat.pow_zero,Nat.div_one,List.nil_append] at h
    have e:addV (List.replicate d 0) (sumB d (pickN c x))=sumB d (pickN c x):=zero_addV (sumB_len (fun a ha=>(hx.mid a ((pick_sub x c).subset ha)).okL)).1
    rw [e] at h
    simp only [refStar.out,Int.toNat_natCast,List.range'_succ,List.map_cons]
    exact Ev.bind h (Ev.bind (rstar_out hd hx n (c + 1)) (Ev.now _))
theorem rstar_ev {d:Nat} (hd:d ≤ 3) {x:List S60} (hx:okSet d x):Ev (fun k=>bellpullref05_Star.f k (d:Int) x) (rstarL d x):=by
  have hm:=refStar.m_le x
  have h:=rstar_out hd hx (refStar.m x - 1) 1
  unfold bellpullref05_Star.f
  have e:rstarL d x=(⟨List.replicate ((d:Int)).toNat 0,[]⟩:S60) :: (List.range' 1 (refStar.m x - 1)).map fun c=>starOf d (pickN c x):=by
    unfold rstarL
    obtain ⟨m,h⟩:∃ m,refStar.m x=m + 1:=⟨refStar.m x - 1,by omega⟩
    rw [h,List.range_eq_range',List.range'_succ,List.map_cons,Int.toNat_natCast,pick_zero]
    rfl
  rw [e]
  exact Ev.pos ⟨by omega,by omega,by have:=hx.1;omega⟩ (Ev.bind h (Ev.now _))
theorem star_len (d:Nat) (x:List S60):(starL d x).length=2 ^ x.length:=by unfold starL;simp
theorem rstar_len (d:Nat) (x:List S60):(rstarL d x).length=refStar.m x:=by unfold rstarL;simp
theorem rstar_short {d:Nat} {x:List S60} (h:x.length ≤ 4):rstarL d x=starL d x:=by
  unfold rstarL starL refStar.m
  rw [Nat.min_eq_left h]
theorem rstar_mid {d:Nat} {x:List S60} (hx:okSet d x):(rstarL d x).length ≤ 16∧∀ l,l ∈ rstarL d x → midL d l:=by
  refine ⟨by rw [rstar_len];exact (refStar.m_le x).2,fun l hl=>(star_mid hx).2 l ?_⟩
  unfold rstarL at hl
  obtain ⟨c,hc,rfl⟩:=List.mem_map.1 hl
  refine List.mem_map.2 ⟨c,List.mem_range.2 (Nat.lt_of_lt_of_le (List.mem_range.1 hc) ?_),rfl⟩
  exact Nat.pow_le_pow_right (by decide) (Nat.min_le_left _ _)
theorem chk_long {d:Nat} {s:List S60} (h:8 < s.length):chk (d:Int) [s] ≠ 0:=fun h0=>by
  have:=((chk_ok.1 h0).2 s (by simp)).1
  omega
theorem rd_L1_app (pre:List (List Int)) (p:List Int) (t:List (List Int)):rd_L1 (pre ++ p :: t) (pre.length:Int)=p:=by simp [rd_L1]
theorem rd_T60_app (pre:List S60) (p:S60) (t:List S60):rd_T60 (pre ++ p :: t) (pre.length:Int)=p:=by simp [rd_T60]
theorem sameLists_l0:∀ (t pre:List (List Int)),(pre ++ t).length < 1000000 → (∀ p,p ∈ t → p.length < 1000000) → Ev (fun k=>bellpullref01_SameLists.l0 k (pre ++ t) (pre ++ t) (pre.length:Int)) true
  | [],pre,h,hp=>by
    refine Ev.succ ?_
    simp only [bellpullref01_SameLists.l0]
    exact Ev.neg (by simp) (Ev.now _)
  | p :: t,pre,h,hp=>by
    have ih:=sameLists_l0 t (pre ++ [p]) (by simpa using h) (fun q hq=>hp q (by simp [hq]))
    rw [List.append_assoc,List.singleton_append] at ih
    have hl:pre.length < 1000000:=by simp at h;omega
    refine Ev.succ ?_
    simp only [bellpullref01_SameLists.l0,rd_L1_app]
    refine Ev.pos (by simp <;> omega) (Ev.pos (by omega) (Ev.pos (by simp <;> omega) (Ev.bind (same_ev (hp p (by simp))) (Ev.pos rfl ?_))))
    rw [wrap_id (x:=(pre.length:Int) + 1) (by omega) (by omega)]
    have e3:((pre ++ [p]).length:Int)=(pre.length:Int) + 1:=by simp
    rw [e3] at ih
    exact ih
theorem sameLists_ev {l:List (List Int)} (h:l.length < 1000000) (hp:∀ p,p ∈ l → p.length < 1000000):Ev (fun k=>bellpullref01_SameLists.f k l l) true:=by
  unfold bellpullref01_SameLists.f
  exact Ev.pos rfl (sameLists_l0 l [] h hp)
theorem same_l0 {d:Nat} (hd:d ≤ 3):∀ (t pre:List S60),(pre ++ t).length < 1000000 → (∀ p,p ∈ t → midL d p) → Ev (fun k=>bellpullref05_Same.l0 k (pre ++ t) (pre ++ t) (pre.length:Int)) true
  | [],pre,h,hp=>by
    refine Ev.succ ?_
    simp only [bellpullref05_Same.l0]
    exact Ev.neg (by simp) (Ev.now _)
  | p :: t,pre,h,hp=>by
    have ih:=same_l0 hd t (pre ++ [p]) (by simpa using h) (fun q hq=>hp q (by simp [hq]))
    rw [List.append_assoc,List.singleton_append] at ih
    have hl:pre.length < 1000000:=by simp at h;omega
    have hm:=hp p (by simp)
    have hv:=vectors_f p (by unfold short;have:=hm.2.1;omega)
    refine Ev.succ ?_
    simp only [bellpullref05_Same.l0,rd_T60_app]
    refine Ev.pos (by simp <;> omega) (Ev.pos (by omega) (Ev.bindc hv (Ev.pos (by simp <;> omega) (Ev.bindc hv (Ev.bind (sameLists_ev (by rw [List.length_cons];have:=hm.2.1;omega) (fun q hq=>?_)) (Ev.pos rfl ?_))))))
    · rcases List.mem_cons.1 hq with rfl|hq
      · have:=hm.1.1;omega
      · have:=(hm.2.2 q hq).1;omega
    rw [wrap_id (x:=(pre.length:Int) + 1) (by omega) (by omega)]
    have e3:((pre ++ [p]).length:Int)=(pre.length:Int) + 1:=by simp
    rw [e3] at ih
    exact ih
theorem same_set {d:Nat} (hd:d ≤ 3) {l:List S60} (h:l.length < 1000000) (hp:∀ p,p ∈ l → midL d p):Ev (fun k=>bellpullref05_Same.f k l l) true:=by
  unfold bellpullref05_Same.f
  exact Ev.pos rfl (same_l0 hd l [] h hp)
theorem refCheckS {d:Nat} (hd:d ≤ 3) {s:List S60} (h1:s.length < 1000000) (h2:∀ l,l ∈ s → midL d l):Ev (fun k=>bellpullref05_Check.f k (d:Int) [s]) (chk (d:Int) [s]) :=
  refCheck_ev _ _ (by unfold short;simp) (fun t ht=>by
    obtain rfl:t=s:=by simpa using ht
    exact ⟨by unfold short;omega,fun l hl=>by
      have h:=h2 l hl
      refine ⟨by unfold short;have:=h.1.1;omega,by unfold short;rw [List.length_cons];have:=h.2.1;omega,fun p hp=>by unfold short;have:=(h.2.2 p hp).1;omega⟩⟩)
end Go.Proofs.Ytkonljiembcdlaa.Pure
/- Well-formed expressions run to one value, in plain Lean. -/
namespace Go.Proofs.Mach
variable {M:Type} (letter:Int → Option M) (join either:M → M → Option M) (star:M → Option M)
structure Total (G:M → Prop):Prop where
  l:∀ i,(i=0 ∨ i=1 ∨ i=2 ∨ i=-1) → ∃ x,letter i=some x∧G x
  j:∀ a b,G a → G b → ∃ x,join a b=some x∧G x
  e:∀ a b,G a → G b → ∃ x,either a b=some x∧G x
  s:∀ a,G a → ∃ x,star a=some x∧G x
end Go.Proofs.Mach
/- Accepts of well-formed expressions, in plain Lean. -/
namespace Go.Proofs.Ytkonljiembcdlaa.PC
open Go.Proofs.MyWords Go.RowKit Go.Proofs.YtkonljiembcdlaaW.PrintWords Go.Proofs.YtkonljiembcdlaaW.PrintLast Go.Proofs.YtkonljiembcdlaaW.PrintMore
set_option linter.unusedVariables false
set_option linter.unusedSimpArgs false
end Go.Proofs.Ytkonljiembcdlaa.PC
/- What an expression says, and machines that do the same with values of some kind, in plain Lean. -/
set_option linter.unusedVariables false
namespace Go.Proofs.Mach
open Go.RowKit Go.Proofs.YtkonljiembcdlaaW.PrintWords Go.Proofs.Ytkonljiembcdlaa.Pure
inductive Ex|l (i:Int)|j (a b:Ex)|e (a b:Ex)|s (a:Ex)
def Ex.size:Ex → Nat
  | .l _=>1
  | .j a b=>a.size + b.size + 1
  | .e a b=>a.size + b.size + 1
  | .s a=>a.size + 1
def sizes (es:List Ex):Nat:=(es.map Ex.size).sum
theorem sizes_app (s t:List Ex):sizes (s ++ t)=sizes s + sizes t:=by unfold sizes;simp
def runX:List UInt8 → List Ex → Option (Option Ex):=run (fun i=>some (Ex.l i)) (fun a b=>some (Ex.j a b)) (fun a b=>some (Ex.e a b)) (fun a=>some (Ex.s a))
inductive Rel2 {A B:Type} (R:A → B → Prop):List A → List B → Prop
  | nil:Rel2 R [] []
  | cons {a b s t}:R a b → Rel2 R s t → Rel2 R (a :: s) (b :: t)
section
variable {A B:Type} {R:A → B → Prop}
theorem Rel2.len {s:List A} {t:List B} (h:Rel2 R s t):s.length=t.length:=by
  induction h with
  | nil=>rfl
  | cons _ _ ih=>simp [ih]
theorem Rel2.snoc {s:List A} {t:List B} {a:A} {b:B} (h:Rel2 R s t) (hr:R a b):Rel2 R (s ++ [a]) (t ++ [b]):=by
  induction h with
  | nil=>exact .cons hr .nil
  | cons h1 _ ih=>exact .cons h1 ih
theorem Rel2.last:∀ {s:List A} {t:List B} {a:A},Rel2 R (s ++ [a]) t → ∃ t' b,t=t' ++ [b]∧Rel2 R s t'∧R a b
  | [],_,a,.cons h .nil=>⟨[],_,rfl,.nil,h⟩
  | x :: s,_,a,.cons h r=>by
    obtain ⟨t',b,rfl,h1,h2⟩:=Rel2.last r
    exact ⟨_ :: t',b,rfl,.cons h h1,h2⟩
theorem Rel2.last2 {s:List A} {t:List B} {a a':A} (h:Rel2 R (s ++ [a,a']) t):∃ t' b b',t=t' ++ [b,b']∧Rel2 R s t'∧R a b∧R a' b':=by
  have h1:Rel2 R ((s ++ [a]) ++ [a']) t:=by simpa using h
  obtain ⟨t1,b',rfl,h2,h3⟩:=h1.last
  obtain ⟨t2,b,rfl,h4,h5⟩:=h2.last
  exact ⟨t2,b,b',by simp,h4,h5,h3⟩
theorem Rel2.mono {R':A → B → Prop} {s:List A} {t:List B} (h:Rel2 R s t) (hr:∀ a b,R a b → R' a b):Rel2 R' s t:=by
  induction h with
  | nil=>exact .nil
  | cons h1 _ ih=>exact .cons (hr _ _ h1) ih
end
section
variable {M:Type} (letter:Nat → Int → Option M) (join either:Nat → M → M → Option M) (star:Nat → M → Option M)
structure Sim (N:Nat) (R:Ex → M → Prop):Prop where
  l:∀ i,(i=0 ∨ i=1 ∨ i=2 ∨ i=-1) → ∃ x,Ev (fun k=>letter k i) x∧R (.l i) x
  j:∀ a b x y,a.size + b.size + 1 ≤ N → R a x → R b y → ∃ z,Ev (fun k=>join k x y) z∧R (.j a b) z
  e:∀ a b x y,a.size + b.size + 1 ≤ N → R a x → R b y → ∃ z,Ev (fun k=>either k x y) z∧R (.e a b) z
  s:∀ a x,a.size + 1 ≤ N → R a x → ∃ z,Ev (fun k=>star k x) z∧R (.s a) z
def Told (R:Ex → M → Prop) (c:List UInt8) (xs:List M):Option Ex → Prop
  | none=>Ev (fun k=>run (letter k) (join k) (either k) (star k) c xs) none
  | some e=>∃ x,Ev (fun k=>run (letter k) (join k) (either k) (star k) c xs) (some x)∧R e x
theorem signs7 (c:UInt8):c=97 ∨ c=98 ∨ c=99 ∨ c=101 ∨ c=46 ∨ c=43 ∨ c=42 ∨ (c ≠ 97∧c ≠ 98∧c ≠ 99∧c ≠ 101∧c ≠ 46∧c ≠ 43∧c ≠ 42):=by
  by_cases h1:c=97
  · exact .inl h1
  by_cases h2:c=98
  · exact .inr (.inl h2)
  by_cases h3:c=99
  · exact .inr (.inr (.inl h3))
  by_cases h4:c=101
  · exact .inr (.inr (.inr (.inl h4)))
  by_cases h5:c=46
  · exact .inr (.inr (.inr (.inr (.inl h5))))
  by_cases h6:c=43
  · exact .inr (.inr (.inr (.inr (.inr (.inl h6)))))
  by_cases h7:c=42
  · exact .inr (.inr (.inr (.inr (.inr (.inr (.inl h7))))))
  · exact .inr (.inr (.inr (.inr (.inr (.inr (.inr ⟨h1,h2,h3,h4,h5,h6,h7⟩))))))
variable {letter join either star}
theorem Told.go {R:Ex → M → Prop} {c:UInt8} {r:List UInt8} {xs ys:List M} {o:Option Ex} (hs:Ev (fun k=>step (letter k) (join k) (either k) (star k) c xs) (some ys)) (h:Told letter join either star R r ys o):Told letter join either star R (c :: r) xs o:=by
  have key:∀ q,Ev (fun k=>run (letter k) (join k) (either k) (star k) r ys) q → Ev (fun k=>run (letter k) (join k) (either k) (star k) (c :: r) xs) q:=fun q hq=>by
    obtain ⟨K1,h1⟩:=hs
    obtain ⟨K2,h2⟩:=hq
    refine ⟨K1 + K2,fun k hk=>?_⟩
    have e1:=h1 k (by omega)
    have e2:=h2 k (by omega)
    simp only at e1 e2 ⊢
    rw [run,e1]
    exact e2
  cases o with
  | none=>exact key _ h
  | some e =>
    obtain ⟨x,h1,h2⟩:=h
    exact ⟨x,key _ h1,h2⟩
theorem Told.stop {R:Ex → M → Prop} {c:UInt8} {r:List UInt8} {xs:List M} (hs:∀ k,step (letter k) (join k) (either k) (star k) c xs=some none):Told letter join either star R (c :: r) xs none :=
  ⟨0,fun k _=>by simp only;rw [run,hs k];rfl⟩
theorem sim {N:Nat} {R:Ex → M → Prop} (S:Sim letter join either star N R):∀ (c:List UInt8) (es:List Ex) (xs:List M),sizes es + c.length ≤ N → Rel2 R es xs → ∃ o,runX c es=some o∧Told letter join either star R c xs o
  | [],es,xs,hz,h=>by
    match es,xs,h with
    | [],[],_=>exact ⟨none,rfl,0,fun _ _=>rfl⟩
    | [e],[x],.cons h .nil=>exact ⟨some e,rfl,x,⟨0,fun _ _=>rfl⟩,h⟩
    | e :: e' :: es,x :: x' :: xs,_=>exact ⟨none,rfl,0,fun _ _=>rfl⟩
  | c :: r,es,xs,hz,h=>by
    have up:∀ {es':List Ex} {ys:List M},sizes es' + r.length ≤ N → runX (c :: r) es=runX r es' → Ev (fun k=>step (letter k) (join k) (either k) (star k) c xs) (some ys) → Rel2 R es' ys → ∃ o,runX (c :: r) es=some o∧Told letter join either star R (c :: r) xs o:=fun hz2 he hs hr=>by
      obtain ⟨o,h1,h2⟩:=sim S r _ _ hz2 hr
      exact ⟨o,he.trans h1,h2.go hs⟩
    have lt:∀ i,(c=97∧i=0 ∨ c=98∧i=1 ∨ c=99∧i=2 ∨ c=101∧i=-1) → ∃ o,runX (c :: r) es=some o∧Told letter join either star R (c :: r) xs o:=fun i hi=>by
      obtain ⟨x,⟨K,hK⟩,hx⟩:=S.l i (by rcases hi with h|h|h|h <;> simp [h.2])
      refine up (es':=es ++ [.l i]) (ys:=xs ++ [x]) (by rw [sizes_app];simp [sizes,Ex.size] at hz ⊢;omega) ?_ ⟨K,fun k hk=>?_⟩ (h.snoc hx)
      · unfold runX;rw [run,step_letter _ _ _ _ hi];rfl
      · have e:=hK k hk
        simp only at e ⊢
        rw [step_letter _ _ _ _ hi,e];rfl
    have few:(c=46 ∨ c=43)∧es.length < 2 ∨ c=42∧es.length < 1 → ∃ o,runX (c :: r) es=some o∧Told letter join either star R (c :: r) xs o:=fun hf=>by
      refine ⟨none,?_,Told.stop (fun k=>step_few _ _ _ _ (by rw [← h.len];exact hf))⟩
      unfold runX;rw [run,step_few _ _ _ _ hf];rfl
    rcases signs7 c with rfl|rfl|rfl|rfl|rfl|rfl|rfl|ho
    · exact lt 0 (by simp)
    · exact lt 1 (by simp)
    · exact lt 2 (by simp)
    · exact lt (-1) (by simp)
    · by_cases h2:2 ≤ es.length
      · obtain ⟨s,a,b,rfl⟩:=last_two h2
        obtain ⟨t,x,y,rfl,hr,hx,hy⟩:=h.last2
        have hz2:sizes s + (a.size + b.size) + (r.length + 1) ≤ N:=by rw [sizes_app] at hz;simpa [sizes] using hz
        obtain ⟨z,⟨K,hK⟩,hz⟩:=S.j a b x y (by omega) hx hy
        refine up (es':=s ++ [.j a b]) (ys:=t ++ [z]) (by rw [sizes_app];simp [sizes,Ex.size] at hz2 ⊢;omega) ?_ ⟨K,fun k hk=>?_⟩ (hr.snoc hz)
        · unfold runX;rw [run,step_dot];rfl
        · have e:=hK k hk
          simp only at e ⊢
          rw [step_dot,e];rfl
      · exact few (by simp;omega)
    · by_cases h2:2 ≤ es.length
      · obtain ⟨s,a,b,rfl⟩:=last_two h2
        obtain ⟨t,x,y,rfl,hr,hx,hy⟩:=h.last2
        have hz2:sizes s + (a.size + b.size) + (r.length + 1) ≤ N:=by rw [sizes_app] at hz;simpa [sizes] using hz
        obtain ⟨z,⟨K,hK⟩,hz⟩:=S.e a b x y (by omega) hx hy
        refine up (es':=s ++ [.e a b]) (ys:=t ++ [z]) (by rw [sizes_app];simp [sizes,Ex.size] at hz2 ⊢;omega) ?_ ⟨K,fun k hk=>?_⟩ (hr.snoc hz)
        · unfold runX;rw [run,step_plus];rfl
        · have e:=hK k hk
          simp only at e ⊢
          rw [step_plus,e];rfl
      · exact few (by simp;omega)
    · by_cases h2:1 ≤ es.length
      · obtain ⟨s,a,rfl⟩:=last_one h2
        obtain ⟨t,x,rfl,hr,hx⟩:=h.last
        have hz2:sizes s + a.size + (r.length + 1) ≤ N:=by rw [sizes_app] at hz;simpa [sizes] using hz
        obtain ⟨z,⟨K,hK⟩,hz⟩:=S.s a x (by omega) hx
        refine up (es':=s ++ [.s a]) (ys:=t ++ [z]) (by rw [sizes_app];simp [sizes,Ex.size] at hz2 ⊢;omega) ?_ ⟨K,fun k hk=>?_⟩ (hr.snoc hz)
        · unfold runX;rw [run,step_star];rfl
        · have e:=hK k hk
          simp only at e ⊢
          rw [step_star,e];rfl
      · exact few (.inr ⟨rfl,by omega⟩)
    · refine ⟨none,?_,Told.stop (fun k=>step_other _ _ _ _ ho)⟩
      unfold runX;rw [run,step_other _ _ _ _ ho];rfl
end
end Go.Proofs.Mach
/- What an expression's image is: a set of vectors; and what Accepts' machine has of it. -/
namespace Go.Proofs.Ytkonljiembcdlaa.PC
open Go.Proofs.MyWords Go.RowKit Go.Proofs.YtkonljiembcdlaaW.PrintWords Go.Proofs.YtkonljiembcdlaaW.PrintLast Go.Proofs.YtkonljiembcdlaaW.PrintMore
open Go.Proofs.Mach (Ex)
set_option linter.unusedVariables false
set_option linter.unusedSimpArgs false
inductive StarP (P:FoundW.V3 → Prop):FoundW.V3 → Prop
  | zero:StarP P (0,0,0)
  | add {x y}:P x → StarP P y → StarP P (add3 y x)
def den:Ex → FoundW.V3 → Prop
  | .l i=>fun v=>v=unit3 i
  | .j a b=>fun v=>∃ x y,den a x∧den b y∧v=add3 x y
  | .e a b=>fun v=>den a v ∨ den b v
  | .s a=>StarP (den a)
end Go.Proofs.Ytkonljiembcdlaa.PC
/- What Image's machine has of an expression's image, in plain Lean. -/
set_option linter.unusedVariables false
set_option linter.unusedSimpArgs false
namespace Go.Proofs.Ytkonljiembcdlaa.Pure
open Go.RowKit Go.Proofs.MyWords Go.Proofs.YtkonljiembcdlaaW.PrintWords Go.Proofs.YtkonljiembcdlaaW.PrintLast Go.Proofs.YtkonljiembcdlaaW.PrintMore Go.Proofs.Ytkonljiembcdlaa.PC Go.Proofs.Ytkonljiembcdlaa.Sem
open Go.Proofs.Mach (Ex)
theorem checkS_ev {d:Nat} (hd:d ≤ 3) {s:List S60} (h1:s.length < 1000000) (h2:∀ l,l ∈ s → midL d l):Ev (fun k=>count_check.f k (d:Int) [s]) (chk (d:Int) [s]) :=
  check_ev _ _ (by unfold short;simp) (fun t ht=>by
    obtain rfl:t=s:=by simpa using ht
    exact ⟨by unfold short;omega,fun l hl=>by have:=(h2 l hl).2.1;unfold short;omega⟩)
theorem full_ev {s:List S60} (h1:s.length < 1000000) (h2:∀ l,l ∈ s → midL 3 l):∃ t,Ev (fun k=>count_full.f k 3 s) (t,if chk 3 [s]=0 then 0 else 7):=by
  have:=checkS_ev (d:=3) (Nat.le_refl 3) h1 h2
  unfold count_full.f
  by_cases h:chk 3 [s]=0
  · rw [if_pos h]
    exact ⟨s,Ev.bind this (Ev.pos h (Ev.now _))⟩
  · rw [if_neg h]
    exact ⟨[],Ev.bind this (Ev.neg h (Ev.now _))⟩
theorem rdT102_app (pre:List S102) (x:S102) (t:List S102):rd_T102 (pre ++ x :: t) (pre.length:Int)=x:=getD_app _ _ _ _
theorem valid_go {s:List S60} (h1:s.length < 1000000) (h2:∀ l,l ∈ s → midL 3 l):∀ (t pre:List S102) (b:Bool),(pre ++ t).length < 1000000 →
    Ev (fun k=>count_valid.l0 k s (pre ++ t) ((pre ++ t).length:Int) (pre.length:Int) s b) (s,(b || t.any (·.f1)) || decide (chk 3 [s] ≠ 0))
  | [],pre,b,hl=>by
    obtain ⟨t,hf⟩:=full_ev h1 h2
    refine Ev.succ ?_
    simp only [count_valid.l0]
    refine Ev.neg (by simp) (Ev.bind hf ?_)
    rw [List.any_nil,Bool.or_false]
    by_cases h:chk 3 [s]=0
    · rw [if_pos h,decide_eq_false (by simpa using h),Bool.or_false]
      exact Ev.pos rfl (Ev.now _)
    · rw [if_neg h,decide_eq_true h,Bool.or_true]
      exact Ev.neg (by simp) (Ev.now _)
  | x :: t,pre,b,hl=>by
    have ih:=fun b=>valid_go h1 h2 t (pre ++ [x]) b (by rw [← app_snoc];exact hl)
    rw [← app_snoc,← len_snoc] at ih
    have hl2:pre.length < 1000000:=by simp at hl;omega
    refine Ev.succ ?_
    simp only [count_valid.l0,rdT102_app,wsucc (show pre.length < 4611686018427387904 by omega)]
    refine Ev.pos (lt_app _ _ _) (Ev.pos (by omega) (Ev.pos (lt_app _ _ _) ?_))
    rw [List.any_cons,← Bool.or_assoc]
    cases b
    · exact Ev.neg (by simp) (by simpa using ih x.f1)
    · exact Ev.pos rfl (by simpa using ih true)
theorem valid_ev {s:List S60} (h1:s.length < 1000000) (h2:∀ l,l ∈ s → midL 3 l) (of:List S102) (h3:of.length < 1000000):Ev (fun k=>count_valid.f k s of) (s,of.any (·.f1) || decide (chk 3 [s] ≠ 0)):=by
  have:=valid_go h1 h2 of [] false h3
  rw [Bool.false_or] at this
  exact this
def leaves:Ex → Nat
  | .l _=>1
  | .j a b=>leaves a + leaves b
  | .e a b=>leaves a + leaves b
  | .s a=>leaves a
theorem leaves_size:∀ e:Ex,2 * leaves e ≤ e.size + 1
  | .l _=>Nat.le_refl _
  | .j a b=>by have:=leaves_size a;have:=leaves_size b;simp only [leaves,Ex.size];omega
  | .e a b=>by have:=leaves_size a;have:=leaves_size b;simp only [leaves,Ex.size];omega
  | .s a=>by have:=leaves_size a;simp only [leaves,Ex.size];omega
theorem leaves_pos:∀ e:Ex,1 ≤ leaves e
  | .l _=>Nat.le_refl _
  | .j a b=>by have:=leaves_pos a;simp only [leaves];omega
  | .e a b=>by have:=leaves_pos a;simp only [leaves];omega
  | .s a=>by have:=leaves_pos a;simp only [leaves];omega
structure MidI (e:Ex) (x:Img):Prop where
  len:x.1.length ≤ 256 * leaves e
  mid:∀ l,l ∈ x.1 → midL 3 l
def imgJ (x y:Img):Img:=if x.2=true ∨ y.2=true then ([],true) else (sumL x.1 y.1,decide (chk 3 [sumL x.1 y.1] ≠ 0))
def imgE (x y:Img):Img:=(x.1 ++ y.1,(x.2 || y.2) || decide (chk 3 [x.1 ++ y.1] ≠ 0))
def imgS (x:Img):Img:=if x.2=true then x else (starL 3 x.1,decide (chk 3 [starL 3 x.1] ≠ 0))
def okI (x:Img):Prop:=x.2=false → okSet 3 x.1
theorem ok_chk {s:List S60} (h:chk 3 [s]=0):okSet 3 s:=(chk_ok.1 h).2 s (by simp)
theorem ok_of {s:List S60} {b:Bool} (h:(b || decide (chk 3 [s] ≠ 0))=false):b=false∧okSet 3 s:=by
  rw [Bool.or_eq_false_iff,decide_eq_false_iff_not,Classical.not_not] at h
  exact ⟨h.1,ok_chk h.2⟩
theorem sum_empty {x:List S60} (h:∀ l,l ∈ x → midL 3 l):sumL x [⟨List.replicate 3 0,[]⟩]=x:=by
  induction x with
  | nil=>rfl
  | cons a x ih =>
    have:=ih (fun l hl=>h l (by simp [hl]))
    unfold sumL at this ⊢
    rw [List.flatMap_cons,this]
    show [sumE a ⟨zeroN 3,[]⟩] ++ x=a :: x
    unfold sumE
    rw [addV_zero (h a (by simp)).1.1,List.append_nil]
    rfl
theorem empty_mid:∀ l,l ∈ [(⟨List.replicate 3 0,[]⟩:S60)] → midL 3 l:=fun l hl=>by
  obtain rfl:l=⟨List.replicate 3 0,[]⟩:=by simpa using hl
  exact ⟨⟨rfl,fun z hz=>by rw [List.eq_of_mem_replicate hz];decide⟩,by decide,fun p hp=>by cases hp⟩
theorem img2_ev {a b:Ex} {x y:Img} (hx:MidI a x) (hy:MidI b y) (ox:okI x) (oy:okI y):Ev (fun k=>count_Image_2.f k x.1 x.2 y.1 y.2) (imgJ x y)∧MidI (.j a b) (imgJ x y)∧okI (imgJ x y):=by
  have lp:=leaves_pos a
  have lq:=leaves_pos b
  have j0:∀ c:Bool,(c=true ↔ x.2=true ∨ y.2=true) → Ev (fun k=>count_Image_2.j0 k c x.1 x.2 y.1 y.2) (imgJ x y):=fun c hc=>by
    refine Ev.succ ?_
    simp only [count_Image_2.j0]
    unfold imgJ
    cases c
    · have hn:¬ (x.2=true ∨ y.2=true):=fun h=>by have:=hc.2 h;cases this
      rw [if_neg hn]
      have hx2:x.2=false:=by cases h:x.2 <;> simp_all
      have hy2:y.2=false:=by cases h:y.2 <;> simp_all
      have sx:=ox hx2
      have sy:=oy hy2
      have hm:=sum_mid sx sy
      refine Ev.neg (by simp) (Ev.bind (sum_ev (Nat.le_refl 3) hx.mid hy.mid (by have:=sx.1;omega) (by have:=sy.1;omega)) ?_)
      have hv:=valid_ev (s:=sumL x.1 y.1) (by have:=hm.1;omega) hm.2 [] (by simp)
      rw [List.any_nil,Bool.false_or] at hv
      exact Ev.bind hv (Ev.now _)
    · rw [if_pos (hc.1 rfl)]
      exact Ev.pos rfl (Ev.now _)
  refine ⟨?_,?_,?_⟩
  · unfold count_Image_2.f
    cases hx2:x.2
    · have h:=j0 y.2 (by simp [hx2])
      rw [hx2] at h
      exact Ev.neg (by simp) h
    · have h:=j0 true (by simp [hx2])
      rw [hx2] at h
      exact Ev.pos rfl h
  · unfold imgJ
    split
    · exact ⟨by simp,fun l hl=>by simp at hl⟩
    · rename_i hn
      have hx2:x.2=false:=by cases h:x.2 <;> simp_all
      have hy2:y.2=false:=by cases h:y.2 <;> simp_all
      have hm:=sum_mid (ox hx2) (oy hy2)
      refine ⟨?_,hm.2⟩
      have:=hm.1
      show (sumL x.1 y.1).length ≤ 256 * (leaves a + leaves b)
      omega
  · unfold imgJ
    split
    · intro h;simp at h
    · intro h
      exact (ok_of (b:=false) (by rw [Bool.false_or];exact h)).2
theorem img3_ev {a b:Ex} {x y:Img} (hx:MidI a x) (hy:MidI b y) (hs:a.size + b.size + 1 ≤ 30):Ev (fun k=>count_Image_3.f k x.1 x.2 y.1 y.2) (imgE x y)∧MidI (.e a b) (imgE x y)∧okI (imgE x y):=by
  have ha:=leaves_size a
  have hb:=leaves_size b
  have lx:=hx.len
  have ly:=hy.len
  have hm:∀ l,l ∈ x.1 ++ y.1 → midL 3 l:=fun l hl=>(List.mem_append.1 hl).elim (hx.mid l) (hy.mid l)
  refine ⟨?_,⟨?_,hm⟩,fun h=>(ok_of h).2⟩
  · have e:count_empty.f=some [⟨List.replicate 3 0,[]⟩]:=if_pos (by decide)
    unfold count_Image_3.f
    have s1:=sum_ev (Nat.le_refl 3) hx.mid empty_mid (by omega) (by simp)
    have s2:=sum_ev (Nat.le_refl 3) hy.mid empty_mid (by omega) (by simp)
    rw [sum_empty hx.mid] at s1
    rw [sum_empty hy.mid] at s2
    have hv:=valid_ev (s:=x.1 ++ y.1) (by rw [List.length_append];omega) hm [⟨x.1,x.2⟩,⟨y.1,y.2⟩] (by simp)
    have e2:([⟨x.1,x.2⟩,⟨y.1,y.2⟩]:List S102).any (·.f1)=(x.2 || y.2):=by simp
    rw [e2] at hv
    exact Ev.bindc e (Ev.bind s1 (Ev.bindc e (Ev.bind s2 (Ev.pos (by omega) (Ev.bind hv (Ev.now _))))))
  · show (x.1 ++ y.1).length ≤ 256 * (leaves a + leaves b)
    rw [List.length_append];omega
theorem img4_ev {a:Ex} {x:Img} (hx:MidI a x) (ox:okI x):Ev (fun k=>count_Image_4.f k x.1 x.2) (imgS x)∧MidI (.s a) (imgS x)∧okI (imgS x):=by
  have lp:=leaves_pos a
  unfold imgS count_Image_4.f
  cases hx2:x.2
  · have sx:=ox hx2
    have hm:=star_mid sx
    rw [if_neg (by simp)]
    have hv:=valid_ev (s:=starL 3 x.1) (by have:=hm.1;omega) hm.2 [] (by simp)
    rw [List.any_nil,Bool.false_or] at hv
    have hs:Ev (fun k=>count_star.f k 3 x.1) (starL 3 x.1):=star_ev (d:=3) (Nat.le_refl 3) x.1 sx
    refine ⟨Ev.neg (by simp) (Ev.bind hs (Ev.bind hv (Ev.now _))),⟨?_,hm.2⟩,fun h=>(ok_of (b:=false) (by rw [Bool.false_or];exact h)).2⟩
    have:=hm.1
    show (starL 3 x.1).length ≤ 256 * leaves a
    omega
  · rw [if_pos rfl]
    refine ⟨?_,⟨hx.len,hx.mid⟩,fun h=>ox h⟩
    refine Ev.pos rfl ?_
    rw [← hx2]
    exact Ev.now _
theorem l3_v3 {v:List Int} (h:v.length=3):∃ a:FoundW.V3,v=[a.1,a.2.1,a.2.2]∧v3of v=a:=by
  match v,h with
  | [a,b,c],_=>exact ⟨(a,b,c),rfl,rfl⟩
theorem v3_inj {v w:List Int} (hv:v.length=3) (hw:w.length=3) (h:v3of v=v3of w):v=w:=by
  obtain ⟨a,rfl,ha⟩:=l3_v3 hv
  obtain ⟨b,rfl,hb⟩:=l3_v3 hw
  rw [ha,hb] at h
  rw [h]
def semI (e:Ex) (x:Img):Prop:=x.2=false → ∀ v,InS 3 x.1 v ↔ v.length=3∧den e (v3of v)
def RI (e:Ex) (x:Img):Prop:=MidI e x∧okI x∧semI e x
theorem semL (i:Int) (hi:i=0 ∨ i=1 ∨ i=2 ∨ i=-1):∃ x,count_Image_1.f i=some x∧RI (.l i) x:=by
  refine ⟨([⟨unitL i,[]⟩],false),if_pos (by omega),⟨by simp [leaves],fun l hl=>?_⟩,fun _=>⟨by simp,fun l hl=>?_⟩,fun _ v=>?_⟩
  · obtain rfl:l=⟨unitL i,[]⟩:=by simpa using hl
    refine ⟨⟨rfl,fun z hz=>?_⟩,by simp,fun p hp=>by simp at hp⟩
    rcases hi with rfl|rfl|rfl|rfl <;> (revert z;decide)
  · obtain rfl:l=⟨unitL i,[]⟩:=by simpa using hl
    refine ⟨⟨rfl,fun z hz=>?_⟩,by simp,fun p hp=>by simp at hp⟩
    rcases hi with rfl|rfl|rfl|rfl <;> (revert z;decide)
  · show _ ↔ v.length=3∧v3of v=unit3 i
    constructor
    · rintro ⟨l,hl,w,hw,rfl⟩
      obtain rfl:l=⟨unitL i,[]⟩:=by simpa using hl
      have hw':w=zeroN 3:=comb_nil.1 hw
      subst hw'
      show (addV (unitL i) (zeroN 3)).length=3∧v3of (addV (unitL i) (zeroN 3))=unit3 i
      rw [addV_zero (v:=unitL i) (d:=3) rfl]
      exact ⟨rfl,rfl⟩
    · rintro ⟨hv,e⟩
      refine ⟨⟨unitL i,[]⟩,by simp,zeroN 3,.zero,?_⟩
      show v=addV (unitL i) (zeroN 3)
      rw [addV_zero (v:=unitL i) (d:=3) rfl]
      exact v3_inj hv rfl (e.trans rfl)
end Go.Proofs.Ytkonljiembcdlaa.Pure
namespace Go.Proofs.Ytkonljiembcdlaa.PC
open Go.Proofs.MyWords Go.RowKit Go.Proofs.YtkonljiembcdlaaW.PrintWords Go.Proofs.YtkonljiembcdlaaW.PrintLast Go.Proofs.YtkonljiembcdlaaW.PrintMore
attribute [local go_sem] max2_int min2_int max_two min_two max_three min_three max_four min_four   -- for this text's walks alone
set_option linter.unusedVariables false
set_option linter.unusedSimpArgs false
attribute [local go_sem] eqGuard_slices eqlnil23 neqnil23 eqlnil58 neqnil58
end Go.Proofs.Ytkonljiembcdlaa.PC
namespace Go.Proofs.Ytkonljiembcdlaa.PC
open Go.Proofs.MyWords Go.RowKit Go.Proofs.YtkonljiembcdlaaW.PrintWords Go.Proofs.YtkonljiembcdlaaW.PrintLast Go.Proofs.YtkonljiembcdlaaW.PrintMore
attribute [local go_sem] max2_int min2_int max_two min_two max_three min_three max_four min_four   -- for this text's walks alone
set_option linter.unusedVariables false
set_option linter.unusedSimpArgs false
attribute [local go_sem] eqGuard_slices eqlnil23 neqnil23 eqlnil58 neqnil58
end Go.Proofs.Ytkonljiembcdlaa.PC
namespace Go.Proofs.Ytkonljiembcdlaa.PC
open Go.Proofs.MyWords Go.RowKit Go.Proofs.YtkonljiembcdlaaW.PrintWords Go.Proofs.YtkonljiembcdlaaW.PrintLast Go.Proofs.YtkonljiembcdlaaW.PrintMore
attribute [local go_sem] max2_int min2_int max_two min_two max_three min_three max_four min_four   -- for this text's walks alone
set_option linter.unusedVariables false
set_option linter.unusedSimpArgs false
attribute [local go_sem] eqGuard_slices eqlnil23 neqnil23 eqlnil58 neqnil58
end Go.Proofs.Ytkonljiembcdlaa.PC
namespace Go.Proofs.Ytkonljiembcdlaa.PC
open Go.Proofs.MyWords Go.RowKit Go.Proofs.YtkonljiembcdlaaW.PrintWords Go.Proofs.YtkonljiembcdlaaW.PrintLast Go.Proofs.YtkonljiembcdlaaW.PrintMore
attribute [local go_sem] max2_int min2_int max_two min_two max_three min_three max_four min_four   -- for this text's walks alone
set_option linter.unusedVariables false
set_option linter.unusedSimpArgs false
attribute [local go_sem] eqGuard_slices eqlnil23 neqnil23 eqlnil58 neqnil58
end Go.Proofs.Ytkonljiembcdlaa.PC
namespace Go.Proofs.Ytkonljiembcdlaa.PC
open Go.Proofs.MyWords Go.RowKit Go.Proofs.YtkonljiembcdlaaW.PrintWords Go.Proofs.YtkonljiembcdlaaW.PrintLast Go.Proofs.YtkonljiembcdlaaW.PrintMore
attribute [local go_sem] max2_int min2_int max_two min_two max_three min_three max_four min_four   -- for this text's walks alone
set_option linter.unusedVariables false
set_option linter.unusedSimpArgs false
attribute [local go_sem] eqGuard_slices eqlnil23 neqnil23 eqlnil58 neqnil58
end Go.Proofs.Ytkonljiembcdlaa.PC
/- The reference's tables of vectors, in plain Lean. -/
namespace Go.Proofs.Ytkonljiembcdlaa.PC
open Go.Proofs.MyWords Go.RowKit Go.Proofs.YtkonljiembcdlaaW.PrintWords Go.Proofs.YtkonljiembcdlaaW.PrintLast Go.Proofs.YtkonljiembcdlaaW.PrintMore
open Go.Proofs.Mach (Ex)
open Go.Proofs.Ytkonljiembcdlaa.Pure
set_option linter.unusedVariables false
set_option linter.unusedSimpArgs false
def sm9 (v:FoundW.V3):Prop:=(0 ≤ v.1∧v.1 ≤ 8)∧(0 ≤ v.2.1∧v.2.1 ≤ 8)∧(0 ≤ v.2.2∧v.2.2 ≤ 8)
instance (v:FoundW.V3):Decidable (sm9 v):=by unfold sm9;infer_instance
def l3 (v:FoundW.V3):List Int:=[v.1,v.2.1,v.2.2]
end Go.Proofs.Ytkonljiembcdlaa.PC
/- The reference's sums of tables, in plain Lean. -/
namespace Go.Proofs.Ytkonljiembcdlaa.PC
open Go.Proofs.MyWords Go.RowKit Go.Proofs.YtkonljiembcdlaaW.PrintWords Go.Proofs.YtkonljiembcdlaaW.PrintLast Go.Proofs.YtkonljiembcdlaaW.PrintMore
open Go.Proofs.Mach (Ex)
open Go.Proofs.Ytkonljiembcdlaa.Pure
set_option linter.unusedVariables false
set_option linter.unusedSimpArgs false
end Go.Proofs.Ytkonljiembcdlaa.PC
/- The reference's tables of an expression's image, in plain Lean. -/
namespace Go.Proofs.Ytkonljiembcdlaa.PC
open Go.Proofs.MyWords Go.RowKit Go.Proofs.YtkonljiembcdlaaW.PrintWords Go.Proofs.YtkonljiembcdlaaW.PrintLast Go.Proofs.YtkonljiembcdlaaW.PrintMore
open Go.Proofs.Mach (Ex)
open Go.Proofs.Ytkonljiembcdlaa.Pure
set_option linter.unusedVariables false
set_option linter.unusedSimpArgs false
end Go.Proofs.Ytkonljiembcdlaa.PC
/- The reference's parts of an expression, and their tables, in plain Lean. -/
set_option linter.unusedVariables false
set_option linter.unusedSimpArgs false
namespace Go.Proofs.Ytkonljiembcdlaa.PC
open Go.Proofs.MyWords Go.RowKit Go.Proofs.YtkonljiembcdlaaW.PrintWords Go.Proofs.YtkonljiembcdlaaW.PrintLast Go.Proofs.YtkonljiembcdlaaW.PrintMore
open Go.Proofs.Mach (Ex)
open Go.Proofs.Ytkonljiembcdlaa.Pure
def letC (i:Int):Int:=if i=0 then 97 else if i=1 then 98 else if i=2 then 99 else 101
inductive Rep (N:List S98):Nat → Ex → Prop
  | l {n j i}:n=j → (i=0 ∨ i=1 ∨ i=2 ∨ i=-1) → N[n]?=some ⟨letC i,[]⟩ → Rep N j (.l i)
  | s {n a e}:N[n]?=some ⟨42,[((a:Nat):Int)]⟩ → Rep N a e → Rep N n (.s e)
  | j {n a b e f}:N[n]?=some ⟨46,[((a:Nat):Int),((b:Nat):Int)]⟩ → Rep N a e → Rep N b f → Rep N n (.j e f)
  | e {n a b e f}:N[n]?=some ⟨43,[((a:Nat):Int),((b:Nat):Int)]⟩ → Rep N a e → Rep N b f → Rep N n (.e e f)
theorem getE_app {α:Type} {l:List α} {n:Nat} {x:α} (h:l[n]?=some x) (t:List α):(l ++ t)[n]?=some x:=by
  have hn:n < l.length:=by
    apply Classical.byContradiction
    intro hh
    rw [List.getElem?_eq_none (by omega)] at h
    cases h
  rw [List.getElem?_append_left hn]
  exact h
theorem Rep.app {N:List S98} {i:Nat} {e:Ex} (h:Rep N i e) (t:List S98):Rep (N ++ t) i e:=by
  induction h with
  | l h1 h2 h3=>exact .l h1 h2 (getE_app h3 t)
  | s h1 _ ih=>exact .s (getE_app h1 t) ih
  | j h1 _ _ ih1 ih2=>exact .j (getE_app h1 t) ih1 ih2
  | e h1 _ _ ih1 ih2=>exact .e (getE_app h1 t) ih1 ih2
theorem Rep.lt {N:List S98} {i:Nat} {e:Ex} (h:Rep N i e):i < N.length:=by
  have:∀ {n:Nat} {x:S98},N[n]?=some x → n < N.length:=fun {n x} h=>by
    apply Classical.byContradiction
    intro hh
    rw [List.getElem?_eq_none (by omega)] at h
    cases h
  cases h with
  | l h1 _ h3=>exact h1 ▸ this h3
  | s h1 _=>exact this h1
  | j h1 _ _=>exact this h1
  | e h1 _ _=>exact this h1
theorem bt_data (s:ByteArray) (i:Nat) (h:i < s.data.toList.length):bt s (i:Int)=((s.data.toList[i]'h).toNat:Int):=by
  have hs:i < s.size:=by simpa using h
  unfold bt
  rw [Int.toNat_natCast,dif_pos hs]
  congr 1
theorem byte_ne {c:UInt8} {n:Nat} (hn:n < 256) (h:c ≠ UInt8.ofNat n):¬ (c.toNat:Int)=(n:Int):=fun e=>h (by
  have e2:c.toNat=n:=by omega
  rw [← e2]
  simp)
section
variable {s:ByteArray} {N:List S98} {stk:List Int} {i:Nat}
theorem parse_letter (hi:i < s.size) (hN:N.length < 1000000) (hl:stk.length < 1000000) {b:Int} (hb:bt s (i:Int)=b) (h4:b=97 ∨ b=98 ∨ b=99 ∨ b=101) (k:Nat) (hs:s.size < 1000000) :
    bellpullref05_Parse.l0 (k + 2) s N stk (i:Int)=bellpullref05_Parse.l0 k s (N ++ [⟨b,[]⟩]) (stk ++ [(i:Int)]) ((i + 1:Nat):Int):=by
  have q0:(i:Int) < (s.size:Int):=by omega
  have q1:(0:Int) ≤ (i:Int):=by omega
  have ws:wrap64 ((i:Int) + 1)=((i + 1:Nat):Int):=by rw [wrap_id (by omega) (by omega)];omega
  have w0:wrap64 ((stk.length:Int) - 0)=(stk.length:Int):=by rw [Int.sub_zero,wrap_id (by omega) (by omega)]
  have j:bellpullref05_Parse.j1 (k + 1) s N stk (i:Int) 0 b true=bellpullref05_Parse.l0 k s (N ++ [⟨b,[]⟩]) (stk ++ [(i:Int)]) ((i + 1:Nat):Int):=by
    rw [bellpullref05_Parse.j1,if_pos rfl,if_neg (by omega),if_pos q1,if_pos q0,Option.bind_some,w0,if_pos (by omega),if_pos (by omega),Int.toNat_natCast,List.drop_length,List.take_length,Option.bind_some,
      if_pos (by simp),if_pos (by omega),Option.bind_some,Option.bind_some,if_pos (by simp;omega),Option.bind_some,if_pos (by simp;omega),hb,ws]
    rfl
  rw [bellpullref05_Parse.l0,if_pos q0,if_pos q1,hb]
  rcases h4 with rfl|rfl|rfl|rfl
  · rw [if_pos rfl];exact j
  · rw [if_neg (by decide),if_pos rfl];exact j
  · rw [if_neg (by decide),if_neg (by decide),if_pos rfl];exact j
  · rw [if_neg (by decide),if_neg (by decide),if_neg (by decide)];exact j
theorem parse_other (hi:i < s.size) {b:Int} (hb:bt s (i:Int)=b) (h4:b ≠ 97∧b ≠ 98∧b ≠ 99∧b ≠ 101) (k:Nat) :
    bellpullref05_Parse.l0 (k + 1) s N stk (i:Int)=bellpullref05_Parse.j1 k s N stk (i:Int) 0 b false:=by
  rw [bellpullref05_Parse.l0,if_pos (by omega),if_pos (by omega),hb,if_neg h4.1,if_neg h4.2.1,if_neg h4.2.2.1]
  have:(b == 101)=false:=by simpa using h4.2.2.2
  rw [this]
theorem parse_star (hi:i < s.size) (hN:N.length < 1000000) {st:List Int} {a:Int} (hstk:stk=st ++ [a]) (hl:stk.length < 1000000) (hb:bt s (i:Int)=42) (k:Nat) (hs:s.size < 1000000) :
    bellpullref05_Parse.l0 (k + 2) s N stk (i:Int)=bellpullref05_Parse.l0 k s (N ++ [⟨42,[a]⟩]) (st ++ [(i:Int)]) ((i + 1:Nat):Int):=by
  have q0:(i:Int) < (s.size:Int):=by omega
  have q1:(0:Int) ≤ (i:Int):=by omega
  have ws:wrap64 ((i:Int) + 1)=((i + 1:Nat):Int):=by rw [wrap_id (by omega) (by omega)];omega
  have hlen:stk.length=st.length + 1:=by rw [hstk];simp
  have w0:wrap64 ((stk.length:Int) - 1)=(st.length:Int):=by rw [wrap_id (by omega) (by omega)];omega
  have hd:stk.drop st.length=[a]:=by rw [hstk];simp
  have ht:stk.take st.length=st:=by rw [hstk];simp
  rw [parse_other hi hb (by decide),bellpullref05_Parse.j1,if_neg (by simp),if_pos rfl,if_neg (by omega),if_pos q1,if_pos q0,Option.bind_some,w0,if_pos (by omega),if_pos (by omega),Int.toNat_natCast,hd,ht,Option.bind_some,
      if_pos (by simp),if_pos (by omega),Option.bind_some,Option.bind_some,if_pos (by simp;omega),Option.bind_some,if_pos (by simp;omega),hb,ws]
  rfl
theorem parse_two (hi:i < s.size) (hN:N.length < 1000000) {st:List Int} {a c:Int} (hstk:stk=st ++ [a,c]) (hl:stk.length < 1000000) {b:Int} (hb:bt s (i:Int)=b) (h2:b=46 ∨ b=43) (k:Nat) (hs:s.size < 1000000) :
    bellpullref05_Parse.l0 (k + 3) s N stk (i:Int)=bellpullref05_Parse.l0 k s (N ++ [⟨b,[a,c]⟩]) (st ++ [(i:Int)]) ((i + 1:Nat):Int):=by
  have q0:(i:Int) < (s.size:Int):=by omega
  have q1:(0:Int) ≤ (i:Int):=by omega
  have ws:wrap64 ((i:Int) + 1)=((i + 1:Nat):Int):=by rw [wrap_id (by omega) (by omega)];omega
  have hlen:stk.length=st.length + 2:=by rw [hstk];simp
  have w0:wrap64 ((stk.length:Int) - 2)=(st.length:Int):=by rw [wrap_id (by omega) (by omega)];omega
  have hd:stk.drop st.length=[a,c]:=by rw [hstk];simp
  have ht:stk.take st.length=st:=by rw [hstk];simp
  have j:bellpullref05_Parse.j2 (k + 1) s N stk (i:Int) true=bellpullref05_Parse.l0 k s (N ++ [⟨b,[a,c]⟩]) (st ++ [(i:Int)]) ((i + 1:Nat):Int):=by
    rw [bellpullref05_Parse.j2,if_pos rfl,if_neg (by omega),if_pos q1,if_pos q0,Option.bind_some,w0,if_pos (by omega),if_pos (by omega),Int.toNat_natCast,hd,ht,Option.bind_some,
      if_pos (by simp),if_pos (by omega),Option.bind_some,Option.bind_some,if_pos (by simp;omega),Option.bind_some,if_pos (by simp;omega),hb,ws]
    rfl
  rcases h2 with rfl|rfl
  · rw [parse_other hi hb (by decide),bellpullref05_Parse.j1,if_neg (by simp),if_neg (by decide),if_pos rfl]
    exact j
  · rw [parse_other hi hb (by decide),bellpullref05_Parse.j1,if_neg (by simp),if_neg (by decide),if_neg (by decide)]
    exact j
theorem parse_bad (hi:i < s.size) {b:Int} (hb:bt s (i:Int)=b) (h:b=42∧stk.length < 1 ∨ (b=46 ∨ b=43)∧stk.length < 2 ∨ (b ≠ 97∧b ≠ 98∧b ≠ 99∧b ≠ 101∧b ≠ 46∧b ≠ 43∧b ≠ 42)) (k:Nat) :
    bellpullref05_Parse.l0 (k + 3) s N stk (i:Int)=some ([],false):=by
  rcases h with ⟨rfl,h⟩|⟨rfl|rfl,h⟩|⟨h1,h2,h3,h4,h5,h6,h7⟩
  · rw [parse_other hi hb (by decide),bellpullref05_Parse.j1,if_neg (by simp),if_pos rfl,if_pos (by omega)]
  · rw [parse_other hi hb (by decide),bellpullref05_Parse.j1,if_neg (by simp),if_neg (by decide),if_pos rfl,bellpullref05_Parse.j2,if_pos (by decide),if_pos (by omega)]
  · rw [parse_other hi hb (by decide),bellpullref05_Parse.j1,if_neg (by simp),if_neg (by decide),if_neg (by decide),bellpullref05_Parse.j2,if_pos (by decide),if_pos (by omega)]
  · rw [parse_other hi hb ⟨h1,h2,h3,h4⟩,bellpullref05_Parse.j1,if_neg (by simp),if_neg h7,if_neg h5,bellpullref05_Parse.j2,if_neg (by simpa using h6)]
end
def RepJ (N:List S98) (e:Ex) (j:Int):Prop:=∃ n:Nat,j=(n:Int)∧Rep N n e
def Parsed (s:ByteArray) (N:List S98) (stk:List Int):Option (Option Ex) → Prop
  | none=>False
  | some none=>∃ N',Ev (fun k=>bellpullref05_Parse.l0 k s N stk (N.length:Int)) (N',false)
  | some (some e)=>∃ N',Ev (fun k=>bellpullref05_Parse.l0 k s N stk (N.length:Int)) (N',true)∧0 < N'.length∧N'.length ≤ s.size∧Rep N' (N'.length - 1) e
theorem Ev.jump {α:Type} {g f:Nat → Option α} {r:α} (m:Nat) (h:∀ k,g (k + m)=f k) (e:Ev f r):Ev g r:=by
  obtain ⟨K,hK⟩:=e
  refine ⟨K + m,fun k hk=>?_⟩
  have:=h (k - m)
  rw [show k - m + m=k by omega] at this
  rw [this]
  exact hK _ (by omega)
theorem Parsed.go {s:ByteArray} {N:List S98} {stk:List Int} {x:S98} {stk':List Int} {o:Option (Option Ex)} (m:Nat) (h:∀ k,bellpullref05_Parse.l0 (k + m) s N stk (N.length:Int)=bellpullref05_Parse.l0 k s (N ++ [x]) stk' ((N.length + 1:Nat):Int)) (p:Parsed s (N ++ [x]) stk' o):Parsed s N stk o:=by
  have e:((N ++ [x]).length:Int)=((N.length + 1:Nat):Int):=by simp
  match o,p with
  | some none,⟨N',h1⟩=>exact ⟨N',Ev.jump m h (by rw [e] at h1;exact h1)⟩
  | some (some _),⟨N',h1,h2⟩=>exact ⟨N',Ev.jump m h (by rw [e] at h1;exact h1),h2⟩
open Go.Proofs.Mach (Rel2 runX signs7) in
theorem parse_go (s:ByteArray) (hs:s.size < 1000000):∀ (r pre:List UInt8) (N:List S98) (es:List Ex) (stk:List Int),s.data.toList=pre ++ r → pre.length=N.length → stk.length ≤ N.length → Rel2 (RepJ N) es stk → (∀ st j,stk=st ++ [j] → j + 1=(N.length:Int)) → Parsed s N stk (runX r es)
  | [],pre,N,es,stk,hd,hN,hle,hr,htop=>by
    have hsz:s.size=N.length:=by
      have:=congrArg List.length hd
      simp at this
      omega
    have key:Ev (fun k=>bellpullref05_Parse.l0 k s N stk (N.length:Int)) (N,((stk.length:Int) == 1)):=by
      refine Ev.succ ?_
      simp only [bellpullref05_Parse.l0]
      exact Ev.neg (by omega) (Ev.now _)
    match es,stk,hr,htop,key with
    | [],[],_,_,key=>exact ⟨N,key⟩
    | [e],[j],.cons ⟨n,hj,h1⟩ _,htop,key =>
      have:=htop [] j rfl
      have hl:=h1.lt
      exact ⟨N,key,by omega,by omega,by rw [show N.length - 1=n by omega];exact h1⟩
    | e :: e' :: es,j :: j' :: st,_,_,key =>
      have:(((j :: j' :: st).length:Int) == 1)=false:=by simp;omega
      rw [this] at key
      exact ⟨N,key⟩
  | c :: r,pre,N,es,stk,hd,hN,hle,hr,htop=>by
    have hsz:s.size=N.length + (r.length + 1):=by
      have:=congrArg List.length hd
      simp at this
      omega
    have hi:N.length < s.size:=by omega
    have hbt:bt s (N.length:Int)=(c.toNat:Int):=by
      rw [bt_data s N.length (by rw [hd];simp;omega)]
      have:s.data.toList[N.length]'(by rw [hd];simp;omega)=c:=by
        simp only [hd]
        rw [List.getElem_append_right (by omega)]
        simp [hN]
      rw [this]
    have hNs:N.length < 1000000:=by omega
    have hls:stk.length < 1000000:=by omega
    have up:∀ (x:S98) (es':List Ex) (st:List Int) (m:Nat),runX (c :: r) es=runX r es' → (∀ k,bellpullref05_Parse.l0 (k + m) s N stk (N.length:Int)=bellpullref05_Parse.l0 k s (N ++ [x]) (st ++ [(N.length:Int)]) ((N.length + 1:Nat):Int)) → st.length ≤ N.length → Rel2 (RepJ (N ++ [x])) es' (st ++ [(N.length:Int)]) → Parsed s N stk (runX (c :: r) es):=fun x es' st m he hk hst hr'=>by
      rw [he]
      refine Parsed.go m hk (parse_go s hs r (pre ++ [c]) (N ++ [x]) es' _ (by rw [hd];simp) (by simp [hN]) (by simp;omega) hr' ?_)
      intro st' j hj
      have:=(List.append_inj' hj rfl).2
      simp at this
      rw [← this];simp
    have lift:∀ (x:S98) (a:Ex) (j:Int),RepJ N a j → RepJ (N ++ [x]) a j:=fun x a j ⟨n,h1,h2⟩=>⟨n,h1,h2.app _⟩
    have top:∀ (x:S98),(N ++ [x])[N.length]?=some x:=fun x=>by simp
    have lt:∀ i,(c=97∧i=0 ∨ c=98∧i=1 ∨ c=99∧i=2 ∨ c=101∧i=-1) → Parsed s N stk (runX (c :: r) es):=fun i hci=>by
      have hb:bt s (N.length:Int)=letC i:=by
        rw [hbt]
        rcases hci with ⟨rfl,rfl⟩|⟨rfl,rfl⟩|⟨rfl,rfl⟩|⟨rfl,rfl⟩ <;> rfl
      have h4:letC i=97 ∨ letC i=98 ∨ letC i=99 ∨ letC i=101:=by
        rcases hci with ⟨_,rfl⟩|⟨_,rfl⟩|⟨_,rfl⟩|⟨_,rfl⟩ <;> decide
      refine up ⟨letC i,[]⟩ (es ++ [.l i]) stk 2 ?_ (fun k=>parse_letter hi hNs hls hb h4 k hs) hle ?_
      · unfold runX;rw [Mach.run,Mach.step_letter _ _ _ _ hci];rfl
      · exact (hr.mono (lift _)).snoc ⟨N.length,rfl,.l rfl (by rcases hci with h|h|h|h <;> simp [h.2]) (top _)⟩
    have bad:(((c.toNat:Int)=42∧stk.length < 1) ∨ ((c.toNat:Int)=46 ∨ (c.toNat:Int)=43)∧stk.length < 2 ∨ ((c.toNat:Int) ≠ 97∧(c.toNat:Int) ≠ 98∧(c.toNat:Int) ≠ 99∧(c.toNat:Int) ≠ 101∧(c.toNat:Int) ≠ 46∧(c.toNat:Int) ≠ 43∧(c.toNat:Int) ≠ 42)) → runX (c :: r) es=some none → Parsed s N stk (runX (c :: r) es):=fun h he=>by
      rw [he]
      exact ⟨[],Ev.jump 3 (f:=fun _=>some ([],false)) (fun k=>parse_bad hi hbt h k) (Ev.now _)⟩
    rcases signs7 c with rfl|rfl|rfl|rfl|rfl|rfl|rfl|ho
    · exact lt 0 (by simp)
    · exact lt 1 (by simp)
    · exact lt 2 (by simp)
    · exact lt (-1) (by simp)
    · by_cases h2:2 ≤ es.length
      · obtain ⟨t,a,b,rfl⟩:=Mach.last_two h2
        obtain ⟨st,x,y,rfl,hr1,⟨n,rfl,hx⟩,⟨m,rfl,hy⟩⟩:=hr.last2
        refine up ⟨46,[(n:Int),(m:Int)]⟩ (t ++ [.j a b]) st 3 ?_ (fun k=>parse_two hi hNs rfl hls hbt (.inl rfl) k hs) (by simp at hle;omega) ?_
        · unfold runX;rw [Mach.run,Mach.step_dot];rfl
        · exact (hr1.mono (lift _)).snoc ⟨N.length,rfl,.j (top _) (hx.app _) (hy.app _)⟩
      · refine bad (.inr (.inl ⟨.inl rfl,by rw [← hr.len];omega⟩)) ?_
        unfold runX;rw [Mach.run,Mach.step_few _ _ _ _ (.inl ⟨.inl rfl,by omega⟩)];rfl
    · by_cases h2:2 ≤ es.length
      · obtain ⟨t,a,b,rfl⟩:=Mach.last_two h2
        obtain ⟨st,x,y,rfl,hr1,⟨n,rfl,hx⟩,⟨m,rfl,hy⟩⟩:=hr.last2
        refine up ⟨43,[(n:Int),(m:Int)]⟩ (t ++ [.e a b]) st 3 ?_ (fun k=>parse_two hi hNs rfl hls hbt (.inr rfl) k hs) (by simp at hle;omega) ?_
        · unfold runX;rw [Mach.run,Mach.step_plus];rfl
        · exact (hr1.mono (lift _)).snoc ⟨N.length,rfl,.e (top _) (hx.app _) (hy.app _)⟩
      · refine bad (.inr (.inl ⟨.inr rfl,by rw [← hr.len];omega⟩)) ?_
        unfold runX;rw [Mach.run,Mach.step_few _ _ _ _ (.inl ⟨.inr rfl,by omega⟩)];rfl
    · by_cases h2:1 ≤ es.length
      · obtain ⟨t,a,rfl⟩:=Mach.last_one h2
        obtain ⟨st,x,rfl,hr1,⟨n,rfl,hx⟩⟩:=hr.last
        refine up ⟨42,[(n:Int)]⟩ (t ++ [.s a]) st 2 ?_ (fun k=>parse_star hi hNs rfl hls hbt k hs) (by simp at hle;omega) ?_
        · unfold runX;rw [Mach.run,Mach.step_star];rfl
        · exact (hr1.mono (lift _)).snoc ⟨N.length,rfl,.s (top _) (hx.app _)⟩
      · refine bad (.inl ⟨rfl,by rw [← hr.len];omega⟩) ?_
        unfold runX;rw [Mach.run,Mach.step_few _ _ _ _ (.inr ⟨rfl,by omega⟩)];rfl
    · obtain ⟨h1,h2,h3,h4,h5,h6,h7⟩:=ho
      refine bad (.inr (.inr ⟨byte_ne (n:=97) (by omega) h1,byte_ne (n:=98) (by omega) h2,byte_ne (n:=99) (by omega) h3,byte_ne (n:=101) (by omega) h4,byte_ne (n:=46) (by omega) h5,byte_ne (n:=43) (by omega) h6,byte_ne (n:=42) (by omega) h7⟩)) ?_
      unfold runX;rw [Mach.run,Mach.step_other _ _ _ _ ⟨h1,h2,h3,h4,h5,h6,h7⟩];rfl
theorem parse_ev (s:ByteArray) (hs:s.size < 1000000):Parsed s [] [] (Mach.runX s.data.toList []) :=
  parse_go s hs s.data.toList [] [] [] [] rfl rfl (Nat.le_refl _) .nil (fun st j h=>by simp at h)
end Go.Proofs.Ytkonljiembcdlaa.PC
/- The reference's tables of images, and what it accepts, in plain Lean. -/
set_option linter.unusedVariables false
set_option linter.unusedSimpArgs false
namespace Go.Proofs.Ytkonljiembcdlaa.PC
open Go.Proofs.MyWords Go.RowKit Go.Proofs.YtkonljiembcdlaaW.PrintWords Go.Proofs.YtkonljiembcdlaaW.PrintLast Go.Proofs.YtkonljiembcdlaaW.PrintMore
open Go.Proofs.Mach (Ex)
open Go.Proofs.Ytkonljiembcdlaa.Pure
theorem rdT98 {N:List S98} {n:Nat} {x:S98} (h:N[n]?=some x):rd_T98 N (n:Int)=x:=by
  unfold rd_T98
  rw [Int.toNat_natCast,List.getD_eq_getElem?_getD,h];rfl
theorem lt_of_get {N:List S98} {n:Nat} {x:S98} (h:N[n]?=some x):n < N.length:=by
  apply Classical.byContradiction
  intro hh
  rw [List.getElem?_eq_none (by omega)] at h
  cases h
theorem letter_f (i:Int) (hi:i=0 ∨ i=1 ∨ i=2 ∨ i=-1):bellpullref05_letter.f (letC i)=some (l3 (unit3 i)):=by
  rcases hi with rfl|rfl|rfl|rfl <;> decide +kernel
end Go.Proofs.Ytkonljiembcdlaa.PC
/- CountImages: for every input the law returns true. -/
set_option linter.unusedVariables false
set_option linter.unusedSimpArgs false
namespace Go.Proofs.Ytkonljiembcdlaa.Pure
open Go.RowKit Go.Proofs.MyWords Go.Proofs.YtkonljiembcdlaaW.PrintWords Go.Proofs.YtkonljiembcdlaaW.PrintLast Go.Proofs.YtkonljiembcdlaaW.PrintMore Go.Proofs.Ytkonljiembcdlaa.PC Go.Proofs.Ytkonljiembcdlaa.Sem
open Go.Proofs.Mach (Ex)
def imgV:Ex → Img
  | .l i=>([⟨unitL i,[]⟩],false)
  | .j a b=>imgJ (imgV a) (imgV b)
  | .e a b=>imgE (imgV a) (imgV b)
  | .s a=>imgS (imgV a)
def RV (e:Ex) (x:Img):Prop:=MidI e x∧okI x∧x=imgV e∧e.size ≤ 30
theorem imgV_l (i:Int) (hi:i=0 ∨ i=1 ∨ i=2 ∨ i=-1):MidI (.l i) (imgV (.l i))∧okI (imgV (.l i)):=by
  obtain ⟨x,h1,h2⟩:=semL i hi
  have e:count_Image_1.f i=some (imgV (.l i)):=if_pos (by omega)
  obtain rfl:imgV (.l i)=x:=Option.some.inj (e.symm.trans h1)
  exact ⟨h2.1,h2.2.1⟩
theorem simV:Mach.Sim (fun _ i=>count_Image_1.f i) (fun k a b=>count_Image_2.f k a.1 a.2 b.1 b.2) (fun k a b=>count_Image_3.f k a.1 a.2 b.1 b.2) (fun k a=>count_Image_4.f k a.1 a.2) 30 RV where
  l:=fun i hi=>⟨imgV (.l i),⟨0,fun _ _=>if_pos (by omega)⟩,(imgV_l i hi).1,(imgV_l i hi).2,rfl,by simp [Ex.size]⟩
  j:=fun a b x y hs hx hy=>by
    obtain ⟨h1,h2,h3⟩:=img2_ev hx.1 hy.1 hx.2.1 hy.2.1
    exact ⟨_,h1,h2,h3,by rw [imgV,← hx.2.2.1,← hy.2.2.1],hs⟩
  e:=fun a b x y hs hx hy=>by
    obtain ⟨h1,h2,h3⟩:=img3_ev hx.1 hy.1 hs
    exact ⟨_,h1,h2,h3,by rw [imgV,← hx.2.2.1,← hy.2.2.1],hs⟩
  s:=fun a x hs hx=>by
    obtain ⟨h1,h2,h3⟩:=img4_ev hx.1 hx.2.1
    exact ⟨_,h1,h2,h3,by rw [imgV,← hx.2.2.1],hs⟩
theorem imageV_ev (s:ByteArray) (hs:s.size ≤ 30):∃ o,Mach.runX s.data.toList []=some o∧match o with
    | none=>Ev (fun k=>count_Image.f k s) ([],2)
    | some e=>e.size ≤ 30∧Ev (fun k=>count_Image.f k s) (if (imgV e).2=true then ([],7) else ((imgV e).1,0)):=by
  have hl:s.data.toList.length ≤ 30:=by simpa using hs
  obtain ⟨o,h1,h2⟩:=Mach.sim simV s.data.toList [] [] (by simpa [Mach.sizes] using hs) .nil
  refine ⟨o,h1,?_⟩
  cases o with
  | none =>
    unfold count_Image.f
    exact Ev.neg (by omega) (Ev.bind (a:=none) h2 (Ev.now _))
  | some e =>
    obtain ⟨x,hx,_,_,rfl,hz⟩:=h2
    refine ⟨hz,?_⟩
    unfold count_Image.f
    refine Ev.neg (by omega) (Ev.bind (a:=some (imgV e)) hx ?_)
    cases hf:(imgV e).2
    · simp only [hf];exact Ev.now _
    · simp only [hf];exact Ev.now _
def RefV (N:List S98) (n:Nat) (x:Img):Prop:=∃ p,Ev (fun k=>bellpullref05_Image.f k N (n:Int)) (p,!x.2)∧(x.2=false → p=x.1)
theorem refI_start {N:List S98} {n:Nat} {x:S98} (h:N[n]?=some x) (hx:x.f1.length ≤ 1000) (k:Nat):bellpullref05_Image.f (k + 1) N (n:Int)=(refImage.kids (fun o=>bellpullref05_Image.f k N o) x.f1).bind fun r=>match r with
    | none=>some ([],false)
    | some of=>(refImage.out k x.f0 of).bind fun s=>(bellpullref05_Check.f k 3 [s]).bind fun e=>some (s,decide (e=0)):=by
  have:=lt_of_get h
  rw [bellpullref05_Image.f,rdT98 h,if_pos ⟨by omega,by omega,hx⟩]
  rfl
theorem kids1_bad {N:List S98} {a:Nat} {x:Img} (h:RefV N a x) (hx:x.2=true):Ev (fun k=>refImage.kids (fun o=>bellpullref05_Image.f k N o) [(a:Int)]) none:=by
  obtain ⟨p,hp,_⟩:=h
  rw [hx] at hp
  simp only [refImage.kids]
  exact Ev.bind hp (Ev.neg (by simp) (Ev.now _))
theorem kids1 {N:List S98} {a:Nat} {x:Img} (h:RefV N a x) (hx:x.2=false):Ev (fun k=>refImage.kids (fun o=>bellpullref05_Image.f k N o) [(a:Int)]) (some [x.1]):=by
  obtain ⟨p,hp,he⟩:=h
  rw [hx] at hp
  rw [← he hx]
  simp only [refImage.kids]
  exact Ev.bind hp (Ev.pos (by simp) (Ev.bindc rfl (Ev.now _)))
theorem kids2_bad {N:List S98} {a b:Nat} {x y:Img} (h:RefV N a x) (g:RefV N b y) (hx:x.2=true ∨ y.2=true):Ev (fun k=>refImage.kids (fun o=>bellpullref05_Image.f k N o) [(a:Int),(b:Int)]) none:=by
  obtain ⟨p,hp,_⟩:=h
  cases h0:x.2 with
  | true =>
    rw [h0] at hp
    simp only [refImage.kids]
    exact Ev.bind hp (Ev.neg (by simp) (Ev.now _))
  | false =>
    rw [h0] at hp hx
    have h2:=kids1_bad g (hx.resolve_left (by simp))
    show Ev (fun k=>(bellpullref05_Image.f k N (a:Int)).bind fun p=>if p.2=true then (refImage.kids (fun o=>bellpullref05_Image.f k N o) [(b:Int)]).bind fun r=>some (r.map fun l=>p.1 :: l) else some none) _
    exact Ev.bind hp (Ev.pos (by simp) (Ev.bind h2 (Ev.now _)))
theorem kids2 {N:List S98} {a b:Nat} {x y:Img} (h:RefV N a x) (g:RefV N b y) (hx:x.2=false) (hy:y.2=false):Ev (fun k=>refImage.kids (fun o=>bellpullref05_Image.f k N o) [(a:Int),(b:Int)]) (some [x.1,y.1]):=by
  obtain ⟨p,hp,he⟩:=h
  rw [hx] at hp
  rw [← he hx]
  have h2:=kids1 g hy
  show Ev (fun k=>(bellpullref05_Image.f k N (a:Int)).bind fun p=>if p.2=true then (refImage.kids (fun o=>bellpullref05_Image.f k N o) [(b:Int)]).bind fun r=>some (r.map fun l=>p.1 :: l) else some none) _
  exact Ev.bind hp (Ev.pos (by simp) (Ev.bind h2 (Ev.now _)))
theorem refI_bad {N:List S98} {n:Nat} {x:S98} {y:Img} (h:N[n]?=some x) (hx:x.f1.length ≤ 1000) (hk:Ev (fun k=>refImage.kids (fun o=>bellpullref05_Image.f k N o) x.f1) none) (hy:y.2=true):RefV N n y:=by
  refine ⟨[],Ev.succ ?_,fun h=>by rw [hy] at h;cases h⟩
  simp only [refI_start h hx,hy]
  exact Ev.bind hk (Ev.now _)
theorem refI_good {N:List S98} {n:Nat} {x:S98} {y:Img} {of:List (List S60)} {s:List S60} (h:N[n]?=some x) (hx:x.f1.length ≤ 1000) (hk:Ev (fun k=>refImage.kids (fun o=>bellpullref05_Image.f k N o) x.f1) (some of))
    (ho:Ev (fun k=>refImage.out k x.f0 of) s) (h1:s.length < 1000000) (h2:∀ l,l ∈ s → midL 3 l) (hy:y.2=decide (chk 3 [s] ≠ 0)) (he:y.2=false → s=y.1):RefV N n y:=by
  refine ⟨s,Ev.succ ?_,he⟩
  have hc:Ev (fun k=>bellpullref05_Check.f k 3 [s]) (chk 3 [s]):=refCheckS (d:=3) (Nat.le_refl 3) h1 h2
  have e:(!y.2)=decide (chk 3 [s]=0):=by rw [hy];by_cases h:chk 3 [s]=0 <;> simp [h]
  simp only [refI_start h hx,e]
  exact Ev.bind hk (Ev.bind ho (Ev.bind hc (Ev.now _)))
theorem refI_ev {N:List S98}:∀ {n:Nat} {e:Ex},Rep N n e → e.size ≤ 30 → MidI e (imgV e)∧okI (imgV e)∧RefV N n (imgV e):=by
  intro n e h
  induction h with
  | @l n j i h1 hi h3 =>
    subst h1
    intro _
    obtain ⟨m,o⟩:=imgV_l i hi
    refine ⟨m,o,?_⟩
    have hc:chk 3 [[(⟨unitL i,[]⟩:S60)]]=0:=chk_ok.2 ⟨by decide,fun s hs=>by
      obtain rfl:=List.mem_singleton.1 hs
      exact o rfl⟩
    have hl:=letter_f i hi
    have c:letC i ≠ 43∧letC i ≠ 46∧letC i ≠ 42:=by rcases hi with rfl|rfl|rfl|rfl <;> decide
    refine refI_good (of:=[]) (s:=[⟨unitL i,[]⟩]) h3 (by simp) (Ev.now _) ?_ (by simp) m.mid (by rw [hc];rfl) (fun _=>rfl)
    unfold refImage.out
    exact Ev.neg c.1 (Ev.neg c.2.1 (Ev.neg c.2.2 (Ev.bindc hl (Ev.now _))))
  | @s n a e h1 _ ih =>
    intro hs
    have hs':e.size + 1 ≤ 30:=hs
    obtain ⟨m,o,r⟩:=ih (by omega)
    obtain ⟨_,m2,o2⟩:=img4_ev m o
    refine ⟨m2,o2,?_⟩
    rw [imgV]
    unfold imgS
    cases hx:(imgV e).2 with
    | true =>
      rw [if_pos rfl]
      exact refI_bad h1 (by simp) (kids1_bad r hx) hx
    | false =>
      rw [if_neg (by simp)]
      have ok:=o hx
      obtain ⟨l2,hm2⟩:=rstar_mid ok
      refine refI_good (s:=rstarL 3 (imgV e).1) h1 (by simp) (kids1 r hx) ?_ (by omega) hm2 ?_ ?_
      · unfold refImage.out
        exact Ev.neg (show ¬ (42:Int)=43 by decide) (Ev.neg (show ¬ (42:Int)=46 by decide) (Ev.pos rfl (Ev.pos (by simp) (rstar_ev (d:=3) (Nat.le_refl 3) ok))))
      · by_cases h4:(imgV e).1.length ≤ 4
        · rw [rstar_short h4]
        · have q1:chk 3 [starL 3 (imgV e).1] ≠ 0:=chk_long (d:=3) (by
            rw [star_len]
            exact Nat.lt_of_lt_of_le (by decide) (Nat.pow_le_pow_right (by decide) (show 5 ≤ (imgV e).1.length by omega)))
          have q2:chk 3 [rstarL 3 (imgV e).1] ≠ 0:=chk_long (d:=3) (by
            rw [rstar_len]
            unfold refStar.m
            rw [Nat.min_eq_right (by omega)]
            decide)
          show decide _=decide _
          rw [decide_eq_true q1,decide_eq_true q2]
      · intro hf
        have hok:=(ok_of (b:=false) (by rw [Bool.false_or];exact hf)).2
        have h3:=hok.1
        rw [star_len] at h3
        refine rstar_short ?_
        apply Classical.byContradiction
        intro h4
        have:2 ^ 5 ≤ 2 ^ (imgV e).1.length:=Nat.pow_le_pow_right (by decide) (by omega)
        omega
  | @j n a b e f h1 _ _ ih1 ih2 =>
    intro hs
    have hs':e.size + f.size + 1 ≤ 30:=hs
    obtain ⟨m,o,r⟩:=ih1 (by omega)
    obtain ⟨m',o',r'⟩:=ih2 (by omega)
    obtain ⟨_,m2,o2⟩:=img2_ev m m' o o'
    refine ⟨m2,o2,?_⟩
    rw [imgV]
    unfold imgJ
    by_cases hx:(imgV e).2=true ∨ (imgV f).2=true
    · rw [if_pos hx]
      exact refI_bad h1 (by simp) (kids2_bad r r' hx) rfl
    · rw [if_neg hx]
      have hx1:(imgV e).2=false:=by cases h:(imgV e).2 <;> simp_all
      have hx2:(imgV f).2=false:=by cases h:(imgV f).2 <;> simp_all
      have ok1:=o hx1
      have ok2:=o' hx2
      obtain ⟨l2,hm2⟩:=sum_mid ok1 ok2
      refine refI_good (s:=sumL (imgV e).1 (imgV f).1) h1 (by simp) (kids2 r r' hx1 hx2) ?_ (by omega) hm2 rfl (fun _=>rfl)
      unfold refImage.out
      exact Ev.neg (show ¬ (46:Int)=43 by decide) (Ev.pos rfl (Ev.pos (by simp) (rsum_ev (Nat.le_refl 3) ok1.mid ok2.mid (by show (imgV e).1.length ≤ 5000;have:=ok1.1;omega) (by show (imgV f).1.length ≤ 5000;have:=ok2.1;omega))))
  | @e n a b e f h1 _ _ ih1 ih2 =>
    intro hs
    have hs':e.size + f.size + 1 ≤ 30:=hs
    obtain ⟨m,o,r⟩:=ih1 (by omega)
    obtain ⟨m',o',r'⟩:=ih2 (by omega)
    obtain ⟨_,m2,o2⟩:=img3_ev m m' hs'
    refine ⟨m2,o2,?_⟩
    have le:=leaves_size e
    have lf:=leaves_size f
    have l1:=m.len
    have l2:=m'.len
    rw [imgV]
    unfold imgE
    by_cases hx:(imgV e).2=true ∨ (imgV f).2=true
    · refine refI_bad h1 (by simp) (kids2_bad r r' hx) ?_
      have:((imgV e).2 || (imgV f).2)=true:=by rw [Bool.or_eq_true];exact hx
      show (((imgV e).2 || (imgV f).2) || _)=true
      rw [this];rfl
    · have hx1:(imgV e).2=false:=by cases h:(imgV e).2 <;> simp_all
      have hx2:(imgV f).2=false:=by cases h:(imgV f).2 <;> simp_all
      refine refI_good (s:=(imgV e).1 ++ (imgV f).1) h1 (by simp) (kids2 r r' hx1 hx2) ?_ (by rw [List.length_append];omega) (fun l hl=>(List.mem_append.1 hl).elim (m.mid l) (m'.mid l)) ?_ (fun _=>rfl)
      · unfold refImage.out
        exact Ev.pos rfl (Ev.pos ⟨by simp,by show (imgV e).1.length ≤ 1000000;omega,by show (imgV f).1.length ≤ 1000000;omega⟩ (Ev.now _))
      · show (((imgV e).2 || (imgV f).2) || _)=_
        rw [hx1,hx2];rfl
theorem CountImages:∀ (a0:ByteArray),a0.size ≤ 140737488351232 → ∃ k,bellpulllaw05_CountImages.f k a0=some true:=by
  intro x _
  refine Ev.rounds (g:=fun k=>bellpulllaw05_CountImages.f k x) ?_
  obtain ⟨s,hs,hz⟩:=text_f x
  unfold bellpulllaw05_CountImages.f
  by_cases h30:30 < s.size
  · have h1:Ev (fun k=>count_Image.f k s) ([],3):=by
      unfold count_Image.f
      exact Ev.pos h30 (Ev.now _)
    refine Ev.bindc hs (Ev.bind h1 ?_)
    unfold images_tail
    exact Ev.pos h30 (Ev.pos ⟨rfl,rfl⟩ lives_ev)
  · obtain ⟨o,ho,hi⟩:=imageV_ev s (by omega)
    have hp:=parse_ev s (by omega)
    rw [ho] at hp
    cases o with
    | none =>
      obtain ⟨N,hN⟩:=hp
      refine Ev.bindc hs (Ev.bind hi ?_)
      unfold images_tail
      exact Ev.neg h30 (Ev.bind hN (Ev.neg (by simp) (Ev.pos ⟨rfl,rfl⟩ lives_ev)))
    | some e =>
      obtain ⟨N,hN,h0,hl,hr⟩:=hp
      obtain ⟨he,hi⟩:=hi
      obtain ⟨m,ok,p,hp,hq⟩:=refI_ev hr he
      have hw:((N.length:Int) - 1)=((N.length - 1:Nat):Int):=by omega
      rw [← hw] at hp
      have le:=leaves_size e
      have lm:=m.len
      refine Ev.bindc hs (Ev.bind hi ?_)
      unfold images_tail
      refine Ev.neg h30 (Ev.bind hN (Ev.pos rfl (Ev.pos (by show N.length ≤ 1000000;omega) (Ev.bind hp ?_))))
      cases hf:(imgV e).2 with
      | true=>exact Ev.neg (by simp) (Ev.pos ⟨rfl,rfl⟩ lives_ev)
      | false =>
        obtain rfl:=hq hf
        exact Ev.pos rfl (Ev.bind (same_set (d:=3) (Nat.le_refl 3) (by show (imgV e).1.length < 1000000;omega) m.mid) (Ev.pos ⟨rfl,rfl⟩ lives_ev))
end Go.Proofs.Ytkonljiembcdlaa.Pure
/- An array of three bytes, and a slice of bytes, as arguments: opened, and shut. -/
set_option linter.unusedVariables false
set_option linter.constructorNameAsVariable false
namespace Go.Proofs.Ytkonljiembcdlaa.RowT
open Go.ChangeShapes Go.WideShapes Go.ChangeAt Go.RowKit Go.Joins
section
variable {H:Type} {enc:TypeId × Value → H} {w:World} {base:Nat} {spare:Nat → Bool} {held:Bool}
end
end Go.Proofs.Ytkonljiembcdlaa.RowT
