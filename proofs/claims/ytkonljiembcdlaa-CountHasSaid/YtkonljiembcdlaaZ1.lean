import Derived.Test.YtkonljiembcdlaaPCx0
import Derived.Test.YtkonljiembcdlaaPCx1
import Derived.Test.YtkonljiembcdlaaPCx4
import Derived.Test.YtkonljiembcdlaaPCx5
import Derived.Test.YtkonljiembcdlaaProg
import Derived.WalkKit
import Derived.ProofKit
import Derived.OpenShut
import Derived.Lib.SmallJoins
import Derived.SizedLaws
import Derived.Deep.Slices
import Derived.Test.YtkonljiembcdlaaZ0
/- Which error semilinear sets have, by the program and by the reference, in plain Lean. -/
set_option linter.unusedVariables false
set_option linter.unusedSimpArgs false
namespace Go.Proofs.Ytkonljiembcdlaa.Pure
open Go.RowKit Go.Proofs.MyWords Go.Proofs.YtkonljiembcdlaaW.PrintWords Go.Proofs.YtkonljiembcdlaaW.PrintLast Go.Proofs.YtkonljiembcdlaaW.PrintMore Go.Proofs.Ytkonljiembcdlaa.PC Go.Proofs.Ytkonljiembcdlaa.Sem
def farV (v:List Int):Bool:=v.any fun x=>decide (x < 0) || decide (20 < x)
def oddV (d:Int) (v:List Int):Bool:=(v.length:Int) != d
def longS (s:List S60):Bool:=s.any (fun l=>decide ((l.f1.length:Int) > 4)) || decide ((s.length:Int) > 8)
def wideS (s:List S60):Bool:=s.any fun l=>farV l.f0 || l.f1.any farV
def oddS (d:Int) (s:List S60):Bool:=s.any fun l=>oddV d l.f0 || l.f1.any (oddV d)
def badD (d:Int):Bool:=decide (d < 1) || decide (d > 3)
def chk (d:Int) (ss:List (List S60)):Int:=if ss.any longS=true then 3 else if (badD d || ss.any wideS)=true then 1 else if ss.any (oddS d)=true then 2 else 0
def short {α:Type} (l:List α):Prop:=l.length < 1000000000
theorem short.tail {α:Type} {x:α} {l:List α} (h:short (x :: l)):short l:=by unfold short at *;simp at h;omega
section
variable (d:Int) (lg:Bool) (ss:List (List S60)) (n2 i2:Int) (set:List S60) (n1 i1:Int)
theorem check_l2:∀ (t pre:List (List Int)) (fr od:Bool) (r:Int),short (pre ++ t) → Ev (fun k=>count_check.l1 k d lg (fr || t.any farV) (od || t.any (oddV d)) ss n2 i2 set n1 (wrap64 (i1 + 1))) r →
    Ev (fun k=>count_check.l2 k d lg fr od ss n2 i2 set n1 i1 (pre ++ t) ((pre ++ t).length:Int) (pre.length:Int)) r
  | [],pre,fr,od,r,hs,h=>by
    refine Ev.succ ?_
    simp only [count_check.l2]
    refine Ev.neg (by simp) ?_
    simpa using h
  | p :: t,pre,fr,od,r,hs,h=>by
    have ws:wrap64 ((pre.length:Int) + 1)=((pre.length + 1:Nat):Int):=wsucc (by unfold short at hs;simp at hs;omega)
    have ih:∀ fr od,Ev (fun k=>count_check.l1 k d lg (fr || t.any farV) (od || t.any (oddV d)) ss n2 i2 set n1 (wrap64 (i1 + 1))) r → Ev (fun k=>count_check.l2 k d lg fr od ss n2 i2 set n1 i1 (pre ++ p :: t) ((pre ++ p :: t).length:Int) ((pre.length + 1:Nat):Int)) r:=fun fr od h2=>by
      have:=check_l2 t (pre ++ [p]) fr od r (by rw [← app_snoc];exact hs) h2
      rw [← app_snoc,← len_snoc] at this
      exact this
    rw [List.any_cons,List.any_cons,← Bool.or_assoc,← Bool.or_assoc] at h
    refine Ev.succ ?_
    simp only [count_check.l2,rdL1_app,ws]
    refine Ev.pos (lt_app _ _ _) (Ev.pos (by omega) (Ev.pos (lt_app _ _ _) ?_))
    have inner:∀ f2,f2=(fr || farV p) → Ev (fun k=>if od=true then count_check.l2 k d lg f2 true ss n2 i2 set n1 i1 (pre ++ p :: t) ((pre ++ p :: t).length:Int) ((pre.length + 1:Nat):Int) else count_check.l2 k d lg f2 ((p.length:Int) != d) ss n2 i2 set n1 i1 (pre ++ p :: t) ((pre ++ p :: t).length:Int) ((pre.length + 1:Nat):Int)) r:=fun f2 e=>by
      subst e
      cases od with
      | true=>exact Ev.pos rfl (ih _ _ h)
      | false=>exact Ev.neg (by simp) (ih _ _ h)
    cases fr with
    | true=>exact Ev.pos rfl (inner _ rfl)
    | false =>
      refine Ev.neg (by simp) ?_
      refine Ev.bindc (x:=farV p) rfl ?_
      exact inner _ rfl
end
theorem check_l1 (d:Int) (ss:List (List S60)) (n2 i2:Int):∀ (t pre:List S60) (lg fr od:Bool) (r:Int),short (pre ++ t) → (∀ l,l ∈ t → short l.f1) →
    Ev (fun k=>count_check.l0 k d (lg || t.any (fun l=>decide ((l.f1.length:Int) > 4))) (fr || wideS t) (od || oddS d t) ss n2 (wrap64 (i2 + 1))) r →
    Ev (fun k=>count_check.l1 k d lg fr od ss n2 i2 (pre ++ t) ((pre ++ t).length:Int) (pre.length:Int)) r
  | [],pre,lg,fr,od,r,hs,hp,h=>by
    refine Ev.succ ?_
    simp only [count_check.l1]
    refine Ev.neg (by simp) ?_
    simpa [wideS,oddS] using h
  | l :: t,pre,lg,fr,od,r,hs,hp,h=>by
    have ws:wrap64 ((pre.length:Int) + 1)=((pre.length + 1:Nat):Int):=wsucc (by unfold short at hs;simp at hs;omega)
    have ih:∀ lg fr od,Ev (fun k=>count_check.l0 k d (lg || t.any (fun l=>decide ((l.f1.length:Int) > 4))) (fr || wideS t) (od || oddS d t) ss n2 (wrap64 (i2 + 1))) r → Ev (fun k=>count_check.l1 k d lg fr od ss n2 i2 (pre ++ l :: t) ((pre ++ l :: t).length:Int) ((pre.length + 1:Nat):Int)) r:=fun lg fr od h2=>by
      have:=check_l1 d ss n2 i2 t (pre ++ [l]) lg fr od r (by rw [← app_snoc];exact hs) (fun x hx=>hp x (by simp [hx])) h2
      rw [← app_snoc,← len_snoc] at this
      exact this
    have e1:wideS (l :: t)=(farV l.f0 || l.f1.any farV || wideS t):=by unfold wideS;rw [List.any_cons]
    have e2:oddS d (l :: t)=(oddV d l.f0 || l.f1.any (oddV d) || oddS d t):=by unfold oddS;rw [List.any_cons]
    rw [List.any_cons,e1,e2,← Bool.or_assoc,← Bool.or_assoc,← Bool.or_assoc,← Bool.or_assoc,← Bool.or_assoc] at h
    have s6:∀ lg fr od,Ev (fun k=>count_check.l0 k d (lg || t.any (fun l=>decide ((l.f1.length:Int) > 4))) (fr || l.f1.any farV || wideS t) (od || l.f1.any (oddV d) || oddS d t) ss n2 (wrap64 (i2 + 1))) r → Ev (fun k=>count_check.j6 k d lg fr od ss n2 i2 (pre ++ l :: t) ((pre ++ l :: t).length:Int) (pre.length:Int) l.f0 l.f1) r:=fun lg fr od h2=>by
      refine Ev.succ ?_
      simp only [count_check.j6]
      refine check_l2 d lg ss n2 i2 _ _ _ l.f1 [] fr od r (hp l (by simp)) ?_
      rw [ws]
      exact ih _ _ _ h2
    have s5:∀ lg fr od,Ev (fun k=>count_check.l0 k d (lg || t.any (fun l=>decide ((l.f1.length:Int) > 4))) (fr || l.f1.any farV || wideS t) (od || oddV d l.f0 || l.f1.any (oddV d) || oddS d t) ss n2 (wrap64 (i2 + 1))) r → Ev (fun k=>count_check.j5 k d lg fr od ss n2 i2 (pre ++ l :: t) ((pre ++ l :: t).length:Int) (pre.length:Int) l.f0 l.f1) r:=fun lg fr od h2=>by
      refine Ev.succ ?_
      simp only [count_check.j5]
      cases od with
      | true=>exact Ev.pos rfl (s6 _ _ _ (by simpa using h2))
      | false=>exact Ev.neg (by simp) (s6 _ _ _ (by simpa [oddV] using h2))
    have s4:∀ lg fr od,Ev (fun k=>count_check.l0 k d (lg || t.any (fun l=>decide ((l.f1.length:Int) > 4))) (fr || farV l.f0 || l.f1.any farV || wideS t) (od || oddV d l.f0 || l.f1.any (oddV d) || oddS d t) ss n2 (wrap64 (i2 + 1))) r → Ev (fun k=>count_check.j4 k d lg fr od ss n2 i2 (pre ++ l :: t) ((pre ++ l :: t).length:Int) (pre.length:Int) l.f0 l.f1) r:=fun lg fr od h2=>by
      refine Ev.succ ?_
      simp only [count_check.j4]
      cases fr with
      | true=>exact Ev.pos rfl (s5 _ _ _ (by simpa using h2))
      | false =>
        refine Ev.neg (by simp) ?_
        refine Ev.bindc (x:=farV l.f0) rfl ?_
        exact s5 _ _ _ (by simpa using h2)
    refine Ev.succ ?_
    simp only [count_check.l1,rdT60_app]
    refine Ev.pos (lt_app _ _ _) (Ev.pos (by omega) (Ev.pos (lt_app _ _ _) ?_))
    cases lg with
    | true=>exact Ev.pos rfl (s4 _ _ _ (by simpa using h))
    | false=>exact Ev.neg (by simp) (s4 _ _ _ (by simpa using h))
def tell (lg fr od:Bool):Int:=if lg=true then 3 else if fr=true then 1 else if od=true then 2 else 0
theorem check_l0 (d:Int):∀ (t pre:List (List S60)) (lg fr od:Bool),short (pre ++ t) → (∀ s,s ∈ t → short s∧∀ l,l ∈ s → short l.f1) →
    Ev (fun k=>count_check.l0 k d lg fr od (pre ++ t) ((pre ++ t).length:Int) (pre.length:Int)) (tell (lg || t.any longS) (fr || t.any wideS) (od || t.any (oddS d)))
  | [],pre,lg,fr,od,hs,hp=>by
    refine Ev.succ ?_
    simp only [count_check.l0]
    refine Ev.neg (by simp) ?_
    unfold tell
    cases lg
    · refine Ev.neg (by simp) ?_
      cases fr
      · refine Ev.neg (by simp) ?_
        cases od
        · exact Ev.neg (by simp) (Ev.now _)
        · exact Ev.pos rfl (Ev.now _)
      · exact Ev.pos rfl (Ev.now _)
    · exact Ev.pos rfl (Ev.now _)
  | s :: t,pre,lg,fr,od,hs,hp=>by
    have ws:wrap64 ((pre.length:Int) + 1)=((pre.length + 1:Nat):Int):=wsucc (by unfold short at hs;simp at hs;omega)
    have ih:∀ lg fr od,Ev (fun k=>count_check.l0 k d lg fr od (pre ++ s :: t) ((pre ++ s :: t).length:Int) ((pre.length + 1:Nat):Int)) (tell (lg || t.any longS) (fr || t.any wideS) (od || t.any (oddS d))):=fun lg fr od=>by
      have:=check_l0 d t (pre ++ [s]) lg fr od (by rw [← app_snoc];exact hs) (fun x hx=>hp x (by simp [hx]))
      rw [← app_snoc,← len_snoc] at this
      exact this
    have j2:∀ lg,Ev (fun k=>count_check.j2 k d lg fr od s (pre ++ s :: t) ((pre ++ s :: t).length:Int) (pre.length:Int)) (tell ((lg || s.any (fun l=>decide ((l.f1.length:Int) > 4))) || t.any longS) (fr || wideS s || t.any wideS) (od || oddS d s || t.any (oddS d))):=fun lg=>by
      refine Ev.succ ?_
      simp only [count_check.j2]
      refine check_l1 d _ _ _ s [] lg fr od _ (hp s (by simp)).1 (hp s (by simp)).2 ?_
      rw [ws]
      exact ih _ _ _
    refine Ev.succ ?_
    simp only [count_check.l0,rdL4_app]
    refine Ev.pos (lt_app _ _ _) (Ev.pos (by omega) (Ev.pos (lt_app _ _ _) ?_))
    rw [List.any_cons,List.any_cons,List.any_cons,← Bool.or_assoc,← Bool.or_assoc,← Bool.or_assoc]
    cases lg with
    | true =>
      refine Ev.pos rfl ?_
      simpa using j2 true
    | false =>
      refine Ev.neg (by simp) ?_
      have:=j2 (decide ((s.length:Int) > 8))
      rw [Bool.or_comm (decide ((s.length:Int) > 8))] at this
      rw [Bool.false_or]
      exact this
theorem check_ev (d:Int) (ss:List (List S60)) (hs:short ss) (hp:∀ s,s ∈ ss → short s∧∀ l,l ∈ s → short l.f1):Ev (fun k=>count_check.f k d ss) (chk d ss):=by
  have go:∀ fr,Ev (fun k=>count_check.j0 k d ss false fr false) (tell (ss.any longS) (fr || ss.any wideS) (ss.any (oddS d))):=fun fr=>by
    refine Ev.succ ?_
    simp only [count_check.j0]
    have:=check_l0 d ss [] false fr false hs hp
    simpa using this
  unfold count_check.f
  by_cases h:d < 1
  · have e:badD d=true:=by unfold badD;simp [h]
    refine Ev.pos h ?_
    have:=go true
    unfold chk
    rw [e]
    exact this
  · have e:badD d=decide (d > 3):=by unfold badD;simp [h]
    refine Ev.neg h ?_
    have:=go (decide (d > 3))
    unfold chk
    rw [e]
    exact this
theorem long_go:∀ (t pre:List S60),short (pre ++ t) → Ev (fun k=>bellpullref05_Long.l0 k (pre ++ t) (pre.length:Int)) (t.any (fun l=>decide ((l.f1.length:Int) > 4)) || decide (((pre ++ t).length:Int) > 8))
  | [],pre,hs=>by
    refine Ev.succ ?_
    simp only [bellpullref05_Long.l0]
    refine Ev.neg (by simp) ?_
    simp only [List.any_nil,Bool.false_or]
    exact Ev.now _
  | l :: t,pre,hs=>by
    have ws:wrap64 ((pre.length:Int) + 1)=((pre.length + 1:Nat):Int):=wsucc (by unfold short at hs;simp at hs;omega)
    have ih:=long_go t (pre ++ [l]) (by rw [← app_snoc];exact hs)
    rw [← app_snoc,← len_snoc] at ih
    refine Ev.succ ?_
    simp only [bellpullref05_Long.l0,rdT60_app,ws]
    refine Ev.pos (lt_app _ _ _) (Ev.pos (by omega) ?_)
    rw [List.any_cons]
    by_cases h:(l.f1.length:Int) > 4
    · rw [decide_eq_true h,Bool.true_or,Bool.true_or]
      exact Ev.pos h (Ev.now _)
    · rw [decide_eq_false h,Bool.false_or]
      exact Ev.neg h ih
theorem wide_go (m:Int):∀ (t pre:List Int),short (pre ++ t) → Ev (fun k=>bellpullref05_wide.l0 k (pre ++ t) m (pre.length:Int)) (t.any fun x=>decide (x < 0) || decide (m < x))
  | [],pre,hs=>by
    refine Ev.succ ?_
    simp only [bellpullref05_wide.l0]
    exact Ev.neg (by simp) (Ev.now _)
  | x :: t,pre,hs=>by
    have ws:wrap64 ((pre.length:Int) + 1)=((pre.length + 1:Nat):Int):=wsucc (by unfold short at hs;simp at hs;omega)
    have ih:=wide_go m t (pre ++ [x]) (by rw [← app_snoc];exact hs)
    rw [← app_snoc,← len_snoc] at ih
    refine Ev.succ ?_
    simp only [bellpullref05_wide.l0,rd_app,ws]
    refine Ev.pos (lt_app _ _ _) (Ev.pos (by omega) ?_)
    refine Ev.bindc (x:=!(decide (x < 0) || decide (m < x))) (by
      unfold bellpullref01_In.f
      by_cases h:x ≥ 0
      · rw [if_pos h,decide_eq_false (show ¬ x < 0 by omega),Bool.false_or]
        congr 1
        by_cases h2:x ≤ m
        · rw [decide_eq_true h2,decide_eq_false (by omega)];rfl
        · rw [decide_eq_false h2,decide_eq_true (by omega)];rfl
      · rw [if_neg h,decide_eq_true (show x < 0 by omega)];rfl) ?_
    rw [List.any_cons]
    cases hx:(decide (x < 0) || decide (m < x))
    · rw [Bool.false_or];exact Ev.pos rfl ih
    · exact Ev.neg (by simp) (Ev.now _)
theorem wide_ev (v:List Int) (hs:short v) (m:Int):Ev (fun k=>bellpullref05_wide.f k v m) (v.any fun x=>decide (x < 0) || decide (m < x)):=wide_go m v [] hs
theorem vectors_f (l:S60) (h:short l.f1):bellpullref05_vectors.f l.f0 l.f1=some (l.f0 :: l.f1):=by
  unfold bellpullref05_vectors.f short at *
  rw [Option.bind_some,if_pos (by simp;omega)]
  rfl
def shortL (l:S60):Prop:=short l.f0∧short (l.f0 :: l.f1)∧∀ p,p ∈ l.f1 → short p
def shortS (s:List S60):Prop:=short s∧∀ l,l ∈ s → shortL l
theorem Wide_l1 (set:List S60) (i:Int):∀ (t pre:List (List Int)) (r:Bool),short (pre ++ t) → (∀ p,p ∈ t → short p) → (t.any farV=false → Ev (fun k=>bellpullref05_Wide.l0 k set (wrap64 (i + 1))) r) → Ev (fun k=>bellpullref05_Wide.l1 k set i (pre ++ t) (pre.length:Int)) (t.any farV || r)
  | [],pre,r,hs,hp,h=>by
    refine Ev.succ ?_
    simp only [bellpullref05_Wide.l1]
    refine Ev.neg (by simp) ?_
    rw [List.any_nil,Bool.false_or]
    exact h rfl
  | p :: t,pre,r,hs,hp,h=>by
    have ws:wrap64 ((pre.length:Int) + 1)=((pre.length + 1:Nat):Int):=wsucc (by unfold short at hs;simp at hs;omega)
    refine Ev.succ ?_
    simp only [bellpullref05_Wide.l1,rdL1_app,ws]
    refine Ev.pos (lt_app _ _ _) (Ev.pos (by omega) (Ev.bind (wide_ev p (hp p (by simp)) 20) ?_))
    rw [List.any_cons]
    change Ev (fun k=>if farV p=true then _ else _) _
    cases hf:farV p with
    | true=>exact Ev.pos rfl (Ev.now _)
    | false =>
      have ih:=Wide_l1 set i t (pre ++ [p]) r (by rw [← app_snoc];exact hs) (fun x hx=>hp x (by simp [hx])) (fun h2=>h (by rw [List.any_cons,hf,h2];rfl))
      rw [← app_snoc,← len_snoc] at ih
      exact Ev.neg (by simp) ih
theorem Wide_l0:∀ (t pre:List S60),short (pre ++ t) → (∀ l,l ∈ t → shortL l) → Ev (fun k=>bellpullref05_Wide.l0 k (pre ++ t) (pre.length:Int)) (wideS t)
  | [],pre,hs,hp=>by
    refine Ev.succ ?_
    simp only [bellpullref05_Wide.l0]
    exact Ev.neg (by simp) (Ev.now _)
  | l :: t,pre,hs,hp=>by
    have ws:wrap64 ((pre.length:Int) + 1)=((pre.length + 1:Nat):Int):=wsucc (by unfold short at hs;simp at hs;omega)
    have ih:=Wide_l0 t (pre ++ [l]) (by rw [← app_snoc];exact hs) (fun x hx=>hp x (by simp [hx]))
    rw [← app_snoc,← len_snoc] at ih
    obtain ⟨h0,h1,h2⟩:=hp l (by simp)
    refine Ev.succ ?_
    simp only [bellpullref05_Wide.l0,rdT60_app]
    refine Ev.pos (lt_app _ _ _) (Ev.pos (by omega) (Ev.bindc (vectors_f l h1.tail) ?_))
    have:=Wide_l1 (pre ++ l :: t) (pre.length:Int) (l.f0 :: l.f1) [] (wideS t) h1 (fun p hp=>by
      rcases List.mem_cons.1 hp with rfl|hp
      · exact h0
      · exact h2 p hp) (fun _=>by rw [ws];exact ih)
    have e1:wideS (l :: t)=((l.f0 :: l.f1).any farV || wideS t):=by unfold wideS;rw [List.any_cons,List.any_cons]
    rw [e1]
    exact this
theorem Odd_l1 (d:Int) (set:List S60) (i:Int):∀ (t pre:List (List Int)) (r:Bool),short (pre ++ t) → Ev (fun k=>bellpullref05_Odd.l0 k d set (wrap64 (i + 1))) r → Ev (fun k=>bellpullref05_Odd.l1 k d set i (pre ++ t) (pre.length:Int)) (t.any (oddV d) || r)
  | [],pre,r,hs,h=>by
    refine Ev.succ ?_
    simp only [bellpullref05_Odd.l1]
    refine Ev.neg (by simp) ?_
    rw [List.any_nil,Bool.false_or]
    exact h
  | p :: t,pre,r,hs,h=>by
    have ws:wrap64 ((pre.length:Int) + 1)=((pre.length + 1:Nat):Int):=wsucc (by unfold short at hs;simp at hs;omega)
    refine Ev.succ ?_
    simp only [bellpullref05_Odd.l1,rdL1_app,ws]
    refine Ev.pos (lt_app _ _ _) (Ev.pos (by omega) ?_)
    rw [List.any_cons]
    by_cases hf:(p.length:Int)=d
    · have ih:=Odd_l1 d set i t (pre ++ [p]) r (by rw [← app_snoc];exact hs) h
      rw [← app_snoc,← len_snoc] at ih
      have:oddV d p=false:=by unfold oddV;simp [hf]
      rw [this,Bool.false_or]
      exact Ev.pos hf ih
    · have:oddV d p=true:=by unfold oddV;simp [hf]
      rw [this]
      exact Ev.neg hf (Ev.now _)
theorem Odd_l0 (d:Int):∀ (t pre:List S60),short (pre ++ t) → (∀ l,l ∈ t → shortL l) → Ev (fun k=>bellpullref05_Odd.l0 k d (pre ++ t) (pre.length:Int)) (oddS d t)
  | [],pre,hs,hp=>by
    refine Ev.succ ?_
    simp only [bellpullref05_Odd.l0]
    exact Ev.neg (by simp) (Ev.now _)
  | l :: t,pre,hs,hp=>by
    have ws:wrap64 ((pre.length:Int) + 1)=((pre.length + 1:Nat):Int):=wsucc (by unfold short at hs;simp at hs;omega)
    have ih:=Odd_l0 d t (pre ++ [l]) (by rw [← app_snoc];exact hs) (fun x hx=>hp x (by simp [hx]))
    rw [← app_snoc,← len_snoc] at ih
    obtain ⟨h0,h1,h2⟩:=hp l (by simp)
    refine Ev.succ ?_
    simp only [bellpullref05_Odd.l0,rdT60_app]
    refine Ev.pos (lt_app _ _ _) (Ev.pos (by omega) (Ev.bindc (vectors_f l h1.tail) ?_))
    have:=Odd_l1 d (pre ++ l :: t) (pre.length:Int) (l.f0 :: l.f1) [] (oddS d t) h1 (by rw [ws];exact ih)
    have e1:oddS d (l :: t)=((l.f0 :: l.f1).any (oddV d) || oddS d t):=by unfold oddS;rw [List.any_cons,List.any_cons]
    rw [e1]
    exact this
theorem inD (d:Int):bellpullref01_In.f d 1 3=some (!badD d):=by
  unfold bellpullref01_In.f badD
  by_cases h:d ≥ 1
  · rw [if_pos h,decide_eq_false (show ¬ d < 1 by omega),Bool.false_or]
    congr 1
    by_cases h2:d ≤ 3
    · rw [decide_eq_true h2,decide_eq_false (by omega)];rfl
    · rw [decide_eq_false h2,decide_eq_true (by omega)];rfl
  · rw [if_neg h,decide_eq_true (show d < 1 by omega)];rfl
theorem Check_l2 (d:Int) (hd:badD d=false):∀ (t pre:List (List S60)),short (pre ++ t) → (∀ s,s ∈ t → shortS s) → Ev (fun k=>bellpullref05_Check.l2 k d (pre ++ t) (pre.length:Int)) (if t.any (oddS d)=true then 2 else 0)
  | [],pre,hs,hp=>by
    refine Ev.succ ?_
    simp only [bellpullref05_Check.l2]
    exact Ev.neg (by simp) (Ev.now _)
  | s :: t,pre,hs,hp=>by
    have ws:wrap64 ((pre.length:Int) + 1)=((pre.length + 1:Nat):Int):=wsucc (by unfold short at hs;simp at hs;omega)
    have ih:=Check_l2 d hd t (pre ++ [s]) (by rw [← app_snoc];exact hs) (fun x hx=>hp x (by simp [hx]))
    rw [← app_snoc,← len_snoc] at ih
    have ho:Ev (fun k=>bellpullref05_Odd.f k d s) (oddS d s):=Odd_l0 d s [] (hp s (by simp)).1 (hp s (by simp)).2
    refine Ev.succ ?_
    simp only [bellpullref05_Check.l2,rdL4_app,ws]
    refine Ev.pos (lt_app _ _ _) (Ev.pos (by omega) (Ev.bind ho ?_))
    rw [List.any_cons]
    cases h:oddS d s
    · rw [Bool.false_or];exact Ev.neg (by simp) ih
    · exact Ev.pos rfl (Ev.now _)
theorem Check_l1 (d:Int) (all:List (List S60)) (r:Int) (hr:badD d=false → Ev (fun k=>bellpullref05_Check.l2 k d all 0) r):∀ (t pre:List (List S60)),all=pre ++ t → short (pre ++ t) → (∀ s,s ∈ t → shortS s) → Ev (fun k=>bellpullref05_Check.l1 k d all (pre.length:Int)) (if (badD d || t.any wideS)=true then 1 else r)
  | [],pre,ha,hs,hp=>by
    subst ha
    refine Ev.succ ?_
    simp only [bellpullref05_Check.l1]
    refine Ev.neg (by simp) (Ev.bindc (inD d) ?_)
    rw [List.any_nil,Bool.or_false]
    cases h:badD d
    · exact Ev.pos rfl (hr h)
    · exact Ev.neg (by simp) (Ev.now _)
  | s :: t,pre,ha,hs,hp=>by
    have ws:wrap64 ((pre.length:Int) + 1)=((pre.length + 1:Nat):Int):=wsucc (by unfold short at hs;simp at hs;omega)
    have ih:=Check_l1 d all r hr t (pre ++ [s]) (by rw [← app_snoc];exact ha) (by rw [← app_snoc];exact hs) (fun x hx=>hp x (by simp [hx]))
    rw [← len_snoc] at ih
    subst ha
    have hw:Ev (fun k=>bellpullref05_Wide.f k d s) (badD d || wideS s):=by
      unfold bellpullref05_Wide.f
      refine Ev.bindc (inD d) ?_
      cases h:badD d
      · rw [Bool.false_or];exact Ev.pos rfl (Wide_l0 s [] (hp s (by simp)).1 (hp s (by simp)).2)
      · exact Ev.neg (by simp) (Ev.now _)
    refine Ev.succ ?_
    simp only [bellpullref05_Check.l1,rdL4_app,ws]
    refine Ev.pos (lt_app _ _ _) (Ev.pos (by omega) (Ev.bind hw ?_))
    rw [List.any_cons]
    cases h:badD d
    · rw [h] at ih
      cases h2:wideS s
      · rw [Bool.false_or,Bool.false_or];exact Ev.neg (by simp) (by simpa using ih)
      · exact Ev.pos rfl (Ev.now _)
    · rw [Bool.true_or,Bool.true_or];exact Ev.pos rfl (Ev.now _)
theorem Check_l0 (d:Int) (all:List (List S60)) (r:Int) (hr:Ev (fun k=>bellpullref05_Check.l1 k d all 0) r):∀ (t pre:List (List S60)),all=pre ++ t → short (pre ++ t) → (∀ s,s ∈ t → shortS s) → Ev (fun k=>bellpullref05_Check.l0 k d all (pre.length:Int)) (if t.any longS=true then 3 else r)
  | [],pre,ha,hs,hp=>by
    subst ha
    refine Ev.succ ?_
    simp only [bellpullref05_Check.l0]
    exact Ev.neg (by simp) hr
  | s :: t,pre,ha,hs,hp=>by
    have ws:wrap64 ((pre.length:Int) + 1)=((pre.length + 1:Nat):Int):=wsucc (by unfold short at hs;simp at hs;omega)
    have ih:=Check_l0 d all r hr t (pre ++ [s]) (by rw [← app_snoc];exact ha) (by rw [← app_snoc];exact hs) (fun x hx=>hp x (by simp [hx]))
    rw [← len_snoc] at ih
    subst ha
    have hw:Ev (fun k=>bellpullref05_Long.f k s) (longS s):=long_go s [] (hp s (by simp)).1
    refine Ev.succ ?_
    simp only [bellpullref05_Check.l0,rdL4_app,ws]
    refine Ev.pos (lt_app _ _ _) (Ev.pos (by omega) (Ev.bind hw ?_))
    rw [List.any_cons]
    cases h2:longS s
    · rw [Bool.false_or];exact Ev.neg (by simp) ih
    · exact Ev.pos rfl (Ev.now _)
theorem refCheck_ev (d:Int) (ss:List (List S60)) (hs:short ss) (hp:∀ s,s ∈ ss → shortS s):Ev (fun k=>bellpullref05_Check.f k d ss) (chk d ss):=by
  unfold chk
  exact Check_l0 d ss _ (Check_l1 d ss _ (fun h=>Check_l2 d h ss [] hs hp) ss [] rfl hs hp) ss [] rfl hs hp
def okSet (d:Nat) (s:List S60):Prop:=s.length ≤ 8∧∀ l,l ∈ s → okV d 20 l.f0∧l.f1.length ≤ 4∧∀ p,p ∈ l.f1 → okV d 20 p
theorem farV_iff (v:List Int):farV v=false ↔ inB 20 v:=by
  have:=outside_iff v 20
  unfold farV
  rw [← Bool.not_eq_true,this]
  exact ⟨fun h=>Classical.byContradiction h,fun h h2=>h2 h⟩
theorem oddV_iff (d:Int) (v:List Int):oddV d v=false ↔ (v.length:Int)=d:=by unfold oddV;simp
theorem chk_ok {d:Int} {ss:List (List S60)}:chk d ss=0 ↔ (1 ≤ d∧d ≤ 3)∧∀ s,s ∈ ss → okSet d.toNat s:=by
  have hl:∀ s,longS s=false ↔ s.length ≤ 8∧∀ l,l ∈ s → l.f1.length ≤ 4:=fun s=>by
    unfold longS
    rw [Bool.or_eq_false_iff,← Bool.not_eq_true,List.any_eq_true,decide_eq_false_iff_not]
    constructor
    · rintro ⟨h1,h2⟩
      exact ⟨by omega,fun l hl=>Nat.le_of_not_lt (fun h=>h1 ⟨l,hl,decide_eq_true (by omega)⟩)⟩
    · rintro ⟨h1,h2⟩
      exact ⟨fun ⟨l,hl,h⟩=>by have:=h2 l hl;have:=of_decide_eq_true h;omega,by omega⟩
  have hw:∀ s,wideS s=false ↔ ∀ l,l ∈ s → inB 20 l.f0∧∀ p,p ∈ l.f1 → inB 20 p:=fun s=>by
    unfold wideS
    rw [← Bool.not_eq_true,List.any_eq_true]
    constructor
    · intro h l hl
      have:(farV l.f0 || l.f1.any farV)=false:=by
        rw [← Bool.not_eq_true];exact fun h2=>h ⟨l,hl,h2⟩
      rw [Bool.or_eq_false_iff,← Bool.not_eq_true (l.f1.any farV),List.any_eq_true] at this
      exact ⟨(farV_iff _).1 this.1,fun p hp=>(farV_iff _).1 (by rw [← Bool.not_eq_true];exact fun h2=>this.2 ⟨p,hp,h2⟩)⟩
    · rintro h ⟨l,hl,h2⟩
      rcases (Bool.or_eq_true _ _).mp h2 with h2|h2
      · rw [(farV_iff _).2 (h l hl).1] at h2;cases h2
      · obtain ⟨p,hp,h2⟩:=List.any_eq_true.1 h2
        rw [(farV_iff _).2 ((h l hl).2 p hp)] at h2;cases h2
  have ho:∀ s,oddS d s=false ↔ ∀ l,l ∈ s → (l.f0.length:Int)=d∧∀ p,p ∈ l.f1 → (p.length:Int)=d:=fun s=>by
    unfold oddS
    rw [← Bool.not_eq_true,List.any_eq_true]
    constructor
    · intro h l hl
      have:(oddV d l.f0 || l.f1.any (oddV d))=false:=by
        rw [← Bool.not_eq_true];exact fun h2=>h ⟨l,hl,h2⟩
      rw [Bool.or_eq_false_iff,← Bool.not_eq_true (l.f1.any (oddV d)),List.any_eq_true] at this
      exact ⟨(oddV_iff _ _).1 this.1,fun p hp=>(oddV_iff _ _).1 (by rw [← Bool.not_eq_true];exact fun h2=>this.2 ⟨p,hp,h2⟩)⟩
    · rintro h ⟨l,hl,h2⟩
      rcases (Bool.or_eq_true _ _).mp h2 with h2|h2
      · rw [(oddV_iff _ _).2 (h l hl).1] at h2;cases h2
      · obtain ⟨p,hp,h2⟩:=List.any_eq_true.1 h2
        rw [(oddV_iff _ _).2 ((h l hl).2 p hp)] at h2;cases h2
  have anyF:∀ (f:List S60 → Bool),ss.any f=false ↔ ∀ s,s ∈ ss → f s=false:=fun f=>by
    rw [← Bool.not_eq_true,List.any_eq_true]
    exact ⟨fun h s hs=>by rw [← Bool.not_eq_true];exact fun h2=>h ⟨s,hs,h2⟩,fun h ⟨s,hs,h2⟩=>by rw [h s hs] at h2;cases h2⟩
  have hb:badD d=false ↔ 1 ≤ d∧d ≤ 3:=by unfold badD;rw [Bool.or_eq_false_iff,decide_eq_false_iff_not,decide_eq_false_iff_not];omega
  have h0:chk d ss=0 ↔ ss.any longS=false∧badD d=false∧ss.any wideS=false∧ss.any (oddS d)=false:=by
    unfold chk
    cases ss.any longS <;> cases badD d <;> cases ss.any wideS <;> cases ss.any (oddS d) <;> simp
  rw [h0,anyF,anyF,anyF,hb]
  constructor
  · rintro ⟨h1,h2,h3,h4⟩
    refine ⟨h2,fun s hs=>⟨((hl s).1 (h1 s hs)).1,fun l hls=>?_⟩⟩
    have q3:=(hw s).1 (h3 s hs) l hls
    have q4:=(ho s).1 (h4 s hs) l hls
    exact ⟨⟨by omega,q3.1⟩,((hl s).1 (h1 s hs)).2 l hls,fun p hp=>⟨by have:=q4.2 p hp;omega,q3.2 p hp⟩⟩
  · rintro ⟨h1,h2⟩
    refine ⟨fun s hs=>(hl s).2 ⟨(h2 s hs).1,fun l hls=>((h2 s hs).2 l hls).2.1⟩,h1,fun s hs=>(hw s).2 (fun l hls=>?_),fun s hs=>(ho s).2 (fun l hls=>?_)⟩
    · have:=(h2 s hs).2 l hls
      exact ⟨this.1.2,fun p hp=>(this.2.2 p hp).2⟩
    · have:=(h2 s hs).2 l hls
      exact ⟨by have:=this.1.1;omega,fun p hp=>by have:=(this.2.2 p hp).1;omega⟩
theorem chk_range (d:Int) (ss:List (List S60)):chk d ss=0 ∨ chk d ss=1 ∨ chk d ss=2 ∨ chk d ss=3:=by
  unfold chk
  cases ss.any longS <;> cases badD d <;> cases ss.any wideS <;> cases ss.any (oddS d) <;> simp
theorem okSet.shorts {d:Nat} (hd:d ≤ 3) {s:List S60} (h:okSet d s):shortS s:=by
  refine ⟨by have:=h.1;unfold short;omega,fun l hl=>?_⟩
  have:=h.2 l hl
  exact ⟨by have:=this.1.1;unfold short;omega,by have:=this.2.1;unfold short;simp;omega,fun p hp=>by have:=(this.2.2 p hp).1;unfold short;omega⟩
theorem okSet.okL {d:Nat} {s:List S60} (h:okSet d s):∀ l,l ∈ s → okL d l:=fun l hl=>by
  have:=h.2 l hl
  exact ⟨this.1.mono (by decide),fun p hp=>(this.2.2 p hp).mono (by decide),by omega⟩
end Go.Proofs.Ytkonljiembcdlaa.Pure
/- What the statements cut off, in plain Lean. -/
set_option linter.unusedVariables false
set_option linter.unusedSimpArgs false
namespace Go.Proofs.Ytkonljiembcdlaa.Pure
open Go.RowKit Go.Proofs.MyWords Go.Proofs.YtkonljiembcdlaaW.PrintWords Go.Proofs.YtkonljiembcdlaaW.PrintLast Go.Proofs.YtkonljiembcdlaaW.PrintMore Go.Proofs.Ytkonljiembcdlaa.PC Go.Proofs.Ytkonljiembcdlaa.Sem
theorem cut_f (v:List Int):bellpulllaw05_cut.f v=some (v.take 4):=by
  unfold bellpulllaw05_cut.f mn
  rw [Option.bind_some]
  by_cases h:(4:Int) < (v.length:Int)
  · rw [if_pos h,if_pos (by omega),if_pos (by omega),Option.bind_some,if_pos (by simp;omega)]
    rfl
  · rw [if_neg h,if_pos (by omega),if_pos (by omega),Option.bind_some,Int.toNat_natCast,List.take_length,if_pos (by simp;omega),List.take_of_length_le (by omega)]
    rfl
end Go.Proofs.Ytkonljiembcdlaa.Pure
/- What the statements cut off of semilinear sets, in plain Lean. -/
set_option linter.unusedVariables false
set_option linter.unusedSimpArgs false
namespace Go.Proofs.Ytkonljiembcdlaa.Pure
open Go.RowKit Go.Proofs.MyWords Go.Proofs.YtkonljiembcdlaaW.PrintWords Go.Proofs.YtkonljiembcdlaaW.PrintLast Go.Proofs.YtkonljiembcdlaaW.PrintMore Go.Proofs.Ytkonljiembcdlaa.PC Go.Proofs.Ytkonljiembcdlaa.Sem
def cutL (l:S60):S60:=⟨l.f0.take 4,(l.f1.take 5).map (·.take 4)⟩
theorem few_l1 (set:List S60) (i:Int) (l:S60) (h0:0 ≤ i) (h1:i < (set.length:Int)) (hr:rd_T60 set i=l) (o:List S60) (ho:o.length < 1000000) (b:List Int) (r:List S60) :
    ∀ (n:Nat) (t pre:List (List Int)) (acc:List (List Int)),5 - pre.length=n → l.f1=pre ++ t → acc.length=pre.length → pre.length ≤ 5 → Ev (fun k=>bellpulllaw05_few.l0 k set (o ++ [⟨b,acc ++ (t.take n).map (·.take 4)⟩]) (wrap64 (i + 1))) r → Ev (fun k=>bellpulllaw05_few.l1 k set o i (pre.length:Int) b acc) r
  | 0,t,pre,acc,hn,e,ha,hp,h=>by
    refine Ev.succ ?_
    simp only [bellpulllaw05_few.l1,hr]
    rw [List.take_zero,List.map_nil,List.append_nil] at h
    refine Ev.pos h0 (Ev.pos h1 ?_)
    by_cases q:(pre.length:Int) < (l.f1.length:Int)
    · exact Ev.pos q (Ev.neg (by omega) (Ev.pos (by omega) h))
    · exact Ev.neg q (Ev.pos (by omega) h)
  | n + 1,[],pre,acc,hn,e,ha,hp,h=>by
    have hl1:l.f1.length=pre.length:=by rw [e];simp
    refine Ev.succ ?_
    simp only [bellpulllaw05_few.l1,hr]
    rw [List.take_nil,List.map_nil,List.append_nil] at h
    exact Ev.pos h0 (Ev.pos h1 (Ev.neg (by omega) (Ev.pos (by omega) h)))
  | n + 1,p :: t,pre,acc,hn,e,ha,hp,h=>by
    have hl1:l.f1.length=pre.length + (t.length + 1):=by rw [e];simp
    have hrd:rd_L1 l.f1 (pre.length:Int)=p:=by rw [e];exact rdL1_app _ _ _
    have ih:=few_l1 set i l h0 h1 hr o ho b r n t (pre ++ [p]) (acc ++ [p.take 4]) (by simp;omega) (by rw [e];simp) (by simp [ha]) (by simp;omega) (by
      rw [List.append_assoc];exact h)
    rw [← len_snoc] at ih
    refine Ev.succ ?_
    simp only [bellpulllaw05_few.l1,hr,hrd,wsucc (show pre.length < 4611686018427387904 by omega)]
    exact Ev.pos h0 (Ev.pos h1 (Ev.pos (by omega) (Ev.pos (by omega) (Ev.pos (by omega) (Ev.bindc (cut_f p) (Ev.pos (by omega) ih))))))
theorem few_l0:∀ (n:Nat) (t pre o:List S60),9 - pre.length=n → pre.length ≤ 9 → o.length=pre.length → Ev (fun k=>bellpulllaw05_few.l0 k (pre ++ t) o (pre.length:Int)) (o ++ (t.take n).map cutL):=by
  have stop:∀ (set o:List S60) (i:Int),Ev (fun k=>bellpulllaw05_few.j1 k set o i false) o:=fun set o i=>by
    refine Ev.succ ?_
    simp only [bellpulllaw05_few.j1]
    exact Ev.neg (by simp) (Ev.now _)
  intro n
  induction n with
  | zero =>
    intro t pre o hn hp ho
    rw [List.take_zero,List.map_nil,List.append_nil]
    refine Ev.succ ?_
    simp only [bellpulllaw05_few.l0]
    have hd:decide ((pre.length:Int) ≤ 8)=false:=decide_eq_false (by omega)
    by_cases q:(pre.length:Int) < ((pre ++ t).length:Int)
    · refine Ev.pos q ?_
      rw [hd];exact stop _ _ _
    · exact Ev.neg q (stop _ _ _)
  | succ n ih =>
    intro t pre o hn hp ho
    match t with
    | [] =>
      simp only [List.take_nil,List.map_nil,List.append_nil]
      refine Ev.succ ?_
      simp only [bellpulllaw05_few.l0]
      exact Ev.neg (by simp) (stop _ _ _)
    | l :: t =>
      have hd:decide ((pre.length:Int) ≤ 8)=true:=decide_eq_true (by omega)
      have ih:=ih t (pre ++ [l]) (o ++ [cutL l]) (by simp;omega) (by simp;omega) (by simp [ho])
      rw [← app_snoc,← len_snoc,List.append_assoc] at ih
      refine Ev.succ ?_
      simp only [bellpulllaw05_few.l0,hd]
      refine Ev.pos (lt_app _ _ _) (Ev.succ ?_)
      simp only [bellpulllaw05_few.j1,rdT60_app]
      refine Ev.pos trivial (Ev.pos (by omega) (Ev.pos (lt_app _ _ _) (Ev.bindc (cut_f l.f0) ?_)))
      refine few_l1 (pre ++ l :: t) (pre.length:Int) l (by omega) (lt_app _ _ _) (rdT60_app _ _ _) o (by omega) _ _ 5 l.f1 [] [] rfl rfl rfl (by simp) ?_
      rw [wsucc (by omega),List.nil_append]
      have ho:o ++ [({ f0:=l.f0.take 4,f1:=(l.f1.take 5).map (·.take 4) }:S60)]=o ++ [cutL l]:=rfl
      rw [ho]
      exact ih
def fewL (set:List S60):List S60:=(set.take 9).map cutL
theorem few_ev (set:List S60):Ev (fun k=>bellpulllaw05_few.f k set) (fewL set):=few_l0 9 set [] [] rfl (by simp) rfl
theorem few_short (set:List S60):shortS (fewL set):=by
  unfold fewL
  refine ⟨by unfold short;simp;omega,fun l hl=>?_⟩
  obtain ⟨x,_,rfl⟩:=List.mem_map.1 hl
  refine ⟨by unfold short cutL;simp;omega,by unfold short cutL;simp;omega,fun p hp=>?_⟩
  obtain ⟨y,_,rfl⟩:=List.mem_map.1 hp
  unfold short;simp;omega
theorem check1 (d:Int) {s:List S60} (h:shortS s):Ev (fun k=>count_check.f k d [s]) (chk d [s]):=check_ev d [s] (by unfold short;simp) (fun t ht=>by
  obtain rfl:t=s:=by simpa using ht
  exact ⟨h.1,fun l hl=>(h.2 l hl).2.1.tail⟩)
end Go.Proofs.Ytkonljiembcdlaa.Pure
/- The statements' measure of a long search has a value, in plain Lean. -/
set_option linter.unusedVariables false
set_option linter.unusedSimpArgs false
namespace Go.Proofs.Ytkonljiembcdlaa.Pure
open Go.RowKit Go.Proofs.MyWords Go.Proofs.YtkonljiembcdlaaW.PrintWords Go.Proofs.YtkonljiembcdlaaW.PrintLast Go.Proofs.YtkonljiembcdlaaW.PrintMore Go.Proofs.Ytkonljiembcdlaa.PC Go.Proofs.Ytkonljiembcdlaa.Sem
theorem heavy_l1 (set:List S60) (i:Int) (l:S60) (h0:0 ≤ i) (h1:i < (set.length:Int)) (hr:rd_T60 set i=l) (hl:∀ p,p ∈ l.f1 → inB 1000000 p∧p.length < 1000000) (hlen:l.f1.length < 1000000) (hn:∃ b,Ev (fun k=>bellpulllaw05_heavy.l0 k set (wrap64 (i + 1))) b) :
    ∀ (t pre:List (List Int)) (m:Int),l.f1=pre ++ t → ∃ b,Ev (fun k=>bellpulllaw05_heavy.l1 k set i m (pre.length:Int)) b
  | [],pre,m,e=>by
    have hl1:l.f1.length=pre.length:=by rw [e];simp
    by_cases hm:m > 2
    · refine ⟨true,Ev.succ ?_⟩
      simp only [bellpulllaw05_heavy.l1,hr]
      exact Ev.pos h0 (Ev.pos h1 (Ev.neg (by omega) (Ev.pos hm (Ev.now _))))
    · obtain ⟨b,hb⟩:=hn
      refine ⟨b,Ev.succ ?_⟩
      simp only [bellpulllaw05_heavy.l1,hr]
      exact Ev.pos h0 (Ev.pos h1 (Ev.neg (by omega) (Ev.neg hm hb)))
  | p :: t,pre,m,e=>by
    have hl1:l.f1.length=pre.length + (t.length + 1):=by rw [e];simp
    have hp:=hl p (by rw [e];simp)
    have ih:=fun m=>heavy_l1 set i l h0 h1 hr hl hlen hn t (pre ++ [p]) m (by rw [e];simp)
    rw [← len_snoc] at ih
    have hrd:rd_L1 l.f1 (pre.length:Int)=p:=by rw [e];exact rdL1_app _ _ _
    have tp:=refTotal_ev hp.1 hp.2
    have ws:wrap64 ((pre.length:Int) + 1)=((pre.length + 1:Nat):Int):=wsucc (by omega)
    by_cases q1:p.sum > 0
    · by_cases q2:p.sum < 3
      · obtain ⟨b,hb⟩:=ih (wrap64 (m + 1))
        refine ⟨b,Ev.succ ?_⟩
        simp only [bellpulllaw05_heavy.l1,hr,hrd,ws]
        exact Ev.pos h0 (Ev.pos h1 (Ev.pos (by omega) (Ev.pos (by omega) (Ev.bind tp (Ev.pos q1 (Ev.pos q2 hb))))))
      · obtain ⟨b,hb⟩:=ih m
        refine ⟨b,Ev.succ ?_⟩
        simp only [bellpulllaw05_heavy.l1,hr,hrd,ws]
        exact Ev.pos h0 (Ev.pos h1 (Ev.pos (by omega) (Ev.pos (by omega) (Ev.bind tp (Ev.pos q1 (Ev.neg q2 hb))))))
    · obtain ⟨b,hb⟩:=ih m
      refine ⟨b,Ev.succ ?_⟩
      simp only [bellpulllaw05_heavy.l1,hr,hrd,ws]
      exact Ev.pos h0 (Ev.pos h1 (Ev.pos (by omega) (Ev.pos (by omega) (Ev.bind tp (Ev.neg q1 hb)))))
theorem heavy_l0 (hd:Nat):∀ (t pre:List S60),(pre ++ t).length < 1000000 → (∀ l,l ∈ t → l.f1.length < 1000000∧∀ p,p ∈ l.f1 → inB 1000000 p∧p.length < 1000000) → ∃ b,Ev (fun k=>bellpulllaw05_heavy.l0 k (pre ++ t) (pre.length:Int)) b
  | [],pre,hs,h=>by
    refine ⟨false,Ev.succ ?_⟩
    simp only [bellpulllaw05_heavy.l0]
    exact Ev.neg (by simp) (Ev.now _)
  | l :: t,pre,hs,h=>by
    have ih:=heavy_l0 hd t (pre ++ [l]) (by rw [← app_snoc];exact hs) (fun x hx=>h x (by simp [hx]))
    rw [← app_snoc,← len_snoc] at ih
    have hl:=h l (by simp)
    have ws:wrap64 ((pre.length:Int) + 1)=((pre.length + 1:Nat):Int):=wsucc (by simp at hs;omega)
    obtain ⟨b,hb⟩:=heavy_l1 (pre ++ l :: t) (pre.length:Int) l (by omega) (lt_app _ _ _) (rdT60_app _ _ _) hl.2 hl.1 (by rw [ws];exact ih) l.f1 [] 0 rfl
    refine ⟨b,Ev.succ ?_⟩
    simp only [bellpulllaw05_heavy.l0]
    exact Ev.pos (lt_app _ _ _) hb
theorem heavy_ev {d:Nat} (hd:d ≤ 3) {set:List S60} (h:okSet d set):∃ b,Ev (fun k=>bellpulllaw05_heavy.f k set) b :=
  heavy_l0 d set [] (by have:=h.1;simp;omega) (fun l hl=>by
    have:=h.2 l hl
    exact ⟨by omega,fun p hp=>⟨((this.2.2 p hp).mono (n:=1000000) (by decide)).2,by have:=(this.2.2 p hp).1;omega⟩⟩)
theorem Has_ok {d:Nat} (h1:1 ≤ d) (hd:d ≤ 3) {set:List S60} (h:okSet d set) {v:List Int} (hv:okV d 60 v):∃ b,Ev (fun k=>count_Has.f k (d:Int) set v) (b,0)∧(b=true ↔ InS d set v):=by
  obtain ⟨b,hb,ib⟩:=has_ev (by omega) hv h.okL
  refine ⟨b,?_,ib⟩
  have hs:=h.shorts hd
  have hc:Ev (fun k=>count_check.f k (d:Int) [set]) 0:=by
    have:=check_ev (d:Int) [set] (by unfold short;simp) (fun t ht=>by
      obtain rfl:t=set:=by simpa using ht
      exact ⟨hs.1,fun l hl=>(hs.2 l hl).2.1.tail⟩)
    rw [chk_ok.2 ⟨by omega,fun t ht=>by
      obtain rfl:t=set:=by simpa using ht
      exact h⟩] at this
    exact this
  have ho:count_outside.f v 60=some false:=by
    unfold count_outside.f
    have:¬ (v.any fun x=>decide (x < 0) || decide (60 < x))=true:=by rw [outside_iff];exact fun h2=>h2 hv.2
    rw [Bool.not_eq_true] at this
    rw [this]
  unfold count_Has.f
  refine Ev.bind hc (Ev.neg (by decide) (Ev.neg (by decide) (Ev.bindc ho ?_)))
  refine Ev.succ ?_
  simp only [count_Has.j0]
  refine Ev.neg (by simp) (Ev.pos trivial (Ev.pos (by rw [hv.1]) (Ev.bind hb (Ev.now _))))
end Go.Proofs.Ytkonljiembcdlaa.Pure
/- The document's examples. -/
set_option linter.unusedVariables false
namespace Go.Proofs.Ytkonljiembcdlaa.Pure
open Go.RowKit Go.Proofs.YtkonljiembcdlaaW.PrintWords Go.Proofs.Ytkonljiembcdlaa.PC
theorem lives_ev:Ev (fun k=>bellpulllaw05_lives.f k) true :=
  Ev.of (fun k=>bellpulllaw05_lives.mono k) (k:=60) (by kernel_rfl)
end Go.Proofs.Ytkonljiembcdlaa.Pure
/- CountHas: for every input the law returns true. -/
set_option linter.unusedVariables false
set_option linter.unusedSimpArgs false
namespace Go.Proofs.Ytkonljiembcdlaa.Pure
open Go.RowKit Go.Proofs.MyWords Go.Proofs.YtkonljiembcdlaaW.PrintWords Go.Proofs.YtkonljiembcdlaaW.PrintLast Go.Proofs.YtkonljiembcdlaaW.PrintMore Go.Proofs.Ytkonljiembcdlaa.PC Go.Proofs.Ytkonljiembcdlaa.Sem
theorem in60 (x:Int):bellpullref01_In.f x 0 60=some (!(decide (x < 0) || decide (60 < x))):=by
  unfold bellpullref01_In.f
  by_cases h:x ≥ 0
  · rw [if_pos h,decide_eq_false (show ¬ x < 0 by omega),Bool.false_or]
    congr 1
    by_cases h2:x ≤ 60
    · rw [decide_eq_true h2,decide_eq_false (by omega)];rfl
    · rw [decide_eq_false h2,decide_eq_true (by omega)];rfl
  · rw [if_neg h,decide_eq_true (show x < 0 by omega)];rfl
def out60 (v:List Int):Bool:=v.any fun x=>decide (x < 0) || decide (60 < x)
theorem CountHas:∀ (a0_0 a0_1:Int) (l0_2 l0_3:List PC.S60) (l0_4:List Int),(Lit.int .i64 a0_0).wf=true → (Lit.int .i64 a0_1).wf=true → ∃ k,bellpulllaw05_CountHas.f k a0_0 a0_1 l0_2 l0_3 l0_4=some true:=by
  intro d n X Y V _ _
  refine Ev.rounds (g:=fun k=>bellpulllaw05_CountHas.f k d n X Y V) ?_
  obtain ⟨x,hx⟩:∃ x,x=fewL X:=⟨_,rfl⟩
  obtain ⟨v,hv⟩:∃ v:List Int,v=V.take 4:=⟨_,rfl⟩
  have hvl:v.length ≤ 4:=by rw [hv];simp;omega
  have sx:shortS x:=by rw [hx];exact few_short X
  have hchk:Ev (fun k=>bellpullref05_Check.f k d [x]) (chk d [x]):=refCheck_ev d [x] (by unfold short;simp) (fun t ht=>by
    obtain rfl:t=x:=by simpa using ht
    exact sx)
  have hcc:=check1 d sx
  unfold bellpulllaw05_CountHas.f
  refine Ev.bind (few_ev X) (Ev.bindc (cut_f V) ?_)
  rw [← hx,← hv]
  refine Ev.bind hchk ?_
  obtain ⟨c,hc⟩:∃ c,c=chk d [x]:=⟨_,rfl⟩
  have c4:=chk_range d [x]
  rw [← hc] at hcc c4 ⊢
  -- behind the checks: e is the error that is awaited
  have fin:∀ e:Int,(e ≠ 0 → Ev (fun k=>count_Has.f k d x v) (false,e)) → (e=0 → c=0∧out60 v=false∧(v.length:Int)=d) → Ev (fun k=>bellpulllaw05_CountHas.j4 k x v e d n X Y V) true:=fun e he h0=>by
    refine Ev.succ ?_
    simp only [bellpulllaw05_CountHas.j4]
    by_cases e0:e=0
    · obtain ⟨q1,q2,q3⟩:=h0 e0
      have ok:=chk_ok.1 (hc.symm.trans q1)
      have okx:=ok.2 x (by simp)
      obtain ⟨dn,rfl⟩:∃ dn:Nat,d=(dn:Int):=⟨d.toNat,by omega⟩
      rw [Int.toNat_natCast] at okx
      have hv60:okV dn 60 v:=⟨by omega,by
        have:=outside_iff v 60
        apply Classical.byContradiction
        intro h
        have h2:=this.2 h
        unfold out60 at q2
        rw [h2] at q2
        cases q2⟩
      obtain ⟨hb,hev⟩:=heavy_ev (by omega) okx
      obtain ⟨b,e1,i1⟩:=Has_ok (by omega) (by omega) okx hv60
      obtain ⟨b2,e2,i2⟩:=refHas_ev (d:=dn) (by omega) hv60 (set:=x) (fun l hl=>⟨okx.okL l hl,by have:=(okx.2 l hl).2.1;omega⟩) (by have:=okx.1;omega)
      have hbb:b2=b:=by rw [Bool.eq_iff_iff,i1,i2]
      subst hbb
      refine Ev.pos e0 (Ev.bind hev (Ev.succ ?_))
      simp only [bellpulllaw05_CountHas.j5]
      cases hb
      · refine Ev.neg (by simp) (Ev.bind e1 (Ev.pos e0 (Ev.bind e2 ?_)))
        cases b2
        · exact Ev.neg (by simp) (Ev.neg (by simp) (Ev.pos rfl (Ev.bind lives_ev (Ev.now _))))
        · exact Ev.pos rfl (Ev.pos rfl (Ev.pos rfl (Ev.bind lives_ev (Ev.now _))))
      · exact Ev.pos rfl (Ev.bind lives_ev (Ev.now _))
    · refine Ev.neg e0 (Ev.succ ?_)
      simp only [bellpulllaw05_CountHas.j5]
      exact Ev.neg (by simp) (Ev.bind (he e0) (Ev.neg e0 (Ev.neg (by simp) (Ev.pos rfl (Ev.bind lives_ev (Ev.now _))))))
  -- Has, on the ways that end in an error
  have hout:∀ b,out60 v=b → count_outside.f v 60=some b:=fun b h=>by unfold count_outside.f;rw [← h];rfl
  have has3:c=3 → Ev (fun k=>count_Has.f k d x v) (false,3):=fun h=>by
    unfold count_Has.f
    refine Ev.bind hcc (Ev.pos h ?_)
    rw [h];exact Ev.now _
  have has1:c ≠ 3 → (c=1 ∨ out60 v=true) → Ev (fun k=>count_Has.f k d x v) (false,1):=fun h3 h=>by
    have j:Ev (fun k=>count_Has.j0 k d x v c true) (false,1):=by
      refine Ev.succ ?_
      simp only [count_Has.j0]
      exact Ev.pos trivial (Ev.now _)
    unfold count_Has.f
    refine Ev.bind hcc (Ev.neg h3 ?_)
    by_cases h1:c=1
    · exact Ev.pos h1 j
    · exact Ev.neg h1 (Ev.bindc (hout true (h.resolve_left h1)) j)
  have has2:c ≠ 3 → c ≠ 1 → out60 v=false → (c=2 ∨ (v.length:Int) ≠ d) → Ev (fun k=>count_Has.f k d x v) (false,2):=fun h3 h1 ho h=>by
    unfold count_Has.f
    refine Ev.bind hcc (Ev.neg h3 (Ev.neg h1 (Ev.bindc (hout false ho) (Ev.succ ?_))))
    simp only [count_Has.j0]
    refine Ev.neg (by simp) ?_
    by_cases h0:c=0
    · exact Ev.pos h0 (Ev.neg (h.resolve_left (by omega)) (Ev.now _))
    · exact Ev.neg h0 (Ev.now _)
  -- behind the loop
  have j2:∀ e:Int,(e=3 → c=3) → (e=1 → c ≠ 3∧(c=1 ∨ out60 v=true)) → (e=2 → c=2∧out60 v=false) → (e=0 → c=0∧out60 v=false) → (e=0 ∨ e=1 ∨ e=2 ∨ e=3) → Ev (fun k=>bellpulllaw05_CountHas.j2 k x v e d n X Y V) true:=fun e q3 q1 q2 q0 q=>by
    refine Ev.succ ?_
    simp only [bellpulllaw05_CountHas.j2]
    by_cases e0:e=0
    · obtain ⟨r1,r2⟩:=q0 e0
      refine Ev.pos e0 (Ev.succ ?_)
      simp only [bellpulllaw05_CountHas.j3]
      by_cases hl:(v.length:Int)=d
      · have:((v.length:Int) != d)=false:=by simp [hl]
        rw [this]
        exact Ev.neg (by simp) (fin e (fun h=>absurd e0 h) (fun _=>⟨r1,r2,hl⟩))
      · have:((v.length:Int) != d)=true:=by simp [hl]
        rw [this]
        exact Ev.pos rfl (fin 2 (fun _=>has2 (by omega) (by omega) r2 (.inr hl)) (fun h=>by omega))
    · refine Ev.neg e0 (Ev.succ ?_)
      simp only [bellpulllaw05_CountHas.j3]
      refine Ev.neg (by simp) (fin e (fun _=>?_) (fun h=>absurd h e0))
      rcases q with h|h|h|h
      · exact absurd h e0
      · rw [h];exact has1 (q1 h).1 (q1 h).2
      · rw [h];exact has2 (by have:=(q2 h).1;omega) (by have:=(q2 h).1;omega) (q2 h).2 (.inl (q2 h).1)
      · rw [h];exact has3 (q3 h)
  have loop:c ≠ 3 → c ≠ 1 → ∀ (t pre:List Int) (e:Int),v=pre ++ t → (e=c∧out60 pre=false ∨ e=1∧out60 pre=true) → Ev (fun k=>bellpulllaw05_CountHas.l0 k x v e (pre.length:Int) d n X Y V) true:=fun c3 c1 t=>by
    induction t with
    | nil =>
      intro pre e hp he
      have hpv:v=pre:=by rw [hp];simp
      refine Ev.succ ?_
      simp only [bellpulllaw05_CountHas.l0]
      refine Ev.neg (by rw [hpv];omega) ?_
      rw [← hpv] at he
      refine j2 e ?_ ?_ ?_ ?_ ?_
      · intro h;omega
      · intro h
        rcases he with ⟨h1,h2⟩|⟨h1,h2⟩
        · omega
        · exact ⟨c3,.inr h2⟩
      · intro h
        rcases he with ⟨h1,h2⟩|⟨h1,h2⟩
        · exact ⟨by omega,h2⟩
        · omega
      · intro h
        rcases he with ⟨h1,h2⟩|⟨h1,h2⟩
        · exact ⟨by omega,h2⟩
        · omega
      · omega
    | cons z t ih =>
      intro pre e hp he
      have hl:v.length=pre.length + (t.length + 1):=by rw [hp];simp
      have hrd:rd v (pre.length:Int)=z:=by rw [hp];exact rd_app _ _ _
      have o2:out60 (pre ++ [z])=(out60 pre || (decide (z < 0) || decide (60 < z))):=by unfold out60;simp
      have ih:=fun e=>ih (pre ++ [z]) e (by rw [hp];simp)
      rw [← len_snoc,o2] at ih
      refine Ev.succ ?_
      simp only [bellpulllaw05_CountHas.l0,hrd,wsucc (show pre.length < 4611686018427387904 by omega)]
      refine Ev.pos (by omega) (Ev.pos (by omega) (Ev.bindc (in60 z) ?_))
      cases hz:(decide (z < 0) || decide (60 < z))
      · rw [hz] at ih
        refine Ev.pos rfl (ih e ?_)
        rw [Bool.or_false];exact he
      · rw [hz] at ih
        exact Ev.neg (by simp) (ih 1 (.inr ⟨rfl,by rw [Bool.or_true]⟩))
  have j0f:(c=3 ∨ c=1) → Ev (fun k=>bellpulllaw05_CountHas.j0 k x v c false d n X Y V) true:=fun h=>by
    refine Ev.succ ?_
    simp only [bellpulllaw05_CountHas.j0]
    refine Ev.neg (by simp) (j2 c (fun h=>h) (fun h=>⟨by omega,.inl h⟩) (fun h=>by omega) (fun h=>by omega) c4)
  by_cases c3:c=3
  · exact Ev.pos c3 (j0f (.inl c3))
  · refine Ev.neg c3 ?_
    by_cases c1:c=1
    · have:(c != 1)=false:=by simp [c1]
      rw [this]
      exact j0f (.inr c1)
    · have:(c != 1)=true:=by simp [c1]
      rw [this]
      refine Ev.succ ?_
      simp only [bellpulllaw05_CountHas.j0]
      exact Ev.pos trivial (loop c3 c1 v [] c rfl (.inl ⟨rfl,rfl⟩))
end Go.Proofs.Ytkonljiembcdlaa.Pure
/- An array of three bytes, and a slice of bytes, as arguments: opened, and shut. -/
set_option linter.unusedVariables false
set_option linter.constructorNameAsVariable false
namespace Go.Proofs.Ytkonljiembcdlaa.RowT
open Go.ChangeShapes Go.WideShapes Go.ChangeAt Go.RowKit Go.Joins
section
variable {H:Type} {enc:TypeId × Value → H} {w:World} {base:Nat} {spare:Nat → Bool} {held:Bool}
end
end Go.Proofs.Ytkonljiembcdlaa.RowT
/- A query, and a plan, as arguments: opened. -/
set_option linter.unusedVariables false
set_option linter.constructorNameAsVariable false
namespace Go.Proofs.Ytkonljiembcdlaa.RowT
open Go.ChangeShapes Go.WideShapes Go.ChangeAt Go.RowKit Go.Joins Go.Proofs.YtkonljiembcdlaaW.PrintWords Go.Proofs.Ytkonljiembcdlaa.PC
theorem list_of {α:Type} {p:Nat → α → Prop}:∀ n:Nat,(∀ i,i < n → ∃ y,p i y) → ∃ xs:List α,xs.length=n∧∀ i y,xs[i]?=some y → p i y
  | 0,_=>⟨[],rfl,fun i y h=>by simp at h⟩
  | n + 1,h=>by
    obtain ⟨xs,h1,h2⟩:=list_of n (fun i hi=>h i (by omega))
    obtain ⟨y,hy⟩:=h n (by omega)
    refine ⟨xs ++ [y],by simp [h1],fun i z hz=>?_⟩
    by_cases hi:i < n
    · rw [List.getElem?_append_left (by omega)] at hz
      exact h2 i z hz
    · have:i < (xs ++ [y]).length:=by
        apply Classical.byContradiction
        intro hn
        rw [List.getElem?_eq_none (by omega)] at hz
        cases hz
      obtain rfl:i=n:=by simp [h1] at this;omega
      rw [List.getElem?_append_right (by omega),h1,Nat.sub_self] at hz
      obtain rfl:=Option.some.inj hz
      exact hy
section
variable {H:Type} {enc:TypeId × Value → H} {w:World} {base:Nat} {held:Bool}
theorem addr_add (a:Addr) (m k:Nat):(a.add m).add k=a.add (m + k):=by
  by_cases h1:k=0
  · subst h1;simp [Addr.add]
  · by_cases h2:m=0
    · subst h2;simp [Addr.add,h1]
    · simp [Addr.add,h1,h2,Nat.add_assoc]
theorem C_of_trod {α:Type} (d:Kd α) {t e:TypeId} (ht:Try.prog.underlying t=some (.slice e)) (hc:Try.prog.cellsOf e=d.sz)
    (hx:∀ fuel cs x,DataW.trod enc Try.prog w base (fun _=>true) held fuel e cs=some x → ∃ y,d.K w y cs) {fuel:Nat} {cs:List Value} {x:DataW H × List MemPlace} (h:DataW.trod enc Try.prog w base (fun _=>true) held fuel t cs=some x) :
    ∃ (A:Option Addr) (c:Nat) (xs:List α),cs=[.slice A xs.length c]∧xs.length ≤ c∧d.C w A xs.length xs:=by
  rcases Go.Deep.open_slice ht h with ⟨rfl,_⟩|⟨a,len,cap,m,n,D,Pl,rfl,_,hl,hm,hmm,_,hel⟩
  · exact ⟨none,0,[],rfl,Nat.le_refl _,rfl,Nat.zero_le _,fun h=>by simp at h⟩
  · have hlm:len ≤ m:=by rw [hmm];simp;exact hl
    have hcap:cap ≤ 9223372036854775807:=hm
    obtain ⟨xs,h1,h2⟩:=list_of (p:=fun i y=>∃ c:List Value,c.length=d.sz∧d.K w y c∧∀ k u,c[k]?=some u → w.cell? (a.add (i * d.sz + k))=some u) len (fun i hi=>by
      obtain ⟨cs',hcs,hr⟩:=hel i (by omega)
      obtain ⟨_,hlen,hcell⟩:=World.cells?_some hcs
      obtain ⟨y,hy⟩:=hx n cs' _ hr
      refine ⟨y,cs',hlen.trans hc,hy,fun k u hu=>?_⟩
      have hk:k < cs'.length:=by
        apply Classical.byContradiction
        intro hn
        rw [List.getElem?_eq_none (by omega)] at hu
        cases hu
      have:=hcell k (by omega)
      rw [hu,hc] at this
      have e:(a.add (i * d.sz)).add k=a.add (i * d.sz + k):=addr_add a _ k
      rw [e] at this
      exact this)
    refine ⟨some a,cap,xs,by rw [h1],by omega,rfl,by omega,fun _=>⟨a,rfl,h2⟩⟩
theorem int_of_trod:∀ (fuel:Nat) (cs:List Value) (x:DataW H × List MemPlace),DataW.trod enc Try.prog w base (fun _=>true) held fuel 3 cs=some x → ∃ y,(Kd.int .i64).K w y cs:=fun fuel cs x h=>by
  obtain ⟨n,rfl,_,_⟩:=DataW.trod_int Try.underlying3 h
  exact ⟨n,rfl⟩
theorem ints_of_trod {fuel:Nat} {cs:List Value} {x:DataW H × List MemPlace} (h:DataW.trod enc Try.prog w base (fun _=>true) held fuel 23 cs=some x):∃ (A:Option Addr) (c:Nat) (xs:List Int),cs=[.slice A xs.length c]∧xs.length ≤ c∧(Kd.int .i64).C w A xs.length xs :=
  C_of_trod (Kd.int .i64) Try.underlying23 (by kernel_rfl) int_of_trod h
set_option maxRecDepth 100000 in
theorem lin_of_trod (fuel:Nat) (cs:List Value) (x:DataW H × List MemPlace) (h:DataW.trod enc Try.prog w base (fun _=>true) held fuel 60 cs=some x):∃ y,k60.K w y cs:=by
  have c60:Try.prog.cellsOf 60=2:=by kernel_rfl
  have c23:Try.prog.cellsOf 23=1:=by kernel_rfl
  have c58:Try.prog.cellsOf 58=1:=by kernel_rfl
  obtain ⟨y0,y1,n,_,hl,h0,h1⟩:=trod_struct2 Try.underlying60 h
  rw [c60] at hl
  match cs,hl with
  | [v0,v1],_ =>
    have e0:(([v0,v1]:List Value).drop 0).take (Try.prog.cellsOf 23)=[v0]:=by rw [c23];rfl
    have e1:(([v0,v1]:List Value).drop 1).take (Try.prog.cellsOf 58)=[v1]:=by rw [c58];rfl
    dsimp only at h0 h1
    rw [e0] at h0
    rw [e1] at h1
    obtain ⟨A0,c0,xs,hv0,hl0,g0⟩:=ints_of_trod h0
    obtain ⟨A1,c1,ys,hv1,hl1,g1⟩:=C_of_trod (Kd.slice 3 (Kd.int .i64)) Try.underlying58 c23 (fun fuel cs x h=>by
      obtain ⟨A,c,zs,rfl,hl,g⟩:=ints_of_trod h
      exact ⟨zs,A,c,rfl,hl,g⟩) h1
    obtain rfl:v0=.slice A0 xs.length c0:=by simpa using hv0
    obtain rfl:v1=.slice A1 ys.length c1:=by simpa using hv1
    exact ⟨⟨xs,ys⟩,k60_mk w ⟨xs,ys⟩ hl0 g0 hl1 g1⟩
set_option maxRecDepth 100000 in
theorem lins_of_trod {fuel:Nat} {cs:List Value} {x:DataW H × List MemPlace} (h:DataW.trod enc Try.prog w base (fun _=>true) held fuel 22 cs=some x):∃ (A:Option Addr) (c:Nat) (xs:List S60),cs=[.slice A xs.length c]∧xs.length ≤ c∧k60.C w A xs.length xs :=
  C_of_trod k60 Try.underlying22 (by kernel_rfl) lin_of_trod h
set_option maxRecDepth 100000 in
theorem open_query {r:Reach} {b0:Nat} {v:Value} {d:DataW H} {p:List MemPlace} (hv:Value.okWide Try.prog w r b0 25 v) (h:DataW.Trod enc Try.prog w base (fun _=>true) held 25 v d p) :
    ∃ (D N:Int) (A2:Option Addr) (c2:Nat) (X:List S60) (A3:Option Addr) (c3:Nat) (Y:List S60) (A4:Option Addr) (c4:Nat) (V:List Int),v=.agg #[.int .i64 D,.int .i64 N,.slice A2 X.length c2,.slice A3 Y.length c3,.slice A4 V.length c4] ∧
      (Lit.int .i64 D).wf=true∧(Lit.int .i64 N).wf=true∧k60.C w A2 X.length X∧X.length ≤ c2∧k60.C w A3 Y.length Y∧Y.length ≤ c3∧(Kd.int .i64).C w A4 V.length V∧V.length ≤ c4:=by
  obtain ⟨cs,rfl,hsz⟩:=okWide_struct Try.underlying25 hv
  have c25:Try.prog.cellsOf 25=5:=by kernel_rfl
  have c3':Try.prog.cellsOf 3=1:=by kernel_rfl
  have c22:Try.prog.cellsOf 22=1:=by kernel_rfl
  have c23:Try.prog.cellsOf 23=1:=by kernel_rfl
  rw [c25] at hsz
  obtain ⟨l,rfl⟩:∃ l:List Value,cs=l.toArray:=⟨cs.toList,by simp⟩
  have hl:l.length=5:=by simpa using hsz
  obtain ⟨fuel,hf⟩:=h
  match l,hl with
  | [v0,v1,v2,v3,v4],_ =>
    cases fuel with
    | zero=>simp [DataW.trod] at hf
    | succ m =>
      rw [DataW.trod_step] at hf
      unfold DataW.trodStep at hf
      simp only [Try.underlying25,Value.cells] at hf
      rw [if_pos (by rw [c25];rfl)] at hf
      simp only [Option.map_eq_some_iff] at hf
      obtain ⟨ys,hy,_⟩:=hf
      simp only [c3',c22,c23,List.mapM_cons,List.mapM_nil,bind,pure,Option.bind_eq_some_iff,Option.some.injEq] at hy
      obtain ⟨y0,h0,_,⟨y1,h1,_,⟨y2,h2,_,⟨y3,h3,_,⟨y4,h4,_,rfl,rfl⟩,rfl⟩,rfl⟩,rfl⟩,rfl⟩:=hy
      obtain ⟨D,eD,_,wD⟩:=DataW.trod_int Try.underlying3 h0
      obtain ⟨N,eN,_,wN⟩:=DataW.trod_int Try.underlying3 h1
      obtain ⟨A2,c2,X,eX,l2,g2⟩:=lins_of_trod h2
      obtain ⟨A3,c3,Y,eY,l3,g3⟩:=lins_of_trod h3
      obtain ⟨A4,c4,V,eV,l4,g4⟩:=ints_of_trod h4
      simp at eD eN eX eY eV
      subst eD eN eX eY eV
      exact ⟨D,N,A2,c2,X,A3,c3,Y,A4,c4,V,rfl,wD,wN,g2,l2,g3,l3,g4,l4⟩
end
end Go.Proofs.Ytkonljiembcdlaa.RowT
