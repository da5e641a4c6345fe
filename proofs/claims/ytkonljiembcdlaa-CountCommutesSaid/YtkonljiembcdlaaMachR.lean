/- Well-formed expressions run to one value, in plain Lean. -/
import Derived.Test.YtkonljiembcdlaaMach
namespace Go.Proofs.Mach
variable {M:Type} (letter:Int → Option M) (join either:M → M → Option M) (star:M → Option M)
def hts:List UInt8 → Nat → Option Nat
  | [],n=>some n
  | c :: r,n =>
    if c=97 ∨ c=98 ∨ c=99 ∨ c=101 then hts r (n + 1)
    else if c=46 ∨ c=43 then (if 2 ≤ n then hts r (n - 1) else none)
    else if c=42 then (if 1 ≤ n then hts r n else none)
    else none
theorem hts_app:∀ (p r:List UInt8) (n m:Nat),hts p n=some m → hts (p ++ r) n=hts r m
  | [],r,n,m,h=>by
    rw [hts] at h
    rw [List.nil_append,Option.some.inj h]
  | c :: p,r,n,m,h=>by
    rw [hts] at h
    rw [List.cons_append,hts]
    split
    · rename_i h1
      rw [if_pos h1] at h
      exact hts_app p r _ m h
    · rename_i h1
      rw [if_neg h1] at h
      split
      · rename_i h2
        rw [if_pos h2] at h
        split
        · rename_i h3
          rw [if_pos h3] at h
          exact hts_app p r _ m h
        · rename_i h3
          rw [if_neg h3] at h
          cases h
      · rename_i h2
        rw [if_neg h2] at h
        split
        · rename_i h3
          rw [if_pos h3] at h
          split
          · rename_i h4
            rw [if_pos h4] at h
            exact hts_app p r _ m h
          · rename_i h4
            rw [if_neg h4] at h
            cases h
        · rename_i h3
          rw [if_neg h3] at h
          cases h
structure Total (G:M → Prop):Prop where
  l:∀ i,(i=0 ∨ i=1 ∨ i=2 ∨ i=-1) → ∃ x,letter i=some x∧G x
  j:∀ a b,G a → G b → ∃ x,join a b=some x∧G x
  e:∀ a b,G a → G b → ∃ x,either a b=some x∧G x
  s:∀ a,G a → ∃ x,star a=some x∧G x
theorem run_pre {G:M → Prop} (T:Total letter join either star G):∀ (p:List UInt8) (n m:Nat) (xs:List M),hts p n=some m → xs.length=n → (∀ x,x ∈ xs → G x) →
    ∃ ys:List M,ys.length=m∧(∀ y,y ∈ ys → G y)∧∀ (st:List M) (r:List UInt8),run letter join either star (p ++ r) (st ++ xs)=run letter join either star r (st ++ ys)
  | [],n,m,xs,h,hl,hG=>by
    rw [hts] at h
    exact ⟨xs,hl.trans (Option.some.inj h),hG,fun st r=>rfl⟩
  | c :: p,n,m,xs,h,hl,hG=>by
    rw [hts] at h
    have good2:∀ (s:List M) (x:M),(∀ y,y ∈ s → G y) → G x → ∀ y,y ∈ s ++ [x] → G y:=fun s x hs hx y hy=>by
      rcases List.mem_append.1 hy with h|h
      · exact hs y h
      · obtain rfl:y=x:=by simpa using h
        exact hx
    by_cases h1:c=97 ∨ c=98 ∨ c=99 ∨ c=101
    · rw [if_pos h1] at h
      obtain ⟨i,hi,hci⟩:∃ i:Int,(i=0 ∨ i=1 ∨ i=2 ∨ i=-1)∧(c=97∧i=0 ∨ c=98∧i=1 ∨ c=99∧i=2 ∨ c=101∧i=-1):=by
        rcases h1 with rfl|rfl|rfl|rfl
        · exact ⟨0,by simp,by simp⟩
        · exact ⟨1,by simp,by simp⟩
        · exact ⟨2,by simp,by simp⟩
        · exact ⟨-1,by simp,by simp⟩
      obtain ⟨x,hx,gx⟩:=T.l i hi
      obtain ⟨ys,e1,e2,e3⟩:=run_pre T p (n + 1) m (xs ++ [x]) h (by simp [hl]) (good2 xs x hG gx)
      refine ⟨ys,e1,e2,fun st r=>?_⟩
      rw [List.cons_append,run,step_letter _ _ _ _ hci,hx]
      have:=e3 st r
      rw [← List.append_assoc] at this
      exact this
    · rw [if_neg h1] at h
      by_cases h2:c=46 ∨ c=43
      · rw [if_pos h2] at h
        by_cases h3:2 ≤ n
        · rw [if_pos h3] at h
          obtain ⟨s,a,b,rfl⟩:=last_two (st:=xs) (by omega)
          have hs:∀ y,y ∈ s → G y:=fun y hy=>hG y (by simp [hy])
          have ga:G a:=hG a (by simp)
          have gb:G b:=hG b (by simp)
          rcases h2 with rfl|rfl
          · obtain ⟨x,hx,gx⟩:=T.j a b ga gb
            obtain ⟨ys,e1,e2,e3⟩:=run_pre T p (n - 1) m (s ++ [x]) h (by simp at hl ⊢;omega) (good2 s x hs gx)
            refine ⟨ys,e1,e2,fun st r=>?_⟩
            rw [List.cons_append,run,← List.append_assoc,step_dot,hx]
            have:=e3 st r
            rw [← List.append_assoc] at this
            exact this
          · obtain ⟨x,hx,gx⟩:=T.e a b ga gb
            obtain ⟨ys,e1,e2,e3⟩:=run_pre T p (n - 1) m (s ++ [x]) h (by simp at hl ⊢;omega) (good2 s x hs gx)
            refine ⟨ys,e1,e2,fun st r=>?_⟩
            rw [List.cons_append,run,← List.append_assoc,step_plus,hx]
            have:=e3 st r
            rw [← List.append_assoc] at this
            exact this
        · rw [if_neg h3] at h
          cases h
      · rw [if_neg h2] at h
        by_cases h3:c=42
        · rw [if_pos h3] at h
          subst h3
          by_cases h4:1 ≤ n
          · rw [if_pos h4] at h
            obtain ⟨s,a,rfl⟩:=last_one (st:=xs) (by omega)
            have hs:∀ y,y ∈ s → G y:=fun y hy=>hG y (by simp [hy])
            have ga:G a:=hG a (by simp)
            obtain ⟨x,hx,gx⟩:=T.s a ga
            obtain ⟨ys,e1,e2,e3⟩:=run_pre T p n m (s ++ [x]) h (by simpa using hl) (good2 s x hs gx)
            refine ⟨ys,e1,e2,fun st r=>?_⟩
            rw [List.cons_append,run,← List.append_assoc,step_star,hx]
            have:=e3 st r
            rw [← List.append_assoc] at this
            exact this
          · rw [if_neg h4] at h
            cases h
        · rw [if_neg h3] at h
          cases h
theorem run_one {G:M → Prop} (T:Total letter join either star G) {p:List UInt8} (h:hts p 0=some 1):∃ X,G X∧∀ (st:List M) (r:List UInt8),run letter join either star (p ++ r) st=run letter join either star r (st ++ [X]):=by
  obtain ⟨ys,e1,e2,e3⟩:=run_pre letter join either star T p 0 1 [] h rfl (fun x hx=>by simp at hx)
  obtain ⟨X,rfl⟩:=List.length_eq_one_iff.1 e1
  refine ⟨X,e2 X (by simp),fun st r=>?_⟩
  have:=e3 st r
  rwa [List.append_nil] at this
theorem run_two {G:M → Prop} (T:Total letter join either star G) {p q:List UInt8} (hp:hts p 0=some 1) (hq:hts q 0=some 1) :
    ∃ X Y,G X∧G Y∧run letter join either star p []=some (some X)∧run letter join either star q []=some (some Y) ∧
      run letter join either star (p ++ q ++ [46]) []=(join X Y).map some∧run letter join either star (q ++ p ++ [46]) []=(join Y X).map some ∧
      run letter join either star (p ++ q ++ [43]) []=(either X Y).map some∧run letter join either star (q ++ p ++ [43]) []=(either Y X).map some:=by
  obtain ⟨X,gX,eX⟩:=run_one letter join either star T hp
  obtain ⟨Y,gY,eY⟩:=run_one letter join either star T hq
  have bin:∀ (a b:M),run letter join either star [46] ([] ++ [a] ++ [b])=(join a b).map some∧run letter join either star [43] ([] ++ [a] ++ [b])=(either a b).map some:=fun a b=>by
    have e:([] ++ [a] ++ [b]:List M)=[] ++ [a,b]:=rfl
    rw [e,run,run,step_dot,step_plus]
    constructor
    · cases join a b <;> rfl
    · cases either a b <;> rfl
  refine ⟨X,Y,gX,gY,?_,?_,?_,?_,?_,?_⟩
  · have:=eX [] []
    rw [List.append_nil] at this
    rw [this];rfl
  · have:=eY [] []
    rw [List.append_nil] at this
    rw [this];rfl
  · rw [List.append_assoc,eX,eY];exact (bin X Y).1
  · rw [List.append_assoc,eY,eX];exact (bin Y X).1
  · rw [List.append_assoc,eX,eY];exact (bin X Y).2
  · rw [List.append_assoc,eY,eX];exact (bin Y X).2
end Go.Proofs.Mach
