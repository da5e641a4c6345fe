/- Words of 1 and 2 that can be differentiated again and again: parts, reversal, exchange, extension (plain mathematics). -/
import Derived.Test.YtploaicljkennaaDerivS
set_option linter.unusedVariables false
set_option linter.unusedSimpArgs false
namespace Go.Proofs.Ytploaicljkennaa.Pure
open Go.RowKit

/-! ### Runs -/
theorem rgo_rep (v : Int) (p : Nat) : ∀ n, rgo v n (List.replicate p v) = [n + p] := by
  induction p with
  | zero => intro n; simp [rgo]
  | succ p ih =>
    intro n
    rw [List.replicate_succ]
    unfold rgo
    rw [if_pos rfl, ih]
    simp; omega
theorem rgo_app_rep (v : Int) (p : Nat) (hp : 1 ≤ p) (t : List Int) : ∀ u n, (u :: t).getLast? ≠ some v → rgo u n (t ++ List.replicate p v) = rgo u n t ++ [(p : Int)] := by
  induction t with
  | nil =>
    intro u n h
    obtain ⟨q, rfl⟩ : ∃ q, p = q + 1 := ⟨p - 1, by omega⟩
    have huv : v ≠ u := by intro e; apply h; simp [e]
    rw [List.nil_append, List.replicate_succ]
    unfold rgo
    rw [if_neg huv, rgo_rep]
    simp; omega
  | cons x t ih =>
    intro u n h
    have h' : (x :: t).getLast? ≠ some v := by rw [List.getLast?_cons_cons] at h; exact h
    rw [List.cons_append]
    unfold rgo
    by_cases e : x = u
    · rw [if_pos e, if_pos e]; subst e; exact ih x (n + 1) h'
    · rw [if_neg e, if_neg e, ih x 1 h']; rfl
theorem runs_snoc {l : List Int} {v : Int} {p : Nat} (hp : 1 ≤ p) (h : l.getLast? ≠ some v) : runsS (l ++ List.replicate p v) = runsS l ++ [(p : Int)] := by
  cases l with
  | nil =>
    obtain ⟨q, rfl⟩ : ∃ q, p = q + 1 := ⟨p - 1, by omega⟩
    rw [List.nil_append, List.replicate_succ]
    show rgo v 1 _ = _
    rw [rgo_rep]
    simp [runsS]; omega
  | cons u t => exact rgo_app_rep v p hp t u 1 h
theorem rgo_rep_app (v : Int) (p : Nat) (t : List Int) (ht : t.head? ≠ some v) : ∀ n, rgo v n (List.replicate p v ++ t) = (n + p) :: runsS t := by
  induction p with
  | zero =>
    intro n
    cases t with
    | nil => simp [rgo, runsS]
    | cons x t =>
      have : x ≠ v := by intro e; apply ht; simp [e]
      rw [List.replicate_zero, List.nil_append]
      unfold rgo
      rw [if_neg this]
      simp [runsS]
  | succ p ih =>
    intro n
    rw [List.replicate_succ, List.cons_append]
    unfold rgo
    rw [if_pos rfl, ih]
    congr 1
    omega
theorem runs_cons {t : List Int} {v : Int} {p : Nat} (hp : 1 ≤ p) (h : t.head? ≠ some v) : runsS (List.replicate p v ++ t) = (p : Int) :: runsS t := by
  obtain ⟨q, rfl⟩ : ∃ q, p = q + 1 := ⟨p - 1, by omega⟩
  rw [List.replicate_succ, List.cons_append]
  show rgo v 1 _ = _
  rw [rgo_rep_app v q t h]
  congr 1; omega
/-- A word begins with a run. -/
theorem uncons (l : List Int) : l ≠ [] → ∃ (p : Nat) (v : Int) (t : List Int), 1 ≤ p ∧ l = List.replicate p v ++ t ∧ t.head? ≠ some v := by
  induction l with
  | nil => intro h; exact absurd rfl h
  | cons x t ih =>
    intro _
    by_cases ht : t = []
    · exact ⟨1, x, [], Nat.le_refl _, by simp [ht], by simp⟩
    · obtain ⟨p, v, s, hp, rfl, hs⟩ := ih ht
      by_cases e : x = v
      · subst e; exact ⟨p + 1, x, s, by omega, by rw [List.replicate_succ]; rfl, hs⟩
      · refine ⟨1, x, List.replicate p v ++ s, Nat.le_refl _, rfl, ?_⟩
        obtain ⟨q, rfl⟩ : ∃ q, p = q + 1 := ⟨p - 1, by omega⟩
        rw [List.replicate_succ]
        simp; exact fun h => e h.symm
theorem unsnoc (l : List Int) (h : l ≠ []) : ∃ (p : Nat) (v : Int) (t : List Int), 1 ≤ p ∧ l = t ++ List.replicate p v ∧ t.getLast? ≠ some v := by
  obtain ⟨p, v, t, hp, he, ht⟩ := uncons l.reverse (by simpa using h)
  refine ⟨p, v, t.reverse, hp, ?_, ?_⟩
  · have := congrArg List.reverse he
    rw [List.reverse_reverse, List.reverse_append, List.reverse_replicate] at this
    exact this
  · rw [List.getLast?_reverse]; exact ht
theorem runs_reverse : ∀ (n : Nat) (l : List Int), l.length ≤ n → runsS l.reverse = (runsS l).reverse := by
  intro n
  induction n with
  | zero => intro l h; obtain rfl : l = [] := List.eq_nil_of_length_eq_zero (by omega); rfl
  | succ n ih =>
    intro l h
    by_cases hl : l = []
    · subst hl; rfl
    · obtain ⟨p, v, t, hp, rfl, ht⟩ := uncons l hl
      rw [List.reverse_append, List.reverse_replicate, runs_snoc hp (by rw [List.getLast?_reverse]; exact ht), runs_cons hp ht, ih t (by simp at h; omega)]
      simp
theorem rgo_map (f : Int → Int) (hf : ∀ x y, f x = f y → x = y) (t : List Int) : ∀ v n, rgo (f v) n (t.map f) = rgo v n t := by
  induction t with
  | nil => intro v n; rfl
  | cons x t ih =>
    intro v n
    rw [List.map_cons]
    unfold rgo
    by_cases e : x = v
    · subst e; rw [if_pos rfl, if_pos rfl, ih]
    · rw [if_neg (fun h => e (hf _ _ h)), if_neg e, ih]
theorem runs_map (f : Int → Int) (hf : ∀ x y, f x = f y → x = y) (l : List Int) : runsS (l.map f) = runsS l := by
  cases l with
  | nil => rfl
  | cons v t => exact rgo_map f hf t v 1

/-! ### Strips -/
theorem stripR_snoc (Q : List Int) (x : Int) : stripR (Q ++ [x]) = if x = 1 then Q else Q ++ [x] := by
  unfold stripR
  rw [List.getLast?_append]
  simp only [List.getLast?_singleton, Option.some_or, Option.some.injEq]
  split
  · rw [List.dropLast_concat]
  · rfl
theorem stripL_app {R : List Int} (h : R ≠ []) (Q : List Int) : stripL (R ++ Q) = stripL R ++ Q := by
  cases R with
  | nil => exact absurd rfl h
  | cons n t =>
    by_cases e : n = 1
    · subst e; rfl
    · rw [stripL_ne e, List.cons_append, stripL_ne e]
theorem stripS_one (Q : List Int) : stripS (Q ++ [1]) = stripL Q := by
  unfold stripS
  by_cases h : Q = []
  · subst h; rfl
  · rw [stripL_app h, stripR_snoc, if_pos rfl]
theorem stripS_two (Q : List Int) : stripS (Q ++ [2]) = stripL Q ++ [2] := by
  unfold stripS
  by_cases h : Q = []
  · subst h; rfl
  · rw [stripL_app h, stripR_snoc, if_neg (by omega)]
theorem stripL_reverse (r : List Int) : stripL r.reverse = (stripR r).reverse := by
  by_cases h : r = []
  · subst h; rfl
  · obtain ⟨Q, x, rfl⟩ : ∃ Q x, r = Q ++ [x] := ⟨r.dropLast, r.getLast h, (List.dropLast_concat_getLast h).symm⟩
    rw [stripR_snoc, List.reverse_append]
    show stripL (x :: Q.reverse) = _
    by_cases e : x = 1
    · subst e; rw [if_pos rfl]; rfl
    · rw [stripL_ne e, if_neg e, List.reverse_append]; rfl
theorem stripR_reverse (r : List Int) : stripR r.reverse = (stripL r).reverse := by
  have := stripL_reverse r.reverse
  rw [List.reverse_reverse] at this
  rw [this, List.reverse_reverse]
theorem strip_comm (r : List Int) : stripL (stripR r) = stripR (stripL r) := by
  cases r with
  | nil => rfl
  | cons n t =>
    by_cases ht : t = []
    · subst ht
      by_cases e : n = 1
      · subst e; rfl
      · have h1 : stripR [n] = [n] := by have := stripR_snoc [] n; rw [if_neg e] at this; exact this
        rw [h1, stripL_ne e, h1]
    · obtain ⟨Q, x, rfl⟩ : ∃ Q x, t = Q ++ [x] := ⟨t.dropLast, t.getLast ht, (List.dropLast_concat_getLast ht).symm⟩
      have h1 : stripR (n :: (Q ++ [x])) = if x = 1 then n :: Q else n :: (Q ++ [x]) := by
        have := stripR_snoc (n :: Q) x; simpa using this
      by_cases e : n = 1
      · subst e
        rw [stripL_one, stripR_snoc, h1]
        split <;> rfl
      · rw [stripL_ne e, h1]
        split <;> exact stripL_ne e _
theorem stripS_reverse (r : List Int) : stripS r.reverse = (stripS r).reverse := by
  unfold stripS
  rw [stripL_reverse, stripR_reverse, strip_comm]
theorem D_reverse (l : List Int) : D l.reverse = (D l).reverse := by
  unfold D; rw [runs_reverse l.length l (Nat.le_refl _), stripS_reverse]
theorem bad_reverse (l : List Int) : bad l.reverse = bad l := by
  unfold bad long2; rw [runs_reverse l.length l (Nat.le_refl _), List.any_reverse]

/-! ### Smoothness by induction -/
theorem smooth_nil : smoothS [] = true := rfl
theorem smooth_iff {l : List Int} (h : l ≠ []) : smoothS l = true ↔ bad l = false ∧ smoothS (D l) = true := by
  unfold smoothS
  rw [heightS_step h]
  by_cases hb : bad l = true
  · rw [if_pos hb]; simp [hb]
  · rw [if_neg hb]
    rw [Option.isSome_map]
    simp [hb]
theorem smooth_of_same {l l' : List Int} (h : runsS l = runsS l') (hl : l ≠ []) (hl' : l' ≠ []) (hs : smoothS l = true) : smoothS l' = true := by
  rw [smooth_iff hl] at hs
  rw [smooth_iff hl']
  unfold bad D at *
  rw [← h]; exact hs
theorem smooth_map (f : Int → Int) (hf : ∀ x y, f x = f y → x = y) (l : List Int) (h : smoothS l = true) : smoothS (l.map f) = true := by
  by_cases hl : l = []
  · subst hl; exact h
  · exact smooth_of_same (runs_map f hf l).symm hl (by simpa using hl) h
theorem smooth_reverse : ∀ (n : Nat) (l : List Int), l.length ≤ n → smoothS l = true → smoothS l.reverse = true := by
  intro n
  induction n with
  | zero => intro l h hs; obtain rfl : l = [] := List.eq_nil_of_length_eq_zero (by omega); exact hs
  | succ n ih =>
    intro l h hs
    by_cases hl : l = []
    · subst hl; exact hs
    · rw [smooth_iff hl] at hs
      rw [smooth_iff (by simpa using hl), bad_reverse, D_reverse]
      have := D_length_lt hl
      exact ⟨hs.1, ih (D l) (by omega) hs.2⟩
theorem bad_iff (l : List Int) : bad l = false ↔ ∀ x ∈ runsS l, x ≤ 2 := by
  unfold bad long2
  rw [List.any_eq_false]
  constructor
  · intro h x hx; have := h x hx; simp at this; exact this
  · intro h x hx; have := h x hx; simp; exact this
/-- What one more letter does. -/
theorem snoc_cases (t : List Int) (v x : Int) (p : Nat) (hp : 1 ≤ p) (ht : t.getLast? ≠ some v) :
    runsS (t ++ List.replicate p v) = runsS t ++ [(p : Int)] ∧
    (x = v → runsS ((t ++ List.replicate p v) ++ [x]) = runsS t ++ [((p + 1 : Nat) : Int)]) ∧
    (x ≠ v → runsS ((t ++ List.replicate p v) ++ [x]) = (runsS t ++ [(p : Int)]) ++ [1]) := by
  refine ⟨runs_snoc hp ht, ?_, ?_⟩
  · intro e
    subst e
    have := runs_snoc (l := t) (v := x) (p := p + 1) (by omega) ht
    rw [List.replicate_succ', ← List.append_assoc] at this
    exact this
  · intro e
    have := runs_snoc (l := t ++ List.replicate p v) (v := x) (p := 1) (by omega) (by
      rw [List.getLast?_append, List.getLast?_replicate, if_neg (by omega)]
      simp; exact fun h => e h.symm)
    rw [runs_snoc hp ht] at this
    exact this
theorem two_or {p : Nat} (hp : 1 ≤ p) (h : (p : Int) ≤ 2) : p = 1 ∨ p = 2 := by omega
theorem smooth_snoc : ∀ (n : Nat) (l : List Int) (x : Int), l.length ≤ n → smoothS (l ++ [x]) = true → smoothS l = true := by
  intro n
  induction n with
  | zero => intro l x h hs; obtain rfl : l = [] := List.eq_nil_of_length_eq_zero (by omega); rfl
  | succ n ih =>
    intro l x h hs
    by_cases hl : l = []
    · subst hl; rfl
    · have hd := D_length_lt hl
      obtain ⟨p, v, t, hp, rfl, ht⟩ := unsnoc l hl
      obtain ⟨r0, r1, r2⟩ := snoc_cases t v x p hp ht
      rw [smooth_iff (by simp), bad_iff] at hs
      rw [smooth_iff hl, bad_iff]
      unfold D at hs hd ⊢
      rw [r0] at hd ⊢
      by_cases e : x = v
      · rw [r1 e] at hs
        have h2 := hs.1 ((p + 1 : Nat) : Int) (by simp)
        obtain rfl : p = 1 := by omega
        refine ⟨fun y hy => ?_, ?_⟩
        · rcases List.mem_append.1 hy with hy | hy
          · exact hs.1 y (by simp [hy])
          · rw [List.mem_singleton.1 hy]; simp
        · have e1 : stripS (runsS t ++ [((1 + 1 : Nat) : Int)]) = stripL (runsS t) ++ [2] := stripS_two _
          have e2 : stripS (runsS t ++ [((1 : Nat) : Int)]) = stripL (runsS t) := stripS_one _
          rw [e1] at hs
          rw [e2] at hd ⊢
          exact ih _ 2 (by omega) hs.2
      · rw [r2 e] at hs
        have h2 := hs.1 (p : Int) (by simp)
        have e1 : stripS (runsS t ++ [(p : Int)] ++ [1]) = stripL (runsS t ++ [(p : Int)]) := stripS_one _
        rw [e1] at hs
        refine ⟨fun y hy => hs.1 y (by simp only [List.mem_append]; exact .inl (List.mem_append.1 hy)), ?_⟩
        rcases two_or hp h2 with rfl | rfl
        · have e2 : stripS (runsS t ++ [((1 : Nat) : Int)]) = stripL (runsS t) := stripS_one _
          rw [e2] at hd ⊢
          by_cases hR : runsS t = []
          · rw [hR]; rfl
          · rw [stripL_app hR] at hs
            exact ih _ _ (by omega) hs.2
        · have e2 : stripS (runsS t ++ [((2 : Nat) : Int)]) = stripL (runsS t) ++ [2] := stripS_two _
          rw [e2]
          by_cases hR : runsS t = []
          · rw [hR]; decide +kernel
          · rw [stripL_app hR] at hs
            exact hs.2
theorem smooth_take (l : List Int) (h : smoothS l = true) : ∀ (d n : Nat), l.length - n = d → smoothS (l.take n) = true := by
  intro d
  induction d with
  | zero => intro n hd; rw [List.take_of_length_le (by omega)]; exact h
  | succ d ih =>
    intro n hd
    have := ih (n + 1) (by omega)
    rw [List.take_succ_eq_append_getElem (by omega)] at this
    exact smooth_snoc _ _ _ (Nat.le_refl _) this
theorem smooth_drop (l : List Int) (h : smoothS l = true) (n : Nat) : smoothS (l.drop n) = true := by
  have h1 := smooth_reverse _ l (Nat.le_refl _) h
  have h2 := smooth_take l.reverse h1 _ (l.length - n) rfl
  have h3 := smooth_reverse _ _ (Nat.le_refl _) h2
  have e : (l.reverse.take (l.length - n)).reverse = l.drop n := by
    rw [List.take_reverse, List.reverse_reverse]
    by_cases hn : n ≤ l.length
    · congr 1; omega
    · rw [List.drop_of_length_le (by omega), List.drop_of_length_le (by omega)]
  rwa [e] at h3
theorem smooth_part (l : List Int) (h : smoothS l = true) (a b : Nat) : smoothS ((l.take b).drop a) = true := smooth_drop _ (smooth_take l h _ b rfl) a

/-! ### Extension -/
def Word12 (l : List Int) : Prop := ∀ x ∈ l, x = 1 ∨ x = 2
theorem D_word {l : List Int} (h : bad l = false) : Word12 (D l) := by
  intro x hx
  have h1 := (bad_iff l).1 h
  have h2 := runsS_pos l
  have hx' : x ∈ runsS l := by
    unfold D stripS stripR at hx
    have hs : ∀ y ∈ stripL (runsS l), y ∈ runsS l := by
      intro y hy
      cases hr : runsS l with
      | nil => rw [hr] at hy; exact hy
      | cons n t =>
        rw [hr] at hy
        by_cases e : n = 1
        · subst e; rw [stripL_one] at hy; exact List.mem_cons_of_mem _ hy
        · rw [stripL_ne e] at hy; exact hy
    split at hx
    · exact hs x ((List.dropLast_sublist _).subset hx)
    · exact hs x hx
  have := h1 x hx'
  have := h2 x hx'
  omega
theorem smooth_extend : ∀ (n : Nat) (l : List Int), l.length ≤ n → Word12 l → smoothS l = true → smoothS (l ++ [1]) = true ∨ smoothS (l ++ [2]) = true := by
  intro n
  induction n with
  | zero => intro l h hw hs; obtain rfl : l = [] := List.eq_nil_of_length_eq_zero (by omega); left; decide +kernel
  | succ n ih =>
    intro l h hw hs
    by_cases hl : l = []
    · subst hl; left; decide +kernel
    · have hd := D_length_lt hl
      obtain ⟨p, v, t, hp, rfl, ht⟩ := unsnoc l hl
      have hv : v = 1 ∨ v = 2 := hw v (by simp; omega)
      rw [smooth_iff hl] at hs
      have hDw := D_word hs.1
      have hih := ih (D (t ++ List.replicate p v)) (by omega) hDw hs.2
      rw [bad_iff] at hs
      unfold D at hs hd hih hDw
      have r0 := (snoc_cases t v v p hp ht).1
      rw [r0] at hs hd hih hDw
      have hp2 := two_or hp (hs.1 (p : Int) (by simp))
      have hall : ∀ y ∈ runsS t, y ≤ 2 := fun y hy => hs.1 y (by simp [hy])
      -- smooth with one more letter
      have same : p = 1 → smoothS (stripL (runsS t) ++ [2]) = true → smoothS (t ++ List.replicate p v ++ [v]) = true := by
        intro e hsm
        rw [smooth_iff (by simp), bad_iff]
        unfold D
        rw [(snoc_cases t v v p hp ht).2.1 rfl]
        subst e
        have e1 : stripS (runsS t ++ [((1 + 1 : Nat) : Int)]) = stripL (runsS t) ++ [2] := stripS_two _
        rw [e1]
        refine ⟨fun y hy => ?_, hsm⟩
        rcases List.mem_append.1 hy with hy | hy
        · exact hall y hy
        · rw [List.mem_singleton.1 hy]; simp
      have other : ∀ x, x ≠ v → smoothS (stripL (runsS t ++ [(p : Int)])) = true → smoothS (t ++ List.replicate p v ++ [x]) = true := by
        intro x hx hsm
        rw [smooth_iff (by simp), bad_iff]
        unfold D
        rw [(snoc_cases t v x p hp ht).2.2 hx]
        have e1 : stripS (runsS t ++ [(p : Int)] ++ [1]) = stripL (runsS t ++ [(p : Int)]) := stripS_one _
        rw [e1]
        refine ⟨fun y hy => ?_, hsm⟩
        rcases List.mem_append.1 hy with hy | hy
        · exact hs.1 y hy
        · rw [List.mem_singleton.1 hy]; omega
      have any : ∀ x, x = 1 ∨ x = 2 → smoothS (t ++ List.replicate p v ++ [x]) = true → smoothS (t ++ List.replicate p v ++ [1]) = true ∨ smoothS (t ++ List.replicate p v ++ [2]) = true := by
        intro x hx hsm
        rcases hx with rfl | rfl
        · exact .inl hsm
        · exact .inr hsm
      rcases hp2 with rfl | rfl
      · have e2 : stripS (runsS t ++ [((1 : Nat) : Int)]) = stripL (runsS t) := stripS_one _
        rw [e2] at hih
        by_cases hR : runsS t = []
        · refine any v hv (same rfl ?_)
          rw [hR]; decide +kernel
        · rcases hih with hih | hih
          · refine any (3 - v) (by omega) (other (3 - v) (by omega) ?_)
            rw [stripL_app hR]; exact hih
          · exact any v hv (same rfl hih)
      · have e2 : stripS (runsS t ++ [((2 : Nat) : Int)]) = stripL (runsS t) ++ [2] := stripS_two _
        rw [e2] at hs
        refine any (3 - v) (by omega) (other (3 - v) (by omega) ?_)
        by_cases hR : runsS t = []
        · rw [hR]; decide +kernel
        · rw [stripL_app hR]; exact hs.2
end Go.Proofs.Ytploaicljkennaa.Pure
