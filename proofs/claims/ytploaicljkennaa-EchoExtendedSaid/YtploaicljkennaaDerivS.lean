/- The derivative, the height and smoothness of a word, as plain functions; the program's and the reference's functions come to them. -/
import Derived.Test.YtploaicljkennaaPEx3
import Derived.Test.YtploaicljkennaaPEx10
import Derived.Test.YtploaicljkennaaRunsS
set_option linter.unusedVariables false
set_option linter.unusedSimpArgs false
namespace Go.Proofs.Ytploaicljkennaa.Pure
open Go.RowKit Go.Proofs.YtploaicljkennaaW.PrintWords Go.Proofs.Ytploaicljkennaa.PE

def stripL : List Int → List Int
  | [] => []
  | n :: t => if n = 1 then t else n :: t
def stripR (r : List Int) : List Int := if r.getLast? = some 1 then r.dropLast else r
def stripS (r : List Int) : List Int := stripR (stripL r)
def long2 (r : List Int) : Bool := r.any (fun x => decide (2 < x))
/-- The derivative of a word, if no run is longer than 2. -/
def D (l : List Int) : List Int := stripS (runsS l)
def bad (l : List Int) : Bool := long2 (runsS l)

theorem rgo_length (t : List Int) : ∀ v n, (rgo v n t).length ≤ t.length + 1 := by
  induction t with
  | nil => intro v n; simp [rgo]
  | cons x t ih =>
    intro v n
    unfold rgo
    split
    · have := ih v (n + 1); simp; omega
    · have := ih x 1; simp; omega
theorem runsS_length (l : List Int) : (runsS l).length ≤ l.length := by
  cases l with
  | nil => simp [runsS]
  | cons x t => have := rgo_length t x 1; simpa [runsS] using this
theorem rgo_pos (t : List Int) : ∀ v n, 1 ≤ n → ∀ x ∈ rgo v n t, 1 ≤ x := by
  induction t with
  | nil => intro v n hn x hx; simp [rgo] at hx; omega
  | cons y t ih =>
    intro v n hn x hx
    unfold rgo at hx
    split at hx
    · exact ih v (n + 1) (by omega) x hx
    · rcases List.mem_cons.1 hx with h | h
      · omega
      · exact ih y 1 (by omega) x h
theorem runsS_pos (l : List Int) : ∀ x ∈ runsS l, 1 ≤ x := by
  cases l with
  | nil => intro x hx; simp [runsS] at hx
  | cons v t => exact rgo_pos t v 1 (by omega)
theorem rgo_sum (t : List Int) : ∀ v n, (rgo v n t).sum = n + t.length := by
  induction t with
  | nil => intro v n; simp [rgo]
  | cons y t ih =>
    intro v n
    unfold rgo
    split
    · rw [ih]; simp; omega
    · simp only [List.sum_cons, ih]; simp; omega
theorem runsS_sum (l : List Int) : (runsS l).sum = l.length := by
  cases l with
  | nil => simp [runsS]
  | cons v t => simp only [runsS, rgo_sum]; simp; omega
theorem rgo_ne (t : List Int) : ∀ v n, rgo v n t ≠ [] := by
  induction t with
  | nil => intro v n; simp [rgo]
  | cons y t ih =>
    intro v n
    unfold rgo
    split
    · exact ih _ _
    · simp
theorem runsS_ne {l : List Int} (h : l ≠ []) : runsS l ≠ [] := by
  cases l with
  | nil => exact absurd rfl h
  | cons v t => exact rgo_ne t v 1
theorem sum_ge_length (r : List Int) (h : ∀ x ∈ r, 1 ≤ x) : (r.length : Int) ≤ r.sum := by
  induction r with
  | nil => simp
  | cons x t ih =>
    have h1 := h x (by simp)
    have h2 := ih (fun y hy => h y (by simp [hy]))
    simp only [List.sum_cons, List.length_cons]
    omega
theorem stripR_length (r : List Int) : (stripR r).length ≤ r.length := by
  unfold stripR
  split
  · simp
  · exact Nat.le_refl _
theorem stripL_one (t : List Int) : stripL (1 :: t) = t := rfl
theorem stripL_ne {n : Int} (h : n ≠ 1) (t : List Int) : stripL (n :: t) = n :: t := if_neg h
theorem stripL_length (r : List Int) : (stripL r).length ≤ r.length := by
  cases r with
  | nil => simp [stripL]
  | cons n t =>
    by_cases h : n = 1
    · subst h; rw [stripL_one]; simp
    · rw [stripL_ne h]; exact Nat.le_refl _
theorem D_length_le (l : List Int) : (D l).length ≤ l.length :=
  Nat.le_trans (stripR_length _) (Nat.le_trans (stripL_length _) (runsS_length l))
theorem D_length_lt {l : List Int} (h : l ≠ []) : (D l).length < l.length := by
  unfold D stripS
  have h0 := stripR_length (stripL (runsS l))
  have h1 := runsS_sum l
  have h2 := runsS_pos l
  have h3 := runsS_ne h
  have h4 := runsS_length l
  generalize runsS l = r at *
  cases r with
  | nil => exact absurd rfl h3
  | cons n t =>
    have hn := h2 n (by simp)
    have ht := sum_ge_length t (fun y hy => h2 y (by simp [hy]))
    simp only [List.sum_cons] at h1
    simp only [List.length_cons] at h4
    by_cases e : n = 1
    · subst e; rw [stripL_one] at h0 ⊢; omega
    · rw [stripL_ne e] at h0 ⊢; simp only [List.length_cons] at h0; omega
theorem Fits.D {l : List Int} (h : Fits l) : Fits (D l) := Nat.le_trans (D_length_le l) h
theorem Fits.runs {l : List Int} (h : Fits l) : Fits (runsS l) := Nat.le_trans (runsS_length l) h

/-- What the program's derivative answers. -/
def derivS (l : List Int) : List Int × Bool := if bad l = true then ([], false) else (D l, true)

theorem head_one (r : List Int) (h : r ≠ []) : (rd r 0 == 1) = decide (r.head? = some 1) := by
  cases r with
  | nil => exact absurd rfl h
  | cons n t => simp [rd]; rw [Bool.eq_iff_iff]; simp
theorem last_rd (r : List Int) (h : 0 < r.length) : r.getLast? = some (rd r ((r.length : Int) - 1)) := by
  have e : (r.length : Int) - 1 = ((r.length - 1 : Nat) : Int) := by omega
  rw [e, rd_nat r (r.length - 1) (by omega), List.getLast?_eq_getElem?, List.getElem?_eq_getElem (by omega)]
theorem dropLast_take (r : List Int) (h : 0 < r.length) : r.take ((r.length : Int) - 1).toNat = r.dropLast := by
  rw [List.dropLast_eq_take]; congr 1; omega

theorem echo_derivative_ev (l : List Int) (hl : Fits l) : Ev (fun k => echo_derivative.f k l) (derivS l) := by
  unfold echo_derivative.f derivS
  refine Ev.bind (echo_runs_ev l hl) ?_
  have hf := hl.runs
  unfold Fits at hf
  show Ev (fun k => (ContainsFunc_derivative1.f (runsS l)).bind _) _
  refine Ev.bindc (x := bad l) rfl ?_
  by_cases hb : bad l = true
  · rw [if_pos hb]
    exact Ev.pos hb (Ev.now _)
  · rw [if_neg hb]
    refine Ev.neg hb ?_
    unfold D stripS
    generalize runsS l = r at *
    have key : ∀ (q : List Int), q.length ≤ 17592186044415 → ∀ (f : Nat → Option (List Int × Bool)), True →
        Ev (fun _ => if (q.length : Int) > 0 then (if 0 ≤ (wrap64 ((q.length : Int) - 1)) then (if (wrap64 ((q.length : Int) - 1)) < (q.length : Int) then (if (rd q (wrap64 ((q.length : Int) - 1))) = 1 then (if (wrap64 ((q.length : Int) - 1)) ≤ (q.length : Int) then (some ((q.take ((wrap64 ((q.length : Int) - 1)) : Int).toNat), true)) else (none)) else (some (q, true))) else (none)) else (none)) else (some (q, true))) (stripR q, true) := by
      intro q hq f _
      have hw : wrap64 ((q.length : Int) - 1) = (q.length : Int) - 1 := by rw [wrap_id] <;> omega
      simp only [hw]
      by_cases h0 : 0 < q.length
      · refine Ev.pos (by omega) (Ev.pos (by omega) (Ev.pos (by omega) ?_))
        have hlast := last_rd q h0
        unfold stripR
        by_cases h1 : rd q ((q.length : Int) - 1) = 1
        · refine Ev.pos h1 (Ev.pos (by omega) ?_)
          rw [if_pos (by rw [hlast, h1]), dropLast_take q h0]
          exact Ev.now _
        · refine Ev.neg h1 ?_
          rw [if_neg (by rw [hlast]; simpa using h1)]
          exact Ev.now _
      · refine Ev.neg (by omega) ?_
        obtain rfl : q = [] := List.eq_nil_of_length_eq_zero (by omega)
        exact Ev.now _
    by_cases h0 : 0 < r.length
    · refine Ev.pos (by omega) (Ev.pos (by omega) ?_)
      have hne : r ≠ [] := by intro e; rw [e] at h0; simp at h0
      rw [head_one r hne]
      refine Ev.succ ?_
      simp only [echo_derivative.j0]
      cases r with
      | nil => exact absurd rfl hne
      | cons n t =>
        by_cases h1 : n = 1
        · refine Ev.pos (by simp [h1]) (Ev.pos (by simp only [List.length_cons]; omega) ?_)
          refine Ev.bindc rfl ?_
          have hs : stripL (n :: t) = t := by rw [h1]; rfl
          rw [hs]
          exact key t (by simp at hf; omega) (fun _ => none) trivial
        · refine Ev.neg (by simp [h1]) ?_
          have hs : stripL (n :: t) = n :: t := stripL_ne h1 t
          rw [hs]
          exact key (n :: t) hf (fun _ => none) trivial
    · refine Ev.neg (by omega) ?_
      obtain rfl : r = [] := List.eq_nil_of_length_eq_zero (by omega)
      refine Ev.succ ?_
      simp only [echo_derivative.j0]
      exact Ev.neg (by simp) (Ev.neg (by simp) (Ev.now _))

theorem ref_Derivative_loop (r : List Int) (hf : Fits r) (out : List Int × Bool) (hok : long2 r = false → Ev (fun k => bellpullref02_Derivative.l0 k r (r.length : Int)) out) (hbad : long2 r = true → out = ([], false)) :
    ∀ (d i : Nat), r.length - i = d → i ≤ r.length → (∀ j, j < i → ∀ h : j < r.length, ¬ 2 < r[j]) → Ev (fun k => bellpullref02_Derivative.l0 k r (i : Int)) out := by
  unfold Fits at hf
  intro d
  induction d with
  | zero =>
    intro i hd hi hpre
    obtain rfl : i = r.length := by omega
    refine hok ?_
    unfold long2
    rw [List.any_eq_false]
    intro x hx
    obtain ⟨j, hj, rfl⟩ := List.getElem_of_mem hx
    simpa using hpre j hj hj
  | succ d ih =>
    intro i hd hi hpre
    refine Ev.succ ?_
    have hr := rd_nat r i (by omega)
    have hw : wrap64 ((i : Int) + 1) = ((i + 1 : Nat) : Int) := by rw [wrap_id] <;> omega
    simp only [bellpullref02_Derivative.l0, hr, hw]
    refine Ev.pos (by omega) (Ev.pos (by omega) ?_)
    by_cases h2 : r[i] > 2
    · refine Ev.pos h2 ?_
      rw [hbad (List.any_eq_true.2 ⟨r[i], List.getElem_mem _, by simpa using h2⟩)]
      exact Ev.now _
    · refine Ev.neg h2 ?_
      refine ih (i + 1) (by omega) (by omega) (fun j hj h => ?_)
      by_cases e : j = i
      · subst e; exact h2
      · exact hpre j (by omega) h

theorem ref_Derivative_ev (l : List Int) (hl : Fits l) : Ev (fun k => bellpullref02_Derivative.f k l) (derivS l) := by
  unfold bellpullref02_Derivative.f derivS
  refine Ev.bind (ref_Runs_ev l hl) ?_
  have hf := hl.runs
  refine ref_Derivative_loop (runsS l) hf _ ?_ (fun h => if_pos h) _ 0 rfl (Nat.zero_le _) (fun j hj => absurd hj (by omega))
  intro hb
  have hb' : ¬ bad l = true := by unfold bad; rw [hb]; simp
  show Ev _ (if bad l = true then _ else _)
  rw [if_neg hb']
  unfold D stripS
  unfold Fits at hf
  generalize runsS l = r at *
  have key : ∀ (q : List Int), q.length ≤ 17592186044415 →
      Ev (fun _ : Nat => if (q.length : Int) > 0 then (if 0 ≤ (wrap64 ((q.length : Int) - 1)) then (if (wrap64 ((q.length : Int) - 1)) < (q.length : Int) then (if (rd q (wrap64 ((q.length : Int) - 1))) = 1 then (if (wrap64 ((q.length : Int) - 1)) ≤ (q.length : Int) then ((some (q.take ((wrap64 ((q.length : Int) - 1)) : Int).toNat : List Int)).bind fun y427 => ((some (([] : List Int) : List Int)).bind fun y430 => (if y430.length + y427.length < 17592186044416 then (some ((y430 ++ y427), true)) else (none)))) else (none)) else ((some (([] : List Int) : List Int)).bind fun y436 => (if y436.length + q.length < 17592186044416 then (some ((y436 ++ q), true)) else (none)))) else (none)) else (none)) else ((some (([] : List Int) : List Int)).bind fun y442 => (if y442.length + q.length < 17592186044416 then (some ((y442 ++ q), true)) else (none)))) (stripR q, true) := by
    intro q hq
    have hw : wrap64 ((q.length : Int) - 1) = (q.length : Int) - 1 := by rw [wrap_id] <;> omega
    simp only [hw, Option.bind_some, List.nil_append, List.length_nil, Nat.zero_add]
    by_cases h0 : 0 < q.length
    · refine Ev.pos (by omega) (Ev.pos (by omega) (Ev.pos (by omega) ?_))
      have hlast := last_rd q h0
      unfold stripR
      by_cases h1 : rd q ((q.length : Int) - 1) = 1
      · refine Ev.pos h1 (Ev.pos (by omega) (Ev.pos (by rw [List.length_take]; omega) ?_))
        rw [if_pos (by rw [hlast, h1]), dropLast_take q h0]
        exact Ev.now _
      · refine Ev.neg h1 (Ev.pos (by omega) ?_)
        rw [if_neg (by rw [hlast]; simpa using h1)]
        exact Ev.now _
    · refine Ev.neg (by omega) (Ev.pos (by omega) ?_)
      obtain rfl : q = [] := List.eq_nil_of_length_eq_zero (by omega)
      exact Ev.now _
  refine Ev.succ ?_
  simp only [bellpullref02_Derivative.l0]
  refine Ev.neg (by omega) ?_
  by_cases h0 : 0 < r.length
  · refine Ev.pos (by omega) (Ev.pos (by omega) ?_)
    have hne : r ≠ [] := by intro e; rw [e] at h0; simp at h0
    rw [head_one r hne]
    refine Ev.succ ?_
    simp only [bellpullref02_Derivative.j1]
    cases r with
    | nil => exact absurd rfl hne
    | cons n t =>
      by_cases h1 : n = 1
      · refine Ev.pos (by simp [h1]) (Ev.pos (by simp only [List.length_cons]; omega) ?_)
        refine Ev.bindc rfl ?_
        have hs : stripL (n :: t) = t := by rw [h1]; rfl
        rw [hs]
        exact key t (by simp at hf; omega)
      · refine Ev.neg (by simp [h1]) ?_
        have hs : stripL (n :: t) = n :: t := stripL_ne h1 t
        rw [hs]
        exact key (n :: t) hf
  · refine Ev.neg (by omega) ?_
    obtain rfl : r = [] := List.eq_nil_of_length_eq_zero (by omega)
    refine Ev.succ ?_
    simp only [bellpullref02_Derivative.j1]
    exact Ev.neg (by simp) (key [] (by simp))

/-! ### The height -/
def heightF : Nat → List Int → Option Nat
  | _, [] => some 0
  | 0, _ :: _ => none
  | n + 1, x :: t => if bad (x :: t) = true then none else (heightF n (D (x :: t))).map (· + 1)
def heightS (l : List Int) : Option Nat := heightF l.length l
theorem heightF_more : ∀ (n m : Nat) (l : List Int), l.length ≤ n → l.length ≤ m → heightF n l = heightF m l := by
  intro n
  induction n with
  | zero =>
    intro m l h1 h2
    obtain rfl : l = [] := List.eq_nil_of_length_eq_zero (by omega)
    cases m <;> rfl
  | succ n ih =>
    intro m l h1 h2
    cases l with
    | nil => cases m <;> rfl
    | cons x t =>
      cases m with
      | zero => simp at h2
      | succ m =>
        have hd := D_length_lt (l := x :: t) (by simp)
        simp only [heightF]
        rw [ih m (D (x :: t)) (by simp at *; omega) (by simp at *; omega)]
theorem heightS_nil : heightS [] = some 0 := rfl
theorem heightS_step {l : List Int} (h : l ≠ []) : heightS l = if bad l = true then none else (heightS (D l)).map (· + 1) := by
  cases l with
  | nil => exact absurd rfl h
  | cons x t =>
    have hd := D_length_lt (l := x :: t) (by simp)
    unfold heightS
    simp only [List.length_cons, heightF]
    rw [heightF_more t.length (D (x :: t)).length (D (x :: t)) (by simp at hd; omega) (Nat.le_refl _)]
theorem heightS_le : ∀ (n : Nat) (l : List Int), l.length ≤ n → ∀ h, heightS l = some h → h ≤ l.length := by
  intro n
  induction n with
  | zero =>
    intro l hl h hh
    obtain rfl : l = [] := List.eq_nil_of_length_eq_zero (by omega)
    rw [heightS_nil] at hh; injection hh with hh; omega
  | succ n ih =>
    intro l hl h hh
    by_cases hne : l = []
    · subst hne; rw [heightS_nil] at hh; injection hh with hh; omega
    · have hd := D_length_lt hne
      rw [heightS_step hne] at hh
      split at hh
      · cases hh
      · rcases e : heightS (D l) with _ | q
        · rw [e] at hh; cases hh
        · rw [e] at hh
          have := ih (D l) (by omega) q e
          simp at hh; omega
def smoothS (l : List Int) : Bool := (heightS l).isSome
def heightR (l : List Int) : Int × Bool := match heightS l with | some h => ((h : Int), true) | none => (0, false)
def heightI (l : List Int) : Int := match heightS l with | some h => (h : Int) | none => -1

def hres (c : Nat) : Option Nat → Int × Bool
  | some h => (((c + h : Nat) : Int), true)
  | none => (0, false)
theorem hres_map (c : Nat) (o : Option Nat) : hres c (o.map (· + 1)) = hres (c + 1) o := by
  cases o with
  | none => rfl
  | some h => simp [hres]; omega
theorem echo_height_loop : ∀ (n : Nat) (l : List Int), l.length ≤ n → Fits l → ∀ (c : Nat), c + l.length ≤ 35184372088832 →
    Ev (fun k => echo_height.l0 k l (c : Int)) (hres c (heightS l)) := by
  intro n
  induction n with
  | zero =>
    intro l hn hl c hc2
    obtain rfl : l = [] := List.eq_nil_of_length_eq_zero (by omega)
    refine Ev.succ ?_
    simp only [echo_height.l0]
    exact Ev.pos (by simp) (Ev.now _)
  | succ n ih =>
    intro l hn hl c hc2
    refine Ev.succ ?_
    by_cases hne : l = []
    · subst hne
      simp only [echo_height.l0]
      exact Ev.pos (by simp) (Ev.now _)
    · have hpos : 0 < l.length := List.length_pos_iff.2 hne
      have hw : wrap64 ((c : Int) + 1) = ((c + 1 : Nat) : Int) := by rw [wrap_id] <;> omega
      have hd := D_length_lt hne
      simp only [echo_height.l0, hw]
      refine Ev.neg (by omega) ?_
      refine Ev.bind (echo_derivative_ev l hl) ?_
      rw [heightS_step hne]
      unfold derivS
      by_cases hb : bad l = true
      · simp only [if_pos hb]
        exact Ev.neg (by simp) (Ev.now _)
      · simp only [if_neg hb]
        refine Ev.pos trivial ?_
        unfold Fits at hl
        rw [hres_map]
        exact ih (D l) (by omega) (by unfold Fits; omega) (c + 1) (by omega)
theorem echo_height_ev (l : List Int) (hl : Fits l) : Ev (fun k => echo_height.f k l) (heightR l) := by
  have h := echo_height_loop l.length l (Nat.le_refl _) hl 0 (by unfold Fits at hl; omega)
  unfold echo_height.f
  have e : heightR l = hres 0 (heightS l) := by unfold heightR; rcases heightS l with _ | q <;> simp [hres]
  rw [e]; exact h
theorem echo_smooth_ev (l : List Int) (hl : Fits l) : Ev (fun k => echo_smooth.f k l) (smoothS l) := by
  unfold echo_smooth.f
  refine Ev.bind (echo_height_ev l hl) ?_
  unfold heightR smoothS
  rcases heightS l with _ | q
  · exact Ev.now _
  · exact Ev.now _

def hresI (c : Nat) : Option Nat → Int
  | some h => ((c + h : Nat) : Int)
  | none => -1
theorem hresI_map (c : Nat) (o : Option Nat) : hresI c (o.map (· + 1)) = hresI (c + 1) o := by
  cases o with
  | none => rfl
  | some h => simp [hresI]; omega
theorem ref_Height_loop : ∀ (n : Nat) (l : List Int), l.length ≤ n → Fits l → ∀ (c : Nat), c + l.length ≤ 35184372088832 →
    Ev (fun k => bellpullref02_Height.l0 k l (c : Int)) (hresI c (heightS l)) := by
  intro n
  induction n with
  | zero =>
    intro l hn hl c hc2
    obtain rfl : l = [] := List.eq_nil_of_length_eq_zero (by omega)
    refine Ev.succ ?_
    simp only [bellpullref02_Height.l0]
    exact Ev.neg (by simp) (Ev.now _)
  | succ n ih =>
    intro l hn hl c hc2
    refine Ev.succ ?_
    by_cases hne : l = []
    · subst hne
      simp only [bellpullref02_Height.l0]
      exact Ev.neg (by simp) (Ev.now _)
    · have hpos : 0 < l.length := List.length_pos_iff.2 hne
      have hw : wrap64 ((c : Int) + 1) = ((c + 1 : Nat) : Int) := by rw [wrap_id] <;> omega
      have hd := D_length_lt hne
      simp only [bellpullref02_Height.l0, hw]
      refine Ev.pos (by omega) ?_
      refine Ev.bind (ref_Derivative_ev l hl) ?_
      rw [heightS_step hne]
      unfold derivS
      by_cases hb : bad l = true
      · simp only [if_pos hb]
        exact Ev.neg (by simp) (Ev.now _)
      · simp only [if_neg hb]
        refine Ev.pos trivial ?_
        unfold Fits at hl
        rw [hresI_map]
        exact ih (D l) (by omega) (by unfold Fits; omega) (c + 1) (by omega)
theorem ref_Height_ev (l : List Int) (hl : Fits l) : Ev (fun k => bellpullref02_Height.f k l) (heightI l) := by
  have h := ref_Height_loop l.length l (Nat.le_refl _) hl 0 (by unfold Fits at hl; omega)
  unfold bellpullref02_Height.f
  have e : heightI l = hresI 0 (heightS l) := by unfold heightI; rcases heightS l with _ | q <;> simp [hresI]
  rw [e]; exact h

/-! ### The exported functions -/
def okWord (l : List Int) (m : Int) : Bool := !(l.any (fun x => decide (x < 1) || decide (m < x)))
def checkS (l : List Int) (m : Int) : Int := if (l.length : Int) > 200 then 3 else if l.any (fun x => decide (x < 1) || decide (m < x)) = true then 2 else 0
theorem echo_check_eq (l : List Int) (m : Int) : echo_check.f l m = some (checkS l m) := by
  unfold echo_check.f checkS
  split
  · rfl
  · split <;> rfl
theorem echo_Smooth_ev (l : List Int) (hl : Fits l) : Ev (fun k => echo_Smooth.f k l) (if checkS l 2 = 0 then (smoothS l, 0) else (false, checkS l 2)) := by
  unfold echo_Smooth.f
  refine Ev.bindc (echo_check_eq l 2) ?_
  by_cases h : checkS l 2 = 0
  · rw [if_pos h]
    exact Ev.pos h (Ev.bind (echo_smooth_ev l hl) (Ev.now _))
  · rw [if_neg h]
    exact Ev.neg h (Ev.now _)
theorem echo_Derivative_ev (l : List Int) (hl : Fits l) : Ev (fun k => echo_Derivative.f k l) (if checkS l 2 = 0 then (if bad l = true then ([], 5) else (D l, 0)) else ([], checkS l 2)) := by
  unfold echo_Derivative.f
  refine Ev.bindc (echo_check_eq l 2) ?_
  by_cases h : checkS l 2 = 0
  · rw [if_pos h]
    refine Ev.pos h (Ev.bind (echo_derivative_ev l hl) ?_)
    unfold derivS
    by_cases hb : bad l = true
    · simp only [if_pos hb]
      exact Ev.neg (by simp) (Ev.now _)
    · simp only [if_neg hb]
      exact Ev.pos trivial (Ev.now _)
  · rw [if_neg h]
    exact Ev.neg h (Ev.now _)
theorem echo_Height_ev (l : List Int) (hl : Fits l) : Ev (fun k => echo_Height.f k l) (if checkS l 2 = 0 then (match heightS l with | some h => ((h : Int), 0) | none => (0, 5)) else (0, checkS l 2)) := by
  unfold echo_Height.f
  refine Ev.bindc (echo_check_eq l 2) ?_
  by_cases h : checkS l 2 = 0
  · rw [if_pos h]
    refine Ev.pos h (Ev.bind (echo_height_ev l hl) ?_)
    unfold heightR
    rcases heightS l with _ | q
    · exact Ev.neg (by simp) (Ev.now _)
    · exact Ev.pos rfl (Ev.now _)
  · rw [if_neg h]
    exact Ev.neg h (Ev.now _)
theorem long_of {m : Int} {l : List Int} (h : l.length ≤ 200) (h2 : ∀ x ∈ l, 1 ≤ x ∧ x ≤ m) : checkS l m = 0 := by
  unfold checkS
  rw [if_neg (by omega), if_neg]
  simp only [List.any_eq_true, not_exists, not_and, Bool.or_eq_true, decide_eq_true_eq]
  intro x hx
  have := h2 x hx
  omega
end Go.Proofs.Ytploaicljkennaa.Pure
