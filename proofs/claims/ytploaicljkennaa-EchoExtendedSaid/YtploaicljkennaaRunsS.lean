/- The run lengths of a word, as a plain function; the program's and the reference's loops come to it. -/
import Derived.Test.YtploaicljkennaaPEx2
import Derived.Test.YtploaicljkennaaPEx4
import Derived.Test.YtploaicljkennaaTools
set_option linter.unusedVariables false
set_option linter.unusedSimpArgs false
namespace Go.Proofs.Ytploaicljkennaa.Pure
open Go.RowKit Go.Proofs.YtploaicljkennaaW.PrintWords Go.Proofs.Ytploaicljkennaa.PE

/-- The run lengths of v^n followed by the word. -/
def rgo : Int → Int → List Int → List Int
  | _, n, [] => [n]
  | v, n, x :: t => if x = v then rgo v (n + 1) t else n :: rgo x 1 t
def runsS : List Int → List Int
  | [] => []
  | x :: t => rgo x 1 t

/-- The bound under which all is asked: no sum leaves its range. -/
def Fits (l : List Int) : Prop := l.length ≤ 17592186044415

theorem echo_runs_loop (l : List Int) (hl : Fits l) : ∀ (t : List Int) (pre done : List Int) (v n : Int), l = pre ++ v :: t → 1 ≤ n → n ≤ (pre.length : Int) + 1 → done.length ≤ pre.length →
    Ev (fun k => echo_runs.l0 k l (done ++ [n]) l (l.length : Int) ((pre.length : Int) + 1)) (done ++ rgo v n t) := by
  unfold Fits at hl
  intro t
  induction t with
  | nil =>
    intro pre done v n hE h1 h2 h3
    refine Ev.succ ?_
    have hlen : (l.length : Int) = (pre.length : Int) + 1 := by rw [hE]; simp
    simp only [echo_runs.l0]
    refine Ev.neg (by omega) ?_
    exact Ev.now _
  | cons x t ih =>
    intro pre done v n hE h1 h2 h3
    refine Ev.succ ?_
    have hlen : (l.length : Int) = (pre.length : Int) + 2 + t.length := by rw [hE]; simp; omega
    have hw1 : wrap64 ((pre.length : Int) + 1 - 1) = (pre.length : Int) := by rw [wrap_id] <;> omega
    have hw2 : wrap64 (((done ++ [n]).length : Int) - 1) = (done.length : Int) := by rw [wrap_id] <;> simp <;> omega
    have hw3 : wrap64 ((pre.length : Int) + 1 + 1) = (pre.length : Int) + 2 := by rw [wrap_id] <;> omega
    have hr1 : rd l ((pre.length : Int) + 1) = x := by
      have e : l = (pre ++ [v]) ++ x :: t := by rw [hE]; simp
      have := rd_app (pre ++ [v]) x t
      rw [← e] at this
      simpa using this
    have hr2 : rd l (pre.length : Int) = v := by
      have := rd_app pre v (x :: t)
      rwa [← hE] at this
    have hr3 : rd (done ++ [n]) (done.length : Int) = n := rd_app done n []
    have hw4 : wrap64 (n + 1) = n + 1 := by rw [wrap_id] <;> omega
    have hset : (done ++ [n]).set ((done.length : Int)).toNat (n + 1) = done ++ [n + 1] := by simp
    simp only [echo_runs.l0, hw1, hw2, hw3, hr1, hr2, hr3, hw4, hset]
    refine Ev.pos (by omega) (Ev.pos (by omega) (Ev.pos (by omega) (Ev.pos (by omega) (Ev.pos (by omega) (Ev.pos (by omega) ?_)))))
    by_cases hx : x = v
    · subst hx
      refine Ev.pos rfl (Ev.pos (by omega) (Ev.pos (by simp <;> omega) ?_))
      have := ih (pre ++ [x]) done x (n + 1) (by rw [hE]; simp) (by omega) (by simp; omega) (by simp; omega)
      simp only [rgo, if_true]
      simpa [Int.add_assoc] using this
    · refine Ev.neg hx (Ev.pos (by simp; omega) ?_)
      have := ih (pre ++ [v]) (done ++ [n]) x 1 (by rw [hE]; simp) (by omega) (by simp; omega) (by simp; omega)
      simp only [rgo, if_neg hx]
      simpa [Int.add_assoc] using this

theorem echo_runs_ev (l : List Int) (hl : Fits l) : Ev (fun k => echo_runs.f k l) (runsS l) := by
  unfold echo_runs.f
  cases l with
  | nil =>
    refine Ev.succ ?_
    simp only [echo_runs.l0]
    refine Ev.neg (by simp) (Ev.now _)
  | cons x t =>
    refine Ev.succ ?_
    have hl' := hl
    unfold Fits at hl'
    simp only [echo_runs.l0]
    refine Ev.pos (by simp) (Ev.pos (by omega) (Ev.pos (by simp) (Ev.neg (by omega) (Ev.pos (by simp) ?_))))
    have := echo_runs_loop (x :: t) hl t [] [] x 1 rfl (by omega) (by simp) (by simp)
    have hw : wrap64 (0 + 1) = 1 := by rw [wrap_id] <;> omega
    simp only [hw]
    simpa [runsS] using this

theorem ref_Runs_loop (l : List Int) (hl : Fits l) : ∀ (t : List Int) (pre done : List Int) (v n : Int), l = pre ++ v :: t → 1 ≤ n → n ≤ (pre.length : Int) + 1 → done.length ≤ pre.length →
    Ev (fun k => bellpullref02_Runs.l0 k l (done ++ [n]) ((pre.length : Int) + 1)) (done ++ rgo v n t) := by
  unfold Fits at hl
  intro t
  induction t with
  | nil =>
    intro pre done v n hE h1 h2 h3
    refine Ev.succ ?_
    have hlen : (l.length : Int) = (pre.length : Int) + 1 := by rw [hE]; simp
    simp only [bellpullref02_Runs.l0]
    refine Ev.neg (by omega) ?_
    exact Ev.now _
  | cons x t ih =>
    intro pre done v n hE h1 h2 h3
    refine Ev.succ ?_
    have hlen : (l.length : Int) = (pre.length : Int) + 2 + t.length := by rw [hE]; simp; omega
    have hw1 : wrap64 ((pre.length : Int) + 1 - 1) = (pre.length : Int) := by rw [wrap_id] <;> omega
    have hw2 : wrap64 (((done ++ [n]).length : Int) - 1) = (done.length : Int) := by rw [wrap_id] <;> simp <;> omega
    have hw3 : wrap64 ((pre.length : Int) + 1 + 1) = (pre.length : Int) + 2 := by rw [wrap_id] <;> omega
    have hr1 : rd l ((pre.length : Int) + 1) = x := by
      have e : l = (pre ++ [v]) ++ x :: t := by rw [hE]; simp
      have := rd_app (pre ++ [v]) x t
      rw [← e] at this
      simpa using this
    have hr2 : rd l (pre.length : Int) = v := by
      have := rd_app pre v (x :: t)
      rwa [← hE] at this
    have hr3 : rd (done ++ [n]) (done.length : Int) = n := rd_app done n []
    have hw4 : wrap64 (n + 1) = n + 1 := by rw [wrap_id] <;> omega
    have hset : (done ++ [n]).set ((done.length : Int)).toNat (n + 1) = done ++ [n + 1] := by simp
    simp only [bellpullref02_Runs.l0, hw1, hw2, hw3, hr1, hr2, hr3, hw4, hset]
    refine Ev.pos (by omega) (Ev.pos (by omega) (Ev.pos (by omega) (Ev.pos (by omega) (Ev.pos (by omega) ?_))))
    by_cases hx : x = v
    · subst hx
      refine Ev.pos rfl (Ev.pos (by omega) (Ev.pos (by simp <;> omega) ?_))
      have := ih (pre ++ [x]) done x (n + 1) (by rw [hE]; simp) (by omega) (by simp; omega) (by simp; omega)
      simp only [rgo, if_true]
      simpa [Int.add_assoc] using this
    · refine Ev.neg hx (Ev.pos (by simp; omega) ?_)
      have := ih (pre ++ [v]) (done ++ [n]) x 1 (by rw [hE]; simp) (by omega) (by simp; omega) (by simp; omega)
      simp only [rgo, if_neg hx]
      simpa [Int.add_assoc] using this

theorem ref_Runs_ev (l : List Int) (hl : Fits l) : Ev (fun k => bellpullref02_Runs.f k l) (runsS l) := by
  unfold bellpullref02_Runs.f
  cases l with
  | nil =>
    refine Ev.succ ?_
    simp only [bellpullref02_Runs.l0]
    refine Ev.neg (by simp) (Ev.now _)
  | cons x t =>
    refine Ev.succ ?_
    have hl' := hl
    unfold Fits at hl'
    simp only [bellpullref02_Runs.l0]
    refine Ev.pos (by simp) (Ev.neg (by omega) (Ev.pos (by simp) ?_))
    have := ref_Runs_loop (x :: t) hl t [] [] x 1 rfl (by omega) (by simp) (by simp)
    have hw : wrap64 (0 + 1) = 1 := by rw [wrap_id] <;> omega
    simp only [hw]
    simpa [runsS] using this

/-! ### Same -/
theorem Before_loop (a b : List Int) (ha : Fits a) (hb : Fits b) : ∀ (d : Nat) (i : Nat), a.length - i = d → i ≤ a.length → i ≤ b.length → (∀ j, j < i → a[j]? = b[j]?) → (a = b → Ev (fun k => bellpullref01_Before.l0 k a b (i : Int)) false) := by
  unfold Fits at ha hb
  intro d
  induction d with
  | zero =>
    intro i hd h1 h2 hpre hab
    subst hab
    have : i = a.length := by omega
    subst this
    refine Ev.succ ?_
    simp only [bellpullref01_Before.l0]
    refine Ev.neg (by omega) ?_
    refine Ev.succ ?_
    simp only [bellpullref01_Before.j1]
    refine Ev.neg (by simp) ?_
    exact Ev.const (by simp)
  | succ d ih =>
    intro i hd h1 h2 hpre hab
    subst hab
    have hw : wrap64 ((i : Int) + 1) = ((i + 1 : Nat) : Int) := by rw [wrap_id] <;> omega
    refine Ev.succ ?_
    simp only [bellpullref01_Before.l0]
    refine Ev.pos (by omega) ?_
    refine Ev.succ ?_
    simp only [bellpullref01_Before.j1, hw]
    refine Ev.pos (by simp; omega) (Ev.pos (by omega) (Ev.pos (by omega) (Ev.pos (by omega) (Ev.pos trivial ?_))))
    exact ih (i + 1) (by omega) (by omega) (by omega) (fun j hj => rfl) rfl
theorem Before_self (a : List Int) (ha : Fits a) : Ev (fun k => bellpullref01_Before.f k a a) false :=
  Before_loop a a ha ha a.length 0 rfl (Nat.zero_le _) (Nat.zero_le _) (fun j hj => rfl) rfl
theorem Same_self (a : List Int) (ha : Fits a) : Ev (fun k => bellpullref01_Same.f k a a) true := by
  unfold bellpullref01_Same.f
  refine Ev.bind (Before_self a ha) ?_
  refine Ev.neg (by simp) ?_
  refine Ev.bind (Before_self a ha) ?_
  exact Ev.now _

end Go.Proofs.Ytploaicljkennaa.Pure
