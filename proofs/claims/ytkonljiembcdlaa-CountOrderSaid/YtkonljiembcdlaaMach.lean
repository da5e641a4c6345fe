/- A stack machine over values of some kind, in plain Lean. -/
import Derived.Lib.Bytealg
namespace Go.Proofs.Mach
variable {M : Type} (letter : Int → Option M) (join either : M → M → Option M) (star : M → Option M)
/-- One sign. none: what it calls has no value; some none: malformed. -/
def step (c : UInt8) (st : List M) : Option (Option (List M)) :=
  if c = 97 then (letter 0).map fun x => some (st ++ [x])
  else if c = 98 then (letter 1).map fun x => some (st ++ [x])
  else if c = 99 then (letter 2).map fun x => some (st ++ [x])
  else if c = 101 then (letter (-1)).map fun x => some (st ++ [x])
  else if c = 46 then (match st.reverse with | b :: a :: r => (join a b).map fun x => some (r.reverse ++ [x]) | _ => some none)
  else if c = 43 then (match st.reverse with | b :: a :: r => (either a b).map fun x => some (r.reverse ++ [x]) | _ => some none)
  else if c = 42 then (match st.reverse with | a :: r => (star a).map fun x => some (r.reverse ++ [x]) | _ => some none)
  else some none
def run : List UInt8 → List M → Option (Option M)
  | [], st => some (match st with | [x] => some x | _ => none)
  | c :: r, st => (step letter join either star c st).bind fun o => match o with | none => some none | some st' => run r st'
theorem step_letter {c : UInt8} {i : Int} (h : c = 97 ∧ i = 0 ∨ c = 98 ∧ i = 1 ∨ c = 99 ∧ i = 2 ∨ c = 101 ∧ i = -1) (st : List M) : step letter join either star c st = (letter i).map fun x => some (st ++ [x]) := by
  rcases h with ⟨rfl, rfl⟩ | ⟨rfl, rfl⟩ | ⟨rfl, rfl⟩ | ⟨rfl, rfl⟩ <;> simp [step]
theorem step_dot (st : List M) (a b : M) : step letter join either star 46 (st ++ [a, b]) = (join a b).map fun x => some (st ++ [x]) := by
  simp [step]
theorem step_plus (st : List M) (a b : M) : step letter join either star 43 (st ++ [a, b]) = (either a b).map fun x => some (st ++ [x]) := by
  simp [step]
theorem step_star (st : List M) (a : M) : step letter join either star 42 (st ++ [a]) = (star a).map fun x => some (st ++ [x]) := by
  simp [step]
theorem step_few {c : UInt8} {st : List M} (h : (c = 46 ∨ c = 43) ∧ st.length < 2 ∨ c = 42 ∧ st.length < 1) : step letter join either star c st = some none := by
  rcases h with ⟨h, hl⟩ | ⟨rfl, hl⟩
  · match st, hl with
    | [], _ => rcases h with rfl | rfl <;> simp [step]
    | [a], _ => rcases h with rfl | rfl <;> simp [step]
  · match st, hl with
    | [], _ => simp [step]
theorem step_other {c : UInt8} {st : List M} (h : c ≠ 97 ∧ c ≠ 98 ∧ c ≠ 99 ∧ c ≠ 101 ∧ c ≠ 46 ∧ c ≠ 43 ∧ c ≠ 42) : step letter join either star c st = some none := by
  obtain ⟨h1, h2, h3, h4, h5, h6, h7⟩ := h
  simp [step, h1, h2, h3, h4, h5, h6, h7]
theorem run_cons {c : UInt8} {r : List UInt8} {st : List M} {o : Option M} (h : run letter join either star (c :: r) st = some o) : ∃ q, step letter join either star c st = some q ∧ ((q = none ∧ o = none) ∨ ∃ st', q = some st' ∧ run letter join either star r st' = some o) := by
  rw [run] at h
  obtain ⟨q, hq, h⟩ := Option.bind_eq_some_iff.mp h
  refine ⟨q, hq, ?_⟩
  cases q with
  | none => exact .inl ⟨rfl, (Option.some.inj h).symm⟩
  | some st' => exact .inr ⟨st', rfl, h⟩
theorem last_two {st : List M} (h : 2 ≤ st.length) : ∃ s a b, st = s ++ [a, b] := by
  obtain ⟨s, b, rfl⟩ : ∃ s b, st = s ++ [b] := ⟨st.dropLast, st.getLast (by intro e; simp [e] at h), (List.dropLast_concat_getLast _).symm⟩
  have h2 : 1 ≤ s.length := by simp at h; omega
  obtain ⟨t, a, rfl⟩ : ∃ t a, s = t ++ [a] := ⟨s.dropLast, s.getLast (by intro e; simp [e] at h2), (List.dropLast_concat_getLast _).symm⟩
  exact ⟨t, a, b, by simp⟩
theorem last_one {st : List M} (h : 1 ≤ st.length) : ∃ s a, st = s ++ [a] := ⟨st.dropLast, st.getLast (by intro e; simp [e] at h), (List.dropLast_concat_getLast _).symm⟩
end Go.Proofs.Mach
