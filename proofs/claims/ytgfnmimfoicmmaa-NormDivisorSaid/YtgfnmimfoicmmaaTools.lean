/- Small tools for statements of the form 'with enough rounds the answer is r'. -/
import Derived.Test.YtgfnmimfoicmmaaWMore
set_option linter.unusedVariables false
set_option linter.unusedSimpArgs false
namespace Go.Proofs.Ytgfnmimfoicmmaa.Pure
open Go.RowKit Go.Proofs.YtgfnmimfoicmmaaW.PrintWords

theorem wrap_id {x : Int} (h0 : -9223372036854775808 ≤ x) (h1 : x ≤ 9223372036854775807) : wrap64 x = x := by
  unfold wrap64; omega

section
variable {α β : Type} {g a b : Nat → Option α} {r : α}
theorem Ev.rounds (h : Ev g r) : ∃ k, g k = some r := by
  obtain ⟨K, hK⟩ := h
  exact ⟨K, hK K (Nat.le_refl _)⟩
theorem Ev.succ (h : Ev (fun k => g (k + 1)) r) : Ev g r := Ev.step (fun _ => rfl) h
theorem Ev.pos {c : Prop} [Decidable c] (hc : c) (h : Ev a r) : Ev (fun k => if c then a k else b k) r := by
  simpa only [if_pos hc] using h
theorem Ev.neg {c : Prop} [Decidable c] (hc : ¬ c) (h : Ev b r) : Ev (fun k => if c then a k else b k) r := by
  simpa only [if_neg hc] using h
theorem Ev.bindc {o : Option β} {f : Nat → β → Option α} {x : β} (ho : o = some x) (h : Ev (fun k => f k x) r) : Ev (fun k => o.bind (f k)) r := by
  subst ho; simpa only [Option.bind_some] using h
theorem Ev.const {o : Option α} (h : o = some r) : Ev (fun _ => o) r := ⟨0, fun _ _ => h⟩
theorem Ev.uniq {r' : α} (h : Ev g r) (h' : Ev g r') : r = r' := by
  obtain ⟨K, hK⟩ := h
  obtain ⟨K', hK'⟩ := h'
  have e1 := hK (max K K') (Nat.le_max_left _ _)
  have e2 := hK' (max K K') (Nat.le_max_right _ _)
  rw [e1] at e2
  exact Option.some.inj e2
end

theorem rd_app (pre : List Int) (x : Int) (t : List Int) : rd (pre ++ x :: t) (pre.length : Int) = x := by
  simp [rd, List.getD_eq_getElem?_getD]
theorem rd_nat (l : List Int) (j : Nat) (h : j < l.length) : rd l (j : Int) = l[j] := by
  simp [rd, List.getD_eq_getElem?_getD, List.getElem?_eq_getElem h]
theorem rd_int (l : List Int) (i : Int) (h0 : 0 ≤ i) (h : i < (l.length : Int)) : rd l i = l[i.toNat]'(by omega) := by
  have := rd_nat l i.toNat (by omega)
  rwa [Int.toNat_of_nonneg h0] at this
theorem rd_last (pre : List Int) (v : Int) (t : List Int) : rd (pre ++ v :: t) (((pre ++ [v]).length : Int) - 1) = v := by
  have : ((pre ++ [v]).length : Int) - 1 = (pre.length : Int) := by simp
  rw [this, rd_app]
theorem set_last (done : List Int) (n m : Int) : (done ++ [n]).set (((done ++ [n]).length : Int) - 1).toNat m = done ++ [m] := by
  have : (((done ++ [n]).length : Int) - 1).toNat = done.length := by simp
  rw [this]; simp
theorem rd_end (done : List Int) (n : Int) : rd (done ++ [n]) (((done ++ [n]).length : Int) - 1) = n := rd_last done n []

theorem wf_u16 {a : Int} (h : (Lit.int .u16 a).wf = true) : 0 ≤ a ∧ a ≤ 65535 := by
  simp only [Lit.wf, Bool.and_eq_true, decide_eq_true_eq] at h
  exact h
theorem wf_u8 {a : Int} (h : (Lit.int .u8 a).wf = true) : 0 ≤ a ∧ a ≤ 255 := by
  simp only [Lit.wf, Bool.and_eq_true, decide_eq_true_eq] at h
  exact h
theorem wf_i64 {a : Int} (h : (Lit.int .i64 a).wf = true) : -9223372036854775808 ≤ a ∧ a ≤ 9223372036854775807 := by
  simp only [Lit.wf, Bool.and_eq_true, decide_eq_true_eq] at h
  exact h
theorem wf_i16 {a : Int} (h : (Lit.int .i16 a).wf = true) : -32768 ≤ a ∧ a ≤ 32767 := by
  simp only [Lit.wf, Bool.and_eq_true, decide_eq_true_eq] at h
  exact h

end Go.Proofs.Ytgfnmimfoicmmaa.Pure
