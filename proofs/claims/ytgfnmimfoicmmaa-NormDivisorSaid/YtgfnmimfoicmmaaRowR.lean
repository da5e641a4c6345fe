/- An array of four numbers as an argument: opened, and shut. -/
import Derived.Test.YtgfnmimfoicmmaaRowQ
set_option linter.unusedVariables false
namespace Go.Proofs.Ytgfnmimfoicmmaa.RowQ
open Go.ChangeShapes Go.WideShapes Go.ChangeAt Go.RowKit Go.Joins
section
variable {H : Type} {enc : TypeId × Value → H} {w : World} {base : Nat} {spare : Nat → Bool} {held : Bool}
theorem open_four {r : Reach} {b0 : Nat} {v : Value} {d : DataW H} {p : List MemPlace} (hv : Value.okWide Try.prog w r b0 47 v) (h : DataW.Trod enc Try.prog w base spare held 47 v d p) :
    ∃ a b c e : Int, v = .agg #[.int .i16 a, .int .i16 b, .int .i16 c, .int .i16 e] ∧ d = .agg [.lit (.int .i16 a), .lit (.int .i16 b), .lit (.int .i16 c), .lit (.int .i16 e)] ∧ p = [] ∧
      (Lit.int .i16 a).wf = true ∧ (Lit.int .i16 b).wf = true ∧ (Lit.int .i16 c).wf = true ∧ (Lit.int .i16 e).wf = true := by
  simp only [Value.okWide, Try.underlying47] at hv
  obtain ⟨cs, rfl, hs, _⟩ := hv
  have hC : Try.prog.cellsOf 47 = 4 := by kernel_rfl
  have hE : Try.prog.cellsOf 46 = 1 := by kernel_rfl
  obtain ⟨v0, v1, v2, v3, rfl⟩ := array4 (hs.trans hC)
  obtain ⟨fuel, hf⟩ := h
  cases fuel with
  | zero => simp [DataW.trod] at hf
  | succ m =>
    rw [DataW.trod_step] at hf
    unfold DataW.trodStep at hf
    simp only [Try.underlying47, Value.cells] at hf
    rw [if_pos (by rw [hC]; rfl)] at hf
    simp only [Option.map_eq_some_iff] at hf
    obtain ⟨ys, hy, e1⟩ := hf
    rw [hE] at hy
    simp only [show List.range 4 = [0, 1, 2, 3] from rfl, List.mapM_cons, List.mapM_nil, bind, pure, Option.bind_eq_some_iff, Option.some.injEq] at hy
    obtain ⟨y0, h0, z0, ⟨y1, h1, z1, ⟨y2, h2, z2, ⟨y3, h3, z3, rfl, rfl⟩, rfl⟩, rfl⟩, rfl⟩ := hy
    obtain ⟨a, ea, rfl, wa⟩ := DataW.trod_int Try.underlying46 h0
    obtain ⟨b, eb, rfl, wb⟩ := DataW.trod_int Try.underlying46 h1
    obtain ⟨c, ec, rfl, wc⟩ := DataW.trod_int Try.underlying46 h2
    obtain ⟨e, ee, rfl, we⟩ := DataW.trod_int Try.underlying46 h3
    simp at ea eb ec ee e1
    subst ea eb ec ee
    exact ⟨a, b, c, e, rfl, e1.1.symm, e1.2.symm ▸ rfl, wa, wb, wc, we⟩
theorem shut_four {a b c e : Int} (h : (Lit.int .i16 a).wf = true ∧ (Lit.int .i16 b).wf = true ∧ (Lit.int .i16 c).wf = true ∧ (Lit.int .i16 e).wf = true) :
    DataW.Trod enc Try.prog w base spare held 47 (.agg #[.int .i16 a, .int .i16 b, .int .i16 c, .int .i16 e]) (.agg [.lit (.int .i16 a), .lit (.int .i16 b), .lit (.int .i16 c), .lit (.int .i16 e)]) [] := by
  have hC : Try.prog.cellsOf 47 = 4 := by kernel_rfl
  have hE : Try.prog.cellsOf 46 = 1 := by kernel_rfl
  refine ⟨2, ?_⟩
  rw [DataW.trod_step]
  unfold DataW.trodStep
  simp only [Try.underlying47, Value.cells]
  rw [if_pos (by rw [hC]; rfl), hE]
  have t : ∀ n, (Lit.int .i16 n).wf = true → DataW.trod enc Try.prog w base spare held 1 46 [.int .i16 n] = some (.lit (.int .i16 n), []) := fun n hn => trod_int_mk 0 Try.underlying46 hn
  simp only [show List.range 4 = [0, 1, 2, 3] from rfl, List.mapM_cons, List.mapM_nil, bind, pure]
  simp [t _ h.1, t _ h.2.1, t _ h.2.2.1, t _ h.2.2.2]
end
end Go.Proofs.Ytgfnmimfoicmmaa.RowQ
