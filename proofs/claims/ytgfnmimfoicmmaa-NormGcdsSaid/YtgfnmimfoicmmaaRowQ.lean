/- A quaternion as an argument: opened, and shut. -/
import Derived.Test.YtgfnmimfoicmmaaProg
import Derived.WalkKit
import Derived.ProofKit
import Derived.OpenShut
import Derived.Lib.SmallJoins
import Derived.SizedLaws
set_option linter.unusedVariables false
namespace Go.Proofs.Ytgfnmimfoicmmaa.RowQ
open Go.ChangeShapes Go.WideShapes Go.ChangeAt Go.RowKit Go.Joins
section
variable {H : Type} {enc : TypeId × Value → H} {w : World} {base : Nat} {spare : Nat → Bool} {held : Bool}
theorem open_quat {r : Reach} {b0 : Nat} {v : Value} {d : DataW H} {p : List MemPlace} (hv : Value.okWide Try.prog w r b0 23 v) (h : DataW.Trod enc Try.prog w base spare held 23 v d p) :
    ∃ a b c e : Int, v = .agg #[.int .i64 a, .int .i64 b, .int .i64 c, .int .i64 e] ∧ d = .agg [.lit (.int .i64 a), .lit (.int .i64 b), .lit (.int .i64 c), .lit (.int .i64 e)] ∧ p = [] ∧
      (Lit.int .i64 a).wf = true ∧ (Lit.int .i64 b).wf = true ∧ (Lit.int .i64 c).wf = true ∧ (Lit.int .i64 e).wf = true := by
  obtain ⟨v0, v1, v2, v3, y0, y1, y2, y3, n, rfl, rfl, rfl, h0, h1, h2, h3⟩ := open_agg4 Try.underlying23 (by kernel_rfl) (by kernel_rfl) hv h
  obtain ⟨a, ea, rfl, wa⟩ := DataW.trod_int Try.underlying3 h0
  obtain ⟨b, eb, rfl, wb⟩ := DataW.trod_int Try.underlying3 h1
  obtain ⟨c, ec, rfl, wc⟩ := DataW.trod_int Try.underlying3 h2
  obtain ⟨e, ee, rfl, we⟩ := DataW.trod_int Try.underlying3 h3
  simp only [List.cons.injEq, and_true] at ea eb ec ee
  subst ea eb ec ee
  exact ⟨a, b, c, e, rfl, rfl, rfl, wa, wb, wc, we⟩
theorem shut_quat {a b c e : Int} (h : (Lit.int .i64 a).wf = true ∧ (Lit.int .i64 b).wf = true ∧ (Lit.int .i64 c).wf = true ∧ (Lit.int .i64 e).wf = true) :
    DataW.Trod enc Try.prog w base spare held 23 (.agg #[.int .i64 a, .int .i64 b, .int .i64 c, .int .i64 e]) (.agg [.lit (.int .i64 a), .lit (.int .i64 b), .lit (.int .i64 c), .lit (.int .i64 e)]) [] :=
  shut_agg4 (y0 := (.lit (.int .i64 a), [])) (y1 := (.lit (.int .i64 b), [])) (y2 := (.lit (.int .i64 c), [])) (y3 := (.lit (.int .i64 e), [])) Try.underlying23 (by kernel_rfl) (by kernel_rfl)
    ⟨1, trod_int_mk 0 Try.underlying3 h.1⟩ ⟨1, trod_int_mk 0 Try.underlying3 h.2.1⟩ ⟨1, trod_int_mk 0 Try.underlying3 h.2.2.1⟩ ⟨1, trod_int_mk 0 Try.underlying3 h.2.2.2⟩
end
end Go.Proofs.Ytgfnmimfoicmmaa.RowQ
