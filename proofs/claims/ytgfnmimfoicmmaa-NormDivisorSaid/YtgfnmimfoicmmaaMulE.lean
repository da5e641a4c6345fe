/- Mul, Conj, Norm: what they return of quaternions in their range. -/
import Derived.Test.YtgfnmimfoicmmaaPMx3
import Derived.Test.YtgfnmimfoicmmaaPMx7
import Derived.Test.YtgfnmimfoicmmaaQuatE
set_option linter.unusedVariables false
set_option linter.unusedSimpArgs false
namespace Go.Proofs.Ytgfnmimfoicmmaa.Pure
open Go.RowKit Go.Proofs.Ytgfnmimfoicmmaa.PM Go.Proofs.YtgfnmimfoicmmaaW.PrintWords Go.Proofs.YtgfnmimfoicmmaaW.PrintLast

theorem chk1_ok {a b c d : Int} (h : itg a b c d) (hr : rng a b c d) : chk [⟨a, b, c, d⟩] = 0 := by
  unfold chk
  rw [if_pos (by simpa using h), if_pos (by simpa using hr)]
theorem chk2_ok {a b c d e f g h : Int} (h1 : itg a b c d) (h2 : rng a b c d) (h3 : itg e f g h) (h4 : rng e f g h) : chk [⟨a, b, c, d⟩, ⟨e, f, g, h⟩] = 0 := by
  unfold chk
  rw [if_pos (by simpa using ⟨h1, h3⟩), if_pos (by simpa using ⟨h2, h4⟩)]
/-- A product of two numbers, both small. -/
theorem D_sm {A B a b c d e f g h : Int} (ha : sm A a) (hb : sm A b) (hc : sm A c) (hd : sm A d) (he : sm B e) (hf : sm B f) (hg : sm B g) (hh : sm B h) :
    sm (4 * (A * B)) (D0 a b c d e f g h) ∧ sm (4 * (A * B)) (D1 a b c d e f g h) ∧ sm (4 * (A * B)) (D2 a b c d e f g h) ∧ sm (4 * (A * B)) (D3 a b c d e f g h) := by
  have q1 := mul_sm ha he; have q2 := mul_sm hb hf; have q3 := mul_sm hc hg; have q4 := mul_sm hd hh
  have q5 := mul_sm ha hf; have q6 := mul_sm hb he; have q7 := mul_sm hc hh; have q8 := mul_sm hd hg
  have q9 := mul_sm ha hg; have q10 := mul_sm hb hh; have q11 := mul_sm hc he; have q12 := mul_sm hd hf
  have q13 := mul_sm ha hh; have q14 := mul_sm hb hg; have q15 := mul_sm hc hf; have q16 := mul_sm hd he
  unfold sm at *
  unfold D0 D1 D2 D3
  refine ⟨?_, ?_, ?_, ?_⟩ <;> omega
/-- Four times the norm. -/
def N4 (a b c d : Int) : Int := a * a + b * b + c * c + d * d
theorem euler (a b c d e f g h : Int) : N4 (D0 a b c d e f g h) (D1 a b c d e f g h) (D2 a b c d e f g h) (D3 a b c d e f g h) = N4 a b c d * N4 e f g h := by
  unfold N4 D0 D1 D2 D3
  grind
theorem norm_ev {a b c d A : Int} (hA : A * A ≤ 1000000000000000000) (ha : sm A a) (hb : sm A b) (hc : sm A c) (hd : sm A d) : norm_quat_norm.f a b c d = some (Int.tdiv (N4 a b c d) 4) := by
  have q1 := mul_sm ha ha; have q2 := mul_sm hb hb; have q3 := mul_sm hc hc; have q4 := mul_sm hd hd
  have p : ∀ x : Int, 0 ≤ x * x := fun x => by
    rcases Int.le_total 0 x with h | h
    · exact Int.mul_nonneg h h
    · have := Int.mul_nonneg (show 0 ≤ -x by omega) (show 0 ≤ -x by omega)
      rwa [Int.neg_mul_neg] at this
  have p1 := p a; have p2 := p b; have p3 := p c; have p4 := p d
  unfold sm at q1 q2 q3 q4
  unfold norm_quat_norm.f N4
  generalize a * a = x1 at *
  generalize b * b = x2 at *
  generalize c * c = x3 at *
  generalize d * d = x4 at *
  rw [wrap_id (x := x1) (by omega) (by omega), wrap_id (x := x2) (by omega) (by omega), wrap_id (x := x3) (by omega) (by omega), wrap_id (x := x4) (by omega) (by omega), wrap_id (x := x1 + x2) (by omega) (by omega), wrap_id (x := x1 + x2 + x3) (by omega) (by omega), wrap_id (x := x1 + x2 + x3 + x4) (by omega) (by omega)]
  rw [Int.tdiv_eq_ediv_of_nonneg (by omega), wrap_id (by omega) (by omega)]
end Go.Proofs.Ytgfnmimfoicmmaa.Pure
