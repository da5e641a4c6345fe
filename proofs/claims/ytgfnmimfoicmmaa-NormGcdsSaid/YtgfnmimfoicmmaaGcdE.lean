/- Euclid's steps: both walk alike. -/
import Derived.Test.YtgfnmimfoicmmaaPMx5
import Derived.Test.YtgfnmimfoicmmaaPMx6
import Derived.Test.YtgfnmimfoicmmaaPMx39
import Derived.Test.YtgfnmimfoicmmaaPMx40
import Derived.Test.YtgfnmimfoicmmaaDivideI
set_option linter.unusedVariables false
set_option linter.unusedSimpArgs false
namespace Go.Proofs.Ytgfnmimfoicmmaa.Pure
open Go.RowKit Go.Proofs.Ytgfnmimfoicmmaa.PM Go.Proofs.YtgfnmimfoicmmaaW.PrintWords Go.Proofs.YtgfnmimfoicmmaaW.PrintLast
open Go.Proofs.Ytgfnmimfoicmmaa.Dv

theorem sm_of_sq {a : Int} (h : a * a ≤ 4000000) : sm 2000 a := by
  unfold sm
  constructor
  · rcases Int.lt_or_le a (-2000) with c | c
    · have := Int.mul_le_mul (show (2001 : Int) ≤ -a by omega) (show (2001 : Int) ≤ -a by omega) (by omega) (by omega)
      have e : -a * -a = a * a := by grind
      omega
    · exact c
  · rcases Int.lt_or_le 2000 a with c | c
    · have := Int.mul_le_mul (show (2001 : Int) ≤ a by omega) (show (2001 : Int) ≤ a by omega) (by omega) (by omega)
      omega
    · exact c
theorem sm_of_norm {a b c d : Int} (h : N4 a b c d ≤ 4000000) : sm 2000 a ∧ sm 2000 b ∧ sm 2000 c ∧ sm 2000 d := by
  have g0 := sq_pos a; have g1 := sq_pos b; have g2 := sq_pos c; have g3 := sq_pos d
  unfold N4 at h
  exact ⟨sm_of_sq (by omega), sm_of_sq (by omega), sm_of_sq (by omega), sm_of_sq (by omega)⟩
theorem norm_pos {a b c d : Int} (h : ¬ (a = 0 ∧ b = 0 ∧ c = 0 ∧ d = 0)) : 0 < N4 a b c d := by
  have g0 := sq_pos a; have g1 := sq_pos b; have g2 := sq_pos c; have g3 := sq_pos d
  have z : ∀ y : Int, y * y = 0 → y = 0 := fun y hy => by
    rcases Int.mul_eq_zero.mp hy with h | h <;> exact h
  have z0 := z a; have z1 := z b; have z2 := z c; have z3 := z d
  unfold N4
  omega
theorem euclid : ∀ (m : Nat) (a0 a1 a2 a3 b0 b1 b2 b3 : Int), itg a0 a1 a2 a3 → itg b0 b1 b2 b3 → (sm 2000 a0 ∧ sm 2000 a1 ∧ sm 2000 a2 ∧ sm 2000 a3) → N4 b0 b1 b2 b3 ≤ 4000000 → N4 b0 b1 b2 b3 < (m : Int) →
    ∃ g0 g1 g2 g3 : Int, itg g0 g1 g2 g3 ∧ (sm 2000 g0 ∧ sm 2000 g1 ∧ sm 2000 g2 ∧ sm 2000 g3) ∧
      (∀ r, Ev (fun k => (norm_units.f k).bind fun t => norm_Gcd.l1 k t (t.length : Int) 0 g0 g1 g2 g3 g0 g1 g2 g3) r → Ev (fun k => norm_Gcd.l0 k a0 a1 a2 a3 b0 b1 b2 b3) r) ∧
      (∀ r, Ev (fun k => (bellpullref04_Units.f k).bind fun t => bellpullref04_Gcd.l1 k t 0 g0 g1 g2 g3 g0 g1 g2 g3) r → Ev (fun k => bellpullref04_Gcd.l0 k a0 a1 a2 a3 b0 b1 b2 b3) r)
  | 0, a0, a1, a2, a3, b0, b1, b2, b3, _, _, _, _, h => by
    exfalso
    have g0 := sq_pos b0; have g1 := sq_pos b1; have g2 := sq_pos b2; have g3 := sq_pos b3
    unfold N4 at h
    omega
  | m + 1, a0, a1, a2, a3, b0, b1, b2, b3, ia, ib, sa, hb, h => by
    by_cases h0 : b0 = 0 ∧ b1 = 0 ∧ b2 = 0 ∧ b3 = 0
    · obtain ⟨rfl, rfl, rfl, rfl⟩ := h0
      refine ⟨a0, a1, a2, a3, ia, sa, fun r hr => Ev.succ ?_, fun r hr => Ev.succ ?_⟩
      · simp only [norm_Gcd.l0]
        exact Ev.neg (by simp) hr
      · simp only [bellpullref04_Gcd.l0]
        exact Ev.neg (by simp) hr
    · have sb := sm_of_norm hb
      obtain ⟨q0, q1, q2, q3, r0, r1, r2, r3, m0, m1, m2, m3, d1, d2, iq, ir, hle, _, _⟩ := both_divide2 ia sa.1 sa.2.1 sa.2.2.1 sa.2.2.2 ib sb.1 sb.2.1 sb.2.2.1 sb.2.2.2 hb h0
      have hp := norm_pos h0
      have hz : (!(b0 == 0) || (!(b1 == 0) || (!(b2 == 0) || (!(b3 == 0))))) = true := by simp; omega
      obtain ⟨g0, g1, g2, g3, ig, sg, e1, e2⟩ := euclid m b0 b1 b2 b3 r0 r1 r2 r3 ib ir sb (by omega) (by omega)
      refine ⟨g0, g1, g2, g3, ig, sg, fun r hr => Ev.succ ?_, fun r hr => Ev.succ ?_⟩
      · simp only [norm_Gcd.l0]
        exact Ev.pos hz (Ev.bind d1 (e1 r hr))
      · simp only [bellpullref04_Gcd.l0]
        exact Ev.pos hz (Ev.bind d2 (e2 r hr))
end Go.Proofs.Ytgfnmimfoicmmaa.Pure
