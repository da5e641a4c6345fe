/- Hurwitz' count, up to 10000. -/
import Derived.Test.YtgfnmimfoicmmaaJacS
namespace Go.Proofs.Ytgfnmimfoicmmaa.Jac
set_option exponentiation.threshold 1000000 in
theorem check2_ok : Nat.beq (Q (odd 200) 200 401 (2 ^ 13) (4 * (10000 + 1)) 9 + 8 * D g4 (2 ^ 52) 10000 14) (24 * D g2 (2 ^ 52) 10000 14) = true := by decide +kernel

theorem hurwitz_gen (b B K t m d e : Nat) (hb : b ^ 4 = B) (hB : 2 ≤ B) (hm : m ≤ 2 ^ d) (hK : K ≤ 2 ^ e) (f : Nat → Nat) (hf : conv (r2 (odd t) (sqd t) m) (r2 (odd t) (sqd t) m) = f) (hz : ∀ m, m % 4 ≠ 0 → f m = 0)
    (hc : Q (odd t) t m b (4 * (K + 1)) d + 8 * D g4 B K e = 24 * D g2 B K e)
    (b1 : ∀ v, v < K + 1 → f (4 * v) + 8 * dsum g4 v < B) (b2 : ∀ v, v < K + 1 → 24 * dsum g2 v < B) (n : Nat) (hn : n ≤ K) : f (4 * n) + 8 * dsum g4 n = 24 * dsum g2 n := by
  rw [← four_mod (odd t) t m b (4 * (K + 1)) d hm, D_eq g4 B K e hB hK, D_eq g2 B K e hB hK, hf] at hc
  have e1 : pack b f (4 * (K + 1)) = pack B (fun n => f (4 * n)) (K + 1) := by
    rw [pack, pack, S_four (fun m h => by rw [hz m h, Nat.zero_mul])]
    refine S_congr _ (fun v _ => ?_)
    rw [Nat.pow_mul, hb]
  have e2 : b ^ (4 * (K + 1)) = B ^ (K + 1) := by rw [Nat.pow_mul, hb]
  rw [e1, e2, Nat.mod_eq_of_lt (pack_lt _ (fun v hv => by have := b1 v hv; omega))] at hc
  have e3 : pack B (fun n => f (4 * n) + 8 * dsum g4 n) (K + 1) = pack B (fun n => 24 * dsum g2 n) (K + 1) := by
    have l1 : pack B (fun n => f (4 * n) + 8 * dsum g4 n) (K + 1) = pack B (fun n => f (4 * n)) (K + 1) + 8 * pack B (dsum g4) (K + 1) := by
      simp only [pack]
      rw [← S_mul, ← S_add]
      exact S_congr _ (fun v _ => by rw [Nat.add_mul, Nat.mul_assoc])
    have l2 : pack B (fun n => 24 * dsum g2 n) (K + 1) = 24 * pack B (dsum g2) (K + 1) := by
      simp only [pack]
      rw [← S_mul]
      exact S_congr _ (fun v _ => by rw [Nat.mul_assoc])
    rw [l1, l2, hc]
  exact pack_inj (K + 1) b1 b2 e3 n (by omega)
/-- Hurwitz: up to 10000. -/
theorem hurwitz (n : Nat) (hn : n ≤ 10000) : conv (r2 (odd 200) (sqd 200) 401) (r2 (odd 200) (sqd 200) 401) (4 * n) + 8 * dsum g4 n = 24 * dsum g2 n := by
  refine hurwitz_gen (2 ^ 13) (2 ^ 52) 10000 200 401 9 14 (by decide) (by decide) (by decide) (by decide) _ rfl conv_odd (Nat.eq_of_beq_eq_true check2_ok) (fun v hv => ?_) (fun v hv => ?_) n hn
  · have h1 := conv_le (fun v => r2_le (odd 200) (sqd 200) 401 v) (4 * v)
    have h2 : (4 * v + 1) * ((401 * 401) * (401 * 401)) ≤ 40001 * ((401 * 401) * (401 * 401)) := Nat.mul_le_mul_right _ (by omega)
    have h3 := dsum_le g4 v
    have h4 := small (Nat.le_refl _) hv
    omega
  · have h2 := dsum_le g2 v
    have h3 := small (Nat.le_refl _) hv
    omega
end Go.Proofs.Ytgfnmimfoicmmaa.Jac
