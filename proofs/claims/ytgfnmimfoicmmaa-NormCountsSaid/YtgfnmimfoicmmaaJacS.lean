/- Sums over the first numbers, numbers that hold a row of digits, and the numbers of ways to write a number as four squares: plain counting, no program in sight. -/
namespace Go.Proofs.Ytgfnmimfoicmmaa.Jac

/-- The sum of the first n values. -/
def S (f : Nat → Nat) : Nat → Nat
  | 0 => 0
  | n + 1 => S f n + f n
theorem S_congr {f g : Nat → Nat} : ∀ n, (∀ i, i < n → f i = g i) → S f n = S g n
  | 0, _ => rfl
  | n + 1, h => by rw [S, S, S_congr n (fun i hi => h i (by omega)), h n (by omega)]
theorem S_add (f g : Nat → Nat) : ∀ n, S (fun i => f i + g i) n = S f n + S g n
  | 0 => rfl
  | n + 1 => by simp only [S, S_add f g n]; omega
theorem S_mul (c : Nat) (f : Nat → Nat) : ∀ n, S (fun i => c * f i) n = c * S f n
  | 0 => by simp [S]
  | n + 1 => by simp only [S, S_mul c f n, Nat.mul_add]
theorem S_mulr (c : Nat) (f : Nat → Nat) (n : Nat) : S (fun i => f i * c) n = S f n * c := by
  rw [Nat.mul_comm, ← S_mul]; exact S_congr n (fun i _ => Nat.mul_comm _ _)
theorem S_zero : ∀ n, S (fun _ => 0) n = 0
  | 0 => rfl
  | n + 1 => by simp [S, S_zero n]
theorem S_null {f : Nat → Nat} (n : Nat) (h : ∀ i, i < n → f i = 0) : S f n = 0 := (S_congr n h).trans (S_zero n)
theorem S_swap (f : Nat → Nat → Nat) (m : Nat) : ∀ n, S (fun i => S (fun j => f i j) m) n = S (fun j => S (fun i => f i j) n) m
  | 0 => by simp [S, S_zero]
  | n + 1 => by simp only [S, S_swap f m n, S_add]
theorem S_one (a c : Nat) : ∀ n, S (fun i => if i = a then c else 0) n = if a < n then c else 0
  | 0 => by simp [S]
  | n + 1 => by
    rw [S, S_one a c n]
    by_cases h : a < n
    · rw [if_pos h, if_neg (by omega), if_pos (by omega)]; rfl
    · by_cases h2 : n = a
      · rw [if_neg h, if_pos h2, if_pos (by omega)]; omega
      · rw [if_neg h, if_neg h2, if_neg (by omega)]
theorem S_le {f g : Nat → Nat} : ∀ n, (∀ i, i < n → f i ≤ g i) → S f n ≤ S g n
  | 0, _ => Nat.le_refl _
  | n + 1, h => Nat.add_le_add (S_le n (fun i hi => h i (by omega))) (h n (by omega))
theorem S_const (c : Nat) : ∀ n, S (fun _ => c) n = n * c
  | 0 => by simp [S]
  | n + 1 => by rw [S, S_const c n, Nat.succ_mul]
theorem S_shift (f : Nat → Nat) (a : Nat) : ∀ n, S f (a + n) = S f a + S (fun i => f (a + i)) n
  | 0 => rfl
  | n + 1 => by rw [← Nat.add_assoc, S, S_shift f a n, S, Nat.add_assoc]
/-- The same sum, taken apart in the middle again and again: what the kernel counts with. -/
def T (f : Nat → Nat) : Nat → Nat → Nat
  | 0, lo => f lo
  | d + 1, lo => T f d lo + T f d (lo + 2 ^ d)
theorem T_eq (f : Nat → Nat) : ∀ d lo, T f d lo = S (fun i => f (lo + i)) (2 ^ d)
  | 0, lo => by simp [T, S]
  | d + 1, lo => by
    have e : 2 ^ (d + 1) = 2 ^ d + 2 ^ d := by rw [Nat.pow_succ]; omega
    rw [T, T_eq f d lo, T_eq f d (lo + 2 ^ d), e, S_shift (fun i => f (lo + i))]
    congr 1
    exact S_congr _ (fun i _ => by rw [Nat.add_assoc])
theorem T_upto (f : Nat → Nat) (d n : Nat) (h : n ≤ 2 ^ d) : T (fun i => if i < n then f i else 0) d 0 = S f n := by
  rw [T_eq, show 2 ^ d = n + (2 ^ d - n) by omega, S_shift]
  rw [show S (fun i => (fun i => if 0 + i < n then f (0 + i) else 0) (n + i)) (2 ^ d - n) = 0 from
    S_null _ (fun i _ => by dsimp only; exact if_neg (by omega))]
  exact S_congr n (fun i hi => by rw [Nat.zero_add, if_pos hi])

/-- A row of digits as a number. -/
def pack (B : Nat) (f : Nat → Nat) (N : Nat) : Nat := S (fun v => f v * B ^ v) N
theorem pack_lt {B : Nat} {f : Nat → Nat} : ∀ N, (∀ v, v < N → f v < B) → pack B f N < B ^ N
  | 0, _ => by simp [pack, S]
  | N + 1, h => by
    have ih := pack_lt N (fun v hv => h v (by omega))
    have h1 : (f N + 1) * B ^ N ≤ B * B ^ N := Nat.mul_le_mul_right _ (h N (by omega))
    show pack B f N + f N * B ^ N < B ^ (N + 1)
    rw [Nat.pow_succ, Nat.mul_comm (B ^ N) B]
    rw [Nat.succ_mul] at h1
    omega
theorem pack_inj {B : Nat} {f g : Nat → Nat} : ∀ N, (∀ v, v < N → f v < B) → (∀ v, v < N → g v < B) → pack B f N = pack B g N → ∀ v, v < N → f v = g v
  | 0, _, _, _, v, hv => absurd hv (by omega)
  | N + 1, hf, hg, h, v, hv => by
    have lf := pack_lt N (fun v hv => hf v (by omega))
    have lg := pack_lt N (fun v hv => hg v (by omega))
    have h' : pack B f N + f N * B ^ N = pack B g N + g N * B ^ N := h
    have e1 := congrArg (· / B ^ N) h'
    have e2 := congrArg (· % B ^ N) h'
    have hp : 0 < B ^ N := by omega
    simp only [Nat.add_mul_div_right _ _ hp, Nat.add_mul_mod_self_right, Nat.div_eq_of_lt lf, Nat.div_eq_of_lt lg, Nat.mod_eq_of_lt lf, Nat.mod_eq_of_lt lg, Nat.zero_add] at e1 e2
    by_cases hvN : v = N
    · subst hvN; exact e1
    · exact pack_inj N (fun v hv => hf v (by omega)) (fun v hv => hg v (by omega)) e2 v (by omega)
def conv (f g : Nat → Nat) (n : Nat) : Nat := S (fun v => f v * g (n - v)) (n + 1)
/-- The sum to N with a guard is the sum up to n. -/
theorem S_guard (f : Nat → Nat) (n N : Nat) (h : n < N) : S (fun i => if i ≤ n then f i else 0) N = S f (n + 1) := by
  rw [show N = (n + 1) + (N - (n + 1)) by omega, S_shift]
  rw [show S (fun i => (fun i => if i ≤ n then f i else 0) (n + 1 + i)) (N - (n + 1)) = 0 from
    S_null _ (fun i _ => by dsimp only; exact if_neg (by omega))]
  exact S_congr _ (fun i hi => if_pos (by omega))
theorem S_mod {f g : Nat → Nat} (M : Nat) : ∀ n, (∀ i, i < n → f i % M = g i % M) → S f n % M = S g n % M
  | 0, _ => rfl
  | n + 1, h => by
    rw [S, S, Nat.add_mod, S_mod M n (fun i hi => h i (by omega)), h n (by omega), ← Nat.add_mod]
theorem shift_mod (B : Nat) (g : Nat → Nat) (i N : Nat) (hi : i < N) : (B ^ i * pack B g N) % B ^ N = S (fun n => if i ≤ n then g (n - i) * B ^ n else 0) N % B ^ N := by
  have e1 : S (fun n => if i ≤ n then g (n - i) * B ^ n else 0) N = B ^ i * pack B g (N - i) := by
    conv => lhs; rw [show N = i + (N - i) by omega]
    rw [S_shift]
    rw [show S (fun n => if i ≤ n then g (n - i) * B ^ n else 0) i = 0 from
      S_null _ (fun j hj => by exact if_neg (by omega))]
    rw [Nat.zero_add, pack, ← S_mul]
    refine S_congr _ (fun j hj => ?_)
    rw [if_pos (by omega), show i + j - i = j by omega, Nat.pow_add]
    grind
  have e2 : pack B g N = pack B g (N - i) + B ^ (N - i) * S (fun j => g (N - i + j) * B ^ j) i := by
    conv => lhs; rw [show N = (N - i) + i by omega]
    rw [pack, S_shift, ← S_mul]
    congr 1
    refine S_congr _ (fun j hj => ?_)
    rw [Nat.pow_add]
    grind
  rw [e1, e2, Nat.mul_add, ← Nat.mul_assoc, ← Nat.pow_add, show i + (N - i) = N by omega, Nat.add_mul_mod_self_left]
theorem pack_conv (B : Nat) (f g : Nat → Nat) (N : Nat) : (pack B f N * pack B g N) % B ^ N = pack B (conv f g) N % B ^ N := by
  have e1 : pack B f N * pack B g N = S (fun i => f i * (B ^ i * pack B g N)) N := by
    rw [pack, ← S_mulr]
    exact S_congr _ (fun i _ => by rw [Nat.mul_assoc])
  have e2 : pack B (conv f g) N = S (fun i => f i * S (fun n => if i ≤ n then g (n - i) * B ^ n else 0) N) N := by
    have : ∀ i, i < N → f i * S (fun n => if i ≤ n then g (n - i) * B ^ n else 0) N = S (fun n => if i ≤ n then f i * g (n - i) * B ^ n else 0) N := fun i _ => by
      rw [← S_mul]
      exact S_congr _ (fun n _ => by split <;> simp [Nat.mul_assoc])
    rw [S_congr N this, S_swap]
    refine S_congr _ (fun n hn => ?_)
    rw [S_guard (fun i => f i * g (n - i) * B ^ n) n N hn, S_mulr]
    rfl
  rw [e1, e2]
  exact S_mod _ N (fun i hi => by rw [Nat.mul_mod, shift_mod B g i N hi, ← Nat.mul_mod])

/-- The powers of B at the multiples of e. -/
def H (B e N : Nat) : Nat := S (fun n => if 0 < n ∧ n % e = 0 then B ^ n else 0) N
theorem H_eq (B e : Nat) (he : 0 < e) (hB : 0 < B) : ∀ N, 0 < N → H B e N * (B ^ e - 1) + B ^ e = B ^ (e * ((N - 1) / e + 1))
  | 1, _ => by simp [H, S]
  | N + 2, _ => by
    have ih := H_eq B e he hB (N + 1) (by omega)
    have hp : 0 < B ^ e := Nat.pow_pos hB
    have hs : H B e (N + 2) = H B e (N + 1) + (if 0 < N + 1 ∧ (N + 1) % e = 0 then B ^ (N + 1) else 0) := rfl
    rw [hs]
    simp only [Nat.add_sub_cancel] at ih
    simp only [show N + 2 - 1 = N + 1 by omega]
    by_cases h : (N + 1) % e = 0
    · have h1 : e * ((N + 1) / e) = N + 1 := Nat.mul_div_cancel' (Nat.dvd_of_mod_eq_zero h)
      have h2 : N / e + 1 = (N + 1) / e := by
        have hd : (N + 1) / e ≥ 1 := by
          rcases Nat.eq_zero_or_pos ((N + 1) / e) with h0 | h0
          · rw [h0] at h1; omega
          · exact h0
        have e1 : N / e = (N + 1) / e - 1 := by
          have : N = (e - 1) + e * ((N + 1) / e - 1) := by
            have : e * ((N + 1) / e) = e * ((N + 1) / e - 1) + e := by
              conv => lhs; rw [show (N + 1) / e = ((N + 1) / e - 1) + 1 by omega]
              rw [Nat.mul_add, Nat.mul_one]
            omega
          conv => lhs; rw [this]
          rw [Nat.add_mul_div_left _ _ he, Nat.div_eq_of_lt (by omega)]
          omega
        omega
      rw [h2, h1] at ih
      rw [if_pos ⟨by omega, h⟩, Nat.mul_add, h1, Nat.mul_one, Nat.add_mul, Nat.pow_add B (N + 1) e]
      have : B ^ (N + 1) * (B ^ e - 1) + B ^ (N + 1) = B ^ (N + 1) * B ^ e := by
        conv => rhs; rw [show B ^ e = (B ^ e - 1) + 1 by omega, Nat.mul_add, Nat.mul_one]
      omega
    · rw [if_neg (by omega)]
      have h2 : (N + 1) / e = N / e := by
        rw [Nat.succ_div, if_neg]
        · rfl
        · intro c; exact h (Nat.mod_eq_zero_of_dvd c)
      rw [h2]
      simpa using ih
/-- The same, by one division: what the kernel counts with. -/
def H' (B e N : Nat) : Nat := (B ^ (e * ((N - 1) / e + 1)) - B ^ e) / (B ^ e - 1)
theorem H'_eq (B e N : Nat) (he : 0 < e) (hB : 2 ≤ B) (hN : 0 < N) : H' B e N = H B e N := by
  have h := H_eq B e he (by omega) N hN
  have hp : 2 ≤ B ^ e := by
    have := Nat.pow_le_pow_left hB e
    have h2 : 2 ^ 1 ≤ 2 ^ e := Nat.pow_le_pow_right (by omega) he
    omega
  rw [H', ← h, Nat.add_sub_cancel, Nat.mul_div_cancel _ (by omega)]
/-- The sum of the good divisors of n. -/
def dsum (g : Nat → Bool) (n : Nat) : Nat := S (fun i => if n % (i + 1) = 0 ∧ g (i + 1) = true then i + 1 else 0) n
theorem dsum_pack (B : Nat) (g : Nat → Bool) (hB : 2 ≤ B) (N : Nat) : pack B (dsum g) (N + 1) = S (fun i => if g (i + 1) = true then (i + 1) * H' B (i + 1) (N + 1) else 0) N := by
  have e1 : ∀ n, n < N + 1 → dsum g n * B ^ n = S (fun i => if g (i + 1) = true then (i + 1) * (if 0 < n ∧ n % (i + 1) = 0 then B ^ n else 0) else 0) N := fun n hn => by
    rw [dsum, ← S_mulr]
    have e2 : S (fun i => if g (i + 1) = true then (i + 1) * (if 0 < n ∧ n % (i + 1) = 0 then B ^ n else 0) else 0) N = S (fun i => (if n % (i + 1) = 0 ∧ g (i + 1) = true then i + 1 else 0) * B ^ n) n := by
      rw [show N = n + (N - n) by omega, S_shift]
      rw [S_null (N - n) (fun i _ => by
        by_cases h0 : 0 < n
        · have : n % (n + i + 1) = n := Nat.mod_eq_of_lt (by omega)
          simp only [this]
          rw [if_neg (show ¬ (0 < n ∧ n = 0) by omega)]
          simp
        · simp [h0]), Nat.add_zero]
      refine S_congr n (fun i hi => ?_)
      have h0 : 0 < n := by omega
      by_cases hg : g (i + 1) = true <;> by_cases hm : n % (i + 1) = 0 <;> simp [hg, hm, h0]
    exact e2.symm
  rw [pack, S_congr (N + 1) e1, S_swap]
  refine S_congr N (fun i _ => ?_)
  by_cases hg : g (i + 1) = true
  · simp only [hg, if_true]
    rw [S_mul, H'_eq B (i + 1) (N + 1) (by omega) hB (by omega)]
    rfl
  · simp only [hg]
    exact S_null _ (fun _ _ => by simp)
theorem dsum_le (g : Nat → Bool) (n : Nat) : dsum g n ≤ n * n := by
  have : dsum g n ≤ S (fun _ => n) n := S_le n (fun i hi => by split <;> omega)
  rwa [S_const] at this

/-! The numbers of ways. -/
/-- How many i below m have sqd i = v and are let in by o. -/
def r1 (o : Nat → Bool) (sqd : Nat → Nat) (m v : Nat) : Nat := S (fun i => if o i = true ∧ v = sqd i then 1 else 0) m
def r2 (o : Nat → Bool) (sqd : Nat → Nat) (m v : Nat) : Nat := S (fun i => S (fun j => if o i = true ∧ o j = true ∧ sqd i + sqd j = v then 1 else 0) m) m
theorem r2_conv (o : Nat → Bool) (sqd : Nat → Nat) (m v : Nat) : r2 o sqd m v = conv (r1 o sqd m) (r1 o sqd m) v := by
  have e1 : conv (r1 o sqd m) (r1 o sqd m) v = S (fun u => S (fun i => S (fun j => (if o i = true ∧ u = sqd i then 1 else 0) * (if o j = true ∧ v - u = sqd j then 1 else 0)) m) m) (v + 1) := by
    refine S_congr _ (fun u _ => ?_)
    rw [r1, ← S_mulr]
    exact S_congr _ (fun i _ => by rw [r1, ← S_mul])
  rw [e1, S_swap, r2]
  refine S_congr m (fun i _ => ?_)
  rw [S_swap]
  refine S_congr m (fun j _ => ?_)
  have e2 : ∀ u, u < v + 1 → (if o i = true ∧ u = sqd i then 1 else 0) * (if o j = true ∧ v - u = sqd j then 1 else 0) = if u = sqd i then (if o i = true ∧ o j = true ∧ sqd i + sqd j = v then 1 else 0) else 0 := fun u hu => by
    by_cases h1 : u = sqd i
    · subst h1
      by_cases a : o i = true <;> by_cases b : o j = true <;> by_cases c : v - sqd i = sqd j
      all_goals simp [a, b, c]
      · omega
      · omega
    · simp [h1]
  rw [S_congr _ e2, S_one]
  by_cases h : sqd i < v + 1
  · rw [if_pos h]
  · rw [if_neg h, if_neg (by omega)]
theorem r1_pack (B : Nat) (o : Nat → Bool) (sqd : Nat → Nat) (m N : Nat) : pack B (r1 o sqd m) N = S (fun i => if o i = true ∧ sqd i < N then B ^ sqd i else 0) m := by
  have e1 : ∀ v, v < N → r1 o sqd m v * B ^ v = S (fun i => if v = sqd i then (if o i = true then B ^ sqd i else 0) else 0) m := fun v _ => by
    rw [r1, ← S_mulr]
    refine S_congr m (fun i _ => ?_)
    by_cases h1 : v = sqd i
    · subst h1; by_cases a : o i = true <;> simp [a]
    · simp [h1]
  rw [pack, S_congr N e1, S_swap]
  refine S_congr m (fun i _ => ?_)
  rw [S_one]
  by_cases h1 : sqd i < N <;> by_cases a : o i = true <;> simp [h1, a]
theorem r2_le (o : Nat → Bool) (sqd : Nat → Nat) (m v : Nat) : r2 o sqd m v ≤ m * m := by
  have : r2 o sqd m v ≤ S (fun _ => m) m := S_le m (fun i _ => by
    have : S (fun j => if o i = true ∧ o j = true ∧ sqd i + sqd j = v then 1 else 0) m ≤ S (fun _ => 1) m := S_le m (fun j _ => by split <;> omega)
    rw [S_const] at this; omega)
  rwa [S_const] at this
theorem conv_le {f : Nat → Nat} {M : Nat} (h : ∀ v, f v ≤ M) (n : Nat) : conv f f n ≤ (n + 1) * (M * M) := by
  have : conv f f n ≤ S (fun _ => M * M) (n + 1) := S_le _ (fun v _ => Nat.mul_le_mul (h _) (h _))
  rwa [S_const] at this

/-! Counted by the kernel, for the numbers up to 10000. -/
def sqd (t i : Nat) : Nat := (i - t + (t - i)) * (i - t + (t - i))
def all (_ : Nat) : Bool := true
def odd (t i : Nat) : Bool := (i + t) % 2 == 1
def g4 (d : Nat) : Bool := !(d % 4 == 0)
def g2 (d : Nat) : Bool := d % 2 == 1
def D (g : Nat → Bool) (B K d : Nat) : Nat := T (fun i => if i < K then (if g (i + 1) = true then (i + 1) * H' B (i + 1) (K + 1) else 0) else 0) d 0
def Th (o : Nat → Bool) (t m B N d : Nat) : Nat := T (fun i => if i < m then (if o i = true ∧ sqd t i < N then B ^ sqd t i else 0) else 0) d 0
def Q (o : Nat → Bool) (t m B N d : Nat) : Nat := (Th o t m B N d * Th o t m B N d % B ^ N) * (Th o t m B N d * Th o t m B N d % B ^ N) % B ^ N
set_option exponentiation.threshold 1000000 in
theorem check1_ok : Nat.beq (Q all 100 201 (2 ^ 52) (10000 + 1) 8) (1 + 8 * D g4 (2 ^ 52) 10000 14) = true := by decide +kernel
theorem D_eq (g : Nat → Bool) (B K d : Nat) (hB : 2 ≤ B) (h : K ≤ 2 ^ d) : D g B K d = pack B (dsum g) (K + 1) := by
  rw [dsum_pack _ _ hB, D, T_upto _ d K h]
theorem Th_eq (o : Nat → Bool) (t m B N d : Nat) (h : m ≤ 2 ^ d) : Th o t m B N d = pack B (r1 o (sqd t) m) N := by
  rw [r1_pack, Th, T_upto _ d m h]
theorem pack_mul_mod {B N : Nat} {f : Nat → Nat} {P : Nat} (h : pack B f N % B ^ N = P % B ^ N) : pack B (conv f f) N % B ^ N = P * P % B ^ N := by
  rw [← pack_conv, Nat.mul_mod, h, ← Nat.mul_mod]
theorem pack_congr {B N : Nat} {f g : Nat → Nat} (h : ∀ v, v < N → f v = g v) : pack B f N = pack B g N := S_congr N (fun v hv => by rw [h v hv])
/-- Twice: the pairs, the quadruples. -/
theorem four_mod (o : Nat → Bool) (t m B N d : Nat) (h : m ≤ 2 ^ d) : pack B (conv (r2 o (sqd t) m) (r2 o (sqd t) m)) N % B ^ N = Q o t m B N d := by
  have e : pack B (r2 o (sqd t) m) N % B ^ N = (Th o t m B N d * Th o t m B N d % B ^ N) % B ^ N := by
    rw [pack_congr (fun v _ => r2_conv o (sqd t) m v), ← pack_conv, Th_eq o t m B N d h, Nat.mod_mod]
  exact pack_mul_mod e
def jac (n : Nat) : Nat := if n = 0 then 1 else 8 * dsum g4 n
theorem jac_pack (B : Nat) : ∀ N, pack B jac (N + 1) = 1 + 8 * pack B (dsum g4) (N + 1)
  | 0 => by simp [pack, S, jac, dsum]
  | N + 1 => by
    have ih := jac_pack B N
    have e1 : pack B jac (N + 2) = pack B jac (N + 1) + jac (N + 1) * B ^ (N + 1) := rfl
    have e2 : pack B (dsum g4) (N + 2) = pack B (dsum g4) (N + 1) + dsum g4 (N + 1) * B ^ (N + 1) := rfl
    rw [e1, e2, ih, jac, if_neg (by omega), Nat.mul_add, Nat.mul_assoc]
    omega
theorem small {v N : Nat} (hN : N ≤ 10001) (hv : v < N) : v * v ≤ 10000 * 10000 := Nat.mul_le_mul (by omega) (by omega)
theorem jacobi_gen (B K t m d e : Nat) (hB : 2 ≤ B) (hm : m ≤ 2 ^ d) (hK : K ≤ 2 ^ e) (hc : Q all t m B (K + 1) d = 1 + 8 * D g4 B K e)
    (b1 : ∀ v, v < K + 1 → conv (r2 all (sqd t) m) (r2 all (sqd t) m) v < B) (b2 : ∀ v, v < K + 1 → jac v < B) (n : Nat) (hn : n ≤ K) : conv (r2 all (sqd t) m) (r2 all (sqd t) m) n = jac n := by
  rw [← four_mod all t m B (K + 1) d hm, D_eq g4 B K e hB hK, ← jac_pack] at hc
  rw [Nat.mod_eq_of_lt (pack_lt _ b1)] at hc
  exact pack_inj (K + 1) b1 b2 hc n (by omega)
/-- Jacobi: up to 10000. -/
theorem jacobi (n : Nat) (hn : n ≤ 10000) : conv (r2 all (sqd 100) 201) (r2 all (sqd 100) 201) n = jac n := by
  refine jacobi_gen (2 ^ 52) 10000 100 201 8 14 (by decide) (by decide) (by decide) (Nat.eq_of_beq_eq_true check1_ok) (fun v hv => ?_) (fun v hv => ?_) n hn
  · have h1 := conv_le (fun v => r2_le all (sqd 100) 201 v) v
    have h2 : (v + 1) * ((201 * 201) * (201 * 201)) ≤ 10001 * ((201 * 201) * (201 * 201)) := Nat.mul_le_mul_right _ (by omega)
    omega
  · have h1 := dsum_le g4 v
    have h2 := small (Nat.le_refl _) hv
    unfold jac
    split <;> omega
theorem r2_odd (v : Nat) (h : v % 8 ≠ 2) : r2 (odd 200) (sqd 200) 401 v = 0 := by
  refine S_null _ (fun i _ => S_null _ (fun j _ => if_neg ?_))
  rintro ⟨hi, hj, e⟩
  have key : ∀ i, odd 200 i = true → sqd 200 i % 8 = 1 := fun i hi => by
    have : (i - 200 + (200 - i)) % 2 = 1 := by simp only [odd, beq_iff_eq] at hi; omega
    unfold sqd
    generalize i - 200 + (200 - i) = a at *
    have e : a = 2 * (a / 2) + 1 := by omega
    have e2 : a * a = 4 * ((a / 2) * (a / 2)) + 4 * (a / 2) + 1 := by
      generalize a / 2 = c at e; subst e; grind
    have e3 : ((a / 2) * (a / 2) + a / 2) % 2 = 0 := by
      generalize a / 2 = c
      rcases Nat.mod_two_eq_zero_or_one c with h | h
      · simp [Nat.add_mod, Nat.mul_mod, h]
      · simp [Nat.add_mod, Nat.mul_mod, h]
    omega
  have h1 := key i hi
  have h2 := key j hj
  omega
theorem conv_odd (m : Nat) (h : m % 4 ≠ 0) : conv (r2 (odd 200) (sqd 200) 401) (r2 (odd 200) (sqd 200) 401) m = 0 := by
  refine S_null _ (fun u hu => ?_)
  by_cases h1 : u % 8 = 2
  · rw [r2_odd (m - u) (by omega), Nat.mul_zero]
  · rw [r2_odd u h1, Nat.zero_mul]
theorem S_four {f : Nat → Nat} (h : ∀ m, m % 4 ≠ 0 → f m = 0) : ∀ K, S f (4 * K) = S (fun n => f (4 * n)) K
  | 0 => rfl
  | K + 1 => by
    rw [show 4 * (K + 1) = 4 * K + 1 + 1 + 1 + 1 by omega]
    simp only [S]
    rw [S_four h K, h (4 * K + 1) (by omega), h (4 * K + 1 + 1) (by omega), h (4 * K + 1 + 1 + 1) (by omega)]
    rfl
end Go.Proofs.Ytgfnmimfoicmmaa.Jac
