/- The greatest sum of k squares: a specification without rounds, what it tells, and when there is one. -/
namespace Go.Proofs.Ytgfnmimfoicmmaa.Sq

/-- Try the numbers below j, from the greatest one on. -/
def go (f : Nat → Nat → Option (List Int)) (n : Nat) : Nat → Option (List Int)
  | 0 => none
  | j + 1 => if j * j ≤ n then (match f (n - j * j) j with | some l => some ((j : Int) :: l) | none => go f n j) else go f n j
/-- The greatest sum of k squares for n, none above b. -/
def sq : Nat → Nat → Nat → Option (List Int)
  | 0, n, _ => if n = 0 then some [] else none
  | k + 1, n, b => go (sq k) n (b + 1)
/-- What a sum of k squares is: k numbers that never rise, from 0 to b, whose squares sum to n. -/
def Good : Nat → Int → Int → List Int → Prop
  | 0, n, _, l => l = [] ∧ n = 0
  | k + 1, n, b, l => ∃ x t, l = x :: t ∧ 0 ≤ x ∧ x ≤ b ∧ Good k (n - x * x) x t
theorem go_good {k : Nat} {f : Nat → Nat → Option (List Int)} (hf : ∀ n b l, f n b = some l → Good k n b l) (n : Nat) : ∀ (j : Nat) (l : List Int), go f n j = some l → Good (k + 1) n ((j : Int) - 1) l
  | 0, l, h => by cases h
  | j + 1, l, h => by
    rw [go] at h
    have up : ∀ l, go f n j = some l → Good (k + 1) n (((j + 1 : Nat) : Int) - 1) l := fun l h => by
      obtain ⟨x, t, e, h0, h1, h2⟩ := go_good hf n j l h
      exact ⟨x, t, e, h0, by omega, h2⟩
    split at h
    · rename_i hj
      split at h
      · rename_i t ht
        obtain rfl := Option.some.inj h
        refine ⟨j, t, rfl, by omega, by omega, ?_⟩
        have := hf _ _ _ ht
        have e : (((n - j * j : Nat)) : Int) = (n : Int) - (j : Int) * (j : Int) := by
          rw [Int.ofNat_sub hj]; simp
        rwa [e] at this
      · exact up l h
    · exact up l h
theorem sq_good : ∀ (k n b : Nat) (l : List Int), sq k n b = some l → Good k n b l
  | 0, n, b, l, h => by
    rw [sq] at h
    split at h
    · exact ⟨(Option.some.inj h).symm, by omega⟩
    · cases h
  | k + 1, n, b, l, h => by
    have := go_good (sq_good k) n (b + 1) l h
    simpa using this
theorem Good.le : ∀ {k : Nat} {n b : Int} {l : List Int}, 0 ≤ b → Good k n b l → n ≤ k * (b * b)
  | 0, n, b, l, _, h => by have := h.2; simp; omega
  | k + 1, n, b, l, hb, ⟨x, t, _, h0, h1, h2⟩ => by
    have ih := Good.le h0 h2
    have hx : x * x ≤ b * b := Int.mul_le_mul h1 h1 h0 hb
    have hk : (k : Int) * (x * x) ≤ k * (b * b) := Int.mul_le_mul_of_nonneg_left hx (by omega)
    have e : ((k + 1 : Nat) : Int) * (b * b) = (k : Int) * (b * b) + b * b := by rw [Int.natCast_add, Int.add_mul]; simp
    rw [e]; omega
theorem Good.len : ∀ {k : Nat} {n b : Int} {l : List Int}, Good k n b l → l.length = k
  | 0, _, _, _, h => by rw [h.1]; rfl
  | k + 1, _, _, _, ⟨x, t, e, _, _, h2⟩ => by rw [e, List.length_cons, h2.len]
/-- None below j if k times the square of the greatest is too little. -/
theorem go_little (k n : Nat) : ∀ j : Nat, ((k + 1) * ((j - 1) * (j - 1)) < n) → go (sq k) n j = none
  | 0, _ => rfl
  | j + 1, h => by
    rcases hg : go (sq k) n (j + 1) with _ | l
    · rfl
    · exfalso
      have g := go_good (sq_good k) n (j + 1) l hg
      have := Good.le (by omega) g
      have e : ((j + 1 : Nat) : Int) - 1 = (j : Int) := by omega
      rw [e] at this
      simp only [Nat.add_sub_cancel] at h
      have : n ≤ (k + 1) * (j * j) := by exact_mod_cast this
      omega
theorem go_skip (f : Nat → Nat → Option (List Int)) (n b : Nat) (hb : n < (b + 1) * (b + 1)) : ∀ d : Nat, go f n (b + 1 + d) = go f n (b + 1)
  | 0 => rfl
  | d + 1 => by
    rw [← Nat.add_assoc, go, if_neg ?_, go_skip f n b hb d]
    have : (b + 1) * (b + 1) ≤ (b + 1 + d) * (b + 1 + d) := Nat.mul_le_mul (by omega) (by omega)
    omega
theorem sq_bound (k n b c : Nat) (hb : n < (b + 1) * (b + 1)) (hc : n < (c + 1) * (c + 1)) : sq (k + 1) n b = sq (k + 1) n c := by
  simp only [sq]
  rcases Nat.le_total b c with h | h
  · obtain ⟨d, rfl⟩ := Nat.exists_eq_add_of_le h
    rw [show b + d + 1 = b + 1 + d by omega, go_skip _ n b hb]
  · obtain ⟨d, rfl⟩ := Nat.exists_eq_add_of_le h
    rw [show c + d + 1 = c + 1 + d by omega, go_skip _ n c hc]

/-- n is a sum of k squares of numbers up to b. -/
def sumsq : List Nat → Nat
  | [] => 0
  | x :: t => x * x + sumsq t
def Rep (k n b : Nat) : Prop := ∃ l : List Nat, l.length = k ∧ (∀ x ∈ l, x ≤ b) ∧ sumsq l = n
theorem sumsq_perm {l m : List Nat} (h : l.Perm m) : sumsq l = sumsq m := by
  induction h with
  | nil => rfl
  | cons x _ ih => simp only [sumsq, ih]
  | swap x y l => simp only [sumsq]; omega
  | trans _ _ h1 h2 => exact h1.trans h2
theorem max_ex : ∀ (l : List Nat), l ≠ [] → ∃ x, x ∈ l ∧ ∀ y ∈ l, y ≤ x
  | [], h => absurd rfl h
  | [x], _ => ⟨x, by simp, by simp⟩
  | x :: y :: t, _ => by
    obtain ⟨m, hm, hy⟩ := max_ex (y :: t) (by simp)
    rcases Nat.le_total x m with h | h
    · refine ⟨m, List.mem_cons_of_mem _ hm, fun z hz => ?_⟩
      rcases List.mem_cons.mp hz with rfl | hz
      · exact h
      · exact hy z hz
    · refine ⟨x, by simp, fun z hz => ?_⟩
      rcases List.mem_cons.mp hz with rfl | hz
      · exact Nat.le_refl _
      · exact Nat.le_trans (hy z hz) h
theorem go_some {f : Nat → Nat → Option (List Int)} {n x : Nat} (hx : x * x ≤ n) (hf : f (n - x * x) x ≠ none) : ∀ j : Nat, x < j → go f n j ≠ none
  | 0, h => absurd h (by omega)
  | j + 1, h => by
    rw [go]
    by_cases hj : x = j
    · subst hj
      rw [if_pos hx]
      rcases hfx : f (n - x * x) x with _ | l
      · exact absurd hfx hf
      · simp
    · have ih := go_some hx hf j (by omega)
      split
      · split
        · simp
        · exact ih
      · exact ih
theorem Rep.sq : ∀ {k n b : Nat}, Rep k n b → Sq.sq k n b ≠ none
  | 0, n, b, ⟨l, h0, _, h2⟩ => by
    obtain rfl := List.length_eq_zero_iff.mp h0
    rw [Sq.sq, if_pos (show n = 0 from h2.symm)]
    simp
  | k + 1, n, b, ⟨l, h0, h1, h2⟩ => by
    obtain ⟨x, hx, hmax⟩ := max_ex l (by intro e; rw [e] at h0; simp at h0)
    have hp := List.perm_cons_erase hx
    have hs := sumsq_perm hp
    simp only [sumsq] at hs
    have hr : Rep k (n - x * x) x := ⟨l.erase x, by have := hp.length_eq; simp at this; omega, fun y hy => hmax y (List.mem_of_mem_erase hy), by omega⟩
    exact go_some (by omega) hr.sq (b + 1) (by have := h1 x hx; omega)
/-! Which numbers up to 10000 are sums of three squares, of four: counted by the kernel; and why no other ones are. -/
/-- The numbers a * a + b * b, b below j, as bits. -/
def row (a : Nat) : Nat → Nat
  | 0 => 0
  | j + 1 => row a j ||| 2 ^ (a * a + j * j)
def mask : Nat → Nat
  | 0 => 0
  | i + 1 => mask i ||| row i (i + 1)
theorem row_bit (a m : Nat) : ∀ j, (row a j).testBit m = true → ∃ b, b < j ∧ a * a + b * b = m
  | 0, h => by simp [row] at h
  | j + 1, h => by
    rw [row, Nat.testBit_or, Bool.or_eq_true] at h
    rcases h with h | h
    · obtain ⟨b, h0, h1⟩ := row_bit a m j h
      exact ⟨b, by omega, h1⟩
    · rw [Nat.testBit_two_pow, decide_eq_true_eq] at h
      exact ⟨j, by omega, h⟩
theorem mask_bit (m : Nat) : ∀ i, (mask i).testBit m = true → ∃ a b, a < i ∧ b ≤ a ∧ a * a + b * b = m
  | 0, h => by simp [mask] at h
  | i + 1, h => by
    rw [mask, Nat.testBit_or, Bool.or_eq_true] at h
    rcases h with h | h
    · obtain ⟨a, b, h0, h1, h2⟩ := mask_bit m i h
      exact ⟨a, b, by omega, h1, h2⟩
    · obtain ⟨b, h0, h1⟩ := row_bit i m _ h
      exact ⟨i, b, by omega, by omega, h1⟩
/-- Is n - c * c one of the bits, for some c from c on? -/
def chk3 (M n : Nat) : Nat → Nat → Bool
  | 0, _ => false
  | s + 1, c => if c * c ≤ n then (if M.testBit (n - c * c) then true else chk3 M n s (c + 1)) else false
theorem chk3_rep (n : Nat) : ∀ s c, chk3 (mask 101) n s c = true → ∃ a b c, a ≤ 100 ∧ b ≤ 100 ∧ c * c ≤ n ∧ a * a + b * b + c * c = n
  | 0, _, h => by cases h
  | s + 1, c, h => by
    rw [chk3] at h
    split at h
    · rename_i hc
      split at h
      · rename_i hm
        obtain ⟨a, b, h0, h1, h2⟩ := mask_bit _ _ hm
        exact ⟨a, b, c, by omega, by omega, hc, by omega⟩
      · exact chk3_rep n s _ h
    · cases h
theorem below_100 {c n : Nat} (h : c * c ≤ n) (hn : n ≤ 10000) : c ≤ 100 := by
  rcases Nat.lt_or_ge 100 c with h1 | h1
  · have : 101 * 101 ≤ c * c := Nat.mul_le_mul h1 h1
    omega
  · exact h1
/-- 4 is divided out as long as it goes. -/
def red (n : Nat) : Nat := if 0 < n ∧ n % 4 = 0 then red (n / 4) else n
termination_by n
decreasing_by omega
def redf : Nat → Nat → Nat
  | 0, n => n
  | s + 1, n => if n % 4 = 0 then redf s (n / 4) else n
theorem redf_red : ∀ s n, 0 < n → n < 4 ^ s → redf s n = red n
  | 0, n, h0, h => by simp at h; omega
  | s + 1, n, h0, h => by
    rw [redf, red]
    by_cases h4 : n % 4 = 0
    · rw [if_pos h4, if_pos ⟨h0, h4⟩]
      exact redf_red s (n / 4) (by omega) (by rw [Nat.pow_succ] at h; omega)
    · rw [if_neg h4, if_neg (by omega)]
/-- For all numbers from lo on, 2 ^ d of them. -/
def allT (p : Nat → Bool) : Nat → Nat → Bool
  | 0, lo => p lo
  | d + 1, lo => allT p d lo && allT p d (lo + 2 ^ d)
theorem allT_at (p : Nat → Bool) : ∀ d lo, allT p d lo = true → ∀ i, i < 2 ^ d → p (lo + i) = true
  | 0, lo, h, i, hi => by
    obtain rfl : i = 0 := by simpa using hi
    exact h
  | d + 1, lo, h, i, hi => by
    rw [allT, Bool.and_eq_true] at h
    rcases Nat.lt_or_ge i (2 ^ d) with h1 | h1
    · exact allT_at p d lo h.1 i h1
    · have := allT_at p d (lo + 2 ^ d) h.2 (i - 2 ^ d) (by rw [Nat.pow_succ] at hi; omega)
      rwa [show lo + 2 ^ d + (i - 2 ^ d) = lo + i by omega] at this
def three (M n : Nat) : Bool := if 10000 < n then true else if n = 0 then true else if redf 8 n % 8 = 7 then chk4 M n 101 1 else chk3 M n 101 0
where chk4 (M n : Nat) : Nat → Nat → Bool
  | 0, _ => false
  | s + 1, c => if c * c ≤ n then (if chk3 M (n - c * c) 101 0 then true else chk4 M n s (c + 1)) else false
set_option maxRecDepth 100000 in
theorem three_all : allT (three (mask 101)) 14 0 = true := by decide +kernel
theorem three_at (n : Nat) (h : n ≤ 10000) : three (mask 101) n = true := by
  have := allT_at _ 14 0 three_all n (by omega)
  rwa [Nat.zero_add] at this
theorem rep3_of {n a b c : Nat} (ha : a ≤ 100) (hb : b ≤ 100) (hc : c ≤ 100) (h : a * a + b * b + c * c = n) : Rep 3 n 100 :=
  ⟨[a, b, c], rfl, by simp [ha, hb, hc], by simp only [sumsq]; omega⟩
theorem rep4_of {n a b c d : Nat} (ha : a ≤ 100) (hb : b ≤ 100) (hc : c ≤ 100) (hd : d ≤ 100) (h : a * a + b * b + c * c + d * d = n) : Rep 4 n 100 :=
  ⟨[a, b, c, d], rfl, by simp [ha, hb, hc, hd], by simp only [sumsq]; omega⟩
theorem chk4_rep (n : Nat) (hn : n ≤ 10000) : ∀ s c, three.chk4 (mask 101) n s c = true → Rep 4 n 100
  | 0, _, h => by cases h
  | s + 1, c, h => by
    rw [three.chk4] at h
    split at h
    · rename_i hc
      split at h
      · rename_i hm
        obtain ⟨x, y, z, h0, h1, h2, h3⟩ := chk3_rep _ _ _ hm
        exact rep4_of h0 h1 (below_100 h2 (by omega)) (below_100 hc hn) (by omega)
      · exact chk4_rep n hn s _ h
    · cases h
theorem rep3 (n : Nat) (hn : n ≤ 10000) (h : n = 0 ∨ red n % 8 ≠ 7) : Rep 3 n 100 := by
  by_cases h0 : n = 0
  · exact rep3_of (a := 0) (b := 0) (c := 0) (by omega) (by omega) (by omega) (by omega)
  · have := three_at n hn
    have hr := redf_red 8 n (by omega) (by omega)
    rw [three, if_neg (by omega), if_neg h0, if_neg (by rw [hr]; omega)] at this
    obtain ⟨x, y, z, a0, a1, a2, a3⟩ := chk3_rep _ _ _ this
    exact rep3_of a0 a1 (below_100 a2 hn) a3
theorem rep4 (n : Nat) (hn : n ≤ 10000) : Rep 4 n 100 := by
  by_cases h : n = 0 ∨ red n % 8 ≠ 7
  · obtain ⟨l, h0, h1, h2⟩ := rep3 n hn h
    exact ⟨0 :: l, by simp [h0], by simpa using h1, by simp [sumsq, h2]⟩
  · have := three_at n hn
    have hr := redf_red 8 n (by omega) (by omega)
    rw [three, if_neg (by omega), if_neg (by omega), if_pos (by rw [hr]; omega)] at this
    exact chk4_rep n hn _ _ this
/-- Four squares: always. -/
theorem four_some (n : Nat) (hn : n ≤ 10000) : ∃ l, sq 4 n 100 = some l := by
  rcases h : sq 4 n 100 with _ | l
  · exact absurd h (rep4 n hn).sq
  · exact ⟨l, rfl⟩
end Go.Proofs.Ytgfnmimfoicmmaa.Sq
