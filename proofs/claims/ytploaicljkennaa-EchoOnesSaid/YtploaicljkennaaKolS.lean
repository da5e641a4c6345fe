/- Kolakoski's sequence as a plain function; the program's loops come to it. -/
import Derived.Test.YtploaicljkennaaPEx2
import Derived.Test.YtploaicljkennaaTools
set_option linter.unusedVariables false
set_option linter.unusedSimpArgs false
namespace Go.Proofs.Ytploaicljkennaa.Pure
open Go.RowKit Go.Proofs.YtploaicljkennaaW.PrintWords Go.Proofs.Ytploaicljkennaa.PE

def kv (a b : Int) (i : Nat) : Int := if i % 2 = 1 then b else a
/-- The length of run i, out being known so far. -/
def klen (a b : Int) (out : List Int) (i : Nat) : Nat := ((out ++ [kv a b i]).getD i 0).toNat
/-- The first i runs. -/
def kolN (a b : Int) : Nat → List Int
  | 0 => []
  | i + 1 => kolN a b i ++ List.replicate (klen a b (kolN a b i) i) (kv a b i)
def kolS (a b : Int) (n : Nat) : List Int := (kolN a b n).take n
/-- Both numbers are 1 to 9. -/
structure Nums (a b : Int) : Prop where
  a0 : 1 ≤ a
  a1 : a ≤ 9
  b0 : 1 ≤ b
  b1 : b ≤ 9
theorem kv_range {a b : Int} (h : Nums a b) (i : Nat) : 1 ≤ kv a b i ∧ kv a b i ≤ 9 := by
  unfold kv
  obtain ⟨h1, h2, h3, h4⟩ := h
  split <;> omega
theorem kv_mem (a b : Int) (i : Nat) : kv a b i = a ∨ kv a b i = b := by unfold kv; split <;> simp
theorem kolN_mem (a b : Int) (i : Nat) : ∀ x ∈ kolN a b i, x = a ∨ x = b := by
  induction i with
  | zero => intro x hx; simp [kolN] at hx
  | succ i ih =>
    intro x hx
    rw [kolN, List.mem_append] at hx
    rcases hx with hx | hx
    · exact ih x hx
    · rw [List.eq_of_mem_replicate hx]; exact kv_mem a b i
theorem getD_range {l : List Int} (h : ∀ x ∈ l, 1 ≤ x ∧ x ≤ 9) (i : Nat) (hi : i < l.length) : 1 ≤ l.getD i 0 ∧ l.getD i 0 ≤ 9 := by
  rw [List.getD_eq_getElem?_getD, List.getElem?_eq_getElem hi]
  exact h _ (List.getElem_mem _)
theorem kolN_range {a b : Int} (h : Nums a b) (i : Nat) : ∀ x ∈ kolN a b i, 1 ≤ x ∧ x ≤ 9 := by
  intro x hx
  obtain ⟨h1, h2, h3, h4⟩ := h
  rcases kolN_mem a b i x hx with rfl | rfl <;> omega
theorem klen_range {a b : Int} (h : Nums a b) (i : Nat) (hi : i ≤ (kolN a b i).length) : 1 ≤ klen a b (kolN a b i) i ∧ klen a b (kolN a b i) i ≤ 9 := by
  have hr : ∀ x ∈ kolN a b i ++ [kv a b i], 1 ≤ x ∧ x ≤ 9 := by
    intro x hx
    rcases List.mem_append.1 hx with hx | hx
    · exact kolN_range h i x hx
    · rw [List.mem_singleton.1 hx]; exact kv_range h i
  have := getD_range hr i (by simp; omega)
  unfold klen
  omega
theorem kolN_long {a b : Int} (h : Nums a b) (i : Nat) : i ≤ (kolN a b i).length := by
  induction i with
  | zero => simp
  | succ i ih =>
    have := klen_range h i ih
    rw [kolN, List.length_append, List.length_replicate]
    omega
theorem kolN_prefix (a b : Int) (i d : Nat) : kolN a b i <+: kolN a b (i + d) := by
  induction d with
  | zero => exact List.prefix_rfl
  | succ d ih => exact ih.trans (by rw [← Nat.add_assoc, kolN]; exact List.prefix_append _ _)
theorem kolN_pre {a b : Int} {i j : Nat} (h : i ≤ j) : kolN a b i <+: kolN a b j := by
  have := kolN_prefix a b i (j - i)
  rwa [Nat.add_sub_cancel' h] at this
theorem take_prefix {l l' : List Int} (h : l <+: l') {n : Nat} (hn : n ≤ l.length) : l'.take n = l.take n := by
  obtain ⟨t, rfl⟩ := h
  rw [List.take_append_of_le_length hn]
theorem kolS_of {a b : Int} (h : Nums a b) {n i : Nat} (hn : n ≤ (kolN a b i).length) : (kolN a b i).take n = kolS a b n := by
  unfold kolS
  rcases Nat.le_total i n with hi | hi
  · exact (take_prefix (kolN_pre hi) hn).symm
  · exact take_prefix (kolN_pre hi) (kolN_long h n)
theorem kolS_length {a b : Int} (h : Nums a b) (n : Nat) : (kolS a b n).length = n := by
  unfold kolS; rw [List.length_take]; have := kolN_long h n; omega
theorem kolS_take {a b : Int} (h : Nums a b) {n m : Nat} (hn : n ≤ m) : (kolS a b m).take n = kolS a b n := by
  unfold kolS
  rw [List.take_take, Nat.min_eq_left hn]
  exact take_prefix (kolN_pre hn) (kolN_long h n)
theorem kolS_mem (a b : Int) (n : Nat) : ∀ x ∈ kolS a b n, x = a ∨ x = b := fun x hx => kolN_mem a b n x (List.mem_of_mem_take hx)

theorem tmod2 (i : Nat) : Int.tmod (i : Int) 2 = ((i % 2 : Nat) : Int) := by
  rw [Int.tmod_eq_emod_of_nonneg (by omega)]; omega
theorem klen_lt {a b : Int} {out : List Int} {i : Nat} (h : i < out.length) : klen a b out i = (rd out (i : Int)).toNat := by
  unfold klen rd
  simp [List.getD_eq_getElem?_getD, List.getElem?_append_left h]
theorem klen_eq {a b : Int} {out : List Int} {i : Nat} (h : i = out.length) : klen a b out i = (kv a b i).toNat := by
  unfold klen
  subst h
  simp [List.getD_eq_getElem?_getD]

theorem kol_inner (a b n v m : Int) (i : Nat) (R : List Int) (hi : i ≤ 100000) : ∀ (d : Nat) (j : Nat) (out : List Int), m = (j : Int) + d → j + d ≤ 9 → out.length + d ≤ 17592186044416 →
    Ev (fun k => echo_kolakoski.l0 k a b n (out ++ List.replicate d v) ((i : Int) + 1)) R →
    Ev (fun k => echo_kolakoski.l1 k a b n out (i : Int) v m (j : Int)) R := by
  intro d
  induction d with
  | zero =>
    intro j out hm hj ho h
    have hw : wrap64 ((i : Int) + 1) = (i : Int) + 1 := by rw [wrap_id] <;> omega
    refine Ev.succ ?_
    simp only [echo_kolakoski.l1, hw]
    refine Ev.neg (by omega) ?_
    simpa using h
  | succ d ih =>
    intro j out hm hj ho h
    refine Ev.succ ?_
    have hw : wrap64 ((j : Int) + 1) = ((j + 1 : Nat) : Int) := by rw [wrap_id] <;> omega
    simp only [echo_kolakoski.l1, hw]
    refine Ev.pos (by omega) (Ev.pos (by omega) ?_)
    refine ih (j + 1) (out ++ [v]) (by omega) (by omega) (by simp; omega) ?_
    simpa [List.replicate_succ] using h

theorem kol_loop {a b : Int} (h : Nums a b) (n : Nat) (hn : n ≤ 100000) : ∀ (d i : Nat), n - i = d → i ≤ n →
    Ev (fun k => echo_kolakoski.l0 k a b (n : Int) (kolN a b i) (i : Int)) (kolS a b n) := by
  intro d
  induction d with
  | zero =>
    intro i hd hi
    have hl := kolN_long h i
    refine Ev.succ ?_
    simp only [echo_kolakoski.l0]
    refine Ev.neg (by omega) (Ev.pos (by omega) (Ev.pos (by omega) ?_))
    rw [Int.toNat_natCast, kolS_of h (by omega)]
    exact Ev.now _
  | succ d ih =>
    intro i hd hi
    have hl := kolN_long h i
    by_cases hs : n ≤ (kolN a b i).length
    · refine Ev.succ ?_
      simp only [echo_kolakoski.l0]
      refine Ev.neg (by omega) (Ev.pos (by omega) (Ev.pos (by omega) ?_))
      rw [Int.toNat_natCast, kolS_of h hs]
      exact Ev.now _
    · have key : Ev (fun k => echo_kolakoski.j1 k a b (n : Int) (kolN a b i) (i : Int) (kv a b i)) (kolS a b n) := by
        have hkr := klen_range h i hl
        have hvr := kv_range h i
        refine Ev.succ ?_
        simp only [echo_kolakoski.j1]
        have fin : ∀ m : Int, m = (klen a b (kolN a b i) i : Nat) → Ev (fun k => echo_kolakoski.j2 k a b (n : Int) (kolN a b i) (i : Int) (kv a b i) m) (kolS a b n) := by
          intro m hm
          refine Ev.succ ?_
          simp only [echo_kolakoski.j2]
          refine kol_inner a b n (kv a b i) m i _ (by omega) (klen a b (kolN a b i) i) 0 (kolN a b i) (by omega) (by omega) (by omega) ?_
          have := ih (i + 1) (by omega) (by omega)
          rw [kolN] at this
          simpa using this
        by_cases hlt : i < (kolN a b i).length
        · refine Ev.pos (by omega) (Ev.pos (by omega) (fin _ ?_))
          rw [klen_lt hlt]
          have := getD_range (kolN_range h i) i hlt
          have e : rd (kolN a b i) (i : Int) = (kolN a b i).getD i 0 := by unfold rd; rw [Int.toNat_natCast]
          rw [e]; omega
        · refine Ev.neg (by omega) (fin _ ?_)
          rw [klen_eq (by omega)]; omega
      refine Ev.succ ?_
      simp only [echo_kolakoski.l0, tmod2]
      refine Ev.pos (by omega) ?_
      by_cases hp : i % 2 = 1
      · refine Ev.pos (by omega) ?_
        have e : kv a b i = b := by unfold kv; rw [if_pos hp]
        rwa [e] at key
      · refine Ev.neg (by omega) ?_
        have e : kv a b i = a := by unfold kv; rw [if_neg hp]
        rwa [e] at key
theorem echo_kolakoski_ev {a b : Int} (h : Nums a b) (n : Nat) (hn : n ≤ 100000) : Ev (fun k => echo_kolakoski.f k a b (n : Int)) (kolS a b n) :=
  kol_loop h n hn n 0 rfl (Nat.zero_le _)
theorem mn_eq (x y : Int) : mn x y = min x y := by unfold mn; omega
theorem mx_eq (x y : Int) : mx x y = max x y := by unfold mx; omega
theorem echo_Kolakoski_good {a b : Int} (h : Nums a b) (hab : a ≠ b) (n : Nat) (hn : n ≤ 100000) : Ev (fun k => echo_Kolakoski.f k a b (n : Int)) (kolS a b n, 0) := by
  unfold echo_Kolakoski.f
  have ⟨h1, h2, h3, h4⟩ := h
  simp only [mn_eq, mx_eq]
  refine Ev.neg (by omega) (Ev.neg (by omega) (Ev.neg (by omega) (Ev.neg (by omega) (Ev.neg (by omega) ?_))))
  exact Ev.bind (echo_kolakoski_ev h n hn) (Ev.now _)
theorem echo_Kolakoski_bad {a b n : Int} (h : ¬ (1 ≤ a ∧ a ≤ 9 ∧ 1 ≤ b ∧ b ≤ 9 ∧ a ≠ b ∧ 0 ≤ n ∧ n ≤ 100000)) : Ev (fun k => echo_Kolakoski.f k a b n) ([], 1) := by
  unfold echo_Kolakoski.f
  simp only [mn_eq, mx_eq]
  by_cases h1 : min a b < 1
  · exact Ev.pos h1 (Ev.now _)
  refine Ev.neg h1 ?_
  by_cases h2 : max a b > 9
  · exact Ev.pos h2 (Ev.now _)
  refine Ev.neg h2 ?_
  by_cases h3 : a = b
  · exact Ev.pos h3 (Ev.now _)
  refine Ev.neg h3 ?_
  by_cases h4 : n < 0
  · exact Ev.pos h4 (Ev.now _)
  refine Ev.neg h4 ?_
  exact Ev.pos (by omega) (Ev.now _)

/-! ### Ones -/
def onesS (l : List Int) : Nat := l.count 1
theorem ones_drop (l : List Int) (i : Nat) (hi : i < l.length) : onesS (l.drop i) = (if l[i] = 1 then 1 else 0) + onesS (l.drop (i + 1)) := by
  unfold onesS
  rw [List.drop_eq_getElem_cons hi, List.count_cons]
  by_cases h : l[i] = 1
  · simp [h]; omega
  · simp [h]
theorem Ones_loop (l : List Int) (hl : l.length ≤ 100000) : ∀ (d i c : Nat), l.length - i = d → i ≤ l.length → c ≤ i →
    Ev (fun k => echo_Ones.l0 k (c : Int) l (l.length : Int) (i : Int)) (((c + onesS (l.drop i) : Nat) : Int), 0) := by
  intro d
  induction d with
  | zero =>
    intro i c hd hi hc
    obtain rfl : i = l.length := by omega
    refine Ev.succ ?_
    simp only [echo_Ones.l0]
    refine Ev.neg (by omega) ?_
    rw [List.drop_length]
    exact Ev.now _
  | succ d ih =>
    intro i c hd hi hc
    have hlt : i < l.length := by omega
    refine Ev.succ ?_
    have hr := rd_nat l i hlt
    have hw1 : wrap64 ((i : Int) + 1) = ((i + 1 : Nat) : Int) := by rw [wrap_id] <;> omega
    have hw2 : wrap64 ((c : Int) + 1) = ((c + 1 : Nat) : Int) := by rw [wrap_id] <;> omega
    simp only [echo_Ones.l0, hr, hw1, hw2]
    refine Ev.pos (by omega) (Ev.pos (by omega) (Ev.pos (by omega) ?_))
    rw [ones_drop l i hlt]
    by_cases h1 : l[i] = 1
    · refine Ev.pos h1 ?_
      have := ih (i + 1) (c + 1) (by omega) (by omega) (by omega)
      rw [if_pos h1, ← Nat.add_assoc]
      exact this
    · refine Ev.neg h1 ?_
      have := ih (i + 1) c (by omega) (by omega) (by omega)
      rw [if_neg h1, Nat.zero_add]
      exact this
theorem n12 : Nums 1 2 := ⟨by omega, by omega, by omega, by omega⟩
theorem echo_Ones_good (n : Nat) (hn : n ≤ 100000) : Ev (fun k => echo_Ones.f k (n : Int)) ((onesS (kolS 1 2 n) : Nat), 0) := by
  unfold echo_Ones.f
  refine Ev.neg (by omega) ?_
  refine Ev.succ ?_
  simp only [echo_Ones.j0]
  refine Ev.neg (by simp; omega) ?_
  refine Ev.bind (echo_kolakoski_ev n12 n hn) ?_
  have := Ones_loop (kolS 1 2 n) (by rw [kolS_length n12]; omega) _ 0 0 rfl (Nat.zero_le _) (Nat.le_refl _)
  simpa using this
theorem echo_Ones_bad {n : Int} (h : ¬ (0 ≤ n ∧ n ≤ 100000)) : Ev (fun k => echo_Ones.f k n) (0, 1) := by
  unfold echo_Ones.f
  by_cases h4 : n < 0
  · refine Ev.pos h4 (Ev.succ ?_)
    simp only [echo_Ones.j0]
    exact Ev.pos trivial (Ev.now _)
  · refine Ev.neg h4 (Ev.succ ?_)
    simp only [echo_Ones.j0]
    exact Ev.pos (by simp; omega) (Ev.now _)
end Go.Proofs.Ytploaicljkennaa.Pure
