/- Golomb's sequence as a plain function; the program's and the reference's loops come to it, and so does the reference's loop of Kolakoski's. -/
import Derived.Test.YtploaicljkennaaPEx7
import Derived.Test.YtploaicljkennaaKolS
set_option linter.unusedVariables false
set_option linter.unusedSimpArgs false
namespace Go.Proofs.Ytploaicljkennaa.Pure
open Go.RowKit Go.Proofs.YtploaicljkennaaW.PrintWords Go.Proofs.Ytploaicljkennaa.PE
/-- The first terms, the numbers up to i + 2 being written. -/
def golN : Nat → List Int
  | 0 => [1, 2, 2]
  | i + 1 => golN i ++ List.replicate ((golN i).getD (i + 2) 0).toNat ((i : Int) + 3)
def golS (n : Nat) : List Int := (golN n).take n
theorem golN_range (i : Nat) : ∀ x ∈ golN i, 1 ≤ x ∧ x ≤ (i : Int) + 2 := by
  induction i with
  | zero => intro x hx; simp [golN] at hx; omega
  | succ i ih =>
    intro x hx
    rw [golN, List.mem_append] at hx
    rcases hx with hx | hx
    · have := ih x hx; omega
    · rw [List.eq_of_mem_replicate hx]; omega
theorem golN_step (i : Nat) (h : i + 3 ≤ (golN i).length) : 1 ≤ (golN i).getD (i + 2) 0 ∧ (golN i).getD (i + 2) 0 ≤ (i : Int) + 2 := by
  rw [List.getD_eq_getElem?_getD, List.getElem?_eq_getElem (by omega)]
  exact golN_range i _ (List.getElem_mem _)
theorem golN_long (i : Nat) : i + 3 ≤ (golN i).length := by
  induction i with
  | zero => simp [golN]
  | succ i ih =>
    have := golN_step i ih
    rw [golN, List.length_append, List.length_replicate]
    omega
theorem golN_prefix (i d : Nat) : golN i <+: golN (i + d) := by
  induction d with
  | zero => exact List.prefix_rfl
  | succ d ih => exact ih.trans (by rw [← Nat.add_assoc, golN]; exact List.prefix_append _ _)
theorem golN_pre {i j : Nat} (h : i ≤ j) : golN i <+: golN j := by
  have := golN_prefix i (j - i)
  rwa [Nat.add_sub_cancel' h] at this
theorem golS_of {n i : Nat} (hn : n ≤ (golN i).length) : (golN i).take n = golS n := by
  unfold golS
  have hl := golN_long n
  rcases Nat.le_total i n with hi | hi
  · exact (take_prefix (golN_pre hi) hn).symm
  · exact take_prefix (golN_pre hi) (by omega)
theorem golS_length (n : Nat) : (golS n).length = n := by
  unfold golS; rw [List.length_take]; have := golN_long n; omega
theorem golS_take {n m : Nat} (hn : n ≤ m) : (golS m).take n = golS n := by
  unfold golS
  have hl := golN_long n
  rw [List.take_take, Nat.min_eq_left hn]
  exact take_prefix (golN_pre hn) (by omega)
theorem gol_rd (i : Nat) : rd (golN i) ((i + 2 : Nat) : Int) = (golN i).getD (i + 2) 0 := by unfold rd; rw [Int.toNat_natCast]

theorem gol_inner (n : Int) (i : Nat) (m : Int) (R : List Int × Int) (hi : i ≤ 100000) : ∀ (d j : Nat) (out : List Int), m = (j : Int) + d → j + d ≤ 200000 → out.length + d ≤ 17592186044416 →
    Ev (fun k => echo_Golomb.l0 k n (out ++ List.replicate d ((i : Int) + 3)) ((i : Int) + 4)) R →
    Ev (fun k => echo_Golomb.l1 k n out ((i : Int) + 3) m (j : Int)) R := by
  intro d
  induction d with
  | zero =>
    intro j out hm hj ho h
    have c : ¬ (j : Int) < m := by omega
    have hw : wrap64 ((i : Int) + 3 + 1) = (i : Int) + 4 := by rw [wrap_id] <;> omega
    refine Ev.succ ?_
    simp only [echo_Golomb.l1, hw]
    refine Ev.neg c ?_
    simpa using h
  | succ d ih =>
    intro j out hm hj ho h
    have c : (j : Int) < m ∧ out.length < 17592186044416 := by omega
    have hn := ih (j + 1) (out ++ [(i : Int) + 3]) (by omega) (by omega) (by rw [List.length_append, List.length_singleton]; omega) (by simpa [List.replicate_succ] using h)
    have hw : wrap64 ((j : Int) + 1) = ((j + 1 : Nat) : Int) := by rw [wrap_id] <;> omega
    refine Ev.succ ?_
    simp only [echo_Golomb.l1, hw]
    exact Ev.pos c.1 (Ev.pos c.2 hn)
theorem gol_loop (n : Nat) (hn : n ≤ 100000) : ∀ (d i : Nat), n - i = d → i ≤ n →
    Ev (fun k => echo_Golomb.l0 k (n : Int) (golN i) ((i : Int) + 3)) (golS n, 0) := by
  intro d
  induction d with
  | zero =>
    intro i hd hi
    have hl := golN_long i
    refine Ev.succ ?_
    simp only [echo_Golomb.l0]
    refine Ev.neg (by omega) (Ev.pos (by omega) (Ev.pos (by omega) ?_))
    rw [Int.toNat_natCast, golS_of (by omega)]
    exact Ev.now _
  | succ d ih =>
    intro i hd hi
    have hl := golN_long i
    by_cases hs : n ≤ (golN i).length
    · refine Ev.succ ?_
      simp only [echo_Golomb.l0]
      refine Ev.neg (by omega) (Ev.pos (by omega) (Ev.pos (by omega) ?_))
      rw [Int.toNat_natCast, golS_of hs]
      exact Ev.now _
    · have hk := golN_step i hl
      have hnext := ih (i + 1) (by omega) (by omega)
      rw [golN] at hnext
      have c : ((golN i).length : Int) < (n : Int) ∧ (0 : Int) ≤ ((i + 2 : Nat) : Int) ∧ ((i + 2 : Nat) : Int) < ((golN i).length : Int) := by omega
      have key := gol_inner n i ((golN i).getD (i + 2) 0) (golS n, 0) (by omega) ((golN i).getD (i + 2) 0).toNat 0 (golN i) (by omega) (by omega) (by omega) (by
        have e : (((i + 1 : Nat) : Int) + 3) = (i : Int) + 4 := by omega
        rwa [e] at hnext)
      have hw : wrap64 ((i : Int) + 3 - 1) = ((i + 2 : Nat) : Int) := by rw [wrap_id] <;> omega
      refine Ev.succ ?_
      simp only [echo_Golomb.l0, hw, gol_rd]
      exact Ev.pos c.1 (Ev.pos c.2.1 (Ev.pos c.2.2 key))
theorem echo_Golomb_good (n : Nat) (hn : n ≤ 100000) : Ev (fun k => echo_Golomb.f k (n : Int)) (golS n, 0) := by
  unfold echo_Golomb.f
  refine Ev.neg (by omega) (Ev.succ ?_)
  simp only [echo_Golomb.j0]
  refine Ev.neg (by simp; omega) ?_
  have := gol_loop n hn n 0 rfl (Nat.zero_le _)
  simpa [golN] using this
theorem echo_Golomb_bad {n : Int} (h : ¬ (0 ≤ n ∧ n ≤ 100000)) : Ev (fun k => echo_Golomb.f k n) ([], 1) := by
  unfold echo_Golomb.f
  by_cases h4 : n < 0
  · refine Ev.pos h4 (Ev.succ ?_)
    simp only [echo_Golomb.j0]
    exact Ev.pos trivial (Ev.now _)
  · refine Ev.neg h4 (Ev.succ ?_)
    simp only [echo_Golomb.j0]
    exact Ev.pos (by simp; omega) (Ev.now _)

/-! ### The reference's loops -/
theorem ref_gol_inner (n : Int) (i : Nat) (m : Int) (R : List Int) (hi : i ≤ 100000) : ∀ (d j : Nat) (out : List Int), i + 3 ≤ out.length → rd out ((i + 2 : Nat) : Int) = m → m = (j : Int) + d → j + d ≤ 200000 → out.length + d ≤ 17592186044416 →
    Ev (fun k => bellpullref02_Golomb.l0 k n (out ++ List.replicate d ((i : Int) + 3)) ((i : Int) + 4)) R →
    Ev (fun k => bellpullref02_Golomb.l1 k n out ((i : Int) + 3) (j : Int)) R := by
  intro d
  induction d with
  | zero =>
    intro j out hl hr hm hj ho h
    have c : (0 : Int) ≤ ((i + 2 : Nat) : Int) ∧ ((i + 2 : Nat) : Int) < (out.length : Int) ∧ ¬ (j : Int) < m := by clear hr; omega
    have hw : wrap64 ((i : Int) + 3 + 1) = (i : Int) + 4 := by clear hr; rw [wrap_id] <;> omega
    have hw2 : wrap64 ((i : Int) + 3 - 1) = ((i + 2 : Nat) : Int) := by clear hr hw; rw [wrap_id] <;> omega
    refine Ev.succ ?_
    simp only [bellpullref02_Golomb.l1, hw, hw2, hr]
    refine Ev.pos c.1 (Ev.pos c.2.1 (Ev.neg c.2.2 ?_))
    simpa using h
  | succ d ih =>
    intro j out hl hr hm hj ho h
    have c : (0 : Int) ≤ ((i + 2 : Nat) : Int) ∧ ((i + 2 : Nat) : Int) < (out.length : Int) ∧ (j : Int) < m ∧ out.length < 17592186044416 := by clear hr; omega
    have hr' : rd (out ++ [(i : Int) + 3]) ((i + 2 : Nat) : Int) = m := by
      rw [← hr]; unfold rd
      rw [Int.toNat_natCast, List.getD_eq_getElem?_getD, List.getD_eq_getElem?_getD, List.getElem?_append_left (by clear hr; omega)]
    have hn := ih (j + 1) (out ++ [(i : Int) + 3]) (by rw [List.length_append, List.length_singleton]; clear hr hr'; omega) hr' (by clear hr hr'; omega) (by clear hr hr'; omega) (by rw [List.length_append, List.length_singleton]; clear hr hr'; omega) (by simpa [List.replicate_succ] using h)
    have hw : wrap64 ((j : Int) + 1) = ((j + 1 : Nat) : Int) := by clear hr hr'; rw [wrap_id] <;> omega
    have hw2 : wrap64 ((i : Int) + 3 - 1) = ((i + 2 : Nat) : Int) := by clear hr hw hr'; rw [wrap_id] <;> omega
    refine Ev.succ ?_
    simp only [bellpullref02_Golomb.l1, hw, hw2, hr]
    exact Ev.pos c.1 (Ev.pos c.2.1 (Ev.pos c.2.2.1 (Ev.pos c.2.2.2 hn)))
theorem ref_gol_loop (n : Nat) (hn : n ≤ 100000) : ∀ (d i : Nat), n - i = d → i ≤ n →
    Ev (fun k => bellpullref02_Golomb.l0 k (n : Int) (golN i) ((i : Int) + 3)) (golS n) := by
  intro d
  induction d with
  | zero =>
    intro i hd hi
    have hl := golN_long i
    refine Ev.succ ?_
    simp only [bellpullref02_Golomb.l0]
    refine Ev.neg (by omega) (Ev.pos (by omega) (Ev.pos (by omega) ?_))
    rw [Int.toNat_natCast, golS_of (by omega)]
    exact Ev.now _
  | succ d ih =>
    intro i hd hi
    have hl := golN_long i
    by_cases hs : n ≤ (golN i).length
    · refine Ev.succ ?_
      simp only [bellpullref02_Golomb.l0]
      refine Ev.neg (by omega) (Ev.pos (by omega) (Ev.pos (by omega) ?_))
      rw [Int.toNat_natCast, golS_of hs]
      exact Ev.now _
    · have hk := golN_step i hl
      have hnext := ih (i + 1) (by omega) (by omega)
      rw [golN] at hnext
      have c : ((golN i).length : Int) < (n : Int) := by omega
      have key := ref_gol_inner n i ((golN i).getD (i + 2) 0) (golS n) (by omega) ((golN i).getD (i + 2) 0).toNat 0 (golN i) hl (gol_rd i) (by omega) (by omega) (by omega) (by
        have e : (((i + 1 : Nat) : Int) + 3) = (i : Int) + 4 := by omega
        rwa [e] at hnext)
      refine Ev.succ ?_
      simp only [bellpullref02_Golomb.l0]
      exact Ev.pos c key
theorem ref_Golomb_ev (n : Nat) (hn : n ≤ 100000) : Ev (fun k => bellpullref02_Golomb.f k (n : Int)) (golS n) := by
  unfold bellpullref02_Golomb.f
  have := ref_gol_loop n hn n 0 rfl (Nat.zero_le _)
  simpa [golN] using this

theorem ref_kol_inner (a b n v m : Int) (i : Nat) (R : List Int) (hi : i ≤ 100000) : ∀ (d j : Nat) (out : List Int), i < out.length → rd out (i : Int) = m → m = (j : Int) + d → j + d ≤ 9 → out.length + d ≤ 17592186044416 →
    Ev (fun k => bellpullref02_Kolakoski.l0 k a b n (out ++ List.replicate d v) ((i : Int) + 1)) R →
    Ev (fun k => bellpullref02_Kolakoski.l1 k a b n out (i : Int) v (j : Int)) R := by
  intro d
  induction d with
  | zero =>
    intro j out hl hr hm hj ho h
    have c : (0 : Int) ≤ i ∧ (i : Int) < (out.length : Int) ∧ ¬ (j : Int) < m := by clear hr; omega
    have hw : wrap64 ((i : Int) + 1) = (i : Int) + 1 := by clear hr; rw [wrap_id] <;> omega
    refine Ev.succ ?_
    simp only [bellpullref02_Kolakoski.l1, hw, hr]
    refine Ev.pos c.1 (Ev.pos c.2.1 (Ev.neg c.2.2 ?_))
    simpa using h
  | succ d ih =>
    intro j out hl hr hm hj ho h
    have c : (0 : Int) ≤ i ∧ (i : Int) < (out.length : Int) ∧ (j : Int) < m ∧ out.length < 17592186044416 := by clear hr; omega
    have hr' : rd (out ++ [v]) (i : Int) = m := by
      rw [← hr]; unfold rd
      rw [Int.toNat_natCast, List.getD_eq_getElem?_getD, List.getD_eq_getElem?_getD, List.getElem?_append_left hl]
    have hn := ih (j + 1) (out ++ [v]) (by rw [List.length_append, List.length_singleton]; clear hr hr'; omega) hr' (by clear hr hr'; omega) (by clear hr hr'; omega) (by rw [List.length_append, List.length_singleton]; clear hr hr'; omega) (by simpa [List.replicate_succ] using h)
    have hw : wrap64 ((j : Int) + 1) = ((j + 1 : Nat) : Int) := by clear hr hr'; rw [wrap_id] <;> omega
    refine Ev.succ ?_
    simp only [bellpullref02_Kolakoski.l1, hw, hr]
    exact Ev.pos c.1 (Ev.pos c.2.1 (Ev.pos c.2.2.1 (Ev.pos c.2.2.2 hn)))
theorem ref_kol_loop {a b : Int} (h : Nums a b) (n : Nat) (hn : n ≤ 100000) : ∀ (d i : Nat), n - i = d → i ≤ n →
    Ev (fun k => bellpullref02_Kolakoski.l0 k a b (n : Int) (kolN a b i) (i : Int)) (kolS a b n) := by
  intro d
  induction d with
  | zero =>
    intro i hd hi
    have hl := kolN_long h i
    refine Ev.succ ?_
    simp only [bellpullref02_Kolakoski.l0]
    refine Ev.neg (by omega) (Ev.pos (by omega) (Ev.pos (by omega) ?_))
    rw [Int.toNat_natCast, kolS_of h (by omega)]
    exact Ev.now _
  | succ d ih =>
    intro i hd hi
    have hl := kolN_long h i
    by_cases hs : n ≤ (kolN a b i).length
    · refine Ev.succ ?_
      simp only [bellpullref02_Kolakoski.l0]
      refine Ev.neg (by omega) (Ev.pos (by omega) (Ev.pos (by omega) ?_))
      rw [Int.toNat_natCast, kolS_of h hs]
      exact Ev.now _
    · have hkr := klen_range h i hl
      have hnext := ih (i + 1) (by omega) (by omega)
      rw [kolN] at hnext
      have c : ((kolN a b i).length : Int) < (n : Int) ∧ (kolN a b i).length < 17592186044416 := by omega
      have hone : ∃ q, klen a b (kolN a b i) i = q + 1 := ⟨klen a b (kolN a b i) i - 1, by omega⟩
      have hrd : rd (kolN a b i ++ [kv a b i]) (i : Int) = ((klen a b (kolN a b i) i : Nat) : Int) := by
        have hr : ∀ x ∈ kolN a b i ++ [kv a b i], 1 ≤ x ∧ x ≤ 9 := by
          intro x hx
          rcases List.mem_append.1 hx with hx | hx
          · exact kolN_range h i x hx
          · rw [List.mem_singleton.1 hx]; exact kv_range h i
        have := getD_range hr i (by rw [List.length_append, List.length_singleton]; omega)
        unfold klen rd
        rw [Int.toNat_natCast]
        omega
      have key : Ev (fun k => bellpullref02_Kolakoski.j1 k a b (n : Int) (kolN a b i) (i : Int) (kv a b i)) (kolS a b n) := by
        obtain ⟨q, hq⟩ := hone
        refine Ev.succ ?_
        simp only [bellpullref02_Kolakoski.j1]
        refine Ev.pos c.2 ?_
        refine ref_kol_inner a b n (kv a b i) _ i _ (by clear hrd; omega) q 1 (kolN a b i ++ [kv a b i]) (by rw [List.length_append, List.length_singleton]; clear hrd; omega) hrd (by rw [hq]; clear hrd; omega) (by clear hrd; omega) (by rw [List.length_append, List.length_singleton]; clear hrd; omega) ?_
        rw [hq, List.replicate_succ] at hnext
        simpa using hnext
      refine Ev.succ ?_
      simp only [bellpullref02_Kolakoski.l0, tmod2]
      refine Ev.pos c.1 ?_
      by_cases hp : i % 2 = 1
      · refine Ev.pos (by clear hrd; omega) ?_
        have e : kv a b i = b := by unfold kv; rw [if_pos hp]
        rwa [e] at key
      · refine Ev.neg (by clear hrd; omega) ?_
        have e : kv a b i = a := by unfold kv; rw [if_neg hp]
        rwa [e] at key
theorem ref_Kolakoski_ev {a b : Int} (h : Nums a b) (n : Nat) (hn : n ≤ 100000) : Ev (fun k => bellpullref02_Kolakoski.f k a b (n : Int)) (kolS a b n) :=
  ref_kol_loop h n hn n 0 rfl (Nat.zero_le _)
end Go.Proofs.Ytploaicljkennaa.Pure
