/- The reference's counts: the pairs, the quadruples. -/
import Derived.Test.YtgfnmimfoicmmaaPMx13
import Derived.Test.YtgfnmimfoicmmaaPMx14
import Derived.Test.YtgfnmimfoicmmaaPMx15
import Derived.Test.YtgfnmimfoicmmaaJacT
import Derived.Test.YtgfnmimfoicmmaaSame
import Derived.Test.YtgfnmimfoicmmaaBits
set_option linter.unusedVariables false
set_option linter.unusedSimpArgs false
namespace Go.Proofs.Ytgfnmimfoicmmaa.Pure
open Go.RowKit Go.Proofs.Ytgfnmimfoicmmaa.PM Go.Proofs.YtgfnmimfoicmmaaW.PrintWords Go.Proofs.YtgfnmimfoicmmaaW.PrintLast
open Go.Proofs.Ytgfnmimfoicmmaa.Jac

def tab (n : Nat) (f : Nat → Nat) : List Int := (List.range (n + 1)).map (fun v => ((f v : Nat) : Int))
theorem tab_len (n : Nat) (f : Nat → Nat) : (tab n f).length = n + 1 := by simp [tab]
theorem tab_rd (n : Nat) (f : Nat → Nat) (v : Nat) (h : v ≤ n) : rd (tab n f) (v : Int) = (f v : Int) := by
  rw [rd_nat _ v (by rw [tab_len]; omega)]
  simp [tab]
theorem tab_set (n : Nat) (f g : Nat → Nat) (v : Nat) (h : ∀ u, u ≤ n → g u = f u + if v = u then 1 else 0) : (tab n f).set v (((f v + 1 : Nat)) : Int) = tab n g := by
  refine List.ext_getElem (by simp [tab]) (fun i h1 h2 => ?_)
  have hi : i ≤ n := by rw [tab_len] at h2; omega
  rw [List.getElem_set]
  simp only [tab, List.getElem_map, List.getElem_range, h i hi]
  split
  · rename_i e; subst e; rfl
  · simp
theorem sqd_int (t i : Nat) : ((i : Int) - t) * ((i : Int) - t) = ((sqd t i : Nat) : Int) := by
  unfold sqd
  rcases Nat.le_total i t with h | h
  · have e : i - t + (t - i) = t - i := by omega
    rw [e, Int.natCast_mul, Int.ofNat_sub h]
    grind
  · have e : i - t + (t - i) = i - t := by omega
    rw [e, Int.natCast_mul, Int.ofNat_sub h]
theorem sqd_le (t i : Nat) (h : i ≤ 2 * t + 1) : sqd t i ≤ (t + 1) * (t + 1) := Nat.mul_le_mul (by omega) (by omega)
def ind (o : Nat → Bool) (t i j v : Nat) : Nat := if o i = true ∧ o j = true ∧ sqd t i + sqd t j = v then 1 else 0
/-- What is counted before the pair i, j. -/
def upto (o : Nat → Bool) (t i j v : Nat) : Nat := S (fun a => S (fun b => ind o t a b v) (2 * t + 1)) i + S (fun b => ind o t i b v) j
theorem upto_le (o : Nat → Bool) (t i j v : Nat) : upto o t i j v ≤ i * (2 * t + 1) + j := by
  have h1 : ∀ a j, S (fun b => ind o t a b v) j ≤ j := fun a j => by
    have : S (fun b => ind o t a b v) j ≤ S (fun _ => 1) j := S_le j (fun b _ => by unfold ind; split <;> omega)
    rw [S_const] at this; omega
  have h2 : S (fun a => S (fun b => ind o t a b v) (2 * t + 1)) i ≤ S (fun _ => 2 * t + 1) i := S_le i (fun a _ => h1 a _)
  rw [S_const] at h2
  have h3 := h1 i j
  unfold upto
  omega
theorem upto_next (o : Nat → Bool) (t i v : Nat) : upto o t i (2 * t + 1) v = upto o t (i + 1) 0 v := rfl
theorem upto_step (o : Nat → Bool) (t i j v : Nat) : upto o t i (j + 1) v = upto o t i j v + ind o t i j v := by
  unfold upto
  exact (Nat.add_assoc _ _ _).symm
theorem upto_all (o : Nat → Bool) (t v : Nat) : upto o t (2 * t + 1) 0 v = r2 o (sqd t) (2 * t + 1) v := rfl
/-- The pair's number goes into the row. -/
def fits (par : Int) (o : Nat → Bool) (t : Nat) : Prop := (par = 2 ∧ ∀ i, o i = true) ∨ (par = 1 ∧ ∀ i, o i = true ↔ ((i : Int) - t) % 2 = 1)
theorem Pairs_row (n t : Nat) (par : Int) (o : Nat → Bool) (hf : fits par o t) (hn : n ≤ 40000) (ht : t ≤ 200) (i : Nat) (hi : i ≤ 2 * t) (r : List Int) (next : Ev (fun k => bellpullref04_Pairs.l0 k n t par (tab n (upto o t (i + 1) 0)) (((i + 1 : Nat) : Int) - t)) r) :
    ∀ (d j : Nat), j + d = 2 * t + 1 → Ev (fun k => bellpullref04_Pairs.l1 k n t par (tab n (upto o t i j)) ((i : Int) - t) ((j : Int) - t)) r
  | 0, j, h => by
    refine Ev.succ ?_
    simp only [bellpullref04_Pairs.l1]
    obtain rfl : j = 2 * t + 1 := by omega
    have hw : wrap64 ((i : Int) - t + 1) = ((i + 1 : Nat) : Int) - t := by rw [wrap_id (by omega) (by omega)]; omega
    rw [hw]
    exact Ev.neg (by omega) next
  | d + 1, j, h => by
    refine Ev.succ ?_
    simp only [bellpullref04_Pairs.l1]
    have ih := Pairs_row n t par o hf hn ht i hi r next d (j + 1) (by omega)
    have b1 := sqd_le t i (by omega)
    have b2 := sqd_le t j (by omega)
    have b3 : (t + 1) * (t + 1) ≤ 201 * 201 := Nat.mul_le_mul (by omega) (by omega)
    have hv : wrap64 (wrap64 (((i : Int) - t) * ((i : Int) - t)) + wrap64 (((j : Int) - t) * ((j : Int) - t))) = ((sqd t i + sqd t j : Nat) : Int) := by
      rw [sqd_int, sqd_int, wrap_id (x := ((sqd t i : Nat) : Int)) (by omega) (by omega), wrap_id (x := ((sqd t j : Nat) : Int)) (by omega) (by omega), wrap_id (by omega) (by omega)]
      omega
    have hw : wrap64 ((j : Int) - t + 1) = ((j + 1 : Nat) : Int) - t := by rw [wrap_id (by omega) (by omega)]; omega
    rw [hv, hw, bit1, bit1]
    refine Ev.pos (by omega) ?_
    have same : ¬ (o i = true ∧ o j = true ∧ sqd t i + sqd t j ≤ n) → tab n (upto o t i j) = tab n (upto o t i (j + 1)) := fun hne => by
      unfold tab
      refine List.map_congr_left (fun v hv => ?_)
      rw [upto_step]
      have : ind o t i j v = 0 := by
        unfold ind
        rw [if_neg]
        rintro ⟨h1, h2, h3⟩
        have := List.mem_range.mp hv
        exact hne ⟨h1, h2, by omega⟩
      omega
    have put : o i = true → o j = true → sqd t i + sqd t j ≤ n → (tab n (upto o t i j)).set ((sqd t i + sqd t j : Nat) : Int).toNat (wrap64 (rd (tab n (upto o t i j)) ((sqd t i + sqd t j : Nat) : Int) + 1)) = tab n (upto o t i (j + 1)) := fun h1 h2 h3 => by
      have b4 := upto_le o t i j (sqd t i + sqd t j)
      have b5 : i * (2 * t + 1) ≤ 400 * 401 := Nat.mul_le_mul (by omega) (by omega)
      rw [tab_rd _ _ _ h3, wrap_id (by omega) (by omega), Int.toNat_natCast]
      refine tab_set n _ _ _ (fun u _ => ?_)
      rw [upto_step]
      congr 1
      unfold ind
      simp only [h1, h2, true_and]
    by_cases hle : sqd t i + sqd t j ≤ n
    · refine Ev.pos (by omega) ?_
      rcases hf with ⟨rfl, ho⟩ | ⟨rfl, ho⟩
      · rw [put (ho i) (ho j) hle]
        exact Ev.pos rfl (Ev.pos (by omega) (Ev.pos (by rw [tab_len]; omega) ih))
      · refine Ev.neg (by omega) ?_
        by_cases h1 : ((i : Int) - t) % 2 = 1
        · refine Ev.pos h1 ?_
          by_cases h2 : ((j : Int) - t) % 2 = 1
          · rw [put ((ho i).mpr h1) ((ho j).mpr h2) hle]
            exact Ev.pos h2 (Ev.pos (by omega) (Ev.pos (by rw [tab_len]; omega) ih))
          · rw [same (fun c => h2 ((ho j).mp c.2.1))]
            exact Ev.neg h2 ih
        · rw [same (fun c => h1 ((ho i).mp c.1))]
          exact Ev.neg h1 ih
    · rw [same (fun c => hle c.2.2)]
      exact Ev.neg (by omega) ih
theorem Pairs_rows (n t : Nat) (par : Int) (o : Nat → Bool) (hf : fits par o t) (hn : n ≤ 40000) (ht : t ≤ 200) : ∀ (d i : Nat), i + d = 2 * t + 1 → Ev (fun k => bellpullref04_Pairs.l0 k n t par (tab n (upto o t i 0)) ((i : Int) - t)) (tab n (r2 o (sqd t) (2 * t + 1)))
  | 0, i, h => by
    refine Ev.succ ?_
    simp only [bellpullref04_Pairs.l0]
    obtain rfl : i = 2 * t + 1 := by omega
    exact Ev.neg (by omega) (Ev.now _)
  | d + 1, i, h => by
    refine Ev.succ ?_
    simp only [bellpullref04_Pairs.l0]
    have hw : wrap64 (-(t : Int)) = ((0 : Nat) : Int) - t := by rw [wrap_id (by omega) (by omega)]; omega
    rw [hw]
    refine Ev.pos (by omega) ?_
    exact Pairs_row n t par o hf hn ht i (by omega) _ (Pairs_rows n t par o hf hn ht d (i + 1) (by omega)) (2 * t + 1) 0 (by omega)
theorem Pairs_ev (n t : Nat) (par : Int) (o : Nat → Bool) (hf : fits par o t) (hn : n ≤ 40000) (ht : t ≤ 200) : Ev (fun k => bellpullref04_Pairs.f k n t par) (tab n (r2 o (sqd t) (2 * t + 1))) := by
  unfold bellpullref04_Pairs.f
  have hw : wrap64 ((n : Int) + 1) = ((n + 1 : Nat) : Int) := by rw [wrap_id (by omega) (by omega)]; omega
  have hw2 : wrap64 (-(t : Int)) = ((0 : Nat) : Int) - t := by rw [wrap_id (by omega) (by omega)]; omega
  rw [hw, hw2]
  refine Ev.pos (by omega) (Ev.pos (by omega) ?_)
  have h0 : List.replicate ((n + 1 : Nat) : Int).toNat (0 : Int) = tab n (upto o t 0 0) := by
    rw [Int.toNat_natCast]
    refine List.ext_getElem (by simp [tab]) (fun i h1 h2 => ?_)
    simp [tab, upto, S]
  rw [h0]
  exact Pairs_rows n t par o hf hn ht (2 * t + 1) 0 (by omega)
theorem sum_bound (f : Nat → Nat) (M : Nat) (hM : ∀ v, f v ≤ M) (n j : Nat) : S (fun v => f v * f (n - v)) j ≤ j * (M * M) := by
  have : S (fun v => f v * f (n - v)) j ≤ S (fun _ => M * M) j := S_le j (fun v _ => Nat.mul_le_mul (hM _) (hM _))
  rwa [S_const] at this
theorem prod_val (a b : Nat) (ha : a ≤ 160801) (hb : b ≤ 160801) : wrap64 ((a : Int) * (b : Int)) = ((a * b : Nat) : Int) := by
  have : a * b ≤ 160801 * 160801 := Nat.mul_le_mul ha hb
  rw [← Int.natCast_mul, wrap_id (by omega) (by omega)]
theorem Count_loop (n : Nat) (hn : n ≤ 10000) (f : Nat → Nat) (hM : ∀ v, f v ≤ 160801) : ∀ (d j : Nat), j + d = n + 1 → Ev (fun k => bellpullref04_Count.l0 k n (tab n f) ((S (fun v => f v * f (n - v)) j : Nat) : Int) (j : Int)) ((conv f f n : Nat) : Int)
  | 0, j, h => by
    refine Ev.succ ?_
    simp only [bellpullref04_Count.l0]
    obtain rfl : j = n + 1 := by omega
    exact Ev.neg (by omega) (Ev.now _)
  | d + 1, j, h => by
    refine Ev.succ ?_
    simp only [bellpullref04_Count.l0]
    have hs : wrap64 ((n : Int) - (j : Int)) = ((n - j : Nat) : Int) := by rw [wrap_id (by omega) (by omega)]; omega
    have hw : wrap64 ((j : Int) + 1) = ((j + 1 : Nat) : Int) := by rw [wrap_id (by omega) (by omega)]; omega
    rw [hs, tab_rd _ _ _ (show j ≤ n by omega), tab_rd _ _ _ (show n - j ≤ n by omega), prod_val _ _ (hM _) (hM _), hw]
    have b1 := sum_bound f 160801 hM n (j + 1)
    have b2 : (j + 1) * (160801 * 160801) ≤ 40002 * (160801 * 160801) := Nat.mul_le_mul_right _ (by omega)
    have e : S (fun v => f v * f (n - v)) (j + 1) = S (fun v => f v * f (n - v)) j + f j * f (n - j) := rfl
    have hadd : wrap64 (((S (fun v => f v * f (n - v)) j : Nat) : Int) + ((f j * f (n - j) : Nat) : Int)) = ((S (fun v => f v * f (n - v)) (j + 1) : Nat) : Int) := by
      rw [wrap_id (by omega) (by omega), e]; omega
    rw [hadd]
    exact Ev.pos (by omega) (Ev.pos (by omega) (Ev.pos (by rw [tab_len]; omega) (Ev.pos (by omega) (Ev.pos (by rw [tab_len]; omega) (Count_loop n hn f hM d (j + 1) (by omega))))))
theorem Hurwitz_loop (n : Nat) (hn : n ≤ 10000) (c : Nat) (hc : c ≤ 1000000000) (f : Nat → Nat) (hM : ∀ v, f v ≤ 160801) : ∀ (d j : Nat), j + d = 4 * n + 1 → Ev (fun k => bellpullref04_Hurwitz.l0 k n (tab (4 * n) f) ((c + S (fun v => f v * f (4 * n - v)) j : Nat) : Int) (j : Int)) ((c + conv f f (4 * n) : Nat) : Int)
  | 0, j, h => by
    refine Ev.succ ?_
    simp only [bellpullref04_Hurwitz.l0]
    obtain rfl : j = 4 * n + 1 := by omega
    have h4 : wrap64 (4 * (n : Int)) = ((4 * n : Nat) : Int) := by rw [wrap_id (by omega) (by omega)]; omega
    rw [h4]
    exact Ev.neg (by omega) (Ev.now _)
  | d + 1, j, h => by
    refine Ev.succ ?_
    simp only [bellpullref04_Hurwitz.l0]
    have h4 : wrap64 (4 * (n : Int)) = ((4 * n : Nat) : Int) := by rw [wrap_id (by omega) (by omega)]; omega
    rw [h4]
    have hs : wrap64 (((4 * n : Nat) : Int) - (j : Int)) = ((4 * n - j : Nat) : Int) := by rw [wrap_id (by omega) (by omega)]; omega
    have hw : wrap64 ((j : Int) + 1) = ((j + 1 : Nat) : Int) := by rw [wrap_id (by omega) (by omega)]; omega
    rw [hs, tab_rd _ _ _ (show j ≤ 4 * n by omega), tab_rd _ _ _ (show 4 * n - j ≤ 4 * n by omega), prod_val _ _ (hM _) (hM _), hw]
    have b1 := sum_bound f 160801 hM (4 * n) (j + 1)
    have b2 : (j + 1) * (160801 * 160801) ≤ 40002 * (160801 * 160801) := Nat.mul_le_mul_right _ (by omega)
    have e : S (fun v => f v * f (4 * n - v)) (j + 1) = S (fun v => f v * f (4 * n - v)) j + f j * f (4 * n - j) := rfl
    have hadd : wrap64 (((c + S (fun v => f v * f (4 * n - v)) j : Nat) : Int) + ((f j * f (4 * n - j) : Nat) : Int)) = ((c + S (fun v => f v * f (4 * n - v)) (j + 1) : Nat) : Int) := by
      rw [wrap_id (by omega) (by omega), e]; omega
    rw [hadd]
    exact Ev.pos (by omega) (Ev.pos (by omega) (Ev.pos (by rw [tab_len]; omega) (Ev.pos (by omega) (Ev.pos (by rw [tab_len]; omega) (Hurwitz_loop n hn c hc f hM d (j + 1) (by omega))))))
theorem refCount_ev (n : Nat) (hn : n ≤ 10000) : Ev (fun k => bellpullref04_Count.f k (n : Int)) ((jac n : Nat) : Int) := by
  unfold bellpullref04_Count.f
  refine Ev.bind (Pairs_ev n 100 2 all (.inl ⟨rfl, fun _ => rfl⟩) (by omega) (by omega)) ?_
  rw [← jacobi n hn]
  have := Count_loop n hn (r2 all (sqd 100) 201) (fun v => Nat.le_trans (r2_le _ _ _ _) (by omega)) (n + 1) 0 (by omega)
  exact this
theorem jac_le (n : Nat) (hn : n ≤ 10000) : jac n ≤ 1000000000 := by
  have h1 := dsum_le g4 n
  have h2 : n * n ≤ 10000 * 10000 := Nat.mul_le_mul hn hn
  unfold jac
  split <;> omega
theorem odd_iff (i : Nat) : odd 200 i = true ↔ ((i : Int) - ((200 : Nat) : Int)) % 2 = 1 := by
  simp only [odd, beq_iff_eq]
  omega
theorem refHurwitz_ev (n : Nat) (hn : n ≤ 10000) (h0 : 0 < n) : Ev (fun k => bellpullref04_Hurwitz.f k (n : Int)) ((24 * dsum g2 n : Nat) : Int) := by
  unfold bellpullref04_Hurwitz.f
  have h4 : wrap64 (4 * (n : Int)) = ((4 * n : Nat) : Int) := by rw [wrap_id (by omega) (by omega)]; omega
  rw [h4]
  refine Ev.bind (Pairs_ev (4 * n) 200 1 (odd 200) (.inr ⟨rfl, odd_iff⟩) (by omega) (by omega)) (Ev.bind (refCount_ev n hn) ?_)
  have h := hurwitz n hn
  have hj : jac n = 8 * dsum g4 n := by unfold jac; rw [if_neg (by omega)]
  have := Hurwitz_loop n hn (jac n) (jac_le n hn) (r2 (odd 200) (sqd 200) 401) (fun v => Nat.le_trans (r2_le _ _ _ _) (by omega)) (4 * n + 1) 0 (by omega)
  rw [show 24 * dsum g2 n = jac n + conv (r2 (odd 200) (sqd 200) 401) (r2 (odd 200) (sqd 200) 401) (4 * n) by omega]
  exact this
end Go.Proofs.Ytgfnmimfoicmmaa.Pure
