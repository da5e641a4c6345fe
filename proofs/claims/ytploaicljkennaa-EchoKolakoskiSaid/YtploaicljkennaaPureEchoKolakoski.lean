/- EchoKolakoski: for all numbers the law returns true; no condition. -/
import Derived.Test.YtploaicljkennaaPEx9
import Derived.Test.YtploaicljkennaaSmoothT
import Derived.Test.YtploaicljkennaaKolS
import Derived.Test.YtploaicljkennaaWordS
set_option linter.unusedVariables false
set_option linter.unusedSimpArgs false
namespace Go.Proofs.Ytploaicljkennaa.Pure
open Go.RowKit Go.Proofs.YtploaicljkennaaW.PrintWords Go.Proofs.Ytploaicljkennaa.PE
def lens (a b : Int) (q : Nat) : List Int := (List.range q).map (fun j => ((klen a b (kolN a b j) j : Nat) : Int))
theorem kv_alt {a b : Int} (hab : a ≠ b) (q : Nat) : kv a b q ≠ kv a b (q + 1) := by
  unfold kv
  rcases Nat.mod_two_eq_zero_or_one q with h | h
  · rw [if_neg (by omega), if_pos (by omega)]; exact hab
  · rw [if_pos (by omega), if_neg (by omega)]; exact fun e => hab e.symm
theorem kolN_last {a b : Int} (h : Nums a b) (q : Nat) : (kolN a b (q + 1)).getLast? = some (kv a b q) := by
  have := klen_range h q (kolN_long h q)
  rw [kolN, List.getLast?_append, List.getLast?_replicate, if_neg (by omega)]
  rfl
theorem runs_kol {a b : Int} (h : Nums a b) (hab : a ≠ b) (q : Nat) : (kolN a b q).getLast? ≠ some (kv a b q) ∧ runsS (kolN a b q) = lens a b q := by
  induction q with
  | zero => exact ⟨by simp [kolN], rfl⟩
  | succ q ih =>
    refine ⟨?_, ?_⟩
    · rw [kolN_last h q]; intro e; injection e with e; exact kv_alt hab q e
    · have hk := klen_range h q (kolN_long h q)
      rw [kolN, runs_snoc hk.1 ih.1, ih.2]
      unfold lens
      rw [List.range_succ, List.map_append]
      rfl
theorem kol_cut {a b : Int} (h : Nums a b) (n : Nat) (hn : 1 ≤ n) : ∀ i, n ≤ (kolN a b i).length → ∃ q p, 1 ≤ p ∧ (kolN a b i).take n = kolN a b q ++ List.replicate p (kv a b q) := by
  intro i
  induction i with
  | zero => intro h0; simp [kolN] at h0; omega
  | succ i ih =>
    intro hi
    by_cases hs : n ≤ (kolN a b i).length
    · obtain ⟨q, p, hp, e⟩ := ih hs
      refine ⟨q, p, hp, ?_⟩
      rw [kolN, List.take_append_of_le_length hs]; exact e
    · refine ⟨i, n - (kolN a b i).length, by omega, ?_⟩
      rw [kolN, List.length_append, List.length_replicate] at hi
      rw [kolN, List.take_append, List.take_of_length_le (by omega), List.take_replicate, Nat.min_eq_left (by omega)]
theorem lens_take {a b : Int} (h : Nums a b) (q : Nat) (t : List Int) : lens a b q = (kolN a b q ++ t).take q := by
  have hl := kolN_long h q
  refine List.ext_getElem (by unfold lens; simp; omega) (fun j h1 h2 => ?_)
  have hj : j < q := by unfold lens at h1; simpa using h1
  have hlj := kolN_long h j
  have hk := klen_range h j hlj
  have hr := kv_range h j
  have hp : (kolN a b j ++ [kv a b j]) <+: kolN a b q ++ t := by
    have e : (kolN a b j ++ [kv a b j]) <+: kolN a b (j + 1) := by
      obtain ⟨m, hm⟩ : ∃ m, klen a b (kolN a b j) j = m + 1 := ⟨klen a b (kolN a b j) j - 1, by omega⟩
      rw [kolN, hm, List.replicate_succ]
      exact ⟨List.replicate m (kv a b j), by simp⟩
    exact (e.trans (kolN_pre hj)).trans (List.prefix_append _ _)
  rw [List.getElem_take]
  obtain ⟨s, hs⟩ := hp
  have hlt : j < (kolN a b j ++ [kv a b j]).length := by simp; omega
  have e1 : (kolN a b q ++ t)[j]'(by rw [List.length_append]; omega) = (kolN a b j ++ [kv a b j])[j] := by
    simp only [← hs]
    rw [List.getElem_append_left hlt]
  have e2 : (lens a b q)[j] = ((klen a b (kolN a b j) j : Nat) : Int) := by simp [lens]
  rw [e1, e2]
  unfold klen
  rw [List.getD_eq_getElem?_getD, List.getElem?_eq_getElem hlt]
  have hall : ∀ x ∈ kolN a b j ++ [kv a b j], 1 ≤ x := by
    intro x hx
    rcases List.mem_append.1 hx with hx | hx
    · exact (kolN_range h j x hx).1
    · rw [List.mem_singleton.1 hx]; exact hr.1
  have := hall _ (List.getElem_mem hlt)
  simp only [Option.getD_some]
  omega
theorem kol_law {a b : Int} (h : Nums a b) (hab : a ≠ b) (n : Nat) (hn : 1 ≤ n) : ∃ q : Nat, (runsS (kolS a b n)).length = q + 1 ∧ (runsS (kolS a b n)).take q = (kolS a b n).take q := by
  obtain ⟨q, p, hp, e⟩ := kol_cut h n hn n (kolN_long h n)
  have e' : kolS a b n = kolN a b q ++ List.replicate p (kv a b q) := e
  have hr := runs_kol h hab q
  refine ⟨q, ?_⟩
  rw [e', runs_snoc hp hr.1, hr.2]
  have hll : (lens a b q).length = q := by unfold lens; simp
  refine ⟨by simp [hll], ?_⟩
  rw [List.take_append_of_le_length (by omega), List.take_of_length_le (by omega)]
  exact lens_take h q _
theorem kol_check {a b : Int} (l : List Int) (hl : l.length ≤ 100000) (hm : ∀ x ∈ l, x = a ∨ x = b) (h : Ev (fun k => bellpulllaw02_EchoKolakoski.l0 k a b (l.length : Int) l (l.length : Int)) true) : ∀ (d i : Nat), l.length - i = d → i ≤ l.length →
    Ev (fun k => bellpulllaw02_EchoKolakoski.l0 k a b (l.length : Int) l (i : Int)) true := by
  intro d
  induction d with
  | zero => intro i hd hi; obtain rfl : i = l.length := by omega
            exact h
  | succ d ih =>
    intro i hd hi
    have hlt : i < l.length := by omega
    have hn := ih (i + 1) (by omega) hlt
    have c : (i : Int) < (l.length : Int) ∧ (0 : Int) ≤ i := by omega
    have hr := rd_nat l i hlt
    have hx := hm l[i] (List.getElem_mem _)
    have e3 : wrap64 ((i : Int) + 1) = ((i + 1 : Nat) : Int) := by rw [wrap_id] <;> omega
    refine Ev.succ ?_
    simp only [bellpulllaw02_EchoKolakoski.l0, hr, e3]
    refine Ev.pos c.1 (Ev.pos c.2 (Ev.pos c.1 ?_))
    by_cases h1 : l[i] = a
    · exact Ev.pos h1 hn
    · exact Ev.neg h1 (Ev.pos (by rcases hx with hx | hx; exact absurd hx h1; exact hx) hn)
theorem between_eq2 (x low high : Int) (h0 : 0 ≤ x) (h1 : x ≤ 65535) (h2 : 0 ≤ low) (h3 : low ≤ high) (h4 : high ≤ 100000) : ∃ y : Nat, bellpulllaw02_between.f x low high = some (y : Int) ∧ low ≤ y ∧ (y : Int) ≤ high := by
  have hm : 0 ≤ x % (high - low + 1) ∧ x % (high - low + 1) < high - low + 1 := ⟨Int.emod_nonneg _ (by omega), Int.emod_lt_of_pos _ (by omega)⟩
  obtain ⟨y, hy⟩ := Int.eq_ofNat_of_zero_le (show 0 ≤ low + x % (high - low + 1) by omega)
  refine ⟨y, ?_, by omega, by omega⟩
  rw [← hy]
  unfold bellpulllaw02_between.f
  have e1 : wrap64 (high - low) = high - low := by rw [wrap_id] <;> omega
  have e2 : wrap64 (high - low + 1) = high - low + 1 := by rw [wrap_id] <;> omega
  have e3 : wrap64 x = x := by rw [wrap_id] <;> omega
  rw [e1, e2, e3, if_neg (by omega), Int.tmod_eq_emod_of_nonneg h0]
  clear e1 e2 e3
  rw [wrap_id] <;> omega
theorem two_eq (x : Int) (h0 : 0 ≤ x) (h1 : x ≤ 255) : ∃ a b, bellpulllaw02_two.f x = some (a, b) ∧ Nums a b ∧ a ≠ b := by
  refine ⟨x % 9 + 1, (x % 9 + 1 + x / 9 % 8) % 9 + 1, ?_, ⟨by omega, by omega, by omega, by omega⟩, by omega⟩
  unfold bellpulllaw02_two.f
  have e3 : wrap64 x = x := by rw [wrap_id] <;> omega
  rw [e3]
  clear e3
  rw [Int.tmod_eq_emod_of_nonneg h0, Int.tdiv_eq_ediv_of_nonneg h0]
  have e4 : wrap64 (x % 9 + 1) = x % 9 + 1 := by rw [wrap_id] <;> omega
  have e5 : wrap64 (x / 9) = x / 9 := by clear e4; rw [wrap_id] <;> omega
  rw [e4, e5]
  clear e4 e5
  rw [Int.tmod_eq_emod_of_nonneg (show 0 ≤ x / 9 by omega)]
  have e6 : wrap64 (x % 9 + 1 + x / 9 % 8) = x % 9 + 1 + x / 9 % 8 := by rw [wrap_id] <;> omega
  rw [e6]
  clear e6
  rw [Int.tmod_eq_emod_of_nonneg (show 0 ≤ x % 9 + 1 + x / 9 % 8 by omega)]
  have e7 : wrap64 ((x % 9 + 1 + x / 9 % 8) % 9 + 1) = (x % 9 + 1 + x / 9 % 8) % 9 + 1 := by rw [wrap_id] <;> omega
  rw [e7]
theorem kol_head {a b : Int} (h : Nums a b) (n : Nat) (hn : 1 ≤ n) : rd (kolS a b n) 0 = a := by
  have e : (kolS a b n).take 1 = kolS a b 1 := kolS_take h hn
  have e1 : kolS a b 1 = [a] := by
    have hk := klen_range h 0 (Nat.zero_le _)
    unfold kolS
    obtain ⟨m, hm⟩ : ∃ m, klen a b (kolN a b 0) 0 = m + 1 := ⟨klen a b (kolN a b 0) 0 - 1, by omega⟩
    rw [kolN, hm, List.replicate_succ]
    rfl
  rw [e1] at e
  cases hc : kolS a b n with
  | nil => rw [hc] at e; cases e
  | cons x t => rw [hc] at e; simp at e; simp [rd, e]
theorem EchoKolakoski_ev (x n m : Int) (hx : 0 ≤ x ∧ x ≤ 255) (hn : 0 ≤ n ∧ n ≤ 65535) (hm : 0 ≤ m ∧ m ≤ 65535) : Ev (fun k => bellpulllaw02_EchoKolakoski.f k x n m) true := by
  unfold bellpulllaw02_EchoKolakoski.f
  obtain ⟨a, b, e1, h, hab⟩ := two_eq x hx.1 hx.2
  obtain ⟨s, e2, s0, s1⟩ := between_eq2 n 1 400 hn.1 hn.2 (by omega) (by omega) (by omega)
  obtain ⟨u, e3, u0, u1⟩ := between_eq2 m 0 400 hm.1 hm.2 (by omega) (by omega) (by omega)
  refine Ev.bindc e1 (Ev.bindc e2 (Ev.bindc e3 ?_))
  have c0 : s ≤ 100000 ∧ s + u ≤ 100000 ∧ s ≤ s + u ∧ 1 ≤ s ∧ 1 ≤ s + u := by omega
  have c1 : (0 : Int) ≤ s ∧ (s : Int) ≤ ((s + u : Nat) : Int) ∧ (0 : Int) < s := by omega
  have e4 : wrap64 ((s : Int) + u) = ((s + u : Nat) : Int) := by rw [wrap_id] <;> omega
  simp only [e4]
  clear e4
  refine Ev.bind (echo_Kolakoski_good h hab s c0.1) (Ev.bind (echo_Kolakoski_good h hab (s + u) c0.2.1) ?_)
  have hl1 := kolS_length h s
  have hl2 := kolS_length h (s + u)
  refine Ev.pos rfl (Ev.pos rfl (Ev.pos (by rw [hl1]) (Ev.pos (by rw [hl2]) (Ev.pos c1.1 (Ev.pos (by rw [hl2]; exact c1.2.1) ?_)))))
  simp only [Int.toNat_natCast, kolS_take h c0.2.2.1]
  refine Ev.bind (Same_self _ (by unfold Fits; omega)) (Ev.pos rfl (Ev.pos (by rw [hl1]; exact c1.2.2) (Ev.pos (kol_head h s c0.2.2.2.1) (Ev.bind lives_ev ?_))))
  refine Ev.succ ?_
  simp only [bellpulllaw02_EchoKolakoski.j0]
  refine Ev.neg (by simp) ?_
  have hfit : Fits (kolS a b (s + u)) := by unfold Fits; omega
  obtain ⟨q, hq1, hq2⟩ := kol_law h hab (s + u) c0.2.2.2.2
  have hql := runsS_length (kolS a b (s + u))
  have key := kol_check (a := a) (b := b) (kolS a b (s + u)) (by omega) (kolS_mem a b _) ?_ _ 0 rfl (Nat.zero_le _)
  · rw [hl2] at key; exact key
  · have d : ¬ ((runsS (kolS a b (s + u))).length : Int) > ((kolS a b (s + u)).length : Int) ∧ (0 : Int) ≤ q ∧ (q : Int) ≤ ((runsS (kolS a b (s + u))).length : Int) ∧ (q : Int) ≤ ((kolS a b (s + u)).length : Int) := by omega
    have e5 : wrap64 (((runsS (kolS a b (s + u))).length : Int) - 1) = (q : Int) := by rw [wrap_id] <;> omega
    refine Ev.succ ?_
    simp only [bellpulllaw02_EchoKolakoski.l0]
    refine Ev.neg (by clear e5; omega) (Ev.bind (ref_Runs_ev _ hfit) ?_)
    simp only [e5, Int.toNat_natCast]
    clear e5
    refine Ev.neg d.1 (Ev.pos d.2.1 (Ev.pos d.2.2.1 (Ev.pos d.2.2.2 ?_)))
    rw [hq2]
    exact Ev.bind (Same_self _ (by unfold Fits; rw [List.length_take]; omega)) (Ev.now _)
theorem EchoKolakoski : bellpulllaw02_EchoKolakoski.Pure := fun x n m h1 h2 h3 => (EchoKolakoski_ev x n m (wf_u8 h1) (wf_u16 h2) (wf_u16 h3)).rounds
end Go.Proofs.Ytploaicljkennaa.Pure
