/- EchoGolomb: for every number the law returns true; no condition. -/
import Derived.Test.YtploaicljkennaaPEx6
import Derived.Test.YtploaicljkennaaGolT
set_option linter.unusedVariables false
set_option linter.unusedSimpArgs false
namespace Go.Proofs.Ytploaicljkennaa.Pure
open Go.RowKit Go.Proofs.YtploaicljkennaaW.PrintWords Go.Proofs.Ytploaicljkennaa.PE
theorem lives_g : Ev (fun k => bellpulllaw02_lives.f k) true :=
  Ev.of (fun k => bellpulllaw02_lives.mono k) (k := 200) (by decide +kernel)
theorem golS_G {m : Nat} (h : m ≤ 2000) : golS m = G.take m := by rw [← G_eq, golS_take h]
theorem rd_gol {m i : Nat} (h : m ≤ 2000) (hi : i < m) : rd (golS m) (i : Int) = gg i := by
  have hl := G_len
  rw [golS_G h]
  unfold rd gg
  rw [Int.toNat_natCast, List.getD_eq_getElem?_getD, List.getD_eq_getElem?_getD, List.getElem?_take, if_pos hi]
/-- How often each number is among the first terms. -/
def Times (t : List Int) (m i : Nat) : Prop := t.length = m + 2 ∧ ∀ v : Nat, t.getD v 0 = (((G.take i).count (v : Int) : Nat) : Int)
theorem times_zero (m : Nat) : Times (List.replicate (m + 2) 0) m 0 := by
  refine ⟨by simp, fun v => ?_⟩
  simp [List.getD_eq_getElem?_getD, List.getElem?_replicate]
  split <;> rfl
theorem times_step {t : List Int} {m i : Nat} (h : Times t m i) (hm : m ≤ 2000) (hi : i < m) (q : Nat) (hq : gg i = (q : Int)) (hq2 : q < m + 2) :
    rd t (q : Int) = (((G.take i).count (q : Int) : Nat) : Int) ∧ Times (t.set q (rd t (q : Int) + 1)) m (i + 1) := by
  have hrd : rd t (q : Int) = (((G.take i).count (q : Int) : Nat) : Int) := by unfold rd; rw [Int.toNat_natCast]; exact h.2 q
  refine ⟨hrd, ?_⟩
  have hil : i < G.length := by rw [G_len]; omega
  refine ⟨by simp [h.1], fun v => ?_⟩
  rw [List.take_succ_eq_append_getElem hil, List.count_append, G_get i hil, hq, hrd]
  have hv := h.2 v
  rw [List.getD_eq_getElem?_getD] at hv ⊢
  rw [List.getElem?_set]
  by_cases e : q = v
  · subst e
    rw [if_pos rfl, if_pos (by rw [h.1]; exact hq2)]
    simp
  · rw [if_neg e, hv]
    have : ((q : Int) == (v : Int)) = false := by simp; omega
    simp [List.count_cons, this]
theorem count_le (l : List Int) (v : Int) : l.count v ≤ l.length := List.count_le_length
theorem gol_l2 (m : Nat) (hm : m ≤ 2000) (t : List Int) : ∀ (d i : Nat), m - i = d → i ≤ m → 1 ≤ i → Ev (fun k => bellpulllaw02_EchoGolomb.l2 k (m : Int) (golS m) (i : Int)) true := by
  have hl := golS_length m
  intro d
  induction d with
  | zero =>
    intro i hd hi h1
    refine Ev.succ ?_
    simp only [bellpulllaw02_EchoGolomb.l2]
    exact Ev.neg (by omega) (Ev.now _)
  | succ d ih =>
    intro i hd hi h1
    have hlt : i < m := by omega
    have hn := ih (i + 1) (by omega) hlt (by omega)
    obtain ⟨j, hj, q, hq, hqi, hrec⟩ := gg3 i (by omega) (by omega)
    have g1 := gg1 (i - 1) (by omega)
    have hji : j < m := by omega
    have g2 := gg1 j (by omega)
    have gi := gg1 i (by omega)
    have r1 : rd (golS m) ((i - 1 : Nat) : Int) = (j : Int) + 1 := by rw [rd_gol hm (by omega), hj]
    have r2 : rd (golS m) (j : Int) = (q : Int) := by rw [rd_gol hm hji, hq]
    have r3 : rd (golS m) (i : Int) = gg i := rd_gol hm hlt
    have hq0 : 1 ≤ q := by omega
    have r4 : rd (golS m) ((i - q : Nat) : Int) = gg (i - q) := rd_gol hm (by omega)
    have g4 := gg1 (i - q) (by omega)
    have c : (i : Int) < (m : Int) ∧ (0 : Int) ≤ ((i - 1 : Nat) : Int) ∧ ((i - 1 : Nat) : Int) < ((golS m).length : Int) ∧ (0 : Int) ≤ j ∧ (j : Int) < ((golS m).length : Int) ∧ ¬ ((i - q + 1 : Nat) : Int) < 1 ∧ ¬ ((i - q + 1 : Nat) : Int) > (m : Int) ∧ (0 : Int) ≤ i ∧ (i : Int) < ((golS m).length : Int) ∧ (0 : Int) ≤ ((i - q : Nat) : Int) ∧ ((i - q : Nat) : Int) < ((golS m).length : Int) := by
      rw [hl]; clear r1 r2 r3 r4; omega
    have e0 : wrap64 ((i : Int) - 1) = ((i - 1 : Nat) : Int) := by clear r1 r2 r3 r4; rw [wrap_id] <;> omega
    have e1 : wrap64 ((j : Int) + 1 - 1) = (j : Int) := by clear r1 r2 r3 r4 e0; rw [wrap_id] <;> omega
    have e2 : wrap64 ((i : Int) + 1) = ((i + 1 : Nat) : Int) := by clear r1 r2 r3 r4 e0 e1; rw [wrap_id] <;> omega
    have e3 : wrap64 (((i + 1 : Nat) : Int) - q) = ((i - q + 1 : Nat) : Int) := by clear r1 r2 r3 r4 e0 e1 e2; rw [wrap_id] <;> omega
    have e4 : wrap64 (((i - q + 1 : Nat) : Int) - 1) = ((i - q : Nat) : Int) := by clear r1 r2 r3 r4 e0 e1 e2 e3; rw [wrap_id] <;> omega
    have e5 : wrap64 (1 + gg (i - q)) = 1 + gg (i - q) := by clear r1 r2 r3 r4 e0 e1 e2 e3 e4; rw [wrap_id] <;> omega
    refine Ev.succ ?_
    simp only [bellpulllaw02_EchoGolomb.l2, e0, r1, e1, e2, r2, e3, e4, r3, r4, e5]
    exact Ev.pos c.1 (Ev.pos c.2.1 (Ev.pos c.2.2.1 (Ev.pos c.2.2.2.1 (Ev.pos c.2.2.2.2.1 (Ev.neg c.2.2.2.2.2.1 (Ev.neg c.2.2.2.2.2.2.1 (Ev.pos c.2.2.2.2.2.2.2.1 (Ev.pos c.2.2.2.2.2.2.2.2.1 (Ev.pos c.2.2.2.2.2.2.2.2.2.1 (Ev.pos c.2.2.2.2.2.2.2.2.2.2 (Ev.pos hrec hn)))))))))))
theorem gol_l1 (m : Nat) (h1 : 1 ≤ m) (hm : m ≤ 2000) (t : List Int) (ht : Times t m m) : ∀ (d v : Nat), (gg (m - 1)).toNat - v = d → 1 ≤ v → (v : Int) ≤ gg (m - 1) → Ev (fun k => bellpulllaw02_EchoGolomb.l1 k (m : Int) (golS m) t (v : Int)) true := by
  have hl := golS_length m
  have gl := gg1 (m - 1) (by omega)
  have r0 : rd (golS m) ((m - 1 : Nat) : Int) = gg (m - 1) := rd_gol hm (by omega)
  have c0 : (0 : Int) ≤ ((m - 1 : Nat) : Int) ∧ ((m - 1 : Nat) : Int) < ((golS m).length : Int) := by clear r0; omega
  have e0 : wrap64 ((m : Int) - 1) = ((m - 1 : Nat) : Int) := by clear r0; rw [wrap_id] <;> omega
  intro d
  induction d with
  | zero =>
    intro v hd hv1 hv2
    refine Ev.succ ?_
    simp only [bellpulllaw02_EchoGolomb.l1, e0, r0]
    refine Ev.pos c0.1 (Ev.pos c0.2 (Ev.neg (by clear e0 r0; omega) ?_))
    exact gol_l2 m hm t _ 1 rfl h1 (Nat.le_refl _)
  | succ d ih =>
    intro v hd hv1 hv2
    have hlt : (v : Int) < gg (m - 1) := by clear e0 r0; omega
    have hn := ih (v + 1) (by clear e0 r0; omega) (by clear e0 r0; omega) (by clear e0 r0; omega)
    have hc := G_count m v h1 hm hv1 hlt
    have r1 : rd t (v : Int) = gg (v - 1) := by unfold rd; rw [Int.toNat_natCast, ht.2 v, hc]
    have r2 : rd (golS m) ((v - 1 : Nat) : Int) = gg (v - 1) := rd_gol hm (by clear e0 r0 r1; omega)
    have c : (0 : Int) ≤ v ∧ (v : Int) < (t.length : Int) ∧ (0 : Int) ≤ ((v - 1 : Nat) : Int) ∧ ((v - 1 : Nat) : Int) < ((golS m).length : Int) := by
      rw [hl, ht.1]; clear e0 r0 r1 r2; omega
    have e1 : wrap64 ((v : Int) - 1) = ((v - 1 : Nat) : Int) := by clear e0 r0 r1 r2; rw [wrap_id] <;> omega
    have e2 : wrap64 ((v : Int) + 1) = ((v + 1 : Nat) : Int) := by clear e0 r0 r1 r2 e1; rw [wrap_id] <;> omega
    refine Ev.succ ?_
    simp only [bellpulllaw02_EchoGolomb.l1, e0, r0, e1, e2, r1, r2]
    exact Ev.pos c0.1 (Ev.pos c0.2 (Ev.pos hlt (Ev.pos c.1 (Ev.pos c.2.1 (Ev.pos c.2.2.1 (Ev.pos c.2.2.2 (Ev.pos trivial hn)))))))
theorem gol_l0 (m : Nat) (h1 : 1 ≤ m) (hm : m ≤ 2000) : ∀ (d i : Nat) (t : List Int), m - i = d → i ≤ m → Times t m i → Ev (fun k => bellpulllaw02_EchoGolomb.l0 k (m : Int) (golS m) t (i : Int)) true := by
  have hl := golS_length m
  intro d
  induction d with
  | zero =>
    intro i t hd hi ht
    obtain rfl : i = m := by omega
    have gl := gg1 (i - 1) (by omega)
    refine Ev.succ ?_
    simp only [bellpulllaw02_EchoGolomb.l0]
    refine Ev.neg (by omega) ?_
    exact gol_l1 i h1 hm t ht _ 1 rfl (Nat.le_refl _) (by omega)
  | succ d ih =>
    intro i t hd hi ht
    have hlt : i < m := by omega
    have gi := gg1 i (by omega)
    obtain ⟨q, hq⟩ := Int.eq_ofNat_of_zero_le (show 0 ≤ gg i by omega)
    obtain ⟨s1, s2⟩ := times_step ht hm hlt q hq (by omega)
    have hn := ih (i + 1) _ (by omega) hlt s2
    have hcl : (G.take i).count (q : Int) ≤ 2000 := Nat.le_trans (count_le _ _) (by rw [List.length_take, G_len]; omega)
    have r0 : rd (golS m) (i : Int) = (q : Int) := by rw [rd_gol hm hlt, hq]
    have c : (i : Int) < (m : Int) ∧ (0 : Int) ≤ i ∧ (i : Int) < ((golS m).length : Int) ∧ ¬ (q : Int) < 1 ∧ ¬ (q : Int) > ((i + 1 : Nat) : Int) ∧ (0 : Int) ≤ q ∧ (q : Int) < (t.length : Int) := by
      rw [hl, ht.1]; clear r0 s1; omega
    have e1 : wrap64 ((i : Int) + 1) = ((i + 1 : Nat) : Int) := by clear r0 s1; rw [wrap_id] <;> omega
    have e2 : wrap64 (rd t (q : Int) + 1) = rd t (q : Int) + 1 := by rw [s1]; clear r0 e1; rw [wrap_id] <;> omega
    have htoN : ((q : Int)).toNat = q := Int.toNat_natCast q
    refine Ev.succ ?_
    simp only [bellpulllaw02_EchoGolomb.l0, r0, e1, e2, htoN]
    refine Ev.pos c.1 (Ev.pos c.2.1 (Ev.pos c.2.2.1 (Ev.neg c.2.2.2.1 (Ev.neg c.2.2.2.2.1 ?_))))
    by_cases h0 : 0 < i
    · have g2 := gi.2.2 h0
      have g1 := gg1 (i - 1) (by clear r0 e1 e2 s1; omega)
      obtain ⟨p, hp⟩ := Int.eq_ofNat_of_zero_le (show 0 ≤ gg (i - 1) by clear r0 e1 e2 s1; omega)
      have r3 : rd (golS m) ((i - 1 : Nat) : Int) = (p : Int) := by rw [rd_gol hm (by clear r0 e1 e2 s1; omega), hp]
      have c2 : (i : Int) > 0 ∧ (0 : Int) ≤ ((i - 1 : Nat) : Int) ∧ ((i - 1 : Nat) : Int) < ((golS m).length : Int) ∧ ¬ (q : Int) < (p : Int) ∧ ¬ (q : Int) > ((p + 1 : Nat) : Int) := by
        rw [hl]; clear r0 e1 e2 r3 s1; omega
      have e3 : wrap64 ((i : Int) - 1) = ((i - 1 : Nat) : Int) := by clear r0 e1 e2 r3 s1; rw [wrap_id] <;> omega
      have e4 : wrap64 ((p : Int) + 1) = ((p + 1 : Nat) : Int) := by clear r0 e1 e2 r3 e3 s1; rw [wrap_id] <;> omega
      simp only [e3, r3, e4]
      exact Ev.pos c2.1 (Ev.pos c2.2.1 (Ev.pos c2.2.2.1 (Ev.neg c2.2.2.2.1 (Ev.neg c2.2.2.2.2 (Ev.pos c.2.2.2.2.2.1 (Ev.pos c.2.2.2.2.2.2 hn))))))
    · exact Ev.neg (by clear r0 e1 e2 s1; omega) (Ev.pos c.2.2.2.2.2.1 (Ev.pos c.2.2.2.2.2.2 hn))
theorem between_g (x low high : Int) (h0 : 0 ≤ x) (h1 : x ≤ 65535) (h2 : 0 ≤ low) (h3 : low ≤ high) (h4 : high ≤ 100000) : ∃ y : Nat, bellpulllaw02_between.f x low high = some (y : Int) ∧ low ≤ y ∧ (y : Int) ≤ high := by
  have hm : 0 ≤ x % (high - low + 1) ∧ x % (high - low + 1) < high - low + 1 := ⟨Int.emod_nonneg _ (by omega), Int.emod_lt_of_pos _ (by omega)⟩
  obtain ⟨y, hy⟩ := Int.eq_ofNat_of_zero_le (show 0 ≤ low + x % (high - low + 1) by omega)
  refine ⟨y, ?_, by omega, by omega⟩
  rw [← hy]
  unfold bellpulllaw02_between.f
  have e1 : wrap64 (high - low) = high - low := by rw [wrap_id] <;> omega
  have e2 : wrap64 (high - low + 1) = high - low + 1 := by rw [wrap_id] <;> omega
  have e3 : wrap64 x = x := by rw [wrap_id] <;> omega
  rw [e1, e2, e3, if_neg (by omega), Int.tmod_eq_emod_of_nonneg h0]
  clear e1 e2 e3
  rw [wrap_id] <;> omega
theorem EchoGolomb_ev (n : Int) (hn : 0 ≤ n ∧ n ≤ 65535) : Ev (fun k => bellpulllaw02_EchoGolomb.f k n) true := by
  unfold bellpulllaw02_EchoGolomb.f
  obtain ⟨m, e, h1, h2⟩ := between_g n 1 2000 hn.1 hn.2 (by omega) (by omega) (by omega)
  refine Ev.bindc e (Ev.bind (echo_Golomb_good m (by omega)) ?_)
  have hl := golS_length m
  have hm1 : 1 ≤ m := by omega
  have hm2 : m ≤ 2000 := by omega
  have r0 : rd (golS m) 0 = 1 := by
    have := rd_gol hm2 (show 0 < m by omega)
    rw [show ((0 : Nat) : Int) = 0 from rfl] at this
    rw [this]
    decide +kernel
  have c : (0 : Int) < ((golS m).length : Int) ∧ (0 : Int) ≤ ((m + 2 : Nat) : Int) ∧ m + 2 ≤ 35184372088832 := by clear r0; omega
  refine Ev.pos rfl (Ev.pos (by rw [hl]) (Ev.pos c.1 (Ev.pos r0 (Ev.bind lives_g ?_))))
  have ew : wrap64 ((m : Int) + 2) = ((m + 2 : Nat) : Int) := by clear r0; rw [wrap_id] <;> omega
  refine Ev.succ ?_
  simp only [bellpulllaw02_EchoGolomb.j0, ew, Int.toNat_natCast]
  refine Ev.neg (by simp) (Ev.pos c.2.1 (Ev.pos c.2.2 ?_))
  exact gol_l0 m hm1 hm2 _ 0 _ rfl (Nat.zero_le _) (times_zero m)
theorem EchoGolomb : bellpulllaw02_EchoGolomb.Pure := fun n h => (EchoGolomb_ev n (wf_u16 h)).rounds
end Go.Proofs.Ytploaicljkennaa.Pure
