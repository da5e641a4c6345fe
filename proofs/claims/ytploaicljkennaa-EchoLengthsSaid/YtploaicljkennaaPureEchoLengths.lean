/- EchoLengths: for every slice of bytes the law returns true; no condition beside the form's own reach. -/
import Derived.Test.YtploaicljkennaaPEx5
import Derived.Test.YtploaicljkennaaSmoothT
import Derived.Test.YtploaicljkennaaWordS
set_option linter.unusedVariables false
set_option linter.unusedSimpArgs false
namespace Go.Proofs.Ytploaicljkennaa.Pure
open Go.RowKit Go.Proofs.YtploaicljkennaaW.PrintWords Go.Proofs.Ytploaicljkennaa.PE
theorem rd_in (pre s : List Int) (v : Int) (p k : Nat) (hk : k < p) : rd (pre ++ (List.replicate p v ++ s)) ((pre.length + k : Nat) : Int) = v := by
  have hlt : pre.length + k < (pre ++ (List.replicate p v ++ s)).length := by simp; omega
  rw [rd_nat _ _ hlt, List.getElem_append_right (by omega), List.getElem_append_left (by simp; omega)]
  simp
theorem len_inner (pre s : List Int) (v : Int) (p : Nat) (runs : List Int) (i : Nat) (hi : i < runs.length) (hri : rd runs (i : Int) = (p : Int)) (hbig : (pre ++ (List.replicate p v ++ s)).length ≤ 100000) (hrb : runs.length ≤ 100000) (hp : 1 ≤ p)
    (h : Ev (fun k => bellpulllaw02_EchoLengths.l1 k (pre ++ (List.replicate p v ++ s)) runs 0 ((pre.length + p : Nat) : Int) ((i + 1 : Nat) : Int)) true) :
    ∀ (d j : Nat), p - j = d → j ≤ p → Ev (fun k => bellpulllaw02_EchoLengths.l2 k (pre ++ (List.replicate p v ++ s)) runs 0 (pre.length : Int) (i : Int) (j : Int)) true := by
  have hL : pre.length + p ≤ (pre ++ (List.replicate p v ++ s)).length := by simp
  have c0 : (0 : Int) ≤ i ∧ (i : Int) < (runs.length : Int) := by omega
  have e1 : wrap64 ((pre.length : Int) + p) = ((pre.length + p : Nat) : Int) := by rw [wrap_id] <;> omega
  have e2 : wrap64 ((i : Int) + 1) = ((i + 1 : Nat) : Int) := by rw [wrap_id] <;> omega
  intro d
  induction d with
  | zero =>
    intro j hd hj
    have c : ¬ (j : Int) < (p : Int) := by clear e1 e2; omega
    refine Ev.succ ?_
    simp only [bellpulllaw02_EchoLengths.l2, hri, e1, e2]
    exact Ev.pos c0.1 (Ev.pos c0.2 (Ev.neg c h))
  | succ d ih =>
    intro j hd hj
    have hlt : j < p := by clear e1 e2; omega
    have hn := ih (j + 1) (by clear e1 e2; omega) hlt
    have c : (j : Int) < (p : Int) ∧ (0 : Int) ≤ ((pre.length + j : Nat) : Int) ∧ ((pre.length + j : Nat) : Int) < ((pre ++ (List.replicate p v ++ s)).length : Int) ∧ (0 : Int) ≤ (pre.length : Int) ∧ (pre.length : Int) < ((pre ++ (List.replicate p v ++ s)).length : Int) := by clear e1 e2; omega
    have e3 : wrap64 ((pre.length : Int) + j) = ((pre.length + j : Nat) : Int) := by clear e1 e2; rw [wrap_id] <;> omega
    have e4 : wrap64 ((j : Int) + 1) = ((j + 1 : Nat) : Int) := by clear e1 e2 e3; rw [wrap_id] <;> omega
    have r1 := rd_in pre s v p j hlt
    have r2 : rd (pre ++ (List.replicate p v ++ s)) (pre.length : Int) = v := rd_in pre s v p 0 (by clear e1 e2 e3 e4; omega)
    refine Ev.succ ?_
    simp only [bellpulllaw02_EchoLengths.l2, hri, e3, e4, r1, r2]
    exact Ev.pos c0.1 (Ev.pos c0.2 (Ev.pos c.1 (Ev.pos c.2.1 (Ev.pos c.2.2.1 (Ev.pos c.2.2.2.1 (Ev.pos c.2.2.2.2 (Ev.pos trivial hn)))))))
theorem len_loop (w runs : List Int) (hbig : w.length ≤ 100000) (hrb : runs.length ≤ 100000) : ∀ (n : Nat) (s pre done : List Int), s.length ≤ n → w = pre ++ s → runs = done ++ runsS s → (∀ x, pre.getLast? = some x → s.head? ≠ some x) →
    Ev (fun k => bellpulllaw02_EchoLengths.l1 k w runs 0 (pre.length : Int) (done.length : Int)) true := by
  intro n
  induction n with
  | zero =>
    intro s pre done hs hw hr hh
    obtain rfl : s = [] := List.eq_nil_of_length_eq_zero (by omega)
    simp only [runsS, List.append_nil] at hw hr
    subst hw hr
    refine Ev.succ ?_
    simp only [bellpulllaw02_EchoLengths.l1]
    exact Ev.neg (by omega) (Ev.pos trivial (Ev.pos trivial (Ev.bind lives_ev (Ev.now _))))
  | succ n ih =>
    intro s pre done hs hw hr hh
    by_cases hs0 : s = []
    · subst hs0
      simp only [runsS, List.append_nil] at hw hr
      subst hw hr
      refine Ev.succ ?_
      simp only [bellpulllaw02_EchoLengths.l1]
      exact Ev.neg (by omega) (Ev.pos trivial (Ev.pos trivial (Ev.bind lives_ev (Ev.now _))))
    · obtain ⟨p, v, t, hp, rfl, ht⟩ := uncons s hs0
      rw [runs_cons hp ht] at hr
      have hi : done.length < runs.length := by rw [hr]; simp
      have hri : rd runs (done.length : Int) = (p : Int) := by rw [hr]; exact rd_app done _ _
      subst hw
      have hL : pre.length + p ≤ (pre ++ (List.replicate p v ++ t)).length := by simp
      have hnext : Ev (fun k => bellpulllaw02_EchoLengths.l1 k (pre ++ (List.replicate p v ++ t)) runs 0 ((pre.length + p : Nat) : Int) ((done.length + 1 : Nat) : Int)) true := by
        have := ih t (pre ++ List.replicate p v) (done ++ [(p : Int)]) (by simp at hs; omega) (by rw [List.append_assoc]) (by rw [hr, List.append_assoc]; rfl) (by
          intro x hx
          rw [List.getLast?_append, List.getLast?_replicate, if_neg (by omega)] at hx
          simp at hx
          subst hx; exact ht)
        simpa using this
      have hin := len_inner pre t v p runs done.length hi hri hbig hrb hp hnext _ 1 rfl hp
      have c : (done.length : Int) < (runs.length : Int) ∧ (0 : Int) ≤ done.length ∧ ¬ (p : Int) < 1 ∧ ¬ ((pre.length + p : Nat) : Int) > ((pre ++ (List.replicate p v ++ t)).length : Int) ∧ (0 : Int) ≤ pre.length ∧ (pre.length : Int) < ((pre ++ (List.replicate p v ++ t)).length : Int) := by omega
      have e1 : wrap64 ((pre.length : Int) + p) = ((pre.length + p : Nat) : Int) := by rw [wrap_id] <;> omega
      have hj : Ev (fun k => bellpulllaw02_EchoLengths.j3 k (pre ++ (List.replicate p v ++ t)) runs 0 (pre.length : Int) (done.length : Int) false) true := by
        refine Ev.succ ?_
        simp only [bellpulllaw02_EchoLengths.j3]
        exact Ev.neg (by simp) hin
      refine Ev.succ ?_
      simp only [bellpulllaw02_EchoLengths.l1, hri, e1]
      clear e1
      refine Ev.pos c.1 (Ev.pos c.2.1 (Ev.neg c.2.2.1 (Ev.neg c.2.2.2.1 ?_)))
      by_cases hpre : pre = []
      · subst hpre
        exact Ev.neg (by simp) hj
      · obtain ⟨Q, x, rfl⟩ : ∃ Q x, pre = Q ++ [x] := ⟨pre.dropLast, pre.getLast hpre, (List.dropLast_concat_getLast hpre).symm⟩
        have hxv : v ≠ x := by
          have h2 := hh x (by simp)
          obtain ⟨q, rfl⟩ : ∃ q, p = q + 1 := ⟨p - 1, by omega⟩
          rw [List.replicate_succ] at h2
          simpa using h2
        have r2 : rd ((Q ++ [x]) ++ (List.replicate p v ++ t)) ((Q ++ [x]).length : Int) = v := rd_in (Q ++ [x]) t v p 0 (by omega)
        have r3 : rd ((Q ++ [x]) ++ (List.replicate p v ++ t)) (Q.length : Int) = x := by
          rw [List.append_assoc]; exact rd_app Q x _
        have hQ : (Q ++ [x]).length = Q.length + 1 := by simp
        have c2 : ((Q ++ [x]).length : Int) > 0 ∧ (0 : Int) ≤ Q.length ∧ (Q.length : Int) < (((Q ++ [x]) ++ (List.replicate p v ++ t)).length : Int) := by omega
        have e2 : wrap64 (((Q ++ [x]).length : Int) - 1) = (Q.length : Int) := by rw [wrap_id] <;> omega
        simp only [e2, r2, r3]
        refine Ev.pos c2.1 (Ev.pos c.2.2.2.2.1 (Ev.pos c.2.2.2.2.2 (Ev.pos c2.2.1 (Ev.pos c2.2.2 ?_))))
        rw [show (v == x) = false by simpa using hxv]
        exact hj
def word9 (z : List Int) : List Int := (z.take 200).map (fun x => x % 9 + 1)
theorem len_build (z : List Int) (hz : z.length ≤ 140737488351232) (hw : ∀ x ∈ z, 0 ≤ x ∧ x ≤ 255) (h : Ev (fun k => bellpulllaw02_EchoLengths.j1 k (word9 z)) true) : ∀ (d i : Nat), min z.length 200 - i = d → i ≤ min z.length 200 →
    Ev (fun k => bellpulllaw02_EchoLengths.l0 k z ((word9 z).take i) (i : Int)) true := by
  have hl9 : (word9 z).length = min z.length 200 := by unfold word9; simp; omega
  intro d
  induction d with
  | zero =>
    intro i hd hi
    refine Ev.succ ?_
    simp only [bellpulllaw02_EchoLengths.l0]
    rw [List.take_of_length_le (by omega)]
    by_cases hzl : (i : Int) < (z.length : Int)
    · exact Ev.pos hzl (Ev.neg (by omega) h)
    · exact Ev.neg hzl h
  | succ d ih =>
    intro i hd hi
    have hlt : i < z.length ∧ i < 200 := by omega
    have hn := ih (i + 1) (by omega) (by omega)
    have hzr := hw z[i] (List.getElem_mem _)
    have c : (i : Int) < (z.length : Int) ∧ (i : Int) < 200 ∧ (0 : Int) ≤ i ∧ ((word9 z).take i).length < 17592186044416 := by rw [List.length_take]; omega
    have hr := rd_nat z i hlt.1
    have e0 : Int.tmod z[i] 9 = z[i] % 9 := Int.tmod_eq_emod_of_nonneg hzr.1
    have hv : wrap64 (Int.tmod (wrap64 z[i]) 9 + 1) = z[i] % 9 + 1 := by
      rw [wrap_id (x := z[i]) (by omega) (by omega), e0, wrap_id (by omega) (by omega)]
    have e3 : wrap64 ((i : Int) + 1) = ((i + 1 : Nat) : Int) := by clear hv; rw [wrap_id] <;> omega
    refine Ev.succ ?_
    simp only [bellpulllaw02_EchoLengths.l0, hr, hv, e3]
    clear hv e3
    refine Ev.pos c.1 (Ev.pos c.2.1 (Ev.pos c.2.2.1 (Ev.pos c.2.2.2 ?_)))
    rw [List.take_succ_eq_append_getElem (by omega)] at hn
    have e9 : (word9 z)[i]'(by omega) = z[i] % 9 + 1 := by unfold word9; simp
    rw [e9] at hn
    exact hn
theorem EchoLengths_ev (z : List Int) (hz : z.length ≤ 140737488351232) (hw : ∀ x ∈ z, 0 ≤ x ∧ x ≤ 255) : Ev (fun k => bellpulllaw02_EchoLengths.f k z) true := by
  have hl9 : (word9 z).length ≤ 200 := by unfold word9; simp; omega
  have hf : Fits (word9 z) := by unfold Fits; omega
  have hrl := runsS_length (word9 z)
  have hc : checkS (word9 z) 9 = 0 := by
    refine long_of hl9 (fun x hx => ?_)
    unfold word9 at hx
    obtain ⟨y, hy, rfl⟩ := List.mem_map.1 hx
    have := hw y (List.mem_of_mem_take hy)
    omega
  refine len_build z hz hw (Ev.succ ?_) _ 0 rfl (Nat.zero_le _)
  simp only [bellpulllaw02_EchoLengths.j1]
  refine Ev.bind (echo_Runs_ev _ hf) ?_
  simp only [if_pos hc]
  exact len_loop (word9 z) (runsS (word9 z)) (by omega) (by omega) _ (word9 z) [] [] (Nat.le_refl _) rfl rfl (fun x hx => by simp at hx)
theorem EchoLengths : bellpulllaw02_EchoLengths.Pure := fun z _ hz hw => (EchoLengths_ev z (by omega) (fun x hx => wf_u8 (hw x hx))).rounds
end Go.Proofs.Ytploaicljkennaa.Pure
