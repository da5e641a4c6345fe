/- The law's derived words are smooth; what can be written after a word. -/
import Derived.Test.YtploaicljkennaaPEx10
import Derived.Test.YtploaicljkennaaSmoothT
import Derived.Test.YtploaicljkennaaWordS
set_option linter.unusedVariables false
set_option linter.unusedSimpArgs false
namespace Go.Proofs.Ytploaicljkennaa.Pure
open Go.RowKit Go.Proofs.YtploaicljkennaaW.PrintWords Go.Proofs.Ytploaicljkennaa.PE

theorem heightI_smooth (l : List Int) : (heightI l ≥ 0) ↔ smoothS l = true := by
  unfold heightI smoothS
  rcases heightS l with _ | q
  · simp
  · simp
theorem check12 {l : List Int} (h : Word12 l) (hl : l.length ≤ 200) : checkS l 2 = 0 :=
  long_of hl (fun x hx => by rcases h x hx with rfl | rfl <;> omega)
theorem letter12 (x : Int) (h0 : 0 ≤ x) (h1 : x ≤ 255) : wrap64 (Int.tmod (wrap64 x) 2 + 1) = x % 2 + 1 ∧ wrap64 (3 - (x % 2 + 1)) = 2 - x % 2 := by
  rw [wrap_id (x := x) (by omega) (by omega), Int.tmod_eq_emod_of_nonneg h0, wrap_id (by omega) (by omega), wrap_id (by omega) (by omega)]
  omega
theorem word_snoc {l : List Int} {x : Int} (h : Word12 l) (hx : x = 1 ∨ x = 2) : Word12 (l ++ [x]) := by
  intro y hy
  rcases List.mem_append.1 hy with hy | hy
  · exact h y hy
  · rw [List.mem_singleton.1 hy]; exact hx
theorem smooth_loop (z : List Int) (hz : z.length ≤ 140737488351232) (hw : ∀ x ∈ z, 0 ≤ x ∧ x ≤ 255) (most : Nat) (hm : most ≤ 200) : ∀ (d i : Nat) (l : List Int), z.length - i = d → i ≤ z.length → l.length ≤ i → l.length ≤ most → (l.length = i ∨ most ≤ i) → Word12 l → smoothS l = true →
    ∃ t, Ev (fun k => bellpulllaw02_smooth.l0 k z (most : Int) l (i : Int)) t ∧ t.length ≤ most ∧ Word12 t ∧ smoothS t = true := by
  intro d
  induction d with
  | zero =>
    intro i l hd hi hl hlm hli hwl hs
    obtain rfl : i = z.length := by omega
    refine ⟨l, Ev.succ ?_, hlm, hwl, hs⟩
    simp only [bellpulllaw02_smooth.l0]
    refine Ev.neg (by omega) (Ev.succ ?_)
    simp only [bellpulllaw02_smooth.j1]
    exact Ev.neg (by simp) (Ev.now _)
  | succ d ih =>
    intro i l hd hi hl hlm hli hwl hs
    have hlt : i < z.length := by omega
    by_cases him : i < most
    · have hr := rd_nat z i hlt
      have hzr := hw z[i] (List.getElem_mem _)
      have hext := smooth_extend l.length l (Nat.le_refl _) hwl hs
      have go : ∀ x, x = 1 ∨ x = 2 → smoothS (l ++ [x]) = true → ∃ t, Ev (fun k => bellpulllaw02_smooth.l0 k z (most : Int) (l ++ [x]) ((i + 1 : Nat) : Int)) t ∧ t.length ≤ most ∧ Word12 t ∧ smoothS t = true :=
        fun x hx hsx => ih (i + 1) (l ++ [x]) (by omega) (by omega) (by rw [List.length_append, List.length_singleton]; omega) (by rw [List.length_append, List.length_singleton]; omega) (by rw [List.length_append, List.length_singleton]; omega) (word_snoc hwl hx) hsx
      have hf : Fits (l ++ [z[i] % 2 + 1]) := by unfold Fits; rw [List.length_append, List.length_singleton]; omega
      have c1 : i < z.length ∧ (i : Int) < (z.length : Int) ∧ (0 : Int) ≤ i ∧ (i : Int) < (most : Int) ∧ l.length < 17592186044416 := by omega
      have fin : ∀ t, Ev (fun k => (bellpullref02_Height.f k (l ++ [z[i] % 2 + 1])).bind fun t487 => (if t487 ≥ 0 then (bellpulllaw02_smooth.l0 k z (most : Int) (l ++ [z[i] % 2 + 1]) ((i + 1 : Nat) : Int)) else (bellpulllaw02_smooth.l0 k z (most : Int) (l ++ [2 - z[i] % 2]) ((i + 1 : Nat) : Int)))) t →
          Ev (fun k => bellpulllaw02_smooth.l0 k z (most : Int) l (i : Int)) t := by
        intro t h
        obtain ⟨e1, e2⟩ := letter12 z[i] hzr.1 hzr.2
        have hwi : wrap64 ((i : Int) + 1) = ((i + 1 : Nat) : Int) := by rw [wrap_id] <;> omega
        obtain ⟨c1, c2, c3, c4, c5⟩ := c1
        refine Ev.succ ?_
        simp only [bellpulllaw02_smooth.l0]
        refine Ev.pos c2 (Ev.succ ?_)
        simp only [bellpulllaw02_smooth.j1, hr, e1, e2, hwi, Option.bind_some, List.nil_append, List.length_nil, Nat.zero_add]
        refine Ev.pos (decide_eq_true c4) (Ev.pos c3 (Ev.pos c2 (Ev.pos c5 (Ev.pos c5 ?_))))
        simp only [if_pos c5]
        exact h
      by_cases hsm : smoothS (l ++ [z[i] % 2 + 1]) = true
      · obtain ⟨t, ht, h3⟩ := go (z[i] % 2 + 1) (by omega) hsm
        refine ⟨t, fin t ?_, h3⟩
        refine Ev.bind (ref_Height_ev _ hf) ?_
        exact Ev.pos ((heightI_smooth _).2 hsm) ht
      · have hsm2 : smoothS (l ++ [2 - z[i] % 2]) = true := by
          rcases Int.emod_two_eq z[i] with e | e
          · rw [e] at hsm ⊢
            rcases hext with h | h
            · exact absurd h hsm
            · exact h
          · rw [e] at hsm ⊢
            rcases hext with h | h
            · exact h
            · exact absurd h hsm
        obtain ⟨t, ht, h3⟩ := go (2 - z[i] % 2) (by omega) hsm2
        refine ⟨t, fin t ?_, h3⟩
        refine Ev.bind (ref_Height_ev _ hf) ?_
        exact Ev.neg (fun h => hsm ((heightI_smooth _).1 h)) ht
    · refine ⟨l, Ev.succ ?_, hlm, hwl, hs⟩
      simp only [bellpulllaw02_smooth.l0]
      refine Ev.pos (by omega) (Ev.succ ?_)
      simp only [bellpulllaw02_smooth.j1]
      exact Ev.neg (by simp; omega) (Ev.now _)
theorem law_smooth (z : List Int) (hz : z.length * 1 ≤ 140737488351232) (hw : ∀ x ∈ z, (Lit.int .u8 x).wf = true) (most : Nat) (hm : most ≤ 200) :
    ∃ t, Ev (fun k => bellpulllaw02_smooth.f k z (most : Int)) t ∧ t.length ≤ most ∧ Word12 t ∧ smoothS t = true :=
  smooth_loop z (by omega) (fun x hx => wf_u8 (hw x hx)) most hm z.length 0 [] rfl (Nat.zero_le _) (Nat.le_refl _) (Nat.zero_le _) (.inl rfl) (fun x hx => absurd hx (by simp)) rfl

end Go.Proofs.Ytploaicljkennaa.Pure
