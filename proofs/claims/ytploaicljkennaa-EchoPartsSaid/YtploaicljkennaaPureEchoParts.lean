/- EchoParts: for every slice of bytes and all numbers the law returns true; no condition beside the form's own reach. -/
import Derived.Test.YtploaicljkennaaPEx11
import Derived.Test.YtploaicljkennaaSmoothS
import Derived.Test.YtploaicljkennaaKolS
set_option linter.unusedVariables false
set_option linter.unusedSimpArgs false
namespace Go.Proofs.Ytploaicljkennaa.Pure
open Go.RowKit Go.Proofs.YtploaicljkennaaW.PrintWords Go.Proofs.Ytploaicljkennaa.PE
theorem between_eq (x low high : Int) (h0 : 0 ≤ x) (h1 : x ≤ 65535) (h2 : 0 ≤ low) (h3 : low ≤ high) (h4 : high ≤ 100000) : bellpulllaw02_between.f x low high = some (low + x % (high - low + 1)) := by
  unfold bellpulllaw02_between.f
  have e1 : wrap64 (high - low) = high - low := by rw [wrap_id] <;> omega
  have e2 : wrap64 (high - low + 1) = high - low + 1 := by rw [wrap_id] <;> omega
  have e3 : wrap64 x = x := by rw [wrap_id] <;> omega
  have hm : 0 ≤ x % (high - low + 1) ∧ x % (high - low + 1) < high - low + 1 := ⟨Int.emod_nonneg _ (by omega), Int.emod_lt_of_pos _ (by omega)⟩
  rw [e1, e2, e3, if_neg (by omega), Int.tmod_eq_emod_of_nonneg h0]
  clear e1 e2 e3
  rw [wrap_id] <;> omega
theorem between_range (x low high : Int) (h3 : low ≤ high) : low ≤ low + x % (high - low + 1) ∧ low + x % (high - low + 1) ≤ high := by
  have hm : 0 ≤ x % (high - low + 1) ∧ x % (high - low + 1) < high - low + 1 := ⟨Int.emod_nonneg _ (by omega), Int.emod_lt_of_pos _ (by omega)⟩
  omega
theorem Turned_loop (l : List Int) (hl : l.length ≤ 100000) (hw : Word12 l) : ∀ (d i : Nat), l.length - i = d → i ≤ l.length →
    Ev (fun k => bellpullref02_Turned.l0 k l (l.reverse.take i) ((l.map (fun x => 3 - x)).take i) (i : Int)) (l.reverse, l.map (fun x => 3 - x)) := by
  intro d
  induction d with
  | zero =>
    intro i hd hi
    obtain rfl : i = l.length := by omega
    refine Ev.succ ?_
    simp only [bellpullref02_Turned.l0]
    refine Ev.neg (by omega) ?_
    rw [List.take_of_length_le (by simp), List.take_of_length_le (by simp)]
    exact Ev.now _
  | succ d ih =>
    intro i hd hi
    have hlt : i < l.length := by omega
    have h := ih (i + 1) (by omega) hlt
    have q : l.length - 1 - i < l.length := by omega
    have c : (i : Int) < (l.length : Int) ∧ 0 ≤ ((l.length - 1 - i : Nat) : Int) ∧ ((l.length - 1 - i : Nat) : Int) < (l.length : Int) ∧ (l.reverse.take i).length < 17592186044416 ∧ (0 : Int) ≤ i ∧ ((l.map (fun x => 3 - x)).take i).length < 17592186044416 := by
      rw [List.length_take, List.length_take]; omega
    have hlw : l[i] = 1 ∨ l[i] = 2 := hw _ (List.getElem_mem _)
    have hr := rd_nat l i hlt
    have hr2 := rd_nat l (l.length - 1 - i) q
    have e0 : (l.length : Int) - 1 - i = ((l.length - 1 - i : Nat) : Int) := by omega
    have e1 : wrap64 ((l.length : Int) - 1) = (l.length : Int) - 1 := by rw [wrap_id] <;> omega
    have e2 : wrap64 ((l.length : Int) - 1 - i) = ((l.length - 1 - i : Nat) : Int) := by rw [wrap_id, e0] <;> omega
    have e3 : wrap64 ((i : Int) + 1) = ((i + 1 : Nat) : Int) := by rw [wrap_id] <;> omega
    have e4 : wrap64 (3 - l[i]) = 3 - l[i] := by rw [wrap_id] <;> omega
    refine Ev.succ ?_
    simp only [bellpullref02_Turned.l0, e1, e2, e3, hr, hr2, e4]
    refine Ev.pos c.1 (Ev.pos c.2.1 (Ev.pos c.2.2.1 (Ev.pos c.2.2.2.1 (Ev.pos c.2.2.2.2.1 (Ev.pos c.2.2.2.2.2 ?_)))))
    rw [List.take_succ_eq_append_getElem (by simpa using hlt), List.take_succ_eq_append_getElem (by simpa using hlt)] at h
    simpa using h
theorem Turned_ev (l : List Int) (hl : l.length ≤ 100000) (hw : Word12 l) : Ev (fun k => bellpullref02_Turned.f k l) (l.reverse, l.map (fun x => 3 - x)) := by
  have := Turned_loop l hl hw _ 0 rfl (Nat.zero_le _)
  unfold bellpullref02_Turned.f
  simpa using this
/-- A smooth word that may be asked for. -/
def Good (l : List Int) : Prop := l.length ≤ 200 ∧ Word12 l ∧ smoothS l = true
theorem parts_loop (ys : List (List Int)) (hl : ys.length ≤ 100) (hg : ∀ y ∈ ys, Good y) : ∀ (d i : Nat), ys.length - i = d → i ≤ ys.length →
    Ev (fun k => bellpulllaw02_EchoParts.l0 k ys (ys.length : Int) (i : Int)) true := by
  intro d
  induction d with
  | zero =>
    intro i hd hi
    obtain rfl : i = ys.length := by omega
    refine Ev.succ ?_
    simp only [bellpulllaw02_EchoParts.l0]
    exact Ev.neg (by omega) (Ev.now _)
  | succ d ih =>
    intro i hd hi
    have hlt : i < ys.length := by omega
    have h := ih (i + 1) (by omega) hlt
    obtain ⟨g1, g2, g3⟩ := hg ys[i] (List.getElem_mem _)
    have hr : rd_L1 ys (i : Int) = ys[i] := by simp [rd_L1, List.getD_eq_getElem?_getD, List.getElem?_eq_getElem hlt]
    have hf : Fits ys[i] := by unfold Fits; omega
    have hc := check12 g2 g1
    have c : (i : Int) < (ys.length : Int) ∧ (0 : Int) ≤ i ∧ ys[i].length < 17592186044416 := by omega
    have e3 : wrap64 ((i : Int) + 1) = ((i + 1 : Nat) : Int) := by rw [wrap_id] <;> omega
    refine Ev.succ ?_
    simp only [bellpulllaw02_EchoParts.l0, hr, e3, Option.bind_some, List.nil_append, List.length_nil, Nat.zero_add]
    refine Ev.pos c.1 (Ev.pos c.2.1 (Ev.pos c.1 (Ev.pos c.2.2 (Ev.bind (echo_Smooth_ev _ hf) ?_))))
    simp only [if_pos hc]
    exact Ev.pos g3 (Ev.pos trivial h)
theorem kol300 : smoothS (kolS 1 2 300) = true := by decide +kernel
theorem word_take {l : List Int} (h : Word12 l) (n : Nat) : Word12 (l.take n) := fun x hx => h x (List.mem_of_mem_take hx)
theorem word_drop {l : List Int} (h : Word12 l) (n : Nat) : Word12 (l.drop n) := fun x hx => h x (List.mem_of_mem_drop hx)
theorem EchoParts_ev (z : List Int) (a b : Int) (ha : 0 ≤ a ∧ a ≤ 65535) (hb : 0 ≤ b ∧ b ≤ 65535) (t : List Int) (hz : Ev (fun k => bellpulllaw02_smooth.f k z 60) t) (hl : t.length ≤ 60) (hw : Word12 t) (hs : smoothS t = true) : Ev (fun k => bellpulllaw02_EchoParts.f k z a b) true := by
  unfold bellpulllaw02_EchoParts.f
  refine Ev.bind hz ?_
  have b1 := between_eq a 0 t.length ha.1 ha.2 (by omega) (by omega) (by omega)
  have r1 := between_range a 0 t.length (by omega)
  obtain ⟨p, hp⟩ := Int.eq_ofNat_of_zero_le r1.1
  rw [hp] at b1 r1
  refine Ev.bindc b1 ?_
  have b2 := between_eq b p t.length hb.1 hb.2 (by omega) (by omega) (by omega)
  have r2 := between_range b p t.length (by omega)
  obtain ⟨q, hq⟩ := Int.eq_ofNat_of_zero_le (show 0 ≤ (p : Int) + b % ((t.length : Int) - p + 1) by omega)
  rw [hq] at b2 r2
  refine Ev.bindc b2 ?_
  refine Ev.bind (Turned_ev t (by omega) hw) ?_
  have b3 := between_eq a 0 200 ha.1 ha.2 (by omega) (by omega) (by omega)
  have r3 := between_range a 0 200 (by omega)
  obtain ⟨u, hu⟩ := Int.eq_ofNat_of_zero_le r3.1
  rw [hu] at b3 r3
  have b4 := between_eq b 0 100 hb.1 hb.2 (by omega) (by omega) (by omega)
  have r4 := between_range b 0 100 (by omega)
  obtain ⟨v, hv⟩ := Int.eq_ofNat_of_zero_le r4.1
  rw [hv] at b4 r4
  clear hp hq hu hv
  have c0 : 300 + p + q ≤ 100000 ∧ u + v ≤ 300 + p + q ∧ u + v ≤ 300 := by omega
  have c1 : (0 : Int) ≤ p ∧ (p : Int) ≤ q ∧ (q : Int) ≤ (t.length : Int) ∧ (0 : Int) ≤ u ∧ (u : Int) ≤ ((u + v : Nat) : Int) ∧ ((u + v : Nat) : Int) ≤ ((300 + p + q : Nat) : Int) := by omega
  have e1 : wrap64 (300 + (p : Int)) = 300 + p := by rw [wrap_id] <;> omega
  have e2 : wrap64 (300 + (p : Int) + q) = ((300 + p + q : Nat) : Int) := by rw [wrap_id] <;> omega
  have e3 : wrap64 ((u : Int) + v) = ((u + v : Nat) : Int) := by rw [wrap_id] <;> omega
  simp only [e1, e2]
  refine Ev.bind (echo_Kolakoski_good n12 (by decide) (300 + p + q) c0.1) ?_
  have hkl := kolS_length n12 (300 + p + q)
  refine Ev.pos rfl (Ev.pos (by rw [hkl]) (Ev.bind lives_ev ?_))
  refine Ev.succ ?_
  simp only [bellpulllaw02_EchoParts.j0]
  refine Ev.neg (by simp) (Ev.bindc b3 (Ev.pos c1.1 (Ev.pos c1.2.1 (Ev.pos c1.2.2.1 (Ev.bindc b4 ?_)))))
  simp only [e3]
  refine Ev.pos c1.2.2.2.1 (Ev.pos c1.2.2.2.2.1 (Ev.pos (by rw [hkl]; exact c1.2.2.2.2.2) (Ev.bindc rfl ?_)))
  refine parts_loop _ (by simp) ?_ _ 0 rfl (Nat.zero_le _)
  have hk12 : Word12 (kolS 1 2 (300 + p + q)) := kolS_mem 1 2 _
  intro y hy
  simp only [List.mem_cons, List.not_mem_nil, or_false] at hy
  rcases hy with rfl | rfl | rfl | rfl | rfl
  · exact ⟨by omega, hw, hs⟩
  · refine ⟨by rw [List.length_drop, List.length_take]; omega, word_drop (word_take hw _) _, smooth_part t hs _ _⟩
  · exact ⟨by rw [List.length_reverse]; omega, fun x hx => hw x (List.mem_reverse.1 hx), smooth_reverse _ t (Nat.le_refl _) hs⟩
  · refine ⟨by rw [List.length_map]; omega, ?_, smooth_map (fun x => 3 - x) (fun x y h => by simp at h; omega) t hs⟩
    intro x hx
    obtain ⟨y, hy, rfl⟩ := List.mem_map.1 hx
    rcases hw y hy with rfl | rfl
    · right; rfl
    · left; rfl
  · have e5 : (kolS 1 2 (300 + p + q)).take (((u + v : Nat) : Int)).toNat = (kolS 1 2 300).take (u + v) := by
      rw [Int.toNat_natCast, kolS_take n12 c0.2.1, kolS_take n12 c0.2.2]
    rw [e5]
    refine ⟨by rw [List.length_drop, List.length_take]; omega, word_drop (word_take (kolS_mem 1 2 300) _) _, smooth_part _ kol300 _ _⟩
theorem EchoParts : bellpulllaw02_EchoParts.Pure := by
  intro z a b _ hz hw ha hb
  obtain ⟨t, ht, h1, h2, h3⟩ := law_smooth z hz hw 60 (by omega)
  exact (EchoParts_ev z a b (wf_u16 ha) (wf_u16 hb) t ht h1 h2 h3).rounds
end Go.Proofs.Ytploaicljkennaa.Pure
