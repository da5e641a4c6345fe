/- The greatest one of a divisor's unit multiples: both folds. -/
import Derived.Test.YtgfnmimfoicmmaaPMx0
import Derived.Test.YtgfnmimfoicmmaaPMx3
import Derived.Test.YtgfnmimfoicmmaaPMx6
import Derived.Test.YtgfnmimfoicmmaaPMx40
import Derived.Test.YtgfnmimfoicmmaaGcdE
import Derived.Test.YtgfnmimfoicmmaaUnitsE
set_option linter.unusedVariables false
set_option linter.unusedSimpArgs false
namespace Go.Proofs.Ytgfnmimfoicmmaa.Pure
open Go.RowKit Go.Proofs.Ytgfnmimfoicmmaa.PM Go.Proofs.YtgfnmimfoicmmaaW.PrintWords Go.Proofs.YtgfnmimfoicmmaaW.PrintLast
open Go.Proofs.Ytgfnmimfoicmmaa.Dv

theorem Compare_ev2 (a b c d e f g h : Int) : ∃ t, Ev (fun k => slices_Compare_int_int.f k [a, b, c, d] [e, f, g, h]) t ∧ (0 < t ↔ lt4 e f g h a b c d) := by
  have L := fun (i : Nat) (hi : i < 4) (t : Int) hh => Cmp_loop [a, b, c, d] [e, f, g, h] rfl rfl i hi t hh
  have last : Ev (fun k => slices_Compare_int_int.l0 k [a, b, c, d] [e, f, g, h] [a, b, c, d] 4 ((4 : Nat) : Int)) 0 := by
    refine Ev.succ ?_
    simp only [slices_Compare_int_int.l0]
    exact Ev.neg (by omega) (Ev.neg (by simp) (Ev.now _))
  have pick : ∀ (x y : Int), x ≠ y → ∃ t : Int, ((x < y ∧ t = -1) ∨ (x > y ∧ t = 1)) := fun x y hxy => by
    rcases Int.lt_or_lt_of_ne hxy with h | h
    · exact ⟨-1, .inl ⟨h, rfl⟩⟩
    · exact ⟨1, .inr ⟨h, rfl⟩⟩
  unfold lt4
  show ∃ t, Ev (fun k => slices_Compare_int_int.l0 k [a, b, c, d] [e, f, g, h] [a, b, c, d] 4 ((0 : Nat) : Int)) t ∧ _
  by_cases h0 : a = e
  · by_cases h1 : b = f
    · by_cases h2 : c = g
      · by_cases h3 : d = h
        · exact ⟨0, L 0 (by omega) 0 (.inl ⟨h0, L 1 (by omega) 0 (.inl ⟨h1, L 2 (by omega) 0 (.inl ⟨h2, L 3 (by omega) 0 (.inl ⟨h3, last⟩)⟩)⟩)⟩), by omega⟩
        · obtain ⟨t, ht⟩ := pick d h h3
          exact ⟨t, L 0 (by omega) t (.inl ⟨h0, L 1 (by omega) t (.inl ⟨h1, L 2 (by omega) t (.inl ⟨h2, L 3 (by omega) t (.inr ht)⟩)⟩)⟩), by omega⟩
      · obtain ⟨t, ht⟩ := pick c g h2
        exact ⟨t, L 0 (by omega) t (.inl ⟨h0, L 1 (by omega) t (.inl ⟨h1, L 2 (by omega) t (.inr ht)⟩)⟩), by omega⟩
    · obtain ⟨t, ht⟩ := pick b f h1
      exact ⟨t, L 0 (by omega) t (.inl ⟨h0, L 1 (by omega) t (.inr ht)⟩), by omega⟩
  · obtain ⟨t, ht⟩ := pick a e h0
    exact ⟨t, L 0 (by omega) t (.inr ht), by omega⟩
theorem units_fold (U : List (Int × Int × Int × Int)) (hl : U.length ≤ 100) (hU : ∀ u ∈ U, sm 2 u.1 ∧ sm 2 u.2.1 ∧ sm 2 u.2.2.1 ∧ sm 2 u.2.2.2) {g0 g1 g2 g3 : Int} (hg : sm 2000 g0 ∧ sm 2000 g1 ∧ sm 2000 g2 ∧ sm 2000 g3) :
    ∀ (j i : Nat) (b0 b1 b2 b3 : Int), i + j = U.length → ∃ c0 c1 c2 c3 : Int,
      Ev (fun k => norm_Gcd.l1 k (U.map fun x => ⟨x.1, x.2.1, x.2.2.1, x.2.2.2⟩) (U.length : Int) (i : Int) g0 g1 g2 g3 b0 b1 b2 b3) (c0, c1, c2, c3, 0) ∧
      Ev (fun k => bellpullref04_Gcd.l1 k (U.map fun x => ⟨x.1, x.2.1, x.2.2.1, x.2.2.2⟩) (i : Int) g0 g1 g2 g3 b0 b1 b2 b3) (c0, c1, c2, c3)
  | 0, i, b0, b1, b2, b3, h => by
    refine ⟨b0, b1, b2, b3, Ev.succ ?_, Ev.succ ?_⟩
    · simp only [norm_Gcd.l1]
      exact Ev.neg (by omega) (Ev.bindc rfl (Ev.now _))
    · simp only [bellpullref04_Gcd.l1]
      exact Ev.neg (by simp; omega) (Ev.now _)
  | j + 1, i, b0, b1, b2, b3, h => by
    have hi : i < U.length := by omega
    have e7 : rd_T67 (U.map fun x => (⟨x.1, x.2.1, x.2.2.1, x.2.2.2⟩ : S67)) (i : Int) = ⟨U[i].1, U[i].2.1, U[i].2.2.1, U[i].2.2.2⟩ := by
      rw [rd67 _ i (by simp; omega)]; simp
    have e3 : rd_T23 (U.map fun x => (⟨x.1, x.2.1, x.2.2.1, x.2.2.2⟩ : S23)) (i : Int) = ⟨U[i].1, U[i].2.1, U[i].2.2.1, U[i].2.2.2⟩ := by
      rw [rd23 _ i (by simp; omega)]; simp
    have hu := hU U[i] (List.getElem_mem hi)
    have hw : wrap64 ((i : Int) + 1) = ((i + 1 : Nat) : Int) := by rw [wrap_id (by omega) (by omega)]; omega
    generalize U[i] = u at *
    obtain ⟨u0, u1, u2, u3⟩ := u
    have hd := double_ev (A := 2) (B := 2000) (by omega) hu.1 hu.2.1 hu.2.2.1 hu.2.2.2 hg.1 hg.2.1 hg.2.2.1 hg.2.2.2
    have up : ∀ x : Int, sm 2 x → sm 1000000000 x := fun x hx => by unfold sm at *; omega
    have hp := product_ev2 (up _ hu.1) (up _ hu.2.1) (up _ hu.2.2.1) (up _ hu.2.2.2) _ hd
    have hm := refMul_eq _ hd
    dsimp only at hp hm e7 e3
    generalize wrap64 (Int.tdiv (D0 u0 u1 u2 u3 g0 g1 g2 g3) 2) = d0 at *
    generalize wrap64 (Int.tdiv (D1 u0 u1 u2 u3 g0 g1 g2 g3) 2) = d1 at *
    generalize wrap64 (Int.tdiv (D2 u0 u1 u2 u3 g0 g1 g2 g3) 2) = d2 at *
    generalize wrap64 (Int.tdiv (D3 u0 u1 u2 u3 g0 g1 g2 g3) 2) = d3 at *
    obtain ⟨t, ht1, ht2⟩ := Compare_ev2 d0 d1 d2 d3 b0 b1 b2 b3
    obtain ⟨s, hs1, hs2⟩ := Less_ev b0 b1 b2 b3 d0 d1 d2 d3
    by_cases hc : lt4 b0 b1 b2 b3 d0 d1 d2 d3
    · obtain ⟨c0, c1, c2, c3, h1, h2⟩ := units_fold U hl hU hg j (i + 1) d0 d1 d2 d3 (by omega)
      refine ⟨c0, c1, c2, c3, Ev.succ ?_, Ev.succ ?_⟩
      · simp only [norm_Gcd.l1, e7, hw]
        exact Ev.pos (by omega) (Ev.pos (by omega) (Ev.pos (by simp; omega) (Ev.bind hp (Ev.bind ht1 (Ev.pos (ht2.mpr hc) h1)))))
      · simp only [bellpullref04_Gcd.l1, e3, hw]
        exact Ev.pos (by simp; omega) (Ev.pos (by omega) (Ev.bindc hm (Ev.bind hs1 (Ev.pos (hs2.mpr hc) h2))))
    · obtain ⟨c0, c1, c2, c3, h1, h2⟩ := units_fold U hl hU hg j (i + 1) b0 b1 b2 b3 (by omega)
      refine ⟨c0, c1, c2, c3, Ev.succ ?_, Ev.succ ?_⟩
      · simp only [norm_Gcd.l1, e7, hw]
        exact Ev.pos (by omega) (Ev.pos (by omega) (Ev.pos (by simp; omega) (Ev.bind hp (Ev.bind ht1 (Ev.neg (fun x => hc (ht2.mp x)) h1)))))
      · simp only [bellpullref04_Gcd.l1, e3, hw]
        exact Ev.pos (by simp; omega) (Ev.pos (by omega) (Ev.bindc hm (Ev.bind hs1 (Ev.neg (fun x => hc (hs2.mp x)) h2))))
end Go.Proofs.Ytgfnmimfoicmmaa.Pure
