/- The reference's Divide is the program's. -/
import Derived.Test.YtgfnmimfoicmmaaPMx3
import Derived.Test.YtgfnmimfoicmmaaPMx4
import Derived.Test.YtgfnmimfoicmmaaPMx24
import Derived.Test.YtgfnmimfoicmmaaPMx37
import Derived.Test.YtgfnmimfoicmmaaDivideR
set_option linter.unusedVariables false
set_option linter.unusedSimpArgs false
namespace Go.Proofs.Ytgfnmimfoicmmaa.Pure
open Go.RowKit Go.Proofs.Ytgfnmimfoicmmaa.PM Go.Proofs.YtgfnmimfoicmmaaW.PrintWords Go.Proofs.YtgfnmimfoicmmaaW.PrintLast
open Go.Proofs.Ytgfnmimfoicmmaa.Dv

/-- What the search holds: nothing yet, or worse than the best one, or the best one. -/
def Held (F q0 q1 q2 q3 : Int) (found : Bool) (least b0 b1 b2 b3 : Int) : Prop :=
  (found = false ∨ Better F q0 q1 q2 q3 least b0 b1 b2 b3) ∨ (found = true ∧ least = F ∧ b0 = q0 ∧ b1 = q1 ∧ b2 = q2 ∧ b3 = q3)
def Best (F q0 q1 q2 q3 : Int) (found : Bool) (least b0 b1 b2 b3 : Int) : Prop := found = true ∧ least = F ∧ b0 = q0 ∧ b1 = q1 ∧ b2 = q2 ∧ b3 = q3
section
variable {n x0 x1 x2 x3 y0 y1 y2 y3 p0 p1 p2 p3 q0 q1 q2 q3 : Int} {r : Int × Int × Int × Int × Int × Int × Int × Int} {us : Nat} {ps : Nat}
theorem search (hn : 0 < n) (hnb : n ≤ 1000000) (hp0 : sm 10000000 p0) (hp1 : sm 10000000 p1) (hp2 : sm 10000000 p2) (hp3 : sm 10000000 p3) (hs : Star p0 p1 p2 p3 n q0 q1 q2 q3)
    (hus : us < 16) (hps : ps < 2)
    (hat : ∀ v0 v1 v2 v3 : Int, Low p0 n (ps : Int) v0 → Low p1 n (ps : Int) v1 → Low p2 n (ps : Int) v2 → Low p3 n (ps : Int) v3 → q0 = v0 + 2 * bt us 0 ∧ q1 = v1 + 2 * bt us 1 ∧ q2 = v2 + 2 * bt us 2 ∧ q3 = v3 + 2 * bt us 3)
    (fin : ∀ least, Ev (fun k => bellpullref04_Divide.l0 k [p0, p1, p2, p3] n least true 2 x0 x1 x2 x3 y0 y1 y2 y3 q0 q1 q2 q3) r) :
    ∀ (d par up : Nat) (found : Bool) (least b0 b1 b2 b3 : Int), par < 2 → up ≤ 16 → 16 * par + up + d = 32 → Held (far p0 p1 p2 p3 n q0 q1 q2 q3) q0 q1 q2 q3 found least b0 b1 b2 b3 →
      (16 * ps + us < 16 * par + up → Best (far p0 p1 p2 p3 n q0 q1 q2 q3) q0 q1 q2 q3 found least b0 b1 b2 b3) →
      Ev (fun k => bellpullref04_Divide.l1 k [p0, p1, p2, p3] n least found (par : Int) (up : Int) x0 x1 x2 x3 y0 y1 y2 y3 b0 b1 b2 b3) r := by
  intro d
  induction d with
  | zero =>
    intro par up found least b0 b1 b2 b3 hpar hup hd hh hb
    obtain rfl : par = 1 := by omega
    obtain rfl : up = 16 := by omega
    obtain ⟨rfl, rfl, rfl, rfl, rfl, rfl⟩ := hb (by omega)
    refine Ev.succ ?_
    simp only [bellpullref04_Divide.l1]
    have w : wrap64 (((1 : Nat) : Int) + 1) = 2 := by simp [wrap64]
    rw [w]
    exact Ev.neg (by omega) (fin _)
  | succ d ih =>
    have lt : ∀ (par up : Nat) (found : Bool) (least b0 b1 b2 b3 : Int), par < 2 → up < 16 → 16 * par + up + (d + 1) = 32 → Held (far p0 p1 p2 p3 n q0 q1 q2 q3) q0 q1 q2 q3 found least b0 b1 b2 b3 →
        (16 * ps + us < 16 * par + up → Best (far p0 p1 p2 p3 n q0 q1 q2 q3) q0 q1 q2 q3 found least b0 b1 b2 b3) →
        Ev (fun k => bellpullref04_Divide.l1 k [p0, p1, p2, p3] n least found (par : Int) (up : Int) x0 x1 x2 x3 y0 y1 y2 y3 b0 b1 b2 b3) r := by
      intro par up found least b0 b1 b2 b3 hpar hup hd hh hb
      have hparI : (par : Int) = 0 ∨ (par : Int) = 1 := by omega
      obtain ⟨v0, f0, l0⟩ := below_ev hn hnb hp0 hparI
      obtain ⟨v1, f1, l1⟩ := below_ev hn hnb hp1 hparI
      obtain ⟨v2, f2, l2⟩ := below_ev hn hnb hp2 hparI
      obtain ⟨v3, f3, l3⟩ := below_ev hn hnb hp3 hparI
      have hw : wrap64 ((up : Int) + 1) = ((up + 1 : Nat) : Int) := by rw [wrap_id (by omega) (by omega)]; omega
      have cd : ∀ v k : Int, v + 2 * bt up k = v ∨ v + 2 * bt up k = v + 2 := fun v k => by have := bt_01 up k; omega
      have st := hs par v0 v1 v2 v3 _ _ _ _ hparI l0 l1 l2 l3 (cd v0 0) (cd v1 1) (cd v2 2) (cd v3 3)
      refine Ev.succ ?_
      simp only [bellpullref04_Divide.l1]
      refine Ev.pos (by omega) (rl2 hn hnb hp0 hp1 hp2 hp3 f0 f1 f2 f3 l0 l1 l2 l3 _ _ _ _ rfl rfl rfl rfl (fun c => ?_) (fun c => ?_))
      · rw [hw]
        refine ih par (up + 1) true _ _ _ _ _ hpar (by omega) (by omega) ?_ (fun hgt => ?_)
        · rcases st with ⟨e0, e1, e2, e3⟩ | st
          · exact .inr ⟨rfl, by rw [← e0, ← e1, ← e2, ← e3], e0.symm, e1.symm, e2.symm, e3.symm⟩
          · exact .inl (.inr st)
        · by_cases heq : 16 * ps + us = 16 * par + up
          · obtain rfl : ps = par := by omega
            obtain rfl : us = up := by omega
            obtain ⟨e0, e1, e2, e3⟩ := hat v0 v1 v2 v3 l0 l1 l2 l3
            exact ⟨rfl, by rw [← e0, ← e1, ← e2, ← e3], e0.symm, e1.symm, e2.symm, e3.symm⟩
          · obtain ⟨g0, g1, g2, g3, g4, g5⟩ := hb (by omega)
            rcases st with ⟨e0, e1, e2, e3⟩ | st
            · exact ⟨rfl, by rw [← e0, ← e1, ← e2, ← e3], e0.symm, e1.symm, e2.symm, e3.symm⟩
            · exfalso
              rcases c with c | c
              · rw [g0] at c; cases c
              · rw [g1, g2, g3, g4, g5] at c
                exact Better.irrefl (st.trans c)
      · rw [hw]
        refine ih par (up + 1) found least _ _ _ _ hpar (by omega) (by omega) hh (fun hgt => ?_)
        by_cases heq : 16 * ps + us = 16 * par + up
        · obtain rfl : ps = par := by omega
          obtain rfl : us = up := by omega
          obtain ⟨e0, e1, e2, e3⟩ := hat v0 v1 v2 v3 l0 l1 l2 l3
          rw [← e0, ← e1, ← e2, ← e3] at c
          exact hh.resolve_left c
        · exact hb (by omega)
    intro par up found least b0 b1 b2 b3 hpar hup hd hh hb
    by_cases h16 : up < 16
    · exact lt par up found least b0 b1 b2 b3 hpar h16 hd hh hb
    · obtain rfl : up = 16 := by omega
      obtain rfl : par = 0 := by omega
      refine Ev.succ ?_
      simp only [bellpullref04_Divide.l1]
      have w : wrap64 (((0 : Nat) : Int) + 1) = ((1 : Nat) : Int) := by simp [wrap64]
      rw [w]
      refine Ev.neg (by omega) (Ev.succ ?_)
      simp only [bellpullref04_Divide.l0]
      exact Ev.pos (by omega) (lt 1 0 found least b0 b1 b2 b3 (by omega) (by omega) (by omega) hh (fun h => hb (by omega)))
end

theorem neg_itg2 {a b c d : Int} (h : itg a b c d) : itg a (-b) (-c) (-d) := by unfold itg at *; omega
end Go.Proofs.Ytgfnmimfoicmmaa.Pure
