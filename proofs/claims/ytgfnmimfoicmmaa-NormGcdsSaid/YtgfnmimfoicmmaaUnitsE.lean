/- The 24 units: both enumerations. -/
import Derived.Test.YtgfnmimfoicmmaaPMx5
import Derived.Test.YtgfnmimfoicmmaaPMx39
import Derived.Test.YtgfnmimfoicmmaaQuatF
set_option linter.unusedVariables false
set_option linter.unusedSimpArgs false
namespace Go.Proofs.Ytgfnmimfoicmmaa.Pure
open Go.RowKit Go.Proofs.Ytgfnmimfoicmmaa.PM Go.Proofs.YtgfnmimfoicmmaaW.PrintWords Go.Proofs.YtgfnmimfoicmmaaW.PrintLast

/-- The units, doubled, in lexicographic order. -/
def U4 : List (Int × Int × Int × Int) := [(-2, 0, 0, 0), (-1, -1, -1, -1), (-1, -1, -1, 1), (-1, -1, 1, -1), (-1, -1, 1, 1), (-1, 1, -1, -1), (-1, 1, -1, 1), (-1, 1, 1, -1), (-1, 1, 1, 1), (0, -2, 0, 0), (0, 0, -2, 0), (0, 0, 0, -2), (0, 0, 0, 2), (0, 0, 2, 0), (0, 2, 0, 0), (1, -1, -1, -1), (1, -1, -1, 1), (1, -1, 1, -1), (1, -1, 1, 1), (1, 1, -1, -1), (1, 1, -1, 1), (1, 1, 1, -1), (1, 1, 1, 1), (2, 0, 0, 0)]
theorem units_run : ((norm_units.f 1200).map fun l => l.map fun x => (x.f0, x.f1, x.f2, x.f3)) = some U4 := by decide +kernel
theorem units_ev : Ev (fun k => norm_units.f k) (U4.map fun x => ⟨x.1, x.2.1, x.2.2.1, x.2.2.2⟩) := by
  refine Ev.of (fun k => norm_units.mono k) (k := 1200) ?_
  have h := units_run
  rcases hl : norm_units.f 1200 with _ | l
  · rw [hl] at h; cases h
  · rw [hl] at h
    have := Option.some.inj h
    rw [← this, List.map_map]
    congr 1
    exact (List.map_id'' (fun x => rfl) l).symm
theorem refUnits_run : ((bellpullref04_Units.f 5000).map fun l => l.map fun x => (x.f0, x.f1, x.f2, x.f3)) = some U4 := by decide +kernel
theorem refUnits_ev : Ev (fun k => bellpullref04_Units.f k) (U4.map fun x => ⟨x.1, x.2.1, x.2.2.1, x.2.2.2⟩) := by
  refine Ev.of (fun k => bellpullref04_Units.mono k) (k := 5000) ?_
  have h := refUnits_run
  rcases hl : bellpullref04_Units.f 5000 with _ | l
  · rw [hl] at h; cases h
  · rw [hl] at h
    have := Option.some.inj h
    rw [← this, List.map_map]
    congr 1
    exact (List.map_id'' (fun x => rfl) l).symm
end Go.Proofs.Ytgfnmimfoicmmaa.Pure
