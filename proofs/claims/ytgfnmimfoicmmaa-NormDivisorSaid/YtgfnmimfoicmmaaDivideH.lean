/- The reference's Divide is the program's. -/
import Derived.Test.YtgfnmimfoicmmaaPMx3
import Derived.Test.YtgfnmimfoicmmaaPMx4
import Derived.Test.YtgfnmimfoicmmaaPMx24
import Derived.Test.YtgfnmimfoicmmaaPMx37
import Derived.Test.YtgfnmimfoicmmaaDivideR
set_option linter.unusedVariables false
set_option linter.unusedSimpArgs false
namespace Go.Proofs.Ytgfnmimfoicmmaa.Pure
open Go.RowKit Go.Proofs.Ytgfnmimfoicmmaa.PM Go.Proofs.YtgfnmimfoicmmaaW.PrintWords Go.Proofs.YtgfnmimfoicmmaaW.PrintLast
open Go.Proofs.Ytgfnmimfoicmmaa.Dv

section
variable {n x0 x1 x2 x3 y0 y1 y2 y3 p0 p1 p2 p3 q0 q1 q2 q3 : Int} {r : Int × Int × Int × Int × Int × Int × Int × Int} {us : Nat} {ps : Nat}
end

theorem neg_itg2 {a b c d : Int} (h : itg a b c d) : itg a (-b) (-c) (-d) := by unfold itg at *; omega
end Go.Proofs.Ytgfnmimfoicmmaa.Pure
