/-
  No cell of these rows narrows 'for every input' (looked for: loops, veiled, ifaces, maps, wideKeys, modest, calm, conditions, laid).
  DERIVED. THE GIVEN ROWS OF THIS SEAT. 14 by the template 'for every input the law returns true; each argument reads behind the call as it read before'; 0 by the template 'total and deterministic' (their statements: YtgfnmimfoicmmaaTotals.lean).
  GIVEN WITH THE SEED: the statements are not yours to turn. If you find one false, say at which input.
  Laid BY PROGRAM, IN A SANDBOX (cutbox-rows.mjs): the forced cells as the released guide's own fill.sh prints them over the translation 51575bfaebcd9fef… (all of the seat's roots in one cut). By AI agents, Wed Nov 11 2026. No macro, syntax, notation, axiom, sorry.
-/
import Derived.Test.YtgfnmimfoicmmaaChecked
import GoSem.Claim
import GoSem.ClaimJoined
import GoSem.ClaimMapViews
import Derived.JoinedTies
import Derived.KernelRfl
namespace Go.Proofs.Ytgfnmimfoicmmaa
/- THE CELL 'sum', in the pinned program and in every row, IS THE sha256 OF THE DUMP (.gsa) THAT YtgfnmimfoicmmaaProg.lean LOADS. Nothing in Lean hashes anything: it is a label: what it is worth is what the hold of that sum in a sandbox is worth. -/
noncomputable def Try.pinned : Pinned := { name := "ytgfnmimfoicmmaa", sum := "51575bfaebcd9fef1cdea831c5c904eacbf944e4ae21c597d21da085dfc96236", checked := Try.checked }
namespace Rows
def none {H : Type} : Left H := { results := [], args := [] }

/-- 'bellpulllaw04.NormDivides': WHATEVER THE INPUT: true; the input reads as it did. -/
def normDividesSpec : ChangeSpec := { name := "normDivides", fn := fun _ => fun
  | [d1, d2] => { results := [.lit (.bool true)], args := [d1, d2] }
  | _ => none }
def normDividesRow : OpenClaim := { program := "ytgfnmimfoicmmaa", sum := "51575bfaebcd9fef1cdea831c5c904eacbf944e4ae21c597d21da085dfc96236", func := "bellpull/bellpulllaw04.NormDivides", spec := "normDivides", unfollowed := true, recurses := true, apart := false }
def NormDividesSaid : Prop := normDividesRow.holds Try.pinned (OpenSpec.ofChange normDividesSpec)

/-- ITS FALSE NEIGHBOUR: 'it returns false'. Refute it at one input. -/
def normDividesWrong : ChangeSpec := { name := "normDivides", fn := fun _ => fun
  | [d1, d2] => { results := [.lit (.bool false)], args := [d1, d2] }
  | _ => none }
def NormDividesWrongFalsely : Prop := normDividesRow.holds Try.pinned (OpenSpec.ofChange normDividesWrong)

/-- 'bellpulllaw04.NormGcds': WHATEVER THE INPUT: true; the input reads as it did. -/
def normGcdsSpec : ChangeSpec := { name := "normGcds", fn := fun _ => fun
  | [d1, d2] => { results := [.lit (.bool true)], args := [d1, d2] }
  | _ => none }
def normGcdsRow : OpenClaim := { program := "ytgfnmimfoicmmaa", sum := "51575bfaebcd9fef1cdea831c5c904eacbf944e4ae21c597d21da085dfc96236", func := "bellpull/bellpulllaw04.NormGcds", spec := "normGcds", unfollowed := true, recurses := true, apart := false }
def NormGcdsSaid : Prop := normGcdsRow.holds Try.pinned (OpenSpec.ofChange normGcdsSpec)

/-- ITS FALSE NEIGHBOUR: 'it returns false'. Refute it at one input. -/
def normGcdsWrong : ChangeSpec := { name := "normGcds", fn := fun _ => fun
  | [d1, d2] => { results := [.lit (.bool false)], args := [d1, d2] }
  | _ => none }
def NormGcdsWrongFalsely : Prop := normGcdsRow.holds Try.pinned (OpenSpec.ofChange normGcdsWrong)

/-- 'bellpulllaw04.NormSquares': WHATEVER THE INPUT: true; the input reads as it did. -/
def normSquaresSpec : ChangeSpec := { name := "normSquares", fn := fun _ => fun
  | [d] => { results := [.lit (.bool true)], args := [d] }
  | _ => none }
def normSquaresRow : OpenClaim := { program := "ytgfnmimfoicmmaa", sum := "51575bfaebcd9fef1cdea831c5c904eacbf944e4ae21c597d21da085dfc96236", func := "bellpull/bellpulllaw04.NormSquares", spec := "normSquares", unfollowed := true, recurses := true, apart := false }
def NormSquaresSaid : Prop := normSquaresRow.holds Try.pinned (OpenSpec.ofChange normSquaresSpec)

/-- ITS FALSE NEIGHBOUR: 'it returns false'. Refute it at one input. -/
def normSquaresWrong : ChangeSpec := { name := "normSquares", fn := fun _ => fun
  | [d] => { results := [.lit (.bool false)], args := [d] }
  | _ => none }
def NormSquaresWrongFalsely : Prop := normSquaresRow.holds Try.pinned (OpenSpec.ofChange normSquaresWrong)

/-- 'bellpulllaw04.NormCounts': WHATEVER THE INPUT: true; the input reads as it did. -/
def normCountsSpec : ChangeSpec := { name := "normCounts", fn := fun _ => fun
  | [d] => { results := [.lit (.bool true)], args := [d] }
  | _ => none }
def normCountsRow : OpenClaim := { program := "ytgfnmimfoicmmaa", sum := "51575bfaebcd9fef1cdea831c5c904eacbf944e4ae21c597d21da085dfc96236", func := "bellpull/bellpulllaw04.NormCounts", spec := "normCounts", unfollowed := true, recurses := true, apart := false }
def NormCountsSaid : Prop := normCountsRow.holds Try.pinned (OpenSpec.ofChange normCountsSpec)

/-- ITS FALSE NEIGHBOUR: 'it returns false'. Refute it at one input. -/
def normCountsWrong : ChangeSpec := { name := "normCounts", fn := fun _ => fun
  | [d] => { results := [.lit (.bool false)], args := [d] }
  | _ => none }
def NormCountsWrongFalsely : Prop := normCountsRow.holds Try.pinned (OpenSpec.ofChange normCountsWrong)

/-- 'bellpulllaw04.NormDivision': WHATEVER THE INPUT: true; the input reads as it did. -/
def normDivisionSpec : ChangeSpec := { name := "normDivision", fn := fun _ => fun
  | [d1, d2] => { results := [.lit (.bool true)], args := [d1, d2] }
  | _ => none }
def normDivisionRow : OpenClaim := { program := "ytgfnmimfoicmmaa", sum := "51575bfaebcd9fef1cdea831c5c904eacbf944e4ae21c597d21da085dfc96236", func := "bellpull/bellpulllaw04.NormDivision", spec := "normDivision", unfollowed := true, recurses := true, apart := false }
def NormDivisionSaid : Prop := normDivisionRow.holds Try.pinned (OpenSpec.ofChange normDivisionSpec)

/-- ITS FALSE NEIGHBOUR: 'it returns false'. Refute it at one input. -/
def normDivisionWrong : ChangeSpec := { name := "normDivision", fn := fun _ => fun
  | [d1, d2] => { results := [.lit (.bool false)], args := [d1, d2] }
  | _ => none }
def NormDivisionWrongFalsely : Prop := normDivisionRow.holds Try.pinned (OpenSpec.ofChange normDivisionWrong)

/-- 'bellpulllaw04.NormDivisor': WHATEVER THE INPUT: true; the input reads as it did. -/
def normDivisorSpec : ChangeSpec := { name := "normDivisor", fn := fun _ => fun
  | [d1, d2, d3] => { results := [.lit (.bool true)], args := [d1, d2, d3] }
  | _ => none }
def normDivisorRow : OpenClaim := { program := "ytgfnmimfoicmmaa", sum := "51575bfaebcd9fef1cdea831c5c904eacbf944e4ae21c597d21da085dfc96236", func := "bellpull/bellpulllaw04.NormDivisor", spec := "normDivisor", unfollowed := true, recurses := true, apart := false }
def NormDivisorSaid : Prop := normDivisorRow.holds Try.pinned (OpenSpec.ofChange normDivisorSpec)

/-- ITS FALSE NEIGHBOUR: 'it returns false'. Refute it at one input. -/
def normDivisorWrong : ChangeSpec := { name := "normDivisor", fn := fun _ => fun
  | [d1, d2, d3] => { results := [.lit (.bool false)], args := [d1, d2, d3] }
  | _ => none }
def NormDivisorWrongFalsely : Prop := normDivisorRow.holds Try.pinned (OpenSpec.ofChange normDivisorWrong)

/-- 'bellpulllaw04.NormLagrange': WHATEVER THE INPUT: true; the input reads as it did. -/
def normLagrangeSpec : ChangeSpec := { name := "normLagrange", fn := fun _ => fun
  | [d] => { results := [.lit (.bool true)], args := [d] }
  | _ => none }
def normLagrangeRow : OpenClaim := { program := "ytgfnmimfoicmmaa", sum := "51575bfaebcd9fef1cdea831c5c904eacbf944e4ae21c597d21da085dfc96236", func := "bellpull/bellpulllaw04.NormLagrange", spec := "normLagrange", unfollowed := true, recurses := true, apart := false }
def NormLagrangeSaid : Prop := normLagrangeRow.holds Try.pinned (OpenSpec.ofChange normLagrangeSpec)

/-- ITS FALSE NEIGHBOUR: 'it returns false'. Refute it at one input. -/
def normLagrangeWrong : ChangeSpec := { name := "normLagrange", fn := fun _ => fun
  | [d] => { results := [.lit (.bool false)], args := [d] }
  | _ => none }
def NormLagrangeWrongFalsely : Prop := normLagrangeRow.holds Try.pinned (OpenSpec.ofChange normLagrangeWrong)

/-- 'bellpulllaw04.NormJacobi': WHATEVER THE INPUT: true; the input reads as it did. -/
def normJacobiSpec : ChangeSpec := { name := "normJacobi", fn := fun _ => fun
  | [d] => { results := [.lit (.bool true)], args := [d] }
  | _ => none }
def normJacobiRow : OpenClaim := { program := "ytgfnmimfoicmmaa", sum := "51575bfaebcd9fef1cdea831c5c904eacbf944e4ae21c597d21da085dfc96236", func := "bellpull/bellpulllaw04.NormJacobi", spec := "normJacobi", unfollowed := true, recurses := true, apart := false }
def NormJacobiSaid : Prop := normJacobiRow.holds Try.pinned (OpenSpec.ofChange normJacobiSpec)

/-- ITS FALSE NEIGHBOUR: 'it returns false'. Refute it at one input. -/
def normJacobiWrong : ChangeSpec := { name := "normJacobi", fn := fun _ => fun
  | [d] => { results := [.lit (.bool false)], args := [d] }
  | _ => none }
def NormJacobiWrongFalsely : Prop := normJacobiRow.holds Try.pinned (OpenSpec.ofChange normJacobiWrong)

/-- 'bellpulllaw04.NormEuler': WHATEVER THE INPUT: true; the input reads as it did. -/
def normEulerSpec : ChangeSpec := { name := "normEuler", fn := fun _ => fun
  | [d1, d2] => { results := [.lit (.bool true)], args := [d1, d2] }
  | _ => none }
def normEulerRow : OpenClaim := { program := "ytgfnmimfoicmmaa", sum := "51575bfaebcd9fef1cdea831c5c904eacbf944e4ae21c597d21da085dfc96236", func := "bellpull/bellpulllaw04.NormEuler", spec := "normEuler", unfollowed := true, recurses := true, apart := false }
def NormEulerSaid : Prop := normEulerRow.holds Try.pinned (OpenSpec.ofChange normEulerSpec)

/-- ITS FALSE NEIGHBOUR: 'it returns false'. Refute it at one input. -/
def normEulerWrong : ChangeSpec := { name := "normEuler", fn := fun _ => fun
  | [d1, d2] => { results := [.lit (.bool false)], args := [d1, d2] }
  | _ => none }
def NormEulerWrongFalsely : Prop := normEulerRow.holds Try.pinned (OpenSpec.ofChange normEulerWrong)

/-- 'bellpulllaw04.NormProducts': WHATEVER THE INPUT: true; the input reads as it did. -/
def normProductsSpec : ChangeSpec := { name := "normProducts", fn := fun _ => fun
  | [d1, d2] => { results := [.lit (.bool true)], args := [d1, d2] }
  | _ => none }
def normProductsRow : OpenClaim := { program := "ytgfnmimfoicmmaa", sum := "51575bfaebcd9fef1cdea831c5c904eacbf944e4ae21c597d21da085dfc96236", func := "bellpull/bellpulllaw04.NormProducts", spec := "normProducts", unfollowed := true, recurses := true, apart := false }
def NormProductsSaid : Prop := normProductsRow.holds Try.pinned (OpenSpec.ofChange normProductsSpec)

/-- ITS FALSE NEIGHBOUR: 'it returns false'. Refute it at one input. -/
def normProductsWrong : ChangeSpec := { name := "normProducts", fn := fun _ => fun
  | [d1, d2] => { results := [.lit (.bool false)], args := [d1, d2] }
  | _ => none }
def NormProductsWrongFalsely : Prop := normProductsRow.holds Try.pinned (OpenSpec.ofChange normProductsWrong)

/-- 'bellpulllaw04.NormPrimes': WHATEVER THE INPUT: true; the input reads as it did. -/
def normPrimesSpec : ChangeSpec := { name := "normPrimes", fn := fun _ => fun
  | [d1, d2] => { results := [.lit (.bool true)], args := [d1, d2] }
  | _ => none }
def normPrimesRow : OpenClaim := { program := "ytgfnmimfoicmmaa", sum := "51575bfaebcd9fef1cdea831c5c904eacbf944e4ae21c597d21da085dfc96236", func := "bellpull/bellpulllaw04.NormPrimes", spec := "normPrimes", unfollowed := true, recurses := true, apart := false }
def NormPrimesSaid : Prop := normPrimesRow.holds Try.pinned (OpenSpec.ofChange normPrimesSpec)

/-- ITS FALSE NEIGHBOUR: 'it returns false'. Refute it at one input. -/
def normPrimesWrong : ChangeSpec := { name := "normPrimes", fn := fun _ => fun
  | [d1, d2] => { results := [.lit (.bool false)], args := [d1, d2] }
  | _ => none }
def NormPrimesWrongFalsely : Prop := normPrimesRow.holds Try.pinned (OpenSpec.ofChange normPrimesWrong)

/-- 'bellpulllaw04.NormMultiplied': WHATEVER THE INPUT: true; the input reads as it did. -/
def normMultipliedSpec : ChangeSpec := { name := "normMultiplied", fn := fun _ => fun
  | [d1, d2] => { results := [.lit (.bool true)], args := [d1, d2] }
  | _ => none }
def normMultipliedRow : OpenClaim := { program := "ytgfnmimfoicmmaa", sum := "51575bfaebcd9fef1cdea831c5c904eacbf944e4ae21c597d21da085dfc96236", func := "bellpull/bellpulllaw04.NormMultiplied", spec := "normMultiplied", unfollowed := true, recurses := true, apart := false }
def NormMultipliedSaid : Prop := normMultipliedRow.holds Try.pinned (OpenSpec.ofChange normMultipliedSpec)

/-- ITS FALSE NEIGHBOUR: 'it returns false'. Refute it at one input. -/
def normMultipliedWrong : ChangeSpec := { name := "normMultiplied", fn := fun _ => fun
  | [d1, d2] => { results := [.lit (.bool false)], args := [d1, d2] }
  | _ => none }
def NormMultipliedWrongFalsely : Prop := normMultipliedRow.holds Try.pinned (OpenSpec.ofChange normMultipliedWrong)

/-- 'bellpulllaw04.NormSplit': WHATEVER THE INPUT: true; the input reads as it did. -/
def normSplitSpec : ChangeSpec := { name := "normSplit", fn := fun _ => fun
  | [d] => { results := [.lit (.bool true)], args := [d] }
  | _ => none }
def normSplitRow : OpenClaim := { program := "ytgfnmimfoicmmaa", sum := "51575bfaebcd9fef1cdea831c5c904eacbf944e4ae21c597d21da085dfc96236", func := "bellpull/bellpulllaw04.NormSplit", spec := "normSplit", unfollowed := true, recurses := true, apart := false }
def NormSplitSaid : Prop := normSplitRow.holds Try.pinned (OpenSpec.ofChange normSplitSpec)

/-- ITS FALSE NEIGHBOUR: 'it returns false'. Refute it at one input. -/
def normSplitWrong : ChangeSpec := { name := "normSplit", fn := fun _ => fun
  | [d] => { results := [.lit (.bool false)], args := [d] }
  | _ => none }
def NormSplitWrongFalsely : Prop := normSplitRow.holds Try.pinned (OpenSpec.ofChange normSplitWrong)

/-- 'bellpulllaw04.NormUnits': WHATEVER THE INPUT: true; the input reads as it did. -/
def normUnitsSpec : ChangeSpec := { name := "normUnits", fn := fun _ => fun
  | [d1, d2] => { results := [.lit (.bool true)], args := [d1, d2] }
  | _ => none }
def normUnitsRow : OpenClaim := { program := "ytgfnmimfoicmmaa", sum := "51575bfaebcd9fef1cdea831c5c904eacbf944e4ae21c597d21da085dfc96236", func := "bellpull/bellpulllaw04.NormUnits", spec := "normUnits", unfollowed := true, recurses := true, apart := false }
def NormUnitsSaid : Prop := normUnitsRow.holds Try.pinned (OpenSpec.ofChange normUnitsSpec)

/-- ITS FALSE NEIGHBOUR: 'it returns false'. Refute it at one input. -/
def normUnitsWrong : ChangeSpec := { name := "normUnits", fn := fun _ => fun
  | [d1, d2] => { results := [.lit (.bool false)], args := [d1, d2] }
  | _ => none }
def NormUnitsWrongFalsely : Prop := normUnitsRow.holds Try.pinned (OpenSpec.ofChange normUnitsWrong)

/- THE SECOND FORM. 'bulk': how many values and letters a reading holds, each counted each time it is reached (what is shared counts as often as it is met; a slice's spare places count too). A statement '..UptoSaid' is the law's where the arguments, and the package variables that the reading takes, are together of bulk at most 1048576: NARROWER than '..Said'. Prove '..Said' where nothing that the law and all that it calls make is longer than what came in: it says more and counts as full. Else prove '..UptoSaid'. A law counts once. -/
mutual
def uptoBulk {H : Type} : DataW H → Nat
  | .lit (.string bytes) => bytes.length + 1
  | .lit _ => 1
  | .nil => 1
  | .ptr d => uptoBulk d + 1
  | .slice elems spare => uptoBulkAll elems + uptoBulkAll spare + 1
  | .agg parts => uptoBulkAll parts + 1
  | .iface _ d => uptoBulk d + 1
  | .map entries => uptoBulkEntries entries + 1
  | .held _ => 1
def uptoBulkAll {H : Type} : List (DataW H) → Nat
  | [] => 0
  | d :: r => uptoBulk d + uptoBulkAll r
def uptoBulkEntries {H : Type} : List (Lit × DataW H) → Nat
  | [] => 0
  | x :: r => uptoBulkEntry x + uptoBulkEntries r
def uptoBulkEntry {H : Type} : Lit × DataW H → Nat
  | (.string bytes, d) => bytes.length + uptoBulk d + 1
  | (_, d) => uptoBulk d + 1
 end
def uptoSmall : (H : Type) → List (DataW H) → Bool := fun _ ds => decide (uptoBulkAll ds ≤ 1048576)
def OpenSpec.upto (s : _root_.Go.ChangeSpec) : _root_.Go.OpenSpec := { _root_.Go.OpenSpec.ofChange s with cond := some uptoSmall }

/-- 'bellpulllaw04.NormDivides', WHERE WHAT IT READS IS OF BULK AT MOST 1048576: true; the input reads as it did. -/
def normDividesUptoRow : OpenClaim := { program := "ytgfnmimfoicmmaa", sum := "51575bfaebcd9fef1cdea831c5c904eacbf944e4ae21c597d21da085dfc96236", func := "bellpull/bellpulllaw04.NormDivides", spec := "normDivides", unfollowed := true, recurses := true, apart := false, narrowed := true }
def NormDividesUptoSaid : Prop := normDividesUptoRow.holds Try.pinned (OpenSpec.upto normDividesSpec)

/-- 'bellpulllaw04.NormGcds', WHERE WHAT IT READS IS OF BULK AT MOST 1048576: true; the input reads as it did. -/
def normGcdsUptoRow : OpenClaim := { program := "ytgfnmimfoicmmaa", sum := "51575bfaebcd9fef1cdea831c5c904eacbf944e4ae21c597d21da085dfc96236", func := "bellpull/bellpulllaw04.NormGcds", spec := "normGcds", unfollowed := true, recurses := true, apart := false, narrowed := true }
def NormGcdsUptoSaid : Prop := normGcdsUptoRow.holds Try.pinned (OpenSpec.upto normGcdsSpec)

/-- 'bellpulllaw04.NormSquares', WHERE WHAT IT READS IS OF BULK AT MOST 1048576: true; the input reads as it did. -/
def normSquaresUptoRow : OpenClaim := { program := "ytgfnmimfoicmmaa", sum := "51575bfaebcd9fef1cdea831c5c904eacbf944e4ae21c597d21da085dfc96236", func := "bellpull/bellpulllaw04.NormSquares", spec := "normSquares", unfollowed := true, recurses := true, apart := false, narrowed := true }
def NormSquaresUptoSaid : Prop := normSquaresUptoRow.holds Try.pinned (OpenSpec.upto normSquaresSpec)

/-- 'bellpulllaw04.NormCounts', WHERE WHAT IT READS IS OF BULK AT MOST 1048576: true; the input reads as it did. -/
def normCountsUptoRow : OpenClaim := { program := "ytgfnmimfoicmmaa", sum := "51575bfaebcd9fef1cdea831c5c904eacbf944e4ae21c597d21da085dfc96236", func := "bellpull/bellpulllaw04.NormCounts", spec := "normCounts", unfollowed := true, recurses := true, apart := false, narrowed := true }
def NormCountsUptoSaid : Prop := normCountsUptoRow.holds Try.pinned (OpenSpec.upto normCountsSpec)

/-- 'bellpulllaw04.NormDivision', WHERE WHAT IT READS IS OF BULK AT MOST 1048576: true; the input reads as it did. -/
def normDivisionUptoRow : OpenClaim := { program := "ytgfnmimfoicmmaa", sum := "51575bfaebcd9fef1cdea831c5c904eacbf944e4ae21c597d21da085dfc96236", func := "bellpull/bellpulllaw04.NormDivision", spec := "normDivision", unfollowed := true, recurses := true, apart := false, narrowed := true }
def NormDivisionUptoSaid : Prop := normDivisionUptoRow.holds Try.pinned (OpenSpec.upto normDivisionSpec)

/-- 'bellpulllaw04.NormDivisor', WHERE WHAT IT READS IS OF BULK AT MOST 1048576: true; the input reads as it did. -/
def normDivisorUptoRow : OpenClaim := { program := "ytgfnmimfoicmmaa", sum := "51575bfaebcd9fef1cdea831c5c904eacbf944e4ae21c597d21da085dfc96236", func := "bellpull/bellpulllaw04.NormDivisor", spec := "normDivisor", unfollowed := true, recurses := true, apart := false, narrowed := true }
def NormDivisorUptoSaid : Prop := normDivisorUptoRow.holds Try.pinned (OpenSpec.upto normDivisorSpec)

/-- 'bellpulllaw04.NormLagrange', WHERE WHAT IT READS IS OF BULK AT MOST 1048576: true; the input reads as it did. -/
def normLagrangeUptoRow : OpenClaim := { program := "ytgfnmimfoicmmaa", sum := "51575bfaebcd9fef1cdea831c5c904eacbf944e4ae21c597d21da085dfc96236", func := "bellpull/bellpulllaw04.NormLagrange", spec := "normLagrange", unfollowed := true, recurses := true, apart := false, narrowed := true }
def NormLagrangeUptoSaid : Prop := normLagrangeUptoRow.holds Try.pinned (OpenSpec.upto normLagrangeSpec)

/-- 'bellpulllaw04.NormJacobi', WHERE WHAT IT READS IS OF BULK AT MOST 1048576: true; the input reads as it did. -/
def normJacobiUptoRow : OpenClaim := { program := "ytgfnmimfoicmmaa", sum := "51575bfaebcd9fef1cdea831c5c904eacbf944e4ae21c597d21da085dfc96236", func := "bellpull/bellpulllaw04.NormJacobi", spec := "normJacobi", unfollowed := true, recurses := true, apart := false, narrowed := true }
def NormJacobiUptoSaid : Prop := normJacobiUptoRow.holds Try.pinned (OpenSpec.upto normJacobiSpec)

/-- 'bellpulllaw04.NormEuler', WHERE WHAT IT READS IS OF BULK AT MOST 1048576: true; the input reads as it did. -/
def normEulerUptoRow : OpenClaim := { program := "ytgfnmimfoicmmaa", sum := "51575bfaebcd9fef1cdea831c5c904eacbf944e4ae21c597d21da085dfc96236", func := "bellpull/bellpulllaw04.NormEuler", spec := "normEuler", unfollowed := true, recurses := true, apart := false, narrowed := true }
def NormEulerUptoSaid : Prop := normEulerUptoRow.holds Try.pinned (OpenSpec.upto normEulerSpec)

/-- 'bellpulllaw04.NormProducts', WHERE WHAT IT READS IS OF BULK AT MOST 1048576: true; the input reads as it did. -/
def normProductsUptoRow : OpenClaim := { program := "ytgfnmimfoicmmaa", sum := "51575bfaebcd9fef1cdea831c5c904eacbf944e4ae21c597d21da085dfc96236", func := "bellpull/bellpulllaw04.NormProducts", spec := "normProducts", unfollowed := true, recurses := true, apart := false, narrowed := true }
def NormProductsUptoSaid : Prop := normProductsUptoRow.holds Try.pinned (OpenSpec.upto normProductsSpec)

/-- 'bellpulllaw04.NormPrimes', WHERE WHAT IT READS IS OF BULK AT MOST 1048576: true; the input reads as it did. -/
def normPrimesUptoRow : OpenClaim := { program := "ytgfnmimfoicmmaa", sum := "51575bfaebcd9fef1cdea831c5c904eacbf944e4ae21c597d21da085dfc96236", func := "bellpull/bellpulllaw04.NormPrimes", spec := "normPrimes", unfollowed := true, recurses := true, apart := false, narrowed := true }
def NormPrimesUptoSaid : Prop := normPrimesUptoRow.holds Try.pinned (OpenSpec.upto normPrimesSpec)

/-- 'bellpulllaw04.NormMultiplied', WHERE WHAT IT READS IS OF BULK AT MOST 1048576: true; the input reads as it did. -/
def normMultipliedUptoRow : OpenClaim := { program := "ytgfnmimfoicmmaa", sum := "51575bfaebcd9fef1cdea831c5c904eacbf944e4ae21c597d21da085dfc96236", func := "bellpull/bellpulllaw04.NormMultiplied", spec := "normMultiplied", unfollowed := true, recurses := true, apart := false, narrowed := true }
def NormMultipliedUptoSaid : Prop := normMultipliedUptoRow.holds Try.pinned (OpenSpec.upto normMultipliedSpec)

/-- 'bellpulllaw04.NormSplit', WHERE WHAT IT READS IS OF BULK AT MOST 1048576: true; the input reads as it did. -/
def normSplitUptoRow : OpenClaim := { program := "ytgfnmimfoicmmaa", sum := "51575bfaebcd9fef1cdea831c5c904eacbf944e4ae21c597d21da085dfc96236", func := "bellpull/bellpulllaw04.NormSplit", spec := "normSplit", unfollowed := true, recurses := true, apart := false, narrowed := true }
def NormSplitUptoSaid : Prop := normSplitUptoRow.holds Try.pinned (OpenSpec.upto normSplitSpec)

/-- 'bellpulllaw04.NormUnits', WHERE WHAT IT READS IS OF BULK AT MOST 1048576: true; the input reads as it did. -/
def normUnitsUptoRow : OpenClaim := { program := "ytgfnmimfoicmmaa", sum := "51575bfaebcd9fef1cdea831c5c904eacbf944e4ae21c597d21da085dfc96236", func := "bellpull/bellpulllaw04.NormUnits", spec := "normUnits", unfollowed := true, recurses := true, apart := false, narrowed := true }
def NormUnitsUptoSaid : Prop := normUnitsUptoRow.holds Try.pinned (OpenSpec.upto normUnitsSpec)

end Rows
end Go.Proofs.Ytgfnmimfoicmmaa
