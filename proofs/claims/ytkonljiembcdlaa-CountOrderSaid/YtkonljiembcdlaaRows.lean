/-
  No cell of these rows narrows 'for every input' (looked for: loops, veiled, ifaces, maps, wideKeys, modest, calm, conditions, laid).
  DERIVED. THE GIVEN ROWS OF THIS SEAT. 14 by the template 'for every input the law returns true; each argument reads behind the call as it read before'; 0 by the template 'total and deterministic' (their statements: YtkonljiembcdlaaTotals.lean).
  GIVEN WITH THE SEED: the statements are not yours to turn. If you find one false, say at which input.
  Laid BY PROGRAM, IN A SANDBOX (cutbox-rows.mjs): the forced cells as the released guide's own fill.sh prints them over the translation c24bc042c9d32064… (all of the seat's roots in one cut). By AI agents, Wed Nov 11 2026. No macro, syntax, notation, axiom, sorry.
-/
import Derived.Test.YtkonljiembcdlaaChecked
import GoSem.Claim
import GoSem.ClaimJoined
import GoSem.ClaimMapViews
import Derived.JoinedTies
import Derived.KernelRfl
namespace Go.Proofs.Ytkonljiembcdlaa
/- THE CELL 'sum', in the pinned program and in every row, IS THE sha256 OF THE DUMP (.gsa) THAT YtkonljiembcdlaaProg.lean LOADS. Nothing in Lean hashes anything: it is a label: what it is worth is what the hold of that sum in a sandbox is worth. -/
noncomputable def Try.pinned : Pinned := { name := "ytkonljiembcdlaa", sum := "c24bc042c9d3206467e7988f57fe469f66fb3848fa514b2910b4b2b7d1993a6d", checked := Try.checked }
namespace Rows
def none {H : Type} : Left H := { results := [], args := [] }

/-- 'bellpulllaw05.CountHas': WHATEVER THE INPUT: true; the input reads as it did. -/
def countHasSpec : ChangeSpec := { name := "countHas", fn := fun _ => fun
  | [d] => { results := [.lit (.bool true)], args := [d] }
  | _ => none }
def countHasRow : OpenClaim := { program := "ytkonljiembcdlaa", sum := "c24bc042c9d3206467e7988f57fe469f66fb3848fa514b2910b4b2b7d1993a6d", func := "bellpull/bellpulllaw05.CountHas", spec := "countHas", inPlace := ["internal/bytealg.IndexByteString"], unfollowed := true, recurses := true, plainKeys := false, apart := false }
def CountHasSaid : Prop := countHasRow.holds Try.pinned (OpenSpec.ofChange countHasSpec)

/-- ITS FALSE NEIGHBOUR: 'it returns false'. Refute it at one input. -/
def countHasWrong : ChangeSpec := { name := "countHas", fn := fun _ => fun
  | [d] => { results := [.lit (.bool false)], args := [d] }
  | _ => none }
def CountHasWrongFalsely : Prop := countHasRow.holds Try.pinned (OpenSpec.ofChange countHasWrong)

/-- 'bellpulllaw05.CountAccepts': WHATEVER THE INPUT: true; the input reads as it did. -/
def countAcceptsSpec : ChangeSpec := { name := "countAccepts", fn := fun _ => fun
  | [d1, d2] => { results := [.lit (.bool true)], args := [d1, d2] }
  | _ => none }
def countAcceptsRow : OpenClaim := { program := "ytkonljiembcdlaa", sum := "c24bc042c9d3206467e7988f57fe469f66fb3848fa514b2910b4b2b7d1993a6d", func := "bellpull/bellpulllaw05.CountAccepts", spec := "countAccepts", inPlace := ["internal/bytealg.IndexByteString"], unfollowed := true, recurses := true, plainKeys := false, apart := false }
def CountAcceptsSaid : Prop := countAcceptsRow.holds Try.pinned (OpenSpec.ofChange countAcceptsSpec)

/-- ITS FALSE NEIGHBOUR: 'it returns false'. Refute it at one input. -/
def countAcceptsWrong : ChangeSpec := { name := "countAccepts", fn := fun _ => fun
  | [d1, d2] => { results := [.lit (.bool false)], args := [d1, d2] }
  | _ => none }
def CountAcceptsWrongFalsely : Prop := countAcceptsRow.holds Try.pinned (OpenSpec.ofChange countAcceptsWrong)

/-- 'bellpulllaw05.CountImages': WHATEVER THE INPUT: true; the input reads as it did. -/
def countImagesSpec : ChangeSpec := { name := "countImages", fn := fun _ => fun
  | [d] => { results := [.lit (.bool true)], args := [d] }
  | _ => none }
def countImagesRow : OpenClaim := { program := "ytkonljiembcdlaa", sum := "c24bc042c9d3206467e7988f57fe469f66fb3848fa514b2910b4b2b7d1993a6d", func := "bellpull/bellpulllaw05.CountImages", spec := "countImages", inPlace := ["internal/bytealg.IndexByteString"], unfollowed := true, recurses := true, plainKeys := false, apart := false }
def CountImagesSaid : Prop := countImagesRow.holds Try.pinned (OpenSpec.ofChange countImagesSpec)

/-- ITS FALSE NEIGHBOUR: 'it returns false'. Refute it at one input. -/
def countImagesWrong : ChangeSpec := { name := "countImages", fn := fun _ => fun
  | [d] => { results := [.lit (.bool false)], args := [d] }
  | _ => none }
def CountImagesWrongFalsely : Prop := countImagesRow.holds Try.pinned (OpenSpec.ofChange countImagesWrong)

/-- 'bellpulllaw05.CountParikh': WHATEVER THE INPUT: true; the input reads as it did. -/
def countParikhSpec : ChangeSpec := { name := "countParikh", fn := fun _ => fun
  | [d1, d2] => { results := [.lit (.bool true)], args := [d1, d2] }
  | _ => none }
def countParikhRow : OpenClaim := { program := "ytkonljiembcdlaa", sum := "c24bc042c9d3206467e7988f57fe469f66fb3848fa514b2910b4b2b7d1993a6d", func := "bellpull/bellpulllaw05.CountParikh", spec := "countParikh", inPlace := ["internal/bytealg.IndexByteString"], unfollowed := true, recurses := true, plainKeys := false, apart := false }
def CountParikhSaid : Prop := countParikhRow.holds Try.pinned (OpenSpec.ofChange countParikhSpec)

/-- ITS FALSE NEIGHBOUR: 'it returns false'. Refute it at one input. -/
def countParikhWrong : ChangeSpec := { name := "countParikh", fn := fun _ => fun
  | [d1, d2] => { results := [.lit (.bool false)], args := [d1, d2] }
  | _ => none }
def CountParikhWrongFalsely : Prop := countParikhRow.holds Try.pinned (OpenSpec.ofChange countParikhWrong)

/-- 'bellpulllaw05.CountPeriod': WHATEVER THE INPUT: true; the input reads as it did. -/
def countPeriodSpec : ChangeSpec := { name := "countPeriod", fn := fun _ => fun
  | [d1, d2] => { results := [.lit (.bool true)], args := [d1, d2] }
  | _ => none }
def countPeriodRow : OpenClaim := { program := "ytkonljiembcdlaa", sum := "c24bc042c9d3206467e7988f57fe469f66fb3848fa514b2910b4b2b7d1993a6d", func := "bellpull/bellpulllaw05.CountPeriod", spec := "countPeriod", inPlace := ["internal/bytealg.IndexByteString"], unfollowed := true, recurses := true, plainKeys := false, apart := false }
def CountPeriodSaid : Prop := countPeriodRow.holds Try.pinned (OpenSpec.ofChange countPeriodSpec)

/-- ITS FALSE NEIGHBOUR: 'it returns false'. Refute it at one input. -/
def countPeriodWrong : ChangeSpec := { name := "countPeriod", fn := fun _ => fun
  | [d1, d2] => { results := [.lit (.bool false)], args := [d1, d2] }
  | _ => none }
def CountPeriodWrongFalsely : Prop := countPeriodRow.holds Try.pinned (OpenSpec.ofChange countPeriodWrong)

/-- 'bellpulllaw05.CountOrder': WHATEVER THE INPUT: true; the input reads as it did. -/
def countOrderSpec : ChangeSpec := { name := "countOrder", fn := fun _ => fun
  | [d1, d2, d3] => { results := [.lit (.bool true)], args := [d1, d2, d3] }
  | _ => none }
def countOrderRow : OpenClaim := { program := "ytkonljiembcdlaa", sum := "c24bc042c9d3206467e7988f57fe469f66fb3848fa514b2910b4b2b7d1993a6d", func := "bellpull/bellpulllaw05.CountOrder", spec := "countOrder", inPlace := ["internal/bytealg.IndexByteString"], unfollowed := true, recurses := true, plainKeys := false, apart := false }
def CountOrderSaid : Prop := countOrderRow.holds Try.pinned (OpenSpec.ofChange countOrderSpec)

/-- ITS FALSE NEIGHBOUR: 'it returns false'. Refute it at one input. -/
def countOrderWrong : ChangeSpec := { name := "countOrder", fn := fun _ => fun
  | [d1, d2, d3] => { results := [.lit (.bool false)], args := [d1, d2, d3] }
  | _ => none }
def CountOrderWrongFalsely : Prop := countOrderRow.holds Try.pinned (OpenSpec.ofChange countOrderWrong)

/-- 'bellpulllaw05.CountCommutes': WHATEVER THE INPUT: true; the input reads as it did. -/
def countCommutesSpec : ChangeSpec := { name := "countCommutes", fn := fun _ => fun
  | [d1, d2, d3] => { results := [.lit (.bool true)], args := [d1, d2, d3] }
  | _ => none }
def countCommutesRow : OpenClaim := { program := "ytkonljiembcdlaa", sum := "c24bc042c9d3206467e7988f57fe469f66fb3848fa514b2910b4b2b7d1993a6d", func := "bellpull/bellpulllaw05.CountCommutes", spec := "countCommutes", inPlace := ["internal/bytealg.IndexByteString"], unfollowed := true, recurses := true, plainKeys := false, apart := false }
def CountCommutesSaid : Prop := countCommutesRow.holds Try.pinned (OpenSpec.ofChange countCommutesSpec)

/-- ITS FALSE NEIGHBOUR: 'it returns false'. Refute it at one input. -/
def countCommutesWrong : ChangeSpec := { name := "countCommutes", fn := fun _ => fun
  | [d1, d2, d3] => { results := [.lit (.bool false)], args := [d1, d2, d3] }
  | _ => none }
def CountCommutesWrongFalsely : Prop := countCommutesRow.holds Try.pinned (OpenSpec.ofChange countCommutesWrong)

/-- 'bellpulllaw05.CountSum': WHATEVER THE INPUT: true; the input reads as it did. -/
def countSumSpec : ChangeSpec := { name := "countSum", fn := fun _ => fun
  | [d] => { results := [.lit (.bool true)], args := [d] }
  | _ => none }
def countSumRow : OpenClaim := { program := "ytkonljiembcdlaa", sum := "c24bc042c9d3206467e7988f57fe469f66fb3848fa514b2910b4b2b7d1993a6d", func := "bellpull/bellpulllaw05.CountSum", spec := "countSum", inPlace := ["internal/bytealg.IndexByteString"], unfollowed := true, recurses := true, plainKeys := false, apart := false }
def CountSumSaid : Prop := countSumRow.holds Try.pinned (OpenSpec.ofChange countSumSpec)

/-- ITS FALSE NEIGHBOUR: 'it returns false'. Refute it at one input. -/
def countSumWrong : ChangeSpec := { name := "countSum", fn := fun _ => fun
  | [d] => { results := [.lit (.bool false)], args := [d] }
  | _ => none }
def CountSumWrongFalsely : Prop := countSumRow.holds Try.pinned (OpenSpec.ofChange countSumWrong)

/-- 'bellpulllaw05.CountStar': WHATEVER THE INPUT: true; the input reads as it did. -/
def countStarSpec : ChangeSpec := { name := "countStar", fn := fun _ => fun
  | [d] => { results := [.lit (.bool true)], args := [d] }
  | _ => none }
def countStarRow : OpenClaim := { program := "ytkonljiembcdlaa", sum := "c24bc042c9d3206467e7988f57fe469f66fb3848fa514b2910b4b2b7d1993a6d", func := "bellpull/bellpulllaw05.CountStar", spec := "countStar", inPlace := ["internal/bytealg.IndexByteString"], unfollowed := true, recurses := true, plainKeys := false, apart := false }
def CountStarSaid : Prop := countStarRow.holds Try.pinned (OpenSpec.ofChange countStarSpec)

/-- ITS FALSE NEIGHBOUR: 'it returns false'. Refute it at one input. -/
def countStarWrong : ChangeSpec := { name := "countStar", fn := fun _ => fun
  | [d] => { results := [.lit (.bool false)], args := [d] }
  | _ => none }
def CountStarWrongFalsely : Prop := countStarRow.holds Try.pinned (OpenSpec.ofChange countStarWrong)

/-- 'bellpulllaw05.CountSums': WHATEVER THE INPUT: true; the input reads as it did. -/
def countSumsSpec : ChangeSpec := { name := "countSums", fn := fun _ => fun
  | [d] => { results := [.lit (.bool true)], args := [d] }
  | _ => none }
def countSumsRow : OpenClaim := { program := "ytkonljiembcdlaa", sum := "c24bc042c9d3206467e7988f57fe469f66fb3848fa514b2910b4b2b7d1993a6d", func := "bellpull/bellpulllaw05.CountSums", spec := "countSums", inPlace := ["internal/bytealg.IndexByteString"], unfollowed := true, recurses := true, plainKeys := false, apart := false }
def CountSumsSaid : Prop := countSumsRow.holds Try.pinned (OpenSpec.ofChange countSumsSpec)

/-- ITS FALSE NEIGHBOUR: 'it returns false'. Refute it at one input. -/
def countSumsWrong : ChangeSpec := { name := "countSums", fn := fun _ => fun
  | [d] => { results := [.lit (.bool false)], args := [d] }
  | _ => none }
def CountSumsWrongFalsely : Prop := countSumsRow.holds Try.pinned (OpenSpec.ofChange countSumsWrong)

/-- 'bellpulllaw05.CountDiffers': WHATEVER THE INPUT: true; the input reads as it did. -/
def countDiffersSpec : ChangeSpec := { name := "countDiffers", fn := fun _ => fun
  | [d] => { results := [.lit (.bool true)], args := [d] }
  | _ => none }
def countDiffersRow : OpenClaim := { program := "ytkonljiembcdlaa", sum := "c24bc042c9d3206467e7988f57fe469f66fb3848fa514b2910b4b2b7d1993a6d", func := "bellpull/bellpulllaw05.CountDiffers", spec := "countDiffers", inPlace := ["internal/bytealg.IndexByteString"], unfollowed := true, recurses := true, plainKeys := false, apart := false }
def CountDiffersSaid : Prop := countDiffersRow.holds Try.pinned (OpenSpec.ofChange countDiffersSpec)

/-- ITS FALSE NEIGHBOUR: 'it returns false'. Refute it at one input. -/
def countDiffersWrong : ChangeSpec := { name := "countDiffers", fn := fun _ => fun
  | [d] => { results := [.lit (.bool false)], args := [d] }
  | _ => none }
def CountDiffersWrongFalsely : Prop := countDiffersRow.holds Try.pinned (OpenSpec.ofChange countDiffersWrong)

/-- 'bellpulllaw05.CountNumbers': WHATEVER THE INPUT: true; the input reads as it did. -/
def countNumbersSpec : ChangeSpec := { name := "countNumbers", fn := fun _ => fun
  | [d1, d2] => { results := [.lit (.bool true)], args := [d1, d2] }
  | _ => none }
def countNumbersRow : OpenClaim := { program := "ytkonljiembcdlaa", sum := "c24bc042c9d3206467e7988f57fe469f66fb3848fa514b2910b4b2b7d1993a6d", func := "bellpull/bellpulllaw05.CountNumbers", spec := "countNumbers", inPlace := ["internal/bytealg.IndexByteString"], unfollowed := true, recurses := true, plainKeys := false, apart := false }
def CountNumbersSaid : Prop := countNumbersRow.holds Try.pinned (OpenSpec.ofChange countNumbersSpec)

/-- ITS FALSE NEIGHBOUR: 'it returns false'. Refute it at one input. -/
def countNumbersWrong : ChangeSpec := { name := "countNumbers", fn := fun _ => fun
  | [d1, d2] => { results := [.lit (.bool false)], args := [d1, d2] }
  | _ => none }
def CountNumbersWrongFalsely : Prop := countNumbersRow.holds Try.pinned (OpenSpec.ofChange countNumbersWrong)

/-- 'bellpulllaw05.CountCounts': WHATEVER THE INPUT: true; the input reads as it did. -/
def countCountsSpec : ChangeSpec := { name := "countCounts", fn := fun _ => fun
  | [d] => { results := [.lit (.bool true)], args := [d] }
  | _ => none }
def countCountsRow : OpenClaim := { program := "ytkonljiembcdlaa", sum := "c24bc042c9d3206467e7988f57fe469f66fb3848fa514b2910b4b2b7d1993a6d", func := "bellpull/bellpulllaw05.CountCounts", spec := "countCounts", inPlace := ["internal/bytealg.IndexByteString"], unfollowed := true, recurses := true, plainKeys := false, apart := false }
def CountCountsSaid : Prop := countCountsRow.holds Try.pinned (OpenSpec.ofChange countCountsSpec)

/-- ITS FALSE NEIGHBOUR: 'it returns false'. Refute it at one input. -/
def countCountsWrong : ChangeSpec := { name := "countCounts", fn := fun _ => fun
  | [d] => { results := [.lit (.bool false)], args := [d] }
  | _ => none }
def CountCountsWrongFalsely : Prop := countCountsRow.holds Try.pinned (OpenSpec.ofChange countCountsWrong)

/-- 'bellpulllaw05.CountLeast': WHATEVER THE INPUT: true; the input reads as it did. -/
def countLeastSpec : ChangeSpec := { name := "countLeast", fn := fun _ => fun
  | [d] => { results := [.lit (.bool true)], args := [d] }
  | _ => none }
def countLeastRow : OpenClaim := { program := "ytkonljiembcdlaa", sum := "c24bc042c9d3206467e7988f57fe469f66fb3848fa514b2910b4b2b7d1993a6d", func := "bellpull/bellpulllaw05.CountLeast", spec := "countLeast", inPlace := ["internal/bytealg.IndexByteString"], unfollowed := true, recurses := true, plainKeys := false, apart := false }
def CountLeastSaid : Prop := countLeastRow.holds Try.pinned (OpenSpec.ofChange countLeastSpec)

/-- ITS FALSE NEIGHBOUR: 'it returns false'. Refute it at one input. -/
def countLeastWrong : ChangeSpec := { name := "countLeast", fn := fun _ => fun
  | [d] => { results := [.lit (.bool false)], args := [d] }
  | _ => none }
def CountLeastWrongFalsely : Prop := countLeastRow.holds Try.pinned (OpenSpec.ofChange countLeastWrong)

/- THE SECOND FORM. 'bulk': how many values and letters a reading holds, each counted each time it is reached (what is shared counts as often as it is met; a slice's spare places count too). A statement '..UptoSaid' is the law's where the arguments, and the package variables that the reading takes, are together of bulk at most 1048576: NARROWER than '..Said'. Prove '..Said' where nothing that the law and all that it calls make is longer than what came in: it says more and counts as full. Else prove '..UptoSaid'. A law counts once. -/
mutual
def uptoBulk {H : Type} : DataW H → Nat
  | .lit (.string bytes) => bytes.length + 1
  | .lit _ => 1
  | .nil => 1
  | .ptr d => uptoBulk d + 1
  | .slice elems spare => uptoBulkAll elems + uptoBulkAll spare + 1
  | .agg parts => uptoBulkAll parts + 1
  | .iface _ d => uptoBulk d + 1
  | .map entries => uptoBulkEntries entries + 1
  | .held _ => 1
def uptoBulkAll {H : Type} : List (DataW H) → Nat
  | [] => 0
  | d :: r => uptoBulk d + uptoBulkAll r
def uptoBulkEntries {H : Type} : List (Lit × DataW H) → Nat
  | [] => 0
  | x :: r => uptoBulkEntry x + uptoBulkEntries r
def uptoBulkEntry {H : Type} : Lit × DataW H → Nat
  | (.string bytes, d) => bytes.length + uptoBulk d + 1
  | (_, d) => uptoBulk d + 1
 end
def uptoSmall : (H : Type) → List (DataW H) → Bool := fun _ ds => decide (uptoBulkAll ds ≤ 1048576)
def OpenSpec.upto (s : _root_.Go.ChangeSpec) : _root_.Go.OpenSpec := { _root_.Go.OpenSpec.ofChange s with cond := some uptoSmall }

/-- 'bellpulllaw05.CountHas', WHERE WHAT IT READS IS OF BULK AT MOST 1048576: true; the input reads as it did. -/
def countHasUptoRow : OpenClaim := { program := "ytkonljiembcdlaa", sum := "c24bc042c9d3206467e7988f57fe469f66fb3848fa514b2910b4b2b7d1993a6d", func := "bellpull/bellpulllaw05.CountHas", spec := "countHas", inPlace := ["internal/bytealg.IndexByteString"], unfollowed := true, recurses := true, plainKeys := false, apart := false, narrowed := true }
def CountHasUptoSaid : Prop := countHasUptoRow.holds Try.pinned (OpenSpec.upto countHasSpec)

/-- 'bellpulllaw05.CountAccepts', WHERE WHAT IT READS IS OF BULK AT MOST 1048576: true; the input reads as it did. -/
def countAcceptsUptoRow : OpenClaim := { program := "ytkonljiembcdlaa", sum := "c24bc042c9d3206467e7988f57fe469f66fb3848fa514b2910b4b2b7d1993a6d", func := "bellpull/bellpulllaw05.CountAccepts", spec := "countAccepts", inPlace := ["internal/bytealg.IndexByteString"], unfollowed := true, recurses := true, plainKeys := false, apart := false, narrowed := true }
def CountAcceptsUptoSaid : Prop := countAcceptsUptoRow.holds Try.pinned (OpenSpec.upto countAcceptsSpec)

/-- 'bellpulllaw05.CountImages', WHERE WHAT IT READS IS OF BULK AT MOST 1048576: true; the input reads as it did. -/
def countImagesUptoRow : OpenClaim := { program := "ytkonljiembcdlaa", sum := "c24bc042c9d3206467e7988f57fe469f66fb3848fa514b2910b4b2b7d1993a6d", func := "bellpull/bellpulllaw05.CountImages", spec := "countImages", inPlace := ["internal/bytealg.IndexByteString"], unfollowed := true, recurses := true, plainKeys := false, apart := false, narrowed := true }
def CountImagesUptoSaid : Prop := countImagesUptoRow.holds Try.pinned (OpenSpec.upto countImagesSpec)

/-- 'bellpulllaw05.CountParikh', WHERE WHAT IT READS IS OF BULK AT MOST 1048576: true; the input reads as it did. -/
def countParikhUptoRow : OpenClaim := { program := "ytkonljiembcdlaa", sum := "c24bc042c9d3206467e7988f57fe469f66fb3848fa514b2910b4b2b7d1993a6d", func := "bellpull/bellpulllaw05.CountParikh", spec := "countParikh", inPlace := ["internal/bytealg.IndexByteString"], unfollowed := true, recurses := true, plainKeys := false, apart := false, narrowed := true }
def CountParikhUptoSaid : Prop := countParikhUptoRow.holds Try.pinned (OpenSpec.upto countParikhSpec)

/-- 'bellpulllaw05.CountPeriod', WHERE WHAT IT READS IS OF BULK AT MOST 1048576: true; the input reads as it did. -/
def countPeriodUptoRow : OpenClaim := { program := "ytkonljiembcdlaa", sum := "c24bc042c9d3206467e7988f57fe469f66fb3848fa514b2910b4b2b7d1993a6d", func := "bellpull/bellpulllaw05.CountPeriod", spec := "countPeriod", inPlace := ["internal/bytealg.IndexByteString"], unfollowed := true, recurses := true, plainKeys := false, apart := false, narrowed := true }
def CountPeriodUptoSaid : Prop := countPeriodUptoRow.holds Try.pinned (OpenSpec.upto countPeriodSpec)

/-- 'bellpulllaw05.CountOrder', WHERE WHAT IT READS IS OF BULK AT MOST 1048576: true; the input reads as it did. -/
def countOrderUptoRow : OpenClaim := { program := "ytkonljiembcdlaa", sum := "c24bc042c9d3206467e7988f57fe469f66fb3848fa514b2910b4b2b7d1993a6d", func := "bellpull/bellpulllaw05.CountOrder", spec := "countOrder", inPlace := ["internal/bytealg.IndexByteString"], unfollowed := true, recurses := true, plainKeys := false, apart := false, narrowed := true }
def CountOrderUptoSaid : Prop := countOrderUptoRow.holds Try.pinned (OpenSpec.upto countOrderSpec)

/-- 'bellpulllaw05.CountCommutes', WHERE WHAT IT READS IS OF BULK AT MOST 1048576: true; the input reads as it did. -/
def countCommutesUptoRow : OpenClaim := { program := "ytkonljiembcdlaa", sum := "c24bc042c9d3206467e7988f57fe469f66fb3848fa514b2910b4b2b7d1993a6d", func := "bellpull/bellpulllaw05.CountCommutes", spec := "countCommutes", inPlace := ["internal/bytealg.IndexByteString"], unfollowed := true, recurses := true, plainKeys := false, apart := false, narrowed := true }
def CountCommutesUptoSaid : Prop := countCommutesUptoRow.holds Try.pinned (OpenSpec.upto countCommutesSpec)

/-- 'bellpulllaw05.CountSum', WHERE WHAT IT READS IS OF BULK AT MOST 1048576: true; the input reads as it did. -/
def countSumUptoRow : OpenClaim := { program := "ytkonljiembcdlaa", sum := "c24bc042c9d3206467e7988f57fe469f66fb3848fa514b2910b4b2b7d1993a6d", func := "bellpull/bellpulllaw05.CountSum", spec := "countSum", inPlace := ["internal/bytealg.IndexByteString"], unfollowed := true, recurses := true, plainKeys := false, apart := false, narrowed := true }
def CountSumUptoSaid : Prop := countSumUptoRow.holds Try.pinned (OpenSpec.upto countSumSpec)

/-- 'bellpulllaw05.CountStar', WHERE WHAT IT READS IS OF BULK AT MOST 1048576: true; the input reads as it did. -/
def countStarUptoRow : OpenClaim := { program := "ytkonljiembcdlaa", sum := "c24bc042c9d3206467e7988f57fe469f66fb3848fa514b2910b4b2b7d1993a6d", func := "bellpull/bellpulllaw05.CountStar", spec := "countStar", inPlace := ["internal/bytealg.IndexByteString"], unfollowed := true, recurses := true, plainKeys := false, apart := false, narrowed := true }
def CountStarUptoSaid : Prop := countStarUptoRow.holds Try.pinned (OpenSpec.upto countStarSpec)

/-- 'bellpulllaw05.CountSums', WHERE WHAT IT READS IS OF BULK AT MOST 1048576: true; the input reads as it did. -/
def countSumsUptoRow : OpenClaim := { program := "ytkonljiembcdlaa", sum := "c24bc042c9d3206467e7988f57fe469f66fb3848fa514b2910b4b2b7d1993a6d", func := "bellpull/bellpulllaw05.CountSums", spec := "countSums", inPlace := ["internal/bytealg.IndexByteString"], unfollowed := true, recurses := true, plainKeys := false, apart := false, narrowed := true }
def CountSumsUptoSaid : Prop := countSumsUptoRow.holds Try.pinned (OpenSpec.upto countSumsSpec)

/-- 'bellpulllaw05.CountDiffers', WHERE WHAT IT READS IS OF BULK AT MOST 1048576: true; the input reads as it did. -/
def countDiffersUptoRow : OpenClaim := { program := "ytkonljiembcdlaa", sum := "c24bc042c9d3206467e7988f57fe469f66fb3848fa514b2910b4b2b7d1993a6d", func := "bellpull/bellpulllaw05.CountDiffers", spec := "countDiffers", inPlace := ["internal/bytealg.IndexByteString"], unfollowed := true, recurses := true, plainKeys := false, apart := false, narrowed := true }
def CountDiffersUptoSaid : Prop := countDiffersUptoRow.holds Try.pinned (OpenSpec.upto countDiffersSpec)

/-- 'bellpulllaw05.CountNumbers', WHERE WHAT IT READS IS OF BULK AT MOST 1048576: true; the input reads as it did. -/
def countNumbersUptoRow : OpenClaim := { program := "ytkonljiembcdlaa", sum := "c24bc042c9d3206467e7988f57fe469f66fb3848fa514b2910b4b2b7d1993a6d", func := "bellpull/bellpulllaw05.CountNumbers", spec := "countNumbers", inPlace := ["internal/bytealg.IndexByteString"], unfollowed := true, recurses := true, plainKeys := false, apart := false, narrowed := true }
def CountNumbersUptoSaid : Prop := countNumbersUptoRow.holds Try.pinned (OpenSpec.upto countNumbersSpec)

/-- 'bellpulllaw05.CountCounts', WHERE WHAT IT READS IS OF BULK AT MOST 1048576: true; the input reads as it did. -/
def countCountsUptoRow : OpenClaim := { program := "ytkonljiembcdlaa", sum := "c24bc042c9d3206467e7988f57fe469f66fb3848fa514b2910b4b2b7d1993a6d", func := "bellpull/bellpulllaw05.CountCounts", spec := "countCounts", inPlace := ["internal/bytealg.IndexByteString"], unfollowed := true, recurses := true, plainKeys := false, apart := false, narrowed := true }
def CountCountsUptoSaid : Prop := countCountsUptoRow.holds Try.pinned (OpenSpec.upto countCountsSpec)

/-- 'bellpulllaw05.CountLeast', WHERE WHAT IT READS IS OF BULK AT MOST 1048576: true; the input reads as it did. -/
def countLeastUptoRow : OpenClaim := { program := "ytkonljiembcdlaa", sum := "c24bc042c9d3206467e7988f57fe469f66fb3848fa514b2910b4b2b7d1993a6d", func := "bellpull/bellpulllaw05.CountLeast", spec := "countLeast", inPlace := ["internal/bytealg.IndexByteString"], unfollowed := true, recurses := true, plainKeys := false, apart := false, narrowed := true }
def CountLeastUptoSaid : Prop := countLeastUptoRow.holds Try.pinned (OpenSpec.upto countLeastSpec)

end Rows
end Go.Proofs.Ytkonljiembcdlaa
