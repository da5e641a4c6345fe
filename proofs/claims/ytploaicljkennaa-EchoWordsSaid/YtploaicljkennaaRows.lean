/-
  No cell of these rows narrows 'for every input' (looked for: loops, veiled, ifaces, maps, wideKeys, modest, calm, conditions, laid).
  DERIVED. THE GIVEN ROWS OF THIS SEAT. 12 by the template 'for every input the law returns true; each argument reads behind the call as it read before'; 0 by the template 'total and deterministic' (their statements: YtploaicljkennaaTotals.lean).
  GIVEN WITH THE SEED: the statements are not yours to turn. If you find one false, say at which input.
  Laid BY PROGRAM, IN A SANDBOX (cutbox-rows.mjs): the forced cells as the released guide's own fill.sh prints them over the translation c08929e13fb3bf94… (all of the seat's roots in one cut). By AI agents, Wed Nov 11 2026. No macro, syntax, notation, axiom, sorry.
-/
import Derived.Test.YtploaicljkennaaChecked
import GoSem.Claim
import GoSem.ClaimJoined
import GoSem.ClaimMapViews
import Derived.JoinedTies
import Derived.KernelRfl
namespace Go.Proofs.Ytploaicljkennaa
/- THE CELL 'sum', in the pinned program and in every row, IS THE sha256 OF THE DUMP (.gsa) THAT YtploaicljkennaaProg.lean LOADS. Nothing in Lean hashes anything: it is a label: what it is worth is what the hold of that sum in a sandbox is worth. -/
noncomputable def Try.pinned : Pinned := { name := "ytploaicljkennaa", sum := "c08929e13fb3bf94d28daf5c6319d5d2c968519ba0b408a215ff0d015721f8c9", checked := Try.checked }
namespace Rows
def none {H : Type} : Left H := { results := [], args := [] }

/-- 'bellpulllaw02.EchoSequences': WHATEVER THE INPUT: true; the input reads as it did. -/
def echoSequencesSpec : ChangeSpec := { name := "echoSequences", fn := fun _ => fun
  | [d1, d2, d3] => { results := [.lit (.bool true)], args := [d1, d2, d3] }
  | _ => none }
def echoSequencesRow : OpenClaim := { program := "ytploaicljkennaa", sum := "c08929e13fb3bf94d28daf5c6319d5d2c968519ba0b408a215ff0d015721f8c9", func := "bellpull/bellpulllaw02.EchoSequences", spec := "echoSequences", unfollowed := true, recurses := true, apart := false }
def EchoSequencesSaid : Prop := echoSequencesRow.holds Try.pinned (OpenSpec.ofChange echoSequencesSpec)

/-- ITS FALSE NEIGHBOUR: 'it returns false'. Refute it at one input. -/
def echoSequencesWrong : ChangeSpec := { name := "echoSequences", fn := fun _ => fun
  | [d1, d2, d3] => { results := [.lit (.bool false)], args := [d1, d2, d3] }
  | _ => none }
def EchoSequencesWrongFalsely : Prop := echoSequencesRow.holds Try.pinned (OpenSpec.ofChange echoSequencesWrong)

/-- 'bellpulllaw02.EchoKolakoski': WHATEVER THE INPUT: true; the input reads as it did. -/
def echoKolakoskiSpec : ChangeSpec := { name := "echoKolakoski", fn := fun _ => fun
  | [d1, d2, d3] => { results := [.lit (.bool true)], args := [d1, d2, d3] }
  | _ => none }
def echoKolakoskiRow : OpenClaim := { program := "ytploaicljkennaa", sum := "c08929e13fb3bf94d28daf5c6319d5d2c968519ba0b408a215ff0d015721f8c9", func := "bellpull/bellpulllaw02.EchoKolakoski", spec := "echoKolakoski", unfollowed := true, recurses := true, apart := false }
def EchoKolakoskiSaid : Prop := echoKolakoskiRow.holds Try.pinned (OpenSpec.ofChange echoKolakoskiSpec)

/-- ITS FALSE NEIGHBOUR: 'it returns false'. Refute it at one input. -/
def echoKolakoskiWrong : ChangeSpec := { name := "echoKolakoski", fn := fun _ => fun
  | [d1, d2, d3] => { results := [.lit (.bool false)], args := [d1, d2, d3] }
  | _ => none }
def EchoKolakoskiWrongFalsely : Prop := echoKolakoskiRow.holds Try.pinned (OpenSpec.ofChange echoKolakoskiWrong)

/-- 'bellpulllaw02.EchoGolomb': WHATEVER THE INPUT: true; the input reads as it did. -/
def echoGolombSpec : ChangeSpec := { name := "echoGolomb", fn := fun _ => fun
  | [d] => { results := [.lit (.bool true)], args := [d] }
  | _ => none }
def echoGolombRow : OpenClaim := { program := "ytploaicljkennaa", sum := "c08929e13fb3bf94d28daf5c6319d5d2c968519ba0b408a215ff0d015721f8c9", func := "bellpull/bellpulllaw02.EchoGolomb", spec := "echoGolomb", unfollowed := true, recurses := true, apart := false }
def EchoGolombSaid : Prop := echoGolombRow.holds Try.pinned (OpenSpec.ofChange echoGolombSpec)

/-- ITS FALSE NEIGHBOUR: 'it returns false'. Refute it at one input. -/
def echoGolombWrong : ChangeSpec := { name := "echoGolomb", fn := fun _ => fun
  | [d] => { results := [.lit (.bool false)], args := [d] }
  | _ => none }
def EchoGolombWrongFalsely : Prop := echoGolombRow.holds Try.pinned (OpenSpec.ofChange echoGolombWrong)

/-- 'bellpulllaw02.EchoParts': WHATEVER THE INPUT: true; the input reads as it did. -/
def echoPartsSpec : ChangeSpec := { name := "echoParts", fn := fun _ => fun
  | [d1, d2, d3] => { results := [.lit (.bool true)], args := [d1, d2, d3] }
  | _ => none }
def echoPartsRow : OpenClaim := { program := "ytploaicljkennaa", sum := "c08929e13fb3bf94d28daf5c6319d5d2c968519ba0b408a215ff0d015721f8c9", func := "bellpull/bellpulllaw02.EchoParts", spec := "echoParts", unfollowed := true, recurses := true, apart := false }
def EchoPartsSaid : Prop := echoPartsRow.holds Try.pinned (OpenSpec.ofChange echoPartsSpec)

/-- ITS FALSE NEIGHBOUR: 'it returns false'. Refute it at one input. -/
def echoPartsWrong : ChangeSpec := { name := "echoParts", fn := fun _ => fun
  | [d1, d2, d3] => { results := [.lit (.bool false)], args := [d1, d2, d3] }
  | _ => none }
def EchoPartsWrongFalsely : Prop := echoPartsRow.holds Try.pinned (OpenSpec.ofChange echoPartsWrong)

/-- 'bellpulllaw02.EchoDerived': WHATEVER THE INPUT: true; the input reads as it did. -/
def echoDerivedSpec : ChangeSpec := { name := "echoDerived", fn := fun _ => fun
  | [d] => { results := [.lit (.bool true)], args := [d] }
  | _ => none }
def echoDerivedRow : OpenClaim := { program := "ytploaicljkennaa", sum := "c08929e13fb3bf94d28daf5c6319d5d2c968519ba0b408a215ff0d015721f8c9", func := "bellpull/bellpulllaw02.EchoDerived", spec := "echoDerived", unfollowed := true, recurses := true, apart := false }
def EchoDerivedSaid : Prop := echoDerivedRow.holds Try.pinned (OpenSpec.ofChange echoDerivedSpec)

/-- ITS FALSE NEIGHBOUR: 'it returns false'. Refute it at one input. -/
def echoDerivedWrong : ChangeSpec := { name := "echoDerived", fn := fun _ => fun
  | [d] => { results := [.lit (.bool false)], args := [d] }
  | _ => none }
def EchoDerivedWrongFalsely : Prop := echoDerivedRow.holds Try.pinned (OpenSpec.ofChange echoDerivedWrong)

/-- 'bellpulllaw02.EchoOnes': WHATEVER THE INPUT: true; the input reads as it did. -/
def echoOnesSpec : ChangeSpec := { name := "echoOnes", fn := fun _ => fun
  | [d] => { results := [.lit (.bool true)], args := [d] }
  | _ => none }
def echoOnesRow : OpenClaim := { program := "ytploaicljkennaa", sum := "c08929e13fb3bf94d28daf5c6319d5d2c968519ba0b408a215ff0d015721f8c9", func := "bellpull/bellpulllaw02.EchoOnes", spec := "echoOnes", unfollowed := true, recurses := true, apart := false }
def EchoOnesSaid : Prop := echoOnesRow.holds Try.pinned (OpenSpec.ofChange echoOnesSpec)

/-- ITS FALSE NEIGHBOUR: 'it returns false'. Refute it at one input. -/
def echoOnesWrong : ChangeSpec := { name := "echoOnes", fn := fun _ => fun
  | [d] => { results := [.lit (.bool false)], args := [d] }
  | _ => none }
def EchoOnesWrongFalsely : Prop := echoOnesRow.holds Try.pinned (OpenSpec.ofChange echoOnesWrong)

/-- 'bellpulllaw02.EchoRuns': WHATEVER THE INPUT: true; the input reads as it did. -/
def echoRunsSpec : ChangeSpec := { name := "echoRuns", fn := fun _ => fun
  | [d] => { results := [.lit (.bool true)], args := [d] }
  | _ => none }
def echoRunsRow : OpenClaim := { program := "ytploaicljkennaa", sum := "c08929e13fb3bf94d28daf5c6319d5d2c968519ba0b408a215ff0d015721f8c9", func := "bellpull/bellpulllaw02.EchoRuns", spec := "echoRuns", unfollowed := true, recurses := true, apart := false }
def EchoRunsSaid : Prop := echoRunsRow.holds Try.pinned (OpenSpec.ofChange echoRunsSpec)

/-- ITS FALSE NEIGHBOUR: 'it returns false'. Refute it at one input. -/
def echoRunsWrong : ChangeSpec := { name := "echoRuns", fn := fun _ => fun
  | [d] => { results := [.lit (.bool false)], args := [d] }
  | _ => none }
def EchoRunsWrongFalsely : Prop := echoRunsRow.holds Try.pinned (OpenSpec.ofChange echoRunsWrong)

/-- 'bellpulllaw02.EchoLengths': WHATEVER THE INPUT: true; the input reads as it did. -/
def echoLengthsSpec : ChangeSpec := { name := "echoLengths", fn := fun _ => fun
  | [d] => { results := [.lit (.bool true)], args := [d] }
  | _ => none }
def echoLengthsRow : OpenClaim := { program := "ytploaicljkennaa", sum := "c08929e13fb3bf94d28daf5c6319d5d2c968519ba0b408a215ff0d015721f8c9", func := "bellpull/bellpulllaw02.EchoLengths", spec := "echoLengths", unfollowed := true, recurses := true, apart := false }
def EchoLengthsSaid : Prop := echoLengthsRow.holds Try.pinned (OpenSpec.ofChange echoLengthsSpec)

/-- ITS FALSE NEIGHBOUR: 'it returns false'. Refute it at one input. -/
def echoLengthsWrong : ChangeSpec := { name := "echoLengths", fn := fun _ => fun
  | [d] => { results := [.lit (.bool false)], args := [d] }
  | _ => none }
def EchoLengthsWrongFalsely : Prop := echoLengthsRow.holds Try.pinned (OpenSpec.ofChange echoLengthsWrong)

/-- 'bellpulllaw02.EchoDerivatives': WHATEVER THE INPUT: true; the input reads as it did. -/
def echoDerivativesSpec : ChangeSpec := { name := "echoDerivatives", fn := fun _ => fun
  | [d] => { results := [.lit (.bool true)], args := [d] }
  | _ => none }
def echoDerivativesRow : OpenClaim := { program := "ytploaicljkennaa", sum := "c08929e13fb3bf94d28daf5c6319d5d2c968519ba0b408a215ff0d015721f8c9", func := "bellpull/bellpulllaw02.EchoDerivatives", spec := "echoDerivatives", unfollowed := true, recurses := true, apart := false }
def EchoDerivativesSaid : Prop := echoDerivativesRow.holds Try.pinned (OpenSpec.ofChange echoDerivativesSpec)

/-- ITS FALSE NEIGHBOUR: 'it returns false'. Refute it at one input. -/
def echoDerivativesWrong : ChangeSpec := { name := "echoDerivatives", fn := fun _ => fun
  | [d] => { results := [.lit (.bool false)], args := [d] }
  | _ => none }
def EchoDerivativesWrongFalsely : Prop := echoDerivativesRow.holds Try.pinned (OpenSpec.ofChange echoDerivativesWrong)

/-- 'bellpulllaw02.EchoExtended': WHATEVER THE INPUT: true; the input reads as it did. -/
def echoExtendedSpec : ChangeSpec := { name := "echoExtended", fn := fun _ => fun
  | [d] => { results := [.lit (.bool true)], args := [d] }
  | _ => none }
def echoExtendedRow : OpenClaim := { program := "ytploaicljkennaa", sum := "c08929e13fb3bf94d28daf5c6319d5d2c968519ba0b408a215ff0d015721f8c9", func := "bellpull/bellpulllaw02.EchoExtended", spec := "echoExtended", unfollowed := true, recurses := true, apart := false }
def EchoExtendedSaid : Prop := echoExtendedRow.holds Try.pinned (OpenSpec.ofChange echoExtendedSpec)

/-- ITS FALSE NEIGHBOUR: 'it returns false'. Refute it at one input. -/
def echoExtendedWrong : ChangeSpec := { name := "echoExtended", fn := fun _ => fun
  | [d] => { results := [.lit (.bool false)], args := [d] }
  | _ => none }
def EchoExtendedWrongFalsely : Prop := echoExtendedRow.holds Try.pinned (OpenSpec.ofChange echoExtendedWrong)

/-- 'bellpulllaw02.EchoWords': WHATEVER THE INPUT: true; the input reads as it did. -/
def echoWordsSpec : ChangeSpec := { name := "echoWords", fn := fun _ => fun
  | [d] => { results := [.lit (.bool true)], args := [d] }
  | _ => none }
def echoWordsRow : OpenClaim := { program := "ytploaicljkennaa", sum := "c08929e13fb3bf94d28daf5c6319d5d2c968519ba0b408a215ff0d015721f8c9", func := "bellpull/bellpulllaw02.EchoWords", spec := "echoWords", unfollowed := true, recurses := true, apart := false }
def EchoWordsSaid : Prop := echoWordsRow.holds Try.pinned (OpenSpec.ofChange echoWordsSpec)

/-- ITS FALSE NEIGHBOUR: 'it returns false'. Refute it at one input. -/
def echoWordsWrong : ChangeSpec := { name := "echoWords", fn := fun _ => fun
  | [d] => { results := [.lit (.bool false)], args := [d] }
  | _ => none }
def EchoWordsWrongFalsely : Prop := echoWordsRow.holds Try.pinned (OpenSpec.ofChange echoWordsWrong)

/-- 'bellpulllaw02.EchoCounts': WHATEVER THE INPUT: true; the input reads as it did. -/
def echoCountsSpec : ChangeSpec := { name := "echoCounts", fn := fun _ => fun
  | [d] => { results := [.lit (.bool true)], args := [d] }
  | _ => none }
def echoCountsRow : OpenClaim := { program := "ytploaicljkennaa", sum := "c08929e13fb3bf94d28daf5c6319d5d2c968519ba0b408a215ff0d015721f8c9", func := "bellpull/bellpulllaw02.EchoCounts", spec := "echoCounts", unfollowed := true, recurses := true, apart := false }
def EchoCountsSaid : Prop := echoCountsRow.holds Try.pinned (OpenSpec.ofChange echoCountsSpec)

/-- ITS FALSE NEIGHBOUR: 'it returns false'. Refute it at one input. -/
def echoCountsWrong : ChangeSpec := { name := "echoCounts", fn := fun _ => fun
  | [d] => { results := [.lit (.bool false)], args := [d] }
  | _ => none }
def EchoCountsWrongFalsely : Prop := echoCountsRow.holds Try.pinned (OpenSpec.ofChange echoCountsWrong)

/- THE SECOND FORM. 'bulk': how many values and letters a reading holds, each counted each time it is reached (what is shared counts as often as it is met; a slice's spare places count too). A statement '..UptoSaid' is the law's where the arguments, and the package variables that the reading takes, are together of bulk at most 1048576: NARROWER than '..Said'. Prove '..Said' where nothing that the law and all that it calls make is longer than what came in: it says more and counts as full. Else prove '..UptoSaid'. A law counts once. -/
mutual
def uptoBulk {H : Type} : DataW H → Nat
  | .lit (.string bytes) => bytes.length + 1
  | .lit _ => 1
  | .nil => 1
  | .ptr d => uptoBulk d + 1
  | .slice elems spare => uptoBulkAll elems + uptoBulkAll spare + 1
  | .agg parts => uptoBulkAll parts + 1
  | .iface _ d => uptoBulk d + 1
  | .map entries => uptoBulkEntries entries + 1
  | .held _ => 1
def uptoBulkAll {H : Type} : List (DataW H) → Nat
  | [] => 0
  | d :: r => uptoBulk d + uptoBulkAll r
def uptoBulkEntries {H : Type} : List (Lit × DataW H) → Nat
  | [] => 0
  | x :: r => uptoBulkEntry x + uptoBulkEntries r
def uptoBulkEntry {H : Type} : Lit × DataW H → Nat
  | (.string bytes, d) => bytes.length + uptoBulk d + 1
  | (_, d) => uptoBulk d + 1
 end
def uptoSmall : (H : Type) → List (DataW H) → Bool := fun _ ds => decide (uptoBulkAll ds ≤ 1048576)
def OpenSpec.upto (s : _root_.Go.ChangeSpec) : _root_.Go.OpenSpec := { _root_.Go.OpenSpec.ofChange s with cond := some uptoSmall }

/-- 'bellpulllaw02.EchoSequences', WHERE WHAT IT READS IS OF BULK AT MOST 1048576: true; the input reads as it did. -/
def echoSequencesUptoRow : OpenClaim := { program := "ytploaicljkennaa", sum := "c08929e13fb3bf94d28daf5c6319d5d2c968519ba0b408a215ff0d015721f8c9", func := "bellpull/bellpulllaw02.EchoSequences", spec := "echoSequences", unfollowed := true, recurses := true, apart := false, narrowed := true }
def EchoSequencesUptoSaid : Prop := echoSequencesUptoRow.holds Try.pinned (OpenSpec.upto echoSequencesSpec)

/-- 'bellpulllaw02.EchoKolakoski', WHERE WHAT IT READS IS OF BULK AT MOST 1048576: true; the input reads as it did. -/
def echoKolakoskiUptoRow : OpenClaim := { program := "ytploaicljkennaa", sum := "c08929e13fb3bf94d28daf5c6319d5d2c968519ba0b408a215ff0d015721f8c9", func := "bellpull/bellpulllaw02.EchoKolakoski", spec := "echoKolakoski", unfollowed := true, recurses := true, apart := false, narrowed := true }
def EchoKolakoskiUptoSaid : Prop := echoKolakoskiUptoRow.holds Try.pinned (OpenSpec.upto echoKolakoskiSpec)

/-- 'bellpulllaw02.EchoGolomb', WHERE WHAT IT READS IS OF BULK AT MOST 1048576: true; the input reads as it did. -/
def echoGolombUptoRow : OpenClaim := { program := "ytploaicljkennaa", sum := "c08929e13fb3bf94d28daf5c6319d5d2c968519ba0b408a215ff0d015721f8c9", func := "bellpull/bellpulllaw02.EchoGolomb", spec := "echoGolomb", unfollowed := true, recurses := true, apart := false, narrowed := true }
def EchoGolombUptoSaid : Prop := echoGolombUptoRow.holds Try.pinned (OpenSpec.upto echoGolombSpec)

/-- 'bellpulllaw02.EchoParts', WHERE WHAT IT READS IS OF BULK AT MOST 1048576: true; the input reads as it did. -/
def echoPartsUptoRow : OpenClaim := { program := "ytploaicljkennaa", sum := "c08929e13fb3bf94d28daf5c6319d5d2c968519ba0b408a215ff0d015721f8c9", func := "bellpull/bellpulllaw02.EchoParts", spec := "echoParts", unfollowed := true, recurses := true, apart := false, narrowed := true }
def EchoPartsUptoSaid : Prop := echoPartsUptoRow.holds Try.pinned (OpenSpec.upto echoPartsSpec)

/-- 'bellpulllaw02.EchoDerived', WHERE WHAT IT READS IS OF BULK AT MOST 1048576: true; the input reads as it did. -/
def echoDerivedUptoRow : OpenClaim := { program := "ytploaicljkennaa", sum := "c08929e13fb3bf94d28daf5c6319d5d2c968519ba0b408a215ff0d015721f8c9", func := "bellpull/bellpulllaw02.EchoDerived", spec := "echoDerived", unfollowed := true, recurses := true, apart := false, narrowed := true }
def EchoDerivedUptoSaid : Prop := echoDerivedUptoRow.holds Try.pinned (OpenSpec.upto echoDerivedSpec)

/-- 'bellpulllaw02.EchoOnes', WHERE WHAT IT READS IS OF BULK AT MOST 1048576: true; the input reads as it did. -/
def echoOnesUptoRow : OpenClaim := { program := "ytploaicljkennaa", sum := "c08929e13fb3bf94d28daf5c6319d5d2c968519ba0b408a215ff0d015721f8c9", func := "bellpull/bellpulllaw02.EchoOnes", spec := "echoOnes", unfollowed := true, recurses := true, apart := false, narrowed := true }
def EchoOnesUptoSaid : Prop := echoOnesUptoRow.holds Try.pinned (OpenSpec.upto echoOnesSpec)

/-- 'bellpulllaw02.EchoRuns', WHERE WHAT IT READS IS OF BULK AT MOST 1048576: true; the input reads as it did. -/
def echoRunsUptoRow : OpenClaim := { program := "ytploaicljkennaa", sum := "c08929e13fb3bf94d28daf5c6319d5d2c968519ba0b408a215ff0d015721f8c9", func := "bellpull/bellpulllaw02.EchoRuns", spec := "echoRuns", unfollowed := true, recurses := true, apart := false, narrowed := true }
def EchoRunsUptoSaid : Prop := echoRunsUptoRow.holds Try.pinned (OpenSpec.upto echoRunsSpec)

/-- 'bellpulllaw02.EchoLengths', WHERE WHAT IT READS IS OF BULK AT MOST 1048576: true; the input reads as it did. -/
def echoLengthsUptoRow : OpenClaim := { program := "ytploaicljkennaa", sum := "c08929e13fb3bf94d28daf5c6319d5d2c968519ba0b408a215ff0d015721f8c9", func := "bellpull/bellpulllaw02.EchoLengths", spec := "echoLengths", unfollowed := true, recurses := true, apart := false, narrowed := true }
def EchoLengthsUptoSaid : Prop := echoLengthsUptoRow.holds Try.pinned (OpenSpec.upto echoLengthsSpec)

/-- 'bellpulllaw02.EchoDerivatives', WHERE WHAT IT READS IS OF BULK AT MOST 1048576: true; the input reads as it did. -/
def echoDerivativesUptoRow : OpenClaim := { program := "ytploaicljkennaa", sum := "c08929e13fb3bf94d28daf5c6319d5d2c968519ba0b408a215ff0d015721f8c9", func := "bellpull/bellpulllaw02.EchoDerivatives", spec := "echoDerivatives", unfollowed := true, recurses := true, apart := false, narrowed := true }
def EchoDerivativesUptoSaid : Prop := echoDerivativesUptoRow.holds Try.pinned (OpenSpec.upto echoDerivativesSpec)

/-- 'bellpulllaw02.EchoExtended', WHERE WHAT IT READS IS OF BULK AT MOST 1048576: true; the input reads as it did. -/
def echoExtendedUptoRow : OpenClaim := { program := "ytploaicljkennaa", sum := "c08929e13fb3bf94d28daf5c6319d5d2c968519ba0b408a215ff0d015721f8c9", func := "bellpull/bellpulllaw02.EchoExtended", spec := "echoExtended", unfollowed := true, recurses := true, apart := false, narrowed := true }
def EchoExtendedUptoSaid : Prop := echoExtendedUptoRow.holds Try.pinned (OpenSpec.upto echoExtendedSpec)

/-- 'bellpulllaw02.EchoWords', WHERE WHAT IT READS IS OF BULK AT MOST 1048576: true; the input reads as it did. -/
def echoWordsUptoRow : OpenClaim := { program := "ytploaicljkennaa", sum := "c08929e13fb3bf94d28daf5c6319d5d2c968519ba0b408a215ff0d015721f8c9", func := "bellpull/bellpulllaw02.EchoWords", spec := "echoWords", unfollowed := true, recurses := true, apart := false, narrowed := true }
def EchoWordsUptoSaid : Prop := echoWordsUptoRow.holds Try.pinned (OpenSpec.upto echoWordsSpec)

/-- 'bellpulllaw02.EchoCounts', WHERE WHAT IT READS IS OF BULK AT MOST 1048576: true; the input reads as it did. -/
def echoCountsUptoRow : OpenClaim := { program := "ytploaicljkennaa", sum := "c08929e13fb3bf94d28daf5c6319d5d2c968519ba0b408a215ff0d015721f8c9", func := "bellpull/bellpulllaw02.EchoCounts", spec := "echoCounts", unfollowed := true, recurses := true, apart := false, narrowed := true }
def EchoCountsUptoSaid : Prop := echoCountsUptoRow.holds Try.pinned (OpenSpec.upto echoCountsSpec)

end Rows
end Go.Proofs.Ytploaicljkennaa
