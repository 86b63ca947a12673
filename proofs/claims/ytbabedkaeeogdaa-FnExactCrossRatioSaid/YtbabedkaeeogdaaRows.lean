/-
  No cell of these rows narrows 'for every input' (looked for: loops, veiled, ifaces, maps, wideKeys, modest, calm, conditions, laid).
  DERIVED. THE GIVEN ROWS OF THIS SEAT. 12 by the template 'for every input the law returns true; each argument reads behind the call as it read before'; 0 by the template 'total and deterministic' (their statements: YtbabedkaeeogdaaTotals.lean).
  GIVEN WITH THE SEED: the statements are not yours to turn. If you find one false, say at which input.
  Laid BY PROGRAM, IN A SANDBOX (cutbox-rows.mjs): the forced cells as the released guide's own fill.sh prints them over the translation f0e03cec8feb72b8… (all of the seat's roots in one cut). By AI agents, Wed Nov 11 2026. No macro, syntax, notation, axiom, sorry.
-/
import Derived.Test.YtbabedkaeeogdaaChecked
import GoSem.Claim
import GoSem.ClaimJoined
import GoSem.ClaimMapViews
import Derived.JoinedTies
import Derived.KernelRfl
namespace Go.Proofs.Ytbabedkaeeogdaa
/- THE CELL 'sum', in the pinned program and in every row, IS THE sha256 OF THE DUMP (.gsa) THAT YtbabedkaeeogdaaProg.lean LOADS. Nothing in Lean hashes anything: it is a label: what it is worth is what the hold of that sum in a sandbox is worth. -/
noncomputable def Try.pinned : Pinned := { name := "ytbabedkaeeogdaa", sum := "f0e03cec8feb72b87956b119c411cb775008f8c38f0c7e153602a721a96952fb", checked := Try.checked }
namespace Rows
def none {H : Type} : Left H := { results := [], args := [] }

/-- 'laws.FnExactConicOf': WHATEVER THE INPUT: true; the input reads as it did. -/
def fnExactConicOfSpec : ChangeSpec := { name := "fnExactConicOf", fn := fun _ => fun
  | [d1, d2] => { results := [.lit (.bool true)], args := [d1, d2] }
  | _ => none }
def fnExactConicOfRow : OpenClaim := { program := "ytbabedkaeeogdaa", sum := "f0e03cec8feb72b87956b119c411cb775008f8c38f0c7e153602a721a96952fb", func := "loop.example/g01310/laws.FnExactConicOf", spec := "fnExactConicOf", apart := false }
def FnExactConicOfSaid : Prop := fnExactConicOfRow.holds Try.pinned (OpenSpec.ofChange fnExactConicOfSpec)

/-- ITS FALSE NEIGHBOUR: 'it returns false'. Refute it at one input. -/
def fnExactConicOfWrong : ChangeSpec := { name := "fnExactConicOf", fn := fun _ => fun
  | [d1, d2] => { results := [.lit (.bool false)], args := [d1, d2] }
  | _ => none }
def FnExactConicOfWrongFalsely : Prop := fnExactConicOfRow.holds Try.pinned (OpenSpec.ofChange fnExactConicOfWrong)

/-- 'laws.FnExactAreConjugate': WHATEVER THE INPUT: true; the input reads as it did. -/
def fnExactAreConjugateSpec : ChangeSpec := { name := "fnExactAreConjugate", fn := fun _ => fun
  | [d1, d2, d3, d4] => { results := [.lit (.bool true)], args := [d1, d2, d3, d4] }
  | _ => none }
def fnExactAreConjugateRow : OpenClaim := { program := "ytbabedkaeeogdaa", sum := "f0e03cec8feb72b87956b119c411cb775008f8c38f0c7e153602a721a96952fb", func := "loop.example/g01310/laws.FnExactAreConjugate", spec := "fnExactAreConjugate", unfollowed := true, recurses := true, apart := false }
def FnExactAreConjugateSaid : Prop := fnExactAreConjugateRow.holds Try.pinned (OpenSpec.ofChange fnExactAreConjugateSpec)

/-- ITS FALSE NEIGHBOUR: 'it returns false'. Refute it at one input. -/
def fnExactAreConjugateWrong : ChangeSpec := { name := "fnExactAreConjugate", fn := fun _ => fun
  | [d1, d2, d3, d4] => { results := [.lit (.bool false)], args := [d1, d2, d3, d4] }
  | _ => none }
def FnExactAreConjugateWrongFalsely : Prop := fnExactAreConjugateRow.holds Try.pinned (OpenSpec.ofChange fnExactAreConjugateWrong)

/-- 'laws.FnExactJoinOf': WHATEVER THE INPUT: true; the input reads as it did. -/
def fnExactJoinOfSpec : ChangeSpec := { name := "fnExactJoinOf", fn := fun _ => fun
  | [d1, d2, d3] => { results := [.lit (.bool true)], args := [d1, d2, d3] }
  | _ => none }
def fnExactJoinOfRow : OpenClaim := { program := "ytbabedkaeeogdaa", sum := "f0e03cec8feb72b87956b119c411cb775008f8c38f0c7e153602a721a96952fb", func := "loop.example/g01310/laws.FnExactJoinOf", spec := "fnExactJoinOf", unfollowed := true, recurses := true, apart := false }
def FnExactJoinOfSaid : Prop := fnExactJoinOfRow.holds Try.pinned (OpenSpec.ofChange fnExactJoinOfSpec)

/-- ITS FALSE NEIGHBOUR: 'it returns false'. Refute it at one input. -/
def fnExactJoinOfWrong : ChangeSpec := { name := "fnExactJoinOf", fn := fun _ => fun
  | [d1, d2, d3] => { results := [.lit (.bool false)], args := [d1, d2, d3] }
  | _ => none }
def FnExactJoinOfWrongFalsely : Prop := fnExactJoinOfRow.holds Try.pinned (OpenSpec.ofChange fnExactJoinOfWrong)

/-- 'laws.FnExactMeetOf': WHATEVER THE INPUT: true; the input reads as it did. -/
def fnExactMeetOfSpec : ChangeSpec := { name := "fnExactMeetOf", fn := fun _ => fun
  | [d1, d2, d3] => { results := [.lit (.bool true)], args := [d1, d2, d3] }
  | _ => none }
def fnExactMeetOfRow : OpenClaim := { program := "ytbabedkaeeogdaa", sum := "f0e03cec8feb72b87956b119c411cb775008f8c38f0c7e153602a721a96952fb", func := "loop.example/g01310/laws.FnExactMeetOf", spec := "fnExactMeetOf", unfollowed := true, recurses := true, apart := false }
def FnExactMeetOfSaid : Prop := fnExactMeetOfRow.holds Try.pinned (OpenSpec.ofChange fnExactMeetOfSpec)

/-- ITS FALSE NEIGHBOUR: 'it returns false'. Refute it at one input. -/
def fnExactMeetOfWrong : ChangeSpec := { name := "fnExactMeetOf", fn := fun _ => fun
  | [d1, d2, d3] => { results := [.lit (.bool false)], args := [d1, d2, d3] }
  | _ => none }
def FnExactMeetOfWrongFalsely : Prop := fnExactMeetOfRow.holds Try.pinned (OpenSpec.ofChange fnExactMeetOfWrong)

/-- 'laws.FnExactInverseMoebius': WHATEVER THE INPUT: true; the input reads as it did. -/
def fnExactInverseMoebiusSpec : ChangeSpec := { name := "fnExactInverseMoebius", fn := fun _ => fun
  | [d1, d2] => { results := [.lit (.bool true)], args := [d1, d2] }
  | _ => none }
def fnExactInverseMoebiusRow : OpenClaim := { program := "ytbabedkaeeogdaa", sum := "f0e03cec8feb72b87956b119c411cb775008f8c38f0c7e153602a721a96952fb", func := "loop.example/g01310/laws.FnExactInverseMoebius", spec := "fnExactInverseMoebius", unfollowed := true, recurses := true, apart := false }
def FnExactInverseMoebiusSaid : Prop := fnExactInverseMoebiusRow.holds Try.pinned (OpenSpec.ofChange fnExactInverseMoebiusSpec)

/-- ITS FALSE NEIGHBOUR: 'it returns false'. Refute it at one input. -/
def fnExactInverseMoebiusWrong : ChangeSpec := { name := "fnExactInverseMoebius", fn := fun _ => fun
  | [d1, d2] => { results := [.lit (.bool false)], args := [d1, d2] }
  | _ => none }
def FnExactInverseMoebiusWrongFalsely : Prop := fnExactInverseMoebiusRow.holds Try.pinned (OpenSpec.ofChange fnExactInverseMoebiusWrong)

/-- 'laws.FnExactMultiplyMoebius': WHATEVER THE INPUT: true; the input reads as it did. -/
def fnExactMultiplyMoebiusSpec : ChangeSpec := { name := "fnExactMultiplyMoebius", fn := fun _ => fun
  | [d1, d2, d3] => { results := [.lit (.bool true)], args := [d1, d2, d3] }
  | _ => none }
def fnExactMultiplyMoebiusRow : OpenClaim := { program := "ytbabedkaeeogdaa", sum := "f0e03cec8feb72b87956b119c411cb775008f8c38f0c7e153602a721a96952fb", func := "loop.example/g01310/laws.FnExactMultiplyMoebius", spec := "fnExactMultiplyMoebius", unfollowed := true, recurses := true, apart := false }
def FnExactMultiplyMoebiusSaid : Prop := fnExactMultiplyMoebiusRow.holds Try.pinned (OpenSpec.ofChange fnExactMultiplyMoebiusSpec)

/-- ITS FALSE NEIGHBOUR: 'it returns false'. Refute it at one input. -/
def fnExactMultiplyMoebiusWrong : ChangeSpec := { name := "fnExactMultiplyMoebius", fn := fun _ => fun
  | [d1, d2, d3] => { results := [.lit (.bool false)], args := [d1, d2, d3] }
  | _ => none }
def FnExactMultiplyMoebiusWrongFalsely : Prop := fnExactMultiplyMoebiusRow.holds Try.pinned (OpenSpec.ofChange fnExactMultiplyMoebiusWrong)

/-- 'laws.FnExactPlaceRatio': WHATEVER THE INPUT: true; the input reads as it did. -/
def fnExactPlaceRatioSpec : ChangeSpec := { name := "fnExactPlaceRatio", fn := fun _ => fun
  | [d1, d2, d3, d4, d5] => { results := [.lit (.bool true)], args := [d1, d2, d3, d4, d5] }
  | _ => none }
def fnExactPlaceRatioRow : OpenClaim := { program := "ytbabedkaeeogdaa", sum := "f0e03cec8feb72b87956b119c411cb775008f8c38f0c7e153602a721a96952fb", func := "loop.example/g01310/laws.FnExactPlaceRatio", spec := "fnExactPlaceRatio", apart := false }
def FnExactPlaceRatioSaid : Prop := fnExactPlaceRatioRow.holds Try.pinned (OpenSpec.ofChange fnExactPlaceRatioSpec)

/-- ITS FALSE NEIGHBOUR: 'it returns false'. Refute it at one input. -/
def fnExactPlaceRatioWrong : ChangeSpec := { name := "fnExactPlaceRatio", fn := fun _ => fun
  | [d1, d2, d3, d4, d5] => { results := [.lit (.bool false)], args := [d1, d2, d3, d4, d5] }
  | _ => none }
def FnExactPlaceRatioWrongFalsely : Prop := fnExactPlaceRatioRow.holds Try.pinned (OpenSpec.ofChange fnExactPlaceRatioWrong)

/-- 'laws.FnExactOrderOfMoebius': WHATEVER THE INPUT: true; the input reads as it did. -/
def fnExactOrderOfMoebiusSpec : ChangeSpec := { name := "fnExactOrderOfMoebius", fn := fun _ => fun
  | [d1, d2] => { results := [.lit (.bool true)], args := [d1, d2] }
  | _ => none }
def fnExactOrderOfMoebiusRow : OpenClaim := { program := "ytbabedkaeeogdaa", sum := "f0e03cec8feb72b87956b119c411cb775008f8c38f0c7e153602a721a96952fb", func := "loop.example/g01310/laws.FnExactOrderOfMoebius", spec := "fnExactOrderOfMoebius", unfollowed := true, recurses := true, apart := false }
def FnExactOrderOfMoebiusSaid : Prop := fnExactOrderOfMoebiusRow.holds Try.pinned (OpenSpec.ofChange fnExactOrderOfMoebiusSpec)

/-- ITS FALSE NEIGHBOUR: 'it returns false'. Refute it at one input. -/
def fnExactOrderOfMoebiusWrong : ChangeSpec := { name := "fnExactOrderOfMoebius", fn := fun _ => fun
  | [d1, d2] => { results := [.lit (.bool false)], args := [d1, d2] }
  | _ => none }
def FnExactOrderOfMoebiusWrongFalsely : Prop := fnExactOrderOfMoebiusRow.holds Try.pinned (OpenSpec.ofChange fnExactOrderOfMoebiusWrong)

/-- 'laws.FnExactLinesThrough': WHATEVER THE INPUT: true; the input reads as it did. -/
def fnExactLinesThroughSpec : ChangeSpec := { name := "fnExactLinesThrough", fn := fun _ => fun
  | [d1, d2] => { results := [.lit (.bool true)], args := [d1, d2] }
  | _ => none }
def fnExactLinesThroughRow : OpenClaim := { program := "ytbabedkaeeogdaa", sum := "f0e03cec8feb72b87956b119c411cb775008f8c38f0c7e153602a721a96952fb", func := "loop.example/g01310/laws.FnExactLinesThrough", spec := "fnExactLinesThrough", unfollowed := true, recurses := true, apart := false }
def FnExactLinesThroughSaid : Prop := fnExactLinesThroughRow.holds Try.pinned (OpenSpec.ofChange fnExactLinesThroughSpec)

/-- ITS FALSE NEIGHBOUR: 'it returns false'. Refute it at one input. -/
def fnExactLinesThroughWrong : ChangeSpec := { name := "fnExactLinesThrough", fn := fun _ => fun
  | [d1, d2] => { results := [.lit (.bool false)], args := [d1, d2] }
  | _ => none }
def FnExactLinesThroughWrongFalsely : Prop := fnExactLinesThroughRow.holds Try.pinned (OpenSpec.ofChange fnExactLinesThroughWrong)

/-- 'laws.FnExactCrossRatio': WHATEVER THE INPUT: true; the input reads as it did. -/
def fnExactCrossRatioSpec : ChangeSpec := { name := "fnExactCrossRatio", fn := fun _ => fun
  | [d1, d2, d3, d4, d5] => { results := [.lit (.bool true)], args := [d1, d2, d3, d4, d5] }
  | _ => none }
def fnExactCrossRatioRow : OpenClaim := { program := "ytbabedkaeeogdaa", sum := "f0e03cec8feb72b87956b119c411cb775008f8c38f0c7e153602a721a96952fb", func := "loop.example/g01310/laws.FnExactCrossRatio", spec := "fnExactCrossRatio", unfollowed := true, recurses := true, apart := false }
def FnExactCrossRatioSaid : Prop := fnExactCrossRatioRow.holds Try.pinned (OpenSpec.ofChange fnExactCrossRatioSpec)

/-- ITS FALSE NEIGHBOUR: 'it returns false'. Refute it at one input. -/
def fnExactCrossRatioWrong : ChangeSpec := { name := "fnExactCrossRatio", fn := fun _ => fun
  | [d1, d2, d3, d4, d5] => { results := [.lit (.bool false)], args := [d1, d2, d3, d4, d5] }
  | _ => none }
def FnExactCrossRatioWrongFalsely : Prop := fnExactCrossRatioRow.holds Try.pinned (OpenSpec.ofChange fnExactCrossRatioWrong)

/-- 'laws.FnExactPencilCubic': WHATEVER THE INPUT: true; the input reads as it did. -/
def fnExactPencilCubicSpec : ChangeSpec := { name := "fnExactPencilCubic", fn := fun _ => fun
  | [d1, d2, d3] => { results := [.lit (.bool true)], args := [d1, d2, d3] }
  | _ => none }
def fnExactPencilCubicRow : OpenClaim := { program := "ytbabedkaeeogdaa", sum := "f0e03cec8feb72b87956b119c411cb775008f8c38f0c7e153602a721a96952fb", func := "loop.example/g01310/laws.FnExactPencilCubic", spec := "fnExactPencilCubic", unfollowed := true, recurses := true, apart := false }
def FnExactPencilCubicSaid : Prop := fnExactPencilCubicRow.holds Try.pinned (OpenSpec.ofChange fnExactPencilCubicSpec)

/-- ITS FALSE NEIGHBOUR: 'it returns false'. Refute it at one input. -/
def fnExactPencilCubicWrong : ChangeSpec := { name := "fnExactPencilCubic", fn := fun _ => fun
  | [d1, d2, d3] => { results := [.lit (.bool false)], args := [d1, d2, d3] }
  | _ => none }
def FnExactPencilCubicWrongFalsely : Prop := fnExactPencilCubicRow.holds Try.pinned (OpenSpec.ofChange fnExactPencilCubicWrong)

/-- 'laws.FnExactPointsOn': WHATEVER THE INPUT: true; the input reads as it did. -/
def fnExactPointsOnSpec : ChangeSpec := { name := "fnExactPointsOn", fn := fun _ => fun
  | [d1, d2] => { results := [.lit (.bool true)], args := [d1, d2] }
  | _ => none }
def fnExactPointsOnRow : OpenClaim := { program := "ytbabedkaeeogdaa", sum := "f0e03cec8feb72b87956b119c411cb775008f8c38f0c7e153602a721a96952fb", func := "loop.example/g01310/laws.FnExactPointsOn", spec := "fnExactPointsOn", unfollowed := true, recurses := true, apart := false }
def FnExactPointsOnSaid : Prop := fnExactPointsOnRow.holds Try.pinned (OpenSpec.ofChange fnExactPointsOnSpec)

/-- ITS FALSE NEIGHBOUR: 'it returns false'. Refute it at one input. -/
def fnExactPointsOnWrong : ChangeSpec := { name := "fnExactPointsOn", fn := fun _ => fun
  | [d1, d2] => { results := [.lit (.bool false)], args := [d1, d2] }
  | _ => none }
def FnExactPointsOnWrongFalsely : Prop := fnExactPointsOnRow.holds Try.pinned (OpenSpec.ofChange fnExactPointsOnWrong)

/- THE SECOND FORM. 'bulk': how many values and letters a reading holds, each counted each time it is reached (what is shared counts as often as it is met; a slice's spare places count too). A statement '..UptoSaid' is the law's where the arguments, and the package variables that the reading takes, are together of bulk at most 1048576: NARROWER than '..Said'. Prove '..Said' where nothing that the law and all that it calls make is longer than what came in: it says more and counts as full. Else prove '..UptoSaid'. A law counts once. -/
mutual
def uptoBulk {H : Type} : DataW H → Nat
  | .lit (.string bytes) => bytes.length + 1
  | .lit _ => 1
  | .nil => 1
  | .ptr d => uptoBulk d + 1
  | .slice elems spare => uptoBulkAll elems + uptoBulkAll spare + 1
  | .agg parts => uptoBulkAll parts + 1
  | .iface _ d => uptoBulk d + 1
  | .map entries => uptoBulkEntries entries + 1
  | .held _ => 1
def uptoBulkAll {H : Type} : List (DataW H) → Nat
  | [] => 0
  | d :: r => uptoBulk d + uptoBulkAll r
def uptoBulkEntries {H : Type} : List (Lit × DataW H) → Nat
  | [] => 0
  | x :: r => uptoBulkEntry x + uptoBulkEntries r
def uptoBulkEntry {H : Type} : Lit × DataW H → Nat
  | (.string bytes, d) => bytes.length + uptoBulk d + 1
  | (_, d) => uptoBulk d + 1
 end
def uptoSmall : (H : Type) → List (DataW H) → Bool := fun _ ds => decide (uptoBulkAll ds ≤ 1048576)
def OpenSpec.upto (s : _root_.Go.ChangeSpec) : _root_.Go.OpenSpec := { _root_.Go.OpenSpec.ofChange s with cond := some uptoSmall }

/-- 'laws.FnExactConicOf', WHERE WHAT IT READS IS OF BULK AT MOST 1048576: true; the input reads as it did. -/
def fnExactConicOfUptoRow : OpenClaim := { program := "ytbabedkaeeogdaa", sum := "f0e03cec8feb72b87956b119c411cb775008f8c38f0c7e153602a721a96952fb", func := "loop.example/g01310/laws.FnExactConicOf", spec := "fnExactConicOf", apart := false, narrowed := true }
def FnExactConicOfUptoSaid : Prop := fnExactConicOfUptoRow.holds Try.pinned (OpenSpec.upto fnExactConicOfSpec)

/-- 'laws.FnExactAreConjugate', WHERE WHAT IT READS IS OF BULK AT MOST 1048576: true; the input reads as it did. -/
def fnExactAreConjugateUptoRow : OpenClaim := { program := "ytbabedkaeeogdaa", sum := "f0e03cec8feb72b87956b119c411cb775008f8c38f0c7e153602a721a96952fb", func := "loop.example/g01310/laws.FnExactAreConjugate", spec := "fnExactAreConjugate", unfollowed := true, recurses := true, apart := false, narrowed := true }
def FnExactAreConjugateUptoSaid : Prop := fnExactAreConjugateUptoRow.holds Try.pinned (OpenSpec.upto fnExactAreConjugateSpec)

/-- 'laws.FnExactJoinOf', WHERE WHAT IT READS IS OF BULK AT MOST 1048576: true; the input reads as it did. -/
def fnExactJoinOfUptoRow : OpenClaim := { program := "ytbabedkaeeogdaa", sum := "f0e03cec8feb72b87956b119c411cb775008f8c38f0c7e153602a721a96952fb", func := "loop.example/g01310/laws.FnExactJoinOf", spec := "fnExactJoinOf", unfollowed := true, recurses := true, apart := false, narrowed := true }
def FnExactJoinOfUptoSaid : Prop := fnExactJoinOfUptoRow.holds Try.pinned (OpenSpec.upto fnExactJoinOfSpec)

/-- 'laws.FnExactMeetOf', WHERE WHAT IT READS IS OF BULK AT MOST 1048576: true; the input reads as it did. -/
def fnExactMeetOfUptoRow : OpenClaim := { program := "ytbabedkaeeogdaa", sum := "f0e03cec8feb72b87956b119c411cb775008f8c38f0c7e153602a721a96952fb", func := "loop.example/g01310/laws.FnExactMeetOf", spec := "fnExactMeetOf", unfollowed := true, recurses := true, apart := false, narrowed := true }
def FnExactMeetOfUptoSaid : Prop := fnExactMeetOfUptoRow.holds Try.pinned (OpenSpec.upto fnExactMeetOfSpec)

/-- 'laws.FnExactInverseMoebius', WHERE WHAT IT READS IS OF BULK AT MOST 1048576: true; the input reads as it did. -/
def fnExactInverseMoebiusUptoRow : OpenClaim := { program := "ytbabedkaeeogdaa", sum := "f0e03cec8feb72b87956b119c411cb775008f8c38f0c7e153602a721a96952fb", func := "loop.example/g01310/laws.FnExactInverseMoebius", spec := "fnExactInverseMoebius", unfollowed := true, recurses := true, apart := false, narrowed := true }
def FnExactInverseMoebiusUptoSaid : Prop := fnExactInverseMoebiusUptoRow.holds Try.pinned (OpenSpec.upto fnExactInverseMoebiusSpec)

/-- 'laws.FnExactMultiplyMoebius', WHERE WHAT IT READS IS OF BULK AT MOST 1048576: true; the input reads as it did. -/
def fnExactMultiplyMoebiusUptoRow : OpenClaim := { program := "ytbabedkaeeogdaa", sum := "f0e03cec8feb72b87956b119c411cb775008f8c38f0c7e153602a721a96952fb", func := "loop.example/g01310/laws.FnExactMultiplyMoebius", spec := "fnExactMultiplyMoebius", unfollowed := true, recurses := true, apart := false, narrowed := true }
def FnExactMultiplyMoebiusUptoSaid : Prop := fnExactMultiplyMoebiusUptoRow.holds Try.pinned (OpenSpec.upto fnExactMultiplyMoebiusSpec)

/-- 'laws.FnExactPlaceRatio', WHERE WHAT IT READS IS OF BULK AT MOST 1048576: true; the input reads as it did. -/
def fnExactPlaceRatioUptoRow : OpenClaim := { program := "ytbabedkaeeogdaa", sum := "f0e03cec8feb72b87956b119c411cb775008f8c38f0c7e153602a721a96952fb", func := "loop.example/g01310/laws.FnExactPlaceRatio", spec := "fnExactPlaceRatio", apart := false, narrowed := true }
def FnExactPlaceRatioUptoSaid : Prop := fnExactPlaceRatioUptoRow.holds Try.pinned (OpenSpec.upto fnExactPlaceRatioSpec)

/-- 'laws.FnExactOrderOfMoebius', WHERE WHAT IT READS IS OF BULK AT MOST 1048576: true; the input reads as it did. -/
def fnExactOrderOfMoebiusUptoRow : OpenClaim := { program := "ytbabedkaeeogdaa", sum := "f0e03cec8feb72b87956b119c411cb775008f8c38f0c7e153602a721a96952fb", func := "loop.example/g01310/laws.FnExactOrderOfMoebius", spec := "fnExactOrderOfMoebius", unfollowed := true, recurses := true, apart := false, narrowed := true }
def FnExactOrderOfMoebiusUptoSaid : Prop := fnExactOrderOfMoebiusUptoRow.holds Try.pinned (OpenSpec.upto fnExactOrderOfMoebiusSpec)

/-- 'laws.FnExactLinesThrough', WHERE WHAT IT READS IS OF BULK AT MOST 1048576: true; the input reads as it did. -/
def fnExactLinesThroughUptoRow : OpenClaim := { program := "ytbabedkaeeogdaa", sum := "f0e03cec8feb72b87956b119c411cb775008f8c38f0c7e153602a721a96952fb", func := "loop.example/g01310/laws.FnExactLinesThrough", spec := "fnExactLinesThrough", unfollowed := true, recurses := true, apart := false, narrowed := true }
def FnExactLinesThroughUptoSaid : Prop := fnExactLinesThroughUptoRow.holds Try.pinned (OpenSpec.upto fnExactLinesThroughSpec)

/-- 'laws.FnExactCrossRatio', WHERE WHAT IT READS IS OF BULK AT MOST 1048576: true; the input reads as it did. -/
def fnExactCrossRatioUptoRow : OpenClaim := { program := "ytbabedkaeeogdaa", sum := "f0e03cec8feb72b87956b119c411cb775008f8c38f0c7e153602a721a96952fb", func := "loop.example/g01310/laws.FnExactCrossRatio", spec := "fnExactCrossRatio", unfollowed := true, recurses := true, apart := false, narrowed := true }
def FnExactCrossRatioUptoSaid : Prop := fnExactCrossRatioUptoRow.holds Try.pinned (OpenSpec.upto fnExactCrossRatioSpec)

/-- 'laws.FnExactPencilCubic', WHERE WHAT IT READS IS OF BULK AT MOST 1048576: true; the input reads as it did. -/
def fnExactPencilCubicUptoRow : OpenClaim := { program := "ytbabedkaeeogdaa", sum := "f0e03cec8feb72b87956b119c411cb775008f8c38f0c7e153602a721a96952fb", func := "loop.example/g01310/laws.FnExactPencilCubic", spec := "fnExactPencilCubic", unfollowed := true, recurses := true, apart := false, narrowed := true }
def FnExactPencilCubicUptoSaid : Prop := fnExactPencilCubicUptoRow.holds Try.pinned (OpenSpec.upto fnExactPencilCubicSpec)

/-- 'laws.FnExactPointsOn', WHERE WHAT IT READS IS OF BULK AT MOST 1048576: true; the input reads as it did. -/
def fnExactPointsOnUptoRow : OpenClaim := { program := "ytbabedkaeeogdaa", sum := "f0e03cec8feb72b87956b119c411cb775008f8c38f0c7e153602a721a96952fb", func := "loop.example/g01310/laws.FnExactPointsOn", spec := "fnExactPointsOn", unfollowed := true, recurses := true, apart := false, narrowed := true }
def FnExactPointsOnUptoSaid : Prop := fnExactPointsOnUptoRow.holds Try.pinned (OpenSpec.upto fnExactPointsOnSpec)

end Rows
end Go.Proofs.Ytbabedkaeeogdaa
