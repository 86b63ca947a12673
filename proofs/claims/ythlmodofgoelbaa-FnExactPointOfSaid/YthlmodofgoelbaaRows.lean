/-
  No cell of these rows narrows 'for every input' (looked for: loops, veiled, ifaces, maps, wideKeys, modest, calm, conditions, laid).
  DERIVED. THE GIVEN ROWS OF THIS SEAT. 10 by the template 'for every input the law returns true; each argument reads behind the call as it read before'; 0 by the template 'total and deterministic' (their statements: YthlmodofgoelbaaTotals.lean).
  GIVEN WITH THE SEED: the statements are not yours to turn. If you find one false, say at which input.
  Laid BY PROGRAM, IN A SANDBOX (cutbox-rows.mjs): the forced cells as the released guide's own fill.sh prints them over the translation 9fc3f82d807291b5… (all of the seat's roots in one cut). By AI agents, Wed Nov 11 2026. No macro, syntax, notation, axiom, sorry.
-/
import Derived.Test.YthlmodofgoelbaaChecked
import GoSem.Claim
import GoSem.ClaimJoined
import GoSem.ClaimMapViews
import Derived.JoinedTies
import Derived.KernelRfl
namespace Go.Proofs.Ythlmodofgoelbaa
/- THE CELL 'sum', in the pinned program and in every row, IS THE sha256 OF THE DUMP (.gsa) THAT YthlmodofgoelbaaProg.lean LOADS. Nothing in Lean hashes anything: it is a label: what it is worth is what the hold of that sum in a sandbox is worth. -/
noncomputable def Try.pinned : Pinned := { name := "ythlmodofgoelbaa", sum := "9fc3f82d807291b5d1d155407df5bdfa1d5dedfc1e8ae131514bb881080e9e03", checked := Try.checked }
namespace Rows
def none {H : Type} : Left H := { results := [], args := [] }

/-- 'laws.FnExactMultiplyMaps': WHATEVER THE INPUT: true; the input reads as it did. -/
def fnExactMultiplyMapsSpec : ChangeSpec := { name := "fnExactMultiplyMaps", fn := fun _ => fun
  | [d1, d2, d3] => { results := [.lit (.bool true)], args := [d1, d2, d3] }
  | _ => none }
def fnExactMultiplyMapsRow : OpenClaim := { program := "ythlmodofgoelbaa", sum := "9fc3f82d807291b5d1d155407df5bdfa1d5dedfc1e8ae131514bb881080e9e03", func := "loop.example/g01310/laws.FnExactMultiplyMaps", spec := "fnExactMultiplyMaps", unfollowed := true, recurses := true, apart := false }
def FnExactMultiplyMapsSaid : Prop := fnExactMultiplyMapsRow.holds Try.pinned (OpenSpec.ofChange fnExactMultiplyMapsSpec)

/-- ITS FALSE NEIGHBOUR: 'it returns false'. Refute it at one input. -/
def fnExactMultiplyMapsWrong : ChangeSpec := { name := "fnExactMultiplyMaps", fn := fun _ => fun
  | [d1, d2, d3] => { results := [.lit (.bool false)], args := [d1, d2, d3] }
  | _ => none }
def FnExactMultiplyMapsWrongFalsely : Prop := fnExactMultiplyMapsRow.holds Try.pinned (OpenSpec.ofChange fnExactMultiplyMapsWrong)

/-- 'laws.FnExactInverseMap': WHATEVER THE INPUT: true; the input reads as it did. -/
def fnExactInverseMapSpec : ChangeSpec := { name := "fnExactInverseMap", fn := fun _ => fun
  | [d1, d2] => { results := [.lit (.bool true)], args := [d1, d2] }
  | _ => none }
def fnExactInverseMapRow : OpenClaim := { program := "ythlmodofgoelbaa", sum := "9fc3f82d807291b5d1d155407df5bdfa1d5dedfc1e8ae131514bb881080e9e03", func := "loop.example/g01310/laws.FnExactInverseMap", spec := "fnExactInverseMap", unfollowed := true, recurses := true, apart := false }
def FnExactInverseMapSaid : Prop := fnExactInverseMapRow.holds Try.pinned (OpenSpec.ofChange fnExactInverseMapSpec)

/-- ITS FALSE NEIGHBOUR: 'it returns false'. Refute it at one input. -/
def fnExactInverseMapWrong : ChangeSpec := { name := "fnExactInverseMap", fn := fun _ => fun
  | [d1, d2] => { results := [.lit (.bool false)], args := [d1, d2] }
  | _ => none }
def FnExactInverseMapWrongFalsely : Prop := fnExactInverseMapRow.holds Try.pinned (OpenSpec.ofChange fnExactInverseMapWrong)

/-- 'laws.FnExactImageOfLine': WHATEVER THE INPUT: true; the input reads as it did. -/
def fnExactImageOfLineSpec : ChangeSpec := { name := "fnExactImageOfLine", fn := fun _ => fun
  | [d1, d2, d3] => { results := [.lit (.bool true)], args := [d1, d2, d3] }
  | _ => none }
def fnExactImageOfLineRow : OpenClaim := { program := "ythlmodofgoelbaa", sum := "9fc3f82d807291b5d1d155407df5bdfa1d5dedfc1e8ae131514bb881080e9e03", func := "loop.example/g01310/laws.FnExactImageOfLine", spec := "fnExactImageOfLine", unfollowed := true, recurses := true, apart := false }
def FnExactImageOfLineSaid : Prop := fnExactImageOfLineRow.holds Try.pinned (OpenSpec.ofChange fnExactImageOfLineSpec)

/-- ITS FALSE NEIGHBOUR: 'it returns false'. Refute it at one input. -/
def fnExactImageOfLineWrong : ChangeSpec := { name := "fnExactImageOfLine", fn := fun _ => fun
  | [d1, d2, d3] => { results := [.lit (.bool false)], args := [d1, d2, d3] }
  | _ => none }
def FnExactImageOfLineWrongFalsely : Prop := fnExactImageOfLineRow.holds Try.pinned (OpenSpec.ofChange fnExactImageOfLineWrong)

/-- 'laws.FnExactOrderOfMap': WHATEVER THE INPUT: true; the input reads as it did. -/
def fnExactOrderOfMapSpec : ChangeSpec := { name := "fnExactOrderOfMap", fn := fun _ => fun
  | [d1, d2] => { results := [.lit (.bool true)], args := [d1, d2] }
  | _ => none }
def fnExactOrderOfMapRow : OpenClaim := { program := "ythlmodofgoelbaa", sum := "9fc3f82d807291b5d1d155407df5bdfa1d5dedfc1e8ae131514bb881080e9e03", func := "loop.example/g01310/laws.FnExactOrderOfMap", spec := "fnExactOrderOfMap", unfollowed := true, recurses := true, apart := false }
def FnExactOrderOfMapSaid : Prop := fnExactOrderOfMapRow.holds Try.pinned (OpenSpec.ofChange fnExactOrderOfMapSpec)

/-- ITS FALSE NEIGHBOUR: 'it returns false'. Refute it at one input. -/
def fnExactOrderOfMapWrong : ChangeSpec := { name := "fnExactOrderOfMap", fn := fun _ => fun
  | [d1, d2] => { results := [.lit (.bool false)], args := [d1, d2] }
  | _ => none }
def FnExactOrderOfMapWrongFalsely : Prop := fnExactOrderOfMapRow.holds Try.pinned (OpenSpec.ofChange fnExactOrderOfMapWrong)

/-- 'laws.FnExactOrbitOfPoint': WHATEVER THE INPUT: true; the input reads as it did. -/
def fnExactOrbitOfPointSpec : ChangeSpec := { name := "fnExactOrbitOfPoint", fn := fun _ => fun
  | [d1, d2, d3] => { results := [.lit (.bool true)], args := [d1, d2, d3] }
  | _ => none }
def fnExactOrbitOfPointRow : OpenClaim := { program := "ythlmodofgoelbaa", sum := "9fc3f82d807291b5d1d155407df5bdfa1d5dedfc1e8ae131514bb881080e9e03", func := "loop.example/g01310/laws.FnExactOrbitOfPoint", spec := "fnExactOrbitOfPoint", unfollowed := true, recurses := true, apart := false }
def FnExactOrbitOfPointSaid : Prop := fnExactOrbitOfPointRow.holds Try.pinned (OpenSpec.ofChange fnExactOrbitOfPointSpec)

/-- ITS FALSE NEIGHBOUR: 'it returns false'. Refute it at one input. -/
def fnExactOrbitOfPointWrong : ChangeSpec := { name := "fnExactOrbitOfPoint", fn := fun _ => fun
  | [d1, d2, d3] => { results := [.lit (.bool false)], args := [d1, d2, d3] }
  | _ => none }
def FnExactOrbitOfPointWrongFalsely : Prop := fnExactOrbitOfPointRow.holds Try.pinned (OpenSpec.ofChange fnExactOrbitOfPointWrong)

/-- 'laws.FnExactFixedPoints': WHATEVER THE INPUT: true; the input reads as it did. -/
def fnExactFixedPointsSpec : ChangeSpec := { name := "fnExactFixedPoints", fn := fun _ => fun
  | [d1, d2] => { results := [.lit (.bool true)], args := [d1, d2] }
  | _ => none }
def fnExactFixedPointsRow : OpenClaim := { program := "ythlmodofgoelbaa", sum := "9fc3f82d807291b5d1d155407df5bdfa1d5dedfc1e8ae131514bb881080e9e03", func := "loop.example/g01310/laws.FnExactFixedPoints", spec := "fnExactFixedPoints", unfollowed := true, recurses := true, apart := false }
def FnExactFixedPointsSaid : Prop := fnExactFixedPointsRow.holds Try.pinned (OpenSpec.ofChange fnExactFixedPointsSpec)

/-- ITS FALSE NEIGHBOUR: 'it returns false'. Refute it at one input. -/
def fnExactFixedPointsWrong : ChangeSpec := { name := "fnExactFixedPoints", fn := fun _ => fun
  | [d1, d2] => { results := [.lit (.bool false)], args := [d1, d2] }
  | _ => none }
def FnExactFixedPointsWrongFalsely : Prop := fnExactFixedPointsRow.holds Try.pinned (OpenSpec.ofChange fnExactFixedPointsWrong)

/-- 'laws.FnExactFixedLines': WHATEVER THE INPUT: true; the input reads as it did. -/
def fnExactFixedLinesSpec : ChangeSpec := { name := "fnExactFixedLines", fn := fun _ => fun
  | [d1, d2] => { results := [.lit (.bool true)], args := [d1, d2] }
  | _ => none }
def fnExactFixedLinesRow : OpenClaim := { program := "ythlmodofgoelbaa", sum := "9fc3f82d807291b5d1d155407df5bdfa1d5dedfc1e8ae131514bb881080e9e03", func := "loop.example/g01310/laws.FnExactFixedLines", spec := "fnExactFixedLines", unfollowed := true, recurses := true, apart := false }
def FnExactFixedLinesSaid : Prop := fnExactFixedLinesRow.holds Try.pinned (OpenSpec.ofChange fnExactFixedLinesSpec)

/-- ITS FALSE NEIGHBOUR: 'it returns false'. Refute it at one input. -/
def fnExactFixedLinesWrong : ChangeSpec := { name := "fnExactFixedLines", fn := fun _ => fun
  | [d1, d2] => { results := [.lit (.bool false)], args := [d1, d2] }
  | _ => none }
def FnExactFixedLinesWrongFalsely : Prop := fnExactFixedLinesRow.holds Try.pinned (OpenSpec.ofChange fnExactFixedLinesWrong)

/-- 'laws.FnExactPointOf': WHATEVER THE INPUT: true; the input reads as it did. -/
def fnExactPointOfSpec : ChangeSpec := { name := "fnExactPointOf", fn := fun _ => fun
  | [d1, d2] => { results := [.lit (.bool true)], args := [d1, d2] }
  | _ => none }
def fnExactPointOfRow : OpenClaim := { program := "ythlmodofgoelbaa", sum := "9fc3f82d807291b5d1d155407df5bdfa1d5dedfc1e8ae131514bb881080e9e03", func := "loop.example/g01310/laws.FnExactPointOf", spec := "fnExactPointOf", apart := false }
def FnExactPointOfSaid : Prop := fnExactPointOfRow.holds Try.pinned (OpenSpec.ofChange fnExactPointOfSpec)

/-- ITS FALSE NEIGHBOUR: 'it returns false'. Refute it at one input. -/
def fnExactPointOfWrong : ChangeSpec := { name := "fnExactPointOf", fn := fun _ => fun
  | [d1, d2] => { results := [.lit (.bool false)], args := [d1, d2] }
  | _ => none }
def FnExactPointOfWrongFalsely : Prop := fnExactPointOfRow.holds Try.pinned (OpenSpec.ofChange fnExactPointOfWrong)

/-- 'laws.FnExactMapOf': WHATEVER THE INPUT: true; the input reads as it did. -/
def fnExactMapOfSpec : ChangeSpec := { name := "fnExactMapOf", fn := fun _ => fun
  | [d1, d2] => { results := [.lit (.bool true)], args := [d1, d2] }
  | _ => none }
def fnExactMapOfRow : OpenClaim := { program := "ythlmodofgoelbaa", sum := "9fc3f82d807291b5d1d155407df5bdfa1d5dedfc1e8ae131514bb881080e9e03", func := "loop.example/g01310/laws.FnExactMapOf", spec := "fnExactMapOf", apart := false }
def FnExactMapOfSaid : Prop := fnExactMapOfRow.holds Try.pinned (OpenSpec.ofChange fnExactMapOfSpec)

/-- ITS FALSE NEIGHBOUR: 'it returns false'. Refute it at one input. -/
def fnExactMapOfWrong : ChangeSpec := { name := "fnExactMapOf", fn := fun _ => fun
  | [d1, d2] => { results := [.lit (.bool false)], args := [d1, d2] }
  | _ => none }
def FnExactMapOfWrongFalsely : Prop := fnExactMapOfRow.holds Try.pinned (OpenSpec.ofChange fnExactMapOfWrong)

/-- 'laws.FnExactMapOfFrames': WHATEVER THE INPUT: true; the input reads as it did. -/
def fnExactMapOfFramesSpec : ChangeSpec := { name := "fnExactMapOfFrames", fn := fun _ => fun
  | [d1, d2, d3] => { results := [.lit (.bool true)], args := [d1, d2, d3] }
  | _ => none }
def fnExactMapOfFramesRow : OpenClaim := { program := "ythlmodofgoelbaa", sum := "9fc3f82d807291b5d1d155407df5bdfa1d5dedfc1e8ae131514bb881080e9e03", func := "loop.example/g01310/laws.FnExactMapOfFrames", spec := "fnExactMapOfFrames", unfollowed := true, recurses := true, apart := false }
def FnExactMapOfFramesSaid : Prop := fnExactMapOfFramesRow.holds Try.pinned (OpenSpec.ofChange fnExactMapOfFramesSpec)

/-- ITS FALSE NEIGHBOUR: 'it returns false'. Refute it at one input. -/
def fnExactMapOfFramesWrong : ChangeSpec := { name := "fnExactMapOfFrames", fn := fun _ => fun
  | [d1, d2, d3] => { results := [.lit (.bool false)], args := [d1, d2, d3] }
  | _ => none }
def FnExactMapOfFramesWrongFalsely : Prop := fnExactMapOfFramesRow.holds Try.pinned (OpenSpec.ofChange fnExactMapOfFramesWrong)

/- THE SECOND FORM. 'bulk': how many values and letters a reading holds, each counted each time it is reached (what is shared counts as often as it is met; a slice's spare places count too). A statement '..UptoSaid' is the law's where the arguments, and the package variables that the reading takes, are together of bulk at most 1048576: NARROWER than '..Said'. Prove '..Said' where nothing that the law and all that it calls make is longer than what came in: it says more and counts as full. Else prove '..UptoSaid'. A law counts once. -/
mutual
def uptoBulk {H : Type} : DataW H → Nat
  | .lit (.string bytes) => bytes.length + 1
  | .lit _ => 1
  | .nil => 1
  | .ptr d => uptoBulk d + 1
  | .slice elems spare => uptoBulkAll elems + uptoBulkAll spare + 1
  | .agg parts => uptoBulkAll parts + 1
  | .iface _ d => uptoBulk d + 1
  | .map entries => uptoBulkEntries entries + 1
  | .held _ => 1
def uptoBulkAll {H : Type} : List (DataW H) → Nat
  | [] => 0
  | d :: r => uptoBulk d + uptoBulkAll r
def uptoBulkEntries {H : Type} : List (Lit × DataW H) → Nat
  | [] => 0
  | x :: r => uptoBulkEntry x + uptoBulkEntries r
def uptoBulkEntry {H : Type} : Lit × DataW H → Nat
  | (.string bytes, d) => bytes.length + uptoBulk d + 1
  | (_, d) => uptoBulk d + 1
 end
def uptoSmall : (H : Type) → List (DataW H) → Bool := fun _ ds => decide (uptoBulkAll ds ≤ 1048576)
def OpenSpec.upto (s : _root_.Go.ChangeSpec) : _root_.Go.OpenSpec := { _root_.Go.OpenSpec.ofChange s with cond := some uptoSmall }

/-- 'laws.FnExactMultiplyMaps', WHERE WHAT IT READS IS OF BULK AT MOST 1048576: true; the input reads as it did. -/
def fnExactMultiplyMapsUptoRow : OpenClaim := { program := "ythlmodofgoelbaa", sum := "9fc3f82d807291b5d1d155407df5bdfa1d5dedfc1e8ae131514bb881080e9e03", func := "loop.example/g01310/laws.FnExactMultiplyMaps", spec := "fnExactMultiplyMaps", unfollowed := true, recurses := true, apart := false, narrowed := true }
def FnExactMultiplyMapsUptoSaid : Prop := fnExactMultiplyMapsUptoRow.holds Try.pinned (OpenSpec.upto fnExactMultiplyMapsSpec)

/-- 'laws.FnExactInverseMap', WHERE WHAT IT READS IS OF BULK AT MOST 1048576: true; the input reads as it did. -/
def fnExactInverseMapUptoRow : OpenClaim := { program := "ythlmodofgoelbaa", sum := "9fc3f82d807291b5d1d155407df5bdfa1d5dedfc1e8ae131514bb881080e9e03", func := "loop.example/g01310/laws.FnExactInverseMap", spec := "fnExactInverseMap", unfollowed := true, recurses := true, apart := false, narrowed := true }
def FnExactInverseMapUptoSaid : Prop := fnExactInverseMapUptoRow.holds Try.pinned (OpenSpec.upto fnExactInverseMapSpec)

/-- 'laws.FnExactImageOfLine', WHERE WHAT IT READS IS OF BULK AT MOST 1048576: true; the input reads as it did. -/
def fnExactImageOfLineUptoRow : OpenClaim := { program := "ythlmodofgoelbaa", sum := "9fc3f82d807291b5d1d155407df5bdfa1d5dedfc1e8ae131514bb881080e9e03", func := "loop.example/g01310/laws.FnExactImageOfLine", spec := "fnExactImageOfLine", unfollowed := true, recurses := true, apart := false, narrowed := true }
def FnExactImageOfLineUptoSaid : Prop := fnExactImageOfLineUptoRow.holds Try.pinned (OpenSpec.upto fnExactImageOfLineSpec)

/-- 'laws.FnExactOrderOfMap', WHERE WHAT IT READS IS OF BULK AT MOST 1048576: true; the input reads as it did. -/
def fnExactOrderOfMapUptoRow : OpenClaim := { program := "ythlmodofgoelbaa", sum := "9fc3f82d807291b5d1d155407df5bdfa1d5dedfc1e8ae131514bb881080e9e03", func := "loop.example/g01310/laws.FnExactOrderOfMap", spec := "fnExactOrderOfMap", unfollowed := true, recurses := true, apart := false, narrowed := true }
def FnExactOrderOfMapUptoSaid : Prop := fnExactOrderOfMapUptoRow.holds Try.pinned (OpenSpec.upto fnExactOrderOfMapSpec)

/-- 'laws.FnExactOrbitOfPoint', WHERE WHAT IT READS IS OF BULK AT MOST 1048576: true; the input reads as it did. -/
def fnExactOrbitOfPointUptoRow : OpenClaim := { program := "ythlmodofgoelbaa", sum := "9fc3f82d807291b5d1d155407df5bdfa1d5dedfc1e8ae131514bb881080e9e03", func := "loop.example/g01310/laws.FnExactOrbitOfPoint", spec := "fnExactOrbitOfPoint", unfollowed := true, recurses := true, apart := false, narrowed := true }
def FnExactOrbitOfPointUptoSaid : Prop := fnExactOrbitOfPointUptoRow.holds Try.pinned (OpenSpec.upto fnExactOrbitOfPointSpec)

/-- 'laws.FnExactFixedPoints', WHERE WHAT IT READS IS OF BULK AT MOST 1048576: true; the input reads as it did. -/
def fnExactFixedPointsUptoRow : OpenClaim := { program := "ythlmodofgoelbaa", sum := "9fc3f82d807291b5d1d155407df5bdfa1d5dedfc1e8ae131514bb881080e9e03", func := "loop.example/g01310/laws.FnExactFixedPoints", spec := "fnExactFixedPoints", unfollowed := true, recurses := true, apart := false, narrowed := true }
def FnExactFixedPointsUptoSaid : Prop := fnExactFixedPointsUptoRow.holds Try.pinned (OpenSpec.upto fnExactFixedPointsSpec)

/-- 'laws.FnExactFixedLines', WHERE WHAT IT READS IS OF BULK AT MOST 1048576: true; the input reads as it did. -/
def fnExactFixedLinesUptoRow : OpenClaim := { program := "ythlmodofgoelbaa", sum := "9fc3f82d807291b5d1d155407df5bdfa1d5dedfc1e8ae131514bb881080e9e03", func := "loop.example/g01310/laws.FnExactFixedLines", spec := "fnExactFixedLines", unfollowed := true, recurses := true, apart := false, narrowed := true }
def FnExactFixedLinesUptoSaid : Prop := fnExactFixedLinesUptoRow.holds Try.pinned (OpenSpec.upto fnExactFixedLinesSpec)

/-- 'laws.FnExactPointOf', WHERE WHAT IT READS IS OF BULK AT MOST 1048576: true; the input reads as it did. -/
def fnExactPointOfUptoRow : OpenClaim := { program := "ythlmodofgoelbaa", sum := "9fc3f82d807291b5d1d155407df5bdfa1d5dedfc1e8ae131514bb881080e9e03", func := "loop.example/g01310/laws.FnExactPointOf", spec := "fnExactPointOf", apart := false, narrowed := true }
def FnExactPointOfUptoSaid : Prop := fnExactPointOfUptoRow.holds Try.pinned (OpenSpec.upto fnExactPointOfSpec)

/-- 'laws.FnExactMapOf', WHERE WHAT IT READS IS OF BULK AT MOST 1048576: true; the input reads as it did. -/
def fnExactMapOfUptoRow : OpenClaim := { program := "ythlmodofgoelbaa", sum := "9fc3f82d807291b5d1d155407df5bdfa1d5dedfc1e8ae131514bb881080e9e03", func := "loop.example/g01310/laws.FnExactMapOf", spec := "fnExactMapOf", apart := false, narrowed := true }
def FnExactMapOfUptoSaid : Prop := fnExactMapOfUptoRow.holds Try.pinned (OpenSpec.upto fnExactMapOfSpec)

/-- 'laws.FnExactMapOfFrames', WHERE WHAT IT READS IS OF BULK AT MOST 1048576: true; the input reads as it did. -/
def fnExactMapOfFramesUptoRow : OpenClaim := { program := "ythlmodofgoelbaa", sum := "9fc3f82d807291b5d1d155407df5bdfa1d5dedfc1e8ae131514bb881080e9e03", func := "loop.example/g01310/laws.FnExactMapOfFrames", spec := "fnExactMapOfFrames", unfollowed := true, recurses := true, apart := false, narrowed := true }
def FnExactMapOfFramesUptoSaid : Prop := fnExactMapOfFramesUptoRow.holds Try.pinned (OpenSpec.upto fnExactMapOfFramesSpec)

end Rows
end Go.Proofs.Ythlmodofgoelbaa
