/-
  No cell of these rows narrows 'for every input' (looked for: loops, veiled, ifaces, maps, wideKeys, modest, calm, conditions, laid).
  DERIVED. THE GIVEN ROWS OF THIS SEAT. 12 by the template 'for every input the law returns true; each argument reads behind the call as it read before'; 0 by the template 'total and deterministic' (their statements: YtphiohmeahpofaaTotals.lean).
  GIVEN WITH THE SEED: the statements are not yours to turn. If you find one false, say at which input.
  Laid BY PROGRAM, IN A SANDBOX (cutbox-rows.mjs): the forced cells as the released guide's own fill.sh prints them over the translation 7b3b64ed621cb237… (all of the seat's roots in one cut). By AI agents, Wed Nov 11 2026. No macro, syntax, notation, axiom, sorry.
-/
import Derived.Test.YtphiohmeahpofaaChecked
import GoSem.Claim
import GoSem.ClaimJoined
import GoSem.ClaimMapViews
import Derived.JoinedTies
import Derived.KernelRfl
namespace Go.Proofs.Ytphiohmeahpofaa
/- THE CELL 'sum', in the pinned program and in every row, IS THE sha256 OF THE DUMP (.gsa) THAT YtphiohmeahpofaaProg.lean LOADS. Nothing in Lean hashes anything: it is a label: what it is worth is what the hold of that sum in a sandbox is worth. -/
noncomputable def Try.pinned : Pinned := { name := "ytphiohmeahpofaa", sum := "7b3b64ed621cb237eda45a153b45b66d473e8c06cfccde4261d894edc7008b68", checked := Try.checked }
namespace Rows
def none {H : Type} : Left H := { results := [], args := [] }

/-- 'laws.FnExactAllPoints': WHATEVER THE INPUT: true; the input reads as it did. -/
def fnExactAllPointsSpec : ChangeSpec := { name := "fnExactAllPoints", fn := fun _ => fun
  | [d] => { results := [.lit (.bool true)], args := [d] }
  | _ => none }
def fnExactAllPointsRow : OpenClaim := { program := "ytphiohmeahpofaa", sum := "7b3b64ed621cb237eda45a153b45b66d473e8c06cfccde4261d894edc7008b68", func := "loop.example/g01310/laws.FnExactAllPoints", spec := "fnExactAllPoints", apart := false }
def FnExactAllPointsSaid : Prop := fnExactAllPointsRow.holds Try.pinned (OpenSpec.ofChange fnExactAllPointsSpec)

/-- ITS FALSE NEIGHBOUR: 'it returns false'. Refute it at one input. -/
def fnExactAllPointsWrong : ChangeSpec := { name := "fnExactAllPoints", fn := fun _ => fun
  | [d] => { results := [.lit (.bool false)], args := [d] }
  | _ => none }
def FnExactAllPointsWrongFalsely : Prop := fnExactAllPointsRow.holds Try.pinned (OpenSpec.ofChange fnExactAllPointsWrong)

/-- 'laws.FnExactPointOf': WHATEVER THE INPUT: true; the input reads as it did. -/
def fnExactPointOfSpec : ChangeSpec := { name := "fnExactPointOf", fn := fun _ => fun
  | [d1, d2] => { results := [.lit (.bool true)], args := [d1, d2] }
  | _ => none }
def fnExactPointOfRow : OpenClaim := { program := "ytphiohmeahpofaa", sum := "7b3b64ed621cb237eda45a153b45b66d473e8c06cfccde4261d894edc7008b68", func := "loop.example/g01310/laws.FnExactPointOf", spec := "fnExactPointOf", apart := false }
def FnExactPointOfSaid : Prop := fnExactPointOfRow.holds Try.pinned (OpenSpec.ofChange fnExactPointOfSpec)

/-- ITS FALSE NEIGHBOUR: 'it returns false'. Refute it at one input. -/
def fnExactPointOfWrong : ChangeSpec := { name := "fnExactPointOf", fn := fun _ => fun
  | [d1, d2] => { results := [.lit (.bool false)], args := [d1, d2] }
  | _ => none }
def FnExactPointOfWrongFalsely : Prop := fnExactPointOfRow.holds Try.pinned (OpenSpec.ofChange fnExactPointOfWrong)

/-- 'laws.FnExactIsMap': WHATEVER THE INPUT: true; the input reads as it did. -/
def fnExactIsMapSpec : ChangeSpec := { name := "fnExactIsMap", fn := fun _ => fun
  | [d1, d2] => { results := [.lit (.bool true)], args := [d1, d2] }
  | _ => none }
def fnExactIsMapRow : OpenClaim := { program := "ytphiohmeahpofaa", sum := "7b3b64ed621cb237eda45a153b45b66d473e8c06cfccde4261d894edc7008b68", func := "loop.example/g01310/laws.FnExactIsMap", spec := "fnExactIsMap", apart := false }
def FnExactIsMapSaid : Prop := fnExactIsMapRow.holds Try.pinned (OpenSpec.ofChange fnExactIsMapSpec)

/-- ITS FALSE NEIGHBOUR: 'it returns false'. Refute it at one input. -/
def fnExactIsMapWrong : ChangeSpec := { name := "fnExactIsMap", fn := fun _ => fun
  | [d1, d2] => { results := [.lit (.bool false)], args := [d1, d2] }
  | _ => none }
def FnExactIsMapWrongFalsely : Prop := fnExactIsMapRow.holds Try.pinned (OpenSpec.ofChange fnExactIsMapWrong)

/-- 'laws.FnExactReduceRows': WHATEVER THE INPUT: true; the input reads as it did. -/
def fnExactReduceRowsSpec : ChangeSpec := { name := "fnExactReduceRows", fn := fun _ => fun
  | [d1, d2, d3] => { results := [.lit (.bool true)], args := [d1, d2, d3] }
  | _ => none }
def fnExactReduceRowsRow : OpenClaim := { program := "ytphiohmeahpofaa", sum := "7b3b64ed621cb237eda45a153b45b66d473e8c06cfccde4261d894edc7008b68", func := "loop.example/g01310/laws.FnExactReduceRows", spec := "fnExactReduceRows", apart := false }
def FnExactReduceRowsSaid : Prop := fnExactReduceRowsRow.holds Try.pinned (OpenSpec.ofChange fnExactReduceRowsSpec)

/-- ITS FALSE NEIGHBOUR: 'it returns false'. Refute it at one input. -/
def fnExactReduceRowsWrong : ChangeSpec := { name := "fnExactReduceRows", fn := fun _ => fun
  | [d1, d2, d3] => { results := [.lit (.bool false)], args := [d1, d2, d3] }
  | _ => none }
def FnExactReduceRowsWrongFalsely : Prop := fnExactReduceRowsRow.holds Try.pinned (OpenSpec.ofChange fnExactReduceRowsWrong)

/-- 'laws.FnExactHarmonicOf': WHATEVER THE INPUT: true; the input reads as it did. -/
def fnExactHarmonicOfSpec : ChangeSpec := { name := "fnExactHarmonicOf", fn := fun _ => fun
  | [d1, d2, d3, d4] => { results := [.lit (.bool true)], args := [d1, d2, d3, d4] }
  | _ => none }
def fnExactHarmonicOfRow : OpenClaim := { program := "ytphiohmeahpofaa", sum := "7b3b64ed621cb237eda45a153b45b66d473e8c06cfccde4261d894edc7008b68", func := "loop.example/g01310/laws.FnExactHarmonicOf", spec := "fnExactHarmonicOf", unfollowed := true, recurses := true, apart := false }
def FnExactHarmonicOfSaid : Prop := fnExactHarmonicOfRow.holds Try.pinned (OpenSpec.ofChange fnExactHarmonicOfSpec)

/-- ITS FALSE NEIGHBOUR: 'it returns false'. Refute it at one input. -/
def fnExactHarmonicOfWrong : ChangeSpec := { name := "fnExactHarmonicOf", fn := fun _ => fun
  | [d1, d2, d3, d4] => { results := [.lit (.bool false)], args := [d1, d2, d3, d4] }
  | _ => none }
def FnExactHarmonicOfWrongFalsely : Prop := fnExactHarmonicOfRow.holds Try.pinned (OpenSpec.ofChange fnExactHarmonicOfWrong)

/-- 'laws.FnExactPointAtRatio': WHATEVER THE INPUT: true; the input reads as it did. -/
def fnExactPointAtRatioSpec : ChangeSpec := { name := "fnExactPointAtRatio", fn := fun _ => fun
  | [d1, d2, d3, d4, d5] => { results := [.lit (.bool true)], args := [d1, d2, d3, d4, d5] }
  | _ => none }
def fnExactPointAtRatioRow : OpenClaim := { program := "ytphiohmeahpofaa", sum := "7b3b64ed621cb237eda45a153b45b66d473e8c06cfccde4261d894edc7008b68", func := "loop.example/g01310/laws.FnExactPointAtRatio", spec := "fnExactPointAtRatio", unfollowed := true, recurses := true, apart := false }
def FnExactPointAtRatioSaid : Prop := fnExactPointAtRatioRow.holds Try.pinned (OpenSpec.ofChange fnExactPointAtRatioSpec)

/-- ITS FALSE NEIGHBOUR: 'it returns false'. Refute it at one input. -/
def fnExactPointAtRatioWrong : ChangeSpec := { name := "fnExactPointAtRatio", fn := fun _ => fun
  | [d1, d2, d3, d4, d5] => { results := [.lit (.bool false)], args := [d1, d2, d3, d4, d5] }
  | _ => none }
def FnExactPointAtRatioWrongFalsely : Prop := fnExactPointAtRatioRow.holds Try.pinned (OpenSpec.ofChange fnExactPointAtRatioWrong)

/-- 'laws.FnExactMapOf': WHATEVER THE INPUT: true; the input reads as it did. -/
def fnExactMapOfSpec : ChangeSpec := { name := "fnExactMapOf", fn := fun _ => fun
  | [d1, d2] => { results := [.lit (.bool true)], args := [d1, d2] }
  | _ => none }
def fnExactMapOfRow : OpenClaim := { program := "ytphiohmeahpofaa", sum := "7b3b64ed621cb237eda45a153b45b66d473e8c06cfccde4261d894edc7008b68", func := "loop.example/g01310/laws.FnExactMapOf", spec := "fnExactMapOf", apart := false }
def FnExactMapOfSaid : Prop := fnExactMapOfRow.holds Try.pinned (OpenSpec.ofChange fnExactMapOfSpec)

/-- ITS FALSE NEIGHBOUR: 'it returns false'. Refute it at one input. -/
def fnExactMapOfWrong : ChangeSpec := { name := "fnExactMapOf", fn := fun _ => fun
  | [d1, d2] => { results := [.lit (.bool false)], args := [d1, d2] }
  | _ => none }
def FnExactMapOfWrongFalsely : Prop := fnExactMapOfRow.holds Try.pinned (OpenSpec.ofChange fnExactMapOfWrong)

/-- 'laws.FnExactMultiplyMaps': WHATEVER THE INPUT: true; the input reads as it did. -/
def fnExactMultiplyMapsSpec : ChangeSpec := { name := "fnExactMultiplyMaps", fn := fun _ => fun
  | [d1, d2, d3] => { results := [.lit (.bool true)], args := [d1, d2, d3] }
  | _ => none }
def fnExactMultiplyMapsRow : OpenClaim := { program := "ytphiohmeahpofaa", sum := "7b3b64ed621cb237eda45a153b45b66d473e8c06cfccde4261d894edc7008b68", func := "loop.example/g01310/laws.FnExactMultiplyMaps", spec := "fnExactMultiplyMaps", unfollowed := true, recurses := true, apart := false }
def FnExactMultiplyMapsSaid : Prop := fnExactMultiplyMapsRow.holds Try.pinned (OpenSpec.ofChange fnExactMultiplyMapsSpec)

/-- ITS FALSE NEIGHBOUR: 'it returns false'. Refute it at one input. -/
def fnExactMultiplyMapsWrong : ChangeSpec := { name := "fnExactMultiplyMaps", fn := fun _ => fun
  | [d1, d2, d3] => { results := [.lit (.bool false)], args := [d1, d2, d3] }
  | _ => none }
def FnExactMultiplyMapsWrongFalsely : Prop := fnExactMultiplyMapsRow.holds Try.pinned (OpenSpec.ofChange fnExactMultiplyMapsWrong)

/-- 'laws.FnExactInverseMap': WHATEVER THE INPUT: true; the input reads as it did. -/
def fnExactInverseMapSpec : ChangeSpec := { name := "fnExactInverseMap", fn := fun _ => fun
  | [d1, d2] => { results := [.lit (.bool true)], args := [d1, d2] }
  | _ => none }
def fnExactInverseMapRow : OpenClaim := { program := "ytphiohmeahpofaa", sum := "7b3b64ed621cb237eda45a153b45b66d473e8c06cfccde4261d894edc7008b68", func := "loop.example/g01310/laws.FnExactInverseMap", spec := "fnExactInverseMap", unfollowed := true, recurses := true, apart := false }
def FnExactInverseMapSaid : Prop := fnExactInverseMapRow.holds Try.pinned (OpenSpec.ofChange fnExactInverseMapSpec)

/-- ITS FALSE NEIGHBOUR: 'it returns false'. Refute it at one input. -/
def fnExactInverseMapWrong : ChangeSpec := { name := "fnExactInverseMap", fn := fun _ => fun
  | [d1, d2] => { results := [.lit (.bool false)], args := [d1, d2] }
  | _ => none }
def FnExactInverseMapWrongFalsely : Prop := fnExactInverseMapRow.holds Try.pinned (OpenSpec.ofChange fnExactInverseMapWrong)

/-- 'laws.FnExactTransposeMap': WHATEVER THE INPUT: true; the input reads as it did. -/
def fnExactTransposeMapSpec : ChangeSpec := { name := "fnExactTransposeMap", fn := fun _ => fun
  | [d1, d2] => { results := [.lit (.bool true)], args := [d1, d2] }
  | _ => none }
def fnExactTransposeMapRow : OpenClaim := { program := "ytphiohmeahpofaa", sum := "7b3b64ed621cb237eda45a153b45b66d473e8c06cfccde4261d894edc7008b68", func := "loop.example/g01310/laws.FnExactTransposeMap", spec := "fnExactTransposeMap", unfollowed := true, recurses := true, apart := false }
def FnExactTransposeMapSaid : Prop := fnExactTransposeMapRow.holds Try.pinned (OpenSpec.ofChange fnExactTransposeMapSpec)

/-- ITS FALSE NEIGHBOUR: 'it returns false'. Refute it at one input. -/
def fnExactTransposeMapWrong : ChangeSpec := { name := "fnExactTransposeMap", fn := fun _ => fun
  | [d1, d2] => { results := [.lit (.bool false)], args := [d1, d2] }
  | _ => none }
def FnExactTransposeMapWrongFalsely : Prop := fnExactTransposeMapRow.holds Try.pinned (OpenSpec.ofChange fnExactTransposeMapWrong)

/-- 'laws.FnExactImageOfPoint': WHATEVER THE INPUT: true; the input reads as it did. -/
def fnExactImageOfPointSpec : ChangeSpec := { name := "fnExactImageOfPoint", fn := fun _ => fun
  | [d1, d2, d3] => { results := [.lit (.bool true)], args := [d1, d2, d3] }
  | _ => none }
def fnExactImageOfPointRow : OpenClaim := { program := "ytphiohmeahpofaa", sum := "7b3b64ed621cb237eda45a153b45b66d473e8c06cfccde4261d894edc7008b68", func := "loop.example/g01310/laws.FnExactImageOfPoint", spec := "fnExactImageOfPoint", unfollowed := true, recurses := true, apart := false }
def FnExactImageOfPointSaid : Prop := fnExactImageOfPointRow.holds Try.pinned (OpenSpec.ofChange fnExactImageOfPointSpec)

/-- ITS FALSE NEIGHBOUR: 'it returns false'. Refute it at one input. -/
def fnExactImageOfPointWrong : ChangeSpec := { name := "fnExactImageOfPoint", fn := fun _ => fun
  | [d1, d2, d3] => { results := [.lit (.bool false)], args := [d1, d2, d3] }
  | _ => none }
def FnExactImageOfPointWrongFalsely : Prop := fnExactImageOfPointRow.holds Try.pinned (OpenSpec.ofChange fnExactImageOfPointWrong)

/-- 'laws.FnExactOrderOfMap': WHATEVER THE INPUT: true; the input reads as it did. -/
def fnExactOrderOfMapSpec : ChangeSpec := { name := "fnExactOrderOfMap", fn := fun _ => fun
  | [d1, d2] => { results := [.lit (.bool true)], args := [d1, d2] }
  | _ => none }
def fnExactOrderOfMapRow : OpenClaim := { program := "ytphiohmeahpofaa", sum := "7b3b64ed621cb237eda45a153b45b66d473e8c06cfccde4261d894edc7008b68", func := "loop.example/g01310/laws.FnExactOrderOfMap", spec := "fnExactOrderOfMap", unfollowed := true, recurses := true, apart := false }
def FnExactOrderOfMapSaid : Prop := fnExactOrderOfMapRow.holds Try.pinned (OpenSpec.ofChange fnExactOrderOfMapSpec)

/-- ITS FALSE NEIGHBOUR: 'it returns false'. Refute it at one input. -/
def fnExactOrderOfMapWrong : ChangeSpec := { name := "fnExactOrderOfMap", fn := fun _ => fun
  | [d1, d2] => { results := [.lit (.bool false)], args := [d1, d2] }
  | _ => none }
def FnExactOrderOfMapWrongFalsely : Prop := fnExactOrderOfMapRow.holds Try.pinned (OpenSpec.ofChange fnExactOrderOfMapWrong)

/- THE SECOND FORM. 'bulk': how many values and letters a reading holds, each counted each time it is reached (what is shared counts as often as it is met; a slice's spare places count too). A statement '..UptoSaid' is the law's where the arguments, and the package variables that the reading takes, are together of bulk at most 1048576: NARROWER than '..Said'. Prove '..Said' where nothing that the law and all that it calls make is longer than what came in: it says more and counts as full. Else prove '..UptoSaid'. A law counts once. -/
mutual
def uptoBulk {H : Type} : DataW H → Nat
  | .lit (.string bytes) => bytes.length + 1
  | .lit _ => 1
  | .nil => 1
  | .ptr d => uptoBulk d + 1
  | .slice elems spare => uptoBulkAll elems + uptoBulkAll spare + 1
  | .agg parts => uptoBulkAll parts + 1
  | .iface _ d => uptoBulk d + 1
  | .map entries => uptoBulkEntries entries + 1
  | .held _ => 1
def uptoBulkAll {H : Type} : List (DataW H) → Nat
  | [] => 0
  | d :: r => uptoBulk d + uptoBulkAll r
def uptoBulkEntries {H : Type} : List (Lit × DataW H) → Nat
  | [] => 0
  | x :: r => uptoBulkEntry x + uptoBulkEntries r
def uptoBulkEntry {H : Type} : Lit × DataW H → Nat
  | (.string bytes, d) => bytes.length + uptoBulk d + 1
  | (_, d) => uptoBulk d + 1
 end
def uptoSmall : (H : Type) → List (DataW H) → Bool := fun _ ds => decide (uptoBulkAll ds ≤ 1048576)
def OpenSpec.upto (s : _root_.Go.ChangeSpec) : _root_.Go.OpenSpec := { _root_.Go.OpenSpec.ofChange s with cond := some uptoSmall }

/-- 'laws.FnExactAllPoints', WHERE WHAT IT READS IS OF BULK AT MOST 1048576: true; the input reads as it did. -/
def fnExactAllPointsUptoRow : OpenClaim := { program := "ytphiohmeahpofaa", sum := "7b3b64ed621cb237eda45a153b45b66d473e8c06cfccde4261d894edc7008b68", func := "loop.example/g01310/laws.FnExactAllPoints", spec := "fnExactAllPoints", apart := false, narrowed := true }
def FnExactAllPointsUptoSaid : Prop := fnExactAllPointsUptoRow.holds Try.pinned (OpenSpec.upto fnExactAllPointsSpec)

/-- 'laws.FnExactPointOf', WHERE WHAT IT READS IS OF BULK AT MOST 1048576: true; the input reads as it did. -/
def fnExactPointOfUptoRow : OpenClaim := { program := "ytphiohmeahpofaa", sum := "7b3b64ed621cb237eda45a153b45b66d473e8c06cfccde4261d894edc7008b68", func := "loop.example/g01310/laws.FnExactPointOf", spec := "fnExactPointOf", apart := false, narrowed := true }
def FnExactPointOfUptoSaid : Prop := fnExactPointOfUptoRow.holds Try.pinned (OpenSpec.upto fnExactPointOfSpec)

/-- 'laws.FnExactIsMap', WHERE WHAT IT READS IS OF BULK AT MOST 1048576: true; the input reads as it did. -/
def fnExactIsMapUptoRow : OpenClaim := { program := "ytphiohmeahpofaa", sum := "7b3b64ed621cb237eda45a153b45b66d473e8c06cfccde4261d894edc7008b68", func := "loop.example/g01310/laws.FnExactIsMap", spec := "fnExactIsMap", apart := false, narrowed := true }
def FnExactIsMapUptoSaid : Prop := fnExactIsMapUptoRow.holds Try.pinned (OpenSpec.upto fnExactIsMapSpec)

/-- 'laws.FnExactReduceRows', WHERE WHAT IT READS IS OF BULK AT MOST 1048576: true; the input reads as it did. -/
def fnExactReduceRowsUptoRow : OpenClaim := { program := "ytphiohmeahpofaa", sum := "7b3b64ed621cb237eda45a153b45b66d473e8c06cfccde4261d894edc7008b68", func := "loop.example/g01310/laws.FnExactReduceRows", spec := "fnExactReduceRows", apart := false, narrowed := true }
def FnExactReduceRowsUptoSaid : Prop := fnExactReduceRowsUptoRow.holds Try.pinned (OpenSpec.upto fnExactReduceRowsSpec)

/-- 'laws.FnExactHarmonicOf', WHERE WHAT IT READS IS OF BULK AT MOST 1048576: true; the input reads as it did. -/
def fnExactHarmonicOfUptoRow : OpenClaim := { program := "ytphiohmeahpofaa", sum := "7b3b64ed621cb237eda45a153b45b66d473e8c06cfccde4261d894edc7008b68", func := "loop.example/g01310/laws.FnExactHarmonicOf", spec := "fnExactHarmonicOf", unfollowed := true, recurses := true, apart := false, narrowed := true }
def FnExactHarmonicOfUptoSaid : Prop := fnExactHarmonicOfUptoRow.holds Try.pinned (OpenSpec.upto fnExactHarmonicOfSpec)

/-- 'laws.FnExactPointAtRatio', WHERE WHAT IT READS IS OF BULK AT MOST 1048576: true; the input reads as it did. -/
def fnExactPointAtRatioUptoRow : OpenClaim := { program := "ytphiohmeahpofaa", sum := "7b3b64ed621cb237eda45a153b45b66d473e8c06cfccde4261d894edc7008b68", func := "loop.example/g01310/laws.FnExactPointAtRatio", spec := "fnExactPointAtRatio", unfollowed := true, recurses := true, apart := false, narrowed := true }
def FnExactPointAtRatioUptoSaid : Prop := fnExactPointAtRatioUptoRow.holds Try.pinned (OpenSpec.upto fnExactPointAtRatioSpec)

/-- 'laws.FnExactMapOf', WHERE WHAT IT READS IS OF BULK AT MOST 1048576: true; the input reads as it did. -/
def fnExactMapOfUptoRow : OpenClaim := { program := "ytphiohmeahpofaa", sum := "7b3b64ed621cb237eda45a153b45b66d473e8c06cfccde4261d894edc7008b68", func := "loop.example/g01310/laws.FnExactMapOf", spec := "fnExactMapOf", apart := false, narrowed := true }
def FnExactMapOfUptoSaid : Prop := fnExactMapOfUptoRow.holds Try.pinned (OpenSpec.upto fnExactMapOfSpec)

/-- 'laws.FnExactMultiplyMaps', WHERE WHAT IT READS IS OF BULK AT MOST 1048576: true; the input reads as it did. -/
def fnExactMultiplyMapsUptoRow : OpenClaim := { program := "ytphiohmeahpofaa", sum := "7b3b64ed621cb237eda45a153b45b66d473e8c06cfccde4261d894edc7008b68", func := "loop.example/g01310/laws.FnExactMultiplyMaps", spec := "fnExactMultiplyMaps", unfollowed := true, recurses := true, apart := false, narrowed := true }
def FnExactMultiplyMapsUptoSaid : Prop := fnExactMultiplyMapsUptoRow.holds Try.pinned (OpenSpec.upto fnExactMultiplyMapsSpec)

/-- 'laws.FnExactInverseMap', WHERE WHAT IT READS IS OF BULK AT MOST 1048576: true; the input reads as it did. -/
def fnExactInverseMapUptoRow : OpenClaim := { program := "ytphiohmeahpofaa", sum := "7b3b64ed621cb237eda45a153b45b66d473e8c06cfccde4261d894edc7008b68", func := "loop.example/g01310/laws.FnExactInverseMap", spec := "fnExactInverseMap", unfollowed := true, recurses := true, apart := false, narrowed := true }
def FnExactInverseMapUptoSaid : Prop := fnExactInverseMapUptoRow.holds Try.pinned (OpenSpec.upto fnExactInverseMapSpec)

/-- 'laws.FnExactTransposeMap', WHERE WHAT IT READS IS OF BULK AT MOST 1048576: true; the input reads as it did. -/
def fnExactTransposeMapUptoRow : OpenClaim := { program := "ytphiohmeahpofaa", sum := "7b3b64ed621cb237eda45a153b45b66d473e8c06cfccde4261d894edc7008b68", func := "loop.example/g01310/laws.FnExactTransposeMap", spec := "fnExactTransposeMap", unfollowed := true, recurses := true, apart := false, narrowed := true }
def FnExactTransposeMapUptoSaid : Prop := fnExactTransposeMapUptoRow.holds Try.pinned (OpenSpec.upto fnExactTransposeMapSpec)

/-- 'laws.FnExactImageOfPoint', WHERE WHAT IT READS IS OF BULK AT MOST 1048576: true; the input reads as it did. -/
def fnExactImageOfPointUptoRow : OpenClaim := { program := "ytphiohmeahpofaa", sum := "7b3b64ed621cb237eda45a153b45b66d473e8c06cfccde4261d894edc7008b68", func := "loop.example/g01310/laws.FnExactImageOfPoint", spec := "fnExactImageOfPoint", unfollowed := true, recurses := true, apart := false, narrowed := true }
def FnExactImageOfPointUptoSaid : Prop := fnExactImageOfPointUptoRow.holds Try.pinned (OpenSpec.upto fnExactImageOfPointSpec)

/-- 'laws.FnExactOrderOfMap', WHERE WHAT IT READS IS OF BULK AT MOST 1048576: true; the input reads as it did. -/
def fnExactOrderOfMapUptoRow : OpenClaim := { program := "ytphiohmeahpofaa", sum := "7b3b64ed621cb237eda45a153b45b66d473e8c06cfccde4261d894edc7008b68", func := "loop.example/g01310/laws.FnExactOrderOfMap", spec := "fnExactOrderOfMap", unfollowed := true, recurses := true, apart := false, narrowed := true }
def FnExactOrderOfMapUptoSaid : Prop := fnExactOrderOfMapUptoRow.holds Try.pinned (OpenSpec.upto fnExactOrderOfMapSpec)

end Rows
end Go.Proofs.Ytphiohmeahpofaa
