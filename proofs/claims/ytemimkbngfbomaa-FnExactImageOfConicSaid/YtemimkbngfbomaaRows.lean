/-
  No cell of these rows narrows 'for every input' (looked for: loops, veiled, ifaces, maps, wideKeys, modest, calm, conditions, laid).
  DERIVED. THE GIVEN ROWS OF THIS SEAT. 10 by the template 'for every input the law returns true; each argument reads behind the call as it read before'; 0 by the template 'total and deterministic' (their statements: YtemimkbngfbomaaTotals.lean).
  GIVEN WITH THE SEED: the statements are not yours to turn. If you find one false, say at which input.
  Laid BY PROGRAM, IN A SANDBOX (cutbox-rows.mjs): the forced cells as the released guide's own fill.sh prints them over the translation 3e1757740d59c992… (all of the seat's roots in one cut). By AI agents, Wed Nov 11 2026. No macro, syntax, notation, axiom, sorry.
-/
import Derived.Test.YtemimkbngfbomaaChecked
import GoSem.Claim
import GoSem.ClaimJoined
import GoSem.ClaimMapViews
import Derived.JoinedTies
import Derived.KernelRfl
namespace Go.Proofs.Ytemimkbngfbomaa
/- THE CELL 'sum', in the pinned program and in every row, IS THE sha256 OF THE DUMP (.gsa) THAT YtemimkbngfbomaaProg.lean LOADS. Nothing in Lean hashes anything: it is a label: what it is worth is what the hold of that sum in a sandbox is worth. -/
noncomputable def Try.pinned : Pinned := { name := "ytemimkbngfbomaa", sum := "3e1757740d59c99266622561ed516eba616f1d649cd02520e2162b289f306ebb", checked := Try.checked }
namespace Rows
def none {H : Type} : Left H := { results := [], args := [] }

/-- 'laws.FnExactConicOf': WHATEVER THE INPUT: true; the input reads as it did. -/
def fnExactConicOfSpec : ChangeSpec := { name := "fnExactConicOf", fn := fun _ => fun
  | [d1, d2] => { results := [.lit (.bool true)], args := [d1, d2] }
  | _ => none }
def fnExactConicOfRow : OpenClaim := { program := "ytemimkbngfbomaa", sum := "3e1757740d59c99266622561ed516eba616f1d649cd02520e2162b289f306ebb", func := "loop.example/g01310/laws.FnExactConicOf", spec := "fnExactConicOf", apart := false }
def FnExactConicOfSaid : Prop := fnExactConicOfRow.holds Try.pinned (OpenSpec.ofChange fnExactConicOfSpec)

/-- ITS FALSE NEIGHBOUR: 'it returns false'. Refute it at one input. -/
def fnExactConicOfWrong : ChangeSpec := { name := "fnExactConicOf", fn := fun _ => fun
  | [d1, d2] => { results := [.lit (.bool false)], args := [d1, d2] }
  | _ => none }
def FnExactConicOfWrongFalsely : Prop := fnExactConicOfRow.holds Try.pinned (OpenSpec.ofChange fnExactConicOfWrong)

/-- 'laws.FnExactAreConjugate': WHATEVER THE INPUT: true; the input reads as it did. -/
def fnExactAreConjugateSpec : ChangeSpec := { name := "fnExactAreConjugate", fn := fun _ => fun
  | [d1, d2, d3, d4] => { results := [.lit (.bool true)], args := [d1, d2, d3, d4] }
  | _ => none }
def fnExactAreConjugateRow : OpenClaim := { program := "ytemimkbngfbomaa", sum := "3e1757740d59c99266622561ed516eba616f1d649cd02520e2162b289f306ebb", func := "loop.example/g01310/laws.FnExactAreConjugate", spec := "fnExactAreConjugate", unfollowed := true, recurses := true, apart := false }
def FnExactAreConjugateSaid : Prop := fnExactAreConjugateRow.holds Try.pinned (OpenSpec.ofChange fnExactAreConjugateSpec)

/-- ITS FALSE NEIGHBOUR: 'it returns false'. Refute it at one input. -/
def fnExactAreConjugateWrong : ChangeSpec := { name := "fnExactAreConjugate", fn := fun _ => fun
  | [d1, d2, d3, d4] => { results := [.lit (.bool false)], args := [d1, d2, d3, d4] }
  | _ => none }
def FnExactAreConjugateWrongFalsely : Prop := fnExactAreConjugateRow.holds Try.pinned (OpenSpec.ofChange fnExactAreConjugateWrong)

/-- 'laws.FnExactPolarOf': WHATEVER THE INPUT: true; the input reads as it did. -/
def fnExactPolarOfSpec : ChangeSpec := { name := "fnExactPolarOf", fn := fun _ => fun
  | [d1, d2, d3] => { results := [.lit (.bool true)], args := [d1, d2, d3] }
  | _ => none }
def fnExactPolarOfRow : OpenClaim := { program := "ytemimkbngfbomaa", sum := "3e1757740d59c99266622561ed516eba616f1d649cd02520e2162b289f306ebb", func := "loop.example/g01310/laws.FnExactPolarOf", spec := "fnExactPolarOf", unfollowed := true, recurses := true, apart := false }
def FnExactPolarOfSaid : Prop := fnExactPolarOfRow.holds Try.pinned (OpenSpec.ofChange fnExactPolarOfSpec)

/-- ITS FALSE NEIGHBOUR: 'it returns false'. Refute it at one input. -/
def fnExactPolarOfWrong : ChangeSpec := { name := "fnExactPolarOf", fn := fun _ => fun
  | [d1, d2, d3] => { results := [.lit (.bool false)], args := [d1, d2, d3] }
  | _ => none }
def FnExactPolarOfWrongFalsely : Prop := fnExactPolarOfRow.holds Try.pinned (OpenSpec.ofChange fnExactPolarOfWrong)

/-- 'laws.FnExactMemberOf': WHATEVER THE INPUT: true; the input reads as it did. -/
def fnExactMemberOfSpec : ChangeSpec := { name := "fnExactMemberOf", fn := fun _ => fun
  | [d1, d2, d3, d4, d5] => { results := [.lit (.bool true)], args := [d1, d2, d3, d4, d5] }
  | _ => none }
def fnExactMemberOfRow : OpenClaim := { program := "ytemimkbngfbomaa", sum := "3e1757740d59c99266622561ed516eba616f1d649cd02520e2162b289f306ebb", func := "loop.example/g01310/laws.FnExactMemberOf", spec := "fnExactMemberOf", unfollowed := true, recurses := true, apart := false }
def FnExactMemberOfSaid : Prop := fnExactMemberOfRow.holds Try.pinned (OpenSpec.ofChange fnExactMemberOfSpec)

/-- ITS FALSE NEIGHBOUR: 'it returns false'. Refute it at one input. -/
def fnExactMemberOfWrong : ChangeSpec := { name := "fnExactMemberOf", fn := fun _ => fun
  | [d1, d2, d3, d4, d5] => { results := [.lit (.bool false)], args := [d1, d2, d3, d4, d5] }
  | _ => none }
def FnExactMemberOfWrongFalsely : Prop := fnExactMemberOfRow.holds Try.pinned (OpenSpec.ofChange fnExactMemberOfWrong)

/-- 'laws.FnExactPencilCubic': WHATEVER THE INPUT: true; the input reads as it did. -/
def fnExactPencilCubicSpec : ChangeSpec := { name := "fnExactPencilCubic", fn := fun _ => fun
  | [d1, d2, d3] => { results := [.lit (.bool true)], args := [d1, d2, d3] }
  | _ => none }
def fnExactPencilCubicRow : OpenClaim := { program := "ytemimkbngfbomaa", sum := "3e1757740d59c99266622561ed516eba616f1d649cd02520e2162b289f306ebb", func := "loop.example/g01310/laws.FnExactPencilCubic", spec := "fnExactPencilCubic", unfollowed := true, recurses := true, apart := false }
def FnExactPencilCubicSaid : Prop := fnExactPencilCubicRow.holds Try.pinned (OpenSpec.ofChange fnExactPencilCubicSpec)

/-- ITS FALSE NEIGHBOUR: 'it returns false'. Refute it at one input. -/
def fnExactPencilCubicWrong : ChangeSpec := { name := "fnExactPencilCubic", fn := fun _ => fun
  | [d1, d2, d3] => { results := [.lit (.bool false)], args := [d1, d2, d3] }
  | _ => none }
def FnExactPencilCubicWrongFalsely : Prop := fnExactPencilCubicRow.holds Try.pinned (OpenSpec.ofChange fnExactPencilCubicWrong)

/-- 'laws.FnExactSecondPoint': WHATEVER THE INPUT: true; the input reads as it did. -/
def fnExactSecondPointSpec : ChangeSpec := { name := "fnExactSecondPoint", fn := fun _ => fun
  | [d1, d2, d3, d4] => { results := [.lit (.bool true)], args := [d1, d2, d3, d4] }
  | _ => none }
def fnExactSecondPointRow : OpenClaim := { program := "ytemimkbngfbomaa", sum := "3e1757740d59c99266622561ed516eba616f1d649cd02520e2162b289f306ebb", func := "loop.example/g01310/laws.FnExactSecondPoint", spec := "fnExactSecondPoint", unfollowed := true, recurses := true, apart := false }
def FnExactSecondPointSaid : Prop := fnExactSecondPointRow.holds Try.pinned (OpenSpec.ofChange fnExactSecondPointSpec)

/-- ITS FALSE NEIGHBOUR: 'it returns false'. Refute it at one input. -/
def fnExactSecondPointWrong : ChangeSpec := { name := "fnExactSecondPoint", fn := fun _ => fun
  | [d1, d2, d3, d4] => { results := [.lit (.bool false)], args := [d1, d2, d3, d4] }
  | _ => none }
def FnExactSecondPointWrongFalsely : Prop := fnExactSecondPointRow.holds Try.pinned (OpenSpec.ofChange fnExactSecondPointWrong)

/-- 'laws.FnExactImageOfConic': WHATEVER THE INPUT: true; the input reads as it did. -/
def fnExactImageOfConicSpec : ChangeSpec := { name := "fnExactImageOfConic", fn := fun _ => fun
  | [d1, d2, d3] => { results := [.lit (.bool true)], args := [d1, d2, d3] }
  | _ => none }
def fnExactImageOfConicRow : OpenClaim := { program := "ytemimkbngfbomaa", sum := "3e1757740d59c99266622561ed516eba616f1d649cd02520e2162b289f306ebb", func := "loop.example/g01310/laws.FnExactImageOfConic", spec := "fnExactImageOfConic", unfollowed := true, recurses := true, apart := false }
def FnExactImageOfConicSaid : Prop := fnExactImageOfConicRow.holds Try.pinned (OpenSpec.ofChange fnExactImageOfConicSpec)

/-- ITS FALSE NEIGHBOUR: 'it returns false'. Refute it at one input. -/
def fnExactImageOfConicWrong : ChangeSpec := { name := "fnExactImageOfConic", fn := fun _ => fun
  | [d1, d2, d3] => { results := [.lit (.bool false)], args := [d1, d2, d3] }
  | _ => none }
def FnExactImageOfConicWrongFalsely : Prop := fnExactImageOfConicRow.holds Try.pinned (OpenSpec.ofChange fnExactImageOfConicWrong)

/-- 'laws.FnExactOrderOfMoebius': WHATEVER THE INPUT: true; the input reads as it did. -/
def fnExactOrderOfMoebiusSpec : ChangeSpec := { name := "fnExactOrderOfMoebius", fn := fun _ => fun
  | [d1, d2] => { results := [.lit (.bool true)], args := [d1, d2] }
  | _ => none }
def fnExactOrderOfMoebiusRow : OpenClaim := { program := "ytemimkbngfbomaa", sum := "3e1757740d59c99266622561ed516eba616f1d649cd02520e2162b289f306ebb", func := "loop.example/g01310/laws.FnExactOrderOfMoebius", spec := "fnExactOrderOfMoebius", unfollowed := true, recurses := true, apart := false }
def FnExactOrderOfMoebiusSaid : Prop := fnExactOrderOfMoebiusRow.holds Try.pinned (OpenSpec.ofChange fnExactOrderOfMoebiusSpec)

/-- ITS FALSE NEIGHBOUR: 'it returns false'. Refute it at one input. -/
def fnExactOrderOfMoebiusWrong : ChangeSpec := { name := "fnExactOrderOfMoebius", fn := fun _ => fun
  | [d1, d2] => { results := [.lit (.bool false)], args := [d1, d2] }
  | _ => none }
def FnExactOrderOfMoebiusWrongFalsely : Prop := fnExactOrderOfMoebiusRow.holds Try.pinned (OpenSpec.ofChange fnExactOrderOfMoebiusWrong)

/-- 'laws.FnExactPlaceRatio': WHATEVER THE INPUT: true; the input reads as it did. -/
def fnExactPlaceRatioSpec : ChangeSpec := { name := "fnExactPlaceRatio", fn := fun _ => fun
  | [d1, d2, d3, d4, d5] => { results := [.lit (.bool true)], args := [d1, d2, d3, d4, d5] }
  | _ => none }
def fnExactPlaceRatioRow : OpenClaim := { program := "ytemimkbngfbomaa", sum := "3e1757740d59c99266622561ed516eba616f1d649cd02520e2162b289f306ebb", func := "loop.example/g01310/laws.FnExactPlaceRatio", spec := "fnExactPlaceRatio", apart := false }
def FnExactPlaceRatioSaid : Prop := fnExactPlaceRatioRow.holds Try.pinned (OpenSpec.ofChange fnExactPlaceRatioSpec)

/-- ITS FALSE NEIGHBOUR: 'it returns false'. Refute it at one input. -/
def fnExactPlaceRatioWrong : ChangeSpec := { name := "fnExactPlaceRatio", fn := fun _ => fun
  | [d1, d2, d3, d4, d5] => { results := [.lit (.bool false)], args := [d1, d2, d3, d4, d5] }
  | _ => none }
def FnExactPlaceRatioWrongFalsely : Prop := fnExactPlaceRatioRow.holds Try.pinned (OpenSpec.ofChange fnExactPlaceRatioWrong)

/-- 'laws.FnExactMapOf': WHATEVER THE INPUT: true; the input reads as it did. -/
def fnExactMapOfSpec : ChangeSpec := { name := "fnExactMapOf", fn := fun _ => fun
  | [d1, d2] => { results := [.lit (.bool true)], args := [d1, d2] }
  | _ => none }
def fnExactMapOfRow : OpenClaim := { program := "ytemimkbngfbomaa", sum := "3e1757740d59c99266622561ed516eba616f1d649cd02520e2162b289f306ebb", func := "loop.example/g01310/laws.FnExactMapOf", spec := "fnExactMapOf", apart := false }
def FnExactMapOfSaid : Prop := fnExactMapOfRow.holds Try.pinned (OpenSpec.ofChange fnExactMapOfSpec)

/-- ITS FALSE NEIGHBOUR: 'it returns false'. Refute it at one input. -/
def fnExactMapOfWrong : ChangeSpec := { name := "fnExactMapOf", fn := fun _ => fun
  | [d1, d2] => { results := [.lit (.bool false)], args := [d1, d2] }
  | _ => none }
def FnExactMapOfWrongFalsely : Prop := fnExactMapOfRow.holds Try.pinned (OpenSpec.ofChange fnExactMapOfWrong)

/- THE SECOND FORM. 'bulk': how many values and letters a reading holds, each counted each time it is reached (what is shared counts as often as it is met; a slice's spare places count too). A statement '..UptoSaid' is the law's where the arguments, and the package variables that the reading takes, are together of bulk at most 1048576: NARROWER than '..Said'. Prove '..Said' where nothing that the law and all that it calls make is longer than what came in: it says more and counts as full. Else prove '..UptoSaid'. A law counts once. -/
mutual
def uptoBulk {H : Type} : DataW H → Nat
  | .lit (.string bytes) => bytes.length + 1
  | .lit _ => 1
  | .nil => 1
  | .ptr d => uptoBulk d + 1
  | .slice elems spare => uptoBulkAll elems + uptoBulkAll spare + 1
  | .agg parts => uptoBulkAll parts + 1
  | .iface _ d => uptoBulk d + 1
  | .map entries => uptoBulkEntries entries + 1
  | .held _ => 1
def uptoBulkAll {H : Type} : List (DataW H) → Nat
  | [] => 0
  | d :: r => uptoBulk d + uptoBulkAll r
def uptoBulkEntries {H : Type} : List (Lit × DataW H) → Nat
  | [] => 0
  | x :: r => uptoBulkEntry x + uptoBulkEntries r
def uptoBulkEntry {H : Type} : Lit × DataW H → Nat
  | (.string bytes, d) => bytes.length + uptoBulk d + 1
  | (_, d) => uptoBulk d + 1
 end
def uptoSmall : (H : Type) → List (DataW H) → Bool := fun _ ds => decide (uptoBulkAll ds ≤ 1048576)
def OpenSpec.upto (s : _root_.Go.ChangeSpec) : _root_.Go.OpenSpec := { _root_.Go.OpenSpec.ofChange s with cond := some uptoSmall }

/-- 'laws.FnExactConicOf', WHERE WHAT IT READS IS OF BULK AT MOST 1048576: true; the input reads as it did. -/
def fnExactConicOfUptoRow : OpenClaim := { program := "ytemimkbngfbomaa", sum := "3e1757740d59c99266622561ed516eba616f1d649cd02520e2162b289f306ebb", func := "loop.example/g01310/laws.FnExactConicOf", spec := "fnExactConicOf", apart := false, narrowed := true }
def FnExactConicOfUptoSaid : Prop := fnExactConicOfUptoRow.holds Try.pinned (OpenSpec.upto fnExactConicOfSpec)

/-- 'laws.FnExactAreConjugate', WHERE WHAT IT READS IS OF BULK AT MOST 1048576: true; the input reads as it did. -/
def fnExactAreConjugateUptoRow : OpenClaim := { program := "ytemimkbngfbomaa", sum := "3e1757740d59c99266622561ed516eba616f1d649cd02520e2162b289f306ebb", func := "loop.example/g01310/laws.FnExactAreConjugate", spec := "fnExactAreConjugate", unfollowed := true, recurses := true, apart := false, narrowed := true }
def FnExactAreConjugateUptoSaid : Prop := fnExactAreConjugateUptoRow.holds Try.pinned (OpenSpec.upto fnExactAreConjugateSpec)

/-- 'laws.FnExactPolarOf', WHERE WHAT IT READS IS OF BULK AT MOST 1048576: true; the input reads as it did. -/
def fnExactPolarOfUptoRow : OpenClaim := { program := "ytemimkbngfbomaa", sum := "3e1757740d59c99266622561ed516eba616f1d649cd02520e2162b289f306ebb", func := "loop.example/g01310/laws.FnExactPolarOf", spec := "fnExactPolarOf", unfollowed := true, recurses := true, apart := false, narrowed := true }
def FnExactPolarOfUptoSaid : Prop := fnExactPolarOfUptoRow.holds Try.pinned (OpenSpec.upto fnExactPolarOfSpec)

/-- 'laws.FnExactMemberOf', WHERE WHAT IT READS IS OF BULK AT MOST 1048576: true; the input reads as it did. -/
def fnExactMemberOfUptoRow : OpenClaim := { program := "ytemimkbngfbomaa", sum := "3e1757740d59c99266622561ed516eba616f1d649cd02520e2162b289f306ebb", func := "loop.example/g01310/laws.FnExactMemberOf", spec := "fnExactMemberOf", unfollowed := true, recurses := true, apart := false, narrowed := true }
def FnExactMemberOfUptoSaid : Prop := fnExactMemberOfUptoRow.holds Try.pinned (OpenSpec.upto fnExactMemberOfSpec)

/-- 'laws.FnExactPencilCubic', WHERE WHAT IT READS IS OF BULK AT MOST 1048576: true; the input reads as it did. -/
def fnExactPencilCubicUptoRow : OpenClaim := { program := "ytemimkbngfbomaa", sum := "3e1757740d59c99266622561ed516eba616f1d649cd02520e2162b289f306ebb", func := "loop.example/g01310/laws.FnExactPencilCubic", spec := "fnExactPencilCubic", unfollowed := true, recurses := true, apart := false, narrowed := true }
def FnExactPencilCubicUptoSaid : Prop := fnExactPencilCubicUptoRow.holds Try.pinned (OpenSpec.upto fnExactPencilCubicSpec)

/-- 'laws.FnExactSecondPoint', WHERE WHAT IT READS IS OF BULK AT MOST 1048576: true; the input reads as it did. -/
def fnExactSecondPointUptoRow : OpenClaim := { program := "ytemimkbngfbomaa", sum := "3e1757740d59c99266622561ed516eba616f1d649cd02520e2162b289f306ebb", func := "loop.example/g01310/laws.FnExactSecondPoint", spec := "fnExactSecondPoint", unfollowed := true, recurses := true, apart := false, narrowed := true }
def FnExactSecondPointUptoSaid : Prop := fnExactSecondPointUptoRow.holds Try.pinned (OpenSpec.upto fnExactSecondPointSpec)

/-- 'laws.FnExactImageOfConic', WHERE WHAT IT READS IS OF BULK AT MOST 1048576: true; the input reads as it did. -/
def fnExactImageOfConicUptoRow : OpenClaim := { program := "ytemimkbngfbomaa", sum := "3e1757740d59c99266622561ed516eba616f1d649cd02520e2162b289f306ebb", func := "loop.example/g01310/laws.FnExactImageOfConic", spec := "fnExactImageOfConic", unfollowed := true, recurses := true, apart := false, narrowed := true }
def FnExactImageOfConicUptoSaid : Prop := fnExactImageOfConicUptoRow.holds Try.pinned (OpenSpec.upto fnExactImageOfConicSpec)

/-- 'laws.FnExactOrderOfMoebius', WHERE WHAT IT READS IS OF BULK AT MOST 1048576: true; the input reads as it did. -/
def fnExactOrderOfMoebiusUptoRow : OpenClaim := { program := "ytemimkbngfbomaa", sum := "3e1757740d59c99266622561ed516eba616f1d649cd02520e2162b289f306ebb", func := "loop.example/g01310/laws.FnExactOrderOfMoebius", spec := "fnExactOrderOfMoebius", unfollowed := true, recurses := true, apart := false, narrowed := true }
def FnExactOrderOfMoebiusUptoSaid : Prop := fnExactOrderOfMoebiusUptoRow.holds Try.pinned (OpenSpec.upto fnExactOrderOfMoebiusSpec)

/-- 'laws.FnExactPlaceRatio', WHERE WHAT IT READS IS OF BULK AT MOST 1048576: true; the input reads as it did. -/
def fnExactPlaceRatioUptoRow : OpenClaim := { program := "ytemimkbngfbomaa", sum := "3e1757740d59c99266622561ed516eba616f1d649cd02520e2162b289f306ebb", func := "loop.example/g01310/laws.FnExactPlaceRatio", spec := "fnExactPlaceRatio", apart := false, narrowed := true }
def FnExactPlaceRatioUptoSaid : Prop := fnExactPlaceRatioUptoRow.holds Try.pinned (OpenSpec.upto fnExactPlaceRatioSpec)

/-- 'laws.FnExactMapOf', WHERE WHAT IT READS IS OF BULK AT MOST 1048576: true; the input reads as it did. -/
def fnExactMapOfUptoRow : OpenClaim := { program := "ytemimkbngfbomaa", sum := "3e1757740d59c99266622561ed516eba616f1d649cd02520e2162b289f306ebb", func := "loop.example/g01310/laws.FnExactMapOf", spec := "fnExactMapOf", apart := false, narrowed := true }
def FnExactMapOfUptoSaid : Prop := fnExactMapOfUptoRow.holds Try.pinned (OpenSpec.upto fnExactMapOfSpec)

end Rows
end Go.Proofs.Ytemimkbngfbomaa
