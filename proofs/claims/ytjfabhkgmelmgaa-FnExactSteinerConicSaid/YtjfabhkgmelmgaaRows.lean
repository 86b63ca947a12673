/-
  No cell of these rows narrows 'for every input' (looked for: loops, veiled, ifaces, maps, wideKeys, modest, calm, conditions, laid).
  DERIVED. THE GIVEN ROWS OF THIS SEAT. 10 by the template 'for every input the law returns true; each argument reads behind the call as it read before'; 0 by the template 'total and deterministic' (their statements: YtjfabhkgmelmgaaTotals.lean).
  GIVEN WITH THE SEED: the statements are not yours to turn. If you find one false, say at which input.
  Laid BY PROGRAM, IN A SANDBOX (cutbox-rows.mjs): the forced cells as the released guide's own fill.sh prints them over the translation 15fc3f50b1c2af95… (all of the seat's roots in one cut). By AI agents, Wed Nov 11 2026. No macro, syntax, notation, axiom, sorry.
-/
import Derived.Test.YtjfabhkgmelmgaaChecked
import GoSem.Claim
import GoSem.ClaimJoined
import GoSem.ClaimMapViews
import Derived.JoinedTies
import Derived.KernelRfl
namespace Go.Proofs.Ytjfabhkgmelmgaa
/- THE CELL 'sum', in the pinned program and in every row, IS THE sha256 OF THE DUMP (.gsa) THAT YtjfabhkgmelmgaaProg.lean LOADS. Nothing in Lean hashes anything: it is a label: what it is worth is what the hold of that sum in a sandbox is worth. -/
noncomputable def Try.pinned : Pinned := { name := "ytjfabhkgmelmgaa", sum := "15fc3f50b1c2af95f3684b7418e89da9eb66241c258e3846811c419c4803c94a", checked := Try.checked }
namespace Rows
def none {H : Type} : Left H := { results := [], args := [] }

/-- 'laws.FnExactReduceRows': WHATEVER THE INPUT: true; the input reads as it did. -/
def fnExactReduceRowsSpec : ChangeSpec := { name := "fnExactReduceRows", fn := fun _ => fun
  | [d1, d2, d3] => { results := [.lit (.bool true)], args := [d1, d2, d3] }
  | _ => none }
def fnExactReduceRowsRow : OpenClaim := { program := "ytjfabhkgmelmgaa", sum := "15fc3f50b1c2af95f3684b7418e89da9eb66241c258e3846811c419c4803c94a", func := "loop.example/g01310/laws.FnExactReduceRows", spec := "fnExactReduceRows", apart := false }
def FnExactReduceRowsSaid : Prop := fnExactReduceRowsRow.holds Try.pinned (OpenSpec.ofChange fnExactReduceRowsSpec)

/-- ITS FALSE NEIGHBOUR: 'it returns false'. Refute it at one input. -/
def fnExactReduceRowsWrong : ChangeSpec := { name := "fnExactReduceRows", fn := fun _ => fun
  | [d1, d2, d3] => { results := [.lit (.bool false)], args := [d1, d2, d3] }
  | _ => none }
def FnExactReduceRowsWrongFalsely : Prop := fnExactReduceRowsRow.holds Try.pinned (OpenSpec.ofChange fnExactReduceRowsWrong)

/-- 'laws.FnExactMapOf': WHATEVER THE INPUT: true; the input reads as it did. -/
def fnExactMapOfSpec : ChangeSpec := { name := "fnExactMapOf", fn := fun _ => fun
  | [d1, d2] => { results := [.lit (.bool true)], args := [d1, d2] }
  | _ => none }
def fnExactMapOfRow : OpenClaim := { program := "ytjfabhkgmelmgaa", sum := "15fc3f50b1c2af95f3684b7418e89da9eb66241c258e3846811c419c4803c94a", func := "loop.example/g01310/laws.FnExactMapOf", spec := "fnExactMapOf", apart := false }
def FnExactMapOfSaid : Prop := fnExactMapOfRow.holds Try.pinned (OpenSpec.ofChange fnExactMapOfSpec)

/-- ITS FALSE NEIGHBOUR: 'it returns false'. Refute it at one input. -/
def fnExactMapOfWrong : ChangeSpec := { name := "fnExactMapOf", fn := fun _ => fun
  | [d1, d2] => { results := [.lit (.bool false)], args := [d1, d2] }
  | _ => none }
def FnExactMapOfWrongFalsely : Prop := fnExactMapOfRow.holds Try.pinned (OpenSpec.ofChange fnExactMapOfWrong)

/-- 'laws.FnExactMapOfFrames': WHATEVER THE INPUT: true; the input reads as it did. -/
def fnExactMapOfFramesSpec : ChangeSpec := { name := "fnExactMapOfFrames", fn := fun _ => fun
  | [d1, d2, d3] => { results := [.lit (.bool true)], args := [d1, d2, d3] }
  | _ => none }
def fnExactMapOfFramesRow : OpenClaim := { program := "ytjfabhkgmelmgaa", sum := "15fc3f50b1c2af95f3684b7418e89da9eb66241c258e3846811c419c4803c94a", func := "loop.example/g01310/laws.FnExactMapOfFrames", spec := "fnExactMapOfFrames", unfollowed := true, recurses := true, apart := false }
def FnExactMapOfFramesSaid : Prop := fnExactMapOfFramesRow.holds Try.pinned (OpenSpec.ofChange fnExactMapOfFramesSpec)

/-- ITS FALSE NEIGHBOUR: 'it returns false'. Refute it at one input. -/
def fnExactMapOfFramesWrong : ChangeSpec := { name := "fnExactMapOfFrames", fn := fun _ => fun
  | [d1, d2, d3] => { results := [.lit (.bool false)], args := [d1, d2, d3] }
  | _ => none }
def FnExactMapOfFramesWrongFalsely : Prop := fnExactMapOfFramesRow.holds Try.pinned (OpenSpec.ofChange fnExactMapOfFramesWrong)

/-- 'laws.FnExactConicThrough': WHATEVER THE INPUT: true; the input reads as it did. -/
def fnExactConicThroughSpec : ChangeSpec := { name := "fnExactConicThrough", fn := fun _ => fun
  | [d1, d2] => { results := [.lit (.bool true)], args := [d1, d2] }
  | _ => none }
def fnExactConicThroughRow : OpenClaim := { program := "ytjfabhkgmelmgaa", sum := "15fc3f50b1c2af95f3684b7418e89da9eb66241c258e3846811c419c4803c94a", func := "loop.example/g01310/laws.FnExactConicThrough", spec := "fnExactConicThrough", unfollowed := true, recurses := true, apart := false }
def FnExactConicThroughSaid : Prop := fnExactConicThroughRow.holds Try.pinned (OpenSpec.ofChange fnExactConicThroughSpec)

/-- ITS FALSE NEIGHBOUR: 'it returns false'. Refute it at one input. -/
def fnExactConicThroughWrong : ChangeSpec := { name := "fnExactConicThrough", fn := fun _ => fun
  | [d1, d2] => { results := [.lit (.bool false)], args := [d1, d2] }
  | _ => none }
def FnExactConicThroughWrongFalsely : Prop := fnExactConicThroughRow.holds Try.pinned (OpenSpec.ofChange fnExactConicThroughWrong)

/-- 'laws.FnExactPencilThrough': WHATEVER THE INPUT: true; the input reads as it did. -/
def fnExactPencilThroughSpec : ChangeSpec := { name := "fnExactPencilThrough", fn := fun _ => fun
  | [d1, d2] => { results := [.lit (.bool true)], args := [d1, d2] }
  | _ => none }
def fnExactPencilThroughRow : OpenClaim := { program := "ytjfabhkgmelmgaa", sum := "15fc3f50b1c2af95f3684b7418e89da9eb66241c258e3846811c419c4803c94a", func := "loop.example/g01310/laws.FnExactPencilThrough", spec := "fnExactPencilThrough", unfollowed := true, recurses := true, apart := false }
def FnExactPencilThroughSaid : Prop := fnExactPencilThroughRow.holds Try.pinned (OpenSpec.ofChange fnExactPencilThroughSpec)

/-- ITS FALSE NEIGHBOUR: 'it returns false'. Refute it at one input. -/
def fnExactPencilThroughWrong : ChangeSpec := { name := "fnExactPencilThrough", fn := fun _ => fun
  | [d1, d2] => { results := [.lit (.bool false)], args := [d1, d2] }
  | _ => none }
def FnExactPencilThroughWrongFalsely : Prop := fnExactPencilThroughRow.holds Try.pinned (OpenSpec.ofChange fnExactPencilThroughWrong)

/-- 'laws.FnExactLineAtPlace': WHATEVER THE INPUT: true; the input reads as it did. -/
def fnExactLineAtPlaceSpec : ChangeSpec := { name := "fnExactLineAtPlace", fn := fun _ => fun
  | [d1, d2, d3] => { results := [.lit (.bool true)], args := [d1, d2, d3] }
  | _ => none }
def fnExactLineAtPlaceRow : OpenClaim := { program := "ytjfabhkgmelmgaa", sum := "15fc3f50b1c2af95f3684b7418e89da9eb66241c258e3846811c419c4803c94a", func := "loop.example/g01310/laws.FnExactLineAtPlace", spec := "fnExactLineAtPlace", unfollowed := true, recurses := true, apart := false }
def FnExactLineAtPlaceSaid : Prop := fnExactLineAtPlaceRow.holds Try.pinned (OpenSpec.ofChange fnExactLineAtPlaceSpec)

/-- ITS FALSE NEIGHBOUR: 'it returns false'. Refute it at one input. -/
def fnExactLineAtPlaceWrong : ChangeSpec := { name := "fnExactLineAtPlace", fn := fun _ => fun
  | [d1, d2, d3] => { results := [.lit (.bool false)], args := [d1, d2, d3] }
  | _ => none }
def FnExactLineAtPlaceWrongFalsely : Prop := fnExactLineAtPlaceRow.holds Try.pinned (OpenSpec.ofChange fnExactLineAtPlaceWrong)

/-- 'laws.FnExactSteinerConic': WHATEVER THE INPUT: true; the input reads as it did. -/
def fnExactSteinerConicSpec : ChangeSpec := { name := "fnExactSteinerConic", fn := fun _ => fun
  | [d1, d2, d3, d4] => { results := [.lit (.bool true)], args := [d1, d2, d3, d4] }
  | _ => none }
def fnExactSteinerConicRow : OpenClaim := { program := "ytjfabhkgmelmgaa", sum := "15fc3f50b1c2af95f3684b7418e89da9eb66241c258e3846811c419c4803c94a", func := "loop.example/g01310/laws.FnExactSteinerConic", spec := "fnExactSteinerConic", unfollowed := true, recurses := true, apart := false }
def FnExactSteinerConicSaid : Prop := fnExactSteinerConicRow.holds Try.pinned (OpenSpec.ofChange fnExactSteinerConicSpec)

/-- ITS FALSE NEIGHBOUR: 'it returns false'. Refute it at one input. -/
def fnExactSteinerConicWrong : ChangeSpec := { name := "fnExactSteinerConic", fn := fun _ => fun
  | [d1, d2, d3, d4] => { results := [.lit (.bool false)], args := [d1, d2, d3, d4] }
  | _ => none }
def FnExactSteinerConicWrongFalsely : Prop := fnExactSteinerConicRow.holds Try.pinned (OpenSpec.ofChange fnExactSteinerConicWrong)

/-- 'laws.FnExactPerspectivityOf': WHATEVER THE INPUT: true; the input reads as it did. -/
def fnExactPerspectivityOfSpec : ChangeSpec := { name := "fnExactPerspectivityOf", fn := fun _ => fun
  | [d1, d2] => { results := [.lit (.bool true)], args := [d1, d2] }
  | _ => none }
def fnExactPerspectivityOfRow : OpenClaim := { program := "ytjfabhkgmelmgaa", sum := "15fc3f50b1c2af95f3684b7418e89da9eb66241c258e3846811c419c4803c94a", func := "loop.example/g01310/laws.FnExactPerspectivityOf", spec := "fnExactPerspectivityOf", unfollowed := true, recurses := true, apart := false }
def FnExactPerspectivityOfSaid : Prop := fnExactPerspectivityOfRow.holds Try.pinned (OpenSpec.ofChange fnExactPerspectivityOfSpec)

/-- ITS FALSE NEIGHBOUR: 'it returns false'. Refute it at one input. -/
def fnExactPerspectivityOfWrong : ChangeSpec := { name := "fnExactPerspectivityOf", fn := fun _ => fun
  | [d1, d2] => { results := [.lit (.bool false)], args := [d1, d2] }
  | _ => none }
def FnExactPerspectivityOfWrongFalsely : Prop := fnExactPerspectivityOfRow.holds Try.pinned (OpenSpec.ofChange fnExactPerspectivityOfWrong)

/-- 'laws.FnExactPerspectivityBy': WHATEVER THE INPUT: true; the input reads as it did. -/
def fnExactPerspectivityBySpec : ChangeSpec := { name := "fnExactPerspectivityBy", fn := fun _ => fun
  | [d1, d2, d3, d4, d5] => { results := [.lit (.bool true)], args := [d1, d2, d3, d4, d5] }
  | _ => none }
def fnExactPerspectivityByRow : OpenClaim := { program := "ytjfabhkgmelmgaa", sum := "15fc3f50b1c2af95f3684b7418e89da9eb66241c258e3846811c419c4803c94a", func := "loop.example/g01310/laws.FnExactPerspectivityBy", spec := "fnExactPerspectivityBy", unfollowed := true, recurses := true, apart := false }
def FnExactPerspectivityBySaid : Prop := fnExactPerspectivityByRow.holds Try.pinned (OpenSpec.ofChange fnExactPerspectivityBySpec)

/-- ITS FALSE NEIGHBOUR: 'it returns false'. Refute it at one input. -/
def fnExactPerspectivityByWrong : ChangeSpec := { name := "fnExactPerspectivityBy", fn := fun _ => fun
  | [d1, d2, d3, d4, d5] => { results := [.lit (.bool false)], args := [d1, d2, d3, d4, d5] }
  | _ => none }
def FnExactPerspectivityByWrongFalsely : Prop := fnExactPerspectivityByRow.holds Try.pinned (OpenSpec.ofChange fnExactPerspectivityByWrong)

/-- 'laws.FnExactAreSamePencils': WHATEVER THE INPUT: true; the input reads as it did. -/
def fnExactAreSamePencilsSpec : ChangeSpec := { name := "fnExactAreSamePencils", fn := fun _ => fun
  | [d1, d2, d3, d4, d5] => { results := [.lit (.bool true)], args := [d1, d2, d3, d4, d5] }
  | _ => none }
def fnExactAreSamePencilsRow : OpenClaim := { program := "ytjfabhkgmelmgaa", sum := "15fc3f50b1c2af95f3684b7418e89da9eb66241c258e3846811c419c4803c94a", func := "loop.example/g01310/laws.FnExactAreSamePencils", spec := "fnExactAreSamePencils", unfollowed := true, recurses := true, apart := false }
def FnExactAreSamePencilsSaid : Prop := fnExactAreSamePencilsRow.holds Try.pinned (OpenSpec.ofChange fnExactAreSamePencilsSpec)

/-- ITS FALSE NEIGHBOUR: 'it returns false'. Refute it at one input. -/
def fnExactAreSamePencilsWrong : ChangeSpec := { name := "fnExactAreSamePencils", fn := fun _ => fun
  | [d1, d2, d3, d4, d5] => { results := [.lit (.bool false)], args := [d1, d2, d3, d4, d5] }
  | _ => none }
def FnExactAreSamePencilsWrongFalsely : Prop := fnExactAreSamePencilsRow.holds Try.pinned (OpenSpec.ofChange fnExactAreSamePencilsWrong)

/- THE SECOND FORM. 'bulk': how many values and letters a reading holds, each counted each time it is reached (what is shared counts as often as it is met; a slice's spare places count too). A statement '..UptoSaid' is the law's where the arguments, and the package variables that the reading takes, are together of bulk at most 1048576: NARROWER than '..Said'. Prove '..Said' where nothing that the law and all that it calls make is longer than what came in: it says more and counts as full. Else prove '..UptoSaid'. A law counts once. -/
mutual
def uptoBulk {H : Type} : DataW H → Nat
  | .lit (.string bytes) => bytes.length + 1
  | .lit _ => 1
  | .nil => 1
  | .ptr d => uptoBulk d + 1
  | .slice elems spare => uptoBulkAll elems + uptoBulkAll spare + 1
  | .agg parts => uptoBulkAll parts + 1
  | .iface _ d => uptoBulk d + 1
  | .map entries => uptoBulkEntries entries + 1
  | .held _ => 1
def uptoBulkAll {H : Type} : List (DataW H) → Nat
  | [] => 0
  | d :: r => uptoBulk d + uptoBulkAll r
def uptoBulkEntries {H : Type} : List (Lit × DataW H) → Nat
  | [] => 0
  | x :: r => uptoBulkEntry x + uptoBulkEntries r
def uptoBulkEntry {H : Type} : Lit × DataW H → Nat
  | (.string bytes, d) => bytes.length + uptoBulk d + 1
  | (_, d) => uptoBulk d + 1
 end
def uptoSmall : (H : Type) → List (DataW H) → Bool := fun _ ds => decide (uptoBulkAll ds ≤ 1048576)
def OpenSpec.upto (s : _root_.Go.ChangeSpec) : _root_.Go.OpenSpec := { _root_.Go.OpenSpec.ofChange s with cond := some uptoSmall }

/-- 'laws.FnExactReduceRows', WHERE WHAT IT READS IS OF BULK AT MOST 1048576: true; the input reads as it did. -/
def fnExactReduceRowsUptoRow : OpenClaim := { program := "ytjfabhkgmelmgaa", sum := "15fc3f50b1c2af95f3684b7418e89da9eb66241c258e3846811c419c4803c94a", func := "loop.example/g01310/laws.FnExactReduceRows", spec := "fnExactReduceRows", apart := false, narrowed := true }
def FnExactReduceRowsUptoSaid : Prop := fnExactReduceRowsUptoRow.holds Try.pinned (OpenSpec.upto fnExactReduceRowsSpec)

/-- 'laws.FnExactMapOf', WHERE WHAT IT READS IS OF BULK AT MOST 1048576: true; the input reads as it did. -/
def fnExactMapOfUptoRow : OpenClaim := { program := "ytjfabhkgmelmgaa", sum := "15fc3f50b1c2af95f3684b7418e89da9eb66241c258e3846811c419c4803c94a", func := "loop.example/g01310/laws.FnExactMapOf", spec := "fnExactMapOf", apart := false, narrowed := true }
def FnExactMapOfUptoSaid : Prop := fnExactMapOfUptoRow.holds Try.pinned (OpenSpec.upto fnExactMapOfSpec)

/-- 'laws.FnExactMapOfFrames', WHERE WHAT IT READS IS OF BULK AT MOST 1048576: true; the input reads as it did. -/
def fnExactMapOfFramesUptoRow : OpenClaim := { program := "ytjfabhkgmelmgaa", sum := "15fc3f50b1c2af95f3684b7418e89da9eb66241c258e3846811c419c4803c94a", func := "loop.example/g01310/laws.FnExactMapOfFrames", spec := "fnExactMapOfFrames", unfollowed := true, recurses := true, apart := false, narrowed := true }
def FnExactMapOfFramesUptoSaid : Prop := fnExactMapOfFramesUptoRow.holds Try.pinned (OpenSpec.upto fnExactMapOfFramesSpec)

/-- 'laws.FnExactConicThrough', WHERE WHAT IT READS IS OF BULK AT MOST 1048576: true; the input reads as it did. -/
def fnExactConicThroughUptoRow : OpenClaim := { program := "ytjfabhkgmelmgaa", sum := "15fc3f50b1c2af95f3684b7418e89da9eb66241c258e3846811c419c4803c94a", func := "loop.example/g01310/laws.FnExactConicThrough", spec := "fnExactConicThrough", unfollowed := true, recurses := true, apart := false, narrowed := true }
def FnExactConicThroughUptoSaid : Prop := fnExactConicThroughUptoRow.holds Try.pinned (OpenSpec.upto fnExactConicThroughSpec)

/-- 'laws.FnExactPencilThrough', WHERE WHAT IT READS IS OF BULK AT MOST 1048576: true; the input reads as it did. -/
def fnExactPencilThroughUptoRow : OpenClaim := { program := "ytjfabhkgmelmgaa", sum := "15fc3f50b1c2af95f3684b7418e89da9eb66241c258e3846811c419c4803c94a", func := "loop.example/g01310/laws.FnExactPencilThrough", spec := "fnExactPencilThrough", unfollowed := true, recurses := true, apart := false, narrowed := true }
def FnExactPencilThroughUptoSaid : Prop := fnExactPencilThroughUptoRow.holds Try.pinned (OpenSpec.upto fnExactPencilThroughSpec)

/-- 'laws.FnExactLineAtPlace', WHERE WHAT IT READS IS OF BULK AT MOST 1048576: true; the input reads as it did. -/
def fnExactLineAtPlaceUptoRow : OpenClaim := { program := "ytjfabhkgmelmgaa", sum := "15fc3f50b1c2af95f3684b7418e89da9eb66241c258e3846811c419c4803c94a", func := "loop.example/g01310/laws.FnExactLineAtPlace", spec := "fnExactLineAtPlace", unfollowed := true, recurses := true, apart := false, narrowed := true }
def FnExactLineAtPlaceUptoSaid : Prop := fnExactLineAtPlaceUptoRow.holds Try.pinned (OpenSpec.upto fnExactLineAtPlaceSpec)

/-- 'laws.FnExactSteinerConic', WHERE WHAT IT READS IS OF BULK AT MOST 1048576: true; the input reads as it did. -/
def fnExactSteinerConicUptoRow : OpenClaim := { program := "ytjfabhkgmelmgaa", sum := "15fc3f50b1c2af95f3684b7418e89da9eb66241c258e3846811c419c4803c94a", func := "loop.example/g01310/laws.FnExactSteinerConic", spec := "fnExactSteinerConic", unfollowed := true, recurses := true, apart := false, narrowed := true }
def FnExactSteinerConicUptoSaid : Prop := fnExactSteinerConicUptoRow.holds Try.pinned (OpenSpec.upto fnExactSteinerConicSpec)

/-- 'laws.FnExactPerspectivityOf', WHERE WHAT IT READS IS OF BULK AT MOST 1048576: true; the input reads as it did. -/
def fnExactPerspectivityOfUptoRow : OpenClaim := { program := "ytjfabhkgmelmgaa", sum := "15fc3f50b1c2af95f3684b7418e89da9eb66241c258e3846811c419c4803c94a", func := "loop.example/g01310/laws.FnExactPerspectivityOf", spec := "fnExactPerspectivityOf", unfollowed := true, recurses := true, apart := false, narrowed := true }
def FnExactPerspectivityOfUptoSaid : Prop := fnExactPerspectivityOfUptoRow.holds Try.pinned (OpenSpec.upto fnExactPerspectivityOfSpec)

/-- 'laws.FnExactPerspectivityBy', WHERE WHAT IT READS IS OF BULK AT MOST 1048576: true; the input reads as it did. -/
def fnExactPerspectivityByUptoRow : OpenClaim := { program := "ytjfabhkgmelmgaa", sum := "15fc3f50b1c2af95f3684b7418e89da9eb66241c258e3846811c419c4803c94a", func := "loop.example/g01310/laws.FnExactPerspectivityBy", spec := "fnExactPerspectivityBy", unfollowed := true, recurses := true, apart := false, narrowed := true }
def FnExactPerspectivityByUptoSaid : Prop := fnExactPerspectivityByUptoRow.holds Try.pinned (OpenSpec.upto fnExactPerspectivityBySpec)

/-- 'laws.FnExactAreSamePencils', WHERE WHAT IT READS IS OF BULK AT MOST 1048576: true; the input reads as it did. -/
def fnExactAreSamePencilsUptoRow : OpenClaim := { program := "ytjfabhkgmelmgaa", sum := "15fc3f50b1c2af95f3684b7418e89da9eb66241c258e3846811c419c4803c94a", func := "loop.example/g01310/laws.FnExactAreSamePencils", spec := "fnExactAreSamePencils", unfollowed := true, recurses := true, apart := false, narrowed := true }
def FnExactAreSamePencilsUptoSaid : Prop := fnExactAreSamePencilsUptoRow.holds Try.pinned (OpenSpec.upto fnExactAreSamePencilsSpec)

end Rows
end Go.Proofs.Ytjfabhkgmelmgaa
