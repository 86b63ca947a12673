/-
  No cell of these rows narrows 'for every input' (looked for: loops, veiled, ifaces, maps, wideKeys, modest, calm, conditions, laid).
  DERIVED. THE GIVEN ROWS OF THIS SEAT. 11 by the template 'for every input the law returns true; each argument reads behind the call as it read before'; 0 by the template 'total and deterministic' (their statements: YtllogghbfhdhaaaTotals.lean).
  GIVEN WITH THE SEED: the statements are not yours to turn. If you find one false, say at which input.
  Laid BY PROGRAM, IN A SANDBOX (cutbox-rows.mjs): the forced cells as the released guide's own fill.sh prints them over the translation fe9879d10791a1e4… (all of the seat's roots in one cut). By AI agents, Wed Nov 11 2026. No macro, syntax, notation, axiom, sorry.
-/
import Derived.Test.YtllogghbfhdhaaaChecked
import GoSem.Claim
import GoSem.ClaimJoined
import GoSem.ClaimMapViews
import Derived.JoinedTies
import Derived.KernelRfl
namespace Go.Proofs.Ytllogghbfhdhaaa
/- THE CELL 'sum', in the pinned program and in every row, IS THE sha256 OF THE DUMP (.gsa) THAT YtllogghbfhdhaaaProg.lean LOADS. Nothing in Lean hashes anything: it is a label: what it is worth is what the hold of that sum in a sandbox is worth. -/
noncomputable def Try.pinned : Pinned := { name := "ytllogghbfhdhaaa", sum := "fe9879d10791a1e4ba453881e2814c403d11900d091ef89b6d1789b860cb72fd", checked := Try.checked }
namespace Rows
def none {H : Type} : Left H := { results := [], args := [] }

/-- 'laws.FnExactConstants': WHATEVER THE INPUT: true; the input reads as it did. -/
def fnExactConstantsSpec : ChangeSpec := { name := "fnExactConstants", fn := fun _ => fun
  | [] => { results := [.lit (.bool true)], args := [] }
  | _ => none }
def fnExactConstantsRow : OpenClaim := { program := "ytllogghbfhdhaaa", sum := "fe9879d10791a1e4ba453881e2814c403d11900d091ef89b6d1789b860cb72fd", func := "loop.example/g01310/laws.FnExactConstants", spec := "fnExactConstants", apart := false }
def FnExactConstantsSaid : Prop := fnExactConstantsRow.holds Try.pinned (OpenSpec.ofChange fnExactConstantsSpec)

/-- ITS FALSE NEIGHBOUR: 'it returns false'. Refute it at one input. -/
def fnExactConstantsWrong : ChangeSpec := { name := "fnExactConstants", fn := fun _ => fun
  | [] => { results := [.lit (.bool false)], args := [] }
  | _ => none }
def FnExactConstantsWrongFalsely : Prop := fnExactConstantsRow.holds Try.pinned (OpenSpec.ofChange fnExactConstantsWrong)

/-- 'laws.FnExactIsSquare': WHATEVER THE INPUT: true; the input reads as it did. -/
def fnExactIsSquareSpec : ChangeSpec := { name := "fnExactIsSquare", fn := fun _ => fun
  | [d1, d2] => { results := [.lit (.bool true)], args := [d1, d2] }
  | _ => none }
def fnExactIsSquareRow : OpenClaim := { program := "ytllogghbfhdhaaa", sum := "fe9879d10791a1e4ba453881e2814c403d11900d091ef89b6d1789b860cb72fd", func := "loop.example/g01310/laws.FnExactIsSquare", spec := "fnExactIsSquare", apart := false }
def FnExactIsSquareSaid : Prop := fnExactIsSquareRow.holds Try.pinned (OpenSpec.ofChange fnExactIsSquareSpec)

/-- ITS FALSE NEIGHBOUR: 'it returns false'. Refute it at one input. -/
def fnExactIsSquareWrong : ChangeSpec := { name := "fnExactIsSquare", fn := fun _ => fun
  | [d1, d2] => { results := [.lit (.bool false)], args := [d1, d2] }
  | _ => none }
def FnExactIsSquareWrongFalsely : Prop := fnExactIsSquareRow.holds Try.pinned (OpenSpec.ofChange fnExactIsSquareWrong)

/-- 'laws.FnExactIsPoint': WHATEVER THE INPUT: true; the input reads as it did. -/
def fnExactIsPointSpec : ChangeSpec := { name := "fnExactIsPoint", fn := fun _ => fun
  | [d1, d2] => { results := [.lit (.bool true)], args := [d1, d2] }
  | _ => none }
def fnExactIsPointRow : OpenClaim := { program := "ytllogghbfhdhaaa", sum := "fe9879d10791a1e4ba453881e2814c403d11900d091ef89b6d1789b860cb72fd", func := "loop.example/g01310/laws.FnExactIsPoint", spec := "fnExactIsPoint", apart := false }
def FnExactIsPointSaid : Prop := fnExactIsPointRow.holds Try.pinned (OpenSpec.ofChange fnExactIsPointSpec)

/-- ITS FALSE NEIGHBOUR: 'it returns false'. Refute it at one input. -/
def fnExactIsPointWrong : ChangeSpec := { name := "fnExactIsPoint", fn := fun _ => fun
  | [d1, d2] => { results := [.lit (.bool false)], args := [d1, d2] }
  | _ => none }
def FnExactIsPointWrongFalsely : Prop := fnExactIsPointRow.holds Try.pinned (OpenSpec.ofChange fnExactIsPointWrong)

/-- 'laws.FnExactIsConic': WHATEVER THE INPUT: true; the input reads as it did. -/
def fnExactIsConicSpec : ChangeSpec := { name := "fnExactIsConic", fn := fun _ => fun
  | [d1, d2] => { results := [.lit (.bool true)], args := [d1, d2] }
  | _ => none }
def fnExactIsConicRow : OpenClaim := { program := "ytllogghbfhdhaaa", sum := "fe9879d10791a1e4ba453881e2814c403d11900d091ef89b6d1789b860cb72fd", func := "loop.example/g01310/laws.FnExactIsConic", spec := "fnExactIsConic", apart := false }
def FnExactIsConicSaid : Prop := fnExactIsConicRow.holds Try.pinned (OpenSpec.ofChange fnExactIsConicSpec)

/-- ITS FALSE NEIGHBOUR: 'it returns false'. Refute it at one input. -/
def fnExactIsConicWrong : ChangeSpec := { name := "fnExactIsConic", fn := fun _ => fun
  | [d1, d2] => { results := [.lit (.bool false)], args := [d1, d2] }
  | _ => none }
def FnExactIsConicWrongFalsely : Prop := fnExactIsConicRow.holds Try.pinned (OpenSpec.ofChange fnExactIsConicWrong)

/-- 'laws.FnExactIsLine': WHATEVER THE INPUT: true; the input reads as it did. -/
def fnExactIsLineSpec : ChangeSpec := { name := "fnExactIsLine", fn := fun _ => fun
  | [d1, d2] => { results := [.lit (.bool true)], args := [d1, d2] }
  | _ => none }
def fnExactIsLineRow : OpenClaim := { program := "ytllogghbfhdhaaa", sum := "fe9879d10791a1e4ba453881e2814c403d11900d091ef89b6d1789b860cb72fd", func := "loop.example/g01310/laws.FnExactIsLine", spec := "fnExactIsLine", apart := false }
def FnExactIsLineSaid : Prop := fnExactIsLineRow.holds Try.pinned (OpenSpec.ofChange fnExactIsLineSpec)

/-- ITS FALSE NEIGHBOUR: 'it returns false'. Refute it at one input. -/
def fnExactIsLineWrong : ChangeSpec := { name := "fnExactIsLine", fn := fun _ => fun
  | [d1, d2] => { results := [.lit (.bool false)], args := [d1, d2] }
  | _ => none }
def FnExactIsLineWrongFalsely : Prop := fnExactIsLineRow.holds Try.pinned (OpenSpec.ofChange fnExactIsLineWrong)

/-- 'laws.FnExactIsMoebius': WHATEVER THE INPUT: true; the input reads as it did. -/
def fnExactIsMoebiusSpec : ChangeSpec := { name := "fnExactIsMoebius", fn := fun _ => fun
  | [d1, d2] => { results := [.lit (.bool true)], args := [d1, d2] }
  | _ => none }
def fnExactIsMoebiusRow : OpenClaim := { program := "ytllogghbfhdhaaa", sum := "fe9879d10791a1e4ba453881e2814c403d11900d091ef89b6d1789b860cb72fd", func := "loop.example/g01310/laws.FnExactIsMoebius", spec := "fnExactIsMoebius", apart := false }
def FnExactIsMoebiusSaid : Prop := fnExactIsMoebiusRow.holds Try.pinned (OpenSpec.ofChange fnExactIsMoebiusSpec)

/-- ITS FALSE NEIGHBOUR: 'it returns false'. Refute it at one input. -/
def fnExactIsMoebiusWrong : ChangeSpec := { name := "fnExactIsMoebius", fn := fun _ => fun
  | [d1, d2] => { results := [.lit (.bool false)], args := [d1, d2] }
  | _ => none }
def FnExactIsMoebiusWrongFalsely : Prop := fnExactIsMoebiusRow.holds Try.pinned (OpenSpec.ofChange fnExactIsMoebiusWrong)

/-- 'laws.FnExactAllPoints': WHATEVER THE INPUT: true; the input reads as it did. -/
def fnExactAllPointsSpec : ChangeSpec := { name := "fnExactAllPoints", fn := fun _ => fun
  | [d] => { results := [.lit (.bool true)], args := [d] }
  | _ => none }
def fnExactAllPointsRow : OpenClaim := { program := "ytllogghbfhdhaaa", sum := "fe9879d10791a1e4ba453881e2814c403d11900d091ef89b6d1789b860cb72fd", func := "loop.example/g01310/laws.FnExactAllPoints", spec := "fnExactAllPoints", apart := false }
def FnExactAllPointsSaid : Prop := fnExactAllPointsRow.holds Try.pinned (OpenSpec.ofChange fnExactAllPointsSpec)

/-- ITS FALSE NEIGHBOUR: 'it returns false'. Refute it at one input. -/
def fnExactAllPointsWrong : ChangeSpec := { name := "fnExactAllPoints", fn := fun _ => fun
  | [d] => { results := [.lit (.bool false)], args := [d] }
  | _ => none }
def FnExactAllPointsWrongFalsely : Prop := fnExactAllPointsRow.holds Try.pinned (OpenSpec.ofChange fnExactAllPointsWrong)

/-- 'laws.FnExactAreCollinear': WHATEVER THE INPUT: true; the input reads as it did. -/
def fnExactAreCollinearSpec : ChangeSpec := { name := "fnExactAreCollinear", fn := fun _ => fun
  | [d1, d2, d3, d4] => { results := [.lit (.bool true)], args := [d1, d2, d3, d4] }
  | _ => none }
def fnExactAreCollinearRow : OpenClaim := { program := "ytllogghbfhdhaaa", sum := "fe9879d10791a1e4ba453881e2814c403d11900d091ef89b6d1789b860cb72fd", func := "loop.example/g01310/laws.FnExactAreCollinear", spec := "fnExactAreCollinear", unfollowed := true, recurses := true, apart := false }
def FnExactAreCollinearSaid : Prop := fnExactAreCollinearRow.holds Try.pinned (OpenSpec.ofChange fnExactAreCollinearSpec)

/-- ITS FALSE NEIGHBOUR: 'it returns false'. Refute it at one input. -/
def fnExactAreCollinearWrong : ChangeSpec := { name := "fnExactAreCollinear", fn := fun _ => fun
  | [d1, d2, d3, d4] => { results := [.lit (.bool false)], args := [d1, d2, d3, d4] }
  | _ => none }
def FnExactAreCollinearWrongFalsely : Prop := fnExactAreCollinearRow.holds Try.pinned (OpenSpec.ofChange fnExactAreCollinearWrong)

/-- 'laws.FnExactIsOn': WHATEVER THE INPUT: true; the input reads as it did. -/
def fnExactIsOnSpec : ChangeSpec := { name := "fnExactIsOn", fn := fun _ => fun
  | [d1, d2, d3] => { results := [.lit (.bool true)], args := [d1, d2, d3] }
  | _ => none }
def fnExactIsOnRow : OpenClaim := { program := "ytllogghbfhdhaaa", sum := "fe9879d10791a1e4ba453881e2814c403d11900d091ef89b6d1789b860cb72fd", func := "loop.example/g01310/laws.FnExactIsOn", spec := "fnExactIsOn", unfollowed := true, recurses := true, apart := false }
def FnExactIsOnSaid : Prop := fnExactIsOnRow.holds Try.pinned (OpenSpec.ofChange fnExactIsOnSpec)

/-- ITS FALSE NEIGHBOUR: 'it returns false'. Refute it at one input. -/
def fnExactIsOnWrong : ChangeSpec := { name := "fnExactIsOn", fn := fun _ => fun
  | [d1, d2, d3] => { results := [.lit (.bool false)], args := [d1, d2, d3] }
  | _ => none }
def FnExactIsOnWrongFalsely : Prop := fnExactIsOnRow.holds Try.pinned (OpenSpec.ofChange fnExactIsOnWrong)

/-- 'laws.FnExactIsMap': WHATEVER THE INPUT: true; the input reads as it did. -/
def fnExactIsMapSpec : ChangeSpec := { name := "fnExactIsMap", fn := fun _ => fun
  | [d1, d2] => { results := [.lit (.bool true)], args := [d1, d2] }
  | _ => none }
def fnExactIsMapRow : OpenClaim := { program := "ytllogghbfhdhaaa", sum := "fe9879d10791a1e4ba453881e2814c403d11900d091ef89b6d1789b860cb72fd", func := "loop.example/g01310/laws.FnExactIsMap", spec := "fnExactIsMap", apart := false }
def FnExactIsMapSaid : Prop := fnExactIsMapRow.holds Try.pinned (OpenSpec.ofChange fnExactIsMapSpec)

/-- ITS FALSE NEIGHBOUR: 'it returns false'. Refute it at one input. -/
def fnExactIsMapWrong : ChangeSpec := { name := "fnExactIsMap", fn := fun _ => fun
  | [d1, d2] => { results := [.lit (.bool false)], args := [d1, d2] }
  | _ => none }
def FnExactIsMapWrongFalsely : Prop := fnExactIsMapRow.holds Try.pinned (OpenSpec.ofChange fnExactIsMapWrong)

/-- 'laws.FnExactPointOf': WHATEVER THE INPUT: true; the input reads as it did. -/
def fnExactPointOfSpec : ChangeSpec := { name := "fnExactPointOf", fn := fun _ => fun
  | [d1, d2] => { results := [.lit (.bool true)], args := [d1, d2] }
  | _ => none }
def fnExactPointOfRow : OpenClaim := { program := "ytllogghbfhdhaaa", sum := "fe9879d10791a1e4ba453881e2814c403d11900d091ef89b6d1789b860cb72fd", func := "loop.example/g01310/laws.FnExactPointOf", spec := "fnExactPointOf", apart := false }
def FnExactPointOfSaid : Prop := fnExactPointOfRow.holds Try.pinned (OpenSpec.ofChange fnExactPointOfSpec)

/-- ITS FALSE NEIGHBOUR: 'it returns false'. Refute it at one input. -/
def fnExactPointOfWrong : ChangeSpec := { name := "fnExactPointOf", fn := fun _ => fun
  | [d1, d2] => { results := [.lit (.bool false)], args := [d1, d2] }
  | _ => none }
def FnExactPointOfWrongFalsely : Prop := fnExactPointOfRow.holds Try.pinned (OpenSpec.ofChange fnExactPointOfWrong)

/- THE SECOND FORM. 'bulk': how many values and letters a reading holds, each counted each time it is reached (what is shared counts as often as it is met; a slice's spare places count too). A statement '..UptoSaid' is the law's where the arguments, and the package variables that the reading takes, are together of bulk at most 1048576: NARROWER than '..Said'. Prove '..Said' where nothing that the law and all that it calls make is longer than what came in: it says more and counts as full. Else prove '..UptoSaid'. A law counts once. -/
mutual
def uptoBulk {H : Type} : DataW H → Nat
  | .lit (.string bytes) => bytes.length + 1
  | .lit _ => 1
  | .nil => 1
  | .ptr d => uptoBulk d + 1
  | .slice elems spare => uptoBulkAll elems + uptoBulkAll spare + 1
  | .agg parts => uptoBulkAll parts + 1
  | .iface _ d => uptoBulk d + 1
  | .map entries => uptoBulkEntries entries + 1
  | .held _ => 1
def uptoBulkAll {H : Type} : List (DataW H) → Nat
  | [] => 0
  | d :: r => uptoBulk d + uptoBulkAll r
def uptoBulkEntries {H : Type} : List (Lit × DataW H) → Nat
  | [] => 0
  | x :: r => uptoBulkEntry x + uptoBulkEntries r
def uptoBulkEntry {H : Type} : Lit × DataW H → Nat
  | (.string bytes, d) => bytes.length + uptoBulk d + 1
  | (_, d) => uptoBulk d + 1
 end
def uptoSmall : (H : Type) → List (DataW H) → Bool := fun _ ds => decide (uptoBulkAll ds ≤ 1048576)
def OpenSpec.upto (s : _root_.Go.ChangeSpec) : _root_.Go.OpenSpec := { _root_.Go.OpenSpec.ofChange s with cond := some uptoSmall }

/-- 'laws.FnExactConstants', WHERE WHAT IT READS IS OF BULK AT MOST 1048576: true; the input reads as it did. -/
def fnExactConstantsUptoRow : OpenClaim := { program := "ytllogghbfhdhaaa", sum := "fe9879d10791a1e4ba453881e2814c403d11900d091ef89b6d1789b860cb72fd", func := "loop.example/g01310/laws.FnExactConstants", spec := "fnExactConstants", apart := false, narrowed := true }
def FnExactConstantsUptoSaid : Prop := fnExactConstantsUptoRow.holds Try.pinned (OpenSpec.upto fnExactConstantsSpec)

/-- 'laws.FnExactIsSquare', WHERE WHAT IT READS IS OF BULK AT MOST 1048576: true; the input reads as it did. -/
def fnExactIsSquareUptoRow : OpenClaim := { program := "ytllogghbfhdhaaa", sum := "fe9879d10791a1e4ba453881e2814c403d11900d091ef89b6d1789b860cb72fd", func := "loop.example/g01310/laws.FnExactIsSquare", spec := "fnExactIsSquare", apart := false, narrowed := true }
def FnExactIsSquareUptoSaid : Prop := fnExactIsSquareUptoRow.holds Try.pinned (OpenSpec.upto fnExactIsSquareSpec)

/-- 'laws.FnExactIsPoint', WHERE WHAT IT READS IS OF BULK AT MOST 1048576: true; the input reads as it did. -/
def fnExactIsPointUptoRow : OpenClaim := { program := "ytllogghbfhdhaaa", sum := "fe9879d10791a1e4ba453881e2814c403d11900d091ef89b6d1789b860cb72fd", func := "loop.example/g01310/laws.FnExactIsPoint", spec := "fnExactIsPoint", apart := false, narrowed := true }
def FnExactIsPointUptoSaid : Prop := fnExactIsPointUptoRow.holds Try.pinned (OpenSpec.upto fnExactIsPointSpec)

/-- 'laws.FnExactIsConic', WHERE WHAT IT READS IS OF BULK AT MOST 1048576: true; the input reads as it did. -/
def fnExactIsConicUptoRow : OpenClaim := { program := "ytllogghbfhdhaaa", sum := "fe9879d10791a1e4ba453881e2814c403d11900d091ef89b6d1789b860cb72fd", func := "loop.example/g01310/laws.FnExactIsConic", spec := "fnExactIsConic", apart := false, narrowed := true }
def FnExactIsConicUptoSaid : Prop := fnExactIsConicUptoRow.holds Try.pinned (OpenSpec.upto fnExactIsConicSpec)

/-- 'laws.FnExactIsLine', WHERE WHAT IT READS IS OF BULK AT MOST 1048576: true; the input reads as it did. -/
def fnExactIsLineUptoRow : OpenClaim := { program := "ytllogghbfhdhaaa", sum := "fe9879d10791a1e4ba453881e2814c403d11900d091ef89b6d1789b860cb72fd", func := "loop.example/g01310/laws.FnExactIsLine", spec := "fnExactIsLine", apart := false, narrowed := true }
def FnExactIsLineUptoSaid : Prop := fnExactIsLineUptoRow.holds Try.pinned (OpenSpec.upto fnExactIsLineSpec)

/-- 'laws.FnExactIsMoebius', WHERE WHAT IT READS IS OF BULK AT MOST 1048576: true; the input reads as it did. -/
def fnExactIsMoebiusUptoRow : OpenClaim := { program := "ytllogghbfhdhaaa", sum := "fe9879d10791a1e4ba453881e2814c403d11900d091ef89b6d1789b860cb72fd", func := "loop.example/g01310/laws.FnExactIsMoebius", spec := "fnExactIsMoebius", apart := false, narrowed := true }
def FnExactIsMoebiusUptoSaid : Prop := fnExactIsMoebiusUptoRow.holds Try.pinned (OpenSpec.upto fnExactIsMoebiusSpec)

/-- 'laws.FnExactAllPoints', WHERE WHAT IT READS IS OF BULK AT MOST 1048576: true; the input reads as it did. -/
def fnExactAllPointsUptoRow : OpenClaim := { program := "ytllogghbfhdhaaa", sum := "fe9879d10791a1e4ba453881e2814c403d11900d091ef89b6d1789b860cb72fd", func := "loop.example/g01310/laws.FnExactAllPoints", spec := "fnExactAllPoints", apart := false, narrowed := true }
def FnExactAllPointsUptoSaid : Prop := fnExactAllPointsUptoRow.holds Try.pinned (OpenSpec.upto fnExactAllPointsSpec)

/-- 'laws.FnExactAreCollinear', WHERE WHAT IT READS IS OF BULK AT MOST 1048576: true; the input reads as it did. -/
def fnExactAreCollinearUptoRow : OpenClaim := { program := "ytllogghbfhdhaaa", sum := "fe9879d10791a1e4ba453881e2814c403d11900d091ef89b6d1789b860cb72fd", func := "loop.example/g01310/laws.FnExactAreCollinear", spec := "fnExactAreCollinear", unfollowed := true, recurses := true, apart := false, narrowed := true }
def FnExactAreCollinearUptoSaid : Prop := fnExactAreCollinearUptoRow.holds Try.pinned (OpenSpec.upto fnExactAreCollinearSpec)

/-- 'laws.FnExactIsOn', WHERE WHAT IT READS IS OF BULK AT MOST 1048576: true; the input reads as it did. -/
def fnExactIsOnUptoRow : OpenClaim := { program := "ytllogghbfhdhaaa", sum := "fe9879d10791a1e4ba453881e2814c403d11900d091ef89b6d1789b860cb72fd", func := "loop.example/g01310/laws.FnExactIsOn", spec := "fnExactIsOn", unfollowed := true, recurses := true, apart := false, narrowed := true }
def FnExactIsOnUptoSaid : Prop := fnExactIsOnUptoRow.holds Try.pinned (OpenSpec.upto fnExactIsOnSpec)

/-- 'laws.FnExactIsMap', WHERE WHAT IT READS IS OF BULK AT MOST 1048576: true; the input reads as it did. -/
def fnExactIsMapUptoRow : OpenClaim := { program := "ytllogghbfhdhaaa", sum := "fe9879d10791a1e4ba453881e2814c403d11900d091ef89b6d1789b860cb72fd", func := "loop.example/g01310/laws.FnExactIsMap", spec := "fnExactIsMap", apart := false, narrowed := true }
def FnExactIsMapUptoSaid : Prop := fnExactIsMapUptoRow.holds Try.pinned (OpenSpec.upto fnExactIsMapSpec)

/-- 'laws.FnExactPointOf', WHERE WHAT IT READS IS OF BULK AT MOST 1048576: true; the input reads as it did. -/
def fnExactPointOfUptoRow : OpenClaim := { program := "ytllogghbfhdhaaa", sum := "fe9879d10791a1e4ba453881e2814c403d11900d091ef89b6d1789b860cb72fd", func := "loop.example/g01310/laws.FnExactPointOf", spec := "fnExactPointOf", apart := false, narrowed := true }
def FnExactPointOfUptoSaid : Prop := fnExactPointOfUptoRow.holds Try.pinned (OpenSpec.upto fnExactPointOfSpec)

end Rows
end Go.Proofs.Ytllogghbfhdhaaa
