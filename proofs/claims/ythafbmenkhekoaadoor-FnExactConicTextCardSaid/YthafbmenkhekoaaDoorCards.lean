/-
  DERIVED. GIVEN WITH THE SEED: THE CARDS: each row of YthafbmenkhekoaaDoorRows.lean that lists a variable, with what it lists TIED to the program's text (the seventh form; the later family's looks); each row that meets fmt, with fmt's text TOLD by the authors' own Lean function (tested against real Go, not proved from fmt's source: count such statements apart). THE CARD IS WHAT COUNTS. Prove the row's statement (the work); the ties are given (YthafbmenkhekoaaDoorTie.lean); close each card by the builder's one call (the guide's Derived/Test/ToyasCard.lean, 'card_holds'). Laid BY PROGRAM, IN A SANDBOX (cutbox-door.mjs). By AI agents, Wed Nov 11 2026. No macro, syntax, notation, axiom, sorry.
-/
import Derived.Test.YthafbmenkhekoaaDoorRows
import GoSem.ClaimSeven
namespace Go.Proofs.YthafbmenkhekoaaDoor
namespace Rows

/-- THE TIED CARD OF 'laws.FnExactPointText'. -/
def fnExactPointTextCard : Claim7 := { stood := { row := fnExactPointTextRow, standIns := [], harness := (true, "e68a46e22d3f20fd77a0e4b679a216233a196b9cdb78e1a93773e41617bddefd"), looks := true }, kinds := [], alts := [], laidByText := true, laidKinds := [.data, .data, .data], laidTests := true, laidLooks := .later }
def FnExactPointTextCardSaid : Prop := Claim7.holds Tryd.pinned (.plain (OpenSpec.ofChange fnExactPointTextSpec)) fnExactPointTextCard

/-- THE TIED CARD OF 'laws.FnExactConicText'. -/
def fnExactConicTextCard : Claim7 := { stood := { row := fnExactConicTextRow, standIns := [], harness := (true, "e68a46e22d3f20fd77a0e4b679a216233a196b9cdb78e1a93773e41617bddefd"), looks := true }, kinds := [], alts := [], laidByText := true, laidKinds := [.data, .data, .data], laidTests := true, laidLooks := .later }
def FnExactConicTextCardSaid : Prop := Claim7.holds Tryd.pinned (.plain (OpenSpec.ofChange fnExactConicTextSpec)) fnExactConicTextCard

/-- THE TIED CARD OF 'laws.FnExactParsePoint'. -/
def fnExactParsePointCard : Claim7 := { stood := { row := fnExactParsePointRow, standIns := [], harness := (true, "e68a46e22d3f20fd77a0e4b679a216233a196b9cdb78e1a93773e41617bddefd"), looks := true }, kinds := [], alts := [], laidByText := true, laidKinds := [.data, .data, .data, .data, .sentinel, .sentinel, .pinned], laidTests := true, laidLooks := .later }
def FnExactParsePointCardSaid : Prop := Claim7.holds Tryd.pinned (.plain (OpenSpec.ofChange fnExactParsePointSpec)) fnExactParsePointCard

/-- THE SECOND FORM's CARD OF 'laws.FnExactPointText'. -/
def fnExactPointTextUptoCard : Claim7 := { stood := { row := fnExactPointTextUptoRow, standIns := [], harness := (true, "e68a46e22d3f20fd77a0e4b679a216233a196b9cdb78e1a93773e41617bddefd"), looks := true }, kinds := [], alts := [], laidByText := true, laidKinds := [.data, .data, .data], laidTests := true, laidLooks := .later }
def FnExactPointTextUptoCardSaid : Prop := Claim7.holds Tryd.pinned (.plain (OpenSpec.upto fnExactPointTextSpec)) fnExactPointTextUptoCard

/-- THE SECOND FORM's CARD OF 'laws.FnExactConicText'. -/
def fnExactConicTextUptoCard : Claim7 := { stood := { row := fnExactConicTextUptoRow, standIns := [], harness := (true, "e68a46e22d3f20fd77a0e4b679a216233a196b9cdb78e1a93773e41617bddefd"), looks := true }, kinds := [], alts := [], laidByText := true, laidKinds := [.data, .data, .data], laidTests := true, laidLooks := .later }
def FnExactConicTextUptoCardSaid : Prop := Claim7.holds Tryd.pinned (.plain (OpenSpec.upto fnExactConicTextSpec)) fnExactConicTextUptoCard

/-- THE SECOND FORM's CARD OF 'laws.FnExactParsePoint'. -/
def fnExactParsePointUptoCard : Claim7 := { stood := { row := fnExactParsePointUptoRow, standIns := [], harness := (true, "e68a46e22d3f20fd77a0e4b679a216233a196b9cdb78e1a93773e41617bddefd"), looks := true }, kinds := [], alts := [], laidByText := true, laidKinds := [.data, .data, .data, .data, .sentinel, .sentinel, .pinned], laidTests := true, laidLooks := .later }
def FnExactParsePointUptoCardSaid : Prop := Claim7.holds Tryd.pinned (.plain (OpenSpec.upto fnExactParsePointSpec)) fnExactParsePointUptoCard
end Rows
end Go.Proofs.YthafbmenkhekoaaDoor
