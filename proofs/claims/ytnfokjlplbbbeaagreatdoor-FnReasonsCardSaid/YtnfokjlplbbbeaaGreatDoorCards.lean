/-
  DERIVED. GIVEN WITH THE SEED: THE CARDS: each row of YtnfokjlplbbbeaaGreatDoorRows.lean that lists a variable, with what it lists TIED to the program's text (the seventh form; the later family's looks); each row that meets fmt, with fmt's text TOLD by the authors' own Lean function (tested against real Go, not proved from fmt's source: count such statements apart). THE CARD IS WHAT COUNTS. Prove the row's statement (the work); the ties are given (YtnfokjlplbbbeaaGreatDoorTie.lean); close each card by the builder's one call (the guide's Derived/Test/ToyasCard.lean, 'card_holds'). Laid BY PROGRAM, IN A SANDBOX (cutbox-door.mjs). By AI agents, Wed Nov 11 2026. No macro, syntax, notation, axiom, sorry.
-/
import Derived.Test.YtnfokjlplbbbeaaGreatDoorRows
import GoSem.ClaimSeven
namespace Go.Proofs.YtnfokjlplbbbeaaGreatDoor
namespace Rows

/-- THE TIED CARD OF 'laws.FnExactClassOf'. -/
def fnExactClassOfCard : Claim7 := { stood := { row := fnExactClassOfRow, standIns := [], harness := (true, "ccb32c339864c007ab0eb9ce6d104560e6c8e4a25fdb43f526eb96ec8576963c"), looks := true }, kinds := [], alts := [], laidByText := true, laidKinds := [.data, .data, .data, .sentinel, .sentinel], laidTests := true, laidLooks := .later }
def FnExactClassOfCardSaid : Prop := Claim7.holds Tryz.pinned (.plain (OpenSpec.ofChange fnExactClassOfSpec)) fnExactClassOfCard

/-- THE TIED CARD OF 'laws.FnReasons'. -/
def fnReasonsCard : Claim7 := { stood := { row := fnReasonsRow, standIns := [], harness := (true, "ccb32c339864c007ab0eb9ce6d104560e6c8e4a25fdb43f526eb96ec8576963c"), looks := true }, kinds := [], alts := [], laidByText := true, laidKinds := [.data, .data, .data, .sentinel, .sentinel], laidTests := true, laidLooks := .later }
def FnReasonsCardSaid : Prop := Claim7.holds Tryz.pinned (.plain (OpenSpec.ofChange fnReasonsSpec)) fnReasonsCard

/-- THE SECOND FORM's CARD OF 'laws.FnExactClassOf'. -/
def fnExactClassOfUptoCard : Claim7 := { stood := { row := fnExactClassOfUptoRow, standIns := [], harness := (true, "ccb32c339864c007ab0eb9ce6d104560e6c8e4a25fdb43f526eb96ec8576963c"), looks := true }, kinds := [], alts := [], laidByText := true, laidKinds := [.data, .data, .data, .sentinel, .sentinel], laidTests := true, laidLooks := .later }
def FnExactClassOfUptoCardSaid : Prop := Claim7.holds Tryz.pinned (.plain (OpenSpec.upto fnExactClassOfSpec)) fnExactClassOfUptoCard

/-- THE SECOND FORM's CARD OF 'laws.FnReasons'. -/
def fnReasonsUptoCard : Claim7 := { stood := { row := fnReasonsUptoRow, standIns := [], harness := (true, "ccb32c339864c007ab0eb9ce6d104560e6c8e4a25fdb43f526eb96ec8576963c"), looks := true }, kinds := [], alts := [], laidByText := true, laidKinds := [.data, .data, .data, .sentinel, .sentinel], laidTests := true, laidLooks := .later }
def FnReasonsUptoCardSaid : Prop := Claim7.holds Tryz.pinned (.plain (OpenSpec.upto fnReasonsSpec)) fnReasonsUptoCard
end Rows
end Go.Proofs.YtnfokjlplbbbeaaGreatDoor
