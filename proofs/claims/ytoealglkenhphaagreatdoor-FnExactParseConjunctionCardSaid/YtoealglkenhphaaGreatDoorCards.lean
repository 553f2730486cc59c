/-
  DERIVED. GIVEN WITH THE SEED: THE CARDS: each row of YtoealglkenhphaaGreatDoorRows.lean that lists a variable, with what it lists TIED to the program's text (the seventh form; the later family's looks); each row that meets fmt, with fmt's text TOLD by the authors' own Lean function (tested against real Go, not proved from fmt's source: count such statements apart). THE CARD IS WHAT COUNTS. Prove the row's statement (the work); the ties are given (YtoealglkenhphaaGreatDoorTie.lean); close each card by the builder's one call (the guide's Derived/Test/ToyasCard.lean, 'card_holds'). Laid BY PROGRAM, IN A SANDBOX (cutbox-door.mjs). By AI agents, Wed Nov 11 2026. No macro, syntax, notation, axiom, sorry.
-/
import Derived.Test.YtoealglkenhphaaGreatDoorRows
import GoSem.ClaimSeven
namespace Go.Proofs.YtoealglkenhphaaGreatDoor
namespace Rows

/-- THE TIED CARD OF 'laws.FnExactParseConjunction'. -/
def fnExactParseConjunctionCard : Claim7 := { stood := { row := fnExactParseConjunctionRow, standIns := [], harness := (true, "a299283a31d4a2451c7152222891fd165f253e9243022ab0ed7cc890abb67b88"), looks := true }, kinds := [], alts := [], laidByText := true, laidKinds := [.data, .data, .data, .data, .sentinel, .sentinel, .pinned], laidTests := true, laidLooks := .later }
def FnExactParseConjunctionCardSaid : Prop := Claim7.holds Tryz.pinned (.plain (OpenSpec.ofChange fnExactParseConjunctionSpec)) fnExactParseConjunctionCard

/-- THE SECOND FORM's CARD OF 'laws.FnExactParseConjunction'. -/
def fnExactParseConjunctionUptoCard : Claim7 := { stood := { row := fnExactParseConjunctionUptoRow, standIns := [], harness := (true, "a299283a31d4a2451c7152222891fd165f253e9243022ab0ed7cc890abb67b88"), looks := true }, kinds := [], alts := [], laidByText := true, laidKinds := [.data, .data, .data, .data, .sentinel, .sentinel, .pinned], laidTests := true, laidLooks := .later }
def FnExactParseConjunctionUptoCardSaid : Prop := Claim7.holds Tryz.pinned (.plain (OpenSpec.upto fnExactParseConjunctionSpec)) fnExactParseConjunctionUptoCard
end Rows
end Go.Proofs.YtoealglkenhphaaGreatDoor
