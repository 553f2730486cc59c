/-
  DERIVED. GIVEN WITH THE SEED: THE CARDS: each row of YtbkhopfpejhnlaaGreatDoorRows.lean that lists a variable, with what it lists TIED to the program's text (the seventh form; the later family's looks); each row that meets fmt, with fmt's text TOLD by the authors' own Lean function (tested against real Go, not proved from fmt's source: count such statements apart). THE CARD IS WHAT COUNTS. Prove the row's statement (the work); the ties are given (YtbkhopfpejhnlaaGreatDoorTie.lean); close each card by the builder's one call (the guide's Derived/Test/ToyasCard.lean, 'card_holds'). Laid BY PROGRAM, IN A SANDBOX (cutbox-door.mjs). By AI agents, Wed Nov 11 2026. No macro, syntax, notation, axiom, sorry.
-/
import Derived.Test.YtbkhopfpejhnlaaGreatDoorRows
import GoSem.ClaimSeven
namespace Go.Proofs.YtbkhopfpejhnlaaGreatDoor
namespace Rows

/-- THE TIED CARD OF 'laws.FnDeltas'. -/
def fnDeltasCard : Claim7 := { stood := { row := fnDeltasRow, standIns := [], harness := (true, "82fb585b56f0825df3b7514f9c1cffea2ab64ae61400bd5a618f11e6dec062eb"), looks := true }, kinds := [], alts := [], laidByText := true, laidKinds := [.data, .data, .data, .data, .pinned], laidTests := true, laidLooks := .later }
def FnDeltasCardSaid : Prop := Claim7.holds Tryz.pinned (.plain (OpenSpec.ofChange fnDeltasSpec)) fnDeltasCard

/-- THE TIED CARD OF 'laws.FnLog'. -/
def fnLogCard : Claim7 := { stood := { row := fnLogRow, standIns := [], harness := (true, "82fb585b56f0825df3b7514f9c1cffea2ab64ae61400bd5a618f11e6dec062eb"), looks := true }, kinds := [], alts := [], laidByText := true, laidKinds := [.data, .data, .data, .data, .sentinel, .sentinel, .pinned], laidTests := true, laidLooks := .later }
def FnLogCardSaid : Prop := Claim7.holds Tryz.pinned (.plain (OpenSpec.ofChange fnLogSpec)) fnLogCard

/-- THE SECOND FORM's CARD OF 'laws.FnDeltas'. -/
def fnDeltasUptoCard : Claim7 := { stood := { row := fnDeltasUptoRow, standIns := [], harness := (true, "82fb585b56f0825df3b7514f9c1cffea2ab64ae61400bd5a618f11e6dec062eb"), looks := true }, kinds := [], alts := [], laidByText := true, laidKinds := [.data, .data, .data, .data, .pinned], laidTests := true, laidLooks := .later }
def FnDeltasUptoCardSaid : Prop := Claim7.holds Tryz.pinned (.plain (OpenSpec.upto fnDeltasSpec)) fnDeltasUptoCard

/-- THE SECOND FORM's CARD OF 'laws.FnLog'. -/
def fnLogUptoCard : Claim7 := { stood := { row := fnLogUptoRow, standIns := [], harness := (true, "82fb585b56f0825df3b7514f9c1cffea2ab64ae61400bd5a618f11e6dec062eb"), looks := true }, kinds := [], alts := [], laidByText := true, laidKinds := [.data, .data, .data, .data, .sentinel, .sentinel, .pinned], laidTests := true, laidLooks := .later }
def FnLogUptoCardSaid : Prop := Claim7.holds Tryz.pinned (.plain (OpenSpec.upto fnLogSpec)) fnLogUptoCard
end Rows
end Go.Proofs.YtbkhopfpejhnlaaGreatDoor
