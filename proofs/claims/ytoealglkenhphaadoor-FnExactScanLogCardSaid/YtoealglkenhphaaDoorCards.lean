/-
  DERIVED. GIVEN WITH THE SEED: THE CARDS: each row of YtoealglkenhphaaDoorRows.lean that lists a variable, with what it lists TIED to the program's text (the seventh form; the later family's looks); each row that meets fmt, with fmt's text TOLD by the authors' own Lean function (tested against real Go, not proved from fmt's source: count such statements apart). THE CARD IS WHAT COUNTS. Prove the row's statement (the work); the ties are given (YtoealglkenhphaaDoorTie.lean); close each card by the builder's one call (the guide's Derived/Test/ToyasCard.lean, 'card_holds'). Laid BY PROGRAM, IN A SANDBOX (cutbox-door.mjs). By AI agents, Wed Nov 11 2026. No macro, syntax, notation, axiom, sorry.
-/
import Derived.Test.YtoealglkenhphaaDoorRows
import GoSem.ClaimSeven
namespace Go.Proofs.YtoealglkenhphaaDoor
namespace Rows

/-- THE TIED CARD OF 'laws.FnExactDecodeRecord'. -/
def fnExactDecodeRecordCard : Claim7 := { stood := { row := fnExactDecodeRecordRow, standIns := [], harness := (true, "5a2797063f33c8d51ce5a3e766d162afb1e20eb68a5159548f9d8f828298a1fc"), looks := true }, kinds := [], alts := [], laidByText := true, laidKinds := [.data, .data, .data, .data, .sentinel, .sentinel, .pinned], laidTests := true, laidLooks := .later }
def FnExactDecodeRecordCardSaid : Prop := Claim7.holds Tryd.pinned (.plain (OpenSpec.ofChange fnExactDecodeRecordSpec)) fnExactDecodeRecordCard

/-- THE TIED CARD OF 'laws.FnExactScanLog'. -/
def fnExactScanLogCard : Claim7 := { stood := { row := fnExactScanLogRow, standIns := [], harness := (true, "5a2797063f33c8d51ce5a3e766d162afb1e20eb68a5159548f9d8f828298a1fc"), looks := true }, kinds := [], alts := [], laidByText := true, laidKinds := [.data, .data, .data, .data, .sentinel, .sentinel, .pinned], laidTests := true, laidLooks := .later }
def FnExactScanLogCardSaid : Prop := Claim7.holds Tryd.pinned (.plain (OpenSpec.ofChange fnExactScanLogSpec)) fnExactScanLogCard

/-- THE SECOND FORM's CARD OF 'laws.FnExactDecodeRecord'. -/
def fnExactDecodeRecordUptoCard : Claim7 := { stood := { row := fnExactDecodeRecordUptoRow, standIns := [], harness := (true, "5a2797063f33c8d51ce5a3e766d162afb1e20eb68a5159548f9d8f828298a1fc"), looks := true }, kinds := [], alts := [], laidByText := true, laidKinds := [.data, .data, .data, .data, .sentinel, .sentinel, .pinned], laidTests := true, laidLooks := .later }
def FnExactDecodeRecordUptoCardSaid : Prop := Claim7.holds Tryd.pinned (.plain (OpenSpec.upto fnExactDecodeRecordSpec)) fnExactDecodeRecordUptoCard

/-- THE SECOND FORM's CARD OF 'laws.FnExactScanLog'. -/
def fnExactScanLogUptoCard : Claim7 := { stood := { row := fnExactScanLogUptoRow, standIns := [], harness := (true, "5a2797063f33c8d51ce5a3e766d162afb1e20eb68a5159548f9d8f828298a1fc"), looks := true }, kinds := [], alts := [], laidByText := true, laidKinds := [.data, .data, .data, .data, .sentinel, .sentinel, .pinned], laidTests := true, laidLooks := .later }
def FnExactScanLogUptoCardSaid : Prop := Claim7.holds Tryd.pinned (.plain (OpenSpec.upto fnExactScanLogSpec)) fnExactScanLogUptoCard
end Rows
end Go.Proofs.YtoealglkenhphaaDoor
