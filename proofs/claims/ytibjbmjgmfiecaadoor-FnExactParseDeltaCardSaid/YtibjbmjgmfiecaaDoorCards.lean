/-
  DERIVED. GIVEN WITH THE SEED: THE CARDS: each row of YtibjbmjgmfiecaaDoorRows.lean that lists a variable, with what it lists TIED to the program's text (the seventh form; the later family's looks); each row that meets fmt, with fmt's text TOLD by the authors' own Lean function (tested against real Go, not proved from fmt's source: count such statements apart). THE CARD IS WHAT COUNTS. Prove the row's statement (the work); the ties are given (YtibjbmjgmfiecaaDoorTie.lean); close each card by the builder's one call (the guide's Derived/Test/ToyasCard.lean, 'card_holds'). Laid BY PROGRAM, IN A SANDBOX (cutbox-door.mjs). By AI agents, Wed Nov 11 2026. No macro, syntax, notation, axiom, sorry.
-/
import Derived.Test.YtibjbmjgmfiecaaDoorRows
import GoSem.ClaimSeven
namespace Go.Proofs.YtibjbmjgmfiecaaDoor
namespace Rows

/-- THE TIED CARD OF 'laws.FnExactEncodeRecord'. -/
def fnExactEncodeRecordCard : Claim7 := { stood := { row := fnExactEncodeRecordRow, standIns := [], harness := (true, "69def13ee160c82132b0bc2135b6b720d52c3e691d70fddc17f58612974bf773"), looks := true }, kinds := [], alts := [], laidByText := true, laidKinds := [.data, .data, .data], laidTests := true, laidLooks := .later }
def FnExactEncodeRecordCardSaid : Prop := Claim7.holds Tryd.pinned (.plain (OpenSpec.ofChange fnExactEncodeRecordSpec)) fnExactEncodeRecordCard

/-- THE TIED CARD OF 'laws.FnExactParseDelta'. -/
def fnExactParseDeltaCard : Claim7 := { stood := { row := fnExactParseDeltaRow, standIns := [], harness := (true, "69def13ee160c82132b0bc2135b6b720d52c3e691d70fddc17f58612974bf773"), looks := true }, kinds := [], alts := [], laidByText := true, laidKinds := [.data, .data, .data, .data, .pinned], laidTests := true, laidLooks := .later }
def FnExactParseDeltaCardSaid : Prop := Claim7.holds Tryd.pinned (.plain (OpenSpec.ofChange fnExactParseDeltaSpec)) fnExactParseDeltaCard

/-- THE TIED CARD OF 'laws.FnExactDecodeRecord'. -/
def fnExactDecodeRecordCard : Claim7 := { stood := { row := fnExactDecodeRecordRow, standIns := [], harness := (true, "69def13ee160c82132b0bc2135b6b720d52c3e691d70fddc17f58612974bf773"), looks := true }, kinds := [], alts := [], laidByText := true, laidKinds := [.data, .data, .data, .data, .sentinel, .sentinel, .pinned], laidTests := true, laidLooks := .later }
def FnExactDecodeRecordCardSaid : Prop := Claim7.holds Tryd.pinned (.plain (OpenSpec.ofChange fnExactDecodeRecordSpec)) fnExactDecodeRecordCard

/-- THE TIED CARD OF 'laws.FnExactScanLog'. -/
def fnExactScanLogCard : Claim7 := { stood := { row := fnExactScanLogRow, standIns := [], harness := (true, "69def13ee160c82132b0bc2135b6b720d52c3e691d70fddc17f58612974bf773"), looks := true }, kinds := [], alts := [], laidByText := true, laidKinds := [.data, .data, .data, .data, .sentinel, .sentinel, .pinned], laidTests := true, laidLooks := .later }
def FnExactScanLogCardSaid : Prop := Claim7.holds Tryd.pinned (.plain (OpenSpec.ofChange fnExactScanLogSpec)) fnExactScanLogCard

/-- THE SECOND FORM's CARD OF 'laws.FnExactEncodeRecord'. -/
def fnExactEncodeRecordUptoCard : Claim7 := { stood := { row := fnExactEncodeRecordUptoRow, standIns := [], harness := (true, "69def13ee160c82132b0bc2135b6b720d52c3e691d70fddc17f58612974bf773"), looks := true }, kinds := [], alts := [], laidByText := true, laidKinds := [.data, .data, .data], laidTests := true, laidLooks := .later }
def FnExactEncodeRecordUptoCardSaid : Prop := Claim7.holds Tryd.pinned (.plain (OpenSpec.upto fnExactEncodeRecordSpec)) fnExactEncodeRecordUptoCard

/-- THE SECOND FORM's CARD OF 'laws.FnExactParseDelta'. -/
def fnExactParseDeltaUptoCard : Claim7 := { stood := { row := fnExactParseDeltaUptoRow, standIns := [], harness := (true, "69def13ee160c82132b0bc2135b6b720d52c3e691d70fddc17f58612974bf773"), looks := true }, kinds := [], alts := [], laidByText := true, laidKinds := [.data, .data, .data, .data, .pinned], laidTests := true, laidLooks := .later }
def FnExactParseDeltaUptoCardSaid : Prop := Claim7.holds Tryd.pinned (.plain (OpenSpec.upto fnExactParseDeltaSpec)) fnExactParseDeltaUptoCard

/-- THE SECOND FORM's CARD OF 'laws.FnExactDecodeRecord'. -/
def fnExactDecodeRecordUptoCard : Claim7 := { stood := { row := fnExactDecodeRecordUptoRow, standIns := [], harness := (true, "69def13ee160c82132b0bc2135b6b720d52c3e691d70fddc17f58612974bf773"), looks := true }, kinds := [], alts := [], laidByText := true, laidKinds := [.data, .data, .data, .data, .sentinel, .sentinel, .pinned], laidTests := true, laidLooks := .later }
def FnExactDecodeRecordUptoCardSaid : Prop := Claim7.holds Tryd.pinned (.plain (OpenSpec.upto fnExactDecodeRecordSpec)) fnExactDecodeRecordUptoCard

/-- THE SECOND FORM's CARD OF 'laws.FnExactScanLog'. -/
def fnExactScanLogUptoCard : Claim7 := { stood := { row := fnExactScanLogUptoRow, standIns := [], harness := (true, "69def13ee160c82132b0bc2135b6b720d52c3e691d70fddc17f58612974bf773"), looks := true }, kinds := [], alts := [], laidByText := true, laidKinds := [.data, .data, .data, .data, .sentinel, .sentinel, .pinned], laidTests := true, laidLooks := .later }
def FnExactScanLogUptoCardSaid : Prop := Claim7.holds Tryd.pinned (.plain (OpenSpec.upto fnExactScanLogSpec)) fnExactScanLogUptoCard
end Rows
end Go.Proofs.YtibjbmjgmfiecaaDoor
