/-
  DERIVED. GIVEN WITH THE SEED: THE CARDS: each row of YtijkijoempdgnaaDoorRows.lean that lists a variable, with what it lists TIED to the program's text (the seventh form; the later family's looks); each row that meets fmt, with fmt's text TOLD by the authors' own Lean function (tested against real Go, not proved from fmt's source: count such statements apart). THE CARD IS WHAT COUNTS. Prove the row's statement (the work); the ties are given (YtijkijoempdgnaaDoorTie.lean); close each card by the builder's one call (the guide's Derived/Test/ToyasCard.lean, 'card_holds'). Laid BY PROGRAM, IN A SANDBOX (cutbox-door.mjs). By AI agents, Wed Nov 11 2026. No macro, syntax, notation, axiom, sorry.
-/
import Derived.Test.YtijkijoempdgnaaDoorRows
import GoSem.ClaimSeven
namespace Go.Proofs.YtijkijoempdgnaaDoor
namespace Rows

/-- THE TIED CARD OF 'laws.FnExactFormatDelta'. -/
def fnExactFormatDeltaCard : Claim7 := { stood := { row := fnExactFormatDeltaRow, standIns := [], harness := (true, "bcc38b5662701dffc89414e221a86944e79ec4c29e56feea89fcb00c41dcdef1"), looks := false }, kinds := [], alts := [], laidByText := true, laidKinds := [.data, .data, .data], laidTests := true, laidLooks := .later }
def FnExactFormatDeltaCardSaid : Prop := Claim7.holds Tryd.pinned (.plain (OpenSpec.ofChange fnExactFormatDeltaSpec)) fnExactFormatDeltaCard

/-- THE TIED CARD OF 'laws.FnExactFormatConjunction'. -/
def fnExactFormatConjunctionCard : Claim7 := { stood := { row := fnExactFormatConjunctionRow, standIns := [], harness := (true, "bcc38b5662701dffc89414e221a86944e79ec4c29e56feea89fcb00c41dcdef1"), looks := false }, kinds := [], alts := [], laidByText := true, laidKinds := [.data, .data, .data], laidTests := true, laidLooks := .later }
def FnExactFormatConjunctionCardSaid : Prop := Claim7.holds Tryd.pinned (.plain (OpenSpec.ofChange fnExactFormatConjunctionSpec)) fnExactFormatConjunctionCard

/-- THE SECOND FORM's CARD OF 'laws.FnExactFormatDelta'. -/
def fnExactFormatDeltaUptoCard : Claim7 := { stood := { row := fnExactFormatDeltaUptoRow, standIns := [], harness := (true, "bcc38b5662701dffc89414e221a86944e79ec4c29e56feea89fcb00c41dcdef1"), looks := false }, kinds := [], alts := [], laidByText := true, laidKinds := [.data, .data, .data], laidTests := true, laidLooks := .later }
def FnExactFormatDeltaUptoCardSaid : Prop := Claim7.holds Tryd.pinned (.plain (OpenSpec.upto fnExactFormatDeltaSpec)) fnExactFormatDeltaUptoCard

/-- THE SECOND FORM's CARD OF 'laws.FnExactFormatConjunction'. -/
def fnExactFormatConjunctionUptoCard : Claim7 := { stood := { row := fnExactFormatConjunctionUptoRow, standIns := [], harness := (true, "bcc38b5662701dffc89414e221a86944e79ec4c29e56feea89fcb00c41dcdef1"), looks := false }, kinds := [], alts := [], laidByText := true, laidKinds := [.data, .data, .data], laidTests := true, laidLooks := .later }
def FnExactFormatConjunctionUptoCardSaid : Prop := Claim7.holds Tryd.pinned (.plain (OpenSpec.upto fnExactFormatConjunctionSpec)) fnExactFormatConjunctionUptoCard
end Rows
end Go.Proofs.YtijkijoempdgnaaDoor
