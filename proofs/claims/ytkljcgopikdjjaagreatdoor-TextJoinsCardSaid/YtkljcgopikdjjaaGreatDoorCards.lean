/-
  DERIVED. GIVEN WITH THE SEED: THE CARDS: each row of YtkljcgopikdjjaaGreatDoorRows.lean that lists a variable, with what it lists TIED to the program's text (the seventh form; the later family's looks); each row that meets fmt, with fmt's text TOLD by the authors' own Lean function (tested against real Go, not proved from fmt's source: count such statements apart). THE CARD IS WHAT COUNTS. Prove the row's statement (the work); the ties are given (YtkljcgopikdjjaaGreatDoorTie.lean); close each card by the builder's one call (the guide's Derived/Test/ToyasCard.lean, 'card_holds'). Laid BY PROGRAM, IN A SANDBOX (cutbox-door.mjs). By AI agents, Wed Nov 11 2026. No macro, syntax, notation, axiom, sorry.
-/
import Derived.Test.YtkljcgopikdjjaaGreatDoorRows
import GoSem.ClaimSeven
namespace Go.Proofs.YtkljcgopikdjjaaGreatDoor
namespace Rows

/-- THE TIED CARD OF 'lunettelaw37.TextJoins'. -/
def textJoinsCard : Claim7 := { stood := { row := textJoinsRow, standIns := [], harness := (true, "b47be88d0b2b33d7d6e8d1d88d9b10b9a219286152f72bda06038ab2bcece4fd"), looks := true }, kinds := [], alts := [], laidByText := true, laidKinds := [.data, .data, .data, .data, .sentinel, .sentinel], laidTests := true, laidLooks := .later }
def TextJoinsCardSaid : Prop := Claim7.holds Tryz.pinned (.plain (OpenSpec.ofChange textJoinsSpec)) textJoinsCard

/-- THE TIED CARD OF 'lunettelaw37.TextTold'. -/
def textToldCard : Claim7 := { stood := { row := textToldRow, standIns := [], harness := (true, "b47be88d0b2b33d7d6e8d1d88d9b10b9a219286152f72bda06038ab2bcece4fd"), looks := true }, kinds := [], alts := [], laidByText := true, laidKinds := [.data, .data, .data, .data, .sentinel, .sentinel], laidTests := true, laidLooks := .later }
def TextToldCardSaid : Prop := Claim7.holds Tryz.pinned (.plain (OpenSpec.ofChange textToldSpec)) textToldCard

/-- THE TIED CARD OF 'lunettelaw37.TextWritten'. -/
def textWrittenCard : Claim7 := { stood := { row := textWrittenRow, standIns := [], harness := (true, "b47be88d0b2b33d7d6e8d1d88d9b10b9a219286152f72bda06038ab2bcece4fd"), looks := true }, kinds := [], alts := [], laidByText := true, laidKinds := [.data, .data, .data, .data, .sentinel, .sentinel], laidTests := true, laidLooks := .later }
def TextWrittenCardSaid : Prop := Claim7.holds Tryz.pinned (.plain (OpenSpec.ofChange textWrittenSpec)) textWrittenCard

/-- THE TIED CARD OF 'lunettelaw37.TextHeard'. -/
def textHeardCard : Claim7 := { stood := { row := textHeardRow, standIns := [], harness := (true, "b47be88d0b2b33d7d6e8d1d88d9b10b9a219286152f72bda06038ab2bcece4fd"), looks := true }, kinds := [], alts := [], laidByText := true, laidKinds := [.data, .data, .data, .data, .sentinel, .sentinel], laidTests := true, laidLooks := .later }
def TextHeardCardSaid : Prop := Claim7.holds Tryz.pinned (.plain (OpenSpec.ofChange textHeardSpec)) textHeardCard

/-- THE TIED CARD OF 'lunettelaw37.TextRead'. -/
def textReadCard : Claim7 := { stood := { row := textReadRow, standIns := [], harness := (true, "b47be88d0b2b33d7d6e8d1d88d9b10b9a219286152f72bda06038ab2bcece4fd"), looks := true }, kinds := [], alts := [], laidByText := true, laidKinds := [.data, .data, .data, .data, .sentinel, .sentinel], laidTests := true, laidLooks := .later }
def TextReadCardSaid : Prop := Claim7.holds Tryz.pinned (.plain (OpenSpec.ofChange textReadSpec)) textReadCard

/-- THE SECOND FORM's CARD OF 'lunettelaw37.TextJoins'. -/
def textJoinsUptoCard : Claim7 := { stood := { row := textJoinsUptoRow, standIns := [], harness := (true, "b47be88d0b2b33d7d6e8d1d88d9b10b9a219286152f72bda06038ab2bcece4fd"), looks := true }, kinds := [], alts := [], laidByText := true, laidKinds := [.data, .data, .data, .data, .sentinel, .sentinel], laidTests := true, laidLooks := .later }
def TextJoinsUptoCardSaid : Prop := Claim7.holds Tryz.pinned (.plain (OpenSpec.upto textJoinsSpec)) textJoinsUptoCard

/-- THE SECOND FORM's CARD OF 'lunettelaw37.TextTold'. -/
def textToldUptoCard : Claim7 := { stood := { row := textToldUptoRow, standIns := [], harness := (true, "b47be88d0b2b33d7d6e8d1d88d9b10b9a219286152f72bda06038ab2bcece4fd"), looks := true }, kinds := [], alts := [], laidByText := true, laidKinds := [.data, .data, .data, .data, .sentinel, .sentinel], laidTests := true, laidLooks := .later }
def TextToldUptoCardSaid : Prop := Claim7.holds Tryz.pinned (.plain (OpenSpec.upto textToldSpec)) textToldUptoCard

/-- THE SECOND FORM's CARD OF 'lunettelaw37.TextWritten'. -/
def textWrittenUptoCard : Claim7 := { stood := { row := textWrittenUptoRow, standIns := [], harness := (true, "b47be88d0b2b33d7d6e8d1d88d9b10b9a219286152f72bda06038ab2bcece4fd"), looks := true }, kinds := [], alts := [], laidByText := true, laidKinds := [.data, .data, .data, .data, .sentinel, .sentinel], laidTests := true, laidLooks := .later }
def TextWrittenUptoCardSaid : Prop := Claim7.holds Tryz.pinned (.plain (OpenSpec.upto textWrittenSpec)) textWrittenUptoCard

/-- THE SECOND FORM's CARD OF 'lunettelaw37.TextHeard'. -/
def textHeardUptoCard : Claim7 := { stood := { row := textHeardUptoRow, standIns := [], harness := (true, "b47be88d0b2b33d7d6e8d1d88d9b10b9a219286152f72bda06038ab2bcece4fd"), looks := true }, kinds := [], alts := [], laidByText := true, laidKinds := [.data, .data, .data, .data, .sentinel, .sentinel], laidTests := true, laidLooks := .later }
def TextHeardUptoCardSaid : Prop := Claim7.holds Tryz.pinned (.plain (OpenSpec.upto textHeardSpec)) textHeardUptoCard

/-- THE SECOND FORM's CARD OF 'lunettelaw37.TextRead'. -/
def textReadUptoCard : Claim7 := { stood := { row := textReadUptoRow, standIns := [], harness := (true, "b47be88d0b2b33d7d6e8d1d88d9b10b9a219286152f72bda06038ab2bcece4fd"), looks := true }, kinds := [], alts := [], laidByText := true, laidKinds := [.data, .data, .data, .data, .sentinel, .sentinel], laidTests := true, laidLooks := .later }
def TextReadUptoCardSaid : Prop := Claim7.holds Tryz.pinned (.plain (OpenSpec.upto textReadSpec)) textReadUptoCard
end Rows
end Go.Proofs.YtkljcgopikdjjaaGreatDoor
