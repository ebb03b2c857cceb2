/-
  DERIVED. GIVEN WITH THE SEED: THE CARDS: each row of YtpendnmmgjlmfaaGreatDoorRows.lean that lists a variable, with what it lists TIED to the program's text (the seventh form; the later family's looks); each row that meets fmt, with fmt's text TOLD by the authors' own Lean function (tested against real Go, not proved from fmt's source: count such statements apart). THE CARD IS WHAT COUNTS. Prove the row's statement (the work); the ties are given (YtpendnmmgjlmfaaGreatDoorTie.lean); close each card by the builder's one call (the guide's Derived/Test/ToyasCard.lean, 'card_holds'). Laid BY PROGRAM, IN A SANDBOX (cutbox-door.mjs). By AI agents, Wed Nov 11 2026. No macro, syntax, notation, axiom, sorry.
-/
import Derived.Test.YtpendnmmgjlmfaaGreatDoorRows
import GoSem.ClaimSeven
namespace Go.Proofs.YtpendnmmgjlmfaaGreatDoor
namespace Rows

/-- THE TIED CARD OF 'lunettelaw26.ApplyFrees'. -/
def applyFreesCard : Claim7 := { stood := { row := applyFreesRow, standIns := [], harness := (true, "630a4fe85bae2a8d6612fc5dcf7bf2ad3812506f6d9d62034cde8f8a36e6d0a2"), looks := false }, kinds := [], alts := [], laidByText := true, laidKinds := [.data], laidTests := true, laidLooks := .later }
def ApplyFreesCardSaid : Prop := Claim7.holds Tryz.pinned (.plain (OpenSpec.ofChange applyFreesSpec)) applyFreesCard

/-- THE SECOND FORM's CARD OF 'lunettelaw26.ApplyFrees'. -/
def applyFreesUptoCard : Claim7 := { stood := { row := applyFreesUptoRow, standIns := [], harness := (true, "630a4fe85bae2a8d6612fc5dcf7bf2ad3812506f6d9d62034cde8f8a36e6d0a2"), looks := false }, kinds := [], alts := [], laidByText := true, laidKinds := [.data], laidTests := true, laidLooks := .later }
def ApplyFreesUptoCardSaid : Prop := Claim7.holds Tryz.pinned (.plain (OpenSpec.upto applyFreesSpec)) applyFreesUptoCard
end Rows
end Go.Proofs.YtpendnmmgjlmfaaGreatDoor
