/-
  DERIVED. GIVEN WITH THE SEED: THE CARDS: each row of YtpnfkilfgdnogaaGreatDoorRows.lean that lists a variable, with what it lists TIED to the program's text (the seventh form; the later family's looks); each row that meets fmt, with fmt's text TOLD by the authors' own Lean function (tested against real Go, not proved from fmt's source: count such statements apart). THE CARD IS WHAT COUNTS. Prove the row's statement (the work); the ties are given (YtpnfkilfgdnogaaGreatDoorTie.lean); close each card by the builder's one call (the guide's Derived/Test/ToyasCard.lean, 'card_holds'). Laid BY PROGRAM, IN A SANDBOX (cutbox-door.mjs). By AI agents, Wed Nov 11 2026. No macro, syntax, notation, axiom, sorry.
-/
import Derived.Test.YtpnfkilfgdnogaaGreatDoorRows
import GoSem.ClaimSeven
namespace Go.Proofs.YtpnfkilfgdnogaaGreatDoor
namespace Rows

/-- THE TIED CARD OF 'lunettelaw11.ImageFormat'. -/
def imageFormatCard : Claim7 := { stood := { row := imageFormatRow, standIns := [], harness := (true, "9ef97ee19484adc4ca33a3dc5b77485c3e3ec57ce57728293ddb0792ee7ba072"), looks := false }, kinds := [], alts := [], laidByText := true, laidKinds := [.data], laidTests := true, laidLooks := .later }
def ImageFormatCardSaid : Prop := Claim7.holds Tryz.pinned (.plain (OpenSpec.ofChange imageFormatSpec)) imageFormatCard

/-- THE TIED CARD OF 'lunettelaw11.ImagePages'. -/
def imagePagesCard : Claim7 := { stood := { row := imagePagesRow, standIns := [], harness := (true, "9ef97ee19484adc4ca33a3dc5b77485c3e3ec57ce57728293ddb0792ee7ba072"), looks := false }, kinds := [], alts := [], laidByText := true, laidKinds := [.data], laidTests := true, laidLooks := .later }
def ImagePagesCardSaid : Prop := Claim7.holds Tryz.pinned (.plain (OpenSpec.ofChange imagePagesSpec)) imagePagesCard

/-- THE TIED CARD OF 'lunettelaw11.ImageOwns'. -/
def imageOwnsCard : Claim7 := { stood := { row := imageOwnsRow, standIns := [], harness := (true, "9ef97ee19484adc4ca33a3dc5b77485c3e3ec57ce57728293ddb0792ee7ba072"), looks := false }, kinds := [], alts := [], laidByText := true, laidKinds := [.data], laidTests := true, laidLooks := .later }
def ImageOwnsCardSaid : Prop := Claim7.holds Tryz.pinned (.plain (OpenSpec.ofChange imageOwnsSpec)) imageOwnsCard

/-- THE TIED CARD OF 'lunettelaw12.CheckWhole'. -/
def checkWholeCard : Claim7 := { stood := { row := checkWholeRow, standIns := [], harness := (true, "9ef97ee19484adc4ca33a3dc5b77485c3e3ec57ce57728293ddb0792ee7ba072"), looks := false }, kinds := [], alts := [], laidByText := true, laidKinds := [.data, .data, .data, .data], laidTests := true, laidLooks := .later }
def CheckWholeCardSaid : Prop := Claim7.holds Tryz.pinned (.plain (OpenSpec.ofChange checkWholeSpec)) checkWholeCard

/-- THE TIED CARD OF 'lunettelaw12.CheckBlocks'. -/
def checkBlocksCard : Claim7 := { stood := { row := checkBlocksRow, standIns := [], harness := (true, "9ef97ee19484adc4ca33a3dc5b77485c3e3ec57ce57728293ddb0792ee7ba072"), looks := false }, kinds := [], alts := [], laidByText := true, laidKinds := [.data, .data, .data, .data], laidTests := true, laidLooks := .later }
def CheckBlocksCardSaid : Prop := Claim7.holds Tryz.pinned (.plain (OpenSpec.ofChange checkBlocksSpec)) checkBlocksCard

/-- THE SECOND FORM's CARD OF 'lunettelaw11.ImageFormat'. -/
def imageFormatUptoCard : Claim7 := { stood := { row := imageFormatUptoRow, standIns := [], harness := (true, "9ef97ee19484adc4ca33a3dc5b77485c3e3ec57ce57728293ddb0792ee7ba072"), looks := false }, kinds := [], alts := [], laidByText := true, laidKinds := [.data], laidTests := true, laidLooks := .later }
def ImageFormatUptoCardSaid : Prop := Claim7.holds Tryz.pinned (.plain (OpenSpec.upto imageFormatSpec)) imageFormatUptoCard

/-- THE SECOND FORM's CARD OF 'lunettelaw11.ImagePages'. -/
def imagePagesUptoCard : Claim7 := { stood := { row := imagePagesUptoRow, standIns := [], harness := (true, "9ef97ee19484adc4ca33a3dc5b77485c3e3ec57ce57728293ddb0792ee7ba072"), looks := false }, kinds := [], alts := [], laidByText := true, laidKinds := [.data], laidTests := true, laidLooks := .later }
def ImagePagesUptoCardSaid : Prop := Claim7.holds Tryz.pinned (.plain (OpenSpec.upto imagePagesSpec)) imagePagesUptoCard

/-- THE SECOND FORM's CARD OF 'lunettelaw11.ImageOwns'. -/
def imageOwnsUptoCard : Claim7 := { stood := { row := imageOwnsUptoRow, standIns := [], harness := (true, "9ef97ee19484adc4ca33a3dc5b77485c3e3ec57ce57728293ddb0792ee7ba072"), looks := false }, kinds := [], alts := [], laidByText := true, laidKinds := [.data], laidTests := true, laidLooks := .later }
def ImageOwnsUptoCardSaid : Prop := Claim7.holds Tryz.pinned (.plain (OpenSpec.upto imageOwnsSpec)) imageOwnsUptoCard

/-- THE SECOND FORM's CARD OF 'lunettelaw12.CheckWhole'. -/
def checkWholeUptoCard : Claim7 := { stood := { row := checkWholeUptoRow, standIns := [], harness := (true, "9ef97ee19484adc4ca33a3dc5b77485c3e3ec57ce57728293ddb0792ee7ba072"), looks := false }, kinds := [], alts := [], laidByText := true, laidKinds := [.data, .data, .data, .data], laidTests := true, laidLooks := .later }
def CheckWholeUptoCardSaid : Prop := Claim7.holds Tryz.pinned (.plain (OpenSpec.upto checkWholeSpec)) checkWholeUptoCard

/-- THE SECOND FORM's CARD OF 'lunettelaw12.CheckBlocks'. -/
def checkBlocksUptoCard : Claim7 := { stood := { row := checkBlocksUptoRow, standIns := [], harness := (true, "9ef97ee19484adc4ca33a3dc5b77485c3e3ec57ce57728293ddb0792ee7ba072"), looks := false }, kinds := [], alts := [], laidByText := true, laidKinds := [.data, .data, .data, .data], laidTests := true, laidLooks := .later }
def CheckBlocksUptoCardSaid : Prop := Claim7.holds Tryz.pinned (.plain (OpenSpec.upto checkBlocksSpec)) checkBlocksUptoCard
end Rows
end Go.Proofs.YtpnfkilfgdnogaaGreatDoor
