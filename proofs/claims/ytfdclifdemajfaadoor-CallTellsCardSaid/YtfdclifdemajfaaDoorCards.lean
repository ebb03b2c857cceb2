/-
  DERIVED. GIVEN WITH THE SEED: THE CARDS: each row of YtfdclifdemajfaaDoorRows.lean that lists a variable, with what it lists TIED to the program's text (the seventh form; the later family's looks); each row that meets fmt, with fmt's text TOLD by the authors' own Lean function (tested against real Go, not proved from fmt's source: count such statements apart). THE CARD IS WHAT COUNTS. Prove the row's statement (the work); the ties are given (YtfdclifdemajfaaDoorTie.lean); close each card by the builder's one call (the guide's Derived/Test/ToyasCard.lean, 'card_holds'). Laid BY PROGRAM, IN A SANDBOX (cutbox-door.mjs). By AI agents, Wed Nov 11 2026. No macro, syntax, notation, axiom, sorry.
-/
import Derived.Test.YtfdclifdemajfaaDoorRows
import GoSem.ClaimSeven
namespace Go.Proofs.YtfdclifdemajfaaDoor
namespace Rows

/-- THE TIED CARD OF 'lunettelaw20.CallBack'. -/
def callBackCard : Claim7 := { stood := { row := callBackRow, standIns := [], harness := (true, "7f1de486c4486da56eea9acddbe7ab96a5631f5e99be7ed672fccc3804df7cb7"), looks := false }, kinds := [], alts := [], laidByText := true, laidKinds := [.data], laidTests := true, laidLooks := .later }
def CallBackCardSaid : Prop := Claim7.holds Tryd.pinned (.plain (OpenSpec.ofChange callBackSpec)) callBackCard

/-- THE TIED CARD OF 'lunettelaw20.CallApart'. -/
def callApartCard : Claim7 := { stood := { row := callApartRow, standIns := [], harness := (true, "7f1de486c4486da56eea9acddbe7ab96a5631f5e99be7ed672fccc3804df7cb7"), looks := false }, kinds := [], alts := [], laidByText := true, laidKinds := [.data], laidTests := true, laidLooks := .later }
def CallApartCardSaid : Prop := Claim7.holds Tryd.pinned (.plain (OpenSpec.ofChange callApartSpec)) callApartCard

/-- THE TIED CARD OF 'lunettelaw20.CallTells'. -/
def callTellsCard : Claim7 := { stood := { row := callTellsRow, standIns := [], harness := (true, "7f1de486c4486da56eea9acddbe7ab96a5631f5e99be7ed672fccc3804df7cb7"), looks := false }, kinds := [], alts := [], laidByText := true, laidKinds := [.data], laidTests := true, laidLooks := .later }
def CallTellsCardSaid : Prop := Claim7.holds Tryd.pinned (.plain (OpenSpec.ofChange callTellsSpec)) callTellsCard

/-- THE TIED CARD OF 'lunettelaw20.CallWords'. -/
def callWordsCard : Claim7 := { stood := { row := callWordsRow, standIns := [], harness := (true, "7f1de486c4486da56eea9acddbe7ab96a5631f5e99be7ed672fccc3804df7cb7"), looks := false }, kinds := [], alts := [], laidByText := true, laidKinds := [.data], laidTests := true, laidLooks := .later }
def CallWordsCardSaid : Prop := Claim7.holds Tryd.pinned (.plain (OpenSpec.ofChange callWordsSpec)) callWordsCard

/-- THE SECOND FORM's CARD OF 'lunettelaw20.CallBack'. -/
def callBackUptoCard : Claim7 := { stood := { row := callBackUptoRow, standIns := [], harness := (true, "7f1de486c4486da56eea9acddbe7ab96a5631f5e99be7ed672fccc3804df7cb7"), looks := false }, kinds := [], alts := [], laidByText := true, laidKinds := [.data], laidTests := true, laidLooks := .later }
def CallBackUptoCardSaid : Prop := Claim7.holds Tryd.pinned (.plain (OpenSpec.upto callBackSpec)) callBackUptoCard

/-- THE SECOND FORM's CARD OF 'lunettelaw20.CallApart'. -/
def callApartUptoCard : Claim7 := { stood := { row := callApartUptoRow, standIns := [], harness := (true, "7f1de486c4486da56eea9acddbe7ab96a5631f5e99be7ed672fccc3804df7cb7"), looks := false }, kinds := [], alts := [], laidByText := true, laidKinds := [.data], laidTests := true, laidLooks := .later }
def CallApartUptoCardSaid : Prop := Claim7.holds Tryd.pinned (.plain (OpenSpec.upto callApartSpec)) callApartUptoCard

/-- THE SECOND FORM's CARD OF 'lunettelaw20.CallTells'. -/
def callTellsUptoCard : Claim7 := { stood := { row := callTellsUptoRow, standIns := [], harness := (true, "7f1de486c4486da56eea9acddbe7ab96a5631f5e99be7ed672fccc3804df7cb7"), looks := false }, kinds := [], alts := [], laidByText := true, laidKinds := [.data], laidTests := true, laidLooks := .later }
def CallTellsUptoCardSaid : Prop := Claim7.holds Tryd.pinned (.plain (OpenSpec.upto callTellsSpec)) callTellsUptoCard

/-- THE SECOND FORM's CARD OF 'lunettelaw20.CallWords'. -/
def callWordsUptoCard : Claim7 := { stood := { row := callWordsUptoRow, standIns := [], harness := (true, "7f1de486c4486da56eea9acddbe7ab96a5631f5e99be7ed672fccc3804df7cb7"), looks := false }, kinds := [], alts := [], laidByText := true, laidKinds := [.data], laidTests := true, laidLooks := .later }
def CallWordsUptoCardSaid : Prop := Claim7.holds Tryd.pinned (.plain (OpenSpec.upto callWordsSpec)) callWordsUptoCard
end Rows
end Go.Proofs.YtfdclifdemajfaaDoor
