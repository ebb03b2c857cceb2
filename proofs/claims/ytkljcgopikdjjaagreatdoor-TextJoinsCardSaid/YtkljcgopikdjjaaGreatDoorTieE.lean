/- Layer 37 (text): the listed variables read as the program's text lays them: all of it, and each row. -/
import Derived.Test.YtkljcgopikdjjaaGreatDoorTieB
import Derived.Test.YtkljcgopikdjjaaGreatDoorTieC
import Derived.Test.YtkljcgopikdjjaaGreatDoorTieD
namespace Go.Proofs.YtkljcgopikdjjaaGreatDoor.Tx
set_option linter.unusedVariables false
set_option maxRecDepth 100000
open Go
theorem tie_all : Tryz.prog.laidByTextLater listed listedKinds true :=
  Program.laidByTextLater_by_run 400 8 tie_w tie_w' tie_root tie_k tie_g tie_n tie_d tie_1 tie_2
theorem textTold_tie : Rows.textToldRow.laidByTextAt .later Tryz.pinned listedKinds true := OpenClaim.laidByTextAt_later rfl rfl tie_all tie_none
theorem textHeard_tie : Rows.textHeardRow.laidByTextAt .later Tryz.pinned listedKinds true := OpenClaim.laidByTextAt_later rfl rfl tie_all tie_none
theorem textRead_tie : Rows.textReadRow.laidByTextAt .later Tryz.pinned listedKinds true := OpenClaim.laidByTextAt_later rfl rfl tie_all tie_none
theorem textWritten_tie : Rows.textWrittenRow.laidByTextAt .later Tryz.pinned listedKinds true := OpenClaim.laidByTextAt_later rfl rfl tie_all tie_none
theorem textJoins_tie : Rows.textJoinsRow.laidByTextAt .later Tryz.pinned listedKinds true := OpenClaim.laidByTextAt_later rfl rfl tie_all tie_none
end Go.Proofs.YtkljcgopikdjjaaGreatDoor.Tx
