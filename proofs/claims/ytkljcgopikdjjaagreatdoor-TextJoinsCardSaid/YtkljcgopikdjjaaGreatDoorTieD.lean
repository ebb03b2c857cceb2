/- Layer 37 (text): the listed variables read as the program's text lays them: no place twice. -/
import Derived.Test.YtkljcgopikdjjaaGreatDoorTieA
namespace Go.Proofs.YtkljcgopikdjjaaGreatDoor.Tx
set_option linter.unusedVariables false
set_option maxRecDepth 100000
open Go
theorem tie_2 : ∀ os tape, (DataW.laidRun Tryz.prog (varsWorld Tryz.prog 400 (varsId Tryz.prog) os tape).memory 8 (listed.map (·.1))).map (fun x => decide x.2.Nodup && laidRowsB Tryz.prog (varsWorld Tryz.prog 400 (varsId Tryz.prog) os tape).memory x.2) = some true := fun _ _ => by kernel_rfl
end Go.Proofs.YtkljcgopikdjjaaGreatDoor.Tx
