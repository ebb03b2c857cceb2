/- Layer 37 (text): the listed variables read as the program's text lays them: what they read as. -/
import Derived.Test.YtkljcgopikdjjaaGreatDoorTieA
namespace Go.Proofs.YtkljcgopikdjjaaGreatDoor.Tx
set_option linter.unusedVariables false
set_option maxRecDepth 100000
open Go
theorem tie_1 : ∀ os tape, (DataW.laidRun Tryz.prog (varsWorld Tryz.prog 400 (varsId Tryz.prog) os tape).memory 8 (listed.map (·.1))).map (·.1) = some listed := fun _ _ => by kernel_rfl
end Go.Proofs.YtkljcgopikdjjaaGreatDoor.Tx
