/- Layer 37 (text): the listed variables read as the program's text lays them: the variables are done. -/
import Derived.Test.YtkljcgopikdjjaaGreatDoorTieA
namespace Go.Proofs.YtkljcgopikdjjaaGreatDoor.Tx
set_option linter.unusedVariables false
set_option maxRecDepth 100000
open Go
theorem tie_d : ∀ os tape, varsDone Tryz.prog 400 (varsId Tryz.prog) os tape = true := fun _ _ => by kernel_rfl
end Go.Proofs.YtkljcgopikdjjaaGreatDoor.Tx
