/- Layer 37: closed facts over the whole program, which all rows share. -/
import Derived.Test.YtkljcgopikdjjaaGreatDoorCards
import Derived.JoinedOf
import Derived.KernelRfl
namespace Go.Proofs.YtkljcgopikdjjaaGreatDoor.Tx
set_option maxRecDepth 100000
open Go
theorem heardOk : Tryz.prog.stopsHeard = true := by kernel_rfl
theorem enterOk : Tryz.prog.mayEnter = true := by kernel_rfl
theorem stopsNo : (Tryz.prog.stops == []) = true := by kernel_rfl
theorem knobsNo : (Tryz.prog.stopKnobs == []) = true := by kernel_rfl
theorem liftsOk : (Rows.textToldRow.lifted == Tryz.prog.liftsFinal) = true := by kernel_rfl
theorem makeOk : (Tryz.prog.make == some Rows.textToldRow.make) = true := by kernel_rfl
theorem mainIs : Tryz.pinned.checked.prog.mainIs = some (Rows.textToldCard.stood.harness.1, Rows.textToldCard.stood.harness.2.toList) := by kernel_rfl
theorem looksYes : true = Tryz.pinned.checked.prog.looks [] := by kernel_rfl
end Go.Proofs.YtkljcgopikdjjaaGreatDoor.Tx
