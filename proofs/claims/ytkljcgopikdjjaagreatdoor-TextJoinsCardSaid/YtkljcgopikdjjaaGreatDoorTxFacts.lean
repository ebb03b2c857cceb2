/- Layer 37: the closed facts that run over the whole table of types, out of what the program's check has paid. -/
import Derived.Test.YtkljcgopikdjjaaGreatDoorRows
import Derived.ClosedOfChecked
namespace Go.Proofs.YtkljcgopikdjjaaGreatDoor.Tx
set_option linter.unusedVariables false
set_option maxRecDepth 100000
open Go Go.ClosedOfChecked
theorem types_are : Tryz.checked.prog.types = Tryz.checked.src.types := by kernel_rfl
theorem rows_are : (Tryz.checked.prog.globals.all (fun g => decide (g.type < Tryz.checked.prog.types.size)) && Tryz.checked.prog.funcs.all (fun f => f.params.all fun t => decide (t < Tryz.checked.prog.types.size))) = true := by kernel_rfl
theorem allRows : AllSpec Tryz.checked.prog := allSpec_of Tryz.checked.wellFormed types_are
theorem laidOut : laidOutB Tryz.prog = true := laidOutB_of (P := Tryz.checked.prog) allRows rows_are
theorem mapsOk : mapsRowed Tryz.prog = true := mapsRowed_of (P := Tryz.checked.prog) allRows
theorem keysNo : Tryz.prog.plainKeys = false := by
  unfold Program.plainKeys
  rw [List.all_eq_false]
  exact ⟨541, List.mem_range.2 (of_decide_eq_true (by kernel_rfl)), Bool.eq_false_iff.1 (by kernel_rfl)⟩
end Go.Proofs.YtkljcgopikdjjaaGreatDoor.Tx
