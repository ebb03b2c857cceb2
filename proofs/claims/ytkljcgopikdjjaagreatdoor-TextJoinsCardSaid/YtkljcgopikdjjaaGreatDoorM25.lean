/- Layer 37 (text): the parts of a player's memory: descriptors, logs, cells. -/
import Derived.Test.YtkljcgopikdjjaaGreatDoorM07
import Derived.Test.YtkljcgopikdjjaaGreatDoorM24
import Derived.Test.YtkljcgopikdjjaaGreatDoorM10
import Derived.Laws.Rows
import Derived.Deep.WholeRow
set_option linter.unusedVariables false
set_option linter.unusedSimpArgs false
set_option maxRecDepth 100000
section
namespace Go.Proofs.YtkljcgopikdjjaaGreatDoor.Tx
set_option maxRecDepth 100000
set_option maxHeartbeats 1000000
open Go.RowKit Go.Shelf Go.Maps Oct
noncomputable def fdC (c : Int) : Array Value := Tryz.zeroCells246.setIfInBounds 128 (.int .i64 c)
theorem fdZ_size : Tryz.zeroCells246.size = 129 := by kernel_rfl
theorem fdC_size (c : Int) : (fdC c).size = 129 := by unfold fdC; rw [Array.size_setIfInBounds, fdZ_size]
theorem fdC_one (c : Int) : (fdC c).all (·.oneCell') = true := by
 rw [Array.all_eq_true_iff_forall_mem];intro v hv;have h0 : Tryz.zeroCells246.all (·.oneCell') = true := by kernel_rfl
 rw [Array.all_eq_true_iff_forall_mem] at h0;unfold fdC at hv
 rcases Array.mem_or_eq_of_mem_setIfInBounds hv with h | h
 · exact h0 v h
 · subst h; rfl
theorem info_fd : (Tryz.prog.info? 246).map (·.size) = some 129 := by kernel_rfl
noncomputable def fdD : TypeDesc := (Tryz.prog.underlying 246).getD (.array 0 0)
theorem under_fd : Tryz.prog.underlying 246 = some fdD := by kernel_rfl
theorem fds_new (c : Int) (w : World) (h1 : 1 ≤ c) (h8 : c ≤ 8) : Calls Tryz.prog 134 #[.int .i64 c] w fun e w' => e = .returned (.tuple #[ptr w.heap.size, .int .i64 0]) ∧ SBox w' w.heap.size 246 (fdC c) ∧ Below w.heap.size w w' := by
 have t1 : decide (c < 1) = false := by simp; omega
 have t2 : decide (8 < c) = false := by simp; omega
 have hb := (Below.refl w.heap.size w).alloc (Nat.le_refl _) (.cells (fdC c) 246);have hs := SBox.new w 246 (fdC c)
 go_enter Tryz.func134, Tryz.ntmps134
 go_wp2_with fail;go_ret2;exact ⟨rfl, hs, hb⟩
theorem fds_bad (c : Int) (w : World) (h : c < 1 ∨ 8 < c) : Calls Tryz.prog 134 #[.int .i64 c] w fun e w' => e = .returned (.tuple #[.pointer none, .int .i64 2]) ∧ w = w' := by
 by_cases h1 : c < 1
 · have t1 : decide (c < 1) = true := by simpa using h1
   go_enter Tryz.func134, Tryz.ntmps134
   go_wp2_with fail;go_ret2;exact ⟨rfl, rfl⟩
 · have t1 : decide (c < 1) = false := by simpa using h1
   have t2 : decide (8 < c) = true := by simp; omega
   clear h h1
   go_enter Tryz.func134, Tryz.ntmps134
   go_wp2_with fail;go_ret2;exact ⟨rfl, rfl⟩
theorem fds_copy (b : Nat) (c : Int) (w : World) (hb : SBox w b 246 (fdC c)) : Calls Tryz.prog 173 #[ptr b] w fun e w' => ∃ b', e = .returned (ptr b') ∧ Below w.heap.size w w' := by
 have HB := Lib.hid hb;have Z := Lib.hid (show (w.alloc (.cells Tryz.zeroCells246 246)).heap[w.heap.size]? = some (.cells Tryz.zeroCells246 246 (0, 0)) from heap_alloc_new w _);have hlt := hb.lt;have hb2 := Lib.hid ((Below.refl w.heap.size w).alloc (Nat.le_refl _) (.cells (fdC c) 246));have hsc := run_storeCells_new (P := Tryz.prog) w 246 Tryz.zeroCells246 (fdC c) (by rw [fdC_size]; exact info_fd) (by rw [fdC_size]; exact fdZ_size) (fdC_one c);clear hb;unfold ptr
 go_enter Tryz.func173, Tryz.ntmps173
 go_wp2
 refine wp_load_row _ _ rfl b rfl _ (fdC c) (0, 0) fdD HB.out under_fd (by kernel_rfl) (by rw [fdC_size]; exact info_fd) ?_
 go_wp2
 go_ret;exact ⟨_, rfl, hb2.out⟩
def logC (c l : Int) : Array Value := #[.int .i64 c, .int .i64 l, .slice none 0 0, .slice none 0 0, .slice none 0 0, .slice none 0 0, .slice none 0 0, .slice none 0 0, .slice none 0 0, .slice none 0 0, .int .u64 0, .int .u64 0, .int .u64 0, .int .u64 0, .int .u64 0, .int .u64 0, .int .u64 0, .int .u64 0]
theorem log_new (c l : Int) (w : World) (h1 : 1 ≤ c) (h8 : c ≤ 8) (h2 : 1 ≤ l) (h9 : l ≤ 256) : Calls Tryz.prog 135 #[.int .i64 c, .int .i64 l] w fun e w' => e = .returned (.tuple #[ptr w.heap.size, .int .i64 0]) ∧ Below w.heap.size w w' := by
 have t1 : decide (c < 1) = false := by simp; omega
 have t2 : decide (8 < c) = false := by simp; omega
 have t3 : decide (l < 1) = false := by simp; omega
 have t4 : decide (256 < l) = false := by simp; omega
 have hb := (Below.refl w.heap.size w).alloc (Nat.le_refl _) (.cells (logC c l) 250);unfold logC at hb
 go_enter Tryz.func135, Tryz.ntmps135
 go_wp2_with fail;go_ret2;exact ⟨rfl, hb⟩
theorem log_bad (c l : Int) (w : World) (h1 : 1 ≤ c) (h8 : c ≤ 8) (h : l < 1 ∨ 256 < l) : Calls Tryz.prog 135 #[.int .i64 c, .int .i64 l] w fun e w' => e = .returned (.tuple #[.pointer none, .int .i64 2]) ∧ w = w' := by
 have t1 : decide (c < 1) = false := by simp; omega
 have t2 : decide (8 < c) = false := by simp; omega
 by_cases h2 : l < 1
 · have t3 : decide (l < 1) = true := by simpa using h2
   go_enter Tryz.func135, Tryz.ntmps135
   go_wp2_with fail;go_ret2;exact ⟨rfl, rfl⟩
 · have t3 : decide (l < 1) = false := by simpa using h2
   have t4 : decide (256 < l) = true := by simp; omega
   clear h h2
   go_enter Tryz.func135, Tryz.ntmps135
   go_wp2_with fail;go_ret2;exact ⟨rfl, rfl⟩
theorem cells_new (w : World) : Calls Tryz.prog 137 #[] w fun e w' => ∃ b, e = .returned (ptr b) ∧ Below w.heap.size w w' := by
 have hmm := @run_makeMap Tryz.prog;have hb := ((Below.refl w.heap.size w).alloc (Nat.le_refl _) (.map #[] 0)).alloc (by simp) (.cells #[.map (some w.heap.size), .slice none 0 0, .bool false] 256)
 go_enter Tryz.func137, Tryz.ntmps137
 go_wp2_with fail;go_ret;exact ⟨_, rfl, hb⟩
end Go.Proofs.YtkljcgopikdjjaaGreatDoor.Tx
end
