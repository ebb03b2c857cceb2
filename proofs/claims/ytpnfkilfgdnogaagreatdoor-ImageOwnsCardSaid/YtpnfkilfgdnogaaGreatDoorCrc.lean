/- Layer 2 (crc): the table, and what a sum comes to, as plain functions. -/
import Derived.Test.YtpnfkilfgdnogaaGreatDoorBoxes
import Derived.Test.YtpnfkilfgdnogaaGreatDoorOctet
import Derived.Great.Walk
import Derived.Laws.Rows
import Derived.Laws.Tables
import Derived.Deep.OwnRows
namespace Go.Proofs.YtpnfkilfgdnogaaGreatDoor.Crc
set_option linter.unusedVariables false
set_option linter.unusedSimpArgs false
open Go.RowKit Go.Shelf Oct Go.Great
def zeroT : Array Value := Array.replicate 256 (.int .u32 0)
theorem alloc_T (ρ : Operand → Value) (o : Oper) (w : World) (ho : o.op = .alloc 320) : (execOp ρ o).run Tryz.prog w = .ok (.value (.pointer (some ⟨w.heap.size, 0, none⟩))) (w.alloc (.cells zeroT 320)) := by
  unfold execOp
  rw [ho]
  kernel_rfl
def tabS (x : Int) : Nat → Int
  | 0 => x
  | n + 1 => if (bits .and .u32 (tabS x n) 1 == 1) = true then bits .xor .u32 (tabS x n / 2) 3988292384 else tabS x n / 2
def tabCell (m j : Nat) : Value := if j < m then .int .u32 (tabS j 8) else .int .u32 0
def TabRel (w : World) (c : Value) (wr : World) : Prop := ∃ m : Nat, m ≤ 256 ∧ c = .int .i64 m ∧ wr.rowIs w.heap.size 320 256 (tabCell m) ∧ Below w.heap.size w wr
theorem tab_start (w : World) : (w.alloc (.cells zeroT 320)).rowIs w.heap.size 320 256 (tabCell 0) := by
  have h := World.rowIs_alloc w zeroT 320 (tabCell 0) (fun i hi => by
    unfold zeroT at hi ⊢
    rw [Array.size_replicate] at hi
    rw [Array.getElem?_replicate, if_pos hi]
    rfl)
  rw [show zeroT.size = 256 from Array.size_replicate] at h
  exact h
/-- The table. -/
def tabA : Array Value := ((List.range 256).map fun j => Value.int .u32 (tabS (j : Nat) 8)).toArray
theorem tabA_size : tabA.size = 256 := by simp [tabA]
theorem tabA_get (j : Nat) (h : j < 256) : tabA[j]? = some (.int .u32 (tabS j 8)) := by simp [tabA, h]
theorem tabA_one : tabA.all (·.oneCell') = true := by
  rw [Array.all_eq_true_iff_forall_mem]
  intro v hv
  simp only [tabA, List.mem_toArray, List.mem_map] at hv
  obtain ⟨j, _, rfl⟩ := hv
  rfl
theorem tab_end {W : World} {b : Nat} (h : W.rowIs b 320 256 (tabCell 256)) : SBox W b 320 tabA := by
  obtain ⟨c, hg, hs, hc⟩ := h
  have e : c = tabA := by
    apply Array.ext_getElem?
    intro i
    by_cases hi : i < 256
    · rw [hc i hi, tabA_get i hi]
      unfold tabCell
      rw [if_pos hi]
    · rw [Array.getElem?_eq_none (by omega), Array.getElem?_eq_none (by rw [tabA_size]; omega)]
  rw [e] at hg
  exact hg
theorem tab_store {W : World} {b m : Nat} (hr : W.rowIs b 320 256 (tabCell m)) : (W.setCell ⟨b, m, none⟩ (.int .u32 (tabS m 8))).rowIs b 320 256 (tabCell (m + 1)) :=
  (hr.set m _).congr (fun j _ => by
    unfold tabCell
    by_cases e : j = m
    · subst e; rw [if_pos rfl, if_pos (by omega)]
    · rw [if_neg e]
      by_cases e2 : j < m
      · rw [if_pos e2, if_pos (by omega)]
      · rw [if_neg e2, if_neg (by omega)])
theorem SBox.setRow {W : World} {b : Nat} {t : TypeId} {cs : Array Value} (h : SBox W b t cs) (ds : Array Value) : SBox (W.setRow b ds) b t ds := setRow_heap W b cs ds t (0, 0) h
theorem below_setRow {n b : Nat} {w W : World} (h : Below n w W) (hb : n ≤ b) (ds : Array Value) : Below n w (W.setRow b ds) :=
  ⟨h.os, h.tape, h.output, by simp; exact h.size, fun k hk => (setRow_other W b k ds (by omega)).trans (h.block k hk)⟩
theorem info_T : (Tryz.prog.info? 320).map (·.size) = some 256 := by kernel_rfl
theorem under_T : Tryz.prog.underlying 320 = some (.array 256 40) := by kernel_rfl
set_option maxRecDepth 100000 in
set_option maxHeartbeats 1000000 in
theorem table_any (w : World) : Calls Tryz.prog 224 #[] w fun e w' => e = .returned (.agg tabA) ∧ Below w.heap.size w w' := by
  have HS := Lib.hid (tab_start w)
  have HB := Lib.hid ((Below.refl _ w).alloc (Nat.le_refl _) (.cells zeroT 320))
  go_enter Tryz.func224, Tryz.ntmps224
  go_wp2_with (refine wpList_runTo rfl _ rfl _ _ (alloc_T _ _ _ rfl) ?_)
  go_loopw [1, 2, 3] (fun _ _ c wr => TabRel w c wr) (fun _ _ c _ => 256 - (intOf c).toNat)
  case atStart => exact ⟨0, Nat.zero_le _, rfl, HS.out, HB.out⟩
  case round =>
    obtain ⟨m, hm, rfl, hr, hB⟩ := hrel
    by_cases hlt : m < 256
    · have q0 : (m : Int) < 256 := by omega
      have q9 : (0 : Int) ≤ m := by omega
      have hc := hr.cell hlt
      have hf := hr.frozen m
      have RS := Lib.hid (tab_store hr)
      have HBr := Lib.hid hB
      clear hr hB
      go_wp2_with fail
      go_loopw [2, 8] (fun x c wz => ∃ q : Nat, q ≤ 8 ∧ c = .int .i64 q ∧ x = .int .u32 (tabS m q) ∧ wz = wr) (fun _ c _ => 8 - (intOf c).toNat)
      case atStart => exact ⟨0, Nat.zero_le _, rfl, rfl, rfl⟩
      case round =>
        obtain ⟨q, hq, rfl, rfl, rfl⟩ := hrel
        by_cases hq2 : q < 8
        · have q1 : (q : Int) < 8 := by omega
          go_wp2_with fail
          · rename_i hb
            exact ⟨⟨q + 1, by omega, rfl, by show _ = Value.int .u32 (tabS m (q + 1)); rw [tabS, if_pos hb], trivial⟩, by simp [intOf]; omega⟩
          · rename_i hb
            exact ⟨⟨q + 1, by omega, rfl, by show _ = Value.int .u32 (tabS m (q + 1)); rw [tabS, if_neg (by rw [hb]; simp)], trivial⟩, by simp [intOf]; omega⟩
        · obtain rfl : q = 8 := by omega
          go_wp2_with fail
          exact ⟨⟨m + 1, by omega, rfl, RS.out, HBr.out.setCell (Nat.le_refl _) _⟩, by simp [intOf]; omega⟩
    · obtain rfl : m = 256 := by omega
      have hT := tab_end hr
      have HBr := Lib.hid hB
      clear hr hB
      go_wp2_with (first | (refine wpList_load_row rfl _ _ rfl w.heap.size rfl _ tabA (0, 0) _ hT under_T rfl (by rw [tabA_size]; exact info_T) ?_) | (refine wpList_store_row rfl _ _ _ rfl w.heap.size tabA rfl rfl _ tabA hT (by rw [tabA_size]; exact info_T) rfl tabA_one ?_))
      exact bodyPost_ret (v := .agg tabA) (results_cell_row Tryz.results224 _ _ w.heap.size 320 tabA (0, 0) _ rfl (SBox.setRow hT tabA) under_T rfl (by rw [tabA_size]; exact info_T)) rfl ⟨rfl, below_setRow HBr.out (Nat.le_refl _) _⟩
end Go.Proofs.YtpnfkilfgdnogaaGreatDoor.Crc
