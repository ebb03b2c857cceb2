/- Layer 3 (dev): what is read of a device: Read and Durable. -/
import Derived.Test.YtpnfkilfgdnogaaGreatDoorDev
namespace Go.Proofs.YtpnfkilfgdnogaaGreatDoor.Dev
set_option linter.unusedVariables false
set_option linter.unusedSimpArgs false
open Go.RowKit Go.Shelf Go.Maps
section
variable {b : DevB} {hard : List ByteArray} {pd : Pend} {k : Nat}
theorem inD_yes {i n : Nat} (h : i < n) : inD (i : Int) n = true := by simp [inD, h]
theorem wf_nat (i : Nat) (h : i ≤ 1099511627776) : (Lit.int .i64 (i : Int)).wf = true := by
  simp only [Lit.wf, Bool.and_eq_true, decide_eq_true_eq]
  have e1 : IntKind.i64.min = -9223372036854775808 := rfl
  have e2 : IntKind.i64.max = 9223372036854775807 := rfl
  rw [e1, e2]
  omega
theorem under_by : Tryz.prog.underlying 105 = some (.map 3 238) := by kernel_rfl
theorem zero_row (w : World) : (zeroValue 238).run Tryz.prog w = .ok (.agg #[.slice none 0 0]) w := by kernel_rfl
theorem look_none {w : World} (h : DevAt w b hard pd k) (i : Nat) (hi : i ≤ 4096) (hp : pd i = none) (c : Bool) :
    (Instr.lookup 105 (.map (some b.m)) (.int .i64 (i : Int)) c).run Tryz.prog w = .ok (if c then .tuple #[.agg #[.slice none 0 0], .bool false] else .agg #[.slice none 0 0]) w := by
  have hf : rowF pd (i : Int) = none := by simp [rowF, hp]
  cases c
  · obtain ⟨v, ps, hrun, hv⟩ := h.map.look under_by (zero_row w) rowElem_zero i (wf_nat i (by omega))
    rw [hf] at hv
    rw [hrun, rowElem_inv0 hv]
    rfl
  · obtain ⟨v, ps, hrun, hv⟩ := h.map.look_ok under_by (zero_row w) rowElem_zero i (wf_nat i (by omega))
    rw [hf] at hv hrun
    rw [hrun, rowElem_inv0 hv]
    rfl
theorem look_some {w : World} (h : DevAt w b hard pd k) (i : Nat) (hi : i ≤ 4096) {e : Nat × Nat × ByteArray} (hp : pd i = some e) (c : Bool) :
    (Instr.lookup 105 (.map (some b.m)) (.int .i64 (i : Int)) c).run Tryz.prog w = .ok (if c then .tuple #[.agg #[.slice (some ⟨e.1, 0, none⟩) 1 e.2.1], .bool true] else .agg #[.slice (some ⟨e.1, 0, none⟩) 1 e.2.1]) w := by
  have hf : rowF pd (i : Int) = some (rowD e.1 e.2.1) := by simp [rowF, hp]
  cases c
  · obtain ⟨v, ps, hrun, hv⟩ := h.map.look under_by (zero_row w) rowElem_zero i (wf_nat i (by omega))
    rw [hf] at hv
    rw [hrun, rowElem_inv hv]
    rfl
  · obtain ⟨v, ps, hrun, hv⟩ := h.map.look_ok under_by (zero_row w) rowElem_zero i (wf_nat i (by omega))
    rw [hf] at hv hrun
    rw [hrun, rowElem_inv hv]
    rfl
set_option maxRecDepth 100000 in
theorem read_hard (i : Nat) (w : World) (h : DevAt w b hard pd k) (hi : i < hard.length) (hp : pd i = none) : Calls Tryz.prog 103 #[.pointer (some ⟨b.p, 0, none⟩), .int .i64 i] w fun e w' => e = .returned (.tuple #[.string hard[i], .int .i64 0]) ∧ Below w.heap.size w w' := by
  have hl := h.len
  have HA := has_any i w h
  rw [inD_yes hi] at HA
  have HA := Lib.hid HA
  have RE := Lib.hid (ready_any w h)
  have hc := h.row.cell i hi
  have hg := h.row.lt
  have hlk := look_none h i (by omega) hp true
  rw [if_pos rfl] at hlk
  have q0 : (0 : Int) ≤ i := by omega
  have q1 : (i : Int) < hard.length := by omega
  obtain ⟨⟨cap, hcap, hX⟩, _⟩ := h
  unfold devCells at hX
  have X0 := hX.cell 0
  have X1 := hX.cell 1
  have X2 := hX.cell 2
  have X3 := hX.cell 3
  have X4 := hX.cell 4
  have X5 := hX.cell 5
  simp only [List.getElem?_toArray, List.getElem?_cons_zero, List.getElem?_cons_succ] at X0 X1 X2 X3 X4 X5
  have Xl := hX.lt
  clear hX
  generalize hard[i] = s at *
  go_enter Tryz.func103, Tryz.ntmps103
  go_wp2_with fail
  refine RE.out.mono ?_
  rintro e w9 ⟨rfl, rfl⟩
  go_wp2_with fail
  refine HA.out.mono ?_
  rintro e w9 ⟨rfl, rfl⟩
  go_wp2
  go_ret2
  exact ⟨rfl, (Below.refl _ _).alloc (Nat.le_refl _) _⟩
end
end Go.Proofs.YtpnfkilfgdnogaaGreatDoor.Dev
