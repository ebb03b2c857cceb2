/- Layer 3 (dev): a write that waits is kept. -/
import Derived.Test.YtpnfkilfgdnogaaGreatDoorDevWrite
import Derived.BigRegion
namespace Go.Proofs.YtpnfkilfgdnogaaGreatDoor.Dev
set_option linter.unusedVariables false
set_option linter.unusedSimpArgs false
open Go.RowKit Go.Shelf Go.Maps
def delP (pd : Pend) (i : Int) : Pend := fun y => if y = i then none else pd y
theorem rowF_del (pd : Pend) (i : Int) : rowF (delP pd i) = delF (rowF pd) i := by
  funext y
  unfold rowF delP delF
  by_cases hy : y = i <;> simp [hy]
theorem field_one (v : Value) (w : World) : (Instr.field 238 (.agg #[v]) 0).run Tryz.prog w = .ok v w := by kernel_rfl
theorem kept1 {b : DevB} {hard : List ByteArray} {pd : Pend} {k i : Nat} {e : Nat × Nat × ByteArray} {w w3 : World} (h : DevAt w b hard pd k) (hi : i < hard.length) (hp : pd i = some e)
    (hI3 : IMap w3 rowElem b.m k (delF (rowF pd) i)) (ht3 : (w.setCell ⟨b.g, i, none⟩ (.string e.2.2)).drew.mapTurned w3 b.m) :
    DevAt w3 b (hard.set i e.2.2) (delP pd i) k ∧ Tch (fun c => c = b.g ∨ c = b.m) w w3 := by
  obtain ⟨cap1, hc1, hX⟩ := h.dev
  have T00 : Tch (fun c => c = b.g ∨ c = b.m) w (w.setCell ⟨b.g, i, none⟩ (.string e.2.2)) := Tch.set _ (.inl rfl)
  have T0 : Tch (fun c => c = b.g ∨ c = b.m) w (w.setCell ⟨b.g, i, none⟩ (.string e.2.2)).drew := ⟨T00.os, T00.tape, T00.output, T00.size, T00.block⟩
  have T := T0.trans (Tch.grown ht3.grown (fun r e => by cases e; exact .inr rfl))
  have hpm : b.p ≠ b.m := h.map.ne hX
  have hgp : b.g ≠ b.p := h.row.ne hX (by decide)
  have hgm : b.g ≠ b.m := h.row.ne_map h.map
  refine ⟨⟨⟨cap1, by simpa using hc1, ?_⟩, ?_, ?_, ?_, by simpa using h.len, fun x q hx => ?_⟩, T⟩
  · rw [List.length_set]
    exact (T.block _ hX.lt (fun q => q.elim hgp.symm hpm)).trans hX
  · exact (h.row.set i e.2.2).block (ht3.grown.block b.g (by show _ < (w.setCell ⟨b.g, i, none⟩ (.string e.2.2)).heap.size; simpa [World.setCell] using h.row.lt) (fun q => hgm (Option.some.inj q)))
  · rw [rowF_del]
    exact hI3
  · intro x q hx
    unfold delP at hx
    by_cases hxi : x = (i : Int)
    · rw [if_pos hxi] at hx
      cases hx
    · rw [if_neg hxi] at hx
      obtain ⟨r1, r2⟩ := h.rows x q hx
      exact ⟨r1.block (T.block _ r1.lt (fun z => z.elim r2 (r1.ne_map h.map))), r2⟩
  · unfold delP at hx
    by_cases hxi : x = (i : Int)
    · rw [if_pos hxi] at hx
      cases hx
    · rw [if_neg hxi] at hx
      rw [List.length_set]
      exact h.dom x q hx
section
variable {b : DevB} {hard : List ByteArray} {pd : Pend} {k : Nat}
set_option maxRecDepth 100000 in
set_option maxHeartbeats 2000000 in
theorem keep_one (i : Nat) (w : World) (h : DevAt w b hard pd k) (hi : i < hard.length) {q : Nat × Nat × ByteArray} (hp : pd i = some q) :
    Calls Tryz.prog 143 #[.pointer (some ⟨b.p, 0, none⟩), .int .i64 i, .int .i64 1] w fun e w' => e = .returned (.tuple #[]) ∧ DevAt w' b (hard.set i q.2.2) (delP pd i) k ∧ Tch (fun c => c = b.g ∨ c = b.m) w w' := by
  have hl := h.len
  have hlk := look_some h i (by omega) hp false
  simp only [Bool.false_eq_true, if_false] at hlk
  have hfl : ∀ W, (Instr.field 238 (.agg #[.slice (some ⟨q.1, 0, none⟩) 1 q.2.1]) 0).run Tryz.prog W = .ok (.slice (some ⟨q.1, 0, none⟩) 1 q.2.1) W := fun W => field_one _ W
  have hHD : DevAt w.drew b hard pd k := h.later (Below.refl _ _).drew
  have HD := Lib.hid hHD
  have hr := (h.rows i q hp).1
  have c1 := hr.cell 0 (by simp)
  simp only [List.getElem_cons_zero] at c1
  have hrl := hr.lt
  have c2 := h.row.cell i hi
  have f2 := h.row.free i
  have hgl := h.row.lt
  have q0 : (0 : Int) ≤ i := by omega
  have q1 : (i : Int) < hard.length := by omega
  obtain ⟨cap0, hcap, hX⟩ := h.dev
  have hm0 : IMap (w.setCell ⟨b.g, i, none⟩ (.string q.2.2)).drew rowElem b.m k (rowF pd) := (h.map.other _ (h.row.ne_map h.map).symm).drew
  obtain ⟨w3, hdel, hI3, ht3⟩ := hm0.del under_by i (wf_nat i (by omega)) 0
  have hX2 : SBox (w.setCell ⟨b.g, i, none⟩ (.string q.2.2)).drew b.p 107 (devCells b hard.length cap0 k) := SBox.drew (SBox.other hX _ (h.row.ne hX (by decide)).symm)
  unfold devCells at hX hX2
  have X0 := hX.cell 0
  have X1 := hX.cell 1
  have X2 := hX.cell 2
  have X3 := hX.cell 3
  have X4 := hX.cell 4
  have X5 := hX.cell 5
  simp only [List.getElem?_toArray, List.getElem?_cons_zero, List.getElem?_cons_succ] at X0 X1 X2 X3 X4 X5
  have Xl := hX.lt
  have Z0 := hX2.cell 0
  have Z1 := hX2.cell 1
  have Z2 := hX2.cell 2
  have Z3 := hX2.cell 3
  have Z4 := hX2.cell 4
  have Z5 := hX2.cell 5
  simp only [List.getElem?_toArray, List.getElem?_cons_zero, List.getElem?_cons_succ] at Z0 Z1 Z2 Z3 Z4 Z5
  have Zl := hX2.lt
  have KP := Lib.hid (kept1 h hi hp hI3 ht3)
  clear hX hX2 hm0 hr hHD hI3 ht3 h
  go_enter Tryz.func143, Tryz.ntmps143
  go_wp2_with fail
  go_region
  go_wp2_with fail
  exact bodyPost_ret (results_none rfl _ _ _) rfl ⟨rfl, KP.out⟩
end
end Go.Proofs.YtpnfkilfgdnogaaGreatDoor.Dev
