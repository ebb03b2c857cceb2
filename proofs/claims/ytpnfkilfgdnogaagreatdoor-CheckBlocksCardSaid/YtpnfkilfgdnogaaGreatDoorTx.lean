/- Layer 8 (tx): a transaction in memory, over a device of which no write waits: Begin, open, Read. -/
import Derived.Test.YtpnfkilfgdnogaaGreatDoorDevKeep
import Derived.Test.YtpnfkilfgdnogaaGreatDoorOctetPlain
namespace Go.Proofs.YtpnfkilfgdnogaaGreatDoor.Tx
set_option linter.unusedVariables false
set_option linter.unusedSimpArgs false
open Go.RowKit Go.Shelf Go.Maps Oct Dev
structure TxB where
  p : Nat
  m : Nat
  j : Nat
def strR : ElemR := fun v => match v with
  | .string s => some (.lit (.string (L s)), [])
  | _ => none
theorem strR_mk (s : ByteArray) : strR (.string s) = some (.lit (.string (L s)), []) := rfl
theorem strR_inv {v : Value} {s : ByteArray} {ps : List MemPlace} (h : strR v = some (.lit (.string (L s)), ps)) : v = .string s := by
  unfold strR at h
  split at h
  · rename_i t
    simp only [Option.some.injEq, Prod.mk.injEq, DataW.lit.injEq, Lit.string.injEq] at h
    rw [L_inj h.1]
  · cases h
abbrev Wrote := Int → Option ByteArray
def strF (f : Wrote) : Int → Option (DataW Unit) := fun x => (f x).map fun s => .lit (.string (L s))
structure TxAt (W : World) (T : TxB) (b : DevB) (hard : List ByteArray) (k : Nat) (f : Wrote) (nn : Nat) : Prop where
  tx : SBox W T.p 139 #[.pointer (some ⟨b.p, 0, none⟩), .pointer (some ⟨T.j, 0, none⟩), .map (some T.m), .bool false]
  map : IMap W strR T.m nn (strF f)
  dev : DevAt W b hard (fun _ => none) k
section
variable {T : TxB} {b : DevB} {hard : List ByteArray} {k nn : Nat} {f : Wrote}
theorem TxAt.later {W W' : World} (h : TxAt W T b hard k f nn) (hb : Below W.heap.size W W') : TxAt W' T b hard k f nn := ⟨h.tx.later hb, h.map.later hb, h.dev.later hb⟩
set_option maxRecDepth 100000 in
theorem open_any (w : World) (h : TxAt w T b hard k f nn) : Calls Tryz.prog 70 #[.pointer (some ⟨T.p, 0, none⟩)] w fun e w' => e = .returned (.int .i64 0) ∧ w = w' := by
  have hX := h.tx
  have X0 := hX.cell 0
  have X1 := hX.cell 1
  have X2 := hX.cell 2
  have X3 := hX.cell 3
  simp only [List.getElem?_toArray, List.getElem?_cons_zero, List.getElem?_cons_succ] at X0 X1 X2 X3
  have Xl := hX.lt
  clear hX h
  go_enter Tryz.func70, Tryz.ntmps70
  go_wp2
  go_ret
  exact ⟨rfl, rfl⟩
set_option maxRecDepth 100000 in
theorem begin_any (j : Nat) (w : World) (h : DevAt w b hard (fun _ => none) k) : Calls Tryz.prog 27 #[.pointer (some ⟨b.p, 0, none⟩), .pointer (some ⟨j, 0, none⟩)] w fun e w' => ∃ T : TxB, e = .returned (.tuple #[.pointer (some ⟨T.p, 0, none⟩), .int .i64 0]) ∧ T.j = j ∧ w.heap.size ≤ T.p ∧ w.heap.size ≤ T.m ∧ TxAt w' T b hard k (fun _ => none) 0 ∧ Below w.heap.size w w' := by
  have hmm := @run_makeMap Tryz.prog
  have HB := Lib.hid (((Below.refl _ w).alloc (Nat.le_refl _) (.map #[] 0)).alloc (by simp) (.cells #[.pointer (some ⟨b.p, 0, none⟩), .pointer (some ⟨j, 0, none⟩), .map (some w.heap.size), .bool false] 139))
  have HX := Lib.hid (SBox.new (w.alloc (.map #[] 0)) 139 #[.pointer (some ⟨b.p, 0, none⟩), .pointer (some ⟨j, 0, none⟩), .map (some w.heap.size), .bool false])
  have HM := Lib.hid ((IMap.new w strR).alloc (.cells #[.pointer (some ⟨b.p, 0, none⟩), .pointer (some ⟨j, 0, none⟩), .map (some w.heap.size), .bool false] 139))
  have HD := Lib.hid h
  clear h
  go_enter Tryz.func27, Tryz.ntmps27
  go_wp2
  go_ret2
  have hX := HX.out
  rw [World.size_alloc] at hX
  exact ⟨⟨w.heap.size + 1, w.heap.size, j⟩, rfl, rfl, by simp, Nat.le_refl _, ⟨hX, HM.out, HD.out.later HB.out⟩, HB.out⟩
end
end Go.Proofs.YtpnfkilfgdnogaaGreatDoor.Tx
