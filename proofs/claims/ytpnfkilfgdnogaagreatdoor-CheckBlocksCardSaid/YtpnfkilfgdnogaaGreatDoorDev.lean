/- Layer 3 (dev): a device in memory (no fuse armed, nothing dead), and what its reading calls return. -/
import Derived.Test.YtpnfkilfgdnogaaGreatDoorIMaps
import Derived.BigGuard
namespace Go.Proofs.YtpnfkilfgdnogaaGreatDoor.Dev
set_option linter.unusedVariables false
set_option linter.unusedSimpArgs false
open Go.RowKit Go.Shelf Go.Maps
structure DevB where
  p : Nat
  g : Nat
  m : Nat
def devCells (b : DevB) (n cap k : Nat) : Array Value := #[.bool false, .int .i64 0, .bool false, .slice (some ⟨b.g, 0, none⟩) n cap, .map (some b.m), .int .u64 k]
def StrRow (W : World) (g : Nat) (l : List ByteArray) : Prop := ∃ cs : Array Value, W.heap[g]? = some (.cells cs 9 (0, 0)) ∧ ∀ i (h : i < l.length), cs[i]? = some (.string l[i])
theorem StrRow.lt {W : World} {g : Nat} {l : List ByteArray} (h : StrRow W g l) : g < W.heap.size := by
  obtain ⟨cs, h1, _⟩ := h
  exact (Array.getElem?_eq_some_iff.1 h1).1
theorem StrRow.cell {W : World} {g : Nat} {l : List ByteArray} (h : StrRow W g l) (i : Nat) (hi : i < l.length) : W.cell? ⟨g, i, none⟩ = some (.string l[i]) := by
  obtain ⟨cs, h1, h2⟩ := h
  exact (SBox.cell (t := 9) h1 i).trans (h2 i hi)
theorem StrRow.free {W : World} {g : Nat} {l : List ByteArray} (h : StrRow W g l) (i : Nat) : W.frozen? ⟨g, i, none⟩ = false := by
  obtain ⟨cs, h1, _⟩ := h
  exact SBox.free (t := 9) h1 i
theorem StrRow.block {W W' : World} {g : Nat} {l : List ByteArray} (h : StrRow W g l) (hb : W'.heap[g]? = W.heap[g]?) : StrRow W' g l := by
  obtain ⟨cs, h1, h2⟩ := h
  exact ⟨cs, hb.trans h1, h2⟩
theorem StrRow.set {W : World} {g : Nat} {l : List ByteArray} (h : StrRow W g l) (i : Nat) (s : ByteArray) : StrRow (W.setCell ⟨g, i, none⟩ (.string s)) g (l.set i s) := by
  obtain ⟨cs, h1, h2⟩ := h
  refine ⟨_, SBox.set (t := 9) h1 i (.string s), fun j hj => ?_⟩
  rw [List.length_set] at hj
  rw [Array.getElem?_setIfInBounds]
  by_cases e : i = j
  · subst e
    have hs : i < cs.size := (Array.getElem?_eq_some_iff.1 (h2 i hj)).1
    rw [if_pos rfl, if_pos hs]
    simp
  · rw [if_neg e, h2 j hj]
    simp [List.getElem_set, e]
def rowD (b c : Nat) : DataW Unit := .agg [.lit (.int .i64 b), .lit (.int .i64 c)]
def row0 : DataW Unit := .agg []
def rowElem : ElemR := fun v => match v with
  | .agg cs => match cs.toList with
    | [.slice none 0 0] => some (row0, [])
    | [.slice (some ⟨b, 0, none⟩) 1 c] => some (rowD b c, [])
    | _ => none
  | _ => none
theorem rowElem_zero : rowElem (.agg #[.slice none 0 0]) = some (row0, []) := rfl
theorem rowElem_mk (b c : Nat) : rowElem (.agg #[.slice (some ⟨b, 0, none⟩) 1 c]) = some (rowD b c, []) := rfl
theorem rowElem_inv0 {v : Value} {ps : List MemPlace} (h : rowElem v = some (row0, ps)) : v = .agg #[.slice none 0 0] := by
  unfold rowElem at h
  split at h
  · rename_i cs
    split at h
    · rename_i hm
      congr 1
      exact Array.toList_inj.1 hm
    · simp [row0, rowD] at h
    · cases h
  · cases h
theorem rowElem_inv {v : Value} {b c : Nat} {ps : List MemPlace} (h : rowElem v = some (rowD b c, ps)) : v = .agg #[.slice (some ⟨b, 0, none⟩) 1 c] := by
  unfold rowElem at h
  split at h
  · rename_i cs
    split at h
    · simp [row0, rowD] at h
    · rename_i b2 c2 hm
      simp only [rowD, Option.some.injEq, Prod.mk.injEq, DataW.agg.injEq, List.cons.injEq, DataW.lit.injEq, Lit.int.injEq, true_and, and_true] at h
      have e1 : b2 = b := by have := h.1.1; omega
      have e2 : c2 = c := by have := h.1.2; omega
      subst e1 e2
      congr 1
      exact Array.toList_inj.1 hm
    · cases h
  · cases h
abbrev Pend := Int → Option (Nat × Nat × ByteArray)
def rowF (pd : Pend) : Int → Option (DataW Unit) := fun x => (pd x).map fun e => rowD e.1 e.2.1
structure DevAt (W : World) (b : DevB) (hard : List ByteArray) (pd : Pend) (k : Nat) : Prop where
  dev : ∃ cap, hard.length ≤ cap ∧ SBox W b.p 107 (devCells b hard.length cap k)
  row : StrRow W b.g hard
  map : IMap W rowElem b.m k (rowF pd)
  rows : ∀ x e, pd x = some e → StrRow W e.1 [e.2.2] ∧ e.1 ≠ b.g
  len : hard.length ≤ 4096
  dom : ∀ x e, pd x = some e → ∃ i : Nat, x = i ∧ i < hard.length
theorem DevAt.below {W W' : World} {b : DevB} {hard : List ByteArray} {pd : Pend} {k n : Nat} (h : DevAt W b hard pd k) (hn : W.heap.size ≤ n) (hb : Below n W W') : DevAt W' b hard pd k := by
  obtain ⟨⟨cap, h0, h1⟩, h2, h3, h4, h5, h6⟩ := h
  exact ⟨⟨cap, h0, h1.below (Nat.lt_of_lt_of_le h1.lt hn) hb⟩, h2.block (hb.block _ (Nat.lt_of_lt_of_le h2.lt hn)), h3.below (Nat.lt_of_lt_of_le h3.lt hn) hb, fun x e hx => ⟨(h4 x e hx).1.block (hb.block _ (Nat.lt_of_lt_of_le (h4 x e hx).1.lt hn)), (h4 x e hx).2⟩, h5, h6⟩
theorem DevAt.later {W W' : World} {b : DevB} {hard : List ByteArray} {pd : Pend} {k : Nat} (h : DevAt W b hard pd k) (hb : Below W.heap.size W W') : DevAt W' b hard pd k := h.below (Nat.le_refl _) hb
section
variable {b : DevB} {hard : List ByteArray} {pd : Pend} {k : Nat}
set_option maxRecDepth 100000 in
theorem len_any (w : World) (h : DevAt w b hard pd k) : Calls Tryz.prog 92 #[.pointer (some ⟨b.p, 0, none⟩)] w fun e w' => e = .returned (.int .i64 hard.length) ∧ w = w' := by
  obtain ⟨⟨cap, hcap, hX⟩, _⟩ := h
  unfold devCells at hX
  have X0 := hX.cell 0
  have X1 := hX.cell 1
  have X2 := hX.cell 2
  have X3 := hX.cell 3
  have X4 := hX.cell 4
  have X5 := hX.cell 5
  simp only [List.getElem?_toArray, List.getElem?_cons_zero, List.getElem?_cons_succ] at X0 X1 X2 X3 X4 X5
  have Xl := hX.lt
  clear hX
  go_enter Tryz.func92, Tryz.ntmps92
  go_wp2
  go_ret
  exact ⟨rfl, rfl⟩
set_option maxRecDepth 100000 in
theorem ready_any (w : World) (h : DevAt w b hard pd k) : Calls Tryz.prog 141 #[.pointer (some ⟨b.p, 0, none⟩)] w fun e w' => e = .returned (.int .i64 0) ∧ w = w' := by
  obtain ⟨⟨cap, hcap, hX⟩, _⟩ := h
  unfold devCells at hX
  have X0 := hX.cell 0
  have X1 := hX.cell 1
  have X2 := hX.cell 2
  have X3 := hX.cell 3
  have X4 := hX.cell 4
  have X5 := hX.cell 5
  simp only [List.getElem?_toArray, List.getElem?_cons_zero, List.getElem?_cons_succ] at X0 X1 X2 X3 X4 X5
  have Xl := hX.lt
  clear hX
  go_enter Tryz.func141, Tryz.ntmps141
  go_wp2
  go_ret
  exact ⟨rfl, rfl⟩
def inD (i : Int) (n : Nat) : Bool := decide (0 ≤ i) && decide (i < (n : Int))
set_option maxRecDepth 100000 in
theorem has_any (i : Int) (w : World) (h : DevAt w b hard pd k) : Calls Tryz.prog 50 #[.pointer (some ⟨b.p, 0, none⟩), .int .i64 i] w fun e w' => e = .returned (.bool (inD i hard.length)) ∧ w = w' := by
  have LN := Lib.hid (len_any w h)
  unfold inD
  clear h
  go_enter Tryz.func50, Tryz.ntmps50
  by_cases h0 : 0 ≤ i
  · have h1 : decide (0 ≤ i) = true := by simpa using h0
    go_wp2_with fail
    refine LN.out.mono ?_
    rintro e w9 ⟨rfl, rfl⟩
    go_wp2
    go_ret
    exact ⟨by simp [h0], rfl⟩
  · have h1 : decide (0 ≤ i) = false := by simpa using h0
    go_wp2
    go_ret
    exact ⟨by simp [h0], rfl⟩
end
end Go.Proofs.YtpnfkilfgdnogaaGreatDoor.Dev
