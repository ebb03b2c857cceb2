/- A block of cells, known whole: how it reads, and what leaves it as it is. -/
import Derived.Test.YtpnfkilfgdnogaaGreatDoorBitsIter
import Derived.Deep.RegionHeld3
import Derived.Laws.Rows
namespace Go.Proofs.YtpnfkilfgdnogaaGreatDoor
open Go.RowKit Go.Shelf
def SBox (W : World) (b : Nat) (t : TypeId) (cs : Array Value) : Prop := W.heap[b]? = some (.cells cs t (0, 0))
theorem SBox.lt {W : World} {b : Nat} {t : TypeId} {cs : Array Value} (h : SBox W b t cs) : b < W.heap.size := (Array.getElem?_eq_some_iff.1 h).1
theorem SBox.cell {W : World} {b : Nat} {t : TypeId} {cs : Array Value} (h : SBox W b t cs) (i : Nat) : W.cell? ⟨b, i, none⟩ = cs[i]? := by
  unfold SBox at h
  simp [World.cell?, h]
theorem SBox.free {W : World} {b : Nat} {t : TypeId} {cs : Array Value} (h : SBox W b t cs) (i : Nat) : W.frozen? ⟨b, i, none⟩ = false := by
  unfold SBox at h
  simp [World.frozen?, h]
theorem SBox.below {W W' : World} {b n : Nat} {t : TypeId} {cs : Array Value} (h : SBox W b t cs) (hn : b < n) (hb : Below n W W') : SBox W' b t cs := (hb.block b hn).trans h
theorem SBox.later {W W' : World} {b : Nat} {t : TypeId} {cs : Array Value} (h : SBox W b t cs) (hb : Below W.heap.size W W') : SBox W' b t cs := h.below h.lt hb
theorem SBox.new (W : World) (t : TypeId) (cs : Array Value) : SBox (W.alloc (.cells cs t)) W.heap.size t cs := World.alloc_heap_new W _
theorem SBox.alloc {W : World} {b : Nat} {t : TypeId} {cs : Array Value} (h : SBox W b t cs) (o : Obj) : SBox (W.alloc o) b t cs := h.later ((Below.refl _ _).alloc (Nat.le_refl _) o)
theorem SBox.other {W : World} {b : Nat} {t : TypeId} {cs : Array Value} (h : SBox W b t cs) {c i : Nat} (v : Value) (hc : b ≠ c) : SBox (W.setCell ⟨c, i, none⟩ v) b t cs := (heap_setCell_other W ⟨c, i, none⟩ b v hc).trans h
theorem SBox.set {W : World} {b : Nat} {t : TypeId} {cs : Array Value} (h : SBox W b t cs) (i : Nat) (v : Value) : SBox (W.setCell ⟨b, i, none⟩ v) b t (cs.setIfInBounds i v) := heap_setCell_same W b i _ _ v h
theorem SBox.drew {W : World} {b : Nat} {t : TypeId} {cs : Array Value} (h : SBox W b t cs) : SBox W.drew b t cs := h
theorem SBox.kept {W W' : World} {row : Option Nat} {b : Nat} {t : TypeId} {cs : Array Value} (h : SBox W b t cs) (hg : W.grownBy W' row) (hne : some b ≠ row) : SBox W' b t cs := (hg.block b h.lt hne).trans h
end Go.Proofs.YtpnfkilfgdnogaaGreatDoor
