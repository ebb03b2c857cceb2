/- A block of cells, known whole: how it reads, and what leaves it as it is. -/
import Derived.Laws.BitsAllLaws
import Derived.WalkKit
import Derived.Test.YtmfhnhnmdeabeaaGreatProg
import Derived.WalkSpells
import Derived.WalkLawsBesides
import Derived.Lib.Hide
import Derived.StillTailTactics
import Derived.Laws.IdiomStrings
import Derived.RangeFuncNested
import Derived.RangeFuncBound
import Derived.RangeFuncCalls
import Derived.RangeFuncLeaves
import Derived.Shelf.Abstract
import Derived.Shelf.RegionOpen
import Derived.OwnWalkIn
import Derived.TacticsInMore
import Derived.LoopNIn
import Derived.LoopIn
import Derived.RegionTactic
import Derived.Deep.RegionHeld3
import Derived.Laws.Rows
set_option linter.unusedVariables false
set_option linter.unusedSimpArgs false
set_option maxRecDepth 100000
section
namespace Go.Proofs.YtmfhnhnmdeabeaaGreat
end Go.Proofs.YtmfhnhnmdeabeaaGreat
end
section
namespace Go.Proofs.YtmfhnhnmdeabeaaGreat
open Go.RowKit
end Go.Proofs.YtmfhnhnmdeabeaaGreat
end
section
namespace Go.Proofs.YtmfhnhnmdeabeaaGreat
open Go.RowKit Go.Shelf
attribute [local go_sem] Oper.semAt_some
def KeptBox (B : Nat) (t : TypeId) (W W' : World) : Prop := ∀ v, Boxed W B t v → Boxed W' B t v
theorem KeptBox.refl (B : Nat) (t : TypeId) (W : World) : KeptBox B t W W := fun _ h => h
end Go.Proofs.YtmfhnhnmdeabeaaGreat
end
section
namespace Go.Proofs.YtmfhnhnmdeabeaaGreat
open Go.RowKit Go.Shelf
def SBox (W : World) (b : Nat) (t : TypeId) (cs : Array Value) : Prop := W.heap[b]? = some (.cells cs t (0, 0))
theorem SBox.lt {W : World} {b : Nat} {t : TypeId} {cs : Array Value} (h : SBox W b t cs) : b < W.heap.size := (Array.getElem?_eq_some_iff.1 h).1
theorem SBox.cell {W : World} {b : Nat} {t : TypeId} {cs : Array Value} (h : SBox W b t cs) (i : Nat) : W.cell? ⟨b, i, none⟩ = cs[i]? := by
 unfold SBox at h
 simp [World.cell?, h]
theorem SBox.free {W : World} {b : Nat} {t : TypeId} {cs : Array Value} (h : SBox W b t cs) (i : Nat) : W.frozen? ⟨b, i, none⟩ = false := by
 unfold SBox at h
 simp [World.frozen?, h]
theorem SBox.below {W W' : World} {b n : Nat} {t : TypeId} {cs : Array Value} (h : SBox W b t cs) (hn : b < n) (hb : Below n W W') : SBox W' b t cs := (hb.block b hn).trans h
theorem SBox.later {W W' : World} {b : Nat} {t : TypeId} {cs : Array Value} (h : SBox W b t cs) (hb : Below W.heap.size W W') : SBox W' b t cs := h.below h.lt hb
theorem SBox.new (W : World) (t : TypeId) (cs : Array Value) : SBox (W.alloc (.cells cs t)) W.heap.size t cs := World.alloc_heap_new W _
theorem SBox.alloc {W : World} {b : Nat} {t : TypeId} {cs : Array Value} (h : SBox W b t cs) (o : Obj) : SBox (W.alloc o) b t cs := h.later ((Below.refl _ _).alloc (Nat.le_refl _) o)
theorem SBox.other {W : World} {b : Nat} {t : TypeId} {cs : Array Value} (h : SBox W b t cs) {c i : Nat} (v : Value) (hc : b ≠ c) : SBox (W.setCell ⟨c, i, none⟩ v) b t cs := (heap_setCell_other W ⟨c, i, none⟩ b v hc).trans h
theorem SBox.set {W : World} {b : Nat} {t : TypeId} {cs : Array Value} (h : SBox W b t cs) (i : Nat) (v : Value) : SBox (W.setCell ⟨b, i, none⟩ v) b t (cs.setIfInBounds i v) := heap_setCell_same W b i _ _ v h
theorem SBox.drew {W : World} {b : Nat} {t : TypeId} {cs : Array Value} (h : SBox W b t cs) : SBox W.drew b t cs := h
theorem SBox.kept {W W' : World} {row : Option Nat} {b : Nat} {t : TypeId} {cs : Array Value} (h : SBox W b t cs) (hg : W.grownBy W' row) (hne : some b ≠ row) : SBox W' b t cs := (hg.block b h.lt hne).trans h
end Go.Proofs.YtmfhnhnmdeabeaaGreat
end
