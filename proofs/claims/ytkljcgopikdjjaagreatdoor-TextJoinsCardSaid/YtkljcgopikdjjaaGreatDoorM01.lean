/- The walks of package bits that range over a function: all, Least, Count: for texts of at most 2^40 bytes. -/
import Derived.Laws.BitsAllLaws
import Derived.WalkKit
import Derived.Test.YtkljcgopikdjjaaGreatDoorProg
import Derived.WalkSpells
import Derived.WalkLawsBesides
import Derived.Lib.Hide
import Derived.StillTailTactics
import Derived.Laws.IdiomStrings
import Derived.RangeFuncNested
import Derived.RangeFuncBound
import Derived.RangeFuncCalls
import Derived.RangeFuncLeaves
import Derived.Shelf.Abstract
import Derived.Shelf.RegionOpen
import Derived.OwnWalkIn
import Derived.TacticsInMore
import Derived.LoopNIn
import Derived.LoopIn
import Derived.RegionTactic
set_option linter.unusedVariables false
set_option linter.unusedSimpArgs false
set_option maxRecDepth 100000
section
namespace Go.Proofs.YtkljcgopikdjjaaGreatDoor
theorem len_toList (s : ByteArray) : s.data.toList.length = s.size := rfl
def byteAt (s : ByteArray) (j : Nat) : UInt8 := s.data.toList.getD j 0
def bitB (s : ByteArray) (k : Nat) : Bool := (byteAt s (k / 8)).toNat.testBit (k % 8)
end Go.Proofs.YtkljcgopikdjjaaGreatDoor
end
section
namespace Go.Proofs.YtkljcgopikdjjaaGreatDoor
open Go.RowKit
theorem bytes_made {P : Program} (w : World) (src dst e : TypeId) (s : ByteArray) (hs : P.underlying src = some .string) (hd : P.underlying dst = some (.slice e)) (he : P.underlying e = some (.int .u8)) :
   ∃ (W : World) (cap : Nat), (convert src dst (.string s)).run P w = .ok (.slice (some ⟨w.heap.size, 0, none⟩) s.size cap) W ∧ Below w.heap.size w W ∧ W.heap.size = w.heap.size + 1 ∧
     (∀ j (h : j < s.size), W.cell? ⟨w.heap.size, j, none⟩ = some (.int .u8 s[j].toNat)) ∧ (∀ j, j < s.size → W.frozen? ⟨w.heap.size, j, none⟩ = false) := by
 have hl := len_toList s
 have hlt : ∀ (C : Nat) j, j < s.size → j < (bytesRow s C).size := by
   intro C j h
   simp [bytesRow]; omega
 refine ⟨_, _, run_bytes_of_string w src dst e s hs hd he, ?_, ?_, ?_, ?_⟩
 · exact (Below.refl _ w).drew.alloc (Nat.le_refl _) _
 · simp
 · intro j h
   have h1 := World.cell?_alloc_mark w.drew (bytesRow s (grownCap w s.size 0 e)) e ((bytesRow s (grownCap w s.size 0 e)).size, (bytesRow s (grownCap w s.size 0 e)).size + 1) j;rw [show w.drew.heap.size = w.heap.size from rfl] at h1;rw [h1]
   simp [bytesRow, Array.getElem?_append, h]
   rfl
 · intro j h
   have h1 := hlt (grownCap w s.size 0 e) j h
   simp [World.frozen?, World.alloc, World.drew, -World.alloc_eq, -World.drew_eq]
   omega
end Go.Proofs.YtkljcgopikdjjaaGreatDoor
end
section
namespace Go.Proofs.YtkljcgopikdjjaaGreatDoor
open Go.RowKit Go.Shelf
attribute [local go_sem] Oper.semAt_some
def upto {α : Type} (f : Nat → α) (k : Nat) : List α := (List.range k).map f
def KeptBox (B : Nat) (t : TypeId) (W W' : World) : Prop := ∀ v, Boxed W B t v → Boxed W' B t v
theorem KeptBox.refl (B : Nat) (t : TypeId) (W : World) : KeptBox B t W W := fun _ h => h
theorem keptBox_t {B : Nat} {t : TypeId} {X Y Z : World} (h : KeptBox B t X Y) (k : KeptBox B t Y Z) : KeptBox B t X Z := fun v hv => k v (h v hv)
theorem keptBox_b {B : Nat} {t : TypeId} {w : World} (hB : B < w.heap.size) (W : World) (l : Nat) (o o' : Obj) (hl : w.heap.size ≤ l) (_ : W.heap[l]? = some o) (_ : o.isCells = false) (_ : o.isWalk = false) : KeptBox B t W (W.putObj l o') :=
 fun _ hv => hv.kept (grownBy_putObj' W l o') (fun e => by cases e; omega)
theorem wpIn_plain_w {F : Fence} (HW : Hid (F = Fence.wide)) {n : Nat} {P : Program} {c : Code} {Q : Exit → Act → World → Prop} {a : Act} {w : World} (h : c.wp P Q a w) : c.wpIn F n P Q a w := by
 have e := HW.out;subst e;exact wpIn_wide.2 h
end Go.Proofs.YtkljcgopikdjjaaGreatDoor
end
