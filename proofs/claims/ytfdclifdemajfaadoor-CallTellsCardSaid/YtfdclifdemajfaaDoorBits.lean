/- The walks of package bits: has, Get, Set: what each call returns, for texts of at most 2^40 bytes. -/
import Derived.Test.YtfdclifdemajfaaDoorProg
import Derived.Test.YtfdclifdemajfaaDoorBitsPlain
import Derived.WalkKit
import Derived.WalkSpells
import Derived.WalkLawsBesides
import Derived.Lib.Hide
import Derived.StillTailTactics
import Derived.Laws.IdiomStrings
namespace Go.Proofs.YtfdclifdemajfaaDoor
open Go.RowKit

/-- '[]byte(s)': a new row of the string's bytes; nothing else turns. -/
theorem bytes_made {P : Program} (w : World) (src dst e : TypeId) (s : ByteArray) (hs : P.underlying src = some .string) (hd : P.underlying dst = some (.slice e)) (he : P.underlying e = some (.int .u8)) :
    ∃ (W : World) (cap : Nat), (convert src dst (.string s)).run P w = .ok (.slice (some ⟨w.heap.size, 0, none⟩) s.size cap) W ∧ Below w.heap.size w W ∧ W.heap.size = w.heap.size + 1 ∧
      (∀ j (h : j < s.size), W.cell? ⟨w.heap.size, j, none⟩ = some (.int .u8 s[j].toNat)) ∧ (∀ j, j < s.size → W.frozen? ⟨w.heap.size, j, none⟩ = false) := by
  have hl := len_toList s
  have hlt : ∀ (C : Nat) j, j < s.size → j < (bytesRow s C).size := by
    intro C j h
    simp [bytesRow]; omega
  refine ⟨_, _, run_bytes_of_string w src dst e s hs hd he, ?_, ?_, ?_, ?_⟩
  · exact (Below.refl _ w).drew.alloc (Nat.le_refl _) _
  · simp
  · intro j h
    have h1 := World.cell?_alloc_mark w.drew (bytesRow s (grownCap w s.size 0 e)) e ((bytesRow s (grownCap w s.size 0 e)).size, (bytesRow s (grownCap w s.size 0 e)).size + 1) j
    rw [show w.drew.heap.size = w.heap.size from rfl] at h1
    rw [h1]
    simp [bytesRow, Array.getElem?_append, h]
    rfl
  · intro j h
    have h1 := hlt (grownCap w s.size 0 e) j h
    simp [World.frozen?, World.alloc, World.drew, -World.alloc_eq, -World.drew_eq]
    omega

/-- The row of bytes behind the store, read back as a string. -/
theorem set_back (W : World) (B cap : Nat) (s : ByteArray) (k : Nat) (on : Bool) (h1 : k < 8 * s.size)
    (hcell : ∀ j (h : j < s.size), W.cell? ⟨B, j, none⟩ = some (.int .u8 s[j].toNat)) (hlt : k / 8 < s.size) :
    (convert 41 9 (.slice (some ⟨B, 0, none⟩) s.size cap)).run Tryd.prog (W.setCell ⟨B, k / 8, none⟩ (.int .u8 (turnB s[k / 8].toNat k on))).drew =
      .ok (.string (setB s k on)) (W.setCell ⟨B, k / 8, none⟩ (.int .u8 (turnB s[k / 8].toNat k on))).drew := by
  have hz : (setB s k on).data.toList.length = s.size := by rw [len_toList, size_setB]
  have h := run_convert_bytes_back (P := Tryd.prog) (W.setCell ⟨B, k / 8, none⟩ (.int .u8 (turnB s[k / 8].toNat k on))).drew 41 9 5 ⟨B, 0, none⟩ cap (setB s k on).data.toList Tryd.underlying41 Tryd.underlying5 Tryd.underlying9 ?_
  · rw [hz] at h
    rw [h]
  · intro j hj
    have hj' : j < s.size := by omega
    have e1 : ((⟨B, 0, none⟩ : Addr).add j) = ⟨B, j, none⟩ := by unfold Addr.add; simp; omega
    have e2 : (setB s k on).data.toList[j] = byteAt (setB s k on) j := by
      unfold byteAt; rw [List.getD_eq_getElem?_getD, List.getElem?_eq_getElem hj]; rfl
    rw [e1, e2, byteAt_setB s k j on h1]
    show (W.setCell ⟨B, k / 8, none⟩ _).cell? _ = _
    by_cases e : j = k / 8
    · subst e
      rw [if_pos rfl, World.cell?_setCell_same' _ _ _ (by rw [hcell _ hlt]; rfl), byteAt_get s _ hlt, turnB_eq]
    · have hne : (⟨B, k / 8, none⟩ : Addr) ≠ ⟨B, j, none⟩ := fun h => e (by injection h with _ h2 _; exact h2.symm)
      rw [if_neg e, World.cell?_setCell_other (h := hne), hcell j hj', byteAt_get s _ hj']

end Go.Proofs.YtfdclifdemajfaaDoor
