/- The walks of package bits: has, Get, Set: what each call returns, for texts of at most 2^40 bytes. -/
import Derived.Test.YtpnfkilfgdnogaaGreatDoorProg
import Derived.Test.YtpnfkilfgdnogaaGreatDoorBitsPlain
import Derived.WalkKit
import Derived.WalkSpells
import Derived.WalkLawsBesides
import Derived.Lib.Hide
import Derived.StillTailTactics
import Derived.Laws.IdiomStrings
namespace Go.Proofs.YtpnfkilfgdnogaaGreatDoor
open Go.RowKit
theorem bytes_made {P : Program} (w : World) (src dst e : TypeId) (s : ByteArray) (hs : P.underlying src = some .string) (hd : P.underlying dst = some (.slice e)) (he : P.underlying e = some (.int .u8)) :
    ∃ (W : World) (cap : Nat), (convert src dst (.string s)).run P w = .ok (.slice (some ⟨w.heap.size, 0, none⟩) s.size cap) W ∧ Below w.heap.size w W ∧ W.heap.size = w.heap.size + 1 ∧
      (∀ j (h : j < s.size), W.cell? ⟨w.heap.size, j, none⟩ = some (.int .u8 s[j].toNat)) ∧ (∀ j, j < s.size → W.frozen? ⟨w.heap.size, j, none⟩ = false) := by
  have hl := len_toList s
  have hlt : ∀ (C : Nat) j, j < s.size → j < (bytesRow s C).size := by
    intro C j h
    simp [bytesRow]; omega
  refine ⟨_, _, run_bytes_of_string w src dst e s hs hd he, ?_, ?_, ?_, ?_⟩
  · exact (Below.refl _ w).drew.alloc (Nat.le_refl _) _
  · simp
  · intro j h
    have h1 := World.cell?_alloc_mark w.drew (bytesRow s (grownCap w s.size 0 e)) e ((bytesRow s (grownCap w s.size 0 e)).size, (bytesRow s (grownCap w s.size 0 e)).size + 1) j
    rw [show w.drew.heap.size = w.heap.size from rfl] at h1
    rw [h1]
    simp [bytesRow, Array.getElem?_append, h]
    rfl
  · intro j h
    have h1 := hlt (grownCap w s.size 0 e) j h
    simp [World.frozen?, World.alloc, World.drew, -World.alloc_eq, -World.drew_eq]
    omega
set_option maxHeartbeats 400000 in
theorem has_yes (s : ByteArray) (i : Int) (w : World) (hs : s.size ≤ 1099511627776) (h0 : 0 ≤ i) (h1 : i < 8 * s.size) :
    Calls Tryz.prog 154 #[.string s, .int .i64 i] w fun e w' => e = .returned (.bool true) ∧ w = w' := by
  have h0' : decide (0 ≤ i) = true := by simpa using h0
  go_enter Tryz.func154, Tryz.ntmps154
  go_wp2
  go_ret
  exact ⟨rfl, rfl⟩
set_option maxHeartbeats 400000 in
theorem get_yes (s : ByteArray) (k : Nat) (w : World) (hs : s.size ≤ 1099511627776) (h1 : k < 8 * s.size) :
    Calls Tryz.prog 140 #[.string s, .int .i64 k] w fun e w' => e = .returned (.tuple #[.bool (bitB s k), .int .i64 0]) ∧ w = w' := by
  have hlt : k / 8 < s.size := by omega
  have HF := Lib.hid (show (bits BinOp.and IntKind.u8 ((s[k / 8].toNat : Int) / 2 ^ (k % 8)) 1 == 1) = bitB s k by rw [get_bit]; unfold bitB; rw [byteAt_get s _ hlt])
  go_enter Tryz.func140, Tryz.ntmps140
  go_wp2_with (go_at_call 154; refine (has_yes _ _ _ hs (by omega) (by omega)).mono ?_; rintro e w' ⟨rfl, rfl⟩)
  go_ret2
  refine ⟨?_, rfl⟩
  rw [← HF.out]
  rfl
theorem turn_any (b : Int) (k : Nat) (on : Bool) (p q : Addr) (w : World) (hp : w.cell? p = some (.int .i64 k)) (hq : w.cell? q = some (.bool on)) :
    Calls Tryz.prog 155 #[.int .u8 b, .pointer (some p), .pointer (some q)] w fun e w' => e = .returned (.int .u8 (turnB b k on)) ∧ w' = w := by
  cases on
  · go_enter Tryz.func155, Tryz.ntmps155
    go_wp2
    go_ret
    exact ⟨rfl, rfl⟩
  · go_enter Tryz.func155, Tryz.ntmps155
    go_wp2
    go_ret
    exact ⟨rfl, rfl⟩
theorem set_back (W : World) (B cap : Nat) (s : ByteArray) (k : Nat) (on : Bool) (h1 : k < 8 * s.size)
    (hcell : ∀ j (h : j < s.size), W.cell? ⟨B, j, none⟩ = some (.int .u8 s[j].toNat)) (hlt : k / 8 < s.size) :
    (convert 52 9 (.slice (some ⟨B, 0, none⟩) s.size cap)).run Tryz.prog (W.setCell ⟨B, k / 8, none⟩ (.int .u8 (turnB s[k / 8].toNat k on))).drew =
      .ok (.string (setB s k on)) (W.setCell ⟨B, k / 8, none⟩ (.int .u8 (turnB s[k / 8].toNat k on))).drew := by
  have hz : (setB s k on).data.toList.length = s.size := by rw [len_toList, size_setB]
  have h := run_convert_bytes_back (P := Tryz.prog) (W.setCell ⟨B, k / 8, none⟩ (.int .u8 (turnB s[k / 8].toNat k on))).drew 52 9 5 ⟨B, 0, none⟩ cap (setB s k on).data.toList Tryz.underlying52 Tryz.underlying5 Tryz.underlying9 ?_
  · rw [hz] at h
    rw [h]
  · intro j hj
    have hj' : j < s.size := by omega
    have e1 : ((⟨B, 0, none⟩ : Addr).add j) = ⟨B, j, none⟩ := by unfold Addr.add; simp; omega
    have e2 : (setB s k on).data.toList[j] = byteAt (setB s k on) j := by
      unfold byteAt; rw [List.getD_eq_getElem?_getD, List.getElem?_eq_getElem hj]; rfl
    rw [e1, e2, byteAt_setB s k j on h1]
    show (W.setCell ⟨B, k / 8, none⟩ _).cell? _ = _
    by_cases e : j = k / 8
    · subst e
      rw [if_pos rfl, World.cell?_setCell_same' _ _ _ (by rw [hcell _ hlt]; rfl), byteAt_get s _ hlt, turnB_eq]
    · have hne : (⟨B, k / 8, none⟩ : Addr) ≠ ⟨B, j, none⟩ := fun h => e (by injection h with _ h2 _; exact h2.symm)
      rw [if_neg e, World.cell?_setCell_other (h := hne), hcell j hj', byteAt_get s _ hj']
set_option maxRecDepth 100000 in
set_option maxHeartbeats 400000 in
theorem set_yes (s : ByteArray) (k : Nat) (on : Bool) (w : World) (hs : s.size ≤ 1099511627776) (h1 : k < 8 * s.size) :
    Calls Tryz.prog 105 #[.string s, .int .i64 k, .bool on] w fun e w' => e = .returned (.tuple #[.string (setB s k on), .int .i64 0]) ∧ Below w.heap.size w w' := by
  obtain ⟨W, cap, hconv, hB, hz, hcell, hfr⟩ := bytes_made (P := Tryz.prog) ((w.alloc (.cells #[.int .i64 k] 3)).alloc (.cells #[.bool on] 4)) 9 52 5 s Tryz.underlying9 Tryz.underlying52 Tryz.underlying5
  have hlt : k / 8 < s.size := by omega
  have hp : W.cell? ⟨w.heap.size, 0, none⟩ = some (.int .i64 k) := by
    rw [hB.cell (p := ⟨w.heap.size, 0, none⟩) (by simp; omega)]; simp
  have hq : W.cell? ⟨w.heap.size + 1, 0, none⟩ = some (.bool on) := by
    rw [hB.cell (p := ⟨w.heap.size + 1, 0, none⟩) (by simp)]; simp
  have hc := hcell (k / 8) hlt
  have hf := hfr (k / 8) hlt
  have hback := set_back W _ cap s k on h1 hcell hlt
  have HB := Lib.hid (show Below w.heap.size w W from (((Below.refl _ w).alloc (Nat.le_refl _) _).alloc (by simp) _).trans (hB.mono (by simp; omega)))
  simp only [World.size_alloc] at hc hf hconv hback
  clear hcell hfr hz hB
  have d1 : 0 ≤ (k : Int) / 8 := by omega
  have d2 : (k : Int) / 8 < s.size := by omega
  have d3 : ((k : Int) / 8).toNat = k / 8 := by omega
  have d0 : IntKind.i64.wrap ((k : Int) / 8) = (k : Int) / 8 := IntWalk.i64_in _ (by omega)
  go_enter Tryz.func105, Tryz.ntmps105
  go_wp2_with (go_at_call 154; refine (has_yes _ _ _ hs (by omega) (by omega)).mono ?_; rintro e w' ⟨rfl, rfl⟩)
  refine wp_region_still_tail 11 (by kernel_rfl) (by kernel_rfl) ?_
  simp only [List.take_succ_cons, List.take_zero, List.drop_succ_cons, List.drop_zero]
  iterate 9 still_step
  still_call (turn_any _ k on _ _ _ (by simpa using hp) (by simpa using hq))
  still_step
  refine wpStill_nil ?_
  go_wp2
  go_ret2
  exact ⟨rfl, (HB.out.setCell (by simp; omega) _).drew⟩
end Go.Proofs.YtpnfkilfgdnogaaGreatDoor
