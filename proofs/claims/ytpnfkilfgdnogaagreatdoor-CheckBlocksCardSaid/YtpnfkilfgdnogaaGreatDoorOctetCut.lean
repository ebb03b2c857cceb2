/- The walks of octet.Cut, Text8, Read8, Bare, and of the reference's. -/
import Derived.Test.YtpnfkilfgdnogaaGreatDoorOctetRef
import Derived.Deep.QuietTactic
import Derived.BigQuiet
namespace Go.Proofs.YtpnfkilfgdnogaaGreatDoor.Oct
set_option linter.unusedVariables false
open Go.RowKit
theorem ex_front (s : ByteArray) (n : Nat) : s.extract 0 n = B ((L s).take n) := by
  apply L_inj
  rw [L_B]
  unfold L
  obtain ⟨⟨l⟩⟩ := s
  rw [ByteArray.extract_mk]
  simp
theorem ex_rest (s : ByteArray) (n : Nat) : s.extract n s.size = B ((L s).drop n) := by
  apply L_inj
  rw [L_B]
  unfold L
  have h := len_L s
  unfold L at h
  obtain ⟨⟨l⟩⟩ := s
  rw [ByteArray.extract_mk]
  simp
  rw [List.take_of_length_le]
  simp at h ⊢
  omega
theorem below_drewN (w : World) (m B : Nat) : Below B w (w.drewN m) := ⟨rfl, rfl, rfl, Nat.le_refl _, fun _ _ => rfl⟩
theorem empty_no {s : ByteArray} (h : 0 < s.size) : s.toList.isEmpty = false := by
  have e : s.toList = s.data.toList := ByteArray.toList_eq s
  have e2 := len_L s
  unfold L at e2
  rw [e]
  cases hl : s.data.toList with
  | nil => rw [hl] at e2; simp at e2; omega
  | cons a l => rfl
theorem is_empty {s : ByteArray} (h : s.size = 0) : s = ⟨#[]⟩ := L_inj (List.eq_nil_of_length_eq_zero (by rw [len_L]; exact h))
set_option maxRecDepth 100000 in
set_option maxRecDepth 100000 in
set_option maxHeartbeats 400000 in
theorem text8_ok (s : ByteArray) (w : World) (h : s.size ≤ 255) :
    Calls Tryz.prog 171 #[.string s] w fun e w' => e = .returned (.tuple #[.string (B (UInt8.ofNat s.size :: L s)), .int .i64 0]) ∧ Below w.heap.size w w' := by
  have hone := run_one w (s.size : Int) (by omega) (by omega)
  have hz : (B [UInt8.ofNat s.size]).size + s.size ≤ 256 := by rw [size_B]; simp; omega
  have E := Lib.hid (show B [UInt8.ofNat s.size] ++ s = B (UInt8.ofNat s.size :: L s) by rw [append_B]; rfl)
  go_enter Tryz.func171, Tryz.ntmps171
  go_wp2
  go_ret2
  refine ⟨?_, (Below.refl _ _).alloc (Nat.le_refl _) _⟩
  rw [← E.out]
  rfl
end Go.Proofs.YtpnfkilfgdnogaaGreatDoor.Oct
