/- The walks of octet.Cut, Text8, Read8, Bare, and of the reference's. -/
import Derived.Test.YtfdclifdemajfaaDoorOctetRef
import Derived.Deep.QuietTactic
import Derived.BigQuiet
namespace Go.Proofs.YtfdclifdemajfaaDoor.Oct
set_option linter.unusedVariables false
open Go.RowKit

theorem ex_front (s : ByteArray) (n : Nat) : s.extract 0 n = B ((L s).take n) := by
  apply L_inj
  rw [L_B]
  unfold L
  obtain ⟨⟨l⟩⟩ := s
  rw [ByteArray.extract_mk]
  simp
theorem ex_rest (s : ByteArray) (n : Nat) : s.extract n s.size = B ((L s).drop n) := by
  apply L_inj
  rw [L_B]
  unfold L
  have h := len_L s
  unfold L at h
  obtain ⟨⟨l⟩⟩ := s
  rw [ByteArray.extract_mk]
  simp
  rw [List.take_of_length_le]
  simp at h ⊢
  omega

theorem below_drewN (w : World) (m B : Nat) : Below B w (w.drewN m) := ⟨rfl, rfl, rfl, Nat.le_refl _, fun _ _ => rfl⟩

theorem empty_no {s : ByteArray} (h : 0 < s.size) : s.toList.isEmpty = false := by
  have e : s.toList = s.data.toList := ByteArray.toList_eq s
  have e2 := len_L s
  unfold L at e2
  rw [e]
  cases hl : s.data.toList with
  | nil => rw [hl] at e2; simp at e2; omega
  | cons a l => rfl
theorem is_empty {s : ByteArray} (h : s.size = 0) : s = ⟨#[]⟩ := L_inj (List.eq_nil_of_length_eq_zero (by rw [len_L]; exact h))

theorem ex_mid (s : ByteArray) (n : Nat) : s.extract 1 (1 + n) = B (((L s).drop 1).take n) := by
  apply L_inj
  rw [L_B]
  unfold L
  obtain ⟨⟨l⟩⟩ := s
  rw [ByteArray.extract_mk]
  simp

end Go.Proofs.YtfdclifdemajfaaDoor.Oct
