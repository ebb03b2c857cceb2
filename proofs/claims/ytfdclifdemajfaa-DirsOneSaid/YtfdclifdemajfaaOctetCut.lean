/- The walks of octet.Cut, Text8, Read8, Bare, and of the reference's. -/
import Derived.Test.YtfdclifdemajfaaOctetRef
import Derived.Deep.QuietTactic
import Derived.BigQuiet
namespace Go.Proofs.Ytfdclifdemajfaa.Oct
set_option linter.unusedVariables false
open Go.RowKit

theorem ex_front (s : ByteArray) (n : Nat) : s.extract 0 n = B ((L s).take n) := by
  apply L_inj
  rw [L_B]
  unfold L
  obtain ⟨⟨l⟩⟩ := s
  rw [ByteArray.extract_mk]
  simp
theorem ex_rest (s : ByteArray) (n : Nat) : s.extract n s.size = B ((L s).drop n) := by
  apply L_inj
  rw [L_B]
  unfold L
  have h := len_L s
  unfold L at h
  obtain ⟨⟨l⟩⟩ := s
  rw [ByteArray.extract_mk]
  simp
  rw [List.take_of_length_le]
  simp at h ⊢
  omega

theorem below_drewN (w : World) (m B : Nat) : Below B w (w.drewN m) := ⟨rfl, rfl, rfl, Nat.le_refl _, fun _ _ => rfl⟩

set_option maxRecDepth 100000 in
set_option maxHeartbeats 400000 in
theorem cut_neg (s : ByteArray) (n : Int) (w : World) (h : n < 0) :
    Calls Try.prog 26 #[.string s, .int .i64 n] w fun e w' => e = .returned (.tuple #[.string ⟨#[]⟩, .string ⟨#[]⟩, .int .i64 2]) ∧ w = w' := by
  go_enter Try.func26, Try.ntmps26
  go_wp2
  go_ret3
  go_wp2
  go_ret3
  exact ⟨rfl, rfl⟩

set_option maxRecDepth 100000 in
set_option maxHeartbeats 400000 in
theorem cut_big (s : ByteArray) (n : Int) (w : World) (hs : s.size ≤ maxLen) (h : (s.size : Int) < n) :
    Calls Try.prog 26 #[.string s, .int .i64 n] w fun e w' => e = .returned (.tuple #[.string ⟨#[]⟩, .string ⟨#[]⟩, .int .i64 6]) ∧ w = w' := by
  unfold maxLen at hs
  have h0 : decide (n < 0) = false := by simp; omega
  go_enter Try.func26, Try.ntmps26
  go_wp2
  go_ret3
  go_wp2
  go_ret3
  exact ⟨rfl, rfl⟩

set_option maxRecDepth 100000 in
set_option maxHeartbeats 400000 in
theorem cut_okN (s : ByteArray) (n : Nat) (w : World) (hs : s.size ≤ maxLen) (h : n ≤ s.size) :
    Calls Try.prog 26 #[.string s, .int .i64 n] w fun e w' => e = .returned (.tuple #[.string (B ((L s).take n)), .string (B ((L s).drop n)), .int .i64 0]) ∧ ∃ m, w' = w.drewN m := by
  unfold maxLen at hs
  have E1 := Lib.hid (ex_front s n)
  have E2 := Lib.hid (ex_rest s n)
  have h0 : (0 : Int) ≤ (n : Int) := by omega
  have h1 : (n : Int) ≤ (s.size : Int) := by omega
  go_enter Try.func26, Try.ntmps26
  go_wp2
  go_quiet (fail)
  go_wp2
  go_ret3
  refine ⟨?_, _, rfl⟩
  rw [← E1.out, ← E2.out]
  rfl

theorem cut_bigQ (s : ByteArray) (n : Int) (w : World) (hs : s.size ≤ maxLen) (h : (s.size : Int) < n) :
    Calls Try.prog 26 #[.string s, .int .i64 n] w fun e w' => e = .returned (.tuple #[.string ⟨#[]⟩, .string ⟨#[]⟩, .int .i64 6]) ∧ w' = w :=
  (cut_big s n w hs h).mono fun _ _ ⟨he, hw⟩ => ⟨he, hw.symm⟩
theorem cut_ok (s : ByteArray) (n : Nat) (w : World) (hs : s.size ≤ maxLen) (h : n ≤ s.size) :
    Calls Try.prog 26 #[.string s, .int .i64 n] w fun e w' => e = .returned (.tuple #[.string (B ((L s).take n)), .string (B ((L s).drop n)), .int .i64 0]) ∧ Below w.heap.size w w' :=
  (cut_okN s n w hs h).mono fun _ _ ⟨he, m, hm⟩ => ⟨he, by rw [hm]; exact below_drewN _ _ _⟩

set_option maxRecDepth 100000 in
set_option maxHeartbeats 400000 in
theorem rcut_neg (s : ByteArray) (n : Int) (w : World) (h : n < 0) :
    Calls Try.prog 27 #[.string s, .int .i64 n] w fun e w' => e = .returned (.tuple #[.string ⟨#[]⟩, .string ⟨#[]⟩, .int .i64 2]) ∧ w = w' := by
  go_enter Try.func27, Try.ntmps27
  go_wp2
  go_ret3
  exact ⟨rfl, rfl⟩

set_option maxRecDepth 100000 in
set_option maxHeartbeats 400000 in
theorem rcut_big (s : ByteArray) (n : Int) (w : World) (hs : s.size ≤ maxLen) (h : (s.size : Int) < n) :
    Calls Try.prog 27 #[.string s, .int .i64 n] w fun e w' => e = .returned (.tuple #[.string ⟨#[]⟩, .string ⟨#[]⟩, .int .i64 6]) ∧ w = w' := by
  unfold maxLen at hs
  have h0 : decide (n < 0) = false := by simp; omega
  go_enter Try.func27, Try.ntmps27
  go_wp2
  go_ret3
  exact ⟨rfl, rfl⟩

set_option maxRecDepth 100000 in
set_option maxHeartbeats 400000 in
theorem rcut_ok (s : ByteArray) (n : Nat) (w : World) (hs : s.size ≤ maxLen) (h : n ≤ s.size) :
    Calls Try.prog 27 #[.string s, .int .i64 n] w fun e w' => e = .returned (.tuple #[.string (B ((L s).take n)), .string (B ((L s).drop n)), .int .i64 0]) ∧ Below w.heap.size w w' := by
  unfold maxLen at hs
  have E1 := Lib.hid (ex_front s n)
  have E2 := Lib.hid (ex_rest s n)
  have h0 : (0 : Int) ≤ (n : Int) := by omega
  have h1 : (n : Int) ≤ (s.size : Int) := by omega
  go_enter Try.func27, Try.ntmps27
  go_wp2
  go_quiet (fail)
  go_wp2
  go_ret3
  refine ⟨?_, below_drewN _ _ _⟩
  rw [← E1.out, ← E2.out]
  rfl

theorem empty_no {s : ByteArray} (h : 0 < s.size) : s.toList.isEmpty = false := by
  have e : s.toList = s.data.toList := ByteArray.toList_eq s
  have e2 := len_L s
  unfold L at e2
  rw [e]
  cases hl : s.data.toList with
  | nil => rw [hl] at e2; simp at e2; omega
  | cons a l => rfl
theorem is_empty {s : ByteArray} (h : s.size = 0) : s = ⟨#[]⟩ := L_inj (List.eq_nil_of_length_eq_zero (by rw [len_L]; exact h))

set_option maxRecDepth 100000 in
set_option maxHeartbeats 400000 in
theorem text8_long (s : ByteArray) (w : World) (hs : s.size ≤ maxLen) (h : 255 < s.size) :
    Calls Try.prog 31 #[.string s] w fun e w' => e = .returned (.tuple #[.string ⟨#[]⟩, .int .i64 5]) ∧ w = w' := by
  unfold maxLen at hs
  go_enter Try.func31, Try.ntmps31
  go_wp2
  go_ret2
  exact ⟨rfl, rfl⟩
set_option maxRecDepth 100000 in
set_option maxRecDepth 100000 in
set_option maxHeartbeats 400000 in
theorem text8_ok (s : ByteArray) (w : World) (h : s.size ≤ 255) :
    Calls Try.prog 31 #[.string s] w fun e w' => e = .returned (.tuple #[.string (B (UInt8.ofNat s.size :: L s)), .int .i64 0]) ∧ Below w.heap.size w w' := by
  have hone := run_one w (s.size : Int) (by omega) (by omega)
  have hz : (B [UInt8.ofNat s.size]).size + s.size ≤ 256 := by rw [size_B]; simp; omega
  have E := Lib.hid (show B [UInt8.ofNat s.size] ++ s = B (UInt8.ofNat s.size :: L s) by rw [append_B]; rfl)
  go_enter Try.func31, Try.ntmps31
  go_wp2
  go_ret2
  refine ⟨?_, (Below.refl _ _).alloc (Nat.le_refl _) _⟩
  rw [← E.out]
  rfl
set_option maxRecDepth 100000 in
set_option maxHeartbeats 400000 in
theorem rtext8_long (s : ByteArray) (w : World) (hs : s.size ≤ maxLen) (h : 255 < s.size) :
    Calls Try.prog 32 #[.string s] w fun e w' => e = .returned (.tuple #[.string ⟨#[]⟩, .int .i64 5]) ∧ w = w' := by
  unfold maxLen at hs
  go_enter Try.func32, Try.ntmps32
  go_wp2
  go_ret2
  exact ⟨rfl, rfl⟩
set_option maxRecDepth 100000 in
set_option maxRecDepth 100000 in
set_option maxHeartbeats 400000 in
theorem rtext8_ok (s : ByteArray) (w : World) (h : s.size ≤ 255) :
    Calls Try.prog 32 #[.string s] w fun e w' => e = .returned (.tuple #[.string (B (UInt8.ofNat s.size :: L s)), .int .i64 0]) ∧ Below w.heap.size w w' := by
  have hone := run_one w (s.size : Int) (by omega) (by omega)
  have hz : (B [UInt8.ofNat s.size]).size + s.size ≤ 256 := by rw [size_B]; simp; omega
  have E := Lib.hid (show B [UInt8.ofNat s.size] ++ s = B (UInt8.ofNat s.size :: L s) by rw [append_B]; rfl)
  go_enter Try.func32, Try.ntmps32
  go_wp2
  go_ret2
  refine ⟨?_, (Below.refl _ _).alloc (Nat.le_refl _) _⟩
  rw [← E.out]
  rfl

set_option maxRecDepth 100000 in
set_option maxHeartbeats 400000 in
theorem read8_empty (w : World) :
    Calls Try.prog 33 #[.string ⟨#[]⟩] w fun e w' => e = .returned (.tuple #[.string ⟨#[]⟩, .string ⟨#[]⟩, .int .i64 6]) ∧ Below w.heap.size w w' := by
  go_enter Try.func33, Try.ntmps33
  go_wp2
  go_ret3
  exact ⟨rfl, Below.refl _ _⟩

set_option maxRecDepth 100000 in
set_option maxHeartbeats 400000 in
theorem read8_ok (s : ByteArray) (w : World) (hs : s.size ≤ maxLen) (h0 : 0 < s.size) (n : Nat) (hn : s[0].toNat = n) (h : n + 1 ≤ s.size) :
    Calls Try.prog 33 #[.string s] w fun e w' => e = .returned (.tuple #[.string (B (((L s).drop 1).take n)), .string (B ((L s).drop (n + 1))), .int .i64 0]) ∧ Below w.heap.size w w' := by
  unfold maxLen at hs
  have hne := empty_no h0
  have h1 : (1 : Int) ≤ (s.size : Int) := by omega
  have E := Lib.hid (ex_rest s 1)
  have Z : (s.extract 1 s.size).size ≤ s.size - 1 := by rw [E.out, size_B, List.length_drop, len_L]; omega
  have Z2 : s.size - 1 ≤ (s.extract 1 s.size).size := by rw [E.out, size_B, List.length_drop, len_L]; omega
  go_enter Try.func33, Try.ntmps33
  go_wp2_with fail
  go_quiet ((go_at_call 26; exact Calls.quiet_of (cut_okN _ n _ (by unfold maxLen; omega) (by omega))))
  go_wp2
  go_ret3
  refine ⟨?_, below_drewN _ _ _⟩
  have e1 : L (s.extract 1 s.size) = (L s).drop 1 := by rw [E.out, L_B]
  have e2 : ((L s).drop 1).drop n = (L s).drop (n + 1) := by rw [List.drop_drop, Nat.add_comm]
  rw [← e2, ← e1]
  rfl

set_option maxRecDepth 100000 in
set_option maxHeartbeats 400000 in
theorem read8_short (s : ByteArray) (w : World) (hs : s.size ≤ maxLen) (h0 : 0 < s.size) (n : Nat) (hn : s[0].toNat = n) (hn8 : n < 256) (h : s.size < n + 1) :
    Calls Try.prog 33 #[.string s] w fun e w' => e = .returned (.tuple #[.string ⟨#[]⟩, .string ⟨#[]⟩, .int .i64 6]) ∧ Below w.heap.size w w' := by
  unfold maxLen at hs
  have q1 : IntKind.i64.wrap (n : Int) = (n : Int) := IntWalk.i64_in _ (by omega)
  have hne := empty_no h0
  have h1 : (1 : Int) ≤ (s.size : Int) := by omega
  have E := Lib.hid (ex_rest s 1)
  have Z : (s.extract 1 s.size).size ≤ s.size - 1 := by rw [E.out, size_B, List.length_drop, len_L]; omega
  go_enter Try.func33, Try.ntmps33
  go_wp2_with fail
  go_quiet ((go_at_call 26; exact Calls.quiet_of_same (cut_bigQ _ (n : Int) _ (by unfold maxLen; omega) (by omega))))
  go_wp2
  go_ret3
  exact ⟨rfl, below_drewN _ _ _⟩

set_option maxRecDepth 100000 in
set_option maxHeartbeats 400000 in
theorem rread8_empty (w : World) :
    Calls Try.prog 34 #[.string ⟨#[]⟩] w fun e w' => e = .returned (.tuple #[.string ⟨#[]⟩, .string ⟨#[]⟩, .int .i64 6]) ∧ Below w.heap.size w w' := by
  go_enter Try.func34, Try.ntmps34
  go_wp2
  go_ret3
  exact ⟨rfl, Below.refl _ _⟩

set_option maxRecDepth 100000 in
set_option maxHeartbeats 400000 in
theorem rread8_short (s : ByteArray) (w : World) (hs : s.size ≤ maxLen) (h0 : 0 < s.size) (n : Nat) (hn : s[0].toNat = n) (hn8 : n < 256) (h : s.size < n + 1) :
    Calls Try.prog 34 #[.string s] w fun e w' => e = .returned (.tuple #[.string ⟨#[]⟩, .string ⟨#[]⟩, .int .i64 6]) ∧ Below w.heap.size w w' := by
  unfold maxLen at hs
  have hne := empty_no h0
  go_enter Try.func34, Try.ntmps34
  go_wp2
  go_ret3
  exact ⟨rfl, Below.refl _ _⟩

theorem ex_mid (s : ByteArray) (n : Nat) : s.extract 1 (1 + n) = B (((L s).drop 1).take n) := by
  apply L_inj
  rw [L_B]
  unfold L
  obtain ⟨⟨l⟩⟩ := s
  rw [ByteArray.extract_mk]
  simp

set_option maxRecDepth 100000 in
set_option maxHeartbeats 400000 in
theorem rread8_ok (s : ByteArray) (w : World) (hs : s.size ≤ maxLen) (h0 : 0 < s.size) (n : Nat) (hn : s[0].toNat = n) (hn8 : n < 256) (h : n + 1 ≤ s.size) :
    Calls Try.prog 34 #[.string s] w fun e w' => e = .returned (.tuple #[.string (B (((L s).drop 1).take n)), .string (B ((L s).drop (n + 1))), .int .i64 0]) ∧ Below w.heap.size w w' := by
  unfold maxLen at hs
  have hne := empty_no h0
  have E1 := Lib.hid (ex_mid s n)
  have E2 := Lib.hid (ex_rest s (1 + n))
  have q1 : IntKind.i64.wrap (1 + (n : Int)) = 1 + (n : Int) := IntWalk.i64_in _ (by omega)
  have q2 : (0 : Int) ≤ 1 + (n : Int) := by omega
  have q3 : 1 + (n : Int) ≤ (s.size : Int) := by omega
  have q4 : (1 + (n : Int)).toNat = 1 + n := by omega
  have q5 : (1 : Int) ≤ 1 + (n : Int) := by omega
  go_enter Try.func34, Try.ntmps34
  go_wp2
  go_quiet (fail)
  go_wp2
  go_ret3
  refine ⟨?_, below_drewN _ _ _⟩
  rw [Nat.add_comm n 1, ← E1.out, ← E2.out]
  rfl
end Go.Proofs.Ytfdclifdemajfaa.Oct
