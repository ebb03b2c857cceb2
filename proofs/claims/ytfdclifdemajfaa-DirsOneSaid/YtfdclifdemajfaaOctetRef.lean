/- The walks of the reference's Bytes, Num and Get of layer 1. -/
import Derived.Test.YtfdclifdemajfaaOctet
namespace Go.Proofs.Ytfdclifdemajfaa.Oct
open Go.RowKit

/-- 'string([]byte{x})'. -/
theorem run_one (W : World) (x : Int) (h0 : 0 ≤ x) (h1 : x < 256) : (convert 80 9 (.slice (some ⟨W.heap.size, 0, none⟩) 1 1)).run Try.prog (W.alloc (.cells #[.int .u8 x] 5)) =
    .ok (.string (B [UInt8.ofNat x.toNat])) (W.alloc (.cells #[.int .u8 x] 5)) := by
  have h := run_back (W.alloc (.cells #[.int .u8 x] 5)) W.heap.size 1 [UInt8.ofNat x.toNat] (fun _ => .int .u8 x) (World.rowIs_alloc W #[.int .u8 x] 5 _ (fun i hi => by
    have : i = 0 := by simp at hi; omega
    subst this; rfl)) (fun j hj => by
    have : j = 0 := by simp at hj; omega
    subst this
    simp only [List.getElem_cons_zero]
    rw [UInt8.toNat_ofNat', Nat.mod_eq_of_lt (by omega)]
    congr 1; omega)
  exact h

set_option maxRecDepth 100000 in
set_option maxHeartbeats 400000 in
theorem bytes_ok (v n : Nat) (w : World) (hn : n ≤ 8) (HV : Hid (v < 256 ^ 8)) :
    Calls Try.prog 62 #[.int .u64 v, .int .i64 n] w fun e w' => e = .returned (.string (B (numL v n))) ∧ Below w.heap.size w w' := by
  go_enter Try.func62, Try.ntmps62
  go_wp2
  go_loopw [0, 5, 6] (fun x s i wr => ∃ k q : Nat, k ≤ n ∧ i = .int .i64 k ∧ x = .int .u64 q ∧ Hid (q = v / 256 ^ k) ∧ s = .string (B (numL v k)) ∧ Below w.heap.size w wr) (fun _ _ i _ => n - (intOf i).toNat)
  case atStart => exact ⟨0, v, Nat.zero_le _, rfl, rfl, Lib.hid (by simp), rfl, Below.refl _ _⟩
  case round =>
    obtain ⟨k, q, hk, rfl, rfl, HQ, rfl, hB⟩ := hrel
    by_cases hlt : k < n
    · have hone := run_one wr ((q : Int) % 256) (by omega) (by omega)
      have hz : (B (numL v k)).size + (B [UInt8.ofNat (q % 256)]).size ≤ 9 := by rw [size_B, size_B, len_numL]; simp; omega
      have E1 := Lib.hid (quo_step v k q HV.out HQ.out)
      have E2 := Lib.hid (num_step v k q HQ.out)
      go_wp2
      go_roundw
      case rel => exact ⟨k + 1, v / 256 ^ (k + 1), by omega, by go_num, by rw [E1.out], Lib.hid rfl, by rw [E2.out], hB.alloc hB.size _⟩
      case measure => simp [intOf]; omega
    · go_wp2
      go_ret
      obtain rfl : k = n := by omega
      exact ⟨rfl, hB⟩

set_option maxHeartbeats 400000 in
theorem rget_long (s : ByteArray) (w : World) (hs : s.size ≤ maxLen) (h : 8 < s.size) :
    Calls Try.prog 21 #[.string s] w fun e w' => e = .returned (.tuple #[.int .u64 0, .int .i64 5]) ∧ w = w' := by
  unfold maxLen at hs
  go_enter Try.func21, Try.ntmps21
  go_wp2
  go_ret2
  exact ⟨rfl, rfl⟩

set_option maxHeartbeats 400000 in
theorem rget_ok (s : ByteArray) (w : World) (h : s.size ≤ 8) :
    Calls Try.prog 21 #[.string s] w fun e w' => e = .returned (.tuple #[.int .u64 (valL (L s)), .int .i64 0]) ∧ w = w' := by
  go_enter Try.func21, Try.ntmps21
  go_wp2_with (go_at_call 61; refine (value_ok _ _ h).mono ?_; rintro e w' ⟨rfl, rfl⟩)
  go_ret2
  exact ⟨rfl, rfl⟩

set_option maxHeartbeats 400000 in
theorem rnum_ok (v n : Nat) (w : World) (hn : n ≤ 8) (HV : Hid (v < 256 ^ 8)) (hv : Hid (v < 256 ^ n)) :
    Calls Try.prog 19 #[.int .u64 v, .int .i64 n] w fun e w' => e = .returned (.tuple #[.string (B (numL v n)), .int .i64 0]) ∧ Below w.heap.size w w' := by
  have t1 : decide ((n : Int) < 0) = false := by simp
  have t2 : decide (8 < n) = false := by simp; omega
  have t2' : decide (8 < (n : Int)) = false := by simp; omega
  have E := Lib.hid (show valL (L (B (numL v n))) = v by rw [L_B, valL_numL, Nat.mod_eq_of_lt hv.out])
  go_enter Try.func19, Try.ntmps19
  go_wp2_with fail
  refine (bytes_ok v n _ hn HV).mono ?_
  rintro e w1 ⟨rfl, b1⟩
  go_wp2_with fail
  refine (value_ok _ _ (by rw [size_B, len_numL]; omega)).mono ?_
  rintro e _ ⟨rfl, rfl⟩
  rw [E.out]
  have t3 : ((v : Int) != (v : Int)) = false := by simp
  go_wp2_with fail
  refine (bytes_ok v n _ hn HV).mono ?_
  rintro e w2 ⟨rfl, b2⟩
  go_wp2
  go_ret2
  exact ⟨rfl, b1.trans (b2.mono b1.size)⟩

set_option maxHeartbeats 400000 in
theorem rnum_big (v n : Nat) (w : World) (hn : n ≤ 8) (HV : Hid (v < 256 ^ 8)) (hv : Hid (256 ^ n ≤ v)) :
    Calls Try.prog 19 #[.int .u64 v, .int .i64 n] w fun e w' => e = .returned (.tuple #[.string ⟨#[]⟩, .int .i64 2]) ∧ Below w.heap.size w w' := by
  have t1 : decide ((n : Int) < 0) = false := by simp
  have t2 : decide (8 < n) = false := by simp; omega
  have t2' : decide (8 < (n : Int)) = false := by simp; omega
  obtain ⟨q, hq, E0⟩ : ∃ q, q < v ∧ valL (L (B (numL v n))) = q := ⟨v % 256 ^ n, Nat.lt_of_lt_of_le (Nat.mod_lt _ (Nat.pow_pos (by decide))) hv.out, by rw [L_B, valL_numL]⟩
  have E := Lib.hid E0
  clear E0
  have t3 : ((q : Int) != (v : Int)) = true := by simp; omega
  go_enter Try.func19, Try.ntmps19
  go_wp2_with fail
  refine (bytes_ok v n _ hn HV).mono ?_
  rintro e w1 ⟨rfl, b1⟩
  go_wp2_with fail
  refine (value_ok _ _ (by rw [size_B, len_numL]; omega)).mono ?_
  rintro e _ ⟨rfl, rfl⟩
  rw [E.out]
  go_wp2
  go_ret2
  exact ⟨rfl, b1⟩
end Go.Proofs.Ytfdclifdemajfaa.Oct
