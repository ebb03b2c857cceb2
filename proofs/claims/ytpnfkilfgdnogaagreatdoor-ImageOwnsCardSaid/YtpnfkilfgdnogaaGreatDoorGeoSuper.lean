/- Layer 5 (geo): the superblock: Super writes it, Read reads it back. -/
import Derived.Test.YtpnfkilfgdnogaaGreatDoorGeoPart
import Derived.Laws.Rows
namespace Go.Proofs.YtpnfkilfgdnogaaGreatDoor.Geo
set_option linter.unusedVariables false
set_option linter.unusedSimpArgs false
open Go.RowKit Go.Shelf Oct
def nil0 (n : Nat) : List UInt8 := List.replicate n 0
theorem nil0_len (n : Nat) : (nil0 n).length = n := by simp [nil0]
/-- A made row of bytes, as a string: noughts. -/
theorem run_zero (n : Nat) (w : World) : (convert 52 9 (.slice (some ⟨w.heap.size, 0, none⟩) n n)).run Tryz.prog (w.alloc (.cells (madeCells #[.int .u8 0] n) 5)) = .ok (.string (B (nil0 n))) (w.alloc (.cells (madeCells #[.int .u8 0] n) 5)) := by
  have r0 := World.rowIs_made w (.int .u8 0) n 5
  have h := run_back (w.alloc (.cells (madeCells #[.int .u8 0] n) 5)) w.heap.size n (nil0 n) _ (by rw [nil0_len]; exact r0) (fun j hj => by simp [nil0])
  rw [nil0_len] at h
  exact h
def magicL : List UInt8 := [108, 117, 110, 101, 116, 116, 101, 49]
def superL (i b j : Nat) : List UInt8 := magicL ++ numL i 4 ++ numL b 4 ++ numL j 4 ++ nil0 44
set_option maxRecDepth 100000 in
set_option maxHeartbeats 2000000 in
theorem super_any (i b j : Nat) (w : World) (hm : mayG i b j = true) : Calls Tryz.prog 52 #[geoV i b j] w fun e w' => e = .returned (.tuple #[.string (B (superL i b j)), .int .i64 0]) ∧ Below w.heap.size w w' := by
  have hr : i ≤ 256 ∧ b ≤ 1024 ∧ j ≤ 256 := by simp [mayG, inR] at hm; omega
  obtain ⟨hi, hb, hj⟩ := hr
  have MY := Lib.hid (fun W => may_any i b j W)
  rw [hm] at MY
  have N0 := Lib.hid (fun W => num_ok i 4 W (by omega) (by omega))
  have N1 := Lib.hid (fun W => num_ok b 4 W (by omega) (by omega))
  have N2 := Lib.hid (fun W => num_ok j 4 W (by omega) (by omega))
  have HB0 := Lib.hid ((Below.refl _ w).alloc (Nat.le_refl _) (.cells #[.int .i64 i, .int .i64 b, .int .i64 j] 23))
  unfold geoV at *
  go_enter Tryz.func52, Tryz.ntmps52
  go_wp2_with fail
  refine (MY.out _).mono ?_
  rintro e w1 ⟨rfl, b1⟩
  have hX := (SBox.new w 23 #[.int .i64 i, .int .i64 b, .int .i64 j]).later b1
  have hB1 := HB0.out.trans (b1.mono (by simp))
  have X0 := hX.cell 0
  have X1 := hX.cell 1
  have X2 := hX.cell 2
  simp only [List.getElem?_toArray, List.getElem?_cons_zero, List.getElem?_cons_succ] at X0 X1 X2
  have Xl := hX.lt
  have hV := SBox.new w1 3 #[.int .i64 i, .int .i64 b, .int .i64 j]
  have hB2 := hB1.alloc hB1.size (.cells #[.int .i64 i, .int .i64 b, .int .i64 j] 3)
  clear hX b1
  obtain ⟨t0, ht0⟩ : ∃ x, B (numL i 4) = x := ⟨_, rfl⟩
  obtain ⟨t1, ht1⟩ : ∃ x, B (numL b 4) = x := ⟨_, rfl⟩
  obtain ⟨t2, ht2⟩ : ∃ x, B (numL j 4) = x := ⟨_, rfl⟩
  rw [ht0] at N0
  rw [ht1] at N1
  rw [ht2] at N2
  have hs0 : t0.size = 4 := by rw [← ht0, size_B, len_numL]
  have hs1 : t1.size = 4 := by rw [← ht1, size_B, len_numL]
  have hs2 : t2.size = 4 := by rw [← ht2, size_B, len_numL]
  have hl8 : (⟨#[108, 117, 110, 101, 116, 116, 101, 49]⟩ : ByteArray).size = 8 := rfl
  have hs3 : (B (nil0 44)).size = 44 := by rw [size_B, nil0_len]
  have c0 : (⟨#[108, 117, 110, 101, 116, 116, 101, 49]⟩ : ByteArray).size + t0.size ≤ 256 := by omega
  have c1 : ((⟨#[108, 117, 110, 101, 116, 116, 101, 49]⟩ : ByteArray) ++ t0).size + t1.size ≤ 256 := by rw [ByteArray.size_append]; omega
  have c2 : ((⟨#[108, 117, 110, 101, 116, 116, 101, 49]⟩ : ByteArray) ++ t0 ++ t1).size + t2.size ≤ 256 := by rw [ByteArray.size_append, ByteArray.size_append]; omega
  have c3 : ((⟨#[108, 117, 110, 101, 116, 116, 101, 49]⟩ : ByteArray) ++ t0 ++ t1 ++ t2).size = 20 := by rw [ByteArray.size_append, ByteArray.size_append, ByteArray.size_append]; omega
  have c4 : ((⟨#[108, 117, 110, 101, 116, 116, 101, 49]⟩ : ByteArray) ++ t0 ++ t1 ++ t2).size + (B (nil0 44)).size ≤ 256 := by omega
  go_wp2_with fail
  clear hB1 X0 X1 X2 Xl
  refine wp_loop_rounds 4 ?_
  rw [rounds_succ]
  have V0 := hV.cell 0
  have V1 := hV.cell 1
  have V2 := hV.cell 2
  simp only [List.getElem?_toArray, List.getElem?_cons_zero, List.getElem?_cons_succ] at V0 V1 V2
  have Vl := hV.lt
  go_wp2_with fail
  refine (N0.out _).mono ?_
  rintro e w2 ⟨rfl, b2⟩
  have hV2 := hV.later b2
  have hB3 := hB2.trans (b2.mono hB2.size)
  clear V0 V1 V2 Vl hV b2 hB2
  have V0 := hV2.cell 0
  have V1 := hV2.cell 1
  have V2 := hV2.cell 2
  simp only [List.getElem?_toArray, List.getElem?_cons_zero, List.getElem?_cons_succ] at V0 V1 V2
  have Vl := hV2.lt
  go_wp2_with fail
  rw [rounds_succ]
  go_wp2_with fail
  refine (N1.out _).mono ?_
  rintro e w3 ⟨rfl, b3⟩
  have hV3 := hV2.later b3
  have hB4 := hB3.trans (b3.mono hB3.size)
  clear V0 V1 V2 Vl hV2 b3 hB3
  have V0 := hV3.cell 0
  have V1 := hV3.cell 1
  have V2 := hV3.cell 2
  simp only [List.getElem?_toArray, List.getElem?_cons_zero, List.getElem?_cons_succ] at V0 V1 V2
  have Vl := hV3.lt
  go_wp2_with fail
  rw [rounds_succ]
  go_wp2_with fail
  refine (N2.out _).mono ?_
  rintro e w4 ⟨rfl, b4⟩
  have hV4 := hV3.later b4
  have hB5 := hB4.trans (b4.mono hB4.size)
  clear V0 V1 V2 Vl hV3 b4 hB4
  have hmk : (Instr.makeSlice 52 (.int .i64 44) (.int .i64 44)).run Tryz.prog w4 = .ok (.slice (some ⟨w4.heap.size, 0, none⟩) 44 44) (w4.alloc (.cells (madeCells #[.int .u8 0] 44) 5)) := run_made 44 (by omega) w4
  have hzz := run_zero 44 w4
  go_wp2_with fail
  rw [rounds_succ]
  have HF := Lib.hid (hB5.alloc hB5.size (.cells (madeCells #[.int .u8 0] 44) 5))
  have HE : Hid ((⟨#[108, 117, 110, 101, 116, 116, 101, 49]⟩ : ByteArray) ++ t0 ++ t1 ++ t2 ++ B (nil0 44) = B (superL i b j)) := Lib.hid (by
    rw [← ht0, ← ht1, ← ht2, show (⟨#[108, 117, 110, 101, 116, 116, 101, 49]⟩ : ByteArray) = B magicL from rfl, append_B, append_B, append_B, append_B]
    rfl)
  clear hB5 ht0 ht1 ht2
  go_wp2
  go_ret2
  refine ⟨?_, HF.out⟩
  rw [← HE.out]
  rfl
end Go.Proofs.YtpnfkilfgdnogaaGreatDoor.Geo
