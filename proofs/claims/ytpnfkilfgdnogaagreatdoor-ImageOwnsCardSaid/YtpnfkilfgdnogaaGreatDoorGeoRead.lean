/- Layer 5 (geo): a superblock is read back: Read answers the geometry that Super wrote. -/
import Derived.Test.YtpnfkilfgdnogaaGreatDoorGeoSuper
namespace Go.Proofs.YtpnfkilfgdnogaaGreatDoor.Geo
set_option linter.unusedVariables false
set_option linter.unusedSimpArgs false
open Go.RowKit Go.Shelf Oct
theorem ext_B (s : ByteArray) (a b : Nat) : s.extract a b = B (((L s).drop a).take (b - a)) := by
  rw [← B_L (s.extract a b)]
  congr 1
  show (s.extract a b).data.toList = _
  rw [ByteArray.data_extract]
  simp only [Array.toList_extract, List.extract_eq_take_drop]
  rfl
theorem super_len (i b j : Nat) : (superL i b j).length = 64 := by simp [superL, magicL, len_numL, nil0_len]
theorem super_m (i b j : Nat) : ((superL i b j).drop 0).take 8 = magicL := by
  unfold superL
  rw [List.drop_zero, List.append_assoc, List.append_assoc, List.append_assoc]
  exact List.take_left' rfl
theorem super_0 (i b j : Nat) : ((superL i b j).drop 8).take 4 = numL i 4 := by
  unfold superL
  rw [List.append_assoc, List.append_assoc, List.append_assoc, List.drop_left' (by rfl)]
  exact List.take_left' (len_numL _ _)
theorem super_1 (i b j : Nat) : ((superL i b j).drop 12).take 4 = numL b 4 := by
  unfold superL
  rw [List.append_assoc, List.append_assoc, List.drop_left' (by rw [List.length_append, len_numL]; rfl)]
  exact List.take_left' (len_numL _ _)
theorem super_2 (i b j : Nat) : ((superL i b j).drop 16).take 4 = numL j 4 := by
  unfold superL
  rw [List.append_assoc, List.drop_left' (by rw [List.length_append, List.length_append, len_numL, len_numL]; rfl)]
  exact List.take_left' (len_numL _ _)
set_option maxRecDepth 100000 in
set_option maxHeartbeats 2000000 in
theorem read_super (i b j : Nat) (w : World) (hm : mayG i b j = true) : Calls Tryz.prog 13 #[.string (B (superL i b j))] w fun e w' => e = .returned (.tuple #[geoV i b j, .int .i64 0]) ∧ Below w.heap.size w w' := by
  have hr : i ≤ 256 ∧ b ≤ 1024 ∧ j ≤ 256 := by simp [mayG, inR] at hm; omega
  obtain ⟨hi, hb, hj⟩ := hr
  have SP := Lib.hid (fun W => super_any i b j W hm)
  have hz : (B (superL i b j)).size = 64 := by rw [size_B, super_len]
  have xm : (B (superL i b j)).extract 0 8 = ⟨#[108, 117, 110, 101, 116, 116, 101, 49]⟩ := by rw [ext_B, L_B, super_m]; rfl
  have x0 : (B (superL i b j)).extract 8 12 = B (numL i 4) := by rw [ext_B, L_B, super_0]
  have x1 : (B (superL i b j)).extract 12 16 = B (numL b 4) := by rw [ext_B, L_B, super_1]
  have x2 : (B (superL i b j)).extract 16 20 = B (numL j 4) := by rw [ext_B, L_B, super_2]
  have G0 : Hid (∀ W, Calls Tryz.prog 51 #[.string (B (numL i 4))] W fun e w' => e = .returned (.tuple #[.int .u64 i, .int .i64 0]) ∧ W = w') := Lib.hid (fun W => by
    have h := get_ok (B (numL i 4)) W (by rw [size_B, len_numL]; omega)
    rw [L_B, valL_numL, Nat.mod_eq_of_lt (by omega)] at h
    exact h)
  have G1 : Hid (∀ W, Calls Tryz.prog 51 #[.string (B (numL b 4))] W fun e w' => e = .returned (.tuple #[.int .u64 b, .int .i64 0]) ∧ W = w') := Lib.hid (fun W => by
    have h := get_ok (B (numL b 4)) W (by rw [size_B, len_numL]; omega)
    rw [L_B, valL_numL, Nat.mod_eq_of_lt (by omega)] at h
    exact h)
  have G2 : Hid (∀ W, Calls Tryz.prog 51 #[.string (B (numL j 4))] W fun e w' => e = .returned (.tuple #[.int .u64 j, .int .i64 0]) ∧ W = w') := Lib.hid (fun W => by
    have h := get_ok (B (numL j 4)) W (by rw [size_B, len_numL]; omega)
    rw [L_B, valL_numL, Nat.mod_eq_of_lt (by omega)] at h
    exact h)
  generalize B (superL i b j) = sb at *
  generalize B (numL i 4) = t0 at *
  generalize B (numL b 4) = t1 at *
  generalize B (numL j 4) = t2 at *
  unfold geoV at *
  go_enter Tryz.func13, Tryz.ntmps13
  go_wp2_with fail
  refine wp_loop_rounds 4 ?_
  rw [rounds_succ]
  go_wp2_with fail
  refine (G0.out _).mono ?_
  rintro e w9 ⟨rfl, rfl⟩
  go_wp2_with fail
  rw [rounds_succ]
  go_wp2_with fail
  refine (G1.out _).mono ?_
  rintro e w9 ⟨rfl, rfl⟩
  go_wp2_with fail
  rw [rounds_succ]
  go_wp2_with fail
  refine (G2.out _).mono ?_
  rintro e w9 ⟨rfl, rfl⟩
  go_wp2_with fail
  rw [rounds_succ]
  go_wp2_with fail
  refine (SP.out _).mono ?_
  rintro e w1 ⟨rfl, b1⟩
  have hS := ((SBox.new w 23 #[.int .i64 i, .int .i64 b, .int .i64 j]).alloc _).later b1
  have HB := Lib.hid ((((Below.refl _ w).alloc (Nat.le_refl _) _).alloc (by simp) _).trans (b1.mono (by simp; omega)))
  clear b1
  have S0 := hS.cell 0
  have S1 := hS.cell 1
  have S2 := hS.cell 2
  simp only [List.getElem?_toArray, List.getElem?_cons_zero, List.getElem?_cons_succ] at S0 S1 S2
  have Sl := hS.lt
  have F0 := hS.free 0
  have F1 := hS.free 1
  have F2 := hS.free 2
  have HS2 := Lib.hid hS
  clear hS
  go_wp2
  have F := ((HS2.out.set 0 (.int .i64 i)).set 1 (.int .i64 b)).set 2 (.int .i64 j)
  have k0 := F.cell 0
  have k1 := F.cell 1
  have k2 := F.cell 2
  exact bodyPost_ret (v := .tuple #[.agg #[.int .i64 i, .int .i64 b, .int .i64 j], .int .i64 0]) (by simp [results, Tryz.results13, go_sem, k0, k1, k2]) rfl ⟨rfl, by (repeat (refine Below.setCell ?_ (by simp) _)); exact HB.out⟩
end Go.Proofs.YtpnfkilfgdnogaaGreatDoor.Geo
