/- Layer 5 (geo): which geometries may be, how many sectors each part has, and where it lies: what each call returns. -/
import Derived.Test.YtpnfkilfgdnogaaGreatDoorBoxes
import Derived.Test.YtpnfkilfgdnogaaGreatDoorOctet
import Derived.Deep.RegionWith
import Derived.Deep.Cut
import Derived.BigGuard
import Derived.StillTailTactics
import Derived.BigQuiet
import Derived.Deep.RegionLaw
namespace Go.Proofs.YtpnfkilfgdnogaaGreatDoor.Geo
set_option linter.unusedVariables false
set_option linter.unusedSimpArgs false
open Go.RowKit Go.Shelf Oct
def geoV (i b j : Int) : Value := .agg #[.int .i64 i, .int .i64 b, .int .i64 j]
def inR (v a b : Int) : Bool := decide (a ≤ v) && decide (v ≤ b)
def mayG (i b j : Int) : Bool := (inR i 2 256 && inR b 8 1024) && inR j 40 256
theorem in_any (v a b : Int) (w : World) : Calls Tryz.prog 41 #[.int .i64 v, .int .i64 a, .int .i64 b] w fun e w' => e = .returned (.bool (inR v a b)) ∧ w = w' := by
  unfold inR
  go_enter Tryz.func41, Tryz.ntmps41
  by_cases h : a ≤ v
  · have h1 : decide (a ≤ v) = true := by simpa using h
    go_wp2
    go_ret
    simp [h]
  · have h1 : decide (a ≤ v) = false := by simpa using h
    go_wp2
    go_ret
    simp [h]
set_option maxRecDepth 100000 in
set_option maxHeartbeats 4000000 in
theorem may_any (i b j : Int) (w : World) : Calls Tryz.prog 8 #[geoV i b j] w fun e w' => e = .returned (.bool (mayG i b j)) ∧ Below w.heap.size w w' := by
  unfold mayG geoV
  have I0 := Lib.hid (fun W => in_any i 2 256 W)
  have I1 := Lib.hid (fun W => in_any b 8 1024 W)
  have I2 := Lib.hid (fun W => in_any j 40 256 W)
  have X := SBox.new w 23 #[.int .i64 i, .int .i64 b, .int .i64 j]
  have X0 := X.cell 0
  have X1 := X.cell 1
  have X2 := X.cell 2
  have hlx := X.lt
  simp only [List.getElem?_toArray, List.getElem?_cons_zero, List.getElem?_cons_succ] at X0 X1 X2
  clear X
  obtain ⟨a0, h0⟩ : ∃ x, inR i 2 256 = x := ⟨_, rfl⟩
  obtain ⟨a1, h1⟩ : ∃ x, inR b 8 1024 = x := ⟨_, rfl⟩
  obtain ⟨a2, h2⟩ : ∃ x, inR j 40 256 = x := ⟨_, rfl⟩
  rw [h0] at I0 ⊢
  rw [h1] at I1 ⊢
  rw [h2] at I2 ⊢
  clear h0 h1 h2
  have HB : Hid (Below w.heap.size w (w.alloc (.cells #[.int .i64 i, .int .i64 b, .int .i64 j] 23))) := Lib.hid ((Below.refl _ w).alloc (Nat.le_refl _) _)
  go_enter Tryz.func8, Tryz.ntmps8
  cases a0
  · go_wp2_with fail
    refine (I0.out _).mono ?_
    rintro e w1 ⟨rfl, rfl⟩
    go_wp2
    go_ret
    exact ⟨rfl, HB.out⟩
  · cases a1
    · go_wp2_with fail
      refine (I0.out _).mono ?_
      rintro e w1 ⟨rfl, rfl⟩
      go_wp2_with fail
      refine (I1.out _).mono ?_
      rintro e w1 ⟨rfl, rfl⟩
      go_wp2
      go_ret
      exact ⟨rfl, HB.out⟩
    · go_wp2_with fail
      refine (I0.out _).mono ?_
      rintro e w1 ⟨rfl, rfl⟩
      go_wp2_with fail
      refine (I1.out _).mono ?_
      rintro e w1 ⟨rfl, rfl⟩
      go_wp2_with fail
      refine (I2.out _).mono ?_
      rintro e w1 ⟨rfl, rfl⟩
      go_wp2
      go_ret
      exact ⟨by simp, HB.out⟩
def upN (n k : Nat) : Nat := (n + k - 1) / k
theorem up_any (n k : Nat) (w : World) (hn : n ≤ 100000) (hk : 1 ≤ k) (hk2 : k ≤ 100000) : Calls Tryz.prog 150 #[.int .i64 n, .int .i64 k] w fun e w' => e = .returned (.int .i64 (upN n k)) ∧ w = w' := by
  unfold upN
  have a5 : (n + k - 1) / k ≤ n + k - 1 := Nat.div_le_self _ _
  have a1 : (n : Int) + (k : Int) - 1 = ((n + k - 1 : Nat) : Int) := by omega
  have a2 : ((n + k - 1 : Nat) : Int) / (k : Int) = (((n + k - 1) / k : Nat) : Int) := (Int.natCast_ediv _ _).symm
  generalize (n + k - 1) / k = m at *
  have a6 : n + k - 1 ≤ 200000 := by omega
  generalize n + k - 1 = q at *
  have a3 : (k : Int) ≠ 0 := by omega
  have a4 : ((k : Int) == 0) = false := by simpa using a3
  go_enter Tryz.func150, Tryz.ntmps150
  go_wp2
  go_ret
  exact ⟨rfl, rfl⟩
def szL (i b j : Nat) : List Nat := [1, j, upN (i + 1) 512, upN (b + 1) 512, upN i 2, b]
def szV (i b j : Nat) : Value := .agg #[.int .i64 1, .int .i64 j, .int .i64 (upN (i + 1) 512), .int .i64 (upN (b + 1) 512), .int .i64 (upN i 2), .int .i64 b]
set_option maxRecDepth 100000 in
set_option maxHeartbeats 1000000 in
theorem sizes_any (i b j : Nat) (w : World) (hi : i ≤ 256) (hb : b ≤ 1024) (hj : j ≤ 256) : Calls Tryz.prog 99 #[geoV i b j] w fun e w' => e = .returned (szV i b j) ∧ Below w.heap.size w w' := by
  unfold geoV szV
  have I0 : ∀ W, Calls Tryz.prog 150 #[.int .i64 ((i : Int) + 1), .int .i64 512] W fun e w' => e = .returned (.int .i64 (upN (i + 1) 512)) ∧ w' = W := fun W => (up_any (i + 1) 512 W (by omega) (by omega) (by omega)).mono fun e w' ⟨h1, h2⟩ => ⟨h1, h2.symm⟩
  have I1 : ∀ W, Calls Tryz.prog 150 #[.int .i64 ((b : Int) + 1), .int .i64 512] W fun e w' => e = .returned (.int .i64 (upN (b + 1) 512)) ∧ w' = W := fun W => (up_any (b + 1) 512 W (by omega) (by omega) (by omega)).mono fun e w' ⟨h1, h2⟩ => ⟨h1, h2.symm⟩
  have I2 : ∀ W, Calls Tryz.prog 150 #[.int .i64 (i : Int), .int .i64 2] W fun e w' => e = .returned (.int .i64 (upN i 2)) ∧ w' = W := fun W => (up_any i 2 W (by omega) (by omega) (by omega)).mono fun e w' ⟨h1, h2⟩ => ⟨h1, h2.symm⟩
  have wz0 : IntKind.i64.wrap ((i : Int) + 1) = (i : Int) + 1 := IntWalk.i64_in _ (by omega)
  have wz1 : IntKind.i64.wrap ((b : Int) + 1) = (b : Int) + 1 := IntWalk.i64_in _ (by omega)
  generalize upN (i + 1) 512 = u0 at *
  generalize upN (b + 1) 512 = u1 at *
  generalize upN i 2 = u2 at *
  have X := SBox.new w 23 #[.int .i64 i, .int .i64 b, .int .i64 j]
  have X0 := X.cell 0
  have X1 := X.cell 1
  have X2 := X.cell 2
  have hlx := X.lt
  simp only [List.getElem?_toArray, List.getElem?_cons_zero, List.getElem?_cons_succ] at X0 X1 X2
  clear X
  go_enter Tryz.func99, Tryz.ntmps99
  go_wp2_with fail
  have Y := (SBox.new w 23 #[.int .i64 i, .int .i64 b, .int .i64 j]).alloc (.cells #[.int .i64 0, .int .i64 0, .int .i64 0, .int .i64 0, .int .i64 0, .int .i64 0] 182)
  have Z := SBox.new (w.alloc (.cells #[.int .i64 i, .int .i64 b, .int .i64 j] 23)) 182 #[.int .i64 0, .int .i64 0, .int .i64 0, .int .i64 0, .int .i64 0, .int .i64 0]
  have HB := Lib.hid (((Below.refl _ w).alloc (Nat.le_refl _) (.cells #[.int .i64 i, .int .i64 b, .int .i64 j] 23)).alloc (by simp) (.cells #[.int .i64 0, .int .i64 0, .int .i64 0, .int .i64 0, .int .i64 0, .int .i64 0] 182))
  obtain ⟨W2, hW2⟩ : ∃ x, (w.alloc (.cells #[.int .i64 i, .int .i64 b, .int .i64 j] 23)).alloc (.cells #[.int .i64 0, .int .i64 0, .int .i64 0, .int .i64 0, .int .i64 0, .int .i64 0] 182) = x := ⟨_, rfl⟩
  rw [hW2] at Y Z HB
  rw [hW2]
  clear hW2 X0 X1 X2 hlx
  have X0 := Y.cell 0
  have X1 := Y.cell 1
  have X2 := Y.cell 2
  have hlx := Y.lt
  have hlz := Z.lt
  simp only [List.getElem?_toArray, List.getElem?_cons_zero, List.getElem?_cons_succ] at X0 X1 X2
  refine wp_region_still_tail 16 (by kernel_rfl) (by kernel_rfl) ?_
  simp only [List.take_succ_cons, List.take_zero, List.drop_succ_cons, List.drop_zero]
  change wpStill _ _ W2.drew _ _ _
  have D0 : W2.drew.cell? ⟨w.heap.size, 0, none⟩ = some (.int .i64 i) := X0
  have D1 : W2.drew.cell? ⟨w.heap.size, 1, none⟩ = some (.int .i64 b) := X1
  have D2 : W2.drew.cell? ⟨w.heap.size, 2, none⟩ = some (.int .i64 j) := X2
  have hld : w.heap.size < W2.drew.heap.size := hlx
  have Zd : SBox W2.drew (w.alloc (.cells #[.int .i64 i, .int .i64 b, .int .i64 j] 23)).heap.size 182 #[.int .i64 0, .int .i64 0, .int .i64 0, .int .i64 0, .int .i64 0, .int .i64 0] := Z
  have HBd := Lib.hid (HB.out.drew)
  generalize W2.drew = W3 at *
  repeat still_step
  still_call (I0 _)
  repeat still_step
  still_call (I1 _)
  repeat still_step
  still_call (I2 _)
  repeat still_step
  refine wpStill_nil ?_
  change wpList _ _ _ _ _ W2.drew
  have HBd := HB.out.drew
  have Zd : SBox W2.drew (w.alloc (.cells #[.int .i64 i, .int .i64 b, .int .i64 j] 23)).heap.size 182 #[.int .i64 0, .int .i64 0, .int .i64 0, .int .i64 0, .int .i64 0, .int .i64 0] := Z
  rw [World.size_alloc] at Zd
  clear Z hlz D0 D1 D2 hld X0 X1 X2 Y
  generalize W2.drew = W3 at *
  have z0 := Zd.cell 0
  have z1 := Zd.cell 1
  have z2 := Zd.cell 2
  have z3 := Zd.cell 3
  have z4 := Zd.cell 4
  have z5 := Zd.cell 5
  have f0 := Zd.free 0
  have f1 := Zd.free 1
  have f2 := Zd.free 2
  have f3 := Zd.free 3
  have f4 := Zd.free 4
  have f5 := Zd.free 5
  have hlz := Zd.lt
  simp only [List.getElem?_toArray, List.getElem?_cons_zero, List.getElem?_cons_succ] at z0 z1 z2 z3 z4 z5
  go_wp2
  have F := ((((((Zd.set 0 (.int .i64 1)).set 1 (.int .i64 j)).set 2 (.int .i64 u0)).set 3 (.int .i64 u1)).set 4 (.int .i64 u2)).set 5 (.int .i64 b))
  have k0 := F.cell 0
  have k1 := F.cell 1
  have k2 := F.cell 2
  have k3 := F.cell 3
  have k4 := F.cell 4
  have k5 := F.cell 5
  exact bodyPost_ret (v := .agg #[.int .i64 1, .int .i64 j, .int .i64 u0, .int .i64 u1, .int .i64 u2, .int .i64 b]) (by simp [results, Tryz.results99, go_sem, k0, k1, k2, k3, k4, k5]) rfl ⟨rfl, by (repeat (refine Below.setCell ?_ (by simp) _)); exact HBd⟩
set_option maxRecDepth 100000 in
set_option maxHeartbeats 1000000 in
theorem sectors_any (i b j : Nat) (w : World) (hm : mayG i b j = true) : Calls Tryz.prog 47 #[geoV i b j] w fun e w' => e = .returned (.int .i64 ((szL i b j).sum : Nat)) ∧ Below w.heap.size w w' := by
  have hr : i ≤ 256 ∧ b ≤ 1024 ∧ j ≤ 256 := by simp [mayG, inR] at hm; omega
  have MY := Lib.hid (fun W => may_any i b j W)
  rw [hm] at MY
  have SZ := Lib.hid (fun W => sizes_any i b j W hr.1 hr.2.1 hr.2.2)
  unfold szV at SZ
  unfold szL
  have e0 : upN (i + 1) 512 ≤ 1000 := by unfold upN; omega
  have e1 : upN (b + 1) 512 ≤ 2000 := by unfold upN; omega
  have e2 : upN i 2 ≤ 1000 := by unfold upN; omega
  generalize upN (i + 1) 512 = u0 at *
  generalize upN (b + 1) 512 = u1 at *
  generalize upN i 2 = u2 at *
  obtain ⟨hi, hb, hj⟩ := hr
  have HB0 := Lib.hid ((Below.refl _ w).alloc (Nat.le_refl _) (.cells #[.int .i64 i, .int .i64 b, .int .i64 j] 23))
  unfold geoV at *
  go_enter Tryz.func47, Tryz.ntmps47
  go_wp2_with fail
  refine (MY.out _).mono ?_
  rintro e w1 ⟨rfl, b1⟩
  have hX := (SBox.new w 23 #[.int .i64 i, .int .i64 b, .int .i64 j]).later b1
  have hB1 := HB0.out.trans (b1.mono (by simp))
  have X0 := hX.cell 0
  have X1 := hX.cell 1
  have X2 := hX.cell 2
  simp only [List.getElem?_toArray, List.getElem?_cons_zero, List.getElem?_cons_succ] at X0 X1 X2
  have Xl := hX.lt
  go_wp2_with fail
  refine (SZ.out _).mono ?_
  rintro e w2 ⟨rfl, b2⟩
  have hB2 := hB1.trans (b2.mono hB1.size)
  have HB2 := Lib.hid hB2
  clear X0 X1 X2 Xl hX b1 b2 hB1 hB2
  go_wp2_with fail
  have i0 : ∀ W, (Instr.index 182 (.agg #[.int .i64 1, .int .i64 j, .int .i64 u0, .int .i64 u1, .int .i64 u2, .int .i64 b]) (.int .i64 0)).run Tryz.prog W = .ok (.int .i64 1) W := fun _ => by kernel_rfl
  have i1 : ∀ W, (Instr.index 182 (.agg #[.int .i64 1, .int .i64 j, .int .i64 u0, .int .i64 u1, .int .i64 u2, .int .i64 b]) (.int .i64 1)).run Tryz.prog W = .ok (.int .i64 j) W := fun _ => by kernel_rfl
  have i2 : ∀ W, (Instr.index 182 (.agg #[.int .i64 1, .int .i64 j, .int .i64 u0, .int .i64 u1, .int .i64 u2, .int .i64 b]) (.int .i64 2)).run Tryz.prog W = .ok (.int .i64 u0) W := fun _ => by kernel_rfl
  have i3 : ∀ W, (Instr.index 182 (.agg #[.int .i64 1, .int .i64 j, .int .i64 u0, .int .i64 u1, .int .i64 u2, .int .i64 b]) (.int .i64 3)).run Tryz.prog W = .ok (.int .i64 u1) W := fun _ => by kernel_rfl
  have i4 : ∀ W, (Instr.index 182 (.agg #[.int .i64 1, .int .i64 j, .int .i64 u0, .int .i64 u1, .int .i64 u2, .int .i64 b]) (.int .i64 4)).run Tryz.prog W = .ok (.int .i64 u2) W := fun _ => by kernel_rfl
  have i5 : ∀ W, (Instr.index 182 (.agg #[.int .i64 1, .int .i64 j, .int .i64 u0, .int .i64 u1, .int .i64 u2, .int .i64 b]) (.int .i64 5)).run Tryz.prog W = .ok (.int .i64 b) W := fun _ => by kernel_rfl
  refine wp_loop_rounds 7 ?_
  rw [rounds_succ]
  go_wp2
  rw [rounds_succ]
  go_wp2
  rw [rounds_succ]
  go_wp2
  rw [rounds_succ]
  go_wp2
  rw [rounds_succ]
  go_wp2
  rw [rounds_succ]
  go_wp2
  rw [rounds_succ]
  go_wp2
  go_ret
  exact ⟨by simp; omega, HB2.out⟩
end Go.Proofs.YtpnfkilfgdnogaaGreatDoor.Geo
