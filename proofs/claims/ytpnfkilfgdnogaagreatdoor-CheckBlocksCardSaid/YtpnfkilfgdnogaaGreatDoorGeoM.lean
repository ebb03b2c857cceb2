/- Layer 5 (geo): a superblock is read back: Read answers the geometry that Super wrote. -/
import Derived.Test.YtpnfkilfgdnogaaGreatDoorBoxes
import Derived.Test.YtpnfkilfgdnogaaGreatDoorOctet
import Derived.Deep.RegionWith
import Derived.Deep.Cut
import Derived.BigGuard
import Derived.StillTailTactics
import Derived.BigQuiet
import Derived.Deep.RegionLaw
import Derived.Laws.Rows
section
namespace Go.Proofs.YtpnfkilfgdnogaaGreatDoor.Geo
set_option linter.unusedVariables false
set_option linter.unusedSimpArgs false
open Go.RowKit Go.Shelf Oct
def geoV (i b j : Int) : Value := .agg #[.int .i64 i, .int .i64 b, .int .i64 j]
def inR (v a b : Int) : Bool := decide (a ≤ v) && decide (v ≤ b)
def mayG (i b j : Int) : Bool := (inR i 2 256 && inR b 8 1024) && inR j 40 256
theorem in_any (v a b : Int) (w : World) : Calls Tryz.prog 41 #[.int .i64 v, .int .i64 a, .int .i64 b] w fun e w' => e = .returned (.bool (inR v a b)) ∧ w = w' := by
  unfold inR
  go_enter Tryz.func41, Tryz.ntmps41
  by_cases h : a ≤ v
  · have h1 : decide (a ≤ v) = true := by simpa using h
    go_wp2
    go_ret
    simp [h]
  · have h1 : decide (a ≤ v) = false := by simpa using h
    go_wp2
    go_ret
    simp [h]
set_option maxRecDepth 100000 in
set_option maxHeartbeats 4000000 in
theorem may_any (i b j : Int) (w : World) : Calls Tryz.prog 8 #[geoV i b j] w fun e w' => e = .returned (.bool (mayG i b j)) ∧ Below w.heap.size w w' := by
  unfold mayG geoV
  have I0 := Lib.hid (fun W => in_any i 2 256 W)
  have I1 := Lib.hid (fun W => in_any b 8 1024 W)
  have I2 := Lib.hid (fun W => in_any j 40 256 W)
  have X := SBox.new w 23 #[.int .i64 i, .int .i64 b, .int .i64 j]
  have X0 := X.cell 0
  have X1 := X.cell 1
  have X2 := X.cell 2
  have hlx := X.lt
  simp only [List.getElem?_toArray, List.getElem?_cons_zero, List.getElem?_cons_succ] at X0 X1 X2
  clear X
  obtain ⟨a0, h0⟩ : ∃ x, inR i 2 256 = x := ⟨_, rfl⟩
  obtain ⟨a1, h1⟩ : ∃ x, inR b 8 1024 = x := ⟨_, rfl⟩
  obtain ⟨a2, h2⟩ : ∃ x, inR j 40 256 = x := ⟨_, rfl⟩
  rw [h0] at I0 ⊢
  rw [h1] at I1 ⊢
  rw [h2] at I2 ⊢
  clear h0 h1 h2
  have HB : Hid (Below w.heap.size w (w.alloc (.cells #[.int .i64 i, .int .i64 b, .int .i64 j] 23))) := Lib.hid ((Below.refl _ w).alloc (Nat.le_refl _) _)
  go_enter Tryz.func8, Tryz.ntmps8
  cases a0
  · go_wp2_with fail
    refine (I0.out _).mono ?_
    rintro e w1 ⟨rfl, rfl⟩
    go_wp2
    go_ret
    exact ⟨rfl, HB.out⟩
  · cases a1
    · go_wp2_with fail
      refine (I0.out _).mono ?_
      rintro e w1 ⟨rfl, rfl⟩
      go_wp2_with fail
      refine (I1.out _).mono ?_
      rintro e w1 ⟨rfl, rfl⟩
      go_wp2
      go_ret
      exact ⟨rfl, HB.out⟩
    · go_wp2_with fail
      refine (I0.out _).mono ?_
      rintro e w1 ⟨rfl, rfl⟩
      go_wp2_with fail
      refine (I1.out _).mono ?_
      rintro e w1 ⟨rfl, rfl⟩
      go_wp2_with fail
      refine (I2.out _).mono ?_
      rintro e w1 ⟨rfl, rfl⟩
      go_wp2
      go_ret
      exact ⟨by simp, HB.out⟩
def upN (n k : Nat) : Nat := (n + k - 1) / k
theorem up_any (n k : Nat) (w : World) (hn : n ≤ 100000) (hk : 1 ≤ k) (hk2 : k ≤ 100000) : Calls Tryz.prog 150 #[.int .i64 n, .int .i64 k] w fun e w' => e = .returned (.int .i64 (upN n k)) ∧ w = w' := by
  unfold upN
  have a5 : (n + k - 1) / k ≤ n + k - 1 := Nat.div_le_self _ _
  have a1 : (n : Int) + (k : Int) - 1 = ((n + k - 1 : Nat) : Int) := by omega
  have a2 : ((n + k - 1 : Nat) : Int) / (k : Int) = (((n + k - 1) / k : Nat) : Int) := (Int.natCast_ediv _ _).symm
  generalize (n + k - 1) / k = m at *
  have a6 : n + k - 1 ≤ 200000 := by omega
  generalize n + k - 1 = q at *
  have a3 : (k : Int) ≠ 0 := by omega
  have a4 : ((k : Int) == 0) = false := by simpa using a3
  go_enter Tryz.func150, Tryz.ntmps150
  go_wp2
  go_ret
  exact ⟨rfl, rfl⟩
def szL (i b j : Nat) : List Nat := [1, j, upN (i + 1) 512, upN (b + 1) 512, upN i 2, b]
def szV (i b j : Nat) : Value := .agg #[.int .i64 1, .int .i64 j, .int .i64 (upN (i + 1) 512), .int .i64 (upN (b + 1) 512), .int .i64 (upN i 2), .int .i64 b]
set_option maxRecDepth 100000 in
set_option maxHeartbeats 1000000 in
theorem sizes_any (i b j : Nat) (w : World) (hi : i ≤ 256) (hb : b ≤ 1024) (hj : j ≤ 256) : Calls Tryz.prog 99 #[geoV i b j] w fun e w' => e = .returned (szV i b j) ∧ Below w.heap.size w w' := by
  unfold geoV szV
  have I0 : ∀ W, Calls Tryz.prog 150 #[.int .i64 ((i : Int) + 1), .int .i64 512] W fun e w' => e = .returned (.int .i64 (upN (i + 1) 512)) ∧ w' = W := fun W => (up_any (i + 1) 512 W (by omega) (by omega) (by omega)).mono fun e w' ⟨h1, h2⟩ => ⟨h1, h2.symm⟩
  have I1 : ∀ W, Calls Tryz.prog 150 #[.int .i64 ((b : Int) + 1), .int .i64 512] W fun e w' => e = .returned (.int .i64 (upN (b + 1) 512)) ∧ w' = W := fun W => (up_any (b + 1) 512 W (by omega) (by omega) (by omega)).mono fun e w' ⟨h1, h2⟩ => ⟨h1, h2.symm⟩
  have I2 : ∀ W, Calls Tryz.prog 150 #[.int .i64 (i : Int), .int .i64 2] W fun e w' => e = .returned (.int .i64 (upN i 2)) ∧ w' = W := fun W => (up_any i 2 W (by omega) (by omega) (by omega)).mono fun e w' ⟨h1, h2⟩ => ⟨h1, h2.symm⟩
  have wz0 : IntKind.i64.wrap ((i : Int) + 1) = (i : Int) + 1 := IntWalk.i64_in _ (by omega)
  have wz1 : IntKind.i64.wrap ((b : Int) + 1) = (b : Int) + 1 := IntWalk.i64_in _ (by omega)
  generalize upN (i + 1) 512 = u0 at *
  generalize upN (b + 1) 512 = u1 at *
  generalize upN i 2 = u2 at *
  have X := SBox.new w 23 #[.int .i64 i, .int .i64 b, .int .i64 j]
  have X0 := X.cell 0
  have X1 := X.cell 1
  have X2 := X.cell 2
  have hlx := X.lt
  simp only [List.getElem?_toArray, List.getElem?_cons_zero, List.getElem?_cons_succ] at X0 X1 X2
  clear X
  go_enter Tryz.func99, Tryz.ntmps99
  go_wp2_with fail
  have Y := (SBox.new w 23 #[.int .i64 i, .int .i64 b, .int .i64 j]).alloc (.cells #[.int .i64 0, .int .i64 0, .int .i64 0, .int .i64 0, .int .i64 0, .int .i64 0] 182)
  have Z := SBox.new (w.alloc (.cells #[.int .i64 i, .int .i64 b, .int .i64 j] 23)) 182 #[.int .i64 0, .int .i64 0, .int .i64 0, .int .i64 0, .int .i64 0, .int .i64 0]
  have HB := Lib.hid (((Below.refl _ w).alloc (Nat.le_refl _) (.cells #[.int .i64 i, .int .i64 b, .int .i64 j] 23)).alloc (by simp) (.cells #[.int .i64 0, .int .i64 0, .int .i64 0, .int .i64 0, .int .i64 0, .int .i64 0] 182))
  obtain ⟨W2, hW2⟩ : ∃ x, (w.alloc (.cells #[.int .i64 i, .int .i64 b, .int .i64 j] 23)).alloc (.cells #[.int .i64 0, .int .i64 0, .int .i64 0, .int .i64 0, .int .i64 0, .int .i64 0] 182) = x := ⟨_, rfl⟩
  rw [hW2] at Y Z HB
  rw [hW2]
  clear hW2 X0 X1 X2 hlx
  have X0 := Y.cell 0
  have X1 := Y.cell 1
  have X2 := Y.cell 2
  have hlx := Y.lt
  have hlz := Z.lt
  simp only [List.getElem?_toArray, List.getElem?_cons_zero, List.getElem?_cons_succ] at X0 X1 X2
  refine wp_region_still_tail 16 (by kernel_rfl) (by kernel_rfl) ?_
  simp only [List.take_succ_cons, List.take_zero, List.drop_succ_cons, List.drop_zero]
  change wpStill _ _ W2.drew _ _ _
  have D0 : W2.drew.cell? ⟨w.heap.size, 0, none⟩ = some (.int .i64 i) := X0
  have D1 : W2.drew.cell? ⟨w.heap.size, 1, none⟩ = some (.int .i64 b) := X1
  have D2 : W2.drew.cell? ⟨w.heap.size, 2, none⟩ = some (.int .i64 j) := X2
  have hld : w.heap.size < W2.drew.heap.size := hlx
  have Zd : SBox W2.drew (w.alloc (.cells #[.int .i64 i, .int .i64 b, .int .i64 j] 23)).heap.size 182 #[.int .i64 0, .int .i64 0, .int .i64 0, .int .i64 0, .int .i64 0, .int .i64 0] := Z
  have HBd := Lib.hid (HB.out.drew)
  generalize W2.drew = W3 at *
  repeat still_step
  still_call (I0 _)
  repeat still_step
  still_call (I1 _)
  repeat still_step
  still_call (I2 _)
  repeat still_step
  refine wpStill_nil ?_
  change wpList _ _ _ _ _ W2.drew
  have HBd := HB.out.drew
  have Zd : SBox W2.drew (w.alloc (.cells #[.int .i64 i, .int .i64 b, .int .i64 j] 23)).heap.size 182 #[.int .i64 0, .int .i64 0, .int .i64 0, .int .i64 0, .int .i64 0, .int .i64 0] := Z
  rw [World.size_alloc] at Zd
  clear Z hlz D0 D1 D2 hld X0 X1 X2 Y
  generalize W2.drew = W3 at *
  have z0 := Zd.cell 0
  have z1 := Zd.cell 1
  have z2 := Zd.cell 2
  have z3 := Zd.cell 3
  have z4 := Zd.cell 4
  have z5 := Zd.cell 5
  have f0 := Zd.free 0
  have f1 := Zd.free 1
  have f2 := Zd.free 2
  have f3 := Zd.free 3
  have f4 := Zd.free 4
  have f5 := Zd.free 5
  have hlz := Zd.lt
  simp only [List.getElem?_toArray, List.getElem?_cons_zero, List.getElem?_cons_succ] at z0 z1 z2 z3 z4 z5
  go_wp2
  have F := ((((((Zd.set 0 (.int .i64 1)).set 1 (.int .i64 j)).set 2 (.int .i64 u0)).set 3 (.int .i64 u1)).set 4 (.int .i64 u2)).set 5 (.int .i64 b))
  have k0 := F.cell 0
  have k1 := F.cell 1
  have k2 := F.cell 2
  have k3 := F.cell 3
  have k4 := F.cell 4
  have k5 := F.cell 5
  exact bodyPost_ret (v := .agg #[.int .i64 1, .int .i64 j, .int .i64 u0, .int .i64 u1, .int .i64 u2, .int .i64 b]) (by simp [results, Tryz.results99, go_sem, k0, k1, k2, k3, k4, k5]) rfl ⟨rfl, by (repeat (refine Below.setCell ?_ (by simp) _)); exact HBd⟩
set_option maxRecDepth 100000 in
set_option maxHeartbeats 1000000 in
theorem sectors_any (i b j : Nat) (w : World) (hm : mayG i b j = true) : Calls Tryz.prog 47 #[geoV i b j] w fun e w' => e = .returned (.int .i64 ((szL i b j).sum : Nat)) ∧ Below w.heap.size w w' := by
  have hr : i ≤ 256 ∧ b ≤ 1024 ∧ j ≤ 256 := by simp [mayG, inR] at hm; omega
  have MY := Lib.hid (fun W => may_any i b j W)
  rw [hm] at MY
  have SZ := Lib.hid (fun W => sizes_any i b j W hr.1 hr.2.1 hr.2.2)
  unfold szV at SZ
  unfold szL
  have e0 : upN (i + 1) 512 ≤ 1000 := by unfold upN; omega
  have e1 : upN (b + 1) 512 ≤ 2000 := by unfold upN; omega
  have e2 : upN i 2 ≤ 1000 := by unfold upN; omega
  generalize upN (i + 1) 512 = u0 at *
  generalize upN (b + 1) 512 = u1 at *
  generalize upN i 2 = u2 at *
  obtain ⟨hi, hb, hj⟩ := hr
  have HB0 := Lib.hid ((Below.refl _ w).alloc (Nat.le_refl _) (.cells #[.int .i64 i, .int .i64 b, .int .i64 j] 23))
  unfold geoV at *
  go_enter Tryz.func47, Tryz.ntmps47
  go_wp2_with fail
  refine (MY.out _).mono ?_
  rintro e w1 ⟨rfl, b1⟩
  have hX := (SBox.new w 23 #[.int .i64 i, .int .i64 b, .int .i64 j]).later b1
  have hB1 := HB0.out.trans (b1.mono (by simp))
  have X0 := hX.cell 0
  have X1 := hX.cell 1
  have X2 := hX.cell 2
  simp only [List.getElem?_toArray, List.getElem?_cons_zero, List.getElem?_cons_succ] at X0 X1 X2
  have Xl := hX.lt
  go_wp2_with fail
  refine (SZ.out _).mono ?_
  rintro e w2 ⟨rfl, b2⟩
  have hB2 := hB1.trans (b2.mono hB1.size)
  have HB2 := Lib.hid hB2
  clear X0 X1 X2 Xl hX b1 b2 hB1 hB2
  go_wp2_with fail
  have i0 : ∀ W, (Instr.index 182 (.agg #[.int .i64 1, .int .i64 j, .int .i64 u0, .int .i64 u1, .int .i64 u2, .int .i64 b]) (.int .i64 0)).run Tryz.prog W = .ok (.int .i64 1) W := fun _ => by kernel_rfl
  have i1 : ∀ W, (Instr.index 182 (.agg #[.int .i64 1, .int .i64 j, .int .i64 u0, .int .i64 u1, .int .i64 u2, .int .i64 b]) (.int .i64 1)).run Tryz.prog W = .ok (.int .i64 j) W := fun _ => by kernel_rfl
  have i2 : ∀ W, (Instr.index 182 (.agg #[.int .i64 1, .int .i64 j, .int .i64 u0, .int .i64 u1, .int .i64 u2, .int .i64 b]) (.int .i64 2)).run Tryz.prog W = .ok (.int .i64 u0) W := fun _ => by kernel_rfl
  have i3 : ∀ W, (Instr.index 182 (.agg #[.int .i64 1, .int .i64 j, .int .i64 u0, .int .i64 u1, .int .i64 u2, .int .i64 b]) (.int .i64 3)).run Tryz.prog W = .ok (.int .i64 u1) W := fun _ => by kernel_rfl
  have i4 : ∀ W, (Instr.index 182 (.agg #[.int .i64 1, .int .i64 j, .int .i64 u0, .int .i64 u1, .int .i64 u2, .int .i64 b]) (.int .i64 4)).run Tryz.prog W = .ok (.int .i64 u2) W := fun _ => by kernel_rfl
  have i5 : ∀ W, (Instr.index 182 (.agg #[.int .i64 1, .int .i64 j, .int .i64 u0, .int .i64 u1, .int .i64 u2, .int .i64 b]) (.int .i64 5)).run Tryz.prog W = .ok (.int .i64 b) W := fun _ => by kernel_rfl
  refine wp_loop_rounds 7 ?_
  rw [rounds_succ]
  go_wp2
  rw [rounds_succ]
  go_wp2
  rw [rounds_succ]
  go_wp2
  rw [rounds_succ]
  go_wp2
  rw [rounds_succ]
  go_wp2
  rw [rounds_succ]
  go_wp2
  rw [rounds_succ]
  go_wp2
  go_ret
  exact ⟨by simp; omega, HB2.out⟩
end Go.Proofs.YtpnfkilfgdnogaaGreatDoor.Geo
end
section
namespace Go.Proofs.YtpnfkilfgdnogaaGreatDoor.Geo
set_option linter.unusedVariables false
set_option linter.unusedSimpArgs false
open Go.RowKit Go.Shelf Oct
theorem sz_len (i b j : Nat) : (szL i b j).length = 6 := rfl
theorem sz_bound {i b j : Nat} (hi : i ≤ 256) (hb : b ≤ 1024) (hj : j ≤ 256) : ∀ x ∈ szL i b j, x ≤ 2000 := by
  intro x hx
  simp only [szL, List.mem_cons, List.not_mem_nil, or_false, upN] at hx
  rcases hx with h | h | h | h | h | h <;> omega
theorem sum_bound : ∀ (l : List Nat), (∀ x ∈ l, x ≤ 2000) → l.sum ≤ l.length * 2000
  | [], _ => by simp
  | x :: r, h => by
    have h1 := h x (by simp)
    have h2 := sum_bound r (fun y hy => h y (by simp [hy]))
    simp only [List.sum_cons, List.length_cons]
    omega
def fromG (i b j p : Nat) : Nat := ((szL i b j).take p).sum
def numG (i b j p : Nat) : Nat := (szL i b j).getD p 0
theorem fromG_succ {i b j p : Nat} (hp : p < 6) : fromG i b j (p + 1) = fromG i b j p + numG i b j p := by
  unfold fromG numG
  have hl : p < (szL i b j).length := hp
  rw [List.take_add_one, List.sum_append, List.getElem?_eq_getElem hl, List.getD_eq_getElem?_getD, List.getElem?_eq_getElem hl]
  simp
theorem numG_le {i b j : Nat} (hi : i ≤ 256) (hb : b ≤ 1024) (hj : j ≤ 256) (p : Nat) : numG i b j p ≤ 2000 := by
  unfold numG
  by_cases hp : p < (szL i b j).length
  · rw [List.getD_eq_getElem?_getD, List.getElem?_eq_getElem hp]
    exact sz_bound hi hb hj _ (List.getElem_mem hp)
  · rw [List.getD_eq_getElem?_getD, List.getElem?_eq_none (by omega)]
    simp
theorem fromG_le {i b j : Nat} (hi : i ≤ 256) (hb : b ≤ 1024) (hj : j ≤ 256) (p : Nat) : fromG i b j p ≤ 12000 := by
  have h1 := sum_bound ((szL i b j).take p) (fun x hx => sz_bound hi hb hj x (List.mem_of_mem_take hx))
  have h2 : ((szL i b j).take p).length ≤ 6 := by rw [List.length_take, sz_len]; omega
  unfold fromG
  omega
def szCells (i b j : Nat) : Array Value := #[.int .i64 1, .int .i64 j, .int .i64 (upN (i + 1) 512), .int .i64 (upN (b + 1) 512), .int .i64 (upN i 2), .int .i64 b]
theorem sz_cell {i b j p : Nat} (hp : p < 6) : (szCells i b j)[p]? = some (.int .i64 (numG i b j p)) := by
  match p, hp with
  | 0, _ => rfl
  | 1, _ => rfl
  | 2, _ => rfl
  | 3, _ => rfl
  | 4, _ => rfl
  | 5, _ => rfl
def PartRel (i b j p : Nat) (w w2 : World) (k : Value) (wr : World) : Prop :=
  ∃ m : Nat, m ≤ p ∧ k = .int .i64 m ∧ SBox wr (w.heap.size + 1) 96 #[.int .i64 (fromG i b j m), .int .i64 0] ∧ SBox wr w2.heap.size 182 (szCells i b j) ∧ Below w.heap.size w wr
set_option maxRecDepth 100000 in
set_option maxHeartbeats 2000000 in
theorem part_any (i b j p : Nat) (w : World) (hm : mayG i b j = true) (hp : p < 6) : Calls Tryz.prog 48 #[geoV i b j, .int .i64 p] w fun e w' => e = .returned (.tuple #[.agg #[.int .i64 (fromG i b j p), .int .i64 (numG i b j p)], .int .i64 0]) ∧ Below w.heap.size w w' := by
  have hr : i ≤ 256 ∧ b ≤ 1024 ∧ j ≤ 256 := by simp [mayG, inR] at hm; omega
  have MY := Lib.hid (fun W => may_any i b j W)
  rw [hm] at MY
  have SZ := Lib.hid (fun W => sizes_any i b j W hr.1 hr.2.1 hr.2.2)
  have FB := Lib.hid (fun m => fromG_le hr.1 hr.2.1 hr.2.2 m)
  have NB := Lib.hid (fun m => numG_le hr.1 hr.2.1 hr.2.2 m)
  unfold szV at SZ
  have d0 : decide ((p : Int) < 0) = false := by simp
  have d1 : decide ((p : Int) ≥ 6) = false := by simp; omega
  have d2 : decide ((6 : Int) ≤ p) = false := by simp; omega
  have HB0 := Lib.hid (((Below.refl _ w).alloc (Nat.le_refl _) (.cells #[.int .i64 i, .int .i64 b, .int .i64 j] 23)).alloc (by simp) (.cells #[.int .i64 0, .int .i64 0] 96))
  unfold geoV at *
  go_enter Tryz.func48, Tryz.ntmps48
  go_wp2_with fail
  refine (MY.out _).mono ?_
  rintro e w1 ⟨rfl, b1⟩
  have hX := ((SBox.new w 23 #[.int .i64 i, .int .i64 b, .int .i64 j]).alloc (.cells #[.int .i64 0, .int .i64 0] 96)).later b1
  have hS := (SBox.new (w.alloc (.cells #[.int .i64 i, .int .i64 b, .int .i64 j] 23)) 96 #[.int .i64 0, .int .i64 0]).later b1
  rw [World.size_alloc] at hS
  have hB1 := HB0.out.trans (b1.mono (by simp; omega))
  have X0 := hX.cell 0
  have X1 := hX.cell 1
  have X2 := hX.cell 2
  simp only [List.getElem?_toArray, List.getElem?_cons_zero, List.getElem?_cons_succ] at X0 X1 X2
  have Xl := hX.lt
  go_wp2_with fail
  refine (SZ.out _).mono ?_
  rintro e w2 ⟨rfl, b2⟩
  have hB2 := hB1.trans (b2.mono hB1.size)
  have hS2 := hS.later b2
  clear X0 X1 X2 Xl hX b1 hB1 hS b2
  have HS := Lib.hid hS2
  have HB2 := Lib.hid hB2
  clear hS2 hB2
  go_wp2_with fail
  have hne : w.heap.size + 1 ≠ w2.heap.size := Nat.ne_of_lt HS.out.lt
  have hle : w.heap.size ≤ w2.heap.size := by have := HS.out.lt; omega
  go_loopw [7, 23] (fun _ k wr => PartRel i b j p w w2 k wr) (fun _ k _ => p - (intOf k).toNat)
  case atStart =>
    refine ⟨0, Nat.zero_le _, rfl, ?_, ?_, ?_⟩
    · exact HS.out.alloc _
    · unfold szCells
      exact SBox.new _ _ _
    · exact HB2.out.alloc hle _
  case round =>
    obtain ⟨m, hmp, rfl, hS, hL, hB⟩ := hrel
    by_cases hlt : m < p
    · have hfb := FB.out m
      have hnb := NB.out m
      have HF : Hid (fromG i b j (m + 1) = fromG i b j m + numG i b j m) := Lib.hid (fromG_succ (by omega))
      have L0 : wr.cell? ⟨w2.heap.size, m, none⟩ = some (.int .i64 (numG i b j m)) := (hL.cell m).trans (sz_cell (by omega))
      generalize fromG i b j m = fm at *
      generalize numG i b j m = nm at *
      have S0 := hS.cell 0
      have S1 := hS.cell 1
      simp only [List.getElem?_toArray, List.getElem?_cons_zero, List.getElem?_cons_succ] at S0 S1
      have Sl := hS.lt
      have F0 := hS.free 0
      have F1 := hS.free 1
      have q0 : (0 : Int) ≤ (m : Int) := by omega
      have q1 : (m : Int) < 6 := by omega
      have q2 : (m : Int) < (p : Int) := by omega
      have hLl := hL.lt
      have HS2 := Lib.hid hS
      have HL2 := Lib.hid hL
      have HBr := Lib.hid hB
      clear hS hL hB
      go_wp2_with fail
      go_region
      go_wp2
      refine ⟨⟨m + 1, by omega, rfl, ?_, ?_, ?_⟩, by simp [intOf]; omega⟩
      · rw [HF.out, Int.natCast_add]
        exact SBox.set HS2.out.drew 0 _
      · exact SBox.other HL2.out.drew _ hne.symm
      · exact Below.setCell HBr.out.drew (Nat.le_succ _) _
    · obtain rfl : m = p := by omega
      have hfb := FB.out m
      have hnb := NB.out m
      have L0 : wr.cell? ⟨w2.heap.size, m, none⟩ = some (.int .i64 (numG i b j m)) := (hL.cell m).trans (sz_cell (by omega))
      obtain ⟨fm, hfm⟩ : ∃ x, fromG i b j m = x := ⟨_, rfl⟩
      obtain ⟨nm, hnm⟩ : ∃ x, numG i b j m = x := ⟨_, rfl⟩
      rw [hfm] at hS hfb
      rw [hnm] at L0 hnb
      have S0 := hS.cell 0
      have S1 := hS.cell 1
      simp only [List.getElem?_toArray, List.getElem?_cons_zero, List.getElem?_cons_succ] at S0 S1
      have Sl := hS.lt
      have F0 := hS.free 0
      have F1 := hS.free 1
      have q0 : (0 : Int) ≤ (m : Int) := by omega
      have q1 : (m : Int) < 6 := by omega
      have hLl := hL.lt
      have HS2 := Lib.hid hS
      have HBr := Lib.hid hB
      clear hS hL hB
      go_wp2
      have F := ((HS2.out.set 1 (.int .i64 nm)).set 0 (.int .i64 fm)).set 1 (.int .i64 nm)
      have k0 := F.cell 0
      have k1 := F.cell 1
      exact bodyPost_ret (v := .tuple #[.agg #[.int .i64 fm, .int .i64 nm], .int .i64 0]) (by simp [results, Tryz.results48, go_sem, k0, k1]) rfl ⟨by rw [hfm, hnm], by (repeat (refine Below.setCell ?_ (Nat.le_succ _) _)); exact HBr.out⟩
set_option maxRecDepth 100000 in
theorem inode_any (i b j n : Nat) (w : World) (hm : mayG i b j = true) (h1 : 1 ≤ n) (h2 : n ≤ i) : Calls Tryz.prog 56 #[geoV i b j, .int .u32 n] w fun e w' => e = .returned (.tuple #[.int .i64 (fromG i b j 4 + (n - 1) / 2 : Nat), .int .i64 ((n - 1) % 2 * 32 : Nat), .int .i64 0]) ∧ Below w.heap.size w w' := by
  have hr : i ≤ 256 ∧ b ≤ 1024 ∧ j ≤ 256 := by simp [mayG, inR] at hm; omega
  have PT := Lib.hid (fun W => part_any i b j 4 W hm (by omega))
  have hfb := fromG_le hr.1 hr.2.1 hr.2.2 4
  have hnb := numG_le hr.1 hr.2.1 hr.2.2 4
  generalize fromG i b j 4 = fm at *
  generalize numG i b j 4 = nm at *
  have HB0 := Lib.hid ((Below.refl _ w).alloc (Nat.le_refl _) (.cells #[.int .i64 i, .int .i64 b, .int .i64 j] 23))
  unfold geoV at *
  go_enter Tryz.func56, Tryz.ntmps56
  go_wp2_with fail
  refine (PT.out _).mono ?_
  rintro e w1 ⟨rfl, b1⟩
  have hX := (SBox.new w 23 #[.int .i64 i, .int .i64 b, .int .i64 j]).later b1
  have hB1 := Lib.hid ((HB0.out.trans (b1.mono (by simp))).alloc (by have := b1.size; simp at this ⊢; omega) (.cells #[.int .i64 fm, .int .i64 nm] 96))
  have X0 := hX.cell 0
  have X1 := hX.cell 1
  have X2 := hX.cell 2
  simp only [List.getElem?_toArray, List.getElem?_cons_zero, List.getElem?_cons_succ] at X0 X1 X2
  have Xl := hX.lt
  clear b1 hX
  go_wp2
  go_ret3
  refine ⟨?_, hB1.out⟩
  have e1 : (fm : Int) + ((n : Int) - 1) * 32 / 64 = ((fm + (n - 1) / 2 : Nat) : Int) := by omega
  have e2 : ((n : Int) - 1) * 32 % 64 = (((n - 1) % 2 * 32 : Nat) : Int) := by omega
  show Ending.returned (.tuple #[.int .i64 ((fm : Int) + ((n : Int) - 1) * 32 / 64), .int .i64 (((n : Int) - 1) * 32 % 64), .int .i64 0]) = _
  rw [e1, e2]
set_option maxRecDepth 100000 in
theorem inode_none (i b j n : Nat) (w : World) (hm : mayG i b j = true) (hn : n < 4294967296) (hb : n < 1 ∨ i < n) : Calls Tryz.prog 56 #[geoV i b j, .int .u32 n] w fun e w' => e = .returned (.tuple #[.int .i64 0, .int .i64 0, .int .i64 2]) ∧ Below w.heap.size w w' := by
  have hr : i ≤ 256 ∧ b ≤ 1024 ∧ j ≤ 256 := by simp [mayG, inR] at hm; omega
  have PT := Lib.hid (fun W => part_any i b j 4 W hm (by omega))
  have hfb := fromG_le hr.1 hr.2.1 hr.2.2 4
  have hnb := numG_le hr.1 hr.2.1 hr.2.2 4
  generalize fromG i b j 4 = fm at *
  generalize numG i b j 4 = nm at *
  have HB0 := Lib.hid ((Below.refl _ w).alloc (Nat.le_refl _) (.cells #[.int .i64 i, .int .i64 b, .int .i64 j] 23))
  unfold geoV at *
  by_cases hz : n = 0
  · subst hz
    go_enter Tryz.func56, Tryz.ntmps56
    go_wp2_with fail
    refine (PT.out _).mono ?_
    rintro e w1 ⟨rfl, b1⟩
    have hX := (SBox.new w 23 #[.int .i64 i, .int .i64 b, .int .i64 j]).later b1
    have hB1 := Lib.hid ((HB0.out.trans (b1.mono (by simp))).alloc (by have := b1.size; simp at this ⊢; omega) (.cells #[.int .i64 fm, .int .i64 nm] 96))
    have X0 := hX.cell 0
    have X1 := hX.cell 1
    have X2 := hX.cell 2
    simp only [List.getElem?_toArray, List.getElem?_cons_zero, List.getElem?_cons_succ] at X0 X1 X2
    have Xl := hX.lt
    clear b1 hX
    go_wp2
    go_ret3
    exact ⟨rfl, hB1.out⟩
  · have h1 : 1 ≤ n := by omega
    have h2 : i < n := by omega
    clear hb hz
    go_enter Tryz.func56, Tryz.ntmps56
    go_wp2_with fail
    refine (PT.out _).mono ?_
    rintro e w1 ⟨rfl, b1⟩
    have hX := (SBox.new w 23 #[.int .i64 i, .int .i64 b, .int .i64 j]).later b1
    have hB1 := Lib.hid ((HB0.out.trans (b1.mono (by simp))).alloc (by have := b1.size; simp at this ⊢; omega) (.cells #[.int .i64 fm, .int .i64 nm] 96))
    have X0 := hX.cell 0
    have X1 := hX.cell 1
    have X2 := hX.cell 2
    simp only [List.getElem?_toArray, List.getElem?_cons_zero, List.getElem?_cons_succ] at X0 X1 X2
    have Xl := hX.lt
    clear b1 hX
    go_wp2
    go_ret3
    exact ⟨rfl, hB1.out⟩
set_option maxRecDepth 100000 in
theorem block_any (i b j n : Nat) (w : World) (hm : mayG i b j = true) (h1 : 1 ≤ n) (h2 : n ≤ b) : Calls Tryz.prog 76 #[geoV i b j, .int .u16 n] w fun e w' => e = .returned (.tuple #[.int .i64 (fromG i b j 5 + n - 1 : Nat), .int .i64 0]) ∧ Below w.heap.size w w' := by
  have hr : i ≤ 256 ∧ b ≤ 1024 ∧ j ≤ 256 := by simp [mayG, inR] at hm; omega
  have PT := Lib.hid (fun W => part_any i b j 5 W hm (by omega))
  have hfb := fromG_le hr.1 hr.2.1 hr.2.2 5
  have hnb := numG_le hr.1 hr.2.1 hr.2.2 5
  generalize fromG i b j 5 = fm at *
  generalize numG i b j 5 = nm at *
  have HB0 := Lib.hid ((Below.refl _ w).alloc (Nat.le_refl _) (.cells #[.int .i64 i, .int .i64 b, .int .i64 j] 23))
  unfold geoV at *
  go_enter Tryz.func76, Tryz.ntmps76
  go_wp2_with fail
  refine (PT.out _).mono ?_
  rintro e w1 ⟨rfl, b1⟩
  have hX := (SBox.new w 23 #[.int .i64 i, .int .i64 b, .int .i64 j]).later b1
  have hB1 := Lib.hid ((HB0.out.trans (b1.mono (by simp))).alloc (by have := b1.size; simp at this ⊢; omega) (.cells #[.int .i64 fm, .int .i64 nm] 96))
  have X0 := hX.cell 0
  have X1 := hX.cell 1
  have X2 := hX.cell 2
  simp only [List.getElem?_toArray, List.getElem?_cons_zero, List.getElem?_cons_succ] at X0 X1 X2
  have Xl := hX.lt
  clear b1 hX
  go_wp2
  go_ret2
  refine ⟨?_, hB1.out⟩
  have e1 : (fm : Int) + (n : Int) - 1 = ((fm + n - 1 : Nat) : Int) := by omega
  show Ending.returned (.tuple #[.int .i64 ((fm : Int) + (n : Int) - 1), .int .i64 0]) = _
  rw [e1]
set_option maxRecDepth 100000 in
theorem block_none (i b j n : Nat) (w : World) (hm : mayG i b j = true) (hn : n < 65536) (hb : n < 1 ∨ b < n) : Calls Tryz.prog 76 #[geoV i b j, .int .u16 n] w fun e w' => e = .returned (.tuple #[.int .i64 0, .int .i64 2]) ∧ Below w.heap.size w w' := by
  have hr : i ≤ 256 ∧ b ≤ 1024 ∧ j ≤ 256 := by simp [mayG, inR] at hm; omega
  have PT := Lib.hid (fun W => part_any i b j 5 W hm (by omega))
  have hfb := fromG_le hr.1 hr.2.1 hr.2.2 5
  have hnb := numG_le hr.1 hr.2.1 hr.2.2 5
  generalize fromG i b j 5 = fm at *
  generalize numG i b j 5 = nm at *
  have HB0 := Lib.hid ((Below.refl _ w).alloc (Nat.le_refl _) (.cells #[.int .i64 i, .int .i64 b, .int .i64 j] 23))
  unfold geoV at *
  by_cases hz : n = 0
  · subst hz
    go_enter Tryz.func76, Tryz.ntmps76
    go_wp2_with fail
    refine (PT.out _).mono ?_
    rintro e w1 ⟨rfl, b1⟩
    have hX := (SBox.new w 23 #[.int .i64 i, .int .i64 b, .int .i64 j]).later b1
    have hB1 := Lib.hid ((HB0.out.trans (b1.mono (by simp))).alloc (by have := b1.size; simp at this ⊢; omega) (.cells #[.int .i64 fm, .int .i64 nm] 96))
    have X0 := hX.cell 0
    have X1 := hX.cell 1
    have X2 := hX.cell 2
    simp only [List.getElem?_toArray, List.getElem?_cons_zero, List.getElem?_cons_succ] at X0 X1 X2
    have Xl := hX.lt
    clear b1 hX
    go_wp2
    go_ret2
    exact ⟨rfl, hB1.out⟩
  · have h1 : 1 ≤ n := by omega
    have h2 : b < n := by omega
    clear hb hz
    go_enter Tryz.func76, Tryz.ntmps76
    go_wp2_with fail
    refine (PT.out _).mono ?_
    rintro e w1 ⟨rfl, b1⟩
    have hX := (SBox.new w 23 #[.int .i64 i, .int .i64 b, .int .i64 j]).later b1
    have hB1 := Lib.hid ((HB0.out.trans (b1.mono (by simp))).alloc (by have := b1.size; simp at this ⊢; omega) (.cells #[.int .i64 fm, .int .i64 nm] 96))
    have X0 := hX.cell 0
    have X1 := hX.cell 1
    have X2 := hX.cell 2
    simp only [List.getElem?_toArray, List.getElem?_cons_zero, List.getElem?_cons_succ] at X0 X1 X2
    have Xl := hX.lt
    clear b1 hX
    go_wp2
    go_ret2
    exact ⟨rfl, hB1.out⟩
end Go.Proofs.YtpnfkilfgdnogaaGreatDoor.Geo
end
section
namespace Go.Proofs.YtpnfkilfgdnogaaGreatDoor.Geo
set_option linter.unusedVariables false
set_option linter.unusedSimpArgs false
open Go.RowKit Go.Shelf Oct
def nil0 (n : Nat) : List UInt8 := List.replicate n 0
theorem nil0_len (n : Nat) : (nil0 n).length = n := by simp [nil0]
theorem run_zero (n : Nat) (w : World) : (convert 52 9 (.slice (some ⟨w.heap.size, 0, none⟩) n n)).run Tryz.prog (w.alloc (.cells (madeCells #[.int .u8 0] n) 5)) = .ok (.string (B (nil0 n))) (w.alloc (.cells (madeCells #[.int .u8 0] n) 5)) := by
  have r0 := World.rowIs_made w (.int .u8 0) n 5
  have h := run_back (w.alloc (.cells (madeCells #[.int .u8 0] n) 5)) w.heap.size n (nil0 n) _ (by rw [nil0_len]; exact r0) (fun j hj => by simp [nil0])
  rw [nil0_len] at h
  exact h
def magicL : List UInt8 := [108, 117, 110, 101, 116, 116, 101, 49]
def superL (i b j : Nat) : List UInt8 := magicL ++ numL i 4 ++ numL b 4 ++ numL j 4 ++ nil0 44
set_option maxRecDepth 100000 in
set_option maxHeartbeats 2000000 in
theorem super_any (i b j : Nat) (w : World) (hm : mayG i b j = true) : Calls Tryz.prog 52 #[geoV i b j] w fun e w' => e = .returned (.tuple #[.string (B (superL i b j)), .int .i64 0]) ∧ Below w.heap.size w w' := by
  have hr : i ≤ 256 ∧ b ≤ 1024 ∧ j ≤ 256 := by simp [mayG, inR] at hm; omega
  obtain ⟨hi, hb, hj⟩ := hr
  have MY := Lib.hid (fun W => may_any i b j W)
  rw [hm] at MY
  have N0 := Lib.hid (fun W => num_ok i 4 W (by omega) (by omega))
  have N1 := Lib.hid (fun W => num_ok b 4 W (by omega) (by omega))
  have N2 := Lib.hid (fun W => num_ok j 4 W (by omega) (by omega))
  have HB0 := Lib.hid ((Below.refl _ w).alloc (Nat.le_refl _) (.cells #[.int .i64 i, .int .i64 b, .int .i64 j] 23))
  unfold geoV at *
  go_enter Tryz.func52, Tryz.ntmps52
  go_wp2_with fail
  refine (MY.out _).mono ?_
  rintro e w1 ⟨rfl, b1⟩
  have hX := (SBox.new w 23 #[.int .i64 i, .int .i64 b, .int .i64 j]).later b1
  have hB1 := HB0.out.trans (b1.mono (by simp))
  have X0 := hX.cell 0
  have X1 := hX.cell 1
  have X2 := hX.cell 2
  simp only [List.getElem?_toArray, List.getElem?_cons_zero, List.getElem?_cons_succ] at X0 X1 X2
  have Xl := hX.lt
  have hV := SBox.new w1 3 #[.int .i64 i, .int .i64 b, .int .i64 j]
  have hB2 := hB1.alloc hB1.size (.cells #[.int .i64 i, .int .i64 b, .int .i64 j] 3)
  clear hX b1
  obtain ⟨t0, ht0⟩ : ∃ x, B (numL i 4) = x := ⟨_, rfl⟩
  obtain ⟨t1, ht1⟩ : ∃ x, B (numL b 4) = x := ⟨_, rfl⟩
  obtain ⟨t2, ht2⟩ : ∃ x, B (numL j 4) = x := ⟨_, rfl⟩
  rw [ht0] at N0
  rw [ht1] at N1
  rw [ht2] at N2
  have hs0 : t0.size = 4 := by rw [← ht0, size_B, len_numL]
  have hs1 : t1.size = 4 := by rw [← ht1, size_B, len_numL]
  have hs2 : t2.size = 4 := by rw [← ht2, size_B, len_numL]
  have hl8 : (⟨#[108, 117, 110, 101, 116, 116, 101, 49]⟩ : ByteArray).size = 8 := rfl
  have hs3 : (B (nil0 44)).size = 44 := by rw [size_B, nil0_len]
  have c0 : (⟨#[108, 117, 110, 101, 116, 116, 101, 49]⟩ : ByteArray).size + t0.size ≤ 256 := by omega
  have c1 : ((⟨#[108, 117, 110, 101, 116, 116, 101, 49]⟩ : ByteArray) ++ t0).size + t1.size ≤ 256 := by rw [ByteArray.size_append]; omega
  have c2 : ((⟨#[108, 117, 110, 101, 116, 116, 101, 49]⟩ : ByteArray) ++ t0 ++ t1).size + t2.size ≤ 256 := by rw [ByteArray.size_append, ByteArray.size_append]; omega
  have c3 : ((⟨#[108, 117, 110, 101, 116, 116, 101, 49]⟩ : ByteArray) ++ t0 ++ t1 ++ t2).size = 20 := by rw [ByteArray.size_append, ByteArray.size_append, ByteArray.size_append]; omega
  have c4 : ((⟨#[108, 117, 110, 101, 116, 116, 101, 49]⟩ : ByteArray) ++ t0 ++ t1 ++ t2).size + (B (nil0 44)).size ≤ 256 := by omega
  go_wp2_with fail
  clear hB1 X0 X1 X2 Xl
  refine wp_loop_rounds 4 ?_
  rw [rounds_succ]
  have V0 := hV.cell 0
  have V1 := hV.cell 1
  have V2 := hV.cell 2
  simp only [List.getElem?_toArray, List.getElem?_cons_zero, List.getElem?_cons_succ] at V0 V1 V2
  have Vl := hV.lt
  go_wp2_with fail
  refine (N0.out _).mono ?_
  rintro e w2 ⟨rfl, b2⟩
  have hV2 := hV.later b2
  have hB3 := hB2.trans (b2.mono hB2.size)
  clear V0 V1 V2 Vl hV b2 hB2
  have V0 := hV2.cell 0
  have V1 := hV2.cell 1
  have V2 := hV2.cell 2
  simp only [List.getElem?_toArray, List.getElem?_cons_zero, List.getElem?_cons_succ] at V0 V1 V2
  have Vl := hV2.lt
  go_wp2_with fail
  rw [rounds_succ]
  go_wp2_with fail
  refine (N1.out _).mono ?_
  rintro e w3 ⟨rfl, b3⟩
  have hV3 := hV2.later b3
  have hB4 := hB3.trans (b3.mono hB3.size)
  clear V0 V1 V2 Vl hV2 b3 hB3
  have V0 := hV3.cell 0
  have V1 := hV3.cell 1
  have V2 := hV3.cell 2
  simp only [List.getElem?_toArray, List.getElem?_cons_zero, List.getElem?_cons_succ] at V0 V1 V2
  have Vl := hV3.lt
  go_wp2_with fail
  rw [rounds_succ]
  go_wp2_with fail
  refine (N2.out _).mono ?_
  rintro e w4 ⟨rfl, b4⟩
  have hV4 := hV3.later b4
  have hB5 := hB4.trans (b4.mono hB4.size)
  clear V0 V1 V2 Vl hV3 b4 hB4
  have hmk : (Instr.makeSlice 52 (.int .i64 44) (.int .i64 44)).run Tryz.prog w4 = .ok (.slice (some ⟨w4.heap.size, 0, none⟩) 44 44) (w4.alloc (.cells (madeCells #[.int .u8 0] 44) 5)) := run_made 44 (by omega) w4
  have hzz := run_zero 44 w4
  go_wp2_with fail
  rw [rounds_succ]
  have HF := Lib.hid (hB5.alloc hB5.size (.cells (madeCells #[.int .u8 0] 44) 5))
  have HE : Hid ((⟨#[108, 117, 110, 101, 116, 116, 101, 49]⟩ : ByteArray) ++ t0 ++ t1 ++ t2 ++ B (nil0 44) = B (superL i b j)) := Lib.hid (by
    rw [← ht0, ← ht1, ← ht2, show (⟨#[108, 117, 110, 101, 116, 116, 101, 49]⟩ : ByteArray) = B magicL from rfl, append_B, append_B, append_B, append_B]
    rfl)
  clear hB5 ht0 ht1 ht2
  go_wp2
  go_ret2
  refine ⟨?_, HF.out⟩
  rw [← HE.out]
  rfl
end Go.Proofs.YtpnfkilfgdnogaaGreatDoor.Geo
end
section
namespace Go.Proofs.YtpnfkilfgdnogaaGreatDoor.Geo
set_option linter.unusedVariables false
set_option linter.unusedSimpArgs false
open Go.RowKit Go.Shelf Oct
theorem ext_B (s : ByteArray) (a b : Nat) : s.extract a b = B (((L s).drop a).take (b - a)) := by
  rw [← B_L (s.extract a b)]
  congr 1
  show (s.extract a b).data.toList = _
  rw [ByteArray.data_extract]
  simp only [Array.toList_extract, List.extract_eq_take_drop]
  rfl
theorem super_len (i b j : Nat) : (superL i b j).length = 64 := by simp [superL, magicL, len_numL, nil0_len]
end Go.Proofs.YtpnfkilfgdnogaaGreatDoor.Geo
end
