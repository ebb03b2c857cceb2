/- Layer 5 (geo): where each part lies (Part), each inode and each block. -/
import Derived.Test.YtpnfkilfgdnogaaGreatDoorGeo
namespace Go.Proofs.YtpnfkilfgdnogaaGreatDoor.Geo
set_option linter.unusedVariables false
set_option linter.unusedSimpArgs false
open Go.RowKit Go.Shelf Oct
theorem sz_len (i b j : Nat) : (szL i b j).length = 6 := rfl
theorem sz_bound {i b j : Nat} (hi : i ≤ 256) (hb : b ≤ 1024) (hj : j ≤ 256) : ∀ x ∈ szL i b j, x ≤ 2000 := by
  intro x hx
  simp only [szL, List.mem_cons, List.not_mem_nil, or_false, upN] at hx
  rcases hx with h | h | h | h | h | h <;> omega
theorem sum_bound : ∀ (l : List Nat), (∀ x ∈ l, x ≤ 2000) → l.sum ≤ l.length * 2000
  | [], _ => by simp
  | x :: r, h => by
    have h1 := h x (by simp)
    have h2 := sum_bound r (fun y hy => h y (by simp [hy]))
    simp only [List.sum_cons, List.length_cons]
    omega
def fromG (i b j p : Nat) : Nat := ((szL i b j).take p).sum
def numG (i b j p : Nat) : Nat := (szL i b j).getD p 0
theorem fromG_succ {i b j p : Nat} (hp : p < 6) : fromG i b j (p + 1) = fromG i b j p + numG i b j p := by
  unfold fromG numG
  have hl : p < (szL i b j).length := hp
  rw [List.take_add_one, List.sum_append, List.getElem?_eq_getElem hl, List.getD_eq_getElem?_getD, List.getElem?_eq_getElem hl]
  simp
theorem numG_le {i b j : Nat} (hi : i ≤ 256) (hb : b ≤ 1024) (hj : j ≤ 256) (p : Nat) : numG i b j p ≤ 2000 := by
  unfold numG
  by_cases hp : p < (szL i b j).length
  · rw [List.getD_eq_getElem?_getD, List.getElem?_eq_getElem hp]
    exact sz_bound hi hb hj _ (List.getElem_mem hp)
  · rw [List.getD_eq_getElem?_getD, List.getElem?_eq_none (by omega)]
    simp
theorem fromG_le {i b j : Nat} (hi : i ≤ 256) (hb : b ≤ 1024) (hj : j ≤ 256) (p : Nat) : fromG i b j p ≤ 12000 := by
  have h1 := sum_bound ((szL i b j).take p) (fun x hx => sz_bound hi hb hj x (List.mem_of_mem_take hx))
  have h2 : ((szL i b j).take p).length ≤ 6 := by rw [List.length_take, sz_len]; omega
  unfold fromG
  omega
def szCells (i b j : Nat) : Array Value := #[.int .i64 1, .int .i64 j, .int .i64 (upN (i + 1) 512), .int .i64 (upN (b + 1) 512), .int .i64 (upN i 2), .int .i64 b]
theorem sz_cell {i b j p : Nat} (hp : p < 6) : (szCells i b j)[p]? = some (.int .i64 (numG i b j p)) := by
  match p, hp with
  | 0, _ => rfl
  | 1, _ => rfl
  | 2, _ => rfl
  | 3, _ => rfl
  | 4, _ => rfl
  | 5, _ => rfl
theorem fill2 {W : World} {n : Nat} {t : TypeId} {a0 a1 : Value} (h : SBox W n t #[a0, a1]) (v0 v1 : Value) : SBox ((W.setCell ⟨n, 0, none⟩ v0).setCell ⟨n, 1, none⟩ v1) n t #[v0, v1] := (h.set 0 v0).set 1 v1
theorem fill6 {W : World} {n : Nat} {t : TypeId} {a0 a1 a2 a3 a4 a5 : Value} (h : SBox W n t #[a0, a1, a2, a3, a4, a5]) (v0 v1 v2 v3 v4 v5 : Value) :
    SBox ((((((W.setCell ⟨n, 0, none⟩ v0).setCell ⟨n, 1, none⟩ v1).setCell ⟨n, 2, none⟩ v2).setCell ⟨n, 3, none⟩ v3).setCell ⟨n, 4, none⟩ v4).setCell ⟨n, 5, none⟩ v5) n t #[v0, v1, v2, v3, v4, v5] :=
  (((((h.set 0 v0).set 1 v1).set 2 v2).set 3 v3).set 4 v4).set 5 v5
def PartRel (i b j p : Nat) (w w2 : World) (k : Value) (wr : World) : Prop :=
  ∃ m : Nat, m ≤ p ∧ k = .int .i64 m ∧ SBox wr (w.heap.size + 1) 96 #[.int .i64 (fromG i b j m), .int .i64 0] ∧ SBox wr w2.heap.size 182 (szCells i b j) ∧ Below w.heap.size w wr
set_option maxRecDepth 100000 in
set_option maxHeartbeats 2000000 in
theorem part_any (i b j p : Nat) (w : World) (hm : mayG i b j = true) (hp : p < 6) : Calls Tryz.prog 48 #[geoV i b j, .int .i64 p] w fun e w' => e = .returned (.tuple #[.agg #[.int .i64 (fromG i b j p), .int .i64 (numG i b j p)], .int .i64 0]) ∧ Below w.heap.size w w' := by
  have hr : i ≤ 256 ∧ b ≤ 1024 ∧ j ≤ 256 := by simp [mayG, inR] at hm; omega
  have MY := Lib.hid (fun W => may_any i b j W)
  rw [hm] at MY
  have SZ := Lib.hid (fun W => sizes_any i b j W hr.1 hr.2.1 hr.2.2)
  have FB := Lib.hid (fun m => fromG_le hr.1 hr.2.1 hr.2.2 m)
  have NB := Lib.hid (fun m => numG_le hr.1 hr.2.1 hr.2.2 m)
  unfold szV at SZ
  have d0 : decide ((p : Int) < 0) = false := by simp
  have d1 : decide ((p : Int) ≥ 6) = false := by simp; omega
  have d2 : decide ((6 : Int) ≤ p) = false := by simp; omega
  have HB0 := Lib.hid (((Below.refl _ w).alloc (Nat.le_refl _) (.cells #[.int .i64 i, .int .i64 b, .int .i64 j] 23)).alloc (by simp) (.cells #[.int .i64 0, .int .i64 0] 96))
  unfold geoV at *
  go_enter Tryz.func48, Tryz.ntmps48
  go_wp2_with fail
  refine (MY.out _).mono ?_
  rintro e w1 ⟨rfl, b1⟩
  have hX := ((SBox.new w 23 #[.int .i64 i, .int .i64 b, .int .i64 j]).alloc (.cells #[.int .i64 0, .int .i64 0] 96)).later b1
  have hS := (SBox.new (w.alloc (.cells #[.int .i64 i, .int .i64 b, .int .i64 j] 23)) 96 #[.int .i64 0, .int .i64 0]).later b1
  rw [World.size_alloc] at hS
  have hB1 := HB0.out.trans (b1.mono (by simp; omega))
  have X0 := hX.cell 0
  have X1 := hX.cell 1
  have X2 := hX.cell 2
  simp only [List.getElem?_toArray, List.getElem?_cons_zero, List.getElem?_cons_succ] at X0 X1 X2
  have Xl := hX.lt
  go_wp2_with fail
  refine (SZ.out _).mono ?_
  rintro e w2 ⟨rfl, b2⟩
  have hB2 := hB1.trans (b2.mono hB1.size)
  have hS2 := hS.later b2
  clear X0 X1 X2 Xl hX b1 hB1 hS b2
  have HS := Lib.hid hS2
  have HB2 := Lib.hid hB2
  clear hS2 hB2
  go_wp2_with fail
  have hne : w.heap.size + 1 ≠ w2.heap.size := Nat.ne_of_lt HS.out.lt
  have hle : w.heap.size ≤ w2.heap.size := by have := HS.out.lt; omega
  go_loopw [7, 23] (fun _ k wr => PartRel i b j p w w2 k wr) (fun _ k _ => p - (intOf k).toNat)
  case atStart =>
    refine ⟨0, Nat.zero_le _, rfl, ?_, ?_, ?_⟩
    · exact HS.out.alloc _
    · unfold szCells
      exact SBox.new _ _ _
    · exact HB2.out.alloc hle _
  case round =>
    obtain ⟨m, hmp, rfl, hS, hL, hB⟩ := hrel
    by_cases hlt : m < p
    · have hfb := FB.out m
      have hnb := NB.out m
      have HF : Hid (fromG i b j (m + 1) = fromG i b j m + numG i b j m) := Lib.hid (fromG_succ (by omega))
      have L0 : wr.cell? ⟨w2.heap.size, m, none⟩ = some (.int .i64 (numG i b j m)) := (hL.cell m).trans (sz_cell (by omega))
      generalize fromG i b j m = fm at *
      generalize numG i b j m = nm at *
      have S0 := hS.cell 0
      have S1 := hS.cell 1
      simp only [List.getElem?_toArray, List.getElem?_cons_zero, List.getElem?_cons_succ] at S0 S1
      have Sl := hS.lt
      have F0 := hS.free 0
      have F1 := hS.free 1
      have q0 : (0 : Int) ≤ (m : Int) := by omega
      have q1 : (m : Int) < 6 := by omega
      have q2 : (m : Int) < (p : Int) := by omega
      have hLl := hL.lt
      have HS2 := Lib.hid hS
      have HL2 := Lib.hid hL
      have HBr := Lib.hid hB
      clear hS hL hB
      go_wp2_with fail
      go_region
      go_wp2
      refine ⟨⟨m + 1, by omega, rfl, ?_, ?_, ?_⟩, by simp [intOf]; omega⟩
      · rw [HF.out, Int.natCast_add]
        exact SBox.set HS2.out.drew 0 _
      · exact SBox.other HL2.out.drew _ hne.symm
      · exact Below.setCell HBr.out.drew (Nat.le_succ _) _
    · obtain rfl : m = p := by omega
      have hfb := FB.out m
      have hnb := NB.out m
      have L0 : wr.cell? ⟨w2.heap.size, m, none⟩ = some (.int .i64 (numG i b j m)) := (hL.cell m).trans (sz_cell (by omega))
      obtain ⟨fm, hfm⟩ : ∃ x, fromG i b j m = x := ⟨_, rfl⟩
      obtain ⟨nm, hnm⟩ : ∃ x, numG i b j m = x := ⟨_, rfl⟩
      rw [hfm] at hS hfb
      rw [hnm] at L0 hnb
      have S0 := hS.cell 0
      have S1 := hS.cell 1
      simp only [List.getElem?_toArray, List.getElem?_cons_zero, List.getElem?_cons_succ] at S0 S1
      have Sl := hS.lt
      have F0 := hS.free 0
      have F1 := hS.free 1
      have q0 : (0 : Int) ≤ (m : Int) := by omega
      have q1 : (m : Int) < 6 := by omega
      have hLl := hL.lt
      have HS2 := Lib.hid hS
      have HBr := Lib.hid hB
      clear hS hL hB
      go_wp2
      have F := ((HS2.out.set 1 (.int .i64 nm)).set 0 (.int .i64 fm)).set 1 (.int .i64 nm)
      have k0 := F.cell 0
      have k1 := F.cell 1
      exact bodyPost_ret (v := .tuple #[.agg #[.int .i64 fm, .int .i64 nm], .int .i64 0]) (by simp [results, Tryz.results48, go_sem, k0, k1]) rfl ⟨by rw [hfm, hnm], by (repeat (refine Below.setCell ?_ (Nat.le_succ _) _)); exact HBr.out⟩
theorem part_bad (i b j p : Int) (w : World) (hm : mayG i b j = false) : Calls Tryz.prog 48 #[geoV i b j, .int .i64 p] w fun e w' => e = .returned (.tuple #[.agg #[.int .i64 0, .int .i64 0], .int .i64 2]) ∧ Below w.heap.size w w' := by
  have MY := Lib.hid (fun W => may_any i b j W)
  rw [hm] at MY
  have HB0 := Lib.hid (((Below.refl _ w).alloc (Nat.le_refl _) (.cells #[.int .i64 i, .int .i64 b, .int .i64 j] 23)).alloc (by simp) (.cells #[.int .i64 0, .int .i64 0] 96))
  unfold geoV at *
  go_enter Tryz.func48, Tryz.ntmps48
  go_wp2_with fail
  refine (MY.out _).mono ?_
  rintro e w1 ⟨rfl, b1⟩
  have hS := (SBox.new (w.alloc (.cells #[.int .i64 i, .int .i64 b, .int .i64 j] 23)) 96 #[.int .i64 0, .int .i64 0]).later b1
  rw [World.size_alloc] at hS
  have hB1 := Lib.hid (HB0.out.trans (b1.mono (by simp; omega)))
  clear b1
  have S0 := hS.cell 0
  have S1 := hS.cell 1
  simp only [List.getElem?_toArray, List.getElem?_cons_zero, List.getElem?_cons_succ] at S0 S1
  have Sl := hS.lt
  have F0 := hS.free 0
  have F1 := hS.free 1
  have HS2 := Lib.hid hS
  clear hS
  go_wp2
  have F := (HS2.out.set 0 (.int .i64 0)).set 1 (.int .i64 0)
  have k0 := F.cell 0
  have k1 := F.cell 1
  exact bodyPost_ret (v := .tuple #[.agg #[.int .i64 0, .int .i64 0], .int .i64 2]) (by simp [results, Tryz.results48, go_sem, k0, k1]) rfl ⟨rfl, by (repeat (refine Below.setCell ?_ (Nat.le_succ _) _)); exact hB1.out⟩
/-! ### Where an inode lies, and a block -/
set_option maxRecDepth 100000 in
theorem inode_any (i b j n : Nat) (w : World) (hm : mayG i b j = true) (h1 : 1 ≤ n) (h2 : n ≤ i) : Calls Tryz.prog 56 #[geoV i b j, .int .u32 n] w fun e w' => e = .returned (.tuple #[.int .i64 (fromG i b j 4 + (n - 1) / 2 : Nat), .int .i64 ((n - 1) % 2 * 32 : Nat), .int .i64 0]) ∧ Below w.heap.size w w' := by
  have hr : i ≤ 256 ∧ b ≤ 1024 ∧ j ≤ 256 := by simp [mayG, inR] at hm; omega
  have PT := Lib.hid (fun W => part_any i b j 4 W hm (by omega))
  have hfb := fromG_le hr.1 hr.2.1 hr.2.2 4
  have hnb := numG_le hr.1 hr.2.1 hr.2.2 4
  generalize fromG i b j 4 = fm at *
  generalize numG i b j 4 = nm at *
  have HB0 := Lib.hid ((Below.refl _ w).alloc (Nat.le_refl _) (.cells #[.int .i64 i, .int .i64 b, .int .i64 j] 23))
  unfold geoV at *
  go_enter Tryz.func56, Tryz.ntmps56
  go_wp2_with fail
  refine (PT.out _).mono ?_
  rintro e w1 ⟨rfl, b1⟩
  have hX := (SBox.new w 23 #[.int .i64 i, .int .i64 b, .int .i64 j]).later b1
  have hB1 := Lib.hid ((HB0.out.trans (b1.mono (by simp))).alloc (by have := b1.size; simp at this ⊢; omega) (.cells #[.int .i64 fm, .int .i64 nm] 96))
  have X0 := hX.cell 0
  have X1 := hX.cell 1
  have X2 := hX.cell 2
  simp only [List.getElem?_toArray, List.getElem?_cons_zero, List.getElem?_cons_succ] at X0 X1 X2
  have Xl := hX.lt
  clear b1 hX
  go_wp2
  go_ret3
  refine ⟨?_, hB1.out⟩
  have e1 : (fm : Int) + ((n : Int) - 1) * 32 / 64 = ((fm + (n - 1) / 2 : Nat) : Int) := by omega
  have e2 : ((n : Int) - 1) * 32 % 64 = (((n - 1) % 2 * 32 : Nat) : Int) := by omega
  show Ending.returned (.tuple #[.int .i64 ((fm : Int) + ((n : Int) - 1) * 32 / 64), .int .i64 (((n : Int) - 1) * 32 % 64), .int .i64 0]) = _
  rw [e1, e2]
set_option maxRecDepth 100000 in
theorem inode_none (i b j n : Nat) (w : World) (hm : mayG i b j = true) (hn : n < 4294967296) (hb : n < 1 ∨ i < n) : Calls Tryz.prog 56 #[geoV i b j, .int .u32 n] w fun e w' => e = .returned (.tuple #[.int .i64 0, .int .i64 0, .int .i64 2]) ∧ Below w.heap.size w w' := by
  have hr : i ≤ 256 ∧ b ≤ 1024 ∧ j ≤ 256 := by simp [mayG, inR] at hm; omega
  have PT := Lib.hid (fun W => part_any i b j 4 W hm (by omega))
  have hfb := fromG_le hr.1 hr.2.1 hr.2.2 4
  have hnb := numG_le hr.1 hr.2.1 hr.2.2 4
  generalize fromG i b j 4 = fm at *
  generalize numG i b j 4 = nm at *
  have HB0 := Lib.hid ((Below.refl _ w).alloc (Nat.le_refl _) (.cells #[.int .i64 i, .int .i64 b, .int .i64 j] 23))
  unfold geoV at *
  by_cases hz : n = 0
  · subst hz
    go_enter Tryz.func56, Tryz.ntmps56
    go_wp2_with fail
    refine (PT.out _).mono ?_
    rintro e w1 ⟨rfl, b1⟩
    have hX := (SBox.new w 23 #[.int .i64 i, .int .i64 b, .int .i64 j]).later b1
    have hB1 := Lib.hid ((HB0.out.trans (b1.mono (by simp))).alloc (by have := b1.size; simp at this ⊢; omega) (.cells #[.int .i64 fm, .int .i64 nm] 96))
    have X0 := hX.cell 0
    have X1 := hX.cell 1
    have X2 := hX.cell 2
    simp only [List.getElem?_toArray, List.getElem?_cons_zero, List.getElem?_cons_succ] at X0 X1 X2
    have Xl := hX.lt
    clear b1 hX
    go_wp2
    go_ret3
    exact ⟨rfl, hB1.out⟩
  · have h1 : 1 ≤ n := by omega
    have h2 : i < n := by omega
    clear hb hz
    go_enter Tryz.func56, Tryz.ntmps56
    go_wp2_with fail
    refine (PT.out _).mono ?_
    rintro e w1 ⟨rfl, b1⟩
    have hX := (SBox.new w 23 #[.int .i64 i, .int .i64 b, .int .i64 j]).later b1
    have hB1 := Lib.hid ((HB0.out.trans (b1.mono (by simp))).alloc (by have := b1.size; simp at this ⊢; omega) (.cells #[.int .i64 fm, .int .i64 nm] 96))
    have X0 := hX.cell 0
    have X1 := hX.cell 1
    have X2 := hX.cell 2
    simp only [List.getElem?_toArray, List.getElem?_cons_zero, List.getElem?_cons_succ] at X0 X1 X2
    have Xl := hX.lt
    clear b1 hX
    go_wp2
    go_ret3
    exact ⟨rfl, hB1.out⟩
set_option maxRecDepth 100000 in
theorem block_any (i b j n : Nat) (w : World) (hm : mayG i b j = true) (h1 : 1 ≤ n) (h2 : n ≤ b) : Calls Tryz.prog 76 #[geoV i b j, .int .u16 n] w fun e w' => e = .returned (.tuple #[.int .i64 (fromG i b j 5 + n - 1 : Nat), .int .i64 0]) ∧ Below w.heap.size w w' := by
  have hr : i ≤ 256 ∧ b ≤ 1024 ∧ j ≤ 256 := by simp [mayG, inR] at hm; omega
  have PT := Lib.hid (fun W => part_any i b j 5 W hm (by omega))
  have hfb := fromG_le hr.1 hr.2.1 hr.2.2 5
  have hnb := numG_le hr.1 hr.2.1 hr.2.2 5
  generalize fromG i b j 5 = fm at *
  generalize numG i b j 5 = nm at *
  have HB0 := Lib.hid ((Below.refl _ w).alloc (Nat.le_refl _) (.cells #[.int .i64 i, .int .i64 b, .int .i64 j] 23))
  unfold geoV at *
  go_enter Tryz.func76, Tryz.ntmps76
  go_wp2_with fail
  refine (PT.out _).mono ?_
  rintro e w1 ⟨rfl, b1⟩
  have hX := (SBox.new w 23 #[.int .i64 i, .int .i64 b, .int .i64 j]).later b1
  have hB1 := Lib.hid ((HB0.out.trans (b1.mono (by simp))).alloc (by have := b1.size; simp at this ⊢; omega) (.cells #[.int .i64 fm, .int .i64 nm] 96))
  have X0 := hX.cell 0
  have X1 := hX.cell 1
  have X2 := hX.cell 2
  simp only [List.getElem?_toArray, List.getElem?_cons_zero, List.getElem?_cons_succ] at X0 X1 X2
  have Xl := hX.lt
  clear b1 hX
  go_wp2
  go_ret2
  refine ⟨?_, hB1.out⟩
  have e1 : (fm : Int) + (n : Int) - 1 = ((fm + n - 1 : Nat) : Int) := by omega
  show Ending.returned (.tuple #[.int .i64 ((fm : Int) + (n : Int) - 1), .int .i64 0]) = _
  rw [e1]
set_option maxRecDepth 100000 in
theorem block_none (i b j n : Nat) (w : World) (hm : mayG i b j = true) (hn : n < 65536) (hb : n < 1 ∨ b < n) : Calls Tryz.prog 76 #[geoV i b j, .int .u16 n] w fun e w' => e = .returned (.tuple #[.int .i64 0, .int .i64 2]) ∧ Below w.heap.size w w' := by
  have hr : i ≤ 256 ∧ b ≤ 1024 ∧ j ≤ 256 := by simp [mayG, inR] at hm; omega
  have PT := Lib.hid (fun W => part_any i b j 5 W hm (by omega))
  have hfb := fromG_le hr.1 hr.2.1 hr.2.2 5
  have hnb := numG_le hr.1 hr.2.1 hr.2.2 5
  generalize fromG i b j 5 = fm at *
  generalize numG i b j 5 = nm at *
  have HB0 := Lib.hid ((Below.refl _ w).alloc (Nat.le_refl _) (.cells #[.int .i64 i, .int .i64 b, .int .i64 j] 23))
  unfold geoV at *
  by_cases hz : n = 0
  · subst hz
    go_enter Tryz.func76, Tryz.ntmps76
    go_wp2_with fail
    refine (PT.out _).mono ?_
    rintro e w1 ⟨rfl, b1⟩
    have hX := (SBox.new w 23 #[.int .i64 i, .int .i64 b, .int .i64 j]).later b1
    have hB1 := Lib.hid ((HB0.out.trans (b1.mono (by simp))).alloc (by have := b1.size; simp at this ⊢; omega) (.cells #[.int .i64 fm, .int .i64 nm] 96))
    have X0 := hX.cell 0
    have X1 := hX.cell 1
    have X2 := hX.cell 2
    simp only [List.getElem?_toArray, List.getElem?_cons_zero, List.getElem?_cons_succ] at X0 X1 X2
    have Xl := hX.lt
    clear b1 hX
    go_wp2
    go_ret2
    exact ⟨rfl, hB1.out⟩
  · have h1 : 1 ≤ n := by omega
    have h2 : b < n := by omega
    clear hb hz
    go_enter Tryz.func76, Tryz.ntmps76
    go_wp2_with fail
    refine (PT.out _).mono ?_
    rintro e w1 ⟨rfl, b1⟩
    have hX := (SBox.new w 23 #[.int .i64 i, .int .i64 b, .int .i64 j]).later b1
    have hB1 := Lib.hid ((HB0.out.trans (b1.mono (by simp))).alloc (by have := b1.size; simp at this ⊢; omega) (.cells #[.int .i64 fm, .int .i64 nm] 96))
    have X0 := hX.cell 0
    have X1 := hX.cell 1
    have X2 := hX.cell 2
    simp only [List.getElem?_toArray, List.getElem?_cons_zero, List.getElem?_cons_succ] at X0 X1 X2
    have Xl := hX.lt
    clear b1 hX
    go_wp2
    go_ret2
    exact ⟨rfl, hB1.out⟩
end Go.Proofs.YtpnfkilfgdnogaaGreatDoor.Geo
