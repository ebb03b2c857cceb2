/- Layer 7 (inode): Get: the inode of bytes that Put gave. -/
import Derived.Test.YtpnfkilfgdnogaaGreatDoorInoPut
import Derived.StillTailTactics
namespace Go.Proofs.YtpnfkilfgdnogaaGreatDoor.Ino
set_option linter.unusedVariables false
set_option linter.unusedSimpArgs false
open Go.RowKit Go.Shelf Go.Maps Oct Geo
def fillI (W : World) (n : Nat) (v0 v1 v2 v3 v4 v5 v6 v7 : Value) : World := (((((((W.setCell ⟨n, 0, none⟩ v0).setCell ⟨n, 1, none⟩ v1).setCell ⟨n, 2, none⟩ v2).setCell ⟨n, 3, none⟩ v3).setCell ⟨n, 4, none⟩ v4).setCell ⟨n, 5, none⟩ v5).setCell ⟨n, 6, none⟩ v6).setCell ⟨n, 7, none⟩ v7
theorem fill8 {W : World} {n : Nat} {t : TypeId} {a0 a1 a2 a3 a4 a5 a6 a7 : Value} (h : SBox W n t #[a0, a1, a2, a3, a4, a5, a6, a7]) (v0 v1 v2 v3 v4 v5 v6 v7 : Value) : SBox (fillI W n v0 v1 v2 v3 v4 v5 v6 v7) n t #[v0, v1, v2, v3, v4, v5, v6, v7] := by
  have h0 := (((((((h.set 0 v0).set 1 v1).set 2 v2).set 3 v3).set 4 v4).set 5 v5).set 6 v6).set 7 v7
  simp only [List.setIfInBounds_toArray, List.set_cons_zero, List.set_cons_succ] at h0
  exact h0
theorem fillI_other {W : World} {n g : Nat} {t : TypeId} {cs : Array Value} {v0 v1 v2 v3 v4 v5 v6 v7 : Value} (h : SBox W g t cs) (hne : n ≠ g) : SBox (fillI W n v0 v1 v2 v3 v4 v5 v6 v7) g t cs :=
  (((((((h.other v0 hne.symm).other v1 hne.symm).other v2 hne.symm).other v3 hne.symm).other v4 hne.symm).other v5 hne.symm).other v6 hne.symm).other v7 hne.symm
theorem fillI_below {w W : World} {b n : Nat} {v0 v1 v2 v3 v4 v5 v6 v7 : Value} (h : Below b w W) (hn : b ≤ n) : Below b w (fillI W n v0 v1 v2 v3 v4 v5 v6 v7) := by
  unfold fillI
  repeat (refine Below.setCell ?_ hn _)
  exact h
theorem own_form2 {W : World} {base n : Nat} {t : TypeId} {v : Value} {xs : List Value} (h : W.ownsRow base t 1 v n xs) (hn : 0 < n) : ∃ g cap, v = .slice (some ⟨g, 0, none⟩) n cap ∧ g < W.heap.size ∧ n ≤ cap := by
  rcases h.2 with ⟨rfl, h0⟩ | ⟨g', cap', cur, rfl, hb, hg, hnc, hcm, hcs, ht⟩
  · omega
  · exact ⟨g', cap', rfl, (Array.getElem?_eq_some_iff.1 hg).1, hnc⟩
set_option maxRecDepth 100000 in
set_option maxHeartbeats 4000000 in
theorem get_ino (x : InoT) (w : World) (hx : x.Ok) : Calls Tryz.prog 58 #[.string (inoB x)] w fun e w' => e = .returned (.tuple #[x.val, .int .i64 0]) ∧ Below w.heap.size w w' := by
  have GO := Lib.hid (fun W => got_any (x.nums ++ List.replicate 7 0) W (by simp [InoT.nums]) (fun v hv => by
    rcases List.mem_append.1 hv with h | h
    · exact Ok.nums_lt hx v h
    · have := List.eq_of_mem_replicate h; omega))
  have PU := Lib.hid (fun W => put_ino x W hx)
  have hsz := Ok.size_lt hx
  have hnl := Ok.nums_lt hx
  have hi32 := inoB_size x
  have ex : (inoB x).extract 0 32 = B (putL2 (x.nums ++ List.replicate 7 0)) := by
    rw [← hi32, ByteArray.extract_zero_size]
    unfold inoB
    rw [nums_row]
  have hk8 : x.kind < 256 := by rcases hx with rfl | h; exact (by decide : (0 : Nat) < 256); have := h.kind; omega
  clear hx
  generalize inoB x = s at *
  generalize B (putL2 (x.nums ++ List.replicate 7 0)) = s32 at *
  obtain ⟨kind, links, size, d0, d1, d2, d3, ind⟩ := x
  simp only at hsz
  have k1 : kind < 65536 := hnl kind (by simp [InoT.nums])
  have k8 : IntKind.u8.wrap (kind : Int) = kind := by
    have : kind < 256 := hk8
    simp [IntKind.wrap, IntKind.bits, IntKind.signed]
    omega
  have or0 : bits .or .u32 (size : Int) 0 = size := (u32_or_nat size 0 (by omega) (by omega)).trans (by simp)
  clear hnl hk8
  unfold InoT.val at *
  have HB := Lib.hid ((Below.refl _ w).alloc (Nat.le_refl _) (.cells #[.int .u8 0, .int .u16 0, .int .u32 0, .int .u16 0, .int .u16 0, .int .u16 0, .int .u16 0, .int .u16 0] 43))
  have HX := Lib.hid (SBox.new w 43 #[.int .u8 0, .int .u16 0, .int .u32 0, .int .u16 0, .int .u16 0, .int .u16 0, .int .u16 0, .int .u16 0])
  go_enter Tryz.func58, Tryz.ntmps58
  go_wp2_with fail
  refine (GO.out _).mono ?_
  rintro e w1 ⟨v, rfl, hown, b1⟩
  have hown : w1.ownsRow _ 39 1 v 16 [u16V kind, u16V links, u16V (size % 65536), u16V (size / 65536), u16V d0, u16V d1, u16V d2, u16V d3, u16V ind, u16V 0, u16V 0, u16V 0, u16V 0, u16V 0, u16V 0, u16V 0] := hown
  rw [show size % 65536 = size by omega, show size / 65536 = 0 by omega] at hown
  obtain ⟨g, cap, rfl, hgl, hcap⟩ := own_form2 hown (by decide)
  obtain ⟨cur, hcur, hget, hge⟩ := own_box hown
  have C0 : w1.cell? ⟨g, 0, none⟩ = some (.int .u16 kind) := (hcur.cell 0).trans (hget 0 _ rfl)
  have C1 : w1.cell? ⟨g, 1, none⟩ = some (.int .u16 links) := (hcur.cell 1).trans (hget 1 _ rfl)
  have C2 : w1.cell? ⟨g, 2, none⟩ = some (.int .u16 size) := (hcur.cell 2).trans (hget 2 _ rfl)
  have C3 : w1.cell? ⟨g, 3, none⟩ = some (.int .u16 0) := (hcur.cell 3).trans (hget 3 _ rfl)
  have C8 : w1.cell? ⟨g, 8, none⟩ = some (.int .u16 ind) := (hcur.cell 8).trans (hget 8 _ rfl)
  have HCUR := Lib.hid hcur
  have HGET := Lib.hid hget
  have hX := HX.out.later b1
  have HX1 := Lib.hid hX
  have X0 := hX.cell 0
  have X1 := hX.cell 1
  have X2 := hX.cell 2
  have X3 := hX.cell 3
  have X4 := hX.cell 4
  have X5 := hX.cell 5
  have X6 := hX.cell 6
  have X7 := hX.cell 7
  simp only [List.getElem?_toArray, List.getElem?_cons_zero, List.getElem?_cons_succ] at X0 X1 X2 X3 X4 X5 X6 X7
  have Xl := hX.lt
  have F0 := hX.free 0
  have F1 := hX.free 1
  have F2 := hX.free 2
  have F3 := hX.free 3
  have F4 := hX.free 4
  have F5 := hX.free 5
  have F6 := hX.free 6
  have F7 := hX.free 7
  have HB1 := Lib.hid (HB.out.trans (b1.mono HB.out.size))
  have hgw : w.heap.size ≠ g := fun e => by
    have h1 : SBox w1 g 39 cur := hcur
    rw [← e] at h1
    injection (Option.some.inj ((show w1.heap[w.heap.size]? = _ from h1).symm.trans hX)) with _ e3
    exact absurd e3 (by decide)
  clear hX hcur hget hown b1 hge
  have u0 : IntKind.u8.wrap (kind : Int) = kind := k8
  have u1 : IntKind.u32.wrap (size : Int) = size := by simp [IntKind.wrap, IntKind.bits, IntKind.signed]; omega
  have u2 : IntKind.u32.wrap 0 = 0 := by decide
  have ub : bits .or .u32 (size : Int) 0 = size := or0
  go_wp2_with fail
  refine wp_region_still_tail 21 (by kernel_rfl) (by kernel_rfl) ?_
  simp only [List.take_succ_cons, List.take_zero, List.drop_succ_cons, List.drop_zero]
  change wpStill _ _ w1.drew _ _ _
  have D0 : w1.drew.cell? ⟨g, 0, none⟩ = some (.int .u16 kind) := C0
  have D1 : w1.drew.cell? ⟨g, 1, none⟩ = some (.int .u16 links) := C1
  have D2 : w1.drew.cell? ⟨g, 2, none⟩ = some (.int .u16 size) := C2
  have D3 : w1.drew.cell? ⟨g, 3, none⟩ = some (.int .u16 0) := C3
  have D8 : w1.drew.cell? ⟨g, 8, none⟩ = some (.int .u16 ind) := C8
  generalize w1.drew = W3 at *
  repeat still_step
  refine wpStill_nil ?_
  change wpList _ _ _ _ _ w1.drew
  have HX4 := Lib.hid HX1.out.drew
  have HB4 := Lib.hid HB1.out.drew
  have HC4 := Lib.hid HCUR.out.drew
  have Xd : w.heap.size < w1.drew.heap.size := Xl
  clear X0 X1 X2 X3 X4 X5 X6 X7 Xl F0 F1 F2 F3 F4 F5 F6 F7 C0 C1 C2 C3 C8 D0 D1 D2 D3 D8 HX1 HB1 HCUR u0 u1 u2 ub
  generalize w1.drew = W4 at *
  have hX := HX4.out
  have X0 := hX.cell 0
  have X1 := hX.cell 1
  have X2 := hX.cell 2
  have X3 := hX.cell 3
  have X4 := hX.cell 4
  have X5 := hX.cell 5
  have X6 := hX.cell 6
  have X7 := hX.cell 7
  simp only [List.getElem?_toArray, List.getElem?_cons_zero, List.getElem?_cons_succ] at X0 X1 X2 X3 X4 X5 X6 X7
  have Xl := hX.lt
  have F0 := hX.free 0
  have F1 := hX.free 1
  have F2 := hX.free 2
  have F3 := hX.free 3
  have F4 := hX.free 4
  have F5 := hX.free 5
  have F6 := hX.free 6
  have F7 := hX.free 7
  clear hX
  go_wp2_with fail
  have h5 := fill8 HX4.out (.int .u8 kind) (.int .u16 links) (.int .u32 size) (.int .u16 0) (.int .u16 0) (.int .u16 0) (.int .u16 0) (.int .u16 ind)
  have hc5 : SBox (fillI W4 w.heap.size (.int .u8 kind) (.int .u16 links) (.int .u32 size) (.int .u16 0) (.int .u16 0) (.int .u16 0) (.int .u16 0) (.int .u16 ind)) g 39 cur := fillI_other HC4.out hgw
  have hb5 : Below w.heap.size w (fillI W4 w.heap.size (.int .u8 kind) (.int .u16 links) (.int .u32 size) (.int .u16 0) (.int .u16 0) (.int .u16 0) (.int .u16 0) (.int .u16 ind)) := fillI_below HB4.out (Nat.le_refl _)
  unfold fillI at h5 hc5 hb5
  clear X0 X1 X2 X3 X4 X5 X6 X7 Xl F0 F1 F2 F3 F4 F5 F6 F7 Xd HX4 HB4 HC4
  have hl5 := h5.lt
  have hg5 := hc5.lt
  generalize ((((((((W4.setCell ⟨w.heap.size, 0, none⟩ (.int .u8 kind)).setCell ⟨w.heap.size, 1, none⟩ (.int .u16 links)).setCell ⟨w.heap.size, 2, none⟩ (.int .u32 size)).setCell ⟨w.heap.size, 3, none⟩ (.int .u16 0)).setCell ⟨w.heap.size, 4, none⟩ (.int .u16 0)).setCell ⟨w.heap.size, 5, none⟩ (.int .u16 0)).setCell ⟨w.heap.size, 6, none⟩ (.int .u16 0)).setCell ⟨w.heap.size, 7, none⟩ (.int .u16 ind)) = W5 at *
  have HX5 := Lib.hid h5.drew
  have HC5 := Lib.hid hc5.drew
  have HB5 := Lib.hid hb5.drew
  clear h5 hc5 hb5
  have p4 : (4 : Int) ≤ cap := by omega
  have p8 : (8 : Int) ≤ cap := by omega
  have n4 : 4 ≤ cap := by omega
  have n8 : 8 ≤ cap := by omega
  have n44 : ¬ cap = 4 := by omega
  refine wp_region_still_tail 4 (by kernel_rfl) (by kernel_rfl) ?_
  simp only [List.take_succ_cons, List.take_zero, List.drop_succ_cons, List.drop_zero]
  repeat still_step
  refine wpStill_nil ?_
  change wpList _ _ _ _ _ W5.drew
  have hds : ∀ j u, [Value.int .u16 d0, .int .u16 d1, .int .u16 d2, .int .u16 d3][j]? = some u → W5.drew.cell? (Addr.add ⟨g, 4, none⟩ j) = some u := fun j u hu => by
    match j, hu with
    | 0, hu => exact (HC5.out.cell 4).trans (HGET.out 4 _ hu)
    | 1, hu => exact (HC5.out.cell 5).trans (HGET.out 5 _ hu)
    | 2, hu => exact (HC5.out.cell 6).trans (HGET.out 6 _ hu)
    | 3, hu => exact (HC5.out.cell 7).trans (HGET.out 7 _ hu)
  refine wpList_copy_splice rfl (.tmp 36) (.tmp 38) 87 87 rfl 39 Tryz.underlying87 (by kernel_rfl) (some ⟨w.heap.size, 3, none⟩) (some ⟨g, 4, none⟩) 4 4 4 (cap - 4) rfl rfl w.heap.size 3 [.int .u8 kind, .int .u16 links, .int .u32 size, .int .u16 0, .int .u16 0, .int .u16 0, .int .u16 0, .int .u16 ind] 43 HX5.out [.int .u16 d0, .int .u16 d1, .int .u16 d2, .int .u16 d3] rfl (fun _ => ⟨rfl, _, rfl, hds⟩) (by simp) (fun u hu => by simp at hu; rcases hu with rfl | rfl | rfl | rfl <;> rfl) w.heap.size w HB5.out (Nat.le_refl _) ?_
  intro w6 hg6 hb6
  have hX : SBox w6 w.heap.size 43 #[.int .u8 kind, .int .u16 links, .int .u32 size, .int .u16 d0, .int .u16 d1, .int .u16 d2, .int .u16 d3, .int .u16 ind] := hg6.out
  have HX6 := Lib.hid hX
  have HB6 := Lib.hid hb6
  have X0 := hX.cell 0
  have X1 := hX.cell 1
  have X2 := hX.cell 2
  have X3 := hX.cell 3
  have X4 := hX.cell 4
  have X5 := hX.cell 5
  have X6 := hX.cell 6
  have X7 := hX.cell 7
  simp only [List.getElem?_toArray, List.getElem?_cons_zero, List.getElem?_cons_succ] at X0 X1 X2 X3 X4 X5 X6 X7
  have Xl := hX.lt
  have F0 := hX.free 0
  have F1 := hX.free 1
  have F2 := hX.free 2
  have F3 := hX.free 3
  have F4 := hX.free 4
  have F5 := hX.free 5
  have F6 := hX.free 6
  have F7 := hX.free 7
  clear hX hg6 hb6 hds
  go_wp2_with fail
  refine (PU.out _).mono ?_
  rintro e w7 ⟨rfl, b7⟩
  have hX := HX6.out.later b7
  have HB7 := Lib.hid (HB6.out.trans (b7.mono HB6.out.size))
  have HX7 := Lib.hid hX
  clear X0 X1 X2 X3 X4 X5 X6 X7 Xl F0 F1 F2 F3 F4 F5 F6 F7 b7
  have Y0 := hX.cell 0
  have Y1 := hX.cell 1
  have Y2 := hX.cell 2
  have Y3 := hX.cell 3
  have Y4 := hX.cell 4
  have Y5 := hX.cell 5
  have Y6 := hX.cell 6
  have Y7 := hX.cell 7
  simp only [List.getElem?_toArray, List.getElem?_cons_zero, List.getElem?_cons_succ] at Y0 Y1 Y2 Y3 Y4 Y5 Y6 Y7
  have Yl := hX.lt
  have G0 := hX.free 0
  have G1 := hX.free 1
  have G2 := hX.free 2
  have G3 := hX.free 3
  have G4 := hX.free 4
  have G5 := hX.free 5
  have G6 := hX.free 6
  have G7 := hX.free 7
  clear hX
  go_wp2
  have h9 := fill8 HX7.out (.int .u8 kind) (.int .u16 links) (.int .u32 size) (.int .u16 d0) (.int .u16 d1) (.int .u16 d2) (.int .u16 d3) (.int .u16 ind)
  have hb9 : Below w.heap.size w (fillI w7 w.heap.size (.int .u8 kind) (.int .u16 links) (.int .u32 size) (.int .u16 d0) (.int .u16 d1) (.int .u16 d2) (.int .u16 d3) (.int .u16 ind)) := fillI_below HB7.out (Nat.le_refl _)
  unfold fillI at h9 hb9
  have k0 := h9.cell 0
  have k1 := h9.cell 1
  have k2 := h9.cell 2
  have k3 := h9.cell 3
  have k4 := h9.cell 4
  have k5 := h9.cell 5
  have k6 := h9.cell 6
  have k7 := h9.cell 7
  simp only [List.getElem?_toArray, List.getElem?_cons_zero, List.getElem?_cons_succ] at k0 k1 k2 k3 k4 k5 k6 k7
  exact bodyPost_ret (v := .tuple #[.agg #[.int .u8 kind, .int .u16 links, .int .u32 size, .int .u16 d0, .int .u16 d1, .int .u16 d2, .int .u16 d3, .int .u16 ind], .int .i64 0]) (by simp [results, Tryz.results58, go_sem, k0, k1, k2, k3, k4, k5, k6, k7]) rfl ⟨rfl, hb9⟩
end Go.Proofs.YtpnfkilfgdnogaaGreatDoor.Ino
