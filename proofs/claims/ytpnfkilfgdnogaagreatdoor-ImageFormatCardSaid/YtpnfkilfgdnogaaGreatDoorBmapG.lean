/- Layer 9 (bmap): Get, Set, Begin. -/
import Derived.Test.YtpnfkilfgdnogaaGreatDoorBmapT
namespace Go.Proofs.YtpnfkilfgdnogaaGreatDoor.Bm
set_option linter.unusedVariables false
set_option linter.unusedSimpArgs false
open Go.RowKit Go.Shelf Go.Maps Oct Dev Jou Tx Geo Ino Img
/-- The blocks of an inode, page by page. -/
def allB (x : InoT) (vs : List Nat) : List Nat := x.d0 :: x.d1 :: x.d2 :: x.d3 :: vs
def pageB (x : InoT) (vs : List Nat) (p : Nat) : Nat := (allB x vs).getD p 0
/-- With another block for one of the first four pages. -/
def setDir (x : InoT) : Nat → Nat → InoT
  | 0, b => { x with d0 := b }
  | 1, b => { x with d1 := b }
  | 2, b => { x with d2 := b }
  | 3, b => { x with d3 := b }
  | _, _ => x
theorem pageB_hi {x : InoT} {vs : List Nat} {p : Nat} (h4 : 4 ≤ p) (hl : vs.length = 32) (hp : p < 36) : ∃ h : p - 4 < vs.length, pageB x vs p = vs[p - 4] := by
  refine ⟨by omega, ?_⟩
  obtain ⟨q, rfl⟩ : ∃ q, p = q + 4 := ⟨p - 4, by omega⟩
  unfold pageB allB
  have e : q + 4 - 4 = q := by omega
  simp only [List.getD_cons_succ]
  rw [List.getD_eq_getElem?_getD, List.getElem?_eq_getElem (by omega)]
  simp
section
variable {E : Im} {D : Secs} {Z : Nat → Prop} {Q : Prop}
set_option maxRecDepth 100000 in
set_option maxHeartbeats 2000000 in
theorem get_lo (x : InoT) (vs : List Nat) (p : Nat) (w : World) (hs : Small E) (hi : InG E.bl x) (hp : p < 4) :
    Calls Tryz.prog 75 #[.pointer (some ⟨E.T.p, 0, none⟩), geoV E.i E.bl E.j, x.val, .int .i64 p] w fun e w' => e = .returned (.tuple #[.int .u16 (pageB x vs p), .int .i64 0]) ∧ Below w.heap.size w w' := by
  have MA := Lib.hid (fun W => may_ok E.i E.bl E.j 0 E.T.p x true W hs.may hi (by omega))
  obtain ⟨kind, links, size, d0, d1, d2, d3, ind⟩ := x
  have HB0 := Lib.hid (((Below.refl _ w).alloc (Nat.le_refl _) (.cells #[.int .i64 E.i, .int .i64 E.bl, .int .i64 E.j] 23)).alloc (by simp) (.cells #[.int .u8 kind, .int .u16 links, .int .u32 size, .int .u16 d0, .int .u16 d1, .int .u16 d2, .int .u16 d3, .int .u16 ind] 43))
  have hX := SBox.new (w.alloc (.cells #[.int .i64 E.i, .int .i64 E.bl, .int .i64 E.j] 23)) 43 #[.int .u8 kind, .int .u16 links, .int .u32 size, .int .u16 d0, .int .u16 d1, .int .u16 d2, .int .u16 d3, .int .u16 ind]
  rw [World.size_alloc] at hX
  have HX := Lib.hid hX
  clear hX hi
  unfold geoV InoT.val at *
  match p, hp with
  | 0, _ | 1, _ | 2, _ | 3, _ =>
    go_enter Tryz.func75, Tryz.ntmps75
    go_wp2_with fail
    refine (MA.out _).mono ?_
    rintro e w1 ⟨rfl, b1⟩
    have hX := HX.out.later b1
    have B1 := Lib.hid (HB0.out.trans (b1.mono HB0.out.size))
    clear b1
    have X0 := hX.cell 0
    have X1 := hX.cell 1
    have X2 := hX.cell 2
    have X3 := hX.cell 3
    have X4 := hX.cell 4
    have X5 := hX.cell 5
    have X6 := hX.cell 6
    have X7 := hX.cell 7
    simp only [List.getElem?_toArray, List.getElem?_cons_zero, List.getElem?_cons_succ] at X0 X1 X2 X3 X4 X5 X6 X7
    have Xl := hX.lt
    clear hX
    go_wp2
    go_ret2
    exact ⟨rfl, B1.out⟩
set_option maxRecDepth 100000 in
set_option maxHeartbeats 2000000 in
theorem get_hi (x : InoT) (vs : List Nat) (p : Nat) (w : World) (hs : Small E) (h : IS w E D Z) (hi : InG E.bl x) (hv : IndIs E D x.ind vs) (h4 : 4 ≤ p) (hp : p < 36) :
    Calls Tryz.prog 75 #[.pointer (some ⟨E.T.p, 0, none⟩), geoV E.i E.bl E.j, x.val, .int .i64 p] w fun e w' => e = .returned (.tuple #[.int .u16 (pageB x vs p), .int .i64 0]) ∧ Below w.heap.size w w' := by
  have MA := Lib.hid (fun W => may_ok E.i E.bl E.j 0 E.T.p x true W hs.may hi (by omega))
  obtain ⟨hq, hpg⟩ := pageB_hi (x := x) h4 hv.len hp
  rw [hpg]
  have TD := Lib.hid (fun W (h : IS W E D Z) => told_is x vs W hs h hi.2.2.2.2 hv)
  have hq2 := hv.len
  obtain ⟨kind, links, size, d0, d1, d2, d3, ind⟩ := x
  have HB0 := Lib.hid (((Below.refl _ w).alloc (Nat.le_refl _) (.cells #[.int .i64 E.i, .int .i64 E.bl, .int .i64 E.j] 23)).alloc (by simp) (.cells #[.int .u8 kind, .int .u16 links, .int .u32 size, .int .u16 d0, .int .u16 d1, .int .u16 d2, .int .u16 d3, .int .u16 ind] 43))
  have HG := Lib.hid ((SBox.new w 23 #[.int .i64 E.i, .int .i64 E.bl, .int .i64 E.j]).alloc (.cells #[.int .u8 kind, .int .u16 links, .int .u32 size, .int .u16 d0, .int .u16 d1, .int .u16 d2, .int .u16 d3, .int .u16 ind] 43))
  have hX := SBox.new (w.alloc (.cells #[.int .i64 E.i, .int .i64 E.bl, .int .i64 E.j] 23)) 43 #[.int .u8 kind, .int .u16 links, .int .u32 size, .int .u16 d0, .int .u16 d1, .int .u16 d2, .int .u16 d3, .int .u16 ind]
  rw [World.size_alloc] at hX
  have HX := Lib.hid hX
  have HP := Lib.hid (h.later HB0.out)
  clear hX hi h hv hpg
  unfold geoV InoT.val at *
  have q0 : (0 : Int) ≤ p := by omega
  have q1 : (p : Int) < 36 := by omega
  have q2 : ¬ (p : Int) < 4 := by omega
  have q3 : decide (p < 4) = false := by simp; omega
  have q4 : (0 : Int) ≤ (p : Int) - 4 := by omega
  have q5 : (p : Int) - 4 < 32 := by omega
  have q6 : ((p : Int) - 4).toNat = p - 4 := by omega
  go_enter Tryz.func75, Tryz.ntmps75
  go_wp2_with fail
  refine (MA.out _).mono ?_
  rintro e w1 ⟨rfl, b1⟩
  have hX := HX.out.later b1
  have hG := HG.out.later b1
  have H1 := Lib.hid (HP.out.later b1)
  have B1 := Lib.hid (HB0.out.trans (b1.mono HB0.out.size))
  clear b1
  have X0 := hX.cell 0
  have X1 := hX.cell 1
  have X2 := hX.cell 2
  have X3 := hX.cell 3
  have X4 := hX.cell 4
  have X5 := hX.cell 5
  have X6 := hX.cell 6
  have X7 := hX.cell 7
  simp only [List.getElem?_toArray, List.getElem?_cons_zero, List.getElem?_cons_succ] at X0 X1 X2 X3 X4 X5 X6 X7
  have Xl := hX.lt
  have G0 := hG.cell 0
  have G1 := hG.cell 1
  have G2 := hG.cell 2
  simp only [List.getElem?_toArray, List.getElem?_cons_zero, List.getElem?_cons_succ] at G0 G1 G2
  have Gl := hG.lt
  clear hX hG
  go_wp2_with fail
  refine (TD.out _ H1.out).mono ?_
  rintro e w2 ⟨g, cap, rfl, hg, hc, R, b2⟩
  have c1 := R.cell (p - 4) hq
  have gl := R.lt
  have B2 := Lib.hid (B1.out.trans (b2.mono B1.out.size))
  clear b2 R hg hc X0 X1 X2 X3 X4 X5 X6 X7 Xl G0 G1 G2 Gl
  go_wp2
  go_ret2
  exact ⟨rfl, B2.out⟩
theorem get_is (x : InoT) (vs : List Nat) (p : Nat) (w : World) (hs : Small E) (h : IS w E D Z) (hi : InG E.bl x) (hv : IndIs E D x.ind vs) (hp : p < 36) :
    Calls Tryz.prog 75 #[.pointer (some ⟨E.T.p, 0, none⟩), geoV E.i E.bl E.j, x.val, .int .i64 p] w fun e w' => e = .returned (.tuple #[.int .u16 (pageB x vs p), .int .i64 0]) ∧ Below w.heap.size w w' := by
  by_cases h4 : p < 4
  · exact get_lo x vs p w hs hi h4
  · exact get_hi x vs p w hs h hi hv (by omega) hp
set_option maxRecDepth 100000 in
set_option maxHeartbeats 2000000 in
theorem set_lo (x : InoT) (p b : Nat) (w : World) (hs : Small E) (hi : InG E.bl x) (hb : b ≤ E.bl) (hp : p < 4) :
    Calls Tryz.prog 117 #[.pointer (some ⟨E.T.p, 0, none⟩), geoV E.i E.bl E.j, x.val, .int .i64 p, .int .u16 b] w fun e w' => e = .returned (.tuple #[(setDir x p b).val, .int .i64 0]) ∧ Below w.heap.size w w' := by
  have MA := Lib.hid (fun W => may_ok E.i E.bl E.j b E.T.p x true W hs.may hi hb)
  obtain ⟨kind, links, size, d0, d1, d2, d3, ind⟩ := x
  have HB0 := Lib.hid ((((Below.refl _ w).alloc (Nat.le_refl _) (.cells #[.int .i64 E.i, .int .i64 E.bl, .int .i64 E.j] 23)).alloc (by simp) (.cells #[.int .u8 kind, .int .u16 links, .int .u32 size, .int .u16 d0, .int .u16 d1, .int .u16 d2, .int .u16 d3, .int .u16 ind] 43)).alloc (by simp; omega) (.cells #[.int .u8 0, .int .u16 0, .int .u32 0, .int .u16 0, .int .u16 0, .int .u16 0, .int .u16 0, .int .u16 0] 43))
  have hX := SBox.new (w.alloc (.cells #[.int .i64 E.i, .int .i64 E.bl, .int .i64 E.j] 23)) 43 #[.int .u8 kind, .int .u16 links, .int .u32 size, .int .u16 d0, .int .u16 d1, .int .u16 d2, .int .u16 d3, .int .u16 ind]
  rw [World.size_alloc] at hX
  have HX := Lib.hid (hX.alloc (.cells #[.int .u8 0, .int .u16 0, .int .u32 0, .int .u16 0, .int .u16 0, .int .u16 0, .int .u16 0, .int .u16 0] 43))
  have hY := SBox.new ((w.alloc (.cells #[.int .i64 E.i, .int .i64 E.bl, .int .i64 E.j] 23)).alloc (.cells #[.int .u8 kind, .int .u16 links, .int .u32 size, .int .u16 d0, .int .u16 d1, .int .u16 d2, .int .u16 d3, .int .u16 ind] 43)) 43 #[.int .u8 0, .int .u16 0, .int .u32 0, .int .u16 0, .int .u16 0, .int .u16 0, .int .u16 0, .int .u16 0]
  rw [World.size_alloc, World.size_alloc] at hY
  have HY := Lib.hid hY
  clear hX hY hi
  unfold geoV InoT.val at *
  match p, hp with
  | 0, _ =>
    go_enter Tryz.func117, Tryz.ntmps117
    go_wp2_with fail
    refine (MA.out _).mono ?_
    rintro e w1 ⟨rfl, b1⟩
    have hX := HX.out.later b1
    have hY := HY.out.later b1
    have HX1 := Lib.hid hX
    have HY1 := Lib.hid hY
    have B1 := Lib.hid (HB0.out.trans (b1.mono HB0.out.size))
    clear b1
    have X0 := hX.cell 0
    have X1 := hX.cell 1
    have X2 := hX.cell 2
    have X3 := hX.cell 3
    have X4 := hX.cell 4
    have X5 := hX.cell 5
    have X6 := hX.cell 6
    have X7 := hX.cell 7
    simp only [List.getElem?_toArray, List.getElem?_cons_zero, List.getElem?_cons_succ] at X0 X1 X2 X3 X4 X5 X6 X7
    have Xl := hX.lt
    have F0 := hX.free 0
    have F1 := hX.free 1
    have F2 := hX.free 2
    have F3 := hX.free 3
    have F4 := hX.free 4
    have F5 := hX.free 5
    have F6 := hX.free 6
    have F7 := hX.free 7
    have Y0 := hY.cell 0
    have Y1 := hY.cell 1
    have Y2 := hY.cell 2
    have Y3 := hY.cell 3
    have Y4 := hY.cell 4
    have Y5 := hY.cell 5
    have Y6 := hY.cell 6
    have Y7 := hY.cell 7
    simp only [List.getElem?_toArray, List.getElem?_cons_zero, List.getElem?_cons_succ] at Y0 Y1 Y2 Y3 Y4 Y5 Y6 Y7
    have Yl := hY.lt
    have J0 := hY.free 0
    have J1 := hY.free 1
    have J2 := hY.free 2
    have J3 := hY.free 3
    have J4 := hY.free 4
    have J5 := hY.free 5
    have J6 := hY.free 6
    have J7 := hY.free 7
    clear hX hY
    go_wp2
    have BB := fillI_below (n := w.heap.size + 1 + 1) (v0 := .int .u8 kind) (v1 := .int .u16 links) (v2 := .int .u32 size) (v3 := .int .u16 b) (v4 := .int .u16 d1) (v5 := .int .u16 d2) (v6 := .int .u16 d3) (v7 := .int .u16 ind) (B1.out.setCell (p := ⟨w.heap.size + 1, 3, none⟩) (by simp) (.int .u16 b)) (by omega)
    have h9 := fill8 (HY1.out.other (c := w.heap.size + 1) (i := 3) (.int .u16 b) (by omega)) (.int .u8 kind) (.int .u16 links) (.int .u32 size) (.int .u16 b) (.int .u16 d1) (.int .u16 d2) (.int .u16 d3) (.int .u16 ind)
    unfold fillI at h9
    have k0 := h9.cell 0
    have k1 := h9.cell 1
    have k2 := h9.cell 2
    have k3 := h9.cell 3
    have k4 := h9.cell 4
    have k5 := h9.cell 5
    have k6 := h9.cell 6
    have k7 := h9.cell 7
    simp only [List.getElem?_toArray, List.getElem?_cons_zero, List.getElem?_cons_succ] at k0 k1 k2 k3 k4 k5 k6 k7
    exact bodyPost_ret (v := .tuple #[.agg #[.int .u8 kind, .int .u16 links, .int .u32 size, .int .u16 b, .int .u16 d1, .int .u16 d2, .int .u16 d3, .int .u16 ind], .int .i64 0]) (by simp [results, Tryz.results117, go_sem, k0, k1, k2, k3, k4, k5, k6, k7]) rfl ⟨rfl, BB⟩
  | 1, _ =>
    go_enter Tryz.func117, Tryz.ntmps117
    go_wp2_with fail
    refine (MA.out _).mono ?_
    rintro e w1 ⟨rfl, b1⟩
    have hX := HX.out.later b1
    have hY := HY.out.later b1
    have HX1 := Lib.hid hX
    have HY1 := Lib.hid hY
    have B1 := Lib.hid (HB0.out.trans (b1.mono HB0.out.size))
    clear b1
    have X0 := hX.cell 0
    have X1 := hX.cell 1
    have X2 := hX.cell 2
    have X3 := hX.cell 3
    have X4 := hX.cell 4
    have X5 := hX.cell 5
    have X6 := hX.cell 6
    have X7 := hX.cell 7
    simp only [List.getElem?_toArray, List.getElem?_cons_zero, List.getElem?_cons_succ] at X0 X1 X2 X3 X4 X5 X6 X7
    have Xl := hX.lt
    have F0 := hX.free 0
    have F1 := hX.free 1
    have F2 := hX.free 2
    have F3 := hX.free 3
    have F4 := hX.free 4
    have F5 := hX.free 5
    have F6 := hX.free 6
    have F7 := hX.free 7
    have Y0 := hY.cell 0
    have Y1 := hY.cell 1
    have Y2 := hY.cell 2
    have Y3 := hY.cell 3
    have Y4 := hY.cell 4
    have Y5 := hY.cell 5
    have Y6 := hY.cell 6
    have Y7 := hY.cell 7
    simp only [List.getElem?_toArray, List.getElem?_cons_zero, List.getElem?_cons_succ] at Y0 Y1 Y2 Y3 Y4 Y5 Y6 Y7
    have Yl := hY.lt
    have J0 := hY.free 0
    have J1 := hY.free 1
    have J2 := hY.free 2
    have J3 := hY.free 3
    have J4 := hY.free 4
    have J5 := hY.free 5
    have J6 := hY.free 6
    have J7 := hY.free 7
    clear hX hY
    go_wp2
    have BB := fillI_below (n := w.heap.size + 1 + 1) (v0 := .int .u8 kind) (v1 := .int .u16 links) (v2 := .int .u32 size) (v3 := .int .u16 d0) (v4 := .int .u16 b) (v5 := .int .u16 d2) (v6 := .int .u16 d3) (v7 := .int .u16 ind) (B1.out.setCell (p := ⟨w.heap.size + 1, 4, none⟩) (by simp) (.int .u16 b)) (by omega)
    have h9 := fill8 (HY1.out.other (c := w.heap.size + 1) (i := 4) (.int .u16 b) (by omega)) (.int .u8 kind) (.int .u16 links) (.int .u32 size) (.int .u16 d0) (.int .u16 b) (.int .u16 d2) (.int .u16 d3) (.int .u16 ind)
    unfold fillI at h9
    have k0 := h9.cell 0
    have k1 := h9.cell 1
    have k2 := h9.cell 2
    have k3 := h9.cell 3
    have k4 := h9.cell 4
    have k5 := h9.cell 5
    have k6 := h9.cell 6
    have k7 := h9.cell 7
    simp only [List.getElem?_toArray, List.getElem?_cons_zero, List.getElem?_cons_succ] at k0 k1 k2 k3 k4 k5 k6 k7
    exact bodyPost_ret (v := .tuple #[.agg #[.int .u8 kind, .int .u16 links, .int .u32 size, .int .u16 d0, .int .u16 b, .int .u16 d2, .int .u16 d3, .int .u16 ind], .int .i64 0]) (by simp [results, Tryz.results117, go_sem, k0, k1, k2, k3, k4, k5, k6, k7]) rfl ⟨rfl, BB⟩
  | 2, _ =>
    go_enter Tryz.func117, Tryz.ntmps117
    go_wp2_with fail
    refine (MA.out _).mono ?_
    rintro e w1 ⟨rfl, b1⟩
    have hX := HX.out.later b1
    have hY := HY.out.later b1
    have HX1 := Lib.hid hX
    have HY1 := Lib.hid hY
    have B1 := Lib.hid (HB0.out.trans (b1.mono HB0.out.size))
    clear b1
    have X0 := hX.cell 0
    have X1 := hX.cell 1
    have X2 := hX.cell 2
    have X3 := hX.cell 3
    have X4 := hX.cell 4
    have X5 := hX.cell 5
    have X6 := hX.cell 6
    have X7 := hX.cell 7
    simp only [List.getElem?_toArray, List.getElem?_cons_zero, List.getElem?_cons_succ] at X0 X1 X2 X3 X4 X5 X6 X7
    have Xl := hX.lt
    have F0 := hX.free 0
    have F1 := hX.free 1
    have F2 := hX.free 2
    have F3 := hX.free 3
    have F4 := hX.free 4
    have F5 := hX.free 5
    have F6 := hX.free 6
    have F7 := hX.free 7
    have Y0 := hY.cell 0
    have Y1 := hY.cell 1
    have Y2 := hY.cell 2
    have Y3 := hY.cell 3
    have Y4 := hY.cell 4
    have Y5 := hY.cell 5
    have Y6 := hY.cell 6
    have Y7 := hY.cell 7
    simp only [List.getElem?_toArray, List.getElem?_cons_zero, List.getElem?_cons_succ] at Y0 Y1 Y2 Y3 Y4 Y5 Y6 Y7
    have Yl := hY.lt
    have J0 := hY.free 0
    have J1 := hY.free 1
    have J2 := hY.free 2
    have J3 := hY.free 3
    have J4 := hY.free 4
    have J5 := hY.free 5
    have J6 := hY.free 6
    have J7 := hY.free 7
    clear hX hY
    go_wp2
    have BB := fillI_below (n := w.heap.size + 1 + 1) (v0 := .int .u8 kind) (v1 := .int .u16 links) (v2 := .int .u32 size) (v3 := .int .u16 d0) (v4 := .int .u16 d1) (v5 := .int .u16 b) (v6 := .int .u16 d3) (v7 := .int .u16 ind) (B1.out.setCell (p := ⟨w.heap.size + 1, 5, none⟩) (by simp) (.int .u16 b)) (by omega)
    have h9 := fill8 (HY1.out.other (c := w.heap.size + 1) (i := 5) (.int .u16 b) (by omega)) (.int .u8 kind) (.int .u16 links) (.int .u32 size) (.int .u16 d0) (.int .u16 d1) (.int .u16 b) (.int .u16 d3) (.int .u16 ind)
    unfold fillI at h9
    have k0 := h9.cell 0
    have k1 := h9.cell 1
    have k2 := h9.cell 2
    have k3 := h9.cell 3
    have k4 := h9.cell 4
    have k5 := h9.cell 5
    have k6 := h9.cell 6
    have k7 := h9.cell 7
    simp only [List.getElem?_toArray, List.getElem?_cons_zero, List.getElem?_cons_succ] at k0 k1 k2 k3 k4 k5 k6 k7
    exact bodyPost_ret (v := .tuple #[.agg #[.int .u8 kind, .int .u16 links, .int .u32 size, .int .u16 d0, .int .u16 d1, .int .u16 b, .int .u16 d3, .int .u16 ind], .int .i64 0]) (by simp [results, Tryz.results117, go_sem, k0, k1, k2, k3, k4, k5, k6, k7]) rfl ⟨rfl, BB⟩
  | 3, _ =>
    go_enter Tryz.func117, Tryz.ntmps117
    go_wp2_with fail
    refine (MA.out _).mono ?_
    rintro e w1 ⟨rfl, b1⟩
    have hX := HX.out.later b1
    have hY := HY.out.later b1
    have HX1 := Lib.hid hX
    have HY1 := Lib.hid hY
    have B1 := Lib.hid (HB0.out.trans (b1.mono HB0.out.size))
    clear b1
    have X0 := hX.cell 0
    have X1 := hX.cell 1
    have X2 := hX.cell 2
    have X3 := hX.cell 3
    have X4 := hX.cell 4
    have X5 := hX.cell 5
    have X6 := hX.cell 6
    have X7 := hX.cell 7
    simp only [List.getElem?_toArray, List.getElem?_cons_zero, List.getElem?_cons_succ] at X0 X1 X2 X3 X4 X5 X6 X7
    have Xl := hX.lt
    have F0 := hX.free 0
    have F1 := hX.free 1
    have F2 := hX.free 2
    have F3 := hX.free 3
    have F4 := hX.free 4
    have F5 := hX.free 5
    have F6 := hX.free 6
    have F7 := hX.free 7
    have Y0 := hY.cell 0
    have Y1 := hY.cell 1
    have Y2 := hY.cell 2
    have Y3 := hY.cell 3
    have Y4 := hY.cell 4
    have Y5 := hY.cell 5
    have Y6 := hY.cell 6
    have Y7 := hY.cell 7
    simp only [List.getElem?_toArray, List.getElem?_cons_zero, List.getElem?_cons_succ] at Y0 Y1 Y2 Y3 Y4 Y5 Y6 Y7
    have Yl := hY.lt
    have J0 := hY.free 0
    have J1 := hY.free 1
    have J2 := hY.free 2
    have J3 := hY.free 3
    have J4 := hY.free 4
    have J5 := hY.free 5
    have J6 := hY.free 6
    have J7 := hY.free 7
    clear hX hY
    go_wp2
    have BB := fillI_below (n := w.heap.size + 1 + 1) (v0 := .int .u8 kind) (v1 := .int .u16 links) (v2 := .int .u32 size) (v3 := .int .u16 d0) (v4 := .int .u16 d1) (v5 := .int .u16 d2) (v6 := .int .u16 b) (v7 := .int .u16 ind) (B1.out.setCell (p := ⟨w.heap.size + 1, 6, none⟩) (by simp) (.int .u16 b)) (by omega)
    have h9 := fill8 (HY1.out.other (c := w.heap.size + 1) (i := 6) (.int .u16 b) (by omega)) (.int .u8 kind) (.int .u16 links) (.int .u32 size) (.int .u16 d0) (.int .u16 d1) (.int .u16 d2) (.int .u16 b) (.int .u16 ind)
    unfold fillI at h9
    have k0 := h9.cell 0
    have k1 := h9.cell 1
    have k2 := h9.cell 2
    have k3 := h9.cell 3
    have k4 := h9.cell 4
    have k5 := h9.cell 5
    have k6 := h9.cell 6
    have k7 := h9.cell 7
    simp only [List.getElem?_toArray, List.getElem?_cons_zero, List.getElem?_cons_succ] at k0 k1 k2 k3 k4 k5 k6 k7
    exact bodyPost_ret (v := .tuple #[.agg #[.int .u8 kind, .int .u16 links, .int .u32 size, .int .u16 d0, .int .u16 d1, .int .u16 d2, .int .u16 b, .int .u16 ind], .int .i64 0]) (by simp [results, Tryz.results117, go_sem, k0, k1, k2, k3, k4, k5, k6, k7]) rfl ⟨rfl, BB⟩
end
end Go.Proofs.YtpnfkilfgdnogaaGreatDoor.Bm
