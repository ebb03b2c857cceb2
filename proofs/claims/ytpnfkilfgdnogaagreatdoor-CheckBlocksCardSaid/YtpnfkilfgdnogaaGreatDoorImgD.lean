/- Layer 11 (image): change: a directory's text grown and its changed pages written, over the contracts of Resize and SetPage. -/
import Derived.Test.YtpnfkilfgdnogaaGreatDoorBmM
import Derived.Test.YtpnfkilfgdnogaaGreatDoorImgA
import Derived.Deep.Cut
import Derived.Deep.CutBlock
import Derived.Deep.CutRange
import Derived.BigRegion
section
namespace Go.Proofs.YtpnfkilfgdnogaaGreatDoor.Bm
set_option linter.unusedVariables false
set_option linter.unusedSimpArgs false
open Go.RowKit Go.Shelf Go.Maps Oct Dev Jou Tx Geo Ino Img
section
variable {E : Im} {D : Secs} {Z : Nat → Prop} {Q : Prop}
set_option maxRecDepth 100000 in
set_option maxHeartbeats 1000000 in
theorem begin_is (x : InoT) (b : Nat) (w : World) (hs : Small E) (h : IS w E D Z) (hi : InG E.bl x) (h1 : 1 ≤ b) (hb : b ≤ E.bl) (h0 : x.ind = 0) (hz : Z (dq E b)) (hQ : FullE E Z → Q) :
    Calls Tryz.prog 116 #[.pointer (some ⟨E.T.p, 0, none⟩), geoV E.i E.bl E.j, x.val, .int .u16 b] w (Out (.tuple #[({ x with ind := b } : InoT).val, .int .i64 0]) (.tuple #[noIno.val, .int .i64 4]) (Wr E (upd D (dq E b) (tellS [])) Z w) (Fu E Q w)) := by
  have hbl := hs.hb
  have MA := Lib.hid (fun W => may_ok E.i E.bl E.j b E.T.p x true W hs.may hi hb)
  have TL := Lib.hid (fun W (h : IS W E D Z) => tell_is { x with ind := b } [] (.slice none 0 0) W hs h h1 hb (by simp) (fun u hu => by cases hu) (.inl ⟨rfl, rfl⟩) hz hQ)
  obtain ⟨kind, links, size, d0, d1, d2, d3, ind⟩ := x
  simp only at h0 hz TL
  generalize upd D (dq E b) (tellS []) = D2 at *
  have HB0 := Lib.hid ((((Below.refl _ w).alloc (Nat.le_refl _) (.cells #[.int .i64 E.i, .int .i64 E.bl, .int .i64 E.j] 23)).alloc (by simp) (.cells #[.int .u8 kind, .int .u16 links, .int .u32 size, .int .u16 d0, .int .u16 d1, .int .u16 d2, .int .u16 d3, .int .u16 ind] 43)).alloc (by simp; omega) (.cells #[.int .u8 0, .int .u16 0, .int .u32 0, .int .u16 0, .int .u16 0, .int .u16 0, .int .u16 0, .int .u16 0] 43))
  have HG := Lib.hid (((SBox.new w 23 #[.int .i64 E.i, .int .i64 E.bl, .int .i64 E.j]).alloc (.cells #[.int .u8 kind, .int .u16 links, .int .u32 size, .int .u16 d0, .int .u16 d1, .int .u16 d2, .int .u16 d3, .int .u16 ind] 43)).alloc (.cells #[.int .u8 0, .int .u16 0, .int .u32 0, .int .u16 0, .int .u16 0, .int .u16 0, .int .u16 0, .int .u16 0] 43))
  have hX := SBox.new (w.alloc (.cells #[.int .i64 E.i, .int .i64 E.bl, .int .i64 E.j] 23)) 43 #[.int .u8 kind, .int .u16 links, .int .u32 size, .int .u16 d0, .int .u16 d1, .int .u16 d2, .int .u16 d3, .int .u16 ind]
  rw [World.size_alloc] at hX
  have HX := Lib.hid (hX.alloc (.cells #[.int .u8 0, .int .u16 0, .int .u32 0, .int .u16 0, .int .u16 0, .int .u16 0, .int .u16 0, .int .u16 0] 43))
  have hY := SBox.new ((w.alloc (.cells #[.int .i64 E.i, .int .i64 E.bl, .int .i64 E.j] 23)).alloc (.cells #[.int .u8 kind, .int .u16 links, .int .u32 size, .int .u16 d0, .int .u16 d1, .int .u16 d2, .int .u16 d3, .int .u16 ind] 43)) 43 #[.int .u8 0, .int .u16 0, .int .u32 0, .int .u16 0, .int .u16 0, .int .u16 0, .int .u16 0, .int .u16 0]
  rw [World.size_alloc, World.size_alloc] at hY
  have HY := Lib.hid hY
  have H0 := Lib.hid h
  clear hX hY hi h
  unfold geoV InoT.val at *
  have t1 : ((b : Int) != 0) = true := by simp; omega
  have t2 : ((ind : Int) == 0) = true := by simp; omega
  have t3 : decide ((ind : Int) = 0) = true := by simp; omega
  clear h0
  go_enter Tryz.func116, Tryz.ntmps116
  go_wp2_with fail
  refine (MA.out _).mono ?_
  rintro e w1 ⟨rfl, b1⟩
  have HG1 := Lib.hid (HG.out.later b1)
  have HX1 := Lib.hid (HX.out.later b1)
  have HY1 := Lib.hid (HY.out.later b1)
  have B1 := Lib.hid ((HB0.out.trans (b1.mono HB0.out.size)).setCell (p := ⟨w.heap.size + 1, 7, none⟩) (by show w.heap.size ≤ w.heap.size + 1; omega) (.int .u16 b))
  have H1 := Lib.hid (H0.out.later B1.out)
  have HG2 := Lib.hid (HG1.out.other (c := w.heap.size + 1) (i := 7) (.int .u16 b) (by omega))
  have HX2 := Lib.hid (HX1.out.set 7 (.int .u16 b))
  have HY2 := Lib.hid (HY1.out.other (c := w.heap.size + 1) (i := 7) (.int .u16 b) (by omega))
  have hX := HX1.out
  have hG := HG1.out
  clear b1
  have X0 := hX.cell 0
  have X1 := hX.cell 1
  have X2 := hX.cell 2
  have X3 := hX.cell 3
  have X4 := hX.cell 4
  have X5 := hX.cell 5
  have X6 := hX.cell 6
  have X7 := hX.cell 7
  simp only [List.getElem?_toArray, List.getElem?_cons_zero, List.getElem?_cons_succ] at X0 X1 X2 X3 X4 X5 X6 X7
  have Xl := hX.lt
  have I0 := hX.free 0
  have I1 := hX.free 1
  have I2 := hX.free 2
  have I3 := hX.free 3
  have I4 := hX.free 4
  have I5 := hX.free 5
  have I6 := hX.free 6
  have I7 := hX.free 7
  have G0 := hG.cell 0
  have G1 := hG.cell 1
  have G2 := hG.cell 2
  simp only [List.getElem?_toArray, List.getElem?_cons_zero, List.getElem?_cons_succ] at G0 G1 G2
  have Gl := hG.lt
  clear hX hG
  go_wp2_with fail
  refine (TL.out _ H1.out).mono ?_
  rintro e w4 (⟨rfl, GW⟩ | ⟨rfl, GW⟩)
  · have hTm : E.T.m < w.heap.size := by
      obtain ⟨f, nn, g1, _⟩ := H0.out
      exact g1.tj.tx.map.lt
    have hX : SBox w4 (w.heap.size + 1) 43 #[.int .u8 kind, .int .u16 links, .int .u32 size, .int .u16 d0, .int .u16 d1, .int .u16 d2, .int .u16 d3, .int .u16 b] := (GW.2.block _ HX2.out.lt (by omega)).trans HX2.out
    have hY : SBox w4 (w.heap.size + 1 + 1) 43 #[.int .u8 0, .int .u16 0, .int .u32 0, .int .u16 0, .int .u16 0, .int .u16 0, .int .u16 0, .int .u16 0] := (GW.2.block _ HY2.out.lt (by omega)).trans HY2.out
    have HY4 := Lib.hid hY
    have HW4 := Lib.hid (GW.pre (w0 := w) B1.out)
    clear GW X0 X1 X2 X3 X4 X5 X6 X7 Xl G0 G1 G2 Gl I0 I1 I2 I3 I4 I5 I6 I7
    have X0 := hX.cell 0
    have X1 := hX.cell 1
    have X2 := hX.cell 2
    have X3 := hX.cell 3
    have X4 := hX.cell 4
    have X5 := hX.cell 5
    have X6 := hX.cell 6
    have X7 := hX.cell 7
    simp only [List.getElem?_toArray, List.getElem?_cons_zero, List.getElem?_cons_succ] at X0 X1 X2 X3 X4 X5 X6 X7
    have Xl := hX.lt
    have Y0 := hY.cell 0
    have Y1 := hY.cell 1
    have Y2 := hY.cell 2
    have Y3 := hY.cell 3
    have Y4 := hY.cell 4
    have Y5 := hY.cell 5
    have Y6 := hY.cell 6
    have Y7 := hY.cell 7
    simp only [List.getElem?_toArray, List.getElem?_cons_zero, List.getElem?_cons_succ] at Y0 Y1 Y2 Y3 Y4 Y5 Y6 Y7
    have Yl := hY.lt
    have J0 := hY.free 0
    have J1 := hY.free 1
    have J2 := hY.free 2
    have J3 := hY.free 3
    have J4 := hY.free 4
    have J5 := hY.free 5
    have J6 := hY.free 6
    have J7 := hY.free 7
    clear hX hY
    go_wp2
    have BB := fillI_below (n := w.heap.size + 1 + 1) (v0 := .int .u8 kind) (v1 := .int .u16 links) (v2 := .int .u32 size) (v3 := .int .u16 d0) (v4 := .int .u16 d1) (v5 := .int .u16 d2) (v6 := .int .u16 d3) (v7 := .int .u16 b) (Below.refl w.heap.size w4) (by omega)
    have h9 := fill8 (HY4.out) (.int .u8 kind) (.int .u16 links) (.int .u32 size) (.int .u16 d0) (.int .u16 d1) (.int .u16 d2) (.int .u16 d3) (.int .u16 b)
    unfold fillI at h9
    have k0 := h9.cell 0
    have k1 := h9.cell 1
    have k2 := h9.cell 2
    have k3 := h9.cell 3
    have k4 := h9.cell 4
    have k5 := h9.cell 5
    have k6 := h9.cell 6
    have k7 := h9.cell 7
    simp only [List.getElem?_toArray, List.getElem?_cons_zero, List.getElem?_cons_succ] at k0 k1 k2 k3 k4 k5 k6 k7
    exact bodyPost_ret (v := .tuple #[.agg #[.int .u8 kind, .int .u16 links, .int .u32 size, .int .u16 d0, .int .u16 d1, .int .u16 d2, .int .u16 d3, .int .u16 b], .int .i64 0]) (by simp [results, Tryz.results116, go_sem, k0, k1, k2, k3, k4, k5, k6, k7]) rfl (.inl ⟨rfl, Wr.via H0.out HW4.out BB⟩)
  · have hTm : E.T.m < w.heap.size := by
      obtain ⟨f, nn, g1, _⟩ := H0.out
      exact g1.tj.tx.map.lt
    have hY : SBox w4 (w.heap.size + 1 + 1) 43 #[.int .u8 0, .int .u16 0, .int .u32 0, .int .u16 0, .int .u16 0, .int .u16 0, .int .u16 0, .int .u16 0] := (GW.2.block _ HY2.out.lt (by omega)).trans HY2.out
    have HY4 := Lib.hid hY
    have HW4 := Lib.hid (GW.pre (w0 := w) B1.out)
    clear GW X0 X1 X2 X3 X4 X5 X6 X7 Xl G0 G1 G2 Gl I0 I1 I2 I3 I4 I5 I6 I7
    have Y0 := hY.cell 0
    have Y1 := hY.cell 1
    have Y2 := hY.cell 2
    have Y3 := hY.cell 3
    have Y4 := hY.cell 4
    have Y5 := hY.cell 5
    have Y6 := hY.cell 6
    have Y7 := hY.cell 7
    simp only [List.getElem?_toArray, List.getElem?_cons_zero, List.getElem?_cons_succ] at Y0 Y1 Y2 Y3 Y4 Y5 Y6 Y7
    have Yl := hY.lt
    have J0 := hY.free 0
    have J1 := hY.free 1
    have J2 := hY.free 2
    have J3 := hY.free 3
    have J4 := hY.free 4
    have J5 := hY.free 5
    have J6 := hY.free 6
    have J7 := hY.free 7
    clear hY
    go_wp2
    have BB := fillI_below (n := w.heap.size + 1 + 1) (v0 := .int .u8 0) (v1 := .int .u16 0) (v2 := .int .u32 0) (v3 := .int .u16 0) (v4 := .int .u16 0) (v5 := .int .u16 0) (v6 := .int .u16 0) (v7 := .int .u16 0) (Below.refl w.heap.size w4) (by omega)
    have h9 := fill8 (HY4.out) (.int .u8 0) (.int .u16 0) (.int .u32 0) (.int .u16 0) (.int .u16 0) (.int .u16 0) (.int .u16 0) (.int .u16 0)
    unfold fillI at h9
    have k0 := h9.cell 0
    have k1 := h9.cell 1
    have k2 := h9.cell 2
    have k3 := h9.cell 3
    have k4 := h9.cell 4
    have k5 := h9.cell 5
    have k6 := h9.cell 6
    have k7 := h9.cell 7
    simp only [List.getElem?_toArray, List.getElem?_cons_zero, List.getElem?_cons_succ] at k0 k1 k2 k3 k4 k5 k6 k7
    exact bodyPost_ret (v := .tuple #[.agg #[.int .u8 0, .int .u16 0, .int .u32 0, .int .u16 0, .int .u16 0, .int .u16 0, .int .u16 0, .int .u16 0], .int .i64 4]) (by simp [results, Tryz.results116, go_sem, k0, k1, k2, k3, k4, k5, k6, k7]) rfl (.inr ⟨rfl, Fu.via HW4.out BB⟩)
end
end Go.Proofs.YtpnfkilfgdnogaaGreatDoor.Bm
end
section
namespace Go.Proofs.YtpnfkilfgdnogaaGreatDoor.Img
set_option linter.unusedVariables false
set_option linter.unusedSimpArgs false
open Go.RowKit Go.Shelf Go.Maps Oct Dev Jou Tx Geo Ino Bm
section
variable {E : Im} {D : Secs} {Z : Nat → Prop} {Q : Prop}
theorem SBox.tch_keep {W W' : World} {m b : Nat} {t : TypeId} {cs : Array Value} (h : SBox W b t cs) (hT : Tch (fun c => c = m) W W') (hb : b ≠ m) : SBox W' b t cs := (hT.block _ h.lt hb).trans h
theorem set_num (x : InoT) (vs : List Nat) (p b : Nat) (w : World) (hs : Small E) (h : IS w E D Z) (hi : InG E.bl x) (hv : IndIs E D x.ind vs) (hb : b ≤ E.bl) (h1 : 1 ≤ x.ind) (h4 : 4 ≤ p) (hp : p < 36) (hz : Z (dq E x.ind)) (hQ : FullE E Z → Q) :
    Calls Tryz.prog 117 #[.pointer (some ⟨E.T.p, 0, none⟩), geoV E.i E.bl E.j, x.val, .int .i64 p, .int .u16 b] w fun e w' => ∃ a0 a1 a2 a3 a4 a5 a6 a7 c : Nat, e = .returned (.tuple #[.agg #[.int .u8 a0, .int .u16 a1, .int .u32 a2, .int .u16 a3, .int .u16 a4, .int .u16 a5, .int .u16 a6, .int .u16 a7], .int .i64 c]) ∧ Tch (fun c => c = E.T.m) w w' ∧
      ((c = 0 ∧ x = ⟨a0, a1, a2, a3, a4, a5, a6, a7⟩ ∧ Wr E (upd D (dq E x.ind) (tellS (vs.set (p - 4) b))) Z w w') ∨ (c = 4 ∧ Fu E Q w w')) := by
  refine (set_hi x vs p b w hs h hi hv hb h1 h4 hp hz hQ).mono ?_
  rintro e w' (⟨rfl, hw⟩ | ⟨rfl, hf⟩)
  · obtain ⟨k, l, s, d0, d1, d2, d3, n⟩ := x
    exact ⟨k, l, s, d0, d1, d2, d3, n, 0, rfl, hw.2, .inl ⟨rfl, rfl, hw⟩⟩
  · exact ⟨0, 0, 0, 0, 0, 0, 0, 0, 4, rfl, hf.2, .inr ⟨rfl, hf⟩⟩
theorem home_end {D0 D3 : Secs} {w V W : World} {x : InoT} {b c a0 a1 a2 a3 a4 a5 a6 a7 : Nat} (h0 : IS w E D0 Z) (hc : (c = 0 ∧ x = ⟨a0, a1, a2, a3, a4, a5, a6, a7⟩ ∧ Wr E D3 Z w V) ∨ (c = 4 ∧ Fu E Q w V)) (hb : Below w.heap.size V W) :
    HomePost E D3 Z Q x b w (.returned (.tuple #[.agg #[.int .u8 a0, .int .u16 a1, .int .u32 a2, .int .u16 a3, .int .u16 a4, .int .u16 a5, .int .u16 a6, .int .u16 a7], .int .u16 b, .int .i64 c])) W := by
  rcases hc with ⟨rfl, rfl, hw⟩ | ⟨rfl, hf⟩
  · exact .inl ⟨rfl, Wr.via h0 hw hb⟩
  · exact .inr ⟨⟨_, _, rfl, ⟨a0, a1, a2, a3, a4, a5, a6, a7⟩, rfl⟩, Fu.via hf hb⟩
set_option maxRecDepth 100000 in
set_option maxHeartbeats 4000000 in
theorem home_hi (p b : Nat) (x : InoT) (vs : List Nat) (w : World) (hs : Small E) (h : IS w E D Z) (hi : InG E.bl x) (hv : IndIs E D x.ind vs) (hv2 : IndIs E (blkD E D b) x.ind vs) (h4 : 4 ≤ p) (hp : p < 36) (hn : 1 ≤ x.ind) (hzn : Z (dq E x.ind)) (hb : pageB x vs p = 0) (hL : leastB (D (fr E 3)) (E.bl + 1 : Nat) false = (b, true)) (hb1 : 1 ≤ b) (hb2 : b ≤ E.bl) (hz3 : Z (fr E 3)) (hz : Z (dq E b)) (hQ : FullE E Z → Q) :
    Calls Tryz.prog 67 #[.pointer (some ⟨E.M, 0, none⟩), x.val, .int .i64 p] w (HomePost E (upd (blkD E D b) (dq E x.ind) (tellS (vs.set (p - 4) b))) Z Q x b w) := by
  have GE := Lib.hid (fun W (h : IS W E D Z) => get_is x vs p W hs h hi hv hp)
  have BK := Lib.hid (fun W (h : IS W E D Z) => block_is b W hs h hL hb1 hb2 hz3 hz hQ)
  have SL := Lib.hid (fun W (h : IS W E (blkD E D b) Z) => set_num x vs p b W hs h hi hv2 hb2 hn h4 hp hzn hQ)
  have ND := needs_any x p
  have hnd : (decide (4 ≤ p) && decide (x.ind = 0)) = false := by simp; omega
  have ND := Lib.hid (fun W => ND W hp)
  rw [hnd] at ND
  rw [hb] at GE
  have H := Lib.hid h
  have hTm := mx_lt h
  clear h hi hv hv2 hnd hL hz3 hz hQ hb
  generalize upd (blkD E D b) (dq E x.ind) (tellS (vs.set (p - 4) b)) = D3 at *
  generalize blkD E D b = D2 at *
  clear hzn hn
  obtain ⟨kind, links, size, d0, d1, d2, d3, ind⟩ := x
  have HB0 := Lib.hid (((Below.refl _ w).alloc (Nat.le_refl _) (.cells #[.int .u8 kind, .int .u16 links, .int .u32 size, .int .u16 d0, .int .u16 d1, .int .u16 d2, .int .u16 d3, .int .u16 ind] 43)).alloc (by simp) (.cells #[.int .u8 0, .int .u16 0, .int .u32 0, .int .u16 0, .int .u16 0, .int .u16 0, .int .u16 0, .int .u16 0] 43))
  have HX := Lib.hid ((SBox.new w 43 #[.int .u8 kind, .int .u16 links, .int .u32 size, .int .u16 d0, .int .u16 d1, .int .u16 d2, .int .u16 d3, .int .u16 ind]).alloc (.cells #[.int .u8 0, .int .u16 0, .int .u32 0, .int .u16 0, .int .u16 0, .int .u16 0, .int .u16 0, .int .u16 0] 43))
  have hY := SBox.new (w.alloc (.cells #[.int .u8 kind, .int .u16 links, .int .u32 size, .int .u16 d0, .int .u16 d1, .int .u16 d2, .int .u16 d3, .int .u16 ind] 43)) 43 #[.int .u8 0, .int .u16 0, .int .u32 0, .int .u16 0, .int .u16 0, .int .u16 0, .int .u16 0, .int .u16 0]
  rw [World.size_alloc] at hY
  have HY := Lib.hid hY
  have H1 := Lib.hid (H.out.later HB0.out)
  clear hY
  unfold geoV InoT.val at *
  go_enter Tryz.func67, Tryz.ntmps67
  go_wp2_with fail
  refine (ND.out _).mono ?_
  rintro e w1 ⟨rfl, b1⟩
  have B1 := Lib.hid (HB0.out.trans (b1.mono HB0.out.size))
  have H2 := Lib.hid (H1.out.later b1)
  have HY1 := Lib.hid (HY.out.later b1)
  have HX1 := Lib.hid (HX.out.later b1)
  have hX := HX1.out
  have hM := H2.out.img
  clear b1
  have X0 := hX.cell 0
  have X1 := hX.cell 1
  have X2 := hX.cell 2
  have X3 := hX.cell 3
  have X4 := hX.cell 4
  have X5 := hX.cell 5
  have X6 := hX.cell 6
  have X7 := hX.cell 7
  simp only [List.getElem?_toArray, List.getElem?_cons_zero, List.getElem?_cons_succ] at X0 X1 X2 X3 X4 X5 X6 X7
  have Xl := hX.lt
  have M0 := hM.cell 0
  have M1 := hM.cell 1
  have M2 := hM.cell 2
  have M3 := hM.cell 3
  simp only [List.getElem?_toArray, List.getElem?_cons_zero, List.getElem?_cons_succ] at M0 M1 M2 M3
  have Ml := hM.lt
  clear hX hM
  go_wp2_with fail
  go_region_held3 (fun W => W.cell? ⟨E.M, 0, none⟩ = some (.pointer (some ⟨E.T.p, 0, none⟩)) ∧ W.cell? ⟨E.M, 1, none⟩ = some (.int .i64 E.i) ∧ W.cell? ⟨E.M, 2, none⟩ = some (.int .i64 E.bl) ∧ W.cell? ⟨E.M, 3, none⟩ = some (.int .i64 E.j) ∧ W.cell? ⟨w.heap.size, 0, none⟩ = some (.int .u8 kind) ∧ W.cell? ⟨w.heap.size, 1, none⟩ = some (.int .u16 links) ∧ W.cell? ⟨w.heap.size, 2, none⟩ = some (.int .u32 size) ∧ W.cell? ⟨w.heap.size, 3, none⟩ = some (.int .u16 d0) ∧ W.cell? ⟨w.heap.size, 4, none⟩ = some (.int .u16 d1) ∧ W.cell? ⟨w.heap.size, 5, none⟩ = some (.int .u16 d2) ∧ W.cell? ⟨w.heap.size, 6, none⟩ = some (.int .u16 d3) ∧ W.cell? ⟨w.heap.size, 7, none⟩ = some (.int .u16 ind) ∧ KeepF w1 W)
    (first | exact keepMX Ml Xl (by assumption) (by assumption) | exact ⟨M0, M1, M2, M3, X0, X1, X2, X3, X4, X5, X6, X7, (Below.refl _ _).drew⟩ | exact ⟨M0, M1, M2, M3, X0, X1, X2, X3, X4, X5, X6, X7, Below.refl _ _⟩)
    (first | (go_at_call 75; refine (GE.out _ (H2.out.later (keepMX_get (by assumption)))).mono ?_; rintro e w9 ⟨rfl, b9⟩))
  rename_i hS
  have hb9 := keepMX_get hS
  have HX9 := Lib.hid (HX1.out.later hb9)
  have HY9 := Lib.hid (HY1.out.later hb9)
  have B9 := Lib.hid (B1.out.trans (hb9.mono B1.out.size))
  have H9 := Lib.hid (H2.out.later hb9)
  clear hS hb9 M0 M1 M2 M3 Ml X0 X1 X2 X3 X4 X5 X6 X7 Xl
  go_wp2_with fail
  refine (BK.out _ H9.out).mono ?_
  rintro e w2 (⟨rfl, GW⟩ | ⟨rfl, GW⟩)
  · have HX2 := Lib.hid (show SBox w2 w.heap.size 43 _ from (GW.2.block _ HX9.out.lt (by omega)).trans HX9.out)
    have HY2 := Lib.hid (show SBox w2 (w.heap.size + 1) 43 _ from (GW.2.block _ HY9.out.lt (by omega)).trans HY9.out)
    have HW2 := Lib.hid (GW.pre (w0 := w) B9.out)
    have hX := HX2.out
    have hM := HW2.out.1.img
    have HX4 := Lib.hid (SBox.drew HX2.out)
    have HY4 := Lib.hid (SBox.drew HY2.out)
    have HW4 := Lib.hid (HW2.out.post (Below.refl w2.heap.size w2).drew)
    clear GW
    have X0 := hX.cell 0
    have X1 := hX.cell 1
    have X2 := hX.cell 2
    have X3 := hX.cell 3
    have X4 := hX.cell 4
    have X5 := hX.cell 5
    have X6 := hX.cell 6
    have X7 := hX.cell 7
    simp only [List.getElem?_toArray, List.getElem?_cons_zero, List.getElem?_cons_succ] at X0 X1 X2 X3 X4 X5 X6 X7
    have Xl := hX.lt
    have M0 := hM.cell 0
    have M1 := hM.cell 1
    have M2 := hM.cell 2
    have M3 := hM.cell 3
    simp only [List.getElem?_toArray, List.getElem?_cons_zero, List.getElem?_cons_succ] at M0 M1 M2 M3
    have Ml := hM.lt
    clear hX hM
    go_wp2_with fail
    go_region_law (go_simp; refine (SL.out _ HW4.out.1).mono ?_; rintro e w5 ⟨a0, a1, a2, a3, a4, a5, a6, a7, c, rfl, ht, hc⟩; have HX5 := SBox.tch_keep HX4.out ht (by omega); have HY5 := Lib.hid (SBox.tch_keep HY4.out ht (by omega)); have HC5 := Lib.hid (hc.imp (fun q => And.imp_right (And.imp_right (fun g => Wr.then_ g HW4.out)) q) (And.imp_right (fun g => Fu.then_ g HW4.out))); have hY := HY5.out; have P0 := HX5.cell 0; have P1 := HX5.cell 1; have P2 := HX5.cell 2; have P3 := HX5.cell 3; have P4 := HX5.cell 4; have P5 := HX5.cell 5; have P6 := HX5.cell 6; have P7 := HX5.cell 7; have F0 := HX5.free 0; have F1 := HX5.free 1; have F2 := HX5.free 2; have F3 := HX5.free 3; have F4 := HX5.free 4; have F5 := HX5.free 5; have F6 := HX5.free 6; have F7 := HX5.free 7; have Pl := HX5.lt; have Y0 := hY.cell 0; have Y1 := hY.cell 1; have Y2 := hY.cell 2; have Y3 := hY.cell 3; have Y4 := hY.cell 4; have Y5 := hY.cell 5; have Y6 := hY.cell 6; have Y7 := hY.cell 7; have J0 := hY.free 0; have J1 := hY.free 1; have J2 := hY.free 2; have J3 := hY.free 3; have J4 := hY.free 4; have J5 := hY.free 5; have J6 := hY.free 6; have J7 := hY.free 7; have Yl := hY.lt; simp only [List.getElem?_toArray, List.getElem?_cons_zero, List.getElem?_cons_succ] at P0 P1 P2 P3 P4 P5 P6 P7 Y0 Y1 Y2 Y3 Y4 Y5 Y6 Y7; clear hY hc ht)
    all_goals
      go_wp2
      have BB := fillI_below (n := w.heap.size + 1) (v0 := .int .u8 a0) (v1 := .int .u16 a1) (v2 := .int .u32 a2) (v3 := .int .u16 a3) (v4 := .int .u16 a4) (v5 := .int .u16 a5) (v6 := .int .u16 a6) (v7 := .int .u16 a7) (fillI_below (n := w.heap.size) (v0 := .int .u8 a0) (v1 := .int .u16 a1) (v2 := .int .u32 a2) (v3 := .int .u16 a3) (v4 := .int .u16 a4) (v5 := .int .u16 a5) (v6 := .int .u16 a6) (v7 := .int .u16 a7) (Below.refl w.heap.size w5) (by omega)) (by omega)
      have h9 := fill8 (fillI_other (n := w.heap.size) (v0 := .int .u8 a0) (v1 := .int .u16 a1) (v2 := .int .u32 a2) (v3 := .int .u16 a3) (v4 := .int .u16 a4) (v5 := .int .u16 a5) (v6 := .int .u16 a6) (v7 := .int .u16 a7) HY5.out (by omega)) (.int .u8 a0) (.int .u16 a1) (.int .u32 a2) (.int .u16 a3) (.int .u16 a4) (.int .u16 a5) (.int .u16 a6) (.int .u16 a7)
      unfold fillI at h9
      have k0 := h9.cell 0
      have k1 := h9.cell 1
      have k2 := h9.cell 2
      have k3 := h9.cell 3
      have k4 := h9.cell 4
      have k5 := h9.cell 5
      have k6 := h9.cell 6
      have k7 := h9.cell 7
      simp only [List.getElem?_toArray, List.getElem?_cons_zero, List.getElem?_cons_succ] at k0 k1 k2 k3 k4 k5 k6 k7
      exact bodyPost_ret (v := .tuple #[.agg #[.int .u8 a0, .int .u16 a1, .int .u32 a2, .int .u16 a3, .int .u16 a4, .int .u16 a5, .int .u16 a6, .int .u16 a7], .int .u16 b, .int .i64 c]) (by simp [results, Tryz.results67, go_sem, k0, k1, k2, k3, k4, k5, k6, k7]) rfl (home_end H.out HC5.out BB)
  · have HX2 := (show SBox w2 w.heap.size 43 _ from (GW.2.block _ HX9.out.lt (by omega)).trans HX9.out)
    have HY2 := (show SBox w2 (w.heap.size + 1) 43 _ from (GW.2.block _ HY9.out.lt (by omega)).trans HY9.out)
    have HW2 := Lib.hid (GW.pre (w0 := w) B9.out)
    have HY3 := Lib.hid HY2
    clear GW
    have X0 := HX2.cell 0
    have X1 := HX2.cell 1
    have X2 := HX2.cell 2
    have X3 := HX2.cell 3
    have X4 := HX2.cell 4
    have X5 := HX2.cell 5
    have X6 := HX2.cell 6
    have X7 := HX2.cell 7
    simp only [List.getElem?_toArray, List.getElem?_cons_zero, List.getElem?_cons_succ] at X0 X1 X2 X3 X4 X5 X6 X7
    have Xl := HX2.lt
    have Y0 := HY2.cell 0
    have Y1 := HY2.cell 1
    have Y2 := HY2.cell 2
    have Y3 := HY2.cell 3
    have Y4 := HY2.cell 4
    have Y5 := HY2.cell 5
    have Y6 := HY2.cell 6
    have Y7 := HY2.cell 7
    simp only [List.getElem?_toArray, List.getElem?_cons_zero, List.getElem?_cons_succ] at Y0 Y1 Y2 Y3 Y4 Y5 Y6 Y7
    have Yl := HY2.lt
    have J0 := HY2.free 0
    have J1 := HY2.free 1
    have J2 := HY2.free 2
    have J3 := HY2.free 3
    have J4 := HY2.free 4
    have J5 := HY2.free 5
    have J6 := HY2.free 6
    have J7 := HY2.free 7
    clear HX2 HY2
    go_wp2
    have BB := fillI_below (n := w.heap.size + 1) (v0 := .int .u8 kind) (v1 := .int .u16 links) (v2 := .int .u32 size) (v3 := .int .u16 d0) (v4 := .int .u16 d1) (v5 := .int .u16 d2) (v6 := .int .u16 d3) (v7 := .int .u16 ind) (Below.refl w.heap.size w2) (by omega)
    have h9 := fill8 (HY3.out) (.int .u8 kind) (.int .u16 links) (.int .u32 size) (.int .u16 d0) (.int .u16 d1) (.int .u16 d2) (.int .u16 d3) (.int .u16 ind)
    unfold fillI at h9
    have k0 := h9.cell 0
    have k1 := h9.cell 1
    have k2 := h9.cell 2
    have k3 := h9.cell 3
    have k4 := h9.cell 4
    have k5 := h9.cell 5
    have k6 := h9.cell 6
    have k7 := h9.cell 7
    simp only [List.getElem?_toArray, List.getElem?_cons_zero, List.getElem?_cons_succ] at k0 k1 k2 k3 k4 k5 k6 k7
    exact bodyPost_ret (v := .tuple #[.agg #[.int .u8 kind, .int .u16 links, .int .u32 size, .int .u16 d0, .int .u16 d1, .int .u16 d2, .int .u16 d3, .int .u16 ind], .int .u16 0, .int .i64 4]) (by simp [results, Tryz.results67, go_sem, k0, k1, k2, k3, k4, k5, k6, k7]) rfl (.inr ⟨⟨_, _, rfl, ⟨kind, links, size, d0, d1, d2, d3, ind⟩, rfl⟩, Fu.via HW2.out BB⟩)
end
end Go.Proofs.YtpnfkilfgdnogaaGreatDoor.Img
end
section
namespace Go.Proofs.YtpnfkilfgdnogaaGreatDoor.Img
set_option linter.unusedVariables false
set_option linter.unusedSimpArgs false
open Go.RowKit Go.Shelf Go.Maps Oct Dev Jou Tx Geo Ino Bm
section
variable {E : Im} {D : Secs} {Z : Nat → Prop} {Q : Prop}
theorem begin_num (x : InoT) (b : Nat) (w : World) (hs : Small E) (h : IS w E D Z) (hi : InG E.bl x) (h1 : 1 ≤ b) (hb : b ≤ E.bl) (h0 : x.ind = 0) (hz : Z (dq E b)) (hQ : FullE E Z → Q) :
    Calls Tryz.prog 116 #[.pointer (some ⟨E.T.p, 0, none⟩), geoV E.i E.bl E.j, x.val, .int .u16 b] w fun e w' => ∃ a0 a1 a2 a3 a4 a5 a6 a7 c : Nat, e = .returned (.tuple #[.agg #[.int .u8 a0, .int .u16 a1, .int .u32 a2, .int .u16 a3, .int .u16 a4, .int .u16 a5, .int .u16 a6, .int .u16 a7], .int .i64 c]) ∧ Tch (fun c => c = E.T.m) w w' ∧
      ((c = 0 ∧ ({ x with ind := b } : InoT) = ⟨a0, a1, a2, a3, a4, a5, a6, a7⟩ ∧ Wr E (upd D (dq E b) (tellS [])) Z w w') ∨ (c = 4 ∧ Fu E Q w w')) := by
  refine (begin_is x b w hs h hi h1 hb h0 hz hQ).mono ?_
  rintro e w' (⟨rfl, hw⟩ | ⟨rfl, hf⟩)
  · obtain ⟨k, l, s, d0, d1, d2, d3, n⟩ := x
    exact ⟨k, l, s, d0, d1, d2, d3, b, 0, rfl, hw.2, .inl ⟨rfl, rfl, hw⟩⟩
  · exact ⟨0, 0, 0, 0, 0, 0, 0, 0, 4, rfl, hf.2, .inr ⟨rfl, hf⟩⟩
theorem begin_meet {D0 D2 : Secs} {w w6 W7 : World} {X Y : Nat} {xx : InoT} {c a0 a1 a2 a3 a4 a5 a6 a7 : Nat} {v0 v1 v2 v3 v4 v5 v6 v7 : Value} {ys : Array Value} (h0 : IS w E D0 Z) (hX : SBox w6 X 43 #[v0, v1, v2, v3, v4, v5, v6, v7]) (hY : SBox w6 Y 43 ys) (hXY : X ≠ Y) (hXw : w.heap.size ≤ X)
    (hc : (c = 0 ∧ xx = ⟨a0, a1, a2, a3, a4, a5, a6, a7⟩ ∧ Wr E D2 Z w w6) ∨ (c = 4 ∧ Fu E Q w w6)) (h7 : fillI w6 X (.int .u8 a0) (.int .u16 a1) (.int .u32 a2) (.int .u16 a3) (.int .u16 a4) (.int .u16 a5) (.int .u16 a6) (.int .u16 a7) = W7) :
    ∃ (y : InoT) (c' : Nat), Value.int .i64 c = .int .i64 c' ∧ SBox W7 X 43 y.cells ∧ SBox W7 Y 43 ys ∧ ((c' = 0 ∧ y = xx ∧ Wr E D2 Z w W7) ∨ (c' = 4 ∧ Fu E Q w W7)) := by
  have hb : Below w.heap.size w6 W7 := by
    rw [← h7]
    exact fillI_below (Below.refl _ _) hXw
  refine ⟨⟨a0, a1, a2, a3, a4, a5, a6, a7⟩, c, rfl, by rw [← h7]; exact fill8 hX _ _ _ _ _ _ _ _, by rw [← h7]; exact fillI_other hY hXY, ?_⟩
  rcases hc with ⟨e, g1, g2⟩ | ⟨e, g⟩
  · exact .inl ⟨e, g1.symm, Wr.via h0 g2 hb⟩
  · exact .inr ⟨e, Fu.via g hb⟩
set_option maxRecDepth 100000 in
set_option maxHeartbeats 4000000 in
theorem home_new (p ind b : Nat) (x : InoT) (w : World) (D2 : Secs) (hs : Small E) (h : IS w E D Z) (hi : InG E.bl x) (h0 : x.ind = 0) (h4 : 4 ≤ p) (hp : p < 36) (hL1 : leastB (D (fr E 3)) (E.bl + 1 : Nat) false = (ind, true)) (hn1 : 1 ≤ ind) (hn2 : ind ≤ E.bl) (hD2 : upd (blkD E D ind) (dq E ind) (tellS []) = D2)
    (hv1 : IndIs E D2 ind (List.replicate 32 0)) (hv2 : IndIs E (blkD E D2 b) ind (List.replicate 32 0)) (hL2 : leastB (D2 (fr E 3)) (E.bl + 1 : Nat) false = (b, true)) (hb1 : 1 ≤ b) (hb2 : b ≤ E.bl) (hz3 : Z (fr E 3)) (hzn : Z (dq E ind)) (hz : Z (dq E b)) (hQ : FullE E Z → Q) :
    Calls Tryz.prog 67 #[.pointer (some ⟨E.M, 0, none⟩), x.val, .int .i64 p] w (HomePost E (upd (blkD E D2 b) (dq E ind) (tellS ((List.replicate 32 0).set (p - 4) b))) Z Q { x with ind := ind } b w) := by
  have hi1 : InG E.bl { x with ind := ind } := ⟨hi.1, hi.2.1, hi.2.2.1, hi.2.2.2.1, hn2⟩
  have hpb : pageB { x with ind := ind } (List.replicate 32 0) p = 0 := by
    obtain ⟨hl, e⟩ := pageB_hi (x := { x with ind := ind }) (vs := List.replicate 32 0) h4 (by simp) hp
    rw [e]
    exact List.getElem_replicate _
  have BK1 := Lib.hid (fun W (h : IS W E D Z) => block_is ind W hs h hL1 hn1 hn2 hz3 hzn hQ)
  have BG := Lib.hid (fun W (h : IS W E (blkD E D ind) Z) => begin_num x ind W hs h hi hn1 hn2 h0 hzn hQ)
  rw [hD2] at BG
  have GE := Lib.hid (fun W (h : IS W E D2 Z) => get_is { x with ind := ind } (List.replicate 32 0) p W hs h hi1 hv1 hp)
  have BK := Lib.hid (fun W (h : IS W E D2 Z) => block_is b W hs h hL2 hb1 hb2 hz3 hz hQ)
  have SL := Lib.hid (fun W (h : IS W E (blkD E D2 b) Z) => set_num { x with ind := ind } (List.replicate 32 0) p b W hs h hi1 hv2 hb2 hn1 h4 hp hzn hQ)
  have ND := needs_any x p
  have hnd : (decide (4 ≤ p) && decide (x.ind = 0)) = true := by simp; omega
  have ND := Lib.hid (fun W => ND W hp)
  rw [hnd] at ND
  rw [hpb] at GE
  have H := Lib.hid h
  have hTm := mx_lt h
  simp only at SL
  clear h hi hi1 hv1 hv2 hnd hL1 hL2 hz3 hz hQ hpb hD2 hzn
  generalize upd (blkD E D2 b) (dq E ind) (tellS ((List.replicate 32 0).set (p - 4) b)) = D4 at *
  generalize blkD E D2 b = D3 at *
  generalize blkD E D ind = D1 at *
  obtain ⟨kind, links, size, d0, d1, d2, d3, ind0⟩ := x
  clear h0
  have HB0 := Lib.hid (((Below.refl _ w).alloc (Nat.le_refl _) (.cells #[.int .u8 kind, .int .u16 links, .int .u32 size, .int .u16 d0, .int .u16 d1, .int .u16 d2, .int .u16 d3, .int .u16 ind0] 43)).alloc (by simp) (.cells #[.int .u8 0, .int .u16 0, .int .u32 0, .int .u16 0, .int .u16 0, .int .u16 0, .int .u16 0, .int .u16 0] 43))
  have HX := Lib.hid ((SBox.new w 43 #[.int .u8 kind, .int .u16 links, .int .u32 size, .int .u16 d0, .int .u16 d1, .int .u16 d2, .int .u16 d3, .int .u16 ind0]).alloc (.cells #[.int .u8 0, .int .u16 0, .int .u32 0, .int .u16 0, .int .u16 0, .int .u16 0, .int .u16 0, .int .u16 0] 43))
  have hY := SBox.new (w.alloc (.cells #[.int .u8 kind, .int .u16 links, .int .u32 size, .int .u16 d0, .int .u16 d1, .int .u16 d2, .int .u16 d3, .int .u16 ind0] 43)) 43 #[.int .u8 0, .int .u16 0, .int .u32 0, .int .u16 0, .int .u16 0, .int .u16 0, .int .u16 0, .int .u16 0]
  rw [World.size_alloc] at hY
  have HY := Lib.hid hY
  have H1 := Lib.hid (H.out.later HB0.out)
  clear hY
  unfold geoV InoT.val at *
  go_enter Tryz.func67, Tryz.ntmps67
  go_wp2_with fail
  refine (ND.out _).mono ?_
  rintro e w1 ⟨rfl, b1⟩
  have B1 := Lib.hid (HB0.out.trans (b1.mono HB0.out.size))
  have H2 := Lib.hid (H1.out.later b1)
  have HY1 := Lib.hid (HY.out.later b1)
  have HX1 := Lib.hid (HX.out.later b1)
  have hX := HX1.out
  have hM := H2.out.img
  clear b1
  have X0 := hX.cell 0
  have X1 := hX.cell 1
  have X2 := hX.cell 2
  have X3 := hX.cell 3
  have X4 := hX.cell 4
  have X5 := hX.cell 5
  have X6 := hX.cell 6
  have X7 := hX.cell 7
  simp only [List.getElem?_toArray, List.getElem?_cons_zero, List.getElem?_cons_succ] at X0 X1 X2 X3 X4 X5 X6 X7
  have Xl := hX.lt
  have M0 := hM.cell 0
  have M1 := hM.cell 1
  have M2 := hM.cell 2
  have M3 := hM.cell 3
  simp only [List.getElem?_toArray, List.getElem?_cons_zero, List.getElem?_cons_succ] at M0 M1 M2 M3
  have Ml := hM.lt
  clear hX hM
  go_wp2_with fail
  refine (BK1.out _ H2.out).mono ?_
  rintro e w3 (⟨rfl, GW⟩ | ⟨rfl, GW⟩)
  · have HX2 := Lib.hid (show SBox w3 w.heap.size 43 _ from (GW.2.block _ HX1.out.lt (by omega)).trans HX1.out)
    have HY2 := Lib.hid (show SBox w3 (w.heap.size + 1) 43 _ from (GW.2.block _ HY1.out.lt (by omega)).trans HY1.out)
    have HW2 := Lib.hid (GW.pre (w0 := w) B1.out)
    have hX := HX2.out
    have hM := HW2.out.1.img
    have HX4 := Lib.hid (SBox.drew HX2.out)
    have HY4 := Lib.hid (SBox.drew HY2.out)
    have HW4 := Lib.hid (HW2.out.post (Below.refl w3.heap.size w3).drew)
    clear GW M0 M1 M2 M3 Ml X0 X1 X2 X3 X4 X5 X6 X7 Xl
    have X0 := hX.cell 0
    have X1 := hX.cell 1
    have X2 := hX.cell 2
    have X3 := hX.cell 3
    have X4 := hX.cell 4
    have X5 := hX.cell 5
    have X6 := hX.cell 6
    have X7 := hX.cell 7
    simp only [List.getElem?_toArray, List.getElem?_cons_zero, List.getElem?_cons_succ] at X0 X1 X2 X3 X4 X5 X6 X7
    have Xl := hX.lt
    have M0 := hM.cell 0
    have M1 := hM.cell 1
    have M2 := hM.cell 2
    have M3 := hM.cell 3
    simp only [List.getElem?_toArray, List.getElem?_cons_zero, List.getElem?_cons_succ] at M0 M1 M2 M3
    have Ml := hM.lt
    clear hX hM
    go_upto_region 5 with fail
    go_cut [10] from 13 (fun e10 wx => ∃ (y : InoT) (c : Nat), e10 = .int .i64 c ∧ SBox wx w.heap.size 43 y.cells ∧ SBox wx (w.heap.size + 1) 43 #[.int .u8 0, .int .u16 0, .int .u32 0, .int .u16 0, .int .u16 0, .int .u16 0, .int .u16 0, .int .u16 0] ∧ ((c = 0 ∧ y = ⟨kind, links, size, d0, d1, d2, d3, ind⟩ ∧ Wr E D2 Z w wx) ∨ (c = 4 ∧ Fu E Q w wx)))
    case first =>
      go_region_law (go_simp; refine (BG.out _ HW4.out.1).mono ?_; rintro e w5 ⟨a0, a1, a2, a3, a4, a5, a6, a7, c, rfl, ht, hc⟩; have hX5 := SBox.tch_keep HX4.out ht (by omega); have HX5 := Lib.hid hX5; have HY5 := Lib.hid (SBox.tch_keep HY4.out ht (by omega)); have HC5 := Lib.hid (hc.imp (fun q => And.imp_right (And.imp_right (fun g => Wr.then_ g HW4.out)) q) (And.imp_right (fun g => Fu.then_ g HW4.out))); have P0 := hX5.cell 0; have P1 := hX5.cell 1; have P2 := hX5.cell 2; have P3 := hX5.cell 3; have P4 := hX5.cell 4; have P5 := hX5.cell 5; have P6 := hX5.cell 6; have P7 := hX5.cell 7; have F0 := hX5.free 0; have F1 := hX5.free 1; have F2 := hX5.free 2; have F3 := hX5.free 3; have F4 := hX5.free 4; have F5 := hX5.free 5; have F6 := hX5.free 6; have F7 := hX5.free 7; have Pl := hX5.lt; simp only [List.getElem?_toArray, List.getElem?_cons_zero, List.getElem?_cons_succ] at P0 P1 P2 P3 P4 P5 P6 P7; clear hX5 hc ht)
      all_goals
        go_wp2_with fail
        go_meet
        exact begin_meet H.out HX5.out HY5.out (by omega) (Nat.le_refl _) HC5.out rfl
    case rest =>
      obtain ⟨y, c, rfl, hXc, hYc, hcc⟩ := hcut
      clear M0 M1 M2 M3 Ml X0 X1 X2 X3 X4 X5 X6 X7 Xl HX HY HX1 HY1 HX2 HY2 HX4 HY4 HW2 HW4 B1 HB0 H1 H2
      rcases hcc with ⟨rfl, rfl, hW⟩ | ⟨rfl, hF⟩
      · have HX1 : Hid (SBox wc w.heap.size 43 #[.int .u8 kind, .int .u16 links, .int .u32 size, .int .u16 d0, .int .u16 d1, .int .u16 d2, .int .u16 d3, .int .u16 ind]) := Lib.hid hXc
        have HY1 := Lib.hid hYc
        have HW1 := Lib.hid hW
        have H2 := Lib.hid hW.1
        have hX := HX1.out
        have hM := H2.out.img
        clear hXc hYc hW
        have X0 := hX.cell 0
        have X1 := hX.cell 1
        have X2 := hX.cell 2
        have X3 := hX.cell 3
        have X4 := hX.cell 4
        have X5 := hX.cell 5
        have X6 := hX.cell 6
        have X7 := hX.cell 7
        simp only [List.getElem?_toArray, List.getElem?_cons_zero, List.getElem?_cons_succ] at X0 X1 X2 X3 X4 X5 X6 X7
        have Xl := hX.lt
        have M0 := hM.cell 0
        have M1 := hM.cell 1
        have M2 := hM.cell 2
        have M3 := hM.cell 3
        simp only [List.getElem?_toArray, List.getElem?_cons_zero, List.getElem?_cons_succ] at M0 M1 M2 M3
        have Ml := hM.lt
        clear hX hM
        go_wp2_with fail
        go_region_held3 (fun W => W.cell? ⟨E.M, 0, none⟩ = some (.pointer (some ⟨E.T.p, 0, none⟩)) ∧ W.cell? ⟨E.M, 1, none⟩ = some (.int .i64 E.i) ∧ W.cell? ⟨E.M, 2, none⟩ = some (.int .i64 E.bl) ∧ W.cell? ⟨E.M, 3, none⟩ = some (.int .i64 E.j) ∧ W.cell? ⟨w.heap.size, 0, none⟩ = some (.int .u8 kind) ∧ W.cell? ⟨w.heap.size, 1, none⟩ = some (.int .u16 links) ∧ W.cell? ⟨w.heap.size, 2, none⟩ = some (.int .u32 size) ∧ W.cell? ⟨w.heap.size, 3, none⟩ = some (.int .u16 d0) ∧ W.cell? ⟨w.heap.size, 4, none⟩ = some (.int .u16 d1) ∧ W.cell? ⟨w.heap.size, 5, none⟩ = some (.int .u16 d2) ∧ W.cell? ⟨w.heap.size, 6, none⟩ = some (.int .u16 d3) ∧ W.cell? ⟨w.heap.size, 7, none⟩ = some (.int .u16 ind) ∧ KeepF wc W)
          (first | exact keepMX Ml Xl (by assumption) (by assumption) | exact ⟨M0, M1, M2, M3, X0, X1, X2, X3, X4, X5, X6, X7, (Below.refl _ _).drew⟩ | exact ⟨M0, M1, M2, M3, X0, X1, X2, X3, X4, X5, X6, X7, Below.refl _ _⟩)
          (first | (go_at_call 75; refine (GE.out _ (H2.out.later (keepMX_get (by assumption)))).mono ?_; rintro e w9 ⟨rfl, b9⟩))
        rename_i hS
        have hb9 := keepMX_get hS
        have HX9 := Lib.hid (HX1.out.later hb9)
        have HY9 := Lib.hid (HY1.out.later hb9)
        have HW9 := Lib.hid (HW1.out.post hb9)
        clear hS hb9 M0 M1 M2 M3 Ml X0 X1 X2 X3 X4 X5 X6 X7 Xl
        go_wp2_with fail
        refine (BK.out _ HW9.out.1).mono ?_
        rintro e w2 (⟨rfl, GW⟩ | ⟨rfl, GW⟩)
        · have HX2 := Lib.hid (show SBox w2 w.heap.size 43 _ from (GW.2.block _ HX9.out.lt (by omega)).trans HX9.out)
          have HY2 := Lib.hid (show SBox w2 (w.heap.size + 1) 43 _ from (GW.2.block _ HY9.out.lt (by omega)).trans HY9.out)
          have HW2 := Lib.hid (GW.then_ HW9.out)
          have hX := HX2.out
          have hM := HW2.out.1.img
          have HX4 := Lib.hid (SBox.drew HX2.out)
          have HY4 := Lib.hid (SBox.drew HY2.out)
          have HW4 := Lib.hid (HW2.out.post (Below.refl w2.heap.size w2).drew)
          clear GW
          have X0 := hX.cell 0
          have X1 := hX.cell 1
          have X2 := hX.cell 2
          have X3 := hX.cell 3
          have X4 := hX.cell 4
          have X5 := hX.cell 5
          have X6 := hX.cell 6
          have X7 := hX.cell 7
          simp only [List.getElem?_toArray, List.getElem?_cons_zero, List.getElem?_cons_succ] at X0 X1 X2 X3 X4 X5 X6 X7
          have Xl := hX.lt
          have M0 := hM.cell 0
          have M1 := hM.cell 1
          have M2 := hM.cell 2
          have M3 := hM.cell 3
          simp only [List.getElem?_toArray, List.getElem?_cons_zero, List.getElem?_cons_succ] at M0 M1 M2 M3
          have Ml := hM.lt
          clear hX hM
          go_wp2_with fail
          go_region_law (go_simp; refine (SL.out _ HW4.out.1).mono ?_; rintro e w5 ⟨a0, a1, a2, a3, a4, a5, a6, a7, c, rfl, ht, hc⟩; have HX5 := SBox.tch_keep HX4.out ht (by omega); have HY5 := Lib.hid (SBox.tch_keep HY4.out ht (by omega)); have HC5 := Lib.hid (hc.imp (fun q => And.imp_right (And.imp_right (fun g => Wr.then_ g HW4.out)) q) (And.imp_right (fun g => Fu.then_ g HW4.out))); have hY := HY5.out; have P0 := HX5.cell 0; have P1 := HX5.cell 1; have P2 := HX5.cell 2; have P3 := HX5.cell 3; have P4 := HX5.cell 4; have P5 := HX5.cell 5; have P6 := HX5.cell 6; have P7 := HX5.cell 7; have F0 := HX5.free 0; have F1 := HX5.free 1; have F2 := HX5.free 2; have F3 := HX5.free 3; have F4 := HX5.free 4; have F5 := HX5.free 5; have F6 := HX5.free 6; have F7 := HX5.free 7; have Pl := HX5.lt; have Y0 := hY.cell 0; have Y1 := hY.cell 1; have Y2 := hY.cell 2; have Y3 := hY.cell 3; have Y4 := hY.cell 4; have Y5 := hY.cell 5; have Y6 := hY.cell 6; have Y7 := hY.cell 7; have J0 := hY.free 0; have J1 := hY.free 1; have J2 := hY.free 2; have J3 := hY.free 3; have J4 := hY.free 4; have J5 := hY.free 5; have J6 := hY.free 6; have J7 := hY.free 7; have Yl := hY.lt; simp only [List.getElem?_toArray, List.getElem?_cons_zero, List.getElem?_cons_succ] at P0 P1 P2 P3 P4 P5 P6 P7 Y0 Y1 Y2 Y3 Y4 Y5 Y6 Y7; clear hY hc ht)
          all_goals
            go_wp2
            have BB := fillI_below (n := w.heap.size + 1) (v0 := .int .u8 a0) (v1 := .int .u16 a1) (v2 := .int .u32 a2) (v3 := .int .u16 a3) (v4 := .int .u16 a4) (v5 := .int .u16 a5) (v6 := .int .u16 a6) (v7 := .int .u16 a7) (fillI_below (n := w.heap.size) (v0 := .int .u8 a0) (v1 := .int .u16 a1) (v2 := .int .u32 a2) (v3 := .int .u16 a3) (v4 := .int .u16 a4) (v5 := .int .u16 a5) (v6 := .int .u16 a6) (v7 := .int .u16 a7) (Below.refl w.heap.size w5) (by omega)) (by omega)
            have h9 := fill8 (fillI_other (n := w.heap.size) (v0 := .int .u8 a0) (v1 := .int .u16 a1) (v2 := .int .u32 a2) (v3 := .int .u16 a3) (v4 := .int .u16 a4) (v5 := .int .u16 a5) (v6 := .int .u16 a6) (v7 := .int .u16 a7) HY5.out (by omega)) (.int .u8 a0) (.int .u16 a1) (.int .u32 a2) (.int .u16 a3) (.int .u16 a4) (.int .u16 a5) (.int .u16 a6) (.int .u16 a7)
            unfold fillI at h9
            have k0 := h9.cell 0
            have k1 := h9.cell 1
            have k2 := h9.cell 2
            have k3 := h9.cell 3
            have k4 := h9.cell 4
            have k5 := h9.cell 5
            have k6 := h9.cell 6
            have k7 := h9.cell 7
            simp only [List.getElem?_toArray, List.getElem?_cons_zero, List.getElem?_cons_succ] at k0 k1 k2 k3 k4 k5 k6 k7
            exact bodyPost_ret (v := .tuple #[.agg #[.int .u8 a0, .int .u16 a1, .int .u32 a2, .int .u16 a3, .int .u16 a4, .int .u16 a5, .int .u16 a6, .int .u16 a7], .int .u16 b, .int .i64 c]) (by simp [results, Tryz.results67, go_sem, k0, k1, k2, k3, k4, k5, k6, k7]) rfl (home_end H.out HC5.out BB)
        · have HX2 := (show SBox w2 w.heap.size 43 _ from (GW.2.block _ HX9.out.lt (by omega)).trans HX9.out)
          have HY2 := (show SBox w2 (w.heap.size + 1) 43 _ from (GW.2.block _ HY9.out.lt (by omega)).trans HY9.out)
          have HW2 := Lib.hid (GW.then_ HW9.out)
          have HY3 := Lib.hid HY2
          clear GW
          have X0 := HX2.cell 0
          have X1 := HX2.cell 1
          have X2 := HX2.cell 2
          have X3 := HX2.cell 3
          have X4 := HX2.cell 4
          have X5 := HX2.cell 5
          have X6 := HX2.cell 6
          have X7 := HX2.cell 7
          simp only [List.getElem?_toArray, List.getElem?_cons_zero, List.getElem?_cons_succ] at X0 X1 X2 X3 X4 X5 X6 X7
          have Xl := HX2.lt
          have Y0 := HY2.cell 0
          have Y1 := HY2.cell 1
          have Y2 := HY2.cell 2
          have Y3 := HY2.cell 3
          have Y4 := HY2.cell 4
          have Y5 := HY2.cell 5
          have Y6 := HY2.cell 6
          have Y7 := HY2.cell 7
          simp only [List.getElem?_toArray, List.getElem?_cons_zero, List.getElem?_cons_succ] at Y0 Y1 Y2 Y3 Y4 Y5 Y6 Y7
          have Yl := HY2.lt
          have J0 := HY2.free 0
          have J1 := HY2.free 1
          have J2 := HY2.free 2
          have J3 := HY2.free 3
          have J4 := HY2.free 4
          have J5 := HY2.free 5
          have J6 := HY2.free 6
          have J7 := HY2.free 7
          clear HX2 HY2
          go_wp2
          have BB := fillI_below (n := w.heap.size + 1) (v0 := .int .u8 kind) (v1 := .int .u16 links) (v2 := .int .u32 size) (v3 := .int .u16 d0) (v4 := .int .u16 d1) (v5 := .int .u16 d2) (v6 := .int .u16 d3) (v7 := .int .u16 ind) (Below.refl w.heap.size w2) (by omega)
          have h9 := fill8 (HY3.out) (.int .u8 kind) (.int .u16 links) (.int .u32 size) (.int .u16 d0) (.int .u16 d1) (.int .u16 d2) (.int .u16 d3) (.int .u16 ind)
          unfold fillI at h9
          have k0 := h9.cell 0
          have k1 := h9.cell 1
          have k2 := h9.cell 2
          have k3 := h9.cell 3
          have k4 := h9.cell 4
          have k5 := h9.cell 5
          have k6 := h9.cell 6
          have k7 := h9.cell 7
          simp only [List.getElem?_toArray, List.getElem?_cons_zero, List.getElem?_cons_succ] at k0 k1 k2 k3 k4 k5 k6 k7
          exact bodyPost_ret (v := .tuple #[.agg #[.int .u8 kind, .int .u16 links, .int .u32 size, .int .u16 d0, .int .u16 d1, .int .u16 d2, .int .u16 d3, .int .u16 ind], .int .u16 0, .int .i64 4]) (by simp [results, Tryz.results67, go_sem, k0, k1, k2, k3, k4, k5, k6, k7]) rfl (.inr ⟨⟨_, _, rfl, ⟨kind, links, size, d0, d1, d2, d3, ind⟩, rfl⟩, Fu.via HW2.out BB⟩)
      · obtain ⟨a0, a1, a2, a3, a4, a5, a6, a7⟩ := y
        have hX : SBox wc w.heap.size 43 #[.int .u8 a0, .int .u16 a1, .int .u32 a2, .int .u16 a3, .int .u16 a4, .int .u16 a5, .int .u16 a6, .int .u16 a7] := hXc
        have HY1 := Lib.hid hYc
        have HF := Lib.hid hF
        clear hXc hF
        have X0 := hX.cell 0
        have X1 := hX.cell 1
        have X2 := hX.cell 2
        have X3 := hX.cell 3
        have X4 := hX.cell 4
        have X5 := hX.cell 5
        have X6 := hX.cell 6
        have X7 := hX.cell 7
        simp only [List.getElem?_toArray, List.getElem?_cons_zero, List.getElem?_cons_succ] at X0 X1 X2 X3 X4 X5 X6 X7
        have Xl := hX.lt
        have Y0 := hYc.cell 0
        have Y1 := hYc.cell 1
        have Y2 := hYc.cell 2
        have Y3 := hYc.cell 3
        have Y4 := hYc.cell 4
        have Y5 := hYc.cell 5
        have Y6 := hYc.cell 6
        have Y7 := hYc.cell 7
        simp only [List.getElem?_toArray, List.getElem?_cons_zero, List.getElem?_cons_succ] at Y0 Y1 Y2 Y3 Y4 Y5 Y6 Y7
        have Yl := hYc.lt
        have J0 := hYc.free 0
        have J1 := hYc.free 1
        have J2 := hYc.free 2
        have J3 := hYc.free 3
        have J4 := hYc.free 4
        have J5 := hYc.free 5
        have J6 := hYc.free 6
        have J7 := hYc.free 7
        clear hX hYc
        go_wp2
        have BB := fillI_below (n := w.heap.size + 1) (v0 := .int .u8 a0) (v1 := .int .u16 a1) (v2 := .int .u32 a2) (v3 := .int .u16 a3) (v4 := .int .u16 a4) (v5 := .int .u16 a5) (v6 := .int .u16 a6) (v7 := .int .u16 a7) (Below.refl w.heap.size wc) (by omega)
        have h9 := fill8 (HY1.out) (.int .u8 a0) (.int .u16 a1) (.int .u32 a2) (.int .u16 a3) (.int .u16 a4) (.int .u16 a5) (.int .u16 a6) (.int .u16 a7)
        unfold fillI at h9
        have k0 := h9.cell 0
        have k1 := h9.cell 1
        have k2 := h9.cell 2
        have k3 := h9.cell 3
        have k4 := h9.cell 4
        have k5 := h9.cell 5
        have k6 := h9.cell 6
        have k7 := h9.cell 7
        simp only [List.getElem?_toArray, List.getElem?_cons_zero, List.getElem?_cons_succ] at k0 k1 k2 k3 k4 k5 k6 k7
        exact bodyPost_ret (v := .tuple #[.agg #[.int .u8 a0, .int .u16 a1, .int .u32 a2, .int .u16 a3, .int .u16 a4, .int .u16 a5, .int .u16 a6, .int .u16 a7], .int .u16 0, .int .i64 4]) (by simp [results, Tryz.results67, go_sem, k0, k1, k2, k3, k4, k5, k6, k7]) rfl (.inr ⟨⟨_, _, rfl, ⟨a0, a1, a2, a3, a4, a5, a6, a7⟩, rfl⟩, Fu.via HF.out BB⟩)
  · have HX2 := (show SBox w3 w.heap.size 43 _ from (GW.2.block _ HX1.out.lt (by omega)).trans HX1.out)
    have HY2 := (show SBox w3 (w.heap.size + 1) 43 _ from (GW.2.block _ HY1.out.lt (by omega)).trans HY1.out)
    have HW2 := Lib.hid (GW.pre (w0 := w) B1.out)
    have HY3 := Lib.hid HY2
    clear GW M0 M1 M2 M3 Ml X0 X1 X2 X3 X4 X5 X6 X7 Xl
    have X0 := HX2.cell 0
    have X1 := HX2.cell 1
    have X2 := HX2.cell 2
    have X3 := HX2.cell 3
    have X4 := HX2.cell 4
    have X5 := HX2.cell 5
    have X6 := HX2.cell 6
    have X7 := HX2.cell 7
    simp only [List.getElem?_toArray, List.getElem?_cons_zero, List.getElem?_cons_succ] at X0 X1 X2 X3 X4 X5 X6 X7
    have Xl := HX2.lt
    have Y0 := HY2.cell 0
    have Y1 := HY2.cell 1
    have Y2 := HY2.cell 2
    have Y3 := HY2.cell 3
    have Y4 := HY2.cell 4
    have Y5 := HY2.cell 5
    have Y6 := HY2.cell 6
    have Y7 := HY2.cell 7
    simp only [List.getElem?_toArray, List.getElem?_cons_zero, List.getElem?_cons_succ] at Y0 Y1 Y2 Y3 Y4 Y5 Y6 Y7
    have Yl := HY2.lt
    have J0 := HY2.free 0
    have J1 := HY2.free 1
    have J2 := HY2.free 2
    have J3 := HY2.free 3
    have J4 := HY2.free 4
    have J5 := HY2.free 5
    have J6 := HY2.free 6
    have J7 := HY2.free 7
    clear HX2 HY2
    go_wp2
    have BB := fillI_below (n := w.heap.size + 1) (v0 := .int .u8 kind) (v1 := .int .u16 links) (v2 := .int .u32 size) (v3 := .int .u16 d0) (v4 := .int .u16 d1) (v5 := .int .u16 d2) (v6 := .int .u16 d3) (v7 := .int .u16 ind0) (Below.refl w.heap.size w3) (by omega)
    have h9 := fill8 (HY3.out) (.int .u8 kind) (.int .u16 links) (.int .u32 size) (.int .u16 d0) (.int .u16 d1) (.int .u16 d2) (.int .u16 d3) (.int .u16 ind0)
    unfold fillI at h9
    have k0 := h9.cell 0
    have k1 := h9.cell 1
    have k2 := h9.cell 2
    have k3 := h9.cell 3
    have k4 := h9.cell 4
    have k5 := h9.cell 5
    have k6 := h9.cell 6
    have k7 := h9.cell 7
    simp only [List.getElem?_toArray, List.getElem?_cons_zero, List.getElem?_cons_succ] at k0 k1 k2 k3 k4 k5 k6 k7
    exact bodyPost_ret (v := .tuple #[.agg #[.int .u8 kind, .int .u16 links, .int .u32 size, .int .u16 d0, .int .u16 d1, .int .u16 d2, .int .u16 d3, .int .u16 ind0], .int .u16 0, .int .i64 4]) (by simp [results, Tryz.results67, go_sem, k0, k1, k2, k3, k4, k5, k6, k7]) rfl (.inr ⟨⟨_, _, rfl, ⟨kind, links, size, d0, d1, d2, d3, ind0⟩, rfl⟩, Fu.via HW2.out BB⟩)
end
end Go.Proofs.YtpnfkilfgdnogaaGreatDoor.Img
end
section
namespace Go.Proofs.YtpnfkilfgdnogaaGreatDoor.Img
set_option linter.unusedVariables false
set_option linter.unusedSimpArgs false
open Go.RowKit Go.Shelf Go.Maps Oct Dev Jou Tx Geo Ino Bm
section
variable {E : Im} {D : Secs} {Z : Nat → Prop} {Q : Prop}
set_option maxRecDepth 100000 in
set_option maxHeartbeats 4000000 in
theorem home_none (p : Nat) (x : InoT) (vs : List Nat) (w : World) (hs : Small E) (h : IS w E D Z) (hi : InG E.bl x) (hv : IndIs E D x.ind vs) (hp : p < 36) (hn : p < 4 ∨ x.ind ≠ 0) (hb : pageB x vs p = 0) (hL : (leastB (D (fr E 3)) (E.bl + 1 : Nat) false).2 = false) :
    Calls Tryz.prog 67 #[.pointer (some ⟨E.M, 0, none⟩), x.val, .int .i64 p] w fun e w' => (∃ v u : Value, e = .returned (.tuple #[v, u, .int .i64 4]) ∧ ∃ z : InoT, v = z.val) ∧ Below w.heap.size w w' := by
  have GE := Lib.hid (fun W (h : IS W E D Z) => get_is x vs p W hs h hi hv hp)
  have BK := Lib.hid (fun W (h : IS W E D Z) => block_none W hs h hL)
  have ND := needs_any x p
  have hnd : (decide (4 ≤ p) && decide (x.ind = 0)) = false := by
    rcases hn with h1 | h1
    · simp; omega
    · simp; omega
  have ND := Lib.hid (fun W => ND W hp)
  rw [hnd] at ND
  rw [hb] at GE
  have H := Lib.hid h
  clear h hi hv hnd hL hb hn
  obtain ⟨kind, links, size, d0, d1, d2, d3, ind⟩ := x
  have HB0 := Lib.hid (((Below.refl _ w).alloc (Nat.le_refl _) (.cells #[.int .u8 kind, .int .u16 links, .int .u32 size, .int .u16 d0, .int .u16 d1, .int .u16 d2, .int .u16 d3, .int .u16 ind] 43)).alloc (by simp) (.cells #[.int .u8 0, .int .u16 0, .int .u32 0, .int .u16 0, .int .u16 0, .int .u16 0, .int .u16 0, .int .u16 0] 43))
  have HX := Lib.hid ((SBox.new w 43 #[.int .u8 kind, .int .u16 links, .int .u32 size, .int .u16 d0, .int .u16 d1, .int .u16 d2, .int .u16 d3, .int .u16 ind]).alloc (.cells #[.int .u8 0, .int .u16 0, .int .u32 0, .int .u16 0, .int .u16 0, .int .u16 0, .int .u16 0, .int .u16 0] 43))
  have hY := SBox.new (w.alloc (.cells #[.int .u8 kind, .int .u16 links, .int .u32 size, .int .u16 d0, .int .u16 d1, .int .u16 d2, .int .u16 d3, .int .u16 ind] 43)) 43 #[.int .u8 0, .int .u16 0, .int .u32 0, .int .u16 0, .int .u16 0, .int .u16 0, .int .u16 0, .int .u16 0]
  rw [World.size_alloc] at hY
  have HY := Lib.hid hY
  have H1 := Lib.hid (H.out.later HB0.out)
  clear hY
  unfold geoV InoT.val at *
  go_enter Tryz.func67, Tryz.ntmps67
  go_wp2_with fail
  refine (ND.out _).mono ?_
  rintro e w1 ⟨rfl, b1⟩
  have B1 := Lib.hid (HB0.out.trans (b1.mono HB0.out.size))
  have H2 := Lib.hid (H1.out.later b1)
  have HY1 := Lib.hid (HY.out.later b1)
  have HX1 := Lib.hid (HX.out.later b1)
  have hX := HX1.out
  have hM := H2.out.img
  clear b1
  have X0 := hX.cell 0
  have X1 := hX.cell 1
  have X2 := hX.cell 2
  have X3 := hX.cell 3
  have X4 := hX.cell 4
  have X5 := hX.cell 5
  have X6 := hX.cell 6
  have X7 := hX.cell 7
  simp only [List.getElem?_toArray, List.getElem?_cons_zero, List.getElem?_cons_succ] at X0 X1 X2 X3 X4 X5 X6 X7
  have Xl := hX.lt
  have M0 := hM.cell 0
  have M1 := hM.cell 1
  have M2 := hM.cell 2
  have M3 := hM.cell 3
  simp only [List.getElem?_toArray, List.getElem?_cons_zero, List.getElem?_cons_succ] at M0 M1 M2 M3
  have Ml := hM.lt
  clear hX hM
  go_wp2_with fail
  go_region_held3 (fun W => W.cell? ⟨E.M, 0, none⟩ = some (.pointer (some ⟨E.T.p, 0, none⟩)) ∧ W.cell? ⟨E.M, 1, none⟩ = some (.int .i64 E.i) ∧ W.cell? ⟨E.M, 2, none⟩ = some (.int .i64 E.bl) ∧ W.cell? ⟨E.M, 3, none⟩ = some (.int .i64 E.j) ∧ W.cell? ⟨w.heap.size, 0, none⟩ = some (.int .u8 kind) ∧ W.cell? ⟨w.heap.size, 1, none⟩ = some (.int .u16 links) ∧ W.cell? ⟨w.heap.size, 2, none⟩ = some (.int .u32 size) ∧ W.cell? ⟨w.heap.size, 3, none⟩ = some (.int .u16 d0) ∧ W.cell? ⟨w.heap.size, 4, none⟩ = some (.int .u16 d1) ∧ W.cell? ⟨w.heap.size, 5, none⟩ = some (.int .u16 d2) ∧ W.cell? ⟨w.heap.size, 6, none⟩ = some (.int .u16 d3) ∧ W.cell? ⟨w.heap.size, 7, none⟩ = some (.int .u16 ind) ∧ KeepF w1 W)
    (first | exact keepMX Ml Xl (by assumption) (by assumption) | exact ⟨M0, M1, M2, M3, X0, X1, X2, X3, X4, X5, X6, X7, (Below.refl _ _).drew⟩ | exact ⟨M0, M1, M2, M3, X0, X1, X2, X3, X4, X5, X6, X7, Below.refl _ _⟩)
    (first | (go_at_call 75; refine (GE.out _ (H2.out.later (keepMX_get (by assumption)))).mono ?_; rintro e w9 ⟨rfl, b9⟩))
  rename_i hS
  have hb9 := keepMX_get hS
  have HX9 := Lib.hid (HX1.out.later hb9)
  have HY9 := Lib.hid (HY1.out.later hb9)
  have B9 := Lib.hid (B1.out.trans (hb9.mono B1.out.size))
  have H9 := Lib.hid (H2.out.later hb9)
  clear hS hb9 M0 M1 M2 M3 Ml X0 X1 X2 X3 X4 X5 X6 X7 Xl
  go_wp2_with fail
  refine (BK.out _ H9.out).mono ?_
  rintro e w2 ⟨rfl, b2⟩
  have B2 := Lib.hid (B9.out.trans (b2.mono B9.out.size))
  have HX2 := HX9.out.later b2
  have HY2 := HY9.out.later b2
  have HY3 := Lib.hid HY2
  clear b2
  have X0 := HX2.cell 0
  have X1 := HX2.cell 1
  have X2 := HX2.cell 2
  have X3 := HX2.cell 3
  have X4 := HX2.cell 4
  have X5 := HX2.cell 5
  have X6 := HX2.cell 6
  have X7 := HX2.cell 7
  simp only [List.getElem?_toArray, List.getElem?_cons_zero, List.getElem?_cons_succ] at X0 X1 X2 X3 X4 X5 X6 X7
  have Xl := HX2.lt
  have Y0 := HY2.cell 0
  have Y1 := HY2.cell 1
  have Y2 := HY2.cell 2
  have Y3 := HY2.cell 3
  have Y4 := HY2.cell 4
  have Y5 := HY2.cell 5
  have Y6 := HY2.cell 6
  have Y7 := HY2.cell 7
  simp only [List.getElem?_toArray, List.getElem?_cons_zero, List.getElem?_cons_succ] at Y0 Y1 Y2 Y3 Y4 Y5 Y6 Y7
  have Yl := HY2.lt
  have J0 := HY2.free 0
  have J1 := HY2.free 1
  have J2 := HY2.free 2
  have J3 := HY2.free 3
  have J4 := HY2.free 4
  have J5 := HY2.free 5
  have J6 := HY2.free 6
  have J7 := HY2.free 7
  clear HX2 HY2
  go_wp2
  have BB := fillI_below (n := w.heap.size + 1) (v0 := .int .u8 kind) (v1 := .int .u16 links) (v2 := .int .u32 size) (v3 := .int .u16 d0) (v4 := .int .u16 d1) (v5 := .int .u16 d2) (v6 := .int .u16 d3) (v7 := .int .u16 ind) B2.out (by omega)
  have h9 := fill8 (HY3.out) (.int .u8 kind) (.int .u16 links) (.int .u32 size) (.int .u16 d0) (.int .u16 d1) (.int .u16 d2) (.int .u16 d3) (.int .u16 ind)
  unfold fillI at h9
  have k0 := h9.cell 0
  have k1 := h9.cell 1
  have k2 := h9.cell 2
  have k3 := h9.cell 3
  have k4 := h9.cell 4
  have k5 := h9.cell 5
  have k6 := h9.cell 6
  have k7 := h9.cell 7
  simp only [List.getElem?_toArray, List.getElem?_cons_zero, List.getElem?_cons_succ] at k0 k1 k2 k3 k4 k5 k6 k7
  exact bodyPost_ret (v := .tuple #[.agg #[.int .u8 kind, .int .u16 links, .int .u32 size, .int .u16 d0, .int .u16 d1, .int .u16 d2, .int .u16 d3, .int .u16 ind], .int .u16 0, .int .i64 4]) (by simp [results, Tryz.results67, go_sem, k0, k1, k2, k3, k4, k5, k6, k7]) rfl ⟨⟨_, _, rfl, ⟨kind, links, size, d0, d1, d2, d3, ind⟩, rfl⟩, BB⟩
set_option maxRecDepth 100000 in
set_option maxHeartbeats 4000000 in
theorem home_none0 (p : Nat) (x : InoT) (w : World) (hs : Small E) (h : IS w E D Z) (hp : p < 36) (h4 : 4 ≤ p) (h0 : x.ind = 0) (hL : (leastB (D (fr E 3)) (E.bl + 1 : Nat) false).2 = false) :
    Calls Tryz.prog 67 #[.pointer (some ⟨E.M, 0, none⟩), x.val, .int .i64 p] w fun e w' => (∃ v u : Value, e = .returned (.tuple #[v, u, .int .i64 4]) ∧ ∃ z : InoT, v = z.val) ∧ Below w.heap.size w w' := by
  have BK := Lib.hid (fun W (h : IS W E D Z) => block_none W hs h hL)
  have ND := needs_any x p
  have hnd : (decide (4 ≤ p) && decide (x.ind = 0)) = true := by simp; omega
  have ND := Lib.hid (fun W => ND W hp)
  rw [hnd] at ND
  have H := Lib.hid h
  clear h hnd hL h4 h0
  obtain ⟨kind, links, size, d0, d1, d2, d3, ind⟩ := x
  have HB0 := Lib.hid (((Below.refl _ w).alloc (Nat.le_refl _) (.cells #[.int .u8 kind, .int .u16 links, .int .u32 size, .int .u16 d0, .int .u16 d1, .int .u16 d2, .int .u16 d3, .int .u16 ind] 43)).alloc (by simp) (.cells #[.int .u8 0, .int .u16 0, .int .u32 0, .int .u16 0, .int .u16 0, .int .u16 0, .int .u16 0, .int .u16 0] 43))
  have HX := Lib.hid ((SBox.new w 43 #[.int .u8 kind, .int .u16 links, .int .u32 size, .int .u16 d0, .int .u16 d1, .int .u16 d2, .int .u16 d3, .int .u16 ind]).alloc (.cells #[.int .u8 0, .int .u16 0, .int .u32 0, .int .u16 0, .int .u16 0, .int .u16 0, .int .u16 0, .int .u16 0] 43))
  have hY := SBox.new (w.alloc (.cells #[.int .u8 kind, .int .u16 links, .int .u32 size, .int .u16 d0, .int .u16 d1, .int .u16 d2, .int .u16 d3, .int .u16 ind] 43)) 43 #[.int .u8 0, .int .u16 0, .int .u32 0, .int .u16 0, .int .u16 0, .int .u16 0, .int .u16 0, .int .u16 0]
  rw [World.size_alloc] at hY
  have HY := Lib.hid hY
  have H1 := Lib.hid (H.out.later HB0.out)
  clear hY
  unfold geoV InoT.val at *
  go_enter Tryz.func67, Tryz.ntmps67
  go_wp2_with fail
  refine (ND.out _).mono ?_
  rintro e w1 ⟨rfl, b1⟩
  have B1 := Lib.hid (HB0.out.trans (b1.mono HB0.out.size))
  have H2 := Lib.hid (H1.out.later b1)
  have HY1 := Lib.hid (HY.out.later b1)
  have HX1 := Lib.hid (HX.out.later b1)
  clear b1
  go_wp2_with fail
  refine (BK.out _ H2.out).mono ?_
  rintro e w2 ⟨rfl, b2⟩
  have B2 := Lib.hid (B1.out.trans (b2.mono B1.out.size))
  have HX2 := HX1.out.later b2
  have HY2 := HY1.out.later b2
  have HY3 := Lib.hid HY2
  clear b2
  have X0 := HX2.cell 0
  have X1 := HX2.cell 1
  have X2 := HX2.cell 2
  have X3 := HX2.cell 3
  have X4 := HX2.cell 4
  have X5 := HX2.cell 5
  have X6 := HX2.cell 6
  have X7 := HX2.cell 7
  simp only [List.getElem?_toArray, List.getElem?_cons_zero, List.getElem?_cons_succ] at X0 X1 X2 X3 X4 X5 X6 X7
  have Xl := HX2.lt
  have Y0 := HY2.cell 0
  have Y1 := HY2.cell 1
  have Y2 := HY2.cell 2
  have Y3 := HY2.cell 3
  have Y4 := HY2.cell 4
  have Y5 := HY2.cell 5
  have Y6 := HY2.cell 6
  have Y7 := HY2.cell 7
  simp only [List.getElem?_toArray, List.getElem?_cons_zero, List.getElem?_cons_succ] at Y0 Y1 Y2 Y3 Y4 Y5 Y6 Y7
  have Yl := HY2.lt
  have J0 := HY2.free 0
  have J1 := HY2.free 1
  have J2 := HY2.free 2
  have J3 := HY2.free 3
  have J4 := HY2.free 4
  have J5 := HY2.free 5
  have J6 := HY2.free 6
  have J7 := HY2.free 7
  clear HX2 HY2
  go_wp2
  have BB := fillI_below (n := w.heap.size + 1) (v0 := .int .u8 kind) (v1 := .int .u16 links) (v2 := .int .u32 size) (v3 := .int .u16 d0) (v4 := .int .u16 d1) (v5 := .int .u16 d2) (v6 := .int .u16 d3) (v7 := .int .u16 ind) B2.out (by omega)
  have h9 := fill8 (HY3.out) (.int .u8 kind) (.int .u16 links) (.int .u32 size) (.int .u16 d0) (.int .u16 d1) (.int .u16 d2) (.int .u16 d3) (.int .u16 ind)
  unfold fillI at h9
  have k0 := h9.cell 0
  have k1 := h9.cell 1
  have k2 := h9.cell 2
  have k3 := h9.cell 3
  have k4 := h9.cell 4
  have k5 := h9.cell 5
  have k6 := h9.cell 6
  have k7 := h9.cell 7
  simp only [List.getElem?_toArray, List.getElem?_cons_zero, List.getElem?_cons_succ] at k0 k1 k2 k3 k4 k5 k6 k7
  exact bodyPost_ret (v := .tuple #[.agg #[.int .u8 kind, .int .u16 links, .int .u32 size, .int .u16 d0, .int .u16 d1, .int .u16 d2, .int .u16 d3, .int .u16 ind], .int .u16 0, .int .i64 4]) (by simp [results, Tryz.results67, go_sem, k0, k1, k2, k3, k4, k5, k6, k7]) rfl ⟨⟨_, _, rfl, ⟨kind, links, size, d0, d1, d2, d3, ind⟩, rfl⟩, BB⟩
end
end Go.Proofs.YtpnfkilfgdnogaaGreatDoor.Img
end
section
namespace Go.Proofs.YtpnfkilfgdnogaaGreatDoor.Img
set_option linter.unusedVariables false
set_option linter.unusedSimpArgs false
open Go.RowKit Go.Shelf Go.Maps Oct Dev Jou Tx Geo Ino Bm
section
variable {E : Im} {D : Secs} {Z : Nat → Prop} {Q : Prop}
set_option maxRecDepth 100000 in
set_option maxHeartbeats 4000000 in
theorem home_new_none (p ind : Nat) (x : InoT) (w : World) (D2 : Secs) (hs : Small E) (h : IS w E D Z) (hi : InG E.bl x) (h0 : x.ind = 0) (h4 : 4 ≤ p) (hp : p < 36) (hL1 : leastB (D (fr E 3)) (E.bl + 1 : Nat) false = (ind, true)) (hn1 : 1 ≤ ind) (hn2 : ind ≤ E.bl) (hD2 : upd (blkD E D ind) (dq E ind) (tellS []) = D2)
    (hv1 : IndIs E D2 ind (List.replicate 32 0)) (hL2 : (leastB (D2 (fr E 3)) (E.bl + 1 : Nat) false).2 = false) (hz3 : Z (fr E 3)) (hzn : Z (dq E ind)) :
    Calls Tryz.prog 67 #[.pointer (some ⟨E.M, 0, none⟩), x.val, .int .i64 p] w fun e w' => (∃ v u : Value, e = .returned (.tuple #[v, u, .int .i64 4]) ∧ ∃ z : InoT, v = z.val) ∧ Fu E True w w' := by
  have hi1 : InG E.bl { x with ind := ind } := ⟨hi.1, hi.2.1, hi.2.2.1, hi.2.2.2.1, hn2⟩
  have hpb : pageB { x with ind := ind } (List.replicate 32 0) p = 0 := by
    obtain ⟨hl, e⟩ := pageB_hi (x := { x with ind := ind }) (vs := List.replicate 32 0) h4 (by simp) hp
    rw [e]
    exact List.getElem_replicate _
  have BK1 := Lib.hid (fun W (h : IS W E D Z) => block_is (Q := True) ind W hs h hL1 hn1 hn2 hz3 hzn (fun _ => trivial))
  have BG := Lib.hid (fun W (h : IS W E (blkD E D ind) Z) => begin_num (Q := True) x ind W hs h hi hn1 hn2 h0 hzn (fun _ => trivial))
  rw [hD2] at BG
  have GE := Lib.hid (fun W (h : IS W E D2 Z) => get_is { x with ind := ind } (List.replicate 32 0) p W hs h hi1 hv1 hp)
  have BK := Lib.hid (fun W (h : IS W E D2 Z) => block_none W hs h hL2)
  have ND := needs_any x p
  have hnd : (decide (4 ≤ p) && decide (x.ind = 0)) = true := by simp; omega
  have ND := Lib.hid (fun W => ND W hp)
  rw [hnd] at ND
  rw [hpb] at GE
  have H := Lib.hid h
  have hTm := mx_lt h
  clear h hi hi1 hv1 hnd hL1 hL2 hz3 hpb hD2 hzn
  generalize blkD E D ind = D1 at *
  obtain ⟨kind, links, size, d0, d1, d2, d3, ind0⟩ := x
  clear h0
  have HB0 := Lib.hid (((Below.refl _ w).alloc (Nat.le_refl _) (.cells #[.int .u8 kind, .int .u16 links, .int .u32 size, .int .u16 d0, .int .u16 d1, .int .u16 d2, .int .u16 d3, .int .u16 ind0] 43)).alloc (by simp) (.cells #[.int .u8 0, .int .u16 0, .int .u32 0, .int .u16 0, .int .u16 0, .int .u16 0, .int .u16 0, .int .u16 0] 43))
  have HX := Lib.hid ((SBox.new w 43 #[.int .u8 kind, .int .u16 links, .int .u32 size, .int .u16 d0, .int .u16 d1, .int .u16 d2, .int .u16 d3, .int .u16 ind0]).alloc (.cells #[.int .u8 0, .int .u16 0, .int .u32 0, .int .u16 0, .int .u16 0, .int .u16 0, .int .u16 0, .int .u16 0] 43))
  have hY := SBox.new (w.alloc (.cells #[.int .u8 kind, .int .u16 links, .int .u32 size, .int .u16 d0, .int .u16 d1, .int .u16 d2, .int .u16 d3, .int .u16 ind0] 43)) 43 #[.int .u8 0, .int .u16 0, .int .u32 0, .int .u16 0, .int .u16 0, .int .u16 0, .int .u16 0, .int .u16 0]
  rw [World.size_alloc] at hY
  have HY := Lib.hid hY
  have H1 := Lib.hid (H.out.later HB0.out)
  clear hY
  unfold geoV InoT.val at *
  go_enter Tryz.func67, Tryz.ntmps67
  go_wp2_with fail
  refine (ND.out _).mono ?_
  rintro e w1 ⟨rfl, b1⟩
  have B1 := Lib.hid (HB0.out.trans (b1.mono HB0.out.size))
  have H2 := Lib.hid (H1.out.later b1)
  have HY1 := Lib.hid (HY.out.later b1)
  have HX1 := Lib.hid (HX.out.later b1)
  have hX := HX1.out
  have hM := H2.out.img
  clear b1
  have X0 := hX.cell 0
  have X1 := hX.cell 1
  have X2 := hX.cell 2
  have X3 := hX.cell 3
  have X4 := hX.cell 4
  have X5 := hX.cell 5
  have X6 := hX.cell 6
  have X7 := hX.cell 7
  simp only [List.getElem?_toArray, List.getElem?_cons_zero, List.getElem?_cons_succ] at X0 X1 X2 X3 X4 X5 X6 X7
  have Xl := hX.lt
  have M0 := hM.cell 0
  have M1 := hM.cell 1
  have M2 := hM.cell 2
  have M3 := hM.cell 3
  simp only [List.getElem?_toArray, List.getElem?_cons_zero, List.getElem?_cons_succ] at M0 M1 M2 M3
  have Ml := hM.lt
  clear hX hM
  go_wp2_with fail
  refine (BK1.out _ H2.out).mono ?_
  rintro e w3 (⟨rfl, GW⟩ | ⟨rfl, GW⟩)
  · have HX2 := Lib.hid (show SBox w3 w.heap.size 43 _ from (GW.2.block _ HX1.out.lt (by omega)).trans HX1.out)
    have HY2 := Lib.hid (show SBox w3 (w.heap.size + 1) 43 _ from (GW.2.block _ HY1.out.lt (by omega)).trans HY1.out)
    have HW2 := Lib.hid (GW.pre (w0 := w) B1.out)
    have hX := HX2.out
    have hM := HW2.out.1.img
    have HX4 := Lib.hid (SBox.drew HX2.out)
    have HY4 := Lib.hid (SBox.drew HY2.out)
    have HW4 := Lib.hid (HW2.out.post (Below.refl w3.heap.size w3).drew)
    clear GW M0 M1 M2 M3 Ml X0 X1 X2 X3 X4 X5 X6 X7 Xl
    have X0 := hX.cell 0
    have X1 := hX.cell 1
    have X2 := hX.cell 2
    have X3 := hX.cell 3
    have X4 := hX.cell 4
    have X5 := hX.cell 5
    have X6 := hX.cell 6
    have X7 := hX.cell 7
    simp only [List.getElem?_toArray, List.getElem?_cons_zero, List.getElem?_cons_succ] at X0 X1 X2 X3 X4 X5 X6 X7
    have Xl := hX.lt
    have M0 := hM.cell 0
    have M1 := hM.cell 1
    have M2 := hM.cell 2
    have M3 := hM.cell 3
    simp only [List.getElem?_toArray, List.getElem?_cons_zero, List.getElem?_cons_succ] at M0 M1 M2 M3
    have Ml := hM.lt
    clear hX hM
    go_upto_region 5 with fail
    go_cut [10] from 13 (fun e10 wx => ∃ (y : InoT) (c : Nat), e10 = .int .i64 c ∧ SBox wx w.heap.size 43 y.cells ∧ SBox wx (w.heap.size + 1) 43 #[.int .u8 0, .int .u16 0, .int .u32 0, .int .u16 0, .int .u16 0, .int .u16 0, .int .u16 0, .int .u16 0] ∧ ((c = 0 ∧ y = ⟨kind, links, size, d0, d1, d2, d3, ind⟩ ∧ Wr E D2 Z w wx) ∨ (c = 4 ∧ Fu E True w wx)))
    case first =>
      go_region_law (go_simp; refine (BG.out _ HW4.out.1).mono ?_; rintro e w5 ⟨a0, a1, a2, a3, a4, a5, a6, a7, c, rfl, ht, hc⟩; have hX5 := SBox.tch_keep HX4.out ht (by omega); have HX5 := Lib.hid hX5; have HY5 := Lib.hid (SBox.tch_keep HY4.out ht (by omega)); have HC5 := Lib.hid (hc.imp (fun q => And.imp_right (And.imp_right (fun g => Wr.then_ g HW4.out)) q) (And.imp_right (fun g => Fu.then_ g HW4.out))); have P0 := hX5.cell 0; have P1 := hX5.cell 1; have P2 := hX5.cell 2; have P3 := hX5.cell 3; have P4 := hX5.cell 4; have P5 := hX5.cell 5; have P6 := hX5.cell 6; have P7 := hX5.cell 7; have F0 := hX5.free 0; have F1 := hX5.free 1; have F2 := hX5.free 2; have F3 := hX5.free 3; have F4 := hX5.free 4; have F5 := hX5.free 5; have F6 := hX5.free 6; have F7 := hX5.free 7; have Pl := hX5.lt; simp only [List.getElem?_toArray, List.getElem?_cons_zero, List.getElem?_cons_succ] at P0 P1 P2 P3 P4 P5 P6 P7; clear hX5 hc ht)
      all_goals
        go_wp2_with fail
        go_meet
        exact begin_meet H.out HX5.out HY5.out (by omega) (Nat.le_refl _) HC5.out rfl
    case rest =>
      obtain ⟨y, c, rfl, hXc, hYc, hcc⟩ := hcut
      clear M0 M1 M2 M3 Ml X0 X1 X2 X3 X4 X5 X6 X7 Xl HX HY HX1 HY1 HX2 HY2 HX4 HY4 HW2 HW4 B1 HB0 H1 H2
      rcases hcc with ⟨rfl, rfl, hW⟩ | ⟨rfl, hF⟩
      · have HX1 : Hid (SBox wc w.heap.size 43 #[.int .u8 kind, .int .u16 links, .int .u32 size, .int .u16 d0, .int .u16 d1, .int .u16 d2, .int .u16 d3, .int .u16 ind]) := Lib.hid hXc
        have HY1 := Lib.hid hYc
        have HW1 := Lib.hid hW
        have H2 := Lib.hid hW.1
        have hX := HX1.out
        have hM := H2.out.img
        clear hXc hYc hW
        have X0 := hX.cell 0
        have X1 := hX.cell 1
        have X2 := hX.cell 2
        have X3 := hX.cell 3
        have X4 := hX.cell 4
        have X5 := hX.cell 5
        have X6 := hX.cell 6
        have X7 := hX.cell 7
        simp only [List.getElem?_toArray, List.getElem?_cons_zero, List.getElem?_cons_succ] at X0 X1 X2 X3 X4 X5 X6 X7
        have Xl := hX.lt
        have M0 := hM.cell 0
        have M1 := hM.cell 1
        have M2 := hM.cell 2
        have M3 := hM.cell 3
        simp only [List.getElem?_toArray, List.getElem?_cons_zero, List.getElem?_cons_succ] at M0 M1 M2 M3
        have Ml := hM.lt
        clear hX hM
        go_wp2_with fail
        go_region_held3 (fun W => W.cell? ⟨E.M, 0, none⟩ = some (.pointer (some ⟨E.T.p, 0, none⟩)) ∧ W.cell? ⟨E.M, 1, none⟩ = some (.int .i64 E.i) ∧ W.cell? ⟨E.M, 2, none⟩ = some (.int .i64 E.bl) ∧ W.cell? ⟨E.M, 3, none⟩ = some (.int .i64 E.j) ∧ W.cell? ⟨w.heap.size, 0, none⟩ = some (.int .u8 kind) ∧ W.cell? ⟨w.heap.size, 1, none⟩ = some (.int .u16 links) ∧ W.cell? ⟨w.heap.size, 2, none⟩ = some (.int .u32 size) ∧ W.cell? ⟨w.heap.size, 3, none⟩ = some (.int .u16 d0) ∧ W.cell? ⟨w.heap.size, 4, none⟩ = some (.int .u16 d1) ∧ W.cell? ⟨w.heap.size, 5, none⟩ = some (.int .u16 d2) ∧ W.cell? ⟨w.heap.size, 6, none⟩ = some (.int .u16 d3) ∧ W.cell? ⟨w.heap.size, 7, none⟩ = some (.int .u16 ind) ∧ KeepF wc W)
          (first | exact keepMX Ml Xl (by assumption) (by assumption) | exact ⟨M0, M1, M2, M3, X0, X1, X2, X3, X4, X5, X6, X7, (Below.refl _ _).drew⟩ | exact ⟨M0, M1, M2, M3, X0, X1, X2, X3, X4, X5, X6, X7, Below.refl _ _⟩)
          (first | (go_at_call 75; refine (GE.out _ (H2.out.later (keepMX_get (by assumption)))).mono ?_; rintro e w9 ⟨rfl, b9⟩))
        rename_i hS
        have hb9 := keepMX_get hS
        have HX9 := Lib.hid (HX1.out.later hb9)
        have HY9 := Lib.hid (HY1.out.later hb9)
        have HW9 := Lib.hid (HW1.out.post hb9)
        clear hS hb9 M0 M1 M2 M3 Ml X0 X1 X2 X3 X4 X5 X6 X7 Xl
        go_wp2_with fail
        refine (BK.out _ HW9.out.1).mono ?_
        rintro e w2 ⟨rfl, b2⟩
        have HT2 := Lib.hid ((Fu.of_below (E := E) (Q := True) trivial b2).then_ HW9.out)
        have HX2 := HX9.out.later b2
        have HY2 := HY9.out.later b2
        have HY3 := Lib.hid HY2
        clear b2
        have X0 := HX2.cell 0
        have X1 := HX2.cell 1
        have X2 := HX2.cell 2
        have X3 := HX2.cell 3
        have X4 := HX2.cell 4
        have X5 := HX2.cell 5
        have X6 := HX2.cell 6
        have X7 := HX2.cell 7
        simp only [List.getElem?_toArray, List.getElem?_cons_zero, List.getElem?_cons_succ] at X0 X1 X2 X3 X4 X5 X6 X7
        have Xl := HX2.lt
        have Y0 := HY2.cell 0
        have Y1 := HY2.cell 1
        have Y2 := HY2.cell 2
        have Y3 := HY2.cell 3
        have Y4 := HY2.cell 4
        have Y5 := HY2.cell 5
        have Y6 := HY2.cell 6
        have Y7 := HY2.cell 7
        simp only [List.getElem?_toArray, List.getElem?_cons_zero, List.getElem?_cons_succ] at Y0 Y1 Y2 Y3 Y4 Y5 Y6 Y7
        have Yl := HY2.lt
        have J0 := HY2.free 0
        have J1 := HY2.free 1
        have J2 := HY2.free 2
        have J3 := HY2.free 3
        have J4 := HY2.free 4
        have J5 := HY2.free 5
        have J6 := HY2.free 6
        have J7 := HY2.free 7
        clear HX2 HY2
        go_wp2
        have BB := fillI_below (n := w.heap.size + 1) (v0 := .int .u8 kind) (v1 := .int .u16 links) (v2 := .int .u32 size) (v3 := .int .u16 d0) (v4 := .int .u16 d1) (v5 := .int .u16 d2) (v6 := .int .u16 d3) (v7 := .int .u16 ind) (Below.refl w.heap.size w2) (by omega)
        have h9 := fill8 (HY3.out) (.int .u8 kind) (.int .u16 links) (.int .u32 size) (.int .u16 d0) (.int .u16 d1) (.int .u16 d2) (.int .u16 d3) (.int .u16 ind)
        unfold fillI at h9
        have k0 := h9.cell 0
        have k1 := h9.cell 1
        have k2 := h9.cell 2
        have k3 := h9.cell 3
        have k4 := h9.cell 4
        have k5 := h9.cell 5
        have k6 := h9.cell 6
        have k7 := h9.cell 7
        simp only [List.getElem?_toArray, List.getElem?_cons_zero, List.getElem?_cons_succ] at k0 k1 k2 k3 k4 k5 k6 k7
        exact bodyPost_ret (v := .tuple #[.agg #[.int .u8 kind, .int .u16 links, .int .u32 size, .int .u16 d0, .int .u16 d1, .int .u16 d2, .int .u16 d3, .int .u16 ind], .int .u16 0, .int .i64 4]) (by simp [results, Tryz.results67, go_sem, k0, k1, k2, k3, k4, k5, k6, k7]) rfl ⟨⟨_, _, rfl, ⟨kind, links, size, d0, d1, d2, d3, ind⟩, rfl⟩, Fu.via HT2.out BB⟩
      · obtain ⟨a0, a1, a2, a3, a4, a5, a6, a7⟩ := y
        have hX : SBox wc w.heap.size 43 #[.int .u8 a0, .int .u16 a1, .int .u32 a2, .int .u16 a3, .int .u16 a4, .int .u16 a5, .int .u16 a6, .int .u16 a7] := hXc
        have HY1 := Lib.hid hYc
        have HF := Lib.hid hF
        clear hXc hF
        have X0 := hX.cell 0
        have X1 := hX.cell 1
        have X2 := hX.cell 2
        have X3 := hX.cell 3
        have X4 := hX.cell 4
        have X5 := hX.cell 5
        have X6 := hX.cell 6
        have X7 := hX.cell 7
        simp only [List.getElem?_toArray, List.getElem?_cons_zero, List.getElem?_cons_succ] at X0 X1 X2 X3 X4 X5 X6 X7
        have Xl := hX.lt
        have Y0 := hYc.cell 0
        have Y1 := hYc.cell 1
        have Y2 := hYc.cell 2
        have Y3 := hYc.cell 3
        have Y4 := hYc.cell 4
        have Y5 := hYc.cell 5
        have Y6 := hYc.cell 6
        have Y7 := hYc.cell 7
        simp only [List.getElem?_toArray, List.getElem?_cons_zero, List.getElem?_cons_succ] at Y0 Y1 Y2 Y3 Y4 Y5 Y6 Y7
        have Yl := hYc.lt
        have J0 := hYc.free 0
        have J1 := hYc.free 1
        have J2 := hYc.free 2
        have J3 := hYc.free 3
        have J4 := hYc.free 4
        have J5 := hYc.free 5
        have J6 := hYc.free 6
        have J7 := hYc.free 7
        clear hX hYc
        go_wp2
        have BB := fillI_below (n := w.heap.size + 1) (v0 := .int .u8 a0) (v1 := .int .u16 a1) (v2 := .int .u32 a2) (v3 := .int .u16 a3) (v4 := .int .u16 a4) (v5 := .int .u16 a5) (v6 := .int .u16 a6) (v7 := .int .u16 a7) (Below.refl w.heap.size wc) (by omega)
        have h9 := fill8 (HY1.out) (.int .u8 a0) (.int .u16 a1) (.int .u32 a2) (.int .u16 a3) (.int .u16 a4) (.int .u16 a5) (.int .u16 a6) (.int .u16 a7)
        unfold fillI at h9
        have k0 := h9.cell 0
        have k1 := h9.cell 1
        have k2 := h9.cell 2
        have k3 := h9.cell 3
        have k4 := h9.cell 4
        have k5 := h9.cell 5
        have k6 := h9.cell 6
        have k7 := h9.cell 7
        simp only [List.getElem?_toArray, List.getElem?_cons_zero, List.getElem?_cons_succ] at k0 k1 k2 k3 k4 k5 k6 k7
        exact bodyPost_ret (v := .tuple #[.agg #[.int .u8 a0, .int .u16 a1, .int .u32 a2, .int .u16 a3, .int .u16 a4, .int .u16 a5, .int .u16 a6, .int .u16 a7], .int .u16 0, .int .i64 4]) (by simp [results, Tryz.results67, go_sem, k0, k1, k2, k3, k4, k5, k6, k7]) rfl ⟨⟨_, _, rfl, ⟨a0, a1, a2, a3, a4, a5, a6, a7⟩, rfl⟩, Fu.via HF.out BB⟩
  · have HX2 := (show SBox w3 w.heap.size 43 _ from (GW.2.block _ HX1.out.lt (by omega)).trans HX1.out)
    have HY2 := (show SBox w3 (w.heap.size + 1) 43 _ from (GW.2.block _ HY1.out.lt (by omega)).trans HY1.out)
    have HW2 := Lib.hid (GW.pre (w0 := w) B1.out)
    have HY3 := Lib.hid HY2
    clear GW M0 M1 M2 M3 Ml X0 X1 X2 X3 X4 X5 X6 X7 Xl
    have X0 := HX2.cell 0
    have X1 := HX2.cell 1
    have X2 := HX2.cell 2
    have X3 := HX2.cell 3
    have X4 := HX2.cell 4
    have X5 := HX2.cell 5
    have X6 := HX2.cell 6
    have X7 := HX2.cell 7
    simp only [List.getElem?_toArray, List.getElem?_cons_zero, List.getElem?_cons_succ] at X0 X1 X2 X3 X4 X5 X6 X7
    have Xl := HX2.lt
    have Y0 := HY2.cell 0
    have Y1 := HY2.cell 1
    have Y2 := HY2.cell 2
    have Y3 := HY2.cell 3
    have Y4 := HY2.cell 4
    have Y5 := HY2.cell 5
    have Y6 := HY2.cell 6
    have Y7 := HY2.cell 7
    simp only [List.getElem?_toArray, List.getElem?_cons_zero, List.getElem?_cons_succ] at Y0 Y1 Y2 Y3 Y4 Y5 Y6 Y7
    have Yl := HY2.lt
    have J0 := HY2.free 0
    have J1 := HY2.free 1
    have J2 := HY2.free 2
    have J3 := HY2.free 3
    have J4 := HY2.free 4
    have J5 := HY2.free 5
    have J6 := HY2.free 6
    have J7 := HY2.free 7
    clear HX2 HY2
    go_wp2
    have BB := fillI_below (n := w.heap.size + 1) (v0 := .int .u8 kind) (v1 := .int .u16 links) (v2 := .int .u32 size) (v3 := .int .u16 d0) (v4 := .int .u16 d1) (v5 := .int .u16 d2) (v6 := .int .u16 d3) (v7 := .int .u16 ind0) (Below.refl w.heap.size w3) (by omega)
    have h9 := fill8 (HY3.out) (.int .u8 kind) (.int .u16 links) (.int .u32 size) (.int .u16 d0) (.int .u16 d1) (.int .u16 d2) (.int .u16 d3) (.int .u16 ind0)
    unfold fillI at h9
    have k0 := h9.cell 0
    have k1 := h9.cell 1
    have k2 := h9.cell 2
    have k3 := h9.cell 3
    have k4 := h9.cell 4
    have k5 := h9.cell 5
    have k6 := h9.cell 6
    have k7 := h9.cell 7
    simp only [List.getElem?_toArray, List.getElem?_cons_zero, List.getElem?_cons_succ] at k0 k1 k2 k3 k4 k5 k6 k7
    exact bodyPost_ret (v := .tuple #[.agg #[.int .u8 kind, .int .u16 links, .int .u32 size, .int .u16 d0, .int .u16 d1, .int .u16 d2, .int .u16 d3, .int .u16 ind0], .int .u16 0, .int .i64 4]) (by simp [results, Tryz.results67, go_sem, k0, k1, k2, k3, k4, k5, k6, k7]) rfl ⟨⟨_, _, rfl, ⟨kind, links, size, d0, d1, d2, d3, ind0⟩, rfl⟩, Fu.via HW2.out BB⟩
end
end Go.Proofs.YtpnfkilfgdnogaaGreatDoor.Img
end
section
namespace Go.Proofs.YtpnfkilfgdnogaaGreatDoor.Img
set_option linter.unusedVariables false
set_option linter.unusedSimpArgs false
open Go.RowKit Go.Shelf Go.Maps Oct Dev Jou Tx Geo Ino Bm
section
variable {E : Im} {D : Secs} {Z : Nat → Prop} {Q : Prop}
set_option maxRecDepth 100000 in
set_option maxHeartbeats 1000000 in
theorem inode_bad (n : Nat) (w : World) (hs : Small E) (h : IS w E D Z) (hn : n < 4294967296) (hb : n < 1 ∨ E.i < n) :
    Calls Tryz.prog 15 #[.pointer (some ⟨E.M, 0, none⟩), .int .u32 n] w fun e w' => e = .returned (.tuple #[.agg #[.int .u8 0, .int .u16 0, .int .u32 0, .int .u16 0, .int .u16 0, .int .u16 0, .int .u16 0, .int .u16 0], .int .i64 2]) ∧ Below w.heap.size w w' := by
  have IN := Lib.hid (fun W => Geo.inode_none E.i E.bl E.j n W hs.may hn hb)
  unfold geoV at IN
  have H := Lib.hid h
  have hX := h.img
  have X0 := hX.cell 0
  have X1 := hX.cell 1
  have X2 := hX.cell 2
  have X3 := hX.cell 3
  simp only [List.getElem?_toArray, List.getElem?_cons_zero, List.getElem?_cons_succ] at X0 X1 X2 X3
  have Xl := hX.lt
  clear hX h
  have HB0 := Lib.hid ((Below.refl _ w).alloc (Nat.le_refl _) (.cells #[.int .u8 0, .int .u16 0, .int .u32 0, .int .u16 0, .int .u16 0, .int .u16 0, .int .u16 0, .int .u16 0] 43))
  have HY0 := Lib.hid (SBox.new w 43 #[.int .u8 0, .int .u16 0, .int .u32 0, .int .u16 0, .int .u16 0, .int .u16 0, .int .u16 0, .int .u16 0])
  clear hb
  go_enter Tryz.func15, Tryz.ntmps15
  go_wp2_with fail
  refine (IN.out _).mono ?_
  rintro e w1 ⟨rfl, b1⟩
  have B1 := Lib.hid (HB0.out.trans (b1.mono HB0.out.size))
  have HY1 := Lib.hid (HY0.out.later b1)
  have hY := HY1.out
  clear b1 X0 X1 X2 X3 Xl
  have Y0 := hY.cell 0
  have Y1 := hY.cell 1
  have Y2 := hY.cell 2
  have Y3 := hY.cell 3
  have Y4 := hY.cell 4
  have Y5 := hY.cell 5
  have Y6 := hY.cell 6
  have Y7 := hY.cell 7
  simp only [List.getElem?_toArray, List.getElem?_cons_zero, List.getElem?_cons_succ] at Y0 Y1 Y2 Y3 Y4 Y5 Y6 Y7
  have Yl := hY.lt
  have F0 := hY.free 0
  have F1 := hY.free 1
  have F2 := hY.free 2
  have F3 := hY.free 3
  have F4 := hY.free 4
  have F5 := hY.free 5
  have F6 := hY.free 6
  have F7 := hY.free 7
  clear hY
  go_wp2
  have BB := fillI_below (v0 := .int .u8 0) (v1 := .int .u16 0) (v2 := .int .u32 0) (v3 := .int .u16 0) (v4 := .int .u16 0) (v5 := .int .u16 0) (v6 := .int .u16 0) (v7 := .int .u16 0) B1.out (Nat.le_refl _)
  have h9 := fill8 (HY1.out) (.int .u8 0) (.int .u16 0) (.int .u32 0) (.int .u16 0) (.int .u16 0) (.int .u16 0) (.int .u16 0) (.int .u16 0)
  unfold fillI at h9
  have k0 := h9.cell 0
  have k1 := h9.cell 1
  have k2 := h9.cell 2
  have k3 := h9.cell 3
  have k4 := h9.cell 4
  have k5 := h9.cell 5
  have k6 := h9.cell 6
  have k7 := h9.cell 7
  simp only [List.getElem?_toArray, List.getElem?_cons_zero, List.getElem?_cons_succ] at k0 k1 k2 k3 k4 k5 k6 k7
  exact bodyPost_ret (v := .tuple #[.agg #[.int .u8 0, .int .u16 0, .int .u32 0, .int .u16 0, .int .u16 0, .int .u16 0, .int .u16 0, .int .u16 0], .int .i64 2]) (by simp [results, Tryz.results15, go_sem, k0, k1, k2, k3, k4, k5, k6, k7]) rfl ⟨rfl, BB⟩
end
end Go.Proofs.YtpnfkilfgdnogaaGreatDoor.Img
end
section
namespace Go.Proofs.YtpnfkilfgdnogaaGreatDoor.Img
set_option linter.unusedVariables false
set_option linter.unusedSimpArgs false
open Go.RowKit Go.Shelf Go.Maps Oct Dev Jou Tx Geo Ino Bm
section
variable {E : Im} {D : Secs} {Z : Nat → Prop} {Q : Prop}
end
end Go.Proofs.YtpnfkilfgdnogaaGreatDoor.Img
end
section
namespace Go.Proofs.YtpnfkilfgdnogaaGreatDoor.Img
set_option linter.unusedVariables false
set_option linter.unusedSimpArgs false
open Go.RowKit Go.Shelf Go.Maps Oct Dev Jou Tx Geo Ino Bm
section
variable {E : Im} {D : Secs} {Z : Nat → Prop} {Q : Prop}
end
end Go.Proofs.YtpnfkilfgdnogaaGreatDoor.Img
end
section
namespace Go.Proofs.YtpnfkilfgdnogaaGreatDoor.Img
set_option linter.unusedVariables false
set_option linter.unusedSimpArgs false
open Go.RowKit Go.Shelf Go.Maps Oct Dev Jou Tx Geo Ino Bm
theorem toList_L (b : ByteArray) : b.toList = L b := ByteArray.toList_eq b
def chunk (s : ByteArray) (k : Nat) : ByteArray := s.extract (k * 64) ((k + 1) * 64)
set_option maxRecDepth 100000 in
set_option maxHeartbeats 2000000 in
theorem change_gen (M n : Nat) (a b : ByteArray) (w : World) (P : Nat → World → Prop) (F : World → Prop) (ha : a.size ≤ 100000) (hb : b.size ≤ 100000)
    (hl : ∀ k W W', P k W → Below W.heap.size W W' → P k W')
    (h0 : a.size < b.size → Calls Tryz.prog 22 #[.pointer (some ⟨M, 0, none⟩), .int .u32 n, .int .u32 b.size] w (Out (.int .i64 0) (.int .i64 4) (P 0) F)) (h1 : ¬ a.size < b.size → P 0 w)
    (hS : ∀ k, k < b.size / 64 → ∀ W, P k W → (((k + 1) * 64 ≤ a.size ∧ chunk a k = chunk b k) → P (k + 1) W) ∧ (¬ ((k + 1) * 64 ≤ a.size ∧ chunk a k = chunk b k) → Calls Tryz.prog 23 #[.pointer (some ⟨M, 0, none⟩), .int .u32 n, .int .i64 k, .string (chunk b k)] W (Out (.int .i64 0) (.int .i64 4) (P (k + 1)) F))) :
    Calls Tryz.prog 78 #[.pointer (some ⟨M, 0, none⟩), .int .u32 n, .string a, .string b] w (Out (.int .i64 0) (.int .i64 4) (P (b.size / 64)) F) := by
  have HL := Lib.hid hl
  have HS := Lib.hid hS
  have q0 : (b.size : Int) ≤ 4294967295 := by omega
  have q1 : (0 : Int) ≤ b.size := by omega
  clear hl hS
  go_enter Tryz.func78, Tryz.ntmps78
  go_upto_if 18 with fail
  go_cut [9] from 14 (fun _ wx => P 0 wx)
  case first =>
    by_cases hab : a.size < b.size
    · have R := Lib.hid (h0 hab)
      have c1 : (a.size : Int) < b.size := by omega
      clear h0 h1
      go_wp2_with fail
      refine R.out.mono ?_
      rintro e w1 (⟨rfl, g⟩ | ⟨rfl, g⟩)
      · have G := Lib.hid g
        clear g
        go_wp2
        go_meet
        case rel => exact G.out
      · have G := Lib.hid g
        clear g
        go_wp2
        go_ret
        exact .inr ⟨rfl, G.out⟩
    · have R := Lib.hid (h1 hab)
      have c1 : ¬ (a.size : Int) < b.size := by omega
      clear h0 h1
      go_wp2_with fail
      go_meet
      case rel => exact R.out
  case rest =>
    have G := Lib.hid hcut
    clear hcut h0 h1
    go_wp2_with fail
    go_loopw [31] (fun c wr => ∃ k : Nat, k ≤ b.size / 64 ∧ c = .int .i64 k ∧ P k wr) (fun c _ => b.size / 64 - (intOf c).toNat)
    case atStart => exact ⟨0, Nat.zero_le _, rfl, G.out⟩
    case round =>
      obtain ⟨k, hk, rfl, hP⟩ := hrel
      have HP := Lib.hid hP
      clear hP
      by_cases hlt : k < b.size / 64
      · have r0 : (k : Int) < (b.size : Int) / 64 := by omega
        have n0 : (0 : Int) ≤ (k : Int) * 64 := by omega
        have n1 : (k : Int) * 64 ≤ ((k : Int) + 1) * 64 := by omega
        have n2 : ((k : Int) + 1) * 64 ≤ (b.size : Int) := by omega
        have n3 : (0 : Int) ≤ ((k : Int) + 1) * 64 := by omega
        have n4 : (k : Int) * 64 ≤ (b.size : Int) := by omega
        have m1 : ((k : Int) * 64).toNat = k * 64 := by omega
        have m2 : (((k : Int) + 1) * 64).toNat = (k + 1) * 64 := by omega
        have hst := HS.out k hlt wr HP.out
        by_cases hT : (k + 1) * 64 ≤ a.size
        · have n5 : ((k : Int) + 1) * 64 ≤ (a.size : Int) := by omega
          have n6 : (k : Int) * 64 ≤ (a.size : Int) := by omega
          by_cases hE : chunk a k = chunk b k
          · have PN := Lib.hid (hst.1 ⟨hT, hE⟩)
            have e1 : a.extract (k * 64) ((k + 1) * 64) = b.extract (k * 64) ((k + 1) * 64) := hE
            clear hst hE
            go_wp2_with fail
            go_region
            go_wp2_with fail
            exact ⟨⟨k + 1, by omega, rfl, HL.out _ _ _ PN.out (Below.refl _ _).drew⟩, by simp [intOf]; omega⟩
          · have SP := Lib.hid ((HS.out k hlt wr.drew (HL.out _ _ _ HP.out (Below.refl _ _).drew)).2 (fun h => hE h.2))
            have e1 : ¬ a.extract (k * 64) ((k + 1) * 64) = b.extract (k * 64) ((k + 1) * 64) := hE
            have e2 : ((a.extract (k * 64) ((k + 1) * 64)).toList == (b.extract (k * 64) ((k + 1) * 64)).toList) = false := by
              rw [toList_L, toList_L]
              have e3 : L (a.extract (k * 64) ((k + 1) * 64)) ≠ L (b.extract (k * 64) ((k + 1) * 64)) := fun h => e1 (L_inj h)
              simpa using e3
            clear hst hE
            unfold chunk at SP
            clear e1
            go_wp2_with fail
            go_region
            go_wp2_with fail
            refine SP.out.mono ?_
            rintro e w2 (⟨rfl, g⟩ | ⟨rfl, g⟩)
            · have G2 := Lib.hid g
              clear g
              go_wp2_with fail
              exact ⟨⟨k + 1, by omega, rfl, G2.out⟩, by simp [intOf]; omega⟩
            · have G2 := Lib.hid g
              clear g
              go_wp2
              go_ret
              exact .inr ⟨rfl, G2.out⟩
        · have SP := Lib.hid ((HS.out k hlt wr.drew (HL.out _ _ _ HP.out (Below.refl _ _).drew)).2 (fun h => hT h.1))
          have n5 : ¬ ((k : Int) + 1) * 64 ≤ (a.size : Int) := by omega
          have n6 : decide (((k : Int) + 1) * 64 ≤ (a.size : Int)) = false := decide_eq_false n5
          clear n5 hst hT
          unfold chunk at SP
          go_wp2_with fail
          go_region
          go_wp2_with fail
          refine SP.out.mono ?_
          rintro e w2 (⟨rfl, g⟩ | ⟨rfl, g⟩)
          · have G2 := Lib.hid g
            clear g
            go_wp2_with fail
            exact ⟨⟨k + 1, by omega, rfl, G2.out⟩, by simp [intOf]; omega⟩
          · have G2 := Lib.hid g
            clear g
            go_wp2
            go_ret
            exact .inr ⟨rfl, G2.out⟩
      · obtain rfl : k = b.size / 64 := by omega
        go_wp2
        go_ret
        exact .inl ⟨rfl, HP.out⟩
end Go.Proofs.YtpnfkilfgdnogaaGreatDoor.Img
end
