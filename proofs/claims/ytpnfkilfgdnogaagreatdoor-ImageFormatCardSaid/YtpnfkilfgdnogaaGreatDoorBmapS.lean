/- Layer 9 (bmap): Set behind the direct pages, Begin, All. -/
import Derived.Test.YtpnfkilfgdnogaaGreatDoorBmapC
namespace Go.Proofs.YtpnfkilfgdnogaaGreatDoor.Bm
set_option linter.unusedVariables false
set_option linter.unusedSimpArgs false
open Go.RowKit Go.Shelf Go.Maps Oct Dev Jou Tx Geo Ino Img
section
variable {E : Im} {D : Secs} {Z : Nat → Prop} {Q : Prop}
theorem lt_all {vs : List Nat} {bl : Nat} (h : ∀ v ∈ vs, v ≤ bl) (hb : bl ≤ 60) : ∀ v ∈ vs, v < 65536 := fun v hv => by have := h v hv; omega
set_option maxRecDepth 100000 in
set_option maxHeartbeats 4000000 in
theorem set_hi (x : InoT) (vs : List Nat) (p b : Nat) (w : World) (hs : Small E) (h : IS w E D Z) (hi : InG E.bl x) (hv : IndIs E D x.ind vs) (hb : b ≤ E.bl) (h1 : 1 ≤ x.ind) (h4 : 4 ≤ p) (hp : p < 36) (hz : Z (dq E x.ind)) (hQ : FullE E Z → Q) :
    Calls Tryz.prog 117 #[.pointer (some ⟨E.T.p, 0, none⟩), geoV E.i E.bl E.j, x.val, .int .i64 p, .int .u16 b] w (Out (.tuple #[x.val, .int .i64 0]) (.tuple #[noIno.val, .int .i64 4]) (Wr E (upd D (dq E x.ind) (tellS (vs.set (p - 4) b))) Z w) (Fu E Q w)) := by
  have hbl := hs.hb
  have hvl := hv.len
  have MA := Lib.hid (fun W => may_ok E.i E.bl E.j b E.T.p x true W hs.may hi hb)
  have ND := Lib.hid (fun W => needs_any x p W hp)
  have TD := Lib.hid (fun W (h : IS W E D Z) => told_is x vs W hs h hi.2.2.2.2 hv)
  have TL := Lib.hid (fun W sl (h : IS W E D Z) (hsl : SlIs W (vs.set (p - 4) b) sl) => tell_is x (vs.set (p - 4) b) sl W hs h h1 hi.2.2.2.2 (by rw [List.length_set]; omega) (fun u hu => by
    rcases List.mem_or_eq_of_mem_set hu with hu | rfl
    · have := hv.lt u hu; omega
    · omega) hsl hz hQ)
  have hni : decide (x.ind = 0) = false := by simp; omega
  rw [hni, Bool.and_false] at ND
  obtain ⟨kind, links, size, d0, d1, d2, d3, ind⟩ := x
  simp only at h1 hz TL
  generalize upd D (dq E ind) (tellS (vs.set (p - 4) b)) = D2 at *
  have HB0 := Lib.hid ((((Below.refl _ w).alloc (Nat.le_refl _) (.cells #[.int .i64 E.i, .int .i64 E.bl, .int .i64 E.j] 23)).alloc (by simp) (.cells #[.int .u8 kind, .int .u16 links, .int .u32 size, .int .u16 d0, .int .u16 d1, .int .u16 d2, .int .u16 d3, .int .u16 ind] 43)).alloc (by simp; omega) (.cells #[.int .u8 0, .int .u16 0, .int .u32 0, .int .u16 0, .int .u16 0, .int .u16 0, .int .u16 0, .int .u16 0] 43))
  have HG := Lib.hid (((SBox.new w 23 #[.int .i64 E.i, .int .i64 E.bl, .int .i64 E.j]).alloc (.cells #[.int .u8 kind, .int .u16 links, .int .u32 size, .int .u16 d0, .int .u16 d1, .int .u16 d2, .int .u16 d3, .int .u16 ind] 43)).alloc (.cells #[.int .u8 0, .int .u16 0, .int .u32 0, .int .u16 0, .int .u16 0, .int .u16 0, .int .u16 0, .int .u16 0] 43))
  have hX := SBox.new (w.alloc (.cells #[.int .i64 E.i, .int .i64 E.bl, .int .i64 E.j] 23)) 43 #[.int .u8 kind, .int .u16 links, .int .u32 size, .int .u16 d0, .int .u16 d1, .int .u16 d2, .int .u16 d3, .int .u16 ind]
  rw [World.size_alloc] at hX
  have HX := Lib.hid (hX.alloc (.cells #[.int .u8 0, .int .u16 0, .int .u32 0, .int .u16 0, .int .u16 0, .int .u16 0, .int .u16 0, .int .u16 0] 43))
  have hY := SBox.new ((w.alloc (.cells #[.int .i64 E.i, .int .i64 E.bl, .int .i64 E.j] 23)).alloc (.cells #[.int .u8 kind, .int .u16 links, .int .u32 size, .int .u16 d0, .int .u16 d1, .int .u16 d2, .int .u16 d3, .int .u16 ind] 43)) 43 #[.int .u8 0, .int .u16 0, .int .u32 0, .int .u16 0, .int .u16 0, .int .u16 0, .int .u16 0, .int .u16 0]
  rw [World.size_alloc, World.size_alloc] at hY
  have HY := Lib.hid hY
  have H0 := Lib.hid h
  have H := Lib.hid (h.later (Below.mono HB0.out (Nat.le_refl _)))
  clear hX hY hi h hv hni
  unfold geoV InoT.val at *
  have q0 : (0 : Int) ≤ p := by omega
  have q1 : (p : Int) < 36 := by omega
  have q2 : ¬ (p : Int) < 4 := by omega
  have q3 : decide (p < 4) = false := by simp; omega
  have q4 : (0 : Int) ≤ (p : Int) - 4 := by omega
  have q5 : (p : Int) - 4 < 32 := by omega
  have q6 : ((p : Int) - 4).toNat = p - 4 := by omega
  go_enter Tryz.func117, Tryz.ntmps117
  go_wp2_with fail
  refine (MA.out _).mono ?_
  rintro e w1 ⟨rfl, b1⟩
  have HG1 := Lib.hid (HG.out.later b1)
  have HX1 := Lib.hid (HX.out.later b1)
  have HY1 := Lib.hid (HY.out.later b1)
  have H1 := Lib.hid (H.out.later b1)
  have B1 := Lib.hid (HB0.out.trans (b1.mono HB0.out.size))
  have hX := HX1.out
  clear b1
  have X0 := hX.cell 0
  have X1 := hX.cell 1
  have X2 := hX.cell 2
  have X3 := hX.cell 3
  have X4 := hX.cell 4
  have X5 := hX.cell 5
  have X6 := hX.cell 6
  have X7 := hX.cell 7
  simp only [List.getElem?_toArray, List.getElem?_cons_zero, List.getElem?_cons_succ] at X0 X1 X2 X3 X4 X5 X6 X7
  have Xl := hX.lt
  clear hX
  go_wp2_with fail
  refine (ND.out _).mono ?_
  rintro e w2 ⟨rfl, b2⟩
  have HG2 := Lib.hid (HG1.out.later b2)
  have HX2 := Lib.hid (HX1.out.later b2)
  have HY2 := Lib.hid (HY1.out.later b2)
  have H2 := Lib.hid (H1.out.later b2)
  have B2 := Lib.hid (B1.out.trans (b2.mono B1.out.size))
  have hX := HX2.out
  have hG := HG2.out
  clear b2 X0 X1 X2 X3 X4 X5 X6 X7 Xl
  have X0 := hX.cell 0
  have X1 := hX.cell 1
  have X2 := hX.cell 2
  have X3 := hX.cell 3
  have X4 := hX.cell 4
  have X5 := hX.cell 5
  have X6 := hX.cell 6
  have X7 := hX.cell 7
  simp only [List.getElem?_toArray, List.getElem?_cons_zero, List.getElem?_cons_succ] at X0 X1 X2 X3 X4 X5 X6 X7
  have Xl := hX.lt
  have G0 := hG.cell 0
  have G1 := hG.cell 1
  have G2 := hG.cell 2
  simp only [List.getElem?_toArray, List.getElem?_cons_zero, List.getElem?_cons_succ] at G0 G1 G2
  have Gl := hG.lt
  clear hX hG
  go_wp2_with fail
  refine (TD.out _ H2.out).mono ?_
  rintro e w3 ⟨g, cap, rfl, hg, hc, hR, b3⟩
  have HR3 := Lib.hid (hR.set (p - 4) b)
  have hrl := hR.lt
  have c0 := hR.cell (p - 4) (by omega)
  have f0 := hR.free (p - 4)
  have hge : w.heap.size + 2 < g := by have := HY2.out.lt; omega
  have HG3 := Lib.hid ((HG2.out.later b3).other (c := g) (i := p - 4) (.int .u16 b) (by omega))
  have HX3 := Lib.hid ((HX2.out.later b3).other (c := g) (i := p - 4) (.int .u16 b) (by omega))
  have HY3 := Lib.hid ((HY2.out.later b3).other (c := g) (i := p - 4) (.int .u16 b) (by omega))
  have B3 := Lib.hid ((B2.out.trans (b3.mono B2.out.size)).setCell (p := ⟨g, p - 4, none⟩) (by show w.heap.size ≤ g; omega) (.int .u16 b))
  have H3 := Lib.hid (H0.out.later B3.out)
  have hX := (HX2.out.later b3)
  have hG := (HG2.out.later b3)
  have hY := (HY2.out.later b3)
  clear b3 hR X0 X1 X2 X3 X4 X5 X6 X7 Xl G0 G1 G2 Gl
  have X0 := hX.cell 0
  have X1 := hX.cell 1
  have X2 := hX.cell 2
  have X3 := hX.cell 3
  have X4 := hX.cell 4
  have X5 := hX.cell 5
  have X6 := hX.cell 6
  have X7 := hX.cell 7
  simp only [List.getElem?_toArray, List.getElem?_cons_zero, List.getElem?_cons_succ] at X0 X1 X2 X3 X4 X5 X6 X7
  have Xl := hX.lt
  have G0 := hG.cell 0
  have G1 := hG.cell 1
  have G2 := hG.cell 2
  simp only [List.getElem?_toArray, List.getElem?_cons_zero, List.getElem?_cons_succ] at G0 G1 G2
  have Gl := hG.lt
  clear hX hG hY
  go_wp2_with fail
  refine (TL.out _ _ H3.out (.inr ⟨g, cap, by rw [List.length_set, hvl], HR3.out⟩)).mono ?_
  rintro e w4 (⟨rfl, GW⟩ | ⟨rfl, GW⟩)
  · have hTm : E.T.m < w.heap.size := by
      obtain ⟨f, nn, g1, _⟩ := H0.out
      exact g1.tj.tx.map.lt
    have hX : SBox w4 (w.heap.size + 1) 43 #[.int .u8 kind, .int .u16 links, .int .u32 size, .int .u16 d0, .int .u16 d1, .int .u16 d2, .int .u16 d3, .int .u16 ind] := (GW.2.block _ HX3.out.lt (by omega)).trans HX3.out
    have hY : SBox w4 (w.heap.size + 1 + 1) 43 #[.int .u8 0, .int .u16 0, .int .u32 0, .int .u16 0, .int .u16 0, .int .u16 0, .int .u16 0, .int .u16 0] := (GW.2.block _ HY3.out.lt (by omega)).trans HY3.out
    have HY4 := Lib.hid hY
    have HW4 := Lib.hid (GW.pre (w0 := w) B3.out)
    clear GW X0 X1 X2 X3 X4 X5 X6 X7 Xl G0 G1 G2 Gl
    have X0 := hX.cell 0
    have X1 := hX.cell 1
    have X2 := hX.cell 2
    have X3 := hX.cell 3
    have X4 := hX.cell 4
    have X5 := hX.cell 5
    have X6 := hX.cell 6
    have X7 := hX.cell 7
    simp only [List.getElem?_toArray, List.getElem?_cons_zero, List.getElem?_cons_succ] at X0 X1 X2 X3 X4 X5 X6 X7
    have Xl := hX.lt
    have Y0 := hY.cell 0
    have Y1 := hY.cell 1
    have Y2 := hY.cell 2
    have Y3 := hY.cell 3
    have Y4 := hY.cell 4
    have Y5 := hY.cell 5
    have Y6 := hY.cell 6
    have Y7 := hY.cell 7
    simp only [List.getElem?_toArray, List.getElem?_cons_zero, List.getElem?_cons_succ] at Y0 Y1 Y2 Y3 Y4 Y5 Y6 Y7
    have Yl := hY.lt
    have J0 := hY.free 0
    have J1 := hY.free 1
    have J2 := hY.free 2
    have J3 := hY.free 3
    have J4 := hY.free 4
    have J5 := hY.free 5
    have J6 := hY.free 6
    have J7 := hY.free 7
    clear hX hY
    go_wp2
    have BB := fillI_below (n := w.heap.size + 1 + 1) (v0 := .int .u8 kind) (v1 := .int .u16 links) (v2 := .int .u32 size) (v3 := .int .u16 d0) (v4 := .int .u16 d1) (v5 := .int .u16 d2) (v6 := .int .u16 d3) (v7 := .int .u16 ind) (Below.refl w.heap.size w4) (by omega)
    have h9 := fill8 (HY4.out) (.int .u8 kind) (.int .u16 links) (.int .u32 size) (.int .u16 d0) (.int .u16 d1) (.int .u16 d2) (.int .u16 d3) (.int .u16 ind)
    unfold fillI at h9
    have k0 := h9.cell 0
    have k1 := h9.cell 1
    have k2 := h9.cell 2
    have k3 := h9.cell 3
    have k4 := h9.cell 4
    have k5 := h9.cell 5
    have k6 := h9.cell 6
    have k7 := h9.cell 7
    simp only [List.getElem?_toArray, List.getElem?_cons_zero, List.getElem?_cons_succ] at k0 k1 k2 k3 k4 k5 k6 k7
    exact bodyPost_ret (v := .tuple #[.agg #[.int .u8 kind, .int .u16 links, .int .u32 size, .int .u16 d0, .int .u16 d1, .int .u16 d2, .int .u16 d3, .int .u16 ind], .int .i64 0]) (by simp [results, Tryz.results117, go_sem, k0, k1, k2, k3, k4, k5, k6, k7]) rfl (.inl ⟨rfl, Wr.via H0.out HW4.out BB⟩)
  · have hTm : E.T.m < w.heap.size := by
      obtain ⟨f, nn, g1, _⟩ := H0.out
      exact g1.tj.tx.map.lt
    have hY : SBox w4 (w.heap.size + 1 + 1) 43 #[.int .u8 0, .int .u16 0, .int .u32 0, .int .u16 0, .int .u16 0, .int .u16 0, .int .u16 0, .int .u16 0] := (GW.2.block _ HY3.out.lt (by omega)).trans HY3.out
    have HY4 := Lib.hid hY
    have HW4 := Lib.hid (GW.pre (w0 := w) B3.out)
    clear GW X0 X1 X2 X3 X4 X5 X6 X7 Xl G0 G1 G2 Gl
    have Y0 := hY.cell 0
    have Y1 := hY.cell 1
    have Y2 := hY.cell 2
    have Y3 := hY.cell 3
    have Y4 := hY.cell 4
    have Y5 := hY.cell 5
    have Y6 := hY.cell 6
    have Y7 := hY.cell 7
    simp only [List.getElem?_toArray, List.getElem?_cons_zero, List.getElem?_cons_succ] at Y0 Y1 Y2 Y3 Y4 Y5 Y6 Y7
    have Yl := hY.lt
    have J0 := hY.free 0
    have J1 := hY.free 1
    have J2 := hY.free 2
    have J3 := hY.free 3
    have J4 := hY.free 4
    have J5 := hY.free 5
    have J6 := hY.free 6
    have J7 := hY.free 7
    clear hY
    go_wp2
    have BB := fillI_below (n := w.heap.size + 1 + 1) (v0 := .int .u8 0) (v1 := .int .u16 0) (v2 := .int .u32 0) (v3 := .int .u16 0) (v4 := .int .u16 0) (v5 := .int .u16 0) (v6 := .int .u16 0) (v7 := .int .u16 0) (Below.refl w.heap.size w4) (by omega)
    have h9 := fill8 (HY4.out) (.int .u8 0) (.int .u16 0) (.int .u32 0) (.int .u16 0) (.int .u16 0) (.int .u16 0) (.int .u16 0) (.int .u16 0)
    unfold fillI at h9
    have k0 := h9.cell 0
    have k1 := h9.cell 1
    have k2 := h9.cell 2
    have k3 := h9.cell 3
    have k4 := h9.cell 4
    have k5 := h9.cell 5
    have k6 := h9.cell 6
    have k7 := h9.cell 7
    simp only [List.getElem?_toArray, List.getElem?_cons_zero, List.getElem?_cons_succ] at k0 k1 k2 k3 k4 k5 k6 k7
    exact bodyPost_ret (v := .tuple #[.agg #[.int .u8 0, .int .u16 0, .int .u32 0, .int .u16 0, .int .u16 0, .int .u16 0, .int .u16 0, .int .u16 0], .int .i64 4]) (by simp [results, Tryz.results117, go_sem, k0, k1, k2, k3, k4, k5, k6, k7]) rfl (.inr ⟨rfl, Fu.via HW4.out BB⟩)
set_option maxRecDepth 100000 in
set_option maxHeartbeats 4000000 in
theorem all_is (x : InoT) (vs : List Nat) (w : World) (hs : Small E) (h : IS w E D Z) (hi : InG E.bl x) (hv : IndIs E D x.ind vs) :
    Calls Tryz.prog 91 #[.pointer (some ⟨E.T.p, 0, none⟩), geoV E.i E.bl E.j, x.val] w fun e w' => ∃ v, e = .returned (.tuple #[v, .int .i64 0]) ∧ OwnL w.heap.size (cutFree x vs 0) v w' ∧ Below w.heap.size w w' := by
  have CU := Lib.hid (fun W (h : IS W E D Z) => (callsIn_wide (n := 4)).1 (cut_is (Q := False) x vs 0 W hs h hi hv (by omega) (fun _ h => by omega) (fun h => by omega)))
  have hsame : CutSame x vs 0 := by
    by_cases h0 : x.ind = 0
    · right
      rw [hv.no h0]
      exact freeV_zero 0
    · exact .inl ⟨h0, by omega⟩
  have HSM := Lib.hid hsame
  unfold CutPost at CU
  generalize cutFree x vs 0 = fr at *
  generalize CutSame x vs 0 = same at *
  generalize cutSec E D x vs 0 = D2 at *
  generalize cutEnd x 0 = y at *
  obtain ⟨kind, links, size, d0, d1, d2, d3, ind⟩ := x
  obtain ⟨ykind, ylinks, ysize, y0, y1, y2, y3, yind⟩ := y
  have HB0 := Lib.hid (((Below.refl _ w).alloc (Nat.le_refl _) (.cells #[.int .i64 E.i, .int .i64 E.bl, .int .i64 E.j] 23)).alloc (by simp) (.cells #[.int .u8 kind, .int .u16 links, .int .u32 size, .int .u16 d0, .int .u16 d1, .int .u16 d2, .int .u16 d3, .int .u16 ind] 43))
  have hs0 : ((w.alloc (.cells #[.int .i64 E.i, .int .i64 E.bl, .int .i64 E.j] 23)).alloc (.cells #[.int .u8 kind, .int .u16 links, .int .u32 size, .int .u16 d0, .int .u16 d1, .int .u16 d2, .int .u16 d3, .int .u16 ind] 43)).heap.size = w.heap.size + 2 := by simp
  have H := Lib.hid (h.later (Below.mono HB0.out (Nat.le_refl _)))
  clear hi h hv hsame
  unfold geoV InoT.val at *
  go_enter Tryz.func91, Tryz.ntmps91
  go_wp2_with fail
  refine (CU.out _ H.out).mono ?_
  rintro e w1 (⟨v, rfl, ho, hw, hb⟩ | ⟨rfl, hf, _⟩)
  · have b1 := hb HSM.out
    rw [hs0] at b1
    have B1 := Lib.hid ((HB0.out.trans (b1.mono (by omega))).alloc (Nat.le_trans HB0.out.size b1.size) (.cells #[.int .u8 ykind, .int .u16 ylinks, .int .u32 ysize, .int .u16 y0, .int .u16 y1, .int .u16 y2, .int .u16 y3, .int .u16 yind] 43))
    have HO := Lib.hid (own_mono (b' := w.heap.size) (World.ownsRow.alloc ho (.cells #[.int .u8 ykind, .int .u16 ylinks, .int .u32 ysize, .int .u16 y0, .int .u16 y1, .int .u16 y2, .int .u16 y3, .int .u16 yind] 43)) (by omega))
    obtain ⟨ao, cap, rfl⟩ : ∃ ao cap, v = .slice ao fr.length cap := by
      rcases ho.2 with ⟨rfl, e0⟩ | ⟨g, cap, cur, rfl, _⟩
      · exact ⟨none, 0, by rw [e0]⟩
      · exact ⟨_, _, rfl⟩
    clear ho hw hb b1
    go_wp2
    go_ret2
    exact ⟨_, rfl, HO.out, B1.out⟩
  · exact hf.elim
end
end Go.Proofs.YtpnfkilfgdnogaaGreatDoor.Bm
