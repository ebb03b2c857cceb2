/- Layer 11 (image): there, put, Block. -/
import Derived.Test.YtpnfkilfgdnogaaGreatDoorIsIno
import Derived.Test.YtpnfkilfgdnogaaGreatDoorJournalR
namespace Go.Proofs.YtpnfkilfgdnogaaGreatDoor.Img
set_option linter.unusedVariables false
set_option linter.unusedSimpArgs false
open Go.RowKit Go.Shelf Go.Maps Oct Dev Jou Tx Geo Ino
/-- The sector of a block. -/
def dq (E : Im) (b : Nat) : Nat := fr E 5 + b - 1
theorem dq_lt {E : Im} {b : Nat} (hs : Small E) (hl : E.hard.length = (szL E.i E.bl E.j).sum) (h1 : 1 ≤ b) (hb : b ≤ E.bl) : dq E b < E.hard.length := by
  have hv := hs.vals
  unfold dq
  rw [hl]
  omega
section
variable {E : Im} {D : Secs} {Z : Nat → Prop} {Q : Prop}
set_option maxRecDepth 100000 in
set_option maxHeartbeats 2000000 in
theorem there_is (n : Nat) (x : InoT) (w : World) (hs : Small E) (h : IS w E D Z) (h1 : 1 ≤ n) (hn : n ≤ E.i) (hx : InoIs E D n x) (ho : x.Ok) :
    Calls Tryz.prog 59 #[.pointer (some ⟨E.M, 0, none⟩), .int .u32 n] w fun e w' => e = .returned (.tuple #[x.val, .int .i64 (if x.kind = 0 then 3 else 0)]) ∧ Below w.heap.size w w' := by
  have IN := Lib.hid (fun W (h : IS W E D Z) => inode_is n x W hs h h1 hn hx ho)
  have H := Lib.hid h
  clear h hx ho
  obtain ⟨kind, links, size, d0, d1, d2, d3, ind⟩ := x
  unfold InoT.val at *
  have HB0 := Lib.hid ((Below.refl _ w).alloc (Nat.le_refl _) (.cells #[.int .u8 0, .int .u16 0, .int .u32 0, .int .u16 0, .int .u16 0, .int .u16 0, .int .u16 0, .int .u16 0] 43))
  have HY0 := Lib.hid (SBox.new w 43 #[.int .u8 0, .int .u16 0, .int .u32 0, .int .u16 0, .int .u16 0, .int .u16 0, .int .u16 0, .int .u16 0])
  have HP := Lib.hid (H.out.later HB0.out)
  by_cases hk : kind = 0
  · subst hk
    go_enter Tryz.func59, Tryz.ntmps59
    go_wp2_with fail
    refine (IN.out _ HP.out).mono ?_
    rintro e w1 ⟨rfl, b1⟩
    have B1 := Lib.hid ((HB0.out.trans (b1.mono HB0.out.size)).alloc (Nat.le_trans HB0.out.size b1.size) (.cells #[.int .u8 0, .int .u16 links, .int .u32 size, .int .u16 d0, .int .u16 d1, .int .u16 d2, .int .u16 d3, .int .u16 ind] 43))
    have HY1 := Lib.hid ((HY0.out.later b1).alloc (.cells #[.int .u8 0, .int .u16 links, .int .u32 size, .int .u16 d0, .int .u16 d1, .int .u16 d2, .int .u16 d3, .int .u16 ind] 43))
    have hX := HY1.out
    clear b1
    have X0 := hX.cell 0
    have X1 := hX.cell 1
    have X2 := hX.cell 2
    have X3 := hX.cell 3
    have X4 := hX.cell 4
    have X5 := hX.cell 5
    have X6 := hX.cell 6
    have X7 := hX.cell 7
    simp only [List.getElem?_toArray, List.getElem?_cons_zero, List.getElem?_cons_succ] at X0 X1 X2 X3 X4 X5 X6 X7
    have Xl := hX.lt
    have F0 := hX.free 0
    have F1 := hX.free 1
    have F2 := hX.free 2
    have F3 := hX.free 3
    have F4 := hX.free 4
    have F5 := hX.free 5
    have F6 := hX.free 6
    have F7 := hX.free 7
    clear hX
    go_wp2
    have h9 := fill8 HY1.out (.int .u8 0) (.int .u16 links) (.int .u32 size) (.int .u16 d0) (.int .u16 d1) (.int .u16 d2) (.int .u16 d3) (.int .u16 ind)
    have hb9 := fillI_below (v0 := .int .u8 0) (v1 := .int .u16 links) (v2 := .int .u32 size) (v3 := .int .u16 d0) (v4 := .int .u16 d1) (v5 := .int .u16 d2) (v6 := .int .u16 d3) (v7 := .int .u16 ind) B1.out (Nat.le_refl _)
    unfold fillI at h9 hb9
    have k0 := h9.cell 0
    have k1 := h9.cell 1
    have k2 := h9.cell 2
    have k3 := h9.cell 3
    have k4 := h9.cell 4
    have k5 := h9.cell 5
    have k6 := h9.cell 6
    have k7 := h9.cell 7
    simp only [List.getElem?_toArray, List.getElem?_cons_zero, List.getElem?_cons_succ] at k0 k1 k2 k3 k4 k5 k6 k7
    exact bodyPost_ret (v := .tuple #[.agg #[.int .u8 0, .int .u16 links, .int .u32 size, .int .u16 d0, .int .u16 d1, .int .u16 d2, .int .u16 d3, .int .u16 ind], .int .i64 3]) (by simp [results, Tryz.results59, go_sem, k0, k1, k2, k3, k4, k5, k6, k7]) rfl ⟨rfl, hb9⟩
  · have hk0 : ((kind : Int) == 0) = false := by simp; omega
    go_enter Tryz.func59, Tryz.ntmps59
    go_wp2_with fail
    refine (IN.out _ HP.out).mono ?_
    rintro e w1 ⟨rfl, b1⟩
    have B1 := Lib.hid ((HB0.out.trans (b1.mono HB0.out.size)).alloc (Nat.le_trans HB0.out.size b1.size) (.cells #[.int .u8 kind, .int .u16 links, .int .u32 size, .int .u16 d0, .int .u16 d1, .int .u16 d2, .int .u16 d3, .int .u16 ind] 43))
    have HY1 := Lib.hid ((HY0.out.later b1).alloc (.cells #[.int .u8 kind, .int .u16 links, .int .u32 size, .int .u16 d0, .int .u16 d1, .int .u16 d2, .int .u16 d3, .int .u16 ind] 43))
    have hX := HY1.out
    clear b1
    have X0 := hX.cell 0
    have X1 := hX.cell 1
    have X2 := hX.cell 2
    have X3 := hX.cell 3
    have X4 := hX.cell 4
    have X5 := hX.cell 5
    have X6 := hX.cell 6
    have X7 := hX.cell 7
    simp only [List.getElem?_toArray, List.getElem?_cons_zero, List.getElem?_cons_succ] at X0 X1 X2 X3 X4 X5 X6 X7
    have Xl := hX.lt
    have F0 := hX.free 0
    have F1 := hX.free 1
    have F2 := hX.free 2
    have F3 := hX.free 3
    have F4 := hX.free 4
    have F5 := hX.free 5
    have F6 := hX.free 6
    have F7 := hX.free 7
    clear hX
    go_wp2
    have h9 := fill8 HY1.out (.int .u8 kind) (.int .u16 links) (.int .u32 size) (.int .u16 d0) (.int .u16 d1) (.int .u16 d2) (.int .u16 d3) (.int .u16 ind)
    have hb9 := fillI_below (v0 := .int .u8 kind) (v1 := .int .u16 links) (v2 := .int .u32 size) (v3 := .int .u16 d0) (v4 := .int .u16 d1) (v5 := .int .u16 d2) (v6 := .int .u16 d3) (v7 := .int .u16 ind) B1.out (Nat.le_refl _)
    unfold fillI at h9 hb9
    have k0 := h9.cell 0
    have k1 := h9.cell 1
    have k2 := h9.cell 2
    have k3 := h9.cell 3
    have k4 := h9.cell 4
    have k5 := h9.cell 5
    have k6 := h9.cell 6
    have k7 := h9.cell 7
    simp only [List.getElem?_toArray, List.getElem?_cons_zero, List.getElem?_cons_succ] at k0 k1 k2 k3 k4 k5 k6 k7
    exact bodyPost_ret (v := .tuple #[.agg #[.int .u8 kind, .int .u16 links, .int .u32 size, .int .u16 d0, .int .u16 d1, .int .u16 d2, .int .u16 d3, .int .u16 ind], .int .i64 0]) (by simp [results, Tryz.results59, go_sem, k0, k1, k2, k3, k4, k5, k6, k7]) rfl ⟨by simp [hk], hb9⟩
set_option maxRecDepth 100000 in
theorem put_is (b : Nat) (s : ByteArray) (w : World) (hs : Small E) (h : IS w E D Z) (h1 : 1 ≤ b) (hb : b ≤ E.bl) (h64 : s.size = 64) (hz : Z (dq E b)) (hQ : FullE E Z → Q) :
    Calls Tryz.prog 68 #[.pointer (some ⟨E.M, 0, none⟩), .int .u16 b, .string s] w (Out (.int .i64 0) (.int .i64 4) (Wr E (upd D (dq E b) s) Z w) (Fu E Q w)) := by
  have hj := hs.hj
  have hlt := dq_lt hs h.len h1 hb
  have hl := h.len4
  have BL := Lib.hid (fun W => Geo.block_any E.i E.bl E.j b W hs.may h1 hb)
  have WR := Lib.hid (fun W (h : IS W E D Z) => write_is (dq E b) s W h (by omega) hlt h64 hz hQ)
  unfold geoV at BL
  rw [show fromG E.i E.bl E.j 5 + b - 1 = dq E b from rfl] at BL
  generalize dq E b = q at *
  have H := Lib.hid h
  have hX := h.img
  have X0 := hX.cell 0
  have X1 := hX.cell 1
  have X2 := hX.cell 2
  have X3 := hX.cell 3
  simp only [List.getElem?_toArray, List.getElem?_cons_zero, List.getElem?_cons_succ] at X0 X1 X2 X3
  have Xl := hX.lt
  clear hX h hz hQ
  go_enter Tryz.func68, Tryz.ntmps68
  go_wp2_with fail
  refine (BL.out _).mono ?_
  rintro e w1 ⟨rfl, b1⟩
  have B1 := Lib.hid b1
  have H1 := Lib.hid (H.out.later B1.out)
  have hX := H1.out.img
  clear X0 X1 X2 X3 Xl b1
  have X0 := hX.cell 0
  have X1 := hX.cell 1
  have X2 := hX.cell 2
  have X3 := hX.cell 3
  simp only [List.getElem?_toArray, List.getElem?_cons_zero, List.getElem?_cons_succ] at X0 X1 X2 X3
  have Xl := hX.lt
  clear hX
  go_wp2_with fail
  refine (WR.out _ H1.out).mono ?_
  rintro e w3 (⟨rfl, G⟩ | ⟨rfl, G⟩)
  · have G := Lib.hid (G.pre B1.out)
    go_wp2
    go_ret
    exact .inl ⟨rfl, G.out⟩
  · have G := Lib.hid (G.pre B1.out)
    go_wp2
    go_ret
    exact .inr ⟨rfl, G.out⟩
/-- Behind a block's taking. -/
def blkD (E : Im) (D : Secs) (b : Nat) : Secs := upd (upd D (fr E 3) (setB (D (fr E 3)) b true)) (dq E b) zS
set_option maxRecDepth 100000 in
set_option maxHeartbeats 1000000 in
theorem block_is (b : Nat) (w : World) (hs : Small E) (h : IS w E D Z) (hL : leastB (D (fr E 3)) (E.bl + 1 : Nat) false = (b, true)) (h1 : 1 ≤ b) (hb : b ≤ E.bl) (hz3 : Z (fr E 3)) (hz : Z (dq E b)) (hQ : FullE E Z → Q) :
    Calls Tryz.prog 39 #[.pointer (some ⟨E.M, 0, none⟩)] w (Out (.tuple #[.int .u16 b, .int .i64 0]) (.tuple #[.int .u16 0, .int .i64 4]) (Wr E (blkD E D b) Z w) (Fu E Q w)) := by
  have hbl := hs.hb
  have hsz := h.sec (fr_lt hs h (.inr rfl))
  have PA := Lib.hid (part_is 3 w hs h (.inr rfl))
  have LE := Lib.hid (fun W => least_any (D (fr E 3)) (E.bl + 1 : Nat) false W (by omega))
  rw [hL] at LE
  have MK := Lib.hid (fun W (h : IS W E D Z) => mark_is 3 b true W hs h (.inr rfl) (by omega) hz3 hQ)
  have PU := Lib.hid (fun W (h : IS W E (upd D (fr E 3) (setB (D (fr E 3)) b true)) Z) => put_is b zS W hs h h1 hb rfl hz hQ)
  unfold blkD
  have H := Lib.hid h
  clear h hL hz hz3 hQ
  generalize upd (upd D (fr E 3) (setB (D (fr E 3)) b true)) (dq E b) zS = D2 at *
  generalize upd D (fr E 3) (setB (D (fr E 3)) b true) = D1 at *
  generalize D (fr E 3) = s at *
  generalize fr E 3 = q at *
  have ub : IntKind.u16.wrap (b : Int) = b := wrap_u16 b (by omega)
  have ul : ((E.bl + 1 : Nat) : Int) = (E.bl : Int) + 1 := by push_cast; rfl
  rw [ul] at LE
  clear ul
  go_enter Tryz.func39, Tryz.ntmps39
  go_wp2_with fail
  refine PA.out.mono ?_
  rintro e w1 ⟨rfl, b1⟩
  have B1 := Lib.hid b1
  have H1 := Lib.hid (H.out.later B1.out)
  have hX := H1.out.img
  clear b1
  have X0 := hX.cell 0
  have X1 := hX.cell 1
  have X2 := hX.cell 2
  have X3 := hX.cell 3
  simp only [List.getElem?_toArray, List.getElem?_cons_zero, List.getElem?_cons_succ] at X0 X1 X2 X3
  have Xl := hX.lt
  clear hX
  go_wp2_with fail
  refine (LE.out _).mono ?_
  rintro e w2 ⟨rfl, b2⟩
  have B2 := Lib.hid (B1.out.trans (b2.mono B1.out.size))
  have H2 := Lib.hid (H.out.later B2.out)
  clear b2 X0 X1 X2 X3 Xl
  go_wp2_with fail
  refine (MK.out _ H2.out).mono ?_
  rintro e w3 (⟨rfl, G⟩ | ⟨rfl, G⟩)
  · have G := Lib.hid (G.pre B2.out)
    go_wp2_with fail
    refine (zero_any _).mono ?_
    rintro e w4 ⟨rfl, b4⟩
    have G4 := Lib.hid (G.out.post b4)
    clear b4
    go_wp2_with fail
    refine (PU.out _ G4.out.1).mono ?_
    rintro e w5 (⟨rfl, G5⟩ | ⟨rfl, G5⟩)
    · have G5 := Lib.hid (G5.then_ G4.out)
      go_wp2
      go_ret2
      exact .inl ⟨rfl, G5.out⟩
    · have G5 := Lib.hid (G5.then_ G4.out)
      go_wp2
      go_ret2
      exact .inr ⟨rfl, G5.out⟩
  · have G := Lib.hid (G.pre B2.out)
    go_wp2
    go_ret2
    exact .inr ⟨rfl, G.out⟩
set_option maxRecDepth 100000 in
theorem block_none (w : World) (hs : Small E) (h : IS w E D Z) (hL : (leastB (D (fr E 3)) (E.bl + 1 : Nat) false).2 = false) :
    Calls Tryz.prog 39 #[.pointer (some ⟨E.M, 0, none⟩)] w fun e w' => e = .returned (.tuple #[.int .u16 0, .int .i64 4]) ∧ Below w.heap.size w w' := by
  have hbl := hs.hb
  have hsz := h.sec (fr_lt hs h (.inr rfl))
  have PA := Lib.hid (part_is 3 w hs h (.inr rfl))
  have LE := Lib.hid (fun W => least_any (D (fr E 3)) (E.bl + 1 : Nat) false W (by omega))
  rw [hL] at LE
  have H := Lib.hid h
  clear h hL
  generalize (leastB (D (fr E 3)) (E.bl + 1 : Nat) false).1 = b at *
  generalize D (fr E 3) = s at *
  generalize fr E 3 = q at *
  have ul : ((E.bl + 1 : Nat) : Int) = (E.bl : Int) + 1 := by push_cast; rfl
  rw [ul] at LE
  clear ul
  go_enter Tryz.func39, Tryz.ntmps39
  go_wp2_with fail
  refine PA.out.mono ?_
  rintro e w1 ⟨rfl, b1⟩
  have B1 := Lib.hid b1
  have H1 := Lib.hid (H.out.later B1.out)
  have hX := H1.out.img
  clear b1
  have X0 := hX.cell 0
  have X1 := hX.cell 1
  have X2 := hX.cell 2
  have X3 := hX.cell 3
  simp only [List.getElem?_toArray, List.getElem?_cons_zero, List.getElem?_cons_succ] at X0 X1 X2 X3
  have Xl := hX.lt
  clear hX
  go_wp2_with fail
  refine (LE.out _).mono ?_
  rintro e w2 ⟨rfl, b2⟩
  have B2 := Lib.hid (B1.out.trans (b2.mono B1.out.size))
  clear b2 X0 X1 X2 X3 Xl
  go_wp2
  go_ret2
  exact ⟨rfl, B2.out⟩
end
end Go.Proofs.YtpnfkilfgdnogaaGreatDoor.Img
