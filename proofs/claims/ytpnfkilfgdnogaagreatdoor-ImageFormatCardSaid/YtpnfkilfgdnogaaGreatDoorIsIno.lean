/- Layer 11 (image): an inode read, and written. -/
import Derived.Test.YtpnfkilfgdnogaaGreatDoorIsBits
import Derived.Test.YtpnfkilfgdnogaaGreatDoorInoGet
namespace Go.Proofs.YtpnfkilfgdnogaaGreatDoor.Img
set_option linter.unusedVariables false
set_option linter.unusedSimpArgs false
open Go.RowKit Go.Shelf Go.Maps Oct Dev Jou Tx Geo Ino
/-- The sector of an inode, and where it lies there. -/
def tq (E : Im) (n : Nat) : Nat := fr E 4 + (n - 1) / 2
def io_ (n : Nat) : Nat := (n - 1) % 2 * 32
def InoIs (E : Im) (D : Secs) (n : Nat) (x : InoT) : Prop := (D (tq E n)).extract (io_ n) (io_ n + 32) = inoB x
def setIno (E : Im) (D : Secs) (n : Nat) (x : InoT) : Secs := upd D (tq E n) (patchS (D (tq E n)) (io_ n) (inoB x))
section
variable {E : Im} {D : Secs} {Z : Nat → Prop} {Q : Prop}
theorem tq_lt {n : Nat} (hs : Small E) (hl : E.hard.length = (szL E.i E.bl E.j).sum) (h1 : 1 ≤ n) (hn : n ≤ E.i) : tq E n < E.hard.length := by
  have hv := hs.vals
  unfold tq
  rw [hl]
  omega
theorem patch_same (s t : ByteArray) (a : Nat) (h : a + t.size ≤ s.size) : (patchS s a t).extract a (a + t.size) = t := by
  apply L_inj
  rw [ext_B, L_B]
  unfold patchS
  rw [append_B, append_B, ext_B, ext_B]
  simp only [L_B, List.drop_zero, Nat.sub_zero]
  have h1 : (List.take a (L s)).length = a := by rw [List.length_take, len_L]; omega
  rw [List.append_assoc, List.drop_append_of_le_length (by omega), List.drop_of_length_le (by omega), List.nil_append, Nat.add_sub_cancel_left, List.take_append_of_le_length (by rw [len_L]; omega)]
  exact List.take_of_length_le (by rw [len_L]; omega)
theorem patch_before (s t : ByteArray) (a b c : Nat) (h : a + t.size ≤ s.size) (hc : c ≤ a) : (patchS s a t).extract b c = s.extract b c := by
  apply L_inj
  rw [ext_B, ext_B, L_B, L_B]
  unfold patchS
  rw [append_B, append_B, ext_B, ext_B]
  simp only [L_B, List.drop_zero, Nat.sub_zero]
  apply List.ext_getElem?
  intro k
  simp only [List.getElem?_take, List.getElem?_drop]
  by_cases hk : k < c - b
  · rw [if_pos hk, if_pos hk, List.append_assoc, List.getElem?_append_left (by rw [List.length_take, len_L]; omega), List.getElem?_take, if_pos (by omega)]
  · rw [if_neg hk, if_neg hk]
theorem patch_after (s t : ByteArray) (a b c : Nat) (h : a + t.size ≤ s.size) (hb : a + t.size ≤ b) : (patchS s a t).extract b c = s.extract b c := by
  apply L_inj
  rw [ext_B, ext_B, L_B, L_B]
  unfold patchS
  rw [append_B, append_B, ext_B, ext_B]
  simp only [L_B, List.drop_zero, Nat.sub_zero]
  apply List.ext_getElem?
  intro k
  simp only [List.getElem?_take, List.getElem?_drop]
  by_cases hk : k < c - b
  · rw [if_pos hk, if_pos hk, List.getElem?_append_right (by rw [List.length_append, List.length_take, len_L, len_L]; omega), List.length_append, List.length_take, len_L, len_L]
    simp only [List.getElem?_take, List.getElem?_drop]
    by_cases h3 : b + k - (min a s.size + t.size) < s.size - (a + t.size)
    · rw [if_pos h3]
      congr 1
      omega
    · rw [if_neg h3, List.getElem?_eq_none (by rw [len_L]; omega)]
  · rw [if_neg hk, if_neg hk]
theorem setIno_same {n : Nat} {x : InoT} (h : (D (tq E n)).size = 64) : InoIs E (setIno E D n x) n x := by
  unfold InoIs setIno
  rw [upd_same]
  have e := patch_same (D (tq E n)) (inoB x) (io_ n) (by rw [inoB_size, h]; unfold io_; omega)
  rw [inoB_size] at e
  exact e
theorem setIno_other {n m : Nat} {x y : InoT} (h : (D (tq E n)).size = 64) (h1 : 1 ≤ n) (h2 : 1 ≤ m) (hne : n ≠ m) (hy : InoIs E D m y) : InoIs E (setIno E D n x) m y := by
  unfold InoIs setIno at *
  by_cases hq : tq E m = tq E n
  · rw [hq, upd_same]
    rw [hq] at hy
    have hz := inoB_size x
    by_cases hlt : io_ n < io_ m
    · rw [patch_after _ _ _ _ _ (by rw [hz, h]; unfold io_; omega) (by rw [hz]; unfold io_ at *; omega)]
      exact hy
    · rw [patch_before _ _ _ _ _ (by rw [hz, h]; unfold io_; omega) (by unfold io_ tq at *; omega)]
      exact hy
  · rw [upd_ne _ _ hq]
    exact hy
theorem InoIs.upd {n q : Nat} {x : InoT} {s : ByteArray} (h : InoIs E D n x) (hq : tq E n ≠ q) : InoIs E (upd D q s) n x := by
  unfold InoIs at *
  rw [upd_ne _ _ hq]
  exact h
theorem setIno_q {n q : Nat} {x : InoT} (hq : q ≠ tq E n) : setIno E D n x q = D q := upd_ne _ _ hq
set_option maxRecDepth 100000 in
set_option maxHeartbeats 2000000 in
theorem inode_is (n : Nat) (x : InoT) (w : World) (hs : Small E) (h : IS w E D Z) (h1 : 1 ≤ n) (hn : n ≤ E.i) (hx : InoIs E D n x) (ho : x.Ok) :
    Calls Tryz.prog 15 #[.pointer (some ⟨E.M, 0, none⟩), .int .u32 n] w fun e w' => e = .returned (.tuple #[x.val, .int .i64 0]) ∧ Below w.heap.size w w' := by
  have hlt := tq_lt hs h.len h1 hn
  have hl := h.len4
  have hsz := h.sec hlt
  have IN := Lib.hid (fun W => Geo.inode_any E.i E.bl E.j n W hs.may h1 hn)
  have RD := Lib.hid (fun W (h : IS W E D Z) => read_is (tq E n) W h hlt)
  have GE := Lib.hid (fun W => get_ino x W ho)
  unfold geoV at IN
  rw [show fromG E.i E.bl E.j 4 + (n - 1) / 2 = tq E n from rfl, show (n - 1) % 2 * 32 = io_ n from rfl] at IN
  have ht : io_ n ≤ 32 := by unfold io_; omega
  unfold InoIs at hx
  have H := Lib.hid h
  have hX := h.img
  have X0 := hX.cell 0
  have X1 := hX.cell 1
  have X2 := hX.cell 2
  have X3 := hX.cell 3
  simp only [List.getElem?_toArray, List.getElem?_cons_zero, List.getElem?_cons_succ] at X0 X1 X2 X3
  have Xl := hX.lt
  clear hX h ho
  obtain ⟨kind, links, size, d0, d1, d2, d3, ind⟩ := x
  generalize inoB ⟨kind, links, size, d0, d1, d2, d3, ind⟩ = s32 at *
  unfold InoT.val at *
  generalize D (tq E n) = s at *
  generalize tq E n = q at *
  generalize io_ n = o at *
  have HB0 := Lib.hid ((Below.refl _ w).alloc (Nat.le_refl _) (.cells #[.int .u8 0, .int .u16 0, .int .u32 0, .int .u16 0, .int .u16 0, .int .u16 0, .int .u16 0, .int .u16 0] 43))
  have HY0 := Lib.hid (SBox.new w 43 #[.int .u8 0, .int .u16 0, .int .u32 0, .int .u16 0, .int .u16 0, .int .u16 0, .int .u16 0, .int .u16 0])
  have q1 : (o : Int) ≤ 64 := by omega
  have q2 : (o : Int) + 32 ≤ s.size := by omega
  have q3 : o + 32 ≤ s.size := by omega
  have q4 : o + 32 ≤ 64 := by omega
  go_enter Tryz.func15, Tryz.ntmps15
  go_wp2_with fail
  refine (IN.out _).mono ?_
  rintro e w1 ⟨rfl, b1⟩
  have B1 := Lib.hid (HB0.out.trans (b1.mono HB0.out.size))
  have H1 := Lib.hid (H.out.later B1.out)
  have HY1 := Lib.hid (HY0.out.later b1)
  have hX := H1.out.img
  have Y0 := hX.cell 0
  have Y1 := hX.cell 1
  have Y2 := hX.cell 2
  have Y3 := hX.cell 3
  simp only [List.getElem?_toArray, List.getElem?_cons_zero, List.getElem?_cons_succ] at Y0 Y1 Y2 Y3
  have Yl := hX.lt
  clear hX b1 X0 X1 X2 X3 Xl
  go_wp2_with fail
  refine (RD.out _ H1.out).mono ?_
  rintro e w2 ⟨rfl, b2⟩
  have B2 := Lib.hid (B1.out.trans (b2.mono B1.out.size))
  have HY2 := Lib.hid (HY1.out.later b2)
  clear b2 Y0 Y1 Y2 Y3 Yl
  go_wp2_with fail
  refine (GE.out _).mono ?_
  rintro e w3 ⟨rfl, b3⟩
  have B3 := Lib.hid (B2.out.trans (b3.mono B2.out.size))
  have HY3 := Lib.hid (HY2.out.later b3)
  have hX := HY3.out
  clear b3
  have X0 := hX.cell 0
  have X1 := hX.cell 1
  have X2 := hX.cell 2
  have X3 := hX.cell 3
  have X4 := hX.cell 4
  have X5 := hX.cell 5
  have X6 := hX.cell 6
  have X7 := hX.cell 7
  simp only [List.getElem?_toArray, List.getElem?_cons_zero, List.getElem?_cons_succ] at X0 X1 X2 X3 X4 X5 X6 X7
  have Xl := hX.lt
  have F0 := hX.free 0
  have F1 := hX.free 1
  have F2 := hX.free 2
  have F3 := hX.free 3
  have F4 := hX.free 4
  have F5 := hX.free 5
  have F6 := hX.free 6
  have F7 := hX.free 7
  clear hX
  go_wp2
  have h9 := fill8 HY3.out (.int .u8 kind) (.int .u16 links) (.int .u32 size) (.int .u16 d0) (.int .u16 d1) (.int .u16 d2) (.int .u16 d3) (.int .u16 ind)
  have hb9 : Below w.heap.size w (fillI w3 w.heap.size (.int .u8 kind) (.int .u16 links) (.int .u32 size) (.int .u16 d0) (.int .u16 d1) (.int .u16 d2) (.int .u16 d3) (.int .u16 ind)) := fillI_below B3.out (Nat.le_refl _)
  unfold fillI at h9 hb9
  have k0 := h9.cell 0
  have k1 := h9.cell 1
  have k2 := h9.cell 2
  have k3 := h9.cell 3
  have k4 := h9.cell 4
  have k5 := h9.cell 5
  have k6 := h9.cell 6
  have k7 := h9.cell 7
  simp only [List.getElem?_toArray, List.getElem?_cons_zero, List.getElem?_cons_succ] at k0 k1 k2 k3 k4 k5 k6 k7
  exact bodyPost_ret (v := .tuple #[.agg #[.int .u8 kind, .int .u16 links, .int .u32 size, .int .u16 d0, .int .u16 d1, .int .u16 d2, .int .u16 d3, .int .u16 ind], .int .i64 0]) (by simp [results, Tryz.results15, go_sem, k0, k1, k2, k3, k4, k5, k6, k7]) rfl ⟨rfl, hb9⟩
set_option maxRecDepth 100000 in
set_option maxHeartbeats 2000000 in
theorem setInode_is (n : Nat) (x : InoT) (w : World) (hs : Small E) (h : IS w E D Z) (h1 : 1 ≤ n) (hn : n ≤ E.i) (ho : x.Ok) (hz : Z (tq E n)) (hQ : FullE E Z → Q) :
    Calls Tryz.prog 20 #[.pointer (some ⟨E.M, 0, none⟩), .int .u32 n, x.val] w (Out (.int .i64 0) (.int .i64 4) (Wr E (setIno E D n x) Z w) (Fu E Q w)) := by
  have hj := hs.hj
  have hlt := tq_lt hs h.len h1 hn
  have hl := h.len4
  have IN := Lib.hid (fun W => Geo.inode_any E.i E.bl E.j n W hs.may h1 hn)
  have PU := Lib.hid (fun W => put_ino x W ho)
  have PA := Lib.hid (fun W (h : IS W E D Z) => patch_is (tq E n) (io_ n) (inoB x) W h (by omega) hlt (by rw [inoB_size]; unfold io_; omega) hz hQ)
  unfold geoV at IN
  rw [show fromG E.i E.bl E.j 4 + (n - 1) / 2 = tq E n from rfl, show (n - 1) % 2 * 32 = io_ n from rfl] at IN
  unfold setIno
  have ht : io_ n ≤ 32 := by unfold io_; omega
  have H := Lib.hid h
  have hX := h.img
  have X0 := hX.cell 0
  have X1 := hX.cell 1
  have X2 := hX.cell 2
  have X3 := hX.cell 3
  simp only [List.getElem?_toArray, List.getElem?_cons_zero, List.getElem?_cons_succ] at X0 X1 X2 X3
  have Xl := hX.lt
  clear hX h hz hQ
  generalize upd D (tq E n) (patchS (D (tq E n)) (io_ n) (inoB x)) = D2 at *
  generalize tq E n = q at *
  generalize io_ n = o at *
  unfold InoT.val at *
  obtain ⟨kind, links, size, d0, d1, d2, d3, ind⟩ := x
  generalize inoB ⟨kind, links, size, d0, d1, d2, d3, ind⟩ = s32 at *
  have HB0 := Lib.hid ((Below.refl _ w).alloc (Nat.le_refl _) (.cells #[.int .u8 kind, .int .u16 links, .int .u32 size, .int .u16 d0, .int .u16 d1, .int .u16 d2, .int .u16 d3, .int .u16 ind] 43))
  have HY0 := Lib.hid (SBox.new w 43 #[.int .u8 kind, .int .u16 links, .int .u32 size, .int .u16 d0, .int .u16 d1, .int .u16 d2, .int .u16 d3, .int .u16 ind])
  go_enter Tryz.func20, Tryz.ntmps20
  go_wp2_with fail
  refine (IN.out _).mono ?_
  rintro e w1 ⟨rfl, b1⟩
  have B1 := Lib.hid (HB0.out.trans (b1.mono HB0.out.size))
  have HY1 := HY0.out.later b1
  have H1 := Lib.hid (H.out.later B1.out)
  have X0 := HY1.cell 0
  have X1 := HY1.cell 1
  have X2 := HY1.cell 2
  have X3 := HY1.cell 3
  have X4 := HY1.cell 4
  have X5 := HY1.cell 5
  have X6 := HY1.cell 6
  have X7 := HY1.cell 7
  simp only [List.getElem?_toArray, List.getElem?_cons_zero, List.getElem?_cons_succ] at X0 X1 X2 X3 X4 X5 X6 X7
  have Xl := HY1.lt
  clear HY1 b1
  go_wp2_with fail
  refine (PU.out _).mono ?_
  rintro e w2 ⟨rfl, b2⟩
  have B2 := Lib.hid (B1.out.trans (b2.mono B1.out.size))
  have H2 := Lib.hid (H.out.later B2.out)
  have hX := H2.out.img
  clear X0 X1 X2 X3 X4 X5 X6 X7 Xl b2
  have X0 := hX.cell 0
  have X1 := hX.cell 1
  have X2 := hX.cell 2
  have X3 := hX.cell 3
  simp only [List.getElem?_toArray, List.getElem?_cons_zero, List.getElem?_cons_succ] at X0 X1 X2 X3
  have Xl := hX.lt
  clear hX
  go_wp2_with fail
  refine (PA.out _ H2.out).mono ?_
  rintro e w3 (⟨rfl, G⟩ | ⟨rfl, G⟩)
  · have G := Lib.hid (G.pre B2.out)
    go_wp2
    go_ret
    exact .inl ⟨rfl, G.out⟩
  · have G := Lib.hid (G.pre B2.out)
    go_wp2
    go_ret
    exact .inr ⟨rfl, G.out⟩
end
end Go.Proofs.YtpnfkilfgdnogaaGreatDoor.Img
