/- Layer 11 (image): is, mark, Taken, Take, TakenBlock, GiveBlock. -/
import Derived.Test.YtpnfkilfgdnogaaGreatDoorIs
namespace Go.Proofs.YtpnfkilfgdnogaaGreatDoor.Img
set_option linter.unusedVariables false
set_option linter.unusedSimpArgs false
open Go.RowKit Go.Shelf Go.Maps Oct Dev Jou Tx Geo
theorem ext_all (s : ByteArray) (n : Nat) (h : s.size = n) : s.extract 0 n = s := by
  subst h
  exact ByteArray.extract_zero_size
section
variable {E : Im} {D : Secs} {Z : Nat → Prop} {Q : Prop}
theorem fr_lt {w : World} {p : Nat} (hs : Small E) (h : IS w E D Z) (hp : p = 2 ∨ p = 3) : fr E p < E.hard.length := by
  have hv := hs.vals
  rw [h.len]; rcases hp with rfl | rfl <;> omega
set_option maxRecDepth 100000 in
theorem is_is (p n : Nat) (w : World) (hs : Small E) (h : IS w E D Z) (hp : p = 2 ∨ p = 3) (hn : n < 512) :
    Calls Tryz.prog 89 #[.pointer (some ⟨E.M, 0, none⟩), .int .i64 p, .int .i64 n] w fun e w' => e = .returned (.tuple #[.bool (bitB (D (fr E p)) n), .int .i64 0]) ∧ Below w.heap.size w w' := by
  have hsz := h.sec (fr_lt hs h hp)
  have PA := Lib.hid (part_is p w hs h hp)
  have GE := Lib.hid (fun W => get_yes (D (fr E p)) n W (by omega) (by omega))
  clear h
  generalize D (fr E p) = s at *
  generalize fr E p = q at *
  go_enter Tryz.func89, Tryz.ntmps89
  go_wp2_with fail
  refine PA.out.mono ?_
  rintro e w1 ⟨rfl, b1⟩
  go_wp2_with fail
  refine (GE.out _).mono ?_
  rintro e w9 ⟨rfl, rfl⟩
  go_wp2
  go_ret2
  exact ⟨rfl, b1⟩
set_option maxRecDepth 100000 in
set_option maxHeartbeats 1000000 in
theorem mark_is (p n : Nat) (on : Bool) (w : World) (hs : Small E) (h : IS w E D Z) (hp : p = 2 ∨ p = 3) (hn : n < 512) (hz : Z (fr E p)) (hQ : FullE E Z → Q) :
    Calls Tryz.prog 62 #[.pointer (some ⟨E.M, 0, none⟩), .int .i64 p, .int .i64 n, .bool on] w (Out (.int .i64 0) (.int .i64 4) (Wr E (upd D (fr E p) (setB (D (fr E p)) n on)) Z w) (Fu E Q w)) := by
  have hj := hs.hj
  have hlt := fr_lt hs h hp
  have hsz := h.sec hlt
  have hl := h.len4
  have PA := Lib.hid (part_is p w hs h hp)
  have SE := Lib.hid (fun W => set_yes (D (fr E p)) n on W (by omega) (by omega))
  have hz2 : (setB (D (fr E p)) n on).size = 64 := by rw [size_setB]; exact hsz
  have WR := Lib.hid (fun W (h : IS W E D Z) => write_is (fr E p) (setB (D (fr E p)) n on) W h (by omega) hlt hz2 hz hQ)
  have H := Lib.hid h
  clear h hz hQ
  generalize setB (D (fr E p)) n on = s2 at *
  generalize D (fr E p) = s at *
  generalize fr E p = q at *
  go_enter Tryz.func62, Tryz.ntmps62
  go_wp2_with fail
  refine PA.out.mono ?_
  rintro e w1 ⟨rfl, b1⟩
  go_wp2_with fail
  refine (SE.out _).mono ?_
  rintro e w2 ⟨rfl, b2⟩
  have B2 := Lib.hid (b1.trans (b2.mono b1.size))
  clear b1 b2
  have d0 : (n : Int) / 512 = 0 := by omega
  go_wp2_with fail
  have ex := ext_all s2 64 hz2
  have hX := (H.out.later B2.out).img
  have hX := hX.drew
  have V0 := hX.cell 0
  have V1 := hX.cell 1
  have V2 := hX.cell 2
  have V3 := hX.cell 3
  simp only [List.getElem?_toArray, List.getElem?_cons_zero, List.getElem?_cons_succ] at V0 V1 V2 V3
  have Vl := hX.lt
  clear hX
  have wz0 : IntKind.i64.wrap (q : Int) = q := IntWalk.i64_in _ (by omega)
  have wz1 : IntKind.i64.wrap ((q : Int) + 0) = q := IntWalk.i64_in _ (by omega)
  have u0 : IntKind.i64.wrap 0 = 0 := by decide
  have u1 : IntKind.i64.wrap 1 = 1 := by decide
  have u2 : IntKind.i64.wrap 64 = 64 := by decide
  have u3 : IntKind.i64.wrap (1 * 64) = 64 := by decide
  have ez : (0 : Int).toNat = 0 := rfl
  have e6 : (64 : Int).toNat = 64 := rfl
  refine wp_region_still_tail 15 (by kernel_rfl) (by kernel_rfl) ?_
  simp only [List.take_succ_cons, List.take_zero, List.drop_succ_cons, List.drop_zero]
  change wpStill _ _ w2.drew _ _ _
  generalize w2.drew = W3 at *
  repeat still_step
  refine wpStill_nil ?_
  change wpList _ _ _ _ _ w2.drew
  have WR2 := Lib.hid (WR.out _ (H.out.later B2.out.drew))
  have HB3 := Lib.hid B2.out.drew
  generalize w2.drew = W4 at *
  go_wp2_with fail
  refine WR2.out.mono ?_
  rintro e w5 (⟨rfl, G5⟩ | ⟨rfl, G5⟩)
  · have G5 := Lib.hid (G5.pre HB3.out)
    go_wp2
    go_ret
    exact .inl ⟨rfl, G5.out⟩
  · have G5 := Lib.hid (G5.pre HB3.out)
    go_wp2
    go_ret
    exact .inr ⟨rfl, G5.out⟩
set_option maxRecDepth 100000 in
theorem taken_is (n : Nat) (w : World) (hs : Small E) (h : IS w E D Z) (h1 : 1 ≤ n) (hn : n ≤ E.i) :
    Calls Tryz.prog 61 #[.pointer (some ⟨E.M, 0, none⟩), .int .u32 n] w fun e w' => e = .returned (.tuple #[.bool (bitB (D (fr E 2)) n), .int .i64 0]) ∧ Below w.heap.size w w' := by
  have hi := hs.hi
  have IN := Lib.hid (fun W => Geo.inode_any E.i E.bl E.j n W hs.may h1 hn)
  have IS_ := Lib.hid (fun W (h : IS W E D Z) => is_is 2 n W hs h (.inl rfl) (by omega))
  unfold geoV at IN
  generalize bitB (D (fr E 2)) n = bb at *
  have H := Lib.hid h
  have hX := h.img
  have X0 := hX.cell 0
  have X1 := hX.cell 1
  have X2 := hX.cell 2
  have X3 := hX.cell 3
  simp only [List.getElem?_toArray, List.getElem?_cons_zero, List.getElem?_cons_succ] at X0 X1 X2 X3
  have Xl := hX.lt
  clear hX h
  go_enter Tryz.func61, Tryz.ntmps61
  go_wp2_with fail
  refine (IN.out _).mono ?_
  rintro e w1 ⟨rfl, b1⟩
  have B1 := Lib.hid b1
  clear b1
  go_wp2_with fail
  refine (IS_.out _ (H.out.later B1.out)).mono ?_
  rintro e w2 ⟨rfl, b2⟩
  go_wp2
  go_ret2
  exact ⟨rfl, B1.out.trans (b2.mono B1.out.size)⟩
set_option maxRecDepth 100000 in
theorem take_is (n : Nat) (w : World) (hs : Small E) (h : IS w E D Z) (h1 : 1 ≤ n) (hn : n ≤ E.i) (hb : bitB (D (fr E 2)) n = false) (hz : Z (fr E 2)) (hQ : FullE E Z → Q) :
    Calls Tryz.prog 19 #[.pointer (some ⟨E.M, 0, none⟩), .int .u32 n] w (Out (.int .i64 0) (.int .i64 4) (Wr E (upd D (fr E 2) (setB (D (fr E 2)) n true)) Z w) (Fu E Q w)) := by
  have hi := hs.hi
  have TK := Lib.hid (taken_is n w hs h h1 hn)
  rw [hb] at TK
  have MK := Lib.hid (fun W (h : IS W E D Z) => mark_is 2 n true W hs h (.inl rfl) (by omega) hz hQ)
  have H := Lib.hid h
  generalize upd D (fr E 2) (setB (D (fr E 2)) n true) = f2 at *
  clear h hb hz hQ
  go_enter Tryz.func19, Tryz.ntmps19
  go_wp2_with fail
  refine TK.out.mono ?_
  rintro e w1 ⟨rfl, b1⟩
  have H2 := Lib.hid (H.out.later b1)
  have B1 := Lib.hid b1
  clear b1
  go_wp2_with fail
  refine (MK.out _ H2.out).mono ?_
  rintro e w2 (⟨rfl, G⟩ | ⟨rfl, G⟩)
  · have G := Lib.hid (G.pre B1.out)
    go_wp2
    go_ret
    exact .inl ⟨rfl, G.out⟩
  · have G := Lib.hid (G.pre B1.out)
    go_wp2
    go_ret
    exact .inr ⟨rfl, G.out⟩
set_option maxRecDepth 100000 in
theorem take_have (n : Nat) (w : World) (hs : Small E) (h : IS w E D Z) (h1 : 1 ≤ n) (hn : n ≤ E.i) (hb : bitB (D (fr E 2)) n = true) :
    Calls Tryz.prog 19 #[.pointer (some ⟨E.M, 0, none⟩), .int .u32 n] w fun e w' => e = .returned (.int .i64 9) ∧ Below w.heap.size w w' := by
  have TK := Lib.hid (taken_is n w hs h h1 hn)
  rw [hb] at TK
  clear h hb
  go_enter Tryz.func19, Tryz.ntmps19
  go_wp2_with fail
  refine TK.out.mono ?_
  rintro e w1 ⟨rfl, b1⟩
  go_wp2
  go_ret
  exact ⟨rfl, b1⟩
set_option maxRecDepth 100000 in
theorem takenBlock_is (n : Nat) (w : World) (hs : Small E) (h : IS w E D Z) (h1 : 1 ≤ n) (hn : n ≤ E.bl) :
    Calls Tryz.prog 37 #[.pointer (some ⟨E.M, 0, none⟩), .int .u16 n] w fun e w' => e = .returned (.tuple #[.bool (bitB (D (fr E 3)) n), .int .i64 0]) ∧ Below w.heap.size w w' := by
  have hi := hs.hb
  have IN := Lib.hid (fun W => Geo.block_any E.i E.bl E.j n W hs.may h1 hn)
  have IS_ := Lib.hid (fun W (h : IS W E D Z) => is_is 3 n W hs h (.inr rfl) (by omega))
  unfold geoV at IN
  generalize bitB (D (fr E 3)) n = bb at *
  have H := Lib.hid h
  have hX := h.img
  have X0 := hX.cell 0
  have X1 := hX.cell 1
  have X2 := hX.cell 2
  have X3 := hX.cell 3
  simp only [List.getElem?_toArray, List.getElem?_cons_zero, List.getElem?_cons_succ] at X0 X1 X2 X3
  have Xl := hX.lt
  clear hX h
  go_enter Tryz.func37, Tryz.ntmps37
  go_wp2_with fail
  refine (IN.out _).mono ?_
  rintro e w1 ⟨rfl, b1⟩
  have B1 := Lib.hid b1
  clear b1
  go_wp2_with fail
  refine (IS_.out _ (H.out.later B1.out)).mono ?_
  rintro e w2 ⟨rfl, b2⟩
  go_wp2
  go_ret2
  exact ⟨rfl, B1.out.trans (b2.mono B1.out.size)⟩
set_option maxRecDepth 100000 in
theorem giveBlock_is (n : Nat) (w : World) (hs : Small E) (h : IS w E D Z) (h1 : 1 ≤ n) (hn : n ≤ E.bl) (hb : bitB (D (fr E 3)) n = true) (hz : Z (fr E 3)) (hQ : FullE E Z → Q) :
    Calls Tryz.prog 38 #[.pointer (some ⟨E.M, 0, none⟩), .int .u16 n] w (Out (.int .i64 0) (.int .i64 4) (Wr E (upd D (fr E 3) (setB (D (fr E 3)) n false)) Z w) (Fu E Q w)) := by
  have hi := hs.hb
  have TK := Lib.hid (takenBlock_is n w hs h h1 hn)
  rw [hb] at TK
  have MK := Lib.hid (fun W (h : IS W E D Z) => mark_is 3 n false W hs h (.inr rfl) (by omega) hz hQ)
  have H := Lib.hid h
  generalize upd D (fr E 3) (setB (D (fr E 3)) n false) = f2 at *
  clear h hb hz hQ
  go_enter Tryz.func38, Tryz.ntmps38
  go_wp2_with fail
  refine TK.out.mono ?_
  rintro e w1 ⟨rfl, b1⟩
  have H2 := Lib.hid (H.out.later b1)
  have B1 := Lib.hid b1
  clear b1
  go_wp2_with fail
  refine (MK.out _ H2.out).mono ?_
  rintro e w2 (⟨rfl, G⟩ | ⟨rfl, G⟩)
  · have G := Lib.hid (G.pre B1.out)
    go_wp2
    go_ret
    exact .inl ⟨rfl, G.out⟩
  · have G := Lib.hid (G.pre B1.out)
    go_wp2
    go_ret
    exact .inr ⟨rfl, G.out⟩
end
end Go.Proofs.YtpnfkilfgdnogaaGreatDoor.Img
