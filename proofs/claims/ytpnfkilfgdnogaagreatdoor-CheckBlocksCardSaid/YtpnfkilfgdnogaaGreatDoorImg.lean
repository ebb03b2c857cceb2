/- Layer 11 (image): an image in memory, on a transaction; New, part. -/
import Derived.Test.YtpnfkilfgdnogaaGreatDoorTxPatch
import Derived.Test.YtpnfkilfgdnogaaGreatDoorGeoM
import Derived.Test.YtpnfkilfgdnogaaGreatDoorInode0
import Derived.Deep.RegionHeld3
namespace Go.Proofs.YtpnfkilfgdnogaaGreatDoor.Img
set_option linter.unusedVariables false
set_option linter.unusedSimpArgs false
open Go.RowKit Go.Shelf Go.Maps Oct Dev Jou Tx Geo
structure Im where
  M : Nat
  T : TxB
  b : DevB
  hard : List ByteArray
  k : Nat
  i : Nat
  bl : Nat
  j : Nat
structure Small (E : Im) : Prop where
  may : mayG E.i E.bl E.j = true
  hi : E.i ≤ 30
  hb : E.bl ≤ 60
  hj : E.j ≤ 60
theorem Small.num2 {E : Im} (h : Small E) : numG E.i E.bl E.j 2 = 1 := by
  have h0 := h.hi
  show upN (E.i + 1) 512 = 1
  unfold upN
  omega
theorem Small.num3 {E : Im} (h : Small E) : numG E.i E.bl E.j 3 = 1 := by
  have h0 := h.hb
  show upN (E.bl + 1) 512 = 1
  unfold upN
  omega
def fr (E : Im) (p : Nat) : Nat := fromG E.i E.bl E.j p
structure ImAt (W : World) (E : Im) (f : Wrote) (nn : Nat) : Prop where
  img : SBox W E.M 119 #[.pointer (some ⟨E.T.p, 0, none⟩), .int .i64 E.i, .int .i64 E.bl, .int .i64 E.j]
  tj : TJ W E.T E.b E.hard E.k f nn 1 E.j
  len : E.hard.length = (szL E.i E.bl E.j).sum
  sec : ∀ q, q < E.hard.length → (readT f E.hard q).size = 64
theorem ImAt.later {W W' : World} {E : Im} {f : Wrote} {nn : Nat} (h : ImAt W E f nn) (hb : Below W.heap.size W W') : ImAt W' E f nn := ⟨h.img.later hb, h.tj.later hb, h.len, h.sec⟩
theorem fr_vals (E : Im) : fr E 0 = 0 ∧ fr E 1 = 1 ∧ fr E 2 = 1 + E.j ∧ fr E 3 = 1 + E.j + upN (E.i + 1) 512 ∧ fr E 4 = 1 + E.j + upN (E.i + 1) 512 + upN (E.bl + 1) 512 ∧ fr E 5 = 1 + E.j + upN (E.i + 1) 512 + upN (E.bl + 1) 512 + upN E.i 2 ∧ (szL E.i E.bl E.j).sum = 1 + E.j + upN (E.i + 1) 512 + upN (E.bl + 1) 512 + upN E.i 2 + E.bl := by
  unfold fr fromG szL
  simp
  omega
theorem Small.vals {E : Im} (h : Small E) : fr E 1 = 1 ∧ fr E 2 = 1 + E.j ∧ fr E 3 = 2 + E.j ∧ fr E 4 = 3 + E.j ∧ fr E 5 = 3 + E.j + (E.i + 1) / 2 ∧ (szL E.i E.bl E.j).sum = 3 + E.j + (E.i + 1) / 2 + E.bl ∧ 2 ≤ E.i ∧ 8 ≤ E.bl ∧ 40 ≤ E.j := by
  obtain ⟨h0, h1, h2, h3, h4, h5, h6⟩ := fr_vals E
  have q2 : upN (E.i + 1) 512 = 1 := h.num2
  have q3 : upN (E.bl + 1) 512 = 1 := h.num3
  have q4 : upN E.i 2 = (E.i + 1) / 2 := by unfold upN; omega
  have hm := h.may
  have hm2 : 2 ≤ E.i ∧ 8 ≤ E.bl ∧ 40 ≤ E.j := by
    simp only [mayG, inR, Bool.and_eq_true, decide_eq_true_eq] at hm
    omega
  omega
def Held2 (wr : World) (p0 p1 : Addr) (v0 v1 : Option Value) (W : World) : Prop := Below wr.heap.size wr W ∧ W.cell? p0 = v0 ∧ W.cell? p1 = v1
theorem Held2.keep {wr W W' : World} {p0 p1 : Addr} {v0 v1 : Option Value} (h0 : p0.block < wr.heap.size) (h1 : p1.block < wr.heap.size) (h : Held2 wr p0 p1 v0 v1 W) (b9 : Below W.heap.size W W') : Held2 wr p0 p1 v0 v1 W' := by
  have hs := h.1.size
  exact ⟨h.1.trans (b9.mono hs), (b9.cell (Nat.lt_of_lt_of_le h0 hs)).trans h.2.1, (b9.cell (Nat.lt_of_lt_of_le h1 hs)).trans h.2.2⟩
set_option maxRecDepth 100000 in
set_option maxHeartbeats 1000000 in
theorem part_any (E : Im) (f : Wrote) (nn p : Nat) (w : World) (hs : Small E) (h : ImAt w E f nn) (hp : p = 2 ∨ p = 3) :
    Calls Tryz.prog 54 #[.pointer (some ⟨E.M, 0, none⟩), .int .i64 p] w fun e w' => e = .returned (.tuple #[.string (readT f E.hard (fr E p)), .int .i64 (fr E p), .int .i64 0]) ∧ Below w.heap.size w w' := by
  have hn : numG E.i E.bl E.j p = 1 := by rcases hp with rfl | rfl; exact hs.num2; exact hs.num3
  have hv := hs.vals
  have hlt : fr E p < E.hard.length := by rw [h.len]; rcases hp with rfl | rfl <;> omega
  have hl := h.tj.tx.dev.len
  have PT := fun W => Geo.part_any E.i E.bl E.j p W hs.may (by omega)
  rw [hn, show ((1 : Nat) : Int) = 1 from rfl] at PT
  have PT := Lib.hid PT
  have RD := Lib.hid (fun W (h : ImAt W E f nn) => Tx.read_any (fr E p) W h.tj.tx hlt)
  have hsz := h.sec _ hlt
  have H := Lib.hid h
  have hX := h.img
  unfold geoV at PT
  rw [show fromG E.i E.bl E.j p = fr E p from rfl] at PT
  generalize readT f E.hard (fr E p) = s at *
  generalize fr E p = q at *
  have X0 := hX.cell 0
  have X1 := hX.cell 1
  have X2 := hX.cell 2
  have X3 := hX.cell 3
  simp only [List.getElem?_toArray, List.getElem?_cons_zero, List.getElem?_cons_succ] at X0 X1 X2 X3
  have Xl := hX.lt
  clear hX h hv hn
  go_enter Tryz.func54, Tryz.ntmps54
  go_wp2_with fail
  refine (PT.out _).mono ?_
  rintro e w1 ⟨rfl, b1⟩
  have hB2 := b1.alloc b1.size (.cells #[.int .i64 q, .int .i64 1] 96)
  have hI2 := H.out.later hB2
  have hY := SBox.new w1 96 #[.int .i64 q, .int .i64 1]
  have hX := hI2.img
  have Z0 := hX.cell 0
  have Z1 := hX.cell 1
  have Z2 := hX.cell 2
  have Z3 := hX.cell 3
  simp only [List.getElem?_toArray, List.getElem?_cons_zero, List.getElem?_cons_succ] at Z0 Z1 Z2 Z3
  have Zl := hX.lt
  have Y0 := hY.cell 0
  have Y1 := hY.cell 1
  simp only [List.getElem?_toArray, List.getElem?_cons_zero, List.getElem?_cons_succ] at Y0 Y1
  have Yl := hY.lt
  have hY := Lib.hid hY
  have hB2 := Lib.hid hB2
  have hI2 := Lib.hid hI2
  clear hX b1
  go_wp2_with fail
  refine wp_loop_rounds 2 ?_
  rw [rounds_succ]
  go_wp2_with fail
  have wz0 : IntKind.i64.wrap (q : Int) = q := IntWalk.i64_in _ (by omega)
  have wz1 : IntKind.i64.wrap ((q : Int) + 0) = q := IntWalk.i64_in _ (by omega)
  have wz2 : (q : Int) + 0 = q := by omega
  go_region_held3 (fun W => Below (World.alloc w1 (.cells #[.int .i64 q, .int .i64 1] 96)).heap.size (World.alloc w1 (.cells #[.int .i64 q, .int .i64 1] 96)) W ∧ W.cell? ⟨E.M, 0, none⟩ = some (.pointer (some ⟨E.T.p, 0, none⟩)) ∧ W.cell? ⟨w1.heap.size, 0, none⟩ = some (.int .i64 q))
    (first | exact Held2.keep Zl Yl (by assumption) b9 | exact ⟨(Below.refl _ _).drew, Z0, Y0⟩ | exact ⟨Below.refl _ _, Z0, Y0⟩)
    (first | (go_at_call 57; refine (RD.out _ (hI2.out.later (And.left (by assumption)))).mono ?_; rintro e w9 ⟨rfl, b9⟩))
  rename_i hS
  have P0 := hS.2.2
  have HB4 := Lib.hid (hB2.out.trans (hS.1.mono hB2.out.size))
  have Pl : w1.heap.size < w9.heap.size := Nat.lt_of_lt_of_le Yl hS.1.size
  clear hS
  go_wp2_with fail
  rw [rounds_succ]
  go_wp2_with fail
  go_quiet (fail)
  have E0 := Lib.hid (show (⟨#[]⟩ : ByteArray) ++ s = s from ByteArray.empty_append)
  go_wp2
  go_ret3
  refine ⟨?_, HB4.out.trans (below_drewN (Below.refl _ _) _)⟩
  show Ending.returned (.tuple #[.string ((⟨#[]⟩ : ByteArray) ++ s), .int .i64 (q : Int), .int .i64 0]) = _
  rw [E0.out]
set_option maxRecDepth 100000 in
theorem new_any (T : TxB) (b : DevB) (hard : List ByteArray) (k i bl j nn : Nat) (f : Wrote) (w : World) (h : TJ w T b hard k f nn 1 j) (hm : mayG i bl j = true) (hl : hard.length = (szL i bl j).sum) (hs : ∀ q, q < hard.length → (readT f hard q).size = 64) :
    Calls Tryz.prog 28 #[.pointer (some ⟨T.p, 0, none⟩), geoV i bl j] w fun e w' => ∃ M : Nat, e = .returned (.tuple #[.pointer (some ⟨M, 0, none⟩), .int .i64 0]) ∧ w.heap.size ≤ M ∧ ImAt w' ⟨M, T, b, hard, k, i, bl, j⟩ f nn ∧ Below w.heap.size w w' := by
  have MY := Lib.hid (fun W => may_any i bl j W)
  rw [hm] at MY
  unfold geoV at *
  have HB0 := Lib.hid ((Below.refl _ w).alloc (Nat.le_refl _) (.cells #[.int .i64 i, .int .i64 bl, .int .i64 j] 23))
  have HT := Lib.hid h
  clear h
  go_enter Tryz.func28, Tryz.ntmps28
  go_wp2_with fail
  refine (MY.out _).mono ?_
  rintro e w1 ⟨rfl, b1⟩
  have hX := (SBox.new w 23 #[.int .i64 i, .int .i64 bl, .int .i64 j]).later b1
  have X0 := hX.cell 0
  have X1 := hX.cell 1
  have X2 := hX.cell 2
  simp only [List.getElem?_toArray, List.getElem?_cons_zero, List.getElem?_cons_succ] at X0 X1 X2
  have Xl := hX.lt
  have hB1 := Lib.hid ((HB0.out.trans (b1.mono (by simp))).alloc (by have := b1.size; simp at this ⊢; omega) (.cells #[.pointer (some ⟨T.p, 0, none⟩), .int .i64 i, .int .i64 bl, .int .i64 j] 119))
  have hN := Lib.hid (SBox.new w1 119 #[.pointer (some ⟨T.p, 0, none⟩), .int .i64 i, .int .i64 bl, .int .i64 j])
  have hM := Lib.hid (show w.heap.size ≤ w1.heap.size by have := b1.size; simp at this; omega)
  clear b1 hX
  go_wp2
  go_ret2
  exact ⟨w1.heap.size, rfl, hM.out, ⟨hN.out, HT.out.later hB1.out, hl, hs⟩, hB1.out⟩
end Go.Proofs.YtpnfkilfgdnogaaGreatDoor.Img
