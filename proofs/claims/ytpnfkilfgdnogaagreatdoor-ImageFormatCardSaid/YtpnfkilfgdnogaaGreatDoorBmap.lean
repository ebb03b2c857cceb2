/- Layer 9 (bmap): may, Needs, told, tell. -/
import Derived.Test.YtpnfkilfgdnogaaGreatDoorIsBlk
namespace Go.Proofs.YtpnfkilfgdnogaaGreatDoor.Bm
set_option linter.unusedVariables false
set_option linter.unusedSimpArgs false
open Go.RowKit Go.Shelf Go.Maps Oct Dev Jou Tx Geo Ino Img
theorem index4 (a b c d : Value) (w : World) : (Instr.index 41 (.agg #[a, b, c, d]) (.int .i64 0)).run Tryz.prog w = .ok a w ∧ (Instr.index 41 (.agg #[a, b, c, d]) (.int .i64 1)).run Tryz.prog w = .ok b w ∧ (Instr.index 41 (.agg #[a, b, c, d]) (.int .i64 2)).run Tryz.prog w = .ok c w ∧ (Instr.index 41 (.agg #[a, b, c, d]) (.int .i64 3)).run Tryz.prog w = .ok d w := ⟨by kernel_rfl, by kernel_rfl, by kernel_rfl, by kernel_rfl⟩
set_option maxRecDepth 100000 in
theorem has_fn (i bl j b G : Nat) (w : World) (hbl : bl ≤ 100000) (hb : b ≤ bl) (hG : SBox w G 23 #[.int .i64 i, .int .i64 bl, .int .i64 j]) :
    Calls Tryz.prog 156 #[.int .u16 b, .pointer (some ⟨G, 0, none⟩)] w fun e w' => e = .returned (.bool true) ∧ w = w' := by
  have X0 := hG.cell 0
  have X1 := hG.cell 1
  have X2 := hG.cell 2
  simp only [List.getElem?_toArray, List.getElem?_cons_zero, List.getElem?_cons_succ] at X0 X1 X2
  have Xl := hG.lt
  clear hG
  have wb : IntKind.i64.wrap (b : Int) = b := IntWalk.i64_in _ (by omega)
  go_enter Tryz.func156, Tryz.ntmps156
  go_wp2
  go_ret
  exact ⟨by first | (simp; done) | (simp; omega), rfl⟩
/-- Each block is one of the geometry's. -/
def InG (bl : Nat) (x : InoT) : Prop := x.d0 ≤ bl ∧ x.d1 ≤ bl ∧ x.d2 ≤ bl ∧ x.d3 ≤ bl ∧ x.ind ≤ bl
set_option maxRecDepth 100000 in
set_option maxHeartbeats 2000000 in
theorem may_ok (i bl j b T : Nat) (x : InoT) (is_ : Bool) (w : World) (hm : mayG i bl j = true) (hx : InG bl x) (hb : b ≤ bl) :
    Calls Tryz.prog 111 #[.pointer (some ⟨T, 0, none⟩), geoV i bl j, x.val, .int .u16 b, .bool is_] w fun e w' => e = .returned (.int .i64 (if is_ then 0 else 2)) ∧ Below w.heap.size w w' := by
  have MY := Lib.hid (fun W => may_any i bl j W)
  rw [hm] at MY
  have hbl : bl ≤ 100000 := by simp [mayG, inR] at hm; omega
  obtain ⟨h0, h1, h2, h3, h4⟩ := hx
  obtain ⟨kind, links, size, d0, d1, d2, d3, ind⟩ := x
  simp only at h0 h1 h2 h3 h4
  have HF := Lib.hid (fun b G W (hb : b ≤ bl) hG => has_fn i bl j b G W hbl hb hG)
  have HB0 := Lib.hid (((Below.refl _ w).alloc (Nat.le_refl _) (.cells #[.int .i64 i, .int .i64 bl, .int .i64 j] 23)).alloc (by simp) (.cells #[.int .u8 kind, .int .u16 links, .int .u32 size, .int .u16 d0, .int .u16 d1, .int .u16 d2, .int .u16 d3, .int .u16 ind] 43))
  have HG := Lib.hid ((SBox.new w 23 #[.int .i64 i, .int .i64 bl, .int .i64 j]).alloc (.cells #[.int .u8 kind, .int .u16 links, .int .u32 size, .int .u16 d0, .int .u16 d1, .int .u16 d2, .int .u16 d3, .int .u16 ind] 43))
  have HX := SBox.new (w.alloc (.cells #[.int .i64 i, .int .i64 bl, .int .i64 j] 23)) 43 #[.int .u8 kind, .int .u16 links, .int .u32 size, .int .u16 d0, .int .u16 d1, .int .u16 d2, .int .u16 d3, .int .u16 ind]
  rw [World.size_alloc] at HX
  have HX := Lib.hid HX
  have Z := Lib.hid (index4 (.int .u16 d0) (.int .u16 d1) (.int .u16 d2) (.int .u16 d3))
  have z0 := fun W => (Z.out W).1
  have z1 := fun W => (Z.out W).2.1
  have z2 := fun W => (Z.out W).2.2.1
  have z3 := fun W => (Z.out W).2.2.2
  unfold geoV InoT.val at *
  go_enter Tryz.func111, Tryz.ntmps111
  go_wp2_with fail
  refine (MY.out _).mono ?_
  rintro e w1 ⟨rfl, b1⟩
  have hX := HX.out.later b1
  have HG1 := Lib.hid (HG.out.later b1)
  have HB1 := Lib.hid (HB0.out.trans (b1.mono HB0.out.size))
  clear b1
  have X0 := hX.cell 0
  have X1 := hX.cell 1
  have X2 := hX.cell 2
  have X3 := hX.cell 3
  have X4 := hX.cell 4
  have X5 := hX.cell 5
  have X6 := hX.cell 6
  have X7 := hX.cell 7
  simp only [List.getElem?_toArray, List.getElem?_cons_zero, List.getElem?_cons_succ] at X0 X1 X2 X3 X4 X5 X6 X7
  have Xl := hX.lt
  clear hX
  go_wp2_with fail
  refine (HF.out b _ _ hb HG1.out).mono ?_
  rintro e w9 ⟨rfl, rfl⟩
  go_wp2_with fail
  refine (HF.out ind _ _ h4 HG1.out).mono ?_
  rintro e w9 ⟨rfl, rfl⟩
  cases is_ with
  | true =>
    go_wp2_with fail
    refine wp_loop_rounds 5 ?_
    rw [rounds_succ]
    go_wp2_with fail
    refine (HF.out d0 _ _ h0 HG1.out).mono ?_
    rintro e w9 ⟨rfl, rfl⟩
    go_wp2_with fail
    rw [rounds_succ]
    go_wp2_with fail
    refine (HF.out d1 _ _ h1 HG1.out).mono ?_
    rintro e w9 ⟨rfl, rfl⟩
    go_wp2_with fail
    rw [rounds_succ]
    go_wp2_with fail
    refine (HF.out d2 _ _ h2 HG1.out).mono ?_
    rintro e w9 ⟨rfl, rfl⟩
    go_wp2_with fail
    rw [rounds_succ]
    go_wp2_with fail
    refine (HF.out d3 _ _ h3 HG1.out).mono ?_
    rintro e w9 ⟨rfl, rfl⟩
    go_wp2_with fail
    rw [rounds_succ]
    go_wp2
    go_ret
    exact ⟨rfl, HB1.out⟩
  | false =>
    go_wp2_with fail
    refine wp_loop_rounds 5 ?_
    rw [rounds_succ]
    go_wp2
    rw [rounds_succ]
    go_wp2
    rw [rounds_succ]
    go_wp2
    rw [rounds_succ]
    go_wp2
    rw [rounds_succ]
    go_wp2
    go_ret
    exact ⟨rfl, HB1.out⟩
set_option maxRecDepth 100000 in
theorem needs_any (x : InoT) (p : Nat) (w : World) (hp : p < 36) :
    Calls Tryz.prog 115 #[x.val, .int .i64 p] w fun e w' => e = .returned (.bool (decide (4 ≤ p) && decide (x.ind = 0))) ∧ Below w.heap.size w w' := by
  obtain ⟨kind, links, size, d0, d1, d2, d3, ind⟩ := x
  unfold InoT.val
  have HB0 := Lib.hid ((Below.refl _ w).alloc (Nat.le_refl _) (.cells #[.int .u8 kind, .int .u16 links, .int .u32 size, .int .u16 d0, .int .u16 d1, .int .u16 d2, .int .u16 d3, .int .u16 ind] 43))
  have hX := SBox.new w 43 #[.int .u8 kind, .int .u16 links, .int .u32 size, .int .u16 d0, .int .u16 d1, .int .u16 d2, .int .u16 d3, .int .u16 ind]
  have X0 := hX.cell 0
  have X1 := hX.cell 1
  have X2 := hX.cell 2
  have X3 := hX.cell 3
  have X4 := hX.cell 4
  have X5 := hX.cell 5
  have X6 := hX.cell 6
  have X7 := hX.cell 7
  simp only [List.getElem?_toArray, List.getElem?_cons_zero, List.getElem?_cons_succ] at X0 X1 X2 X3 X4 X5 X6 X7
  have Xl := hX.lt
  clear hX
  by_cases h4 : 4 ≤ p
  · have t4 : decide (4 ≤ p) = true := by simpa using h4
    have q4 : (4 : Int) ≤ p := by omega
    have q5 : (p : Int) < 36 := by omega
    by_cases hi : ind = 0
    · subst hi
      go_enter Tryz.func115, Tryz.ntmps115
      go_wp2
      go_ret
      exact ⟨by simp [h4], HB0.out⟩
    · have hi0 : ((ind : Int) == 0) = false := by simp; omega
      go_enter Tryz.func115, Tryz.ntmps115
      go_wp2
      go_ret
      exact ⟨by simp [h4, hi], HB0.out⟩
  · have t4 : decide (4 ≤ p) = false := by simpa using h4
    have q4 : ¬ (4 : Int) ≤ p := by omega
    go_enter Tryz.func115, Tryz.ntmps115
    go_wp2
    go_ret
    exact ⟨by simp [h4], HB0.out⟩
end Go.Proofs.YtpnfkilfgdnogaaGreatDoor.Bm
