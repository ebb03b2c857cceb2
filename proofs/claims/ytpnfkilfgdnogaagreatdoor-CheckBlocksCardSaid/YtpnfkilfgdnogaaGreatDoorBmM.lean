/- Layer 9 (bmap): Set behind the direct pages, Begin, All. -/
import Derived.Test.YtpnfkilfgdnogaaGreatDoorIsM
import Derived.Laws.OwnMore
import Derived.Test.YtpnfkilfgdnogaaGreatDoorRange2
import Derived.Below
import Derived.RangeFuncOwn
import Derived.BigRegionIn
section
namespace Go.Proofs.YtpnfkilfgdnogaaGreatDoor.Bm
set_option linter.unusedVariables false
set_option linter.unusedSimpArgs false
open Go.RowKit Go.Shelf Go.Maps Oct Dev Jou Tx Geo Ino Img
theorem index4 (a b c d : Value) (w : World) : (Instr.index 41 (.agg #[a, b, c, d]) (.int .i64 0)).run Tryz.prog w = .ok a w ∧ (Instr.index 41 (.agg #[a, b, c, d]) (.int .i64 1)).run Tryz.prog w = .ok b w ∧ (Instr.index 41 (.agg #[a, b, c, d]) (.int .i64 2)).run Tryz.prog w = .ok c w ∧ (Instr.index 41 (.agg #[a, b, c, d]) (.int .i64 3)).run Tryz.prog w = .ok d w := ⟨by kernel_rfl, by kernel_rfl, by kernel_rfl, by kernel_rfl⟩
set_option maxRecDepth 100000 in
theorem has_fn (i bl j b G : Nat) (w : World) (hbl : bl ≤ 100000) (hb : b ≤ bl) (hG : SBox w G 23 #[.int .i64 i, .int .i64 bl, .int .i64 j]) :
    Calls Tryz.prog 156 #[.int .u16 b, .pointer (some ⟨G, 0, none⟩)] w fun e w' => e = .returned (.bool true) ∧ w = w' := by
  have X0 := hG.cell 0
  have X1 := hG.cell 1
  have X2 := hG.cell 2
  simp only [List.getElem?_toArray, List.getElem?_cons_zero, List.getElem?_cons_succ] at X0 X1 X2
  have Xl := hG.lt
  clear hG
  have wb : IntKind.i64.wrap (b : Int) = b := IntWalk.i64_in _ (by omega)
  go_enter Tryz.func156, Tryz.ntmps156
  go_wp2
  go_ret
  exact ⟨by first | (simp; done) | (simp; omega), rfl⟩
def InG (bl : Nat) (x : InoT) : Prop := x.d0 ≤ bl ∧ x.d1 ≤ bl ∧ x.d2 ≤ bl ∧ x.d3 ≤ bl ∧ x.ind ≤ bl
set_option maxRecDepth 100000 in
set_option maxHeartbeats 2000000 in
theorem may_ok (i bl j b T : Nat) (x : InoT) (is_ : Bool) (w : World) (hm : mayG i bl j = true) (hx : InG bl x) (hb : b ≤ bl) :
    Calls Tryz.prog 111 #[.pointer (some ⟨T, 0, none⟩), geoV i bl j, x.val, .int .u16 b, .bool is_] w fun e w' => e = .returned (.int .i64 (if is_ then 0 else 2)) ∧ Below w.heap.size w w' := by
  have MY := Lib.hid (fun W => may_any i bl j W)
  rw [hm] at MY
  have hbl : bl ≤ 100000 := by simp [mayG, inR] at hm; omega
  obtain ⟨h0, h1, h2, h3, h4⟩ := hx
  obtain ⟨kind, links, size, d0, d1, d2, d3, ind⟩ := x
  simp only at h0 h1 h2 h3 h4
  have HF := Lib.hid (fun b G W (hb : b ≤ bl) hG => has_fn i bl j b G W hbl hb hG)
  have HB0 := Lib.hid (((Below.refl _ w).alloc (Nat.le_refl _) (.cells #[.int .i64 i, .int .i64 bl, .int .i64 j] 23)).alloc (by simp) (.cells #[.int .u8 kind, .int .u16 links, .int .u32 size, .int .u16 d0, .int .u16 d1, .int .u16 d2, .int .u16 d3, .int .u16 ind] 43))
  have HG := Lib.hid ((SBox.new w 23 #[.int .i64 i, .int .i64 bl, .int .i64 j]).alloc (.cells #[.int .u8 kind, .int .u16 links, .int .u32 size, .int .u16 d0, .int .u16 d1, .int .u16 d2, .int .u16 d3, .int .u16 ind] 43))
  have HX := SBox.new (w.alloc (.cells #[.int .i64 i, .int .i64 bl, .int .i64 j] 23)) 43 #[.int .u8 kind, .int .u16 links, .int .u32 size, .int .u16 d0, .int .u16 d1, .int .u16 d2, .int .u16 d3, .int .u16 ind]
  rw [World.size_alloc] at HX
  have HX := Lib.hid HX
  have Z := Lib.hid (index4 (.int .u16 d0) (.int .u16 d1) (.int .u16 d2) (.int .u16 d3))
  have z0 := fun W => (Z.out W).1
  have z1 := fun W => (Z.out W).2.1
  have z2 := fun W => (Z.out W).2.2.1
  have z3 := fun W => (Z.out W).2.2.2
  unfold geoV InoT.val at *
  go_enter Tryz.func111, Tryz.ntmps111
  go_wp2_with fail
  refine (MY.out _).mono ?_
  rintro e w1 ⟨rfl, b1⟩
  have hX := HX.out.later b1
  have HG1 := Lib.hid (HG.out.later b1)
  have HB1 := Lib.hid (HB0.out.trans (b1.mono HB0.out.size))
  clear b1
  have X0 := hX.cell 0
  have X1 := hX.cell 1
  have X2 := hX.cell 2
  have X3 := hX.cell 3
  have X4 := hX.cell 4
  have X5 := hX.cell 5
  have X6 := hX.cell 6
  have X7 := hX.cell 7
  simp only [List.getElem?_toArray, List.getElem?_cons_zero, List.getElem?_cons_succ] at X0 X1 X2 X3 X4 X5 X6 X7
  have Xl := hX.lt
  clear hX
  go_wp2_with fail
  refine (HF.out b _ _ hb HG1.out).mono ?_
  rintro e w9 ⟨rfl, rfl⟩
  go_wp2_with fail
  refine (HF.out ind _ _ h4 HG1.out).mono ?_
  rintro e w9 ⟨rfl, rfl⟩
  cases is_ with
  | true =>
    go_wp2_with fail
    refine wp_loop_rounds 5 ?_
    rw [rounds_succ]
    go_wp2_with fail
    refine (HF.out d0 _ _ h0 HG1.out).mono ?_
    rintro e w9 ⟨rfl, rfl⟩
    go_wp2_with fail
    rw [rounds_succ]
    go_wp2_with fail
    refine (HF.out d1 _ _ h1 HG1.out).mono ?_
    rintro e w9 ⟨rfl, rfl⟩
    go_wp2_with fail
    rw [rounds_succ]
    go_wp2_with fail
    refine (HF.out d2 _ _ h2 HG1.out).mono ?_
    rintro e w9 ⟨rfl, rfl⟩
    go_wp2_with fail
    rw [rounds_succ]
    go_wp2_with fail
    refine (HF.out d3 _ _ h3 HG1.out).mono ?_
    rintro e w9 ⟨rfl, rfl⟩
    go_wp2_with fail
    rw [rounds_succ]
    go_wp2
    go_ret
    exact ⟨rfl, HB1.out⟩
  | false =>
    go_wp2_with fail
    refine wp_loop_rounds 5 ?_
    rw [rounds_succ]
    go_wp2
    rw [rounds_succ]
    go_wp2
    rw [rounds_succ]
    go_wp2
    rw [rounds_succ]
    go_wp2
    rw [rounds_succ]
    go_wp2
    go_ret
    exact ⟨rfl, HB1.out⟩
set_option maxRecDepth 100000 in
theorem needs_any (x : InoT) (p : Nat) (w : World) (hp : p < 36) :
    Calls Tryz.prog 115 #[x.val, .int .i64 p] w fun e w' => e = .returned (.bool (decide (4 ≤ p) && decide (x.ind = 0))) ∧ Below w.heap.size w w' := by
  obtain ⟨kind, links, size, d0, d1, d2, d3, ind⟩ := x
  unfold InoT.val
  have HB0 := Lib.hid ((Below.refl _ w).alloc (Nat.le_refl _) (.cells #[.int .u8 kind, .int .u16 links, .int .u32 size, .int .u16 d0, .int .u16 d1, .int .u16 d2, .int .u16 d3, .int .u16 ind] 43))
  have hX := SBox.new w 43 #[.int .u8 kind, .int .u16 links, .int .u32 size, .int .u16 d0, .int .u16 d1, .int .u16 d2, .int .u16 d3, .int .u16 ind]
  have X0 := hX.cell 0
  have X1 := hX.cell 1
  have X2 := hX.cell 2
  have X3 := hX.cell 3
  have X4 := hX.cell 4
  have X5 := hX.cell 5
  have X6 := hX.cell 6
  have X7 := hX.cell 7
  simp only [List.getElem?_toArray, List.getElem?_cons_zero, List.getElem?_cons_succ] at X0 X1 X2 X3 X4 X5 X6 X7
  have Xl := hX.lt
  clear hX
  by_cases h4 : 4 ≤ p
  · have t4 : decide (4 ≤ p) = true := by simpa using h4
    have q4 : (4 : Int) ≤ p := by omega
    have q5 : (p : Int) < 36 := by omega
    by_cases hi : ind = 0
    · subst hi
      go_enter Tryz.func115, Tryz.ntmps115
      go_wp2
      go_ret
      exact ⟨by simp [h4], HB0.out⟩
    · have hi0 : ((ind : Int) == 0) = false := by simp; omega
      go_enter Tryz.func115, Tryz.ntmps115
      go_wp2
      go_ret
      exact ⟨by simp [h4, hi], HB0.out⟩
  · have t4 : decide (4 ≤ p) = false := by simpa using h4
    have q4 : ¬ (4 : Int) ≤ p := by omega
    go_enter Tryz.func115, Tryz.ntmps115
    go_wp2
    go_ret
    exact ⟨by simp [h4], HB0.out⟩
end Go.Proofs.YtpnfkilfgdnogaaGreatDoor.Bm
end
section
namespace Go.Proofs.YtpnfkilfgdnogaaGreatDoor.Bm
set_option linter.unusedVariables false
set_option linter.unusedSimpArgs false
open Go.RowKit Go.Shelf Go.Maps Oct Dev Jou Tx Geo Ino Img
def Row16 (W : World) (g : Nat) (l : List Nat) : Prop := ∃ cs : Array Value, SBox W g 39 cs ∧ ∀ i (h : i < l.length), cs[i]? = some (.int .u16 l[i])
theorem Row16.lt {W : World} {g : Nat} {l : List Nat} (h : Row16 W g l) : g < W.heap.size := by
  obtain ⟨cs, h1, _⟩ := h
  exact h1.lt
theorem Row16.cell {W : World} {g : Nat} {l : List Nat} (h : Row16 W g l) (i : Nat) (hi : i < l.length) : W.cell? ⟨g, i, none⟩ = some (.int .u16 l[i]) := by
  obtain ⟨cs, h1, h2⟩ := h
  exact (h1.cell i).trans (h2 i hi)
theorem Row16.free {W : World} {g : Nat} {l : List Nat} (h : Row16 W g l) (i : Nat) : W.frozen? ⟨g, i, none⟩ = false := by
  obtain ⟨cs, h1, _⟩ := h
  exact h1.free i
theorem Row16.later {W W' : World} {g : Nat} {l : List Nat} (h : Row16 W g l) (hb : Below W.heap.size W W') : Row16 W' g l := by
  obtain ⟨cs, h1, h2⟩ := h
  exact ⟨cs, h1.later hb, h2⟩
theorem Row16.set {W : World} {g : Nat} {l : List Nat} (h : Row16 W g l) (i v : Nat) : Row16 (W.setCell ⟨g, i, none⟩ (.int .u16 v)) g (l.set i v) := by
  obtain ⟨cs, h1, h2⟩ := h
  refine ⟨_, h1.set i _, fun j hj => ?_⟩
  rw [List.length_set] at hj
  rw [Array.getElem?_setIfInBounds]
  by_cases e : i = j
  · subst e
    have hs : i < cs.size := (Array.getElem?_eq_some_iff.1 (h2 i hj)).1
    rw [if_pos rfl, if_pos hs]
    simp
  · rw [if_neg e, h2 j hj]
    simp [List.getElem_set, e]
theorem Row16.of_own {W : World} {base n : Nat} {v : Value} {l : List Nat} (h : W.ownsRow base 39 1 v n (l.map u16V)) (hn : 0 < n) : ∃ g cap, v = .slice (some ⟨g, 0, none⟩) n cap ∧ base ≤ g ∧ n ≤ cap ∧ Row16 W g l := by
  obtain ⟨g, cap, rfl, _, hc⟩ := own_form2 h hn
  obtain ⟨cur, h1, h2, h3⟩ := own_box h
  refine ⟨g, cap, rfl, h3, hc, cur, h1, fun i hi => h2 i _ ?_⟩
  rw [List.getElem?_map, List.getElem?_eq_getElem hi]
  rfl
set_option maxRecDepth 100000 in
theorem told_num (vs : List Nat) (w : World) (hl : vs.length = 32) (hv : ∀ v ∈ vs, v < 65536) :
    Calls Tryz.prog 157 #[.string (B (putL2 vs))] w fun e w' => ∃ g cap, e = .returned (.tuple #[.slice (some ⟨g, 0, none⟩) 32 cap, .int .i64 0]) ∧ w.heap.size ≤ g ∧ 32 ≤ cap ∧ Row16 w' g vs ∧ Below w.heap.size w w' := by
  have GO := Lib.hid (fun W => got_any vs W (by omega) hv)
  have hz : (B (putL2 vs)).size = 64 := by rw [size_B, putL2_len]; omega
  rw [hl] at GO
  clear hv
  generalize B (putL2 vs) = s at *
  have z1 : ¬ (s.size : Int) < 64 := by omega
  have z2 : ¬ (64 : Int) < s.size := by omega
  have z3 : ¬ s.size < 64 := by omega
  have z4 : ¬ 64 < s.size := by omega
  go_enter Tryz.func157, Tryz.ntmps157
  go_wp2_with fail
  refine (GO.out _).mono ?_
  rintro e w1 ⟨v, rfl, hown, b1⟩
  obtain ⟨g, cap, rfl, hg, hc, hrow⟩ := Row16.of_own hown (by omega)
  have R := Lib.hid hrow
  have B1 := Lib.hid b1
  clear hrow b1 hown
  go_wp2
  go_ret2
  exact ⟨g, cap, rfl, hg, hc, R.out, B1.out⟩
structure IndIs (E : Im) (D : Secs) (ind : Nat) (vs : List Nat) : Prop where
  len : vs.length = 32
  lt : ∀ v ∈ vs, v ≤ E.bl
  no : ind = 0 → vs = List.replicate 32 0
  has : ind ≠ 0 → D (dq E ind) = B (putL2 vs)
theorem make_u16 (w : World) : ∃ w', (Instr.makeSlice 87 (.int .i64 32) (.int .i64 32)).run Tryz.prog w = .ok (.slice (some ⟨w.heap.size, 0, none⟩) 32 32) w' ∧ Row16 w' w.heap.size (List.replicate 32 0) ∧ Below w.heap.size w w' := by
  obtain ⟨i0, hi, hz0, hz1, hz2⟩ := info_parts info_u16
  have h := run_make (P := Tryz.prog) w 87 39 i0 (.int .u16 0) Tryz.underlying87 hi hz0 .i64 .i64 32 32 (by omega) (Int.le_refl _) (by rw [hz2]; omega) (by omega)
  refine ⟨_, h, ⟨_, SBox.new w 39 _, fun i hi2 => ?_⟩, (Below.refl _ _).alloc (Nat.le_refl _) _⟩
  rw [List.length_replicate] at hi2
  rw [hz1, List.getElem_replicate]
  have e : (madeCells (Value.int .u16 0).cells ((32 : Int).toNat * 1)) = #[.int .u16 0, .int .u16 0, .int .u16 0, .int .u16 0, .int .u16 0, .int .u16 0, .int .u16 0, .int .u16 0, .int .u16 0, .int .u16 0, .int .u16 0, .int .u16 0, .int .u16 0, .int .u16 0, .int .u16 0, .int .u16 0, .int .u16 0, .int .u16 0, .int .u16 0, .int .u16 0, .int .u16 0, .int .u16 0, .int .u16 0, .int .u16 0, .int .u16 0, .int .u16 0, .int .u16 0, .int .u16 0, .int .u16 0, .int .u16 0, .int .u16 0, .int .u16 0] := by kernel_rfl
  rw [e]
  match i, hi2 with
  | 0, _ | 1, _ | 2, _ | 3, _ | 4, _ | 5, _ | 6, _ | 7, _ | 8, _ | 9, _ | 10, _ | 11, _ | 12, _ | 13, _ | 14, _ | 15, _ | 16, _ | 17, _ | 18, _ | 19, _ | 20, _ | 21, _ | 22, _ | 23, _ | 24, _ | 25, _ | 26, _ | 27, _ | 28, _ | 29, _ | 30, _ | 31, _ => rfl
  | n + 32, h => exact absurd h (by omega)
section
variable {E : Im} {D : Secs} {Z : Nat → Prop} {Q : Prop}
set_option maxRecDepth 100000 in
set_option maxHeartbeats 1000000 in
theorem told_is (x : InoT) (vs : List Nat) (w : World) (hs : Small E) (h : IS w E D Z) (hb : x.ind ≤ E.bl) (hv : IndIs E D x.ind vs) :
    Calls Tryz.prog 112 #[.pointer (some ⟨E.T.p, 0, none⟩), geoV E.i E.bl E.j, x.val] w fun e w' => ∃ g cap, e = .returned (.tuple #[.slice (some ⟨g, 0, none⟩) 32 cap, .int .i64 0]) ∧ w.heap.size ≤ g ∧ 32 ≤ cap ∧ Row16 w' g vs ∧ Below w.heap.size w w' := by
  have hbl := hs.hb
  obtain ⟨hl, hlt, hno, hhas⟩ := hv
  obtain ⟨kind, links, size, d0, d1, d2, d3, ind⟩ := x
  simp only at hb hno hhas
  have HB0 := Lib.hid (((Below.refl _ w).alloc (Nat.le_refl _) (.cells #[.int .i64 E.i, .int .i64 E.bl, .int .i64 E.j] 23)).alloc (by simp) (.cells #[.int .u8 kind, .int .u16 links, .int .u32 size, .int .u16 d0, .int .u16 d1, .int .u16 d2, .int .u16 d3, .int .u16 ind] 43))
  have hG := ((SBox.new w 23 #[.int .i64 E.i, .int .i64 E.bl, .int .i64 E.j]).alloc (.cells #[.int .u8 kind, .int .u16 links, .int .u32 size, .int .u16 d0, .int .u16 d1, .int .u16 d2, .int .u16 d3, .int .u16 ind] 43))
  have hX := SBox.new (w.alloc (.cells #[.int .i64 E.i, .int .i64 E.bl, .int .i64 E.j] 23)) 43 #[.int .u8 kind, .int .u16 links, .int .u32 size, .int .u16 d0, .int .u16 d1, .int .u16 d2, .int .u16 d3, .int .u16 ind]
  rw [World.size_alloc] at hX
  have HP := Lib.hid (h.later HB0.out)
  have X0 := hX.cell 0
  have X1 := hX.cell 1
  have X2 := hX.cell 2
  have X3 := hX.cell 3
  have X4 := hX.cell 4
  have X5 := hX.cell 5
  have X6 := hX.cell 6
  have X7 := hX.cell 7
  simp only [List.getElem?_toArray, List.getElem?_cons_zero, List.getElem?_cons_succ] at X0 X1 X2 X3 X4 X5 X6 X7
  have Xl := hX.lt
  have G0 := hG.cell 0
  have G1 := hG.cell 1
  have G2 := hG.cell 2
  simp only [List.getElem?_toArray, List.getElem?_cons_zero, List.getElem?_cons_succ] at G0 G1 G2
  have Gl := hG.lt
  clear hX hG
  by_cases h0 : ind = 0
  · have e0 := hno h0
    subst h0 e0
    obtain ⟨w9, hmk, hrow, b9⟩ := make_u16 ((w.alloc (.cells #[.int .i64 E.i, .int .i64 E.bl, .int .i64 E.j] 23)).alloc (.cells #[.int .u8 kind, .int .u16 links, .int .u32 size, .int .u16 d0, .int .u16 d1, .int .u16 d2, .int .u16 d3, .int .u16 0] 43))
    simp only [World.size_alloc] at hrow
    have R := Lib.hid hrow
    have B9 := Lib.hid (HB0.out.trans (b9.mono HB0.out.size))
    clear hrow b9 hno hhas
    unfold geoV InoT.val
    go_enter Tryz.func112, Tryz.ntmps112
    go_wp2
    go_ret2
    exact ⟨_, _, rfl, by omega, Nat.le_refl _, R.out, B9.out⟩
  · have hi0 : ((ind : Int) == 0) = false := by simp; omega
    have hd := hhas h0
    have hq := dq_lt hs h.len (b := ind) (by omega) hb
    have BL := Lib.hid (fun W => Geo.block_any E.i E.bl E.j ind W hs.may (by omega) hb)
    have RD := Lib.hid (fun W (h : IS W E D Z) => read_is (dq E ind) W h hq)
    have TN := Lib.hid (fun W => told_num vs W hl (fun v hv => by have := hlt v hv; omega))
    unfold geoV at BL
    rw [show fromG E.i E.bl E.j 5 + ind - 1 = dq E ind from rfl] at BL
    rw [hd] at RD
    generalize dq E ind = q at *
    generalize B (putL2 vs) = s at *
    unfold geoV InoT.val
    clear hno hhas hd
    go_enter Tryz.func112, Tryz.ntmps112
    go_wp2_with fail
    refine (BL.out _).mono ?_
    rintro e w1 ⟨rfl, b1⟩
    have B1 := Lib.hid (HB0.out.trans (b1.mono HB0.out.size))
    have H1 := Lib.hid (HP.out.later b1)
    clear b1 X0 X1 X2 X3 X4 X5 X6 X7 Xl G0 G1 G2 Gl
    go_wp2_with fail
    refine (RD.out _ H1.out).mono ?_
    rintro e w2 ⟨rfl, b2⟩
    have B2 := Lib.hid (B1.out.trans (b2.mono B1.out.size))
    clear b2
    go_wp2_with fail
    refine (TN.out _).mono ?_
    rintro e w3 ⟨g, cap, rfl, hg, hc, R, b3⟩
    have R := Lib.hid R
    have hg := Lib.hid (Nat.le_trans B2.out.size hg)
    have B3 := Lib.hid (B2.out.trans (b3.mono B2.out.size))
    clear b3
    go_wp2
    go_ret2
    exact ⟨g, cap, rfl, hg.out, hc, R.out, B3.out⟩
end
def SlIs (W : World) (l : List Nat) (v : Value) : Prop := (l = [] ∧ v = .slice none 0 0) ∨ ∃ g cap, v = .slice (some ⟨g, 0, none⟩) l.length cap ∧ Row16 W g l
theorem SlIs.later {W W' : World} {l : List Nat} {v : Value} (h : SlIs W l v) (hb : Below W.heap.size W W') : SlIs W' l v := by
  rcases h with h | ⟨g, cap, h1, h2⟩
  · exact .inl h
  · exact .inr ⟨g, cap, h1, h2.later hb⟩
set_option maxRecDepth 100000 in
theorem put_nil (w : World) : Calls Tryz.prog 108 #[.slice none 0 0] w fun e w' => e = .returned (.string (B (putL2 []))) ∧ Below w.heap.size w w' := by
  go_enter Tryz.func108, Tryz.ntmps108
  go_wp2_with fail
  refine wp_loop_rounds 1 ?_
  rw [rounds_succ]
  go_wp2
  go_ret
  exact ⟨rfl, Below.refl _ _⟩
theorem put_sl (l : List Nat) (v : Value) (w : World) (hl : l.length ≤ 64) (hv : ∀ v ∈ l, v < 65536) (h : SlIs w l v) : Calls Tryz.prog 108 #[v] w fun e w' => e = .returned (.string (B (putL2 l))) ∧ Below w.heap.size w w' := by
  rcases h with ⟨rfl, rfl⟩ | ⟨g, cap, rfl, hr⟩
  · exact put_nil w
  · exact put_any l g 0 cap w hl hv hr.lt (fun i hi => by rw [Nat.zero_add]; exact hr.cell i hi)
def tellS (l : List Nat) : ByteArray := B (putL2 l ++ nil0 (64 - 2 * l.length))
theorem tellS_size {l : List Nat} (h : l.length ≤ 32) : (tellS l).size = 64 := by
  unfold tellS
  rw [size_B, List.length_append, putL2_len, nil0_len]
  omega
theorem tellS_full {l : List Nat} (h : l.length = 32) : tellS l = B (putL2 l) := by
  unfold tellS
  rw [h]
  show B (putL2 l ++ []) = _
  rw [List.append_nil]
theorem tellS_nil : tellS [] = B (putL2 (List.replicate 32 0)) := by
  rw [putL2_zero]
  rfl
set_option maxRecDepth 100000 in
theorem tell_num (l : List Nat) (v : Value) (w : World) (hl : l.length ≤ 32) (hv : ∀ v ∈ l, v < 65536) (h : SlIs w l v) :
    Calls Tryz.prog 159 #[v] w fun e w' => e = .returned (.tuple #[.string (tellS l), .int .i64 0]) ∧ Below w.heap.size w w' := by
  have PU := Lib.hid (put_sl l v w (by omega) hv h)
  have PD := Lib.hid (fun W => pad_any (B (putL2 l)) 64 W (by rw [size_B, putL2_len]; omega) (by omega))
  rw [show B (L (B (putL2 l)) ++ nil0 (64 - (B (putL2 l)).size)) = tellS l by rw [L_B, size_B, putL2_len]; rfl] at PD
  generalize tellS l = s2 at *
  generalize B (putL2 l) = s1 at *
  have q1 : ¬ (32 : Int) < l.length := by omega
  have q2 : ¬ 32 < l.length := by omega
  rcases h with ⟨rfl, rfl⟩ | ⟨g, cap, rfl, hr⟩
  · go_enter Tryz.func159, Tryz.ntmps159
    go_wp2_with fail
    refine PU.out.mono ?_
    rintro e w1 ⟨rfl, b1⟩
    have B1 := Lib.hid b1
    go_wp2_with fail
    refine (PD.out _).mono ?_
    rintro e w2 ⟨rfl, b2⟩
    have B2 := Lib.hid (B1.out.trans (b2.mono B1.out.size))
    clear b1 b2
    go_wp2
    go_ret2
    exact ⟨rfl, B2.out⟩
  · have R := Lib.hid hr
    clear hr
    go_enter Tryz.func159, Tryz.ntmps159
    go_wp2_with fail
    refine PU.out.mono ?_
    rintro e w1 ⟨rfl, b1⟩
    have B1 := Lib.hid b1
    go_wp2_with fail
    refine (PD.out _).mono ?_
    rintro e w2 ⟨rfl, b2⟩
    have B2 := Lib.hid (B1.out.trans (b2.mono B1.out.size))
    clear b1 b2
    go_wp2
    go_ret2
    exact ⟨rfl, B2.out⟩
section
variable {E : Im} {D : Secs} {Z : Nat → Prop} {Q : Prop}
set_option maxRecDepth 100000 in
set_option maxHeartbeats 1000000 in
theorem tell_is (x : InoT) (l : List Nat) (v : Value) (w : World) (hs : Small E) (h : IS w E D Z) (h1 : 1 ≤ x.ind) (hb : x.ind ≤ E.bl) (hl : l.length ≤ 32) (hv : ∀ v ∈ l, v < 65536) (hsl : SlIs w l v) (hz : Z (dq E x.ind)) (hQ : FullE E Z → Q) :
    Calls Tryz.prog 114 #[.pointer (some ⟨E.T.p, 0, none⟩), geoV E.i E.bl E.j, x.val, v] w (Out (.int .i64 0) (.int .i64 4) (Wr E (upd D (dq E x.ind) (tellS l)) Z w) (Fu E Q w)) := by
  have hbl := hs.hb
  have hj := hs.hj
  have hq := dq_lt hs h.len h1 hb
  have hl4 := h.len4
  obtain ⟨kind, links, size, d0, d1, d2, d3, ind⟩ := x
  simp only at h1 hb hz hq ⊢
  have BL := Lib.hid (fun W => Geo.block_any E.i E.bl E.j ind W hs.may h1 hb)
  have TN := Lib.hid (fun W (h : SlIs W l v) => tell_num l v W hl hv h)
  have WR := Lib.hid (fun W (h : IS W E D Z) => write_is (dq E ind) (tellS l) W h (by omega) hq (tellS_size hl) hz hQ)
  unfold geoV at BL
  rw [show fromG E.i E.bl E.j 5 + ind - 1 = dq E ind from rfl] at BL
  generalize upd D (dq E ind) (tellS l) = D2 at *
  generalize dq E ind = q at *
  generalize tellS l = s at *
  have HB0 := Lib.hid (((Below.refl _ w).alloc (Nat.le_refl _) (.cells #[.int .i64 E.i, .int .i64 E.bl, .int .i64 E.j] 23)).alloc (by simp) (.cells #[.int .u8 kind, .int .u16 links, .int .u32 size, .int .u16 d0, .int .u16 d1, .int .u16 d2, .int .u16 d3, .int .u16 ind] 43))
  have hG := ((SBox.new w 23 #[.int .i64 E.i, .int .i64 E.bl, .int .i64 E.j]).alloc (.cells #[.int .u8 kind, .int .u16 links, .int .u32 size, .int .u16 d0, .int .u16 d1, .int .u16 d2, .int .u16 d3, .int .u16 ind] 43))
  have hX := SBox.new (w.alloc (.cells #[.int .i64 E.i, .int .i64 E.bl, .int .i64 E.j] 23)) 43 #[.int .u8 kind, .int .u16 links, .int .u32 size, .int .u16 d0, .int .u16 d1, .int .u16 d2, .int .u16 d3, .int .u16 ind]
  rw [World.size_alloc] at hX
  have HP := Lib.hid (h.later HB0.out)
  have HS := Lib.hid (hsl.later (Below.mono HB0.out (Nat.le_refl _)))
  have X0 := hX.cell 0
  have X1 := hX.cell 1
  have X2 := hX.cell 2
  have X3 := hX.cell 3
  have X4 := hX.cell 4
  have X5 := hX.cell 5
  have X6 := hX.cell 6
  have X7 := hX.cell 7
  simp only [List.getElem?_toArray, List.getElem?_cons_zero, List.getElem?_cons_succ] at X0 X1 X2 X3 X4 X5 X6 X7
  have Xl := hX.lt
  have G0 := hG.cell 0
  have G1 := hG.cell 1
  have G2 := hG.cell 2
  simp only [List.getElem?_toArray, List.getElem?_cons_zero, List.getElem?_cons_succ] at G0 G1 G2
  have Gl := hG.lt
  clear hX hG h hz hQ hsl
  unfold geoV InoT.val
  go_enter Tryz.func114, Tryz.ntmps114
  go_wp2_with fail
  refine (BL.out _).mono ?_
  rintro e w1 ⟨rfl, b1⟩
  have B1 := Lib.hid (HB0.out.trans (b1.mono HB0.out.size))
  have H1 := Lib.hid (HP.out.later b1)
  have HS1 := Lib.hid (HS.out.later b1)
  clear b1 X0 X1 X2 X3 X4 X5 X6 X7 Xl G0 G1 G2 Gl
  go_wp2_with fail
  refine (TN.out _ HS1.out).mono ?_
  rintro e w2 ⟨rfl, b2⟩
  have B2 := Lib.hid (B1.out.trans (b2.mono B1.out.size))
  have H2 := Lib.hid (H1.out.later b2)
  clear b2
  go_wp2_with fail
  refine (WR.out _ H2.out).mono ?_
  rintro e w3 (⟨rfl, G⟩ | ⟨rfl, G⟩)
  · have G := Lib.hid (G.pre B2.out)
    go_wp2
    go_ret
    exact .inl ⟨rfl, G.out⟩
  · have G := Lib.hid (G.pre B2.out)
    go_wp2
    go_ret
    exact .inr ⟨rfl, G.out⟩
end
end Go.Proofs.YtpnfkilfgdnogaaGreatDoor.Bm
end
section
namespace Go.Proofs.YtpnfkilfgdnogaaGreatDoor.Bm
set_option linter.unusedVariables false
set_option linter.unusedSimpArgs false
open Go.RowKit Go.Shelf Go.Maps Oct Dev Jou Tx Geo Ino Img
def allB (x : InoT) (vs : List Nat) : List Nat := x.d0 :: x.d1 :: x.d2 :: x.d3 :: vs
def pageB (x : InoT) (vs : List Nat) (p : Nat) : Nat := (allB x vs).getD p 0
def setDir (x : InoT) : Nat → Nat → InoT
  | 0, b => { x with d0 := b }
  | 1, b => { x with d1 := b }
  | 2, b => { x with d2 := b }
  | 3, b => { x with d3 := b }
  | _, _ => x
theorem pageB_hi {x : InoT} {vs : List Nat} {p : Nat} (h4 : 4 ≤ p) (hl : vs.length = 32) (hp : p < 36) : ∃ h : p - 4 < vs.length, pageB x vs p = vs[p - 4] := by
  refine ⟨by omega, ?_⟩
  obtain ⟨q, rfl⟩ : ∃ q, p = q + 4 := ⟨p - 4, by omega⟩
  unfold pageB allB
  have e : q + 4 - 4 = q := by omega
  simp only [List.getD_cons_succ]
  rw [List.getD_eq_getElem?_getD, List.getElem?_eq_getElem (by omega)]
  simp
section
variable {E : Im} {D : Secs} {Z : Nat → Prop} {Q : Prop}
set_option maxRecDepth 100000 in
set_option maxHeartbeats 2000000 in
theorem get_lo (x : InoT) (vs : List Nat) (p : Nat) (w : World) (hs : Small E) (hi : InG E.bl x) (hp : p < 4) :
    Calls Tryz.prog 75 #[.pointer (some ⟨E.T.p, 0, none⟩), geoV E.i E.bl E.j, x.val, .int .i64 p] w fun e w' => e = .returned (.tuple #[.int .u16 (pageB x vs p), .int .i64 0]) ∧ Below w.heap.size w w' := by
  have MA := Lib.hid (fun W => may_ok E.i E.bl E.j 0 E.T.p x true W hs.may hi (by omega))
  obtain ⟨kind, links, size, d0, d1, d2, d3, ind⟩ := x
  have HB0 := Lib.hid (((Below.refl _ w).alloc (Nat.le_refl _) (.cells #[.int .i64 E.i, .int .i64 E.bl, .int .i64 E.j] 23)).alloc (by simp) (.cells #[.int .u8 kind, .int .u16 links, .int .u32 size, .int .u16 d0, .int .u16 d1, .int .u16 d2, .int .u16 d3, .int .u16 ind] 43))
  have hX := SBox.new (w.alloc (.cells #[.int .i64 E.i, .int .i64 E.bl, .int .i64 E.j] 23)) 43 #[.int .u8 kind, .int .u16 links, .int .u32 size, .int .u16 d0, .int .u16 d1, .int .u16 d2, .int .u16 d3, .int .u16 ind]
  rw [World.size_alloc] at hX
  have HX := Lib.hid hX
  clear hX hi
  unfold geoV InoT.val at *
  match p, hp with
  | 0, _ | 1, _ | 2, _ | 3, _ =>
    go_enter Tryz.func75, Tryz.ntmps75
    go_wp2_with fail
    refine (MA.out _).mono ?_
    rintro e w1 ⟨rfl, b1⟩
    have hX := HX.out.later b1
    have B1 := Lib.hid (HB0.out.trans (b1.mono HB0.out.size))
    clear b1
    have X0 := hX.cell 0
    have X1 := hX.cell 1
    have X2 := hX.cell 2
    have X3 := hX.cell 3
    have X4 := hX.cell 4
    have X5 := hX.cell 5
    have X6 := hX.cell 6
    have X7 := hX.cell 7
    simp only [List.getElem?_toArray, List.getElem?_cons_zero, List.getElem?_cons_succ] at X0 X1 X2 X3 X4 X5 X6 X7
    have Xl := hX.lt
    clear hX
    go_wp2
    go_ret2
    exact ⟨rfl, B1.out⟩
set_option maxRecDepth 100000 in
set_option maxHeartbeats 2000000 in
theorem get_hi (x : InoT) (vs : List Nat) (p : Nat) (w : World) (hs : Small E) (h : IS w E D Z) (hi : InG E.bl x) (hv : IndIs E D x.ind vs) (h4 : 4 ≤ p) (hp : p < 36) :
    Calls Tryz.prog 75 #[.pointer (some ⟨E.T.p, 0, none⟩), geoV E.i E.bl E.j, x.val, .int .i64 p] w fun e w' => e = .returned (.tuple #[.int .u16 (pageB x vs p), .int .i64 0]) ∧ Below w.heap.size w w' := by
  have MA := Lib.hid (fun W => may_ok E.i E.bl E.j 0 E.T.p x true W hs.may hi (by omega))
  obtain ⟨hq, hpg⟩ := pageB_hi (x := x) h4 hv.len hp
  rw [hpg]
  have TD := Lib.hid (fun W (h : IS W E D Z) => told_is x vs W hs h hi.2.2.2.2 hv)
  have hq2 := hv.len
  obtain ⟨kind, links, size, d0, d1, d2, d3, ind⟩ := x
  have HB0 := Lib.hid (((Below.refl _ w).alloc (Nat.le_refl _) (.cells #[.int .i64 E.i, .int .i64 E.bl, .int .i64 E.j] 23)).alloc (by simp) (.cells #[.int .u8 kind, .int .u16 links, .int .u32 size, .int .u16 d0, .int .u16 d1, .int .u16 d2, .int .u16 d3, .int .u16 ind] 43))
  have HG := Lib.hid ((SBox.new w 23 #[.int .i64 E.i, .int .i64 E.bl, .int .i64 E.j]).alloc (.cells #[.int .u8 kind, .int .u16 links, .int .u32 size, .int .u16 d0, .int .u16 d1, .int .u16 d2, .int .u16 d3, .int .u16 ind] 43))
  have hX := SBox.new (w.alloc (.cells #[.int .i64 E.i, .int .i64 E.bl, .int .i64 E.j] 23)) 43 #[.int .u8 kind, .int .u16 links, .int .u32 size, .int .u16 d0, .int .u16 d1, .int .u16 d2, .int .u16 d3, .int .u16 ind]
  rw [World.size_alloc] at hX
  have HX := Lib.hid hX
  have HP := Lib.hid (h.later HB0.out)
  clear hX hi h hv hpg
  unfold geoV InoT.val at *
  have q0 : (0 : Int) ≤ p := by omega
  have q1 : (p : Int) < 36 := by omega
  have q2 : ¬ (p : Int) < 4 := by omega
  have q3 : decide (p < 4) = false := by simp; omega
  have q4 : (0 : Int) ≤ (p : Int) - 4 := by omega
  have q5 : (p : Int) - 4 < 32 := by omega
  have q6 : ((p : Int) - 4).toNat = p - 4 := by omega
  go_enter Tryz.func75, Tryz.ntmps75
  go_wp2_with fail
  refine (MA.out _).mono ?_
  rintro e w1 ⟨rfl, b1⟩
  have hX := HX.out.later b1
  have hG := HG.out.later b1
  have H1 := Lib.hid (HP.out.later b1)
  have B1 := Lib.hid (HB0.out.trans (b1.mono HB0.out.size))
  clear b1
  have X0 := hX.cell 0
  have X1 := hX.cell 1
  have X2 := hX.cell 2
  have X3 := hX.cell 3
  have X4 := hX.cell 4
  have X5 := hX.cell 5
  have X6 := hX.cell 6
  have X7 := hX.cell 7
  simp only [List.getElem?_toArray, List.getElem?_cons_zero, List.getElem?_cons_succ] at X0 X1 X2 X3 X4 X5 X6 X7
  have Xl := hX.lt
  have G0 := hG.cell 0
  have G1 := hG.cell 1
  have G2 := hG.cell 2
  simp only [List.getElem?_toArray, List.getElem?_cons_zero, List.getElem?_cons_succ] at G0 G1 G2
  have Gl := hG.lt
  clear hX hG
  go_wp2_with fail
  refine (TD.out _ H1.out).mono ?_
  rintro e w2 ⟨g, cap, rfl, hg, hc, R, b2⟩
  have c1 := R.cell (p - 4) hq
  have gl := R.lt
  have B2 := Lib.hid (B1.out.trans (b2.mono B1.out.size))
  clear b2 R hg hc X0 X1 X2 X3 X4 X5 X6 X7 Xl G0 G1 G2 Gl
  go_wp2
  go_ret2
  exact ⟨rfl, B2.out⟩
theorem get_is (x : InoT) (vs : List Nat) (p : Nat) (w : World) (hs : Small E) (h : IS w E D Z) (hi : InG E.bl x) (hv : IndIs E D x.ind vs) (hp : p < 36) :
    Calls Tryz.prog 75 #[.pointer (some ⟨E.T.p, 0, none⟩), geoV E.i E.bl E.j, x.val, .int .i64 p] w fun e w' => e = .returned (.tuple #[.int .u16 (pageB x vs p), .int .i64 0]) ∧ Below w.heap.size w w' := by
  by_cases h4 : p < 4
  · exact get_lo x vs p w hs hi h4
  · exact get_hi x vs p w hs h hi hv (by omega) hp
set_option maxRecDepth 100000 in
set_option maxHeartbeats 2000000 in
theorem set_lo (x : InoT) (p b : Nat) (w : World) (hs : Small E) (hi : InG E.bl x) (hb : b ≤ E.bl) (hp : p < 4) :
    Calls Tryz.prog 117 #[.pointer (some ⟨E.T.p, 0, none⟩), geoV E.i E.bl E.j, x.val, .int .i64 p, .int .u16 b] w fun e w' => e = .returned (.tuple #[(setDir x p b).val, .int .i64 0]) ∧ Below w.heap.size w w' := by
  have MA := Lib.hid (fun W => may_ok E.i E.bl E.j b E.T.p x true W hs.may hi hb)
  obtain ⟨kind, links, size, d0, d1, d2, d3, ind⟩ := x
  have HB0 := Lib.hid ((((Below.refl _ w).alloc (Nat.le_refl _) (.cells #[.int .i64 E.i, .int .i64 E.bl, .int .i64 E.j] 23)).alloc (by simp) (.cells #[.int .u8 kind, .int .u16 links, .int .u32 size, .int .u16 d0, .int .u16 d1, .int .u16 d2, .int .u16 d3, .int .u16 ind] 43)).alloc (by simp; omega) (.cells #[.int .u8 0, .int .u16 0, .int .u32 0, .int .u16 0, .int .u16 0, .int .u16 0, .int .u16 0, .int .u16 0] 43))
  have hX := SBox.new (w.alloc (.cells #[.int .i64 E.i, .int .i64 E.bl, .int .i64 E.j] 23)) 43 #[.int .u8 kind, .int .u16 links, .int .u32 size, .int .u16 d0, .int .u16 d1, .int .u16 d2, .int .u16 d3, .int .u16 ind]
  rw [World.size_alloc] at hX
  have HX := Lib.hid (hX.alloc (.cells #[.int .u8 0, .int .u16 0, .int .u32 0, .int .u16 0, .int .u16 0, .int .u16 0, .int .u16 0, .int .u16 0] 43))
  have hY := SBox.new ((w.alloc (.cells #[.int .i64 E.i, .int .i64 E.bl, .int .i64 E.j] 23)).alloc (.cells #[.int .u8 kind, .int .u16 links, .int .u32 size, .int .u16 d0, .int .u16 d1, .int .u16 d2, .int .u16 d3, .int .u16 ind] 43)) 43 #[.int .u8 0, .int .u16 0, .int .u32 0, .int .u16 0, .int .u16 0, .int .u16 0, .int .u16 0, .int .u16 0]
  rw [World.size_alloc, World.size_alloc] at hY
  have HY := Lib.hid hY
  clear hX hY hi
  unfold geoV InoT.val at *
  match p, hp with
  | 0, _ =>
    go_enter Tryz.func117, Tryz.ntmps117
    go_wp2_with fail
    refine (MA.out _).mono ?_
    rintro e w1 ⟨rfl, b1⟩
    have hX := HX.out.later b1
    have hY := HY.out.later b1
    have HX1 := Lib.hid hX
    have HY1 := Lib.hid hY
    have B1 := Lib.hid (HB0.out.trans (b1.mono HB0.out.size))
    clear b1
    have X0 := hX.cell 0
    have X1 := hX.cell 1
    have X2 := hX.cell 2
    have X3 := hX.cell 3
    have X4 := hX.cell 4
    have X5 := hX.cell 5
    have X6 := hX.cell 6
    have X7 := hX.cell 7
    simp only [List.getElem?_toArray, List.getElem?_cons_zero, List.getElem?_cons_succ] at X0 X1 X2 X3 X4 X5 X6 X7
    have Xl := hX.lt
    have F0 := hX.free 0
    have F1 := hX.free 1
    have F2 := hX.free 2
    have F3 := hX.free 3
    have F4 := hX.free 4
    have F5 := hX.free 5
    have F6 := hX.free 6
    have F7 := hX.free 7
    have Y0 := hY.cell 0
    have Y1 := hY.cell 1
    have Y2 := hY.cell 2
    have Y3 := hY.cell 3
    have Y4 := hY.cell 4
    have Y5 := hY.cell 5
    have Y6 := hY.cell 6
    have Y7 := hY.cell 7
    simp only [List.getElem?_toArray, List.getElem?_cons_zero, List.getElem?_cons_succ] at Y0 Y1 Y2 Y3 Y4 Y5 Y6 Y7
    have Yl := hY.lt
    have J0 := hY.free 0
    have J1 := hY.free 1
    have J2 := hY.free 2
    have J3 := hY.free 3
    have J4 := hY.free 4
    have J5 := hY.free 5
    have J6 := hY.free 6
    have J7 := hY.free 7
    clear hX hY
    go_wp2
    have BB := fillI_below (n := w.heap.size + 1 + 1) (v0 := .int .u8 kind) (v1 := .int .u16 links) (v2 := .int .u32 size) (v3 := .int .u16 b) (v4 := .int .u16 d1) (v5 := .int .u16 d2) (v6 := .int .u16 d3) (v7 := .int .u16 ind) (B1.out.setCell (p := ⟨w.heap.size + 1, 3, none⟩) (by simp) (.int .u16 b)) (by omega)
    have h9 := fill8 (HY1.out.other (c := w.heap.size + 1) (i := 3) (.int .u16 b) (by omega)) (.int .u8 kind) (.int .u16 links) (.int .u32 size) (.int .u16 b) (.int .u16 d1) (.int .u16 d2) (.int .u16 d3) (.int .u16 ind)
    unfold fillI at h9
    have k0 := h9.cell 0
    have k1 := h9.cell 1
    have k2 := h9.cell 2
    have k3 := h9.cell 3
    have k4 := h9.cell 4
    have k5 := h9.cell 5
    have k6 := h9.cell 6
    have k7 := h9.cell 7
    simp only [List.getElem?_toArray, List.getElem?_cons_zero, List.getElem?_cons_succ] at k0 k1 k2 k3 k4 k5 k6 k7
    exact bodyPost_ret (v := .tuple #[.agg #[.int .u8 kind, .int .u16 links, .int .u32 size, .int .u16 b, .int .u16 d1, .int .u16 d2, .int .u16 d3, .int .u16 ind], .int .i64 0]) (by simp [results, Tryz.results117, go_sem, k0, k1, k2, k3, k4, k5, k6, k7]) rfl ⟨rfl, BB⟩
  | 1, _ =>
    go_enter Tryz.func117, Tryz.ntmps117
    go_wp2_with fail
    refine (MA.out _).mono ?_
    rintro e w1 ⟨rfl, b1⟩
    have hX := HX.out.later b1
    have hY := HY.out.later b1
    have HX1 := Lib.hid hX
    have HY1 := Lib.hid hY
    have B1 := Lib.hid (HB0.out.trans (b1.mono HB0.out.size))
    clear b1
    have X0 := hX.cell 0
    have X1 := hX.cell 1
    have X2 := hX.cell 2
    have X3 := hX.cell 3
    have X4 := hX.cell 4
    have X5 := hX.cell 5
    have X6 := hX.cell 6
    have X7 := hX.cell 7
    simp only [List.getElem?_toArray, List.getElem?_cons_zero, List.getElem?_cons_succ] at X0 X1 X2 X3 X4 X5 X6 X7
    have Xl := hX.lt
    have F0 := hX.free 0
    have F1 := hX.free 1
    have F2 := hX.free 2
    have F3 := hX.free 3
    have F4 := hX.free 4
    have F5 := hX.free 5
    have F6 := hX.free 6
    have F7 := hX.free 7
    have Y0 := hY.cell 0
    have Y1 := hY.cell 1
    have Y2 := hY.cell 2
    have Y3 := hY.cell 3
    have Y4 := hY.cell 4
    have Y5 := hY.cell 5
    have Y6 := hY.cell 6
    have Y7 := hY.cell 7
    simp only [List.getElem?_toArray, List.getElem?_cons_zero, List.getElem?_cons_succ] at Y0 Y1 Y2 Y3 Y4 Y5 Y6 Y7
    have Yl := hY.lt
    have J0 := hY.free 0
    have J1 := hY.free 1
    have J2 := hY.free 2
    have J3 := hY.free 3
    have J4 := hY.free 4
    have J5 := hY.free 5
    have J6 := hY.free 6
    have J7 := hY.free 7
    clear hX hY
    go_wp2
    have BB := fillI_below (n := w.heap.size + 1 + 1) (v0 := .int .u8 kind) (v1 := .int .u16 links) (v2 := .int .u32 size) (v3 := .int .u16 d0) (v4 := .int .u16 b) (v5 := .int .u16 d2) (v6 := .int .u16 d3) (v7 := .int .u16 ind) (B1.out.setCell (p := ⟨w.heap.size + 1, 4, none⟩) (by simp) (.int .u16 b)) (by omega)
    have h9 := fill8 (HY1.out.other (c := w.heap.size + 1) (i := 4) (.int .u16 b) (by omega)) (.int .u8 kind) (.int .u16 links) (.int .u32 size) (.int .u16 d0) (.int .u16 b) (.int .u16 d2) (.int .u16 d3) (.int .u16 ind)
    unfold fillI at h9
    have k0 := h9.cell 0
    have k1 := h9.cell 1
    have k2 := h9.cell 2
    have k3 := h9.cell 3
    have k4 := h9.cell 4
    have k5 := h9.cell 5
    have k6 := h9.cell 6
    have k7 := h9.cell 7
    simp only [List.getElem?_toArray, List.getElem?_cons_zero, List.getElem?_cons_succ] at k0 k1 k2 k3 k4 k5 k6 k7
    exact bodyPost_ret (v := .tuple #[.agg #[.int .u8 kind, .int .u16 links, .int .u32 size, .int .u16 d0, .int .u16 b, .int .u16 d2, .int .u16 d3, .int .u16 ind], .int .i64 0]) (by simp [results, Tryz.results117, go_sem, k0, k1, k2, k3, k4, k5, k6, k7]) rfl ⟨rfl, BB⟩
  | 2, _ =>
    go_enter Tryz.func117, Tryz.ntmps117
    go_wp2_with fail
    refine (MA.out _).mono ?_
    rintro e w1 ⟨rfl, b1⟩
    have hX := HX.out.later b1
    have hY := HY.out.later b1
    have HX1 := Lib.hid hX
    have HY1 := Lib.hid hY
    have B1 := Lib.hid (HB0.out.trans (b1.mono HB0.out.size))
    clear b1
    have X0 := hX.cell 0
    have X1 := hX.cell 1
    have X2 := hX.cell 2
    have X3 := hX.cell 3
    have X4 := hX.cell 4
    have X5 := hX.cell 5
    have X6 := hX.cell 6
    have X7 := hX.cell 7
    simp only [List.getElem?_toArray, List.getElem?_cons_zero, List.getElem?_cons_succ] at X0 X1 X2 X3 X4 X5 X6 X7
    have Xl := hX.lt
    have F0 := hX.free 0
    have F1 := hX.free 1
    have F2 := hX.free 2
    have F3 := hX.free 3
    have F4 := hX.free 4
    have F5 := hX.free 5
    have F6 := hX.free 6
    have F7 := hX.free 7
    have Y0 := hY.cell 0
    have Y1 := hY.cell 1
    have Y2 := hY.cell 2
    have Y3 := hY.cell 3
    have Y4 := hY.cell 4
    have Y5 := hY.cell 5
    have Y6 := hY.cell 6
    have Y7 := hY.cell 7
    simp only [List.getElem?_toArray, List.getElem?_cons_zero, List.getElem?_cons_succ] at Y0 Y1 Y2 Y3 Y4 Y5 Y6 Y7
    have Yl := hY.lt
    have J0 := hY.free 0
    have J1 := hY.free 1
    have J2 := hY.free 2
    have J3 := hY.free 3
    have J4 := hY.free 4
    have J5 := hY.free 5
    have J6 := hY.free 6
    have J7 := hY.free 7
    clear hX hY
    go_wp2
    have BB := fillI_below (n := w.heap.size + 1 + 1) (v0 := .int .u8 kind) (v1 := .int .u16 links) (v2 := .int .u32 size) (v3 := .int .u16 d0) (v4 := .int .u16 d1) (v5 := .int .u16 b) (v6 := .int .u16 d3) (v7 := .int .u16 ind) (B1.out.setCell (p := ⟨w.heap.size + 1, 5, none⟩) (by simp) (.int .u16 b)) (by omega)
    have h9 := fill8 (HY1.out.other (c := w.heap.size + 1) (i := 5) (.int .u16 b) (by omega)) (.int .u8 kind) (.int .u16 links) (.int .u32 size) (.int .u16 d0) (.int .u16 d1) (.int .u16 b) (.int .u16 d3) (.int .u16 ind)
    unfold fillI at h9
    have k0 := h9.cell 0
    have k1 := h9.cell 1
    have k2 := h9.cell 2
    have k3 := h9.cell 3
    have k4 := h9.cell 4
    have k5 := h9.cell 5
    have k6 := h9.cell 6
    have k7 := h9.cell 7
    simp only [List.getElem?_toArray, List.getElem?_cons_zero, List.getElem?_cons_succ] at k0 k1 k2 k3 k4 k5 k6 k7
    exact bodyPost_ret (v := .tuple #[.agg #[.int .u8 kind, .int .u16 links, .int .u32 size, .int .u16 d0, .int .u16 d1, .int .u16 b, .int .u16 d3, .int .u16 ind], .int .i64 0]) (by simp [results, Tryz.results117, go_sem, k0, k1, k2, k3, k4, k5, k6, k7]) rfl ⟨rfl, BB⟩
  | 3, _ =>
    go_enter Tryz.func117, Tryz.ntmps117
    go_wp2_with fail
    refine (MA.out _).mono ?_
    rintro e w1 ⟨rfl, b1⟩
    have hX := HX.out.later b1
    have hY := HY.out.later b1
    have HX1 := Lib.hid hX
    have HY1 := Lib.hid hY
    have B1 := Lib.hid (HB0.out.trans (b1.mono HB0.out.size))
    clear b1
    have X0 := hX.cell 0
    have X1 := hX.cell 1
    have X2 := hX.cell 2
    have X3 := hX.cell 3
    have X4 := hX.cell 4
    have X5 := hX.cell 5
    have X6 := hX.cell 6
    have X7 := hX.cell 7
    simp only [List.getElem?_toArray, List.getElem?_cons_zero, List.getElem?_cons_succ] at X0 X1 X2 X3 X4 X5 X6 X7
    have Xl := hX.lt
    have F0 := hX.free 0
    have F1 := hX.free 1
    have F2 := hX.free 2
    have F3 := hX.free 3
    have F4 := hX.free 4
    have F5 := hX.free 5
    have F6 := hX.free 6
    have F7 := hX.free 7
    have Y0 := hY.cell 0
    have Y1 := hY.cell 1
    have Y2 := hY.cell 2
    have Y3 := hY.cell 3
    have Y4 := hY.cell 4
    have Y5 := hY.cell 5
    have Y6 := hY.cell 6
    have Y7 := hY.cell 7
    simp only [List.getElem?_toArray, List.getElem?_cons_zero, List.getElem?_cons_succ] at Y0 Y1 Y2 Y3 Y4 Y5 Y6 Y7
    have Yl := hY.lt
    have J0 := hY.free 0
    have J1 := hY.free 1
    have J2 := hY.free 2
    have J3 := hY.free 3
    have J4 := hY.free 4
    have J5 := hY.free 5
    have J6 := hY.free 6
    have J7 := hY.free 7
    clear hX hY
    go_wp2
    have BB := fillI_below (n := w.heap.size + 1 + 1) (v0 := .int .u8 kind) (v1 := .int .u16 links) (v2 := .int .u32 size) (v3 := .int .u16 d0) (v4 := .int .u16 d1) (v5 := .int .u16 d2) (v6 := .int .u16 b) (v7 := .int .u16 ind) (B1.out.setCell (p := ⟨w.heap.size + 1, 6, none⟩) (by simp) (.int .u16 b)) (by omega)
    have h9 := fill8 (HY1.out.other (c := w.heap.size + 1) (i := 6) (.int .u16 b) (by omega)) (.int .u8 kind) (.int .u16 links) (.int .u32 size) (.int .u16 d0) (.int .u16 d1) (.int .u16 d2) (.int .u16 b) (.int .u16 ind)
    unfold fillI at h9
    have k0 := h9.cell 0
    have k1 := h9.cell 1
    have k2 := h9.cell 2
    have k3 := h9.cell 3
    have k4 := h9.cell 4
    have k5 := h9.cell 5
    have k6 := h9.cell 6
    have k7 := h9.cell 7
    simp only [List.getElem?_toArray, List.getElem?_cons_zero, List.getElem?_cons_succ] at k0 k1 k2 k3 k4 k5 k6 k7
    exact bodyPost_ret (v := .tuple #[.agg #[.int .u8 kind, .int .u16 links, .int .u32 size, .int .u16 d0, .int .u16 d1, .int .u16 d2, .int .u16 b, .int .u16 ind], .int .i64 0]) (by simp [results, Tryz.results117, go_sem, k0, k1, k2, k3, k4, k5, k6, k7]) rfl ⟨rfl, BB⟩
end
end Go.Proofs.YtpnfkilfgdnogaaGreatDoor.Bm
end
section
namespace Go.Proofs.YtpnfkilfgdnogaaGreatDoor.Bm
set_option linter.unusedVariables false
set_option linter.unusedSimpArgs false
open Go.RowKit Go.Shelf Go.Maps Oct Dev Jou Tx Geo Ino Img
def zeroA (cs : Array Value) (o a : Nat) : Nat → Array Value
  | 0 => cs
  | k + 1 => (zeroA cs o a k).setIfInBounds (o + (a + k)) (.int .u16 0)
theorem zeroA_size (cs : Array Value) (o a : Nat) : ∀ k, (zeroA cs o a k).size = cs.size
  | 0 => rfl
  | k + 1 => by simp [zeroA, zeroA_size cs o a k]
theorem zeroA_get (cs : Array Value) (o a : Nat) : ∀ (k i : Nat), (zeroA cs o a k)[i]? = if o + a ≤ i ∧ i < o + a + k ∧ i < cs.size then some (.int .u16 0) else cs[i]?
  | 0, i => by
    rw [if_neg (by omega)]
    rfl
  | k + 1, i => by
    rw [zeroA, Array.getElem?_setIfInBounds, zeroA_size, zeroA_get cs o a k i]
    by_cases e : o + (a + k) = i
    · subst e
      rw [if_pos rfl]
      by_cases hs : o + (a + k) < cs.size
      · rw [if_pos hs, if_pos (by omega)]
      · rw [if_neg hs, if_neg (by omega), Array.getElem?_eq_none (by omega)]
    · rw [if_neg e]
      by_cases hc : o + a ≤ i ∧ i < o + a + k ∧ i < cs.size
      · rw [if_pos hc, if_pos (by omega)]
      · rw [if_neg hc, if_neg (by omega)]
def nzs (l : List Nat) (a m : Nat) : List Nat := (List.range' a m).filter fun k => l.getD k 0 != 0
theorem nzs_succ (l : List Nat) (a m : Nat) : nzs l a (m + 1) = nzs l a m ++ if l.getD (a + m) 0 = 0 then [] else [a + m] := by
  unfold nzs
  rw [List.range'_1_concat, List.filter_append]
  congr 1
  by_cases h : l.getD (a + m) 0 = 0
  · rw [if_pos h, List.filter_cons_of_neg (by simpa using h)]
    rfl
  · rw [if_neg h, List.filter_cons_of_pos (by simpa using h)]
    rfl
structure RowB where
  b : Nat
  o : Nat
  t : TypeId
  cs : Array Value
  l : List Nat
  a : Nat
def RowB.Ok (r : RowB) : Prop := ∀ i (h : i < r.l.length), r.cs[r.o + i]? = some (.int .u16 r.l[i])
def KpS (S : Nat → TypeId → Prop) (X Y : World) : Prop := ∀ c t cs, S c t → SBox X c t cs → SBox Y c t cs
theorem KpS.trans {S : Nat → TypeId → Prop} {X Y Z : World} (h : KpS S X Y) (g : KpS S Y Z) : KpS S X Z := fun c t cs hc hs => g c t cs hc (h c t cs hc hs)
def keepT (b : Nat) (t : TypeId) (fB lB : Nat) (c : Nat) (u : TypeId) : Prop := (c = b ∧ u = t) ∨ (c = fB ∧ u = 3) ∨ (c = lB ∧ u = 87)
def NxT (r : RowB) (pre : List Nat) (x : Nat) (W : World) : Prop := x < r.l.length ∧ r.a ≤ x ∧ r.l.getD x 0 ≠ 0 ∧ pre = nzs r.l r.a (x - r.a) ∧ SBox W r.b r.t (zeroA r.cs r.o r.a (x - r.a + 1))
def FinT (r : RowB) (xs : List Nat) (W : World) : Prop := xs = nzs r.l r.a (r.l.length - r.a) ∧ SBox W r.b r.t (zeroA r.cs r.o r.a (r.l.length - r.a))
def encT (l : List Nat) (x : Nat) : Array Value := #[.int .u16 (l.getD x 0 : Nat)]
theorem taken_any (a : Addr) (n cap : Nat) (f : Int) (w : World) : Calls Tryz.prog 113 #[.slice (some a) n cap, .int .i64 f] w fun e w' => e = .returned (.func (.func 158) #[] #[.pointer (some ⟨w.heap.size + 1, 0, none⟩), .pointer (some ⟨w.heap.size, 0, none⟩)]) ∧ (w.alloc (.cells #[.slice (some a) n cap] 87)).alloc (.cells #[.int .i64 f] 3) = w' := by
  go_enter Tryz.func113, Tryz.ntmps113
  go_wp2
  go_ret
  exact ⟨rfl, rfl⟩
set_option maxRecDepth 100000 in
set_option maxHeartbeats 1000000 in
theorem taken_seq (n : Nat) (hn : 1 ≤ n) (r : RowB) (hr : r.Ok) (cap : Nat) (f : Int) (ha : r.a = f.toNat) (hf : f ≤ 1000) (hl : r.l.length ≤ 1000) (w : World) (fB lB : Nat) (hF : SBox w fB 3 #[.int .i64 f]) (hL : SBox w lB 87 #[.slice (some ⟨r.b, r.o, none⟩) r.l.length cap]) (hR : SBox w r.b r.t r.cs) (hbl : r.b ≠ lB) (hbf : r.b ≠ fB) :
    SeqRel2 Fence.wide n Tryz.prog 158 #[.pointer (some ⟨fB, 0, none⟩), .pointer (some ⟨lB, 0, none⟩)] (encT r.l) (Tch (fun c => c = r.b)) (KpS (keepT r.b r.t fB lB)) (NxT r) (FinT r) w := by
  intro l J Jx W hW hJ hJx hY h0
  have hF0 := hF.later hW
  have hL0 := hL.later hW
  have hR0 := hR.later hW
  have f0 := hF0.cell 0
  have fl := hF0.lt
  simp only [List.getElem?_toArray, List.getElem?_cons_zero] at f0
  refine callsIn_of_wp Tryz.func158 rfl trivial ?_ rfl
  simp only [Tryz.ntmps158, List.size_toArray, List.length_cons, List.length_nil, Nat.reduceAdd, Nat.reduceSub, Array.replicate_succ, Array.replicate_zero, List.push_toArray, List.append_toArray, List.nil_append, List.cons_append]
  have hln : r.l.length ≤ 9223372036854775807 := by omega
  have hka : r.a ≤ 1000 := by omega
  clear hF0 hF hL hR
  gi_wp2
  clear f0 fl
  have mx : max f 0 = ((r.a : Nat) : Int) := by rw [ha]; omega
  gi_loopw [4] (fun c wr => ∃ k : Nat, r.a ≤ k ∧ (k ≤ r.l.length ∨ k = r.a) ∧ c = .int .i64 k ∧ J (nzs r.l r.a (k - r.a)) wr ∧ SBox wr r.b r.t (zeroA r.cs r.o r.a (k - r.a)) ∧ SBox wr lB 87 #[.slice (some ⟨r.b, r.o, none⟩) r.l.length cap]) (fun c _ => r.l.length - (intOf c).toNat)
  case atStart => exact ⟨r.a, Nat.le_refl _, .inr rfl, by rw [mx], by rw [Nat.sub_self]; exact h0, by rw [Nat.sub_self]; exact hR0, hL0⟩
  case round =>
    obtain ⟨k, hk, hk2, rfl, hJk, hRk, hLk⟩ := hrel
    clear h0 hR0 hL0 mx
    by_cases hlt : k < r.l.length
    · have L0 := hLk.cell 0
      have Ll := hLk.lt
      simp only [List.getElem?_toArray, List.getElem?_cons_zero] at L0
      have c1 : wr.cell? ⟨r.b, r.o + k, none⟩ = some (.int .u16 (r.l[k] : Nat)) := (hRk.cell _).trans (by rw [zeroA_get, if_neg (by omega)]; exact hr k hlt)
      have f1 := hRk.free (r.o + k)
      have bl := hRk.lt
      have q0 : (0 : Int) ≤ k := by omega
      have q1 : (k : Int) < r.l.length := by omega
      have e1 : r.a + (k - r.a) = k := by omega
      have e2 : k + 1 - r.a = k - r.a + 1 := by omega
      have hgd : r.l.getD k 0 = r.l[k] := by rw [List.getD_eq_getElem?_getD, List.getElem?_eq_getElem hlt]; rfl
      have hR3 : SBox (wr.setCell ⟨r.b, r.o + k, none⟩ (.int .u16 0)) r.b r.t (zeroA r.cs r.o r.a (k - r.a + 1)) := by
        have h := hRk.set (r.o + k) (.int .u16 0)
        rw [zeroA, e1]
        exact h
      have hL3 := Lib.hid (hLk.other (c := r.b) (i := r.o + k) (.int .u16 0) hbl.symm)
      have hJ3 := hJ _ _ _ hJk (Tch.set (S := fun c => c = r.b) (c := r.b) (i := r.o + k) (.int .u16 0) rfl)
      have HR3 := Lib.hid hR3
      have hns := nzs_succ r.l r.a (k - r.a)
      rw [e1, hgd] at hns
      clear hRk hLk hJk
      by_cases hz : r.l[k] = 0
      · have hz2 : ((r.l[k] : Nat) : Int) = 0 := by omega
        rw [if_pos hz, List.append_nil] at hns
        rw [hz2] at c1
        have HJ3 := Lib.hid hJ3
        clear hJ3 hR3 hY hJ hJx
        gi_wp2
        refine ⟨(fun f h => by cases h), ?_⟩
        gi_wp2
        go_roundw
        case rel => exact ⟨k + 1, by omega, .inl (by omega), by simp, by rw [e2, hns]; exact HJ3.out, by rw [e2]; exact HR3.out, hL3.out⟩
        case measure => simp [intOf]; omega
      · have hz2 : (((r.l[k] : Nat) : Int) != 0) = true := by simp; omega
        rw [if_neg hz] at hns
        obtain ⟨fn, tmps, assign, body, hy, hRn⟩ := hY _ k _ hJ3 ⟨hlt, hk, by rw [hgd]; exact hz, rfl, hR3⟩
        unfold encT at hy
        rw [hgd] at hy
        clear hJ3 hR3
        generalize r.l[k] = x at *
        gi_wp2
        refine hRn.mono ?_
        rintro e W4 (⟨rfl, hJ4, hk4⟩ | ⟨rfl, hJx4⟩)
        · have hR4 := Lib.hid (hk4 _ _ _ (.inl ⟨rfl, rfl⟩) HR3.out)
          have hL4 := Lib.hid (hk4 _ _ _ (.inr (.inr ⟨rfl, rfl⟩)) hL3.out)
          have HJ4 := Lib.hid hJ4
          clear hJ4 hk4
          gi_wp2
          go_roundw
          case rel => exact ⟨k + 1, by omega, .inl (by omega), by simp, by rw [e2, hns]; exact HJ4.out, by rw [e2]; exact hR4.out, hL4.out⟩
          case measure => first | omega | (simp [Go.RowKit.intOf]; omega) | (show r.l.length - ((k : Int) + 1).toNat < r.l.length - (k : Int).toNat; omega)
        · gi_wp2
          refine bodyPost_ret (results_none rfl _ _ _) rfl ?_
          exact ⟨⟨_, rfl⟩, .inr ⟨_, hJx4⟩⟩
    · have L0 := hLk.cell 0
      have Ll := hLk.lt
      simp only [List.getElem?_toArray, List.getElem?_cons_zero] at L0
      have q1 : ¬ (k : Int) < r.l.length := by omega
      have e1 : k - r.a = r.l.length - r.a := by omega
      rw [e1] at hRk hJk
      have HR := Lib.hid hRk
      have HJ := Lib.hid hJk
      clear hRk hJk hY hJ hJx hLk
      gi_wp2
      go_end0
      exact ⟨⟨_, rfl⟩, .inl ⟨_, ⟨rfl, HR.out⟩, HJ.out⟩⟩
end Go.Proofs.YtpnfkilfgdnogaaGreatDoor.Bm
end
section
namespace Go.Proofs.YtpnfkilfgdnogaaGreatDoor.Bm
set_option linter.unusedVariables false
set_option linter.unusedSimpArgs false
open Go.RowKit Go.Shelf Go.Maps Oct Dev Jou Tx Geo Ino Img
def dirL (x : InoT) : List Nat := [x.d0, x.d1, x.d2, x.d3]
def cutDir (x : InoT) (p : Nat) : InoT :=
  { x with d0 := if p ≤ 0 then 0 else x.d0, d1 := if p ≤ 1 then 0 else x.d1, d2 := if p ≤ 2 then 0 else x.d2, d3 := if p ≤ 3 then 0 else x.d3 }
def cutVs (vs : List Nat) (p : Nat) : List Nat := vs.mapIdx fun k v => if p ≤ k + 4 then 0 else v
def freeD (x : InoT) (p : Nat) : List Nat := (nzs (dirL x) p (4 - p)).map fun k => (dirL x).getD k 0
def freeV (vs : List Nat) (p : Nat) : List Nat := (nzs vs (p - 4) (32 - (p - 4))).map fun k => vs.getD k 0
theorem cutDir_cells (x : InoT) (p : Nat) : zeroA x.cells 3 p (4 - p) = (cutDir x p).cells := by
  match p with
  | 0 => rfl
  | 1 => rfl
  | 2 => rfl
  | 3 => rfl
  | p + 4 =>
    have e : 4 - (p + 4) = 0 := by omega
    rw [e]
    unfold cutDir InoT.cells zeroA
    simp only
    rw [if_neg (by omega), if_neg (by omega), if_neg (by omega), if_neg (by omega)]
theorem cutVs_len (vs : List Nat) (p : Nat) : (cutVs vs p).length = vs.length := by simp [cutVs]
theorem cutVs_get {vs : List Nat} {p k : Nat} (h : k < vs.length) : (cutVs vs p)[k]'(by rw [cutVs_len]; exact h) = if p ≤ k + 4 then 0 else vs[k] := by
  simp [cutVs]
theorem cutVs_row {W : World} {g p : Nat} {vs : List Nat} {cs : Array Value} (hl : vs.length = 32) (hc : ∀ i (h : i < vs.length), cs[i]? = some (.int .u16 vs[i])) (h : SBox W g 39 (zeroA cs 0 (p - 4) (32 - (p - 4)))) : Row16 W g (cutVs vs p) := by
  refine ⟨_, h, fun i hi => ?_⟩
  rw [cutVs_len] at hi
  have hs : i < cs.size := (Array.getElem?_eq_some_iff.1 (hc i hi)).1
  rw [zeroA_get, cutVs_get hi]
  by_cases hp : p ≤ i + 4
  · rw [if_pos hp, if_pos (by omega)]
    rfl
  · rw [if_neg hp, if_neg (by omega)]
    exact hc i hi
def HeldF (FB B : Nat) (fr : List Nat) (W : World) : Prop := ∃ v, SBox W FB 87 #[v] ∧ W.ownsRow B 39 1 v fr.length (fr.map u16V)
theorem own_cells {W : World} {base n o : Nat} {t : TypeId} {v : Value} {xs : List Value} (h : W.ownsRow base t 1 v n xs) (ho : v.ownBlock = some o) : base ≤ o ∧ ∃ cur, SBox W o t cur := by
  rcases h.2 with ⟨rfl, _⟩ | ⟨g, cap, cur, rfl, hb, hg, _⟩
  · cases ho
  · simp only [Value.ownBlock, Option.some.injEq] at ho
    subst ho
    exact ⟨hb, cur, hg⟩
theorem HeldF.own {B0 FB B : Nat} {fr : List Nat} {W W' : World} {row : Option Nat} (h : HeldF FB B fr W) (hg : W.grownBy W' row) (hr : ∀ r, row = some r → B0 ≤ r ∧ ∃ o : Obj, W.heap[r]? = some o ∧ o.isCells = false) : HeldF FB B fr W' := by
  obtain ⟨v, h1, h2⟩ := h
  refine ⟨v, h1.kept hg (fun e => ?_), h2.kept hg ?_⟩
  · obtain ⟨_, o, ho, hc⟩ := hr FB e.symm
    rw [show W.heap[FB]? = _ from h1] at ho
    cases ho
    cases hc
  · rcases h2.2 with ⟨rfl, _⟩ | ⟨g, cap, cur, rfl, _, hgb, _⟩
    · exact .inl rfl
    · refine .inr (fun e => ?_)
      obtain ⟨_, o, ho, hc⟩ := hr g e.symm
      rw [hgb] at ho
      cases ho
      cases hc
theorem HeldF.tch {FB B b : Nat} {fr : List Nat} {W W' : World} (h : HeldF FB B fr W) (hT : Tch (fun c => c = b) W W') (h1 : FB ≠ b) (h2 : b < B) : HeldF FB B fr W' := by
  obtain ⟨v, h3, h4⟩ := h
  refine ⟨v, (hT.block _ h3.lt h1).trans h3, h4.1, ?_⟩
  rcases h4.2 with h5 | ⟨g, cap, cur, rfl, hb, hgb, h6⟩
  · exact .inl h5
  · exact .inr ⟨g, cap, cur, rfl, hb, (hT.block g (Array.getElem?_eq_some_iff.1 hgb).1 (by omega)).trans hgb, h6⟩
structure AppF (FB B : Nat) (fr : List Nat) (v : Value) (W W3 : World) : Prop where
  held : HeldF FB B fr W3
  tch : Tch (fun c => c = FB ∨ some c = v.ownBlock) W W3
  keeps : ∀ bb, KeepsFrom bb W W3
theorem app_held {W W2 : World} {FB B b : Nat} {v v' : Value} {fr : List Nat} (hv : SBox W FB 87 #[v]) (hrow : W.ownsRow B 39 1 v fr.length (fr.map u16V)) (hFB : FB < B)
    (hg : (W.alloc (.cells #[.int .u16 b] 39)).grownBy W2 v.ownBlock) (ho : W2.ownsRow B 39 1 v' (fr.length + 1) (fr.map u16V ++ [.int .u16 b])) :
    SBox W2 FB 87 #[v] ∧ AppF FB B (fr ++ [b]) v W (W2.setCell ⟨FB, 0, none⟩ v') := by
  have hne : some FB ≠ v.ownBlock := fun e => by have := (own_cells hrow e.symm).1; omega
  have h2 : SBox W2 FB 87 #[v] := (hv.alloc _).kept hg hne
  have T1 : Tch (fun c => c = FB ∨ some c = v.ownBlock) W W2 := (Tch.of_below ((Below.refl _ W).alloc (Nat.le_refl _) _)).trans (Tch.grown hg (fun r e => .inr e.symm))
  refine ⟨h2, ⟨⟨v', h2.set 0 v', ?_⟩, T1.trans (Tch.set _ (.inl rfl)), fun bb => ?_⟩⟩
  · rw [List.length_append, List.map_append]
    exact ownsRow_setCell_below ho (a := ⟨FB, 0, none⟩) hFB _
  · refine KeepsFrom.trans (Y := W2) ⟨T1.size, fun k o _ hk hc => (T1.block k (Array.getElem?_eq_some_iff.1 hk).1 ?_).trans hk⟩ ((KeepsOthers.setCell _ _ _).from _)
    rintro (rfl | e)
    · rw [show W.heap[k]? = _ from hv] at hk
      cases hk
      cases hc
    · obtain ⟨_, cur, hcur⟩ := own_cells hrow e.symm
      rw [show W.heap[k]? = _ from hcur] at hk
      cases hk
      cases hc
theorem AppF.keep {FB B : Nat} {fr fr0 : List Nat} {v : Value} {W W3 : World} (h : AppF FB B fr v W W3) (hrow : W.ownsRow B 39 1 v fr0.length (fr0.map u16V)) {c : Nat} {t : TypeId} {cs : Array Value} (hs : SBox W c t cs) (hc : c ≠ FB) (hb : c < B ∨ t ≠ 39) : SBox W3 c t cs := by
  refine (h.tch.block c hs.lt ?_).trans hs
  rintro (e | e)
  · exact hc e
  · obtain ⟨h1, cur, hcur⟩ := own_cells hrow e.symm
    rcases hb with hb | hb
    · omega
    · have h2 : W.heap[c]? = _ := hcur
      rw [show W.heap[c]? = _ from hs] at h2
      cases h2
      exact hb rfl
theorem AppF.kp {FB B : Nat} {fr fr0 : List Nat} {v : Value} {W W3 : World} {b fB lB : Nat} {t : TypeId} (h : AppF FB B fr v W W3) (hrow : W.ownsRow B 39 1 v fr0.length (fr0.map u16V)) (h1 : b ≠ FB) (h2 : b < B) (h3 : fB ≠ FB) (h4 : lB ≠ FB) : KpS (keepT b t fB lB) W W3 := by
  rintro c u cs (⟨rfl, rfl⟩ | ⟨rfl, rfl⟩ | ⟨rfl, rfl⟩) hs
  · exact h.keep hrow hs h1 (.inl h2)
  · exact h.keep hrow hs h3 (.inr (by decide))
  · exact h.keep hrow hs h4 (.inr (by decide))
theorem kpS_put {b fB lB : Nat} {t : TypeId} (W : World) (l : Nat) (o o' : Obj) (hl : W.heap[l]? = some o) (ho : o.isCells = false) : KpS (keepT b t fB lB) W (W.putObj l o') := fun c u cs _ hs =>
  (World.putObj_heap_other (fun e => by subst e; rw [show W.heap[_]? = _ from hs] at hl; cases hl; cases ho)).trans hs
theorem sbox_put {W : World} {l c : Nat} {o o' : Obj} {t : TypeId} {cs : Array Value} (hl : W.heap[l]? = some o) (ho : o.isCells = false) (hs : SBox W c t cs) : SBox (W.putObj l o') c t cs :=
  (World.putObj_heap_other (fun e => by subst e; rw [show W.heap[_]? = _ from hs] at hl; cases hl; cases ho)).trans hs
theorem tch_keeps {W W' : World} {b n : Nat} (h : Tch (fun c => c = b) W W') (hb : b < n) : KeepsFrom n W W' := ⟨h.size, fun c o hc ho _ => (h.block c (Array.getElem?_eq_some_iff.1 ho).1 (by omega)).trans ho⟩
theorem sbox_own2 {B b : Nat} {t : TypeId} {cs : Array Value} {W W' : World} {row : Option Nat} (h : SBox W b t cs) (hg : W.grownBy W' row) (hr : ∀ r, row = some r → B ≤ r ∧ ∃ o : Obj, W.heap[r]? = some o ∧ o.isCells = false) : SBox W' b t cs :=
  h.kept hg (fun e => by
    obtain ⟨_, o, ho, hc⟩ := hr b e.symm
    rw [show W.heap[b]? = _ from h] at ho
    cases ho
    cases hc)
theorem dev_via {w V W : World} {b : DevB} {hard hard0 : List ByteArray} {k k0 : Nat} (h0 : DevAt w b hard0 (fun _ => none) k0) (h : DevAt V b hard (fun _ => none) k) (hb : Below w.heap.size V W) : DevAt W b hard (fun _ => none) k := by
  obtain ⟨⟨cap0, _, g1⟩, g2, g3, _, _, _⟩ := h0
  obtain ⟨⟨cap, c1, h1⟩, h2, h3, h4, h5, h6⟩ := h
  exact ⟨⟨cap, c1, (hb.block _ g1.lt).trans h1⟩, h2.block (hb.block _ g2.lt), h3.block (hb.block _ g3.lt), (fun x e hx => by cases hx), h5, (fun x e hx => by cases hx)⟩
theorem own_put {W : World} {base n size l : Nat} {o o' : Obj} {e : TypeId} {v : Value} {xs : List Value} (h : W.ownsRow base e size v n xs) (hl : W.heap[l]? = some o) (ho : o.isCells = false) : (W.putObj l o').ownsRow base e size v n xs := by
  refine ⟨h.1, ?_⟩
  rcases h.2 with h5 | ⟨g, cap, cur, rfl, hb, hgb, h6⟩
  · exact .inl h5
  · exact .inr ⟨g, cap, cur, rfl, hb, (World.putObj_heap_other (fun e => by subst e; rw [hgb] at hl; cases hl; cases ho)).trans hgb, h6⟩
theorem IS.via {w V W : World} {E : Im} {D D0 : Secs} {Z Z0 : Nat → Prop} (h0 : IS w E D0 Z0) (h : IS V E D Z) (hb : Below w.heap.size V W) : IS W E D Z := by
  obtain ⟨f0, n0, g1, _⟩ := h0
  obtain ⟨f, nn, h1, h2⟩ := h
  obtain ⟨gg, _, gj⟩ := g1.tj.jou
  obtain ⟨gh, hg, hj⟩ := h1.tj.jou
  refine ⟨f, nn, ⟨(hb.block _ g1.img.lt).trans h1.img, ⟨⟨(hb.block _ g1.tj.tx.tx.lt).trans h1.tj.tx.tx, h1.tj.tx.map.block (hb.block _ g1.tj.tx.map.lt), dev_via g1.tj.tx.dev h1.tj.tx.dev hb⟩, ⟨gh, hg, (hb.block _ (SBox.lt gj)).trans hj⟩, h1.tj.ne⟩, h1.len, h1.sec⟩, h2⟩
theorem tch_via {S : Nat → Prop} {w V W : World} (h : Tch S w V) (hb : Below w.heap.size V W) : Tch S w W := ⟨hb.os.trans h.os, hb.tape.trans h.tape, hb.output.trans h.output, Nat.le_trans h.size hb.size, fun c hc hs => (hb.block c hc).trans (h.block c hc hs)⟩
theorem Wr.via {w V W : World} {E : Im} {D D0 : Secs} {Z Z0 : Nat → Prop} (h0 : IS w E D0 Z0) (h : Wr E D Z w V) (hb : Below w.heap.size V W) : Wr E D Z w W := ⟨IS.via h0 h.1 hb, tch_via h.2 hb⟩
theorem Fu.via {w V W : World} {E : Im} {Q : Prop} (h : Fu E Q w V) (hb : Below w.heap.size V W) : Fu E Q w W := ⟨⟨h.1.1, fun q => by
  obtain ⟨D, Z, h1⟩ := h.1.2 q
  obtain ⟨D0, Z0, h0⟩ := q
  exact ⟨D, Z, IS.via h0 h1 hb⟩⟩, tch_via h.2 hb⟩
theorem Wr.same {w W : World} {E : Im} {D : Secs} {Z : Nat → Prop} (h0 : IS w E D Z) (hb : Below w.heap.size w W) : Wr E D Z w W := ⟨h0.later hb, Tch.of_below hb⟩
theorem fillI_heap {W : World} {n c : Nat} {v0 v1 v2 v3 v4 v5 v6 v7 : Value} (h : c ≠ n) : (fillI W n v0 v1 v2 v3 v4 v5 v6 v7).heap[c]? = W.heap[c]? := by
  have k : ∀ (X : World) (i : Nat) (v : Value), (X.setCell ⟨n, i, none⟩ v).heap[c]? = X.heap[c]? := fun X i v => heap_setCell_other X ⟨n, i, none⟩ c v h
  unfold fillI
  rw [k, k, k, k, k, k, k, k]
theorem drew_set {X W : World} {FB c : Nat} {vF : Value} (h : X.setCell ⟨FB, 0, none⟩ vF = W ∨ (X.setCell ⟨FB, 0, none⟩ vF).drew = W) (hc : c ≠ FB) : W.heap[c]? = X.heap[c]? := by
  rcases h with rfl | rfl <;> exact heap_setCell_other X ⟨FB, 0, none⟩ c vF hc
theorem drew_same {X W : World} {FB : Nat} {u vF : Value} {t : TypeId} (h : X.setCell ⟨FB, 0, none⟩ vF = W ∨ (X.setCell ⟨FB, 0, none⟩ vF).drew = W) (hF : SBox X FB t #[u]) : SBox W FB t #[vF] := by
  rcases h with rfl | rfl
  · exact hF.set 0 vF
  · exact SBox.drew (hF.set 0 vF)
theorem drew_below {X W V : World} {n FB : Nat} {vF : Value} (h : X.setCell ⟨FB, 0, none⟩ vF = W ∨ (X.setCell ⟨FB, 0, none⟩ vF).drew = W) (hb : Below n V X) (hn : n ≤ FB) : Below n V W := by
  rcases h with rfl | rfl
  · exact hb.setCell (p := ⟨FB, 0, none⟩) hn vF
  · exact (hb.setCell (p := ⟨FB, 0, none⟩) hn vF).drew
theorem drew_own {X W : World} {base n size FB : Nat} {e : TypeId} {v vF : Value} {xs : List Value} (h : X.setCell ⟨FB, 0, none⟩ vF = W ∨ (X.setCell ⟨FB, 0, none⟩ vF).drew = W) (ho : X.ownsRow base e size v n xs) (hb : FB < base) : W.ownsRow base e size v n xs := by
  rcases h with rfl | rfl <;> exact ownsRow_setCell_below ho (a := ⟨FB, 0, none⟩) hb vF
theorem fillI_own {W : World} {base m size n : Nat} {e : TypeId} {v v0 v1 v2 v3 v4 v5 v6 v7 : Value} {xs : List Value} (ho : W.ownsRow base e size v m xs) (hb : n < base) : (fillI W n v0 v1 v2 v3 v4 v5 v6 v7).ownsRow base e size v m xs := by
  have k : ∀ (X : World) (i : Nat) (u : Value), X.ownsRow base e size v m xs → (X.setCell ⟨n, i, none⟩ u).ownsRow base e size v m xs := fun X i u h => ownsRow_setCell_below h (a := ⟨n, i, none⟩) hb u
  unfold fillI
  exact k _ _ _ (k _ _ _ (k _ _ _ (k _ _ _ (k _ _ _ (k _ _ _ (k _ _ _ (k _ _ _ ho)))))))
theorem cut_tail {n Y FB DD DD2 B : Nat} {V : World} {a0 a1 a2 a3 a4 a5 a6 a7 u vF v0 v1 v2 v3 v4 v5 v6 v7 : Value} {fr : List Nat} (hY : SBox V Y 43 #[a0, a1, a2, a3, a4, a5, a6, a7]) (hF : SBox V FB 87 #[u]) (hYF : Y ≠ FB)
    (h1 : V.heap[DD]? = some (.deferred (some []))) (h2 : V.heap[DD2]? = some (.deferred (some []))) (hne : DD ≠ DD2) (hn : n ≤ Y ∧ n ≤ FB ∧ n ≤ DD ∧ n ≤ DD2) (hrow : V.ownsRow B 39 1 vF fr.length (fr.map u16V)) (hB : FB < B ∧ Y < B) (W : World) (hW : (fillI V Y v0 v1 v2 v3 v4 v5 v6 v7).setCell ⟨FB, 0, none⟩ vF = W ∨ ((fillI V Y v0 v1 v2 v3 v4 v5 v6 v7).setCell ⟨FB, 0, none⟩ vF).drew = W) :
    W.heap[DD2]? = some (.deferred (some [])) ∧ (W.putObj DD2 (.deferred none)).heap[DD]? = some (.deferred (some [])) ∧
      SBox ((W.putObj DD2 (.deferred none)).putObj DD (.deferred none)) Y 43 #[v0, v1, v2, v3, v4, v5, v6, v7] ∧ SBox ((W.putObj DD2 (.deferred none)).putObj DD (.deferred none)) FB 87 #[vF] ∧
      ((W.putObj DD2 (.deferred none)).putObj DD (.deferred none)).ownsRow B 39 1 vF fr.length (fr.map u16V) ∧ Below n V ((W.putObj DD2 (.deferred none)).putObj DD (.deferred none)) := by
  have d1 : DD ≠ Y ∧ DD ≠ FB := ⟨(fun e => by rw [e, show V.heap[Y]? = _ from hY] at h1; cases h1), (fun e => by rw [e, show V.heap[FB]? = _ from hF] at h1; cases h1)⟩
  have d2 : DD2 ≠ Y ∧ DD2 ≠ FB := ⟨(fun e => by rw [e, show V.heap[Y]? = _ from hY] at h2; cases h2), (fun e => by rw [e, show V.heap[FB]? = _ from hF] at h2; cases h2)⟩
  have kb : ∀ c, c ≠ Y → c ≠ FB → W.heap[c]? = V.heap[c]? := fun c c1 c2 => by
    have e1 : (fillI V Y v0 v1 v2 v3 v4 v5 v6 v7).heap[c]? = V.heap[c]? := fillI_heap c1
    exact (drew_set hW c2).trans e1
  have w2 : W.heap[DD2]? = some (.deferred (some [])) := (kb _ d2.1 d2.2).trans h2
  have w1 : W.heap[DD]? = some (.deferred (some [])) := (kb _ d1.1 d1.2).trans h1
  have p1 : (W.putObj DD2 (.deferred none)).heap[DD]? = some (.deferred (some [])) := (World.putObj_heap_other hne).trans w1
  have sY : SBox W Y 43 #[v0, v1, v2, v3, v4, v5, v6, v7] := (drew_set hW hYF).trans (fill8 hY v0 v1 v2 v3 v4 v5 v6 v7)
  have sF : SBox W FB 87 #[vF] := drew_same hW (fillI_other hF hYF)
  have bW : Below n V W := drew_below hW (fillI_below (Below.refl n V) hn.1) hn.2.1
  have rW : W.ownsRow B 39 1 vF fr.length (fr.map u16V) := drew_own hW (fillI_own hrow hB.2) hB.1
  have hr2 := own_put rW w2 rfl (o' := .deferred none)
  have s2 := fun {c : Nat} {t : TypeId} {cs : Array Value} (h : SBox W c t cs) => sbox_put (o' := .deferred none) w2 rfl h
  have s1 := fun {c : Nat} {t : TypeId} {cs : Array Value} (h : SBox (W.putObj DD2 (.deferred none)) c t cs) => sbox_put (o' := .deferred none) p1 rfl h
  refine ⟨w2, p1, s1 (s2 sY), s1 (s2 sF), own_put hr2 p1 rfl, ?_⟩
  have q1 : Below n W (W.putObj DD2 (.deferred none)) := ⟨rfl, rfl, rfl, by simp, fun k hk => World.putObj_heap_other (by omega)⟩
  have q2 : Below n (W.putObj DD2 (.deferred none)) ((W.putObj DD2 (.deferred none)).putObj DD (.deferred none)) := ⟨rfl, rfl, rfl, by simp, fun k hk => World.putObj_heap_other (by omega)⟩
  exact (bW.trans q1).trans q2
theorem own_mono {W : World} {b b' size n : Nat} {e : TypeId} {v : Value} {xs : List Value} (h : W.ownsRow b e size v n xs) (hb : b' ≤ b) : W.ownsRow b' e size v n xs := by
  refine ⟨h.1, ?_⟩
  rcases h.2 with h5 | ⟨g, cap, cur, rfl, h6, h7⟩
  · exact .inl h5
  · exact .inr ⟨g, cap, cur, rfl, Nat.le_trans hb h6, h7⟩
theorem own_tch {W W' : World} {base size n b : Nat} {e : TypeId} {v : Value} {xs : List Value} (h : W.ownsRow base e size v n xs) (hT : Tch (fun c => c = b) W W') (hb : b < base) : W'.ownsRow base e size v n xs := by
  refine ⟨h.1, ?_⟩
  rcases h.2 with h5 | ⟨g, cap, cur, rfl, h6, h7, h8⟩
  · exact .inl h5
  · exact .inr ⟨g, cap, cur, rfl, h6, (hT.block g (Array.getElem?_eq_some_iff.1 h7).1 (by omega)).trans h7, h8⟩
theorem freeV_zero (p : Nat) : freeV (List.replicate 32 0) p = [] := by
  have h : nzs (List.replicate 32 0) (p - 4) (32 - (p - 4)) = [] := by
    unfold nzs
    refine List.filter_eq_nil_iff.2 (fun k _ => ?_)
    rw [List.getD_eq_getElem?_getD, List.getElem?_replicate]
    split <;> simp
  unfold freeV
  rw [h]
  rfl
theorem nzs_len (l : List Nat) (a m : Nat) : (nzs l a m).length ≤ m := by
  have h := List.length_filter_le (fun k => l.getD k 0 != 0) (List.range' a m)
  rw [List.length_range'] at h
  exact h
end Go.Proofs.YtpnfkilfgdnogaaGreatDoor.Bm
end
section
namespace Go.Proofs.YtpnfkilfgdnogaaGreatDoor.Bm
set_option linter.unusedVariables false
set_option linter.unusedSimpArgs false
open Go.RowKit Go.Shelf Go.Maps Oct Dev Jou Tx Geo Ino Img
attribute [local go_sem] Oper.semAt_some
section
variable {E : Im} {D : Secs} {Z : Nat → Prop} {Q : Prop}
def cutEnd (x : InoT) (p : Nat) : InoT := if x.ind ≠ 0 ∧ p ≤ 4 then { cutDir x p with ind := 0 } else cutDir x p
def cutFree (x : InoT) (vs : List Nat) (p : Nat) : List Nat := freeD x p ++ freeV vs p ++ if x.ind ≠ 0 ∧ p ≤ 4 then [x.ind] else []
def cutSec (E : Im) (D : Secs) (x : InoT) (vs : List Nat) (p : Nat) : Secs := if x.ind ≠ 0 ∧ p ≤ 4 then D else if freeV vs p = [] then D else upd D (dq E x.ind) (tellS (cutVs vs p))
def CutSame (x : InoT) (vs : List Nat) (p : Nat) : Prop := (x.ind ≠ 0 ∧ p ≤ 4) ∨ freeV vs p = []
def OwnL (B : Nat) (l : List Nat) (v : Value) (W : World) : Prop := W.ownsRow B 39 1 v l.length (l.map u16V)
def CutPost (E : Im) (D : Secs) (Z : Nat → Prop) (Q : Prop) (x : InoT) (vs : List Nat) (p : Nat) (w : World) (e : Ending) (w' : World) : Prop :=
  (∃ v, e = .returned (.tuple #[(cutEnd x p).val, v, .int .i64 0]) ∧ OwnL w.heap.size (cutFree x vs p) v w' ∧ Wr E (cutSec E D x vs p) Z w w' ∧ (CutSame x vs p → Below w.heap.size w w')) ∨ (e = .returned (.tuple #[noIno.val, .slice none 0 0, .int .i64 4]) ∧ Fu E Q w w')
set_option maxRecDepth 100000 in
set_option maxHeartbeats 8000000 in
theorem cut_is (x : InoT) (vs : List Nat) (p : Nat) (w : World) (hs : Small E) (h : IS w E D Z) (hi : InG E.bl x) (hv : IndIs E D x.ind vs) (hp : p ≤ 36) (hz : x.ind ≠ 0 → 4 < p → Z (dq E x.ind)) (hQ : 4 < p → FullE E Z → Q) :
    CallsIn Fence.wide 4 Tryz.prog 65 #[.pointer (some ⟨E.T.p, 0, none⟩), geoV E.i E.bl E.j, x.val, .int .i64 p] w (CutPost E D Z Q x vs p w) := by
  obtain ⟨i0, hi0, hz0, hz1, hz2⟩ := info_parts info_u16
  have hbl := hs.hb
  have MA := Lib.hid (fun W => may_ok E.i E.bl E.j 0 E.T.p x true W hs.may hi (by omega))
  have TD := Lib.hid (fun W (h : IS W E D Z) => told_is x vs W hs h hi.2.2.2.2 hv)
  have TL := Lib.hid (fun W sl (h : IS W E D Z) (h0 : x.ind ≠ 0) (h5 : 4 < p) (hsl : SlIs W (cutVs vs p) sl) => tell_is (cutDir x p) (cutVs vs p) sl W hs h (show 1 ≤ x.ind by omega) hi.2.2.2.2 (by rw [cutVs_len, hv.len]; omega) (fun u hu => by
    obtain ⟨k, hk, rfl⟩ := List.getElem_of_mem hu
    rw [cutVs_len] at hk
    rw [cutVs_get hk]
    split
    · omega
    · have := hv.lt _ (List.getElem_mem hk); omega) hsl (hz h0 h5) (hQ h5))
  have hvl := hv.len
  have hno := Lib.hid hv.no
  have hcd := Lib.hid (cutDir_cells x p)
  have hni : ∀ u ∈ dirL x, u < 65536 := fun u hu => by
    obtain ⟨h0, h1, h2, h3, h4⟩ := hi
    simp only [dirL, List.mem_cons, List.not_mem_nil, or_false] at hu
    rcases hu with rfl | rfl | rfl | rfl <;> omega
  unfold CutPost cutEnd cutFree cutSec
  have H := Lib.hid h
  obtain ⟨kind, links, size, d0, d1, d2, d3, ind⟩ := x
  unfold geoV InoT.val InoT.cells at *
  simp only at hz hcd TL
  have HB0 := Lib.hid ((((( Below.refl _ w).alloc (Nat.le_refl _) (.cells #[.int .i64 E.i, .int .i64 E.bl, .int .i64 E.j] 23)).alloc (by simp) (.cells #[.int .u8 kind, .int .u16 links, .int .u32 size, .int .u16 d0, .int .u16 d1, .int .u16 d2, .int .u16 d3, .int .u16 ind] 43)).alloc (by simp; omega) (.cells #[.int .u8 0, .int .u16 0, .int .u32 0, .int .u16 0, .int .u16 0, .int .u16 0, .int .u16 0, .int .u16 0] 43)).alloc (by simp; omega) (.cells #[.slice none 0 0] 87))
  have hG := (((SBox.new w 23 #[.int .i64 E.i, .int .i64 E.bl, .int .i64 E.j]).alloc (.cells #[.int .u8 kind, .int .u16 links, .int .u32 size, .int .u16 d0, .int .u16 d1, .int .u16 d2, .int .u16 d3, .int .u16 ind] 43)).alloc (.cells #[.int .u8 0, .int .u16 0, .int .u32 0, .int .u16 0, .int .u16 0, .int .u16 0, .int .u16 0, .int .u16 0] 43)).alloc (.cells #[.slice none 0 0] 87)
  have hX := ((SBox.new (w.alloc (.cells #[.int .i64 E.i, .int .i64 E.bl, .int .i64 E.j] 23)) 43 #[.int .u8 kind, .int .u16 links, .int .u32 size, .int .u16 d0, .int .u16 d1, .int .u16 d2, .int .u16 d3, .int .u16 ind]).alloc (.cells #[.int .u8 0, .int .u16 0, .int .u32 0, .int .u16 0, .int .u16 0, .int .u16 0, .int .u16 0, .int .u16 0] 43)).alloc (.cells #[.slice none 0 0] 87)
  have hY := (SBox.new ((w.alloc (.cells #[.int .i64 E.i, .int .i64 E.bl, .int .i64 E.j] 23)).alloc (.cells #[.int .u8 kind, .int .u16 links, .int .u32 size, .int .u16 d0, .int .u16 d1, .int .u16 d2, .int .u16 d3, .int .u16 ind] 43)) 43 #[.int .u8 0, .int .u16 0, .int .u32 0, .int .u16 0, .int .u16 0, .int .u16 0, .int .u16 0, .int .u16 0]).alloc (.cells #[.slice none 0 0] 87)
  have hF := SBox.new (((w.alloc (.cells #[.int .i64 E.i, .int .i64 E.bl, .int .i64 E.j] 23)).alloc (.cells #[.int .u8 kind, .int .u16 links, .int .u32 size, .int .u16 d0, .int .u16 d1, .int .u16 d2, .int .u16 d3, .int .u16 ind] 43)).alloc (.cells #[.int .u8 0, .int .u16 0, .int .u32 0, .int .u16 0, .int .u16 0, .int .u16 0, .int .u16 0, .int .u16 0] 43)) 87 #[.slice none 0 0]
  simp only [World.size_alloc] at hX hY hF
  have HG := Lib.hid hG
  have HX := Lib.hid hX
  have HY := Lib.hid hY
  have HF := Lib.hid hF
  clear hG hX hY hF h hv hi
  have q0 : (0 : Int) ≤ p := by omega
  have q1 : (p : Int) ≤ 36 := by omega
  refine callsIn_of_wp_marks Tryz.func65 rfl trivial ?_ rfl
  simp only [Tryz.ntmps65, List.size_toArray, List.length_cons, List.length_nil, Nat.reduceAdd, Nat.reduceSub, Array.replicate_succ, Array.replicate_zero, List.push_toArray, List.append_toArray, List.nil_append, List.cons_append]
  gi_wp2_with fail
  refine ⟨trivial, ?_⟩
  refine (callsIn_wide.2 (MA.out _)).mono ?_
  rintro e w1 ⟨rfl, b1⟩
  have hB1 := HB0.out.trans (b1.mono HB0.out.size)
  have hG := HG.out.later b1
  have hX := HX.out.later b1
  have HG1 := Lib.hid hG
  have HX1 := Lib.hid hX
  have HY1 := Lib.hid (HY.out.later b1)
  have HF1 := Lib.hid (HF.out.later b1)
  have H1 := Lib.hid (H.out.later hB1)
  have B1 := Lib.hid hB1
  have G0 := hG.cell 0
  have G1 := hG.cell 1
  have G2 := hG.cell 2
  simp only [List.getElem?_toArray, List.getElem?_cons_zero, List.getElem?_cons_succ] at G0 G1 G2
  have Gl := hG.lt
  have X0 := hX.cell 0
  have X1 := hX.cell 1
  have X2 := hX.cell 2
  have X3 := hX.cell 3
  have X4 := hX.cell 4
  have X5 := hX.cell 5
  have X6 := hX.cell 6
  have X7 := hX.cell 7
  simp only [List.getElem?_toArray, List.getElem?_cons_zero, List.getElem?_cons_succ] at X0 X1 X2 X3 X4 X5 X6 X7
  have Xl := hX.lt
  clear hG hX hB1 b1 HG HX HY HF HB0 MA
  gi_wp2_with fail
  refine ⟨trivial, ?_⟩
  refine (callsIn_wide.2 (TD.out _ H1.out)).mono ?_
  rintro e w2 ⟨g, cap, rfl, hg, hc, hR, b2⟩
  obtain ⟨cs2, hR2, hR2c⟩ := hR
  have hB2 := B1.out.trans (b2.mono B1.out.size)
  have hX := HX1.out.later b2
  have HG2 := Lib.hid (HG1.out.later b2)
  have HX2 := Lib.hid hX
  have HY2 := Lib.hid (HY1.out.later b2)
  have HF2 := Lib.hid (HF1.out.later b2)
  have H2 := Lib.hid (H1.out.later b2)
  have B2 := Lib.hid hB2
  have Fl := HF1.out.lt
  have hR2l := hR2.lt
  clear hX hB2 b2 HG1 HX1 HY1 HF1 TD H1 G0 G1 G2 Gl X0 X1 X2 X3 X4 X5 X6 X7 Xl
  gi_wp2_with fail
  refine ⟨trivial, ?_⟩
  refine (callsIn_wide.2 (taken_any ⟨w.heap.size + 1, 3, none⟩ 4 4 p _)).mono ?_
  rintro e w3 ⟨rfl, rfl⟩
  have hB3 := (B2.out.alloc B2.out.size (.cells #[.slice (some ⟨w.heap.size + 1, 3, none⟩) 4 4] 87)).alloc (by have := B2.out.size; simp; omega) (.cells #[.int .i64 p] 3)
  have h3 := (((Below.refl _ w2).alloc (Nat.le_refl _) (.cells #[.slice (some ⟨w.heap.size + 1, 3, none⟩) 4 4] 87)).alloc (by simp) (.cells #[.int .i64 p] 3))
  have hlB := (SBox.new w2 87 #[.slice (some ⟨w.heap.size + 1, 3, none⟩) 4 4]).alloc (.cells #[.int .i64 p] 3)
  have hfB := SBox.new (w2.alloc (.cells #[.slice (some ⟨w.heap.size + 1, 3, none⟩) 4 4] 87)) 3 #[.int .i64 p]
  rw [World.size_alloc] at hfB
  have hsz3 : ((w2.alloc (.cells #[.slice (some ⟨w.heap.size + 1, 3, none⟩) 4 4] 87)).alloc (.cells #[.int .i64 p] 3)).heap.size = w2.heap.size + 2 := by simp
  have HG3 := Lib.hid (HG2.out.later h3)
  have HX3 := Lib.hid (HX2.out.later h3)
  have HY3 := Lib.hid (HY2.out.later h3)
  have HF3 := Lib.hid (HF2.out.later h3)
  have H3 := Lib.hid (H2.out.later h3)
  have hR3 := Lib.hid (hR2.later h3)
  have hB3 := Lib.hid hB3
  have Fl2 := HF2.out.lt
  clear h3 HG2 HX2 HY2 HF2 H2
  gi_wp2_with fail
  generalize (w2.alloc (.cells #[.slice (some ⟨w.heap.size + 1, 3, none⟩) 4 4] 87)).alloc (.cells #[.int .i64 p] 3) = w3 at *
  refine wpIn_rangeFunc_rel2 rfl (by omega) (gf := 158) (lb := #[.pointer (some ⟨w2.heap.size + 1, 0, none⟩), .pointer (some ⟨w2.heap.size, 0, none⟩)]) rfl trivial (enters_of Tryz.func158 (by kernel_rfl) rfl)
    (taken_seq (4 - 1) (by omega) ⟨w.heap.size + 1, 3, 43, #[.int .u8 kind, .int .u16 links, .int .u32 size, .int .u16 d0, .int .u16 d1, .int .u16 d2, .int .u16 d3, .int .u16 ind], [d0, d1, d2, d3], p⟩ (fun k hk => by
      match k, hk with
      | 0, _ | 1, _ | 2, _ | 3, _ => rfl) 4 p (by simp) (by omega) (by simp) w3 (w2.heap.size + 1) w2.heap.size hfB hlB HX3.out (by have := B2.out.size; simp; omega) (by have := B2.out.size; simp; omega))
    (fun pre x W l o o' hl ho hc hN => ⟨hN.1, hN.2.1, hN.2.2.1, hN.2.2.2.1, sbox_put ho hc hN.2.2.2.2⟩)
    (fun xs W l o o' hl ho hc hN => ⟨hN.1, sbox_put ho hc hN.2⟩)
    (fun X Y hT => tch_keeps hT (by have := B2.out.size; simp; omega))
    KpS.trans
    (fun W l o o' _ hl ho _ => kpS_put W l o o' hl ho)
    (Below.refl _ _) (fun _ => rfl)
    (fun pre W => HeldF (w.heap.size + 1 + 1 + 1) (w2.heap.size + 2) (pre.map fun k => [d0, d1, d2, d3].getD k 0) W ∧ SBox W w.heap.size 23 #[.int .i64 E.i, .int .i64 E.bl, .int .i64 E.j] ∧ SBox W (w.heap.size + 1 + 1) 43 #[.int .u8 0, .int .u16 0, .int .u32 0, .int .u16 0, .int .u16 0, .int .u16 0, .int .u16 0, .int .u16 0] ∧ SBox W g 39 cs2 ∧ w2.heap.size + 2 ≤ W.heap.size ∧ Below w.heap.size w W)
    (fun _ _ _ => False)
    ?own (fun _ _ _ _ _ hs _ _ => hs) ?rel (fun _ _ _ _ h _ => h) ?start ?a1 ?assign ?body ?done ?stop
  case assign =>
    intro l x W K hK
    have HK := Lib.hid hK
    clear hK
    dsimp only [encT]
    gi_wp2
    exact HK.out
  case own =>
    rintro pre W W' row ⟨h1, h2, h3, h4, h5, h6⟩ hg hr
    have hB2 := B2.out.size
    exact ⟨h1.own hg hr, sbox_own2 h2 hg hr, sbox_own2 h3 hg hr, sbox_own2 h4 hg hr, Nat.le_trans h5 hg.size, h6.grown hg h6.size (fun k e => by have := (hr k e).1; omega)⟩
  case rel =>
    rintro pre X Y ⟨h1, h2, h3, h4, h5, h6⟩ hT
    have hB2 := B2.out.size
    simp only at hT
    exact ⟨h1.tch hT (by omega) (by omega), (hT.block _ h2.lt (by omega)).trans h2, (hT.block _ h3.lt (by omega)).trans h3, (hT.block _ h4.lt (by omega)).trans h4, Nat.le_trans h5 hT.size, hT.below (fun c hc => by omega) h6 h6.size⟩
  case start => exact ⟨⟨_, HF3.out, World.ownsRow_nil _ _ _ _⟩, HG3.out, HY3.out, hR3.out, by omega, hB3.out⟩
  case stop =>
    rintro D c pre W _ h _
    exact h.elim
  case body =>
    rintro l pre k W ⟨⟨v, hv, hrow⟩, hGW, hYW, hRW, hzW, hBW⟩ ⟨hlt, hge, hnz, hpre, hXW⟩
    have hpl : pre.length ≤ 36 := by
      rw [hpre]
      have := nzs_len [d0, d1, d2, d3] p (k - p)
      simp only [List.length_cons, List.length_nil] at hlt
      simp only at this ⊢
      omega
    have hB2 := B2.out.size
    have cv := hv.cell 0
    have fv := hv.free 0
    have vl := hv.lt
    simp only [List.getElem?_toArray, List.getElem?_cons_zero] at cv
    have hfs : ∀ xs : List Nat, (xs.map fun k => [d0, d1, d2, d3].getD k 0) ++ [[d0, d1, d2, d3][k]?.getD 0] = (xs ++ [k]).map fun k => [d0, d1, d2, d3].getD k 0 := fun xs => by rw [List.map_append]; rfl
    have hfs := Lib.hid (hfs pre)
    have hpm : (pre.map fun k => [d0, d1, d2, d3].getD k 0).length ≤ 36 := by rw [List.length_map]; exact hpl
    clear hpre hXW hnz
    generalize [d0, d1, d2, d3][k]?.getD 0 = b at *
    generalize (pre.map fun k => [d0, d1, d2, d3].getD k 0) = fr at *
    gi_wp2_with (gi_at_builtin; refine wpListIn_append_own _ rfl _ _ 87 rfl (w2.heap.size + 2) 39 i0 (.int .u16 0) 1 2 Tryz.underlying87 hi0 hz0 hz1 hz2 rfl (by decide) _ _ _ rfl (hrow.alloc _) ⟨W.heap.size, 0, none⟩ 1 1 [.int .u16 b] rfl rfl (World.news_of_block (SBox.new _ 39 #[.int .u16 b])) (by intro u hu; simp at hu; subst hu; rfl) (by unfold maxLen; omega) (by omega) (by simp; omega) ?_)
    intro v' W2 hown2 hgrow2 _
    obtain ⟨g', cap', rfl⟩ : ∃ g' cap', v' = .slice (some ⟨g', 0, none⟩) (fr.length + 1) cap' := by
      rcases hown2.2 with ⟨_, e0⟩ | ⟨g', cap', cur', rfl, _⟩
      · omega
      · exact ⟨_, _, rfl⟩
    obtain ⟨hv2, AF⟩ := app_held hv hrow (by omega) hgrow2 hown2
    have hK3 := AF.kp (b := w.heap.size + 1) (fB := w2.heap.size + 1) (lB := w2.heap.size) (t := 43) hrow (by omega) (by omega) (by omega) (by omega)
    have hG3 := AF.keep hrow hGW (by omega) (.inl (by omega))
    have hY3 := AF.keep hrow hYW (by omega) (.inl (by omega))
    have hR4 := AF.keep hrow hRW (by omega) (.inl (by omega))
    have hB4 := AF.tch.below (n := w.heap.size) (fun c hc => by
      rcases hc with rfl | hc
      · omega
      · have := (own_cells hrow hc.symm).1; omega) hBW hBW.size
    have P := Lib.hid (And.intro (AF.keeps (w2.heap.size + 2)) (And.intro hK3 (And.intro AF.held (And.intro hG3 (And.intro hY3 (And.intro hR4 (And.intro (Nat.le_trans hzW AF.tch.size) hB4)))))))
    have c3 := hv2.cell 0
    have f3 := hv2.free 0
    have l3 := hv2.lt
    simp only [List.getElem?_toArray, List.getElem?_cons_zero] at c3
    rw [hfs.out] at P
    clear hv hrow hGW hYW hRW hzW hBW hv2 hgrow2 hown2 AF hK3 hG3 hY3 hR4 hB4 cv fv vl
    gi_wp2
    exact P.out
  case done =>
    rintro DD ys W hD ⟨hys, hXW⟩ ⟨⟨v, hv, hrow⟩, hGW, hYW, hRW, hzW, hBW⟩ hK
    simp only at hys hXW
    have hx4 : ([d0, d1, d2, d3] : List Nat).length - p = 4 - p := rfl
    rw [hx4] at hys hXW
    have hXW2 : SBox W (w.heap.size + 1) 43 _ := hXW
    rw [hcd.out] at hXW2
    obtain ⟨ao, acap, hva⟩ : ∃ ao acap, v = .slice ao (ys.map fun k => [d0, d1, d2, d3].getD k 0).length acap := by
      rcases hrow.2 with ⟨rfl, e0⟩ | ⟨g, cap, cur, rfl, _⟩
      · exact ⟨none, 0, by rw [e0]⟩
      · exact ⟨_, _, rfl⟩
    have hfd : (ys.map fun k => [d0, d1, d2, d3].getD k 0) = freeD ⟨kind, links, size, d0, d1, d2, d3, ind⟩ p := by
      rw [hys]
      rfl
    have hfl : (freeD ⟨kind, links, size, d0, d1, d2, d3, ind⟩ p).length ≤ 4 := by
      unfold freeD
      rw [List.length_map]
      exact Nat.le_trans (nzs_len _ _ _) (by omega)
    rw [hfd] at hrow hva
    obtain ⟨fr1, hfr1⟩ : ∃ l, freeD ⟨kind, links, size, d0, d1, d2, d3, ind⟩ p = l := ⟨_, rfl⟩
    rw [hfr1] at hrow hva hfl
    clear hXW hys hx4 hfd
    subst hva
    have cv := hv.cell 0
    have fv := hv.free 0
    have vl := hv.lt
    simp only [List.getElem?_toArray, List.getElem?_cons_zero] at cv
    have hln1 : fr1.length ≤ 9223372036854775807 := by omega
    have hp4 : (p : Int) - 4 ≤ 1000 := by omega
    have HV := Lib.hid hv
    have HRW := Lib.hid hrow
    have HGW := Lib.hid hGW
    have HYW := Lib.hid hYW
    have HRc := Lib.hid hRW
    have HXW := Lib.hid hXW2
    have HBW := Lib.hid hBW
    clear hv hrow hGW hYW hRW hXW2 hBW
    gi_wp2_with fail
    refine ⟨trivial, ?_⟩
    refine (callsIn_wide.2 (taken_any ⟨g, 0, none⟩ 32 cap ((p : Int) - 4) _)).mono ?_
    rintro e w5 ⟨rfl, rfl⟩
    have hBW2 := HBW.out.size
    have hDl := (Array.getElem?_eq_some_iff.1 hK).1
    have hB5 := Lib.hid ((HBW.out.alloc HBW.out.size (.cells #[.slice (some ⟨g, 0, none⟩) 32 cap] 87)).alloc (by simp; omega) (.cells #[.int .i64 ((p : Int) - 4)] 3))
    have h5 := (((Below.refl _ W).alloc (Nat.le_refl _) (.cells #[.slice (some ⟨g, 0, none⟩) 32 cap] 87)).alloc (by simp) (.cells #[.int .i64 ((p : Int) - 4)] 3))
    have hlB2 := (SBox.new W 87 #[.slice (some ⟨g, 0, none⟩) 32 cap]).alloc (.cells #[.int .i64 ((p : Int) - 4)] 3)
    have hfB2 := SBox.new (W.alloc (.cells #[.slice (some ⟨g, 0, none⟩) 32 cap] 87)) 3 #[.int .i64 ((p : Int) - 4)]
    rw [World.size_alloc] at hfB2
    have hsz5 : ((W.alloc (.cells #[.slice (some ⟨g, 0, none⟩) 32 cap] 87)).alloc (.cells #[.int .i64 ((p : Int) - 4)] 3)).heap.size = W.heap.size + 2 := by simp
    have HG5 := Lib.hid (HGW.out.later h5)
    have HX5 := Lib.hid (HXW.out.later h5)
    have HY5 := Lib.hid (HYW.out.later h5)
    have HV5 := Lib.hid (HV.out.later h5)
    have hR5 := Lib.hid (HRc.out.later h5)
    have HRW5 := Lib.hid ((HRW.out.alloc (.cells #[.slice (some ⟨g, 0, none⟩) 32 cap] 87)).alloc (.cells #[.int .i64 ((p : Int) - 4)] 3))
    have HK5 := Lib.hid ((h5.block DD hDl).trans hK)
    have hgW : g < W.heap.size := by omega
    clear h5 HGW HXW HYW HV HRc HRW HBW cv fv vl
    gi_wp2_with fail
    generalize (W.alloc (.cells #[.slice (some ⟨g, 0, none⟩) 32 cap] 87)).alloc (.cells #[.int .i64 ((p : Int) - 4)] 3) = w5 at *
    have hlB5 : SBox w5 W.heap.size 87 #[.slice (some ⟨g, 0, none⟩) vs.length cap] := by rw [hvl]; exact hlB2
    refine wpIn_rangeFunc_rel2 rfl (by omega) (gf := 158) (lb := #[.pointer (some ⟨W.heap.size + 1, 0, none⟩), .pointer (some ⟨W.heap.size, 0, none⟩)]) rfl trivial (enters_of Tryz.func158 (by kernel_rfl) rfl)
      (taken_seq (4 - 1) (by omega) ⟨g, 0, 39, cs2, vs, p - 4⟩ (fun k hk => by show cs2[0 + k]? = _; rw [Nat.zero_add]; exact hR2c k hk) cap ((p : Int) - 4) (by simp only; omega) (by omega) (by simp only; omega) w5 (W.heap.size + 1) W.heap.size hfB2 hlB5 hR5.out (by simp only; omega) (by simp only; omega))
      (fun pre x W l o o' hl ho hc hN => ⟨hN.1, hN.2.1, hN.2.2.1, hN.2.2.2.1, sbox_put ho hc hN.2.2.2.2⟩)
      (fun xs W l o o' hl ho hc hN => ⟨hN.1, sbox_put ho hc hN.2⟩)
      (fun X Y hT => tch_keeps hT (by simp only; omega))
      KpS.trans
      (fun W l o o' _ hl ho _ => kpS_put W l o o' hl ho)
      (Below.refl _ _) (fun _ => rfl)
      (fun pre W => HeldF (w.heap.size + 1 + 1 + 1) (w2.heap.size + 2) (fr1 ++ pre.map fun k => vs.getD k 0) W ∧ SBox W w.heap.size 23 #[.int .i64 E.i, .int .i64 E.bl, .int .i64 E.j] ∧ SBox W (w.heap.size + 1 + 1) 43 #[.int .u8 0, .int .u16 0, .int .u32 0, .int .u16 0, .int .u16 0, .int .u16 0, .int .u16 0, .int .u16 0] ∧ SBox W (w.heap.size + 1) 43 (cutDir ⟨kind, links, size, d0, d1, d2, d3, ind⟩ p).cells ∧ w2.heap.size + 2 ≤ W.heap.size ∧ Below w.heap.size w W ∧ W.heap[DD]? = some (.deferred (some [])))
      (fun _ _ _ => False)
      ?own2 (fun _ _ _ _ _ hs _ _ => hs) ?rel2 (fun _ _ _ _ h _ => h) ?start2 ?a2 ?assign2 ?body2 ?done2 ?stop2
    case assign2 =>
      intro l x W K hK
      have HK := Lib.hid hK
      clear hK
      dsimp only [encT]
      gi_wp2
      exact HK.out
    case own2 =>
      rintro pre X Y row ⟨h1, h2, h3, h4, h5, h6, h7⟩ hg hr
      exact ⟨h1.own hg hr, sbox_own2 h2 hg hr, sbox_own2 h3 hg hr, sbox_own2 h4 hg hr, Nat.le_trans h5 hg.size, h6.grown hg h6.size (fun k e => by have := (hr k e).1; omega), (hg.block DD (Array.getElem?_eq_some_iff.1 h7).1 (fun e => by have := (hr DD e.symm).1; omega)).trans h7⟩
    case rel2 =>
      rintro pre X Y ⟨h1, h2, h3, h4, h5, h6, h7⟩ hT
      simp only at hT
      exact ⟨h1.tch hT (by omega) (by omega), (hT.block _ h2.lt (by omega)).trans h2, (hT.block _ h3.lt (by omega)).trans h3, (hT.block _ h4.lt (by omega)).trans h4, Nat.le_trans h5 hT.size, hT.below (fun c hc => by omega) h6 h6.size, (hT.block DD (Array.getElem?_eq_some_iff.1 h7).1 (by omega)).trans h7⟩
    case start2 => exact ⟨⟨_, HV5.out, by rw [List.map_nil, List.append_nil]; exact HRW5.out⟩, HG5.out, HY5.out, HX5.out, by omega, hB5.out, HK5.out⟩
    case stop2 =>
      rintro D c pre W _ h _
      exact h.elim
    case body2 =>
      rintro l pre k V ⟨⟨v, hv, hrow⟩, hGV, hYV, hXV, hzV, hBV, hKV⟩ ⟨hlt, hge, hnz, hpre, hRV⟩
      have hpl : pre.length ≤ 36 := by
        rw [hpre]
        have := nzs_len vs (p - 4) (k - (p - 4))
        simp only at this hlt ⊢
        omega
      have cv := hv.cell 0
      have fv := hv.free 0
      have vl := hv.lt
      simp only [List.getElem?_toArray, List.getElem?_cons_zero] at cv
      have hfs : ∀ xs : List Nat, (fr1 ++ xs.map fun k => vs.getD k 0) ++ [vs[k]?.getD 0] = fr1 ++ (xs ++ [k]).map fun k => vs.getD k 0 := fun xs => by rw [List.map_append, List.append_assoc]; rfl
      have hfs := Lib.hid (hfs pre)
      have hpm : (fr1 ++ pre.map fun k => vs.getD k 0).length ≤ 40 := by rw [List.length_append, List.length_map]; omega
      clear hpre hRV hnz
      generalize vs[k]?.getD 0 = b at *
      generalize (fr1 ++ pre.map fun k => vs.getD k 0) = fr at *
      gi_wp2_with (gi_at_builtin; refine wpListIn_append_own _ rfl _ _ 87 rfl (w2.heap.size + 2) 39 i0 (.int .u16 0) 1 2 Tryz.underlying87 hi0 hz0 hz1 hz2 rfl (by decide) _ _ _ rfl (hrow.alloc _) ⟨V.heap.size, 0, none⟩ 1 1 [.int .u16 b] rfl rfl (World.news_of_block (SBox.new _ 39 #[.int .u16 b])) (by intro u hu; simp at hu; subst hu; rfl) (by unfold maxLen; omega) (by omega) (by simp; omega) ?_)
      intro v' V2 hown2 hgrow2 _
      obtain ⟨g', cap', rfl⟩ : ∃ g' cap', v' = .slice (some ⟨g', 0, none⟩) (fr.length + 1) cap' := by
        rcases hown2.2 with ⟨_, e0⟩ | ⟨g', cap', cur', rfl, _⟩
        · omega
        · exact ⟨_, _, rfl⟩
      obtain ⟨hv2, AF⟩ := app_held hv hrow (by omega) hgrow2 hown2
      have hK3 := AF.kp (b := g) (fB := W.heap.size + 1) (lB := W.heap.size) (t := 39) hrow (by omega) (by omega) (by omega) (by omega)
      have hG3 := AF.keep hrow hGV (by omega) (.inl (by omega))
      have hY3 := AF.keep hrow hYV (by omega) (.inl (by omega))
      have hX3 := AF.keep hrow hXV (by omega) (.inl (by omega))
      have hB4 := AF.tch.below (n := w.heap.size) (fun c hc => by
        rcases hc with rfl | hc
        · omega
        · have := (own_cells hrow hc.symm).1; omega) hBV hBV.size
      have P := Lib.hid (And.intro (AF.keeps (W.heap.size + 2)) (And.intro hK3 (And.intro AF.held (And.intro hG3 (And.intro hY3 (And.intro hX3 (And.intro (Nat.le_trans hzV AF.tch.size) (And.intro hB4 ((AF.keeps 0).same DD _ (Nat.zero_le _) hKV rfl)))))))))
      have c3 := hv2.cell 0
      have f3 := hv2.free 0
      have l3 := hv2.lt
      simp only [List.getElem?_toArray, List.getElem?_cons_zero] at c3
      rw [hfs.out] at P
      clear hv hrow hGV hYV hXV hzV hBV hv2 hgrow2 hown2 AF hK3 hG3 hY3 hX3 hB4 cv fv vl
      gi_wp2
      exact P.out
    case done2 =>
      rintro DD2 zs V hD2 ⟨hzs, hRV⟩ ⟨⟨v, hv, hrow⟩, hGV, hYV, hXV, hzV, hBV, hKV⟩ hK2
      simp only at hzs hRV
      rw [hvl] at hzs hRV
      have hfv : (zs.map fun k => vs.getD k 0) = freeV vs p := by
        rw [hzs]
        rfl
      have hfvl : (freeV vs p).length ≤ 32 := by
        unfold freeV
        rw [List.length_map]
        exact Nat.le_trans (nzs_len _ _ _) (by omega)
      have hRT := cutVs_row hvl hR2c hRV
      rw [hfv] at hrow
      clear hzs hRV hfv
      obtain ⟨fr2, hfr2⟩ : ∃ l, freeV vs p = l := ⟨_, rfl⟩
      rw [hfr2] at hrow hfvl
      obtain ⟨e0, e1, e2, e3, hcy⟩ : ∃ e0 e1 e2 e3, cutDir ⟨kind, links, size, d0, d1, d2, d3, ind⟩ p = ⟨kind, links, size, e0, e1, e2, e3, ind⟩ := ⟨_, _, _, _, rfl⟩
      rw [hcy] at hXV
      unfold InoT.cells at hXV
      simp only at hXV
      obtain ⟨ao2, acap2, hva⟩ : ∃ ao acap, v = .slice ao (fr1 ++ fr2).length acap := by
        rcases hrow.2 with ⟨rfl, e0⟩ | ⟨g, cap, cur, rfl, _⟩
        · exact ⟨none, 0, by rw [e0]⟩
        · exact ⟨_, _, rfl⟩
      subst hva
      have cv := hv.cell 0
      have fv := hv.free 0
      have vl := hv.lt
      simp only [List.getElem?_toArray, List.getElem?_cons_zero] at cv
      have X0 := hXV.cell 0
      have X1 := hXV.cell 1
      have X2 := hXV.cell 2
      have X3 := hXV.cell 3
      have X4 := hXV.cell 4
      have X5 := hXV.cell 5
      have X6 := hXV.cell 6
      have X7 := hXV.cell 7
      simp only [List.getElem?_toArray, List.getElem?_cons_zero, List.getElem?_cons_succ] at X0 X1 X2 X3 X4 X5 X6 X7
      have Xl := hXV.lt
      have F0 := hXV.free 0
      have F1 := hXV.free 1
      have F2 := hXV.free 2
      have F3 := hXV.free 3
      have F4 := hXV.free 4
      have F5 := hXV.free 5
      have F6 := hXV.free 6
      have F7 := hXV.free 7
      have HV := Lib.hid hv
      have HRW := Lib.hid hrow
      have HGV := Lib.hid hGV
      have HYV := Lib.hid hYV
      have HXV := Lib.hid hXV
      have HBV := Lib.hid hBV
      have HRT := Lib.hid hRT
      have HK1 := Lib.hid hKV
      have HK2 := Lib.hid hK2
      have hDD : DD ≠ DD2 := by omega
      clear hv hrow hGV hYV hXV hBV hRT hK hK2 hKV
      have hFr1 := Lib.hid hfr1
      by_cases hA : ind ≠ 0 ∧ p ≤ 4
      · have t1 : ((ind : Int) != 0) = true := by simp; omega
        have t2 : (p : Int) ≤ 4 := by omega
        have t3 : p ≤ 4 := hA.2
        have t4 : decide (p ≤ 4) = true := by simpa using t3
        have t5 : ind ≠ 0 := hA.1
        have hpm : (fr1 ++ fr2).length ≤ 40 := by rw [List.length_append]; omega
        obtain ⟨fr, hfr⟩ : ∃ l, fr1 ++ fr2 = l := ⟨_, rfl⟩
        rw [hfr] at HRW HV cv hpm
        gi_wp2_with (gi_at_builtin; refine wpListIn_append_own _ rfl _ _ 87 rfl (w2.heap.size + 2) 39 i0 (.int .u16 0) 1 2 Tryz.underlying87 hi0 hz0 hz1 hz2 rfl (by decide) _ _ _ rfl (HRW.out.alloc _) ⟨V.heap.size, 0, none⟩ 1 1 [.int .u16 ind] rfl rfl (World.news_of_block (SBox.new _ 39 #[.int .u16 ind])) (by intro u hu; simp at hu; subst hu; rfl) (by unfold maxLen; omega) (by omega) (by simp; omega) ?_)
        intro v' V2 hown2 hgrow2 _
        obtain ⟨g', cap', rfl⟩ : ∃ g' cap', v' = .slice (some ⟨g', 0, none⟩) (fr.length + 1) cap' := by
          rcases hown2.2 with ⟨_, e0⟩ | ⟨g', cap', cur', rfl, _⟩
          · omega
          · exact ⟨_, _, rfl⟩
        obtain ⟨hv2, AF⟩ := app_held HV.out HRW.out (by omega) hgrow2 hown2
        have hX3 := AF.keep HRW.out HXV.out (by omega) (.inl (by omega))
        have hY3 := AF.keep HRW.out HYV.out (by omega) (.inl (by omega))
        have hX2 : SBox V2 (w.heap.size + 1) 43 _ := (heap_setCell_other V2 ⟨w.heap.size + 1 + 1 + 1, 0, none⟩ (w.heap.size + 1) (.slice (some ⟨g', 0, none⟩) (fr.length + 1) cap') (show w.heap.size + 1 ≠ w.heap.size + 1 + 1 + 1 by omega)).symm.trans hX3
        have hY2 : SBox V2 (w.heap.size + 1 + 1) 43 _ := (heap_setCell_other V2 ⟨w.heap.size + 1 + 1 + 1, 0, none⟩ (w.heap.size + 1 + 1) (.slice (some ⟨g', 0, none⟩) (fr.length + 1) cap') (show w.heap.size + 1 + 1 ≠ w.heap.size + 1 + 1 + 1 by omega)).symm.trans hY3
        have HB4 := Lib.hid ((AF.tch.below (n := w.heap.size) (fun c hc => by
          rcases hc with rfl | hc
          · omega
          · have := (own_cells HRW.out hc.symm).1; omega) HBV.out HBV.out.size).setCell (p := ⟨w.heap.size + 1, 7, none⟩) (by simp) (.int .u16 0))
        have HF4 := Lib.hid ((hv2.set 0 (.slice (some ⟨g', 0, none⟩) (fr.length + 1) cap')).other (c := w.heap.size + 1) (i := 7) (.int .u16 0) (by omega))
        have HY4 := Lib.hid (hY3.other (c := w.heap.size + 1) (i := 7) (.int .u16 0) (by omega))
        have HR4 := Lib.hid (ownsRow_setCell_below (ownsRow_setCell_below hown2 (a := ⟨w.heap.size + 1 + 1 + 1, 0, none⟩) (by show w.heap.size + 1 + 1 + 1 < _; omega) (.slice (some ⟨g', 0, none⟩) (fr.length + 1) cap')) (a := ⟨w.heap.size + 1, 7, none⟩) (by show w.heap.size + 1 < _; omega) (.int .u16 0))
        have HD4 := Lib.hid ((heap_setCell_other (V2.setCell ⟨w.heap.size + 1 + 1 + 1, 0, none⟩ (.slice (some ⟨g', 0, none⟩) (fr.length + 1) cap')) ⟨w.heap.size + 1, 7, none⟩ DD (.int .u16 0) (show DD ≠ w.heap.size + 1 by omega)).trans ((AF.keeps 0).same DD _ (Nat.zero_le _) HK1.out rfl))
        have HD5 := Lib.hid ((heap_setCell_other (V2.setCell ⟨w.heap.size + 1 + 1 + 1, 0, none⟩ (.slice (some ⟨g', 0, none⟩) (fr.length + 1) cap')) ⟨w.heap.size + 1, 7, none⟩ DD2 (.int .u16 0) (show DD2 ≠ w.heap.size + 1 by omega)).trans ((AF.keeps 0).same DD2 _ (Nat.zero_le _) HK2.out rfl))
        have c3 := hv2.cell 0
        have f3 := hv2.free 0
        have l3 := hv2.lt
        simp only [List.getElem?_toArray, List.getElem?_cons_zero] at c3
        have P0 := hX2.cell 0
        have P1 := hX2.cell 1
        have P2 := hX2.cell 2
        have P3 := hX2.cell 3
        have P4 := hX2.cell 4
        have P5 := hX2.cell 5
        have P6 := hX2.cell 6
        have P7 := hX2.cell 7
        simp only [List.getElem?_toArray, List.getElem?_cons_zero, List.getElem?_cons_succ] at P0 P1 P2 P3 P4 P5 P6 P7
        have Pl := hX2.lt
        have G0 := hX2.free 0
        have G1 := hX2.free 1
        have G2 := hX2.free 2
        have G3 := hX2.free 3
        have G4 := hX2.free 4
        have G5 := hX2.free 5
        have G6 := hX2.free 6
        have G7 := hX2.free 7
        have Y0 := hY2.cell 0
        have Y1 := hY2.cell 1
        have Y2 := hY2.cell 2
        have Y3 := hY2.cell 3
        have Y4 := hY2.cell 4
        have Y5 := hY2.cell 5
        have Y6 := hY2.cell 6
        have Y7 := hY2.cell 7
        simp only [List.getElem?_toArray, List.getElem?_cons_zero, List.getElem?_cons_succ] at Y0 Y1 Y2 Y3 Y4 Y5 Y6 Y7
        have Yl := hY2.lt
        have J0 := hY2.free 0
        have J1 := hY2.free 1
        have J2 := hY2.free 2
        have J3 := hY2.free 3
        have J4 := hY2.free 4
        have J5 := hY2.free 5
        have J6 := hY2.free 6
        have J7 := hY2.free 7
        clear hX2 hY2 hX3 hY3 AF hv2 hown2 hgrow2 X0 X1 X2 X3 X4 X5 X6 X7 Xl F0 F1 F2 F3 F4 F5 F6 F7 cv fv vl
        gi_wp2_with fail
        gi_region
        gi_wp2
        have HR5 : Hid (((V2.setCell ⟨w.heap.size + 1 + 1 + 1, 0, none⟩ (.slice (some ⟨g', 0, none⟩) (fr.length + 1) cap')).setCell ⟨w.heap.size + 1, 7, none⟩ (.int .u16 0)).ownsRow (w2.heap.size + 2) 39 1 (.slice (some ⟨g', 0, none⟩) (fr.length + 1) cap') (fr ++ [ind]).length ((fr ++ [ind]).map u16V)) := Lib.hid (by rw [List.length_append, List.map_append]; exact HR4.out)
        obtain ⟨t1, t2, tY, tF, tR, tB⟩ := cut_tail (n := w.heap.size) (DD := DD) (DD2 := DD2) (v0 := .int .u8 kind) (v1 := .int .u16 links) (v2 := .int .u32 size) (v3 := .int .u16 e0) (v4 := .int .u16 e1) (v5 := .int .u16 e2) (v6 := .int .u16 e3) (v7 := .int .u16 0) HY4.out HF4.out (by omega) HD4.out HD5.out hDD ⟨by omega, by omega, by omega, by omega⟩ HR5.out ⟨by omega, by omega⟩ _ (.inr rfl)
        unfold fillI at t1 t2 tY tF tR tB
        refine ⟨by simp, .inl ⟨_, _, rfl, run_takeDeferred t1, ?_⟩⟩
        refine ⟨by simp, .inl ⟨_, _, rfl, run_takeDeferred t2, ?_⟩⟩
        have k0 := tY.cell 0
        have k1 := tY.cell 1
        have k2 := tY.cell 2
        have k3 := tY.cell 3
        have k4 := tY.cell 4
        have k5 := tY.cell 5
        have k6 := tY.cell 6
        have k7 := tY.cell 7
        have k9 := tF.cell 0
        simp only [List.getElem?_toArray, List.getElem?_cons_zero, List.getElem?_cons_succ] at k0 k1 k2 k3 k4 k5 k6 k7 k9
        refine ⟨.tuple #[.agg #[.int .u8 kind, .int .u16 links, .int .u32 size, .int .u16 e0, .int .u16 e1, .int .u16 e2, .int .u16 e3, .int .u16 0], .slice (some ⟨g', 0, none⟩) (fr.length + 1) cap', .int .i64 0], ?_, ?_⟩
        · simp [results, Tryz.f65, go_sem, k0, k1, k2, k3, k4, k5, k6, k7, k9]
        · exact .inl ⟨_, rfl, own_mono tR (by omega), Wr.same H.out (HB4.out.trans tB), fun _ => HB4.out.trans tB⟩
      · by_cases hBz : fr2 = []
        · subst hBz
          have hYVx := HYV.out
          have Y0 := hYVx.cell 0
          have Y1 := hYVx.cell 1
          have Y2 := hYVx.cell 2
          have Y3 := hYVx.cell 3
          have Y4 := hYVx.cell 4
          have Y5 := hYVx.cell 5
          have Y6 := hYVx.cell 6
          have Y7 := hYVx.cell 7
          simp only [List.getElem?_toArray, List.getElem?_cons_zero, List.getElem?_cons_succ] at Y0 Y1 Y2 Y3 Y4 Y5 Y6 Y7
          have Yl := hYVx.lt
          have J0 := hYVx.free 0
          have J1 := hYVx.free 1
          have J2 := hYVx.free 2
          have J3 := hYVx.free 3
          have J4 := hYVx.free 4
          have J5 := hYVx.free 5
          have J6 := hYVx.free 6
          have J7 := hYVx.free 7
          rcases Nat.eq_zero_or_pos ind with h0 | h0
          · subst h0
            gi_wp2_with fail
            gi_region
            gi_wp2
            rw [List.append_nil] at HRW
            obtain ⟨t1, t2, tY, tF, tR, tB⟩ := cut_tail (n := w.heap.size) (DD := DD) (DD2 := DD2) (v0 := .int .u8 kind) (v1 := .int .u16 links) (v2 := .int .u32 size) (v3 := .int .u16 e0) (v4 := .int .u16 e1) (v5 := .int .u16 e2) (v6 := .int .u16 e3) (v7 := .int .u16 0) HYV.out HV.out (by omega) HK1.out HK2.out hDD ⟨by omega, by omega, by omega, by omega⟩ HRW.out ⟨by omega, by omega⟩ _ (.inr rfl)
            unfold fillI at t1 t2 tY tF tR tB
            refine ⟨by simp, .inl ⟨_, _, rfl, run_takeDeferred t1, ?_⟩⟩
            refine ⟨by simp, .inl ⟨_, _, rfl, run_takeDeferred t2, ?_⟩⟩
            have k0 := tY.cell 0
            have k1 := tY.cell 1
            have k2 := tY.cell 2
            have k3 := tY.cell 3
            have k4 := tY.cell 4
            have k5 := tY.cell 5
            have k6 := tY.cell 6
            have k7 := tY.cell 7
            have k9 := tF.cell 0
            simp only [List.getElem?_toArray, List.getElem?_cons_zero, List.getElem?_cons_succ] at k0 k1 k2 k3 k4 k5 k6 k7 k9
            refine ⟨.tuple #[.agg #[.int .u8 kind, .int .u16 links, .int .u32 size, .int .u16 e0, .int .u16 e1, .int .u16 e2, .int .u16 e3, .int .u16 0], .slice ao2 fr1.length acap2, .int .i64 0], ?_, ?_⟩
            · simp [results, Tryz.f65, go_sem, k0, k1, k2, k3, k4, k5, k6, k7, k9]
            · exact .inl ⟨_, rfl, own_mono tR (by omega), Wr.same H.out (HBV.out.trans tB), fun _ => HBV.out.trans tB⟩
          · have t1 : ((ind : Int) != 0) = true := by simp; omega
            have t2 : ¬ (p : Int) ≤ 4 := by omega
            have t3 : ¬ p ≤ 4 := by omega
            have t4 : decide (p ≤ 4) = false := by simpa using t3
            gi_wp2_with fail
            gi_region
            gi_wp2
            rw [List.append_nil] at HRW
            obtain ⟨t1, t2, tY, tF, tR, tB⟩ := cut_tail (n := w.heap.size) (DD := DD) (DD2 := DD2) (v0 := .int .u8 kind) (v1 := .int .u16 links) (v2 := .int .u32 size) (v3 := .int .u16 e0) (v4 := .int .u16 e1) (v5 := .int .u16 e2) (v6 := .int .u16 e3) (v7 := .int .u16 ind) HYV.out HV.out (by omega) HK1.out HK2.out hDD ⟨by omega, by omega, by omega, by omega⟩ HRW.out ⟨by omega, by omega⟩ _ (.inr rfl)
            unfold fillI at t1 t2 tY tF tR tB
            refine ⟨by simp, .inl ⟨_, _, rfl, run_takeDeferred t1, ?_⟩⟩
            refine ⟨by simp, .inl ⟨_, _, rfl, run_takeDeferred t2, ?_⟩⟩
            have k0 := tY.cell 0
            have k1 := tY.cell 1
            have k2 := tY.cell 2
            have k3 := tY.cell 3
            have k4 := tY.cell 4
            have k5 := tY.cell 5
            have k6 := tY.cell 6
            have k7 := tY.cell 7
            have k9 := tF.cell 0
            simp only [List.getElem?_toArray, List.getElem?_cons_zero, List.getElem?_cons_succ] at k0 k1 k2 k3 k4 k5 k6 k7 k9
            refine ⟨.tuple #[.agg #[.int .u8 kind, .int .u16 links, .int .u32 size, .int .u16 e0, .int .u16 e1, .int .u16 e2, .int .u16 e3, .int .u16 ind], .slice ao2 fr1.length acap2, .int .i64 0], ?_, ?_⟩
            · simp [results, Tryz.f65, go_sem, k0, k1, k2, k3, k4, k5, k6, k7, k9]
            · exact .inl ⟨_, rfl, own_mono tR (by omega), Wr.same H.out (HBV.out.trans tB), fun _ => HBV.out.trans tB⟩
        · have h0 : ind ≠ 0 := fun e => hBz (by rw [← hfr2, hno.out e]; exact freeV_zero p)
          have t1 : ((ind : Int) != 0) = true := by simp; omega
          have t2 : ¬ (p : Int) ≤ 4 := by omega
          have t3 : ¬ p ≤ 4 := by omega
          have t4 : decide (p ≤ 4) = false := by simpa using t3
          have t5 : 0 < fr2.length := List.length_pos_iff.2 hBz
          have hpm : (fr1 ++ fr2).length ≤ 40 := by rw [List.length_append]; omega
          have t6 : fr1.length < (fr1 ++ fr2).length := by rw [List.length_append]; omega
          have t7 : (fr1.length : Int) < ((fr1 ++ fr2).length : Nat) := by omega
          have t8 : (((fr1 ++ fr2).length : Nat) : Int) ≤ 9223372036854775807 := by omega
          rw [hcy] at TL
          simp only at TL
          obtain ⟨fr, hfr⟩ : ∃ l, fr1 ++ fr2 = l := ⟨_, rfl⟩
          rw [hfr] at HRW HV cv hpm t6 t7 t8
          have HIV := Lib.hid (H.out.later HBV.out)
          have hTm : E.T.m < w.heap.size := by
            obtain ⟨f, nn, g1, _⟩ := H.out
            exact g1.tj.tx.map.lt
          have hGVx := HGV.out
          have G0 := hGVx.cell 0
          have G1 := hGVx.cell 1
          have G2 := hGVx.cell 2
          simp only [List.getElem?_toArray, List.getElem?_cons_zero, List.getElem?_cons_succ] at G0 G1 G2
          have Gl := hGVx.lt
          gi_wp2_with fail
          refine ⟨trivial, ?_⟩
          refine (callsIn_wide.2 (TL.out V _ HIV.out h0 (by omega) (.inr ⟨g, cap, by rw [cutVs_len, hvl], HRT.out⟩))).mono ?_
          rintro e V4 (⟨rfl, GW⟩ | ⟨rfl, GF⟩)
          · have T4 := GW.2
            have hF4 := (T4.block _ HV.out.lt (by omega)).trans HV.out
            have hX4 : SBox V4 (w.heap.size + 1) 43 _ := (T4.block _ HXV.out.lt (by omega)).trans HXV.out
            have hY4 : SBox V4 (w.heap.size + 1 + 1) 43 _ := (T4.block _ HYV.out.lt (by omega)).trans HYV.out
            have hF4 : SBox V4 (w.heap.size + 1 + 1 + 1) 87 #[_] := hF4
            have HR4 := Lib.hid (own_tch HRW.out T4 (by omega))
            have HD4 := Lib.hid ((T4.block DD (Array.getElem?_eq_some_iff.1 HK1.out).1 (by omega)).trans HK1.out)
            have HD5 := Lib.hid ((T4.block DD2 (Array.getElem?_eq_some_iff.1 HK2.out).1 (by omega)).trans HK2.out)
            have HF4 := Lib.hid hF4
            have HY4 := Lib.hid hY4
            have HW4 := Lib.hid (GW.pre (w0 := w) HBV.out)
            have c3 := hF4.cell 0
            have f3 := hF4.free 0
            have l3 := hF4.lt
            simp only [List.getElem?_toArray, List.getElem?_cons_zero] at c3
            clear X0 X1 X2 X3 X4 X5 X6 X7 Xl F0 F1 F2 F3 F4 F5 F6 F7 cv fv vl G0 G1 G2 Gl
            have P0 := hX4.cell 0
            have P1 := hX4.cell 1
            have P2 := hX4.cell 2
            have P3 := hX4.cell 3
            have P4 := hX4.cell 4
            have P5 := hX4.cell 5
            have P6 := hX4.cell 6
            have P7 := hX4.cell 7
            simp only [List.getElem?_toArray, List.getElem?_cons_zero, List.getElem?_cons_succ] at P0 P1 P2 P3 P4 P5 P6 P7
            have Pl := hX4.lt
            have Y0 := hY4.cell 0
            have Y1 := hY4.cell 1
            have Y2 := hY4.cell 2
            have Y3 := hY4.cell 3
            have Y4 := hY4.cell 4
            have Y5 := hY4.cell 5
            have Y6 := hY4.cell 6
            have Y7 := hY4.cell 7
            simp only [List.getElem?_toArray, List.getElem?_cons_zero, List.getElem?_cons_succ] at Y0 Y1 Y2 Y3 Y4 Y5 Y6 Y7
            have Yl := hY4.lt
            have J0 := hY4.free 0
            have J1 := hY4.free 1
            have J2 := hY4.free 2
            have J3 := hY4.free 3
            have J4 := hY4.free 4
            have J5 := hY4.free 5
            have J6 := hY4.free 6
            have J7 := hY4.free 7
            clear hX4 hY4 hF4 T4 GW
            gi_wp2_with fail
            gi_region
            gi_wp2
            obtain ⟨t1, t2, tY, tF, tR, tB⟩ := cut_tail (n := w.heap.size) (DD := DD) (DD2 := DD2) (v0 := .int .u8 kind) (v1 := .int .u16 links) (v2 := .int .u32 size) (v3 := .int .u16 e0) (v4 := .int .u16 e1) (v5 := .int .u16 e2) (v6 := .int .u16 e3) (v7 := .int .u16 ind) HY4.out HF4.out (by omega) HD4.out HD5.out hDD ⟨by omega, by omega, by omega, by omega⟩ HR4.out ⟨by omega, by omega⟩ _ (.inr rfl)
            unfold fillI at t1 t2 tY tF tR tB
            refine ⟨by simp, .inl ⟨_, _, rfl, run_takeDeferred t1, ?_⟩⟩
            refine ⟨by simp, .inl ⟨_, _, rfl, run_takeDeferred t2, ?_⟩⟩
            have k0 := tY.cell 0
            have k1 := tY.cell 1
            have k2 := tY.cell 2
            have k3 := tY.cell 3
            have k4 := tY.cell 4
            have k5 := tY.cell 5
            have k6 := tY.cell 6
            have k7 := tY.cell 7
            have k9 := tF.cell 0
            simp only [List.getElem?_toArray, List.getElem?_cons_zero, List.getElem?_cons_succ] at k0 k1 k2 k3 k4 k5 k6 k7 k9
            refine ⟨.tuple #[.agg #[.int .u8 kind, .int .u16 links, .int .u32 size, .int .u16 e0, .int .u16 e1, .int .u16 e2, .int .u16 e3, .int .u16 ind], .slice ao2 fr.length acap2, .int .i64 0], ?_, ?_⟩
            · simp [results, Tryz.f65, go_sem, k0, k1, k2, k3, k4, k5, k6, k7, k9]
            · exact .inl ⟨_, rfl, own_mono tR (by omega), Wr.via H.out HW4.out tB, fun h => by rcases h with h | h; exact absurd h.2 t3; exact absurd (hfr2.symm.trans h) hBz⟩
          · have T4 := GF.2
            have hF4 : SBox V4 (w.heap.size + 1 + 1 + 1) 87 #[_] := (T4.block _ HV.out.lt (by omega)).trans HV.out
            have hY4 : SBox V4 (w.heap.size + 1 + 1) 43 _ := (T4.block _ HYV.out.lt (by omega)).trans HYV.out
            have HD4 := Lib.hid ((T4.block DD (Array.getElem?_eq_some_iff.1 HK1.out).1 (by omega)).trans HK1.out)
            have HD5 := Lib.hid ((T4.block DD2 (Array.getElem?_eq_some_iff.1 HK2.out).1 (by omega)).trans HK2.out)
            have HF4 := Lib.hid hF4
            have HY4 := Lib.hid hY4
            have HW4 := Lib.hid (GF.pre (w0 := w) HBV.out)
            have c3 := hF4.cell 0
            have f3 := hF4.free 0
            have l3 := hF4.lt
            simp only [List.getElem?_toArray, List.getElem?_cons_zero] at c3
            clear X0 X1 X2 X3 X4 X5 X6 X7 Xl F0 F1 F2 F3 F4 F5 F6 F7 cv fv vl G0 G1 G2 Gl
            have Y0 := hY4.cell 0
            have Y1 := hY4.cell 1
            have Y2 := hY4.cell 2
            have Y3 := hY4.cell 3
            have Y4 := hY4.cell 4
            have Y5 := hY4.cell 5
            have Y6 := hY4.cell 6
            have Y7 := hY4.cell 7
            simp only [List.getElem?_toArray, List.getElem?_cons_zero, List.getElem?_cons_succ] at Y0 Y1 Y2 Y3 Y4 Y5 Y6 Y7
            have Yl := hY4.lt
            have J0 := hY4.free 0
            have J1 := hY4.free 1
            have J2 := hY4.free 2
            have J3 := hY4.free 3
            have J4 := hY4.free 4
            have J5 := hY4.free 5
            have J6 := hY4.free 6
            have J7 := hY4.free 7
            clear hY4 hF4 T4 GF
            gi_wp2
            have HR4 := Lib.hid (World.ownsRow_nil V4 (w2.heap.size + 2) 39 1)
            obtain ⟨t1, t2, tY, tF, tR, tB⟩ := cut_tail (n := w.heap.size) (DD := DD) (DD2 := DD2) (v0 := .int .u8 0) (v1 := .int .u16 0) (v2 := .int .u32 0) (v3 := .int .u16 0) (v4 := .int .u16 0) (v5 := .int .u16 0) (v6 := .int .u16 0) (v7 := .int .u16 0) HY4.out HF4.out (by omega) HD4.out HD5.out hDD ⟨by omega, by omega, by omega, by omega⟩ (fr := []) HR4.out ⟨by omega, by omega⟩ _ (.inl rfl)
            unfold fillI at t1 t2 tY tF tR tB
            refine ⟨by simp, .inl ⟨_, _, rfl, run_takeDeferred t1, ?_⟩⟩
            refine ⟨by simp, .inl ⟨_, _, rfl, run_takeDeferred t2, ?_⟩⟩
            have k0 := tY.cell 0
            have k1 := tY.cell 1
            have k2 := tY.cell 2
            have k3 := tY.cell 3
            have k4 := tY.cell 4
            have k5 := tY.cell 5
            have k6 := tY.cell 6
            have k7 := tY.cell 7
            have k9 := tF.cell 0
            simp only [List.getElem?_toArray, List.getElem?_cons_zero, List.getElem?_cons_succ] at k0 k1 k2 k3 k4 k5 k6 k7 k9
            refine ⟨.tuple #[.agg #[.int .u8 0, .int .u16 0, .int .u32 0, .int .u16 0, .int .u16 0, .int .u16 0, .int .u16 0, .int .u16 0], .slice none 0 0, .int .i64 4], ?_, ?_⟩
            · simp [results, Tryz.f65, go_sem, k0, k1, k2, k3, k4, k5, k6, k7, k9]
            · exact .inr ⟨rfl, Fu.via HW4.out tB⟩
end
end Go.Proofs.YtpnfkilfgdnogaaGreatDoor.Bm
end
section
namespace Go.Proofs.YtpnfkilfgdnogaaGreatDoor.Bm
set_option linter.unusedVariables false
set_option linter.unusedSimpArgs false
open Go.RowKit Go.Shelf Go.Maps Oct Dev Jou Tx Geo Ino Img
section
variable {E : Im} {D : Secs} {Z : Nat → Prop} {Q : Prop}
set_option maxRecDepth 100000 in
set_option maxHeartbeats 4000000 in
theorem set_hi (x : InoT) (vs : List Nat) (p b : Nat) (w : World) (hs : Small E) (h : IS w E D Z) (hi : InG E.bl x) (hv : IndIs E D x.ind vs) (hb : b ≤ E.bl) (h1 : 1 ≤ x.ind) (h4 : 4 ≤ p) (hp : p < 36) (hz : Z (dq E x.ind)) (hQ : FullE E Z → Q) :
    Calls Tryz.prog 117 #[.pointer (some ⟨E.T.p, 0, none⟩), geoV E.i E.bl E.j, x.val, .int .i64 p, .int .u16 b] w (Out (.tuple #[x.val, .int .i64 0]) (.tuple #[noIno.val, .int .i64 4]) (Wr E (upd D (dq E x.ind) (tellS (vs.set (p - 4) b))) Z w) (Fu E Q w)) := by
  have hbl := hs.hb
  have hvl := hv.len
  have MA := Lib.hid (fun W => may_ok E.i E.bl E.j b E.T.p x true W hs.may hi hb)
  have ND := Lib.hid (fun W => needs_any x p W hp)
  have TD := Lib.hid (fun W (h : IS W E D Z) => told_is x vs W hs h hi.2.2.2.2 hv)
  have TL := Lib.hid (fun W sl (h : IS W E D Z) (hsl : SlIs W (vs.set (p - 4) b) sl) => tell_is x (vs.set (p - 4) b) sl W hs h h1 hi.2.2.2.2 (by rw [List.length_set]; omega) (fun u hu => by
    rcases List.mem_or_eq_of_mem_set hu with hu | rfl
    · have := hv.lt u hu; omega
    · omega) hsl hz hQ)
  have hni : decide (x.ind = 0) = false := by simp; omega
  rw [hni, Bool.and_false] at ND
  obtain ⟨kind, links, size, d0, d1, d2, d3, ind⟩ := x
  simp only at h1 hz TL
  generalize upd D (dq E ind) (tellS (vs.set (p - 4) b)) = D2 at *
  have HB0 := Lib.hid ((((Below.refl _ w).alloc (Nat.le_refl _) (.cells #[.int .i64 E.i, .int .i64 E.bl, .int .i64 E.j] 23)).alloc (by simp) (.cells #[.int .u8 kind, .int .u16 links, .int .u32 size, .int .u16 d0, .int .u16 d1, .int .u16 d2, .int .u16 d3, .int .u16 ind] 43)).alloc (by simp; omega) (.cells #[.int .u8 0, .int .u16 0, .int .u32 0, .int .u16 0, .int .u16 0, .int .u16 0, .int .u16 0, .int .u16 0] 43))
  have HG := Lib.hid (((SBox.new w 23 #[.int .i64 E.i, .int .i64 E.bl, .int .i64 E.j]).alloc (.cells #[.int .u8 kind, .int .u16 links, .int .u32 size, .int .u16 d0, .int .u16 d1, .int .u16 d2, .int .u16 d3, .int .u16 ind] 43)).alloc (.cells #[.int .u8 0, .int .u16 0, .int .u32 0, .int .u16 0, .int .u16 0, .int .u16 0, .int .u16 0, .int .u16 0] 43))
  have hX := SBox.new (w.alloc (.cells #[.int .i64 E.i, .int .i64 E.bl, .int .i64 E.j] 23)) 43 #[.int .u8 kind, .int .u16 links, .int .u32 size, .int .u16 d0, .int .u16 d1, .int .u16 d2, .int .u16 d3, .int .u16 ind]
  rw [World.size_alloc] at hX
  have HX := Lib.hid (hX.alloc (.cells #[.int .u8 0, .int .u16 0, .int .u32 0, .int .u16 0, .int .u16 0, .int .u16 0, .int .u16 0, .int .u16 0] 43))
  have hY := SBox.new ((w.alloc (.cells #[.int .i64 E.i, .int .i64 E.bl, .int .i64 E.j] 23)).alloc (.cells #[.int .u8 kind, .int .u16 links, .int .u32 size, .int .u16 d0, .int .u16 d1, .int .u16 d2, .int .u16 d3, .int .u16 ind] 43)) 43 #[.int .u8 0, .int .u16 0, .int .u32 0, .int .u16 0, .int .u16 0, .int .u16 0, .int .u16 0, .int .u16 0]
  rw [World.size_alloc, World.size_alloc] at hY
  have HY := Lib.hid hY
  have H0 := Lib.hid h
  have H := Lib.hid (h.later (Below.mono HB0.out (Nat.le_refl _)))
  clear hX hY hi h hv hni
  unfold geoV InoT.val at *
  have q0 : (0 : Int) ≤ p := by omega
  have q1 : (p : Int) < 36 := by omega
  have q2 : ¬ (p : Int) < 4 := by omega
  have q3 : decide (p < 4) = false := by simp; omega
  have q4 : (0 : Int) ≤ (p : Int) - 4 := by omega
  have q5 : (p : Int) - 4 < 32 := by omega
  have q6 : ((p : Int) - 4).toNat = p - 4 := by omega
  go_enter Tryz.func117, Tryz.ntmps117
  go_wp2_with fail
  refine (MA.out _).mono ?_
  rintro e w1 ⟨rfl, b1⟩
  have HG1 := Lib.hid (HG.out.later b1)
  have HX1 := Lib.hid (HX.out.later b1)
  have HY1 := Lib.hid (HY.out.later b1)
  have H1 := Lib.hid (H.out.later b1)
  have B1 := Lib.hid (HB0.out.trans (b1.mono HB0.out.size))
  have hX := HX1.out
  clear b1
  have X0 := hX.cell 0
  have X1 := hX.cell 1
  have X2 := hX.cell 2
  have X3 := hX.cell 3
  have X4 := hX.cell 4
  have X5 := hX.cell 5
  have X6 := hX.cell 6
  have X7 := hX.cell 7
  simp only [List.getElem?_toArray, List.getElem?_cons_zero, List.getElem?_cons_succ] at X0 X1 X2 X3 X4 X5 X6 X7
  have Xl := hX.lt
  clear hX
  go_wp2_with fail
  refine (ND.out _).mono ?_
  rintro e w2 ⟨rfl, b2⟩
  have HG2 := Lib.hid (HG1.out.later b2)
  have HX2 := Lib.hid (HX1.out.later b2)
  have HY2 := Lib.hid (HY1.out.later b2)
  have H2 := Lib.hid (H1.out.later b2)
  have B2 := Lib.hid (B1.out.trans (b2.mono B1.out.size))
  have hX := HX2.out
  have hG := HG2.out
  clear b2 X0 X1 X2 X3 X4 X5 X6 X7 Xl
  have X0 := hX.cell 0
  have X1 := hX.cell 1
  have X2 := hX.cell 2
  have X3 := hX.cell 3
  have X4 := hX.cell 4
  have X5 := hX.cell 5
  have X6 := hX.cell 6
  have X7 := hX.cell 7
  simp only [List.getElem?_toArray, List.getElem?_cons_zero, List.getElem?_cons_succ] at X0 X1 X2 X3 X4 X5 X6 X7
  have Xl := hX.lt
  have G0 := hG.cell 0
  have G1 := hG.cell 1
  have G2 := hG.cell 2
  simp only [List.getElem?_toArray, List.getElem?_cons_zero, List.getElem?_cons_succ] at G0 G1 G2
  have Gl := hG.lt
  clear hX hG
  go_wp2_with fail
  refine (TD.out _ H2.out).mono ?_
  rintro e w3 ⟨g, cap, rfl, hg, hc, hR, b3⟩
  have HR3 := Lib.hid (hR.set (p - 4) b)
  have hrl := hR.lt
  have c0 := hR.cell (p - 4) (by omega)
  have f0 := hR.free (p - 4)
  have hge : w.heap.size + 2 < g := by have := HY2.out.lt; omega
  have HG3 := Lib.hid ((HG2.out.later b3).other (c := g) (i := p - 4) (.int .u16 b) (by omega))
  have HX3 := Lib.hid ((HX2.out.later b3).other (c := g) (i := p - 4) (.int .u16 b) (by omega))
  have HY3 := Lib.hid ((HY2.out.later b3).other (c := g) (i := p - 4) (.int .u16 b) (by omega))
  have B3 := Lib.hid ((B2.out.trans (b3.mono B2.out.size)).setCell (p := ⟨g, p - 4, none⟩) (by show w.heap.size ≤ g; omega) (.int .u16 b))
  have H3 := Lib.hid (H0.out.later B3.out)
  have hX := (HX2.out.later b3)
  have hG := (HG2.out.later b3)
  have hY := (HY2.out.later b3)
  clear b3 hR X0 X1 X2 X3 X4 X5 X6 X7 Xl G0 G1 G2 Gl
  have X0 := hX.cell 0
  have X1 := hX.cell 1
  have X2 := hX.cell 2
  have X3 := hX.cell 3
  have X4 := hX.cell 4
  have X5 := hX.cell 5
  have X6 := hX.cell 6
  have X7 := hX.cell 7
  simp only [List.getElem?_toArray, List.getElem?_cons_zero, List.getElem?_cons_succ] at X0 X1 X2 X3 X4 X5 X6 X7
  have Xl := hX.lt
  have G0 := hG.cell 0
  have G1 := hG.cell 1
  have G2 := hG.cell 2
  simp only [List.getElem?_toArray, List.getElem?_cons_zero, List.getElem?_cons_succ] at G0 G1 G2
  have Gl := hG.lt
  clear hX hG hY
  go_wp2_with fail
  refine (TL.out _ _ H3.out (.inr ⟨g, cap, by rw [List.length_set, hvl], HR3.out⟩)).mono ?_
  rintro e w4 (⟨rfl, GW⟩ | ⟨rfl, GW⟩)
  · have hTm : E.T.m < w.heap.size := by
      obtain ⟨f, nn, g1, _⟩ := H0.out
      exact g1.tj.tx.map.lt
    have hX : SBox w4 (w.heap.size + 1) 43 #[.int .u8 kind, .int .u16 links, .int .u32 size, .int .u16 d0, .int .u16 d1, .int .u16 d2, .int .u16 d3, .int .u16 ind] := (GW.2.block _ HX3.out.lt (by omega)).trans HX3.out
    have hY : SBox w4 (w.heap.size + 1 + 1) 43 #[.int .u8 0, .int .u16 0, .int .u32 0, .int .u16 0, .int .u16 0, .int .u16 0, .int .u16 0, .int .u16 0] := (GW.2.block _ HY3.out.lt (by omega)).trans HY3.out
    have HY4 := Lib.hid hY
    have HW4 := Lib.hid (GW.pre (w0 := w) B3.out)
    clear GW X0 X1 X2 X3 X4 X5 X6 X7 Xl G0 G1 G2 Gl
    have X0 := hX.cell 0
    have X1 := hX.cell 1
    have X2 := hX.cell 2
    have X3 := hX.cell 3
    have X4 := hX.cell 4
    have X5 := hX.cell 5
    have X6 := hX.cell 6
    have X7 := hX.cell 7
    simp only [List.getElem?_toArray, List.getElem?_cons_zero, List.getElem?_cons_succ] at X0 X1 X2 X3 X4 X5 X6 X7
    have Xl := hX.lt
    have Y0 := hY.cell 0
    have Y1 := hY.cell 1
    have Y2 := hY.cell 2
    have Y3 := hY.cell 3
    have Y4 := hY.cell 4
    have Y5 := hY.cell 5
    have Y6 := hY.cell 6
    have Y7 := hY.cell 7
    simp only [List.getElem?_toArray, List.getElem?_cons_zero, List.getElem?_cons_succ] at Y0 Y1 Y2 Y3 Y4 Y5 Y6 Y7
    have Yl := hY.lt
    have J0 := hY.free 0
    have J1 := hY.free 1
    have J2 := hY.free 2
    have J3 := hY.free 3
    have J4 := hY.free 4
    have J5 := hY.free 5
    have J6 := hY.free 6
    have J7 := hY.free 7
    clear hX hY
    go_wp2
    have BB := fillI_below (n := w.heap.size + 1 + 1) (v0 := .int .u8 kind) (v1 := .int .u16 links) (v2 := .int .u32 size) (v3 := .int .u16 d0) (v4 := .int .u16 d1) (v5 := .int .u16 d2) (v6 := .int .u16 d3) (v7 := .int .u16 ind) (Below.refl w.heap.size w4) (by omega)
    have h9 := fill8 (HY4.out) (.int .u8 kind) (.int .u16 links) (.int .u32 size) (.int .u16 d0) (.int .u16 d1) (.int .u16 d2) (.int .u16 d3) (.int .u16 ind)
    unfold fillI at h9
    have k0 := h9.cell 0
    have k1 := h9.cell 1
    have k2 := h9.cell 2
    have k3 := h9.cell 3
    have k4 := h9.cell 4
    have k5 := h9.cell 5
    have k6 := h9.cell 6
    have k7 := h9.cell 7
    simp only [List.getElem?_toArray, List.getElem?_cons_zero, List.getElem?_cons_succ] at k0 k1 k2 k3 k4 k5 k6 k7
    exact bodyPost_ret (v := .tuple #[.agg #[.int .u8 kind, .int .u16 links, .int .u32 size, .int .u16 d0, .int .u16 d1, .int .u16 d2, .int .u16 d3, .int .u16 ind], .int .i64 0]) (by simp [results, Tryz.results117, go_sem, k0, k1, k2, k3, k4, k5, k6, k7]) rfl (.inl ⟨rfl, Wr.via H0.out HW4.out BB⟩)
  · have hTm : E.T.m < w.heap.size := by
      obtain ⟨f, nn, g1, _⟩ := H0.out
      exact g1.tj.tx.map.lt
    have hY : SBox w4 (w.heap.size + 1 + 1) 43 #[.int .u8 0, .int .u16 0, .int .u32 0, .int .u16 0, .int .u16 0, .int .u16 0, .int .u16 0, .int .u16 0] := (GW.2.block _ HY3.out.lt (by omega)).trans HY3.out
    have HY4 := Lib.hid hY
    have HW4 := Lib.hid (GW.pre (w0 := w) B3.out)
    clear GW X0 X1 X2 X3 X4 X5 X6 X7 Xl G0 G1 G2 Gl
    have Y0 := hY.cell 0
    have Y1 := hY.cell 1
    have Y2 := hY.cell 2
    have Y3 := hY.cell 3
    have Y4 := hY.cell 4
    have Y5 := hY.cell 5
    have Y6 := hY.cell 6
    have Y7 := hY.cell 7
    simp only [List.getElem?_toArray, List.getElem?_cons_zero, List.getElem?_cons_succ] at Y0 Y1 Y2 Y3 Y4 Y5 Y6 Y7
    have Yl := hY.lt
    have J0 := hY.free 0
    have J1 := hY.free 1
    have J2 := hY.free 2
    have J3 := hY.free 3
    have J4 := hY.free 4
    have J5 := hY.free 5
    have J6 := hY.free 6
    have J7 := hY.free 7
    clear hY
    go_wp2
    have BB := fillI_below (n := w.heap.size + 1 + 1) (v0 := .int .u8 0) (v1 := .int .u16 0) (v2 := .int .u32 0) (v3 := .int .u16 0) (v4 := .int .u16 0) (v5 := .int .u16 0) (v6 := .int .u16 0) (v7 := .int .u16 0) (Below.refl w.heap.size w4) (by omega)
    have h9 := fill8 (HY4.out) (.int .u8 0) (.int .u16 0) (.int .u32 0) (.int .u16 0) (.int .u16 0) (.int .u16 0) (.int .u16 0) (.int .u16 0)
    unfold fillI at h9
    have k0 := h9.cell 0
    have k1 := h9.cell 1
    have k2 := h9.cell 2
    have k3 := h9.cell 3
    have k4 := h9.cell 4
    have k5 := h9.cell 5
    have k6 := h9.cell 6
    have k7 := h9.cell 7
    simp only [List.getElem?_toArray, List.getElem?_cons_zero, List.getElem?_cons_succ] at k0 k1 k2 k3 k4 k5 k6 k7
    exact bodyPost_ret (v := .tuple #[.agg #[.int .u8 0, .int .u16 0, .int .u32 0, .int .u16 0, .int .u16 0, .int .u16 0, .int .u16 0, .int .u16 0], .int .i64 4]) (by simp [results, Tryz.results117, go_sem, k0, k1, k2, k3, k4, k5, k6, k7]) rfl (.inr ⟨rfl, Fu.via HW4.out BB⟩)
set_option maxRecDepth 100000 in
set_option maxHeartbeats 4000000 in
theorem all_is (x : InoT) (vs : List Nat) (w : World) (hs : Small E) (h : IS w E D Z) (hi : InG E.bl x) (hv : IndIs E D x.ind vs) :
    Calls Tryz.prog 91 #[.pointer (some ⟨E.T.p, 0, none⟩), geoV E.i E.bl E.j, x.val] w fun e w' => ∃ v, e = .returned (.tuple #[v, .int .i64 0]) ∧ OwnL w.heap.size (cutFree x vs 0) v w' ∧ Below w.heap.size w w' := by
  have CU := Lib.hid (fun W (h : IS W E D Z) => (callsIn_wide (n := 4)).1 (cut_is (Q := False) x vs 0 W hs h hi hv (by omega) (fun _ h => by omega) (fun h => by omega)))
  have hsame : CutSame x vs 0 := by
    by_cases h0 : x.ind = 0
    · right
      rw [hv.no h0]
      exact freeV_zero 0
    · exact .inl ⟨h0, by omega⟩
  have HSM := Lib.hid hsame
  unfold CutPost at CU
  generalize cutFree x vs 0 = fr at *
  generalize CutSame x vs 0 = same at *
  generalize cutSec E D x vs 0 = D2 at *
  generalize cutEnd x 0 = y at *
  obtain ⟨kind, links, size, d0, d1, d2, d3, ind⟩ := x
  obtain ⟨ykind, ylinks, ysize, y0, y1, y2, y3, yind⟩ := y
  have HB0 := Lib.hid (((Below.refl _ w).alloc (Nat.le_refl _) (.cells #[.int .i64 E.i, .int .i64 E.bl, .int .i64 E.j] 23)).alloc (by simp) (.cells #[.int .u8 kind, .int .u16 links, .int .u32 size, .int .u16 d0, .int .u16 d1, .int .u16 d2, .int .u16 d3, .int .u16 ind] 43))
  have hs0 : ((w.alloc (.cells #[.int .i64 E.i, .int .i64 E.bl, .int .i64 E.j] 23)).alloc (.cells #[.int .u8 kind, .int .u16 links, .int .u32 size, .int .u16 d0, .int .u16 d1, .int .u16 d2, .int .u16 d3, .int .u16 ind] 43)).heap.size = w.heap.size + 2 := by simp
  have H := Lib.hid (h.later (Below.mono HB0.out (Nat.le_refl _)))
  clear hi h hv hsame
  unfold geoV InoT.val at *
  go_enter Tryz.func91, Tryz.ntmps91
  go_wp2_with fail
  refine (CU.out _ H.out).mono ?_
  rintro e w1 (⟨v, rfl, ho, hw, hb⟩ | ⟨rfl, ⟨hf, _⟩, _⟩)
  · have b1 := hb HSM.out
    rw [hs0] at b1
    have B1 := Lib.hid ((HB0.out.trans (b1.mono (by omega))).alloc (Nat.le_trans HB0.out.size b1.size) (.cells #[.int .u8 ykind, .int .u16 ylinks, .int .u32 ysize, .int .u16 y0, .int .u16 y1, .int .u16 y2, .int .u16 y3, .int .u16 yind] 43))
    have HO := Lib.hid (own_mono (b' := w.heap.size) (World.ownsRow.alloc ho (.cells #[.int .u8 ykind, .int .u16 ylinks, .int .u32 ysize, .int .u16 y0, .int .u16 y1, .int .u16 y2, .int .u16 y3, .int .u16 yind] 43)) (by omega))
    obtain ⟨ao, cap, rfl⟩ : ∃ ao cap, v = .slice ao fr.length cap := by
      rcases ho.2 with ⟨rfl, e0⟩ | ⟨g, cap, cur, rfl, _⟩
      · exact ⟨none, 0, by rw [e0]⟩
      · exact ⟨_, _, rfl⟩
    clear ho hw hb b1
    go_wp2
    go_ret2
    exact ⟨_, rfl, HO.out, B1.out⟩
  · exact hf.elim
end
end Go.Proofs.YtpnfkilfgdnogaaGreatDoor.Bm
end
