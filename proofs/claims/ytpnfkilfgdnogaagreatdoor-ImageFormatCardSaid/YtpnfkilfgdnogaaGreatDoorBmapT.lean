/- Layer 9 (bmap): told, tell: the indirect block read and written. -/
import Derived.Test.YtpnfkilfgdnogaaGreatDoorBmap
import Derived.Laws.OwnMore
namespace Go.Proofs.YtpnfkilfgdnogaaGreatDoor.Bm
set_option linter.unusedVariables false
set_option linter.unusedSimpArgs false
open Go.RowKit Go.Shelf Go.Maps Oct Dev Jou Tx Geo Ino Img
/-- A row of numbers lies in a block of its own. -/
def Row16 (W : World) (g : Nat) (l : List Nat) : Prop := ∃ cs : Array Value, SBox W g 39 cs ∧ ∀ i (h : i < l.length), cs[i]? = some (.int .u16 l[i])
theorem Row16.lt {W : World} {g : Nat} {l : List Nat} (h : Row16 W g l) : g < W.heap.size := by
  obtain ⟨cs, h1, _⟩ := h
  exact h1.lt
theorem Row16.cell {W : World} {g : Nat} {l : List Nat} (h : Row16 W g l) (i : Nat) (hi : i < l.length) : W.cell? ⟨g, i, none⟩ = some (.int .u16 l[i]) := by
  obtain ⟨cs, h1, h2⟩ := h
  exact (h1.cell i).trans (h2 i hi)
theorem Row16.free {W : World} {g : Nat} {l : List Nat} (h : Row16 W g l) (i : Nat) : W.frozen? ⟨g, i, none⟩ = false := by
  obtain ⟨cs, h1, _⟩ := h
  exact h1.free i
theorem Row16.later {W W' : World} {g : Nat} {l : List Nat} (h : Row16 W g l) (hb : Below W.heap.size W W') : Row16 W' g l := by
  obtain ⟨cs, h1, h2⟩ := h
  exact ⟨cs, h1.later hb, h2⟩
theorem Row16.set {W : World} {g : Nat} {l : List Nat} (h : Row16 W g l) (i v : Nat) : Row16 (W.setCell ⟨g, i, none⟩ (.int .u16 v)) g (l.set i v) := by
  obtain ⟨cs, h1, h2⟩ := h
  refine ⟨_, h1.set i _, fun j hj => ?_⟩
  rw [List.length_set] at hj
  rw [Array.getElem?_setIfInBounds]
  by_cases e : i = j
  · subst e
    have hs : i < cs.size := (Array.getElem?_eq_some_iff.1 (h2 i hj)).1
    rw [if_pos rfl, if_pos hs]
    simp
  · rw [if_neg e, h2 j hj]
    simp [List.getElem_set, e]
theorem Row16.of_own {W : World} {base n : Nat} {v : Value} {l : List Nat} (h : W.ownsRow base 39 1 v n (l.map u16V)) (hn : 0 < n) : ∃ g cap, v = .slice (some ⟨g, 0, none⟩) n cap ∧ base ≤ g ∧ n ≤ cap ∧ Row16 W g l := by
  obtain ⟨g, cap, rfl, _, hc⟩ := own_form2 h hn
  obtain ⟨cur, h1, h2, h3⟩ := own_box h
  refine ⟨g, cap, rfl, h3, hc, cur, h1, fun i hi => h2 i _ ?_⟩
  rw [List.getElem?_map, List.getElem?_eq_getElem hi]
  rfl
set_option maxRecDepth 100000 in
theorem told_num (vs : List Nat) (w : World) (hl : vs.length = 32) (hv : ∀ v ∈ vs, v < 65536) :
    Calls Tryz.prog 157 #[.string (B (putL2 vs))] w fun e w' => ∃ g cap, e = .returned (.tuple #[.slice (some ⟨g, 0, none⟩) 32 cap, .int .i64 0]) ∧ w.heap.size ≤ g ∧ 32 ≤ cap ∧ Row16 w' g vs ∧ Below w.heap.size w w' := by
  have GO := Lib.hid (fun W => got_any vs W (by omega) hv)
  have hz : (B (putL2 vs)).size = 64 := by rw [size_B, putL2_len]; omega
  rw [hl] at GO
  clear hv
  generalize B (putL2 vs) = s at *
  have z1 : ¬ (s.size : Int) < 64 := by omega
  have z2 : ¬ (64 : Int) < s.size := by omega
  have z3 : ¬ s.size < 64 := by omega
  have z4 : ¬ 64 < s.size := by omega
  go_enter Tryz.func157, Tryz.ntmps157
  go_wp2_with fail
  refine (GO.out _).mono ?_
  rintro e w1 ⟨v, rfl, hown, b1⟩
  obtain ⟨g, cap, rfl, hg, hc, hrow⟩ := Row16.of_own hown (by omega)
  have R := Lib.hid hrow
  have B1 := Lib.hid b1
  clear hrow b1 hown
  go_wp2
  go_ret2
  exact ⟨g, cap, rfl, hg, hc, R.out, B1.out⟩
/-- What an indirect block tells. -/
structure IndIs (E : Im) (D : Secs) (ind : Nat) (vs : List Nat) : Prop where
  len : vs.length = 32
  lt : ∀ v ∈ vs, v ≤ E.bl
  no : ind = 0 → vs = List.replicate 32 0
  has : ind ≠ 0 → D (dq E ind) = B (putL2 vs)
theorem make_u16 (w : World) : ∃ w', (Instr.makeSlice 87 (.int .i64 32) (.int .i64 32)).run Tryz.prog w = .ok (.slice (some ⟨w.heap.size, 0, none⟩) 32 32) w' ∧ Row16 w' w.heap.size (List.replicate 32 0) ∧ Below w.heap.size w w' := by
  obtain ⟨i0, hi, hz0, hz1, hz2⟩ := info_parts info_u16
  have h := run_make (P := Tryz.prog) w 87 39 i0 (.int .u16 0) Tryz.underlying87 hi hz0 .i64 .i64 32 32 (by omega) (Int.le_refl _) (by rw [hz2]; omega) (by omega)
  refine ⟨_, h, ⟨_, SBox.new w 39 _, fun i hi2 => ?_⟩, (Below.refl _ _).alloc (Nat.le_refl _) _⟩
  rw [List.length_replicate] at hi2
  rw [hz1, List.getElem_replicate]
  have e : (madeCells (Value.int .u16 0).cells ((32 : Int).toNat * 1)) = #[.int .u16 0, .int .u16 0, .int .u16 0, .int .u16 0, .int .u16 0, .int .u16 0, .int .u16 0, .int .u16 0, .int .u16 0, .int .u16 0, .int .u16 0, .int .u16 0, .int .u16 0, .int .u16 0, .int .u16 0, .int .u16 0, .int .u16 0, .int .u16 0, .int .u16 0, .int .u16 0, .int .u16 0, .int .u16 0, .int .u16 0, .int .u16 0, .int .u16 0, .int .u16 0, .int .u16 0, .int .u16 0, .int .u16 0, .int .u16 0, .int .u16 0, .int .u16 0] := by kernel_rfl
  rw [e]
  match i, hi2 with
  | 0, _ | 1, _ | 2, _ | 3, _ | 4, _ | 5, _ | 6, _ | 7, _ | 8, _ | 9, _ | 10, _ | 11, _ | 12, _ | 13, _ | 14, _ | 15, _ | 16, _ | 17, _ | 18, _ | 19, _ | 20, _ | 21, _ | 22, _ | 23, _ | 24, _ | 25, _ | 26, _ | 27, _ | 28, _ | 29, _ | 30, _ | 31, _ => rfl
  | n + 32, h => exact absurd h (by omega)
section
variable {E : Im} {D : Secs} {Z : Nat → Prop} {Q : Prop}
set_option maxRecDepth 100000 in
set_option maxHeartbeats 1000000 in
theorem told_is (x : InoT) (vs : List Nat) (w : World) (hs : Small E) (h : IS w E D Z) (hb : x.ind ≤ E.bl) (hv : IndIs E D x.ind vs) :
    Calls Tryz.prog 112 #[.pointer (some ⟨E.T.p, 0, none⟩), geoV E.i E.bl E.j, x.val] w fun e w' => ∃ g cap, e = .returned (.tuple #[.slice (some ⟨g, 0, none⟩) 32 cap, .int .i64 0]) ∧ w.heap.size ≤ g ∧ 32 ≤ cap ∧ Row16 w' g vs ∧ Below w.heap.size w w' := by
  have hbl := hs.hb
  obtain ⟨hl, hlt, hno, hhas⟩ := hv
  obtain ⟨kind, links, size, d0, d1, d2, d3, ind⟩ := x
  simp only at hb hno hhas
  have HB0 := Lib.hid (((Below.refl _ w).alloc (Nat.le_refl _) (.cells #[.int .i64 E.i, .int .i64 E.bl, .int .i64 E.j] 23)).alloc (by simp) (.cells #[.int .u8 kind, .int .u16 links, .int .u32 size, .int .u16 d0, .int .u16 d1, .int .u16 d2, .int .u16 d3, .int .u16 ind] 43))
  have hG := ((SBox.new w 23 #[.int .i64 E.i, .int .i64 E.bl, .int .i64 E.j]).alloc (.cells #[.int .u8 kind, .int .u16 links, .int .u32 size, .int .u16 d0, .int .u16 d1, .int .u16 d2, .int .u16 d3, .int .u16 ind] 43))
  have hX := SBox.new (w.alloc (.cells #[.int .i64 E.i, .int .i64 E.bl, .int .i64 E.j] 23)) 43 #[.int .u8 kind, .int .u16 links, .int .u32 size, .int .u16 d0, .int .u16 d1, .int .u16 d2, .int .u16 d3, .int .u16 ind]
  rw [World.size_alloc] at hX
  have HP := Lib.hid (h.later HB0.out)
  have X0 := hX.cell 0
  have X1 := hX.cell 1
  have X2 := hX.cell 2
  have X3 := hX.cell 3
  have X4 := hX.cell 4
  have X5 := hX.cell 5
  have X6 := hX.cell 6
  have X7 := hX.cell 7
  simp only [List.getElem?_toArray, List.getElem?_cons_zero, List.getElem?_cons_succ] at X0 X1 X2 X3 X4 X5 X6 X7
  have Xl := hX.lt
  have G0 := hG.cell 0
  have G1 := hG.cell 1
  have G2 := hG.cell 2
  simp only [List.getElem?_toArray, List.getElem?_cons_zero, List.getElem?_cons_succ] at G0 G1 G2
  have Gl := hG.lt
  clear hX hG
  by_cases h0 : ind = 0
  · have e0 := hno h0
    subst h0 e0
    obtain ⟨w9, hmk, hrow, b9⟩ := make_u16 ((w.alloc (.cells #[.int .i64 E.i, .int .i64 E.bl, .int .i64 E.j] 23)).alloc (.cells #[.int .u8 kind, .int .u16 links, .int .u32 size, .int .u16 d0, .int .u16 d1, .int .u16 d2, .int .u16 d3, .int .u16 0] 43))
    simp only [World.size_alloc] at hrow
    have R := Lib.hid hrow
    have B9 := Lib.hid (HB0.out.trans (b9.mono HB0.out.size))
    clear hrow b9 hno hhas
    unfold geoV InoT.val
    go_enter Tryz.func112, Tryz.ntmps112
    go_wp2
    go_ret2
    exact ⟨_, _, rfl, by omega, Nat.le_refl _, R.out, B9.out⟩
  · have hi0 : ((ind : Int) == 0) = false := by simp; omega
    have hd := hhas h0
    have hq := dq_lt hs h.len (b := ind) (by omega) hb
    have BL := Lib.hid (fun W => Geo.block_any E.i E.bl E.j ind W hs.may (by omega) hb)
    have RD := Lib.hid (fun W (h : IS W E D Z) => read_is (dq E ind) W h hq)
    have TN := Lib.hid (fun W => told_num vs W hl (fun v hv => by have := hlt v hv; omega))
    unfold geoV at BL
    rw [show fromG E.i E.bl E.j 5 + ind - 1 = dq E ind from rfl] at BL
    rw [hd] at RD
    generalize dq E ind = q at *
    generalize B (putL2 vs) = s at *
    unfold geoV InoT.val
    clear hno hhas hd
    go_enter Tryz.func112, Tryz.ntmps112
    go_wp2_with fail
    refine (BL.out _).mono ?_
    rintro e w1 ⟨rfl, b1⟩
    have B1 := Lib.hid (HB0.out.trans (b1.mono HB0.out.size))
    have H1 := Lib.hid (HP.out.later b1)
    clear b1 X0 X1 X2 X3 X4 X5 X6 X7 Xl G0 G1 G2 Gl
    go_wp2_with fail
    refine (RD.out _ H1.out).mono ?_
    rintro e w2 ⟨rfl, b2⟩
    have B2 := Lib.hid (B1.out.trans (b2.mono B1.out.size))
    clear b2
    go_wp2_with fail
    refine (TN.out _).mono ?_
    rintro e w3 ⟨g, cap, rfl, hg, hc, R, b3⟩
    have R := Lib.hid R
    have hg := Lib.hid (Nat.le_trans B2.out.size hg)
    have B3 := Lib.hid (B2.out.trans (b3.mono B2.out.size))
    clear b3
    go_wp2
    go_ret2
    exact ⟨g, cap, rfl, hg.out, hc, R.out, B3.out⟩
end
/-- A slice of numbers, as it is handed on. -/
def SlIs (W : World) (l : List Nat) (v : Value) : Prop := (l = [] ∧ v = .slice none 0 0) ∨ ∃ g cap, v = .slice (some ⟨g, 0, none⟩) l.length cap ∧ Row16 W g l
theorem SlIs.later {W W' : World} {l : List Nat} {v : Value} (h : SlIs W l v) (hb : Below W.heap.size W W') : SlIs W' l v := by
  rcases h with h | ⟨g, cap, h1, h2⟩
  · exact .inl h
  · exact .inr ⟨g, cap, h1, h2.later hb⟩
set_option maxRecDepth 100000 in
theorem put_nil (w : World) : Calls Tryz.prog 108 #[.slice none 0 0] w fun e w' => e = .returned (.string (B (putL2 []))) ∧ Below w.heap.size w w' := by
  go_enter Tryz.func108, Tryz.ntmps108
  go_wp2_with fail
  refine wp_loop_rounds 1 ?_
  rw [rounds_succ]
  go_wp2
  go_ret
  exact ⟨rfl, Below.refl _ _⟩
theorem put_sl (l : List Nat) (v : Value) (w : World) (hl : l.length ≤ 64) (hv : ∀ v ∈ l, v < 65536) (h : SlIs w l v) : Calls Tryz.prog 108 #[v] w fun e w' => e = .returned (.string (B (putL2 l))) ∧ Below w.heap.size w w' := by
  rcases h with ⟨rfl, rfl⟩ | ⟨g, cap, rfl, hr⟩
  · exact put_nil w
  · exact put_any l g 0 cap w hl hv hr.lt (fun i hi => by rw [Nat.zero_add]; exact hr.cell i hi)
/-- An indirect block of numbers. -/
def tellS (l : List Nat) : ByteArray := B (putL2 l ++ nil0 (64 - 2 * l.length))
theorem tellS_size {l : List Nat} (h : l.length ≤ 32) : (tellS l).size = 64 := by
  unfold tellS
  rw [size_B, List.length_append, putL2_len, nil0_len]
  omega
theorem tellS_full {l : List Nat} (h : l.length = 32) : tellS l = B (putL2 l) := by
  unfold tellS
  rw [h]
  show B (putL2 l ++ []) = _
  rw [List.append_nil]
theorem tellS_nil : tellS [] = B (putL2 (List.replicate 32 0)) := by
  rw [putL2_zero]
  rfl
set_option maxRecDepth 100000 in
theorem tell_num (l : List Nat) (v : Value) (w : World) (hl : l.length ≤ 32) (hv : ∀ v ∈ l, v < 65536) (h : SlIs w l v) :
    Calls Tryz.prog 159 #[v] w fun e w' => e = .returned (.tuple #[.string (tellS l), .int .i64 0]) ∧ Below w.heap.size w w' := by
  have PU := Lib.hid (put_sl l v w (by omega) hv h)
  have PD := Lib.hid (fun W => pad_any (B (putL2 l)) 64 W (by rw [size_B, putL2_len]; omega) (by omega))
  rw [show B (L (B (putL2 l)) ++ nil0 (64 - (B (putL2 l)).size)) = tellS l by rw [L_B, size_B, putL2_len]; rfl] at PD
  generalize tellS l = s2 at *
  generalize B (putL2 l) = s1 at *
  have q1 : ¬ (32 : Int) < l.length := by omega
  have q2 : ¬ 32 < l.length := by omega
  rcases h with ⟨rfl, rfl⟩ | ⟨g, cap, rfl, hr⟩
  · go_enter Tryz.func159, Tryz.ntmps159
    go_wp2_with fail
    refine PU.out.mono ?_
    rintro e w1 ⟨rfl, b1⟩
    have B1 := Lib.hid b1
    go_wp2_with fail
    refine (PD.out _).mono ?_
    rintro e w2 ⟨rfl, b2⟩
    have B2 := Lib.hid (B1.out.trans (b2.mono B1.out.size))
    clear b1 b2
    go_wp2
    go_ret2
    exact ⟨rfl, B2.out⟩
  · have R := Lib.hid hr
    clear hr
    go_enter Tryz.func159, Tryz.ntmps159
    go_wp2_with fail
    refine PU.out.mono ?_
    rintro e w1 ⟨rfl, b1⟩
    have B1 := Lib.hid b1
    go_wp2_with fail
    refine (PD.out _).mono ?_
    rintro e w2 ⟨rfl, b2⟩
    have B2 := Lib.hid (B1.out.trans (b2.mono B1.out.size))
    clear b1 b2
    go_wp2
    go_ret2
    exact ⟨rfl, B2.out⟩
section
variable {E : Im} {D : Secs} {Z : Nat → Prop} {Q : Prop}
set_option maxRecDepth 100000 in
set_option maxHeartbeats 1000000 in
theorem tell_is (x : InoT) (l : List Nat) (v : Value) (w : World) (hs : Small E) (h : IS w E D Z) (h1 : 1 ≤ x.ind) (hb : x.ind ≤ E.bl) (hl : l.length ≤ 32) (hv : ∀ v ∈ l, v < 65536) (hsl : SlIs w l v) (hz : Z (dq E x.ind)) (hQ : FullE E Z → Q) :
    Calls Tryz.prog 114 #[.pointer (some ⟨E.T.p, 0, none⟩), geoV E.i E.bl E.j, x.val, v] w (Out (.int .i64 0) (.int .i64 4) (Wr E (upd D (dq E x.ind) (tellS l)) Z w) (Fu E Q w)) := by
  have hbl := hs.hb
  have hj := hs.hj
  have hq := dq_lt hs h.len h1 hb
  have hl4 := h.len4
  obtain ⟨kind, links, size, d0, d1, d2, d3, ind⟩ := x
  simp only at h1 hb hz hq ⊢
  have BL := Lib.hid (fun W => Geo.block_any E.i E.bl E.j ind W hs.may h1 hb)
  have TN := Lib.hid (fun W (h : SlIs W l v) => tell_num l v W hl hv h)
  have WR := Lib.hid (fun W (h : IS W E D Z) => write_is (dq E ind) (tellS l) W h (by omega) hq (tellS_size hl) hz hQ)
  unfold geoV at BL
  rw [show fromG E.i E.bl E.j 5 + ind - 1 = dq E ind from rfl] at BL
  generalize upd D (dq E ind) (tellS l) = D2 at *
  generalize dq E ind = q at *
  generalize tellS l = s at *
  have HB0 := Lib.hid (((Below.refl _ w).alloc (Nat.le_refl _) (.cells #[.int .i64 E.i, .int .i64 E.bl, .int .i64 E.j] 23)).alloc (by simp) (.cells #[.int .u8 kind, .int .u16 links, .int .u32 size, .int .u16 d0, .int .u16 d1, .int .u16 d2, .int .u16 d3, .int .u16 ind] 43))
  have hG := ((SBox.new w 23 #[.int .i64 E.i, .int .i64 E.bl, .int .i64 E.j]).alloc (.cells #[.int .u8 kind, .int .u16 links, .int .u32 size, .int .u16 d0, .int .u16 d1, .int .u16 d2, .int .u16 d3, .int .u16 ind] 43))
  have hX := SBox.new (w.alloc (.cells #[.int .i64 E.i, .int .i64 E.bl, .int .i64 E.j] 23)) 43 #[.int .u8 kind, .int .u16 links, .int .u32 size, .int .u16 d0, .int .u16 d1, .int .u16 d2, .int .u16 d3, .int .u16 ind]
  rw [World.size_alloc] at hX
  have HP := Lib.hid (h.later HB0.out)
  have HS := Lib.hid (hsl.later (Below.mono HB0.out (Nat.le_refl _)))
  have X0 := hX.cell 0
  have X1 := hX.cell 1
  have X2 := hX.cell 2
  have X3 := hX.cell 3
  have X4 := hX.cell 4
  have X5 := hX.cell 5
  have X6 := hX.cell 6
  have X7 := hX.cell 7
  simp only [List.getElem?_toArray, List.getElem?_cons_zero, List.getElem?_cons_succ] at X0 X1 X2 X3 X4 X5 X6 X7
  have Xl := hX.lt
  have G0 := hG.cell 0
  have G1 := hG.cell 1
  have G2 := hG.cell 2
  simp only [List.getElem?_toArray, List.getElem?_cons_zero, List.getElem?_cons_succ] at G0 G1 G2
  have Gl := hG.lt
  clear hX hG h hz hQ hsl
  unfold geoV InoT.val
  go_enter Tryz.func114, Tryz.ntmps114
  go_wp2_with fail
  refine (BL.out _).mono ?_
  rintro e w1 ⟨rfl, b1⟩
  have B1 := Lib.hid (HB0.out.trans (b1.mono HB0.out.size))
  have H1 := Lib.hid (HP.out.later b1)
  have HS1 := Lib.hid (HS.out.later b1)
  clear b1 X0 X1 X2 X3 X4 X5 X6 X7 Xl G0 G1 G2 Gl
  go_wp2_with fail
  refine (TN.out _ HS1.out).mono ?_
  rintro e w2 ⟨rfl, b2⟩
  have B2 := Lib.hid (B1.out.trans (b2.mono B1.out.size))
  have H2 := Lib.hid (H1.out.later b2)
  clear b2
  go_wp2_with fail
  refine (WR.out _ H2.out).mono ?_
  rintro e w3 (⟨rfl, G⟩ | ⟨rfl, G⟩)
  · have G := Lib.hid (G.pre B2.out)
    go_wp2
    go_ret
    exact .inl ⟨rfl, G.out⟩
  · have G := Lib.hid (G.pre B2.out)
    go_wp2
    go_ret
    exact .inr ⟨rfl, G.out⟩
end
end Go.Proofs.YtpnfkilfgdnogaaGreatDoor.Bm
