/- The law CallTells: which calls may be, and why others not, which bytes each has, which call any bytes begin with. The walk. -/
import Derived.Test.YtfdclifdemajfaaDoorCallRGet
import Derived.Test.YtfdclifdemajfaaDoorCallRPut
import Derived.Test.YtfdclifdemajfaaDoorCallAlive
import Derived.Deep.RegionHeld3
import Derived.BigGuard
namespace Go.Proofs.YtfdclifdemajfaaDoor.Call
set_option linter.unusedVariables false
set_option linter.unusedSimpArgs false
open Go.RowKit Oct Path
theorem getV_form (l : List UInt8) : ∃ (y : C) (r : ByteArray) (g : Int), getV l = .tuple #[.agg #[.int .u8 y.d, .string y.p, .string y.p2, .int .i64 y.fd, .int .i64 y.pg, .int .u32 y.sz, .string y.da], .string r, .int .i64 g] := by
  cases h : getL l with
  | none => exact ⟨C.zero 0, ⟨#[]⟩, 7, getV_none h⟩
  | some q =>
    obtain ⟨y, r⟩ := q
    exact ⟨y, B r, 0, getV_some h⟩
/-- What holds besides the cells. -/
structure TR (w W : World) (b1 b2 : Nat) : Prop where
  k : Kinds W
  l0 : w.heap.size < W.heap.size
  l1 : b1 < W.heap.size
  l2 : b2 < W.heap.size
  bel : Below w.heap.size w W
theorem TR.later {w W W2 : World} {b1 b2 : Nat} (h : TR w W b1 b2) (b : Below W.heap.size W W2) : TR w W2 b1 b2 :=
  ⟨h.k.later b, Nat.lt_of_lt_of_le h.l0 b.size, Nat.lt_of_lt_of_le h.l1 b.size, Nat.lt_of_lt_of_le h.l2 b.size, h.bel.trans (b.mono (Nat.le_of_lt h.l0))⟩
theorem keepT {x y : C} {w W W2 : World} {b1 b2 : Nat} (h : W.cell? ⟨w.heap.size, 0, none⟩ = some (.int .u8 x.d) ∧ W.cell? ⟨w.heap.size, 1, none⟩ = some (.string x.p) ∧ W.cell? ⟨w.heap.size, 2, none⟩ = some (.string x.p2) ∧ W.cell? ⟨w.heap.size, 3, none⟩ = some (.int .i64 x.fd) ∧ W.cell? ⟨w.heap.size, 4, none⟩ = some (.int .i64 x.pg) ∧ W.cell? ⟨w.heap.size, 5, none⟩ = some (.int .u32 x.sz) ∧ W.cell? ⟨w.heap.size, 6, none⟩ = some (.string x.da) ∧ W.cell? ⟨b1, 0, none⟩ = some (.int .u8 y.d) ∧ W.cell? ⟨b1, 1, none⟩ = some (.string y.p) ∧ W.cell? ⟨b1, 2, none⟩ = some (.string y.p2) ∧ W.cell? ⟨b1, 3, none⟩ = some (.int .i64 y.fd) ∧ W.cell? ⟨b1, 4, none⟩ = some (.int .i64 y.pg) ∧ W.cell? ⟨b1, 5, none⟩ = some (.int .u32 y.sz) ∧ W.cell? ⟨b1, 6, none⟩ = some (.string y.da) ∧ W.cell? ⟨b2, 0, none⟩ = some (.int .u8 y.d) ∧ W.cell? ⟨b2, 1, none⟩ = some (.string y.p) ∧ W.cell? ⟨b2, 2, none⟩ = some (.string y.p2) ∧ W.cell? ⟨b2, 3, none⟩ = some (.int .i64 y.fd) ∧ W.cell? ⟨b2, 4, none⟩ = some (.int .i64 y.pg) ∧ W.cell? ⟨b2, 5, none⟩ = some (.int .u32 y.sz) ∧ W.cell? ⟨b2, 6, none⟩ = some (.string y.da) ∧ TR w W b1 b2) (b : Below W.heap.size W W2) : W2.cell? ⟨w.heap.size, 0, none⟩ = some (.int .u8 x.d) ∧ W2.cell? ⟨w.heap.size, 1, none⟩ = some (.string x.p) ∧ W2.cell? ⟨w.heap.size, 2, none⟩ = some (.string x.p2) ∧ W2.cell? ⟨w.heap.size, 3, none⟩ = some (.int .i64 x.fd) ∧ W2.cell? ⟨w.heap.size, 4, none⟩ = some (.int .i64 x.pg) ∧ W2.cell? ⟨w.heap.size, 5, none⟩ = some (.int .u32 x.sz) ∧ W2.cell? ⟨w.heap.size, 6, none⟩ = some (.string x.da) ∧ W2.cell? ⟨b1, 0, none⟩ = some (.int .u8 y.d) ∧ W2.cell? ⟨b1, 1, none⟩ = some (.string y.p) ∧ W2.cell? ⟨b1, 2, none⟩ = some (.string y.p2) ∧ W2.cell? ⟨b1, 3, none⟩ = some (.int .i64 y.fd) ∧ W2.cell? ⟨b1, 4, none⟩ = some (.int .i64 y.pg) ∧ W2.cell? ⟨b1, 5, none⟩ = some (.int .u32 y.sz) ∧ W2.cell? ⟨b1, 6, none⟩ = some (.string y.da) ∧ W2.cell? ⟨b2, 0, none⟩ = some (.int .u8 y.d) ∧ W2.cell? ⟨b2, 1, none⟩ = some (.string y.p) ∧ W2.cell? ⟨b2, 2, none⟩ = some (.string y.p2) ∧ W2.cell? ⟨b2, 3, none⟩ = some (.int .i64 y.fd) ∧ W2.cell? ⟨b2, 4, none⟩ = some (.int .i64 y.pg) ∧ W2.cell? ⟨b2, 5, none⟩ = some (.int .u32 y.sz) ∧ W2.cell? ⟨b2, 6, none⟩ = some (.string y.da) ∧ TR w W2 b1 b2 := by
  obtain ⟨x0, x1, x2, x3, x4, x5, x6, y0, y1, y2, y3, y4, y5, y6, z0, z1, z2, z3, z4, z5, z6, t⟩ := h
  refine ⟨?_, ?_, ?_, ?_, ?_, ?_, ?_, ?_, ?_, ?_, ?_, ?_, ?_, ?_, ?_, ?_, ?_, ?_, ?_, ?_, ?_, ?_⟩
  · exact (b.cell (p := ⟨_, 0, none⟩) t.l0).trans x0
  · exact (b.cell (p := ⟨_, 1, none⟩) t.l0).trans x1
  · exact (b.cell (p := ⟨_, 2, none⟩) t.l0).trans x2
  · exact (b.cell (p := ⟨_, 3, none⟩) t.l0).trans x3
  · exact (b.cell (p := ⟨_, 4, none⟩) t.l0).trans x4
  · exact (b.cell (p := ⟨_, 5, none⟩) t.l0).trans x5
  · exact (b.cell (p := ⟨_, 6, none⟩) t.l0).trans x6
  · exact (b.cell (p := ⟨_, 0, none⟩) t.l1).trans y0
  · exact (b.cell (p := ⟨_, 1, none⟩) t.l1).trans y1
  · exact (b.cell (p := ⟨_, 2, none⟩) t.l1).trans y2
  · exact (b.cell (p := ⟨_, 3, none⟩) t.l1).trans y3
  · exact (b.cell (p := ⟨_, 4, none⟩) t.l1).trans y4
  · exact (b.cell (p := ⟨_, 5, none⟩) t.l1).trans y5
  · exact (b.cell (p := ⟨_, 6, none⟩) t.l1).trans y6
  · exact (b.cell (p := ⟨_, 0, none⟩) t.l2).trans z0
  · exact (b.cell (p := ⟨_, 1, none⟩) t.l2).trans z1
  · exact (b.cell (p := ⟨_, 2, none⟩) t.l2).trans z2
  · exact (b.cell (p := ⟨_, 3, none⟩) t.l2).trans z3
  · exact (b.cell (p := ⟨_, 4, none⟩) t.l2).trans z4
  · exact (b.cell (p := ⟨_, 5, none⟩) t.l2).trans z5
  · exact (b.cell (p := ⟨_, 6, none⟩) t.l2).trans z6
  · exact t.later b
theorem tsT {x y : C} {w W : World} {b1 b2 : Nat} (h : W.cell? ⟨w.heap.size, 0, none⟩ = some (.int .u8 x.d) ∧ W.cell? ⟨w.heap.size, 1, none⟩ = some (.string x.p) ∧ W.cell? ⟨w.heap.size, 2, none⟩ = some (.string x.p2) ∧ W.cell? ⟨w.heap.size, 3, none⟩ = some (.int .i64 x.fd) ∧ W.cell? ⟨w.heap.size, 4, none⟩ = some (.int .i64 x.pg) ∧ W.cell? ⟨w.heap.size, 5, none⟩ = some (.int .u32 x.sz) ∧ W.cell? ⟨w.heap.size, 6, none⟩ = some (.string x.da) ∧ W.cell? ⟨b1, 0, none⟩ = some (.int .u8 y.d) ∧ W.cell? ⟨b1, 1, none⟩ = some (.string y.p) ∧ W.cell? ⟨b1, 2, none⟩ = some (.string y.p2) ∧ W.cell? ⟨b1, 3, none⟩ = some (.int .i64 y.fd) ∧ W.cell? ⟨b1, 4, none⟩ = some (.int .i64 y.pg) ∧ W.cell? ⟨b1, 5, none⟩ = some (.int .u32 y.sz) ∧ W.cell? ⟨b1, 6, none⟩ = some (.string y.da) ∧ W.cell? ⟨b2, 0, none⟩ = some (.int .u8 y.d) ∧ W.cell? ⟨b2, 1, none⟩ = some (.string y.p) ∧ W.cell? ⟨b2, 2, none⟩ = some (.string y.p2) ∧ W.cell? ⟨b2, 3, none⟩ = some (.int .i64 y.fd) ∧ W.cell? ⟨b2, 4, none⟩ = some (.int .i64 y.pg) ∧ W.cell? ⟨b2, 5, none⟩ = some (.int .u32 y.sz) ∧ W.cell? ⟨b2, 6, none⟩ = some (.string y.da) ∧ TR w W b1 b2) : TR w W b1 b2 := h.2.2.2.2.2.2.2.2.2.2.2.2.2.2.2.2.2.2.2.2.2
theorem baseT {x y : C} {w W : World} {b1 b2 : Nat} (hx : Box W w.heap.size x) (hy : Box W b1 y) (hz : Box W b2 y) (t : TR w W b1 b2) : W.cell? ⟨w.heap.size, 0, none⟩ = some (.int .u8 x.d) ∧ W.cell? ⟨w.heap.size, 1, none⟩ = some (.string x.p) ∧ W.cell? ⟨w.heap.size, 2, none⟩ = some (.string x.p2) ∧ W.cell? ⟨w.heap.size, 3, none⟩ = some (.int .i64 x.fd) ∧ W.cell? ⟨w.heap.size, 4, none⟩ = some (.int .i64 x.pg) ∧ W.cell? ⟨w.heap.size, 5, none⟩ = some (.int .u32 x.sz) ∧ W.cell? ⟨w.heap.size, 6, none⟩ = some (.string x.da) ∧ W.cell? ⟨b1, 0, none⟩ = some (.int .u8 y.d) ∧ W.cell? ⟨b1, 1, none⟩ = some (.string y.p) ∧ W.cell? ⟨b1, 2, none⟩ = some (.string y.p2) ∧ W.cell? ⟨b1, 3, none⟩ = some (.int .i64 y.fd) ∧ W.cell? ⟨b1, 4, none⟩ = some (.int .i64 y.pg) ∧ W.cell? ⟨b1, 5, none⟩ = some (.int .u32 y.sz) ∧ W.cell? ⟨b1, 6, none⟩ = some (.string y.da) ∧ W.cell? ⟨b2, 0, none⟩ = some (.int .u8 y.d) ∧ W.cell? ⟨b2, 1, none⟩ = some (.string y.p) ∧ W.cell? ⟨b2, 2, none⟩ = some (.string y.p2) ∧ W.cell? ⟨b2, 3, none⟩ = some (.int .i64 y.fd) ∧ W.cell? ⟨b2, 4, none⟩ = some (.int .i64 y.pg) ∧ W.cell? ⟨b2, 5, none⟩ = some (.int .u32 y.sz) ∧ W.cell? ⟨b2, 6, none⟩ = some (.string y.da) ∧ TR w W b1 b2 :=
  ⟨hx.c0, hx.c1, hx.c2, hx.c3, hx.c4, hx.c5, hx.c6, hy.c0, hy.c1, hy.c2, hy.c3, hy.c4, hy.c5, hy.c6, hz.c0, hz.c1, hz.c2, hz.c3, hz.c4, hz.c5, hz.c6, t⟩
set_option maxRecDepth 100000 in
set_option maxHeartbeats 1000000 in
theorem tells_long (x : C) (s : ByteArray) (w : World) (hk : Kinds w) (hd : x.d < 256) (h1 : x.p.size ≤ 140737488351232) (h2 : x.p2.size ≤ 140737488351232) (h3 : x.da.size ≤ 140737488351232) (hs : s.size ≤ 140737488351232) (hl : 2048 < x.p.size + x.p2.size + x.da.size) : Calls Tryd.prog 5 #[.agg #[.int .u8 x.d, .string x.p, .string x.p2, .int .i64 x.fd, .int .i64 x.pg, .int .u32 x.sz, .string x.da], .string s] w fun e w' => e = .returned (.bool true) ∧ Below w.heap.size w w' := by
  have HK := Lib.hid hk
  have LG := Lib.hid (fun W => long_yes x W h1 h2 h3 hl)
  clear hk hl
  go_enter Tryd.func5, Tryd.ntmps5
  go_wp2_with fail
  refine (LG.out _).mono ?_
  rintro e w1 ⟨rfl, b1⟩
  have bb : Below w.heap.size w w1 := ((Below.refl _ w).alloc (Nat.le_refl _) _).trans (b1.mono (by simp))
  clear b1
  go_wp2_with fail
  refine (alive20 _ (HK.out.later bb)).mono ?_
  rintro e w2 ⟨rfl, b2⟩
  go_wp2
  go_ret
  exact ⟨rfl, bb.trans (b2.mono bb.size)⟩
set_option maxRecDepth 100000 in
set_option maxHeartbeats 1000000 in
theorem tells_much (x : C) (s : ByteArray) (w : World) (hk : Kinds w) (hd : x.d < 256) (h1 : x.p.size ≤ 140737488351232) (h2 : x.p2.size ≤ 140737488351232) (h3 : x.da.size ≤ 140737488351232) (hs : s.size ≤ 140737488351232) (hl : x.p.size + x.p2.size + x.da.size ≤ 2048) (hc : 4096 < s.size) : Calls Tryd.prog 5 #[.agg #[.int .u8 x.d, .string x.p, .string x.p2, .int .i64 x.fd, .int .i64 x.pg, .int .u32 x.sz, .string x.da], .string s] w fun e w' => e = .returned (.bool true) ∧ Below w.heap.size w w' := by
  have HK := Lib.hid hk
  have LG := Lib.hid (fun W => long_no x W h1 h2 h3 hl)
  have t1 : decide ((4096 : Int) < (s.size : Int)) = true := by simp; omega
  have t2 : decide (4096 < s.size) = true := by simp; omega
  clear hk hl
  go_enter Tryd.func5, Tryd.ntmps5
  go_wp2_with fail
  refine (LG.out _).mono ?_
  rintro e w1 ⟨rfl, b1⟩
  have bb : Below w.heap.size w w1 := ((Below.refl _ w).alloc (Nat.le_refl _) _).trans (b1.mono (by simp))
  clear b1
  go_wp2_with fail
  refine (alive20 _ (HK.out.later bb)).mono ?_
  rintro e w2 ⟨rfl, b2⟩
  go_wp2
  go_ret
  exact ⟨rfl, bb.trans (b2.mono bb.size)⟩
set_option maxRecDepth 100000 in
set_option maxHeartbeats 8000000 in
theorem tells_no (x : C) (s : ByteArray) (w : World) (hk : Kinds w) (hd : x.d < 256) (h1 : x.p.size ≤ 140737488351232) (h2 : x.p2.size ≤ 140737488351232) (h3 : x.da.size ≤ 140737488351232) (hs : s.size ≤ 140737488351232) (hl : x.p.size + x.p2.size + x.da.size ≤ 2048) (hc : s.size ≤ 4096) (hx : x.checkE ≠ 0) : Calls Tryd.prog 5 #[.agg #[.int .u8 x.d, .string x.p, .string x.p2, .int .i64 x.fd, .int .i64 x.pg, .int .u32 x.sz, .string x.da], .string s] w fun e w' => e = .returned (.bool true) ∧ Below w.heap.size w w' := by
  have HK := Lib.hid hk
  have LG := Lib.hid (fun W => long_no x W h1 h2 h3 hl)
  have t1 : decide ((4096 : Int) < (s.size : Int)) = false := by simp; omega
  have t2 : decide (4096 < s.size) = false := by simp; omega
  have hsm : s.size ≤ maxLen := by unfold maxLen; omega
  have PX := Lib.hid (fun W k => put_no x W k hd (by unfold maxLen; omega) (by unfold maxLen; omega) (by unfold maxLen; omega) hx)
  have CX := Lib.hid (fun W k => check_any x W k hd (by unfold maxLen; omega) (by unfold maxLen; omega) (by unfold maxLen; omega))
  have RX := Lib.hid (fun W => rcheck_any x W hd (by unfold maxLen; omega) (by unfold maxLen; omega) (by unfold maxLen; omega))
  have GS := Lib.hid (fun W k => get_any s W k hsm)
  have RG := Lib.hid (fun W => rget_any s W hc)
  have CH := Lib.hid (fun W => changes_any x.d W hd)
  have RCH := Lib.hid (fun W => rchanges_any x.d W hd)
  have WD := Lib.hid (fun W k => word_any x.d W k hd)
  have RWD := Lib.hid (fun W => rword_any x.d W hd)
  obtain ⟨y, r, g, hg⟩ := getV_form (L s)
  rw [hg] at GS RG
  rw [show x.cells = #[.int .u8 x.d, .string x.p, .string x.p2, .int .i64 x.fd, .int .i64 x.pg, .int .u32 x.sz, .string x.da] from rfl] at PX CX
  have q3 : (x.checkE == 0) = false := by simpa using hx
  have q4 : (x.checkE != 0) = true := by simpa using hx
  generalize x.checkE = ce at *
  generalize changes x.d = ch at *
  generalize B (wordN x.d) = wd at *
  clear hk hl hx hg hsm
  go_enter Tryd.func5, Tryd.ntmps5
  try simp only [List.append_eq, List.cons_append, List.nil_append]
  go_wp2_with fail
  refine (LG.out _).mono ?_
  rintro e w1 ⟨rfl, b1⟩
  have bb : Below w.heap.size w w1 := ((Below.refl _ w).alloc (Nat.le_refl _) _).trans (b1.mono (by simp))
  have hB : Box w1 w.heap.size x := (box_x x w).below (by simp) b1
  have hlt := hB.lt
  have c0 := hB.c0
  have c1 := hB.c1
  have c2 := hB.c2
  have c3 := hB.c3
  have c4 := hB.c4
  have c5 := hB.c5
  have c6 := hB.c6
  clear b1 LG
  go_wp2_with fail
  refine (RX.out _).mono ?_
  rintro e w2 ⟨rfl, b2⟩
  have bb2 : Below w.heap.size w w2 := bb.trans (b2.mono bb.size)
  have hB2 : Box w2 w.heap.size x := hB.below hlt b2
  have hlt2 := hB2.lt
  clear hB c0 c1 c2 c3 c4 c5 c6
  have c0 := hB2.c0
  have c1 := hB2.c1
  have c2 := hB2.c2
  have c3 := hB2.c3
  have c4 := hB2.c4
  have c5 := hB2.c5
  have c6 := hB2.c6
  clear b2 bb hlt RX
  go_wp2_with fail
  refine (PX.out _ (HK.out.later bb2)).mono ?_
  rintro e w3 ⟨rfl, b3⟩
  have bb3 : Below w.heap.size w w3 := bb2.trans (b3.mono bb2.size)
  have hB3 : Box w3 w.heap.size x := hB2.below hlt2 b3
  have hlt3 := hB3.lt
  clear b3 bb2 hB2 c0 c1 c2 c3 c4 c5 c6 PX hlt2
  go_wp2_with fail
  refine (GS.out _ (HK.out.later bb3)).mono ?_
  rintro e w4 ⟨rfl, b4⟩
  have bb4 : Below w.heap.size w w4 := bb3.trans (b4.mono bb3.size)
  have hB4 : Box w4 w.heap.size x := hB3.below hlt3 b4
  have hlt4 := hB4.lt
  clear b4 bb3 hB3 GS hlt3
  go_wp2_with fail
  refine (RG.out _).mono ?_
  rintro e w5 ⟨rfl, b5⟩
  have hY5 : Box w5 w4.heap.size y := (box_x y w4).below (by simp) b5
  have hX5 : Box w5 w.heap.size x := (hB4.alloc _).below (by simp; omega) b5
  have hlt5 := hX5.lt
  have hlt6 := hY5.lt
  have bb5 : Below w.heap.size w w5 := (bb4.alloc (Nat.le_of_lt hlt4) _).trans (b5.mono (by simp; omega))
  clear b5 hB4 RG
  go_upto_region 7 with (fail)
  obtain ⟨b1, hb1⟩ : ∃ b, w4.heap.size = b := ⟨_, rfl⟩
  have base : Hid ((w5.alloc (.cells #[.int .u8 y.d, .string y.p, .string y.p2, .int .i64 y.fd, .int .i64 y.pg, .int .u32 y.sz, .string y.da] 24)).drew.cell? ⟨w.heap.size, 0, none⟩ = some (.int .u8 x.d) ∧ (w5.alloc (.cells #[.int .u8 y.d, .string y.p, .string y.p2, .int .i64 y.fd, .int .i64 y.pg, .int .u32 y.sz, .string y.da] 24)).drew.cell? ⟨w.heap.size, 1, none⟩ = some (.string x.p) ∧ (w5.alloc (.cells #[.int .u8 y.d, .string y.p, .string y.p2, .int .i64 y.fd, .int .i64 y.pg, .int .u32 y.sz, .string y.da] 24)).drew.cell? ⟨w.heap.size, 2, none⟩ = some (.string x.p2) ∧ (w5.alloc (.cells #[.int .u8 y.d, .string y.p, .string y.p2, .int .i64 y.fd, .int .i64 y.pg, .int .u32 y.sz, .string y.da] 24)).drew.cell? ⟨w.heap.size, 3, none⟩ = some (.int .i64 x.fd) ∧ (w5.alloc (.cells #[.int .u8 y.d, .string y.p, .string y.p2, .int .i64 y.fd, .int .i64 y.pg, .int .u32 y.sz, .string y.da] 24)).drew.cell? ⟨w.heap.size, 4, none⟩ = some (.int .i64 x.pg) ∧ (w5.alloc (.cells #[.int .u8 y.d, .string y.p, .string y.p2, .int .i64 y.fd, .int .i64 y.pg, .int .u32 y.sz, .string y.da] 24)).drew.cell? ⟨w.heap.size, 5, none⟩ = some (.int .u32 x.sz) ∧ (w5.alloc (.cells #[.int .u8 y.d, .string y.p, .string y.p2, .int .i64 y.fd, .int .i64 y.pg, .int .u32 y.sz, .string y.da] 24)).drew.cell? ⟨w.heap.size, 6, none⟩ = some (.string x.da) ∧ (w5.alloc (.cells #[.int .u8 y.d, .string y.p, .string y.p2, .int .i64 y.fd, .int .i64 y.pg, .int .u32 y.sz, .string y.da] 24)).drew.cell? ⟨b1, 0, none⟩ = some (.int .u8 y.d) ∧ (w5.alloc (.cells #[.int .u8 y.d, .string y.p, .string y.p2, .int .i64 y.fd, .int .i64 y.pg, .int .u32 y.sz, .string y.da] 24)).drew.cell? ⟨b1, 1, none⟩ = some (.string y.p) ∧ (w5.alloc (.cells #[.int .u8 y.d, .string y.p, .string y.p2, .int .i64 y.fd, .int .i64 y.pg, .int .u32 y.sz, .string y.da] 24)).drew.cell? ⟨b1, 2, none⟩ = some (.string y.p2) ∧ (w5.alloc (.cells #[.int .u8 y.d, .string y.p, .string y.p2, .int .i64 y.fd, .int .i64 y.pg, .int .u32 y.sz, .string y.da] 24)).drew.cell? ⟨b1, 3, none⟩ = some (.int .i64 y.fd) ∧ (w5.alloc (.cells #[.int .u8 y.d, .string y.p, .string y.p2, .int .i64 y.fd, .int .i64 y.pg, .int .u32 y.sz, .string y.da] 24)).drew.cell? ⟨b1, 4, none⟩ = some (.int .i64 y.pg) ∧ (w5.alloc (.cells #[.int .u8 y.d, .string y.p, .string y.p2, .int .i64 y.fd, .int .i64 y.pg, .int .u32 y.sz, .string y.da] 24)).drew.cell? ⟨b1, 5, none⟩ = some (.int .u32 y.sz) ∧ (w5.alloc (.cells #[.int .u8 y.d, .string y.p, .string y.p2, .int .i64 y.fd, .int .i64 y.pg, .int .u32 y.sz, .string y.da] 24)).drew.cell? ⟨b1, 6, none⟩ = some (.string y.da) ∧ (w5.alloc (.cells #[.int .u8 y.d, .string y.p, .string y.p2, .int .i64 y.fd, .int .i64 y.pg, .int .u32 y.sz, .string y.da] 24)).drew.cell? ⟨w5.heap.size, 0, none⟩ = some (.int .u8 y.d) ∧ (w5.alloc (.cells #[.int .u8 y.d, .string y.p, .string y.p2, .int .i64 y.fd, .int .i64 y.pg, .int .u32 y.sz, .string y.da] 24)).drew.cell? ⟨w5.heap.size, 1, none⟩ = some (.string y.p) ∧ (w5.alloc (.cells #[.int .u8 y.d, .string y.p, .string y.p2, .int .i64 y.fd, .int .i64 y.pg, .int .u32 y.sz, .string y.da] 24)).drew.cell? ⟨w5.heap.size, 2, none⟩ = some (.string y.p2) ∧ (w5.alloc (.cells #[.int .u8 y.d, .string y.p, .string y.p2, .int .i64 y.fd, .int .i64 y.pg, .int .u32 y.sz, .string y.da] 24)).drew.cell? ⟨w5.heap.size, 3, none⟩ = some (.int .i64 y.fd) ∧ (w5.alloc (.cells #[.int .u8 y.d, .string y.p, .string y.p2, .int .i64 y.fd, .int .i64 y.pg, .int .u32 y.sz, .string y.da] 24)).drew.cell? ⟨w5.heap.size, 4, none⟩ = some (.int .i64 y.pg) ∧ (w5.alloc (.cells #[.int .u8 y.d, .string y.p, .string y.p2, .int .i64 y.fd, .int .i64 y.pg, .int .u32 y.sz, .string y.da] 24)).drew.cell? ⟨w5.heap.size, 5, none⟩ = some (.int .u32 y.sz) ∧ (w5.alloc (.cells #[.int .u8 y.d, .string y.p, .string y.p2, .int .i64 y.fd, .int .i64 y.pg, .int .u32 y.sz, .string y.da] 24)).drew.cell? ⟨w5.heap.size, 6, none⟩ = some (.string y.da) ∧ TR w (w5.alloc (.cells #[.int .u8 y.d, .string y.p, .string y.p2, .int .i64 y.fd, .int .i64 y.pg, .int .u32 y.sz, .string y.da] 24)).drew b1 w5.heap.size) := by
    refine Lib.hid (keepT (W := w5.alloc (.cells #[.int .u8 y.d, .string y.p, .string y.p2, .int .i64 y.fd, .int .i64 y.pg, .int .u32 y.sz, .string y.da] 24)) (baseT (hX5.alloc _) ?_ (box_x y w5) ⟨HK.out.later (bb5.alloc bb5.size _), ?_, ?_, ?_, bb5.alloc bb5.size _⟩) (below_drew _ _))
    · rw [← hb1]; exact hY5.alloc _
    · simp; omega
    · simp; omega
    · simp
  have base0 : Hid ((w5.alloc (.cells #[.int .u8 y.d, .string y.p, .string y.p2, .int .i64 y.fd, .int .i64 y.pg, .int .u32 y.sz, .string y.da] 24)).cell? ⟨w.heap.size, 0, none⟩ = some (.int .u8 x.d) ∧ (w5.alloc (.cells #[.int .u8 y.d, .string y.p, .string y.p2, .int .i64 y.fd, .int .i64 y.pg, .int .u32 y.sz, .string y.da] 24)).cell? ⟨w.heap.size, 1, none⟩ = some (.string x.p) ∧ (w5.alloc (.cells #[.int .u8 y.d, .string y.p, .string y.p2, .int .i64 y.fd, .int .i64 y.pg, .int .u32 y.sz, .string y.da] 24)).cell? ⟨w.heap.size, 2, none⟩ = some (.string x.p2) ∧ (w5.alloc (.cells #[.int .u8 y.d, .string y.p, .string y.p2, .int .i64 y.fd, .int .i64 y.pg, .int .u32 y.sz, .string y.da] 24)).cell? ⟨w.heap.size, 3, none⟩ = some (.int .i64 x.fd) ∧ (w5.alloc (.cells #[.int .u8 y.d, .string y.p, .string y.p2, .int .i64 y.fd, .int .i64 y.pg, .int .u32 y.sz, .string y.da] 24)).cell? ⟨w.heap.size, 4, none⟩ = some (.int .i64 x.pg) ∧ (w5.alloc (.cells #[.int .u8 y.d, .string y.p, .string y.p2, .int .i64 y.fd, .int .i64 y.pg, .int .u32 y.sz, .string y.da] 24)).cell? ⟨w.heap.size, 5, none⟩ = some (.int .u32 x.sz) ∧ (w5.alloc (.cells #[.int .u8 y.d, .string y.p, .string y.p2, .int .i64 y.fd, .int .i64 y.pg, .int .u32 y.sz, .string y.da] 24)).cell? ⟨w.heap.size, 6, none⟩ = some (.string x.da) ∧ (w5.alloc (.cells #[.int .u8 y.d, .string y.p, .string y.p2, .int .i64 y.fd, .int .i64 y.pg, .int .u32 y.sz, .string y.da] 24)).cell? ⟨b1, 0, none⟩ = some (.int .u8 y.d) ∧ (w5.alloc (.cells #[.int .u8 y.d, .string y.p, .string y.p2, .int .i64 y.fd, .int .i64 y.pg, .int .u32 y.sz, .string y.da] 24)).cell? ⟨b1, 1, none⟩ = some (.string y.p) ∧ (w5.alloc (.cells #[.int .u8 y.d, .string y.p, .string y.p2, .int .i64 y.fd, .int .i64 y.pg, .int .u32 y.sz, .string y.da] 24)).cell? ⟨b1, 2, none⟩ = some (.string y.p2) ∧ (w5.alloc (.cells #[.int .u8 y.d, .string y.p, .string y.p2, .int .i64 y.fd, .int .i64 y.pg, .int .u32 y.sz, .string y.da] 24)).cell? ⟨b1, 3, none⟩ = some (.int .i64 y.fd) ∧ (w5.alloc (.cells #[.int .u8 y.d, .string y.p, .string y.p2, .int .i64 y.fd, .int .i64 y.pg, .int .u32 y.sz, .string y.da] 24)).cell? ⟨b1, 4, none⟩ = some (.int .i64 y.pg) ∧ (w5.alloc (.cells #[.int .u8 y.d, .string y.p, .string y.p2, .int .i64 y.fd, .int .i64 y.pg, .int .u32 y.sz, .string y.da] 24)).cell? ⟨b1, 5, none⟩ = some (.int .u32 y.sz) ∧ (w5.alloc (.cells #[.int .u8 y.d, .string y.p, .string y.p2, .int .i64 y.fd, .int .i64 y.pg, .int .u32 y.sz, .string y.da] 24)).cell? ⟨b1, 6, none⟩ = some (.string y.da) ∧ (w5.alloc (.cells #[.int .u8 y.d, .string y.p, .string y.p2, .int .i64 y.fd, .int .i64 y.pg, .int .u32 y.sz, .string y.da] 24)).cell? ⟨w5.heap.size, 0, none⟩ = some (.int .u8 y.d) ∧ (w5.alloc (.cells #[.int .u8 y.d, .string y.p, .string y.p2, .int .i64 y.fd, .int .i64 y.pg, .int .u32 y.sz, .string y.da] 24)).cell? ⟨w5.heap.size, 1, none⟩ = some (.string y.p) ∧ (w5.alloc (.cells #[.int .u8 y.d, .string y.p, .string y.p2, .int .i64 y.fd, .int .i64 y.pg, .int .u32 y.sz, .string y.da] 24)).cell? ⟨w5.heap.size, 2, none⟩ = some (.string y.p2) ∧ (w5.alloc (.cells #[.int .u8 y.d, .string y.p, .string y.p2, .int .i64 y.fd, .int .i64 y.pg, .int .u32 y.sz, .string y.da] 24)).cell? ⟨w5.heap.size, 3, none⟩ = some (.int .i64 y.fd) ∧ (w5.alloc (.cells #[.int .u8 y.d, .string y.p, .string y.p2, .int .i64 y.fd, .int .i64 y.pg, .int .u32 y.sz, .string y.da] 24)).cell? ⟨w5.heap.size, 4, none⟩ = some (.int .i64 y.pg) ∧ (w5.alloc (.cells #[.int .u8 y.d, .string y.p, .string y.p2, .int .i64 y.fd, .int .i64 y.pg, .int .u32 y.sz, .string y.da] 24)).cell? ⟨w5.heap.size, 5, none⟩ = some (.int .u32 y.sz) ∧ (w5.alloc (.cells #[.int .u8 y.d, .string y.p, .string y.p2, .int .i64 y.fd, .int .i64 y.pg, .int .u32 y.sz, .string y.da] 24)).cell? ⟨w5.heap.size, 6, none⟩ = some (.string y.da) ∧ TR w (w5.alloc (.cells #[.int .u8 y.d, .string y.p, .string y.p2, .int .i64 y.fd, .int .i64 y.pg, .int .u32 y.sz, .string y.da] 24)) b1 w5.heap.size) := by
    refine Lib.hid (baseT (hX5.alloc _) ?_ (box_x y w5) ⟨HK.out.later (bb5.alloc bb5.size _), ?_, ?_, ?_, bb5.alloc bb5.size _⟩)
    · rw [← hb1]; exact hY5.alloc _
    · simp; omega
    · simp; omega
    · simp
  rw [hb1]
  clear hX5 hY5 hlt5 hlt6 bb5 bb4 hlt4
  obtain ⟨b2, hb2⟩ : ∃ b, w5.heap.size = b := ⟨_, rfl⟩
  obtain ⟨w6, hw6⟩ : ∃ W, w5.alloc (.cells #[.int .u8 y.d, .string y.p, .string y.p2, .int .i64 y.fd, .int .i64 y.pg, .int .u32 y.sz, .string y.da] 24) = W := ⟨_, rfl⟩
  rw [hw6, hb2] at base base0
  rw [hw6, hb2]
  clear hw6 hb2 hb1
  go_region_held3 (fun W => W.cell? ⟨w.heap.size, 0, none⟩ = some (.int .u8 x.d) ∧ W.cell? ⟨w.heap.size, 1, none⟩ = some (.string x.p) ∧ W.cell? ⟨w.heap.size, 2, none⟩ = some (.string x.p2) ∧ W.cell? ⟨w.heap.size, 3, none⟩ = some (.int .i64 x.fd) ∧ W.cell? ⟨w.heap.size, 4, none⟩ = some (.int .i64 x.pg) ∧ W.cell? ⟨w.heap.size, 5, none⟩ = some (.int .u32 x.sz) ∧ W.cell? ⟨w.heap.size, 6, none⟩ = some (.string x.da) ∧ W.cell? ⟨b1, 0, none⟩ = some (.int .u8 y.d) ∧ W.cell? ⟨b1, 1, none⟩ = some (.string y.p) ∧ W.cell? ⟨b1, 2, none⟩ = some (.string y.p2) ∧ W.cell? ⟨b1, 3, none⟩ = some (.int .i64 y.fd) ∧ W.cell? ⟨b1, 4, none⟩ = some (.int .i64 y.pg) ∧ W.cell? ⟨b1, 5, none⟩ = some (.int .u32 y.sz) ∧ W.cell? ⟨b1, 6, none⟩ = some (.string y.da) ∧ W.cell? ⟨b2, 0, none⟩ = some (.int .u8 y.d) ∧ W.cell? ⟨b2, 1, none⟩ = some (.string y.p) ∧ W.cell? ⟨b2, 2, none⟩ = some (.string y.p2) ∧ W.cell? ⟨b2, 3, none⟩ = some (.int .i64 y.fd) ∧ W.cell? ⟨b2, 4, none⟩ = some (.int .i64 y.pg) ∧ W.cell? ⟨b2, 5, none⟩ = some (.int .u32 y.sz) ∧ W.cell? ⟨b2, 6, none⟩ = some (.string y.da) ∧ TR w W b1 b2)
    (first | exact base.out | exact base0.out | exact keepT (by assumption) b8 | exact keepT (by assumption) b9 | exact keepT (by assumption) (below_drew _ _) | (go_keep; done))
    (first | (go_at_call 10; refine (CX.out _ (tsT (by assumption)).k).mono ?_; rintro e w8 ⟨rfl, b8⟩) | (go_at_call 14; refine (CH.out _).mono ?_; rintro e w7 ⟨rfl, rfl⟩) | (go_at_call 15; refine (RCH.out _).mono ?_; rintro e w7 ⟨rfl, rfl⟩) | (go_at_call 16; refine (WD.out _ (tsT (by assumption)).k).mono ?_; rintro e w7 ⟨rfl, rfl⟩) | (go_at_call 17; refine (RWD.out _).mono ?_; rintro e w9 ⟨rfl, b9⟩))
  rename_i hS
  have HT := tsT hS
  clear hS base base0 CX CH RCH WD RWD
  go_wp2_with fail
  refine (alive20 _ HT.k).mono ?_
  rintro e w11 ⟨rfl, b11⟩
  go_wp2
  go_ret
  exact ⟨rfl, HT.bel.trans (b11.mono (Nat.le_of_lt HT.l0))⟩
set_option maxRecDepth 100000 in
set_option maxHeartbeats 8000000 in
theorem tells_yes (x : C) (s : ByteArray) (w : World) (hk : Kinds w) (hd : x.d < 256) (h1 : x.p.size ≤ 140737488351232) (h2 : x.p2.size ≤ 140737488351232) (h3 : x.da.size ≤ 140737488351232) (hs : s.size ≤ 140737488351232) (hl : x.p.size + x.p2.size + x.da.size ≤ 2048) (hc : s.size ≤ 4096) (hx : x.checkE = 0) : Calls Tryd.prog 5 #[.agg #[.int .u8 x.d, .string x.p, .string x.p2, .int .i64 x.fd, .int .i64 x.pg, .int .u32 x.sz, .string x.da], .string s] w fun e w' => e = .returned (.bool true) ∧ Below w.heap.size w w' := by
  have HK := Lib.hid hk
  have LG := Lib.hid (fun W => long_no x W h1 h2 h3 hl)
  have t1 : decide ((4096 : Int) < (s.size : Int)) = false := by simp; omega
  have t2 : decide (4096 < s.size) = false := by simp; omega
  have hsm : s.size ≤ maxLen := by unfold maxLen; omega
  have PX := Lib.hid (fun W k => put_yes x W k hd (by unfold maxLen; omega) (by unfold maxLen; omega) (by unfold maxLen; omega) hx)
  have CX := Lib.hid (fun W k => check_any x W k hd (by unfold maxLen; omega) (by unfold maxLen; omega) (by unfold maxLen; omega))
  have RX := Lib.hid (fun W => rcheck_any x W hd (by unfold maxLen; omega) (by unfold maxLen; omega) (by unfold maxLen; omega))
  have GS := Lib.hid (fun W k => get_any s W k hsm)
  have RG := Lib.hid (fun W => rget_any s W hc)
  have CH := Lib.hid (fun W => changes_any x.d W hd)
  have RCH := Lib.hid (fun W => rchanges_any x.d W hd)
  have WD := Lib.hid (fun W k => word_any x.d W k hd)
  have RWD := Lib.hid (fun W => rword_any x.d W hd)
  obtain ⟨y, r, g, hg⟩ := getV_form (L s)
  rw [hg] at GS RG
  rw [show x.cells = #[.int .u8 x.d, .string x.p, .string x.p2, .int .i64 x.fd, .int .i64 x.pg, .int .u32 x.sz, .string x.da] from rfl] at PX CX
  have RP := Lib.hid (fun W => rput_any x W hx)
  rw [hx] at CX RX
  generalize B x.bytes = xb at *
  generalize changes x.d = ch at *
  generalize B (wordN x.d) = wd at *
  clear hk hl hx hg hsm
  go_enter Tryd.func5, Tryd.ntmps5
  try simp only [List.append_eq, List.cons_append, List.nil_append]
  go_wp2_with fail
  refine (LG.out _).mono ?_
  rintro e w1 ⟨rfl, b1⟩
  have bb : Below w.heap.size w w1 := ((Below.refl _ w).alloc (Nat.le_refl _) _).trans (b1.mono (by simp))
  have hB : Box w1 w.heap.size x := (box_x x w).below (by simp) b1
  have hlt := hB.lt
  have c0 := hB.c0
  have c1 := hB.c1
  have c2 := hB.c2
  have c3 := hB.c3
  have c4 := hB.c4
  have c5 := hB.c5
  have c6 := hB.c6
  clear b1 LG
  go_wp2_with fail
  refine (RX.out _).mono ?_
  rintro e w2 ⟨rfl, b2⟩
  have bb2 : Below w.heap.size w w2 := bb.trans (b2.mono bb.size)
  have hB2 : Box w2 w.heap.size x := hB.below hlt b2
  have hlt2 := hB2.lt
  clear hB c0 c1 c2 c3 c4 c5 c6
  have c0 := hB2.c0
  have c1 := hB2.c1
  have c2 := hB2.c2
  have c3 := hB2.c3
  have c4 := hB2.c4
  have c5 := hB2.c5
  have c6 := hB2.c6
  clear b2 bb hlt RX
  go_wp2_with fail
  refine (PX.out _ (HK.out.later bb2)).mono ?_
  rintro e w3 ⟨rfl, b3⟩
  have bb3 : Below w.heap.size w w3 := bb2.trans (b3.mono bb2.size)
  have hB3 : Box w3 w.heap.size x := hB2.below hlt2 b3
  have hlt3 := hB3.lt
  clear b3 bb2 hB2 c0 c1 c2 c3 c4 c5 c6 PX hlt2
  go_wp2_with fail
  refine (GS.out _ (HK.out.later bb3)).mono ?_
  rintro e w4 ⟨rfl, b4⟩
  have bb4 : Below w.heap.size w w4 := bb3.trans (b4.mono bb3.size)
  have hB4 : Box w4 w.heap.size x := hB3.below hlt3 b4
  have hlt4 := hB4.lt
  clear b4 bb3 hB3 GS hlt3
  go_wp2_with fail
  refine (RG.out _).mono ?_
  rintro e w5 ⟨rfl, b5⟩
  have hY5 : Box w5 w4.heap.size y := (box_x y w4).below (by simp) b5
  have hX5 : Box w5 w.heap.size x := (hB4.alloc _).below (by simp; omega) b5
  have hlt5 := hX5.lt
  have hlt6 := hY5.lt
  have bb5 : Below w.heap.size w w5 := (bb4.alloc (Nat.le_of_lt hlt4) _).trans (b5.mono (by simp; omega))
  clear b5 hB4 RG
  go_upto_region 7 with (fail)
  obtain ⟨b1, hb1⟩ : ∃ b, w4.heap.size = b := ⟨_, rfl⟩
  have base : Hid ((w5.alloc (.cells #[.int .u8 y.d, .string y.p, .string y.p2, .int .i64 y.fd, .int .i64 y.pg, .int .u32 y.sz, .string y.da] 24)).drew.cell? ⟨w.heap.size, 0, none⟩ = some (.int .u8 x.d) ∧ (w5.alloc (.cells #[.int .u8 y.d, .string y.p, .string y.p2, .int .i64 y.fd, .int .i64 y.pg, .int .u32 y.sz, .string y.da] 24)).drew.cell? ⟨w.heap.size, 1, none⟩ = some (.string x.p) ∧ (w5.alloc (.cells #[.int .u8 y.d, .string y.p, .string y.p2, .int .i64 y.fd, .int .i64 y.pg, .int .u32 y.sz, .string y.da] 24)).drew.cell? ⟨w.heap.size, 2, none⟩ = some (.string x.p2) ∧ (w5.alloc (.cells #[.int .u8 y.d, .string y.p, .string y.p2, .int .i64 y.fd, .int .i64 y.pg, .int .u32 y.sz, .string y.da] 24)).drew.cell? ⟨w.heap.size, 3, none⟩ = some (.int .i64 x.fd) ∧ (w5.alloc (.cells #[.int .u8 y.d, .string y.p, .string y.p2, .int .i64 y.fd, .int .i64 y.pg, .int .u32 y.sz, .string y.da] 24)).drew.cell? ⟨w.heap.size, 4, none⟩ = some (.int .i64 x.pg) ∧ (w5.alloc (.cells #[.int .u8 y.d, .string y.p, .string y.p2, .int .i64 y.fd, .int .i64 y.pg, .int .u32 y.sz, .string y.da] 24)).drew.cell? ⟨w.heap.size, 5, none⟩ = some (.int .u32 x.sz) ∧ (w5.alloc (.cells #[.int .u8 y.d, .string y.p, .string y.p2, .int .i64 y.fd, .int .i64 y.pg, .int .u32 y.sz, .string y.da] 24)).drew.cell? ⟨w.heap.size, 6, none⟩ = some (.string x.da) ∧ (w5.alloc (.cells #[.int .u8 y.d, .string y.p, .string y.p2, .int .i64 y.fd, .int .i64 y.pg, .int .u32 y.sz, .string y.da] 24)).drew.cell? ⟨b1, 0, none⟩ = some (.int .u8 y.d) ∧ (w5.alloc (.cells #[.int .u8 y.d, .string y.p, .string y.p2, .int .i64 y.fd, .int .i64 y.pg, .int .u32 y.sz, .string y.da] 24)).drew.cell? ⟨b1, 1, none⟩ = some (.string y.p) ∧ (w5.alloc (.cells #[.int .u8 y.d, .string y.p, .string y.p2, .int .i64 y.fd, .int .i64 y.pg, .int .u32 y.sz, .string y.da] 24)).drew.cell? ⟨b1, 2, none⟩ = some (.string y.p2) ∧ (w5.alloc (.cells #[.int .u8 y.d, .string y.p, .string y.p2, .int .i64 y.fd, .int .i64 y.pg, .int .u32 y.sz, .string y.da] 24)).drew.cell? ⟨b1, 3, none⟩ = some (.int .i64 y.fd) ∧ (w5.alloc (.cells #[.int .u8 y.d, .string y.p, .string y.p2, .int .i64 y.fd, .int .i64 y.pg, .int .u32 y.sz, .string y.da] 24)).drew.cell? ⟨b1, 4, none⟩ = some (.int .i64 y.pg) ∧ (w5.alloc (.cells #[.int .u8 y.d, .string y.p, .string y.p2, .int .i64 y.fd, .int .i64 y.pg, .int .u32 y.sz, .string y.da] 24)).drew.cell? ⟨b1, 5, none⟩ = some (.int .u32 y.sz) ∧ (w5.alloc (.cells #[.int .u8 y.d, .string y.p, .string y.p2, .int .i64 y.fd, .int .i64 y.pg, .int .u32 y.sz, .string y.da] 24)).drew.cell? ⟨b1, 6, none⟩ = some (.string y.da) ∧ (w5.alloc (.cells #[.int .u8 y.d, .string y.p, .string y.p2, .int .i64 y.fd, .int .i64 y.pg, .int .u32 y.sz, .string y.da] 24)).drew.cell? ⟨w5.heap.size, 0, none⟩ = some (.int .u8 y.d) ∧ (w5.alloc (.cells #[.int .u8 y.d, .string y.p, .string y.p2, .int .i64 y.fd, .int .i64 y.pg, .int .u32 y.sz, .string y.da] 24)).drew.cell? ⟨w5.heap.size, 1, none⟩ = some (.string y.p) ∧ (w5.alloc (.cells #[.int .u8 y.d, .string y.p, .string y.p2, .int .i64 y.fd, .int .i64 y.pg, .int .u32 y.sz, .string y.da] 24)).drew.cell? ⟨w5.heap.size, 2, none⟩ = some (.string y.p2) ∧ (w5.alloc (.cells #[.int .u8 y.d, .string y.p, .string y.p2, .int .i64 y.fd, .int .i64 y.pg, .int .u32 y.sz, .string y.da] 24)).drew.cell? ⟨w5.heap.size, 3, none⟩ = some (.int .i64 y.fd) ∧ (w5.alloc (.cells #[.int .u8 y.d, .string y.p, .string y.p2, .int .i64 y.fd, .int .i64 y.pg, .int .u32 y.sz, .string y.da] 24)).drew.cell? ⟨w5.heap.size, 4, none⟩ = some (.int .i64 y.pg) ∧ (w5.alloc (.cells #[.int .u8 y.d, .string y.p, .string y.p2, .int .i64 y.fd, .int .i64 y.pg, .int .u32 y.sz, .string y.da] 24)).drew.cell? ⟨w5.heap.size, 5, none⟩ = some (.int .u32 y.sz) ∧ (w5.alloc (.cells #[.int .u8 y.d, .string y.p, .string y.p2, .int .i64 y.fd, .int .i64 y.pg, .int .u32 y.sz, .string y.da] 24)).drew.cell? ⟨w5.heap.size, 6, none⟩ = some (.string y.da) ∧ TR w (w5.alloc (.cells #[.int .u8 y.d, .string y.p, .string y.p2, .int .i64 y.fd, .int .i64 y.pg, .int .u32 y.sz, .string y.da] 24)).drew b1 w5.heap.size) := by
    refine Lib.hid (keepT (W := w5.alloc (.cells #[.int .u8 y.d, .string y.p, .string y.p2, .int .i64 y.fd, .int .i64 y.pg, .int .u32 y.sz, .string y.da] 24)) (baseT (hX5.alloc _) ?_ (box_x y w5) ⟨HK.out.later (bb5.alloc bb5.size _), ?_, ?_, ?_, bb5.alloc bb5.size _⟩) (below_drew _ _))
    · rw [← hb1]; exact hY5.alloc _
    · simp; omega
    · simp; omega
    · simp
  have base0 : Hid ((w5.alloc (.cells #[.int .u8 y.d, .string y.p, .string y.p2, .int .i64 y.fd, .int .i64 y.pg, .int .u32 y.sz, .string y.da] 24)).cell? ⟨w.heap.size, 0, none⟩ = some (.int .u8 x.d) ∧ (w5.alloc (.cells #[.int .u8 y.d, .string y.p, .string y.p2, .int .i64 y.fd, .int .i64 y.pg, .int .u32 y.sz, .string y.da] 24)).cell? ⟨w.heap.size, 1, none⟩ = some (.string x.p) ∧ (w5.alloc (.cells #[.int .u8 y.d, .string y.p, .string y.p2, .int .i64 y.fd, .int .i64 y.pg, .int .u32 y.sz, .string y.da] 24)).cell? ⟨w.heap.size, 2, none⟩ = some (.string x.p2) ∧ (w5.alloc (.cells #[.int .u8 y.d, .string y.p, .string y.p2, .int .i64 y.fd, .int .i64 y.pg, .int .u32 y.sz, .string y.da] 24)).cell? ⟨w.heap.size, 3, none⟩ = some (.int .i64 x.fd) ∧ (w5.alloc (.cells #[.int .u8 y.d, .string y.p, .string y.p2, .int .i64 y.fd, .int .i64 y.pg, .int .u32 y.sz, .string y.da] 24)).cell? ⟨w.heap.size, 4, none⟩ = some (.int .i64 x.pg) ∧ (w5.alloc (.cells #[.int .u8 y.d, .string y.p, .string y.p2, .int .i64 y.fd, .int .i64 y.pg, .int .u32 y.sz, .string y.da] 24)).cell? ⟨w.heap.size, 5, none⟩ = some (.int .u32 x.sz) ∧ (w5.alloc (.cells #[.int .u8 y.d, .string y.p, .string y.p2, .int .i64 y.fd, .int .i64 y.pg, .int .u32 y.sz, .string y.da] 24)).cell? ⟨w.heap.size, 6, none⟩ = some (.string x.da) ∧ (w5.alloc (.cells #[.int .u8 y.d, .string y.p, .string y.p2, .int .i64 y.fd, .int .i64 y.pg, .int .u32 y.sz, .string y.da] 24)).cell? ⟨b1, 0, none⟩ = some (.int .u8 y.d) ∧ (w5.alloc (.cells #[.int .u8 y.d, .string y.p, .string y.p2, .int .i64 y.fd, .int .i64 y.pg, .int .u32 y.sz, .string y.da] 24)).cell? ⟨b1, 1, none⟩ = some (.string y.p) ∧ (w5.alloc (.cells #[.int .u8 y.d, .string y.p, .string y.p2, .int .i64 y.fd, .int .i64 y.pg, .int .u32 y.sz, .string y.da] 24)).cell? ⟨b1, 2, none⟩ = some (.string y.p2) ∧ (w5.alloc (.cells #[.int .u8 y.d, .string y.p, .string y.p2, .int .i64 y.fd, .int .i64 y.pg, .int .u32 y.sz, .string y.da] 24)).cell? ⟨b1, 3, none⟩ = some (.int .i64 y.fd) ∧ (w5.alloc (.cells #[.int .u8 y.d, .string y.p, .string y.p2, .int .i64 y.fd, .int .i64 y.pg, .int .u32 y.sz, .string y.da] 24)).cell? ⟨b1, 4, none⟩ = some (.int .i64 y.pg) ∧ (w5.alloc (.cells #[.int .u8 y.d, .string y.p, .string y.p2, .int .i64 y.fd, .int .i64 y.pg, .int .u32 y.sz, .string y.da] 24)).cell? ⟨b1, 5, none⟩ = some (.int .u32 y.sz) ∧ (w5.alloc (.cells #[.int .u8 y.d, .string y.p, .string y.p2, .int .i64 y.fd, .int .i64 y.pg, .int .u32 y.sz, .string y.da] 24)).cell? ⟨b1, 6, none⟩ = some (.string y.da) ∧ (w5.alloc (.cells #[.int .u8 y.d, .string y.p, .string y.p2, .int .i64 y.fd, .int .i64 y.pg, .int .u32 y.sz, .string y.da] 24)).cell? ⟨w5.heap.size, 0, none⟩ = some (.int .u8 y.d) ∧ (w5.alloc (.cells #[.int .u8 y.d, .string y.p, .string y.p2, .int .i64 y.fd, .int .i64 y.pg, .int .u32 y.sz, .string y.da] 24)).cell? ⟨w5.heap.size, 1, none⟩ = some (.string y.p) ∧ (w5.alloc (.cells #[.int .u8 y.d, .string y.p, .string y.p2, .int .i64 y.fd, .int .i64 y.pg, .int .u32 y.sz, .string y.da] 24)).cell? ⟨w5.heap.size, 2, none⟩ = some (.string y.p2) ∧ (w5.alloc (.cells #[.int .u8 y.d, .string y.p, .string y.p2, .int .i64 y.fd, .int .i64 y.pg, .int .u32 y.sz, .string y.da] 24)).cell? ⟨w5.heap.size, 3, none⟩ = some (.int .i64 y.fd) ∧ (w5.alloc (.cells #[.int .u8 y.d, .string y.p, .string y.p2, .int .i64 y.fd, .int .i64 y.pg, .int .u32 y.sz, .string y.da] 24)).cell? ⟨w5.heap.size, 4, none⟩ = some (.int .i64 y.pg) ∧ (w5.alloc (.cells #[.int .u8 y.d, .string y.p, .string y.p2, .int .i64 y.fd, .int .i64 y.pg, .int .u32 y.sz, .string y.da] 24)).cell? ⟨w5.heap.size, 5, none⟩ = some (.int .u32 y.sz) ∧ (w5.alloc (.cells #[.int .u8 y.d, .string y.p, .string y.p2, .int .i64 y.fd, .int .i64 y.pg, .int .u32 y.sz, .string y.da] 24)).cell? ⟨w5.heap.size, 6, none⟩ = some (.string y.da) ∧ TR w (w5.alloc (.cells #[.int .u8 y.d, .string y.p, .string y.p2, .int .i64 y.fd, .int .i64 y.pg, .int .u32 y.sz, .string y.da] 24)) b1 w5.heap.size) := by
    refine Lib.hid (baseT (hX5.alloc _) ?_ (box_x y w5) ⟨HK.out.later (bb5.alloc bb5.size _), ?_, ?_, ?_, bb5.alloc bb5.size _⟩)
    · rw [← hb1]; exact hY5.alloc _
    · simp; omega
    · simp; omega
    · simp
  rw [hb1]
  clear hX5 hY5 hlt5 hlt6 bb5 bb4 hlt4
  obtain ⟨b2, hb2⟩ : ∃ b, w5.heap.size = b := ⟨_, rfl⟩
  obtain ⟨w6, hw6⟩ : ∃ W, w5.alloc (.cells #[.int .u8 y.d, .string y.p, .string y.p2, .int .i64 y.fd, .int .i64 y.pg, .int .u32 y.sz, .string y.da] 24) = W := ⟨_, rfl⟩
  rw [hw6, hb2] at base base0
  rw [hw6, hb2]
  clear hw6 hb2 hb1
  go_region_held3 (fun W => W.cell? ⟨w.heap.size, 0, none⟩ = some (.int .u8 x.d) ∧ W.cell? ⟨w.heap.size, 1, none⟩ = some (.string x.p) ∧ W.cell? ⟨w.heap.size, 2, none⟩ = some (.string x.p2) ∧ W.cell? ⟨w.heap.size, 3, none⟩ = some (.int .i64 x.fd) ∧ W.cell? ⟨w.heap.size, 4, none⟩ = some (.int .i64 x.pg) ∧ W.cell? ⟨w.heap.size, 5, none⟩ = some (.int .u32 x.sz) ∧ W.cell? ⟨w.heap.size, 6, none⟩ = some (.string x.da) ∧ W.cell? ⟨b1, 0, none⟩ = some (.int .u8 y.d) ∧ W.cell? ⟨b1, 1, none⟩ = some (.string y.p) ∧ W.cell? ⟨b1, 2, none⟩ = some (.string y.p2) ∧ W.cell? ⟨b1, 3, none⟩ = some (.int .i64 y.fd) ∧ W.cell? ⟨b1, 4, none⟩ = some (.int .i64 y.pg) ∧ W.cell? ⟨b1, 5, none⟩ = some (.int .u32 y.sz) ∧ W.cell? ⟨b1, 6, none⟩ = some (.string y.da) ∧ W.cell? ⟨b2, 0, none⟩ = some (.int .u8 y.d) ∧ W.cell? ⟨b2, 1, none⟩ = some (.string y.p) ∧ W.cell? ⟨b2, 2, none⟩ = some (.string y.p2) ∧ W.cell? ⟨b2, 3, none⟩ = some (.int .i64 y.fd) ∧ W.cell? ⟨b2, 4, none⟩ = some (.int .i64 y.pg) ∧ W.cell? ⟨b2, 5, none⟩ = some (.int .u32 y.sz) ∧ W.cell? ⟨b2, 6, none⟩ = some (.string y.da) ∧ TR w W b1 b2)
    (first | exact base.out | exact base0.out | exact keepT (by assumption) b8 | exact keepT (by assumption) b9 | exact keepT (by assumption) (below_drew _ _) | (go_keep; done))
    (first | (go_at_call 10; refine (CX.out _ (tsT (by assumption)).k).mono ?_; rintro e w8 ⟨rfl, b8⟩) | (go_at_call 14; refine (CH.out _).mono ?_; rintro e w7 ⟨rfl, rfl⟩) | (go_at_call 15; refine (RCH.out _).mono ?_; rintro e w7 ⟨rfl, rfl⟩) | (go_at_call 16; refine (WD.out _ (tsT (by assumption)).k).mono ?_; rintro e w7 ⟨rfl, rfl⟩) | (go_at_call 17; refine (RWD.out _).mono ?_; rintro e w9 ⟨rfl, b9⟩))
  rename_i hS
  have HT := tsT hS
  obtain ⟨c0, c1, c2, c3, c4, c5, c6, _⟩ := hS
  go_wp2_with fail
  refine (RP.out _).mono ?_
  rintro e w10 ⟨rfl, b10⟩
  have HT2 := HT.later b10
  go_wp2_with fail
  refine (alive20 _ HT2.k).mono ?_
  rintro e w11 ⟨rfl, b11⟩
  go_wp2
  go_ret
  exact ⟨rfl, HT2.bel.trans (b11.mono (Nat.le_of_lt HT2.l0))⟩
theorem tells_walk (x : C) (s : ByteArray) (w : World) (hk : Kinds w) (hd : x.d < 256) (h1 : x.p.size ≤ 140737488351232) (h2 : x.p2.size ≤ 140737488351232) (h3 : x.da.size ≤ 140737488351232) (hs : s.size ≤ 140737488351232) : Calls Tryd.prog 5 #[.agg #[.int .u8 x.d, .string x.p, .string x.p2, .int .i64 x.fd, .int .i64 x.pg, .int .u32 x.sz, .string x.da], .string s] w fun e w' => e = .returned (.bool true) ∧ Below w.heap.size w w' := by
  by_cases hl : x.p.size + x.p2.size + x.da.size ≤ 2048
  · by_cases hc : s.size ≤ 4096
    · by_cases hx : x.checkE = 0
      · exact tells_yes x s w hk hd h1 h2 h3 hs hl hc hx
      · exact tells_no x s w hk hd h1 h2 h3 hs hl hc hx
    · exact tells_much x s w hk hd h1 h2 h3 hs hl (by omega)
  · exact tells_long x s w hk hd h1 h2 h3 hs (by omega)
end Go.Proofs.YtfdclifdemajfaaDoor.Call
