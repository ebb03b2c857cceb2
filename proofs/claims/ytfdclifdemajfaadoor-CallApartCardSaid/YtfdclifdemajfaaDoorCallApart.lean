/- The law CallApart: no call's bytes are the beginning of another one's. The walk. -/
import Derived.Test.YtfdclifdemajfaaDoorCallBack
import Derived.Outline
namespace Go.Proofs.YtfdclifdemajfaaDoor.Call
set_option linter.unusedVariables false
set_option linter.unusedSimpArgs false
open Go.RowKit Oct Path
/-- What Put's text is. -/
def C.text (x : C) : ByteArray := if x.checkE = 0 then B x.bytes else ⟨#[]⟩
theorem put_any (x : C) (w : World) (hk : Kinds w) (hd : x.d < 256) (hp : x.p.size ≤ maxLen) (hp2 : x.p2.size ≤ maxLen) (hda : x.da.size ≤ maxLen) :
    Calls Tryd.prog 9 #[.agg #[.int .u8 x.d, .string x.p, .string x.p2, .int .i64 x.fd, .int .i64 x.pg, .int .u32 x.sz, .string x.da]] w fun e w' => e = .returned (.tuple #[.string x.text, .int .i64 x.checkE]) ∧ Below w.heap.size w w' := by
  by_cases h : x.checkE = 0
  · have := put_yes x w hk hd hp hp2 hda h
    unfold C.text
    rw [if_pos h, h]
    exact this
  · have := put_no x w hk hd hp hp2 hda h
    unfold C.text
    rw [if_neg h]
    exact this
theorem text_yes {x : C} (h : x.checkE = 0) : x.text = B x.bytes := by unfold C.text; rw [if_pos h]

set_option maxRecDepth 100000 in
set_option maxHeartbeats 2000000 in
theorem apart_long (x y : C) (cut : Nat) (w : World) (hk : Kinds w) (hd : x.d < 256) (h1 : x.p.size ≤ 140737488351232) (h2 : x.p2.size ≤ 140737488351232) (h3 : x.da.size ≤ 140737488351232) (hdy : y.d < 256) (k1 : y.p.size ≤ 140737488351232) (k2 : y.p2.size ≤ 140737488351232) (k3 : y.da.size ≤ 140737488351232) (hcut : cut < 65536) (hl : 2048 < x.p.size + x.p2.size + x.da.size) : Calls Tryd.prog 4 #[.agg #[.int .u8 x.d, .string x.p, .string x.p2, .int .i64 x.fd, .int .i64 x.pg, .int .u32 x.sz, .string x.da], .agg #[.int .u8 y.d, .string y.p, .string y.p2, .int .i64 y.fd, .int .i64 y.pg, .int .u32 y.sz, .string y.da], .int .u16 cut] w fun e w' => e = .returned (.bool true) ∧ Below w.heap.size w w' := by
  have HK := Lib.hid hk
  have LX := Lib.hid (fun W => long_yes x W h1 h2 h3 hl)
  clear hl
  clear hk
  go_enter Tryd.func4, Tryd.ntmps4
  go_wp2_with fail
  refine (LX.out _).mono ?_
  rintro e w1 ⟨rfl, b1⟩
  have bb : Below w.heap.size w w1 := (((Below.refl _ w).alloc (Nat.le_refl _) _).alloc (by simp) _).trans (b1.mono (by simp; omega))
  go_wp2_with fail
  refine (alive20 _ (HK.out.later bb)).mono ?_
  rintro e wz ⟨rfl, bz⟩
  go_wp2
  go_ret
  exact ⟨rfl, bb.trans (bz.mono bb.size)⟩

set_option maxRecDepth 100000 in
set_option maxHeartbeats 2000000 in
theorem apart_long2 (x y : C) (cut : Nat) (w : World) (hk : Kinds w) (hd : x.d < 256) (h1 : x.p.size ≤ 140737488351232) (h2 : x.p2.size ≤ 140737488351232) (h3 : x.da.size ≤ 140737488351232) (hdy : y.d < 256) (k1 : y.p.size ≤ 140737488351232) (k2 : y.p2.size ≤ 140737488351232) (k3 : y.da.size ≤ 140737488351232) (hcut : cut < 65536) (hl : x.p.size + x.p2.size + x.da.size ≤ 2048) (hl2 : 2048 < y.p.size + y.p2.size + y.da.size) : Calls Tryd.prog 4 #[.agg #[.int .u8 x.d, .string x.p, .string x.p2, .int .i64 x.fd, .int .i64 x.pg, .int .u32 x.sz, .string x.da], .agg #[.int .u8 y.d, .string y.p, .string y.p2, .int .i64 y.fd, .int .i64 y.pg, .int .u32 y.sz, .string y.da], .int .u16 cut] w fun e w' => e = .returned (.bool true) ∧ Below w.heap.size w w' := by
  have HK := Lib.hid hk
  have LX := Lib.hid (fun W => long_no x W h1 h2 h3 hl)
  have LY := Lib.hid (fun W => long_yes y W k1 k2 k3 hl2)
  clear hl hl2
  clear hk
  go_enter Tryd.func4, Tryd.ntmps4
  go_wp2_with fail
  refine (LX.out _).mono ?_
  rintro e w1 ⟨rfl, b1⟩
  have bb : Below w.heap.size w w1 := (((Below.refl _ w).alloc (Nat.le_refl _) _).alloc (by simp) _).trans (b1.mono (by simp; omega))
  have hX : Box w1 w.heap.size x := ((box_new x w).alloc _).below (by simp; omega) b1
  have hY : Box w1 (w.heap.size + 1) y := by
    have := box_new y (w.alloc (.cells #[.int .u8 x.d, .string x.p, .string x.p2, .int .i64 x.fd, .int .i64 x.pg, .int .u32 x.sz, .string x.da] 24))
    rw [World.size_alloc] at this
    exact this.below (by simp) b1
  have hlx := hX.lt
  have hly := hY.lt

  have d0 := hY.c0
  have d1 := hY.c1
  have d2 := hY.c2
  have d3 := hY.c3
  have d4 := hY.c4
  have d5 := hY.c5
  have d6 := hY.c6
  clear b1
  go_wp2_with fail
  refine (LY.out _).mono ?_
  rintro e w2 ⟨rfl, b2⟩
  have bb2 : Below w.heap.size w w2 := bb.trans (b2.mono bb.size)
  clear bb d0 d1 d2 d3 d4 d5 d6
  go_wp2_with fail
  refine (alive20 _ (HK.out.later bb2)).mono ?_
  rintro e wz ⟨rfl, bz⟩
  go_wp2
  go_ret
  exact ⟨rfl, bb2.trans (bz.mono bb2.size)⟩

set_option maxRecDepth 100000 in
set_option maxHeartbeats 2000000 in
theorem apart_no (x y : C) (cut : Nat) (w : World) (hk : Kinds w) (hd : x.d < 256) (h1 : x.p.size ≤ 140737488351232) (h2 : x.p2.size ≤ 140737488351232) (h3 : x.da.size ≤ 140737488351232) (hdy : y.d < 256) (k1 : y.p.size ≤ 140737488351232) (k2 : y.p2.size ≤ 140737488351232) (k3 : y.da.size ≤ 140737488351232) (hcut : cut < 65536) (hl : x.p.size + x.p2.size + x.da.size ≤ 2048) (hl2 : y.p.size + y.p2.size + y.da.size ≤ 2048) (hx : x.checkE ≠ 0) : Calls Tryd.prog 4 #[.agg #[.int .u8 x.d, .string x.p, .string x.p2, .int .i64 x.fd, .int .i64 x.pg, .int .u32 x.sz, .string x.da], .agg #[.int .u8 y.d, .string y.p, .string y.p2, .int .i64 y.fd, .int .i64 y.pg, .int .u32 y.sz, .string y.da], .int .u16 cut] w fun e w' => e = .returned (.bool true) ∧ Below w.heap.size w w' := by
  have HK := Lib.hid hk
  have LX := Lib.hid (fun W => long_no x W h1 h2 h3 hl)
  have LY := Lib.hid (fun W => long_no y W k1 k2 k3 hl2)
  have PX := Lib.hid (fun W k => put_any x W k hd (by unfold maxLen; omega) (by unfold maxLen; omega) (by unfold maxLen; omega))
  have PY := Lib.hid (fun W k => put_any y W k hdy (by unfold maxLen; omega) (by unfold maxLen; omega) (by unfold maxLen; omega))
  have q3 : (x.checkE == 0) = false := by simpa using hx
  have q4 : (x.checkE != 0) = true := by simpa using hx
  generalize x.checkE = ce at *
  generalize x.text = tx at *
  generalize y.text = ty at *
  clear hl hl2 hx
  clear hk
  go_enter Tryd.func4, Tryd.ntmps4
  go_wp2_with fail
  refine (LX.out _).mono ?_
  rintro e w1 ⟨rfl, b1⟩
  have bb : Below w.heap.size w w1 := (((Below.refl _ w).alloc (Nat.le_refl _) _).alloc (by simp) _).trans (b1.mono (by simp; omega))
  have hX : Box w1 w.heap.size x := ((box_new x w).alloc _).below (by simp; omega) b1
  have hY : Box w1 (w.heap.size + 1) y := by
    have := box_new y (w.alloc (.cells #[.int .u8 x.d, .string x.p, .string x.p2, .int .i64 x.fd, .int .i64 x.pg, .int .u32 x.sz, .string x.da] 24))
    rw [World.size_alloc] at this
    exact this.below (by simp) b1
  have hlx := hX.lt
  have hly := hY.lt

  have d0 := hY.c0
  have d1 := hY.c1
  have d2 := hY.c2
  have d3 := hY.c3
  have d4 := hY.c4
  have d5 := hY.c5
  have d6 := hY.c6
  clear b1
  go_wp2_with fail
  refine (LY.out _).mono ?_
  rintro e w2 ⟨rfl, b2⟩
  have bb2 : Below w.heap.size w w2 := bb.trans (b2.mono bb.size)
  clear bb d0 d1 d2 d3 d4 d5 d6
  have hX2 := hX.below hlx b2
  have hY2 := hY.below hly b2
  have hlx2 := hX2.lt
  have hly2 := hY2.lt
  clear b2 hX hY hlx hly LX LY
  have c0 := hX2.c0
  have c1 := hX2.c1
  have c2 := hX2.c2
  have c3 := hX2.c3
  have c4 := hX2.c4
  have c5 := hX2.c5
  have c6 := hX2.c6
  go_wp2_with fail
  refine (PX.out _ (HK.out.later bb2)).mono ?_
  rintro e w3 ⟨rfl, b3⟩
  have bb3 : Below w.heap.size w w3 := bb2.trans (b3.mono bb2.size)
  have hX3 := hX2.below hlx2 b3
  have hY3 := hY2.below hly2 b3
  have hlx3 := hX3.lt
  have hly3 := hY3.lt
  clear b3 hX2 hY2 hlx2 hly2 bb2 c0 c1 c2 c3 c4 c5 c6
  have d0 := hY3.c0
  have d1 := hY3.c1
  have d2 := hY3.c2
  have d3 := hY3.c3
  have d4 := hY3.c4
  have d5 := hY3.c5
  have d6 := hY3.c6
  go_wp2_with fail
  refine (PY.out _ (HK.out.later bb3)).mono ?_
  rintro e w4 ⟨rfl, b4⟩
  have bb4 : Below w.heap.size w w4 := bb3.trans (b4.mono bb3.size)
  have hX4 := hX3.below hlx3 b4
  have hY4 := hY3.below hly3 b4
  have hlx4 := hX4.lt
  have hly4 := hY4.lt
  clear b4 hX3 hY3 hlx3 hly3 bb3 d0 d1 d2 d3 d4 d5 d6 PX PY
  clear hX4 hY4
  go_wp2_with fail
  refine (alive20 _ (HK.out.later bb4)).mono ?_
  rintro e wz ⟨rfl, bz⟩
  go_wp2
  go_ret
  exact ⟨rfl, bb4.trans (bz.mono bb4.size)⟩

set_option maxRecDepth 100000 in
set_option maxHeartbeats 2000000 in
theorem apart_no2 (x y : C) (cut : Nat) (w : World) (hk : Kinds w) (hd : x.d < 256) (h1 : x.p.size ≤ 140737488351232) (h2 : x.p2.size ≤ 140737488351232) (h3 : x.da.size ≤ 140737488351232) (hdy : y.d < 256) (k1 : y.p.size ≤ 140737488351232) (k2 : y.p2.size ≤ 140737488351232) (k3 : y.da.size ≤ 140737488351232) (hcut : cut < 65536) (hl : x.p.size + x.p2.size + x.da.size ≤ 2048) (hl2 : y.p.size + y.p2.size + y.da.size ≤ 2048) (hx : x.checkE = 0) (hy : y.checkE ≠ 0) : Calls Tryd.prog 4 #[.agg #[.int .u8 x.d, .string x.p, .string x.p2, .int .i64 x.fd, .int .i64 x.pg, .int .u32 x.sz, .string x.da], .agg #[.int .u8 y.d, .string y.p, .string y.p2, .int .i64 y.fd, .int .i64 y.pg, .int .u32 y.sz, .string y.da], .int .u16 cut] w fun e w' => e = .returned (.bool true) ∧ Below w.heap.size w w' := by
  have HK := Lib.hid hk
  have LX := Lib.hid (fun W => long_no x W h1 h2 h3 hl)
  have LY := Lib.hid (fun W => long_no y W k1 k2 k3 hl2)
  have PX := Lib.hid (fun W k => put_any x W k hd (by unfold maxLen; omega) (by unfold maxLen; omega) (by unfold maxLen; omega))
  have PY := Lib.hid (fun W k => put_any y W k hdy (by unfold maxLen; omega) (by unfold maxLen; omega) (by unfold maxLen; omega))
  rw [hx] at PX
  have q3 : (y.checkE == 0) = false := by simpa using hy
  have q4 : (y.checkE != 0) = true := by simpa using hy
  generalize y.checkE = cf at *
  generalize x.text = tx at *
  generalize y.text = ty at *
  clear hl hl2 hx hy
  clear hk
  go_enter Tryd.func4, Tryd.ntmps4
  go_wp2_with fail
  refine (LX.out _).mono ?_
  rintro e w1 ⟨rfl, b1⟩
  have bb : Below w.heap.size w w1 := (((Below.refl _ w).alloc (Nat.le_refl _) _).alloc (by simp) _).trans (b1.mono (by simp; omega))
  have hX : Box w1 w.heap.size x := ((box_new x w).alloc _).below (by simp; omega) b1
  have hY : Box w1 (w.heap.size + 1) y := by
    have := box_new y (w.alloc (.cells #[.int .u8 x.d, .string x.p, .string x.p2, .int .i64 x.fd, .int .i64 x.pg, .int .u32 x.sz, .string x.da] 24))
    rw [World.size_alloc] at this
    exact this.below (by simp) b1
  have hlx := hX.lt
  have hly := hY.lt

  have d0 := hY.c0
  have d1 := hY.c1
  have d2 := hY.c2
  have d3 := hY.c3
  have d4 := hY.c4
  have d5 := hY.c5
  have d6 := hY.c6
  clear b1
  go_wp2_with fail
  refine (LY.out _).mono ?_
  rintro e w2 ⟨rfl, b2⟩
  have bb2 : Below w.heap.size w w2 := bb.trans (b2.mono bb.size)
  clear bb d0 d1 d2 d3 d4 d5 d6
  have hX2 := hX.below hlx b2
  have hY2 := hY.below hly b2
  have hlx2 := hX2.lt
  have hly2 := hY2.lt
  clear b2 hX hY hlx hly LX LY
  have c0 := hX2.c0
  have c1 := hX2.c1
  have c2 := hX2.c2
  have c3 := hX2.c3
  have c4 := hX2.c4
  have c5 := hX2.c5
  have c6 := hX2.c6
  go_wp2_with fail
  refine (PX.out _ (HK.out.later bb2)).mono ?_
  rintro e w3 ⟨rfl, b3⟩
  have bb3 : Below w.heap.size w w3 := bb2.trans (b3.mono bb2.size)
  have hX3 := hX2.below hlx2 b3
  have hY3 := hY2.below hly2 b3
  have hlx3 := hX3.lt
  have hly3 := hY3.lt
  clear b3 hX2 hY2 hlx2 hly2 bb2 c0 c1 c2 c3 c4 c5 c6
  have d0 := hY3.c0
  have d1 := hY3.c1
  have d2 := hY3.c2
  have d3 := hY3.c3
  have d4 := hY3.c4
  have d5 := hY3.c5
  have d6 := hY3.c6
  go_wp2_with fail
  refine (PY.out _ (HK.out.later bb3)).mono ?_
  rintro e w4 ⟨rfl, b4⟩
  have bb4 : Below w.heap.size w w4 := bb3.trans (b4.mono bb3.size)
  have hX4 := hX3.below hlx3 b4
  have hY4 := hY3.below hly3 b4
  have hlx4 := hX4.lt
  have hly4 := hY4.lt
  clear b4 hX3 hY3 hlx3 hly3 bb3 d0 d1 d2 d3 d4 d5 d6 PX PY
  clear hX4 hY4
  go_wp2_with fail
  refine (alive20 _ (HK.out.later bb4)).mono ?_
  rintro e wz ⟨rfl, bz⟩
  go_wp2
  go_ret
  exact ⟨rfl, bb4.trans (bz.mono bb4.size)⟩

theorem cut_mod (cut n : Nat) : (cut : Int) % (n : Int) = ((cut % n : Nat) : Int) := by omega

set_option maxRecDepth 100000 in
set_option maxHeartbeats 2000000 in
theorem apart_yes (x y : C) (cut : Nat) (w : World) (hk : Kinds w) (hd : x.d < 256) (h1 : x.p.size ≤ 140737488351232) (h2 : x.p2.size ≤ 140737488351232) (h3 : x.da.size ≤ 140737488351232) (hdy : y.d < 256) (k1 : y.p.size ≤ 140737488351232) (k2 : y.p2.size ≤ 140737488351232) (k3 : y.da.size ≤ 140737488351232) (hcut : cut < 65536) (hl : x.p.size + x.p2.size + x.da.size ≤ 2048) (hl2 : y.p.size + y.p2.size + y.da.size ≤ 2048) (hx : x.checkE = 0) (hy : y.checkE = 0) : Calls Tryd.prog 4 #[.agg #[.int .u8 x.d, .string x.p, .string x.p2, .int .i64 x.fd, .int .i64 x.pg, .int .u32 x.sz, .string x.da], .agg #[.int .u8 y.d, .string y.p, .string y.p2, .int .i64 y.fd, .int .i64 y.pg, .int .u32 y.sz, .string y.da], .int .u16 cut] w fun e w' => e = .returned (.bool true) ∧ Below w.heap.size w w' := by
  have HK := Lib.hid hk
  have LX := Lib.hid (fun W => long_no x W h1 h2 h3 hl)
  have LY := Lib.hid (fun W => long_no y W k1 k2 k3 hl2)
  have PX := Lib.hid (fun W k => put_any x W k hd (by unfold maxLen; omega) (by unfold maxLen; omega) (by unfold maxLen; omega))
  have PY := Lib.hid (fun W k => put_any y W k hdy (by unfold maxLen; omega) (by unfold maxLen; omega) (by unfold maxLen; omega))
  rw [hx, text_yes hx] at PX
  rw [hy, text_yes hy] at PY
  have hbx : (B x.bytes).size ≤ 2000 := Nat.le_trans (putTo_len (check_fits hx) (hasN x.d) 6) (by omega)
  have hby : (B y.bytes).size ≤ 2000 := Nat.le_trans (putTo_len (check_fits hy) (hasN y.d) 6) (by omega)
  have hpx : 0 < (B x.bytes).size := bytes_ne x
  have hne := empty_no hpx
  obtain ⟨m, hm⟩ : ∃ m, min (B x.bytes).size (B y.bytes).size = m := ⟨_, rfl⟩
  have HM : Hid (min ((B x.bytes).size : Int) ((B y.bytes).size : Int) = (m : Int)) := Lib.hid (by rw [← hm]; omega)
  have m1 : m ≤ (B x.bytes).size := by omega
  have m2 : m ≤ (B y.bytes).size := by omega
  have AP : (((B x.bytes).extract 0 m).toList = ((B y.bytes).extract 0 m).toList) ↔ x = y := by
    rw [toList_L, toList_L, ex_front, ex_front, L_B, L_B, L_B, L_B, ← hm]
    exact apart hx hy
  obtain ⟨j, hj⟩ : ∃ j, cut % (B x.bytes).size = j := ⟨_, rfl⟩
  have j1 : j < (B x.bytes).size := by rw [← hj]; exact Nat.mod_lt _ hpx
  have HJ : Hid ((cut : Int) % ((B x.bytes).size : Int) = (j : Int)) := Lib.hid (by rw [← hj]; exact cut_mod _ _)
  have GX := Lib.hid (fun W k => get_any ((B x.bytes).extract 0 j) W k (by rw [ex_front, size_B, List.length_take]; unfold maxLen; rw [L_B]; rw [size_B] at hbx; omega))
  rw [show L ((B x.bytes).extract 0 j) = x.bytes.take j from by rw [ex_front, L_B, L_B], getV_none' (cut_none hx j1)] at GX
  generalize B x.bytes = tx at *
  generalize B y.bytes = ty at *
  clear hl hl2 hm hj hx hy
  clear hk
  go_enter Tryd.func4, Tryd.ntmps4
  go_wp2_with fail
  refine (LX.out _).mono ?_
  rintro e w1 ⟨rfl, b1⟩
  have bb : Below w.heap.size w w1 := (((Below.refl _ w).alloc (Nat.le_refl _) _).alloc (by simp) _).trans (b1.mono (by simp; omega))
  have hX : Box w1 w.heap.size x := ((box_new x w).alloc _).below (by simp; omega) b1
  have hY : Box w1 (w.heap.size + 1) y := by
    have := box_new y (w.alloc (.cells #[.int .u8 x.d, .string x.p, .string x.p2, .int .i64 x.fd, .int .i64 x.pg, .int .u32 x.sz, .string x.da] 24))
    rw [World.size_alloc] at this
    exact this.below (by simp) b1
  have hlx := hX.lt
  have hly := hY.lt

  have d0 := hY.c0
  have d1 := hY.c1
  have d2 := hY.c2
  have d3 := hY.c3
  have d4 := hY.c4
  have d5 := hY.c5
  have d6 := hY.c6
  clear b1
  go_wp2_with fail
  refine (LY.out _).mono ?_
  rintro e w2 ⟨rfl, b2⟩
  have bb2 : Below w.heap.size w w2 := bb.trans (b2.mono bb.size)
  clear bb d0 d1 d2 d3 d4 d5 d6
  have hX2 := hX.below hlx b2
  have hY2 := hY.below hly b2
  have hlx2 := hX2.lt
  have hly2 := hY2.lt
  clear b2 hX hY hlx hly LX LY
  have c0 := hX2.c0
  have c1 := hX2.c1
  have c2 := hX2.c2
  have c3 := hX2.c3
  have c4 := hX2.c4
  have c5 := hX2.c5
  have c6 := hX2.c6
  go_wp2_with fail
  refine (PX.out _ (HK.out.later bb2)).mono ?_
  rintro e w3 ⟨rfl, b3⟩
  have bb3 : Below w.heap.size w w3 := bb2.trans (b3.mono bb2.size)
  have hX3 := hX2.below hlx2 b3
  have hY3 := hY2.below hly2 b3
  have hlx3 := hX3.lt
  have hly3 := hY3.lt
  clear b3 hX2 hY2 hlx2 hly2 bb2 c0 c1 c2 c3 c4 c5 c6
  have d0 := hY3.c0
  have d1 := hY3.c1
  have d2 := hY3.c2
  have d3 := hY3.c3
  have d4 := hY3.c4
  have d5 := hY3.c5
  have d6 := hY3.c6
  go_wp2_with fail
  refine (PY.out _ (HK.out.later bb3)).mono ?_
  rintro e w4 ⟨rfl, b4⟩
  have bb4 : Below w.heap.size w w4 := bb3.trans (b4.mono bb3.size)
  have hX4 := hX3.below hlx3 b4
  have hY4 := hY3.below hly3 b4
  have hlx4 := hX4.lt
  have hly4 := hY4.lt
  clear b4 hX3 hY3 hlx3 hly3 bb3 d0 d1 d2 d3 d4 d5 d6 PX PY
  have c0 := hX4.c0
  have c1 := hX4.c1
  have c2 := hX4.c2
  have c3 := hX4.c3
  have c4 := hX4.c4
  have c5 := hX4.c5
  have c6 := hX4.c6
  have d0 := hY4.c0
  have d1 := hY4.c1
  have d2 := hY4.c2
  have d3 := hY4.c3
  have d4 := hY4.c4
  have d5 := hY4.c5
  have d6 := hY4.c6
  have m1' : (m : Int) ≤ (tx.size : Int) := by omega
  have m2' : (m : Int) ≤ (ty.size : Int) := by omega
  have jI : (j : Int) ≤ (tx.size : Int) := by omega
  have m0 : (0 : Int) ≤ (m : Int) := by omega
  clear hX4 hY4
  go_wp2_with fail
  rw [HM.out]
  have hjj := HJ.out
  by_cases q0 : x.d = y.d
  · rw [← q0] at d0
    by_cases q1 : x.p = y.p
    · rw [← q1] at d1
      by_cases q2 : x.p2 = y.p2
      · rw [← q2] at d2
        by_cases q3 : x.fd = y.fd
        · rw [← q3] at d3
          by_cases q4 : x.pg = y.pg
          · rw [← q4] at d4
            by_cases q5 : x.sz = y.sz
            · rw [← q5] at d5
              by_cases q6 : x.da = y.da
              · rw [← q6] at d6
                have exy : x = y := by
                  obtain ⟨xd, xp, xp2, xfd, xpg, xsz, xda⟩ := x
                  obtain ⟨yd, yp, yp2, yfd, ypg, ysz, yda⟩ := y
                  simp only at q0 q1 q2 q3 q4 q5 q6
                  rw [q0, q1, q2, q3, q4, q5, q6]
                have ap := AP.2 exy
                have e1 : ((tx.extract 0 m).toList == (ty.extract 0 m).toList) = true := by simpa using ap
                have e2 : decide ((tx.extract 0 m).toList = (ty.extract 0 m).toList) = true := by simpa using ap
                clear AP ap exy q0 q1 q2 q3 q4 q5 q6
                go_quiet (fail)
                go_wp2_with fail
                refine (GX.out _ (quiet_kinds (HK.out.later bb4) _)).mono ?_
                rintro e w5 ⟨rfl, b5⟩
                have bb5 : Below w.heap.size w w5 := (bb4.trans (Oct.below_drewN _ _ _)).trans (b5.mono bb4.size)
                clear b5
                go_wp2_with fail
                refine (alive20 _ (HK.out.later (bb5.alloc bb5.size _))).mono ?_
                rintro e wz ⟨rfl, bz⟩
                go_wp2
                go_ret
                exact ⟨rfl, (bb5.alloc bb5.size _).trans (bz.mono (by have := bb5.size; simp; omega))⟩
              · have hne6 := q6
                have n1 : ¬ (x.da.toList = y.da.toList) := fun e => hne6 (L_inj (by rw [← toList_L, e, toList_L]))
                have n2 : (x.da.toList == y.da.toList) = false := by simpa using n1
                have n3 : decide (x.da.toList = y.da.toList) = false := by simpa using n1
                have ap : ¬ ((tx.extract 0 m).toList = (ty.extract 0 m).toList) := fun e => hne6 (by rw [AP.1 e])
                have e1 : ((tx.extract 0 m).toList == (ty.extract 0 m).toList) = false := by simpa using ap
                have e2 : decide ((tx.extract 0 m).toList = (ty.extract 0 m).toList) = false := by simpa using ap
                clear AP ap hne6 q0 q1 q2 q3 q4 q5 q6
                go_quiet (fail)
                go_wp2_with fail
                refine (GX.out _ (quiet_kinds (HK.out.later bb4) _)).mono ?_
                rintro e w5 ⟨rfl, b5⟩
                have bb5 : Below w.heap.size w w5 := (bb4.trans (Oct.below_drewN _ _ _)).trans (b5.mono bb4.size)
                clear b5
                go_wp2_with fail
                refine (alive20 _ (HK.out.later (bb5.alloc bb5.size _))).mono ?_
                rintro e wz ⟨rfl, bz⟩
                go_wp2
                go_ret
                exact ⟨rfl, (bb5.alloc bb5.size _).trans (bz.mono (by have := bb5.size; simp; omega))⟩
            · have hne5 := q5
              have n1 : ((x.sz : Int) == (y.sz : Int)) = false := by simp; omega
              have n2 : decide (x.sz = y.sz) = false := by simpa using hne5
              have n3 : (x.sz == y.sz) = false := by simpa using hne5
              have n4 : ¬ ((x.sz : Int) = (y.sz : Int)) := by omega
              have ap : ¬ ((tx.extract 0 m).toList = (ty.extract 0 m).toList) := fun e => hne5 (by rw [AP.1 e])
              have e1 : ((tx.extract 0 m).toList == (ty.extract 0 m).toList) = false := by simpa using ap
              have e2 : decide ((tx.extract 0 m).toList = (ty.extract 0 m).toList) = false := by simpa using ap
              clear AP ap hne5 q0 q1 q2 q3 q4 q5
              go_quiet (fail)
              go_wp2_with fail
              refine (GX.out _ (quiet_kinds (HK.out.later bb4) _)).mono ?_
              rintro e w5 ⟨rfl, b5⟩
              have bb5 : Below w.heap.size w w5 := (bb4.trans (Oct.below_drewN _ _ _)).trans (b5.mono bb4.size)
              clear b5
              go_wp2_with fail
              refine (alive20 _ (HK.out.later (bb5.alloc bb5.size _))).mono ?_
              rintro e wz ⟨rfl, bz⟩
              go_wp2
              go_ret
              exact ⟨rfl, (bb5.alloc bb5.size _).trans (bz.mono (by have := bb5.size; simp; omega))⟩
          · have hne4 := q4
            have n1 : (x.pg == y.pg) = false := by simpa using hne4
            have n2 : decide (x.pg = y.pg) = false := by simpa using hne4
            have ap : ¬ ((tx.extract 0 m).toList = (ty.extract 0 m).toList) := fun e => hne4 (by rw [AP.1 e])
            have e1 : ((tx.extract 0 m).toList == (ty.extract 0 m).toList) = false := by simpa using ap
            have e2 : decide ((tx.extract 0 m).toList = (ty.extract 0 m).toList) = false := by simpa using ap
            clear AP ap hne4 q0 q1 q2 q3 q4
            go_quiet (fail)
            go_wp2_with fail
            refine (GX.out _ (quiet_kinds (HK.out.later bb4) _)).mono ?_
            rintro e w5 ⟨rfl, b5⟩
            have bb5 : Below w.heap.size w w5 := (bb4.trans (Oct.below_drewN _ _ _)).trans (b5.mono bb4.size)
            clear b5
            go_wp2_with fail
            refine (alive20 _ (HK.out.later (bb5.alloc bb5.size _))).mono ?_
            rintro e wz ⟨rfl, bz⟩
            go_wp2
            go_ret
            exact ⟨rfl, (bb5.alloc bb5.size _).trans (bz.mono (by have := bb5.size; simp; omega))⟩
        · have hne3 := q3
          have n1 : (x.fd == y.fd) = false := by simpa using hne3
          have n2 : decide (x.fd = y.fd) = false := by simpa using hne3
          have ap : ¬ ((tx.extract 0 m).toList = (ty.extract 0 m).toList) := fun e => hne3 (by rw [AP.1 e])
          have e1 : ((tx.extract 0 m).toList == (ty.extract 0 m).toList) = false := by simpa using ap
          have e2 : decide ((tx.extract 0 m).toList = (ty.extract 0 m).toList) = false := by simpa using ap
          clear AP ap hne3 q0 q1 q2 q3
          go_quiet (fail)
          go_wp2_with fail
          refine (GX.out _ (quiet_kinds (HK.out.later bb4) _)).mono ?_
          rintro e w5 ⟨rfl, b5⟩
          have bb5 : Below w.heap.size w w5 := (bb4.trans (Oct.below_drewN _ _ _)).trans (b5.mono bb4.size)
          clear b5
          go_wp2_with fail
          refine (alive20 _ (HK.out.later (bb5.alloc bb5.size _))).mono ?_
          rintro e wz ⟨rfl, bz⟩
          go_wp2
          go_ret
          exact ⟨rfl, (bb5.alloc bb5.size _).trans (bz.mono (by have := bb5.size; simp; omega))⟩
      · have hne2 := q2
        have n1 : ¬ (x.p2.toList = y.p2.toList) := fun e => hne2 (L_inj (by rw [← toList_L, e, toList_L]))
        have n2 : (x.p2.toList == y.p2.toList) = false := by simpa using n1
        have n3 : decide (x.p2.toList = y.p2.toList) = false := by simpa using n1
        have ap : ¬ ((tx.extract 0 m).toList = (ty.extract 0 m).toList) := fun e => hne2 (by rw [AP.1 e])
        have e1 : ((tx.extract 0 m).toList == (ty.extract 0 m).toList) = false := by simpa using ap
        have e2 : decide ((tx.extract 0 m).toList = (ty.extract 0 m).toList) = false := by simpa using ap
        clear AP ap hne2 q0 q1 q2
        go_quiet (fail)
        go_wp2_with fail
        refine (GX.out _ (quiet_kinds (HK.out.later bb4) _)).mono ?_
        rintro e w5 ⟨rfl, b5⟩
        have bb5 : Below w.heap.size w w5 := (bb4.trans (Oct.below_drewN _ _ _)).trans (b5.mono bb4.size)
        clear b5
        go_wp2_with fail
        refine (alive20 _ (HK.out.later (bb5.alloc bb5.size _))).mono ?_
        rintro e wz ⟨rfl, bz⟩
        go_wp2
        go_ret
        exact ⟨rfl, (bb5.alloc bb5.size _).trans (bz.mono (by have := bb5.size; simp; omega))⟩
    · have hne1 := q1
      have n1 : ¬ (x.p.toList = y.p.toList) := fun e => hne1 (L_inj (by rw [← toList_L, e, toList_L]))
      have n2 : (x.p.toList == y.p.toList) = false := by simpa using n1
      have n3 : decide (x.p.toList = y.p.toList) = false := by simpa using n1
      have ap : ¬ ((tx.extract 0 m).toList = (ty.extract 0 m).toList) := fun e => hne1 (by rw [AP.1 e])
      have e1 : ((tx.extract 0 m).toList == (ty.extract 0 m).toList) = false := by simpa using ap
      have e2 : decide ((tx.extract 0 m).toList = (ty.extract 0 m).toList) = false := by simpa using ap
      clear AP ap hne1 q0 q1
      go_quiet (fail)
      go_wp2_with fail
      refine (GX.out _ (quiet_kinds (HK.out.later bb4) _)).mono ?_
      rintro e w5 ⟨rfl, b5⟩
      have bb5 : Below w.heap.size w w5 := (bb4.trans (Oct.below_drewN _ _ _)).trans (b5.mono bb4.size)
      clear b5
      go_wp2_with fail
      refine (alive20 _ (HK.out.later (bb5.alloc bb5.size _))).mono ?_
      rintro e wz ⟨rfl, bz⟩
      go_wp2
      go_ret
      exact ⟨rfl, (bb5.alloc bb5.size _).trans (bz.mono (by have := bb5.size; simp; omega))⟩
  · have hne0 := q0
    have n1 : ((x.d : Int) == (y.d : Int)) = false := by simp; omega
    have n2 : decide (x.d = y.d) = false := by simpa using hne0
    have n3 : (x.d == y.d) = false := by simpa using hne0
    have n4 : ¬ ((x.d : Int) = (y.d : Int)) := by omega
    have ap : ¬ ((tx.extract 0 m).toList = (ty.extract 0 m).toList) := fun e => hne0 (by rw [AP.1 e])
    have e1 : ((tx.extract 0 m).toList == (ty.extract 0 m).toList) = false := by simpa using ap
    have e2 : decide ((tx.extract 0 m).toList = (ty.extract 0 m).toList) = false := by simpa using ap
    clear AP ap hne0 q0
    go_quiet (fail)
    go_wp2_with fail
    refine (GX.out _ (quiet_kinds (HK.out.later bb4) _)).mono ?_
    rintro e w5 ⟨rfl, b5⟩
    have bb5 : Below w.heap.size w w5 := (bb4.trans (Oct.below_drewN _ _ _)).trans (b5.mono bb4.size)
    clear b5
    go_wp2_with fail
    refine (alive20 _ (HK.out.later (bb5.alloc bb5.size _))).mono ?_
    rintro e wz ⟨rfl, bz⟩
    go_wp2
    go_ret
    exact ⟨rfl, (bb5.alloc bb5.size _).trans (bz.mono (by have := bb5.size; simp; omega))⟩

theorem apart_walk (x y : C) (cut : Nat) (w : World) (hk : Kinds w) (hd : x.d < 256) (h1 : x.p.size ≤ 140737488351232) (h2 : x.p2.size ≤ 140737488351232) (h3 : x.da.size ≤ 140737488351232) (hdy : y.d < 256) (k1 : y.p.size ≤ 140737488351232) (k2 : y.p2.size ≤ 140737488351232) (k3 : y.da.size ≤ 140737488351232) (hcut : cut < 65536) : Calls Tryd.prog 4 #[.agg #[.int .u8 x.d, .string x.p, .string x.p2, .int .i64 x.fd, .int .i64 x.pg, .int .u32 x.sz, .string x.da], .agg #[.int .u8 y.d, .string y.p, .string y.p2, .int .i64 y.fd, .int .i64 y.pg, .int .u32 y.sz, .string y.da], .int .u16 cut] w fun e w' => e = .returned (.bool true) ∧ Below w.heap.size w w' := by
  by_cases hl : x.p.size + x.p2.size + x.da.size ≤ 2048
  · by_cases hl2 : y.p.size + y.p2.size + y.da.size ≤ 2048
    · by_cases hx : x.checkE = 0
      · by_cases hy : y.checkE = 0
        · exact apart_yes x y cut w hk hd h1 h2 h3 hdy k1 k2 k3 hcut hl hl2 hx hy
        · exact apart_no2 x y cut w hk hd h1 h2 h3 hdy k1 k2 k3 hcut hl hl2 hx hy
      · exact apart_no x y cut w hk hd h1 h2 h3 hdy k1 k2 k3 hcut hl hl2 hx
    · exact apart_long2 x y cut w hk hd h1 h2 h3 hdy k1 k2 k3 hcut hl (by omega)
  · exact apart_long x y cut w hk hd h1 h2 h3 hdy k1 k2 k3 hcut (by omega)

end Go.Proofs.YtfdclifdemajfaaDoor.Call
