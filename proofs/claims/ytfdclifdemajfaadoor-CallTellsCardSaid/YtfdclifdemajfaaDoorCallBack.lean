/- The law CallBack: what was put is got, with whatever stands behind it; what is got is put as it stood. The walk. -/
import Derived.Test.YtfdclifdemajfaaDoorCallAlive
namespace Go.Proofs.YtfdclifdemajfaaDoor.Call
set_option linter.unusedVariables false
set_option linter.unusedSimpArgs false
open Go.RowKit Oct Path
theorem getV_some' {l r : List UInt8} {y : C} (h : getL l = some (y, r)) : getV l = .tuple #[.agg #[.int .u8 y.d, .string y.p, .string y.p2, .int .i64 y.fd, .int .i64 y.pg, .int .u32 y.sz, .string y.da], .string (B r), .int .i64 0] := getV_some h
theorem getV_none' {l : List UInt8} (h : getL l = none) : getV l = .tuple #[.agg #[.int .u8 0, .string ⟨#[]⟩, .string ⟨#[]⟩, .int .i64 0, .int .i64 0, .int .u32 0, .string ⟨#[]⟩], .string ⟨#[]⟩, .int .i64 7] := getV_none h
theorem box_new (x : C) (w : World) : Box (w.alloc (.cells #[.int .u8 x.d, .string x.p, .string x.p2, .int .i64 x.fd, .int .i64 x.pg, .int .u32 x.sz, .string x.da] 24)) w.heap.size x := heap_alloc_new w _
theorem got_small {l r : List UInt8} {y : C} (h : getL l = some (y, r)) : y.p.size ≤ 255 ∧ y.p2.size ≤ 255 ∧ y.da.size ≤ 255 ∧ y.d < 256 ∧ r.length ≤ l.length ∧ y.bytes.length ≤ 2000 := by
  obtain ⟨h1, h2⟩ := put_get h
  have f := check_fits h1
  have g := check_yes h1
  have := putTo_len f (hasN y.d) 6
  exact ⟨f.p, f.p2, f.da, by omega, by rw [h2, List.length_append]; omega, Nat.le_trans this (by omega)⟩

set_option maxRecDepth 100000 in
set_option maxHeartbeats 1000000 in
theorem back_long (x : C) (more s : ByteArray) (w : World) (hk : Kinds w) (hd : x.d < 256) (h1 : x.p.size ≤ 140737488351232) (h2 : x.p2.size ≤ 140737488351232) (h3 : x.da.size ≤ 140737488351232) (hm : more.size ≤ 140737488351232) (hs : s.size ≤ 140737488351232) (hl : 2048 < x.p.size + x.p2.size + x.da.size) : Calls Tryd.prog 3 #[.agg #[.int .u8 x.d, .string x.p, .string x.p2, .int .i64 x.fd, .int .i64 x.pg, .int .u32 x.sz, .string x.da], .string more, .string s] w fun e w' => e = .returned (.bool true) ∧ Below w.heap.size w w' := by
  have HK := Lib.hid hk
  have LG := Lib.hid (fun W => long_yes x W h1 h2 h3 hl)
  clear hk hl
  go_enter Tryd.func3, Tryd.ntmps3
  go_wp2_with fail
  refine (LG.out _).mono ?_
  rintro e w1 ⟨rfl, b1⟩
  have bb : Below w.heap.size w w1 := ((Below.refl _ w).alloc (Nat.le_refl _) _).trans (b1.mono (by simp))
  clear b1
  go_wp2_with fail
  refine (alive20 _ (HK.out.later bb)).mono ?_
  rintro e w2 ⟨rfl, b2⟩
  go_wp2
  go_ret
  exact ⟨rfl, bb.trans (b2.mono bb.size)⟩
set_option maxRecDepth 100000 in
set_option maxHeartbeats 1000000 in
theorem back_much (x : C) (more s : ByteArray) (w : World) (hk : Kinds w) (hd : x.d < 256) (h1 : x.p.size ≤ 140737488351232) (h2 : x.p2.size ≤ 140737488351232) (h3 : x.da.size ≤ 140737488351232) (hm : more.size ≤ 140737488351232) (hs : s.size ≤ 140737488351232) (hl : x.p.size + x.p2.size + x.da.size ≤ 2048) (hc : 4096 < s.size + more.size) : Calls Tryd.prog 3 #[.agg #[.int .u8 x.d, .string x.p, .string x.p2, .int .i64 x.fd, .int .i64 x.pg, .int .u32 x.sz, .string x.da], .string more, .string s] w fun e w' => e = .returned (.bool true) ∧ Below w.heap.size w w' := by
  have HK := Lib.hid hk
  have LG := Lib.hid (fun W => long_no x W h1 h2 h3 hl)
  have t1 : decide ((4096 : Int) < (s.size : Int) + (more.size : Int)) = true := by simp; omega
  have t2 : decide (4096 < s.size + more.size) = true := by simp; omega
  clear hk hl
  go_enter Tryd.func3, Tryd.ntmps3
  go_wp2_with fail
  refine (LG.out _).mono ?_
  rintro e w1 ⟨rfl, b1⟩
  have bb : Below w.heap.size w w1 := ((Below.refl _ w).alloc (Nat.le_refl _) _).trans (b1.mono (by simp))
  clear b1
  go_wp2_with fail
  refine (alive20 _ (HK.out.later bb)).mono ?_
  rintro e w2 ⟨rfl, b2⟩
  go_wp2
  go_ret
  exact ⟨rfl, bb.trans (b2.mono bb.size)⟩
set_option maxRecDepth 100000 in
set_option maxHeartbeats 2000000 in
theorem back_no (x : C) (more s : ByteArray) (w : World) (hk : Kinds w) (hd : x.d < 256) (h1 : x.p.size ≤ 140737488351232) (h2 : x.p2.size ≤ 140737488351232) (h3 : x.da.size ≤ 140737488351232) (hm : more.size ≤ 140737488351232) (hs : s.size ≤ 140737488351232) (hl : x.p.size + x.p2.size + x.da.size ≤ 2048) (hc : s.size + more.size ≤ 4096) (hx : x.checkE ≠ 0) : Calls Tryd.prog 3 #[.agg #[.int .u8 x.d, .string x.p, .string x.p2, .int .i64 x.fd, .int .i64 x.pg, .int .u32 x.sz, .string x.da], .string more, .string s] w fun e w' => e = .returned (.bool true) ∧ Below w.heap.size w w' := by
  have HK := Lib.hid hk
  have LG := Lib.hid (fun W => long_no x W h1 h2 h3 hl)
  have t1 : decide ((4096 : Int) < (s.size : Int) + (more.size : Int)) = false := by simp; omega
  have t2 : decide (4096 < s.size + more.size) = false := by simp; omega
  have hsm : s.size ≤ maxLen := by unfold maxLen; omega
  have PX := Lib.hid (fun W k => put_no x W k hd (by unfold maxLen; omega) (by unfold maxLen; omega) (by unfold maxLen; omega) hx)
  have CX := Lib.hid (fun W k => check_any x W k hd (by unfold maxLen; omega) (by unfold maxLen; omega) (by unfold maxLen; omega))
  rw [show x.cells = #[.int .u8 x.d, .string x.p, .string x.p2, .int .i64 x.fd, .int .i64 x.pg, .int .u32 x.sz, .string x.da] from rfl] at PX CX
  have q3 : (x.checkE == 0) = false := by simpa using hx
  have q4 : (x.checkE != 0) = true := by simpa using hx
  generalize x.checkE = ce at *
  clear hk hl hx
  go_enter Tryd.func3, Tryd.ntmps3
  go_wp2_with fail
  refine (LG.out _).mono ?_
  rintro e w1 ⟨rfl, b1⟩
  have bb : Below w.heap.size w w1 := ((Below.refl _ w).alloc (Nat.le_refl _) _).trans (b1.mono (by simp))
  have hB : Box w1 w.heap.size x := (box_new x w).below (by simp) b1
  have hlt := hB.lt
  have c0 := hB.c0
  have c1 := hB.c1
  have c2 := hB.c2
  have c3 := hB.c3
  have c4 := hB.c4
  have c5 := hB.c5
  have c6 := hB.c6
  clear b1 LG
  go_wp2_with fail
  refine (PX.out _ (HK.out.later bb)).mono ?_
  rintro e w2 ⟨rfl, b2⟩
  have bb2 : Below w.heap.size w w2 := bb.trans (b2.mono bb.size)
  have hB2 : Box w2 w.heap.size x := hB.below hlt b2
  have hlt2 := hB2.lt
  clear hB c0 c1 c2 c3 c4 c5 c6
  have c0 := hB2.c0
  have c1 := hB2.c1
  have c2 := hB2.c2
  have c3 := hB2.c3
  have c4 := hB2.c4
  have c5 := hB2.c5
  have c6 := hB2.c6
  clear b2 bb hlt
  go_wp2_with fail
  refine (CX.out _ (HK.out.later bb2)).mono ?_
  rintro e w3 ⟨rfl, b3⟩
  have bb3 : Below w.heap.size w w3 := bb2.trans (b3.mono bb2.size)
  clear b3 bb2 hB2 c0 c1 c2 c3 c4 c5 c6 PX CX hlt2
  cases hg : getL (L s) with
  | none =>
    have GS := Lib.hid (fun W k => get_any s W k hsm)
    rw [getV_none' hg] at GS
    clear hg hsm
    go_wp2_with fail
    refine (GS.out _ (HK.out.later bb3)).mono ?_
    rintro e w9 ⟨rfl, b9⟩
    have bb9 : Below w.heap.size w w9 := bb3.trans (b9.mono bb3.size)
    have K9 := Lib.hid (HK.out.later bb9)
    clear b9
    go_wp2_with fail
    refine (alive20 _ (K9.out.later ((Below.refl _ _).alloc (Nat.le_refl _) _))).mono ?_
    rintro e w10 ⟨rfl, b10⟩
    go_wp2
    go_ret
    exact ⟨rfl, bb9.trans ((((Below.refl _ w9).alloc (Nat.le_refl _) _).trans (b10.mono (by simp))).mono bb9.size)⟩
  | some q =>
    obtain ⟨y, r⟩ := q
    have GS := Lib.hid (fun W k => get_any s W k hsm)
    rw [getV_some' hg] at GS
    obtain ⟨y1, y2, y3, y4, y5, y6⟩ := got_small hg
    obtain ⟨g1, g2⟩ := put_get hg
    have PY := Lib.hid (fun W k => put_yes y W k y4 (by unfold maxLen; omega) (by unfold maxLen; omega) (by unfold maxLen; omega) g1)
    rw [show y.cells = #[.int .u8 y.d, .string y.p, .string y.p2, .int .i64 y.fd, .int .i64 y.pg, .int .u32 y.sz, .string y.da] from rfl] at PY
    have hz : (B y.bytes).size + (B r).size ≤ 20000 := by rw [size_B, size_B]; have := len_L s; omega
    have es : B y.bytes ++ B r = s := by rw [B_append, ← g2, B_L]
    generalize B y.bytes = yb at *
    generalize B r = rb at *
    have ES := Lib.hid es
    have eq1 : ((yb ++ rb).toList == s.toList) = true := by rw [es]; simp
    have eq2 : decide ((yb ++ rb).toList = s.toList) = true := by rw [es]; simp
    clear hg hsm g1 g2 y5 y6 es
    go_wp2_with fail
    refine (GS.out _ (HK.out.later bb3)).mono ?_
    rintro e w9 ⟨rfl, b9⟩
    have bb9 : Below w.heap.size w w9 := bb3.trans (b9.mono bb3.size)
    have K9 := Lib.hid (HK.out.later bb9)
    clear b9
    go_wp2_with fail
    refine (PY.out _ (K9.out.later ((Below.refl _ _).alloc (Nat.le_refl _) _))).mono ?_
    rintro e w10 ⟨rfl, b10⟩
    have bb10 : Below w.heap.size w w10 := bb9.trans ((((Below.refl _ w9).alloc (Nat.le_refl _) _).trans (b10.mono (by simp))).mono bb9.size)
    clear b10
    go_wp2_with fail
    refine (alive20 _ (HK.out.later bb10)).mono ?_
    rintro e w11 ⟨rfl, b11⟩
    go_wp2
    go_ret
    exact ⟨rfl, bb10.trans (b11.mono bb10.size)⟩
set_option maxRecDepth 100000 in
set_option maxHeartbeats 2000000 in
theorem back_yes (x : C) (more s : ByteArray) (w : World) (hk : Kinds w) (hd : x.d < 256) (h1 : x.p.size ≤ 140737488351232) (h2 : x.p2.size ≤ 140737488351232) (h3 : x.da.size ≤ 140737488351232) (hm : more.size ≤ 140737488351232) (hs : s.size ≤ 140737488351232) (hl : x.p.size + x.p2.size + x.da.size ≤ 2048) (hc : s.size + more.size ≤ 4096) (hx : x.checkE = 0) : Calls Tryd.prog 3 #[.agg #[.int .u8 x.d, .string x.p, .string x.p2, .int .i64 x.fd, .int .i64 x.pg, .int .u32 x.sz, .string x.da], .string more, .string s] w fun e w' => e = .returned (.bool true) ∧ Below w.heap.size w w' := by
  have HK := Lib.hid hk
  have LG := Lib.hid (fun W => long_no x W h1 h2 h3 hl)
  have t1 : decide ((4096 : Int) < (s.size : Int) + (more.size : Int)) = false := by simp; omega
  have t2 : decide (4096 < s.size + more.size) = false := by simp; omega
  have hsm : s.size ≤ maxLen := by unfold maxLen; omega
  have PX := Lib.hid (fun W k => put_yes x W k hd (by unfold maxLen; omega) (by unfold maxLen; omega) (by unfold maxLen; omega) hx)
  have CX := Lib.hid (fun W k => check_any x W k hd (by unfold maxLen; omega) (by unfold maxLen; omega) (by unfold maxLen; omega))
  rw [show x.cells = #[.int .u8 x.d, .string x.p, .string x.p2, .int .i64 x.fd, .int .i64 x.pg, .int .u32 x.sz, .string x.da] from rfl] at PX CX
  rw [hx] at CX
  have hb : x.bytes.length ≤ 2000 := Nat.le_trans (putTo_len (check_fits hx) (hasN x.d) 6) (by omega)
  have GX := Lib.hid (fun W k => get_any (B x.bytes ++ more) W k (by rw [append_B, size_B, List.length_append, L_B, len_L]; unfold maxLen; omega))
  rw [show L (B x.bytes ++ more) = x.bytes ++ L more from by rw [append_B, L_B, L_B], getV_some' (get_put hx (L more)), B_L] at GX
  have hz : (B x.bytes).size + more.size ≤ 20000 := by rw [size_B]; omega
  generalize B x.bytes = xb at *
  clear hk hl hx hb
  go_enter Tryd.func3, Tryd.ntmps3
  go_wp2_with fail
  refine (LG.out _).mono ?_
  rintro e w1 ⟨rfl, b1⟩
  have bb : Below w.heap.size w w1 := ((Below.refl _ w).alloc (Nat.le_refl _) _).trans (b1.mono (by simp))
  have hB : Box w1 w.heap.size x := (box_new x w).below (by simp) b1
  have hlt := hB.lt
  have c0 := hB.c0
  have c1 := hB.c1
  have c2 := hB.c2
  have c3 := hB.c3
  have c4 := hB.c4
  have c5 := hB.c5
  have c6 := hB.c6
  clear b1 LG
  go_wp2_with fail
  refine (PX.out _ (HK.out.later bb)).mono ?_
  rintro e w2 ⟨rfl, b2⟩
  have bb2 : Below w.heap.size w w2 := bb.trans (b2.mono bb.size)
  have hB2 : Box w2 w.heap.size x := hB.below hlt b2
  have hlt2 := hB2.lt
  clear hB c0 c1 c2 c3 c4 c5 c6
  have c0 := hB2.c0
  have c1 := hB2.c1
  have c2 := hB2.c2
  have c3 := hB2.c3
  have c4 := hB2.c4
  have c5 := hB2.c5
  have c6 := hB2.c6
  clear b2 bb hlt
  go_wp2_with fail
  refine (CX.out _ (HK.out.later bb2)).mono ?_
  rintro e w3 ⟨rfl, b3⟩
  have bb3 : Below w.heap.size w w3 := bb2.trans (b3.mono bb2.size)
  have hB3 : Box w3 w.heap.size x := hB2.below hlt2 b3
  have hlt3 := hB3.lt
  clear b3 bb2 hB2 c0 c1 c2 c3 c4 c5 c6 PX CX hlt2
  go_wp2_with fail
  refine (GX.out _ (HK.out.later bb3)).mono ?_
  rintro e w4 ⟨rfl, b4⟩
  have bb4 : Below w.heap.size w w4 := bb3.trans (b4.mono bb3.size)
  have hB4 : Box w4 w.heap.size x := hB3.below hlt3 b4
  have hlt4 := hB4.lt
  have c0 := hB4.c0
  have c1 := hB4.c1
  have c2 := hB4.c2
  have c3 := hB4.c3
  have c4 := hB4.c4
  have c5 := hB4.c5
  have c6 := hB4.c6
  clear b4 bb3 hB3 hB4 hlt3 GX hz
  cases hg : getL (L s) with
  | none =>
    have GS := Lib.hid (fun W k => get_any s W k hsm)
    rw [getV_none' hg] at GS
    clear hg hsm
    go_wp2_with fail
    refine (GS.out _ (HK.out.later (bb4.alloc (Nat.le_of_lt hlt4) _))).mono ?_
    rintro e w9 ⟨rfl, b9⟩
    have bb9 : Below w.heap.size w w9 := (bb4.alloc (Nat.le_of_lt hlt4) _).trans (b9.mono (by simp; omega))
    have K9 := Lib.hid (HK.out.later bb9)
    clear b9
    go_wp2_with fail
    refine (alive20 _ (K9.out.later ((Below.refl _ _).alloc (Nat.le_refl _) _))).mono ?_
    rintro e w10 ⟨rfl, b10⟩
    go_wp2
    go_ret
    exact ⟨rfl, bb9.trans ((((Below.refl _ w9).alloc (Nat.le_refl _) _).trans (b10.mono (by simp))).mono bb9.size)⟩
  | some q =>
    obtain ⟨y, r⟩ := q
    have GS := Lib.hid (fun W k => get_any s W k hsm)
    rw [getV_some' hg] at GS
    obtain ⟨y1, y2, y3, y4, y5, y6⟩ := got_small hg
    obtain ⟨g1, g2⟩ := put_get hg
    have PY := Lib.hid (fun W k => put_yes y W k y4 (by unfold maxLen; omega) (by unfold maxLen; omega) (by unfold maxLen; omega) g1)
    rw [show y.cells = #[.int .u8 y.d, .string y.p, .string y.p2, .int .i64 y.fd, .int .i64 y.pg, .int .u32 y.sz, .string y.da] from rfl] at PY
    have hz : (B y.bytes).size + (B r).size ≤ 20000 := by rw [size_B, size_B]; have := len_L s; omega
    have es : B y.bytes ++ B r = s := by rw [B_append, ← g2, B_L]
    generalize B y.bytes = yb at *
    generalize B r = rb at *
    have ES := Lib.hid es
    have eq1 : ((yb ++ rb).toList == s.toList) = true := by rw [es]; simp
    have eq2 : decide ((yb ++ rb).toList = s.toList) = true := by rw [es]; simp
    clear hg hsm g1 g2 y5 y6 es
    go_wp2_with fail
    refine (GS.out _ (HK.out.later (bb4.alloc (Nat.le_of_lt hlt4) _))).mono ?_
    rintro e w9 ⟨rfl, b9⟩
    have bb9 : Below w.heap.size w w9 := (bb4.alloc (Nat.le_of_lt hlt4) _).trans (b9.mono (by simp; omega))
    have K9 := Lib.hid (HK.out.later bb9)
    clear b9
    go_wp2_with fail
    refine (PY.out _ (K9.out.later ((Below.refl _ _).alloc (Nat.le_refl _) _))).mono ?_
    rintro e w10 ⟨rfl, b10⟩
    have bb10 : Below w.heap.size w w10 := bb9.trans ((((Below.refl _ w9).alloc (Nat.le_refl _) _).trans (b10.mono (by simp))).mono bb9.size)
    clear b10
    go_wp2_with fail
    refine (alive20 _ (HK.out.later bb10)).mono ?_
    rintro e w11 ⟨rfl, b11⟩
    go_wp2
    go_ret
    exact ⟨rfl, bb10.trans (b11.mono bb10.size)⟩
theorem back_walk (x : C) (more s : ByteArray) (w : World) (hk : Kinds w) (hd : x.d < 256) (h1 : x.p.size ≤ 140737488351232) (h2 : x.p2.size ≤ 140737488351232) (h3 : x.da.size ≤ 140737488351232) (hm : more.size ≤ 140737488351232) (hs : s.size ≤ 140737488351232) : Calls Tryd.prog 3 #[.agg #[.int .u8 x.d, .string x.p, .string x.p2, .int .i64 x.fd, .int .i64 x.pg, .int .u32 x.sz, .string x.da], .string more, .string s] w fun e w' => e = .returned (.bool true) ∧ Below w.heap.size w w' := by
  by_cases hl : x.p.size + x.p2.size + x.da.size ≤ 2048
  · by_cases hc : s.size + more.size ≤ 4096
    · by_cases hx : x.checkE = 0
      · exact back_yes x more s w hk hd h1 h2 h3 hm hs hl hc hx
      · exact back_no x more s w hk hd h1 h2 h3 hm hs hl hc hx
    · exact back_much x more s w hk hd h1 h2 h3 hm hs hl (by omega)
  · exact back_long x more s w hk hd h1 h2 h3 hm hs (by omega)

end Go.Proofs.YtfdclifdemajfaaDoor.Call
