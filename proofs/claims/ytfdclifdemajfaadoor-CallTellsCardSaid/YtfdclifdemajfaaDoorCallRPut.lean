/- Layer 20, the document's answer: Put, by what a call has. -/
import Derived.Test.YtfdclifdemajfaaDoorCallRPl
import Derived.Test.YtfdclifdemajfaaDoorCallPut
import Derived.Outline
import Derived.Deep.Cut
namespace Go.Proofs.YtfdclifdemajfaaDoor.Call
set_option linter.unusedVariables false
set_option linter.unusedSimpArgs false
open Go.RowKit Oct Path
theorem run_four (W : World) (v : Nat) (a b c d : Int) (ha : a = (v % 256 : Nat)) (hb : b = (v / 256 % 256 : Nat)) (hc : c = (v / 65536 % 256 : Nat)) (hd : d = (v / 16777216 % 256 : Nat)) : (convert 41 9 (.slice (some ⟨W.heap.size, 0, none⟩) 4 4)).run Tryd.prog (W.alloc (.cells #[.int .u8 a, .int .u8 b, .int .u8 c, .int .u8 d] 5)) =
    .ok (.string (B (numL v 4))) (W.alloc (.cells #[.int .u8 a, .int .u8 b, .int .u8 c, .int .u8 d] 5)) := by
  subst ha hb hc hd
  have h := run_back (W.alloc (.cells #[.int .u8 (v % 256 : Nat), .int .u8 (v / 256 % 256 : Nat), .int .u8 (v / 65536 % 256 : Nat), .int .u8 (v / 16777216 % 256 : Nat)] 5)) W.heap.size 4 (numL v 4) (fun i => .int .u8 (v / 256 ^ i % 256 : Nat)) (World.rowIs_alloc W #[.int .u8 (v % 256 : Nat), .int .u8 (v / 256 % 256 : Nat), .int .u8 (v / 65536 % 256 : Nat), .int .u8 (v / 16777216 % 256 : Nat)] 5 _ (fun i hi => by
    have : i = 0 ∨ i = 1 ∨ i = 2 ∨ i = 3 := by simp at hi; omega
    rcases this with rfl | rfl | rfl | rfl <;> simp)) (fun j hj => by
    rw [len_numL] at hj
    simp only [numL, List.getElem_map, List.getElem_range]
    rw [UInt8.toNat_ofNat', Nat.mod_mod_of_dvd _ (by decide)])
  rw [len_numL] at h
  exact h

theorem s4a (v : Nat) : (v : Int) % 256 = ((v % 256 : Nat) : Int) := by omega
theorem s4b (v : Nat) : (v : Int) / 256 % 256 = ((v / 256 % 256 : Nat) : Int) := by omega
theorem s4c (v : Nat) : (v : Int) / 65536 % 256 = ((v / 65536 % 256 : Nat) : Int) := by omega
theorem s4d (v : Nat) (h : v < 4294967296) : (v : Int) / 16777216 = ((v / 16777216 % 256 : Nat) : Int) := by omega

set_option maxRecDepth 100000 in
set_option maxHeartbeats 4000000 in
theorem rput_0 (x : C) (w : World) (hd : x.d < 256) (f : x.Fits) (hof : ofV x.d = .agg #[.bool false, .bool false, .bool false, .bool false, .bool false, .bool false, .bool false, .bool false]) :
    Calls Tryd.prog 18 #[.agg #[.int .u8 x.d, .string x.p, .string x.p2, .int .i64 x.fd, .int .i64 x.pg, .int .u32 x.sz, .string x.da]] w fun e w' => e = .returned (.string (B x.bytes)) ∧ Below w.heap.size w w' := by
  have OF := Lib.hid (fun W => rof_any x.d W hd)
  rw [hof] at OF
  have ev := hof
  clear hof
  simp only [ofV, Value.agg.injEq, Array.mk.injEq, List.cons.injEq, Value.bool.injEq, and_true] at ev
  obtain ⟨e1, e2, e3, e4, e5, e6, e7, e8⟩ := ev
  have EN : Hid (B x.bytes = B [UInt8.ofNat x.d]) := Lib.hid (by simp only [C.bytes, C.putTo, bitOf, e1, e2, e3, e4, e5, e6, B_append, Bool.false_eq_true, ↓reduceIte])
  have z0 : (B [UInt8.ofNat x.d]).size = 1 := rfl
  generalize B x.bytes = bs at *
  clear e1 e2 e3 e4 e5 e6 e7 e8
  have R0 := Lib.hid (fun W => run_one W (x.d : Int) (by omega) (by omega))
  go_enter Tryd.func18, Tryd.ntmps18
  go_wp2_with fail
  refine (OF.out _).mono ?_
  rintro e w1 ⟨rfl, b1⟩
  have bb : Below w.heap.size w w1 := ((Below.refl _ w).alloc (Nat.le_refl _) _).trans (b1.mono (by simp))
  have hX : Box w1 w.heap.size x := (box_x x w).below (by simp) b1
  have hlt := hX.lt
  have c0 := hX.c0
  have k1 : KS w (w1.alloc (.cells #[.bool false, .bool false, .bool false, .bool false, .bool false, .bool false, .bool false, .bool false] 58)) w1.heap.size #[.bool false, .bool false, .bool false, .bool false, .bool false, .bool false, .bool false, .bool false] x := ⟨hX.alloc _, heap_alloc_new w1 _, hlt, bb.alloc bb.size _⟩
  have hone := R0.out (w1.alloc (.cells #[.bool false, .bool false, .bool false, .bool false, .bool false, .bool false, .bool false, .bool false] 58))
  simp only [World.size_alloc] at hone
  clear b1 hX OF bb
  go_upto_region 3 with (fail)
  have k2 := k1.later ((Below.refl _ _).alloc (Nat.le_refl _) (.cells #[.int .u8 x.d] 5))
  obtain ⟨W, hW⟩ : ∃ W, (w1.alloc (.cells #[.bool false, .bool false, .bool false, .bool false, .bool false, .bool false, .bool false, .bool false] 58)).alloc (.cells #[.int .u8 x.d] 5) = W := ⟨_, rfl⟩
  obtain ⟨bh, hbh⟩ : ∃ b, w1.heap.size = b := ⟨_, rfl⟩
  rw [hW, hbh] at k2
  rw [hW, hbh]
  clear hW hbh hlt c0 hone k1 R0
  have al := k2.l
  have alt := k2.lt
  have ac0 := k2.xb.c0
  have ac1 := k2.xb.c1
  have ac2 := k2.xb.c2
  have ac3 := k2.xb.c3
  have ac4 := k2.xb.c4
  have ac5 := k2.xb.c5
  have ac6 := k2.xb.c6
  have ah0 : W.cell? ⟨bh, 0, none⟩ = some (.bool false) := k2.h 0
  have ah1 : W.cell? ⟨bh, 1, none⟩ = some (.bool false) := k2.h 1
  have ah2 : W.cell? ⟨bh, 2, none⟩ = some (.bool false) := k2.h 2
  have ah3 : W.cell? ⟨bh, 3, none⟩ = some (.bool false) := k2.h 3
  have ah4 : W.cell? ⟨bh, 4, none⟩ = some (.bool false) := k2.h 4
  have ah5 : W.cell? ⟨bh, 5, none⟩ = some (.bool false) := k2.h 5
  go_wp2
  go_ret
  exact ⟨by rw [EN.out]; rfl, k2.bel⟩

set_option maxRecDepth 100000 in
set_option maxHeartbeats 4000000 in
theorem rput_4 (x : C) (w : World) (hd : x.d < 256) (f : x.Fits) (hof : ofV x.d = .agg #[.bool false, .bool false, .bool true, .bool false, .bool false, .bool false, .bool false, .bool false]) :
    Calls Tryd.prog 18 #[.agg #[.int .u8 x.d, .string x.p, .string x.p2, .int .i64 x.fd, .int .i64 x.pg, .int .u32 x.sz, .string x.da]] w fun e w' => e = .returned (.string (B x.bytes)) ∧ Below w.heap.size w w' := by
  have OF := Lib.hid (fun W => rof_any x.d W hd)
  rw [hof] at OF
  have ev := hof
  clear hof
  simp only [ofV, Value.agg.injEq, Array.mk.injEq, List.cons.injEq, Value.bool.injEq, and_true] at ev
  obtain ⟨e1, e2, e3, e4, e5, e6, e7, e8⟩ := ev
  have EN : Hid (B x.bytes = (B [UInt8.ofNat x.d] ++ B (x.put 2))) := Lib.hid (by simp only [C.bytes, C.putTo, bitOf, e1, e2, e3, e4, e5, e6, B_append, Bool.false_eq_true, ↓reduceIte])
  have z0 : (B [UInt8.ofNat x.d]).size = 1 := rfl
  generalize B x.bytes = bs at *
  clear e1 e2 e3 e4 e5 e6 e7 e8
  have z3 : (B (x.put 2)).size ≤ 256 := by rw [size_B]; exact put_len f 2
  have fk2 : 0 ≤ x.fd := f.fd0
  have fl2 : x.fd ≤ 255 := f.fd
  have R0 := Lib.hid (fun W => run_one W (x.d : Int) (by omega) (by omega))
  go_enter Tryd.func18, Tryd.ntmps18
  go_wp2_with fail
  refine (OF.out _).mono ?_
  rintro e w1 ⟨rfl, b1⟩
  have bb : Below w.heap.size w w1 := ((Below.refl _ w).alloc (Nat.le_refl _) _).trans (b1.mono (by simp))
  have hX : Box w1 w.heap.size x := (box_x x w).below (by simp) b1
  have hlt := hX.lt
  have c0 := hX.c0
  have k1 : KS w (w1.alloc (.cells #[.bool false, .bool false, .bool true, .bool false, .bool false, .bool false, .bool false, .bool false] 58)) w1.heap.size #[.bool false, .bool false, .bool true, .bool false, .bool false, .bool false, .bool false, .bool false] x := ⟨hX.alloc _, heap_alloc_new w1 _, hlt, bb.alloc bb.size _⟩
  have hone := R0.out (w1.alloc (.cells #[.bool false, .bool false, .bool true, .bool false, .bool false, .bool false, .bool false, .bool false] 58))
  simp only [World.size_alloc] at hone
  clear b1 hX OF bb
  go_upto_region 3 with (fail)
  have k2 := k1.later ((Below.refl _ _).alloc (Nat.le_refl _) (.cells #[.int .u8 x.d] 5))
  obtain ⟨W, hW⟩ : ∃ W, (w1.alloc (.cells #[.bool false, .bool false, .bool true, .bool false, .bool false, .bool false, .bool false, .bool false] 58)).alloc (.cells #[.int .u8 x.d] 5) = W := ⟨_, rfl⟩
  obtain ⟨bh, hbh⟩ : ∃ b, w1.heap.size = b := ⟨_, rfl⟩
  rw [hW, hbh] at k2
  rw [hW, hbh]
  clear hW hbh hlt c0 hone k1 R0
  have al := k2.l
  have alt := k2.lt
  have ac0 := k2.xb.c0
  have ac1 := k2.xb.c1
  have ac2 := k2.xb.c2
  have ac3 := k2.xb.c3
  have ac4 := k2.xb.c4
  have ac5 := k2.xb.c5
  have ac6 := k2.xb.c6
  have ah0 : W.cell? ⟨bh, 0, none⟩ = some (.bool false) := k2.h 0
  have ah1 : W.cell? ⟨bh, 1, none⟩ = some (.bool false) := k2.h 1
  have ah2 : W.cell? ⟨bh, 2, none⟩ = some (.bool true) := k2.h 2
  have ah3 : W.cell? ⟨bh, 3, none⟩ = some (.bool false) := k2.h 3
  have ah4 : W.cell? ⟨bh, 4, none⟩ = some (.bool false) := k2.h 4
  have ah5 : W.cell? ⟨bh, 5, none⟩ = some (.bool false) := k2.h 5
  have hr0 := run_one W x.fd fk2 (by omega)
  rw [show B [UInt8.ofNat x.fd.toNat] = B (x.put 2) from rfl] at hr0
  go_wp2
  go_ret
  exact ⟨by rw [EN.out]; rfl, k2.bel.alloc k2.bel.size _⟩

set_option maxRecDepth 100000 in
set_option maxHeartbeats 4000000 in
theorem rput_12 (x : C) (w : World) (hd : x.d < 256) (f : x.Fits) (hof : ofV x.d = .agg #[.bool false, .bool false, .bool true, .bool true, .bool false, .bool false, .bool false, .bool false]) :
    Calls Tryd.prog 18 #[.agg #[.int .u8 x.d, .string x.p, .string x.p2, .int .i64 x.fd, .int .i64 x.pg, .int .u32 x.sz, .string x.da]] w fun e w' => e = .returned (.string (B x.bytes)) ∧ Below w.heap.size w w' := by
  have OF := Lib.hid (fun W => rof_any x.d W hd)
  rw [hof] at OF
  have ev := hof
  clear hof
  simp only [ofV, Value.agg.injEq, Array.mk.injEq, List.cons.injEq, Value.bool.injEq, and_true] at ev
  obtain ⟨e1, e2, e3, e4, e5, e6, e7, e8⟩ := ev
  have EN : Hid (B x.bytes = ((B [UInt8.ofNat x.d] ++ B (x.put 2)) ++ B (x.put 3))) := Lib.hid (by simp only [C.bytes, C.putTo, bitOf, e1, e2, e3, e4, e5, e6, B_append, Bool.false_eq_true, ↓reduceIte])
  have z0 : (B [UInt8.ofNat x.d]).size = 1 := rfl
  generalize B x.bytes = bs at *
  clear e1 e2 e3 e4 e5 e6 e7 e8
  have z3 : (B (x.put 2)).size ≤ 256 := by rw [size_B]; exact put_len f 2
  have fk2 : 0 ≤ x.fd := f.fd0
  have fl2 : x.fd ≤ 255 := f.fd
  have z4 : (B (x.put 3)).size ≤ 256 := by rw [size_B]; exact put_len f 3
  have fk3 : 0 ≤ x.pg := f.pg0
  have fl3 : x.pg ≤ 255 := f.pg
  have R0 := Lib.hid (fun W => run_one W (x.d : Int) (by omega) (by omega))
  go_enter Tryd.func18, Tryd.ntmps18
  go_wp2_with fail
  refine (OF.out _).mono ?_
  rintro e w1 ⟨rfl, b1⟩
  have bb : Below w.heap.size w w1 := ((Below.refl _ w).alloc (Nat.le_refl _) _).trans (b1.mono (by simp))
  have hX : Box w1 w.heap.size x := (box_x x w).below (by simp) b1
  have hlt := hX.lt
  have c0 := hX.c0
  have k1 : KS w (w1.alloc (.cells #[.bool false, .bool false, .bool true, .bool true, .bool false, .bool false, .bool false, .bool false] 58)) w1.heap.size #[.bool false, .bool false, .bool true, .bool true, .bool false, .bool false, .bool false, .bool false] x := ⟨hX.alloc _, heap_alloc_new w1 _, hlt, bb.alloc bb.size _⟩
  have hone := R0.out (w1.alloc (.cells #[.bool false, .bool false, .bool true, .bool true, .bool false, .bool false, .bool false, .bool false] 58))
  simp only [World.size_alloc] at hone
  clear b1 hX OF bb
  go_upto_region 3 with (fail)
  have k2 := k1.later ((Below.refl _ _).alloc (Nat.le_refl _) (.cells #[.int .u8 x.d] 5))
  obtain ⟨W, hW⟩ : ∃ W, (w1.alloc (.cells #[.bool false, .bool false, .bool true, .bool true, .bool false, .bool false, .bool false, .bool false] 58)).alloc (.cells #[.int .u8 x.d] 5) = W := ⟨_, rfl⟩
  obtain ⟨bh, hbh⟩ : ∃ b, w1.heap.size = b := ⟨_, rfl⟩
  rw [hW, hbh] at k2
  rw [hW, hbh]
  clear hW hbh hlt c0 hone k1 R0
  have al := k2.l
  have alt := k2.lt
  have ac0 := k2.xb.c0
  have ac1 := k2.xb.c1
  have ac2 := k2.xb.c2
  have ac3 := k2.xb.c3
  have ac4 := k2.xb.c4
  have ac5 := k2.xb.c5
  have ac6 := k2.xb.c6
  have ah0 : W.cell? ⟨bh, 0, none⟩ = some (.bool false) := k2.h 0
  have ah1 : W.cell? ⟨bh, 1, none⟩ = some (.bool false) := k2.h 1
  have ah2 : W.cell? ⟨bh, 2, none⟩ = some (.bool true) := k2.h 2
  have ah3 : W.cell? ⟨bh, 3, none⟩ = some (.bool true) := k2.h 3
  have ah4 : W.cell? ⟨bh, 4, none⟩ = some (.bool false) := k2.h 4
  have ah5 : W.cell? ⟨bh, 5, none⟩ = some (.bool false) := k2.h 5
  have hr0 := run_one W x.fd fk2 (by omega)
  rw [show B [UInt8.ofNat x.fd.toNat] = B (x.put 2) from rfl] at hr0
  go_upto_region 9 with (fail)
  have g0 := k2.later ((Below.refl _ _).alloc (Nat.le_refl _) (.cells #[.int .u8 x.fd] 5))
  obtain ⟨v0, hv0⟩ : ∃ V, W.alloc (.cells #[.int .u8 x.fd] 5) = V := ⟨_, rfl⟩
  rw [hv0] at g0
  rw [hv0]
  clear al alt ac0 ac1 ac2 ac3 ac4 ac5 ac6 ah0 ah1 ah2 ah3 ah4 ah5
  clear hv0 k2 hr0
  have f0l := g0.l
  have f0lt := g0.lt
  have f0c0 := g0.xb.c0
  have f0c1 := g0.xb.c1
  have f0c2 := g0.xb.c2
  have f0c3 := g0.xb.c3
  have f0c4 := g0.xb.c4
  have f0c5 := g0.xb.c5
  have f0c6 := g0.xb.c6
  have f0h0 : v0.cell? ⟨bh, 0, none⟩ = some (.bool false) := g0.h 0
  have f0h1 : v0.cell? ⟨bh, 1, none⟩ = some (.bool false) := g0.h 1
  have f0h2 : v0.cell? ⟨bh, 2, none⟩ = some (.bool true) := g0.h 2
  have f0h3 : v0.cell? ⟨bh, 3, none⟩ = some (.bool true) := g0.h 3
  have f0h4 : v0.cell? ⟨bh, 4, none⟩ = some (.bool false) := g0.h 4
  have f0h5 : v0.cell? ⟨bh, 5, none⟩ = some (.bool false) := g0.h 5
  have hr1 := run_one v0 x.pg fk3 (by omega)
  rw [show B [UInt8.ofNat x.pg.toNat] = B (x.put 3) from rfl] at hr1
  go_wp2
  go_ret
  exact ⟨by rw [EN.out]; rfl, g0.bel.alloc g0.bel.size _⟩

set_option maxRecDepth 100000 in
set_option maxHeartbeats 4000000 in
theorem rput_20 (x : C) (w : World) (hd : x.d < 256) (f : x.Fits) (hof : ofV x.d = .agg #[.bool false, .bool false, .bool true, .bool false, .bool true, .bool false, .bool false, .bool false]) :
    Calls Tryd.prog 18 #[.agg #[.int .u8 x.d, .string x.p, .string x.p2, .int .i64 x.fd, .int .i64 x.pg, .int .u32 x.sz, .string x.da]] w fun e w' => e = .returned (.string (B x.bytes)) ∧ Below w.heap.size w w' := by
  have OF := Lib.hid (fun W => rof_any x.d W hd)
  rw [hof] at OF
  have ev := hof
  clear hof
  simp only [ofV, Value.agg.injEq, Array.mk.injEq, List.cons.injEq, Value.bool.injEq, and_true] at ev
  obtain ⟨e1, e2, e3, e4, e5, e6, e7, e8⟩ := ev
  have EN : Hid (B x.bytes = ((B [UInt8.ofNat x.d] ++ B (x.put 2)) ++ B (x.put 4))) := Lib.hid (by simp only [C.bytes, C.putTo, bitOf, e1, e2, e3, e4, e5, e6, B_append, Bool.false_eq_true, ↓reduceIte])
  have z0 : (B [UInt8.ofNat x.d]).size = 1 := rfl
  generalize B x.bytes = bs at *
  clear e1 e2 e3 e4 e5 e6 e7 e8
  have z3 : (B (x.put 2)).size ≤ 256 := by rw [size_B]; exact put_len f 2
  have fk2 : 0 ≤ x.fd := f.fd0
  have fl2 : x.fd ≤ 255 := f.fd
  have z5 : (B (x.put 4)).size ≤ 256 := by rw [size_B]; exact put_len f 4
  have fk4 : x.sz < 4294967296 := f.sz
  have R0 := Lib.hid (fun W => run_one W (x.d : Int) (by omega) (by omega))
  go_enter Tryd.func18, Tryd.ntmps18
  go_wp2_with fail
  refine (OF.out _).mono ?_
  rintro e w1 ⟨rfl, b1⟩
  have bb : Below w.heap.size w w1 := ((Below.refl _ w).alloc (Nat.le_refl _) _).trans (b1.mono (by simp))
  have hX : Box w1 w.heap.size x := (box_x x w).below (by simp) b1
  have hlt := hX.lt
  have c0 := hX.c0
  have k1 : KS w (w1.alloc (.cells #[.bool false, .bool false, .bool true, .bool false, .bool true, .bool false, .bool false, .bool false] 58)) w1.heap.size #[.bool false, .bool false, .bool true, .bool false, .bool true, .bool false, .bool false, .bool false] x := ⟨hX.alloc _, heap_alloc_new w1 _, hlt, bb.alloc bb.size _⟩
  have hone := R0.out (w1.alloc (.cells #[.bool false, .bool false, .bool true, .bool false, .bool true, .bool false, .bool false, .bool false] 58))
  simp only [World.size_alloc] at hone
  clear b1 hX OF bb
  go_upto_region 3 with (fail)
  have k2 := k1.later ((Below.refl _ _).alloc (Nat.le_refl _) (.cells #[.int .u8 x.d] 5))
  obtain ⟨W, hW⟩ : ∃ W, (w1.alloc (.cells #[.bool false, .bool false, .bool true, .bool false, .bool true, .bool false, .bool false, .bool false] 58)).alloc (.cells #[.int .u8 x.d] 5) = W := ⟨_, rfl⟩
  obtain ⟨bh, hbh⟩ : ∃ b, w1.heap.size = b := ⟨_, rfl⟩
  rw [hW, hbh] at k2
  rw [hW, hbh]
  clear hW hbh hlt c0 hone k1 R0
  have al := k2.l
  have alt := k2.lt
  have ac0 := k2.xb.c0
  have ac1 := k2.xb.c1
  have ac2 := k2.xb.c2
  have ac3 := k2.xb.c3
  have ac4 := k2.xb.c4
  have ac5 := k2.xb.c5
  have ac6 := k2.xb.c6
  have ah0 : W.cell? ⟨bh, 0, none⟩ = some (.bool false) := k2.h 0
  have ah1 : W.cell? ⟨bh, 1, none⟩ = some (.bool false) := k2.h 1
  have ah2 : W.cell? ⟨bh, 2, none⟩ = some (.bool true) := k2.h 2
  have ah3 : W.cell? ⟨bh, 3, none⟩ = some (.bool false) := k2.h 3
  have ah4 : W.cell? ⟨bh, 4, none⟩ = some (.bool true) := k2.h 4
  have ah5 : W.cell? ⟨bh, 5, none⟩ = some (.bool false) := k2.h 5
  have hr0 := run_one W x.fd fk2 (by omega)
  rw [show B [UInt8.ofNat x.fd.toNat] = B (x.put 2) from rfl] at hr0
  go_upto_region 9 with (fail)
  have g0 := k2.later ((Below.refl _ _).alloc (Nat.le_refl _) (.cells #[.int .u8 x.fd] 5))
  obtain ⟨v0, hv0⟩ : ∃ V, W.alloc (.cells #[.int .u8 x.fd] 5) = V := ⟨_, rfl⟩
  rw [hv0] at g0
  rw [hv0]
  clear al alt ac0 ac1 ac2 ac3 ac4 ac5 ac6 ah0 ah1 ah2 ah3 ah4 ah5
  clear hv0 k2 hr0
  have f0l := g0.l
  have f0lt := g0.lt
  have f0c0 := g0.xb.c0
  have f0c1 := g0.xb.c1
  have f0c2 := g0.xb.c2
  have f0c3 := g0.xb.c3
  have f0c4 := g0.xb.c4
  have f0c5 := g0.xb.c5
  have f0c6 := g0.xb.c6
  have f0h0 : v0.cell? ⟨bh, 0, none⟩ = some (.bool false) := g0.h 0
  have f0h1 : v0.cell? ⟨bh, 1, none⟩ = some (.bool false) := g0.h 1
  have f0h2 : v0.cell? ⟨bh, 2, none⟩ = some (.bool true) := g0.h 2
  have f0h3 : v0.cell? ⟨bh, 3, none⟩ = some (.bool false) := g0.h 3
  have f0h4 : v0.cell? ⟨bh, 4, none⟩ = some (.bool true) := g0.h 4
  have f0h5 : v0.cell? ⟨bh, 5, none⟩ = some (.bool false) := g0.h 5
  have hr1 := run_four v0 x.sz _ _ _ _ (s4a x.sz) (s4b x.sz) (s4c x.sz) (s4d x.sz fk4)
  rw [show B (numL x.sz 4) = B (x.put 4) from rfl] at hr1
  go_wp2
  go_ret
  exact ⟨by rw [EN.out]; rfl, g0.bel.alloc g0.bel.size _⟩

set_option maxRecDepth 100000 in
set_option maxHeartbeats 4000000 in
theorem rput_44 (x : C) (w : World) (hd : x.d < 256) (f : x.Fits) (hof : ofV x.d = .agg #[.bool false, .bool false, .bool true, .bool true, .bool false, .bool true, .bool false, .bool false]) :
    Calls Tryd.prog 18 #[.agg #[.int .u8 x.d, .string x.p, .string x.p2, .int .i64 x.fd, .int .i64 x.pg, .int .u32 x.sz, .string x.da]] w fun e w' => e = .returned (.string (B x.bytes)) ∧ Below w.heap.size w w' := by
  have OF := Lib.hid (fun W => rof_any x.d W hd)
  rw [hof] at OF
  have ev := hof
  clear hof
  simp only [ofV, Value.agg.injEq, Array.mk.injEq, List.cons.injEq, Value.bool.injEq, and_true] at ev
  obtain ⟨e1, e2, e3, e4, e5, e6, e7, e8⟩ := ev
  have EN : Hid (B x.bytes = (((B [UInt8.ofNat x.d] ++ B (x.put 2)) ++ B (x.put 3)) ++ B (x.put 5))) := Lib.hid (by simp only [C.bytes, C.putTo, bitOf, e1, e2, e3, e4, e5, e6, B_append, Bool.false_eq_true, ↓reduceIte])
  have z0 : (B [UInt8.ofNat x.d]).size = 1 := rfl
  generalize B x.bytes = bs at *
  clear e1 e2 e3 e4 e5 e6 e7 e8
  have z3 : (B (x.put 2)).size ≤ 256 := by rw [size_B]; exact put_len f 2
  have fk2 : 0 ≤ x.fd := f.fd0
  have fl2 : x.fd ≤ 255 := f.fd
  have z4 : (B (x.put 3)).size ≤ 256 := by rw [size_B]; exact put_len f 3
  have fk3 : 0 ≤ x.pg := f.pg0
  have fl3 : x.pg ≤ 255 := f.pg
  have z6 : (B (x.put 5)).size ≤ 256 := by rw [size_B]; exact put_len f 5
  have fk5 : x.da.size ≤ 255 := f.da
  have TX5 := Lib.hid (fun W => rtext_ok x.da W fk5)
  rw [show B (textL (L x.da)) = B (x.put 5) from rfl] at TX5
  have R0 := Lib.hid (fun W => run_one W (x.d : Int) (by omega) (by omega))
  go_enter Tryd.func18, Tryd.ntmps18
  go_wp2_with fail
  refine (OF.out _).mono ?_
  rintro e w1 ⟨rfl, b1⟩
  have bb : Below w.heap.size w w1 := ((Below.refl _ w).alloc (Nat.le_refl _) _).trans (b1.mono (by simp))
  have hX : Box w1 w.heap.size x := (box_x x w).below (by simp) b1
  have hlt := hX.lt
  have c0 := hX.c0
  have k1 : KS w (w1.alloc (.cells #[.bool false, .bool false, .bool true, .bool true, .bool false, .bool true, .bool false, .bool false] 58)) w1.heap.size #[.bool false, .bool false, .bool true, .bool true, .bool false, .bool true, .bool false, .bool false] x := ⟨hX.alloc _, heap_alloc_new w1 _, hlt, bb.alloc bb.size _⟩
  have hone := R0.out (w1.alloc (.cells #[.bool false, .bool false, .bool true, .bool true, .bool false, .bool true, .bool false, .bool false] 58))
  simp only [World.size_alloc] at hone
  clear b1 hX OF bb
  go_upto_region 3 with (fail)
  have k2 := k1.later ((Below.refl _ _).alloc (Nat.le_refl _) (.cells #[.int .u8 x.d] 5))
  obtain ⟨W, hW⟩ : ∃ W, (w1.alloc (.cells #[.bool false, .bool false, .bool true, .bool true, .bool false, .bool true, .bool false, .bool false] 58)).alloc (.cells #[.int .u8 x.d] 5) = W := ⟨_, rfl⟩
  obtain ⟨bh, hbh⟩ : ∃ b, w1.heap.size = b := ⟨_, rfl⟩
  rw [hW, hbh] at k2
  rw [hW, hbh]
  clear hW hbh hlt c0 hone k1 R0
  have al := k2.l
  have alt := k2.lt
  have ac0 := k2.xb.c0
  have ac1 := k2.xb.c1
  have ac2 := k2.xb.c2
  have ac3 := k2.xb.c3
  have ac4 := k2.xb.c4
  have ac5 := k2.xb.c5
  have ac6 := k2.xb.c6
  have ah0 : W.cell? ⟨bh, 0, none⟩ = some (.bool false) := k2.h 0
  have ah1 : W.cell? ⟨bh, 1, none⟩ = some (.bool false) := k2.h 1
  have ah2 : W.cell? ⟨bh, 2, none⟩ = some (.bool true) := k2.h 2
  have ah3 : W.cell? ⟨bh, 3, none⟩ = some (.bool true) := k2.h 3
  have ah4 : W.cell? ⟨bh, 4, none⟩ = some (.bool false) := k2.h 4
  have ah5 : W.cell? ⟨bh, 5, none⟩ = some (.bool true) := k2.h 5
  have hr0 := run_one W x.fd fk2 (by omega)
  rw [show B [UInt8.ofNat x.fd.toNat] = B (x.put 2) from rfl] at hr0
  go_upto_region 9 with (fail)
  have g0 := k2.later ((Below.refl _ _).alloc (Nat.le_refl _) (.cells #[.int .u8 x.fd] 5))
  obtain ⟨v0, hv0⟩ : ∃ V, W.alloc (.cells #[.int .u8 x.fd] 5) = V := ⟨_, rfl⟩
  rw [hv0] at g0
  rw [hv0]
  clear al alt ac0 ac1 ac2 ac3 ac4 ac5 ac6 ah0 ah1 ah2 ah3 ah4 ah5
  clear hv0 k2 hr0
  have f0l := g0.l
  have f0lt := g0.lt
  have f0c0 := g0.xb.c0
  have f0c1 := g0.xb.c1
  have f0c2 := g0.xb.c2
  have f0c3 := g0.xb.c3
  have f0c4 := g0.xb.c4
  have f0c5 := g0.xb.c5
  have f0c6 := g0.xb.c6
  have f0h0 : v0.cell? ⟨bh, 0, none⟩ = some (.bool false) := g0.h 0
  have f0h1 : v0.cell? ⟨bh, 1, none⟩ = some (.bool false) := g0.h 1
  have f0h2 : v0.cell? ⟨bh, 2, none⟩ = some (.bool true) := g0.h 2
  have f0h3 : v0.cell? ⟨bh, 3, none⟩ = some (.bool true) := g0.h 3
  have f0h4 : v0.cell? ⟨bh, 4, none⟩ = some (.bool false) := g0.h 4
  have f0h5 : v0.cell? ⟨bh, 5, none⟩ = some (.bool true) := g0.h 5
  have hr1 := run_one v0 x.pg fk3 (by omega)
  rw [show B [UInt8.ofNat x.pg.toNat] = B (x.put 3) from rfl] at hr1
  go_upto_region 11 with (fail)
  have g1 := g0.later ((Below.refl _ _).alloc (Nat.le_refl _) (.cells #[.int .u8 x.pg] 5))
  obtain ⟨v1, hv1⟩ : ∃ V, v0.alloc (.cells #[.int .u8 x.pg] 5) = V := ⟨_, rfl⟩
  rw [hv1] at g1
  rw [hv1]
  clear f0l f0lt f0c0 f0c1 f0c2 f0c3 f0c4 f0c5 f0c6 f0h0 f0h1 f0h2 f0h3 f0h4 f0h5
  clear hv1 g0 hr1
  have f1l := g1.l
  have f1lt := g1.lt
  have f1c0 := g1.xb.c0
  have f1c1 := g1.xb.c1
  have f1c2 := g1.xb.c2
  have f1c3 := g1.xb.c3
  have f1c4 := g1.xb.c4
  have f1c5 := g1.xb.c5
  have f1c6 := g1.xb.c6
  have f1h0 : v1.cell? ⟨bh, 0, none⟩ = some (.bool false) := g1.h 0
  have f1h1 : v1.cell? ⟨bh, 1, none⟩ = some (.bool false) := g1.h 1
  have f1h2 : v1.cell? ⟨bh, 2, none⟩ = some (.bool true) := g1.h 2
  have f1h3 : v1.cell? ⟨bh, 3, none⟩ = some (.bool true) := g1.h 3
  have f1h4 : v1.cell? ⟨bh, 4, none⟩ = some (.bool false) := g1.h 4
  have f1h5 : v1.cell? ⟨bh, 5, none⟩ = some (.bool true) := g1.h 5
  go_wp2_with fail
  refine (TX5.out _).mono ?_
  rintro e v2 ⟨rfl, b2⟩
  have g2 := g1.later b2
  clear f1l f1lt f1c0 f1c1 f1c2 f1c3 f1c4 f1c5 f1c6 f1h0 f1h1 f1h2 f1h3 f1h4 f1h5
  clear b2 g1
  have f2l := g2.l
  have f2lt := g2.lt
  have f2c0 := g2.xb.c0
  have f2c1 := g2.xb.c1
  have f2c2 := g2.xb.c2
  have f2c3 := g2.xb.c3
  have f2c4 := g2.xb.c4
  have f2c5 := g2.xb.c5
  have f2c6 := g2.xb.c6
  have f2h0 : v2.cell? ⟨bh, 0, none⟩ = some (.bool false) := g2.h 0
  have f2h1 : v2.cell? ⟨bh, 1, none⟩ = some (.bool false) := g2.h 1
  have f2h2 : v2.cell? ⟨bh, 2, none⟩ = some (.bool true) := g2.h 2
  have f2h3 : v2.cell? ⟨bh, 3, none⟩ = some (.bool true) := g2.h 3
  have f2h4 : v2.cell? ⟨bh, 4, none⟩ = some (.bool false) := g2.h 4
  have f2h5 : v2.cell? ⟨bh, 5, none⟩ = some (.bool true) := g2.h 5
  go_wp2
  go_ret
  exact ⟨by rw [EN.out]; rfl, g2.bel⟩

set_option maxRecDepth 100000 in
set_option maxHeartbeats 4000000 in
theorem rput_1 (x : C) (w : World) (hd : x.d < 256) (f : x.Fits) (hof : ofV x.d = .agg #[.bool true, .bool false, .bool false, .bool false, .bool false, .bool false, .bool false, .bool false]) :
    Calls Tryd.prog 18 #[.agg #[.int .u8 x.d, .string x.p, .string x.p2, .int .i64 x.fd, .int .i64 x.pg, .int .u32 x.sz, .string x.da]] w fun e w' => e = .returned (.string (B x.bytes)) ∧ Below w.heap.size w w' := by
  have OF := Lib.hid (fun W => rof_any x.d W hd)
  rw [hof] at OF
  have ev := hof
  clear hof
  simp only [ofV, Value.agg.injEq, Array.mk.injEq, List.cons.injEq, Value.bool.injEq, and_true] at ev
  obtain ⟨e1, e2, e3, e4, e5, e6, e7, e8⟩ := ev
  have EN : Hid (B x.bytes = (B [UInt8.ofNat x.d] ++ B (x.put 0))) := Lib.hid (by simp only [C.bytes, C.putTo, bitOf, e1, e2, e3, e4, e5, e6, B_append, Bool.false_eq_true, ↓reduceIte])
  have z0 : (B [UInt8.ofNat x.d]).size = 1 := rfl
  generalize B x.bytes = bs at *
  clear e1 e2 e3 e4 e5 e6 e7 e8
  have z1 : (B (x.put 0)).size ≤ 256 := by rw [size_B]; exact put_len f 0
  have fk0 : x.p.size ≤ 255 := f.p
  have TX0 := Lib.hid (fun W => rtext_ok x.p W fk0)
  rw [show B (textL (L x.p)) = B (x.put 0) from rfl] at TX0
  have R0 := Lib.hid (fun W => run_one W (x.d : Int) (by omega) (by omega))
  go_enter Tryd.func18, Tryd.ntmps18
  go_wp2_with fail
  refine (OF.out _).mono ?_
  rintro e w1 ⟨rfl, b1⟩
  have bb : Below w.heap.size w w1 := ((Below.refl _ w).alloc (Nat.le_refl _) _).trans (b1.mono (by simp))
  have hX : Box w1 w.heap.size x := (box_x x w).below (by simp) b1
  have hlt := hX.lt
  have c0 := hX.c0
  have k1 : KS w (w1.alloc (.cells #[.bool true, .bool false, .bool false, .bool false, .bool false, .bool false, .bool false, .bool false] 58)) w1.heap.size #[.bool true, .bool false, .bool false, .bool false, .bool false, .bool false, .bool false, .bool false] x := ⟨hX.alloc _, heap_alloc_new w1 _, hlt, bb.alloc bb.size _⟩
  have hone := R0.out (w1.alloc (.cells #[.bool true, .bool false, .bool false, .bool false, .bool false, .bool false, .bool false, .bool false] 58))
  simp only [World.size_alloc] at hone
  clear b1 hX OF bb
  go_upto_region 3 with (fail)
  have k2 := k1.later ((Below.refl _ _).alloc (Nat.le_refl _) (.cells #[.int .u8 x.d] 5))
  obtain ⟨W, hW⟩ : ∃ W, (w1.alloc (.cells #[.bool true, .bool false, .bool false, .bool false, .bool false, .bool false, .bool false, .bool false] 58)).alloc (.cells #[.int .u8 x.d] 5) = W := ⟨_, rfl⟩
  obtain ⟨bh, hbh⟩ : ∃ b, w1.heap.size = b := ⟨_, rfl⟩
  rw [hW, hbh] at k2
  rw [hW, hbh]
  clear hW hbh hlt c0 hone k1 R0
  have al := k2.l
  have alt := k2.lt
  have ac0 := k2.xb.c0
  have ac1 := k2.xb.c1
  have ac2 := k2.xb.c2
  have ac3 := k2.xb.c3
  have ac4 := k2.xb.c4
  have ac5 := k2.xb.c5
  have ac6 := k2.xb.c6
  have ah0 : W.cell? ⟨bh, 0, none⟩ = some (.bool true) := k2.h 0
  have ah1 : W.cell? ⟨bh, 1, none⟩ = some (.bool false) := k2.h 1
  have ah2 : W.cell? ⟨bh, 2, none⟩ = some (.bool false) := k2.h 2
  have ah3 : W.cell? ⟨bh, 3, none⟩ = some (.bool false) := k2.h 3
  have ah4 : W.cell? ⟨bh, 4, none⟩ = some (.bool false) := k2.h 4
  have ah5 : W.cell? ⟨bh, 5, none⟩ = some (.bool false) := k2.h 5
  go_wp2_with fail
  refine (TX0.out _).mono ?_
  rintro e v0 ⟨rfl, b0⟩
  have g0 := k2.later b0
  clear al alt ac0 ac1 ac2 ac3 ac4 ac5 ac6 ah0 ah1 ah2 ah3 ah4 ah5
  clear b0 k2
  have f0l := g0.l
  have f0lt := g0.lt
  have f0c0 := g0.xb.c0
  have f0c1 := g0.xb.c1
  have f0c2 := g0.xb.c2
  have f0c3 := g0.xb.c3
  have f0c4 := g0.xb.c4
  have f0c5 := g0.xb.c5
  have f0c6 := g0.xb.c6
  have f0h0 : v0.cell? ⟨bh, 0, none⟩ = some (.bool true) := g0.h 0
  have f0h1 : v0.cell? ⟨bh, 1, none⟩ = some (.bool false) := g0.h 1
  have f0h2 : v0.cell? ⟨bh, 2, none⟩ = some (.bool false) := g0.h 2
  have f0h3 : v0.cell? ⟨bh, 3, none⟩ = some (.bool false) := g0.h 3
  have f0h4 : v0.cell? ⟨bh, 4, none⟩ = some (.bool false) := g0.h 4
  have f0h5 : v0.cell? ⟨bh, 5, none⟩ = some (.bool false) := g0.h 5
  go_wp2
  go_ret
  exact ⟨by rw [EN.out]; rfl, g0.bel⟩

set_option maxRecDepth 100000 in
set_option maxHeartbeats 4000000 in
theorem rput_65 (x : C) (w : World) (hd : x.d < 256) (f : x.Fits) (hof : ofV x.d = .agg #[.bool true, .bool false, .bool false, .bool false, .bool false, .bool false, .bool true, .bool false]) :
    Calls Tryd.prog 18 #[.agg #[.int .u8 x.d, .string x.p, .string x.p2, .int .i64 x.fd, .int .i64 x.pg, .int .u32 x.sz, .string x.da]] w fun e w' => e = .returned (.string (B x.bytes)) ∧ Below w.heap.size w w' := by
  have OF := Lib.hid (fun W => rof_any x.d W hd)
  rw [hof] at OF
  have ev := hof
  clear hof
  simp only [ofV, Value.agg.injEq, Array.mk.injEq, List.cons.injEq, Value.bool.injEq, and_true] at ev
  obtain ⟨e1, e2, e3, e4, e5, e6, e7, e8⟩ := ev
  have EN : Hid (B x.bytes = (B [UInt8.ofNat x.d] ++ B (x.put 0))) := Lib.hid (by simp only [C.bytes, C.putTo, bitOf, e1, e2, e3, e4, e5, e6, B_append, Bool.false_eq_true, ↓reduceIte])
  have z0 : (B [UInt8.ofNat x.d]).size = 1 := rfl
  generalize B x.bytes = bs at *
  clear e1 e2 e3 e4 e5 e6 e7 e8
  have z1 : (B (x.put 0)).size ≤ 256 := by rw [size_B]; exact put_len f 0
  have fk0 : x.p.size ≤ 255 := f.p
  have TX0 := Lib.hid (fun W => rtext_ok x.p W fk0)
  rw [show B (textL (L x.p)) = B (x.put 0) from rfl] at TX0
  have R0 := Lib.hid (fun W => run_one W (x.d : Int) (by omega) (by omega))
  go_enter Tryd.func18, Tryd.ntmps18
  go_wp2_with fail
  refine (OF.out _).mono ?_
  rintro e w1 ⟨rfl, b1⟩
  have bb : Below w.heap.size w w1 := ((Below.refl _ w).alloc (Nat.le_refl _) _).trans (b1.mono (by simp))
  have hX : Box w1 w.heap.size x := (box_x x w).below (by simp) b1
  have hlt := hX.lt
  have c0 := hX.c0
  have k1 : KS w (w1.alloc (.cells #[.bool true, .bool false, .bool false, .bool false, .bool false, .bool false, .bool true, .bool false] 58)) w1.heap.size #[.bool true, .bool false, .bool false, .bool false, .bool false, .bool false, .bool true, .bool false] x := ⟨hX.alloc _, heap_alloc_new w1 _, hlt, bb.alloc bb.size _⟩
  have hone := R0.out (w1.alloc (.cells #[.bool true, .bool false, .bool false, .bool false, .bool false, .bool false, .bool true, .bool false] 58))
  simp only [World.size_alloc] at hone
  clear b1 hX OF bb
  go_upto_region 3 with (fail)
  have k2 := k1.later ((Below.refl _ _).alloc (Nat.le_refl _) (.cells #[.int .u8 x.d] 5))
  obtain ⟨W, hW⟩ : ∃ W, (w1.alloc (.cells #[.bool true, .bool false, .bool false, .bool false, .bool false, .bool false, .bool true, .bool false] 58)).alloc (.cells #[.int .u8 x.d] 5) = W := ⟨_, rfl⟩
  obtain ⟨bh, hbh⟩ : ∃ b, w1.heap.size = b := ⟨_, rfl⟩
  rw [hW, hbh] at k2
  rw [hW, hbh]
  clear hW hbh hlt c0 hone k1 R0
  have al := k2.l
  have alt := k2.lt
  have ac0 := k2.xb.c0
  have ac1 := k2.xb.c1
  have ac2 := k2.xb.c2
  have ac3 := k2.xb.c3
  have ac4 := k2.xb.c4
  have ac5 := k2.xb.c5
  have ac6 := k2.xb.c6
  have ah0 : W.cell? ⟨bh, 0, none⟩ = some (.bool true) := k2.h 0
  have ah1 : W.cell? ⟨bh, 1, none⟩ = some (.bool false) := k2.h 1
  have ah2 : W.cell? ⟨bh, 2, none⟩ = some (.bool false) := k2.h 2
  have ah3 : W.cell? ⟨bh, 3, none⟩ = some (.bool false) := k2.h 3
  have ah4 : W.cell? ⟨bh, 4, none⟩ = some (.bool false) := k2.h 4
  have ah5 : W.cell? ⟨bh, 5, none⟩ = some (.bool false) := k2.h 5
  go_wp2_with fail
  refine (TX0.out _).mono ?_
  rintro e v0 ⟨rfl, b0⟩
  have g0 := k2.later b0
  clear al alt ac0 ac1 ac2 ac3 ac4 ac5 ac6 ah0 ah1 ah2 ah3 ah4 ah5
  clear b0 k2
  have f0l := g0.l
  have f0lt := g0.lt
  have f0c0 := g0.xb.c0
  have f0c1 := g0.xb.c1
  have f0c2 := g0.xb.c2
  have f0c3 := g0.xb.c3
  have f0c4 := g0.xb.c4
  have f0c5 := g0.xb.c5
  have f0c6 := g0.xb.c6
  have f0h0 : v0.cell? ⟨bh, 0, none⟩ = some (.bool true) := g0.h 0
  have f0h1 : v0.cell? ⟨bh, 1, none⟩ = some (.bool false) := g0.h 1
  have f0h2 : v0.cell? ⟨bh, 2, none⟩ = some (.bool false) := g0.h 2
  have f0h3 : v0.cell? ⟨bh, 3, none⟩ = some (.bool false) := g0.h 3
  have f0h4 : v0.cell? ⟨bh, 4, none⟩ = some (.bool false) := g0.h 4
  have f0h5 : v0.cell? ⟨bh, 5, none⟩ = some (.bool false) := g0.h 5
  go_wp2
  go_ret
  exact ⟨by rw [EN.out]; rfl, g0.bel⟩

set_option maxRecDepth 100000 in
set_option maxHeartbeats 4000000 in
theorem rput_131 (x : C) (w : World) (hd : x.d < 256) (f : x.Fits) (hof : ofV x.d = .agg #[.bool true, .bool true, .bool false, .bool false, .bool false, .bool false, .bool false, .bool true]) :
    Calls Tryd.prog 18 #[.agg #[.int .u8 x.d, .string x.p, .string x.p2, .int .i64 x.fd, .int .i64 x.pg, .int .u32 x.sz, .string x.da]] w fun e w' => e = .returned (.string (B x.bytes)) ∧ Below w.heap.size w w' := by
  have OF := Lib.hid (fun W => rof_any x.d W hd)
  rw [hof] at OF
  have ev := hof
  clear hof
  simp only [ofV, Value.agg.injEq, Array.mk.injEq, List.cons.injEq, Value.bool.injEq, and_true] at ev
  obtain ⟨e1, e2, e3, e4, e5, e6, e7, e8⟩ := ev
  have EN : Hid (B x.bytes = ((B [UInt8.ofNat x.d] ++ B (x.put 0)) ++ B (x.put 1))) := Lib.hid (by simp only [C.bytes, C.putTo, bitOf, e1, e2, e3, e4, e5, e6, B_append, Bool.false_eq_true, ↓reduceIte])
  have z0 : (B [UInt8.ofNat x.d]).size = 1 := rfl
  generalize B x.bytes = bs at *
  clear e1 e2 e3 e4 e5 e6 e7 e8
  have z1 : (B (x.put 0)).size ≤ 256 := by rw [size_B]; exact put_len f 0
  have fk0 : x.p.size ≤ 255 := f.p
  have TX0 := Lib.hid (fun W => rtext_ok x.p W fk0)
  rw [show B (textL (L x.p)) = B (x.put 0) from rfl] at TX0
  have z2 : (B (x.put 1)).size ≤ 256 := by rw [size_B]; exact put_len f 1
  have fk1 : x.p2.size ≤ 255 := f.p2
  have TX1 := Lib.hid (fun W => rtext_ok x.p2 W fk1)
  rw [show B (textL (L x.p2)) = B (x.put 1) from rfl] at TX1
  have R0 := Lib.hid (fun W => run_one W (x.d : Int) (by omega) (by omega))
  go_enter Tryd.func18, Tryd.ntmps18
  go_wp2_with fail
  refine (OF.out _).mono ?_
  rintro e w1 ⟨rfl, b1⟩
  have bb : Below w.heap.size w w1 := ((Below.refl _ w).alloc (Nat.le_refl _) _).trans (b1.mono (by simp))
  have hX : Box w1 w.heap.size x := (box_x x w).below (by simp) b1
  have hlt := hX.lt
  have c0 := hX.c0
  have k1 : KS w (w1.alloc (.cells #[.bool true, .bool true, .bool false, .bool false, .bool false, .bool false, .bool false, .bool true] 58)) w1.heap.size #[.bool true, .bool true, .bool false, .bool false, .bool false, .bool false, .bool false, .bool true] x := ⟨hX.alloc _, heap_alloc_new w1 _, hlt, bb.alloc bb.size _⟩
  have hone := R0.out (w1.alloc (.cells #[.bool true, .bool true, .bool false, .bool false, .bool false, .bool false, .bool false, .bool true] 58))
  simp only [World.size_alloc] at hone
  clear b1 hX OF bb
  go_upto_region 3 with (fail)
  have k2 := k1.later ((Below.refl _ _).alloc (Nat.le_refl _) (.cells #[.int .u8 x.d] 5))
  obtain ⟨W, hW⟩ : ∃ W, (w1.alloc (.cells #[.bool true, .bool true, .bool false, .bool false, .bool false, .bool false, .bool false, .bool true] 58)).alloc (.cells #[.int .u8 x.d] 5) = W := ⟨_, rfl⟩
  obtain ⟨bh, hbh⟩ : ∃ b, w1.heap.size = b := ⟨_, rfl⟩
  rw [hW, hbh] at k2
  rw [hW, hbh]
  clear hW hbh hlt c0 hone k1 R0
  have al := k2.l
  have alt := k2.lt
  have ac0 := k2.xb.c0
  have ac1 := k2.xb.c1
  have ac2 := k2.xb.c2
  have ac3 := k2.xb.c3
  have ac4 := k2.xb.c4
  have ac5 := k2.xb.c5
  have ac6 := k2.xb.c6
  have ah0 : W.cell? ⟨bh, 0, none⟩ = some (.bool true) := k2.h 0
  have ah1 : W.cell? ⟨bh, 1, none⟩ = some (.bool true) := k2.h 1
  have ah2 : W.cell? ⟨bh, 2, none⟩ = some (.bool false) := k2.h 2
  have ah3 : W.cell? ⟨bh, 3, none⟩ = some (.bool false) := k2.h 3
  have ah4 : W.cell? ⟨bh, 4, none⟩ = some (.bool false) := k2.h 4
  have ah5 : W.cell? ⟨bh, 5, none⟩ = some (.bool false) := k2.h 5
  go_wp2_with fail
  refine (TX0.out _).mono ?_
  rintro e v0 ⟨rfl, b0⟩
  have g0 := k2.later b0
  clear al alt ac0 ac1 ac2 ac3 ac4 ac5 ac6 ah0 ah1 ah2 ah3 ah4 ah5
  clear b0 k2
  have f0l := g0.l
  have f0lt := g0.lt
  have f0c0 := g0.xb.c0
  have f0c1 := g0.xb.c1
  have f0c2 := g0.xb.c2
  have f0c3 := g0.xb.c3
  have f0c4 := g0.xb.c4
  have f0c5 := g0.xb.c5
  have f0c6 := g0.xb.c6
  have f0h0 : v0.cell? ⟨bh, 0, none⟩ = some (.bool true) := g0.h 0
  have f0h1 : v0.cell? ⟨bh, 1, none⟩ = some (.bool true) := g0.h 1
  have f0h2 : v0.cell? ⟨bh, 2, none⟩ = some (.bool false) := g0.h 2
  have f0h3 : v0.cell? ⟨bh, 3, none⟩ = some (.bool false) := g0.h 3
  have f0h4 : v0.cell? ⟨bh, 4, none⟩ = some (.bool false) := g0.h 4
  have f0h5 : v0.cell? ⟨bh, 5, none⟩ = some (.bool false) := g0.h 5
  go_wp2_with fail
  refine (TX1.out _).mono ?_
  rintro e v1 ⟨rfl, b1⟩
  have g1 := g0.later b1
  clear f0l f0lt f0c0 f0c1 f0c2 f0c3 f0c4 f0c5 f0c6 f0h0 f0h1 f0h2 f0h3 f0h4 f0h5
  clear b1 g0
  have f1l := g1.l
  have f1lt := g1.lt
  have f1c0 := g1.xb.c0
  have f1c1 := g1.xb.c1
  have f1c2 := g1.xb.c2
  have f1c3 := g1.xb.c3
  have f1c4 := g1.xb.c4
  have f1c5 := g1.xb.c5
  have f1c6 := g1.xb.c6
  have f1h0 : v1.cell? ⟨bh, 0, none⟩ = some (.bool true) := g1.h 0
  have f1h1 : v1.cell? ⟨bh, 1, none⟩ = some (.bool true) := g1.h 1
  have f1h2 : v1.cell? ⟨bh, 2, none⟩ = some (.bool false) := g1.h 2
  have f1h3 : v1.cell? ⟨bh, 3, none⟩ = some (.bool false) := g1.h 3
  have f1h4 : v1.cell? ⟨bh, 4, none⟩ = some (.bool false) := g1.h 4
  have f1h5 : v1.cell? ⟨bh, 5, none⟩ = some (.bool false) := g1.h 5
  go_wp2
  go_ret
  exact ⟨by rw [EN.out]; rfl, g1.bel⟩

set_option maxRecDepth 100000 in
set_option maxHeartbeats 4000000 in
theorem rput_195 (x : C) (w : World) (hd : x.d < 256) (f : x.Fits) (hof : ofV x.d = .agg #[.bool true, .bool true, .bool false, .bool false, .bool false, .bool false, .bool true, .bool true]) :
    Calls Tryd.prog 18 #[.agg #[.int .u8 x.d, .string x.p, .string x.p2, .int .i64 x.fd, .int .i64 x.pg, .int .u32 x.sz, .string x.da]] w fun e w' => e = .returned (.string (B x.bytes)) ∧ Below w.heap.size w w' := by
  have OF := Lib.hid (fun W => rof_any x.d W hd)
  rw [hof] at OF
  have ev := hof
  clear hof
  simp only [ofV, Value.agg.injEq, Array.mk.injEq, List.cons.injEq, Value.bool.injEq, and_true] at ev
  obtain ⟨e1, e2, e3, e4, e5, e6, e7, e8⟩ := ev
  have EN : Hid (B x.bytes = ((B [UInt8.ofNat x.d] ++ B (x.put 0)) ++ B (x.put 1))) := Lib.hid (by simp only [C.bytes, C.putTo, bitOf, e1, e2, e3, e4, e5, e6, B_append, Bool.false_eq_true, ↓reduceIte])
  have z0 : (B [UInt8.ofNat x.d]).size = 1 := rfl
  generalize B x.bytes = bs at *
  clear e1 e2 e3 e4 e5 e6 e7 e8
  have z1 : (B (x.put 0)).size ≤ 256 := by rw [size_B]; exact put_len f 0
  have fk0 : x.p.size ≤ 255 := f.p
  have TX0 := Lib.hid (fun W => rtext_ok x.p W fk0)
  rw [show B (textL (L x.p)) = B (x.put 0) from rfl] at TX0
  have z2 : (B (x.put 1)).size ≤ 256 := by rw [size_B]; exact put_len f 1
  have fk1 : x.p2.size ≤ 255 := f.p2
  have TX1 := Lib.hid (fun W => rtext_ok x.p2 W fk1)
  rw [show B (textL (L x.p2)) = B (x.put 1) from rfl] at TX1
  have R0 := Lib.hid (fun W => run_one W (x.d : Int) (by omega) (by omega))
  go_enter Tryd.func18, Tryd.ntmps18
  go_wp2_with fail
  refine (OF.out _).mono ?_
  rintro e w1 ⟨rfl, b1⟩
  have bb : Below w.heap.size w w1 := ((Below.refl _ w).alloc (Nat.le_refl _) _).trans (b1.mono (by simp))
  have hX : Box w1 w.heap.size x := (box_x x w).below (by simp) b1
  have hlt := hX.lt
  have c0 := hX.c0
  have k1 : KS w (w1.alloc (.cells #[.bool true, .bool true, .bool false, .bool false, .bool false, .bool false, .bool true, .bool true] 58)) w1.heap.size #[.bool true, .bool true, .bool false, .bool false, .bool false, .bool false, .bool true, .bool true] x := ⟨hX.alloc _, heap_alloc_new w1 _, hlt, bb.alloc bb.size _⟩
  have hone := R0.out (w1.alloc (.cells #[.bool true, .bool true, .bool false, .bool false, .bool false, .bool false, .bool true, .bool true] 58))
  simp only [World.size_alloc] at hone
  clear b1 hX OF bb
  go_upto_region 3 with (fail)
  have k2 := k1.later ((Below.refl _ _).alloc (Nat.le_refl _) (.cells #[.int .u8 x.d] 5))
  obtain ⟨W, hW⟩ : ∃ W, (w1.alloc (.cells #[.bool true, .bool true, .bool false, .bool false, .bool false, .bool false, .bool true, .bool true] 58)).alloc (.cells #[.int .u8 x.d] 5) = W := ⟨_, rfl⟩
  obtain ⟨bh, hbh⟩ : ∃ b, w1.heap.size = b := ⟨_, rfl⟩
  rw [hW, hbh] at k2
  rw [hW, hbh]
  clear hW hbh hlt c0 hone k1 R0
  have al := k2.l
  have alt := k2.lt
  have ac0 := k2.xb.c0
  have ac1 := k2.xb.c1
  have ac2 := k2.xb.c2
  have ac3 := k2.xb.c3
  have ac4 := k2.xb.c4
  have ac5 := k2.xb.c5
  have ac6 := k2.xb.c6
  have ah0 : W.cell? ⟨bh, 0, none⟩ = some (.bool true) := k2.h 0
  have ah1 : W.cell? ⟨bh, 1, none⟩ = some (.bool true) := k2.h 1
  have ah2 : W.cell? ⟨bh, 2, none⟩ = some (.bool false) := k2.h 2
  have ah3 : W.cell? ⟨bh, 3, none⟩ = some (.bool false) := k2.h 3
  have ah4 : W.cell? ⟨bh, 4, none⟩ = some (.bool false) := k2.h 4
  have ah5 : W.cell? ⟨bh, 5, none⟩ = some (.bool false) := k2.h 5
  go_wp2_with fail
  refine (TX0.out _).mono ?_
  rintro e v0 ⟨rfl, b0⟩
  have g0 := k2.later b0
  clear al alt ac0 ac1 ac2 ac3 ac4 ac5 ac6 ah0 ah1 ah2 ah3 ah4 ah5
  clear b0 k2
  have f0l := g0.l
  have f0lt := g0.lt
  have f0c0 := g0.xb.c0
  have f0c1 := g0.xb.c1
  have f0c2 := g0.xb.c2
  have f0c3 := g0.xb.c3
  have f0c4 := g0.xb.c4
  have f0c5 := g0.xb.c5
  have f0c6 := g0.xb.c6
  have f0h0 : v0.cell? ⟨bh, 0, none⟩ = some (.bool true) := g0.h 0
  have f0h1 : v0.cell? ⟨bh, 1, none⟩ = some (.bool true) := g0.h 1
  have f0h2 : v0.cell? ⟨bh, 2, none⟩ = some (.bool false) := g0.h 2
  have f0h3 : v0.cell? ⟨bh, 3, none⟩ = some (.bool false) := g0.h 3
  have f0h4 : v0.cell? ⟨bh, 4, none⟩ = some (.bool false) := g0.h 4
  have f0h5 : v0.cell? ⟨bh, 5, none⟩ = some (.bool false) := g0.h 5
  go_wp2_with fail
  refine (TX1.out _).mono ?_
  rintro e v1 ⟨rfl, b1⟩
  have g1 := g0.later b1
  clear f0l f0lt f0c0 f0c1 f0c2 f0c3 f0c4 f0c5 f0c6 f0h0 f0h1 f0h2 f0h3 f0h4 f0h5
  clear b1 g0
  have f1l := g1.l
  have f1lt := g1.lt
  have f1c0 := g1.xb.c0
  have f1c1 := g1.xb.c1
  have f1c2 := g1.xb.c2
  have f1c3 := g1.xb.c3
  have f1c4 := g1.xb.c4
  have f1c5 := g1.xb.c5
  have f1c6 := g1.xb.c6
  have f1h0 : v1.cell? ⟨bh, 0, none⟩ = some (.bool true) := g1.h 0
  have f1h1 : v1.cell? ⟨bh, 1, none⟩ = some (.bool true) := g1.h 1
  have f1h2 : v1.cell? ⟨bh, 2, none⟩ = some (.bool false) := g1.h 2
  have f1h3 : v1.cell? ⟨bh, 3, none⟩ = some (.bool false) := g1.h 3
  have f1h4 : v1.cell? ⟨bh, 4, none⟩ = some (.bool false) := g1.h 4
  have f1h5 : v1.cell? ⟨bh, 5, none⟩ = some (.bool false) := g1.h 5
  go_wp2
  go_ret
  exact ⟨by rw [EN.out]; rfl, g1.bel⟩

theorem rput_any (x : C) (w : World) (h : x.checkE = 0) : Calls Tryd.prog 18 #[.agg #[.int .u8 x.d, .string x.p, .string x.p2, .int .i64 x.fd, .int .i64 x.pg, .int .u32 x.sz, .string x.da]] w fun e w' => e = .returned (.string (B x.bytes)) ∧ Below w.heap.size w w' := by
  have f := check_fits h
  obtain ⟨h1, h2, _⟩ := check_yes h
  obtain hx | hx | hx | hx | hx | hx | hx | hx | hx | hx | hx | hx | hx | hx | hx : x.d = 1 ∨ x.d = 2 ∨ x.d = 3 ∨ x.d = 4 ∨ x.d = 5 ∨ x.d = 6 ∨ x.d = 7 ∨ x.d = 8 ∨ x.d = 9 ∨ x.d = 10 ∨ x.d = 11 ∨ x.d = 12 ∨ x.d = 13 ∨ x.d = 14 ∨ x.d = 15 := by omega
  · exact rput_1 x w (by omega) f (by rw [hx]; exact ofV1)
  · exact rput_65 x w (by omega) f (by rw [hx]; exact ofV2)
  · exact rput_12 x w (by omega) f (by rw [hx]; exact ofV3)
  · exact rput_44 x w (by omega) f (by rw [hx]; exact ofV4)
  · exact rput_20 x w (by omega) f (by rw [hx]; exact ofV5)
  · exact rput_131 x w (by omega) f (by rw [hx]; exact ofV6)
  · exact rput_65 x w (by omega) f (by rw [hx]; exact ofV7)
  · exact rput_195 x w (by omega) f (by rw [hx]; exact ofV8)
  · exact rput_65 x w (by omega) f (by rw [hx]; exact ofV9)
  · exact rput_65 x w (by omega) f (by rw [hx]; exact ofV10)
  · exact rput_1 x w (by omega) f (by rw [hx]; exact ofV11)
  · exact rput_1 x w (by omega) f (by rw [hx]; exact ofV12)
  · exact rput_4 x w (by omega) f (by rw [hx]; exact ofV13)
  · exact rput_4 x w (by omega) f (by rw [hx]; exact ofV14)
  · exact rput_0 x w (by omega) f (by rw [hx]; exact ofV15)

end Go.Proofs.YtfdclifdemajfaaDoor.Call
