/- The law TextHeard: the walk. -/
import Derived.Test.YtkljcgopikdjjaaGreatDoorM42
import Derived.Test.YtkljcgopikdjjaaGreatDoorM37
import Derived.Test.YtkljcgopikdjjaaGreatDoorM35
set_option linter.unusedVariables false
set_option linter.unusedSimpArgs false
set_option maxRecDepth 100000
section
namespace Go.Proofs.YtkljcgopikdjjaaGreatDoor.Tx
set_option maxRecDepth 100000
set_option maxHeartbeats 4000000
open Go.RowKit Go.Shelf Go.Maps Oct
theorem stepL_some {l : List UInt8} {x : M} (h : stepL mayM l = some x) : lineL x = l ∧ mayM x = true := by
 unfold stepL at h
 split at h
 · rename_i y hy
   split at h
   · rename_i hm
     cases h;exact ⟨(line_step l _ hy).1, hm⟩
   · cases h
 · cases h
theorem heard_law (s : ByteArray) (w : World) (hl : Lay w) : Calls Tryz.prog 6 #[.string s] w fun e w' => e = .returned (.bool true) ∧ Below w.heap.size w w' := by
 have HL := Lib.hid hl;have AL := Lib.hid alive37;clear hl
 by_cases hbig : 4096 < s.size
 · have t1 : (4096 : Int) < s.size := by omega
   go_enter Tryz.func6, Tryz.ntmps6
   go_wp2_with fail;refine (AL.out _ HL.out).mono ?_;rintro e w3 ⟨rfl, b3⟩;have B3 := Lib.hid b3;clear b3;go_wp2_with fail;go_ret;exact ⟨rfl, B3.out⟩
 · have t1 : ¬ (4096 : Int) < s.size := by omega
   have RD := Lib.hid (fun W h => rdline_any s (by omega) W h);have RR := Lib.hid (fun W h => rreadline_any s (by omega) W h);cases hq : stepL mayM (L s) with
   | none =>
     rw [hq] at RD RR;unfold rdAns M.val M.cells at RD RR;simp only at RD RR;clear hq
     go_enter Tryz.func6, Tryz.ntmps6
     go_wp2_with fail;refine (RD.out _ HL.out).mono ?_;rintro e w1 ⟨rfl, b1⟩;have B1 := Lib.hid b1;clear b1
     go_upto_region 4 with (fail)
     have y0 := Lib.hid (SBox.new w1 40 #[.int .u8 M.zero.k, .int .i64 M.zero.co, .int .i64 M.zero.n, .int .u32 M.zero.ino, .int .u8 M.zero.d, .string (B M.zero.p), .string (B M.zero.p2), .int .i64 M.zero.fd, .int .i64 M.zero.pg, .int .u32 M.zero.sz, .string (B M.zero.da), .string (B M.zero.t)]);have B2 := Lib.hid (B1.out.alloc B1.out.size (.cells #[.int .u8 M.zero.k, .int .i64 M.zero.co, .int .i64 M.zero.n, .int .u32 M.zero.ino, .int .u8 M.zero.d, .string (B M.zero.p), .string (B M.zero.p2), .int .i64 M.zero.fd, .int .i64 M.zero.pg, .int .u32 M.zero.sz, .string (B M.zero.da), .string (B M.zero.t)] 40))
     generalize w1.alloc (.cells #[.int .u8 M.zero.k, .int .i64 M.zero.co, .int .i64 M.zero.n, .int .u32 M.zero.ino, .int .u8 M.zero.d, .string (B M.zero.p), .string (B M.zero.p2), .int .i64 M.zero.fd, .int .i64 M.zero.pg, .int .u32 M.zero.sz, .string (B M.zero.da), .string (B M.zero.t)] 40) = w2 at *
     generalize w1.heap.size = c1 at *
     go_wp2_with fail;refine (RR.out _ (HL.out.later B2.out)).mono ?_;rintro e w3 ⟨rfl, b3⟩;have B3 := Lib.hid (B2.out.trans (b3.mono B2.out.size));have y1 := Lib.hid (y0.out.later b3);clear b3 y0 B2
     go_upto_region 5 with (fail)
     have z0 := y1.out.later ((Below.refl w3.heap.size w3).alloc (Nat.le_refl _) (.cells #[.int .u8 M.zero.k, .int .i64 M.zero.co, .int .i64 M.zero.n, .int .u32 M.zero.ino, .int .u8 M.zero.d, .string (B M.zero.p), .string (B M.zero.p2), .int .i64 M.zero.fd, .int .i64 M.zero.pg, .int .u32 M.zero.sz, .string (B M.zero.da), .string (B M.zero.t)] 40));have z1 := SBox.new w3 40 #[.int .u8 M.zero.k, .int .i64 M.zero.co, .int .i64 M.zero.n, .int .u32 M.zero.ino, .int .u8 M.zero.d, .string (B M.zero.p), .string (B M.zero.p2), .int .i64 M.zero.fd, .int .i64 M.zero.pg, .int .u32 M.zero.sz, .string (B M.zero.da), .string (B M.zero.t)];have Z0 := Lib.hid z0;have B4 := Lib.hid (B3.out.alloc B3.out.size (.cells #[.int .u8 M.zero.k, .int .i64 M.zero.co, .int .i64 M.zero.n, .int .u32 M.zero.ino, .int .u8 M.zero.d, .string (B M.zero.p), .string (B M.zero.p2), .int .i64 M.zero.fd, .int .i64 M.zero.pg, .int .u32 M.zero.sz, .string (B M.zero.da), .string (B M.zero.t)] 40))
     generalize w3.alloc (.cells #[.int .u8 M.zero.k, .int .i64 M.zero.co, .int .i64 M.zero.n, .int .u32 M.zero.ino, .int .u8 M.zero.d, .string (B M.zero.p), .string (B M.zero.p2), .int .i64 M.zero.fd, .int .i64 M.zero.pg, .int .u32 M.zero.sz, .string (B M.zero.da), .string (B M.zero.t)] 40) = w4 at *
     generalize w3.heap.size = c2 at *
     clear y1 B3;have X0 := z0.cell 0;have X1 := z0.cell 1;have X2 := z0.cell 2;have X3 := z0.cell 3;have X4 := z0.cell 4;have X5 := z0.cell 5;have X6 := z0.cell 6;have X7 := z0.cell 7;have X8 := z0.cell 8;have X9 := z0.cell 9;have X10 := z0.cell 10;have X11 := z0.cell 11;simp only [List.getElem?_toArray, List.getElem?_cons_zero, List.getElem?_cons_succ] at X0 X1 X2 X3 X4 X5 X6 X7 X8 X9 X10 X11;have Xl := z0.lt;have Y0 := z1.cell 0;have Y1 := z1.cell 1;have Y2 := z1.cell 2;have Y3 := z1.cell 3;have Y4 := z1.cell 4;have Y5 := z1.cell 5;have Y6 := z1.cell 6;have Y7 := z1.cell 7;have Y8 := z1.cell 8;have Y9 := z1.cell 9;have Y10 := z1.cell 10;have Y11 := z1.cell 11;simp only [List.getElem?_toArray, List.getElem?_cons_zero, List.getElem?_cons_succ] at Y0 Y1 Y2 Y3 Y4 Y5 Y6 Y7 Y8 Y9 Y10 Y11;have Yl := z1.lt;clear z0 z1;go_wp2_with fail;refine (AL.out _ (HL.out.later B4.out)).mono ?_;rintro e w5 ⟨rfl, b5⟩;have B5 := Lib.hid (B4.out.trans (b5.mono B4.out.size));clear b5;go_wp2_with fail;go_ret;exact ⟨rfl, B5.out⟩
   | some x =>
     obtain ⟨hls, hm⟩ := stepL_some hq;have hin := may_in x hm;have hms := may_size x hin hm;have LY := Lib.hid (fun W h => line_yes x W h hin (by omega) hm);rw [hls, B_L] at LY;rw [hq] at RD RR;unfold rdAns at RD RR;unfold M.val M.cells at RD RR LY;simp only at RD RR;clear hq hls hm hin hms
     go_enter Tryz.func6, Tryz.ntmps6
     go_wp2_with fail;refine (RD.out _ HL.out).mono ?_;rintro e w1 ⟨rfl, b1⟩;have B1 := Lib.hid b1;clear b1
     go_upto_region 4 with (fail)
     have y0 := Lib.hid (SBox.new w1 40 #[.int .u8 x.k, .int .i64 x.co, .int .i64 x.n, .int .u32 x.ino, .int .u8 x.d, .string (B x.p), .string (B x.p2), .int .i64 x.fd, .int .i64 x.pg, .int .u32 x.sz, .string (B x.da), .string (B x.t)]);have B2 := Lib.hid (B1.out.alloc B1.out.size (.cells #[.int .u8 x.k, .int .i64 x.co, .int .i64 x.n, .int .u32 x.ino, .int .u8 x.d, .string (B x.p), .string (B x.p2), .int .i64 x.fd, .int .i64 x.pg, .int .u32 x.sz, .string (B x.da), .string (B x.t)] 40))
     generalize w1.alloc (.cells #[.int .u8 x.k, .int .i64 x.co, .int .i64 x.n, .int .u32 x.ino, .int .u8 x.d, .string (B x.p), .string (B x.p2), .int .i64 x.fd, .int .i64 x.pg, .int .u32 x.sz, .string (B x.da), .string (B x.t)] 40) = w2 at *
     generalize w1.heap.size = c1 at *
     go_wp2_with fail;refine (RR.out _ (HL.out.later B2.out)).mono ?_;rintro e w3 ⟨rfl, b3⟩;have B3 := Lib.hid (B2.out.trans (b3.mono B2.out.size));have y1 := Lib.hid (y0.out.later b3);clear b3 y0 B2
     go_upto_region 5 with (fail)
     have z0 := y1.out.later ((Below.refl w3.heap.size w3).alloc (Nat.le_refl _) (.cells #[.int .u8 x.k, .int .i64 x.co, .int .i64 x.n, .int .u32 x.ino, .int .u8 x.d, .string (B x.p), .string (B x.p2), .int .i64 x.fd, .int .i64 x.pg, .int .u32 x.sz, .string (B x.da), .string (B x.t)] 40));have z1 := SBox.new w3 40 #[.int .u8 x.k, .int .i64 x.co, .int .i64 x.n, .int .u32 x.ino, .int .u8 x.d, .string (B x.p), .string (B x.p2), .int .i64 x.fd, .int .i64 x.pg, .int .u32 x.sz, .string (B x.da), .string (B x.t)];have Z0 := Lib.hid z0;have B4 := Lib.hid (B3.out.alloc B3.out.size (.cells #[.int .u8 x.k, .int .i64 x.co, .int .i64 x.n, .int .u32 x.ino, .int .u8 x.d, .string (B x.p), .string (B x.p2), .int .i64 x.fd, .int .i64 x.pg, .int .u32 x.sz, .string (B x.da), .string (B x.t)] 40))
     generalize w3.alloc (.cells #[.int .u8 x.k, .int .i64 x.co, .int .i64 x.n, .int .u32 x.ino, .int .u8 x.d, .string (B x.p), .string (B x.p2), .int .i64 x.fd, .int .i64 x.pg, .int .u32 x.sz, .string (B x.da), .string (B x.t)] 40) = w4 at *
     generalize w3.heap.size = c2 at *
     clear y1 B3;have X0 := z0.cell 0;have X1 := z0.cell 1;have X2 := z0.cell 2;have X3 := z0.cell 3;have X4 := z0.cell 4;have X5 := z0.cell 5;have X6 := z0.cell 6;have X7 := z0.cell 7;have X8 := z0.cell 8;have X9 := z0.cell 9;have X10 := z0.cell 10;have X11 := z0.cell 11;simp only [List.getElem?_toArray, List.getElem?_cons_zero, List.getElem?_cons_succ] at X0 X1 X2 X3 X4 X5 X6 X7 X8 X9 X10 X11;have Xl := z0.lt;have Y0 := z1.cell 0;have Y1 := z1.cell 1;have Y2 := z1.cell 2;have Y3 := z1.cell 3;have Y4 := z1.cell 4;have Y5 := z1.cell 5;have Y6 := z1.cell 6;have Y7 := z1.cell 7;have Y8 := z1.cell 8;have Y9 := z1.cell 9;have Y10 := z1.cell 10;have Y11 := z1.cell 11;simp only [List.getElem?_toArray, List.getElem?_cons_zero, List.getElem?_cons_succ] at Y0 Y1 Y2 Y3 Y4 Y5 Y6 Y7 Y8 Y9 Y10 Y11;have Yl := z1.lt;clear z0 z1;go_wp2_with fail;refine (LY.out _ (HL.out.later B4.out)).mono ?_;rintro e w5 ⟨rfl, b5⟩;have B5 := Lib.hid (B4.out.trans (b5.mono B4.out.size));have q1 : (s.toList == s.toList) = true := by simp
     clear b5 X0 X1 X2 X3 X4 X5 X6 X7 X8 X9 X10 X11 Xl Y0 Y1 Y2 Y3 Y4 Y5 Y6 Y7 Y8 Y9 Y10 Y11 Yl;go_wp2_with fail;refine (AL.out _ (HL.out.later B5.out)).mono ?_;rintro e w6 ⟨rfl, b6⟩;have B6 := Lib.hid (B5.out.trans (b6.mono B5.out.size));clear b6;go_wp2_with fail;go_ret;exact ⟨rfl, B6.out⟩
end Go.Proofs.YtkljcgopikdjjaaGreatDoor.Tx
end
