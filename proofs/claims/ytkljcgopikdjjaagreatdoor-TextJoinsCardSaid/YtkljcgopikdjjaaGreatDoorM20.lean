/- Layer 20, the document's answer: Check, by what a call has. -/
import Derived.Test.YtkljcgopikdjjaaGreatDoorM16
import Derived.BigGuard
set_option linter.unusedVariables false
set_option linter.unusedSimpArgs false
set_option maxRecDepth 100000
section
namespace Go.Proofs.YtkljcgopikdjjaaGreatDoor.Call
open Go.RowKit Oct Path
set_option maxHeartbeats 40000000 in
theorem rcheck_44 (x : C) (w : World) (hd : x.d < 256) (h1 : 1 ≤ x.d) (h2 : x.d ≤ 15) (hp : x.p.size ≤ maxLen) (hp2 : x.p2.size ≤ maxLen) (hda : x.da.size ≤ maxLen) (hof : ofV x.d = .agg #[.bool false, .bool false, .bool true, .bool true, .bool false, .bool true, .bool false, .bool false]) :
   Calls Tryz.prog 47 #[.agg #[.int .u8 x.d, .string x.p, .string x.p2, .int .i64 x.fd, .int .i64 x.pg, .int .u32 x.sz, .string x.da]] w fun e w' => e = .returned (.int .i64 (rE false false true true false true false false x)) ∧ Below w.heap.size w w' := by
 have OF := Lib.hid (fun W => rof_any x.d W hd);rw [hof] at OF;have t0 : decide ((x.d : Int) < 1) = false := by simp; omega
 have t1 : decide (15 < (x.d : Int)) = false := by simp; omega
 unfold maxLen at hda;clear hof
 by_cases z0 : x.p = ⟨#[]⟩
 · skip
   by_cases z1 : x.p2 = ⟨#[]⟩
   · skip
     by_cases z4 : x.sz = 0
     · skip
       have HZ0 := Lib.hid z0;clear z0;have HZ1 := Lib.hid z1;clear z1;have HZ4 := Lib.hid z4;clear z4
       go_enter Tryz.func47, Tryz.ntmps47
       simp only [List.append_eq, List.cons_append, List.nil_append];go_wp2_with fail;refine (OF.out _).mono ?_;rintro e w1 ⟨rfl, b1⟩;have bb : Below w.heap.size w w1 := ((Below.refl _ w).alloc (Nat.le_refl _) _).trans (b1.mono (by simp));have hX : Box w1 w.heap.size x := (box_x x w).below (by simp) b1;have hlt := hX.lt;have c0 := hX.c0;have c1 := hX.c1;have c2 := hX.c2;have c3 := hX.c3;have c4 := hX.c4;have c5 := hX.c5;have c6 := hX.c6;have HXX := Lib.hid hX;clear b1 hX OF;rw [HZ0.out] at c1;rw [HZ1.out] at c2;rw [HZ4.out] at c5
       go_upto_region 4 with (fail)
       have k1 : KS w (w1.alloc (.cells #[.bool false, .bool false, .bool true, .bool true, .bool false, .bool true, .bool false, .bool false] 138)) w1.heap.size #[.bool false, .bool false, .bool true, .bool true, .bool false, .bool true, .bool false, .bool false] x := ⟨HXX.out.alloc _, heap_alloc_new w1 _, hlt, bb.alloc bb.size _⟩;obtain ⟨W, hW⟩ : ∃ W, w1.alloc (.cells #[.bool false, .bool false, .bool true, .bool true, .bool false, .bool true, .bool false, .bool false] 138) = W := ⟨_, rfl⟩;obtain ⟨bh, hbh⟩ : ∃ b, w1.heap.size = b := ⟨_, rfl⟩;rw [hW, hbh] at k1;rw [hW, hbh];clear hW hbh hlt c0 c1 c2 c3 c4 c5 c6 bb HXX;have al := k1.l;have alt := k1.lt;have ac0 := k1.xb.c0;have ac1 := k1.xb.c1;have ac2 := k1.xb.c2;have ac3 := k1.xb.c3;have ac4 := k1.xb.c4;have ac5 := k1.xb.c5;have ac6 := k1.xb.c6;rw [HZ0.out] at ac1;rw [HZ1.out] at ac2;rw [HZ4.out] at ac5;have ah0 : W.cell? ⟨bh, 0, none⟩ = some (.bool false) := k1.h 0;have ah1 : W.cell? ⟨bh, 1, none⟩ = some (.bool false) := k1.h 1;have ah2 : W.cell? ⟨bh, 2, none⟩ = some (.bool true) := k1.h 2;have ah3 : W.cell? ⟨bh, 3, none⟩ = some (.bool true) := k1.h 3;have ah4 : W.cell? ⟨bh, 4, none⟩ = some (.bool false) := k1.h 4;have ah5 : W.cell? ⟨bh, 5, none⟩ = some (.bool true) := k1.h 5;have ah6 : W.cell? ⟨bh, 6, none⟩ = some (.bool false) := k1.h 6;have ah7 : W.cell? ⟨bh, 7, none⟩ = some (.bool false) := k1.h 7
       by_cases a1 : x.fd < 0
       · skip
         have a1t : decide (x.fd < 0) = true := by simp; omega
         go_wp2
         all_goals
           go_ret;have z0 := HZ0.out;have z1 := HZ1.out;have z4 := HZ4.out;exact ⟨by simp [rE, rBad, z0, z1, z4, a1], k1.bel⟩
       · skip
         have a1t : decide (x.fd < 0) = false := by simp; omega
         by_cases a2 : 15 < x.fd
         · skip
           have a2t : decide (15 < x.fd) = true := by simp; omega
           go_wp2
           all_goals
             go_ret;have z0 := HZ0.out;have z1 := HZ1.out;have z4 := HZ4.out;exact ⟨by simp [rE, rBad, z0, z1, z4, a1, a2], k1.bel⟩
         · skip
           have a2t : decide (15 < x.fd) = false := by simp; omega
           by_cases a3 : x.pg < 0
           · skip
             have a3t : decide (x.pg < 0) = true := by simp; omega
             go_wp2
             all_goals
               go_ret;have z0 := HZ0.out;have z1 := HZ1.out;have z4 := HZ4.out;exact ⟨by simp [rE, rBad, z0, z1, z4, a1, a2, a3], k1.bel⟩
           · skip
             have a3t : decide (x.pg < 0) = false := by simp; omega
             by_cases a4 : 36 ≤ x.pg
             · skip
               have a4t : decide (36 ≤ x.pg) = true := by simp; omega
               go_wp2
               all_goals
                 go_ret;have z0 := HZ0.out;have z1 := HZ1.out;have z4 := HZ4.out;exact ⟨by simp [rE, rBad, z0, z1, z4, a1, a2, a3, a4], k1.bel⟩
             · skip
               have a4t : decide (36 ≤ x.pg) = false := by simp; omega
               by_cases a5 : x.da.size < 1
               · skip
                 have a5t : decide ((x.da.size : Int) < 1) = true := by simp; omega
                 go_wp2
                 all_goals
                   go_ret;have z0 := HZ0.out;have z1 := HZ1.out;have z4 := HZ4.out;exact ⟨by simp [rE, rBad, z0, z1, z4, a1, a2, a3, a4, a5], k1.bel⟩
               · skip
                 have a5t : decide ((x.da.size : Int) < 1) = false := by simp; omega
                 by_cases a6 : 64 < x.da.size
                 · skip
                   have a6t : decide (64 < (x.da.size : Int)) = true := by simp; omega
                   go_wp2
                   all_goals
                     go_ret;have z0 := HZ0.out;have z1 := HZ1.out;have z4 := HZ4.out;exact ⟨by simp [rE, rBad, z0, z1, z4, a1, a2, a3, a4, a5, a6], k1.bel⟩
                 · skip
                   have a6t : decide (64 < (x.da.size : Int)) = false := by simp; omega
                   go_wp2
                   all_goals
                     go_ret;have z0 := HZ0.out;have z1 := HZ1.out;have z4 := HZ4.out;exact ⟨by simp [rE, rBad, z0, z1, z4, a1, a2, a3, a4, a5, a6], k1.bel⟩
     · skip
       have n1 : ((x.sz : Int) == 0) = false := by simp; omega
       have n2 : ((x.sz : Int) != 0) = true := by simp; omega
       have n3 : (x.sz == 0) = false := by simpa using z4
       have n4 : (x.sz != 0) = true := by simpa using z4
       have HZ0 := Lib.hid z0;clear z0;have HZ1 := Lib.hid z1;clear z1
       go_enter Tryz.func47, Tryz.ntmps47
       simp only [List.append_eq, List.cons_append, List.nil_append];go_wp2_with fail;refine (OF.out _).mono ?_;rintro e w1 ⟨rfl, b1⟩;have bb : Below w.heap.size w w1 := ((Below.refl _ w).alloc (Nat.le_refl _) _).trans (b1.mono (by simp));have hX : Box w1 w.heap.size x := (box_x x w).below (by simp) b1;have hlt := hX.lt;have c0 := hX.c0;have c1 := hX.c1;have c2 := hX.c2;have c3 := hX.c3;have c4 := hX.c4;have c5 := hX.c5;have c6 := hX.c6;have HXX := Lib.hid hX;clear b1 hX OF;rw [HZ0.out] at c1;rw [HZ1.out] at c2
       go_wp2
       all_goals
         go_ret;have z0 := HZ0.out;have z1 := HZ1.out;exact ⟨by simp [rE, rBad, z0, z1, z4], bb.alloc bb.size _⟩
   · skip
     have n1 : x.p2.toList.isEmpty = false := empty_no (Nat.pos_of_ne_zero fun e => z1 (nil_of (by omega)));have HN := Lib.hid z1;clear z1;have HZ0 := Lib.hid z0;clear z0
     go_enter Tryz.func47, Tryz.ntmps47
     simp only [List.append_eq, List.cons_append, List.nil_append];go_wp2_with fail;refine (OF.out _).mono ?_;rintro e w1 ⟨rfl, b1⟩;have bb : Below w.heap.size w w1 := ((Below.refl _ w).alloc (Nat.le_refl _) _).trans (b1.mono (by simp));have hX : Box w1 w.heap.size x := (box_x x w).below (by simp) b1;have hlt := hX.lt;have c0 := hX.c0;have c1 := hX.c1;have c2 := hX.c2;have c3 := hX.c3;have c4 := hX.c4;have c5 := hX.c5;have c6 := hX.c6;have HXX := Lib.hid hX;clear b1 hX OF;rw [HZ0.out] at c1
     go_wp2
     all_goals
       go_ret;have z0 := HZ0.out;have z1 := HN.out;exact ⟨by simp [rE, rBad, z0, z1], bb.alloc bb.size _⟩
 · skip
   have n1 : x.p.toList.isEmpty = false := empty_no (Nat.pos_of_ne_zero fun e => z0 (nil_of (by omega)));have HN := Lib.hid z0;clear z0
   go_enter Tryz.func47, Tryz.ntmps47
   simp only [List.append_eq, List.cons_append, List.nil_append];go_wp2_with fail;refine (OF.out _).mono ?_;rintro e w1 ⟨rfl, b1⟩;have bb : Below w.heap.size w w1 := ((Below.refl _ w).alloc (Nat.le_refl _) _).trans (b1.mono (by simp));have hX : Box w1 w.heap.size x := (box_x x w).below (by simp) b1;have hlt := hX.lt;have c0 := hX.c0;have c1 := hX.c1;have c2 := hX.c2;have c3 := hX.c3;have c4 := hX.c4;have c5 := hX.c5;have c6 := hX.c6;have HXX := Lib.hid hX;clear b1 hX OF
   go_wp2
   all_goals
     go_ret;have z0 := HN.out;exact ⟨by simp [rE, rBad, z0], bb.alloc bb.size _⟩
end Go.Proofs.YtkljcgopikdjjaaGreatDoor.Call
end
