/- Layer 20, the document's answer: Check, for every call. -/
import Derived.Test.YtkljcgopikdjjaaGreatDoorM16
import Derived.BigGuard
import Derived.Test.YtkljcgopikdjjaaGreatDoorM17
import Derived.Test.YtkljcgopikdjjaaGreatDoorM18
import Derived.Test.YtkljcgopikdjjaaGreatDoorM19
import Derived.Test.YtkljcgopikdjjaaGreatDoorM20
import Derived.Test.YtkljcgopikdjjaaGreatDoorM21
import Derived.Test.YtkljcgopikdjjaaGreatDoorM22
import Derived.Test.YtkljcgopikdjjaaGreatDoorM23
set_option linter.unusedVariables false
set_option linter.unusedSimpArgs false
set_option maxRecDepth 100000
section
namespace Go.Proofs.YtkljcgopikdjjaaGreatDoor.Call
open Go.RowKit Oct Path
set_option maxHeartbeats 40000000 in
theorem rcheck_131 (x : C) (w : World) (hd : x.d < 256) (h1 : 1 ≤ x.d) (h2 : x.d ≤ 15) (hp : x.p.size ≤ maxLen) (hp2 : x.p2.size ≤ maxLen) (hda : x.da.size ≤ maxLen) (hof : ofV x.d = .agg #[.bool true, .bool true, .bool false, .bool false, .bool false, .bool false, .bool false, .bool true]) :
   Calls Tryz.prog 47 #[.agg #[.int .u8 x.d, .string x.p, .string x.p2, .int .i64 x.fd, .int .i64 x.pg, .int .u32 x.sz, .string x.da]] w fun e w' => e = .returned (.int .i64 (rE true true false false false false false true x)) ∧ Below w.heap.size w w' := by
 have OF := Lib.hid (fun W => rof_any x.d W hd);rw [hof] at OF;have t0 : decide ((x.d : Int) < 1) = false := by simp; omega
 have t1 : decide (15 < (x.d : Int)) = false := by simp; omega
 unfold maxLen at hda;clear hof
 by_cases z2 : x.fd = 0
 · skip
   by_cases z3 : x.pg = 0
   · skip
     by_cases z4 : x.sz = 0
     · skip
       by_cases z5 : x.da = ⟨#[]⟩
       · skip
         have HZ2 := Lib.hid z2;clear z2;have HZ3 := Lib.hid z3;clear z3;have HZ4 := Lib.hid z4;clear z4;have HZ5 := Lib.hid z5;clear z5
         go_enter Tryz.func47, Tryz.ntmps47
         simp only [List.append_eq, List.cons_append, List.nil_append];go_wp2_with fail;refine (OF.out _).mono ?_;rintro e w1 ⟨rfl, b1⟩;have bb : Below w.heap.size w w1 := ((Below.refl _ w).alloc (Nat.le_refl _) _).trans (b1.mono (by simp));have hX : Box w1 w.heap.size x := (box_x x w).below (by simp) b1;have hlt := hX.lt;have c0 := hX.c0;have c1 := hX.c1;have c2 := hX.c2;have c3 := hX.c3;have c4 := hX.c4;have c5 := hX.c5;have c6 := hX.c6;have HXX := Lib.hid hX;clear b1 hX OF;rw [HZ2.out] at c3;rw [HZ3.out] at c4;rw [HZ4.out] at c5;rw [HZ5.out] at c6
         go_upto_region 4 with (fail)
         have k1 : KS w (w1.alloc (.cells #[.bool true, .bool true, .bool false, .bool false, .bool false, .bool false, .bool false, .bool true] 138)) w1.heap.size #[.bool true, .bool true, .bool false, .bool false, .bool false, .bool false, .bool false, .bool true] x := ⟨HXX.out.alloc _, heap_alloc_new w1 _, hlt, bb.alloc bb.size _⟩;obtain ⟨W, hW⟩ : ∃ W, w1.alloc (.cells #[.bool true, .bool true, .bool false, .bool false, .bool false, .bool false, .bool false, .bool true] 138) = W := ⟨_, rfl⟩;obtain ⟨bh, hbh⟩ : ∃ b, w1.heap.size = b := ⟨_, rfl⟩;rw [hW, hbh] at k1;rw [hW, hbh];clear hW hbh hlt c0 c1 c2 c3 c4 c5 c6 bb HXX;have al := k1.l;have alt := k1.lt;have ac0 := k1.xb.c0;have ac1 := k1.xb.c1;have ac2 := k1.xb.c2;have ac3 := k1.xb.c3;have ac4 := k1.xb.c4;have ac5 := k1.xb.c5;have ac6 := k1.xb.c6;rw [HZ2.out] at ac3;rw [HZ3.out] at ac4;rw [HZ4.out] at ac5;rw [HZ5.out] at ac6;have ah0 : W.cell? ⟨bh, 0, none⟩ = some (.bool true) := k1.h 0;have ah1 : W.cell? ⟨bh, 1, none⟩ = some (.bool true) := k1.h 1;have ah2 : W.cell? ⟨bh, 2, none⟩ = some (.bool false) := k1.h 2;have ah3 : W.cell? ⟨bh, 3, none⟩ = some (.bool false) := k1.h 3;have ah4 : W.cell? ⟨bh, 4, none⟩ = some (.bool false) := k1.h 4;have ah5 : W.cell? ⟨bh, 5, none⟩ = some (.bool false) := k1.h 5;have ah6 : W.cell? ⟨bh, 6, none⟩ = some (.bool false) := k1.h 6;have ah7 : W.cell? ⟨bh, 7, none⟩ = some (.bool true) := k1.h 7;have SP := Lib.hid (fun V => rs_len x.p hp _ rfl _ rfl V)
         generalize hE1 : splitE (L x.p) = E1 at SP
         generalize hn1 : ((splitN (L x.p)).map B).length = nn1 at SP
         have HE1 := Lib.hid hE1;have HN1 := Lib.hid hn1;clear hE1 hn1;go_wp2_with fail;refine (SP.out _).mono ?_;rintro e w2 ⟨ao1, cap1, rfl, b1⟩;have k2 := k1.later b1;clear b1 k1 SP;clear al alt ac0 ac1 ac2 ac3 ac4 ac5 ac6 ah0 ah1 ah2 ah3 ah4 ah5 ah6 ah7;have bl := k2.l;have blt := k2.lt;have bc0 := k2.xb.c0;have bc1 := k2.xb.c1;have bc2 := k2.xb.c2;have bc3 := k2.xb.c3;have bc4 := k2.xb.c4;have bc5 := k2.xb.c5;have bc6 := k2.xb.c6;rw [HZ2.out] at bc3;rw [HZ3.out] at bc4;rw [HZ4.out] at bc5;rw [HZ5.out] at bc6;have bh0 : w2.cell? ⟨bh, 0, none⟩ = some (.bool true) := k2.h 0;have bh1 : w2.cell? ⟨bh, 1, none⟩ = some (.bool true) := k2.h 1;have bh2 : w2.cell? ⟨bh, 2, none⟩ = some (.bool false) := k2.h 2;have bh3 : w2.cell? ⟨bh, 3, none⟩ = some (.bool false) := k2.h 3;have bh4 : w2.cell? ⟨bh, 4, none⟩ = some (.bool false) := k2.h 4;have bh5 : w2.cell? ⟨bh, 5, none⟩ = some (.bool false) := k2.h 5;have bh6 : w2.cell? ⟨bh, 6, none⟩ = some (.bool false) := k2.h 6;have bh7 : w2.cell? ⟨bh, 7, none⟩ = some (.bool true) := k2.h 7
         by_cases s1 : E1 = 0
         · skip
           subst s1;have s1 := HE1.out;have HS1 := Lib.hid s1;clear s1;have SQ := Lib.hid (fun V => rs_len x.p2 hp2 _ rfl _ rfl V)
           generalize hE2 : splitE (L x.p2) = E2 at SQ
           generalize hn2 : ((splitN (L x.p2)).map B).length = nn2 at SQ
           have HE2 := Lib.hid hE2;have HN2 := Lib.hid hn2;clear hE2 hn2;go_wp2_with fail;refine (SQ.out _).mono ?_;rintro e w3 ⟨ao2, cap2, rfl, b2⟩;have k3 := k2.later b2;clear b2 k2 SQ;clear bl blt bc0 bc1 bc2 bc3 bc4 bc5 bc6 bh0 bh1 bh2 bh3 bh4 bh5 bh6 bh7;have dl := k3.l;have dlt := k3.lt;have dc0 := k3.xb.c0;have dc1 := k3.xb.c1;have dc2 := k3.xb.c2;have dc3 := k3.xb.c3;have dc4 := k3.xb.c4;have dc5 := k3.xb.c5;have dc6 := k3.xb.c6;rw [HZ2.out] at dc3;rw [HZ3.out] at dc4;rw [HZ4.out] at dc5;rw [HZ5.out] at dc6;have dh0 : w3.cell? ⟨bh, 0, none⟩ = some (.bool true) := k3.h 0;have dh1 : w3.cell? ⟨bh, 1, none⟩ = some (.bool true) := k3.h 1;have dh2 : w3.cell? ⟨bh, 2, none⟩ = some (.bool false) := k3.h 2;have dh3 : w3.cell? ⟨bh, 3, none⟩ = some (.bool false) := k3.h 3;have dh4 : w3.cell? ⟨bh, 4, none⟩ = some (.bool false) := k3.h 4;have dh5 : w3.cell? ⟨bh, 5, none⟩ = some (.bool false) := k3.h 5;have dh6 : w3.cell? ⟨bh, 6, none⟩ = some (.bool false) := k3.h 6;have dh7 : w3.cell? ⟨bh, 7, none⟩ = some (.bool true) := k3.h 7
           by_cases s2 : E2 = 0
           · skip
             subst s2;have s2 := HE2.out;have HS2 := Lib.hid s2;clear s2
             by_cases q2 : x.p2 = ⟨#[47]⟩
             · skip
               have y2 : (x.p2.toList == [47]) = true := by rw [q2, toList_L]; rfl
               have y2b : x.p2.toList = [47] := by rw [q2, toList_L]; rfl
               have Hq2 := Lib.hid q2;clear q2
               go_wp2
               all_goals
                 go_ret;have z2 := HZ2.out;have z3 := HZ3.out;have z4 := HZ4.out;have z5 := HZ5.out;have q2 := Hq2.out;exact ⟨by simp [rE, rBad, z2, z3, z4, z5, HS1.out, HS2.out, q2, slash_ok], k3.bel⟩
             · skip
               have y2c : ¬ (x.p2.toList = [47]) := fun e => q2 (L_inj (by rw [← toList_L, e]; rfl));have y2 : (x.p2.toList == [47]) = false := by simpa using y2c
               have y2b : decide (x.p2.toList = [47]) = false := by simpa using y2c
               go_wp2
               all_goals
                 go_ret;have z2 := HZ2.out;have z3 := HZ3.out;have z4 := HZ4.out;have z5 := HZ5.out;exact ⟨by simp [rE, rBad, z2, z3, z4, z5, HS1.out, HS2.out, q2], k3.bel⟩
           · skip
             have m2 : (E2 == 0) = false := by simpa using s2
             have m2b : (E2 != 0) = true := by simpa using s2
             go_wp2
             all_goals
               go_ret;have z2 := HZ2.out;have z3 := HZ3.out;have z4 := HZ4.out;have z5 := HZ5.out;exact ⟨by simp [rE, rBad, z2, z3, z4, z5, HS1.out, HE2.out, s2], k3.bel⟩
         · skip
           have m1 : (E1 == 0) = false := by simpa using s1
           have m1b : (E1 != 0) = true := by simpa using s1
           go_wp2
           all_goals
             go_ret;have z2 := HZ2.out;have z3 := HZ3.out;have z4 := HZ4.out;have z5 := HZ5.out;exact ⟨by simp [rE, rBad, z2, z3, z4, z5, HE1.out, s1], k2.bel⟩
       · skip
         have n1 : x.da.toList.isEmpty = false := empty_no (Nat.pos_of_ne_zero fun e => z5 (nil_of (by omega)));have HN := Lib.hid z5;clear z5;have HZ2 := Lib.hid z2;clear z2;have HZ3 := Lib.hid z3;clear z3;have HZ4 := Lib.hid z4;clear z4
         go_enter Tryz.func47, Tryz.ntmps47
         simp only [List.append_eq, List.cons_append, List.nil_append];go_wp2_with fail;refine (OF.out _).mono ?_;rintro e w1 ⟨rfl, b1⟩;have bb : Below w.heap.size w w1 := ((Below.refl _ w).alloc (Nat.le_refl _) _).trans (b1.mono (by simp));have hX : Box w1 w.heap.size x := (box_x x w).below (by simp) b1;have hlt := hX.lt;have c0 := hX.c0;have c1 := hX.c1;have c2 := hX.c2;have c3 := hX.c3;have c4 := hX.c4;have c5 := hX.c5;have c6 := hX.c6;have HXX := Lib.hid hX;clear b1 hX OF;rw [HZ2.out] at c3;rw [HZ3.out] at c4;rw [HZ4.out] at c5
         go_wp2
         all_goals
           go_ret;have z2 := HZ2.out;have z3 := HZ3.out;have z4 := HZ4.out;have z5 := HN.out;exact ⟨by simp [rE, rBad, z2, z3, z4, z5], bb.alloc bb.size _⟩
     · skip
       have n1 : ((x.sz : Int) == 0) = false := by simp; omega
       have n2 : ((x.sz : Int) != 0) = true := by simp; omega
       have n3 : (x.sz == 0) = false := by simpa using z4
       have n4 : (x.sz != 0) = true := by simpa using z4
       have HZ2 := Lib.hid z2;clear z2;have HZ3 := Lib.hid z3;clear z3
       go_enter Tryz.func47, Tryz.ntmps47
       simp only [List.append_eq, List.cons_append, List.nil_append];go_wp2_with fail;refine (OF.out _).mono ?_;rintro e w1 ⟨rfl, b1⟩;have bb : Below w.heap.size w w1 := ((Below.refl _ w).alloc (Nat.le_refl _) _).trans (b1.mono (by simp));have hX : Box w1 w.heap.size x := (box_x x w).below (by simp) b1;have hlt := hX.lt;have c0 := hX.c0;have c1 := hX.c1;have c2 := hX.c2;have c3 := hX.c3;have c4 := hX.c4;have c5 := hX.c5;have c6 := hX.c6;have HXX := Lib.hid hX;clear b1 hX OF;rw [HZ2.out] at c3;rw [HZ3.out] at c4
       go_wp2
       all_goals
         go_ret;have z2 := HZ2.out;have z3 := HZ3.out;exact ⟨by simp [rE, rBad, z2, z3, z4], bb.alloc bb.size _⟩
   · skip
     have n1 : (x.pg == 0) = false := by simpa using z3
     have n2 : (x.pg != 0) = true := by simpa using z3
     have HZ2 := Lib.hid z2;clear z2
     go_enter Tryz.func47, Tryz.ntmps47
     simp only [List.append_eq, List.cons_append, List.nil_append];go_wp2_with fail;refine (OF.out _).mono ?_;rintro e w1 ⟨rfl, b1⟩;have bb : Below w.heap.size w w1 := ((Below.refl _ w).alloc (Nat.le_refl _) _).trans (b1.mono (by simp));have hX : Box w1 w.heap.size x := (box_x x w).below (by simp) b1;have hlt := hX.lt;have c0 := hX.c0;have c1 := hX.c1;have c2 := hX.c2;have c3 := hX.c3;have c4 := hX.c4;have c5 := hX.c5;have c6 := hX.c6;have HXX := Lib.hid hX;clear b1 hX OF;rw [HZ2.out] at c3
     go_wp2
     all_goals
       go_ret;have z2 := HZ2.out;exact ⟨by simp [rE, rBad, z2, z3], bb.alloc bb.size _⟩
 · skip
   have n1 : (x.fd == 0) = false := by simpa using z2
   have n2 : (x.fd != 0) = true := by simpa using z2
   go_enter Tryz.func47, Tryz.ntmps47
   simp only [List.append_eq, List.cons_append, List.nil_append];go_wp2_with fail;refine (OF.out _).mono ?_;rintro e w1 ⟨rfl, b1⟩;have bb : Below w.heap.size w w1 := ((Below.refl _ w).alloc (Nat.le_refl _) _).trans (b1.mono (by simp));have hX : Box w1 w.heap.size x := (box_x x w).below (by simp) b1;have hlt := hX.lt;have c0 := hX.c0;have c1 := hX.c1;have c2 := hX.c2;have c3 := hX.c3;have c4 := hX.c4;have c5 := hX.c5;have c6 := hX.c6;have HXX := Lib.hid hX;clear b1 hX OF
   go_wp2
   all_goals
     go_ret;exact ⟨by simp [rE, rBad, z2], bb.alloc bb.size _⟩
end Go.Proofs.YtkljcgopikdjjaaGreatDoor.Call
end
section
namespace Go.Proofs.YtkljcgopikdjjaaGreatDoor.Call
open Go.RowKit Oct Path
set_option maxHeartbeats 2000000 in
theorem rcheck_low (x : C) (w : World) (hd : x.d < 256) (h : x.d < 1) : Calls Tryz.prog 47 #[.agg #[.int .u8 x.d, .string x.p, .string x.p2, .int .i64 x.fd, .int .i64 x.pg, .int .u32 x.sz, .string x.da]] w fun e w' => e = .returned (.int .i64 2) ∧ Below w.heap.size w w' := by
 have OF := Lib.hid (fun W => rof_any x.d W hd);have t0 : decide ((x.d : Int) < 1) = true := by simp; omega
 unfold ofV at OF
 go_enter Tryz.func47, Tryz.ntmps47
 simp only [List.append_eq, List.cons_append, List.nil_append];go_wp2_with fail;refine (OF.out _).mono ?_;rintro e w1 ⟨rfl, b1⟩;have bb : Below w.heap.size w w1 := ((Below.refl _ w).alloc (Nat.le_refl _) _).trans (b1.mono (by simp));have hX : Box w1 w.heap.size x := (box_x x w).below (by simp) b1;have hlt := hX.lt;have c0 := hX.c0;clear b1 hX
 go_wp2
 go_ret;exact ⟨rfl, bb.alloc bb.size _⟩
set_option maxHeartbeats 2000000 in
theorem rcheck_high (x : C) (w : World) (hd : x.d < 256) (h : 15 < x.d) : Calls Tryz.prog 47 #[.agg #[.int .u8 x.d, .string x.p, .string x.p2, .int .i64 x.fd, .int .i64 x.pg, .int .u32 x.sz, .string x.da]] w fun e w' => e = .returned (.int .i64 2) ∧ Below w.heap.size w w' := by
 have OF := Lib.hid (fun W => rof_any x.d W hd);have t0 : decide ((x.d : Int) < 1) = false := by simp; omega
 have t1 : decide (15 < (x.d : Int)) = true := by simp; omega
 unfold ofV at OF
 go_enter Tryz.func47, Tryz.ntmps47
 simp only [List.append_eq, List.cons_append, List.nil_append];go_wp2_with fail;refine (OF.out _).mono ?_;rintro e w1 ⟨rfl, b1⟩;have bb : Below w.heap.size w w1 := ((Below.refl _ w).alloc (Nat.le_refl _) _).trans (b1.mono (by simp));have hX : Box w1 w.heap.size x := (box_x x w).below (by simp) b1;have hlt := hX.lt;have c0 := hX.c0;clear b1 hX
 go_wp2
 go_ret;exact ⟨rfl, bb.alloc bb.size _⟩
theorem rcheck_any (x : C) (w : World) (hd : x.d < 256) (hp : x.p.size ≤ maxLen) (hp2 : x.p2.size ≤ maxLen) (hda : x.da.size ≤ maxLen) : Calls Tryz.prog 47 #[.agg #[.int .u8 x.d, .string x.p, .string x.p2, .int .i64 x.fd, .int .i64 x.pg, .int .u32 x.sz, .string x.da]] w fun e w' => e = .returned (.int .i64 x.checkE) ∧ Below w.heap.size w w' := by
 by_cases h1' : x.d < 1
 · rw [show x.checkE = 2 by unfold C.checkE; rw [if_pos h1']]; exact rcheck_low x w hd h1'
 by_cases h2' : 15 < x.d
 · rw [show x.checkE = 2 by unfold C.checkE; rw [if_neg h1', if_pos h2']]; exact rcheck_high x w hd h2'
 have h1 : 1 ≤ x.d := by omega
 have h2 : x.d ≤ 15 := by omega
 obtain hx | hx | hx | hx | hx | hx | hx | hx | hx | hx | hx | hx | hx | hx | hx : x.d = 1 ∨ x.d = 2 ∨ x.d = 3 ∨ x.d = 4 ∨ x.d = 5 ∨ x.d = 6 ∨ x.d = 7 ∨ x.d = 8 ∨ x.d = 9 ∨ x.d = 10 ∨ x.d = 11 ∨ x.d = 12 ∨ x.d = 13 ∨ x.d = 14 ∨ x.d = 15 := by omega
 · have hof : ofV x.d = .agg #[.bool true, .bool false, .bool false, .bool false, .bool false, .bool false, .bool false, .bool false] := by rw [hx]; exact ofV1
   have e := rE_eq x (by omega) (by omega);have ev := hof;rw [hx] at e;rw [hx] at ev;simp only [ofV, Value.agg.injEq, Array.mk.injEq, List.cons.injEq, Value.bool.injEq, and_true] at ev;obtain ⟨e1, e2, e3, e4, e5, e6, e7, e8⟩ := ev;rw [e1, e2, e3, e4, e5, e6, e7, e8] at e;rw [e];exact rcheck_1 x w hd h1 h2 hp hp2 hda hof
 · have hof : ofV x.d = .agg #[.bool true, .bool false, .bool false, .bool false, .bool false, .bool false, .bool true, .bool false] := by rw [hx]; exact ofV2
   have e := rE_eq x (by omega) (by omega);have ev := hof;rw [hx] at e;rw [hx] at ev;simp only [ofV, Value.agg.injEq, Array.mk.injEq, List.cons.injEq, Value.bool.injEq, and_true] at ev;obtain ⟨e1, e2, e3, e4, e5, e6, e7, e8⟩ := ev;rw [e1, e2, e3, e4, e5, e6, e7, e8] at e;rw [e];exact rcheck_65 x w hd h1 h2 hp hp2 hda hof
 · have hof : ofV x.d = .agg #[.bool false, .bool false, .bool true, .bool true, .bool false, .bool false, .bool false, .bool false] := by rw [hx]; exact ofV3
   have e := rE_eq x (by omega) (by omega);have ev := hof;rw [hx] at e;rw [hx] at ev;simp only [ofV, Value.agg.injEq, Array.mk.injEq, List.cons.injEq, Value.bool.injEq, and_true] at ev;obtain ⟨e1, e2, e3, e4, e5, e6, e7, e8⟩ := ev;rw [e1, e2, e3, e4, e5, e6, e7, e8] at e;rw [e];exact rcheck_12 x w hd h1 h2 hp hp2 hda hof
 · have hof : ofV x.d = .agg #[.bool false, .bool false, .bool true, .bool true, .bool false, .bool true, .bool false, .bool false] := by rw [hx]; exact ofV4
   have e := rE_eq x (by omega) (by omega);have ev := hof;rw [hx] at e;rw [hx] at ev;simp only [ofV, Value.agg.injEq, Array.mk.injEq, List.cons.injEq, Value.bool.injEq, and_true] at ev;obtain ⟨e1, e2, e3, e4, e5, e6, e7, e8⟩ := ev;rw [e1, e2, e3, e4, e5, e6, e7, e8] at e;rw [e];exact rcheck_44 x w hd h1 h2 hp hp2 hda hof
 · have hof : ofV x.d = .agg #[.bool false, .bool false, .bool true, .bool false, .bool true, .bool false, .bool false, .bool false] := by rw [hx]; exact ofV5
   have e := rE_eq x (by omega) (by omega);have ev := hof;rw [hx] at e;rw [hx] at ev;simp only [ofV, Value.agg.injEq, Array.mk.injEq, List.cons.injEq, Value.bool.injEq, and_true] at ev;obtain ⟨e1, e2, e3, e4, e5, e6, e7, e8⟩ := ev;rw [e1, e2, e3, e4, e5, e6, e7, e8] at e;rw [e];exact rcheck_20 x w hd h1 h2 hp hp2 hda hof
 · have hof : ofV x.d = .agg #[.bool true, .bool true, .bool false, .bool false, .bool false, .bool false, .bool false, .bool true] := by rw [hx]; exact ofV6
   have e := rE_eq x (by omega) (by omega);have ev := hof;rw [hx] at e;rw [hx] at ev;simp only [ofV, Value.agg.injEq, Array.mk.injEq, List.cons.injEq, Value.bool.injEq, and_true] at ev;obtain ⟨e1, e2, e3, e4, e5, e6, e7, e8⟩ := ev;rw [e1, e2, e3, e4, e5, e6, e7, e8] at e;rw [e];exact rcheck_131 x w hd h1 h2 hp hp2 hda hof
 · have hof : ofV x.d = .agg #[.bool true, .bool false, .bool false, .bool false, .bool false, .bool false, .bool true, .bool false] := by rw [hx]; exact ofV7
   have e := rE_eq x (by omega) (by omega);have ev := hof;rw [hx] at e;rw [hx] at ev;simp only [ofV, Value.agg.injEq, Array.mk.injEq, List.cons.injEq, Value.bool.injEq, and_true] at ev;obtain ⟨e1, e2, e3, e4, e5, e6, e7, e8⟩ := ev;rw [e1, e2, e3, e4, e5, e6, e7, e8] at e;rw [e];exact rcheck_65 x w hd h1 h2 hp hp2 hda hof
 · have hof : ofV x.d = .agg #[.bool true, .bool true, .bool false, .bool false, .bool false, .bool false, .bool true, .bool true] := by rw [hx]; exact ofV8
   have e := rE_eq x (by omega) (by omega);have ev := hof;rw [hx] at e;rw [hx] at ev;simp only [ofV, Value.agg.injEq, Array.mk.injEq, List.cons.injEq, Value.bool.injEq, and_true] at ev;obtain ⟨e1, e2, e3, e4, e5, e6, e7, e8⟩ := ev;rw [e1, e2, e3, e4, e5, e6, e7, e8] at e;rw [e];exact rcheck_195 x w hd h1 h2 hp hp2 hda hof
 · have hof : ofV x.d = .agg #[.bool true, .bool false, .bool false, .bool false, .bool false, .bool false, .bool true, .bool false] := by rw [hx]; exact ofV9
   have e := rE_eq x (by omega) (by omega);have ev := hof;rw [hx] at e;rw [hx] at ev;simp only [ofV, Value.agg.injEq, Array.mk.injEq, List.cons.injEq, Value.bool.injEq, and_true] at ev;obtain ⟨e1, e2, e3, e4, e5, e6, e7, e8⟩ := ev;rw [e1, e2, e3, e4, e5, e6, e7, e8] at e;rw [e];exact rcheck_65 x w hd h1 h2 hp hp2 hda hof
 · have hof : ofV x.d = .agg #[.bool true, .bool false, .bool false, .bool false, .bool false, .bool false, .bool true, .bool false] := by rw [hx]; exact ofV10
   have e := rE_eq x (by omega) (by omega);have ev := hof;rw [hx] at e;rw [hx] at ev;simp only [ofV, Value.agg.injEq, Array.mk.injEq, List.cons.injEq, Value.bool.injEq, and_true] at ev;obtain ⟨e1, e2, e3, e4, e5, e6, e7, e8⟩ := ev;rw [e1, e2, e3, e4, e5, e6, e7, e8] at e;rw [e];exact rcheck_65 x w hd h1 h2 hp hp2 hda hof
 · have hof : ofV x.d = .agg #[.bool true, .bool false, .bool false, .bool false, .bool false, .bool false, .bool false, .bool false] := by rw [hx]; exact ofV11
   have e := rE_eq x (by omega) (by omega);have ev := hof;rw [hx] at e;rw [hx] at ev;simp only [ofV, Value.agg.injEq, Array.mk.injEq, List.cons.injEq, Value.bool.injEq, and_true] at ev;obtain ⟨e1, e2, e3, e4, e5, e6, e7, e8⟩ := ev;rw [e1, e2, e3, e4, e5, e6, e7, e8] at e;rw [e];exact rcheck_1 x w hd h1 h2 hp hp2 hda hof
 · have hof : ofV x.d = .agg #[.bool true, .bool false, .bool false, .bool false, .bool false, .bool false, .bool false, .bool false] := by rw [hx]; exact ofV12
   have e := rE_eq x (by omega) (by omega);have ev := hof;rw [hx] at e;rw [hx] at ev;simp only [ofV, Value.agg.injEq, Array.mk.injEq, List.cons.injEq, Value.bool.injEq, and_true] at ev;obtain ⟨e1, e2, e3, e4, e5, e6, e7, e8⟩ := ev;rw [e1, e2, e3, e4, e5, e6, e7, e8] at e;rw [e];exact rcheck_1 x w hd h1 h2 hp hp2 hda hof
 · have hof : ofV x.d = .agg #[.bool false, .bool false, .bool true, .bool false, .bool false, .bool false, .bool false, .bool false] := by rw [hx]; exact ofV13
   have e := rE_eq x (by omega) (by omega);have ev := hof;rw [hx] at e;rw [hx] at ev;simp only [ofV, Value.agg.injEq, Array.mk.injEq, List.cons.injEq, Value.bool.injEq, and_true] at ev;obtain ⟨e1, e2, e3, e4, e5, e6, e7, e8⟩ := ev;rw [e1, e2, e3, e4, e5, e6, e7, e8] at e;rw [e];exact rcheck_4 x w hd h1 h2 hp hp2 hda hof
 · have hof : ofV x.d = .agg #[.bool false, .bool false, .bool true, .bool false, .bool false, .bool false, .bool false, .bool false] := by rw [hx]; exact ofV14
   have e := rE_eq x (by omega) (by omega);have ev := hof;rw [hx] at e;rw [hx] at ev;simp only [ofV, Value.agg.injEq, Array.mk.injEq, List.cons.injEq, Value.bool.injEq, and_true] at ev;obtain ⟨e1, e2, e3, e4, e5, e6, e7, e8⟩ := ev;rw [e1, e2, e3, e4, e5, e6, e7, e8] at e;rw [e];exact rcheck_4 x w hd h1 h2 hp hp2 hda hof
 · have hof : ofV x.d = .agg #[.bool false, .bool false, .bool false, .bool false, .bool false, .bool false, .bool false, .bool false] := by rw [hx]; exact ofV15
   have e := rE_eq x (by omega) (by omega);have ev := hof;rw [hx] at e;rw [hx] at ev;simp only [ofV, Value.agg.injEq, Array.mk.injEq, List.cons.injEq, Value.bool.injEq, and_true] at ev;obtain ⟨e1, e2, e3, e4, e5, e6, e7, e8⟩ := ev;rw [e1, e2, e3, e4, e5, e6, e7, e8] at e;rw [e];exact rcheck_0 x w hd h1 h2 hp hp2 hda hof
end Go.Proofs.YtkljcgopikdjjaaGreatDoor.Call
end
