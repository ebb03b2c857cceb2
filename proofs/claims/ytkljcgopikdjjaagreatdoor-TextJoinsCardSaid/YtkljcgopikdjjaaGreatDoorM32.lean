/- Layer 36, the document's answer: which steps may be. -/
import Derived.Test.YtkljcgopikdjjaaGreatDoorM11
import Derived.Test.YtkljcgopikdjjaaGreatDoorM31
import Derived.Deep.QuietTactic
import Derived.BigQuiet
import Derived.Deep.Cut
set_option linter.unusedVariables false
set_option linter.unusedSimpArgs false
set_option maxRecDepth 100000
section
namespace Go.Proofs.YtkljcgopikdjjaaGreatDoor.Tx
set_option maxRecDepth 100000
set_option maxHeartbeats 1000000
open Go.RowKit Go.Shelf Go.Maps Oct
theorem empty_iff (s : ByteArray) : (s = ⟨#[]⟩) ↔ s.toList = [] := by
 rw [Path.toList_L]
 constructor
 · rintro rfl; rfl
 · intro h; exact L_inj (by rw [h]; rfl)
def ndV (k : Nat) : Value := .agg #[.bool (bitB (hasK k) 1), .bool (bitB (hasK k) 2), .bool (bitB (hasK k) 4), .bool (bitB (hasK k) 8), .bool (bitB (hasK k) 16)]
theorem hasK_over (k : Nat) (h : ¬ k < 7) : hasK k = 0 := by
 match k, h with
 | k + 7, _ => rfl
theorem of36 (k : Nat) (w : World) (hk : k < 256) : Calls Tryz.prog 45 #[.int .u8 k] w fun e w' => e = .returned (ndV k) ∧ Below w.heap.size w w' := by
 by_cases h : k < 7
 · obtain rfl | rfl | rfl | rfl | rfl | rfl | rfl : k = 0 ∨ k = 1 ∨ k = 2 ∨ k = 3 ∨ k = 4 ∨ k = 5 ∨ k = 6 := by omega
   · rw [show ndV 0 = .agg #[.bool true, .bool false, .bool false, .bool true, .bool false] from rfl]
     go_enter Tryz.func45, Tryz.ntmps45
     go_wp2
     exact bodyPost_ret (v := .agg #[.bool true, .bool false, .bool false, .bool true, .bool false]) (by simp [results, Tryz.results45, go_sem]) rfl ⟨rfl, (Below.refl w.heap.size w).alloc (Nat.le_refl _) _⟩
   · rw [show ndV 1 = .agg #[.bool true, .bool false, .bool false, .bool false, .bool false] from rfl]
     go_enter Tryz.func45, Tryz.ntmps45
     go_wp2
     exact bodyPost_ret (v := .agg #[.bool true, .bool false, .bool false, .bool false, .bool false]) (by simp [results, Tryz.results45, go_sem]) rfl ⟨rfl, (Below.refl w.heap.size w).alloc (Nat.le_refl _) _⟩
   · rw [show ndV 2 = .agg #[.bool false, .bool false, .bool false, .bool false, .bool true] from rfl]
     go_enter Tryz.func45, Tryz.ntmps45
     go_wp2
     exact bodyPost_ret (v := .agg #[.bool false, .bool false, .bool false, .bool false, .bool true]) (by simp [results, Tryz.results45, go_sem]) rfl ⟨rfl, (Below.refl w.heap.size w).alloc (Nat.le_refl _) _⟩
   · rw [show ndV 3 = .agg #[.bool false, .bool true, .bool false, .bool false, .bool false] from rfl]
     go_enter Tryz.func45, Tryz.ntmps45
     go_wp2
     exact bodyPost_ret (v := .agg #[.bool false, .bool true, .bool false, .bool false, .bool false]) (by simp [results, Tryz.results45, go_sem]) rfl ⟨rfl, (Below.refl w.heap.size w).alloc (Nat.le_refl _) _⟩
   · rw [show ndV 4 = .agg #[.bool false, .bool false, .bool true, .bool false, .bool false] from rfl]
     go_enter Tryz.func45, Tryz.ntmps45
     go_wp2
     exact bodyPost_ret (v := .agg #[.bool false, .bool false, .bool true, .bool false, .bool false]) (by simp [results, Tryz.results45, go_sem]) rfl ⟨rfl, (Below.refl w.heap.size w).alloc (Nat.le_refl _) _⟩
   · rw [show ndV 5 = .agg #[.bool false, .bool true, .bool false, .bool false, .bool false] from rfl]
     go_enter Tryz.func45, Tryz.ntmps45
     go_wp2
     exact bodyPost_ret (v := .agg #[.bool false, .bool true, .bool false, .bool false, .bool false]) (by simp [results, Tryz.results45, go_sem]) rfl ⟨rfl, (Below.refl w.heap.size w).alloc (Nat.le_refl _) _⟩
   · rw [show ndV 6 = .agg #[.bool false, .bool false, .bool false, .bool false, .bool true] from rfl]
     go_enter Tryz.func45, Tryz.ntmps45
     go_wp2
     exact bodyPost_ret (v := .agg #[.bool false, .bool false, .bool false, .bool false, .bool true]) (by simp [results, Tryz.results45, go_sem]) rfl ⟨rfl, (Below.refl w.heap.size w).alloc (Nat.le_refl _) _⟩
 · have e : ndV k = .agg #[.bool false, .bool false, .bool false, .bool false, .bool false] := by unfold ndV; rw [hasK_over k h]; rfl
   rw [e];have t0 : ((k : Int) == 0) = false := by simp; omega
   have t1 : ((k : Int) == 1) = false := by simp; omega
   have t2 : ((k : Int) == 2) = false := by simp; omega
   have t3 : ((k : Int) == 3) = false := by simp; omega
   have t4 : ((k : Int) == 4) = false := by simp; omega
   have t5 : ((k : Int) == 5) = false := by simp; omega
   have t6 : ((k : Int) == 6) = false := by simp; omega
   go_enter Tryz.func45, Tryz.ntmps45
   go_wp2
   exact bodyPost_ret (v := .agg #[.bool false, .bool false, .bool false, .bool false, .bool false]) (by simp [results, Tryz.results45, go_sem]) rfl ⟨rfl, (Below.refl w.heap.size w).alloc (Nat.le_refl _) _⟩
theorem most36 (k : Nat) (w : World) (hk : k < 256) : Calls Tryz.prog 46 #[.int .u8 k] w fun e w' => e = .returned (.int .i64 (mostK k)) ∧ w = w' := by
 by_cases h3 : k = 3
 · subst h3
   go_enter Tryz.func46, Tryz.ntmps46
   go_wp2
   go_ret;exact ⟨rfl, rfl⟩
 · by_cases h5 : k = 5
   · subst h5
     go_enter Tryz.func46, Tryz.ntmps46
     go_wp2
     go_ret;exact ⟨rfl, rfl⟩
   · have e : mostK k = 0 := by
       unfold mostK
       split
       · exact absurd rfl h3
       · exact absurd rfl h5
       · rfl
     rw [e];have t3 : ((k : Int) == 3) = false := by simp; omega
     have t5 : ((k : Int) == 5) = false := by simp; omega
     go_enter Tryz.func46, Tryz.ntmps46
     go_wp2
     go_ret;exact ⟨rfl, rfl⟩
theorem mayM_bool (x : M) : mayM x = (decide (x.k < 7) && !decide (x.co < 0) && !decide (8 ≤ x.co) && !decide (x.n < 0) && !decide (((mostK x.k : Nat) : Int) < x.n) && !decide (256 < x.ino) && !decide (255 < x.t.length) && (!bitB (hasK x.k) 8 || x.c.checkE == 0) && (bitB (hasK x.k) 1 || x.co == 0) && (bitB (hasK x.k) 4 || (x.ino : Int) == 0) && (bitB (hasK x.k) 8 || decide (x.c = Call.C.zero 0)) && (bitB (hasK x.k) 16 || (B x.t).toList.isEmpty)) := by
 rw [Bool.eq_iff_iff, mayM_iff]
 constructor
 · intro h
   have h1 := h.co0; have h2 := h.co1; have h3 := h.n0; have h4 := h.n1; have h5 := h.ino; have h6 := h.t; have h7 := h.known
   have h8 : (!bitB (hasK x.k) 8 || x.c.checkE == 0) = true := by
     cases hb : bitB (hasK x.k) 8 with
     | false => rfl
     | true => simp [h.ck hb]
   simp only [Bool.and_eq_true];refine ⟨⟨⟨⟨⟨⟨⟨⟨⟨⟨⟨by simpa using h7, by simp; omega⟩, by simp; omega⟩, by simp; omega⟩, by simp; omega⟩, by simp; omega⟩, by simp; omega⟩, h8⟩, h.b1⟩, h.b4⟩, h.b8⟩, h.b16⟩
 · intro h
   simp only [Bool.and_eq_true] at h;obtain ⟨⟨⟨⟨⟨⟨⟨⟨⟨⟨⟨a0, a1⟩, a2⟩, a3⟩, a4⟩, a5⟩, a6⟩, a7⟩, a8⟩, a9⟩, a10⟩, a11⟩ := h;refine ⟨by simpa using a0, by simpa using a1, by simpa using a2, by simpa using a3, by simpa using a4, by simpa using a5, by simpa using a6, a8, a9, a10, a11, fun hb => ?_⟩;rw [hb] at a7
   simpa using a7
theorem may36 (x : M) (w : World) (hk : x.k < 256) (hd : x.d < 256) (hsz : x.size ≤ 100000) :
   Calls Tryz.prog 16 #[x.val] w fun e w' => e = .returned (.bool (mayM x)) ∧ Below w.heap.size w w' := by
 have HM := Lib.hid (mayM_bool x);have hp : x.p.length ≤ 100000 ∧ x.p2.length ≤ 100000 ∧ x.da.length ≤ 100000 ∧ x.t.length ≤ 100000 := by unfold M.size at hsz; omega
 obtain ⟨hp1, hp2, hp3, hp4⟩ := hp;have OF := Lib.hid (fun W => of36 x.k W hk);have MO := Lib.hid (fun W => (most36 x.k W hk).mono (R' := fun e w' => e = .returned (.int .i64 (mostK x.k)) ∧ w' = W) fun e w' h => ⟨h.1, h.2.symm⟩);have CK := Lib.hid (fun W => Call.rcheck_any x.c W hd (by show (B x.p).size ≤ _; rw [size_B]; unfold maxLen; omega) (by show (B x.p2).size ≤ _; rw [size_B]; unfold maxLen; omega) (by show (B x.da).size ≤ _; rw [size_B]; unfold maxLen; omega));have hts : (B x.t).size = x.t.length := size_B x.t;have h1 := SBox.new w 40 x.cells;have B0 := Lib.hid ((Below.refl w.heap.size w).alloc (Nat.le_refl _) (.cells x.cells 40));have HX := Lib.hid h1;unfold ndV at OF;unfold M.val M.cells at *;unfold M.c at CK;simp only at CK;have X0 := h1.cell 0;have X1 := h1.cell 1;have X2 := h1.cell 2;have X3 := h1.cell 3;have X4 := h1.cell 4;have X5 := h1.cell 5;have X6 := h1.cell 6;have X7 := h1.cell 7;have X8 := h1.cell 8;have X9 := h1.cell 9;have X10 := h1.cell 10;have X11 := h1.cell 11;simp only [List.getElem?_toArray, List.getElem?_cons_zero, List.getElem?_cons_succ] at X0 X1 X2 X3 X4 X5 X6 X7 X8 X9 X10 X11;have Xl := h1.lt;clear h1 hp1 hp2 hp3 hp4 hsz
 go_enter Tryz.func16, Tryz.ntmps16
 go_wp2_with fail;refine (OF.out _).mono ?_;rintro e w2 ⟨rfl, hb2⟩;have hx2 := HX.out.later hb2;have HX2 := Lib.hid hx2;have HB2 := Lib.hid (B0.out.trans (hb2.mono (by simp)));clear hb2 X0 X1 X2 X3 X4 X5 X6 X7 X8 X9 X10 X11 Xl;have Y0 := hx2.cell 0;have Y1 := hx2.cell 1;have Y2 := hx2.cell 2;have Y3 := hx2.cell 3;have Y4 := hx2.cell 4;have Y5 := hx2.cell 5;have Y6 := hx2.cell 6;have Y7 := hx2.cell 7;have Y8 := hx2.cell 8;have Y9 := hx2.cell 9;have Y10 := hx2.cell 10;have Y11 := hx2.cell 11;simp only [List.getElem?_toArray, List.getElem?_cons_zero, List.getElem?_cons_succ] at Y0 Y1 Y2 Y3 Y4 Y5 Y6 Y7 Y8 Y9 Y10 Y11;have Yl := hx2.lt;clear hx2;have HBA := Lib.hid (HB2.out.alloc HB2.out.size (.cells #[.bool (bitB (hasK x.k) 1), .bool (bitB (hasK x.k) 2), .bool (bitB (hasK x.k) 4), .bool (bitB (hasK x.k) 8), .bool (bitB (hasK x.k) 16)] 90))
 go_upto_region 2 with (fail)
 by_cases g0 : ¬ x.k < 7
 · have E : Hid (mayM x = false) := Lib.hid (by rw [HM.out]; simp [g0])
   have u : ((7 : Int) ≤ (x.k : Int)) := by omega
   clear g0
   go_quiet ((go_at_call 46; exact Calls.quiet_of_same (MO.out _)))
   go_wp2
   go_ret;exact ⟨by rw [E.out]; rfl, HBA.out.trans ((below_drewN _ _).mono HBA.out.size)⟩
 have u0 : ¬ ((7 : Int) ≤ (x.k : Int)) := by omega
 by_cases g1 : x.co < 0
 · have E : Hid (mayM x = false) := Lib.hid (by rw [HM.out]; simp [g1])
   have u : (x.co < 0) := by omega
   clear g1
   go_quiet ((go_at_call 46; exact Calls.quiet_of_same (MO.out _)))
   go_wp2
   go_ret;exact ⟨by rw [E.out]; rfl, HBA.out.trans ((below_drewN _ _).mono HBA.out.size)⟩
 have u1 : ¬ (x.co < 0) := by omega
 by_cases g2 : 8 ≤ x.co
 · have E : Hid (mayM x = false) := Lib.hid (by rw [HM.out]; simp [g2])
   have u : ((8 : Int) ≤ x.co) := by omega
   clear g2
   go_quiet ((go_at_call 46; exact Calls.quiet_of_same (MO.out _)))
   go_wp2
   go_ret;exact ⟨by rw [E.out]; rfl, HBA.out.trans ((below_drewN _ _).mono HBA.out.size)⟩
 have u2 : ¬ ((8 : Int) ≤ x.co) := by omega
 by_cases g3 : x.n < 0
 · have E : Hid (mayM x = false) := Lib.hid (by rw [HM.out]; simp [g3])
   have u : (x.n < 0) := by omega
   clear g3
   go_quiet ((go_at_call 46; exact Calls.quiet_of_same (MO.out _)))
   go_wp2
   go_ret;exact ⟨by rw [E.out]; rfl, HBA.out.trans ((below_drewN _ _).mono HBA.out.size)⟩
 have u3 : ¬ (x.n < 0) := by omega
 by_cases g4 : ((mostK x.k : Nat) : Int) < x.n
 · have E : Hid (mayM x = false) := Lib.hid (by rw [HM.out]; simp [g4])
   have u : (((mostK x.k : Nat) : Int) < x.n) := by omega
   clear g4
   go_quiet ((go_at_call 46; exact Calls.quiet_of_same (MO.out _)))
   go_wp2
   go_ret;exact ⟨by rw [E.out]; rfl, HBA.out.trans ((below_drewN _ _).mono HBA.out.size)⟩
 have u4 : ¬ (((mostK x.k : Nat) : Int) < x.n) := by omega
 by_cases g5 : 256 < x.ino
 · have E : Hid (mayM x = false) := Lib.hid (by rw [HM.out]; simp [g5])
   have u : ((256 : Int) < (x.ino : Int)) := by omega
   clear g5
   go_quiet ((go_at_call 46; exact Calls.quiet_of_same (MO.out _)))
   go_wp2
   go_ret;exact ⟨by rw [E.out]; rfl, HBA.out.trans ((below_drewN _ _).mono HBA.out.size)⟩
 have u5 : ¬ ((256 : Int) < (x.ino : Int)) := by omega
 by_cases g6 : 255 < x.t.length
 · have E : Hid (mayM x = false) := Lib.hid (by rw [HM.out]; simp [g6])
   have u : ((255 : Int) < (x.t.length : Int)) := by omega
   clear g6
   go_quiet ((go_at_call 46; exact Calls.quiet_of_same (MO.out _)))
   go_wp2
   go_ret;exact ⟨by rw [E.out]; rfl, HBA.out.trans ((below_drewN _ _).mono HBA.out.size)⟩
 have u6 : ¬ ((255 : Int) < (x.t.length : Int)) := by omega
 have E0 : mayM x = ((!bitB (hasK x.k) 8 || x.c.checkE == 0) && (bitB (hasK x.k) 1 || x.co == 0) && (bitB (hasK x.k) 4 || (x.ino : Int) == 0) && (bitB (hasK x.k) 8 || decide (x.c = Call.C.zero 0)) && (bitB (hasK x.k) 16 || (B x.t).toList.isEmpty)) := by
   rw [HM.out, decide_eq_true (show x.k < 7 by omega), decide_eq_false g1, decide_eq_false g2, decide_eq_false g3, decide_eq_false g4, decide_eq_false g5, decide_eq_false g6];simp only [Bool.not_false, Bool.true_and, Bool.and_true]
 have EQ := Lib.hid (fun W => Call.run_eqC x.c (Call.C.zero 0) W);unfold M.c Call.C.zero at EQ;simp only at EQ
 generalize bitB (hasK x.k) 1 = b1 at *
 generalize bitB (hasK x.k) 4 = b4 at *
 generalize bitB (hasK x.k) 8 = b8 at *
 generalize bitB (hasK x.k) 16 = b16 at *
 generalize bitB (hasK x.k) 2 = b2 at *
 have E1 := Lib.hid E0;clear E0 g0 g1 g2 g3 g4 g5 g6
 go_quiet ((go_at_call 46; exact Calls.quiet_of_same (MO.out _)))
 have hn := SBox.new w2 90 #[.bool b1, .bool b2, .bool b4, .bool b8, .bool b16];have ha := (Below.refl w2.heap.size w2).alloc (Nat.le_refl _) (.cells #[.bool b1, .bool b2, .bool b4, .bool b8, .bool b16] 90);have hqq := below_drewN (w2.alloc (.cells #[.bool b1, .bool b2, .bool b4, .bool b8, .bool b16] 90)) nq;have hnq := hn.later hqq;have hxq := (HX2.out.later ha).later hqq;have HBq := Lib.hid (HBA.out.trans (hqq.mono HBA.out.size));have hsq := hqq.size;simp only [Array.size_push, World.alloc] at hsq;clear hn ha hqq Y0 Y1 Y2 Y3 Y4 Y5 Y6 Y7 Y8 Y9 Y10 Y11 Yl HX2 HX HB2 HBA
 generalize (w2.alloc (.cells #[.bool b1, .bool b2, .bool b4, .bool b8, .bool b16] 90)).drewN nq = wq at *
 have HNQ := Lib.hid hnq;have HXQ := Lib.hid hxq;have N0 := hnq.cell 0;have N1 := hnq.cell 1;have N2 := hnq.cell 2;have N3 := hnq.cell 3;have N4 := hnq.cell 4;simp only [List.getElem?_toArray, List.getElem?_cons_zero, List.getElem?_cons_succ] at N0 N1 N2 N3 N4;have Nl := hnq.lt;have Y0 := hxq.cell 0;have Y1 := hxq.cell 1;have Y2 := hxq.cell 2;have Y3 := hxq.cell 3;have Y4 := hxq.cell 4;have Y5 := hxq.cell 5;have Y6 := hxq.cell 6;have Y7 := hxq.cell 7;have Y8 := hxq.cell 8;have Y9 := hxq.cell 9;have Y10 := hxq.cell 10;have Y11 := hxq.cell 11;simp only [List.getElem?_toArray, List.getElem?_cons_zero, List.getElem?_cons_succ] at Y0 Y1 Y2 Y3 Y4 Y5 Y6 Y7 Y8 Y9 Y10 Y11;have Yl := hxq.lt;clear hnq hxq
 generalize hz1 : (x.co == 0) = z1 at *
 generalize hz4 : ((x.ino : Int) == 0) = z4 at *
 generalize hz8 : decide (Call.C.mk x.d (B x.p) (B x.p2) x.fd x.pg x.sz (B x.da) = Call.C.mk 0 ⟨#[]⟩ ⟨#[]⟩ 0 0 0 ⟨#[]⟩) = z8 at *
 generalize hz16 : (B x.t).toList.isEmpty = z16 at *
 have HZ8 : Hid (decide (x.c = Call.C.zero 0) = z8) := Lib.hid hz8;rw [HZ8.out] at E1;cases b8 with
 | false =>
   have E2 : Hid (mayM x = ((b1 || z1) && (b4 || z4) && z8 && (b16 || z16))) := Lib.hid (by rw [E1.out]; simp);clear E1;have eq := EQ.out;go_wp2_with fail
   all_goals
     go_ret;refine ⟨?_, HBq.out⟩;rw [E2.out];clear eq HZ8 E2 HBq HXQ HNQ
     simp_all [empty_iff]
 | true =>
   by_cases hck : x.c.checkE = 0
   · have E2 : Hid (mayM x = ((b1 || z1) && (b4 || z4) && (b16 || z16))) := Lib.hid (by rw [E1.out, hck]; simp)
     have CK2 := Lib.hid (CK.out wq);unfold M.c at hck;rw [hck] at CK2;clear E1 EQ hz8 HZ8 hck;go_wp2_with fail;refine CK2.out.mono ?_;rintro e w5 ⟨rfl, hb5⟩;have hnq := HNQ.out.later hb5;have hxq := HXQ.out.later hb5;have HB5 := Lib.hid (HBq.out.trans (hb5.mono HBq.out.size));clear N0 N1 N2 N3 N4 Nl Y0 Y1 Y2 Y3 Y4 Y5 Y6 Y7 Y8 Y9 Y10 Y11 Yl HNQ HXQ CK2 hb5 HBq;have N0 := hnq.cell 0;have N1 := hnq.cell 1;have N2 := hnq.cell 2;have N3 := hnq.cell 3;have N4 := hnq.cell 4;simp only [List.getElem?_toArray, List.getElem?_cons_zero, List.getElem?_cons_succ] at N0 N1 N2 N3 N4;have Nl := hnq.lt;have Y0 := hxq.cell 0;have Y1 := hxq.cell 1;have Y2 := hxq.cell 2;have Y3 := hxq.cell 3;have Y4 := hxq.cell 4;have Y5 := hxq.cell 5;have Y6 := hxq.cell 6;have Y7 := hxq.cell 7;have Y8 := hxq.cell 8;have Y9 := hxq.cell 9;have Y10 := hxq.cell 10;have Y11 := hxq.cell 11;simp only [List.getElem?_toArray, List.getElem?_cons_zero, List.getElem?_cons_succ] at Y0 Y1 Y2 Y3 Y4 Y5 Y6 Y7 Y8 Y9 Y10 Y11;have Yl := hxq.lt;clear hnq hxq;go_wp2_with fail
     all_goals
       go_ret;refine ⟨?_, HB5.out⟩;rw [E2.out];clear E2 HB5
       simp_all
   · have E2 : Hid (mayM x = false) := Lib.hid (by rw [E1.out]; simp [hck])
     have CK2 := Lib.hid (CK.out wq);have hne : (x.c.checkE == 0) = false := by simpa using hck
     have hne2 : (x.c.checkE != 0) = true := by simpa using hck
     unfold M.c at hne hne2
     generalize (Call.C.mk x.d (B x.p) (B x.p2) x.fd x.pg x.sz (B x.da)).checkE = ce at *
     clear E1 EQ hz8 HZ8 hck;go_wp2_with fail;refine CK2.out.mono ?_;rintro e w5 ⟨rfl, hb5⟩;have HB5 := Lib.hid (HBq.out.trans (hb5.mono HBq.out.size));clear hb5;go_wp2_with fail;go_ret;exact ⟨by rw [E2.out]; rfl, HB5.out⟩
end Go.Proofs.YtkljcgopikdjjaaGreatDoor.Tx
end
