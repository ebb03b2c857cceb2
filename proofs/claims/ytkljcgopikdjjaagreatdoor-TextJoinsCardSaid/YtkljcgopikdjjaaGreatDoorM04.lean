/- The reference's Split of layer 17. -/
import Derived.Test.YtkljcgopikdjjaaGreatDoorM03
import Derived.LaidEql
set_option linter.unusedVariables false
set_option linter.unusedSimpArgs false
set_option maxRecDepth 100000
section
namespace Go.Proofs.YtkljcgopikdjjaaGreatDoor.Call
open Go.RowKit Oct Path
def bitOf : Nat → Int
 | 0 => 1 | 1 => 2 | 2 => 4 | 3 => 8 | 4 => 16 | 5 => 32 | _ => 0
def hasB (h m : Int) : Bool := bits .and .i64 h m != 0
def C.bareTo (x : C) (h : Int) : Nat → C
 | 0 => x
 | k + 1 => if hasB h (bitOf k) then (x.bareTo h k).drop k else x.bareTo h k
def C.zero (d : Nat) : C := ⟨d, ⟨#[]⟩, ⟨#[]⟩, 0, 0, 0, ⟨#[]⟩⟩
def fillW (w : World) (b : Nat) (y : C) : World :=
 ((((((w.setCell ⟨b, 0, none⟩ (.int .u8 y.d)).setCell ⟨b, 1, none⟩ (.string y.p)).setCell ⟨b, 2, none⟩ (.string y.p2)).setCell ⟨b, 3, none⟩ (.int .i64 y.fd)).setCell ⟨b, 4, none⟩ (.int .i64 y.pg)).setCell ⟨b, 5, none⟩ (.int .u32 y.sz)).setCell ⟨b, 6, none⟩ (.string y.da)
theorem Box.fill {w : World} {b : Nat} {x : C} (h : Box w b x) (y : C) : Box (fillW w b y) b y := by
 obtain ⟨d, p, p2, fd, pg, sz, da⟩ := x;exact (((((((h.set (y := ⟨y.d, p, p2, fd, pg, sz, da⟩) 0 _ rfl).set (y := ⟨y.d, y.p, p2, fd, pg, sz, da⟩) 1 _ rfl).set (y := ⟨y.d, y.p, y.p2, fd, pg, sz, da⟩) 2 _ rfl).set (y := ⟨y.d, y.p, y.p2, y.fd, pg, sz, da⟩) 3 _ rfl).set (y := ⟨y.d, y.p, y.p2, y.fd, y.pg, sz, da⟩) 4 _ rfl).set (y := ⟨y.d, y.p, y.p2, y.fd, y.pg, y.sz, da⟩) 5 _ rfl).set (y := y) 6 _ rfl)
theorem fillW_below {w w' : World} {n b : Nat} {y : C} (h : Below n w w') (hb : n ≤ b) : Below n w (fillW w' b y) :=
 ((((((h.setCell hb _).setCell hb _).setCell hb _).setCell hb _).setCell hb _).setCell hb _).setCell hb _
def BareRel (x : C) (h : Int) (w : World) (i : Value) (wr : World) : Prop :=
 ∃ k : Nat, k ≤ 6 ∧ i = .int .i64 k ∧ Box wr w.heap.size (x.bareTo h k) ∧ Box wr (w.heap.size + 1) (C.zero 0) ∧ Rows6 wr (w.heap.size + 1 + 1) ∧ Below w.heap.size w wr
theorem bareTo_yes {x : C} {h : Int} {k : Nat} (hb : hasB h (bitOf k) = true) : x.bareTo h (k + 1) = (x.bareTo h k).drop k := by simp [C.bareTo, hb]
theorem bareTo_no {x : C} {h : Int} {k : Nat} (hb : hasB h (bitOf k) = false) : x.bareTo h (k + 1) = x.bareTo h k := by simp [C.bareTo, hb]
set_option maxHeartbeats 2000000 in
theorem bare_any (x : C) (w : World) (hk : Kinds w) (hd : x.d < 256) :
   Calls Tryz.prog 111 #[.agg x.cells] w fun e w' => e = .returned (.agg (x.bareTo (hasN x.d) 6).cells) ∧ Below w.heap.size w w' := by
 have HK := Lib.hid hk;have h0 := hk.1;have OF := Lib.hid (fun W k => of_any x.d W k hd);obtain ⟨h, hh⟩ : ∃ h, hasN x.d = h := ⟨_, rfl⟩;rw [hh] at OF ⊢;clear hk hh;obtain ⟨cs, hcs⟩ : ∃ cs, x.cells = cs := ⟨_, rfl⟩;have HX : Hid (x.cells = #[.int .u8 x.d, .string x.p, .string x.p2, .int .i64 x.fd, .int .i64 x.pg, .int .u32 x.sz, .string x.da]) := Lib.hid rfl;obtain ⟨y, hy⟩ : ∃ y, x.bareTo h 6 = y := ⟨_, rfl⟩;rw [hy];have HY := Lib.hid hy;clear hy hcs;rw [HX.out]
 go_enter Tryz.func111, Tryz.ntmps111
 go_wp2_with fail;refine (OF.out _ (HK.out.later (((Below.refl _ _).alloc (Nat.le_refl _) _).alloc (by simp) _))).mono ?_;rintro e w1 ⟨rfl, rfl⟩;go_wp2_with fail;refine (fields_any _).mono ?_;rintro e w1 ⟨rfl, rfl⟩
 go_wp2
 go_loopw [11] (fun i wr => BareRel x h w i wr) (fun i _ => 6 - (intOf i).toNat)
 case atStart =>
   refine ⟨0, by omega, rfl, ?_, ?_, ?_, ?_⟩
   · exact ((Box.alloc (b := w.heap.size) (x := x) (w := w.alloc _) (heap_alloc_new w _) _).alloc _)
   · exact (Box.alloc (b := w.heap.size + 1) (x := C.zero 0) (w := (w.alloc _).alloc _) (heap_alloc2_new w _ _) _)
   · have := heap_alloc_new ((w.alloc (.cells #[.int .u8 x.d, .string x.p, .string x.p2, .int .i64 x.fd, .int .i64 x.pg, .int .u32 x.sz, .string x.da] 38)).alloc (.cells (C.zero 0).cells 38)) (.cells rowF 224)
     simp only [World.size_alloc] at this;exact this
   · exact (((Below.refl _ _).alloc (Nat.le_refl _) _).alloc (by simp) _).alloc (by simp; omega) _
 case round =>
   obtain ⟨k, hk6, rfl, hB, hZ, hR, hbel⟩ := hrel;have hlt := hB.lt;have hlt2 := hR.lt;obtain rfl | rfl | rfl | rfl | rfl | rfl | rfl : k = 0 ∨ k = 1 ∨ k = 2 ∨ k = 3 ∨ k = 4 ∨ k = 5 ∨ k = 6 := by omega
   all_goals try clear hk6
   · have r0 := hR.cell 0 (by decide)
     have r1 := hR.cell 1 (by decide);have r2 := hR.cell 2 (by decide);have r3 := hR.cell 3 (by decide);simp only [rowF] at r0 r1 r2 r3;have HB := Lib.hid hB;have HZ := Lib.hid hZ;have HR := Lib.hid hR;clear hB hZ hR;cases hb : hasB h (bitOf 0) with
     | true =>
       have HN : Hid (x.bareTo h 1 = (x.bareTo h 0).drop 0) := Lib.hid (bareTo_yes hb);have tb : (bits .and .i64 h 1 != 0) = true := hb;clear hb;go_wp2_with fail;refine (drop0 _ _ _ (HB.out.alloc _)).mono ?_;rintro e w1 ⟨rfl, rfl⟩
       go_wp2
       go_roundw
       case rel => exact ⟨1, by omega, rfl, by rw [HN.out]; exact (HB.out.set _ _ rfl).alloc _, (HZ.out.other _ (by omega)).alloc _, (HR.out.other _ (by omega)).alloc _, (hbel.setCell (Nat.le_refl _) _).alloc (by simp; omega) _⟩
       case measure => simp [intOf]
     | false =>
       have HN : Hid (x.bareTo h 1 = x.bareTo h 0) := Lib.hid (bareTo_no hb);have tb : (bits .and .i64 h 1 != 0) = false := hb;clear hb
       go_wp2
       go_roundw
       case rel => exact ⟨1, by omega, rfl, by rw [HN.out]; exact HB.out.alloc _, HZ.out.alloc _, HR.out.alloc _, hbel.alloc (by omega) _⟩
       case measure => simp [intOf]
   · have r0 := hR.cell 4 (by decide)
     have r1 := hR.cell 5 (by decide);have r2 := hR.cell 6 (by decide);have r3 := hR.cell 7 (by decide);simp only [rowF] at r0 r1 r2 r3;have HB := Lib.hid hB;have HZ := Lib.hid hZ;have HR := Lib.hid hR;clear hB hZ hR;cases hb : hasB h (bitOf 1) with
     | true =>
       have HN : Hid (x.bareTo h 2 = (x.bareTo h 1).drop 1) := Lib.hid (bareTo_yes hb);have tb : (bits .and .i64 h 2 != 0) = true := hb;clear hb;go_wp2_with fail;refine (drop1 _ _ _ (HB.out.alloc _)).mono ?_;rintro e w1 ⟨rfl, rfl⟩
       go_wp2
       go_roundw
       case rel => exact ⟨2, by omega, rfl, by rw [HN.out]; exact (HB.out.set _ _ rfl).alloc _, (HZ.out.other _ (by omega)).alloc _, (HR.out.other _ (by omega)).alloc _, (hbel.setCell (Nat.le_refl _) _).alloc (by simp; omega) _⟩
       case measure => simp [intOf]
     | false =>
       have HN : Hid (x.bareTo h 2 = x.bareTo h 1) := Lib.hid (bareTo_no hb);have tb : (bits .and .i64 h 2 != 0) = false := hb;clear hb
       go_wp2
       go_roundw
       case rel => exact ⟨2, by omega, rfl, by rw [HN.out]; exact HB.out.alloc _, HZ.out.alloc _, HR.out.alloc _, hbel.alloc (by omega) _⟩
       case measure => simp [intOf]
   · have r0 := hR.cell 8 (by decide)
     have r1 := hR.cell 9 (by decide);have r2 := hR.cell 10 (by decide);have r3 := hR.cell 11 (by decide);simp only [rowF] at r0 r1 r2 r3;have HB := Lib.hid hB;have HZ := Lib.hid hZ;have HR := Lib.hid hR;clear hB hZ hR;cases hb : hasB h (bitOf 2) with
     | true =>
       have HN : Hid (x.bareTo h 3 = (x.bareTo h 2).drop 2) := Lib.hid (bareTo_yes hb);have tb : (bits .and .i64 h 4 != 0) = true := hb;clear hb;go_wp2_with fail;refine (drop2 _ _ _ (HB.out.alloc _)).mono ?_;rintro e w1 ⟨rfl, rfl⟩
       go_wp2
       go_roundw
       case rel => exact ⟨3, by omega, rfl, by rw [HN.out]; exact (HB.out.set _ _ rfl).alloc _, (HZ.out.other _ (by omega)).alloc _, (HR.out.other _ (by omega)).alloc _, (hbel.setCell (Nat.le_refl _) _).alloc (by simp; omega) _⟩
       case measure => simp [intOf]
     | false =>
       have HN : Hid (x.bareTo h 3 = x.bareTo h 2) := Lib.hid (bareTo_no hb);have tb : (bits .and .i64 h 4 != 0) = false := hb;clear hb
       go_wp2
       go_roundw
       case rel => exact ⟨3, by omega, rfl, by rw [HN.out]; exact HB.out.alloc _, HZ.out.alloc _, HR.out.alloc _, hbel.alloc (by omega) _⟩
       case measure => simp [intOf]
   · have r0 := hR.cell 12 (by decide)
     have r1 := hR.cell 13 (by decide);have r2 := hR.cell 14 (by decide);have r3 := hR.cell 15 (by decide);simp only [rowF] at r0 r1 r2 r3;have HB := Lib.hid hB;have HZ := Lib.hid hZ;have HR := Lib.hid hR;clear hB hZ hR;cases hb : hasB h (bitOf 3) with
     | true =>
       have HN : Hid (x.bareTo h 4 = (x.bareTo h 3).drop 3) := Lib.hid (bareTo_yes hb);have tb : (bits .and .i64 h 8 != 0) = true := hb;clear hb;go_wp2_with fail;refine (drop3 _ _ _ (HB.out.alloc _)).mono ?_;rintro e w1 ⟨rfl, rfl⟩
       go_wp2
       go_roundw
       case rel => exact ⟨4, by omega, rfl, by rw [HN.out]; exact (HB.out.set _ _ rfl).alloc _, (HZ.out.other _ (by omega)).alloc _, (HR.out.other _ (by omega)).alloc _, (hbel.setCell (Nat.le_refl _) _).alloc (by simp; omega) _⟩
       case measure => simp [intOf]
     | false =>
       have HN : Hid (x.bareTo h 4 = x.bareTo h 3) := Lib.hid (bareTo_no hb);have tb : (bits .and .i64 h 8 != 0) = false := hb;clear hb
       go_wp2
       go_roundw
       case rel => exact ⟨4, by omega, rfl, by rw [HN.out]; exact HB.out.alloc _, HZ.out.alloc _, HR.out.alloc _, hbel.alloc (by omega) _⟩
       case measure => simp [intOf]
   · have r0 := hR.cell 16 (by decide)
     have r1 := hR.cell 17 (by decide);have r2 := hR.cell 18 (by decide);have r3 := hR.cell 19 (by decide);simp only [rowF] at r0 r1 r2 r3;have HB := Lib.hid hB;have HZ := Lib.hid hZ;have HR := Lib.hid hR;clear hB hZ hR;cases hb : hasB h (bitOf 4) with
     | true =>
       have HN : Hid (x.bareTo h 5 = (x.bareTo h 4).drop 4) := Lib.hid (bareTo_yes hb);have tb : (bits .and .i64 h 16 != 0) = true := hb;clear hb;go_wp2_with fail;refine (drop4 _ _ _ (HB.out.alloc _)).mono ?_;rintro e w1 ⟨rfl, rfl⟩
       go_wp2
       go_roundw
       case rel => exact ⟨5, by omega, rfl, by rw [HN.out]; exact (HB.out.set _ _ rfl).alloc _, (HZ.out.other _ (by omega)).alloc _, (HR.out.other _ (by omega)).alloc _, (hbel.setCell (Nat.le_refl _) _).alloc (by simp; omega) _⟩
       case measure => simp [intOf]
     | false =>
       have HN : Hid (x.bareTo h 5 = x.bareTo h 4) := Lib.hid (bareTo_no hb);have tb : (bits .and .i64 h 16 != 0) = false := hb;clear hb
       go_wp2
       go_roundw
       case rel => exact ⟨5, by omega, rfl, by rw [HN.out]; exact HB.out.alloc _, HZ.out.alloc _, HR.out.alloc _, hbel.alloc (by omega) _⟩
       case measure => simp [intOf]
   · have r0 := hR.cell 20 (by decide)
     have r1 := hR.cell 21 (by decide);have r2 := hR.cell 22 (by decide);have r3 := hR.cell 23 (by decide);simp only [rowF] at r0 r1 r2 r3;have HB := Lib.hid hB;have HZ := Lib.hid hZ;have HR := Lib.hid hR;clear hB hZ hR;cases hb : hasB h (bitOf 5) with
     | true =>
       have HN : Hid (x.bareTo h 6 = (x.bareTo h 5).drop 5) := Lib.hid (bareTo_yes hb);have tb : (bits .and .i64 h 32 != 0) = true := hb;clear hb;go_wp2_with fail;refine (drop5 _ _ _ (HB.out.alloc _)).mono ?_;rintro e w1 ⟨rfl, rfl⟩
       go_wp2
       go_roundw
       case rel => exact ⟨6, by omega, rfl, by rw [HN.out]; exact (HB.out.set _ _ rfl).alloc _, (HZ.out.other _ (by omega)).alloc _, (HR.out.other _ (by omega)).alloc _, (hbel.setCell (Nat.le_refl _) _).alloc (by simp; omega) _⟩
       case measure => simp [intOf]
     | false =>
       have HN : Hid (x.bareTo h 6 = x.bareTo h 5) := Lib.hid (bareTo_no hb);have tb : (bits .and .i64 h 32 != 0) = false := hb;clear hb
       go_wp2
       go_roundw
       case rel => exact ⟨6, by omega, rfl, by rw [HN.out]; exact HB.out.alloc _, HZ.out.alloc _, HR.out.alloc _, hbel.alloc (by omega) _⟩
       case measure => simp [intOf]
   · rw [HY.out] at hB
     have c0 := hB.c0;have c1 := hB.c1;have c2 := hB.c2;have c3 := hB.c3;have c4 := hB.c4;have c5 := hB.c5;have c6 := hB.c6;have z0 := hZ.c0;have z1 := hZ.c1;have z2 := hZ.c2;have z3 := hZ.c3;have z4 := hZ.c4;have z5 := hZ.c5;have z6 := hZ.c6;have f0 := hZ.free 0;have f1 := hZ.free 1;have f2 := hZ.free 2;have f3 := hZ.free 3;have f4 := hZ.free 4;have f5 := hZ.free 5;have f6 := hZ.free 6;simp only [C.zero] at z0 z1 z2 z3 z4 z5 z6;have HZ := Lib.hid hZ;have eN : ((6 : Nat) : Int) = 6 := rfl;rw [eN];clear hB hR hZ eN
     go_wp2
     have HF := HZ.out.fill y;have k0 := HF.c0;have k1 := HF.c1;have k2 := HF.c2;have k3 := HF.c3;have k4 := HF.c4;have k5 := HF.c5;have k6 := HF.c6;have hfin : Below w.heap.size w (fillW wr (w.heap.size + 1) y) := fillW_below hbel (by omega);unfold fillW at k0 k1 k2 k3 k4 k5 k6 hfin;exact bodyPost_ret (v := .agg y.cells) (by simp [results, Tryz.results111, go_sem, k0, k1, k2, k3, k4, k5, k6, C.cells]) rfl ⟨rfl, hfin⟩
end Go.Proofs.YtkljcgopikdjjaaGreatDoor.Call
end
section
namespace Go.Proofs.YtkljcgopikdjjaaGreatDoor.Path
open Go.RowKit Oct
theorem strs_form {w : World} {v : Value} {ps : List ByteArray} (h : Strs w v ps) : ∃ ao cap, v = .slice ao ps.length cap := by
 rcases strs_cases h with ⟨ao, c, rfl, rfl⟩ | ⟨b, off, cap, rfl, _⟩
 · exact ⟨ao, c, rfl⟩
 · exact ⟨_, _, rfl⟩
end Go.Proofs.YtkljcgopikdjjaaGreatDoor.Path
end
section
namespace Go.Proofs.YtkljcgopikdjjaaGreatDoor.Call
open Go.RowKit Oct Path
instance : DecidableEq C := fun x y =>
 if h : x.d = y.d ∧ L x.p = L y.p ∧ L x.p2 = L y.p2 ∧ x.fd = y.fd ∧ x.pg = y.pg ∧ x.sz = y.sz ∧ L x.da = L y.da then
   .isTrue (by
     obtain ⟨d, p, p2, fd, pg, sz, da⟩ := x;obtain ⟨d', p', p2', fd', pg', sz', da'⟩ := y;obtain ⟨h1, h2, h3, h4, h5, h6, h7⟩ := h;simp only at h1 h2 h3 h4 h5 h6 h7;rw [h1, L_inj h2, L_inj h3, h4, h5, h6, L_inj h7])
 else .isFalse (fun e => h (by subst e; exact ⟨rfl, rfl, rfl, rfl, rfl, rfl, rfl⟩))
theorem C.eq_iff (x y : C) : x = y ↔ x.d = y.d ∧ L x.p = L y.p ∧ L x.p2 = L y.p2 ∧ x.fd = y.fd ∧ x.pg = y.pg ∧ x.sz = y.sz ∧ L x.da = L y.da :=
 ⟨fun e => by subst e; exact ⟨rfl, rfl, rfl, rfl, rfl, rfl, rfl⟩, fun h => by
     obtain ⟨d, p, p2, fd, pg, sz, da⟩ := x;obtain ⟨d', p', p2', fd', pg', sz', da'⟩ := y;obtain ⟨h1, h2, h3, h4, h5, h6, h7⟩ := h;simp only at h1 h2 h3 h4 h5 h6 h7;rw [h1, L_inj h2, L_inj h3, h4, h5, h6, L_inj h7]⟩
theorem run_eqC (x y : C) (w : World) : (binOp .eql 38 (.agg #[.int .u8 x.d, .string x.p, .string x.p2, .int .i64 x.fd, .int .i64 x.pg, .int .u32 x.sz, .string x.da]) (.agg #[.int .u8 y.d, .string y.p, .string y.p2, .int .i64 y.fd, .int .i64 y.pg, .int .u32 y.sz, .string y.da])).run Tryz.prog w = .ok (.bool (decide (x = y))) w := by
 simp only [C.eq_iff]
 simp [go_sem, toList_L]
 by_cases h1 : x.d = y.d
 · by_cases h2 : L x.p = L y.p
   · by_cases h3 : L x.p2 = L y.p2
     · by_cases h4 : x.fd = y.fd
       · by_cases h5 : x.pg = y.pg
         · by_cases h6 : x.sz = y.sz
           · by_cases h7 : L x.da = L y.da <;> simp [h1, h2, h3, h4, h5, h6, h7]
           · simp [h1, h2, h3, h4, h5, h6]; omega
         · simp [h1, h2, h3, h4, h5]
       · simp [h1, h2, h3, h4]
     · simp [h1, h2, h3]
   · simp [h1, h2]
 · simp [h1]; omega
set_option maxHeartbeats 400000 in
theorem at_no (s : ByteArray) (bit named h : Int) (bh br : Nat) (w : World) (t : (bits .and .i64 h bit == 0) = true) (ch : w.cell? ⟨bh, 0, none⟩ = some (.int .i64 h)) :
   Calls Tryz.prog 112 #[.string s, .int .i64 bit, .int .i64 named, .pointer (some ⟨bh, 0, none⟩), .pointer (some ⟨br, 0, none⟩)] w fun e w' => e = .returned (.int .i64 0) ∧ w = w' := by
 go_enter Tryz.func112, Tryz.ntmps112
 go_wp2
 go_ret;exact ⟨rfl, rfl⟩
def AtPost (l : List UInt8) (r : Bool) (br : Nat) (w : World) (e : Ending) (w' : World) : Prop :=
 e = .returned (.int .i64 (splitE l)) ∧ ∃ w1, Below w.heap.size w w1 ∧ w' = w1.setCell ⟨br, 0, none⟩ (.bool r)
set_option maxHeartbeats 400000 in
theorem at_yes (s : ByteArray) (bit named h : Int) (root nb : Bool) (bh br : Nat) (w : World) (hs : s.size ≤ maxLen) (t : (bits .and .i64 h bit == 0) = false) (tn : (bits .and .i64 h named != 0) = nb)
   (ch : w.cell? ⟨bh, 0, none⟩ = some (.int .i64 h)) (cr : w.cell? ⟨br, 0, none⟩ = some (.bool root)) (fr : w.frozen? ⟨br, 0, none⟩ = false) (lh : bh < w.heap.size) (lr : br < w.heap.size) :
   Calls Tryz.prog 112 #[.string s, .int .i64 bit, .int .i64 named, .pointer (some ⟨bh, 0, none⟩), .pointer (some ⟨br, 0, none⟩)] w (AtPost (L s) (root || (nb && decide (splitN (L s) = []))) br w) := by
 have SA := Lib.hid (split_any s w hs);clear hs;obtain ⟨n, hn⟩ : ∃ n : Nat, ((splitN (L s)).map B).length = n := ⟨_, rfl⟩
 have e2 : decide (splitN (L s) = []) = ((n : Int) == 0) := by
   rw [← hn];cases splitN (L s) <;> simp;omega
 rw [e2];have HN := Lib.hid hn;obtain ⟨z, hz⟩ : ∃ z, ((n : Int) == 0) = z := ⟨_, rfl⟩;clear hn e2
 go_enter Tryz.func112, Tryz.ntmps112
 go_wp2_with fail;refine SA.out.mono ?_;rintro e w1 ⟨v, rfl, hv, b1⟩;have c1 : w1.cell? ⟨bh, 0, none⟩ = some (.int .i64 h) := (b1.cell (p := ⟨bh, 0, none⟩) lh).trans ch;have c2 : w1.cell? ⟨br, 0, none⟩ = some (.bool root) := (b1.cell (p := ⟨br, 0, none⟩) lr).trans cr;have c3 : w1.frozen? ⟨br, 0, none⟩ = false := (b1.frozen (p := ⟨br, 0, none⟩) lr).trans fr;obtain ⟨ao, cap, rfl⟩ := strs_form hv;rw [HN.out];have B1 := Lib.hid b1;clear hv b1 ch cr fr;cases root <;> cases nb <;> cases z
 all_goals
   go_wp2
   go_ret;refine ⟨rfl, w1, B1.out, ?_⟩
   first | rfl | (rw [hz]; rfl)
end Go.Proofs.YtkljcgopikdjjaaGreatDoor.Call
end
section
namespace Go.Proofs.YtkljcgopikdjjaaGreatDoor.Path
open Oct
theorem names_cons {l x : List UInt8} (h : l = 47 :: x) (hx : x ≠ []) : namesL l = fields x := by
 unfold namesL;rw [if_neg (by rw [h]; simpa using hx), h]
 rfl
theorem names_nil_iff {l x : List UInt8} (h : l = 47 :: x) : namesL l = [] ↔ x = [] := by
 constructor
 · intro e
   by_cases hx : x = []
   · exact hx
   · rw [names_cons h hx] at e
     exact (fields_ne x e).elim
 · rintro rfl
   unfold namesL;rw [if_pos h]
end Go.Proofs.YtkljcgopikdjjaaGreatDoor.Path
end
section
namespace Go.Proofs.YtkljcgopikdjjaaGreatDoor.Path
open Go.RowKit
open Oct
set_option maxHeartbeats 400000 in
theorem rname_long (s : ByteArray) (w : World) (hs : s.size ≤ maxLen) (h : 27 < s.size) :
   Calls Tryz.prog 131 #[.string s] w fun e w' => e = .returned (.bool false) ∧ w = w' := by
 unfold maxLen at hs;have t0 : decide (s.size < 1) = false := decide_eq_false (by omega);have t0' : decide ((s.size : Int) < 1) = false := decide_eq_false (by omega);have t1 : decide (27 < (s.size : Int)) = true := by simp; omega
 go_enter Tryz.func131, Tryz.ntmps131
 go_wp2
 go_ret;exact ⟨rfl, rfl⟩
set_option maxHeartbeats 400000 in
theorem rname_empty (w : World) :
   Calls Tryz.prog 131 #[.string ⟨#[]⟩] w fun e w' => e = .returned (.bool false) ∧ w = w' := by
 go_enter Tryz.func131, Tryz.ntmps131
 go_wp2
 go_ret;exact ⟨rfl, rfl⟩
set_option maxHeartbeats 400000 in
theorem rname_dot (w : World) :
   Calls Tryz.prog 131 #[.string ⟨#[46]⟩] w fun e w' => e = .returned (.bool false) ∧ w = w' := by
 go_enter Tryz.func131, Tryz.ntmps131
 go_wp2
 go_ret;exact ⟨rfl, rfl⟩
set_option maxHeartbeats 400000 in
theorem rname_dots (w : World) :
   Calls Tryz.prog 131 #[.string ⟨#[46, 46]⟩] w fun e w' => e = .returned (.bool false) ∧ w = w' := by
 go_enter Tryz.func131, Tryz.ntmps131
 go_wp2
 go_ret;exact ⟨rfl, rfl⟩
theorem any_take_succ (s : ByteArray) (k : Nat) (h : k < s.size) : ((L s).take (k + 1)).any badC = (((L s).take k).any badC || badC s[k]) := by
 have h2 : k < (L s).length := by rw [len_L]; exact h
 rw [List.take_succ_eq_append_getElem h2, List.any_append];simp only [List.any_cons, List.any_nil, Bool.or_false]
 rfl
theorem any_hit (s : ByteArray) (k : Nat) (h : k < s.size) (hb : badC s[k] = true) : (L s).any badC = true :=
 List.any_eq_true.2 ⟨s[k], by
   have h2 : k < (L s).length := by rw [len_L]; exact h
   exact List.getElem_mem h2, hb⟩
set_option maxHeartbeats 400000 in
theorem rname_full (s : ByteArray) (w : World) (h0 : 0 < s.size) (h27 : s.size ≤ 27) (h1 : (s.toList == [46]) = false) (h2 : (s.toList == [46, 46]) = false) (b : Bool) (hb : Hid ((L s).any badC = b)) :
   Calls Tryz.prog 131 #[.string s] w fun e w' => e = .returned (.bool (!b)) ∧ w = w' := by
 have t0 : decide (s.size < 1) = false := decide_eq_false (by omega);have t0' : decide ((s.size : Int) < 1) = false := decide_eq_false (by omega);have t1 : decide (27 < (s.size : Int)) = false := by simp; omega
 go_enter Tryz.func131, Tryz.ntmps131
 go_wp2
 go_loop [3] (fun i => ∃ k : Nat, k ≤ s.size ∧ i = .int .i64 k ∧ Hid (((L s).take k).any badC = false)) (fun i => s.size - (intOf i).toNat)
 case atStart => exact ⟨0, Nat.zero_le _, rfl, Lib.hid (by simp)⟩
 case round =>
   obtain ⟨k, hk, rfl, HT⟩ := hrel
   by_cases hlt : k < s.size
   · by_cases c1 : s[k] = 47
     · have HB : Hid (b = true) := Lib.hid (by rw [← hb.out]; exact any_hit s k hlt (by rw [c1]; rfl))
       have q1 : ((s[k].toNat : Int) == 47) = true := by rw [c1]; rfl
       clear c1
       go_wp2
       go_ret;exact ⟨by rw [HB.out]; rfl, rfl⟩
     · have q1 : ((s[k].toNat : Int) == 47) = false := by
         simp only [beq_eq_false_iff_ne, ne_eq];exact fun e => c1 (UInt8.toNat_inj.1 (by simpa using Int.ofNat.inj e))
       by_cases c2 : s[k] = 0
       · have HB : Hid (b = true) := Lib.hid (by rw [← hb.out]; exact any_hit s k hlt (by rw [c2]; rfl))
         have q2 : ((s[k].toNat : Int) == 0) = true := by rw [c2]; rfl
         clear c1 c2
         go_wp2
         go_ret;exact ⟨by rw [HB.out]; rfl, rfl⟩
       · have q2 : ((s[k].toNat : Int) == 0) = false := by
           simp only [beq_eq_false_iff_ne, ne_eq];exact fun e => c2 (UInt8.toNat_inj.1 (by simpa using Int.ofNat.inj e))
         have HN : Hid (((L s).take (k + 1)).any badC = false) := Lib.hid (by
           rw [any_take_succ s k hlt, HT.out];unfold badC
           simp [c1, c2])
         clear c1 c2
         go_wp2
         go_round
         case rel => exact ⟨k + 1, by omega, by go_num, HN⟩
         case measure => simp [intOf]; omega
   · have HB : Hid (b = false) := Lib.hid (by
       rw [← hb.out];have := HT.out;rw [List.take_of_length_le (by rw [len_L]; omega)] at this;exact this)
     go_wp2
     go_ret;exact ⟨by rw [HB.out]; rfl, rfl⟩
theorem rname_any (s : ByteArray) (w : World) (hs : s.size ≤ maxLen) :
   Calls Tryz.prog 131 #[.string s] w fun e w' => e = .returned (.bool (isName (L s))) ∧ w = w' := by
 have hl := len_L s
 by_cases h0 : s.size = 0
 · rw [is_empty h0]; exact rname_empty w
 · by_cases h27 : 27 < s.size
   · have e : isName (L s) = false := by
       unfold isName;have : decide ((L s).length ≤ 27) = false := by simp; omega
       rw [this]; simp
     rw [e];exact rname_long s w hs h27
   · by_cases h1 : L s = [46]
     · have e : s = ⟨#[46]⟩ := L_inj h1
       rw [e]; exact rname_dot w
     · by_cases h2 : L s = [46, 46]
       · have e : s = ⟨#[46, 46]⟩ := L_inj h2
         rw [e]; exact rname_dots w
       · have h := rname_full s w (by omega) (by omega) (by rw [toList_L]; simpa using h1) (by rw [toList_L]; simpa using h2) _ (Lib.hid rfl)
         have e : isName (L s) = !(L s).any badC := by
           unfold isName;rw [all_not_any];have a1 : decide (1 ≤ (L s).length) = true := by simp; omega
           have a2 : decide ((L s).length ≤ 27) = true := by simp; omega
           have a3 : (L s == [46]) = false := by simpa using h1
           have a4 : (L s == [46, 46]) = false := by simpa using h2
           rw [a1, a2, a3, a4];cases (L s).any badC <;> rfl
         rw [e];exact h
end Go.Proofs.YtkljcgopikdjjaaGreatDoor.Path
end
section
namespace Go.Proofs.YtkljcgopikdjjaaGreatDoor.Path
open Go.RowKit
open Oct
theorem L_extract (s : ByteArray) (a b : Nat) : L (s.extract a b) = ((L s).drop a).take (b - a) := by
 show (s.extract a b).data.toList = _
 simp [ByteArray.data_extract, L]
theorem drop_at (s : ByteArray) (k : Nat) (h : k < s.size) : (L s).drop k = s[k] :: (L s).drop (k + 1) := by
 have h2 : k < (L s).length := by rw [len_L]; exact h
 exact List.drop_eq_getElem_cons h2
theorem drop_cut (s : ByteArray) (f k : Nat) (h : f ≤ k) : (L s).drop f = L (s.extract f k) ++ (L s).drop k := by
 rw [L_extract];have := List.take_append_drop (k - f) ((L s).drop f);rw [List.drop_drop, show f + (k - f) = k by omega] at this;exact this.symm
structure Mid (s : ByteArray) (k f : Nat) (ps : List ByteArray) : Prop where
 le : f ≤ k
 one : 1 ≤ k
 top : k ≤ s.size
 no : noSlash (L (s.extract f k))
 are : ps.map L ++ fields ((L s).drop f) = namesL (L s)
theorem mid_start {s : ByteArray} {r : List UInt8} (h : L s = 47 :: r) (hr : r ≠ []) : Mid s 1 1 [] := by
 have hl := len_L s;rw [h] at hl
 simp at hl
 refine ⟨Nat.le_refl _, Nat.le_refl _, by omega, ?_, ?_⟩
 · intro c hc; rw [L_extract] at hc; simp at hc
 · unfold namesL
   rw [h, if_neg (by simpa using hr)]
   rfl
theorem mid_next {s : ByteArray} {k f : Nat} {ps : List ByteArray} (h : Mid s k f ps) (hk : k < s.size) (hc : s[k] ≠ 47) : Mid s (k + 1) f ps := by
 refine ⟨by have := h.le; omega, by omega, by omega, ?_, h.are⟩
 have e : L (s.extract f (k + 1)) = L (s.extract f k) ++ [s[k]] := by
   have e1 := drop_cut s f k h.le;have e2 := drop_cut s f (k + 1) (by have := h.le; omega);rw [e1, drop_at s k hk] at e2;have e3 : (L (s.extract f k) ++ [s[k]]) ++ (L s).drop (k + 1) = L (s.extract f (k + 1)) ++ (L s).drop (k + 1) := by rw [← e2]; simp
   exact (List.append_cancel_right e3).symm
 intro c hm;rw [e] at hm
 rcases List.mem_append.1 hm with hm | hm
 · exact h.no c hm
 · simp at hm; rw [hm]; exact hc
theorem mid_cut {s : ByteArray} {k f : Nat} {ps : List ByteArray} (h : Mid s k f ps) (hk : k < s.size) (hc : s[k] = 47) : Mid s (k + 1) (k + 1) (ps ++ [s.extract f k]) := by
 refine ⟨Nat.le_refl _, by omega, by omega, ?_, ?_⟩
 · intro c hc; rw [L_extract] at hc; simp at hc
 · have e := h.are
   rw [drop_cut s f k h.le, drop_at s k hk, hc, fields_app _ _ h.no] at e;rw [← e]
   simp
theorem mid_last {s : ByteArray} {f : Nat} {ps : List ByteArray} (h : Mid s s.size f ps) : (ps ++ [s.extract f s.size]).map L = namesL (L s) := by
 have e := h.are;rw [drop_cut s f s.size h.le, List.drop_of_length_le (by rw [len_L]; exact Nat.le_refl _), List.append_nil, fields_no _ h.no] at e;rw [← e]
 simp
theorem mid_len {s : ByteArray} {k f : Nat} {ps : List ByteArray} (h : Mid s k f ps) : ps.length ≤ s.size + 1 := by
 have e := congrArg List.length h.are
 have h2 : (namesL (L s)).length ≤ s.size + 1 := by
   unfold namesL
   split
   · simp
   · have := fields_len ((L s).drop 1)
     rw [List.length_drop, len_L] at this;omega
 simp at e
 omega
theorem split_none {l : List UInt8} {w : World} {x : Int} (he : splitE l = x) (hx : x ≠ 0) {w' : World} (hb : Below w.heap.size w w') : SplitRes l w (.returned (.tuple #[.slice none 0 0, .int .i64 x])) w' :=
 ⟨_, by rw [he], .inl ⟨rfl, by unfold splitN; rw [if_neg (by rw [he]; exact hx)]; rfl⟩, hb⟩
set_option maxHeartbeats 400000 in
theorem rs_long (s : ByteArray) (w : World) (hs : s.size ≤ maxLen) (h : 255 < s.size) :
   Calls Tryz.prog 92 #[.string s] w (SplitRes (L s) w) := by
 unfold maxLen at hs;have d : decide (255 < (s.size : Int)) = true := decide_eq_true (by omega);have HE : Hid (splitE (L s) = 5) := Lib.hid (by unfold splitE; rw [if_pos (by rw [len_L]; omega)])
 go_enter Tryz.func92, Tryz.ntmps92
 go_wp2
 go_ret2;exact split_none HE.out (by decide) (Below.refl _ _)
set_option maxHeartbeats 400000 in
theorem rs_form (s : ByteArray) (w : World) (h : s.size ≤ 255) (hh : headSlash (L s) = false) :
   Calls Tryz.prog 92 #[.string s] w (SplitRes (L s) w) := by
 have d : decide (255 < (s.size : Int)) = false := decide_eq_false (by omega);have d' : decide (255 < s.size) = false := decide_eq_false (by omega);have HE : Hid (splitE (L s) = 7) := Lib.hid (by unfold splitE; rw [if_neg (by rw [len_L]; omega), if_pos hh])
 by_cases h0 : s.size = 0
 · have e := is_empty h0
   subst e;clear hh
   go_enter Tryz.func92, Tryz.ntmps92
   go_wp2
   go_ret2;exact split_none HE.out (by decide) (Below.refl _ _)
 · have hlt : 0 < s.size := by omega
   have hc : s[0] ≠ 47 := fun e => by
     have := drop_at s 0 hlt;rw [List.drop_zero] at this;rw [this, e] at hh
     simp [headSlash] at hh
   have q1 : ((s[0].toNat : Int) == 47) = false := by
     simp only [beq_eq_false_iff_ne, ne_eq];exact fun e => hc (UInt8.toNat_inj.1 (by simpa using Int.ofNat.inj e))
   have q2 : ((s[0].toNat : Int) != 47) = true := by simp only [bne, q1]; rfl
   have z0 : ((s.size : Int) == 0) = false := by simp only [beq_eq_false_iff_ne, ne_eq]; omega
   clear hh hc
   go_enter Tryz.func92, Tryz.ntmps92
   go_wp2
   go_ret2;exact split_none HE.out (by decide) (Below.refl _ _)
set_option maxHeartbeats 400000 in
theorem rs_root (w : World) : Calls Tryz.prog 92 #[.string ⟨#[47]⟩] w (SplitRes (L ⟨#[47]⟩) w) := by
 go_enter Tryz.func92, Tryz.ntmps92
 go_wp2
 go_loop [4, 5, 6] (fun l f i => l = .slice none 0 0 ∧ f = .int .i64 1 ∧ i = .int .i64 1) (fun _ _ _ => 0)
 case atStart => exact ⟨rfl, rfl, rfl⟩
 case round =>
   obtain ⟨rfl, rfl, rfl⟩ := hrel
   go_wp2
   go_loop [7] (fun i => i = .int .i64 0) (fun _ => 0)
   case atStart => rfl
   case round =>
     obtain rfl := hrel
     go_wp2
     go_ret2;exact ⟨_, rfl, .inl ⟨rfl, rfl⟩, Below.refl _ _⟩
theorem names_of_map {s : ByteArray} {ps : List ByteArray} (h : ps.map L = namesL (L s)) : ps = (namesL (L s)).map B := by
 rw [← h, List.map_map]; exact (List.map_id _).symm
set_option maxHeartbeats 2000000 in
theorem rs_main (s : ByteArray) (r : List UInt8) (w : World) (h : s.size ≤ 255) (HL : Hid (L s = 47 :: r)) (hr : Hid (r ≠ [])) :
   Calls Tryz.prog 92 #[.string s] w (SplitRes (L s) w) := by
 obtain ⟨i0, hi, hz0, hz1, hz2⟩ := info_parts info_str;have d : decide (255 < (s.size : Int)) = false := decide_eq_false (by omega);have d' : decide (255 < s.size) = false := decide_eq_false (by omega);have hlt0 : 0 < s.size := by rw [← len_L, HL.out]; simp
 have hc : s[0] = 47 := by
   have := drop_at s 0 hlt0;rw [List.drop_zero, HL.out] at this;exact (List.cons.inj this).1.symm
 have q1 : ((s[0].toNat : Int) == 47) = true := by rw [hc]; rfl
 have q2 : ((s[0].toNat : Int) != 47) = false := by simp only [bne, q1]; rfl
 have z0 : ((s.size : Int) == 0) = false := by simp only [beq_eq_false_iff_ne, ne_eq]; omega
 have r0 : (s.toList == [47]) = false := by
   rw [toList_L, HL.out]
   simpa using hr.out
 have r1 : (s.toList != [47]) = true := by simp only [bne, r0]; rfl
 have HM := Lib.hid (mid_start HL.out hr.out);clear hc
 go_enter Tryz.func92, Tryz.ntmps92
 go_wp2
 clear q1 q2 z0 d d'
 go_loopw [4, 5, 6] (fun v f i wr => ∃ (k fr : Nat) (ps : List ByteArray), wr.ownsRow w.heap.size 9 1 v ps.length (ps.map Value.string) ∧ f = .int .i64 fr ∧ i = .int .i64 k ∧ Below w.heap.size w wr ∧ ps.length ≤ 257 ∧ ((k ≤ s.size ∧ fr ≤ k ∧ Hid (Mid s k fr ps)) ∨ (k = s.size + 1 ∧ Hid (ps.map L = namesL (L s))))) (fun _ _ i _ => s.size + 1 - (intOf i).toNat)
 case atStart => exact ⟨1, 1, [], World.ownsRow_nil _ _ _ _, rfl, rfl, Below.refl _ _, by simp, .inl ⟨hlt0, Nat.le_refl _, HM⟩⟩
 case round =>
   obtain ⟨k, fr, ps, hown, rfl, rfl, hB, hl, hst⟩ := hrel
   rcases hst with ⟨hk, hf, HS⟩ | ⟨hk1, HN⟩
   · have t1 : decide ((k : Int) ≤ (s.size : Int)) = true := decide_eq_true (by omega)
     have p1 : (0 : Int) ≤ (fr : Int) := by omega
     have p2 : (fr : Int) ≤ (k : Int) := by omega
     have p3 : (k : Int) ≤ (s.size : Int) := by omega
     have hml := mid_len HS.out
     by_cases hks : k = s.size
     · subst hks
       have HE := Lib.hid (mid_last HS.out);have t2 : ((s.size : Int) == (s.size : Int)) = true := by simp
       go_wp2_with (at_builtin; refine wpList_append_lies _ rfl (.tmp 39) (.tmp 44) 59 rfl w.heap.size 9 i0 (.string ⟨#[]⟩) 1 16 Tryz.underlying59 hi hz0 hz1 hz2 rfl (by decide) _ ps.length (ps.map Value.string) rfl (hown.alloc _) ⟨wr.heap.size, 0, none⟩ 1 1 [.string (s.extract fr s.size)] rfl rfl (cell_one_new _ _ _) (by simp [Value.oneCell']) (by decide) (by unfold maxLen; omega) (by omega) (by have := hB.size; simp; omega) _ rfl ?_; intro g cap w1 hown1 hgrow hat hlx)
       have hB1 : Below w.heap.size w w1 := Below.grown (hB.alloc hB.size (.cells #[.string (s.extract fr s.size)] 9)) hgrow (by have := hB.size; simp; omega) (fun k e => (hown.lt k e).1);go_roundw
       case rel => first | exact ⟨s.size + 1, s.size + 1, _, own_snoc hown1, by go_num, by go_num, hB1, by simp; omega, .inr ⟨rfl, HE⟩⟩ | ((repeat apply Exists.intro); exact ⟨⟨s.size + 1, s.size + 1, _, own_snoc hown1, by go_num, by go_num, hB1, by simp; omega, .inr ⟨rfl, HE⟩⟩, rfl⟩)
       case measure => simp [intOf] <;> omega
     · have hlt : k < s.size := by omega
       have t2 : ((k : Int) == (s.size : Int)) = false := by simp only [beq_eq_false_iff_ne, ne_eq]; omega
       by_cases hc : s[k] = 47
       · have HE := Lib.hid (mid_cut HS.out hlt hc)
         have q1 : ((s[k].toNat : Int) == 47) = true := by rw [hc]; rfl
         clear hc
         go_wp2_with (at_builtin; refine wpList_append_lies _ rfl (.tmp 39) (.tmp 44) 59 rfl w.heap.size 9 i0 (.string ⟨#[]⟩) 1 16 Tryz.underlying59 hi hz0 hz1 hz2 rfl (by decide) _ ps.length (ps.map Value.string) rfl (hown.alloc _) ⟨wr.heap.size, 0, none⟩ 1 1 [.string (s.extract fr k)] rfl rfl (cell_one_new _ _ _) (by simp [Value.oneCell']) (by decide) (by unfold maxLen; omega) (by omega) (by have := hB.size; simp; omega) _ rfl ?_; intro g cap w1 hown1 hgrow hat hlx)
         have hB1 : Below w.heap.size w w1 := Below.grown (hB.alloc hB.size (.cells #[.string (s.extract fr k)] 9)) hgrow (by have := hB.size; simp; omega) (fun k e => (hown.lt k e).1);go_roundw
         case rel => first | exact ⟨k + 1, k + 1, _, own_snoc hown1, by go_num, by go_num, hB1, by simp; omega, .inl ⟨hlt, Nat.le_refl _, HE⟩⟩ | ((repeat apply Exists.intro); exact ⟨⟨k + 1, k + 1, _, own_snoc hown1, by go_num, by go_num, hB1, by simp; omega, .inl ⟨hlt, Nat.le_refl _, HE⟩⟩, rfl⟩)
         case measure => simp [intOf] <;> omega
       · have HE := Lib.hid (mid_next HS.out hlt hc)
         have q1 : ((s[k].toNat : Int) == 47) = false := by
           simp only [beq_eq_false_iff_ne, ne_eq];exact fun e => hc (UInt8.toNat_inj.1 (by simpa using Int.ofNat.inj e))
         clear hc
         go_wp2
         go_roundw
         case rel => exact ⟨k + 1, fr, ps, hown, rfl, by go_num, hB, hl, .inl ⟨hlt, by omega, HE⟩⟩
         case measure => simp [intOf] <;> omega
   · have t1 : decide ((k : Int) ≤ (s.size : Int)) = false := decide_eq_false (by omega)
     have t1' : decide (k ≤ s.size) = false := decide_eq_false (by omega);clear hk1;have HP := Lib.hid (names_of_map HN.out);have HST := Lib.hid (strs_own hown (by omega));obtain ⟨u, hu⟩ : ∃ u, u = splitE (L s) := ⟨_, rfl⟩;have HU := Lib.hid hu;clear hu
     rcases strs_cases HST.out with ⟨ao, c, rfl, e0⟩ | ⟨g, og, cg, rfl, hlg, hgb, hgx⟩
     · have HZ : Hid (splitE (L s) = 0 ∧ splitN (L s) = []) := Lib.hid (by
         have n0 : namesL (L s) = [] := by rw [← HN.out, e0]; rfl
         have z : splitE (L s) = 0 := ok_splitE ⟨by rw [len_L]; exact h, ⟨r, HL.out⟩, by rw [n0]; simp, by rw [n0]; simp⟩;exact ⟨z, by unfold splitN; rw [if_pos z, n0]⟩)
       have HE0 := Lib.hid e0;clear e0
       go_wp2
       go_loop [7] (fun i => i = .int .i64 0) (fun _ => 0)
       case atStart => rfl
       case round =>
         obtain rfl := hrel
         go_wp2
         go_ret2;exact ⟨_, by rw [HZ.out.1]; rfl, by rw [HZ.out.2]; have hs1 := HST.out; rw [HE0.out] at hs1; exact hs1, hB⟩
     · have HGX := Lib.hid hgx
       clear hgx
       go_wp2
       go_loop [7] (fun i => ∃ j : Nat, j ≤ ps.length ∧ i = .int .i64 j ∧ Hid (AllNames ((ps.take j).map L))) (fun i => ps.length - (intOf i).toNat)
       case atStart => exact ⟨0, Nat.zero_le _, rfl, Lib.hid (fun x hx => by simp at hx)⟩
       case round =>
         obtain ⟨j, hj, rfl, HA⟩ := hrel
         by_cases hlt : j < ps.length
         · have c1 := HGX.out j hlt
           have hmem : L ps[j] ∈ namesL (L s) := by rw [← HN.out]; exact List.mem_map_of_mem (List.getElem_mem hlt)
           have hsz := names_each _ _ hmem;rw [len_L, len_L] at hsz;have RN := Lib.hid (rname_any ps[j] wr (by unfold maxLen; omega));cases hb : isName (L ps[j]) with
           | false =>
             have HE := Lib.hid (splitE_bad (by rw [len_L]; exact h) HL.out hmem hb);rw [hb] at RN;clear hb hmem
             generalize ps[j] = p at *
             go_wp2_with fail;refine RN.out.mono ?_;rintro e w' ⟨rfl, rfl⟩
             go_wp2
             go_ret2;exact split_none HE.out (by decide) hB
           | true =>
             have HB : Hid (AllNames ((ps.take (j + 1)).map L)) := Lib.hid (by
               intro x hx;rw [List.take_succ_eq_append_getElem hlt, List.map_append] at hx
               rcases List.mem_append.1 hx with hx | hx
               · exact HA.out x hx
               · simp at hx; rw [hx]; exact hb)
             rw [hb] at RN;clear hb hmem
             generalize ps[j] = p at *
             go_wp2_with fail;refine RN.out.mono ?_;rintro e w' ⟨rfl, rfl⟩
             go_wp2
             go_round
             case rel => exact ⟨j + 1, by omega, by go_num, HB⟩
             case measure => simp [intOf] <;> omega
         · have ek : ps.take j = ps := List.take_of_length_le (by omega)
           rw [ek, HN.out] at HA;clear ek;have hnl : (namesL (L s)).length = ps.length := by rw [← HN.out, List.length_map]
           by_cases h8 : 8 < ps.length
           · have HE := Lib.hid (splitE_many (by rw [len_L]; exact h) HL.out HA.out (by omega))
             have d1 : decide (8 < (ps.length : Int)) = true := decide_eq_true (by omega);clear hnl
             go_wp2
             go_ret2;exact split_none HE.out (by decide) hB
           · have HE : Hid (splitE (L s) = 0) := Lib.hid (ok_splitE ⟨by rw [len_L]; exact h, ⟨r, HL.out⟩, HA.out, by omega⟩)
             have HN2 : Hid ((splitN (L s)).map B = ps) := Lib.hid (by unfold splitN; rw [if_pos HE.out]; exact HP.out.symm);have d1 : decide (8 < (ps.length : Int)) = false := decide_eq_false (by omega);have d1' : decide (8 < ps.length) = false := decide_eq_false (by omega);clear hnl
             go_wp2
             go_ret2;exact ⟨_, by rw [HE.out]; rfl, by rw [HN2.out]; exact HST.out, hB⟩
theorem rs_any (s : ByteArray) (w : World) (hs : s.size ≤ maxLen) : Calls Tryz.prog 92 #[.string s] w (SplitRes (L s) w) := by
 by_cases h : 255 < s.size
 · exact rs_long s w hs h
 · cases hh : headSlash (L s) with
   | false => exact rs_form s w (by omega) hh
   | true =>
     cases hL : L s with
     | nil => rw [hL] at hh; cases hh
     | cons c r =>
       rw [hL] at hh;have e : c = 47 := by simpa [headSlash] using hh
       subst e;rw [← hL]
       by_cases hr : r = []
       · subst hr
         have e : s = ⟨#[47]⟩ := L_inj hL;rw [e];exact rs_root w
       · exact rs_main s r w (by omega) (Lib.hid hL) (Lib.hid hr)
end Go.Proofs.YtkljcgopikdjjaaGreatDoor.Path
end
