/- Layer 20: the walk of bare: a call without what it has. -/
import Derived.Test.YtfdclifdemajfaaDoorCall
namespace Go.Proofs.YtfdclifdemajfaaDoor.Call
set_option linter.unusedVariables false
open Go.RowKit Oct Path

def bitOf : Nat → Int
  | 0 => 1 | 1 => 2 | 2 => 4 | 3 => 8 | 4 => 16 | 5 => 32 | _ => 0
def hasB (h m : Int) : Bool := bits .and .i64 h m != 0
def C.bareTo (x : C) (h : Int) : Nat → C
  | 0 => x
  | k + 1 => if hasB h (bitOf k) then (x.bareTo h k).drop k else x.bareTo h k
def C.zero (d : Nat) : C := ⟨d, ⟨#[]⟩, ⟨#[]⟩, 0, 0, 0, ⟨#[]⟩⟩
/-- A call's box, filled field by field. -/
def fillW (w : World) (b : Nat) (y : C) : World :=
  ((((((w.setCell ⟨b, 0, none⟩ (.int .u8 y.d)).setCell ⟨b, 1, none⟩ (.string y.p)).setCell ⟨b, 2, none⟩ (.string y.p2)).setCell ⟨b, 3, none⟩ (.int .i64 y.fd)).setCell ⟨b, 4, none⟩ (.int .i64 y.pg)).setCell ⟨b, 5, none⟩ (.int .u32 y.sz)).setCell ⟨b, 6, none⟩ (.string y.da)
theorem Box.fill {w : World} {b : Nat} {x : C} (h : Box w b x) (y : C) : Box (fillW w b y) b y := by
  obtain ⟨d, p, p2, fd, pg, sz, da⟩ := x
  exact (((((((h.set (y := ⟨y.d, p, p2, fd, pg, sz, da⟩) 0 _ rfl).set (y := ⟨y.d, y.p, p2, fd, pg, sz, da⟩) 1 _ rfl).set (y := ⟨y.d, y.p, y.p2, fd, pg, sz, da⟩) 2 _ rfl).set (y := ⟨y.d, y.p, y.p2, y.fd, pg, sz, da⟩) 3 _ rfl).set (y := ⟨y.d, y.p, y.p2, y.fd, y.pg, sz, da⟩) 4 _ rfl).set (y := ⟨y.d, y.p, y.p2, y.fd, y.pg, y.sz, da⟩) 5 _ rfl).set (y := y) 6 _ rfl)
theorem fillW_below {w w' : World} {n b : Nat} {y : C} (h : Below n w w') (hb : n ≤ b) : Below n w (fillW w' b y) :=
  ((((((h.setCell hb _).setCell hb _).setCell hb _).setCell hb _).setCell hb _).setCell hb _).setCell hb _
def BareRel (x : C) (h : Int) (w : World) (i : Value) (wr : World) : Prop :=
  ∃ k : Nat, k ≤ 6 ∧ i = .int .i64 k ∧ Box wr w.heap.size (x.bareTo h k) ∧ Box wr (w.heap.size + 1) (C.zero 0) ∧ Rows6 wr (w.heap.size + 1 + 1) ∧ Below w.heap.size w wr
theorem bareTo_yes {x : C} {h : Int} {k : Nat} (hb : hasB h (bitOf k) = true) : x.bareTo h (k + 1) = (x.bareTo h k).drop k := by simp [C.bareTo, hb]
theorem bareTo_no {x : C} {h : Int} {k : Nat} (hb : hasB h (bitOf k) = false) : x.bareTo h (k + 1) = x.bareTo h k := by simp [C.bareTo, hb]


set_option maxRecDepth 100000 in
set_option maxHeartbeats 2000000 in
theorem bare_any (x : C) (w : World) (hk : Kinds w) (hd : x.d < 256) :
    Calls Tryd.prog 21 #[.agg x.cells] w fun e w' => e = .returned (.agg (x.bareTo (hasN x.d) 6).cells) ∧ Below w.heap.size w w' := by
  have HK := Lib.hid hk
  have h0 := hk.1
  have OF := Lib.hid (fun W k => of_any x.d W k hd)
  obtain ⟨h, hh⟩ : ∃ h, hasN x.d = h := ⟨_, rfl⟩
  rw [hh] at OF ⊢
  clear hk hh
  obtain ⟨cs, hcs⟩ : ∃ cs, x.cells = cs := ⟨_, rfl⟩
  have HX : Hid (x.cells = #[.int .u8 x.d, .string x.p, .string x.p2, .int .i64 x.fd, .int .i64 x.pg, .int .u32 x.sz, .string x.da]) := Lib.hid rfl
  obtain ⟨y, hy⟩ : ∃ y, x.bareTo h 6 = y := ⟨_, rfl⟩
  rw [hy]
  have HY := Lib.hid hy
  clear hy hcs
  rw [HX.out]
  go_enter Tryd.func21, Tryd.ntmps21
  go_wp2_with fail
  refine (OF.out _ (HK.out.later (((Below.refl _ _).alloc (Nat.le_refl _) _).alloc (by simp) _))).mono ?_
  rintro e w1 ⟨rfl, rfl⟩
  go_wp2_with fail
  refine (fields_any _).mono ?_
  rintro e w1 ⟨rfl, rfl⟩
  go_wp2
  go_loopw [11] (fun i wr => BareRel x h w i wr) (fun i _ => 6 - (intOf i).toNat)
  case atStart =>
    refine ⟨0, by omega, rfl, ?_, ?_, ?_, ?_⟩
    · exact ((Box.alloc (b := w.heap.size) (x := x) (w := w.alloc _) (heap_alloc_new w _) _).alloc _)
    · exact (Box.alloc (b := w.heap.size + 1) (x := C.zero 0) (w := (w.alloc _).alloc _) (heap_alloc2_new w _ _) _)
    · have := heap_alloc_new ((w.alloc (.cells #[.int .u8 x.d, .string x.p, .string x.p2, .int .i64 x.fd, .int .i64 x.pg, .int .u32 x.sz, .string x.da] 24)).alloc (.cells (C.zero 0).cells 24)) (.cells rowF 47)
      simp only [World.size_alloc] at this
      exact this
    · exact (((Below.refl _ _).alloc (Nat.le_refl _) _).alloc (by simp) _).alloc (by simp; omega) _
  case round =>
    obtain ⟨k, hk6, rfl, hB, hZ, hR, hbel⟩ := hrel
    have hlt := hB.lt
    have hlt2 := hR.lt
    obtain rfl | rfl | rfl | rfl | rfl | rfl | rfl : k = 0 ∨ k = 1 ∨ k = 2 ∨ k = 3 ∨ k = 4 ∨ k = 5 ∨ k = 6 := by omega
    all_goals try clear hk6
    · have r0 := hR.cell 0 (by decide)
      have r1 := hR.cell 1 (by decide)
      have r2 := hR.cell 2 (by decide)
      have r3 := hR.cell 3 (by decide)
      simp only [rowF] at r0 r1 r2 r3
      have HB := Lib.hid hB
      have HZ := Lib.hid hZ
      have HR := Lib.hid hR
      clear hB hZ hR
      cases hb : hasB h (bitOf 0) with
      | true =>
        have HN : Hid (x.bareTo h 1 = (x.bareTo h 0).drop 0) := Lib.hid (bareTo_yes hb)
        have tb : (bits .and .i64 h 1 != 0) = true := hb
        clear hb
        go_wp2_with fail
        refine (drop0 _ _ _ (HB.out.alloc _)).mono ?_
        rintro e w1 ⟨rfl, rfl⟩
        go_wp2
        go_roundw
        case rel => exact ⟨1, by omega, rfl, by rw [HN.out]; exact (HB.out.set _ _ rfl).alloc _, (HZ.out.other _ (by omega)).alloc _, (HR.out.other _ (by omega)).alloc _, (hbel.setCell (Nat.le_refl _) _).alloc (by simp; omega) _⟩
        case measure => simp [intOf]
      | false =>
        have HN : Hid (x.bareTo h 1 = x.bareTo h 0) := Lib.hid (bareTo_no hb)
        have tb : (bits .and .i64 h 1 != 0) = false := hb
        clear hb
        go_wp2
        go_roundw
        case rel => exact ⟨1, by omega, rfl, by rw [HN.out]; exact HB.out.alloc _, HZ.out.alloc _, HR.out.alloc _, hbel.alloc (by omega) _⟩
        case measure => simp [intOf]
    · have r0 := hR.cell 4 (by decide)
      have r1 := hR.cell 5 (by decide)
      have r2 := hR.cell 6 (by decide)
      have r3 := hR.cell 7 (by decide)
      simp only [rowF] at r0 r1 r2 r3
      have HB := Lib.hid hB
      have HZ := Lib.hid hZ
      have HR := Lib.hid hR
      clear hB hZ hR
      cases hb : hasB h (bitOf 1) with
      | true =>
        have HN : Hid (x.bareTo h 2 = (x.bareTo h 1).drop 1) := Lib.hid (bareTo_yes hb)
        have tb : (bits .and .i64 h 2 != 0) = true := hb
        clear hb
        go_wp2_with fail
        refine (drop1 _ _ _ (HB.out.alloc _)).mono ?_
        rintro e w1 ⟨rfl, rfl⟩
        go_wp2
        go_roundw
        case rel => exact ⟨2, by omega, rfl, by rw [HN.out]; exact (HB.out.set _ _ rfl).alloc _, (HZ.out.other _ (by omega)).alloc _, (HR.out.other _ (by omega)).alloc _, (hbel.setCell (Nat.le_refl _) _).alloc (by simp; omega) _⟩
        case measure => simp [intOf]
      | false =>
        have HN : Hid (x.bareTo h 2 = x.bareTo h 1) := Lib.hid (bareTo_no hb)
        have tb : (bits .and .i64 h 2 != 0) = false := hb
        clear hb
        go_wp2
        go_roundw
        case rel => exact ⟨2, by omega, rfl, by rw [HN.out]; exact HB.out.alloc _, HZ.out.alloc _, HR.out.alloc _, hbel.alloc (by omega) _⟩
        case measure => simp [intOf]
    · have r0 := hR.cell 8 (by decide)
      have r1 := hR.cell 9 (by decide)
      have r2 := hR.cell 10 (by decide)
      have r3 := hR.cell 11 (by decide)
      simp only [rowF] at r0 r1 r2 r3
      have HB := Lib.hid hB
      have HZ := Lib.hid hZ
      have HR := Lib.hid hR
      clear hB hZ hR
      cases hb : hasB h (bitOf 2) with
      | true =>
        have HN : Hid (x.bareTo h 3 = (x.bareTo h 2).drop 2) := Lib.hid (bareTo_yes hb)
        have tb : (bits .and .i64 h 4 != 0) = true := hb
        clear hb
        go_wp2_with fail
        refine (drop2 _ _ _ (HB.out.alloc _)).mono ?_
        rintro e w1 ⟨rfl, rfl⟩
        go_wp2
        go_roundw
        case rel => exact ⟨3, by omega, rfl, by rw [HN.out]; exact (HB.out.set _ _ rfl).alloc _, (HZ.out.other _ (by omega)).alloc _, (HR.out.other _ (by omega)).alloc _, (hbel.setCell (Nat.le_refl _) _).alloc (by simp; omega) _⟩
        case measure => simp [intOf]
      | false =>
        have HN : Hid (x.bareTo h 3 = x.bareTo h 2) := Lib.hid (bareTo_no hb)
        have tb : (bits .and .i64 h 4 != 0) = false := hb
        clear hb
        go_wp2
        go_roundw
        case rel => exact ⟨3, by omega, rfl, by rw [HN.out]; exact HB.out.alloc _, HZ.out.alloc _, HR.out.alloc _, hbel.alloc (by omega) _⟩
        case measure => simp [intOf]
    · have r0 := hR.cell 12 (by decide)
      have r1 := hR.cell 13 (by decide)
      have r2 := hR.cell 14 (by decide)
      have r3 := hR.cell 15 (by decide)
      simp only [rowF] at r0 r1 r2 r3
      have HB := Lib.hid hB
      have HZ := Lib.hid hZ
      have HR := Lib.hid hR
      clear hB hZ hR
      cases hb : hasB h (bitOf 3) with
      | true =>
        have HN : Hid (x.bareTo h 4 = (x.bareTo h 3).drop 3) := Lib.hid (bareTo_yes hb)
        have tb : (bits .and .i64 h 8 != 0) = true := hb
        clear hb
        go_wp2_with fail
        refine (drop3 _ _ _ (HB.out.alloc _)).mono ?_
        rintro e w1 ⟨rfl, rfl⟩
        go_wp2
        go_roundw
        case rel => exact ⟨4, by omega, rfl, by rw [HN.out]; exact (HB.out.set _ _ rfl).alloc _, (HZ.out.other _ (by omega)).alloc _, (HR.out.other _ (by omega)).alloc _, (hbel.setCell (Nat.le_refl _) _).alloc (by simp; omega) _⟩
        case measure => simp [intOf]
      | false =>
        have HN : Hid (x.bareTo h 4 = x.bareTo h 3) := Lib.hid (bareTo_no hb)
        have tb : (bits .and .i64 h 8 != 0) = false := hb
        clear hb
        go_wp2
        go_roundw
        case rel => exact ⟨4, by omega, rfl, by rw [HN.out]; exact HB.out.alloc _, HZ.out.alloc _, HR.out.alloc _, hbel.alloc (by omega) _⟩
        case measure => simp [intOf]
    · have r0 := hR.cell 16 (by decide)
      have r1 := hR.cell 17 (by decide)
      have r2 := hR.cell 18 (by decide)
      have r3 := hR.cell 19 (by decide)
      simp only [rowF] at r0 r1 r2 r3
      have HB := Lib.hid hB
      have HZ := Lib.hid hZ
      have HR := Lib.hid hR
      clear hB hZ hR
      cases hb : hasB h (bitOf 4) with
      | true =>
        have HN : Hid (x.bareTo h 5 = (x.bareTo h 4).drop 4) := Lib.hid (bareTo_yes hb)
        have tb : (bits .and .i64 h 16 != 0) = true := hb
        clear hb
        go_wp2_with fail
        refine (drop4 _ _ _ (HB.out.alloc _)).mono ?_
        rintro e w1 ⟨rfl, rfl⟩
        go_wp2
        go_roundw
        case rel => exact ⟨5, by omega, rfl, by rw [HN.out]; exact (HB.out.set _ _ rfl).alloc _, (HZ.out.other _ (by omega)).alloc _, (HR.out.other _ (by omega)).alloc _, (hbel.setCell (Nat.le_refl _) _).alloc (by simp; omega) _⟩
        case measure => simp [intOf]
      | false =>
        have HN : Hid (x.bareTo h 5 = x.bareTo h 4) := Lib.hid (bareTo_no hb)
        have tb : (bits .and .i64 h 16 != 0) = false := hb
        clear hb
        go_wp2
        go_roundw
        case rel => exact ⟨5, by omega, rfl, by rw [HN.out]; exact HB.out.alloc _, HZ.out.alloc _, HR.out.alloc _, hbel.alloc (by omega) _⟩
        case measure => simp [intOf]
    · have r0 := hR.cell 20 (by decide)
      have r1 := hR.cell 21 (by decide)
      have r2 := hR.cell 22 (by decide)
      have r3 := hR.cell 23 (by decide)
      simp only [rowF] at r0 r1 r2 r3
      have HB := Lib.hid hB
      have HZ := Lib.hid hZ
      have HR := Lib.hid hR
      clear hB hZ hR
      cases hb : hasB h (bitOf 5) with
      | true =>
        have HN : Hid (x.bareTo h 6 = (x.bareTo h 5).drop 5) := Lib.hid (bareTo_yes hb)
        have tb : (bits .and .i64 h 32 != 0) = true := hb
        clear hb
        go_wp2_with fail
        refine (drop5 _ _ _ (HB.out.alloc _)).mono ?_
        rintro e w1 ⟨rfl, rfl⟩
        go_wp2
        go_roundw
        case rel => exact ⟨6, by omega, rfl, by rw [HN.out]; exact (HB.out.set _ _ rfl).alloc _, (HZ.out.other _ (by omega)).alloc _, (HR.out.other _ (by omega)).alloc _, (hbel.setCell (Nat.le_refl _) _).alloc (by simp; omega) _⟩
        case measure => simp [intOf]
      | false =>
        have HN : Hid (x.bareTo h 6 = x.bareTo h 5) := Lib.hid (bareTo_no hb)
        have tb : (bits .and .i64 h 32 != 0) = false := hb
        clear hb
        go_wp2
        go_roundw
        case rel => exact ⟨6, by omega, rfl, by rw [HN.out]; exact HB.out.alloc _, HZ.out.alloc _, HR.out.alloc _, hbel.alloc (by omega) _⟩
        case measure => simp [intOf]
    · rw [HY.out] at hB
      have c0 := hB.c0
      have c1 := hB.c1
      have c2 := hB.c2
      have c3 := hB.c3
      have c4 := hB.c4
      have c5 := hB.c5
      have c6 := hB.c6
      have z0 := hZ.c0
      have z1 := hZ.c1
      have z2 := hZ.c2
      have z3 := hZ.c3
      have z4 := hZ.c4
      have z5 := hZ.c5
      have z6 := hZ.c6
      have f0 := hZ.free 0
      have f1 := hZ.free 1
      have f2 := hZ.free 2
      have f3 := hZ.free 3
      have f4 := hZ.free 4
      have f5 := hZ.free 5
      have f6 := hZ.free 6
      simp only [C.zero] at z0 z1 z2 z3 z4 z5 z6
      have HZ := Lib.hid hZ
      have eN : ((6 : Nat) : Int) = 6 := rfl
      rw [eN]
      clear hB hR hZ eN
      go_wp2
      have HF := HZ.out.fill y
      have k0 := HF.c0
      have k1 := HF.c1
      have k2 := HF.c2
      have k3 := HF.c3
      have k4 := HF.c4
      have k5 := HF.c5
      have k6 := HF.c6
      have hfin : Below w.heap.size w (fillW wr (w.heap.size + 1) y) := fillW_below hbel (by omega)
      unfold fillW at k0 k1 k2 k3 k4 k5 k6 hfin
      exact bodyPost_ret (v := .agg y.cells) (by simp [results, Tryd.results21, go_sem, k0, k1, k2, k3, k4, k5, k6, C.cells]) rfl ⟨rfl, hfin⟩

end Go.Proofs.YtfdclifdemajfaaDoor.Call
