/- Layer 20: the walk of Put: a call's bytes. -/
import Derived.Test.YtfdclifdemajfaaDoorCallPlain
namespace Go.Proofs.YtfdclifdemajfaaDoor.Call
set_option linter.unusedVariables false
open Go.RowKit Oct Path
theorem put_len {x : C} (f : x.Fits) (k : Nat) : (x.put k).length ≤ 256 := by
  obtain ⟨f1, f2, f3, f4, f5, f6, f7, f8⟩ := f
  unfold C.put
  split <;> simp [textL, len_L, len_numL] <;> omega
theorem putTo_len {x : C} (f : x.Fits) (h : Int) : ∀ k, (x.putTo h k).length ≤ 1 + 256 * k
  | 0 => by simp [C.putTo]
  | k + 1 => by
    have h1 := putTo_len f h k
    have h2 := put_len f k
    simp only [C.putTo]
    split
    · rw [List.length_append]; omega
    · omega
theorem putTo_yes {x : C} {h : Int} {k : Nat} (hb : hasB h (bitOf k) = true) : B (x.putTo h k) ++ B (x.put k) = B (x.putTo h (k + 1)) := by rw [B_append]; simp [C.putTo, hb]
theorem putTo_no {x : C} {h : Int} {k : Nat} (hb : hasB h (bitOf k) = false) : x.putTo h (k + 1) = x.putTo h k := by simp [C.putTo, hb]
def PutRel (x : C) (h : Int) (w : World) (bf : Nat) (s i : Value) (wr : World) : Prop :=
  ∃ k : Nat, k ≤ 6 ∧ i = .int .i64 k ∧ s = .string (B (x.putTo h k)) ∧ Box wr w.heap.size x ∧ Rows6 wr bf ∧ w.heap.size < bf ∧ Below w.heap.size w wr
theorem quiet_kinds {w : World} (h : Kinds w) (n : Nat) : Kinds (w.drewN n) := h.later (Oct.below_drewN _ _ _)
theorem of_quiet (d : Nat) (w : World) (n : Nat) (hk : Kinds w) (hd : d < 256) : Calls Tryd.prog 20 #[.int .u8 d] (w.drewN n) fun e w' => e = .returned (.int .i64 (hasN d)) ∧ w' = w.drewN n :=
  (of_any d (w.drewN n) (quiet_kinds hk n) hd).mono fun e w' ⟨h1, h2⟩ => ⟨h1, h2.symm⟩


set_option maxRecDepth 100000 in
set_option maxHeartbeats 400000 in
theorem put_no (x : C) (w : World) (hk : Kinds w) (hd : x.d < 256) (hp : x.p.size ≤ maxLen) (hp2 : x.p2.size ≤ maxLen) (hda : x.da.size ≤ maxLen) (hc : x.checkE ≠ 0) :
    Calls Tryd.prog 9 #[.agg x.cells] w fun e w' => e = .returned (.tuple #[.string ⟨#[]⟩, .int .i64 x.checkE]) ∧ Below w.heap.size w w' := by
  have HK := Lib.hid hk
  have CK := Lib.hid (fun W k => check_any x W k hd hp hp2 hda)
  have HX : Hid (x.cells = #[.int .u8 x.d, .string x.p, .string x.p2, .int .i64 x.fd, .int .i64 x.pg, .int .u32 x.sz, .string x.da]) := Lib.hid rfl
  have q3 : (x.checkE == 0) = false := by simpa using hc
  have q4 : (x.checkE != 0) = true := by simpa using hc
  generalize x.checkE = ce at *
  clear hk hp hp2 hda hc
  rw [HX.out] at CK ⊢
  go_enter Tryd.func9, Tryd.ntmps9
  go_wp2_with fail
  refine (CK.out _ (HK.out.later ((Below.refl _ _).alloc (Nat.le_refl _) _))).mono ?_
  rintro e w1 ⟨rfl, b1⟩
  go_wp2
  go_ret2
  exact ⟨rfl, ((Below.refl _ _).alloc (Nat.le_refl _) _).trans (b1.mono (by simp))⟩

set_option maxRecDepth 100000 in
set_option maxHeartbeats 2000000 in
theorem put_yes (x : C) (w : World) (hk : Kinds w) (hd : x.d < 256) (hp : x.p.size ≤ maxLen) (hp2 : x.p2.size ≤ maxLen) (hda : x.da.size ≤ maxLen) (hc : x.checkE = 0) :
    Calls Tryd.prog 9 #[.agg x.cells] w fun e w' => e = .returned (.tuple #[.string (B x.bytes), .int .i64 0]) ∧ Below w.heap.size w w' := by
  have HK := Lib.hid hk
  have CK := Lib.hid (fun W k => check_any x W k hd hp hp2 hda)
  rw [hc] at CK
  have FT := Lib.hid (check_fits hc)
  have OF := Lib.hid (fun W n k => of_quiet x.d W n k hd)
  have h0 := hk.1
  have hu : x.bytes = x.putTo (hasN x.d) 6 := rfl
  rw [hu]
  obtain ⟨h, hh⟩ : ∃ h, hasN x.d = h := ⟨_, rfl⟩
  rw [hh] at OF ⊢
  have HX : Hid (x.cells = #[.int .u8 x.d, .string x.p, .string x.p2, .int .i64 x.fd, .int .i64 x.pg, .int .u32 x.sz, .string x.da]) := Lib.hid rfl
  have pl := fun k => putTo_len FT.out h k
  have PL := Lib.hid pl
  clear hk hp hp2 hda hc hh hu pl
  rw [HX.out] at CK ⊢
  go_enter Tryd.func9, Tryd.ntmps9
  go_wp2_with fail
  refine (CK.out _ (HK.out.later ((Below.refl _ _).alloc (Nat.le_refl _) _))).mono ?_
  rintro e w1 ⟨rfl, b1⟩
  have hX : Box w1 w.heap.size x := Box.below (n := w.heap.size + 1) (w := w.alloc (.cells x.cells 24)) (heap_alloc_new w _) (by omega) (b1.mono (by simp))
  have hbel : Below w.heap.size w w1 := ((Below.refl _ _).alloc (Nat.le_refl _) _).trans (b1.mono (by simp))
  have hlt := hX.lt
  have c0 := hX.c0
  have hone := run_one w1 (x.d : Int) (by omega) (by omega)
  have HXX := Lib.hid hX
  clear b1 hX CK
  go_wp2_with fail
  refine (fields_any _).mono ?_
  rintro e w2 ⟨rfl, rfl⟩
  clear hone c0
  go_wp2
  go_loopw [5, 19] (fun s i wr => PutRel x h w (w1.heap.size + 1) s i wr) (fun _ i _ => 6 - (intOf i).toNat)
  case atStart =>
    refine ⟨0, by omega, rfl, rfl, (HXX.out.alloc _).alloc _, ?_, by omega, (hbel.alloc (by omega) _).alloc (by simp; omega) _⟩
    have := heap_alloc_new (w1.alloc (.cells #[.int .u8 (x.d : Int)] 5)) (.cells rowF 47)
    simp only [World.size_alloc] at this
    exact this
  case round =>
    obtain ⟨k, hk6, rfl, rfl, hB, hR, hbf, hbelr⟩ := hrel
    have hltr := hB.lt
    have hlt2 := hR.lt
    have KR : Hid (Kinds wr) := Lib.hid (HK.out.later hbelr)
    have c0 := hB.c0
    have c1 := hB.c1
    have c2 := hB.c2
    have c3 := hB.c3
    have c4 := hB.c4
    have c5 := hB.c5
    have c6 := hB.c6
    have HB := Lib.hid hB
    clear hB HXX hbel
    obtain rfl | rfl | rfl | rfl | rfl | rfl | rfl : k = 0 ∨ k = 1 ∨ k = 2 ∨ k = 3 ∨ k = 4 ∨ k = 5 ∨ k = 6 := by omega
    all_goals try clear hk6

    · have r0 := hR.cell 0 (by decide)
      have r1 := hR.cell 1 (by decide)
      have r2 := hR.cell 2 (by decide)
      have r3 := hR.cell 3 (by decide)
      simp only [rowF] at r0 r1 r2 r3
      have HR := Lib.hid hR
      clear hR
      cases hb : hasB h (bitOf 0) with
      | true =>
        have HN : Hid (B (x.putTo h 0) ++ B (x.put 0) = B (x.putTo h 1)) := Lib.hid (putTo_yes hb)
        have tb : (bits .and .i64 h 1 != 0) = true := hb
        have hz : (B (x.putTo h 0)).size + (B (x.put 0)).size ≤ 4000 := by
          have := PL.out 0
          have := put_len FT.out 0
          rw [size_B, size_B]
          omega
        have PK := Lib.hid (fun W => put0 x W FT.out.p)
        rw [HX.out] at PK
        generalize x.put 0 = pv at *
        generalize B (x.putTo h 0) = sv at *
        clear hb
        go_wp2_with fail
        go_quiet ((go_at_call 20; exact Calls.quiet_of_same (OF.out _ _ (KR.out.later ((Below.refl _ _).alloc (Nat.le_refl _) _)))))
        go_wp2_with fail
        refine (PK.out _).mono ?_
        rintro e w3 ⟨rfl, b3⟩
        go_wp2
        go_roundw
        case rel => exact ⟨1, by omega, rfl, by rw [HN.out], (((HB.out.alloc _).below hltr (Oct.below_drewN _ _ _))).below (by simp; omega) b3, (((HR.out.alloc _).below hlt2 (Oct.below_drewN _ _ _))).below (by simp; omega) b3, hbf, ((hbelr.alloc (by omega) _).trans (Oct.below_drewN _ _ _)).trans (b3.mono (by simp; omega))⟩
        case measure => simp [intOf]
      | false =>
        have HN : Hid (x.putTo h 1 = x.putTo h 0) := Lib.hid (putTo_no hb)
        have tb : (bits .and .i64 h 1 != 0) = false := hb
        clear hb
        go_wp2_with fail
        go_quiet ((go_at_call 20; exact Calls.quiet_of_same (OF.out _ _ (KR.out.later ((Below.refl _ _).alloc (Nat.le_refl _) _)))))
        go_wp2
        go_roundw
        case rel => exact ⟨1, by omega, rfl, by rw [HN.out], ((HB.out.alloc _).below hltr (Oct.below_drewN _ _ _)), ((HR.out.alloc _).below hlt2 (Oct.below_drewN _ _ _)), hbf, (hbelr.alloc (by omega) _).trans (Oct.below_drewN _ _ _)⟩
        case measure => simp [intOf]
    · have r0 := hR.cell 4 (by decide)
      have r1 := hR.cell 5 (by decide)
      have r2 := hR.cell 6 (by decide)
      have r3 := hR.cell 7 (by decide)
      simp only [rowF] at r0 r1 r2 r3
      have HR := Lib.hid hR
      clear hR
      cases hb : hasB h (bitOf 1) with
      | true =>
        have HN : Hid (B (x.putTo h 1) ++ B (x.put 1) = B (x.putTo h 2)) := Lib.hid (putTo_yes hb)
        have tb : (bits .and .i64 h 2 != 0) = true := hb
        have hz : (B (x.putTo h 1)).size + (B (x.put 1)).size ≤ 4000 := by
          have := PL.out 1
          have := put_len FT.out 1
          rw [size_B, size_B]
          omega
        have PK := Lib.hid (fun W => put1 x W FT.out.p2)
        rw [HX.out] at PK
        generalize x.put 1 = pv at *
        generalize B (x.putTo h 1) = sv at *
        clear hb
        go_wp2_with fail
        go_quiet ((go_at_call 20; exact Calls.quiet_of_same (OF.out _ _ (KR.out.later ((Below.refl _ _).alloc (Nat.le_refl _) _)))))
        go_wp2_with fail
        refine (PK.out _).mono ?_
        rintro e w3 ⟨rfl, b3⟩
        go_wp2
        go_roundw
        case rel => exact ⟨2, by omega, rfl, by rw [HN.out], (((HB.out.alloc _).below hltr (Oct.below_drewN _ _ _))).below (by simp; omega) b3, (((HR.out.alloc _).below hlt2 (Oct.below_drewN _ _ _))).below (by simp; omega) b3, hbf, ((hbelr.alloc (by omega) _).trans (Oct.below_drewN _ _ _)).trans (b3.mono (by simp; omega))⟩
        case measure => simp [intOf]
      | false =>
        have HN : Hid (x.putTo h 2 = x.putTo h 1) := Lib.hid (putTo_no hb)
        have tb : (bits .and .i64 h 2 != 0) = false := hb
        clear hb
        go_wp2_with fail
        go_quiet ((go_at_call 20; exact Calls.quiet_of_same (OF.out _ _ (KR.out.later ((Below.refl _ _).alloc (Nat.le_refl _) _)))))
        go_wp2
        go_roundw
        case rel => exact ⟨2, by omega, rfl, by rw [HN.out], ((HB.out.alloc _).below hltr (Oct.below_drewN _ _ _)), ((HR.out.alloc _).below hlt2 (Oct.below_drewN _ _ _)), hbf, (hbelr.alloc (by omega) _).trans (Oct.below_drewN _ _ _)⟩
        case measure => simp [intOf]
    · have r0 := hR.cell 8 (by decide)
      have r1 := hR.cell 9 (by decide)
      have r2 := hR.cell 10 (by decide)
      have r3 := hR.cell 11 (by decide)
      simp only [rowF] at r0 r1 r2 r3
      have HR := Lib.hid hR
      clear hR
      cases hb : hasB h (bitOf 2) with
      | true =>
        have HN : Hid (B (x.putTo h 2) ++ B (x.put 2) = B (x.putTo h 3)) := Lib.hid (putTo_yes hb)
        have tb : (bits .and .i64 h 4 != 0) = true := hb
        have hz : (B (x.putTo h 2)).size + (B (x.put 2)).size ≤ 4000 := by
          have := PL.out 2
          have := put_len FT.out 2
          rw [size_B, size_B]
          omega
        have PK := Lib.hid (fun W => put2 x W FT.out.fd0 FT.out.fd)
        rw [HX.out] at PK
        generalize x.put 2 = pv at *
        generalize B (x.putTo h 2) = sv at *
        clear hb
        go_wp2_with fail
        go_quiet ((go_at_call 20; exact Calls.quiet_of_same (OF.out _ _ (KR.out.later ((Below.refl _ _).alloc (Nat.le_refl _) _)))))
        go_wp2_with fail
        refine (PK.out _).mono ?_
        rintro e w3 ⟨rfl, b3⟩
        go_wp2
        go_roundw
        case rel => exact ⟨3, by omega, rfl, by rw [HN.out], (((HB.out.alloc _).below hltr (Oct.below_drewN _ _ _))).below (by simp; omega) b3, (((HR.out.alloc _).below hlt2 (Oct.below_drewN _ _ _))).below (by simp; omega) b3, hbf, ((hbelr.alloc (by omega) _).trans (Oct.below_drewN _ _ _)).trans (b3.mono (by simp; omega))⟩
        case measure => simp [intOf]
      | false =>
        have HN : Hid (x.putTo h 3 = x.putTo h 2) := Lib.hid (putTo_no hb)
        have tb : (bits .and .i64 h 4 != 0) = false := hb
        clear hb
        go_wp2_with fail
        go_quiet ((go_at_call 20; exact Calls.quiet_of_same (OF.out _ _ (KR.out.later ((Below.refl _ _).alloc (Nat.le_refl _) _)))))
        go_wp2
        go_roundw
        case rel => exact ⟨3, by omega, rfl, by rw [HN.out], ((HB.out.alloc _).below hltr (Oct.below_drewN _ _ _)), ((HR.out.alloc _).below hlt2 (Oct.below_drewN _ _ _)), hbf, (hbelr.alloc (by omega) _).trans (Oct.below_drewN _ _ _)⟩
        case measure => simp [intOf]
    · have r0 := hR.cell 12 (by decide)
      have r1 := hR.cell 13 (by decide)
      have r2 := hR.cell 14 (by decide)
      have r3 := hR.cell 15 (by decide)
      simp only [rowF] at r0 r1 r2 r3
      have HR := Lib.hid hR
      clear hR
      cases hb : hasB h (bitOf 3) with
      | true =>
        have HN : Hid (B (x.putTo h 3) ++ B (x.put 3) = B (x.putTo h 4)) := Lib.hid (putTo_yes hb)
        have tb : (bits .and .i64 h 8 != 0) = true := hb
        have hz : (B (x.putTo h 3)).size + (B (x.put 3)).size ≤ 4000 := by
          have := PL.out 3
          have := put_len FT.out 3
          rw [size_B, size_B]
          omega
        have PK := Lib.hid (fun W => put3 x W FT.out.pg0 FT.out.pg)
        rw [HX.out] at PK
        generalize x.put 3 = pv at *
        generalize B (x.putTo h 3) = sv at *
        clear hb
        go_wp2_with fail
        go_quiet ((go_at_call 20; exact Calls.quiet_of_same (OF.out _ _ (KR.out.later ((Below.refl _ _).alloc (Nat.le_refl _) _)))))
        go_wp2_with fail
        refine (PK.out _).mono ?_
        rintro e w3 ⟨rfl, b3⟩
        go_wp2
        go_roundw
        case rel => exact ⟨4, by omega, rfl, by rw [HN.out], (((HB.out.alloc _).below hltr (Oct.below_drewN _ _ _))).below (by simp; omega) b3, (((HR.out.alloc _).below hlt2 (Oct.below_drewN _ _ _))).below (by simp; omega) b3, hbf, ((hbelr.alloc (by omega) _).trans (Oct.below_drewN _ _ _)).trans (b3.mono (by simp; omega))⟩
        case measure => simp [intOf]
      | false =>
        have HN : Hid (x.putTo h 4 = x.putTo h 3) := Lib.hid (putTo_no hb)
        have tb : (bits .and .i64 h 8 != 0) = false := hb
        clear hb
        go_wp2_with fail
        go_quiet ((go_at_call 20; exact Calls.quiet_of_same (OF.out _ _ (KR.out.later ((Below.refl _ _).alloc (Nat.le_refl _) _)))))
        go_wp2
        go_roundw
        case rel => exact ⟨4, by omega, rfl, by rw [HN.out], ((HB.out.alloc _).below hltr (Oct.below_drewN _ _ _)), ((HR.out.alloc _).below hlt2 (Oct.below_drewN _ _ _)), hbf, (hbelr.alloc (by omega) _).trans (Oct.below_drewN _ _ _)⟩
        case measure => simp [intOf]
    · have r0 := hR.cell 16 (by decide)
      have r1 := hR.cell 17 (by decide)
      have r2 := hR.cell 18 (by decide)
      have r3 := hR.cell 19 (by decide)
      simp only [rowF] at r0 r1 r2 r3
      have HR := Lib.hid hR
      clear hR
      cases hb : hasB h (bitOf 4) with
      | true =>
        have HN : Hid (B (x.putTo h 4) ++ B (x.put 4) = B (x.putTo h 5)) := Lib.hid (putTo_yes hb)
        have tb : (bits .and .i64 h 16 != 0) = true := hb
        have hz : (B (x.putTo h 4)).size + (B (x.put 4)).size ≤ 4000 := by
          have := PL.out 4
          have := put_len FT.out 4
          rw [size_B, size_B]
          omega
        have PK := Lib.hid (fun W => put4 x W FT.out.sz)
        rw [HX.out] at PK
        generalize x.put 4 = pv at *
        generalize B (x.putTo h 4) = sv at *
        clear hb
        go_wp2_with fail
        go_quiet ((go_at_call 20; exact Calls.quiet_of_same (OF.out _ _ (KR.out.later ((Below.refl _ _).alloc (Nat.le_refl _) _)))))
        go_wp2_with fail
        refine (PK.out _).mono ?_
        rintro e w3 ⟨rfl, b3⟩
        go_wp2
        go_roundw
        case rel => exact ⟨5, by omega, rfl, by rw [HN.out], (((HB.out.alloc _).below hltr (Oct.below_drewN _ _ _))).below (by simp; omega) b3, (((HR.out.alloc _).below hlt2 (Oct.below_drewN _ _ _))).below (by simp; omega) b3, hbf, ((hbelr.alloc (by omega) _).trans (Oct.below_drewN _ _ _)).trans (b3.mono (by simp; omega))⟩
        case measure => simp [intOf]
      | false =>
        have HN : Hid (x.putTo h 5 = x.putTo h 4) := Lib.hid (putTo_no hb)
        have tb : (bits .and .i64 h 16 != 0) = false := hb
        clear hb
        go_wp2_with fail
        go_quiet ((go_at_call 20; exact Calls.quiet_of_same (OF.out _ _ (KR.out.later ((Below.refl _ _).alloc (Nat.le_refl _) _)))))
        go_wp2
        go_roundw
        case rel => exact ⟨5, by omega, rfl, by rw [HN.out], ((HB.out.alloc _).below hltr (Oct.below_drewN _ _ _)), ((HR.out.alloc _).below hlt2 (Oct.below_drewN _ _ _)), hbf, (hbelr.alloc (by omega) _).trans (Oct.below_drewN _ _ _)⟩
        case measure => simp [intOf]
    · have r0 := hR.cell 20 (by decide)
      have r1 := hR.cell 21 (by decide)
      have r2 := hR.cell 22 (by decide)
      have r3 := hR.cell 23 (by decide)
      simp only [rowF] at r0 r1 r2 r3
      have HR := Lib.hid hR
      clear hR
      cases hb : hasB h (bitOf 5) with
      | true =>
        have HN : Hid (B (x.putTo h 5) ++ B (x.put 5) = B (x.putTo h 6)) := Lib.hid (putTo_yes hb)
        have tb : (bits .and .i64 h 32 != 0) = true := hb
        have hz : (B (x.putTo h 5)).size + (B (x.put 5)).size ≤ 4000 := by
          have := PL.out 5
          have := put_len FT.out 5
          rw [size_B, size_B]
          omega
        have PK := Lib.hid (fun W => put5 x W FT.out.da)
        rw [HX.out] at PK
        generalize x.put 5 = pv at *
        generalize B (x.putTo h 5) = sv at *
        clear hb
        go_wp2_with fail
        go_quiet ((go_at_call 20; exact Calls.quiet_of_same (OF.out _ _ (KR.out.later ((Below.refl _ _).alloc (Nat.le_refl _) _)))))
        go_wp2_with fail
        refine (PK.out _).mono ?_
        rintro e w3 ⟨rfl, b3⟩
        go_wp2
        go_roundw
        case rel => exact ⟨6, by omega, rfl, by rw [HN.out], (((HB.out.alloc _).below hltr (Oct.below_drewN _ _ _))).below (by simp; omega) b3, (((HR.out.alloc _).below hlt2 (Oct.below_drewN _ _ _))).below (by simp; omega) b3, hbf, ((hbelr.alloc (by omega) _).trans (Oct.below_drewN _ _ _)).trans (b3.mono (by simp; omega))⟩
        case measure => simp [intOf]
      | false =>
        have HN : Hid (x.putTo h 6 = x.putTo h 5) := Lib.hid (putTo_no hb)
        have tb : (bits .and .i64 h 32 != 0) = false := hb
        clear hb
        go_wp2_with fail
        go_quiet ((go_at_call 20; exact Calls.quiet_of_same (OF.out _ _ (KR.out.later ((Below.refl _ _).alloc (Nat.le_refl _) _)))))
        go_wp2
        go_roundw
        case rel => exact ⟨6, by omega, rfl, by rw [HN.out], ((HB.out.alloc _).below hltr (Oct.below_drewN _ _ _)), ((HR.out.alloc _).below hlt2 (Oct.below_drewN _ _ _)), hbf, (hbelr.alloc (by omega) _).trans (Oct.below_drewN _ _ _)⟩
        case measure => simp [intOf]
    · have eN : ((6 : Nat) : Int) = 6 := rfl
      rw [eN]
      clear eN hR
      go_wp2
      go_ret2
      exact ⟨rfl, hbelr⟩

end Go.Proofs.YtfdclifdemajfaaDoor.Call
