/- Layer 20: the walk of Get: the call that bytes begin with. -/
import Derived.Test.YtfdclifdemajfaaDoorCallPut
import Derived.RegionTactic
import Derived.Outline
namespace Go.Proofs.YtfdclifdemajfaaDoor.Call
set_option linter.unusedVariables false
set_option linter.unusedSimpArgs false
open Go.RowKit Oct Path
/-- What Get answers. -/
def getV (l : List UInt8) : Value := match getL l with
  | none => .tuple #[.agg (C.zero 0).cells, .string ⟨#[]⟩, .int .i64 7]
  | some (y, r) => .tuple #[.agg y.cells, .string (B r), .int .i64 0]
theorem getV_none {l : List UInt8} (h : getL l = none) : getV l = .tuple #[.agg (C.zero 0).cells, .string ⟨#[]⟩, .int .i64 7] := by unfold getV; rw [h]
theorem getV_some {l r : List UInt8} {y : C} (h : getL l = some (y, r)) : getV l = .tuple #[.agg y.cells, .string (B r), .int .i64 0] := by unfold getV; rw [h]
structure C.Small (y : C) : Prop where
  p : y.p.size ≤ 255
  p2 : y.p2.size ≤ 255
  da : y.da.size ≤ 255
theorem get_small {y z : C} {l r : List UInt8} {k : Nat} (h : y.get k l = some (z, r)) (s : y.Small) : z.Small ∧ r.length ≤ l.length ∧ z.d = y.d := by
  obtain ⟨d, p, p2, fd, pg, sz, da⟩ := y
  obtain ⟨s1, s2, s3⟩ := s
  simp only at s1 s2 s3
  have ht : ∀ {a b : List UInt8}, takeL l = some (a, b) → (B a).size ≤ 255 ∧ b.length ≤ l.length := fun hh => by
    have := text_take hh
    refine ⟨by rw [size_B]; exact this.2, ?_⟩
    rw [this.1, List.length_append]
    omega
  unfold C.get at h
  split at h
  · cases hh : takeL l with
    | none => rw [hh] at h; simp at h
    | some t =>
      obtain ⟨a, b⟩ := t
      rw [hh] at h
      simp only [Option.map_some, Option.some.injEq, Prod.mk.injEq] at h
      obtain ⟨rfl, rfl⟩ := h
      exact ⟨⟨(ht hh).1, s2, s3⟩, (ht hh).2, rfl⟩
  · cases hh : takeL l with
    | none => rw [hh] at h; simp at h
    | some t =>
      obtain ⟨a, b⟩ := t
      rw [hh] at h
      simp only [Option.map_some, Option.some.injEq, Prod.mk.injEq] at h
      obtain ⟨rfl, rfl⟩ := h
      exact ⟨⟨s1, (ht hh).1, s3⟩, (ht hh).2, rfl⟩
  · split at h
    · simp at h
    · simp only [Option.some.injEq, Prod.mk.injEq] at h
      obtain ⟨rfl, rfl⟩ := h
      exact ⟨⟨s1, s2, s3⟩, by simp, rfl⟩
  · split at h
    · simp at h
    · simp only [Option.some.injEq, Prod.mk.injEq] at h
      obtain ⟨rfl, rfl⟩ := h
      exact ⟨⟨s1, s2, s3⟩, by simp, rfl⟩
  · split at h
    · simp at h
    · simp only [Option.some.injEq, Prod.mk.injEq] at h
      obtain ⟨rfl, rfl⟩ := h
      exact ⟨⟨s1, s2, s3⟩, by simp, rfl⟩
  · cases hh : takeL l with
    | none => rw [hh] at h; simp at h
    | some t =>
      obtain ⟨a, b⟩ := t
      rw [hh] at h
      simp only [Option.map_some, Option.some.injEq, Prod.mk.injEq] at h
      obtain ⟨rfl, rfl⟩ := h
      exact ⟨⟨s1, s2, (ht hh).1⟩, (ht hh).2, rfl⟩
  · simp only [Option.some.injEq, Prod.mk.injEq] at h
    obtain ⟨rfl, rfl⟩ := h
    exact ⟨⟨s1, s2, s3⟩, Nat.le_refl _, rfl⟩
theorem getTo_yes {x y z : C} {h : Int} {l r m : List UInt8} {k : Nat} (hg : getTo x h l k = some (y, r)) (hb : hasB h (bitOf k) = true) (hz : y.get k r = some (z, m)) : getTo x h l (k + 1) = some (z, m) := by
  simp [getTo, hg, hb, hz]
theorem getTo_bad {x y : C} {h : Int} {l r : List UInt8} {k : Nat} (hg : getTo x h l k = some (y, r)) (hb : hasB h (bitOf k) = true) (hz : y.get k r = none) : getTo x h l (k + 1) = none := by
  simp [getTo, hg, hb, hz]
theorem getTo_no {x y : C} {h : Int} {l r : List UInt8} {k : Nat} (hg : getTo x h l k = some (y, r)) (hb : hasB h (bitOf k) = false) : getTo x h l (k + 1) = some (y, r) := by
  simp [getTo, hg, hb]
theorem getTo_stays {x : C} {h : Int} {l : List UInt8} {k : Nat} (hg : getTo x h l k = none) : ∀ j, getTo x h l (k + j) = none
  | 0 => hg
  | j + 1 => by
    have := getTo_stays hg j
    show getTo x h l (k + j + 1) = none
    simp only [getTo, this]
theorem getL_bad {s : ByteArray} {n k : Nat} (h0 : 0 < s.size) (hn : s[0].toNat = n) (hk : k ≤ 6) (hg : getTo (C.zero n) (hasN n) (L s).tail k = none) : getL (L s) = none := by
  rw [cons_of h0]
  have := getTo_stays hg (6 - k)
  rw [show k + (6 - k) = 6 by omega] at this
  simp only [getL, hn, this]
theorem getL_no {s : ByteArray} {n : Nat} {y : C} {r : List UInt8} (h0 : 0 < s.size) (hn : s[0].toNat = n) (hg : getTo (C.zero n) (hasN n) (L s).tail 6 = some (y, r)) (hc : y.checkE ≠ 0) : getL (L s) = none := by
  rw [cons_of h0]
  simp only [getL, hn, hg]
  rw [if_neg hc]
theorem getL_yes {s : ByteArray} {n : Nat} {y : C} {r : List UInt8} (h0 : 0 < s.size) (hn : s[0].toNat = n) (hg : getTo (C.zero n) (hasN n) (L s).tail 6 = some (y, r)) (hc : y.checkE = 0) : getL (L s) = some (y, r) := by
  rw [cons_of h0]
  simp only [getL, hn, hg]
  rw [if_pos hc]
def GetRel (n : Nat) (h : Int) (l : List UInt8) (w : World) (bf : Nat) (s i : Value) (wr : World) : Prop :=
  ∃ (k : Nat) (y : C) (r : List UInt8), k ≤ 6 ∧ i = .int .i64 k ∧ s = .string (B r) ∧ getTo (C.zero n) h l k = some (y, r) ∧ y.Small ∧ y.d = n ∧ r.length ≤ l.length ∧ Box wr w.heap.size y ∧ Rows6 wr bf ∧ w.heap.size < bf ∧ Below w.heap.size w wr


set_option maxRecDepth 100000 in
set_option maxHeartbeats 400000 in
theorem get_nil (w : World) : Calls Tryd.prog 11 #[.string ⟨#[]⟩] w fun e w' => e = .returned (getV []) ∧ Below w.heap.size w w' := by
  rw [getV_none rfl]
  go_enter Tryd.func11, Tryd.ntmps11
  go_wp2
  exact bodyPost_ret (v := .tuple #[.agg (C.zero 0).cells, .string ⟨#[]⟩, .int .i64 7]) (by simp [results, Tryd.results11, go_sem, C.cells, C.zero]) rfl ⟨rfl, (Below.refl _ _).alloc (Nat.le_refl _) _⟩
set_option maxRecDepth 100000 in
set_option maxHeartbeats 2000000 in
theorem get_cons (s : ByteArray) (w : World) (hk : Kinds w) (hs : s.size ≤ maxLen) (h0 : 0 < s.size) :
    Calls Tryd.prog 11 #[.string s] w fun e w' => e = .returned (getV (L s)) ∧ Below w.heap.size w w' := by
  obtain ⟨n, hn⟩ : ∃ n, s[0].toNat = n := ⟨_, rfl⟩
  have hn8 : n < 256 := by rw [← hn]; exact s[0].toNat_lt
  have HK := Lib.hid hk
  have OF := Lib.hid (fun W m k => of_quiet n W m k hn8)
  have hw0 := hk.1
  have G1 : Hid (∀ k, k ≤ 6 → getTo (C.zero n) (hasN n) (L s).tail k = none → getV (L s) = .tuple #[.agg (C.zero 0).cells, .string ⟨#[]⟩, .int .i64 7]) := Lib.hid (fun k hk6 hg => getV_none (getL_bad h0 hn hk6 hg))
  have G2 : Hid (∀ y r, getTo (C.zero n) (hasN n) (L s).tail 6 = some (y, r) → y.checkE ≠ 0 → getV (L s) = .tuple #[.agg (C.zero 0).cells, .string ⟨#[]⟩, .int .i64 7]) := Lib.hid (fun y r hg hc => getV_none (getL_no h0 hn hg hc))
  have G3 : Hid (∀ y r, getTo (C.zero n) (hasN n) (L s).tail 6 = some (y, r) → y.checkE = 0 → getV (L s) = .tuple #[.agg y.cells, .string (B r), .int .i64 0]) := Lib.hid (fun y r hg hc => getV_some (getL_yes h0 hn hg hc))
  have HT : Hid ((L s).tail.length ≤ maxLen) := Lib.hid (by rw [List.length_tail, len_L]; omega)
  have E2 := Lib.hid (show s.extract 1 s.size = B (L s).tail by rw [ex_rest, List.drop_one])
  generalize hasN n = h at *
  have hne := empty_no h0
  have h2 : (1 : Int) ≤ (s.size : Int) := by omega
  unfold maxLen at hs
  clear hk
  generalize getV (L s) = gv at *
  generalize (L s).tail = l at *
  go_enter Tryd.func11, Tryd.ntmps11
  go_wp2
  go_region
  rw [E2.out]
  clear hn h0 E2 hs hne h2
  go_wp2_with fail
  refine (fields_any _).mono ?_
  rintro e w2 ⟨rfl, rfl⟩
  go_wp2
  go_loopw [3, 18] (fun s i wr => GetRel n h l w (w.heap.size + 1) s i wr) (fun _ i _ => 6 - (intOf i).toNat)
  case atStart =>
    refine ⟨0, C.zero n, l, by omega, rfl, rfl, rfl, ⟨(by decide : (⟨#[]⟩ : ByteArray).size ≤ 255), (by decide : (⟨#[]⟩ : ByteArray).size ≤ 255), (by decide : (⟨#[]⟩ : ByteArray).size ≤ 255)⟩, rfl, Nat.le_refl _, ?_, ?_, by omega, ?_⟩
    · exact (Box.alloc (b := w.heap.size) (x := C.zero n) (w := w.alloc _) (heap_alloc_new w _) (.cells rowF 47))
    · have := heap_alloc_new (w.alloc (.cells (C.zero n).cells 24)) (.cells rowF 47)
      simp only [World.size_alloc] at this
      exact this
    · exact (((Below.refl _ _).alloc (Nat.le_refl _) _).alloc (by simp) _).trans ⟨rfl, rfl, rfl, Nat.le_refl _, fun _ _ => rfl⟩
  case round =>
    obtain ⟨k, y, r, hk6, rfl, rfl, hg, hsm, hyd, hrl, hB, hR, hbf, hbelr⟩ := hrel
    have hltr := hB.lt
    have hlt2 := hR.lt
    have KR : Hid (Kinds wr) := Lib.hid (HK.out.later hbelr)
    have c0 : wr.cell? ⟨w.heap.size, 0, none⟩ = some (.int .u8 n) := by rw [← hyd]; exact hB.c0
    have c1 := hB.c1
    have c2 := hB.c2
    have c3 := hB.c3
    have c4 := hB.c4
    have c5 := hB.c5
    have c6 := hB.c6
    have f0 := hB.free 0
    have f1 := hB.free 1
    have f2 := hB.free 2
    have f3 := hB.free 3
    have f4 := hB.free 4
    have f5 := hB.free 5
    have f6 := hB.free 6
    have HB := Lib.hid hB
    have HG := Lib.hid hg
    have HD := Lib.hid hyd
    clear hB hg hyd
    obtain rfl | rfl | rfl | rfl | rfl | rfl | rfl : k = 0 ∨ k = 1 ∨ k = 2 ∨ k = 3 ∨ k = 4 ∨ k = 5 ∨ k = 6 := by omega
    all_goals try clear hk6
    · have r0 := hR.cell 0 (by decide)
      have r1 := hR.cell 1 (by decide)
      have r2 := hR.cell 2 (by decide)
      have r3 := hR.cell 3 (by decide)
      simp only [rowF] at r0 r1 r2 r3
      have HR := Lib.hid hR
      clear hR
      cases hb : hasB h (bitOf 0) with
      | true =>
        have HB1 := Lib.hid hb
        have tb : (bits .and .i64 h 1 != 0) = true := hb
        clear hb
        go_wp2_with fail
        go_quiet ((go_at_call 20; exact Calls.quiet_of_same (OF.out _ _ (KR.out.later ((Below.refl _ _).alloc (Nat.le_refl _) _)))))
        go_wp2_with fail
        refine (get0 w.heap.size y (B r) _ ((HB.out.alloc _).below hltr (Oct.below_drewN _ _ _)) (by rw [size_B]; exact Nat.le_trans hrl HT.out)).mono ?_
        rintro e w3 (⟨g0, rfl, hw⟩ | ⟨z, m, v, g0, rfl, rfl, hZ⟩)
        · rw [L_B] at g0
          have GV := Lib.hid (G1.out 1 (by omega) (getTo_bad HG.out HB1.out g0))
          have hB3 : Box w3 w.heap.size y := by rw [hw]; exact (HB.out.alloc _).below hltr (Oct.below_drewN _ _ _)
          have hbel3 : Below w.heap.size w w3 := by rw [hw]; exact (hbelr.alloc (by omega) _).trans (Oct.below_drewN _ _ _)
          clear g0 hw c0 c1 c2 c3 c4 c5 c6 f0 f1 f2 f3 f4 f5 f6 r0 r1 r2 r3
          have hlt3 := hB3.lt
          have c0 := hB3.c0
          have f0 := hB3.free 0
          have c1 := hB3.c1
          have f1 := hB3.free 1
          have c2 := hB3.c2
          have f2 := hB3.free 2
          have c3 := hB3.c3
          have f3 := hB3.free 3
          have c4 := hB3.c4
          have f4 := hB3.free 4
          have c5 := hB3.c5
          have f5 := hB3.free 5
          have c6 := hB3.c6
          have f6 := hB3.free 6
          have HB3 := Lib.hid hB3
          clear hB3
          go_wp2
          have hfin : Below w.heap.size w (fillW w3 w.heap.size (C.zero 0)) := fillW_below hbel3 (Nat.le_refl _)
          unfold fillW at hfin
          try simp only [C.zero] at hfin
          refine bodyPost_ret (v := .tuple #[.agg (C.zero 0).cells, .string ⟨#[]⟩, .int .i64 7]) (by simp [results, Tryd.results11, go_sem, c0, c1, c2, c3, c4, c5, c6, C.cells, C.zero]) rfl ⟨?_, hfin⟩
          rw [GV.out]
        · rw [L_B] at g0
          obtain ⟨s1, s2, s3⟩ := get_small g0 hsm
          have GN := Lib.hid (getTo_yes HG.out HB1.out g0)
          have HZ := Lib.hid hZ
          have HD2 := Lib.hid (s3.trans HD.out)
          clear g0 hZ s3
          go_wp2
          go_roundw
          case rel => exact ⟨1, z, m, by omega, rfl, rfl, GN.out, s1, HD2.out, Nat.le_trans s2 hrl, HZ.out, ((HR.out.alloc _).below hlt2 (Oct.below_drewN _ _ _)).other _ (by omega), hbf, ((hbelr.alloc (by omega) _).trans (Oct.below_drewN _ _ _)).setCell (Nat.le_refl _) _⟩
          case measure => simp [intOf]
      | false =>
        have HN : Hid _ := Lib.hid (getTo_no HG.out hb)
        have tb : (bits .and .i64 h 1 != 0) = false := hb
        clear hb
        go_wp2_with fail
        go_quiet ((go_at_call 20; exact Calls.quiet_of_same (OF.out _ _ (KR.out.later ((Below.refl _ _).alloc (Nat.le_refl _) _)))))
        go_wp2
        go_roundw
        case rel => exact ⟨1, y, r, by omega, rfl, rfl, HN.out, hsm, HD.out, hrl, ((HB.out.alloc _).below hltr (Oct.below_drewN _ _ _)), ((HR.out.alloc _).below hlt2 (Oct.below_drewN _ _ _)), hbf, (hbelr.alloc (by omega) _).trans (Oct.below_drewN _ _ _)⟩
        case measure => simp [intOf]
    · have r0 := hR.cell 4 (by decide)
      have r1 := hR.cell 5 (by decide)
      have r2 := hR.cell 6 (by decide)
      have r3 := hR.cell 7 (by decide)
      simp only [rowF] at r0 r1 r2 r3
      have HR := Lib.hid hR
      clear hR
      cases hb : hasB h (bitOf 1) with
      | true =>
        have HB1 := Lib.hid hb
        have tb : (bits .and .i64 h 2 != 0) = true := hb
        clear hb
        go_wp2_with fail
        go_quiet ((go_at_call 20; exact Calls.quiet_of_same (OF.out _ _ (KR.out.later ((Below.refl _ _).alloc (Nat.le_refl _) _)))))
        go_wp2_with fail
        refine (get1 w.heap.size y (B r) _ ((HB.out.alloc _).below hltr (Oct.below_drewN _ _ _)) (by rw [size_B]; exact Nat.le_trans hrl HT.out)).mono ?_
        rintro e w3 (⟨g0, rfl, hw⟩ | ⟨z, m, v, g0, rfl, rfl, hZ⟩)
        · rw [L_B] at g0
          have GV := Lib.hid (G1.out 2 (by omega) (getTo_bad HG.out HB1.out g0))
          have hB3 : Box w3 w.heap.size y := by rw [hw]; exact (HB.out.alloc _).below hltr (Oct.below_drewN _ _ _)
          have hbel3 : Below w.heap.size w w3 := by rw [hw]; exact (hbelr.alloc (by omega) _).trans (Oct.below_drewN _ _ _)
          clear g0 hw c0 c1 c2 c3 c4 c5 c6 f0 f1 f2 f3 f4 f5 f6 r0 r1 r2 r3
          have hlt3 := hB3.lt
          have c0 := hB3.c0
          have f0 := hB3.free 0
          have c1 := hB3.c1
          have f1 := hB3.free 1
          have c2 := hB3.c2
          have f2 := hB3.free 2
          have c3 := hB3.c3
          have f3 := hB3.free 3
          have c4 := hB3.c4
          have f4 := hB3.free 4
          have c5 := hB3.c5
          have f5 := hB3.free 5
          have c6 := hB3.c6
          have f6 := hB3.free 6
          have HB3 := Lib.hid hB3
          clear hB3
          go_wp2
          have hfin : Below w.heap.size w (fillW w3 w.heap.size (C.zero 0)) := fillW_below hbel3 (Nat.le_refl _)
          unfold fillW at hfin
          try simp only [C.zero] at hfin
          refine bodyPost_ret (v := .tuple #[.agg (C.zero 0).cells, .string ⟨#[]⟩, .int .i64 7]) (by simp [results, Tryd.results11, go_sem, c0, c1, c2, c3, c4, c5, c6, C.cells, C.zero]) rfl ⟨?_, hfin⟩
          rw [GV.out]
        · rw [L_B] at g0
          obtain ⟨s1, s2, s3⟩ := get_small g0 hsm
          have GN := Lib.hid (getTo_yes HG.out HB1.out g0)
          have HZ := Lib.hid hZ
          have HD2 := Lib.hid (s3.trans HD.out)
          clear g0 hZ s3
          go_wp2
          go_roundw
          case rel => exact ⟨2, z, m, by omega, rfl, rfl, GN.out, s1, HD2.out, Nat.le_trans s2 hrl, HZ.out, ((HR.out.alloc _).below hlt2 (Oct.below_drewN _ _ _)).other _ (by omega), hbf, ((hbelr.alloc (by omega) _).trans (Oct.below_drewN _ _ _)).setCell (Nat.le_refl _) _⟩
          case measure => simp [intOf]
      | false =>
        have HN : Hid _ := Lib.hid (getTo_no HG.out hb)
        have tb : (bits .and .i64 h 2 != 0) = false := hb
        clear hb
        go_wp2_with fail
        go_quiet ((go_at_call 20; exact Calls.quiet_of_same (OF.out _ _ (KR.out.later ((Below.refl _ _).alloc (Nat.le_refl _) _)))))
        go_wp2
        go_roundw
        case rel => exact ⟨2, y, r, by omega, rfl, rfl, HN.out, hsm, HD.out, hrl, ((HB.out.alloc _).below hltr (Oct.below_drewN _ _ _)), ((HR.out.alloc _).below hlt2 (Oct.below_drewN _ _ _)), hbf, (hbelr.alloc (by omega) _).trans (Oct.below_drewN _ _ _)⟩
        case measure => simp [intOf]
    · have r0 := hR.cell 8 (by decide)
      have r1 := hR.cell 9 (by decide)
      have r2 := hR.cell 10 (by decide)
      have r3 := hR.cell 11 (by decide)
      simp only [rowF] at r0 r1 r2 r3
      have HR := Lib.hid hR
      clear hR
      cases hb : hasB h (bitOf 2) with
      | true =>
        have HB1 := Lib.hid hb
        have tb : (bits .and .i64 h 4 != 0) = true := hb
        clear hb
        go_wp2_with fail
        go_quiet ((go_at_call 20; exact Calls.quiet_of_same (OF.out _ _ (KR.out.later ((Below.refl _ _).alloc (Nat.le_refl _) _)))))
        go_wp2_with fail
        refine (get2 w.heap.size y (B r) _ ((HB.out.alloc _).below hltr (Oct.below_drewN _ _ _)) (by rw [size_B]; exact Nat.le_trans hrl HT.out)).mono ?_
        rintro e w3 (⟨g0, rfl, hw⟩ | ⟨z, m, v, g0, rfl, rfl, hZ⟩)
        · rw [L_B] at g0
          have GV := Lib.hid (G1.out 3 (by omega) (getTo_bad HG.out HB1.out g0))
          have hB3 : Box w3 w.heap.size y := by rw [hw]; exact (HB.out.alloc _).below hltr (Oct.below_drewN _ _ _)
          have hbel3 : Below w.heap.size w w3 := by rw [hw]; exact (hbelr.alloc (by omega) _).trans (Oct.below_drewN _ _ _)
          clear g0 hw c0 c1 c2 c3 c4 c5 c6 f0 f1 f2 f3 f4 f5 f6 r0 r1 r2 r3
          have hlt3 := hB3.lt
          have c0 := hB3.c0
          have f0 := hB3.free 0
          have c1 := hB3.c1
          have f1 := hB3.free 1
          have c2 := hB3.c2
          have f2 := hB3.free 2
          have c3 := hB3.c3
          have f3 := hB3.free 3
          have c4 := hB3.c4
          have f4 := hB3.free 4
          have c5 := hB3.c5
          have f5 := hB3.free 5
          have c6 := hB3.c6
          have f6 := hB3.free 6
          have HB3 := Lib.hid hB3
          clear hB3
          go_wp2
          have hfin : Below w.heap.size w (fillW w3 w.heap.size (C.zero 0)) := fillW_below hbel3 (Nat.le_refl _)
          unfold fillW at hfin
          try simp only [C.zero] at hfin
          refine bodyPost_ret (v := .tuple #[.agg (C.zero 0).cells, .string ⟨#[]⟩, .int .i64 7]) (by simp [results, Tryd.results11, go_sem, c0, c1, c2, c3, c4, c5, c6, C.cells, C.zero]) rfl ⟨?_, hfin⟩
          rw [GV.out]
        · rw [L_B] at g0
          obtain ⟨s1, s2, s3⟩ := get_small g0 hsm
          have GN := Lib.hid (getTo_yes HG.out HB1.out g0)
          have HZ := Lib.hid hZ
          have HD2 := Lib.hid (s3.trans HD.out)
          clear g0 hZ s3
          go_wp2
          go_roundw
          case rel => exact ⟨3, z, m, by omega, rfl, rfl, GN.out, s1, HD2.out, Nat.le_trans s2 hrl, HZ.out, ((HR.out.alloc _).below hlt2 (Oct.below_drewN _ _ _)).other _ (by omega), hbf, ((hbelr.alloc (by omega) _).trans (Oct.below_drewN _ _ _)).setCell (Nat.le_refl _) _⟩
          case measure => simp [intOf]
      | false =>
        have HN : Hid _ := Lib.hid (getTo_no HG.out hb)
        have tb : (bits .and .i64 h 4 != 0) = false := hb
        clear hb
        go_wp2_with fail
        go_quiet ((go_at_call 20; exact Calls.quiet_of_same (OF.out _ _ (KR.out.later ((Below.refl _ _).alloc (Nat.le_refl _) _)))))
        go_wp2
        go_roundw
        case rel => exact ⟨3, y, r, by omega, rfl, rfl, HN.out, hsm, HD.out, hrl, ((HB.out.alloc _).below hltr (Oct.below_drewN _ _ _)), ((HR.out.alloc _).below hlt2 (Oct.below_drewN _ _ _)), hbf, (hbelr.alloc (by omega) _).trans (Oct.below_drewN _ _ _)⟩
        case measure => simp [intOf]
    · have r0 := hR.cell 12 (by decide)
      have r1 := hR.cell 13 (by decide)
      have r2 := hR.cell 14 (by decide)
      have r3 := hR.cell 15 (by decide)
      simp only [rowF] at r0 r1 r2 r3
      have HR := Lib.hid hR
      clear hR
      cases hb : hasB h (bitOf 3) with
      | true =>
        have HB1 := Lib.hid hb
        have tb : (bits .and .i64 h 8 != 0) = true := hb
        clear hb
        go_wp2_with fail
        go_quiet ((go_at_call 20; exact Calls.quiet_of_same (OF.out _ _ (KR.out.later ((Below.refl _ _).alloc (Nat.le_refl _) _)))))
        go_wp2_with fail
        refine (get3 w.heap.size y (B r) _ ((HB.out.alloc _).below hltr (Oct.below_drewN _ _ _)) (by rw [size_B]; exact Nat.le_trans hrl HT.out)).mono ?_
        rintro e w3 (⟨g0, rfl, hw⟩ | ⟨z, m, v, g0, rfl, rfl, hZ⟩)
        · rw [L_B] at g0
          have GV := Lib.hid (G1.out 4 (by omega) (getTo_bad HG.out HB1.out g0))
          have hB3 : Box w3 w.heap.size y := by rw [hw]; exact (HB.out.alloc _).below hltr (Oct.below_drewN _ _ _)
          have hbel3 : Below w.heap.size w w3 := by rw [hw]; exact (hbelr.alloc (by omega) _).trans (Oct.below_drewN _ _ _)
          clear g0 hw c0 c1 c2 c3 c4 c5 c6 f0 f1 f2 f3 f4 f5 f6 r0 r1 r2 r3
          have hlt3 := hB3.lt
          have c0 := hB3.c0
          have f0 := hB3.free 0
          have c1 := hB3.c1
          have f1 := hB3.free 1
          have c2 := hB3.c2
          have f2 := hB3.free 2
          have c3 := hB3.c3
          have f3 := hB3.free 3
          have c4 := hB3.c4
          have f4 := hB3.free 4
          have c5 := hB3.c5
          have f5 := hB3.free 5
          have c6 := hB3.c6
          have f6 := hB3.free 6
          have HB3 := Lib.hid hB3
          clear hB3
          go_wp2
          have hfin : Below w.heap.size w (fillW w3 w.heap.size (C.zero 0)) := fillW_below hbel3 (Nat.le_refl _)
          unfold fillW at hfin
          try simp only [C.zero] at hfin
          refine bodyPost_ret (v := .tuple #[.agg (C.zero 0).cells, .string ⟨#[]⟩, .int .i64 7]) (by simp [results, Tryd.results11, go_sem, c0, c1, c2, c3, c4, c5, c6, C.cells, C.zero]) rfl ⟨?_, hfin⟩
          rw [GV.out]
        · rw [L_B] at g0
          obtain ⟨s1, s2, s3⟩ := get_small g0 hsm
          have GN := Lib.hid (getTo_yes HG.out HB1.out g0)
          have HZ := Lib.hid hZ
          have HD2 := Lib.hid (s3.trans HD.out)
          clear g0 hZ s3
          go_wp2
          go_roundw
          case rel => exact ⟨4, z, m, by omega, rfl, rfl, GN.out, s1, HD2.out, Nat.le_trans s2 hrl, HZ.out, ((HR.out.alloc _).below hlt2 (Oct.below_drewN _ _ _)).other _ (by omega), hbf, ((hbelr.alloc (by omega) _).trans (Oct.below_drewN _ _ _)).setCell (Nat.le_refl _) _⟩
          case measure => simp [intOf]
      | false =>
        have HN : Hid _ := Lib.hid (getTo_no HG.out hb)
        have tb : (bits .and .i64 h 8 != 0) = false := hb
        clear hb
        go_wp2_with fail
        go_quiet ((go_at_call 20; exact Calls.quiet_of_same (OF.out _ _ (KR.out.later ((Below.refl _ _).alloc (Nat.le_refl _) _)))))
        go_wp2
        go_roundw
        case rel => exact ⟨4, y, r, by omega, rfl, rfl, HN.out, hsm, HD.out, hrl, ((HB.out.alloc _).below hltr (Oct.below_drewN _ _ _)), ((HR.out.alloc _).below hlt2 (Oct.below_drewN _ _ _)), hbf, (hbelr.alloc (by omega) _).trans (Oct.below_drewN _ _ _)⟩
        case measure => simp [intOf]
    · have r0 := hR.cell 16 (by decide)
      have r1 := hR.cell 17 (by decide)
      have r2 := hR.cell 18 (by decide)
      have r3 := hR.cell 19 (by decide)
      simp only [rowF] at r0 r1 r2 r3
      have HR := Lib.hid hR
      clear hR
      cases hb : hasB h (bitOf 4) with
      | true =>
        have HB1 := Lib.hid hb
        have tb : (bits .and .i64 h 16 != 0) = true := hb
        clear hb
        go_wp2_with fail
        go_quiet ((go_at_call 20; exact Calls.quiet_of_same (OF.out _ _ (KR.out.later ((Below.refl _ _).alloc (Nat.le_refl _) _)))))
        go_wp2_with fail
        refine (get4 w.heap.size y (B r) _ ((HB.out.alloc _).below hltr (Oct.below_drewN _ _ _)) (by rw [size_B]; exact Nat.le_trans hrl HT.out)).mono ?_
        rintro e w3 (⟨g0, rfl, hw⟩ | ⟨z, m, v, g0, rfl, rfl, hZ⟩)
        · rw [L_B] at g0
          have GV := Lib.hid (G1.out 5 (by omega) (getTo_bad HG.out HB1.out g0))
          have hB3 : Box w3 w.heap.size y := by rw [hw]; exact (HB.out.alloc _).below hltr (Oct.below_drewN _ _ _)
          have hbel3 : Below w.heap.size w w3 := by rw [hw]; exact (hbelr.alloc (by omega) _).trans (Oct.below_drewN _ _ _)
          clear g0 hw c0 c1 c2 c3 c4 c5 c6 f0 f1 f2 f3 f4 f5 f6 r0 r1 r2 r3
          have hlt3 := hB3.lt
          have c0 := hB3.c0
          have f0 := hB3.free 0
          have c1 := hB3.c1
          have f1 := hB3.free 1
          have c2 := hB3.c2
          have f2 := hB3.free 2
          have c3 := hB3.c3
          have f3 := hB3.free 3
          have c4 := hB3.c4
          have f4 := hB3.free 4
          have c5 := hB3.c5
          have f5 := hB3.free 5
          have c6 := hB3.c6
          have f6 := hB3.free 6
          have HB3 := Lib.hid hB3
          clear hB3
          go_wp2
          have hfin : Below w.heap.size w (fillW w3 w.heap.size (C.zero 0)) := fillW_below hbel3 (Nat.le_refl _)
          unfold fillW at hfin
          try simp only [C.zero] at hfin
          refine bodyPost_ret (v := .tuple #[.agg (C.zero 0).cells, .string ⟨#[]⟩, .int .i64 7]) (by simp [results, Tryd.results11, go_sem, c0, c1, c2, c3, c4, c5, c6, C.cells, C.zero]) rfl ⟨?_, hfin⟩
          rw [GV.out]
        · rw [L_B] at g0
          obtain ⟨s1, s2, s3⟩ := get_small g0 hsm
          have GN := Lib.hid (getTo_yes HG.out HB1.out g0)
          have HZ := Lib.hid hZ
          have HD2 := Lib.hid (s3.trans HD.out)
          clear g0 hZ s3
          go_wp2
          go_roundw
          case rel => exact ⟨5, z, m, by omega, rfl, rfl, GN.out, s1, HD2.out, Nat.le_trans s2 hrl, HZ.out, ((HR.out.alloc _).below hlt2 (Oct.below_drewN _ _ _)).other _ (by omega), hbf, ((hbelr.alloc (by omega) _).trans (Oct.below_drewN _ _ _)).setCell (Nat.le_refl _) _⟩
          case measure => simp [intOf]
      | false =>
        have HN : Hid _ := Lib.hid (getTo_no HG.out hb)
        have tb : (bits .and .i64 h 16 != 0) = false := hb
        clear hb
        go_wp2_with fail
        go_quiet ((go_at_call 20; exact Calls.quiet_of_same (OF.out _ _ (KR.out.later ((Below.refl _ _).alloc (Nat.le_refl _) _)))))
        go_wp2
        go_roundw
        case rel => exact ⟨5, y, r, by omega, rfl, rfl, HN.out, hsm, HD.out, hrl, ((HB.out.alloc _).below hltr (Oct.below_drewN _ _ _)), ((HR.out.alloc _).below hlt2 (Oct.below_drewN _ _ _)), hbf, (hbelr.alloc (by omega) _).trans (Oct.below_drewN _ _ _)⟩
        case measure => simp [intOf]
    · have r0 := hR.cell 20 (by decide)
      have r1 := hR.cell 21 (by decide)
      have r2 := hR.cell 22 (by decide)
      have r3 := hR.cell 23 (by decide)
      simp only [rowF] at r0 r1 r2 r3
      have HR := Lib.hid hR
      clear hR
      cases hb : hasB h (bitOf 5) with
      | true =>
        have HB1 := Lib.hid hb
        have tb : (bits .and .i64 h 32 != 0) = true := hb
        clear hb
        go_wp2_with fail
        go_quiet ((go_at_call 20; exact Calls.quiet_of_same (OF.out _ _ (KR.out.later ((Below.refl _ _).alloc (Nat.le_refl _) _)))))
        go_wp2_with fail
        refine (get5 w.heap.size y (B r) _ ((HB.out.alloc _).below hltr (Oct.below_drewN _ _ _)) (by rw [size_B]; exact Nat.le_trans hrl HT.out)).mono ?_
        rintro e w3 (⟨g0, rfl, hw⟩ | ⟨z, m, v, g0, rfl, rfl, hZ⟩)
        · rw [L_B] at g0
          have GV := Lib.hid (G1.out 6 (by omega) (getTo_bad HG.out HB1.out g0))
          have hB3 : Box w3 w.heap.size y := by rw [hw]; exact (HB.out.alloc _).below hltr (Oct.below_drewN _ _ _)
          have hbel3 : Below w.heap.size w w3 := by rw [hw]; exact (hbelr.alloc (by omega) _).trans (Oct.below_drewN _ _ _)
          clear g0 hw c0 c1 c2 c3 c4 c5 c6 f0 f1 f2 f3 f4 f5 f6 r0 r1 r2 r3
          have hlt3 := hB3.lt
          have c0 := hB3.c0
          have f0 := hB3.free 0
          have c1 := hB3.c1
          have f1 := hB3.free 1
          have c2 := hB3.c2
          have f2 := hB3.free 2
          have c3 := hB3.c3
          have f3 := hB3.free 3
          have c4 := hB3.c4
          have f4 := hB3.free 4
          have c5 := hB3.c5
          have f5 := hB3.free 5
          have c6 := hB3.c6
          have f6 := hB3.free 6
          have HB3 := Lib.hid hB3
          clear hB3
          go_wp2
          have hfin : Below w.heap.size w (fillW w3 w.heap.size (C.zero 0)) := fillW_below hbel3 (Nat.le_refl _)
          unfold fillW at hfin
          try simp only [C.zero] at hfin
          refine bodyPost_ret (v := .tuple #[.agg (C.zero 0).cells, .string ⟨#[]⟩, .int .i64 7]) (by simp [results, Tryd.results11, go_sem, c0, c1, c2, c3, c4, c5, c6, C.cells, C.zero]) rfl ⟨?_, hfin⟩
          rw [GV.out]
        · rw [L_B] at g0
          obtain ⟨s1, s2, s3⟩ := get_small g0 hsm
          have GN := Lib.hid (getTo_yes HG.out HB1.out g0)
          have HZ := Lib.hid hZ
          have HD2 := Lib.hid (s3.trans HD.out)
          clear g0 hZ s3
          go_wp2
          go_roundw
          case rel => exact ⟨6, z, m, by omega, rfl, rfl, GN.out, s1, HD2.out, Nat.le_trans s2 hrl, HZ.out, ((HR.out.alloc _).below hlt2 (Oct.below_drewN _ _ _)).other _ (by omega), hbf, ((hbelr.alloc (by omega) _).trans (Oct.below_drewN _ _ _)).setCell (Nat.le_refl _) _⟩
          case measure => simp [intOf]
      | false =>
        have HN : Hid _ := Lib.hid (getTo_no HG.out hb)
        have tb : (bits .and .i64 h 32 != 0) = false := hb
        clear hb
        go_wp2_with fail
        go_quiet ((go_at_call 20; exact Calls.quiet_of_same (OF.out _ _ (KR.out.later ((Below.refl _ _).alloc (Nat.le_refl _) _)))))
        go_wp2
        go_roundw
        case rel => exact ⟨6, y, r, by omega, rfl, rfl, HN.out, hsm, HD.out, hrl, ((HB.out.alloc _).below hltr (Oct.below_drewN _ _ _)), ((HR.out.alloc _).below hlt2 (Oct.below_drewN _ _ _)), hbf, (hbelr.alloc (by omega) _).trans (Oct.below_drewN _ _ _)⟩
        case measure => simp [intOf]
    · have eN : ((6 : Nat) : Int) = 6 := rfl
      rw [eN]
      clear eN hR
      have CK := Lib.hid (fun W q => check_any y W q (by rw [HD.out]; exact hn8) (by have := hsm.p; unfold maxLen; omega) (by have := hsm.p2; unfold maxLen; omega) (by have := hsm.da; unfold maxLen; omega))
      have HY : Hid (y.cells = #[.int .u8 y.d, .string y.p, .string y.p2, .int .i64 y.fd, .int .i64 y.pg, .int .u32 y.sz, .string y.da]) := Lib.hid rfl
      rw [HY.out, HD.out] at CK
      by_cases hc : y.checkE = 0
      · have GV := Lib.hid (G3.out y r HG.out hc)
        rw [hc] at CK
        clear hc
        go_wp2_with fail
        refine (CK.out _ KR.out).mono ?_
        rintro e w3 ⟨rfl, b3⟩
        have hB3 := HB.out.below hltr b3
        have hbel3 : Below w.heap.size w w3 := hbelr.trans (b3.mono (Nat.le_of_lt hltr))
        have cn : w3.cell? ⟨w.heap.size, 0, none⟩ = some (.int .u8 n) := by rw [← HD.out]; exact hB3.c0
        clear c0 c1 c2 c3 c4 c5 c6 f0 f1 f2 f3 f4 f5 f6
        have hlt3 := hB3.lt
        have c0 := cn
        have f0 := hB3.free 0
        have c1 := hB3.c1
        have f1 := hB3.free 1
        have c2 := hB3.c2
        have f2 := hB3.free 2
        have c3 := hB3.c3
        have f3 := hB3.free 3
        have c4 := hB3.c4
        have f4 := hB3.free 4
        have c5 := hB3.c5
        have f5 := hB3.free 5
        have c6 := hB3.c6
        have f6 := hB3.free 6
        have HB3 := Lib.hid hB3
        clear hB3
        go_wp2
        have hfin : Below w.heap.size w (fillW w3 w.heap.size ⟨n, y.p, y.p2, y.fd, y.pg, y.sz, y.da⟩) := fillW_below hbel3 (Nat.le_refl _)
        unfold fillW at hfin
        try simp only [C.zero] at hfin
        refine bodyPost_ret (v := .tuple #[.agg #[.int .u8 n, .string y.p, .string y.p2, .int .i64 y.fd, .int .i64 y.pg, .int .u32 y.sz, .string y.da], .string (B r), .int .i64 0]) (by simp [results, Tryd.results11, go_sem, c0, c1, c2, c3, c4, c5, c6, C.cells, C.zero]) rfl ⟨?_, hfin⟩
        rw [GV.out]
        rw [HY.out, HD.out]
      · have GV := Lib.hid (G2.out y r HG.out hc)
        have q3 : (y.checkE == 0) = false := by simpa using hc
        have q4 : (y.checkE != 0) = true := by simpa using hc
        generalize y.checkE = ce at *
        clear hc
        go_wp2_with fail
        refine (CK.out _ KR.out).mono ?_
        rintro e w3 ⟨rfl, b3⟩
        have hB3 := HB.out.below hltr b3
        have hbel3 : Below w.heap.size w w3 := hbelr.trans (b3.mono (Nat.le_of_lt hltr))
        clear c0 c1 c2 c3 c4 c5 c6 f0 f1 f2 f3 f4 f5 f6
        have hlt3 := hB3.lt
        have c0 := hB3.c0
        have f0 := hB3.free 0
        have c1 := hB3.c1
        have f1 := hB3.free 1
        have c2 := hB3.c2
        have f2 := hB3.free 2
        have c3 := hB3.c3
        have f3 := hB3.free 3
        have c4 := hB3.c4
        have f4 := hB3.free 4
        have c5 := hB3.c5
        have f5 := hB3.free 5
        have c6 := hB3.c6
        have f6 := hB3.free 6
        have HB3 := Lib.hid hB3
        clear hB3
        go_wp2
        have hfin : Below w.heap.size w (fillW w3 w.heap.size (C.zero 0)) := fillW_below hbel3 (Nat.le_refl _)
        unfold fillW at hfin
        try simp only [C.zero] at hfin
        refine bodyPost_ret (v := .tuple #[.agg (C.zero 0).cells, .string ⟨#[]⟩, .int .i64 7]) (by simp [results, Tryd.results11, go_sem, c0, c1, c2, c3, c4, c5, c6, C.cells, C.zero]) rfl ⟨?_, hfin⟩
        rw [GV.out]

theorem get_any (s : ByteArray) (w : World) (hk : Kinds w) (hs : s.size ≤ maxLen) : Calls Tryd.prog 11 #[.string s] w fun e w' => e = .returned (getV (L s)) ∧ Below w.heap.size w w' := by
  by_cases h0 : 0 < s.size
  · exact get_cons s w hk hs h0
  · obtain rfl := nil_of h0
    exact get_nil w
end Go.Proofs.YtfdclifdemajfaaDoor.Call
