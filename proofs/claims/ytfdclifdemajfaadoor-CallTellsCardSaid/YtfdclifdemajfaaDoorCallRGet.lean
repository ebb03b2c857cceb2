/- Layer 20, the document's answer: Get. -/
import Derived.Test.YtfdclifdemajfaaDoorCallRCut
import Derived.Test.YtfdclifdemajfaaDoorCallRChk
import Derived.Test.YtfdclifdemajfaaDoorCallBack
import Derived.RegionTactic
import Derived.Outline
import Derived.Deep.Cut
namespace Go.Proofs.YtfdclifdemajfaaDoor.Call
set_option linter.unusedVariables false
set_option linter.unusedSimpArgs false
open Go.RowKit Oct Path

def stepY (k : Nat) (y : C) (o : Option (List UInt8)) : C := match k with
  | 0 => { y with p := txV o }
  | 1 => { y with p2 := txV o }
  | 2 => { y with fd := n1V o }
  | 3 => { y with pg := n1V o }
  | 4 => { y with sz := n4V o }
  | 5 => { y with da := txV o }
  | _ => y
def stepO (k : Nat) (o : Option (List UInt8)) : Option (List UInt8) := match k with
  | 0 => txO o
  | 1 => txO o
  | 2 => n1O o
  | 3 => n1O o
  | 4 => n4O o
  | 5 => txO o
  | _ => o
theorem below_drew (w : World) (n : Nat) : Below n w w.drew := ⟨rfl, rfl, rfl, Nat.le_refl _, fun _ _ => rfl⟩
/-- How far both are. -/
def GR (x : C) (h : Int) (l : List UInt8) (k : Nat) (y : C) (o : Option (List UInt8)) : Prop := match o with
  | none => getTo x h l k = none
  | some r => getTo x h l k = some (y, r)
theorem step_none (k : Nat) (hk : k < 6) : stepO k none = none := by
  obtain rfl | rfl | rfl | rfl | rfl | rfl : k = 0 ∨ k = 1 ∨ k = 2 ∨ k = 3 ∨ k = 4 ∨ k = 5 := by omega
  all_goals rfl
theorem step_some (k : Nat) (hk : k < 6) (y : C) (l : List UInt8) : (match stepO k (some l) with | none => y.get k l = none | some r => y.get k l = some (stepY k y (some l), r)) := by
  obtain rfl | rfl | rfl | rfl | rfl | rfl : k = 0 ∨ k = 1 ∨ k = 2 ∨ k = 3 ∨ k = 4 ∨ k = 5 := by omega
  · simp only [stepO, txO, C.get, stepY, txV]; cases takeL l <;> simp
  · simp only [stepO, txO, C.get, stepY, txV]; cases takeL l <;> simp
  · cases l <;> simp [stepO, n1O, C.get, stepY, n1V]
  · cases l <;> simp [stepO, n1O, C.get, stepY, n1V]
  · simp only [stepO, n4O, C.get, stepY, n4V]
    by_cases h : 4 ≤ l.length
    · simp [h, show ¬ (l.length < 4) from by omega]
    · simp [h, show l.length < 4 from by omega]
  · simp only [stepO, txO, C.get, stepY, txV]; cases takeL l <;> simp
theorem GR.yes {x : C} {h : Int} {l : List UInt8} {k : Nat} {y : C} {o : Option (List UInt8)} (hk : k < 6) (g : GR x h l k y o) (hb : hasB h (bitOf k) = true) : GR x h l (k + 1) (stepY k y o) (stepO k o) := by
  cases o with
  | none =>
    rw [step_none k hk]
    exact getTo_stays g 1
  | some r =>
    have hs := step_some k hk y r
    simp only [GR] at g
    cases hq : stepO k (some r) with
    | none => rw [hq] at hs; exact getTo_bad g hb hs
    | some m => rw [hq] at hs; exact getTo_yes g hb hs
theorem GR.no {x : C} {h : Int} {l : List UInt8} {k : Nat} {y : C} {o : Option (List UInt8)} (g : GR x h l k y o) (hb : hasB h (bitOf k) = false) : GR x h l (k + 1) y o := by
  cases o with
  | none => exact getTo_stays g 1
  | some r => exact getTo_no g hb
theorem getTo_small {h : Int} {n : Nat} {l : List UInt8} : ∀ k, ∀ {y r}, getTo (C.zero n) h l k = some (y, r) → y.Small ∧ y.d = n
  | 0, y, r, hg => by
    simp only [getTo, Option.some.injEq, Prod.mk.injEq] at hg
    obtain ⟨rfl, rfl⟩ := hg
    exact ⟨⟨(by decide : (⟨#[]⟩ : ByteArray).size ≤ 255), (by decide : (⟨#[]⟩ : ByteArray).size ≤ 255), (by decide : (⟨#[]⟩ : ByteArray).size ≤ 255)⟩, rfl⟩
  | k + 1, y, r, hg => by
    simp only [getTo] at hg
    cases ht : getTo (C.zero n) h l k with
    | none => rw [ht] at hg; simp at hg
    | some t =>
      obtain ⟨z, m⟩ := t
      rw [ht] at hg
      simp only at hg
      obtain ⟨e1, e2⟩ := getTo_small k ht
      split at hg
      · obtain ⟨g1, g2, g3⟩ := get_small hg e1
        exact ⟨g1, g3.trans e2⟩
      · simp only [Option.some.injEq, Prod.mk.injEq] at hg
        obtain ⟨rfl, rfl⟩ := hg
        exact ⟨e1, e2⟩
/-- What lies in memory as Get goes on. -/
structure GS (w wj : World) (bx bh : Nat) (hv : Array Value) (y : C) (o : Option (List UInt8)) : Prop where
  rb : Box wj w.heap.size (C.zero 0)
  xb : Box wj bx y
  hb : wj.heap[bh]? = some (.cells hv 58 (0, 0))
  co : CutO wj (w.heap.size + 1) o
  l1 : w.heap.size + 1 < bx
  l2 : bx < bh
  bel : Below w.heap.size w wj
theorem GS.only {w wj wk : World} {bx bh : Nat} {hv : Array Value} {y : C} {o o' : Option (List UInt8)} (g : GS w wj bx bh hv y o) (h : Only (w.heap.size + 1) wj wk) (c : CutO wk (w.heap.size + 1) o') : GS w wk bx bh hv y o' :=
  ⟨(h.other _ (by omega)).trans g.rb, (h.other _ (by have := g.l1; omega)).trans g.xb, (h.other _ (by have := g.l1; have := g.l2; omega)).trans g.hb, c, g.l1, g.l2, g.bel.trans (h.below.mono (by omega))⟩
theorem GS.set {w wj : World} {bx bh : Nat} {hv : Array Value} {y z : C} {o : Option (List UInt8)} (g : GS w wj bx bh hv y o) (i : Nat) (v : Value) (e : y.cells.setIfInBounds i v = z.cells) : GS w (wj.setCell ⟨bx, i, none⟩ v) bx bh hv z o :=
  ⟨g.rb.other _ (by have := g.l1; omega), g.xb.set _ _ e, (heap_setCell_other wj ⟨bx, i, none⟩ bh v (by have := g.l2; simp; omega)).trans g.hb, g.co.same (heap_setCell_other wj ⟨bx, i, none⟩ _ v (by have := g.l1; simp; omega)), g.l1, g.l2, g.bel.setCell (by have := g.l1; simp; omega) _⟩
theorem GS.lt {w wj : World} {bx bh : Nat} {hv : Array Value} {y : C} {o : Option (List UInt8)} (g : GS w wj bx bh hv y o) : bh < wj.heap.size := lt_of_block g.hb
theorem GS.h {w wj : World} {bx bh : Nat} {hv : Array Value} {y : C} {o : Option (List UInt8)} (g : GS w wj bx bh hv y o) (i : Nat) : wj.cell? ⟨bh, i, none⟩ = hv[i]? := by
  have := g.hb; simp [World.cell?, this]
theorem GS.later {w wj wk : World} {bx bh : Nat} {hv : Array Value} {y : C} {o : Option (List UInt8)} (g : GS w wj bx bh hv y o) (h : Below wj.heap.size wj wk) : GS w wk bx bh hv y o :=
  ⟨g.rb.below g.rb.lt h, g.xb.below g.xb.lt h, (h.block _ g.lt).trans g.hb, g.co.same (h.block _ g.co.lt), g.l1, g.l2, g.bel.trans (h.mono g.bel.size)⟩

set_option maxRecDepth 100000 in
set_option maxHeartbeats 4000000 in
theorem rget_nil (w : World) : Calls Tryd.prog 13 #[.string ⟨#[]⟩] w fun e w' => e = .returned (getV []) ∧ Below w.heap.size w w' := by
  have GV := Lib.hid (getV_none' (l := []) rfl)
  generalize getV [] = gv at *
  have OF := Lib.hid (fun W => rof_any 0 W (by decide))
  rw [ofV0] at OF
  have N1 : Hid (∀ W, CutO W (w.heap.size + 1) (some []) → Calls Tryd.prog 26 #[.pointer (some ⟨w.heap.size + 1, 0, none⟩), .int .i64 1] W fun e w' => e = .returned (.int .u32 0) ∧ CutO w' (w.heap.size + 1) none ∧ Only (w.heap.size + 1) W w') := Lib.hid (fun W hW => num1_any (w.heap.size + 1) _ W hW)
  go_enter Tryd.func13, Tryd.ntmps13
  go_wp2_with fail
  refine (N1.out _ ⟨⟨#[]⟩, true, ?_, by decide, rfl, rfl⟩).mono ?_
  · have := heap_alloc_new (w.alloc (.cells (C.zero 0).cells 24)) (.cells #[.string ⟨#[]⟩, .bool true] 62)
    rw [World.size_alloc] at this
    exact this
  rintro e w1 ⟨rfl, co1, on1⟩
  have z1 : w1.heap.size = w.heap.size + 1 + 1 := by rw [on1.size]; simp
  have rb1 : Box w1 w.heap.size (C.zero 0) := (on1.other _ (by omega)).trans (Box.alloc (b := w.heap.size) (x := C.zero 0) (w := w.alloc _) (heap_alloc_new w _) _)
  have bel1 : Below w.heap.size w w1 := (((Below.refl _ w).alloc (Nat.le_refl _) _).alloc (by simp) _).trans (on1.below.mono (by omega))
  clear on1 N1
  have Z1 := Lib.hid z1
  clear z1
  go_wp2_with fail
  refine (OF.out _).mono ?_
  rintro e w2 ⟨rfl, b2⟩
  have hlt12 : w1.heap.size < w2.heap.size := by have := b2.size; simp at this; omega
  have g2 : GS w (w2.alloc (.cells #[.bool false, .bool false, .bool false, .bool false, .bool false, .bool false, .bool false, .bool false] 58)) w1.heap.size w2.heap.size #[.bool false, .bool false, .bool false, .bool false, .bool false, .bool false, .bool false, .bool false] (C.zero 0) none :=
    ⟨((rb1.alloc _).below (by simp; have := Z1.out; omega) b2).alloc _, Box.alloc (Box.below (w := w1.alloc (.cells (C.zero 0).cells 24)) (b := w1.heap.size) (x := C.zero 0) (heap_alloc_new w1 _) (by simp) b2) _, heap_alloc_new w2 _,
      (co1.same ((b2.block _ (by simp; have := Z1.out; omega)).trans (heap_alloc_old w1 _ (by have := Z1.out; omega)))).same (heap_alloc_old w2 _ (by have := Z1.out; omega)), by have := Z1.out; omega, hlt12, ((bel1.alloc bel1.size _).trans (b2.mono (by have := bel1.size; simp; omega))).alloc (by have := bel1.size; omega) _⟩
  clear b2 rb1 bel1 co1 Z1 OF
  go_upto_region 4 with (fail)
  have hltb : w2.heap.size < (w2.alloc (.cells #[.bool false, .bool false, .bool false, .bool false, .bool false, .bool false, .bool false, .bool false] 58)).heap.size := by simp
  obtain ⟨W, hW⟩ : ∃ W, w2.alloc (.cells #[.bool false, .bool false, .bool false, .bool false, .bool false, .bool false, .bool false, .bool false] 58) = W := ⟨_, rfl⟩
  obtain ⟨bx, hbx⟩ : ∃ b, w1.heap.size = b := ⟨_, rfl⟩
  obtain ⟨bh, hbh⟩ : ∃ b, w2.heap.size = b := ⟨_, rfl⟩
  rw [hW, hbx, hbh] at g2
  rw [hW, hbx, hbh]
  clear hW hbx hbh hlt12 hltb
  have al1 := g2.l1
  have al2 := g2.l2
  have alt := g2.lt
  have ah0 : W.cell? ⟨bh, 0, none⟩ = some (.bool false) := g2.h 0
  have ah1 : W.cell? ⟨bh, 1, none⟩ = some (.bool false) := g2.h 1
  have ah2 : W.cell? ⟨bh, 2, none⟩ = some (.bool false) := g2.h 2
  have ah3 : W.cell? ⟨bh, 3, none⟩ = some (.bool false) := g2.h 3
  have ah4 : W.cell? ⟨bh, 4, none⟩ = some (.bool false) := g2.h 4
  have ah5 : W.cell? ⟨bh, 5, none⟩ = some (.bool false) := g2.h 5
  have gl1 := g2.l1
  have gl2 := g2.l2
  have glt := g2.lt
  obtain ⟨sc, is, hcut, hsc, hm⟩ := g2.co
  have cc0 := hcut.c0
  have cc1 := hcut.c1
  simp only at hm
  subst hm
  clear hcut
  have hR := g2.rb
  have hbel := g2.bel
  have hltR := hR.lt
  have k0 := hR.c0
  have f0 := hR.free 0
  have k1 := hR.c1
  have f1 := hR.free 1
  have k2 := hR.c2
  have f2 := hR.free 2
  have k3 := hR.c3
  have f3 := hR.free 3
  have k4 := hR.c4
  have f4 := hR.free 4
  have k5 := hR.c5
  have f5 := hR.free 5
  have k6 := hR.c6
  have f6 := hR.free 6
  try simp only [C.zero] at k0 k1 k2 k3 k4 k5 k6
  clear hR
  go_wp2
  have hfin : Below w.heap.size w (fillW W w.heap.size (C.zero 0)) := fillW_below hbel (Nat.le_refl _)
  unfold fillW at hfin
  try simp only [C.zero] at hfin
  refine bodyPost_ret (v := .tuple #[.agg (C.zero 0).cells, .string ⟨#[]⟩, .int .i64 7]) (by simp [results, Tryd.results13, go_sem, k0, k1, k2, k3, k4, k5, k6, C.cells, C.zero]) rfl ⟨?_, hfin⟩
  rw [GV.out]; rfl
set_option maxRecDepth 100000 in
set_option maxHeartbeats 4000000 in
theorem rget_0 (s : ByteArray) (c : UInt8) (r : List UInt8) (w : World) (hs : s.size ≤ 4096) (hl : L s = c :: r) (hof : ofV c.toNat = .agg #[.bool false, .bool false, .bool false, .bool false, .bool false, .bool false, .bool false, .bool false]) : Calls Tryd.prog 13 #[.string s] w fun e w' => e = .returned (getV (L s)) ∧ Below w.heap.size w w' := by
  have h8 := c.toNat_lt
  have OF := Lib.hid (fun W => rof_any c.toNat W c.toNat_lt)
  rw [hof] at OF
  have gr0 : GR (C.zero c.toNat) (hasN c.toNat) r 0 (C.zero c.toNat) (some r) := rfl
  simp only [ofV, Value.agg.injEq, Array.mk.injEq, List.cons.injEq, Value.bool.injEq, and_true] at hof
  obtain ⟨e1, e2, e3, e4, e5, e6, e7, e8⟩ := hof
  have gr1 := gr0.no (show hasB (hasN c.toNat) (bitOf 0) = false from e1)
  have gr2 := gr1.no (show hasB (hasN c.toNat) (bitOf 1) = false from e2)
  have gr3 := gr2.no (show hasB (hasN c.toNat) (bitOf 2) = false from e3)
  have gr4 := gr3.no (show hasB (hasN c.toNat) (bitOf 3) = false from e4)
  have gr5 := gr4.no (show hasB (hasN c.toNat) (bitOf 4) = false from e5)
  have gr6 := gr5.no (show hasB (hasN c.toNat) (bitOf 5) = false from e6)
  have G1 : Hid (∀ y o, GR (C.zero c.toNat) (hasN c.toNat) r 6 y o → o = none → getV (L s) = .tuple #[.agg #[.int .u8 0, .string ⟨#[]⟩, .string ⟨#[]⟩, .int .i64 0, .int .i64 0, .int .u32 0, .string ⟨#[]⟩], .string ⟨#[]⟩, .int .i64 7]) := Lib.hid (fun y o hg ho => by
    subst ho
    simp only [GR] at hg
    rw [hl]
    refine getV_none' ?_
    simp only [getL, hg])
  have G2 : Hid (∀ y o m, GR (C.zero c.toNat) (hasN c.toNat) r 6 y o → o = some m → y.checkE ≠ 0 → getV (L s) = .tuple #[.agg #[.int .u8 0, .string ⟨#[]⟩, .string ⟨#[]⟩, .int .i64 0, .int .i64 0, .int .u32 0, .string ⟨#[]⟩], .string ⟨#[]⟩, .int .i64 7]) := Lib.hid (fun y o m hg ho hc => by
    subst ho
    simp only [GR] at hg
    rw [hl]
    refine getV_none' ?_
    simp only [getL, hg]
    rw [if_neg hc])
  have G3 : Hid (∀ y o m, GR (C.zero c.toNat) (hasN c.toNat) r 6 y o → o = some m → y.checkE = 0 → getV (L s) = .tuple #[.agg #[.int .u8 y.d, .string y.p, .string y.p2, .int .i64 y.fd, .int .i64 y.pg, .int .u32 y.sz, .string y.da], .string (B m), .int .i64 0]) := Lib.hid (fun y o m hg ho hc => by
    subst ho
    simp only [GR] at hg
    rw [hl]
    refine getV_some' ?_
    simp only [getL, hg]
    rw [if_pos hc])
  have GRF := Lib.hid gr6
  clear gr0 gr1 gr2 gr3 gr4 gr5 gr6 e1 e2 e3 e4 e5 e6 e7 e8
  have N1 : Hid (∀ W, CutO W (w.heap.size + 1) (some (L s)) → Calls Tryd.prog 26 #[.pointer (some ⟨w.heap.size + 1, 0, none⟩), .int .i64 1] W fun e w' => e = .returned (.int .u32 c.toNat) ∧ CutO w' (w.heap.size + 1) (some r) ∧ Only (w.heap.size + 1) W w') := Lib.hid (fun W hW => by
    have := num1_any (w.heap.size + 1) _ W hW
    rw [hl] at this
    exact this)
  have HS : Hid (s = B (L s)) := Lib.hid rfl
  generalize getV (L s) = gv at *
  generalize c.toNat = n at *
  generalize (some r : Option (List UInt8)) = o0 at *
  clear hl
  go_enter Tryd.func13, Tryd.ntmps13
  go_wp2_with fail
  refine (N1.out _ ⟨s, true, ?_, by omega, rfl, HS.out⟩).mono ?_
  · have := heap_alloc_new (w.alloc (.cells (C.zero 0).cells 24)) (.cells #[.string s, .bool true] 62)
    rw [World.size_alloc] at this
    exact this
  rintro e w1 ⟨rfl, co1, on1⟩
  have z1 : w1.heap.size = w.heap.size + 1 + 1 := by rw [on1.size]; simp
  have rb1 : Box w1 w.heap.size (C.zero 0) := (on1.other _ (by omega)).trans (Box.alloc (b := w.heap.size) (x := C.zero 0) (w := w.alloc _) (heap_alloc_new w _) _)
  have bel1 : Below w.heap.size w w1 := (((Below.refl _ w).alloc (Nat.le_refl _) _).alloc (by simp) _).trans (on1.below.mono (by omega))
  clear on1 N1
  have Z1 := Lib.hid z1
  clear z1
  go_wp2_with fail
  refine (OF.out _).mono ?_
  rintro e w2 ⟨rfl, b2⟩
  have hlt12 : w1.heap.size < w2.heap.size := by have := b2.size; simp at this; omega
  have g2 : GS w (w2.alloc (.cells #[.bool false, .bool false, .bool false, .bool false, .bool false, .bool false, .bool false, .bool false] 58)) w1.heap.size w2.heap.size #[.bool false, .bool false, .bool false, .bool false, .bool false, .bool false, .bool false, .bool false] (C.zero n) o0 :=
    ⟨((rb1.alloc _).below (by simp; have := Z1.out; omega) b2).alloc _, Box.alloc (Box.below (w := w1.alloc (.cells (C.zero n).cells 24)) (b := w1.heap.size) (x := C.zero n) (heap_alloc_new w1 _) (by simp) b2) _, heap_alloc_new w2 _,
      (co1.same ((b2.block _ (by simp; have := Z1.out; omega)).trans (heap_alloc_old w1 _ (by have := Z1.out; omega)))).same (heap_alloc_old w2 _ (by have := Z1.out; omega)), by have := Z1.out; omega, hlt12, ((bel1.alloc bel1.size _).trans (b2.mono (by have := bel1.size; simp; omega))).alloc (by have := bel1.size; omega) _⟩
  clear b2 rb1 bel1 co1 Z1 OF
  go_upto_region 4 with (fail)
  have hltb : w2.heap.size < (w2.alloc (.cells #[.bool false, .bool false, .bool false, .bool false, .bool false, .bool false, .bool false, .bool false] 58)).heap.size := by simp
  obtain ⟨W, hW⟩ : ∃ W, w2.alloc (.cells #[.bool false, .bool false, .bool false, .bool false, .bool false, .bool false, .bool false, .bool false] 58) = W := ⟨_, rfl⟩
  obtain ⟨bx, hbx⟩ : ∃ b, w1.heap.size = b := ⟨_, rfl⟩
  obtain ⟨bh, hbh⟩ : ∃ b, w2.heap.size = b := ⟨_, rfl⟩
  rw [hW, hbx, hbh] at g2
  rw [hW, hbx, hbh]
  clear hW hbx hbh hlt12 hltb
  have al1 := g2.l1
  have al2 := g2.l2
  have alt := g2.lt
  have ah0 : W.cell? ⟨bh, 0, none⟩ = some (.bool false) := g2.h 0
  have ah1 : W.cell? ⟨bh, 1, none⟩ = some (.bool false) := g2.h 1
  have ah2 : W.cell? ⟨bh, 2, none⟩ = some (.bool false) := g2.h 2
  have ah3 : W.cell? ⟨bh, 3, none⟩ = some (.bool false) := g2.h 3
  have ah4 : W.cell? ⟨bh, 4, none⟩ = some (.bool false) := g2.h 4
  have ah5 : W.cell? ⟨bh, 5, none⟩ = some (.bool false) := g2.h 5
  obtain ⟨yy, hyy⟩ : ∃ yy, (C.zero n) = yy := ⟨_, rfl⟩
  obtain ⟨oo, hoo⟩ : ∃ oo, o0 = oo := ⟨_, rfl⟩
  have GE := Lib.hid hyy
  have GO := Lib.hid hoo
  rw [hyy, hoo] at g2
  clear hyy hoo
  have GRG : Hid (GR (C.zero n) (hasN n) r 6 yy oo) := Lib.hid (by have := GRF.out; rw [← GE.out, ← GO.out]; exact this)
  clear GRF GE GO
  have gl1 := g2.l1
  have gl2 := g2.l2
  have glt := g2.lt
  obtain ⟨sc, is, hcut, hsc, hm⟩ := g2.co
  have cc0 := hcut.c0
  have cc1 := hcut.c1
  have HC := Lib.hid hcut
  clear hcut
  cases oo with
  | none =>
    simp only at hm
    subst hm
    have GV := Lib.hid (G1.out _ _ GRG.out rfl)
    have hR := g2.rb
    have hbel := g2.bel
    have hltR := hR.lt
    have k0 := hR.c0
    have f0 := hR.free 0
    have k1 := hR.c1
    have f1 := hR.free 1
    have k2 := hR.c2
    have f2 := hR.free 2
    have k3 := hR.c3
    have f3 := hR.free 3
    have k4 := hR.c4
    have f4 := hR.free 4
    have k5 := hR.c5
    have f5 := hR.free 5
    have k6 := hR.c6
    have f6 := hR.free 6
    try simp only [C.zero] at k0 k1 k2 k3 k4 k5 k6
    clear hR
    go_wp2
    have hfin : Below w.heap.size w (fillW W w.heap.size (C.zero 0)) := fillW_below hbel (Nat.le_refl _)
    unfold fillW at hfin
    try simp only [C.zero] at hfin
    refine bodyPost_ret (v := .tuple #[.agg (C.zero 0).cells, .string ⟨#[]⟩, .int .i64 7]) (by simp [results, Tryd.results13, go_sem, k0, k1, k2, k3, k4, k5, k6, C.cells, C.zero]) rfl ⟨?_, hfin⟩
    rw [GV.out]; rfl
  | some m =>
    obtain ⟨hm1, hm2⟩ := hm
    subst hm1 hm2
    have hsm := getTo_small 6 (show getTo (C.zero n) (hasN n) r 6 = some (yy, m) from GRG.out)
    have CK := Lib.hid (fun V => rcheck_any yy V (by rw [hsm.2]; exact h8) (by have := hsm.1.p; unfold maxLen; omega) (by have := hsm.1.p2; unfold maxLen; omega) (by have := hsm.1.da; unfold maxLen; omega))
    clear hsm
    have x0 := g2.xb.c0
    have x1 := g2.xb.c1
    have x2 := g2.xb.c2
    have x3 := g2.xb.c3
    have x4 := g2.xb.c4
    have x5 := g2.xb.c5
    have x6 := g2.xb.c6
    by_cases hc : yy.checkE = 0
    · have GV := Lib.hid (G3.out _ _ m GRG.out rfl hc)
      rw [hc] at CK
      clear hc
      go_wp2_with fail
      refine (CK.out _).mono ?_
      rintro e w9 ⟨rfl, b9⟩
      have g9 := g2.later b9
      have cc9 : w9.cell? ⟨w.heap.size + 1, 0, none⟩ = some (.string (B m)) := (b9.cell (p := ⟨w.heap.size + 1, 0, none⟩) (by show w.heap.size + 1 < _; omega)).trans cc0
      clear x0 x1 x2 x3 x4 x5 x6 cc0 cc1 b9 HC
      have x0 := g9.xb.c0
      have x1 := g9.xb.c1
      have x2 := g9.xb.c2
      have x3 := g9.xb.c3
      have x4 := g9.xb.c4
      have x5 := g9.xb.c5
      have x6 := g9.xb.c6
      have hR := g9.rb
      have hbel := g9.bel
      have glt9 := g9.lt
      clear g9 g2 glt al1 al2 alt ah0 ah1 ah2 ah3 ah4 ah5
      have hltR := hR.lt
      have k0 := hR.c0
      have f0 := hR.free 0
      have k1 := hR.c1
      have f1 := hR.free 1
      have k2 := hR.c2
      have f2 := hR.free 2
      have k3 := hR.c3
      have f3 := hR.free 3
      have k4 := hR.c4
      have f4 := hR.free 4
      have k5 := hR.c5
      have f5 := hR.free 5
      have k6 := hR.c6
      have f6 := hR.free 6
      try simp only [C.zero] at k0 k1 k2 k3 k4 k5 k6
      clear hR
      go_wp2_with fail
      go_region
      go_wp2
      have hfin : Below w.heap.size w (fillW w9 w.heap.size ⟨yy.d, yy.p, yy.p2, yy.fd, yy.pg, yy.sz, yy.da⟩).drew := (fillW_below hbel (Nat.le_refl _)).trans (below_drew _ _)
      unfold fillW at hfin
      try simp only [C.zero] at hfin
      refine bodyPost_ret (v := .tuple #[.agg #[.int .u8 yy.d, .string yy.p, .string yy.p2, .int .i64 yy.fd, .int .i64 yy.pg, .int .u32 yy.sz, .string yy.da], .string (B m), .int .i64 0]) (by simp [results, Tryd.results13, go_sem, k0, k1, k2, k3, k4, k5, k6, C.cells, C.zero]) rfl ⟨?_, hfin⟩
      rw [GV.out]
    · have GV := Lib.hid (G2.out _ _ m GRG.out rfl hc)
      have q3 : (yy.checkE == 0) = false := by simpa using hc
      have q4 : (yy.checkE != 0) = true := by simpa using hc
      generalize yy.checkE = ce at *
      clear hc
      go_wp2_with fail
      refine (CK.out _).mono ?_
      rintro e w9 ⟨rfl, b9⟩
      have g9 := g2.later b9
      clear x0 x1 x2 x3 x4 x5 x6 cc0 cc1 b9 HC
      have hR := g9.rb
      have hbel := g9.bel
      have glt9 := g9.lt
      clear g9 g2 glt al1 al2 alt ah0 ah1 ah2 ah3 ah4 ah5
      have hltR := hR.lt
      have k0 := hR.c0
      have f0 := hR.free 0
      have k1 := hR.c1
      have f1 := hR.free 1
      have k2 := hR.c2
      have f2 := hR.free 2
      have k3 := hR.c3
      have f3 := hR.free 3
      have k4 := hR.c4
      have f4 := hR.free 4
      have k5 := hR.c5
      have f5 := hR.free 5
      have k6 := hR.c6
      have f6 := hR.free 6
      try simp only [C.zero] at k0 k1 k2 k3 k4 k5 k6
      clear hR
      go_wp2
      have hfin : Below w.heap.size w (fillW w9 w.heap.size (C.zero 0)) := fillW_below hbel (Nat.le_refl _)
      unfold fillW at hfin
      try simp only [C.zero] at hfin
      refine bodyPost_ret (v := .tuple #[.agg (C.zero 0).cells, .string ⟨#[]⟩, .int .i64 7]) (by simp [results, Tryd.results13, go_sem, k0, k1, k2, k3, k4, k5, k6, C.cells, C.zero]) rfl ⟨?_, hfin⟩
      rw [GV.out]; rfl
set_option maxRecDepth 100000 in
set_option maxHeartbeats 4000000 in
theorem rget_4 (s : ByteArray) (c : UInt8) (r : List UInt8) (w : World) (hs : s.size ≤ 4096) (hl : L s = c :: r) (hof : ofV c.toNat = .agg #[.bool false, .bool false, .bool true, .bool false, .bool false, .bool false, .bool false, .bool false]) : Calls Tryd.prog 13 #[.string s] w fun e w' => e = .returned (getV (L s)) ∧ Below w.heap.size w w' := by
  have h8 := c.toNat_lt
  have OF := Lib.hid (fun W => rof_any c.toNat W c.toNat_lt)
  rw [hof] at OF
  have gr0 : GR (C.zero c.toNat) (hasN c.toNat) r 0 (C.zero c.toNat) (some r) := rfl
  simp only [ofV, Value.agg.injEq, Array.mk.injEq, List.cons.injEq, Value.bool.injEq, and_true] at hof
  obtain ⟨e1, e2, e3, e4, e5, e6, e7, e8⟩ := hof
  have gr1 := gr0.no (show hasB (hasN c.toNat) (bitOf 0) = false from e1)
  have gr2 := gr1.no (show hasB (hasN c.toNat) (bitOf 1) = false from e2)
  have gr3 := gr2.yes (by decide) (show hasB (hasN c.toNat) (bitOf 2) = true from e3)
  have gr4 := gr3.no (show hasB (hasN c.toNat) (bitOf 3) = false from e4)
  have gr5 := gr4.no (show hasB (hasN c.toNat) (bitOf 4) = false from e5)
  have gr6 := gr5.no (show hasB (hasN c.toNat) (bitOf 5) = false from e6)
  have G1 : Hid (∀ y o, GR (C.zero c.toNat) (hasN c.toNat) r 6 y o → o = none → getV (L s) = .tuple #[.agg #[.int .u8 0, .string ⟨#[]⟩, .string ⟨#[]⟩, .int .i64 0, .int .i64 0, .int .u32 0, .string ⟨#[]⟩], .string ⟨#[]⟩, .int .i64 7]) := Lib.hid (fun y o hg ho => by
    subst ho
    simp only [GR] at hg
    rw [hl]
    refine getV_none' ?_
    simp only [getL, hg])
  have G2 : Hid (∀ y o m, GR (C.zero c.toNat) (hasN c.toNat) r 6 y o → o = some m → y.checkE ≠ 0 → getV (L s) = .tuple #[.agg #[.int .u8 0, .string ⟨#[]⟩, .string ⟨#[]⟩, .int .i64 0, .int .i64 0, .int .u32 0, .string ⟨#[]⟩], .string ⟨#[]⟩, .int .i64 7]) := Lib.hid (fun y o m hg ho hc => by
    subst ho
    simp only [GR] at hg
    rw [hl]
    refine getV_none' ?_
    simp only [getL, hg]
    rw [if_neg hc])
  have G3 : Hid (∀ y o m, GR (C.zero c.toNat) (hasN c.toNat) r 6 y o → o = some m → y.checkE = 0 → getV (L s) = .tuple #[.agg #[.int .u8 y.d, .string y.p, .string y.p2, .int .i64 y.fd, .int .i64 y.pg, .int .u32 y.sz, .string y.da], .string (B m), .int .i64 0]) := Lib.hid (fun y o m hg ho hc => by
    subst ho
    simp only [GR] at hg
    rw [hl]
    refine getV_some' ?_
    simp only [getL, hg]
    rw [if_pos hc])
  have GRF := Lib.hid gr6
  clear gr0 gr1 gr2 gr3 gr4 gr5 gr6 e1 e2 e3 e4 e5 e6 e7 e8
  have N1 : Hid (∀ W, CutO W (w.heap.size + 1) (some (L s)) → Calls Tryd.prog 26 #[.pointer (some ⟨w.heap.size + 1, 0, none⟩), .int .i64 1] W fun e w' => e = .returned (.int .u32 c.toNat) ∧ CutO w' (w.heap.size + 1) (some r) ∧ Only (w.heap.size + 1) W w') := Lib.hid (fun W hW => by
    have := num1_any (w.heap.size + 1) _ W hW
    rw [hl] at this
    exact this)
  have HS : Hid (s = B (L s)) := Lib.hid rfl
  generalize getV (L s) = gv at *
  generalize c.toNat = n at *
  generalize (some r : Option (List UInt8)) = o0 at *
  clear hl
  go_enter Tryd.func13, Tryd.ntmps13
  go_wp2_with fail
  refine (N1.out _ ⟨s, true, ?_, by omega, rfl, HS.out⟩).mono ?_
  · have := heap_alloc_new (w.alloc (.cells (C.zero 0).cells 24)) (.cells #[.string s, .bool true] 62)
    rw [World.size_alloc] at this
    exact this
  rintro e w1 ⟨rfl, co1, on1⟩
  have z1 : w1.heap.size = w.heap.size + 1 + 1 := by rw [on1.size]; simp
  have rb1 : Box w1 w.heap.size (C.zero 0) := (on1.other _ (by omega)).trans (Box.alloc (b := w.heap.size) (x := C.zero 0) (w := w.alloc _) (heap_alloc_new w _) _)
  have bel1 : Below w.heap.size w w1 := (((Below.refl _ w).alloc (Nat.le_refl _) _).alloc (by simp) _).trans (on1.below.mono (by omega))
  clear on1 N1
  have Z1 := Lib.hid z1
  clear z1
  go_wp2_with fail
  refine (OF.out _).mono ?_
  rintro e w2 ⟨rfl, b2⟩
  have hlt12 : w1.heap.size < w2.heap.size := by have := b2.size; simp at this; omega
  have g2 : GS w (w2.alloc (.cells #[.bool false, .bool false, .bool true, .bool false, .bool false, .bool false, .bool false, .bool false] 58)) w1.heap.size w2.heap.size #[.bool false, .bool false, .bool true, .bool false, .bool false, .bool false, .bool false, .bool false] (C.zero n) o0 :=
    ⟨((rb1.alloc _).below (by simp; have := Z1.out; omega) b2).alloc _, Box.alloc (Box.below (w := w1.alloc (.cells (C.zero n).cells 24)) (b := w1.heap.size) (x := C.zero n) (heap_alloc_new w1 _) (by simp) b2) _, heap_alloc_new w2 _,
      (co1.same ((b2.block _ (by simp; have := Z1.out; omega)).trans (heap_alloc_old w1 _ (by have := Z1.out; omega)))).same (heap_alloc_old w2 _ (by have := Z1.out; omega)), by have := Z1.out; omega, hlt12, ((bel1.alloc bel1.size _).trans (b2.mono (by have := bel1.size; simp; omega))).alloc (by have := bel1.size; omega) _⟩
  clear b2 rb1 bel1 co1 Z1 OF
  go_upto_region 4 with (fail)
  have hltb : w2.heap.size < (w2.alloc (.cells #[.bool false, .bool false, .bool true, .bool false, .bool false, .bool false, .bool false, .bool false] 58)).heap.size := by simp
  obtain ⟨W, hW⟩ : ∃ W, w2.alloc (.cells #[.bool false, .bool false, .bool true, .bool false, .bool false, .bool false, .bool false, .bool false] 58) = W := ⟨_, rfl⟩
  obtain ⟨bx, hbx⟩ : ∃ b, w1.heap.size = b := ⟨_, rfl⟩
  obtain ⟨bh, hbh⟩ : ∃ b, w2.heap.size = b := ⟨_, rfl⟩
  rw [hW, hbx, hbh] at g2
  rw [hW, hbx, hbh]
  clear hW hbx hbh hlt12 hltb
  have al1 := g2.l1
  have al2 := g2.l2
  have alt := g2.lt
  have ah0 : W.cell? ⟨bh, 0, none⟩ = some (.bool false) := g2.h 0
  have ah1 : W.cell? ⟨bh, 1, none⟩ = some (.bool false) := g2.h 1
  have ah2 : W.cell? ⟨bh, 2, none⟩ = some (.bool true) := g2.h 2
  have ah3 : W.cell? ⟨bh, 3, none⟩ = some (.bool false) := g2.h 3
  have ah4 : W.cell? ⟨bh, 4, none⟩ = some (.bool false) := g2.h 4
  have ah5 : W.cell? ⟨bh, 5, none⟩ = some (.bool false) := g2.h 5
  go_wp2_with fail
  refine (num1_any _ _ _ g2.co).mono ?_
  rintro e v0 ⟨rfl, co0, on0⟩
  have p0 := g2.only on0 co0
  clear on0 co0 g2 al1 al2 alt ah0 ah1 ah2 ah3 ah4 ah5
  have s0c := p0.xb.c3
  have s0f := p0.xb.free 3
  have s0b := n1V_lt o0
  have q0 : GS w (v0.setCell ⟨bx, 3, none⟩ (.int .i64 (n1V o0))) bx bh #[.bool false, .bool false, .bool true, .bool false, .bool false, .bool false, .bool false, .bool false] (stepY 2 (C.zero n) o0) (stepO 2 o0) := p0.set 3 _ rfl
  have b0l1 := q0.l1
  have b0l2 := q0.l2
  have b0lt := q0.lt
  have b0h0 : (v0.setCell ⟨bx, 3, none⟩ (.int .i64 (n1V o0))).cell? ⟨bh, 0, none⟩ = some (.bool false) := q0.h 0
  have b0h1 : (v0.setCell ⟨bx, 3, none⟩ (.int .i64 (n1V o0))).cell? ⟨bh, 1, none⟩ = some (.bool false) := q0.h 1
  have b0h2 : (v0.setCell ⟨bx, 3, none⟩ (.int .i64 (n1V o0))).cell? ⟨bh, 2, none⟩ = some (.bool true) := q0.h 2
  have b0h3 : (v0.setCell ⟨bx, 3, none⟩ (.int .i64 (n1V o0))).cell? ⟨bh, 3, none⟩ = some (.bool false) := q0.h 3
  have b0h4 : (v0.setCell ⟨bx, 3, none⟩ (.int .i64 (n1V o0))).cell? ⟨bh, 4, none⟩ = some (.bool false) := q0.h 4
  have b0h5 : (v0.setCell ⟨bx, 3, none⟩ (.int .i64 (n1V o0))).cell? ⟨bh, 5, none⟩ = some (.bool false) := q0.h 5
  have n01 : ¬ (bx = bh) := by have := b0l2; omega
  have n02 : ¬ (bh = bx) := by have := b0l2; omega
  clear p0
  go_upto_region 10 with (fail)
  clear s0c s0f
  obtain ⟨u0, hu0⟩ : ∃ u, v0.setCell ⟨bx, 3, none⟩ (.int .i64 (n1V o0)) = u := ⟨_, rfl⟩
  rw [hu0] at q0 b0lt b0h0 b0h1 b0h2 b0h3 b0h4 b0h5
  rw [hu0]
  clear hu0
  obtain ⟨yy, hyy⟩ : ∃ yy, (stepY 2 (C.zero n) o0) = yy := ⟨_, rfl⟩
  obtain ⟨oo, hoo⟩ : ∃ oo, (stepO 2 o0) = oo := ⟨_, rfl⟩
  have GE := Lib.hid hyy
  have GO := Lib.hid hoo
  rw [hyy, hoo] at q0
  clear hyy hoo
  have GRG : Hid (GR (C.zero n) (hasN n) r 6 yy oo) := Lib.hid (by have := GRF.out; rw [← GE.out, ← GO.out]; exact this)
  clear GRF GE GO
  have gl1 := q0.l1
  have gl2 := q0.l2
  have glt := q0.lt
  obtain ⟨sc, is, hcut, hsc, hm⟩ := q0.co
  have cc0 := hcut.c0
  have cc1 := hcut.c1
  have HC := Lib.hid hcut
  clear hcut
  cases oo with
  | none =>
    simp only at hm
    subst hm
    have GV := Lib.hid (G1.out _ _ GRG.out rfl)
    have hR := q0.rb
    have hbel := q0.bel
    have hltR := hR.lt
    have k0 := hR.c0
    have f0 := hR.free 0
    have k1 := hR.c1
    have f1 := hR.free 1
    have k2 := hR.c2
    have f2 := hR.free 2
    have k3 := hR.c3
    have f3 := hR.free 3
    have k4 := hR.c4
    have f4 := hR.free 4
    have k5 := hR.c5
    have f5 := hR.free 5
    have k6 := hR.c6
    have f6 := hR.free 6
    try simp only [C.zero] at k0 k1 k2 k3 k4 k5 k6
    clear hR
    go_wp2
    have hfin : Below w.heap.size w (fillW u0 w.heap.size (C.zero 0)) := fillW_below hbel (Nat.le_refl _)
    unfold fillW at hfin
    try simp only [C.zero] at hfin
    refine bodyPost_ret (v := .tuple #[.agg (C.zero 0).cells, .string ⟨#[]⟩, .int .i64 7]) (by simp [results, Tryd.results13, go_sem, k0, k1, k2, k3, k4, k5, k6, C.cells, C.zero]) rfl ⟨?_, hfin⟩
    rw [GV.out]; rfl
  | some m =>
    obtain ⟨hm1, hm2⟩ := hm
    subst hm1 hm2
    have hsm := getTo_small 6 (show getTo (C.zero n) (hasN n) r 6 = some (yy, m) from GRG.out)
    have CK := Lib.hid (fun V => rcheck_any yy V (by rw [hsm.2]; exact h8) (by have := hsm.1.p; unfold maxLen; omega) (by have := hsm.1.p2; unfold maxLen; omega) (by have := hsm.1.da; unfold maxLen; omega))
    clear hsm
    have x0 := q0.xb.c0
    have x1 := q0.xb.c1
    have x2 := q0.xb.c2
    have x3 := q0.xb.c3
    have x4 := q0.xb.c4
    have x5 := q0.xb.c5
    have x6 := q0.xb.c6
    by_cases hc : yy.checkE = 0
    · have GV := Lib.hid (G3.out _ _ m GRG.out rfl hc)
      rw [hc] at CK
      clear hc
      go_wp2_with fail
      refine (CK.out _).mono ?_
      rintro e w9 ⟨rfl, b9⟩
      have g9 := q0.later b9
      have cc9 : w9.cell? ⟨w.heap.size + 1, 0, none⟩ = some (.string (B m)) := (b9.cell (p := ⟨w.heap.size + 1, 0, none⟩) (by show w.heap.size + 1 < _; omega)).trans cc0
      clear x0 x1 x2 x3 x4 x5 x6 cc0 cc1 b9 HC
      have x0 := g9.xb.c0
      have x1 := g9.xb.c1
      have x2 := g9.xb.c2
      have x3 := g9.xb.c3
      have x4 := g9.xb.c4
      have x5 := g9.xb.c5
      have x6 := g9.xb.c6
      have hR := g9.rb
      have hbel := g9.bel
      have glt9 := g9.lt
      clear g9 q0 glt b0l1 b0l2 b0lt b0h0 b0h1 b0h2 b0h3 b0h4 b0h5
      have hltR := hR.lt
      have k0 := hR.c0
      have f0 := hR.free 0
      have k1 := hR.c1
      have f1 := hR.free 1
      have k2 := hR.c2
      have f2 := hR.free 2
      have k3 := hR.c3
      have f3 := hR.free 3
      have k4 := hR.c4
      have f4 := hR.free 4
      have k5 := hR.c5
      have f5 := hR.free 5
      have k6 := hR.c6
      have f6 := hR.free 6
      try simp only [C.zero] at k0 k1 k2 k3 k4 k5 k6
      clear hR
      go_wp2_with fail
      go_region
      go_wp2
      have hfin : Below w.heap.size w (fillW w9 w.heap.size ⟨yy.d, yy.p, yy.p2, yy.fd, yy.pg, yy.sz, yy.da⟩).drew := (fillW_below hbel (Nat.le_refl _)).trans (below_drew _ _)
      unfold fillW at hfin
      try simp only [C.zero] at hfin
      refine bodyPost_ret (v := .tuple #[.agg #[.int .u8 yy.d, .string yy.p, .string yy.p2, .int .i64 yy.fd, .int .i64 yy.pg, .int .u32 yy.sz, .string yy.da], .string (B m), .int .i64 0]) (by simp [results, Tryd.results13, go_sem, k0, k1, k2, k3, k4, k5, k6, C.cells, C.zero]) rfl ⟨?_, hfin⟩
      rw [GV.out]
    · have GV := Lib.hid (G2.out _ _ m GRG.out rfl hc)
      have q3 : (yy.checkE == 0) = false := by simpa using hc
      have q4 : (yy.checkE != 0) = true := by simpa using hc
      generalize yy.checkE = ce at *
      clear hc
      go_wp2_with fail
      refine (CK.out _).mono ?_
      rintro e w9 ⟨rfl, b9⟩
      have g9 := q0.later b9
      clear x0 x1 x2 x3 x4 x5 x6 cc0 cc1 b9 HC
      have hR := g9.rb
      have hbel := g9.bel
      have glt9 := g9.lt
      clear g9 q0 glt b0l1 b0l2 b0lt b0h0 b0h1 b0h2 b0h3 b0h4 b0h5
      have hltR := hR.lt
      have k0 := hR.c0
      have f0 := hR.free 0
      have k1 := hR.c1
      have f1 := hR.free 1
      have k2 := hR.c2
      have f2 := hR.free 2
      have k3 := hR.c3
      have f3 := hR.free 3
      have k4 := hR.c4
      have f4 := hR.free 4
      have k5 := hR.c5
      have f5 := hR.free 5
      have k6 := hR.c6
      have f6 := hR.free 6
      try simp only [C.zero] at k0 k1 k2 k3 k4 k5 k6
      clear hR
      go_wp2
      have hfin : Below w.heap.size w (fillW w9 w.heap.size (C.zero 0)) := fillW_below hbel (Nat.le_refl _)
      unfold fillW at hfin
      try simp only [C.zero] at hfin
      refine bodyPost_ret (v := .tuple #[.agg (C.zero 0).cells, .string ⟨#[]⟩, .int .i64 7]) (by simp [results, Tryd.results13, go_sem, k0, k1, k2, k3, k4, k5, k6, C.cells, C.zero]) rfl ⟨?_, hfin⟩
      rw [GV.out]; rfl
set_option maxRecDepth 100000 in
set_option maxHeartbeats 4000000 in
theorem rget_12 (s : ByteArray) (c : UInt8) (r : List UInt8) (w : World) (hs : s.size ≤ 4096) (hl : L s = c :: r) (hof : ofV c.toNat = .agg #[.bool false, .bool false, .bool true, .bool true, .bool false, .bool false, .bool false, .bool false]) : Calls Tryd.prog 13 #[.string s] w fun e w' => e = .returned (getV (L s)) ∧ Below w.heap.size w w' := by
  have h8 := c.toNat_lt
  have OF := Lib.hid (fun W => rof_any c.toNat W c.toNat_lt)
  rw [hof] at OF
  have gr0 : GR (C.zero c.toNat) (hasN c.toNat) r 0 (C.zero c.toNat) (some r) := rfl
  simp only [ofV, Value.agg.injEq, Array.mk.injEq, List.cons.injEq, Value.bool.injEq, and_true] at hof
  obtain ⟨e1, e2, e3, e4, e5, e6, e7, e8⟩ := hof
  have gr1 := gr0.no (show hasB (hasN c.toNat) (bitOf 0) = false from e1)
  have gr2 := gr1.no (show hasB (hasN c.toNat) (bitOf 1) = false from e2)
  have gr3 := gr2.yes (by decide) (show hasB (hasN c.toNat) (bitOf 2) = true from e3)
  have gr4 := gr3.yes (by decide) (show hasB (hasN c.toNat) (bitOf 3) = true from e4)
  have gr5 := gr4.no (show hasB (hasN c.toNat) (bitOf 4) = false from e5)
  have gr6 := gr5.no (show hasB (hasN c.toNat) (bitOf 5) = false from e6)
  have G1 : Hid (∀ y o, GR (C.zero c.toNat) (hasN c.toNat) r 6 y o → o = none → getV (L s) = .tuple #[.agg #[.int .u8 0, .string ⟨#[]⟩, .string ⟨#[]⟩, .int .i64 0, .int .i64 0, .int .u32 0, .string ⟨#[]⟩], .string ⟨#[]⟩, .int .i64 7]) := Lib.hid (fun y o hg ho => by
    subst ho
    simp only [GR] at hg
    rw [hl]
    refine getV_none' ?_
    simp only [getL, hg])
  have G2 : Hid (∀ y o m, GR (C.zero c.toNat) (hasN c.toNat) r 6 y o → o = some m → y.checkE ≠ 0 → getV (L s) = .tuple #[.agg #[.int .u8 0, .string ⟨#[]⟩, .string ⟨#[]⟩, .int .i64 0, .int .i64 0, .int .u32 0, .string ⟨#[]⟩], .string ⟨#[]⟩, .int .i64 7]) := Lib.hid (fun y o m hg ho hc => by
    subst ho
    simp only [GR] at hg
    rw [hl]
    refine getV_none' ?_
    simp only [getL, hg]
    rw [if_neg hc])
  have G3 : Hid (∀ y o m, GR (C.zero c.toNat) (hasN c.toNat) r 6 y o → o = some m → y.checkE = 0 → getV (L s) = .tuple #[.agg #[.int .u8 y.d, .string y.p, .string y.p2, .int .i64 y.fd, .int .i64 y.pg, .int .u32 y.sz, .string y.da], .string (B m), .int .i64 0]) := Lib.hid (fun y o m hg ho hc => by
    subst ho
    simp only [GR] at hg
    rw [hl]
    refine getV_some' ?_
    simp only [getL, hg]
    rw [if_pos hc])
  have GRF := Lib.hid gr6
  clear gr0 gr1 gr2 gr3 gr4 gr5 gr6 e1 e2 e3 e4 e5 e6 e7 e8
  have N1 : Hid (∀ W, CutO W (w.heap.size + 1) (some (L s)) → Calls Tryd.prog 26 #[.pointer (some ⟨w.heap.size + 1, 0, none⟩), .int .i64 1] W fun e w' => e = .returned (.int .u32 c.toNat) ∧ CutO w' (w.heap.size + 1) (some r) ∧ Only (w.heap.size + 1) W w') := Lib.hid (fun W hW => by
    have := num1_any (w.heap.size + 1) _ W hW
    rw [hl] at this
    exact this)
  have HS : Hid (s = B (L s)) := Lib.hid rfl
  generalize getV (L s) = gv at *
  generalize c.toNat = n at *
  generalize (some r : Option (List UInt8)) = o0 at *
  clear hl
  go_enter Tryd.func13, Tryd.ntmps13
  go_wp2_with fail
  refine (N1.out _ ⟨s, true, ?_, by omega, rfl, HS.out⟩).mono ?_
  · have := heap_alloc_new (w.alloc (.cells (C.zero 0).cells 24)) (.cells #[.string s, .bool true] 62)
    rw [World.size_alloc] at this
    exact this
  rintro e w1 ⟨rfl, co1, on1⟩
  have z1 : w1.heap.size = w.heap.size + 1 + 1 := by rw [on1.size]; simp
  have rb1 : Box w1 w.heap.size (C.zero 0) := (on1.other _ (by omega)).trans (Box.alloc (b := w.heap.size) (x := C.zero 0) (w := w.alloc _) (heap_alloc_new w _) _)
  have bel1 : Below w.heap.size w w1 := (((Below.refl _ w).alloc (Nat.le_refl _) _).alloc (by simp) _).trans (on1.below.mono (by omega))
  clear on1 N1
  have Z1 := Lib.hid z1
  clear z1
  go_wp2_with fail
  refine (OF.out _).mono ?_
  rintro e w2 ⟨rfl, b2⟩
  have hlt12 : w1.heap.size < w2.heap.size := by have := b2.size; simp at this; omega
  have g2 : GS w (w2.alloc (.cells #[.bool false, .bool false, .bool true, .bool true, .bool false, .bool false, .bool false, .bool false] 58)) w1.heap.size w2.heap.size #[.bool false, .bool false, .bool true, .bool true, .bool false, .bool false, .bool false, .bool false] (C.zero n) o0 :=
    ⟨((rb1.alloc _).below (by simp; have := Z1.out; omega) b2).alloc _, Box.alloc (Box.below (w := w1.alloc (.cells (C.zero n).cells 24)) (b := w1.heap.size) (x := C.zero n) (heap_alloc_new w1 _) (by simp) b2) _, heap_alloc_new w2 _,
      (co1.same ((b2.block _ (by simp; have := Z1.out; omega)).trans (heap_alloc_old w1 _ (by have := Z1.out; omega)))).same (heap_alloc_old w2 _ (by have := Z1.out; omega)), by have := Z1.out; omega, hlt12, ((bel1.alloc bel1.size _).trans (b2.mono (by have := bel1.size; simp; omega))).alloc (by have := bel1.size; omega) _⟩
  clear b2 rb1 bel1 co1 Z1 OF
  go_upto_region 4 with (fail)
  have hltb : w2.heap.size < (w2.alloc (.cells #[.bool false, .bool false, .bool true, .bool true, .bool false, .bool false, .bool false, .bool false] 58)).heap.size := by simp
  obtain ⟨W, hW⟩ : ∃ W, w2.alloc (.cells #[.bool false, .bool false, .bool true, .bool true, .bool false, .bool false, .bool false, .bool false] 58) = W := ⟨_, rfl⟩
  obtain ⟨bx, hbx⟩ : ∃ b, w1.heap.size = b := ⟨_, rfl⟩
  obtain ⟨bh, hbh⟩ : ∃ b, w2.heap.size = b := ⟨_, rfl⟩
  rw [hW, hbx, hbh] at g2
  rw [hW, hbx, hbh]
  clear hW hbx hbh hlt12 hltb
  have al1 := g2.l1
  have al2 := g2.l2
  have alt := g2.lt
  have ah0 : W.cell? ⟨bh, 0, none⟩ = some (.bool false) := g2.h 0
  have ah1 : W.cell? ⟨bh, 1, none⟩ = some (.bool false) := g2.h 1
  have ah2 : W.cell? ⟨bh, 2, none⟩ = some (.bool true) := g2.h 2
  have ah3 : W.cell? ⟨bh, 3, none⟩ = some (.bool true) := g2.h 3
  have ah4 : W.cell? ⟨bh, 4, none⟩ = some (.bool false) := g2.h 4
  have ah5 : W.cell? ⟨bh, 5, none⟩ = some (.bool false) := g2.h 5
  go_wp2_with fail
  refine (num1_any _ _ _ g2.co).mono ?_
  rintro e v0 ⟨rfl, co0, on0⟩
  have p0 := g2.only on0 co0
  clear on0 co0 g2 al1 al2 alt ah0 ah1 ah2 ah3 ah4 ah5
  have s0c := p0.xb.c3
  have s0f := p0.xb.free 3
  have s0b := n1V_lt o0
  have q0 : GS w (v0.setCell ⟨bx, 3, none⟩ (.int .i64 (n1V o0))) bx bh #[.bool false, .bool false, .bool true, .bool true, .bool false, .bool false, .bool false, .bool false] (stepY 2 (C.zero n) o0) (stepO 2 o0) := p0.set 3 _ rfl
  have b0l1 := q0.l1
  have b0l2 := q0.l2
  have b0lt := q0.lt
  have b0h0 : (v0.setCell ⟨bx, 3, none⟩ (.int .i64 (n1V o0))).cell? ⟨bh, 0, none⟩ = some (.bool false) := q0.h 0
  have b0h1 : (v0.setCell ⟨bx, 3, none⟩ (.int .i64 (n1V o0))).cell? ⟨bh, 1, none⟩ = some (.bool false) := q0.h 1
  have b0h2 : (v0.setCell ⟨bx, 3, none⟩ (.int .i64 (n1V o0))).cell? ⟨bh, 2, none⟩ = some (.bool true) := q0.h 2
  have b0h3 : (v0.setCell ⟨bx, 3, none⟩ (.int .i64 (n1V o0))).cell? ⟨bh, 3, none⟩ = some (.bool true) := q0.h 3
  have b0h4 : (v0.setCell ⟨bx, 3, none⟩ (.int .i64 (n1V o0))).cell? ⟨bh, 4, none⟩ = some (.bool false) := q0.h 4
  have b0h5 : (v0.setCell ⟨bx, 3, none⟩ (.int .i64 (n1V o0))).cell? ⟨bh, 5, none⟩ = some (.bool false) := q0.h 5
  have n01 : ¬ (bx = bh) := by have := b0l2; omega
  have n02 : ¬ (bh = bx) := by have := b0l2; omega
  clear p0
  go_upto_region 10 with (fail)
  clear s0c s0f
  obtain ⟨u0, hu0⟩ : ∃ u, v0.setCell ⟨bx, 3, none⟩ (.int .i64 (n1V o0)) = u := ⟨_, rfl⟩
  rw [hu0] at q0 b0lt b0h0 b0h1 b0h2 b0h3 b0h4 b0h5
  rw [hu0]
  clear hu0
  go_wp2_with fail
  refine (num1_any _ _ _ q0.co).mono ?_
  rintro e v1 ⟨rfl, co1, on1⟩
  have p1 := q0.only on1 co1
  clear on1 co1 q0 b0l1 b0l2 b0lt b0h0 b0h1 b0h2 b0h3 b0h4 b0h5
  have s1c := p1.xb.c4
  have s1f := p1.xb.free 4
  have s1b := n1V_lt (stepO 2 o0)
  have q1 : GS w (v1.setCell ⟨bx, 4, none⟩ (.int .i64 (n1V (stepO 2 o0)))) bx bh #[.bool false, .bool false, .bool true, .bool true, .bool false, .bool false, .bool false, .bool false] (stepY 3 (stepY 2 (C.zero n) o0) (stepO 2 o0)) (stepO 3 (stepO 2 o0)) := p1.set 4 _ rfl
  have b1l1 := q1.l1
  have b1l2 := q1.l2
  have b1lt := q1.lt
  have b1h0 : (v1.setCell ⟨bx, 4, none⟩ (.int .i64 (n1V (stepO 2 o0)))).cell? ⟨bh, 0, none⟩ = some (.bool false) := q1.h 0
  have b1h1 : (v1.setCell ⟨bx, 4, none⟩ (.int .i64 (n1V (stepO 2 o0)))).cell? ⟨bh, 1, none⟩ = some (.bool false) := q1.h 1
  have b1h2 : (v1.setCell ⟨bx, 4, none⟩ (.int .i64 (n1V (stepO 2 o0)))).cell? ⟨bh, 2, none⟩ = some (.bool true) := q1.h 2
  have b1h3 : (v1.setCell ⟨bx, 4, none⟩ (.int .i64 (n1V (stepO 2 o0)))).cell? ⟨bh, 3, none⟩ = some (.bool true) := q1.h 3
  have b1h4 : (v1.setCell ⟨bx, 4, none⟩ (.int .i64 (n1V (stepO 2 o0)))).cell? ⟨bh, 4, none⟩ = some (.bool false) := q1.h 4
  have b1h5 : (v1.setCell ⟨bx, 4, none⟩ (.int .i64 (n1V (stepO 2 o0)))).cell? ⟨bh, 5, none⟩ = some (.bool false) := q1.h 5
  have n11 : ¬ (bx = bh) := by have := b1l2; omega
  have n12 : ¬ (bh = bx) := by have := b1l2; omega
  clear p1
  go_upto_region 12 with (fail)
  clear s1c s1f
  obtain ⟨u1, hu1⟩ : ∃ u, v1.setCell ⟨bx, 4, none⟩ (.int .i64 (n1V (stepO 2 o0))) = u := ⟨_, rfl⟩
  rw [hu1] at q1 b1lt b1h0 b1h1 b1h2 b1h3 b1h4 b1h5
  rw [hu1]
  clear hu1
  obtain ⟨yy, hyy⟩ : ∃ yy, (stepY 3 (stepY 2 (C.zero n) o0) (stepO 2 o0)) = yy := ⟨_, rfl⟩
  obtain ⟨oo, hoo⟩ : ∃ oo, (stepO 3 (stepO 2 o0)) = oo := ⟨_, rfl⟩
  have GE := Lib.hid hyy
  have GO := Lib.hid hoo
  rw [hyy, hoo] at q1
  clear hyy hoo
  have GRG : Hid (GR (C.zero n) (hasN n) r 6 yy oo) := Lib.hid (by have := GRF.out; rw [← GE.out, ← GO.out]; exact this)
  clear GRF GE GO
  have gl1 := q1.l1
  have gl2 := q1.l2
  have glt := q1.lt
  obtain ⟨sc, is, hcut, hsc, hm⟩ := q1.co
  have cc0 := hcut.c0
  have cc1 := hcut.c1
  have HC := Lib.hid hcut
  clear hcut
  cases oo with
  | none =>
    simp only at hm
    subst hm
    have GV := Lib.hid (G1.out _ _ GRG.out rfl)
    have hR := q1.rb
    have hbel := q1.bel
    have hltR := hR.lt
    have k0 := hR.c0
    have f0 := hR.free 0
    have k1 := hR.c1
    have f1 := hR.free 1
    have k2 := hR.c2
    have f2 := hR.free 2
    have k3 := hR.c3
    have f3 := hR.free 3
    have k4 := hR.c4
    have f4 := hR.free 4
    have k5 := hR.c5
    have f5 := hR.free 5
    have k6 := hR.c6
    have f6 := hR.free 6
    try simp only [C.zero] at k0 k1 k2 k3 k4 k5 k6
    clear hR
    go_wp2
    have hfin : Below w.heap.size w (fillW u1 w.heap.size (C.zero 0)) := fillW_below hbel (Nat.le_refl _)
    unfold fillW at hfin
    try simp only [C.zero] at hfin
    refine bodyPost_ret (v := .tuple #[.agg (C.zero 0).cells, .string ⟨#[]⟩, .int .i64 7]) (by simp [results, Tryd.results13, go_sem, k0, k1, k2, k3, k4, k5, k6, C.cells, C.zero]) rfl ⟨?_, hfin⟩
    rw [GV.out]; rfl
  | some m =>
    obtain ⟨hm1, hm2⟩ := hm
    subst hm1 hm2
    have hsm := getTo_small 6 (show getTo (C.zero n) (hasN n) r 6 = some (yy, m) from GRG.out)
    have CK := Lib.hid (fun V => rcheck_any yy V (by rw [hsm.2]; exact h8) (by have := hsm.1.p; unfold maxLen; omega) (by have := hsm.1.p2; unfold maxLen; omega) (by have := hsm.1.da; unfold maxLen; omega))
    clear hsm
    have x0 := q1.xb.c0
    have x1 := q1.xb.c1
    have x2 := q1.xb.c2
    have x3 := q1.xb.c3
    have x4 := q1.xb.c4
    have x5 := q1.xb.c5
    have x6 := q1.xb.c6
    by_cases hc : yy.checkE = 0
    · have GV := Lib.hid (G3.out _ _ m GRG.out rfl hc)
      rw [hc] at CK
      clear hc
      go_wp2_with fail
      refine (CK.out _).mono ?_
      rintro e w9 ⟨rfl, b9⟩
      have g9 := q1.later b9
      have cc9 : w9.cell? ⟨w.heap.size + 1, 0, none⟩ = some (.string (B m)) := (b9.cell (p := ⟨w.heap.size + 1, 0, none⟩) (by show w.heap.size + 1 < _; omega)).trans cc0
      clear x0 x1 x2 x3 x4 x5 x6 cc0 cc1 b9 HC
      have x0 := g9.xb.c0
      have x1 := g9.xb.c1
      have x2 := g9.xb.c2
      have x3 := g9.xb.c3
      have x4 := g9.xb.c4
      have x5 := g9.xb.c5
      have x6 := g9.xb.c6
      have hR := g9.rb
      have hbel := g9.bel
      have glt9 := g9.lt
      clear g9 q1 glt b1l1 b1l2 b1lt b1h0 b1h1 b1h2 b1h3 b1h4 b1h5
      have hltR := hR.lt
      have k0 := hR.c0
      have f0 := hR.free 0
      have k1 := hR.c1
      have f1 := hR.free 1
      have k2 := hR.c2
      have f2 := hR.free 2
      have k3 := hR.c3
      have f3 := hR.free 3
      have k4 := hR.c4
      have f4 := hR.free 4
      have k5 := hR.c5
      have f5 := hR.free 5
      have k6 := hR.c6
      have f6 := hR.free 6
      try simp only [C.zero] at k0 k1 k2 k3 k4 k5 k6
      clear hR
      go_wp2_with fail
      go_region
      go_wp2
      have hfin : Below w.heap.size w (fillW w9 w.heap.size ⟨yy.d, yy.p, yy.p2, yy.fd, yy.pg, yy.sz, yy.da⟩).drew := (fillW_below hbel (Nat.le_refl _)).trans (below_drew _ _)
      unfold fillW at hfin
      try simp only [C.zero] at hfin
      refine bodyPost_ret (v := .tuple #[.agg #[.int .u8 yy.d, .string yy.p, .string yy.p2, .int .i64 yy.fd, .int .i64 yy.pg, .int .u32 yy.sz, .string yy.da], .string (B m), .int .i64 0]) (by simp [results, Tryd.results13, go_sem, k0, k1, k2, k3, k4, k5, k6, C.cells, C.zero]) rfl ⟨?_, hfin⟩
      rw [GV.out]
    · have GV := Lib.hid (G2.out _ _ m GRG.out rfl hc)
      have q3 : (yy.checkE == 0) = false := by simpa using hc
      have q4 : (yy.checkE != 0) = true := by simpa using hc
      generalize yy.checkE = ce at *
      clear hc
      go_wp2_with fail
      refine (CK.out _).mono ?_
      rintro e w9 ⟨rfl, b9⟩
      have g9 := q1.later b9
      clear x0 x1 x2 x3 x4 x5 x6 cc0 cc1 b9 HC
      have hR := g9.rb
      have hbel := g9.bel
      have glt9 := g9.lt
      clear g9 q1 glt b1l1 b1l2 b1lt b1h0 b1h1 b1h2 b1h3 b1h4 b1h5
      have hltR := hR.lt
      have k0 := hR.c0
      have f0 := hR.free 0
      have k1 := hR.c1
      have f1 := hR.free 1
      have k2 := hR.c2
      have f2 := hR.free 2
      have k3 := hR.c3
      have f3 := hR.free 3
      have k4 := hR.c4
      have f4 := hR.free 4
      have k5 := hR.c5
      have f5 := hR.free 5
      have k6 := hR.c6
      have f6 := hR.free 6
      try simp only [C.zero] at k0 k1 k2 k3 k4 k5 k6
      clear hR
      go_wp2
      have hfin : Below w.heap.size w (fillW w9 w.heap.size (C.zero 0)) := fillW_below hbel (Nat.le_refl _)
      unfold fillW at hfin
      try simp only [C.zero] at hfin
      refine bodyPost_ret (v := .tuple #[.agg (C.zero 0).cells, .string ⟨#[]⟩, .int .i64 7]) (by simp [results, Tryd.results13, go_sem, k0, k1, k2, k3, k4, k5, k6, C.cells, C.zero]) rfl ⟨?_, hfin⟩
      rw [GV.out]; rfl
set_option maxRecDepth 100000 in
set_option maxHeartbeats 4000000 in
theorem rget_20 (s : ByteArray) (c : UInt8) (r : List UInt8) (w : World) (hs : s.size ≤ 4096) (hl : L s = c :: r) (hof : ofV c.toNat = .agg #[.bool false, .bool false, .bool true, .bool false, .bool true, .bool false, .bool false, .bool false]) : Calls Tryd.prog 13 #[.string s] w fun e w' => e = .returned (getV (L s)) ∧ Below w.heap.size w w' := by
  have h8 := c.toNat_lt
  have OF := Lib.hid (fun W => rof_any c.toNat W c.toNat_lt)
  rw [hof] at OF
  have gr0 : GR (C.zero c.toNat) (hasN c.toNat) r 0 (C.zero c.toNat) (some r) := rfl
  simp only [ofV, Value.agg.injEq, Array.mk.injEq, List.cons.injEq, Value.bool.injEq, and_true] at hof
  obtain ⟨e1, e2, e3, e4, e5, e6, e7, e8⟩ := hof
  have gr1 := gr0.no (show hasB (hasN c.toNat) (bitOf 0) = false from e1)
  have gr2 := gr1.no (show hasB (hasN c.toNat) (bitOf 1) = false from e2)
  have gr3 := gr2.yes (by decide) (show hasB (hasN c.toNat) (bitOf 2) = true from e3)
  have gr4 := gr3.no (show hasB (hasN c.toNat) (bitOf 3) = false from e4)
  have gr5 := gr4.yes (by decide) (show hasB (hasN c.toNat) (bitOf 4) = true from e5)
  have gr6 := gr5.no (show hasB (hasN c.toNat) (bitOf 5) = false from e6)
  have G1 : Hid (∀ y o, GR (C.zero c.toNat) (hasN c.toNat) r 6 y o → o = none → getV (L s) = .tuple #[.agg #[.int .u8 0, .string ⟨#[]⟩, .string ⟨#[]⟩, .int .i64 0, .int .i64 0, .int .u32 0, .string ⟨#[]⟩], .string ⟨#[]⟩, .int .i64 7]) := Lib.hid (fun y o hg ho => by
    subst ho
    simp only [GR] at hg
    rw [hl]
    refine getV_none' ?_
    simp only [getL, hg])
  have G2 : Hid (∀ y o m, GR (C.zero c.toNat) (hasN c.toNat) r 6 y o → o = some m → y.checkE ≠ 0 → getV (L s) = .tuple #[.agg #[.int .u8 0, .string ⟨#[]⟩, .string ⟨#[]⟩, .int .i64 0, .int .i64 0, .int .u32 0, .string ⟨#[]⟩], .string ⟨#[]⟩, .int .i64 7]) := Lib.hid (fun y o m hg ho hc => by
    subst ho
    simp only [GR] at hg
    rw [hl]
    refine getV_none' ?_
    simp only [getL, hg]
    rw [if_neg hc])
  have G3 : Hid (∀ y o m, GR (C.zero c.toNat) (hasN c.toNat) r 6 y o → o = some m → y.checkE = 0 → getV (L s) = .tuple #[.agg #[.int .u8 y.d, .string y.p, .string y.p2, .int .i64 y.fd, .int .i64 y.pg, .int .u32 y.sz, .string y.da], .string (B m), .int .i64 0]) := Lib.hid (fun y o m hg ho hc => by
    subst ho
    simp only [GR] at hg
    rw [hl]
    refine getV_some' ?_
    simp only [getL, hg]
    rw [if_pos hc])
  have GRF := Lib.hid gr6
  clear gr0 gr1 gr2 gr3 gr4 gr5 gr6 e1 e2 e3 e4 e5 e6 e7 e8
  have N1 : Hid (∀ W, CutO W (w.heap.size + 1) (some (L s)) → Calls Tryd.prog 26 #[.pointer (some ⟨w.heap.size + 1, 0, none⟩), .int .i64 1] W fun e w' => e = .returned (.int .u32 c.toNat) ∧ CutO w' (w.heap.size + 1) (some r) ∧ Only (w.heap.size + 1) W w') := Lib.hid (fun W hW => by
    have := num1_any (w.heap.size + 1) _ W hW
    rw [hl] at this
    exact this)
  have HS : Hid (s = B (L s)) := Lib.hid rfl
  generalize getV (L s) = gv at *
  generalize c.toNat = n at *
  generalize (some r : Option (List UInt8)) = o0 at *
  clear hl
  go_enter Tryd.func13, Tryd.ntmps13
  go_wp2_with fail
  refine (N1.out _ ⟨s, true, ?_, by omega, rfl, HS.out⟩).mono ?_
  · have := heap_alloc_new (w.alloc (.cells (C.zero 0).cells 24)) (.cells #[.string s, .bool true] 62)
    rw [World.size_alloc] at this
    exact this
  rintro e w1 ⟨rfl, co1, on1⟩
  have z1 : w1.heap.size = w.heap.size + 1 + 1 := by rw [on1.size]; simp
  have rb1 : Box w1 w.heap.size (C.zero 0) := (on1.other _ (by omega)).trans (Box.alloc (b := w.heap.size) (x := C.zero 0) (w := w.alloc _) (heap_alloc_new w _) _)
  have bel1 : Below w.heap.size w w1 := (((Below.refl _ w).alloc (Nat.le_refl _) _).alloc (by simp) _).trans (on1.below.mono (by omega))
  clear on1 N1
  have Z1 := Lib.hid z1
  clear z1
  go_wp2_with fail
  refine (OF.out _).mono ?_
  rintro e w2 ⟨rfl, b2⟩
  have hlt12 : w1.heap.size < w2.heap.size := by have := b2.size; simp at this; omega
  have g2 : GS w (w2.alloc (.cells #[.bool false, .bool false, .bool true, .bool false, .bool true, .bool false, .bool false, .bool false] 58)) w1.heap.size w2.heap.size #[.bool false, .bool false, .bool true, .bool false, .bool true, .bool false, .bool false, .bool false] (C.zero n) o0 :=
    ⟨((rb1.alloc _).below (by simp; have := Z1.out; omega) b2).alloc _, Box.alloc (Box.below (w := w1.alloc (.cells (C.zero n).cells 24)) (b := w1.heap.size) (x := C.zero n) (heap_alloc_new w1 _) (by simp) b2) _, heap_alloc_new w2 _,
      (co1.same ((b2.block _ (by simp; have := Z1.out; omega)).trans (heap_alloc_old w1 _ (by have := Z1.out; omega)))).same (heap_alloc_old w2 _ (by have := Z1.out; omega)), by have := Z1.out; omega, hlt12, ((bel1.alloc bel1.size _).trans (b2.mono (by have := bel1.size; simp; omega))).alloc (by have := bel1.size; omega) _⟩
  clear b2 rb1 bel1 co1 Z1 OF
  go_upto_region 4 with (fail)
  have hltb : w2.heap.size < (w2.alloc (.cells #[.bool false, .bool false, .bool true, .bool false, .bool true, .bool false, .bool false, .bool false] 58)).heap.size := by simp
  obtain ⟨W, hW⟩ : ∃ W, w2.alloc (.cells #[.bool false, .bool false, .bool true, .bool false, .bool true, .bool false, .bool false, .bool false] 58) = W := ⟨_, rfl⟩
  obtain ⟨bx, hbx⟩ : ∃ b, w1.heap.size = b := ⟨_, rfl⟩
  obtain ⟨bh, hbh⟩ : ∃ b, w2.heap.size = b := ⟨_, rfl⟩
  rw [hW, hbx, hbh] at g2
  rw [hW, hbx, hbh]
  clear hW hbx hbh hlt12 hltb
  have al1 := g2.l1
  have al2 := g2.l2
  have alt := g2.lt
  have ah0 : W.cell? ⟨bh, 0, none⟩ = some (.bool false) := g2.h 0
  have ah1 : W.cell? ⟨bh, 1, none⟩ = some (.bool false) := g2.h 1
  have ah2 : W.cell? ⟨bh, 2, none⟩ = some (.bool true) := g2.h 2
  have ah3 : W.cell? ⟨bh, 3, none⟩ = some (.bool false) := g2.h 3
  have ah4 : W.cell? ⟨bh, 4, none⟩ = some (.bool true) := g2.h 4
  have ah5 : W.cell? ⟨bh, 5, none⟩ = some (.bool false) := g2.h 5
  go_wp2_with fail
  refine (num1_any _ _ _ g2.co).mono ?_
  rintro e v0 ⟨rfl, co0, on0⟩
  have p0 := g2.only on0 co0
  clear on0 co0 g2 al1 al2 alt ah0 ah1 ah2 ah3 ah4 ah5
  have s0c := p0.xb.c3
  have s0f := p0.xb.free 3
  have s0b := n1V_lt o0
  have q0 : GS w (v0.setCell ⟨bx, 3, none⟩ (.int .i64 (n1V o0))) bx bh #[.bool false, .bool false, .bool true, .bool false, .bool true, .bool false, .bool false, .bool false] (stepY 2 (C.zero n) o0) (stepO 2 o0) := p0.set 3 _ rfl
  have b0l1 := q0.l1
  have b0l2 := q0.l2
  have b0lt := q0.lt
  have b0h0 : (v0.setCell ⟨bx, 3, none⟩ (.int .i64 (n1V o0))).cell? ⟨bh, 0, none⟩ = some (.bool false) := q0.h 0
  have b0h1 : (v0.setCell ⟨bx, 3, none⟩ (.int .i64 (n1V o0))).cell? ⟨bh, 1, none⟩ = some (.bool false) := q0.h 1
  have b0h2 : (v0.setCell ⟨bx, 3, none⟩ (.int .i64 (n1V o0))).cell? ⟨bh, 2, none⟩ = some (.bool true) := q0.h 2
  have b0h3 : (v0.setCell ⟨bx, 3, none⟩ (.int .i64 (n1V o0))).cell? ⟨bh, 3, none⟩ = some (.bool false) := q0.h 3
  have b0h4 : (v0.setCell ⟨bx, 3, none⟩ (.int .i64 (n1V o0))).cell? ⟨bh, 4, none⟩ = some (.bool true) := q0.h 4
  have b0h5 : (v0.setCell ⟨bx, 3, none⟩ (.int .i64 (n1V o0))).cell? ⟨bh, 5, none⟩ = some (.bool false) := q0.h 5
  have n01 : ¬ (bx = bh) := by have := b0l2; omega
  have n02 : ¬ (bh = bx) := by have := b0l2; omega
  clear p0
  go_upto_region 10 with (fail)
  clear s0c s0f
  obtain ⟨u0, hu0⟩ : ∃ u, v0.setCell ⟨bx, 3, none⟩ (.int .i64 (n1V o0)) = u := ⟨_, rfl⟩
  rw [hu0] at q0 b0lt b0h0 b0h1 b0h2 b0h3 b0h4 b0h5
  rw [hu0]
  clear hu0
  go_wp2_with fail
  refine (num4_any _ _ _ q0.co).mono ?_
  rintro e v1 ⟨rfl, co1, on1⟩
  have p1 := q0.only on1 co1
  clear on1 co1 q0 b0l1 b0l2 b0lt b0h0 b0h1 b0h2 b0h3 b0h4 b0h5
  have s1c := p1.xb.c5
  have s1f := p1.xb.free 5
  have s1b := n4V_lt (stepO 2 o0)
  have q1 : GS w (v1.setCell ⟨bx, 5, none⟩ (.int .u32 (n4V (stepO 2 o0)))) bx bh #[.bool false, .bool false, .bool true, .bool false, .bool true, .bool false, .bool false, .bool false] (stepY 4 (stepY 2 (C.zero n) o0) (stepO 2 o0)) (stepO 4 (stepO 2 o0)) := p1.set 5 _ rfl
  have b1l1 := q1.l1
  have b1l2 := q1.l2
  have b1lt := q1.lt
  have b1h0 : (v1.setCell ⟨bx, 5, none⟩ (.int .u32 (n4V (stepO 2 o0)))).cell? ⟨bh, 0, none⟩ = some (.bool false) := q1.h 0
  have b1h1 : (v1.setCell ⟨bx, 5, none⟩ (.int .u32 (n4V (stepO 2 o0)))).cell? ⟨bh, 1, none⟩ = some (.bool false) := q1.h 1
  have b1h2 : (v1.setCell ⟨bx, 5, none⟩ (.int .u32 (n4V (stepO 2 o0)))).cell? ⟨bh, 2, none⟩ = some (.bool true) := q1.h 2
  have b1h3 : (v1.setCell ⟨bx, 5, none⟩ (.int .u32 (n4V (stepO 2 o0)))).cell? ⟨bh, 3, none⟩ = some (.bool false) := q1.h 3
  have b1h4 : (v1.setCell ⟨bx, 5, none⟩ (.int .u32 (n4V (stepO 2 o0)))).cell? ⟨bh, 4, none⟩ = some (.bool true) := q1.h 4
  have b1h5 : (v1.setCell ⟨bx, 5, none⟩ (.int .u32 (n4V (stepO 2 o0)))).cell? ⟨bh, 5, none⟩ = some (.bool false) := q1.h 5
  have n11 : ¬ (bx = bh) := by have := b1l2; omega
  have n12 : ¬ (bh = bx) := by have := b1l2; omega
  clear p1
  go_upto_region 14 with (fail)
  clear s1c s1f
  obtain ⟨u1, hu1⟩ : ∃ u, v1.setCell ⟨bx, 5, none⟩ (.int .u32 (n4V (stepO 2 o0))) = u := ⟨_, rfl⟩
  rw [hu1] at q1 b1lt b1h0 b1h1 b1h2 b1h3 b1h4 b1h5
  rw [hu1]
  clear hu1
  obtain ⟨yy, hyy⟩ : ∃ yy, (stepY 4 (stepY 2 (C.zero n) o0) (stepO 2 o0)) = yy := ⟨_, rfl⟩
  obtain ⟨oo, hoo⟩ : ∃ oo, (stepO 4 (stepO 2 o0)) = oo := ⟨_, rfl⟩
  have GE := Lib.hid hyy
  have GO := Lib.hid hoo
  rw [hyy, hoo] at q1
  clear hyy hoo
  have GRG : Hid (GR (C.zero n) (hasN n) r 6 yy oo) := Lib.hid (by have := GRF.out; rw [← GE.out, ← GO.out]; exact this)
  clear GRF GE GO
  have gl1 := q1.l1
  have gl2 := q1.l2
  have glt := q1.lt
  obtain ⟨sc, is, hcut, hsc, hm⟩ := q1.co
  have cc0 := hcut.c0
  have cc1 := hcut.c1
  have HC := Lib.hid hcut
  clear hcut
  cases oo with
  | none =>
    simp only at hm
    subst hm
    have GV := Lib.hid (G1.out _ _ GRG.out rfl)
    have hR := q1.rb
    have hbel := q1.bel
    have hltR := hR.lt
    have k0 := hR.c0
    have f0 := hR.free 0
    have k1 := hR.c1
    have f1 := hR.free 1
    have k2 := hR.c2
    have f2 := hR.free 2
    have k3 := hR.c3
    have f3 := hR.free 3
    have k4 := hR.c4
    have f4 := hR.free 4
    have k5 := hR.c5
    have f5 := hR.free 5
    have k6 := hR.c6
    have f6 := hR.free 6
    try simp only [C.zero] at k0 k1 k2 k3 k4 k5 k6
    clear hR
    go_wp2
    have hfin : Below w.heap.size w (fillW u1 w.heap.size (C.zero 0)) := fillW_below hbel (Nat.le_refl _)
    unfold fillW at hfin
    try simp only [C.zero] at hfin
    refine bodyPost_ret (v := .tuple #[.agg (C.zero 0).cells, .string ⟨#[]⟩, .int .i64 7]) (by simp [results, Tryd.results13, go_sem, k0, k1, k2, k3, k4, k5, k6, C.cells, C.zero]) rfl ⟨?_, hfin⟩
    rw [GV.out]; rfl
  | some m =>
    obtain ⟨hm1, hm2⟩ := hm
    subst hm1 hm2
    have hsm := getTo_small 6 (show getTo (C.zero n) (hasN n) r 6 = some (yy, m) from GRG.out)
    have CK := Lib.hid (fun V => rcheck_any yy V (by rw [hsm.2]; exact h8) (by have := hsm.1.p; unfold maxLen; omega) (by have := hsm.1.p2; unfold maxLen; omega) (by have := hsm.1.da; unfold maxLen; omega))
    clear hsm
    have x0 := q1.xb.c0
    have x1 := q1.xb.c1
    have x2 := q1.xb.c2
    have x3 := q1.xb.c3
    have x4 := q1.xb.c4
    have x5 := q1.xb.c5
    have x6 := q1.xb.c6
    by_cases hc : yy.checkE = 0
    · have GV := Lib.hid (G3.out _ _ m GRG.out rfl hc)
      rw [hc] at CK
      clear hc
      go_wp2_with fail
      refine (CK.out _).mono ?_
      rintro e w9 ⟨rfl, b9⟩
      have g9 := q1.later b9
      have cc9 : w9.cell? ⟨w.heap.size + 1, 0, none⟩ = some (.string (B m)) := (b9.cell (p := ⟨w.heap.size + 1, 0, none⟩) (by show w.heap.size + 1 < _; omega)).trans cc0
      clear x0 x1 x2 x3 x4 x5 x6 cc0 cc1 b9 HC
      have x0 := g9.xb.c0
      have x1 := g9.xb.c1
      have x2 := g9.xb.c2
      have x3 := g9.xb.c3
      have x4 := g9.xb.c4
      have x5 := g9.xb.c5
      have x6 := g9.xb.c6
      have hR := g9.rb
      have hbel := g9.bel
      have glt9 := g9.lt
      clear g9 q1 glt b1l1 b1l2 b1lt b1h0 b1h1 b1h2 b1h3 b1h4 b1h5
      have hltR := hR.lt
      have k0 := hR.c0
      have f0 := hR.free 0
      have k1 := hR.c1
      have f1 := hR.free 1
      have k2 := hR.c2
      have f2 := hR.free 2
      have k3 := hR.c3
      have f3 := hR.free 3
      have k4 := hR.c4
      have f4 := hR.free 4
      have k5 := hR.c5
      have f5 := hR.free 5
      have k6 := hR.c6
      have f6 := hR.free 6
      try simp only [C.zero] at k0 k1 k2 k3 k4 k5 k6
      clear hR
      go_wp2_with fail
      go_region
      go_wp2
      have hfin : Below w.heap.size w (fillW w9 w.heap.size ⟨yy.d, yy.p, yy.p2, yy.fd, yy.pg, yy.sz, yy.da⟩).drew := (fillW_below hbel (Nat.le_refl _)).trans (below_drew _ _)
      unfold fillW at hfin
      try simp only [C.zero] at hfin
      refine bodyPost_ret (v := .tuple #[.agg #[.int .u8 yy.d, .string yy.p, .string yy.p2, .int .i64 yy.fd, .int .i64 yy.pg, .int .u32 yy.sz, .string yy.da], .string (B m), .int .i64 0]) (by simp [results, Tryd.results13, go_sem, k0, k1, k2, k3, k4, k5, k6, C.cells, C.zero]) rfl ⟨?_, hfin⟩
      rw [GV.out]
    · have GV := Lib.hid (G2.out _ _ m GRG.out rfl hc)
      have q3 : (yy.checkE == 0) = false := by simpa using hc
      have q4 : (yy.checkE != 0) = true := by simpa using hc
      generalize yy.checkE = ce at *
      clear hc
      go_wp2_with fail
      refine (CK.out _).mono ?_
      rintro e w9 ⟨rfl, b9⟩
      have g9 := q1.later b9
      clear x0 x1 x2 x3 x4 x5 x6 cc0 cc1 b9 HC
      have hR := g9.rb
      have hbel := g9.bel
      have glt9 := g9.lt
      clear g9 q1 glt b1l1 b1l2 b1lt b1h0 b1h1 b1h2 b1h3 b1h4 b1h5
      have hltR := hR.lt
      have k0 := hR.c0
      have f0 := hR.free 0
      have k1 := hR.c1
      have f1 := hR.free 1
      have k2 := hR.c2
      have f2 := hR.free 2
      have k3 := hR.c3
      have f3 := hR.free 3
      have k4 := hR.c4
      have f4 := hR.free 4
      have k5 := hR.c5
      have f5 := hR.free 5
      have k6 := hR.c6
      have f6 := hR.free 6
      try simp only [C.zero] at k0 k1 k2 k3 k4 k5 k6
      clear hR
      go_wp2
      have hfin : Below w.heap.size w (fillW w9 w.heap.size (C.zero 0)) := fillW_below hbel (Nat.le_refl _)
      unfold fillW at hfin
      try simp only [C.zero] at hfin
      refine bodyPost_ret (v := .tuple #[.agg (C.zero 0).cells, .string ⟨#[]⟩, .int .i64 7]) (by simp [results, Tryd.results13, go_sem, k0, k1, k2, k3, k4, k5, k6, C.cells, C.zero]) rfl ⟨?_, hfin⟩
      rw [GV.out]; rfl
set_option maxRecDepth 100000 in
set_option maxHeartbeats 4000000 in
theorem rget_44 (s : ByteArray) (c : UInt8) (r : List UInt8) (w : World) (hs : s.size ≤ 4096) (hl : L s = c :: r) (hof : ofV c.toNat = .agg #[.bool false, .bool false, .bool true, .bool true, .bool false, .bool true, .bool false, .bool false]) : Calls Tryd.prog 13 #[.string s] w fun e w' => e = .returned (getV (L s)) ∧ Below w.heap.size w w' := by
  have h8 := c.toNat_lt
  have OF := Lib.hid (fun W => rof_any c.toNat W c.toNat_lt)
  rw [hof] at OF
  have gr0 : GR (C.zero c.toNat) (hasN c.toNat) r 0 (C.zero c.toNat) (some r) := rfl
  simp only [ofV, Value.agg.injEq, Array.mk.injEq, List.cons.injEq, Value.bool.injEq, and_true] at hof
  obtain ⟨e1, e2, e3, e4, e5, e6, e7, e8⟩ := hof
  have gr1 := gr0.no (show hasB (hasN c.toNat) (bitOf 0) = false from e1)
  have gr2 := gr1.no (show hasB (hasN c.toNat) (bitOf 1) = false from e2)
  have gr3 := gr2.yes (by decide) (show hasB (hasN c.toNat) (bitOf 2) = true from e3)
  have gr4 := gr3.yes (by decide) (show hasB (hasN c.toNat) (bitOf 3) = true from e4)
  have gr5 := gr4.no (show hasB (hasN c.toNat) (bitOf 4) = false from e5)
  have gr6 := gr5.yes (by decide) (show hasB (hasN c.toNat) (bitOf 5) = true from e6)
  have G1 : Hid (∀ y o, GR (C.zero c.toNat) (hasN c.toNat) r 6 y o → o = none → getV (L s) = .tuple #[.agg #[.int .u8 0, .string ⟨#[]⟩, .string ⟨#[]⟩, .int .i64 0, .int .i64 0, .int .u32 0, .string ⟨#[]⟩], .string ⟨#[]⟩, .int .i64 7]) := Lib.hid (fun y o hg ho => by
    subst ho
    simp only [GR] at hg
    rw [hl]
    refine getV_none' ?_
    simp only [getL, hg])
  have G2 : Hid (∀ y o m, GR (C.zero c.toNat) (hasN c.toNat) r 6 y o → o = some m → y.checkE ≠ 0 → getV (L s) = .tuple #[.agg #[.int .u8 0, .string ⟨#[]⟩, .string ⟨#[]⟩, .int .i64 0, .int .i64 0, .int .u32 0, .string ⟨#[]⟩], .string ⟨#[]⟩, .int .i64 7]) := Lib.hid (fun y o m hg ho hc => by
    subst ho
    simp only [GR] at hg
    rw [hl]
    refine getV_none' ?_
    simp only [getL, hg]
    rw [if_neg hc])
  have G3 : Hid (∀ y o m, GR (C.zero c.toNat) (hasN c.toNat) r 6 y o → o = some m → y.checkE = 0 → getV (L s) = .tuple #[.agg #[.int .u8 y.d, .string y.p, .string y.p2, .int .i64 y.fd, .int .i64 y.pg, .int .u32 y.sz, .string y.da], .string (B m), .int .i64 0]) := Lib.hid (fun y o m hg ho hc => by
    subst ho
    simp only [GR] at hg
    rw [hl]
    refine getV_some' ?_
    simp only [getL, hg]
    rw [if_pos hc])
  have GRF := Lib.hid gr6
  clear gr0 gr1 gr2 gr3 gr4 gr5 gr6 e1 e2 e3 e4 e5 e6 e7 e8
  have N1 : Hid (∀ W, CutO W (w.heap.size + 1) (some (L s)) → Calls Tryd.prog 26 #[.pointer (some ⟨w.heap.size + 1, 0, none⟩), .int .i64 1] W fun e w' => e = .returned (.int .u32 c.toNat) ∧ CutO w' (w.heap.size + 1) (some r) ∧ Only (w.heap.size + 1) W w') := Lib.hid (fun W hW => by
    have := num1_any (w.heap.size + 1) _ W hW
    rw [hl] at this
    exact this)
  have HS : Hid (s = B (L s)) := Lib.hid rfl
  generalize getV (L s) = gv at *
  generalize c.toNat = n at *
  generalize (some r : Option (List UInt8)) = o0 at *
  clear hl
  go_enter Tryd.func13, Tryd.ntmps13
  go_wp2_with fail
  refine (N1.out _ ⟨s, true, ?_, by omega, rfl, HS.out⟩).mono ?_
  · have := heap_alloc_new (w.alloc (.cells (C.zero 0).cells 24)) (.cells #[.string s, .bool true] 62)
    rw [World.size_alloc] at this
    exact this
  rintro e w1 ⟨rfl, co1, on1⟩
  have z1 : w1.heap.size = w.heap.size + 1 + 1 := by rw [on1.size]; simp
  have rb1 : Box w1 w.heap.size (C.zero 0) := (on1.other _ (by omega)).trans (Box.alloc (b := w.heap.size) (x := C.zero 0) (w := w.alloc _) (heap_alloc_new w _) _)
  have bel1 : Below w.heap.size w w1 := (((Below.refl _ w).alloc (Nat.le_refl _) _).alloc (by simp) _).trans (on1.below.mono (by omega))
  clear on1 N1
  have Z1 := Lib.hid z1
  clear z1
  go_wp2_with fail
  refine (OF.out _).mono ?_
  rintro e w2 ⟨rfl, b2⟩
  have hlt12 : w1.heap.size < w2.heap.size := by have := b2.size; simp at this; omega
  have g2 : GS w (w2.alloc (.cells #[.bool false, .bool false, .bool true, .bool true, .bool false, .bool true, .bool false, .bool false] 58)) w1.heap.size w2.heap.size #[.bool false, .bool false, .bool true, .bool true, .bool false, .bool true, .bool false, .bool false] (C.zero n) o0 :=
    ⟨((rb1.alloc _).below (by simp; have := Z1.out; omega) b2).alloc _, Box.alloc (Box.below (w := w1.alloc (.cells (C.zero n).cells 24)) (b := w1.heap.size) (x := C.zero n) (heap_alloc_new w1 _) (by simp) b2) _, heap_alloc_new w2 _,
      (co1.same ((b2.block _ (by simp; have := Z1.out; omega)).trans (heap_alloc_old w1 _ (by have := Z1.out; omega)))).same (heap_alloc_old w2 _ (by have := Z1.out; omega)), by have := Z1.out; omega, hlt12, ((bel1.alloc bel1.size _).trans (b2.mono (by have := bel1.size; simp; omega))).alloc (by have := bel1.size; omega) _⟩
  clear b2 rb1 bel1 co1 Z1 OF
  go_upto_region 4 with (fail)
  have hltb : w2.heap.size < (w2.alloc (.cells #[.bool false, .bool false, .bool true, .bool true, .bool false, .bool true, .bool false, .bool false] 58)).heap.size := by simp
  obtain ⟨W, hW⟩ : ∃ W, w2.alloc (.cells #[.bool false, .bool false, .bool true, .bool true, .bool false, .bool true, .bool false, .bool false] 58) = W := ⟨_, rfl⟩
  obtain ⟨bx, hbx⟩ : ∃ b, w1.heap.size = b := ⟨_, rfl⟩
  obtain ⟨bh, hbh⟩ : ∃ b, w2.heap.size = b := ⟨_, rfl⟩
  rw [hW, hbx, hbh] at g2
  rw [hW, hbx, hbh]
  clear hW hbx hbh hlt12 hltb
  have al1 := g2.l1
  have al2 := g2.l2
  have alt := g2.lt
  have ah0 : W.cell? ⟨bh, 0, none⟩ = some (.bool false) := g2.h 0
  have ah1 : W.cell? ⟨bh, 1, none⟩ = some (.bool false) := g2.h 1
  have ah2 : W.cell? ⟨bh, 2, none⟩ = some (.bool true) := g2.h 2
  have ah3 : W.cell? ⟨bh, 3, none⟩ = some (.bool true) := g2.h 3
  have ah4 : W.cell? ⟨bh, 4, none⟩ = some (.bool false) := g2.h 4
  have ah5 : W.cell? ⟨bh, 5, none⟩ = some (.bool true) := g2.h 5
  go_wp2_with fail
  refine (num1_any _ _ _ g2.co).mono ?_
  rintro e v0 ⟨rfl, co0, on0⟩
  have p0 := g2.only on0 co0
  clear on0 co0 g2 al1 al2 alt ah0 ah1 ah2 ah3 ah4 ah5
  have s0c := p0.xb.c3
  have s0f := p0.xb.free 3
  have s0b := n1V_lt o0
  have q0 : GS w (v0.setCell ⟨bx, 3, none⟩ (.int .i64 (n1V o0))) bx bh #[.bool false, .bool false, .bool true, .bool true, .bool false, .bool true, .bool false, .bool false] (stepY 2 (C.zero n) o0) (stepO 2 o0) := p0.set 3 _ rfl
  have b0l1 := q0.l1
  have b0l2 := q0.l2
  have b0lt := q0.lt
  have b0h0 : (v0.setCell ⟨bx, 3, none⟩ (.int .i64 (n1V o0))).cell? ⟨bh, 0, none⟩ = some (.bool false) := q0.h 0
  have b0h1 : (v0.setCell ⟨bx, 3, none⟩ (.int .i64 (n1V o0))).cell? ⟨bh, 1, none⟩ = some (.bool false) := q0.h 1
  have b0h2 : (v0.setCell ⟨bx, 3, none⟩ (.int .i64 (n1V o0))).cell? ⟨bh, 2, none⟩ = some (.bool true) := q0.h 2
  have b0h3 : (v0.setCell ⟨bx, 3, none⟩ (.int .i64 (n1V o0))).cell? ⟨bh, 3, none⟩ = some (.bool true) := q0.h 3
  have b0h4 : (v0.setCell ⟨bx, 3, none⟩ (.int .i64 (n1V o0))).cell? ⟨bh, 4, none⟩ = some (.bool false) := q0.h 4
  have b0h5 : (v0.setCell ⟨bx, 3, none⟩ (.int .i64 (n1V o0))).cell? ⟨bh, 5, none⟩ = some (.bool true) := q0.h 5
  have n01 : ¬ (bx = bh) := by have := b0l2; omega
  have n02 : ¬ (bh = bx) := by have := b0l2; omega
  clear p0
  go_upto_region 10 with (fail)
  clear s0c s0f
  obtain ⟨u0, hu0⟩ : ∃ u, v0.setCell ⟨bx, 3, none⟩ (.int .i64 (n1V o0)) = u := ⟨_, rfl⟩
  rw [hu0] at q0 b0lt b0h0 b0h1 b0h2 b0h3 b0h4 b0h5
  rw [hu0]
  clear hu0
  go_wp2_with fail
  refine (num1_any _ _ _ q0.co).mono ?_
  rintro e v1 ⟨rfl, co1, on1⟩
  have p1 := q0.only on1 co1
  clear on1 co1 q0 b0l1 b0l2 b0lt b0h0 b0h1 b0h2 b0h3 b0h4 b0h5
  have s1c := p1.xb.c4
  have s1f := p1.xb.free 4
  have s1b := n1V_lt (stepO 2 o0)
  have q1 : GS w (v1.setCell ⟨bx, 4, none⟩ (.int .i64 (n1V (stepO 2 o0)))) bx bh #[.bool false, .bool false, .bool true, .bool true, .bool false, .bool true, .bool false, .bool false] (stepY 3 (stepY 2 (C.zero n) o0) (stepO 2 o0)) (stepO 3 (stepO 2 o0)) := p1.set 4 _ rfl
  have b1l1 := q1.l1
  have b1l2 := q1.l2
  have b1lt := q1.lt
  have b1h0 : (v1.setCell ⟨bx, 4, none⟩ (.int .i64 (n1V (stepO 2 o0)))).cell? ⟨bh, 0, none⟩ = some (.bool false) := q1.h 0
  have b1h1 : (v1.setCell ⟨bx, 4, none⟩ (.int .i64 (n1V (stepO 2 o0)))).cell? ⟨bh, 1, none⟩ = some (.bool false) := q1.h 1
  have b1h2 : (v1.setCell ⟨bx, 4, none⟩ (.int .i64 (n1V (stepO 2 o0)))).cell? ⟨bh, 2, none⟩ = some (.bool true) := q1.h 2
  have b1h3 : (v1.setCell ⟨bx, 4, none⟩ (.int .i64 (n1V (stepO 2 o0)))).cell? ⟨bh, 3, none⟩ = some (.bool true) := q1.h 3
  have b1h4 : (v1.setCell ⟨bx, 4, none⟩ (.int .i64 (n1V (stepO 2 o0)))).cell? ⟨bh, 4, none⟩ = some (.bool false) := q1.h 4
  have b1h5 : (v1.setCell ⟨bx, 4, none⟩ (.int .i64 (n1V (stepO 2 o0)))).cell? ⟨bh, 5, none⟩ = some (.bool true) := q1.h 5
  have n11 : ¬ (bx = bh) := by have := b1l2; omega
  have n12 : ¬ (bh = bx) := by have := b1l2; omega
  clear p1
  go_upto_region 12 with (fail)
  clear s1c s1f
  obtain ⟨u1, hu1⟩ : ∃ u, v1.setCell ⟨bx, 4, none⟩ (.int .i64 (n1V (stepO 2 o0))) = u := ⟨_, rfl⟩
  rw [hu1] at q1 b1lt b1h0 b1h1 b1h2 b1h3 b1h4 b1h5
  rw [hu1]
  clear hu1
  go_wp2_with fail
  refine (txt_any _ _ _ q1.co).mono ?_
  rintro e v2 ⟨rfl, co2, on2⟩
  have p2 := q1.only on2 co2
  clear on2 co2 q1 b1l1 b1l2 b1lt b1h0 b1h1 b1h2 b1h3 b1h4 b1h5
  have s2c := p2.xb.c6
  have s2f := p2.xb.free 6
  have q2 : GS w (v2.setCell ⟨bx, 6, none⟩ (.string (txV (stepO 3 (stepO 2 o0))))) bx bh #[.bool false, .bool false, .bool true, .bool true, .bool false, .bool true, .bool false, .bool false] (stepY 5 (stepY 3 (stepY 2 (C.zero n) o0) (stepO 2 o0)) (stepO 3 (stepO 2 o0))) (stepO 5 (stepO 3 (stepO 2 o0))) := p2.set 6 _ rfl
  have b2l1 := q2.l1
  have b2l2 := q2.l2
  have b2lt := q2.lt
  have b2h0 : (v2.setCell ⟨bx, 6, none⟩ (.string (txV (stepO 3 (stepO 2 o0))))).cell? ⟨bh, 0, none⟩ = some (.bool false) := q2.h 0
  have b2h1 : (v2.setCell ⟨bx, 6, none⟩ (.string (txV (stepO 3 (stepO 2 o0))))).cell? ⟨bh, 1, none⟩ = some (.bool false) := q2.h 1
  have b2h2 : (v2.setCell ⟨bx, 6, none⟩ (.string (txV (stepO 3 (stepO 2 o0))))).cell? ⟨bh, 2, none⟩ = some (.bool true) := q2.h 2
  have b2h3 : (v2.setCell ⟨bx, 6, none⟩ (.string (txV (stepO 3 (stepO 2 o0))))).cell? ⟨bh, 3, none⟩ = some (.bool true) := q2.h 3
  have b2h4 : (v2.setCell ⟨bx, 6, none⟩ (.string (txV (stepO 3 (stepO 2 o0))))).cell? ⟨bh, 4, none⟩ = some (.bool false) := q2.h 4
  have b2h5 : (v2.setCell ⟨bx, 6, none⟩ (.string (txV (stepO 3 (stepO 2 o0))))).cell? ⟨bh, 5, none⟩ = some (.bool true) := q2.h 5
  have n21 : ¬ (bx = bh) := by have := b2l2; omega
  have n22 : ¬ (bh = bx) := by have := b2l2; omega
  clear p2
  go_upto_region 16 with (fail)
  clear s2c s2f
  obtain ⟨u2, hu2⟩ : ∃ u, v2.setCell ⟨bx, 6, none⟩ (.string (txV (stepO 3 (stepO 2 o0)))) = u := ⟨_, rfl⟩
  rw [hu2] at q2 b2lt b2h0 b2h1 b2h2 b2h3 b2h4 b2h5
  rw [hu2]
  clear hu2
  obtain ⟨yy, hyy⟩ : ∃ yy, (stepY 5 (stepY 3 (stepY 2 (C.zero n) o0) (stepO 2 o0)) (stepO 3 (stepO 2 o0))) = yy := ⟨_, rfl⟩
  obtain ⟨oo, hoo⟩ : ∃ oo, (stepO 5 (stepO 3 (stepO 2 o0))) = oo := ⟨_, rfl⟩
  have GE := Lib.hid hyy
  have GO := Lib.hid hoo
  rw [hyy, hoo] at q2
  clear hyy hoo
  have GRG : Hid (GR (C.zero n) (hasN n) r 6 yy oo) := Lib.hid (by have := GRF.out; rw [← GE.out, ← GO.out]; exact this)
  clear GRF GE GO
  have gl1 := q2.l1
  have gl2 := q2.l2
  have glt := q2.lt
  obtain ⟨sc, is, hcut, hsc, hm⟩ := q2.co
  have cc0 := hcut.c0
  have cc1 := hcut.c1
  have HC := Lib.hid hcut
  clear hcut
  cases oo with
  | none =>
    simp only at hm
    subst hm
    have GV := Lib.hid (G1.out _ _ GRG.out rfl)
    have hR := q2.rb
    have hbel := q2.bel
    have hltR := hR.lt
    have k0 := hR.c0
    have f0 := hR.free 0
    have k1 := hR.c1
    have f1 := hR.free 1
    have k2 := hR.c2
    have f2 := hR.free 2
    have k3 := hR.c3
    have f3 := hR.free 3
    have k4 := hR.c4
    have f4 := hR.free 4
    have k5 := hR.c5
    have f5 := hR.free 5
    have k6 := hR.c6
    have f6 := hR.free 6
    try simp only [C.zero] at k0 k1 k2 k3 k4 k5 k6
    clear hR
    go_wp2
    have hfin : Below w.heap.size w (fillW u2 w.heap.size (C.zero 0)) := fillW_below hbel (Nat.le_refl _)
    unfold fillW at hfin
    try simp only [C.zero] at hfin
    refine bodyPost_ret (v := .tuple #[.agg (C.zero 0).cells, .string ⟨#[]⟩, .int .i64 7]) (by simp [results, Tryd.results13, go_sem, k0, k1, k2, k3, k4, k5, k6, C.cells, C.zero]) rfl ⟨?_, hfin⟩
    rw [GV.out]; rfl
  | some m =>
    obtain ⟨hm1, hm2⟩ := hm
    subst hm1 hm2
    have hsm := getTo_small 6 (show getTo (C.zero n) (hasN n) r 6 = some (yy, m) from GRG.out)
    have CK := Lib.hid (fun V => rcheck_any yy V (by rw [hsm.2]; exact h8) (by have := hsm.1.p; unfold maxLen; omega) (by have := hsm.1.p2; unfold maxLen; omega) (by have := hsm.1.da; unfold maxLen; omega))
    clear hsm
    have x0 := q2.xb.c0
    have x1 := q2.xb.c1
    have x2 := q2.xb.c2
    have x3 := q2.xb.c3
    have x4 := q2.xb.c4
    have x5 := q2.xb.c5
    have x6 := q2.xb.c6
    by_cases hc : yy.checkE = 0
    · have GV := Lib.hid (G3.out _ _ m GRG.out rfl hc)
      rw [hc] at CK
      clear hc
      go_wp2_with fail
      refine (CK.out _).mono ?_
      rintro e w9 ⟨rfl, b9⟩
      have g9 := q2.later b9
      have cc9 : w9.cell? ⟨w.heap.size + 1, 0, none⟩ = some (.string (B m)) := (b9.cell (p := ⟨w.heap.size + 1, 0, none⟩) (by show w.heap.size + 1 < _; omega)).trans cc0
      clear x0 x1 x2 x3 x4 x5 x6 cc0 cc1 b9 HC
      have x0 := g9.xb.c0
      have x1 := g9.xb.c1
      have x2 := g9.xb.c2
      have x3 := g9.xb.c3
      have x4 := g9.xb.c4
      have x5 := g9.xb.c5
      have x6 := g9.xb.c6
      have hR := g9.rb
      have hbel := g9.bel
      have glt9 := g9.lt
      clear g9 q2 glt b2l1 b2l2 b2lt b2h0 b2h1 b2h2 b2h3 b2h4 b2h5
      have hltR := hR.lt
      have k0 := hR.c0
      have f0 := hR.free 0
      have k1 := hR.c1
      have f1 := hR.free 1
      have k2 := hR.c2
      have f2 := hR.free 2
      have k3 := hR.c3
      have f3 := hR.free 3
      have k4 := hR.c4
      have f4 := hR.free 4
      have k5 := hR.c5
      have f5 := hR.free 5
      have k6 := hR.c6
      have f6 := hR.free 6
      try simp only [C.zero] at k0 k1 k2 k3 k4 k5 k6
      clear hR
      go_wp2_with fail
      go_region
      go_wp2
      have hfin : Below w.heap.size w (fillW w9 w.heap.size ⟨yy.d, yy.p, yy.p2, yy.fd, yy.pg, yy.sz, yy.da⟩).drew := (fillW_below hbel (Nat.le_refl _)).trans (below_drew _ _)
      unfold fillW at hfin
      try simp only [C.zero] at hfin
      refine bodyPost_ret (v := .tuple #[.agg #[.int .u8 yy.d, .string yy.p, .string yy.p2, .int .i64 yy.fd, .int .i64 yy.pg, .int .u32 yy.sz, .string yy.da], .string (B m), .int .i64 0]) (by simp [results, Tryd.results13, go_sem, k0, k1, k2, k3, k4, k5, k6, C.cells, C.zero]) rfl ⟨?_, hfin⟩
      rw [GV.out]
    · have GV := Lib.hid (G2.out _ _ m GRG.out rfl hc)
      have q3 : (yy.checkE == 0) = false := by simpa using hc
      have q4 : (yy.checkE != 0) = true := by simpa using hc
      generalize yy.checkE = ce at *
      clear hc
      go_wp2_with fail
      refine (CK.out _).mono ?_
      rintro e w9 ⟨rfl, b9⟩
      have g9 := q2.later b9
      clear x0 x1 x2 x3 x4 x5 x6 cc0 cc1 b9 HC
      have hR := g9.rb
      have hbel := g9.bel
      have glt9 := g9.lt
      clear g9 q2 glt b2l1 b2l2 b2lt b2h0 b2h1 b2h2 b2h3 b2h4 b2h5
      have hltR := hR.lt
      have k0 := hR.c0
      have f0 := hR.free 0
      have k1 := hR.c1
      have f1 := hR.free 1
      have k2 := hR.c2
      have f2 := hR.free 2
      have k3 := hR.c3
      have f3 := hR.free 3
      have k4 := hR.c4
      have f4 := hR.free 4
      have k5 := hR.c5
      have f5 := hR.free 5
      have k6 := hR.c6
      have f6 := hR.free 6
      try simp only [C.zero] at k0 k1 k2 k3 k4 k5 k6
      clear hR
      go_wp2
      have hfin : Below w.heap.size w (fillW w9 w.heap.size (C.zero 0)) := fillW_below hbel (Nat.le_refl _)
      unfold fillW at hfin
      try simp only [C.zero] at hfin
      refine bodyPost_ret (v := .tuple #[.agg (C.zero 0).cells, .string ⟨#[]⟩, .int .i64 7]) (by simp [results, Tryd.results13, go_sem, k0, k1, k2, k3, k4, k5, k6, C.cells, C.zero]) rfl ⟨?_, hfin⟩
      rw [GV.out]; rfl
set_option maxRecDepth 100000 in
set_option maxHeartbeats 4000000 in
theorem rget_1 (s : ByteArray) (c : UInt8) (r : List UInt8) (w : World) (hs : s.size ≤ 4096) (hl : L s = c :: r) (hof : ofV c.toNat = .agg #[.bool true, .bool false, .bool false, .bool false, .bool false, .bool false, .bool false, .bool false]) : Calls Tryd.prog 13 #[.string s] w fun e w' => e = .returned (getV (L s)) ∧ Below w.heap.size w w' := by
  have h8 := c.toNat_lt
  have OF := Lib.hid (fun W => rof_any c.toNat W c.toNat_lt)
  rw [hof] at OF
  have gr0 : GR (C.zero c.toNat) (hasN c.toNat) r 0 (C.zero c.toNat) (some r) := rfl
  simp only [ofV, Value.agg.injEq, Array.mk.injEq, List.cons.injEq, Value.bool.injEq, and_true] at hof
  obtain ⟨e1, e2, e3, e4, e5, e6, e7, e8⟩ := hof
  have gr1 := gr0.yes (by decide) (show hasB (hasN c.toNat) (bitOf 0) = true from e1)
  have gr2 := gr1.no (show hasB (hasN c.toNat) (bitOf 1) = false from e2)
  have gr3 := gr2.no (show hasB (hasN c.toNat) (bitOf 2) = false from e3)
  have gr4 := gr3.no (show hasB (hasN c.toNat) (bitOf 3) = false from e4)
  have gr5 := gr4.no (show hasB (hasN c.toNat) (bitOf 4) = false from e5)
  have gr6 := gr5.no (show hasB (hasN c.toNat) (bitOf 5) = false from e6)
  have G1 : Hid (∀ y o, GR (C.zero c.toNat) (hasN c.toNat) r 6 y o → o = none → getV (L s) = .tuple #[.agg #[.int .u8 0, .string ⟨#[]⟩, .string ⟨#[]⟩, .int .i64 0, .int .i64 0, .int .u32 0, .string ⟨#[]⟩], .string ⟨#[]⟩, .int .i64 7]) := Lib.hid (fun y o hg ho => by
    subst ho
    simp only [GR] at hg
    rw [hl]
    refine getV_none' ?_
    simp only [getL, hg])
  have G2 : Hid (∀ y o m, GR (C.zero c.toNat) (hasN c.toNat) r 6 y o → o = some m → y.checkE ≠ 0 → getV (L s) = .tuple #[.agg #[.int .u8 0, .string ⟨#[]⟩, .string ⟨#[]⟩, .int .i64 0, .int .i64 0, .int .u32 0, .string ⟨#[]⟩], .string ⟨#[]⟩, .int .i64 7]) := Lib.hid (fun y o m hg ho hc => by
    subst ho
    simp only [GR] at hg
    rw [hl]
    refine getV_none' ?_
    simp only [getL, hg]
    rw [if_neg hc])
  have G3 : Hid (∀ y o m, GR (C.zero c.toNat) (hasN c.toNat) r 6 y o → o = some m → y.checkE = 0 → getV (L s) = .tuple #[.agg #[.int .u8 y.d, .string y.p, .string y.p2, .int .i64 y.fd, .int .i64 y.pg, .int .u32 y.sz, .string y.da], .string (B m), .int .i64 0]) := Lib.hid (fun y o m hg ho hc => by
    subst ho
    simp only [GR] at hg
    rw [hl]
    refine getV_some' ?_
    simp only [getL, hg]
    rw [if_pos hc])
  have GRF := Lib.hid gr6
  clear gr0 gr1 gr2 gr3 gr4 gr5 gr6 e1 e2 e3 e4 e5 e6 e7 e8
  have N1 : Hid (∀ W, CutO W (w.heap.size + 1) (some (L s)) → Calls Tryd.prog 26 #[.pointer (some ⟨w.heap.size + 1, 0, none⟩), .int .i64 1] W fun e w' => e = .returned (.int .u32 c.toNat) ∧ CutO w' (w.heap.size + 1) (some r) ∧ Only (w.heap.size + 1) W w') := Lib.hid (fun W hW => by
    have := num1_any (w.heap.size + 1) _ W hW
    rw [hl] at this
    exact this)
  have HS : Hid (s = B (L s)) := Lib.hid rfl
  generalize getV (L s) = gv at *
  generalize c.toNat = n at *
  generalize (some r : Option (List UInt8)) = o0 at *
  clear hl
  go_enter Tryd.func13, Tryd.ntmps13
  go_wp2_with fail
  refine (N1.out _ ⟨s, true, ?_, by omega, rfl, HS.out⟩).mono ?_
  · have := heap_alloc_new (w.alloc (.cells (C.zero 0).cells 24)) (.cells #[.string s, .bool true] 62)
    rw [World.size_alloc] at this
    exact this
  rintro e w1 ⟨rfl, co1, on1⟩
  have z1 : w1.heap.size = w.heap.size + 1 + 1 := by rw [on1.size]; simp
  have rb1 : Box w1 w.heap.size (C.zero 0) := (on1.other _ (by omega)).trans (Box.alloc (b := w.heap.size) (x := C.zero 0) (w := w.alloc _) (heap_alloc_new w _) _)
  have bel1 : Below w.heap.size w w1 := (((Below.refl _ w).alloc (Nat.le_refl _) _).alloc (by simp) _).trans (on1.below.mono (by omega))
  clear on1 N1
  have Z1 := Lib.hid z1
  clear z1
  go_wp2_with fail
  refine (OF.out _).mono ?_
  rintro e w2 ⟨rfl, b2⟩
  have hlt12 : w1.heap.size < w2.heap.size := by have := b2.size; simp at this; omega
  have g2 : GS w (w2.alloc (.cells #[.bool true, .bool false, .bool false, .bool false, .bool false, .bool false, .bool false, .bool false] 58)) w1.heap.size w2.heap.size #[.bool true, .bool false, .bool false, .bool false, .bool false, .bool false, .bool false, .bool false] (C.zero n) o0 :=
    ⟨((rb1.alloc _).below (by simp; have := Z1.out; omega) b2).alloc _, Box.alloc (Box.below (w := w1.alloc (.cells (C.zero n).cells 24)) (b := w1.heap.size) (x := C.zero n) (heap_alloc_new w1 _) (by simp) b2) _, heap_alloc_new w2 _,
      (co1.same ((b2.block _ (by simp; have := Z1.out; omega)).trans (heap_alloc_old w1 _ (by have := Z1.out; omega)))).same (heap_alloc_old w2 _ (by have := Z1.out; omega)), by have := Z1.out; omega, hlt12, ((bel1.alloc bel1.size _).trans (b2.mono (by have := bel1.size; simp; omega))).alloc (by have := bel1.size; omega) _⟩
  clear b2 rb1 bel1 co1 Z1 OF
  go_upto_region 4 with (fail)
  have hltb : w2.heap.size < (w2.alloc (.cells #[.bool true, .bool false, .bool false, .bool false, .bool false, .bool false, .bool false, .bool false] 58)).heap.size := by simp
  obtain ⟨W, hW⟩ : ∃ W, w2.alloc (.cells #[.bool true, .bool false, .bool false, .bool false, .bool false, .bool false, .bool false, .bool false] 58) = W := ⟨_, rfl⟩
  obtain ⟨bx, hbx⟩ : ∃ b, w1.heap.size = b := ⟨_, rfl⟩
  obtain ⟨bh, hbh⟩ : ∃ b, w2.heap.size = b := ⟨_, rfl⟩
  rw [hW, hbx, hbh] at g2
  rw [hW, hbx, hbh]
  clear hW hbx hbh hlt12 hltb
  have al1 := g2.l1
  have al2 := g2.l2
  have alt := g2.lt
  have ah0 : W.cell? ⟨bh, 0, none⟩ = some (.bool true) := g2.h 0
  have ah1 : W.cell? ⟨bh, 1, none⟩ = some (.bool false) := g2.h 1
  have ah2 : W.cell? ⟨bh, 2, none⟩ = some (.bool false) := g2.h 2
  have ah3 : W.cell? ⟨bh, 3, none⟩ = some (.bool false) := g2.h 3
  have ah4 : W.cell? ⟨bh, 4, none⟩ = some (.bool false) := g2.h 4
  have ah5 : W.cell? ⟨bh, 5, none⟩ = some (.bool false) := g2.h 5
  go_wp2_with fail
  refine (txt_any _ _ _ g2.co).mono ?_
  rintro e v0 ⟨rfl, co0, on0⟩
  have p0 := g2.only on0 co0
  clear on0 co0 g2 al1 al2 alt ah0 ah1 ah2 ah3 ah4 ah5
  have s0c := p0.xb.c1
  have s0f := p0.xb.free 1
  have q0 : GS w (v0.setCell ⟨bx, 1, none⟩ (.string (txV o0))) bx bh #[.bool true, .bool false, .bool false, .bool false, .bool false, .bool false, .bool false, .bool false] (stepY 0 (C.zero n) o0) (stepO 0 o0) := p0.set 1 _ rfl
  have b0l1 := q0.l1
  have b0l2 := q0.l2
  have b0lt := q0.lt
  have b0h0 : (v0.setCell ⟨bx, 1, none⟩ (.string (txV o0))).cell? ⟨bh, 0, none⟩ = some (.bool true) := q0.h 0
  have b0h1 : (v0.setCell ⟨bx, 1, none⟩ (.string (txV o0))).cell? ⟨bh, 1, none⟩ = some (.bool false) := q0.h 1
  have b0h2 : (v0.setCell ⟨bx, 1, none⟩ (.string (txV o0))).cell? ⟨bh, 2, none⟩ = some (.bool false) := q0.h 2
  have b0h3 : (v0.setCell ⟨bx, 1, none⟩ (.string (txV o0))).cell? ⟨bh, 3, none⟩ = some (.bool false) := q0.h 3
  have b0h4 : (v0.setCell ⟨bx, 1, none⟩ (.string (txV o0))).cell? ⟨bh, 4, none⟩ = some (.bool false) := q0.h 4
  have b0h5 : (v0.setCell ⟨bx, 1, none⟩ (.string (txV o0))).cell? ⟨bh, 5, none⟩ = some (.bool false) := q0.h 5
  have n01 : ¬ (bx = bh) := by have := b0l2; omega
  have n02 : ¬ (bh = bx) := by have := b0l2; omega
  clear p0
  go_upto_region 6 with (fail)
  clear s0c s0f
  obtain ⟨u0, hu0⟩ : ∃ u, v0.setCell ⟨bx, 1, none⟩ (.string (txV o0)) = u := ⟨_, rfl⟩
  rw [hu0] at q0 b0lt b0h0 b0h1 b0h2 b0h3 b0h4 b0h5
  rw [hu0]
  clear hu0
  obtain ⟨yy, hyy⟩ : ∃ yy, (stepY 0 (C.zero n) o0) = yy := ⟨_, rfl⟩
  obtain ⟨oo, hoo⟩ : ∃ oo, (stepO 0 o0) = oo := ⟨_, rfl⟩
  have GE := Lib.hid hyy
  have GO := Lib.hid hoo
  rw [hyy, hoo] at q0
  clear hyy hoo
  have GRG : Hid (GR (C.zero n) (hasN n) r 6 yy oo) := Lib.hid (by have := GRF.out; rw [← GE.out, ← GO.out]; exact this)
  clear GRF GE GO
  have gl1 := q0.l1
  have gl2 := q0.l2
  have glt := q0.lt
  obtain ⟨sc, is, hcut, hsc, hm⟩ := q0.co
  have cc0 := hcut.c0
  have cc1 := hcut.c1
  have HC := Lib.hid hcut
  clear hcut
  cases oo with
  | none =>
    simp only at hm
    subst hm
    have GV := Lib.hid (G1.out _ _ GRG.out rfl)
    have hR := q0.rb
    have hbel := q0.bel
    have hltR := hR.lt
    have k0 := hR.c0
    have f0 := hR.free 0
    have k1 := hR.c1
    have f1 := hR.free 1
    have k2 := hR.c2
    have f2 := hR.free 2
    have k3 := hR.c3
    have f3 := hR.free 3
    have k4 := hR.c4
    have f4 := hR.free 4
    have k5 := hR.c5
    have f5 := hR.free 5
    have k6 := hR.c6
    have f6 := hR.free 6
    try simp only [C.zero] at k0 k1 k2 k3 k4 k5 k6
    clear hR
    go_wp2
    have hfin : Below w.heap.size w (fillW u0 w.heap.size (C.zero 0)) := fillW_below hbel (Nat.le_refl _)
    unfold fillW at hfin
    try simp only [C.zero] at hfin
    refine bodyPost_ret (v := .tuple #[.agg (C.zero 0).cells, .string ⟨#[]⟩, .int .i64 7]) (by simp [results, Tryd.results13, go_sem, k0, k1, k2, k3, k4, k5, k6, C.cells, C.zero]) rfl ⟨?_, hfin⟩
    rw [GV.out]; rfl
  | some m =>
    obtain ⟨hm1, hm2⟩ := hm
    subst hm1 hm2
    have hsm := getTo_small 6 (show getTo (C.zero n) (hasN n) r 6 = some (yy, m) from GRG.out)
    have CK := Lib.hid (fun V => rcheck_any yy V (by rw [hsm.2]; exact h8) (by have := hsm.1.p; unfold maxLen; omega) (by have := hsm.1.p2; unfold maxLen; omega) (by have := hsm.1.da; unfold maxLen; omega))
    clear hsm
    have x0 := q0.xb.c0
    have x1 := q0.xb.c1
    have x2 := q0.xb.c2
    have x3 := q0.xb.c3
    have x4 := q0.xb.c4
    have x5 := q0.xb.c5
    have x6 := q0.xb.c6
    by_cases hc : yy.checkE = 0
    · have GV := Lib.hid (G3.out _ _ m GRG.out rfl hc)
      rw [hc] at CK
      clear hc
      go_wp2_with fail
      refine (CK.out _).mono ?_
      rintro e w9 ⟨rfl, b9⟩
      have g9 := q0.later b9
      have cc9 : w9.cell? ⟨w.heap.size + 1, 0, none⟩ = some (.string (B m)) := (b9.cell (p := ⟨w.heap.size + 1, 0, none⟩) (by show w.heap.size + 1 < _; omega)).trans cc0
      clear x0 x1 x2 x3 x4 x5 x6 cc0 cc1 b9 HC
      have x0 := g9.xb.c0
      have x1 := g9.xb.c1
      have x2 := g9.xb.c2
      have x3 := g9.xb.c3
      have x4 := g9.xb.c4
      have x5 := g9.xb.c5
      have x6 := g9.xb.c6
      have hR := g9.rb
      have hbel := g9.bel
      have glt9 := g9.lt
      clear g9 q0 glt b0l1 b0l2 b0lt b0h0 b0h1 b0h2 b0h3 b0h4 b0h5
      have hltR := hR.lt
      have k0 := hR.c0
      have f0 := hR.free 0
      have k1 := hR.c1
      have f1 := hR.free 1
      have k2 := hR.c2
      have f2 := hR.free 2
      have k3 := hR.c3
      have f3 := hR.free 3
      have k4 := hR.c4
      have f4 := hR.free 4
      have k5 := hR.c5
      have f5 := hR.free 5
      have k6 := hR.c6
      have f6 := hR.free 6
      try simp only [C.zero] at k0 k1 k2 k3 k4 k5 k6
      clear hR
      go_wp2_with fail
      go_region
      go_wp2
      have hfin : Below w.heap.size w (fillW w9 w.heap.size ⟨yy.d, yy.p, yy.p2, yy.fd, yy.pg, yy.sz, yy.da⟩).drew := (fillW_below hbel (Nat.le_refl _)).trans (below_drew _ _)
      unfold fillW at hfin
      try simp only [C.zero] at hfin
      refine bodyPost_ret (v := .tuple #[.agg #[.int .u8 yy.d, .string yy.p, .string yy.p2, .int .i64 yy.fd, .int .i64 yy.pg, .int .u32 yy.sz, .string yy.da], .string (B m), .int .i64 0]) (by simp [results, Tryd.results13, go_sem, k0, k1, k2, k3, k4, k5, k6, C.cells, C.zero]) rfl ⟨?_, hfin⟩
      rw [GV.out]
    · have GV := Lib.hid (G2.out _ _ m GRG.out rfl hc)
      have q3 : (yy.checkE == 0) = false := by simpa using hc
      have q4 : (yy.checkE != 0) = true := by simpa using hc
      generalize yy.checkE = ce at *
      clear hc
      go_wp2_with fail
      refine (CK.out _).mono ?_
      rintro e w9 ⟨rfl, b9⟩
      have g9 := q0.later b9
      clear x0 x1 x2 x3 x4 x5 x6 cc0 cc1 b9 HC
      have hR := g9.rb
      have hbel := g9.bel
      have glt9 := g9.lt
      clear g9 q0 glt b0l1 b0l2 b0lt b0h0 b0h1 b0h2 b0h3 b0h4 b0h5
      have hltR := hR.lt
      have k0 := hR.c0
      have f0 := hR.free 0
      have k1 := hR.c1
      have f1 := hR.free 1
      have k2 := hR.c2
      have f2 := hR.free 2
      have k3 := hR.c3
      have f3 := hR.free 3
      have k4 := hR.c4
      have f4 := hR.free 4
      have k5 := hR.c5
      have f5 := hR.free 5
      have k6 := hR.c6
      have f6 := hR.free 6
      try simp only [C.zero] at k0 k1 k2 k3 k4 k5 k6
      clear hR
      go_wp2
      have hfin : Below w.heap.size w (fillW w9 w.heap.size (C.zero 0)) := fillW_below hbel (Nat.le_refl _)
      unfold fillW at hfin
      try simp only [C.zero] at hfin
      refine bodyPost_ret (v := .tuple #[.agg (C.zero 0).cells, .string ⟨#[]⟩, .int .i64 7]) (by simp [results, Tryd.results13, go_sem, k0, k1, k2, k3, k4, k5, k6, C.cells, C.zero]) rfl ⟨?_, hfin⟩
      rw [GV.out]; rfl
set_option maxRecDepth 100000 in
set_option maxHeartbeats 4000000 in
theorem rget_65 (s : ByteArray) (c : UInt8) (r : List UInt8) (w : World) (hs : s.size ≤ 4096) (hl : L s = c :: r) (hof : ofV c.toNat = .agg #[.bool true, .bool false, .bool false, .bool false, .bool false, .bool false, .bool true, .bool false]) : Calls Tryd.prog 13 #[.string s] w fun e w' => e = .returned (getV (L s)) ∧ Below w.heap.size w w' := by
  have h8 := c.toNat_lt
  have OF := Lib.hid (fun W => rof_any c.toNat W c.toNat_lt)
  rw [hof] at OF
  have gr0 : GR (C.zero c.toNat) (hasN c.toNat) r 0 (C.zero c.toNat) (some r) := rfl
  simp only [ofV, Value.agg.injEq, Array.mk.injEq, List.cons.injEq, Value.bool.injEq, and_true] at hof
  obtain ⟨e1, e2, e3, e4, e5, e6, e7, e8⟩ := hof
  have gr1 := gr0.yes (by decide) (show hasB (hasN c.toNat) (bitOf 0) = true from e1)
  have gr2 := gr1.no (show hasB (hasN c.toNat) (bitOf 1) = false from e2)
  have gr3 := gr2.no (show hasB (hasN c.toNat) (bitOf 2) = false from e3)
  have gr4 := gr3.no (show hasB (hasN c.toNat) (bitOf 3) = false from e4)
  have gr5 := gr4.no (show hasB (hasN c.toNat) (bitOf 4) = false from e5)
  have gr6 := gr5.no (show hasB (hasN c.toNat) (bitOf 5) = false from e6)
  have G1 : Hid (∀ y o, GR (C.zero c.toNat) (hasN c.toNat) r 6 y o → o = none → getV (L s) = .tuple #[.agg #[.int .u8 0, .string ⟨#[]⟩, .string ⟨#[]⟩, .int .i64 0, .int .i64 0, .int .u32 0, .string ⟨#[]⟩], .string ⟨#[]⟩, .int .i64 7]) := Lib.hid (fun y o hg ho => by
    subst ho
    simp only [GR] at hg
    rw [hl]
    refine getV_none' ?_
    simp only [getL, hg])
  have G2 : Hid (∀ y o m, GR (C.zero c.toNat) (hasN c.toNat) r 6 y o → o = some m → y.checkE ≠ 0 → getV (L s) = .tuple #[.agg #[.int .u8 0, .string ⟨#[]⟩, .string ⟨#[]⟩, .int .i64 0, .int .i64 0, .int .u32 0, .string ⟨#[]⟩], .string ⟨#[]⟩, .int .i64 7]) := Lib.hid (fun y o m hg ho hc => by
    subst ho
    simp only [GR] at hg
    rw [hl]
    refine getV_none' ?_
    simp only [getL, hg]
    rw [if_neg hc])
  have G3 : Hid (∀ y o m, GR (C.zero c.toNat) (hasN c.toNat) r 6 y o → o = some m → y.checkE = 0 → getV (L s) = .tuple #[.agg #[.int .u8 y.d, .string y.p, .string y.p2, .int .i64 y.fd, .int .i64 y.pg, .int .u32 y.sz, .string y.da], .string (B m), .int .i64 0]) := Lib.hid (fun y o m hg ho hc => by
    subst ho
    simp only [GR] at hg
    rw [hl]
    refine getV_some' ?_
    simp only [getL, hg]
    rw [if_pos hc])
  have GRF := Lib.hid gr6
  clear gr0 gr1 gr2 gr3 gr4 gr5 gr6 e1 e2 e3 e4 e5 e6 e7 e8
  have N1 : Hid (∀ W, CutO W (w.heap.size + 1) (some (L s)) → Calls Tryd.prog 26 #[.pointer (some ⟨w.heap.size + 1, 0, none⟩), .int .i64 1] W fun e w' => e = .returned (.int .u32 c.toNat) ∧ CutO w' (w.heap.size + 1) (some r) ∧ Only (w.heap.size + 1) W w') := Lib.hid (fun W hW => by
    have := num1_any (w.heap.size + 1) _ W hW
    rw [hl] at this
    exact this)
  have HS : Hid (s = B (L s)) := Lib.hid rfl
  generalize getV (L s) = gv at *
  generalize c.toNat = n at *
  generalize (some r : Option (List UInt8)) = o0 at *
  clear hl
  go_enter Tryd.func13, Tryd.ntmps13
  go_wp2_with fail
  refine (N1.out _ ⟨s, true, ?_, by omega, rfl, HS.out⟩).mono ?_
  · have := heap_alloc_new (w.alloc (.cells (C.zero 0).cells 24)) (.cells #[.string s, .bool true] 62)
    rw [World.size_alloc] at this
    exact this
  rintro e w1 ⟨rfl, co1, on1⟩
  have z1 : w1.heap.size = w.heap.size + 1 + 1 := by rw [on1.size]; simp
  have rb1 : Box w1 w.heap.size (C.zero 0) := (on1.other _ (by omega)).trans (Box.alloc (b := w.heap.size) (x := C.zero 0) (w := w.alloc _) (heap_alloc_new w _) _)
  have bel1 : Below w.heap.size w w1 := (((Below.refl _ w).alloc (Nat.le_refl _) _).alloc (by simp) _).trans (on1.below.mono (by omega))
  clear on1 N1
  have Z1 := Lib.hid z1
  clear z1
  go_wp2_with fail
  refine (OF.out _).mono ?_
  rintro e w2 ⟨rfl, b2⟩
  have hlt12 : w1.heap.size < w2.heap.size := by have := b2.size; simp at this; omega
  have g2 : GS w (w2.alloc (.cells #[.bool true, .bool false, .bool false, .bool false, .bool false, .bool false, .bool true, .bool false] 58)) w1.heap.size w2.heap.size #[.bool true, .bool false, .bool false, .bool false, .bool false, .bool false, .bool true, .bool false] (C.zero n) o0 :=
    ⟨((rb1.alloc _).below (by simp; have := Z1.out; omega) b2).alloc _, Box.alloc (Box.below (w := w1.alloc (.cells (C.zero n).cells 24)) (b := w1.heap.size) (x := C.zero n) (heap_alloc_new w1 _) (by simp) b2) _, heap_alloc_new w2 _,
      (co1.same ((b2.block _ (by simp; have := Z1.out; omega)).trans (heap_alloc_old w1 _ (by have := Z1.out; omega)))).same (heap_alloc_old w2 _ (by have := Z1.out; omega)), by have := Z1.out; omega, hlt12, ((bel1.alloc bel1.size _).trans (b2.mono (by have := bel1.size; simp; omega))).alloc (by have := bel1.size; omega) _⟩
  clear b2 rb1 bel1 co1 Z1 OF
  go_upto_region 4 with (fail)
  have hltb : w2.heap.size < (w2.alloc (.cells #[.bool true, .bool false, .bool false, .bool false, .bool false, .bool false, .bool true, .bool false] 58)).heap.size := by simp
  obtain ⟨W, hW⟩ : ∃ W, w2.alloc (.cells #[.bool true, .bool false, .bool false, .bool false, .bool false, .bool false, .bool true, .bool false] 58) = W := ⟨_, rfl⟩
  obtain ⟨bx, hbx⟩ : ∃ b, w1.heap.size = b := ⟨_, rfl⟩
  obtain ⟨bh, hbh⟩ : ∃ b, w2.heap.size = b := ⟨_, rfl⟩
  rw [hW, hbx, hbh] at g2
  rw [hW, hbx, hbh]
  clear hW hbx hbh hlt12 hltb
  have al1 := g2.l1
  have al2 := g2.l2
  have alt := g2.lt
  have ah0 : W.cell? ⟨bh, 0, none⟩ = some (.bool true) := g2.h 0
  have ah1 : W.cell? ⟨bh, 1, none⟩ = some (.bool false) := g2.h 1
  have ah2 : W.cell? ⟨bh, 2, none⟩ = some (.bool false) := g2.h 2
  have ah3 : W.cell? ⟨bh, 3, none⟩ = some (.bool false) := g2.h 3
  have ah4 : W.cell? ⟨bh, 4, none⟩ = some (.bool false) := g2.h 4
  have ah5 : W.cell? ⟨bh, 5, none⟩ = some (.bool false) := g2.h 5
  go_wp2_with fail
  refine (txt_any _ _ _ g2.co).mono ?_
  rintro e v0 ⟨rfl, co0, on0⟩
  have p0 := g2.only on0 co0
  clear on0 co0 g2 al1 al2 alt ah0 ah1 ah2 ah3 ah4 ah5
  have s0c := p0.xb.c1
  have s0f := p0.xb.free 1
  have q0 : GS w (v0.setCell ⟨bx, 1, none⟩ (.string (txV o0))) bx bh #[.bool true, .bool false, .bool false, .bool false, .bool false, .bool false, .bool true, .bool false] (stepY 0 (C.zero n) o0) (stepO 0 o0) := p0.set 1 _ rfl
  have b0l1 := q0.l1
  have b0l2 := q0.l2
  have b0lt := q0.lt
  have b0h0 : (v0.setCell ⟨bx, 1, none⟩ (.string (txV o0))).cell? ⟨bh, 0, none⟩ = some (.bool true) := q0.h 0
  have b0h1 : (v0.setCell ⟨bx, 1, none⟩ (.string (txV o0))).cell? ⟨bh, 1, none⟩ = some (.bool false) := q0.h 1
  have b0h2 : (v0.setCell ⟨bx, 1, none⟩ (.string (txV o0))).cell? ⟨bh, 2, none⟩ = some (.bool false) := q0.h 2
  have b0h3 : (v0.setCell ⟨bx, 1, none⟩ (.string (txV o0))).cell? ⟨bh, 3, none⟩ = some (.bool false) := q0.h 3
  have b0h4 : (v0.setCell ⟨bx, 1, none⟩ (.string (txV o0))).cell? ⟨bh, 4, none⟩ = some (.bool false) := q0.h 4
  have b0h5 : (v0.setCell ⟨bx, 1, none⟩ (.string (txV o0))).cell? ⟨bh, 5, none⟩ = some (.bool false) := q0.h 5
  have n01 : ¬ (bx = bh) := by have := b0l2; omega
  have n02 : ¬ (bh = bx) := by have := b0l2; omega
  clear p0
  go_upto_region 6 with (fail)
  clear s0c s0f
  obtain ⟨u0, hu0⟩ : ∃ u, v0.setCell ⟨bx, 1, none⟩ (.string (txV o0)) = u := ⟨_, rfl⟩
  rw [hu0] at q0 b0lt b0h0 b0h1 b0h2 b0h3 b0h4 b0h5
  rw [hu0]
  clear hu0
  obtain ⟨yy, hyy⟩ : ∃ yy, (stepY 0 (C.zero n) o0) = yy := ⟨_, rfl⟩
  obtain ⟨oo, hoo⟩ : ∃ oo, (stepO 0 o0) = oo := ⟨_, rfl⟩
  have GE := Lib.hid hyy
  have GO := Lib.hid hoo
  rw [hyy, hoo] at q0
  clear hyy hoo
  have GRG : Hid (GR (C.zero n) (hasN n) r 6 yy oo) := Lib.hid (by have := GRF.out; rw [← GE.out, ← GO.out]; exact this)
  clear GRF GE GO
  have gl1 := q0.l1
  have gl2 := q0.l2
  have glt := q0.lt
  obtain ⟨sc, is, hcut, hsc, hm⟩ := q0.co
  have cc0 := hcut.c0
  have cc1 := hcut.c1
  have HC := Lib.hid hcut
  clear hcut
  cases oo with
  | none =>
    simp only at hm
    subst hm
    have GV := Lib.hid (G1.out _ _ GRG.out rfl)
    have hR := q0.rb
    have hbel := q0.bel
    have hltR := hR.lt
    have k0 := hR.c0
    have f0 := hR.free 0
    have k1 := hR.c1
    have f1 := hR.free 1
    have k2 := hR.c2
    have f2 := hR.free 2
    have k3 := hR.c3
    have f3 := hR.free 3
    have k4 := hR.c4
    have f4 := hR.free 4
    have k5 := hR.c5
    have f5 := hR.free 5
    have k6 := hR.c6
    have f6 := hR.free 6
    try simp only [C.zero] at k0 k1 k2 k3 k4 k5 k6
    clear hR
    go_wp2
    have hfin : Below w.heap.size w (fillW u0 w.heap.size (C.zero 0)) := fillW_below hbel (Nat.le_refl _)
    unfold fillW at hfin
    try simp only [C.zero] at hfin
    refine bodyPost_ret (v := .tuple #[.agg (C.zero 0).cells, .string ⟨#[]⟩, .int .i64 7]) (by simp [results, Tryd.results13, go_sem, k0, k1, k2, k3, k4, k5, k6, C.cells, C.zero]) rfl ⟨?_, hfin⟩
    rw [GV.out]; rfl
  | some m =>
    obtain ⟨hm1, hm2⟩ := hm
    subst hm1 hm2
    have hsm := getTo_small 6 (show getTo (C.zero n) (hasN n) r 6 = some (yy, m) from GRG.out)
    have CK := Lib.hid (fun V => rcheck_any yy V (by rw [hsm.2]; exact h8) (by have := hsm.1.p; unfold maxLen; omega) (by have := hsm.1.p2; unfold maxLen; omega) (by have := hsm.1.da; unfold maxLen; omega))
    clear hsm
    have x0 := q0.xb.c0
    have x1 := q0.xb.c1
    have x2 := q0.xb.c2
    have x3 := q0.xb.c3
    have x4 := q0.xb.c4
    have x5 := q0.xb.c5
    have x6 := q0.xb.c6
    by_cases hc : yy.checkE = 0
    · have GV := Lib.hid (G3.out _ _ m GRG.out rfl hc)
      rw [hc] at CK
      clear hc
      go_wp2_with fail
      refine (CK.out _).mono ?_
      rintro e w9 ⟨rfl, b9⟩
      have g9 := q0.later b9
      have cc9 : w9.cell? ⟨w.heap.size + 1, 0, none⟩ = some (.string (B m)) := (b9.cell (p := ⟨w.heap.size + 1, 0, none⟩) (by show w.heap.size + 1 < _; omega)).trans cc0
      clear x0 x1 x2 x3 x4 x5 x6 cc0 cc1 b9 HC
      have x0 := g9.xb.c0
      have x1 := g9.xb.c1
      have x2 := g9.xb.c2
      have x3 := g9.xb.c3
      have x4 := g9.xb.c4
      have x5 := g9.xb.c5
      have x6 := g9.xb.c6
      have hR := g9.rb
      have hbel := g9.bel
      have glt9 := g9.lt
      clear g9 q0 glt b0l1 b0l2 b0lt b0h0 b0h1 b0h2 b0h3 b0h4 b0h5
      have hltR := hR.lt
      have k0 := hR.c0
      have f0 := hR.free 0
      have k1 := hR.c1
      have f1 := hR.free 1
      have k2 := hR.c2
      have f2 := hR.free 2
      have k3 := hR.c3
      have f3 := hR.free 3
      have k4 := hR.c4
      have f4 := hR.free 4
      have k5 := hR.c5
      have f5 := hR.free 5
      have k6 := hR.c6
      have f6 := hR.free 6
      try simp only [C.zero] at k0 k1 k2 k3 k4 k5 k6
      clear hR
      go_wp2_with fail
      go_region
      go_wp2
      have hfin : Below w.heap.size w (fillW w9 w.heap.size ⟨yy.d, yy.p, yy.p2, yy.fd, yy.pg, yy.sz, yy.da⟩).drew := (fillW_below hbel (Nat.le_refl _)).trans (below_drew _ _)
      unfold fillW at hfin
      try simp only [C.zero] at hfin
      refine bodyPost_ret (v := .tuple #[.agg #[.int .u8 yy.d, .string yy.p, .string yy.p2, .int .i64 yy.fd, .int .i64 yy.pg, .int .u32 yy.sz, .string yy.da], .string (B m), .int .i64 0]) (by simp [results, Tryd.results13, go_sem, k0, k1, k2, k3, k4, k5, k6, C.cells, C.zero]) rfl ⟨?_, hfin⟩
      rw [GV.out]
    · have GV := Lib.hid (G2.out _ _ m GRG.out rfl hc)
      have q3 : (yy.checkE == 0) = false := by simpa using hc
      have q4 : (yy.checkE != 0) = true := by simpa using hc
      generalize yy.checkE = ce at *
      clear hc
      go_wp2_with fail
      refine (CK.out _).mono ?_
      rintro e w9 ⟨rfl, b9⟩
      have g9 := q0.later b9
      clear x0 x1 x2 x3 x4 x5 x6 cc0 cc1 b9 HC
      have hR := g9.rb
      have hbel := g9.bel
      have glt9 := g9.lt
      clear g9 q0 glt b0l1 b0l2 b0lt b0h0 b0h1 b0h2 b0h3 b0h4 b0h5
      have hltR := hR.lt
      have k0 := hR.c0
      have f0 := hR.free 0
      have k1 := hR.c1
      have f1 := hR.free 1
      have k2 := hR.c2
      have f2 := hR.free 2
      have k3 := hR.c3
      have f3 := hR.free 3
      have k4 := hR.c4
      have f4 := hR.free 4
      have k5 := hR.c5
      have f5 := hR.free 5
      have k6 := hR.c6
      have f6 := hR.free 6
      try simp only [C.zero] at k0 k1 k2 k3 k4 k5 k6
      clear hR
      go_wp2
      have hfin : Below w.heap.size w (fillW w9 w.heap.size (C.zero 0)) := fillW_below hbel (Nat.le_refl _)
      unfold fillW at hfin
      try simp only [C.zero] at hfin
      refine bodyPost_ret (v := .tuple #[.agg (C.zero 0).cells, .string ⟨#[]⟩, .int .i64 7]) (by simp [results, Tryd.results13, go_sem, k0, k1, k2, k3, k4, k5, k6, C.cells, C.zero]) rfl ⟨?_, hfin⟩
      rw [GV.out]; rfl
set_option maxRecDepth 100000 in
set_option maxHeartbeats 4000000 in
theorem rget_131 (s : ByteArray) (c : UInt8) (r : List UInt8) (w : World) (hs : s.size ≤ 4096) (hl : L s = c :: r) (hof : ofV c.toNat = .agg #[.bool true, .bool true, .bool false, .bool false, .bool false, .bool false, .bool false, .bool true]) : Calls Tryd.prog 13 #[.string s] w fun e w' => e = .returned (getV (L s)) ∧ Below w.heap.size w w' := by
  have h8 := c.toNat_lt
  have OF := Lib.hid (fun W => rof_any c.toNat W c.toNat_lt)
  rw [hof] at OF
  have gr0 : GR (C.zero c.toNat) (hasN c.toNat) r 0 (C.zero c.toNat) (some r) := rfl
  simp only [ofV, Value.agg.injEq, Array.mk.injEq, List.cons.injEq, Value.bool.injEq, and_true] at hof
  obtain ⟨e1, e2, e3, e4, e5, e6, e7, e8⟩ := hof
  have gr1 := gr0.yes (by decide) (show hasB (hasN c.toNat) (bitOf 0) = true from e1)
  have gr2 := gr1.yes (by decide) (show hasB (hasN c.toNat) (bitOf 1) = true from e2)
  have gr3 := gr2.no (show hasB (hasN c.toNat) (bitOf 2) = false from e3)
  have gr4 := gr3.no (show hasB (hasN c.toNat) (bitOf 3) = false from e4)
  have gr5 := gr4.no (show hasB (hasN c.toNat) (bitOf 4) = false from e5)
  have gr6 := gr5.no (show hasB (hasN c.toNat) (bitOf 5) = false from e6)
  have G1 : Hid (∀ y o, GR (C.zero c.toNat) (hasN c.toNat) r 6 y o → o = none → getV (L s) = .tuple #[.agg #[.int .u8 0, .string ⟨#[]⟩, .string ⟨#[]⟩, .int .i64 0, .int .i64 0, .int .u32 0, .string ⟨#[]⟩], .string ⟨#[]⟩, .int .i64 7]) := Lib.hid (fun y o hg ho => by
    subst ho
    simp only [GR] at hg
    rw [hl]
    refine getV_none' ?_
    simp only [getL, hg])
  have G2 : Hid (∀ y o m, GR (C.zero c.toNat) (hasN c.toNat) r 6 y o → o = some m → y.checkE ≠ 0 → getV (L s) = .tuple #[.agg #[.int .u8 0, .string ⟨#[]⟩, .string ⟨#[]⟩, .int .i64 0, .int .i64 0, .int .u32 0, .string ⟨#[]⟩], .string ⟨#[]⟩, .int .i64 7]) := Lib.hid (fun y o m hg ho hc => by
    subst ho
    simp only [GR] at hg
    rw [hl]
    refine getV_none' ?_
    simp only [getL, hg]
    rw [if_neg hc])
  have G3 : Hid (∀ y o m, GR (C.zero c.toNat) (hasN c.toNat) r 6 y o → o = some m → y.checkE = 0 → getV (L s) = .tuple #[.agg #[.int .u8 y.d, .string y.p, .string y.p2, .int .i64 y.fd, .int .i64 y.pg, .int .u32 y.sz, .string y.da], .string (B m), .int .i64 0]) := Lib.hid (fun y o m hg ho hc => by
    subst ho
    simp only [GR] at hg
    rw [hl]
    refine getV_some' ?_
    simp only [getL, hg]
    rw [if_pos hc])
  have GRF := Lib.hid gr6
  clear gr0 gr1 gr2 gr3 gr4 gr5 gr6 e1 e2 e3 e4 e5 e6 e7 e8
  have N1 : Hid (∀ W, CutO W (w.heap.size + 1) (some (L s)) → Calls Tryd.prog 26 #[.pointer (some ⟨w.heap.size + 1, 0, none⟩), .int .i64 1] W fun e w' => e = .returned (.int .u32 c.toNat) ∧ CutO w' (w.heap.size + 1) (some r) ∧ Only (w.heap.size + 1) W w') := Lib.hid (fun W hW => by
    have := num1_any (w.heap.size + 1) _ W hW
    rw [hl] at this
    exact this)
  have HS : Hid (s = B (L s)) := Lib.hid rfl
  generalize getV (L s) = gv at *
  generalize c.toNat = n at *
  generalize (some r : Option (List UInt8)) = o0 at *
  clear hl
  go_enter Tryd.func13, Tryd.ntmps13
  go_wp2_with fail
  refine (N1.out _ ⟨s, true, ?_, by omega, rfl, HS.out⟩).mono ?_
  · have := heap_alloc_new (w.alloc (.cells (C.zero 0).cells 24)) (.cells #[.string s, .bool true] 62)
    rw [World.size_alloc] at this
    exact this
  rintro e w1 ⟨rfl, co1, on1⟩
  have z1 : w1.heap.size = w.heap.size + 1 + 1 := by rw [on1.size]; simp
  have rb1 : Box w1 w.heap.size (C.zero 0) := (on1.other _ (by omega)).trans (Box.alloc (b := w.heap.size) (x := C.zero 0) (w := w.alloc _) (heap_alloc_new w _) _)
  have bel1 : Below w.heap.size w w1 := (((Below.refl _ w).alloc (Nat.le_refl _) _).alloc (by simp) _).trans (on1.below.mono (by omega))
  clear on1 N1
  have Z1 := Lib.hid z1
  clear z1
  go_wp2_with fail
  refine (OF.out _).mono ?_
  rintro e w2 ⟨rfl, b2⟩
  have hlt12 : w1.heap.size < w2.heap.size := by have := b2.size; simp at this; omega
  have g2 : GS w (w2.alloc (.cells #[.bool true, .bool true, .bool false, .bool false, .bool false, .bool false, .bool false, .bool true] 58)) w1.heap.size w2.heap.size #[.bool true, .bool true, .bool false, .bool false, .bool false, .bool false, .bool false, .bool true] (C.zero n) o0 :=
    ⟨((rb1.alloc _).below (by simp; have := Z1.out; omega) b2).alloc _, Box.alloc (Box.below (w := w1.alloc (.cells (C.zero n).cells 24)) (b := w1.heap.size) (x := C.zero n) (heap_alloc_new w1 _) (by simp) b2) _, heap_alloc_new w2 _,
      (co1.same ((b2.block _ (by simp; have := Z1.out; omega)).trans (heap_alloc_old w1 _ (by have := Z1.out; omega)))).same (heap_alloc_old w2 _ (by have := Z1.out; omega)), by have := Z1.out; omega, hlt12, ((bel1.alloc bel1.size _).trans (b2.mono (by have := bel1.size; simp; omega))).alloc (by have := bel1.size; omega) _⟩
  clear b2 rb1 bel1 co1 Z1 OF
  go_upto_region 4 with (fail)
  have hltb : w2.heap.size < (w2.alloc (.cells #[.bool true, .bool true, .bool false, .bool false, .bool false, .bool false, .bool false, .bool true] 58)).heap.size := by simp
  obtain ⟨W, hW⟩ : ∃ W, w2.alloc (.cells #[.bool true, .bool true, .bool false, .bool false, .bool false, .bool false, .bool false, .bool true] 58) = W := ⟨_, rfl⟩
  obtain ⟨bx, hbx⟩ : ∃ b, w1.heap.size = b := ⟨_, rfl⟩
  obtain ⟨bh, hbh⟩ : ∃ b, w2.heap.size = b := ⟨_, rfl⟩
  rw [hW, hbx, hbh] at g2
  rw [hW, hbx, hbh]
  clear hW hbx hbh hlt12 hltb
  have al1 := g2.l1
  have al2 := g2.l2
  have alt := g2.lt
  have ah0 : W.cell? ⟨bh, 0, none⟩ = some (.bool true) := g2.h 0
  have ah1 : W.cell? ⟨bh, 1, none⟩ = some (.bool true) := g2.h 1
  have ah2 : W.cell? ⟨bh, 2, none⟩ = some (.bool false) := g2.h 2
  have ah3 : W.cell? ⟨bh, 3, none⟩ = some (.bool false) := g2.h 3
  have ah4 : W.cell? ⟨bh, 4, none⟩ = some (.bool false) := g2.h 4
  have ah5 : W.cell? ⟨bh, 5, none⟩ = some (.bool false) := g2.h 5
  go_wp2_with fail
  refine (txt_any _ _ _ g2.co).mono ?_
  rintro e v0 ⟨rfl, co0, on0⟩
  have p0 := g2.only on0 co0
  clear on0 co0 g2 al1 al2 alt ah0 ah1 ah2 ah3 ah4 ah5
  have s0c := p0.xb.c1
  have s0f := p0.xb.free 1
  have q0 : GS w (v0.setCell ⟨bx, 1, none⟩ (.string (txV o0))) bx bh #[.bool true, .bool true, .bool false, .bool false, .bool false, .bool false, .bool false, .bool true] (stepY 0 (C.zero n) o0) (stepO 0 o0) := p0.set 1 _ rfl
  have b0l1 := q0.l1
  have b0l2 := q0.l2
  have b0lt := q0.lt
  have b0h0 : (v0.setCell ⟨bx, 1, none⟩ (.string (txV o0))).cell? ⟨bh, 0, none⟩ = some (.bool true) := q0.h 0
  have b0h1 : (v0.setCell ⟨bx, 1, none⟩ (.string (txV o0))).cell? ⟨bh, 1, none⟩ = some (.bool true) := q0.h 1
  have b0h2 : (v0.setCell ⟨bx, 1, none⟩ (.string (txV o0))).cell? ⟨bh, 2, none⟩ = some (.bool false) := q0.h 2
  have b0h3 : (v0.setCell ⟨bx, 1, none⟩ (.string (txV o0))).cell? ⟨bh, 3, none⟩ = some (.bool false) := q0.h 3
  have b0h4 : (v0.setCell ⟨bx, 1, none⟩ (.string (txV o0))).cell? ⟨bh, 4, none⟩ = some (.bool false) := q0.h 4
  have b0h5 : (v0.setCell ⟨bx, 1, none⟩ (.string (txV o0))).cell? ⟨bh, 5, none⟩ = some (.bool false) := q0.h 5
  have n01 : ¬ (bx = bh) := by have := b0l2; omega
  have n02 : ¬ (bh = bx) := by have := b0l2; omega
  clear p0
  go_upto_region 6 with (fail)
  clear s0c s0f
  obtain ⟨u0, hu0⟩ : ∃ u, v0.setCell ⟨bx, 1, none⟩ (.string (txV o0)) = u := ⟨_, rfl⟩
  rw [hu0] at q0 b0lt b0h0 b0h1 b0h2 b0h3 b0h4 b0h5
  rw [hu0]
  clear hu0
  go_wp2_with fail
  refine (txt_any _ _ _ q0.co).mono ?_
  rintro e v1 ⟨rfl, co1, on1⟩
  have p1 := q0.only on1 co1
  clear on1 co1 q0 b0l1 b0l2 b0lt b0h0 b0h1 b0h2 b0h3 b0h4 b0h5
  have s1c := p1.xb.c2
  have s1f := p1.xb.free 2
  have q1 : GS w (v1.setCell ⟨bx, 2, none⟩ (.string (txV (stepO 0 o0)))) bx bh #[.bool true, .bool true, .bool false, .bool false, .bool false, .bool false, .bool false, .bool true] (stepY 1 (stepY 0 (C.zero n) o0) (stepO 0 o0)) (stepO 1 (stepO 0 o0)) := p1.set 2 _ rfl
  have b1l1 := q1.l1
  have b1l2 := q1.l2
  have b1lt := q1.lt
  have b1h0 : (v1.setCell ⟨bx, 2, none⟩ (.string (txV (stepO 0 o0)))).cell? ⟨bh, 0, none⟩ = some (.bool true) := q1.h 0
  have b1h1 : (v1.setCell ⟨bx, 2, none⟩ (.string (txV (stepO 0 o0)))).cell? ⟨bh, 1, none⟩ = some (.bool true) := q1.h 1
  have b1h2 : (v1.setCell ⟨bx, 2, none⟩ (.string (txV (stepO 0 o0)))).cell? ⟨bh, 2, none⟩ = some (.bool false) := q1.h 2
  have b1h3 : (v1.setCell ⟨bx, 2, none⟩ (.string (txV (stepO 0 o0)))).cell? ⟨bh, 3, none⟩ = some (.bool false) := q1.h 3
  have b1h4 : (v1.setCell ⟨bx, 2, none⟩ (.string (txV (stepO 0 o0)))).cell? ⟨bh, 4, none⟩ = some (.bool false) := q1.h 4
  have b1h5 : (v1.setCell ⟨bx, 2, none⟩ (.string (txV (stepO 0 o0)))).cell? ⟨bh, 5, none⟩ = some (.bool false) := q1.h 5
  have n11 : ¬ (bx = bh) := by have := b1l2; omega
  have n12 : ¬ (bh = bx) := by have := b1l2; omega
  clear p1
  go_upto_region 8 with (fail)
  clear s1c s1f
  obtain ⟨u1, hu1⟩ : ∃ u, v1.setCell ⟨bx, 2, none⟩ (.string (txV (stepO 0 o0))) = u := ⟨_, rfl⟩
  rw [hu1] at q1 b1lt b1h0 b1h1 b1h2 b1h3 b1h4 b1h5
  rw [hu1]
  clear hu1
  obtain ⟨yy, hyy⟩ : ∃ yy, (stepY 1 (stepY 0 (C.zero n) o0) (stepO 0 o0)) = yy := ⟨_, rfl⟩
  obtain ⟨oo, hoo⟩ : ∃ oo, (stepO 1 (stepO 0 o0)) = oo := ⟨_, rfl⟩
  have GE := Lib.hid hyy
  have GO := Lib.hid hoo
  rw [hyy, hoo] at q1
  clear hyy hoo
  have GRG : Hid (GR (C.zero n) (hasN n) r 6 yy oo) := Lib.hid (by have := GRF.out; rw [← GE.out, ← GO.out]; exact this)
  clear GRF GE GO
  have gl1 := q1.l1
  have gl2 := q1.l2
  have glt := q1.lt
  obtain ⟨sc, is, hcut, hsc, hm⟩ := q1.co
  have cc0 := hcut.c0
  have cc1 := hcut.c1
  have HC := Lib.hid hcut
  clear hcut
  cases oo with
  | none =>
    simp only at hm
    subst hm
    have GV := Lib.hid (G1.out _ _ GRG.out rfl)
    have hR := q1.rb
    have hbel := q1.bel
    have hltR := hR.lt
    have k0 := hR.c0
    have f0 := hR.free 0
    have k1 := hR.c1
    have f1 := hR.free 1
    have k2 := hR.c2
    have f2 := hR.free 2
    have k3 := hR.c3
    have f3 := hR.free 3
    have k4 := hR.c4
    have f4 := hR.free 4
    have k5 := hR.c5
    have f5 := hR.free 5
    have k6 := hR.c6
    have f6 := hR.free 6
    try simp only [C.zero] at k0 k1 k2 k3 k4 k5 k6
    clear hR
    go_wp2
    have hfin : Below w.heap.size w (fillW u1 w.heap.size (C.zero 0)) := fillW_below hbel (Nat.le_refl _)
    unfold fillW at hfin
    try simp only [C.zero] at hfin
    refine bodyPost_ret (v := .tuple #[.agg (C.zero 0).cells, .string ⟨#[]⟩, .int .i64 7]) (by simp [results, Tryd.results13, go_sem, k0, k1, k2, k3, k4, k5, k6, C.cells, C.zero]) rfl ⟨?_, hfin⟩
    rw [GV.out]; rfl
  | some m =>
    obtain ⟨hm1, hm2⟩ := hm
    subst hm1 hm2
    have hsm := getTo_small 6 (show getTo (C.zero n) (hasN n) r 6 = some (yy, m) from GRG.out)
    have CK := Lib.hid (fun V => rcheck_any yy V (by rw [hsm.2]; exact h8) (by have := hsm.1.p; unfold maxLen; omega) (by have := hsm.1.p2; unfold maxLen; omega) (by have := hsm.1.da; unfold maxLen; omega))
    clear hsm
    have x0 := q1.xb.c0
    have x1 := q1.xb.c1
    have x2 := q1.xb.c2
    have x3 := q1.xb.c3
    have x4 := q1.xb.c4
    have x5 := q1.xb.c5
    have x6 := q1.xb.c6
    by_cases hc : yy.checkE = 0
    · have GV := Lib.hid (G3.out _ _ m GRG.out rfl hc)
      rw [hc] at CK
      clear hc
      go_wp2_with fail
      refine (CK.out _).mono ?_
      rintro e w9 ⟨rfl, b9⟩
      have g9 := q1.later b9
      have cc9 : w9.cell? ⟨w.heap.size + 1, 0, none⟩ = some (.string (B m)) := (b9.cell (p := ⟨w.heap.size + 1, 0, none⟩) (by show w.heap.size + 1 < _; omega)).trans cc0
      clear x0 x1 x2 x3 x4 x5 x6 cc0 cc1 b9 HC
      have x0 := g9.xb.c0
      have x1 := g9.xb.c1
      have x2 := g9.xb.c2
      have x3 := g9.xb.c3
      have x4 := g9.xb.c4
      have x5 := g9.xb.c5
      have x6 := g9.xb.c6
      have hR := g9.rb
      have hbel := g9.bel
      have glt9 := g9.lt
      clear g9 q1 glt b1l1 b1l2 b1lt b1h0 b1h1 b1h2 b1h3 b1h4 b1h5
      have hltR := hR.lt
      have k0 := hR.c0
      have f0 := hR.free 0
      have k1 := hR.c1
      have f1 := hR.free 1
      have k2 := hR.c2
      have f2 := hR.free 2
      have k3 := hR.c3
      have f3 := hR.free 3
      have k4 := hR.c4
      have f4 := hR.free 4
      have k5 := hR.c5
      have f5 := hR.free 5
      have k6 := hR.c6
      have f6 := hR.free 6
      try simp only [C.zero] at k0 k1 k2 k3 k4 k5 k6
      clear hR
      go_wp2_with fail
      go_region
      go_wp2
      have hfin : Below w.heap.size w (fillW w9 w.heap.size ⟨yy.d, yy.p, yy.p2, yy.fd, yy.pg, yy.sz, yy.da⟩).drew := (fillW_below hbel (Nat.le_refl _)).trans (below_drew _ _)
      unfold fillW at hfin
      try simp only [C.zero] at hfin
      refine bodyPost_ret (v := .tuple #[.agg #[.int .u8 yy.d, .string yy.p, .string yy.p2, .int .i64 yy.fd, .int .i64 yy.pg, .int .u32 yy.sz, .string yy.da], .string (B m), .int .i64 0]) (by simp [results, Tryd.results13, go_sem, k0, k1, k2, k3, k4, k5, k6, C.cells, C.zero]) rfl ⟨?_, hfin⟩
      rw [GV.out]
    · have GV := Lib.hid (G2.out _ _ m GRG.out rfl hc)
      have q3 : (yy.checkE == 0) = false := by simpa using hc
      have q4 : (yy.checkE != 0) = true := by simpa using hc
      generalize yy.checkE = ce at *
      clear hc
      go_wp2_with fail
      refine (CK.out _).mono ?_
      rintro e w9 ⟨rfl, b9⟩
      have g9 := q1.later b9
      clear x0 x1 x2 x3 x4 x5 x6 cc0 cc1 b9 HC
      have hR := g9.rb
      have hbel := g9.bel
      have glt9 := g9.lt
      clear g9 q1 glt b1l1 b1l2 b1lt b1h0 b1h1 b1h2 b1h3 b1h4 b1h5
      have hltR := hR.lt
      have k0 := hR.c0
      have f0 := hR.free 0
      have k1 := hR.c1
      have f1 := hR.free 1
      have k2 := hR.c2
      have f2 := hR.free 2
      have k3 := hR.c3
      have f3 := hR.free 3
      have k4 := hR.c4
      have f4 := hR.free 4
      have k5 := hR.c5
      have f5 := hR.free 5
      have k6 := hR.c6
      have f6 := hR.free 6
      try simp only [C.zero] at k0 k1 k2 k3 k4 k5 k6
      clear hR
      go_wp2
      have hfin : Below w.heap.size w (fillW w9 w.heap.size (C.zero 0)) := fillW_below hbel (Nat.le_refl _)
      unfold fillW at hfin
      try simp only [C.zero] at hfin
      refine bodyPost_ret (v := .tuple #[.agg (C.zero 0).cells, .string ⟨#[]⟩, .int .i64 7]) (by simp [results, Tryd.results13, go_sem, k0, k1, k2, k3, k4, k5, k6, C.cells, C.zero]) rfl ⟨?_, hfin⟩
      rw [GV.out]; rfl
set_option maxRecDepth 100000 in
set_option maxHeartbeats 4000000 in
theorem rget_195 (s : ByteArray) (c : UInt8) (r : List UInt8) (w : World) (hs : s.size ≤ 4096) (hl : L s = c :: r) (hof : ofV c.toNat = .agg #[.bool true, .bool true, .bool false, .bool false, .bool false, .bool false, .bool true, .bool true]) : Calls Tryd.prog 13 #[.string s] w fun e w' => e = .returned (getV (L s)) ∧ Below w.heap.size w w' := by
  have h8 := c.toNat_lt
  have OF := Lib.hid (fun W => rof_any c.toNat W c.toNat_lt)
  rw [hof] at OF
  have gr0 : GR (C.zero c.toNat) (hasN c.toNat) r 0 (C.zero c.toNat) (some r) := rfl
  simp only [ofV, Value.agg.injEq, Array.mk.injEq, List.cons.injEq, Value.bool.injEq, and_true] at hof
  obtain ⟨e1, e2, e3, e4, e5, e6, e7, e8⟩ := hof
  have gr1 := gr0.yes (by decide) (show hasB (hasN c.toNat) (bitOf 0) = true from e1)
  have gr2 := gr1.yes (by decide) (show hasB (hasN c.toNat) (bitOf 1) = true from e2)
  have gr3 := gr2.no (show hasB (hasN c.toNat) (bitOf 2) = false from e3)
  have gr4 := gr3.no (show hasB (hasN c.toNat) (bitOf 3) = false from e4)
  have gr5 := gr4.no (show hasB (hasN c.toNat) (bitOf 4) = false from e5)
  have gr6 := gr5.no (show hasB (hasN c.toNat) (bitOf 5) = false from e6)
  have G1 : Hid (∀ y o, GR (C.zero c.toNat) (hasN c.toNat) r 6 y o → o = none → getV (L s) = .tuple #[.agg #[.int .u8 0, .string ⟨#[]⟩, .string ⟨#[]⟩, .int .i64 0, .int .i64 0, .int .u32 0, .string ⟨#[]⟩], .string ⟨#[]⟩, .int .i64 7]) := Lib.hid (fun y o hg ho => by
    subst ho
    simp only [GR] at hg
    rw [hl]
    refine getV_none' ?_
    simp only [getL, hg])
  have G2 : Hid (∀ y o m, GR (C.zero c.toNat) (hasN c.toNat) r 6 y o → o = some m → y.checkE ≠ 0 → getV (L s) = .tuple #[.agg #[.int .u8 0, .string ⟨#[]⟩, .string ⟨#[]⟩, .int .i64 0, .int .i64 0, .int .u32 0, .string ⟨#[]⟩], .string ⟨#[]⟩, .int .i64 7]) := Lib.hid (fun y o m hg ho hc => by
    subst ho
    simp only [GR] at hg
    rw [hl]
    refine getV_none' ?_
    simp only [getL, hg]
    rw [if_neg hc])
  have G3 : Hid (∀ y o m, GR (C.zero c.toNat) (hasN c.toNat) r 6 y o → o = some m → y.checkE = 0 → getV (L s) = .tuple #[.agg #[.int .u8 y.d, .string y.p, .string y.p2, .int .i64 y.fd, .int .i64 y.pg, .int .u32 y.sz, .string y.da], .string (B m), .int .i64 0]) := Lib.hid (fun y o m hg ho hc => by
    subst ho
    simp only [GR] at hg
    rw [hl]
    refine getV_some' ?_
    simp only [getL, hg]
    rw [if_pos hc])
  have GRF := Lib.hid gr6
  clear gr0 gr1 gr2 gr3 gr4 gr5 gr6 e1 e2 e3 e4 e5 e6 e7 e8
  have N1 : Hid (∀ W, CutO W (w.heap.size + 1) (some (L s)) → Calls Tryd.prog 26 #[.pointer (some ⟨w.heap.size + 1, 0, none⟩), .int .i64 1] W fun e w' => e = .returned (.int .u32 c.toNat) ∧ CutO w' (w.heap.size + 1) (some r) ∧ Only (w.heap.size + 1) W w') := Lib.hid (fun W hW => by
    have := num1_any (w.heap.size + 1) _ W hW
    rw [hl] at this
    exact this)
  have HS : Hid (s = B (L s)) := Lib.hid rfl
  generalize getV (L s) = gv at *
  generalize c.toNat = n at *
  generalize (some r : Option (List UInt8)) = o0 at *
  clear hl
  go_enter Tryd.func13, Tryd.ntmps13
  go_wp2_with fail
  refine (N1.out _ ⟨s, true, ?_, by omega, rfl, HS.out⟩).mono ?_
  · have := heap_alloc_new (w.alloc (.cells (C.zero 0).cells 24)) (.cells #[.string s, .bool true] 62)
    rw [World.size_alloc] at this
    exact this
  rintro e w1 ⟨rfl, co1, on1⟩
  have z1 : w1.heap.size = w.heap.size + 1 + 1 := by rw [on1.size]; simp
  have rb1 : Box w1 w.heap.size (C.zero 0) := (on1.other _ (by omega)).trans (Box.alloc (b := w.heap.size) (x := C.zero 0) (w := w.alloc _) (heap_alloc_new w _) _)
  have bel1 : Below w.heap.size w w1 := (((Below.refl _ w).alloc (Nat.le_refl _) _).alloc (by simp) _).trans (on1.below.mono (by omega))
  clear on1 N1
  have Z1 := Lib.hid z1
  clear z1
  go_wp2_with fail
  refine (OF.out _).mono ?_
  rintro e w2 ⟨rfl, b2⟩
  have hlt12 : w1.heap.size < w2.heap.size := by have := b2.size; simp at this; omega
  have g2 : GS w (w2.alloc (.cells #[.bool true, .bool true, .bool false, .bool false, .bool false, .bool false, .bool true, .bool true] 58)) w1.heap.size w2.heap.size #[.bool true, .bool true, .bool false, .bool false, .bool false, .bool false, .bool true, .bool true] (C.zero n) o0 :=
    ⟨((rb1.alloc _).below (by simp; have := Z1.out; omega) b2).alloc _, Box.alloc (Box.below (w := w1.alloc (.cells (C.zero n).cells 24)) (b := w1.heap.size) (x := C.zero n) (heap_alloc_new w1 _) (by simp) b2) _, heap_alloc_new w2 _,
      (co1.same ((b2.block _ (by simp; have := Z1.out; omega)).trans (heap_alloc_old w1 _ (by have := Z1.out; omega)))).same (heap_alloc_old w2 _ (by have := Z1.out; omega)), by have := Z1.out; omega, hlt12, ((bel1.alloc bel1.size _).trans (b2.mono (by have := bel1.size; simp; omega))).alloc (by have := bel1.size; omega) _⟩
  clear b2 rb1 bel1 co1 Z1 OF
  go_upto_region 4 with (fail)
  have hltb : w2.heap.size < (w2.alloc (.cells #[.bool true, .bool true, .bool false, .bool false, .bool false, .bool false, .bool true, .bool true] 58)).heap.size := by simp
  obtain ⟨W, hW⟩ : ∃ W, w2.alloc (.cells #[.bool true, .bool true, .bool false, .bool false, .bool false, .bool false, .bool true, .bool true] 58) = W := ⟨_, rfl⟩
  obtain ⟨bx, hbx⟩ : ∃ b, w1.heap.size = b := ⟨_, rfl⟩
  obtain ⟨bh, hbh⟩ : ∃ b, w2.heap.size = b := ⟨_, rfl⟩
  rw [hW, hbx, hbh] at g2
  rw [hW, hbx, hbh]
  clear hW hbx hbh hlt12 hltb
  have al1 := g2.l1
  have al2 := g2.l2
  have alt := g2.lt
  have ah0 : W.cell? ⟨bh, 0, none⟩ = some (.bool true) := g2.h 0
  have ah1 : W.cell? ⟨bh, 1, none⟩ = some (.bool true) := g2.h 1
  have ah2 : W.cell? ⟨bh, 2, none⟩ = some (.bool false) := g2.h 2
  have ah3 : W.cell? ⟨bh, 3, none⟩ = some (.bool false) := g2.h 3
  have ah4 : W.cell? ⟨bh, 4, none⟩ = some (.bool false) := g2.h 4
  have ah5 : W.cell? ⟨bh, 5, none⟩ = some (.bool false) := g2.h 5
  go_wp2_with fail
  refine (txt_any _ _ _ g2.co).mono ?_
  rintro e v0 ⟨rfl, co0, on0⟩
  have p0 := g2.only on0 co0
  clear on0 co0 g2 al1 al2 alt ah0 ah1 ah2 ah3 ah4 ah5
  have s0c := p0.xb.c1
  have s0f := p0.xb.free 1
  have q0 : GS w (v0.setCell ⟨bx, 1, none⟩ (.string (txV o0))) bx bh #[.bool true, .bool true, .bool false, .bool false, .bool false, .bool false, .bool true, .bool true] (stepY 0 (C.zero n) o0) (stepO 0 o0) := p0.set 1 _ rfl
  have b0l1 := q0.l1
  have b0l2 := q0.l2
  have b0lt := q0.lt
  have b0h0 : (v0.setCell ⟨bx, 1, none⟩ (.string (txV o0))).cell? ⟨bh, 0, none⟩ = some (.bool true) := q0.h 0
  have b0h1 : (v0.setCell ⟨bx, 1, none⟩ (.string (txV o0))).cell? ⟨bh, 1, none⟩ = some (.bool true) := q0.h 1
  have b0h2 : (v0.setCell ⟨bx, 1, none⟩ (.string (txV o0))).cell? ⟨bh, 2, none⟩ = some (.bool false) := q0.h 2
  have b0h3 : (v0.setCell ⟨bx, 1, none⟩ (.string (txV o0))).cell? ⟨bh, 3, none⟩ = some (.bool false) := q0.h 3
  have b0h4 : (v0.setCell ⟨bx, 1, none⟩ (.string (txV o0))).cell? ⟨bh, 4, none⟩ = some (.bool false) := q0.h 4
  have b0h5 : (v0.setCell ⟨bx, 1, none⟩ (.string (txV o0))).cell? ⟨bh, 5, none⟩ = some (.bool false) := q0.h 5
  have n01 : ¬ (bx = bh) := by have := b0l2; omega
  have n02 : ¬ (bh = bx) := by have := b0l2; omega
  clear p0
  go_upto_region 6 with (fail)
  clear s0c s0f
  obtain ⟨u0, hu0⟩ : ∃ u, v0.setCell ⟨bx, 1, none⟩ (.string (txV o0)) = u := ⟨_, rfl⟩
  rw [hu0] at q0 b0lt b0h0 b0h1 b0h2 b0h3 b0h4 b0h5
  rw [hu0]
  clear hu0
  go_wp2_with fail
  refine (txt_any _ _ _ q0.co).mono ?_
  rintro e v1 ⟨rfl, co1, on1⟩
  have p1 := q0.only on1 co1
  clear on1 co1 q0 b0l1 b0l2 b0lt b0h0 b0h1 b0h2 b0h3 b0h4 b0h5
  have s1c := p1.xb.c2
  have s1f := p1.xb.free 2
  have q1 : GS w (v1.setCell ⟨bx, 2, none⟩ (.string (txV (stepO 0 o0)))) bx bh #[.bool true, .bool true, .bool false, .bool false, .bool false, .bool false, .bool true, .bool true] (stepY 1 (stepY 0 (C.zero n) o0) (stepO 0 o0)) (stepO 1 (stepO 0 o0)) := p1.set 2 _ rfl
  have b1l1 := q1.l1
  have b1l2 := q1.l2
  have b1lt := q1.lt
  have b1h0 : (v1.setCell ⟨bx, 2, none⟩ (.string (txV (stepO 0 o0)))).cell? ⟨bh, 0, none⟩ = some (.bool true) := q1.h 0
  have b1h1 : (v1.setCell ⟨bx, 2, none⟩ (.string (txV (stepO 0 o0)))).cell? ⟨bh, 1, none⟩ = some (.bool true) := q1.h 1
  have b1h2 : (v1.setCell ⟨bx, 2, none⟩ (.string (txV (stepO 0 o0)))).cell? ⟨bh, 2, none⟩ = some (.bool false) := q1.h 2
  have b1h3 : (v1.setCell ⟨bx, 2, none⟩ (.string (txV (stepO 0 o0)))).cell? ⟨bh, 3, none⟩ = some (.bool false) := q1.h 3
  have b1h4 : (v1.setCell ⟨bx, 2, none⟩ (.string (txV (stepO 0 o0)))).cell? ⟨bh, 4, none⟩ = some (.bool false) := q1.h 4
  have b1h5 : (v1.setCell ⟨bx, 2, none⟩ (.string (txV (stepO 0 o0)))).cell? ⟨bh, 5, none⟩ = some (.bool false) := q1.h 5
  have n11 : ¬ (bx = bh) := by have := b1l2; omega
  have n12 : ¬ (bh = bx) := by have := b1l2; omega
  clear p1
  go_upto_region 8 with (fail)
  clear s1c s1f
  obtain ⟨u1, hu1⟩ : ∃ u, v1.setCell ⟨bx, 2, none⟩ (.string (txV (stepO 0 o0))) = u := ⟨_, rfl⟩
  rw [hu1] at q1 b1lt b1h0 b1h1 b1h2 b1h3 b1h4 b1h5
  rw [hu1]
  clear hu1
  obtain ⟨yy, hyy⟩ : ∃ yy, (stepY 1 (stepY 0 (C.zero n) o0) (stepO 0 o0)) = yy := ⟨_, rfl⟩
  obtain ⟨oo, hoo⟩ : ∃ oo, (stepO 1 (stepO 0 o0)) = oo := ⟨_, rfl⟩
  have GE := Lib.hid hyy
  have GO := Lib.hid hoo
  rw [hyy, hoo] at q1
  clear hyy hoo
  have GRG : Hid (GR (C.zero n) (hasN n) r 6 yy oo) := Lib.hid (by have := GRF.out; rw [← GE.out, ← GO.out]; exact this)
  clear GRF GE GO
  have gl1 := q1.l1
  have gl2 := q1.l2
  have glt := q1.lt
  obtain ⟨sc, is, hcut, hsc, hm⟩ := q1.co
  have cc0 := hcut.c0
  have cc1 := hcut.c1
  have HC := Lib.hid hcut
  clear hcut
  cases oo with
  | none =>
    simp only at hm
    subst hm
    have GV := Lib.hid (G1.out _ _ GRG.out rfl)
    have hR := q1.rb
    have hbel := q1.bel
    have hltR := hR.lt
    have k0 := hR.c0
    have f0 := hR.free 0
    have k1 := hR.c1
    have f1 := hR.free 1
    have k2 := hR.c2
    have f2 := hR.free 2
    have k3 := hR.c3
    have f3 := hR.free 3
    have k4 := hR.c4
    have f4 := hR.free 4
    have k5 := hR.c5
    have f5 := hR.free 5
    have k6 := hR.c6
    have f6 := hR.free 6
    try simp only [C.zero] at k0 k1 k2 k3 k4 k5 k6
    clear hR
    go_wp2
    have hfin : Below w.heap.size w (fillW u1 w.heap.size (C.zero 0)) := fillW_below hbel (Nat.le_refl _)
    unfold fillW at hfin
    try simp only [C.zero] at hfin
    refine bodyPost_ret (v := .tuple #[.agg (C.zero 0).cells, .string ⟨#[]⟩, .int .i64 7]) (by simp [results, Tryd.results13, go_sem, k0, k1, k2, k3, k4, k5, k6, C.cells, C.zero]) rfl ⟨?_, hfin⟩
    rw [GV.out]; rfl
  | some m =>
    obtain ⟨hm1, hm2⟩ := hm
    subst hm1 hm2
    have hsm := getTo_small 6 (show getTo (C.zero n) (hasN n) r 6 = some (yy, m) from GRG.out)
    have CK := Lib.hid (fun V => rcheck_any yy V (by rw [hsm.2]; exact h8) (by have := hsm.1.p; unfold maxLen; omega) (by have := hsm.1.p2; unfold maxLen; omega) (by have := hsm.1.da; unfold maxLen; omega))
    clear hsm
    have x0 := q1.xb.c0
    have x1 := q1.xb.c1
    have x2 := q1.xb.c2
    have x3 := q1.xb.c3
    have x4 := q1.xb.c4
    have x5 := q1.xb.c5
    have x6 := q1.xb.c6
    by_cases hc : yy.checkE = 0
    · have GV := Lib.hid (G3.out _ _ m GRG.out rfl hc)
      rw [hc] at CK
      clear hc
      go_wp2_with fail
      refine (CK.out _).mono ?_
      rintro e w9 ⟨rfl, b9⟩
      have g9 := q1.later b9
      have cc9 : w9.cell? ⟨w.heap.size + 1, 0, none⟩ = some (.string (B m)) := (b9.cell (p := ⟨w.heap.size + 1, 0, none⟩) (by show w.heap.size + 1 < _; omega)).trans cc0
      clear x0 x1 x2 x3 x4 x5 x6 cc0 cc1 b9 HC
      have x0 := g9.xb.c0
      have x1 := g9.xb.c1
      have x2 := g9.xb.c2
      have x3 := g9.xb.c3
      have x4 := g9.xb.c4
      have x5 := g9.xb.c5
      have x6 := g9.xb.c6
      have hR := g9.rb
      have hbel := g9.bel
      have glt9 := g9.lt
      clear g9 q1 glt b1l1 b1l2 b1lt b1h0 b1h1 b1h2 b1h3 b1h4 b1h5
      have hltR := hR.lt
      have k0 := hR.c0
      have f0 := hR.free 0
      have k1 := hR.c1
      have f1 := hR.free 1
      have k2 := hR.c2
      have f2 := hR.free 2
      have k3 := hR.c3
      have f3 := hR.free 3
      have k4 := hR.c4
      have f4 := hR.free 4
      have k5 := hR.c5
      have f5 := hR.free 5
      have k6 := hR.c6
      have f6 := hR.free 6
      try simp only [C.zero] at k0 k1 k2 k3 k4 k5 k6
      clear hR
      go_wp2_with fail
      go_region
      go_wp2
      have hfin : Below w.heap.size w (fillW w9 w.heap.size ⟨yy.d, yy.p, yy.p2, yy.fd, yy.pg, yy.sz, yy.da⟩).drew := (fillW_below hbel (Nat.le_refl _)).trans (below_drew _ _)
      unfold fillW at hfin
      try simp only [C.zero] at hfin
      refine bodyPost_ret (v := .tuple #[.agg #[.int .u8 yy.d, .string yy.p, .string yy.p2, .int .i64 yy.fd, .int .i64 yy.pg, .int .u32 yy.sz, .string yy.da], .string (B m), .int .i64 0]) (by simp [results, Tryd.results13, go_sem, k0, k1, k2, k3, k4, k5, k6, C.cells, C.zero]) rfl ⟨?_, hfin⟩
      rw [GV.out]
    · have GV := Lib.hid (G2.out _ _ m GRG.out rfl hc)
      have q3 : (yy.checkE == 0) = false := by simpa using hc
      have q4 : (yy.checkE != 0) = true := by simpa using hc
      generalize yy.checkE = ce at *
      clear hc
      go_wp2_with fail
      refine (CK.out _).mono ?_
      rintro e w9 ⟨rfl, b9⟩
      have g9 := q1.later b9
      clear x0 x1 x2 x3 x4 x5 x6 cc0 cc1 b9 HC
      have hR := g9.rb
      have hbel := g9.bel
      have glt9 := g9.lt
      clear g9 q1 glt b1l1 b1l2 b1lt b1h0 b1h1 b1h2 b1h3 b1h4 b1h5
      have hltR := hR.lt
      have k0 := hR.c0
      have f0 := hR.free 0
      have k1 := hR.c1
      have f1 := hR.free 1
      have k2 := hR.c2
      have f2 := hR.free 2
      have k3 := hR.c3
      have f3 := hR.free 3
      have k4 := hR.c4
      have f4 := hR.free 4
      have k5 := hR.c5
      have f5 := hR.free 5
      have k6 := hR.c6
      have f6 := hR.free 6
      try simp only [C.zero] at k0 k1 k2 k3 k4 k5 k6
      clear hR
      go_wp2
      have hfin : Below w.heap.size w (fillW w9 w.heap.size (C.zero 0)) := fillW_below hbel (Nat.le_refl _)
      unfold fillW at hfin
      try simp only [C.zero] at hfin
      refine bodyPost_ret (v := .tuple #[.agg (C.zero 0).cells, .string ⟨#[]⟩, .int .i64 7]) (by simp [results, Tryd.results13, go_sem, k0, k1, k2, k3, k4, k5, k6, C.cells, C.zero]) rfl ⟨?_, hfin⟩
      rw [GV.out]; rfl
theorem rget_any (s : ByteArray) (w : World) (hs : s.size ≤ 4096) : Calls Tryd.prog 13 #[.string s] w fun e w' => e = .returned (getV (L s)) ∧ Below w.heap.size w w' := by
  by_cases h0 : 0 < s.size
  · have hl := cons_of h0
    generalize s[0] = c at hl
    by_cases h15 : 15 < c.toNat
    · exact rget_0 s c _ w hs hl (ofV_over _ h15)
    · obtain hx | hx | hx | hx | hx | hx | hx | hx | hx | hx | hx | hx | hx | hx | hx | hx : c.toNat = 0 ∨ c.toNat = 1 ∨ c.toNat = 2 ∨ c.toNat = 3 ∨ c.toNat = 4 ∨ c.toNat = 5 ∨ c.toNat = 6 ∨ c.toNat = 7 ∨ c.toNat = 8 ∨ c.toNat = 9 ∨ c.toNat = 10 ∨ c.toNat = 11 ∨ c.toNat = 12 ∨ c.toNat = 13 ∨ c.toNat = 14 ∨ c.toNat = 15 := by omega
      · exact rget_0 s c _ w hs hl (by rw [hx]; exact ofV0)
      · exact rget_1 s c _ w hs hl (by rw [hx]; exact ofV1)
      · exact rget_65 s c _ w hs hl (by rw [hx]; exact ofV2)
      · exact rget_12 s c _ w hs hl (by rw [hx]; exact ofV3)
      · exact rget_44 s c _ w hs hl (by rw [hx]; exact ofV4)
      · exact rget_20 s c _ w hs hl (by rw [hx]; exact ofV5)
      · exact rget_131 s c _ w hs hl (by rw [hx]; exact ofV6)
      · exact rget_65 s c _ w hs hl (by rw [hx]; exact ofV7)
      · exact rget_195 s c _ w hs hl (by rw [hx]; exact ofV8)
      · exact rget_65 s c _ w hs hl (by rw [hx]; exact ofV9)
      · exact rget_65 s c _ w hs hl (by rw [hx]; exact ofV10)
      · exact rget_1 s c _ w hs hl (by rw [hx]; exact ofV11)
      · exact rget_1 s c _ w hs hl (by rw [hx]; exact ofV12)
      · exact rget_4 s c _ w hs hl (by rw [hx]; exact ofV13)
      · exact rget_4 s c _ w hs hl (by rw [hx]; exact ofV14)
      · exact rget_0 s c _ w hs hl (by rw [hx]; exact ofV15)
  · obtain rfl := nil_of h0
    exact rget_nil w
end Go.Proofs.YtfdclifdemajfaaDoor.Call
