/- check.Check, walked. -/
import Derived.Test.YtpnfkilfgdnogaaGreatDoorCkM1
import Derived.BigRegion
import Derived.Deep.RegionLawGrows
import Derived.Test.YtpnfkilfgdnogaaGreatDoorCkM2
import Derived.Laws.AppendOwnNone
import Derived.Laws.AppendOwn
import Derived.Test.YtpnfkilfgdnogaaGreatDoorCkM4
section
namespace Go.Proofs.YtpnfkilfgdnogaaGreatDoor.Img
set_option linter.unusedVariables false
set_option linter.unusedSimpArgs false
open Go.RowKit Go.Shelf Go.Maps Oct Dev Jou Tx Geo Ino Bm Dir
def lookW (W : World) (n : Nat) (v0 v1 v2 v3 v4 v5 v6 v7 v8 v11 : Value) : World := (((((((((W.setCell ⟨n, 0, none⟩ v0).setCell ⟨n, 1, none⟩ v1).setCell ⟨n, 2, none⟩ v2).setCell ⟨n, 3, none⟩ v3).setCell ⟨n, 4, none⟩ v4).setCell ⟨n, 5, none⟩ v5).setCell ⟨n, 6, none⟩ v6).setCell ⟨n, 7, none⟩ v7).setCell ⟨n, 8, none⟩ v8).setCell ⟨n, 11, none⟩ v11
theorem lookW_box {W : World} {n : Nat} {t : TypeId} {a0 a1 a2 a3 a4 a5 a6 a7 a8 a9 a10 a11 a12 : Value} (h : SBox W n t #[a0, a1, a2, a3, a4, a5, a6, a7, a8, a9, a10, a11, a12]) (v0 v1 v2 v3 v4 v5 v6 v7 v8 v11 : Value) : SBox (lookW W n v0 v1 v2 v3 v4 v5 v6 v7 v8 v11) n t #[v0, v1, v2, v3, v4, v5, v6, v7, v8, a9, a10, v11, a12] := by
  have h0 := (((((((((h.set 0 v0).set 1 v1).set 2 v2).set 3 v3).set 4 v4).set 5 v5).set 6 v6).set 7 v7).set 8 v8).set 11 v11
  simp only [List.setIfInBounds_toArray, List.set_cons_zero, List.set_cons_succ] at h0
  exact h0
theorem lookW_below {w W : World} {b n : Nat} {v0 v1 v2 v3 v4 v5 v6 v7 v8 v11 : Value} (h : Below b w W) (hn : b ≤ n) : Below b w (lookW W n v0 v1 v2 v3 v4 v5 v6 v7 v8 v11) := by
  unfold lookW
  repeat (refine Below.setCell ?_ hn _)
  exact h
theorem lookW_other {W : World} {n g : Nat} {t : TypeId} {cs : Array Value} {v0 v1 v2 v3 v4 v5 v6 v7 v8 v11 : Value} (h : SBox W g t cs) (hne : g ≠ n) : SBox (lookW W n v0 v1 v2 v3 v4 v5 v6 v7 v8 v11) g t cs :=
  (((((((((h.other v0 hne).other v1 hne).other v2 hne).other v3 hne).other v4 hne).other v5 hne).other v6 hne).other v7 hne).other v8 hne).other v11 hne
theorem u16_cellL (bs : List Nat) (j : Nat) (h : j < bs.length) : (bs.map u16V)[j]? = some (.int .u16 ((bs[j]'h : Nat) : Int)) := by
  rw [List.getElem?_map, List.getElem?_eq_getElem h]
  rfl
def LookRes (x : InoT) (tk : Bool) (bs : List Nat) (es : List Ent) (w : World) (e : Ending) (w' : World) : Prop :=
  ∃ vb ve, e = .returned (seenV (decide (x.kind ≠ 0)) x vb ve (tk != decide (x.kind ≠ 0)) false) ∧ OwnL w.heap.size bs vb w' ∧ OwnE w.heap.size es ve w' ∧ Below w.heap.size w w'
section
variable {x : InoT} {tk : Bool} {bs : List Nat} {es : List Ent} {C n M : Nat} {gi gj bl : Nat} {allV mV bV : Value} {w : World}
set_option maxRecDepth 100000 in
set_option maxHeartbeats 4000000 in
theorem look_free (links size d0 d1 d2 d3 ind : Nat)
    (hC : SBox w C 161 #[.pointer (some ⟨M, 0, none⟩), .int .i64 gi, .int .i64 bl, .int .i64 gj, allV, mV, bV])
    (IN : ∀ W, Below w.heap.size w W → Calls Tryz.prog 15 #[.pointer (some ⟨M, 0, none⟩), .int .u32 n] W fun e w' => e = .returned (.tuple #[InoT.val ⟨0, links, size, d0, d1, d2, d3, ind⟩, .int .i64 0]) ∧ Below W.heap.size W w')
    (TK : ∀ W, Below w.heap.size w W → Calls Tryz.prog 61 #[.pointer (some ⟨M, 0, none⟩), .int .u32 n] W fun e w' => e = .returned (.tuple #[.bool tk, .int .i64 0]) ∧ Below W.heap.size W w') :
    Calls Tryz.prog 83 #[.pointer (some ⟨C, 0, none⟩), .int .u32 n] w (LookRes ⟨0, links, size, d0, d1, d2, d3, ind⟩ tk [] [] w) := by
  have IN := Lib.hid IN
  have TK := Lib.hid TK
  have HC := Lib.hid hC
  clear hC
  unfold InoT.val at IN
  have HB0 := Lib.hid ((Below.refl _ w).alloc (Nat.le_refl _) (.cells #[.bool false, .int .u8 0, .int .u16 0, .int .u32 0, .int .u16 0, .int .u16 0, .int .u16 0, .int .u16 0, .int .u16 0, .slice none 0 0, .slice none 0 0, .bool false, .bool false] 164))
  have HS0 := Lib.hid (SBox.new w 164 #[.bool false, .int .u8 0, .int .u16 0, .int .u32 0, .int .u16 0, .int .u16 0, .int .u16 0, .int .u16 0, .int .u16 0, .slice none 0 0, .slice none 0 0, .bool false, .bool false])
  have HC0 := Lib.hid (HC.out.alloc (.cells #[.bool false, .int .u8 0, .int .u16 0, .int .u32 0, .int .u16 0, .int .u16 0, .int .u16 0, .int .u16 0, .int .u16 0, .slice none 0 0, .slice none 0 0, .bool false, .bool false] 164))
  have hC := HC0.out
  have C0 := hC.cell 0
  have C1 := hC.cell 1
  have C2 := hC.cell 2
  have C3 := hC.cell 3
  have C4 := hC.cell 4
  have C5 := hC.cell 5
  have C6 := hC.cell 6
  simp only [List.getElem?_toArray, List.getElem?_cons_zero, List.getElem?_cons_succ] at C0 C1 C2 C3 C4 C5 C6
  have Cl := hC.lt
  clear hC
  go_enter Tryz.func83, Tryz.ntmps83
  go_wp2_with fail
  refine (IN.out _ HB0.out).mono ?_
  rintro e w1 ⟨rfl, b1⟩
  have HB1 := Lib.hid ((HB0.out.trans (b1.mono HB0.out.size)).alloc (HB0.out.trans (b1.mono HB0.out.size)).size (.cells #[.int .u8 0, .int .u16 links, .int .u32 size, .int .u16 d0, .int .u16 d1, .int .u16 d2, .int .u16 d3, .int .u16 ind] 43))
  have HS1 := Lib.hid ((HS0.out.later b1).alloc (.cells #[.int .u8 0, .int .u16 links, .int .u32 size, .int .u16 d0, .int .u16 d1, .int .u16 d2, .int .u16 d3, .int .u16 ind] 43))
  have HC1 := Lib.hid ((HC0.out.later b1).alloc (.cells #[.int .u8 0, .int .u16 links, .int .u32 size, .int .u16 d0, .int .u16 d1, .int .u16 d2, .int .u16 d3, .int .u16 ind] 43))
  have HX1 := Lib.hid (SBox.new w1 43 #[.int .u8 0, .int .u16 links, .int .u32 size, .int .u16 d0, .int .u16 d1, .int .u16 d2, .int .u16 d3, .int .u16 ind])
  clear b1 C0 C1 C2 C3 C4 C5 C6 Cl
  have hC := HC1.out
  have C0 := hC.cell 0
  have C1 := hC.cell 1
  have C2 := hC.cell 2
  have C3 := hC.cell 3
  have C4 := hC.cell 4
  have C5 := hC.cell 5
  have C6 := hC.cell 6
  simp only [List.getElem?_toArray, List.getElem?_cons_zero, List.getElem?_cons_succ] at C0 C1 C2 C3 C4 C5 C6
  have Cl := hC.lt
  clear hC
  go_wp2_with fail
  refine (TK.out _ HB1.out).mono ?_
  rintro e w2 ⟨rfl, b2⟩
  have HB2 := Lib.hid (HB1.out.trans (b2.mono HB1.out.size))
  have HS2 := Lib.hid (HS1.out.later b2)
  have HX2 := Lib.hid (HX1.out.later b2)
  clear b2 C0 C1 C2 C3 C4 C5 C6 Cl
  have hS := HS2.out
  have hX := HX2.out
  have S0 := hS.cell 0
  have S1 := hS.cell 1
  have S2 := hS.cell 2
  have S3 := hS.cell 3
  have S4 := hS.cell 4
  have S5 := hS.cell 5
  have S6 := hS.cell 6
  have S7 := hS.cell 7
  have S8 := hS.cell 8
  have S9 := hS.cell 9
  have S10 := hS.cell 10
  have S11 := hS.cell 11
  have S12 := hS.cell 12
  simp only [List.getElem?_toArray, List.getElem?_cons_zero, List.getElem?_cons_succ] at S0 S1 S2 S3 S4 S5 S6 S7 S8 S9 S10 S11 S12
  have Sl := hS.lt
  have F0 := hS.free 0
  have F1 := hS.free 1
  have F2 := hS.free 2
  have F3 := hS.free 3
  have F4 := hS.free 4
  have F5 := hS.free 5
  have F6 := hS.free 6
  have F7 := hS.free 7
  have F8 := hS.free 8
  have F9 := hS.free 9
  have F10 := hS.free 10
  have F11 := hS.free 11
  have F12 := hS.free 12
  have X0 := hX.cell 0
  have X1 := hX.cell 1
  have X2 := hX.cell 2
  have X3 := hX.cell 3
  have X4 := hX.cell 4
  have X5 := hX.cell 5
  have X6 := hX.cell 6
  have X7 := hX.cell 7
  simp only [List.getElem?_toArray, List.getElem?_cons_zero, List.getElem?_cons_succ] at X0 X1 X2 X3 X4 X5 X6 X7
  have Xl := hX.lt
  have G0 := hX.free 0
  have G1 := hX.free 1
  have G2 := hX.free 2
  have G3 := hX.free 3
  have G4 := hX.free 4
  have G5 := hX.free 5
  have G6 := hX.free 6
  have G7 := hX.free 7
  have hne : w.heap.size ≠ w1.heap.size := by
    intro e
    have := HX2.out
    unfold SBox at this hS
    rw [← e, hS] at this
    cases this
  clear hS hX
  go_wp2
  go_region
  go_wp2
  have LB := lookW_below (v0 := .bool false) (v1 := .int .u8 (0 : Nat)) (v2 := .int .u16 links) (v3 := .int .u32 size) (v4 := .int .u16 d0) (v5 := .int .u16 d1) (v6 := .int .u16 d2) (v7 := .int .u16 d3) (v8 := .int .u16 ind) (v11 := .bool tk) HB2.out (Nat.le_refl _)
  have LX := lookW_box HS2.out (.bool false) (.int .u8 (0 : Nat)) (.int .u16 links) (.int .u32 size) (.int .u16 d0) (.int .u16 d1) (.int .u16 d2) (.int .u16 d3) (.int .u16 ind) (.bool tk)
  unfold lookW at LB LX
  refine ret13d (LX) ?ka ?kb ?kc
  case ka => intro Wf k0 k1 k2 k3 k4 k5 k6 k7 k8 k9 k10 k11 k12; simp [results, Tryz.results83, go_sem, k0, k1, k2, k3, k4, k5, k6, k7, k8, k9, k10, k11, k12]
  case kb => rfl
  case kc => exact ⟨_, _, by cases tk <;> rfl, World.ownsRow_nil _ _ _ _, World.ownsRow_nil _ _ _ _, (fillS_below LB (Nat.le_refl _)).drew⟩
set_option maxRecDepth 100000 in
set_option maxHeartbeats 4000000 in
theorem look_used (kind links size d0 d1 d2 d3 ind : Nat) (hk : kind = 1 ∨ kind = 2) (d : Dir es)
    (hC : SBox w C 161 #[.pointer (some ⟨M, 0, none⟩), .int .i64 gi, .int .i64 bl, .int .i64 gj, allV, mV, bV])
    (IN : ∀ W, Below w.heap.size w W → Calls Tryz.prog 15 #[.pointer (some ⟨M, 0, none⟩), .int .u32 n] W fun e w' => e = .returned (.tuple #[InoT.val ⟨kind, links, size, d0, d1, d2, d3, ind⟩, .int .i64 0]) ∧ Below W.heap.size W w')
    (TK : ∀ W, Below w.heap.size w W → Calls Tryz.prog 61 #[.pointer (some ⟨M, 0, none⟩), .int .u32 n] W fun e w' => e = .returned (.tuple #[.bool tk, .int .i64 0]) ∧ Below W.heap.size W w')
    (BL : ∀ W, Below w.heap.size w W → Calls Tryz.prog 43 #[.pointer (some ⟨M, 0, none⟩), .int .u32 n] W fun e w' => ∃ v, e = .returned (.tuple #[v, .int .i64 0]) ∧ OwnL W.heap.size bs v w' ∧ Below W.heap.size W w')
    (TX : kind = 2 → ∀ W, Below w.heap.size w W → Calls Tryz.prog 16 #[.pointer (some ⟨M, 0, none⟩), .int .u32 n] W fun e w' => e = .returned (.tuple #[.string (B (encL es)), .int .i64 0]) ∧ Below W.heap.size W w')
    (hbl : ∀ b ∈ bs, b ≤ bl) (hbb : bl < 65536) (hlen : bs.length ≤ 100) :
    Calls Tryz.prog 83 #[.pointer (some ⟨C, 0, none⟩), .int .u32 n] w (LookRes ⟨kind, links, size, d0, d1, d2, d3, ind⟩ tk bs (if kind = 2 then live es else []) w) := by
  have CK := Lib.hid (fun W => Dir.check_any (B (encL es)) W (by have := enc_size d; unfold maxLen; omega))
  have LI := Lib.hid (fun W => Dir.list_any (B (encL es)) W (by have := enc_size d; unfold maxLen; omega))
  rw [L_B, check_enc d] at CK
  have hll : listL (L (B (encL es))) = live es := by unfold listL; rw [L_B, check_enc d, if_pos rfl, slots_enc d.ok]
  rw [hll] at LI
  have IN := Lib.hid IN
  have TK := Lib.hid TK
  have BL := Lib.hid BL
  have TX := Lib.hid TX
  have HC := Lib.hid hC
  have HBL := Lib.hid hbl
  clear hC hbl hll
  unfold InoT.val at IN
  have k0 : ((kind : Int) == 0) = false := by simp; omega
  have kn : ((kind : Int) != 0) = true := by simp; omega
  have kd : decide (kind ≠ 0) = true := by simp; omega
  have HK := Lib.hid hk
  clear hk
  have HB0 := Lib.hid ((Below.refl _ w).alloc (Nat.le_refl _) (.cells #[.bool false, .int .u8 0, .int .u16 0, .int .u32 0, .int .u16 0, .int .u16 0, .int .u16 0, .int .u16 0, .int .u16 0, .slice none 0 0, .slice none 0 0, .bool false, .bool false] 164))
  have HS0 := Lib.hid (SBox.new w 164 #[.bool false, .int .u8 0, .int .u16 0, .int .u32 0, .int .u16 0, .int .u16 0, .int .u16 0, .int .u16 0, .int .u16 0, .slice none 0 0, .slice none 0 0, .bool false, .bool false])
  have HC0 := Lib.hid (HC.out.alloc (.cells #[.bool false, .int .u8 0, .int .u16 0, .int .u32 0, .int .u16 0, .int .u16 0, .int .u16 0, .int .u16 0, .int .u16 0, .slice none 0 0, .slice none 0 0, .bool false, .bool false] 164))
  have hC := HC0.out
  have C0 := hC.cell 0
  have C1 := hC.cell 1
  have C2 := hC.cell 2
  have C3 := hC.cell 3
  have C4 := hC.cell 4
  have C5 := hC.cell 5
  have C6 := hC.cell 6
  simp only [List.getElem?_toArray, List.getElem?_cons_zero, List.getElem?_cons_succ] at C0 C1 C2 C3 C4 C5 C6
  have Cl := hC.lt
  clear hC
  show Calls Tryz.prog 83 #[.pointer (some ⟨C, 0, none⟩), .int .u32 n] w fun e w' => ∃ vb ve, e = .returned (seenV (decide (kind ≠ 0)) ⟨kind, links, size, d0, d1, d2, d3, ind⟩ vb ve (tk != decide (kind ≠ 0)) false) ∧ OwnL w.heap.size bs vb w' ∧ OwnE w.heap.size (if kind = 2 then live es else []) ve w' ∧ Below w.heap.size w w'
  rw [kd]
  clear kd
  generalize hes2 : (if kind = 2 then live es else []) = es2
  go_enter Tryz.func83, Tryz.ntmps83
  go_wp2_with fail
  refine (IN.out _ HB0.out).mono ?_
  rintro e w1 ⟨rfl, b1⟩
  have HB1 := Lib.hid ((HB0.out.trans (b1.mono HB0.out.size)).alloc (HB0.out.trans (b1.mono HB0.out.size)).size (.cells #[.int .u8 kind, .int .u16 links, .int .u32 size, .int .u16 d0, .int .u16 d1, .int .u16 d2, .int .u16 d3, .int .u16 ind] 43))
  have HS1 := Lib.hid ((HS0.out.later b1).alloc (.cells #[.int .u8 kind, .int .u16 links, .int .u32 size, .int .u16 d0, .int .u16 d1, .int .u16 d2, .int .u16 d3, .int .u16 ind] 43))
  have HC1 := Lib.hid ((HC0.out.later b1).alloc (.cells #[.int .u8 kind, .int .u16 links, .int .u32 size, .int .u16 d0, .int .u16 d1, .int .u16 d2, .int .u16 d3, .int .u16 ind] 43))
  have HX1 := Lib.hid (SBox.new w1 43 #[.int .u8 kind, .int .u16 links, .int .u32 size, .int .u16 d0, .int .u16 d1, .int .u16 d2, .int .u16 d3, .int .u16 ind])
  clear b1 C0 C1 C2 C3 C4 C5 C6 Cl
  have hC := HC1.out
  have C0 := hC.cell 0
  have C1 := hC.cell 1
  have C2 := hC.cell 2
  have C3 := hC.cell 3
  have C4 := hC.cell 4
  have C5 := hC.cell 5
  have C6 := hC.cell 6
  simp only [List.getElem?_toArray, List.getElem?_cons_zero, List.getElem?_cons_succ] at C0 C1 C2 C3 C4 C5 C6
  have Cl := hC.lt
  clear hC
  go_wp2_with fail
  refine (TK.out _ HB1.out).mono ?_
  rintro e w2 ⟨rfl, b2⟩
  have HB2 := Lib.hid (HB1.out.trans (b2.mono HB1.out.size))
  have HS2 := Lib.hid (HS1.out.later b2)
  have HX2 := Lib.hid (HX1.out.later b2)
  have HC2 := Lib.hid (HC1.out.later b2)
  clear b2 C0 C1 C2 C3 C4 C5 C6 Cl
  have hC := HC2.out
  have C0 := hC.cell 0
  have C1 := hC.cell 1
  have C2 := hC.cell 2
  have C3 := hC.cell 3
  have C4 := hC.cell 4
  have C5 := hC.cell 5
  have C6 := hC.cell 6
  simp only [List.getElem?_toArray, List.getElem?_cons_zero, List.getElem?_cons_succ] at C0 C1 C2 C3 C4 C5 C6
  have Cl := hC.lt
  have hS := HS2.out
  have hX := HX2.out
  have S0 := hS.cell 0
  have S1 := hS.cell 1
  have S2 := hS.cell 2
  have S3 := hS.cell 3
  have S4 := hS.cell 4
  have S5 := hS.cell 5
  have S6 := hS.cell 6
  have S7 := hS.cell 7
  have S8 := hS.cell 8
  have S9 := hS.cell 9
  have S10 := hS.cell 10
  have S11 := hS.cell 11
  have S12 := hS.cell 12
  simp only [List.getElem?_toArray, List.getElem?_cons_zero, List.getElem?_cons_succ] at S0 S1 S2 S3 S4 S5 S6 S7 S8 S9 S10 S11 S12
  have Sl := hS.lt
  have F0 := hS.free 0
  have F1 := hS.free 1
  have F2 := hS.free 2
  have F3 := hS.free 3
  have F4 := hS.free 4
  have F5 := hS.free 5
  have F6 := hS.free 6
  have F7 := hS.free 7
  have F8 := hS.free 8
  have F9 := hS.free 9
  have F10 := hS.free 10
  have F11 := hS.free 11
  have F12 := hS.free 12
  have X0 := hX.cell 0
  have X1 := hX.cell 1
  have X2 := hX.cell 2
  have X3 := hX.cell 3
  have X4 := hX.cell 4
  have X5 := hX.cell 5
  have X6 := hX.cell 6
  have X7 := hX.cell 7
  simp only [List.getElem?_toArray, List.getElem?_cons_zero, List.getElem?_cons_succ] at X0 X1 X2 X3 X4 X5 X6 X7
  have Xl := hX.lt
  have G0 := hX.free 0
  have G1 := hX.free 1
  have G2 := hX.free 2
  have G3 := hX.free 3
  have G4 := hX.free 4
  have G5 := hX.free 5
  have G6 := hX.free 6
  have G7 := hX.free 7
  have hne : w.heap.size ≠ w1.heap.size := by
    intro e
    have := HX2.out
    unfold SBox at this hS
    rw [← e, hS] at this
    cases this
  have hnc : C ≠ w.heap.size := Nat.ne_of_lt HC.out.lt
  clear hS hX hC
  go_wp2_with fail
  go_region
  go_wp2_with fail
  have LB := lookW_below (v0 := .bool true) (v1 := .int .u8 kind) (v2 := .int .u16 links) (v3 := .int .u32 size) (v4 := .int .u16 d0) (v5 := .int .u16 d1) (v6 := .int .u16 d2) (v7 := .int .u16 d3) (v8 := .int .u16 ind) (v11 := .bool (!tk)) HB2.out (Nat.le_refl _)
  have LX := lookW_box HS2.out (.bool true) (.int .u8 kind) (.int .u16 links) (.int .u32 size) (.int .u16 d0) (.int .u16 d1) (.int .u16 d2) (.int .u16 d3) (.int .u16 ind) (.bool (!tk))
  have LC := lookW_other (v0 := .bool true) (v1 := .int .u8 kind) (v2 := .int .u16 links) (v3 := .int .u32 size) (v4 := .int .u16 d0) (v5 := .int .u16 d1) (v6 := .int .u16 d2) (v7 := .int .u16 d3) (v8 := .int .u16 ind) (v11 := .bool (!tk)) HC2.out hnc
  have LXX := lookW_other (v0 := .bool true) (v1 := .int .u8 kind) (v2 := .int .u16 links) (v3 := .int .u32 size) (v4 := .int .u16 d0) (v5 := .int .u16 d1) (v6 := .int .u16 d2) (v7 := .int .u16 d3) (v8 := .int .u16 ind) (v11 := .bool (!tk)) HX2.out hne.symm
  unfold lookW at LB LX LC LXX
  have hBL := BL.out _ LB.drew
  refine Calls.mono hBL ?_
  clear hBL
  rintro e w3 ⟨vb, rfl, ho, b3⟩
  have HS3 := Lib.hid ((SBox.drew LX).later b3)
  have HC3 := Lib.hid ((SBox.drew LC).later b3)
  have HX3 := Lib.hid ((SBox.drew LXX).later b3)
  have HB3 := Lib.hid (LB.drew.trans (b3.mono LB.drew.size))
  have HL3 : Hid (OwnL (w.heap.size + 1) bs vb w3) := Lib.hid (own_mono ho (SBox.drew LX).lt)
  clear ho b3 LB LX LC LXX S0 S1 S2 S3 S4 S5 S6 S7 S8 S9 S10 S11 S12 Sl F0 F1 F2 F3 F4 F5 F6 F7 F8 F9 F10 F11 F12 X0 X1 X2 X3 X4 X5 X6 X7 Xl G0 G1 G2 G3 G4 G5 G6 G7 C0 C1 C2 C3 C4 C5 C6 Cl
  obtain ⟨ab, cb, rfl⟩ := row_slice HL3.out
  have hS := HS3.out
  have hC := HC3.out
  cases tk
  all_goals
    simp only [Bool.not_true, Bool.not_false] at HS3 hS
    have S0 := hS.cell 0
    have S1 := hS.cell 1
    have S2 := hS.cell 2
    have S3 := hS.cell 3
    have S4 := hS.cell 4
    have S5 := hS.cell 5
    have S6 := hS.cell 6
    have S7 := hS.cell 7
    have S8 := hS.cell 8
    have S9 := hS.cell 9
    have S10 := hS.cell 10
    have S11 := hS.cell 11
    have S12 := hS.cell 12
    simp only [List.getElem?_toArray, List.getElem?_cons_zero, List.getElem?_cons_succ] at S0 S1 S2 S3 S4 S5 S6 S7 S8 S9 S10 S11 S12
    have Sl := hS.lt
    have F0 := hS.free 0
    have F1 := hS.free 1
    have F2 := hS.free 2
    have F3 := hS.free 3
    have F4 := hS.free 4
    have F5 := hS.free 5
    have F6 := hS.free 6
    have F7 := hS.free 7
    have F8 := hS.free 8
    have F9 := hS.free 9
    have F10 := hS.free 10
    have F11 := hS.free 11
    have F12 := hS.free 12
    have C0 := hC.cell 0
    have C1 := hC.cell 1
    have C2 := hC.cell 2
    have C3 := hC.cell 3
    have C4 := hC.cell 4
    have C5 := hC.cell 5
    have C6 := hC.cell 6
    simp only [List.getElem?_toArray, List.getElem?_cons_zero, List.getElem?_cons_succ] at C0 C1 C2 C3 C4 C5 C6
    have Cl := hC.lt
    clear hS hC
  · go_wp2_with fail
    go_loopw [81] (fun c wr => ∃ k : Nat, k ≤ bs.length ∧ c = .int .i64 k ∧ SBox wr w.heap.size 164 #[.bool true, .int .u8 kind, .int .u16 links, .int .u32 size, .int .u16 d0, .int .u16 d1, .int .u16 d2, .int .u16 d3, .int .u16 ind, .slice ab bs.length cb, .slice none 0 0, .bool true, .bool false] ∧ SBox wr w1.heap.size 43 #[.int .u8 kind, .int .u16 links, .int .u32 size, .int .u16 d0, .int .u16 d1, .int .u16 d2, .int .u16 d3, .int .u16 ind] ∧ SBox wr C 161 #[.pointer (some ⟨M, 0, none⟩), .int .i64 gi, .int .i64 bl, .int .i64 gj, allV, mV, bV] ∧ OwnL (w.heap.size + 1) bs (.slice ab bs.length cb) wr ∧ Below w.heap.size w wr) (fun c _ => 101 - (intOf c).toNat)
    case atStart =>
      refine ⟨0, Nat.zero_le _, rfl, ?_, (HX3.out.other _ hne.symm).other _ hne.symm, (HC3.out.other _ hnc).other _ hnc, ownsRow_setCell_below (ownsRow_setCell_below HL3.out (Nat.lt_succ_self _) _) (Nat.lt_succ_self _) _, (HB3.out.setCell (Nat.le_refl _) _).setCell (Nat.le_refl _) _⟩
      have h := (HS3.out.set 11 (.bool true)).set 9 (.slice ab bs.length cb)
      simp only [List.setIfInBounds_toArray, List.set_cons_zero, List.set_cons_succ] at h
      exact h
    case round =>
      obtain ⟨k, hk, rfl, hS, hX, hC, hL, hB⟩ := hrel
      have HS4 := Lib.hid hS
      have HX4 := Lib.hid hX
      have HC4 := Lib.hid hC
      have HL4 := Lib.hid hL
      have HB4 := Lib.hid hB
      clear S0 S1 S2 S3 S4 S5 S6 S7 S8 S9 S10 S11 S12 Sl F0 F1 F2 F3 F4 F5 F6 F7 F8 F9 F10 F11 F12 C0 C1 C2 C3 C4 C5 C6 Cl
      have S0 := hS.cell 0
      have S1 := hS.cell 1
      have S2 := hS.cell 2
      have S3 := hS.cell 3
      have S4 := hS.cell 4
      have S5 := hS.cell 5
      have S6 := hS.cell 6
      have S7 := hS.cell 7
      have S8 := hS.cell 8
      have S9 := hS.cell 9
      have S10 := hS.cell 10
      have S11 := hS.cell 11
      have S12 := hS.cell 12
      simp only [List.getElem?_toArray, List.getElem?_cons_zero, List.getElem?_cons_succ] at S0 S1 S2 S3 S4 S5 S6 S7 S8 S9 S10 S11 S12
      have Sl := hS.lt
      have F0 := hS.free 0
      have F1 := hS.free 1
      have F2 := hS.free 2
      have F3 := hS.free 3
      have F4 := hS.free 4
      have F5 := hS.free 5
      have F6 := hS.free 6
      have F7 := hS.free 7
      have F8 := hS.free 8
      have F9 := hS.free 9
      have F10 := hS.free 10
      have F11 := hS.free 11
      have F12 := hS.free 12
      have C0 := hC.cell 0
      have C1 := hC.cell 1
      have C2 := hC.cell 2
      have C3 := hC.cell 3
      have C4 := hC.cell 4
      have C5 := hC.cell 5
      have C6 := hC.cell 6
      simp only [List.getElem?_toArray, List.getElem?_cons_zero, List.getElem?_cons_succ] at C0 C1 C2 C3 C4 C5 C6
      have Cl := hC.lt
      clear hS hX hC hL hB
      by_cases hlt : k < bs.length
      · obtain ⟨g, cap2, e, hg, hc⟩ := row_cell HL4.out (by omega)
        cases e
        have c1 := hc _ _ (u16_cellL bs k hlt)
        have hx := HBL.out bs[k] (List.getElem_mem hlt)
        generalize bs[k] = x at *
        have p1 : (0 : Int) ≤ k := by omega
        have p2 : (k : Int) < bs.length := by omega
        have tle : decide ((bl : Int) < x) = false := by simp; omega
        have tgt : decide ((x : Int) > bl) = false := by simp; omega
        have tlN : decide (bl < x) = false := by simp; omega
        clear hc
        go_wp2_with fail
        go_roundw
        case rel =>
          refine ⟨k + 1, by omega, by go_num, ?_, HX4.out.other _ hne.symm, HC4.out.other _ hnc, ownsRow_setCell_below HL4.out (Nat.lt_succ_self _) _, HB4.out.setCell (Nat.le_refl _) _⟩
          have h := HS4.out.set 11 (.bool true)
          simp only [List.setIfInBounds_toArray, List.set_cons_zero, List.set_cons_succ] at h
          exact h
        case measure => simp [intOf]; omega
      · obtain rfl : k = bs.length := by omega
        have hX := HX4.out
        have X0 := hX.cell 0
        have X1 := hX.cell 1
        have X2 := hX.cell 2
        have X3 := hX.cell 3
        have X4 := hX.cell 4
        have X5 := hX.cell 5
        have X6 := hX.cell 6
        have X7 := hX.cell 7
        simp only [List.getElem?_toArray, List.getElem?_cons_zero, List.getElem?_cons_succ] at X0 X1 X2 X3 X4 X5 X6 X7
        have Xl := hX.lt
        clear hX
        by_cases h2 : kind = 2
        · subst h2
          obtain rfl : live es = es2 := by rw [← hes2, if_pos rfl]
          go_wp2_with fail
          refine (TX.out (by trivial) _ HB4.out).mono ?_
          rintro e w5 ⟨rfl, b5⟩
          have HS5 := Lib.hid (HS4.out.later b5)
          have HB5 := Lib.hid (HB4.out.trans (b5.mono HB4.out.size))
          have HL5 : Hid (OwnL (w.heap.size + 1) bs (.slice ab bs.length cb) w5) := Lib.hid (row_later HL4.out b5)
          clear S0 S1 S2 S3 S4 S5 S6 S7 S8 S9 S10 S11 S12 Sl F0 F1 F2 F3 F4 F5 F6 F7 F8 F9 F10 F11 F12 b5
          go_wp2_with fail
          refine (CK.out _).mono ?_
          rintro e w6 ⟨rfl, b6⟩
          have HS6 := Lib.hid (HS5.out.later b6)
          have HB6 := Lib.hid (HB5.out.trans (b6.mono HB5.out.size))
          have HL6 : Hid (OwnL (w.heap.size + 1) bs (.slice ab bs.length cb) w6) := Lib.hid (row_later HL5.out b6)
          have hS := HS6.out
          have S0 := hS.cell 0
          have S1 := hS.cell 1
          have S2 := hS.cell 2
          have S3 := hS.cell 3
          have S4 := hS.cell 4
          have S5 := hS.cell 5
          have S6 := hS.cell 6
          have S7 := hS.cell 7
          have S8 := hS.cell 8
          have S9 := hS.cell 9
          have S10 := hS.cell 10
          have S11 := hS.cell 11
          have S12 := hS.cell 12
          simp only [List.getElem?_toArray, List.getElem?_cons_zero, List.getElem?_cons_succ] at S0 S1 S2 S3 S4 S5 S6 S7 S8 S9 S10 S11 S12
          have Sl := hS.lt
          have F0 := hS.free 0
          have F1 := hS.free 1
          have F2 := hS.free 2
          have F3 := hS.free 3
          have F4 := hS.free 4
          have F5 := hS.free 5
          have F6 := hS.free 6
          have F7 := hS.free 7
          have F8 := hS.free 8
          have F9 := hS.free 9
          have F10 := hS.free 10
          have F11 := hS.free 11
          have F12 := hS.free 12
          clear hS b6
          go_wp2_with fail
          have hS := HS6.out.set 12 (.bool false)
          simp only [List.setIfInBounds_toArray, List.set_cons_zero, List.set_cons_succ] at hS
          have hLI := LI.out (w6.setCell ⟨w.heap.size, 12, none⟩ (.bool false))
          refine Calls.mono hLI ?_
          rintro e w7 ⟨ve, rfl, he, b7⟩
          have HS7 := Lib.hid (hS.later b7)
          have HB7 := Lib.hid ((HB6.out.setCell (Nat.le_refl _) _).trans (b7.mono (HB6.out.setCell (Nat.le_refl _) _).size))
          have HL7 : Hid (OwnL (w.heap.size + 1) bs (.slice ab bs.length cb) w7) := Lib.hid (row_later (ownsRow_setCell_below HL6.out (Nat.lt_succ_self _) _) b7)
          have HE7 : Hid (OwnE (w.heap.size + 1) (live es) ve w7) := Lib.hid (own_mono he hS.lt)
          clear hS hLI he b7 S0 S1 S2 S3 S4 S5 S6 S7 S8 S9 S10 S11 S12 Sl F0 F1 F2 F3 F4 F5 F6 F7 F8 F9 F10 F11 F12
          obtain ⟨ae, ce, rfl⟩ := row_slice HE7.out
          have hS := HS7.out
          have S0 := hS.cell 0
          have S1 := hS.cell 1
          have S2 := hS.cell 2
          have S3 := hS.cell 3
          have S4 := hS.cell 4
          have S5 := hS.cell 5
          have S6 := hS.cell 6
          have S7 := hS.cell 7
          have S8 := hS.cell 8
          have S9 := hS.cell 9
          have S10 := hS.cell 10
          have S11 := hS.cell 11
          have S12 := hS.cell 12
          simp only [List.getElem?_toArray, List.getElem?_cons_zero, List.getElem?_cons_succ] at S0 S1 S2 S3 S4 S5 S6 S7 S8 S9 S10 S11 S12
          have Sl := hS.lt
          have F0 := hS.free 0
          have F1 := hS.free 1
          have F2 := hS.free 2
          have F3 := hS.free 3
          have F4 := hS.free 4
          have F5 := hS.free 5
          have F6 := hS.free 6
          have F7 := hS.free 7
          have F8 := hS.free 8
          have F9 := hS.free 9
          have F10 := hS.free 10
          have F11 := hS.free 11
          have F12 := hS.free 12
          clear hS
          go_wp2
          have hS := HS7.out.set 10 (.slice ae (live es).length ce)
          simp only [List.setIfInBounds_toArray, List.set_cons_zero, List.set_cons_succ] at hS
          refine ret13 (hS) ?ka ?kb ?kc
          case ka => intro Wf k0 k1 k2 k3 k4 k5 k6 k7 k8 k9 k10 k11 k12; simp [results, Tryz.results83, go_sem, k0, k1, k2, k3, k4, k5, k6, k7, k8, k9, k10, k11, k12]
          case kb => rfl
          case kc => exact ⟨_, _, rfl, own_mono (fillS_own (ownsRow_setCell_below HL7.out (Nat.lt_succ_self _) _) (Nat.lt_succ_self _)) (Nat.le_succ _), own_mono (fillS_own (ownsRow_setCell_below HE7.out (Nat.lt_succ_self _) _) (Nat.lt_succ_self _)) (Nat.le_succ _), fillS_below (HB7.out.setCell (Nat.le_refl _) _) (Nat.le_refl _)⟩
        · have t2 : ((kind : Int) == 2) = false := by simp; omega
          have tn2 : ((kind : Int) != 2) = true := by simp; omega
          obtain rfl : [] = es2 := by rw [← hes2, if_neg h2]
          go_wp2
          refine ret13 (HS4.out) ?ka ?kb ?kc
          case ka => intro Wf k0 k1 k2 k3 k4 k5 k6 k7 k8 k9 k10 k11 k12; simp [results, Tryz.results83, go_sem, k0, k1, k2, k3, k4, k5, k6, k7, k8, k9, k10, k11, k12]
          case kb => rfl
          case kc => exact ⟨_, _, rfl, own_mono (fillS_own HL4.out (Nat.lt_succ_self _)) (Nat.le_succ _), World.ownsRow_nil _ _ _ _, fillS_below HB4.out (Nat.le_refl _)⟩
  · go_wp2_with fail
    go_loopw [81] (fun c wr => ∃ k : Nat, k ≤ bs.length ∧ c = .int .i64 k ∧ SBox wr w.heap.size 164 #[.bool true, .int .u8 kind, .int .u16 links, .int .u32 size, .int .u16 d0, .int .u16 d1, .int .u16 d2, .int .u16 d3, .int .u16 ind, .slice ab bs.length cb, .slice none 0 0, .bool false, .bool false] ∧ SBox wr w1.heap.size 43 #[.int .u8 kind, .int .u16 links, .int .u32 size, .int .u16 d0, .int .u16 d1, .int .u16 d2, .int .u16 d3, .int .u16 ind] ∧ SBox wr C 161 #[.pointer (some ⟨M, 0, none⟩), .int .i64 gi, .int .i64 bl, .int .i64 gj, allV, mV, bV] ∧ OwnL (w.heap.size + 1) bs (.slice ab bs.length cb) wr ∧ Below w.heap.size w wr) (fun c _ => 101 - (intOf c).toNat)
    case atStart =>
      refine ⟨0, Nat.zero_le _, rfl, ?_, (HX3.out.other _ hne.symm).other _ hne.symm, (HC3.out.other _ hnc).other _ hnc, ownsRow_setCell_below (ownsRow_setCell_below HL3.out (Nat.lt_succ_self _) _) (Nat.lt_succ_self _) _, (HB3.out.setCell (Nat.le_refl _) _).setCell (Nat.le_refl _) _⟩
      have h := (HS3.out.set 11 (.bool false)).set 9 (.slice ab bs.length cb)
      simp only [List.setIfInBounds_toArray, List.set_cons_zero, List.set_cons_succ] at h
      exact h
    case round =>
      obtain ⟨k, hk, rfl, hS, hX, hC, hL, hB⟩ := hrel
      have HS4 := Lib.hid hS
      have HX4 := Lib.hid hX
      have HC4 := Lib.hid hC
      have HL4 := Lib.hid hL
      have HB4 := Lib.hid hB
      clear S0 S1 S2 S3 S4 S5 S6 S7 S8 S9 S10 S11 S12 Sl F0 F1 F2 F3 F4 F5 F6 F7 F8 F9 F10 F11 F12 C0 C1 C2 C3 C4 C5 C6 Cl
      have S0 := hS.cell 0
      have S1 := hS.cell 1
      have S2 := hS.cell 2
      have S3 := hS.cell 3
      have S4 := hS.cell 4
      have S5 := hS.cell 5
      have S6 := hS.cell 6
      have S7 := hS.cell 7
      have S8 := hS.cell 8
      have S9 := hS.cell 9
      have S10 := hS.cell 10
      have S11 := hS.cell 11
      have S12 := hS.cell 12
      simp only [List.getElem?_toArray, List.getElem?_cons_zero, List.getElem?_cons_succ] at S0 S1 S2 S3 S4 S5 S6 S7 S8 S9 S10 S11 S12
      have Sl := hS.lt
      have F0 := hS.free 0
      have F1 := hS.free 1
      have F2 := hS.free 2
      have F3 := hS.free 3
      have F4 := hS.free 4
      have F5 := hS.free 5
      have F6 := hS.free 6
      have F7 := hS.free 7
      have F8 := hS.free 8
      have F9 := hS.free 9
      have F10 := hS.free 10
      have F11 := hS.free 11
      have F12 := hS.free 12
      have C0 := hC.cell 0
      have C1 := hC.cell 1
      have C2 := hC.cell 2
      have C3 := hC.cell 3
      have C4 := hC.cell 4
      have C5 := hC.cell 5
      have C6 := hC.cell 6
      simp only [List.getElem?_toArray, List.getElem?_cons_zero, List.getElem?_cons_succ] at C0 C1 C2 C3 C4 C5 C6
      have Cl := hC.lt
      clear hS hX hC hL hB
      by_cases hlt : k < bs.length
      · obtain ⟨g, cap2, e, hg, hc⟩ := row_cell HL4.out (by omega)
        cases e
        have c1 := hc _ _ (u16_cellL bs k hlt)
        have hx := HBL.out bs[k] (List.getElem_mem hlt)
        generalize bs[k] = x at *
        have p1 : (0 : Int) ≤ k := by omega
        have p2 : (k : Int) < bs.length := by omega
        have tle : decide ((bl : Int) < x) = false := by simp; omega
        have tgt : decide ((x : Int) > bl) = false := by simp; omega
        have tlN : decide (bl < x) = false := by simp; omega
        clear hc
        go_wp2_with fail
        go_roundw
        case rel =>
          refine ⟨k + 1, by omega, by go_num, ?_, HX4.out.other _ hne.symm, HC4.out.other _ hnc, ownsRow_setCell_below HL4.out (Nat.lt_succ_self _) _, HB4.out.setCell (Nat.le_refl _) _⟩
          have h := HS4.out.set 11 (.bool false)
          simp only [List.setIfInBounds_toArray, List.set_cons_zero, List.set_cons_succ] at h
          exact h
        case measure => simp [intOf]; omega
      · obtain rfl : k = bs.length := by omega
        have hX := HX4.out
        have X0 := hX.cell 0
        have X1 := hX.cell 1
        have X2 := hX.cell 2
        have X3 := hX.cell 3
        have X4 := hX.cell 4
        have X5 := hX.cell 5
        have X6 := hX.cell 6
        have X7 := hX.cell 7
        simp only [List.getElem?_toArray, List.getElem?_cons_zero, List.getElem?_cons_succ] at X0 X1 X2 X3 X4 X5 X6 X7
        have Xl := hX.lt
        clear hX
        by_cases h2 : kind = 2
        · subst h2
          obtain rfl : live es = es2 := by rw [← hes2, if_pos rfl]
          go_wp2_with fail
          refine (TX.out (by trivial) _ HB4.out).mono ?_
          rintro e w5 ⟨rfl, b5⟩
          have HS5 := Lib.hid (HS4.out.later b5)
          have HB5 := Lib.hid (HB4.out.trans (b5.mono HB4.out.size))
          have HL5 : Hid (OwnL (w.heap.size + 1) bs (.slice ab bs.length cb) w5) := Lib.hid (row_later HL4.out b5)
          clear S0 S1 S2 S3 S4 S5 S6 S7 S8 S9 S10 S11 S12 Sl F0 F1 F2 F3 F4 F5 F6 F7 F8 F9 F10 F11 F12 b5
          go_wp2_with fail
          refine (CK.out _).mono ?_
          rintro e w6 ⟨rfl, b6⟩
          have HS6 := Lib.hid (HS5.out.later b6)
          have HB6 := Lib.hid (HB5.out.trans (b6.mono HB5.out.size))
          have HL6 : Hid (OwnL (w.heap.size + 1) bs (.slice ab bs.length cb) w6) := Lib.hid (row_later HL5.out b6)
          have hS := HS6.out
          have S0 := hS.cell 0
          have S1 := hS.cell 1
          have S2 := hS.cell 2
          have S3 := hS.cell 3
          have S4 := hS.cell 4
          have S5 := hS.cell 5
          have S6 := hS.cell 6
          have S7 := hS.cell 7
          have S8 := hS.cell 8
          have S9 := hS.cell 9
          have S10 := hS.cell 10
          have S11 := hS.cell 11
          have S12 := hS.cell 12
          simp only [List.getElem?_toArray, List.getElem?_cons_zero, List.getElem?_cons_succ] at S0 S1 S2 S3 S4 S5 S6 S7 S8 S9 S10 S11 S12
          have Sl := hS.lt
          have F0 := hS.free 0
          have F1 := hS.free 1
          have F2 := hS.free 2
          have F3 := hS.free 3
          have F4 := hS.free 4
          have F5 := hS.free 5
          have F6 := hS.free 6
          have F7 := hS.free 7
          have F8 := hS.free 8
          have F9 := hS.free 9
          have F10 := hS.free 10
          have F11 := hS.free 11
          have F12 := hS.free 12
          clear hS b6
          go_wp2_with fail
          have hS := HS6.out.set 12 (.bool false)
          simp only [List.setIfInBounds_toArray, List.set_cons_zero, List.set_cons_succ] at hS
          have hLI := LI.out (w6.setCell ⟨w.heap.size, 12, none⟩ (.bool false))
          refine Calls.mono hLI ?_
          rintro e w7 ⟨ve, rfl, he, b7⟩
          have HS7 := Lib.hid (hS.later b7)
          have HB7 := Lib.hid ((HB6.out.setCell (Nat.le_refl _) _).trans (b7.mono (HB6.out.setCell (Nat.le_refl _) _).size))
          have HL7 : Hid (OwnL (w.heap.size + 1) bs (.slice ab bs.length cb) w7) := Lib.hid (row_later (ownsRow_setCell_below HL6.out (Nat.lt_succ_self _) _) b7)
          have HE7 : Hid (OwnE (w.heap.size + 1) (live es) ve w7) := Lib.hid (own_mono he hS.lt)
          clear hS hLI he b7 S0 S1 S2 S3 S4 S5 S6 S7 S8 S9 S10 S11 S12 Sl F0 F1 F2 F3 F4 F5 F6 F7 F8 F9 F10 F11 F12
          obtain ⟨ae, ce, rfl⟩ := row_slice HE7.out
          have hS := HS7.out
          have S0 := hS.cell 0
          have S1 := hS.cell 1
          have S2 := hS.cell 2
          have S3 := hS.cell 3
          have S4 := hS.cell 4
          have S5 := hS.cell 5
          have S6 := hS.cell 6
          have S7 := hS.cell 7
          have S8 := hS.cell 8
          have S9 := hS.cell 9
          have S10 := hS.cell 10
          have S11 := hS.cell 11
          have S12 := hS.cell 12
          simp only [List.getElem?_toArray, List.getElem?_cons_zero, List.getElem?_cons_succ] at S0 S1 S2 S3 S4 S5 S6 S7 S8 S9 S10 S11 S12
          have Sl := hS.lt
          have F0 := hS.free 0
          have F1 := hS.free 1
          have F2 := hS.free 2
          have F3 := hS.free 3
          have F4 := hS.free 4
          have F5 := hS.free 5
          have F6 := hS.free 6
          have F7 := hS.free 7
          have F8 := hS.free 8
          have F9 := hS.free 9
          have F10 := hS.free 10
          have F11 := hS.free 11
          have F12 := hS.free 12
          clear hS
          go_wp2
          have hS := HS7.out.set 10 (.slice ae (live es).length ce)
          simp only [List.setIfInBounds_toArray, List.set_cons_zero, List.set_cons_succ] at hS
          refine ret13 (hS) ?ka ?kb ?kc
          case ka => intro Wf k0 k1 k2 k3 k4 k5 k6 k7 k8 k9 k10 k11 k12; simp [results, Tryz.results83, go_sem, k0, k1, k2, k3, k4, k5, k6, k7, k8, k9, k10, k11, k12]
          case kb => rfl
          case kc => exact ⟨_, _, rfl, own_mono (fillS_own (ownsRow_setCell_below HL7.out (Nat.lt_succ_self _) _) (Nat.lt_succ_self _)) (Nat.le_succ _), own_mono (fillS_own (ownsRow_setCell_below HE7.out (Nat.lt_succ_self _) _) (Nat.lt_succ_self _)) (Nat.le_succ _), fillS_below (HB7.out.setCell (Nat.le_refl _) _) (Nat.le_refl _)⟩
        · have t2 : ((kind : Int) == 2) = false := by simp; omega
          have tn2 : ((kind : Int) != 2) = true := by simp; omega
          obtain rfl : [] = es2 := by rw [← hes2, if_neg h2]
          go_wp2
          refine ret13 (HS4.out) ?ka ?kb ?kc
          case ka => intro Wf k0 k1 k2 k3 k4 k5 k6 k7 k8 k9 k10 k11 k12; simp [results, Tryz.results83, go_sem, k0, k1, k2, k3, k4, k5, k6, k7, k8, k9, k10, k11, k12]
          case kb => rfl
          case kc => exact ⟨_, _, rfl, own_mono (fillS_own HL4.out (Nat.lt_succ_self _)) (Nat.le_succ _), World.ownsRow_nil _ _ _ _, fillS_below HB4.out (Nat.le_refl _)⟩
end
end Go.Proofs.YtpnfkilfgdnogaaGreatDoor.Img
end
section
namespace Go.Proofs.YtpnfkilfgdnogaaGreatDoor.Img
set_option linter.unusedVariables false
set_option linter.unusedSimpArgs false
open Go.RowKit Go.Shelf Go.Maps Oct Dev Jou Tx Geo Ino Bm Dir Ck
section
variable {C M gi bl gj mm bm : Nat} {v : Value} {l : List Sn} {w W W' : World}
theorem Cn.drewC {n : Nat} {L : List Nat} {P : List (Nat × Nat)} (h : Cn C M gi bl gj mm bm v l w n L P W) : Cn C M gi bl gj mm bm v l w n L P W.drew := h.later (Below.refl _ _).drew
theorem Cn.allocC {n : Nat} {L : List Nat} {P : List (Nat × Nat)} (h : Cn C M gi bl gj mm bm v l w n L P W) (o : Obj) : Cn C M gi bl gj mm bm v l w n L P (W.alloc o) := h.later ((Below.refl _ _).alloc (Nat.le_refl _) o)
theorem Cn.cast {n : Nat} {L L' : List Nat} {P P' : List (Nat × Nat)} (h : Cn C M gi bl gj mm bm v l w n L P W) (e1 : L = L') (e2 : P = P') : Cn C M gi bl gj mm bm v l w n L' P' W := by subst e1 e2; exact h
theorem u16_cell : ∀ (bs : List Nat) (j : Nat) (h : j < bs.length), (bs.map u16V)[j]? = some (.int .u16 ((bs[j]'h : Nat) : Int)) := fun bs j h => by
  rw [List.getElem?_map, List.getElem?_eq_getElem h]
  rfl
set_option maxRecDepth 100000 in
set_option maxHeartbeats 8000000 in
theorem count_is (w : World) (h : CkAt w C M gi bl gj v mm bm l) (hme : MMap 40 .u32 w mm 0 (fun _ => (0, 0))) (hmb : MMap 39 .u16 w bm 0 (fun _ => (0, 0))) (hne : mm ≠ bm) (hl : l.length ≤ 100)
    (hs : ∀ s ∈ l, s.es.length ≤ 100 ∧ s.bs.length ≤ 100 ∧ (∀ e ∈ s.es, e.2 < 4294967296) ∧ ∀ b ∈ s.bs, b < 65536) :
    Calls Tryz.prog 84 #[.pointer (some ⟨C, 0, none⟩)] w fun e w' => (∃ u, e = .returned u) ∧ ∃ n, Cn C M gi bl gj mm bm v l w n (metE l l.length) (metB l l.length) w' := by
  have fm := field_met
  obtain ⟨ao, cap, rfl⟩ := row_slice h.all.1
  have H0 : Hid (Cn C M gi bl gj mm bm (.slice ao l.length cap) l w 0 [] [] w) := Lib.hid ⟨h, by rw [gE_nil]; exact hme, by rw [gB_nil]; exact hmb, Tch.of_below (Below.refl _ _)⟩
  have HS := Lib.hid hs
  have hC := h.box
  have C0 := hC.cell 0
  have C1 := hC.cell 1
  have C2 := hC.cell 2
  have C3 := hC.cell 3
  have C4 := hC.cell 4
  have C5 := hC.cell 5
  have C6 := hC.cell 6
  simp only [List.getElem?_toArray, List.getElem?_cons_zero, List.getElem?_cons_succ] at C0 C1 C2 C3 C4 C5 C6
  have Cl := hC.lt
  clear hC h hme hmb hs
  go_enter Tryz.func84, Tryz.ntmps84
  go_wp2_with fail
  go_loopw [14] (fun c wr => ∃ k : Nat, k ≤ l.length ∧ c = .int .i64 k ∧ ∃ n, n ≤ 200 * k ∧ (metE l k).length ≤ 100 * k ∧ (metB l k).length ≤ 100 * k ∧ Cn C M gi bl gj mm bm (.slice ao l.length cap) l w n (metE l k) (metB l k) wr) (fun c _ => 101 - (intOf c).toNat)
  case atStart => exact ⟨0, Nat.zero_le _, rfl, 0, Nat.le_refl _, Nat.le_refl _, Nat.le_refl _, H0.out⟩
  case round =>
    obtain ⟨k, hk, rfl, n, hn, hLl, hPl, hc⟩ := hrel
    have HC := Lib.hid hc
    clear hc
    by_cases hlt : k < l.length
    · obtain ⟨g, cap2, e, hg, hcell⟩ := HC.out.ck.all.cell hlt
      cases e
      have HEB := Lib.hid (fun W (h : CkAt W C M gi bl gj (.slice (some ⟨g, 0, none⟩) l.length cap) mm bm l) => h.all.2 l[k] (List.getElem_mem hlt))
      have q1 : (0 : Int) ≤ k := by omega
      have q2 : (k : Int) < l.length := by omega
      have HME := Lib.hid (metE_succ l k hlt)
      have HMB := Lib.hid (metB_succ l k hlt)
      obtain ⟨s1, s2, s3, s4⟩ := HS.out l[k] (List.getElem_mem hlt)
      have HS3 := Lib.hid s3
      have HS4 := Lib.hid s4
      obtain ⟨ab, cb, hvb⟩ := row_slice (HEB.out _ HC.out.ck).1
      obtain ⟨ae, ce, hve⟩ := row_slice (HEB.out _ HC.out.ck).2
      clear s3 s4
      generalize l[k] = s at *
      obtain ⟨t, ⟨x0, x1, x2, x3, x4, x5, x6, x7⟩, vb, ve, bad, bs, es⟩ := s
      simp only at hvb hve s1 s2 HS3 HS4 HME HMB HEB
      subst hvb hve
      have S0 := hcell 0 _ (by decide) rfl
      have S1 := hcell 1 _ (by decide) rfl
      have S2 := hcell 2 _ (by decide) rfl
      have S3 := hcell 3 _ (by decide) rfl
      have S4 := hcell 4 _ (by decide) rfl
      have S5 := hcell 5 _ (by decide) rfl
      have S6 := hcell 6 _ (by decide) rfl
      have S7 := hcell 7 _ (by decide) rfl
      have S8 := hcell 8 _ (by decide) rfl
      have S9 := hcell 9 _ (by decide) rfl
      have S10 := hcell 10 _ (by decide) rfl
      have S11 := hcell 11 _ (by decide) rfl
      have S12 := hcell 12 _ (by decide) rfl
      simp only [Nat.add_zero, Nat.zero_mul, Nat.zero_add] at S0 S1 S2 S3 S4 S5 S6 S7 S8 S9 S10 S11 S12
      have HC1 := Lib.hid (HC.out.allocC (.cells #[.bool t, .int .u8 x0, .int .u16 x1, .int .u32 x2, .int .u16 x3, .int .u16 x4, .int .u16 x5, .int .u16 x6, .int .u16 x7, .slice ab bs.length cb, .slice ae es.length ce, .bool bad, .bool false] 164))
      have HX1 := Lib.hid (SBox.new wr 164 #[.bool t, .int .u8 x0, .int .u16 x1, .int .u32 x2, .int .u16 x3, .int .u16 x4, .int .u16 x5, .int .u16 x6, .int .u16 x7, .slice ab bs.length cb, .slice ae es.length ce, .bool bad, .bool false])
      have hX := HX1.out
      have X0 := hX.cell 0
      have X1 := hX.cell 1
      have X2 := hX.cell 2
      have X3 := hX.cell 3
      have X4 := hX.cell 4
      have X5 := hX.cell 5
      have X6 := hX.cell 6
      have X7 := hX.cell 7
      have X8 := hX.cell 8
      have X9 := hX.cell 9
      have X10 := hX.cell 10
      have X11 := hX.cell 11
      have X12 := hX.cell 12
      simp only [List.getElem?_toArray, List.getElem?_cons_zero, List.getElem?_cons_succ] at X0 X1 X2 X3 X4 X5 X6 X7 X8 X9 X10 X11 X12
      have Xl := hX.lt
      clear hX hcell
      obtain ⟨L0, hL0⟩ : ∃ L, metE l k = L := ⟨_, rfl⟩
      obtain ⟨P0, hP0⟩ : ∃ P, metB l k = P := ⟨_, rfl⟩
      rw [hL0] at HME
      rw [hP0] at HMB
      rw [hL0, hP0] at HC1
      rw [hL0] at hLl
      rw [hP0] at hPl
      obtain ⟨B0, hB0⟩ : ∃ B, wr.heap.size = B := ⟨_, rfl⟩
      go_wp2_with fail
      go_loopw [22] (fun c w2 => ∃ j : Nat, j ≤ es.length ∧ c = .int .i64 j ∧ Cn C M gi bl gj mm bm (.slice (some ⟨g, 0, none⟩) l.length cap) l w (n + j) (L0 ++ (es.take j).map Prod.snd) P0 w2 ∧ SBox w2 B0 164 #[.bool t, .int .u8 x0, .int .u16 x1, .int .u32 x2, .int .u16 x3, .int .u16 x4, .int .u16 x5, .int .u16 x6, .int .u16 x7, .slice ab bs.length cb, .slice ae es.length ce, .bool bad, .bool false]) (fun c _ => 101 - (intOf c).toNat)
      case atStart => exact ⟨0, Nat.zero_le _, rfl, HC1.out.cast (by simp) rfl, by rw [← hB0]; exact HX1.out⟩
      case round =>
        obtain ⟨j, hj, rfl, hc, hX⟩ := hrel
        have HC2 := Lib.hid hc
        have HX2 := Lib.hid hX
        clear hc hX
        by_cases hlt2 : j < es.length
        · obtain ⟨g2, cap3, e, hg2, hc2⟩ := row_cell (HEB.out _ HC2.out.ck).2 (by omega)
          cases e
          obtain ⟨E1, u, E0⟩ := ent_cell es j hlt2
          have c1 := hc2 _ _ E1
          have c0 := hc2 _ _ E0
          have hx := HS3.out es[j] (List.getElem_mem hlt2)
          have HT : Hid ((es.take (j + 1)).map Prod.snd = (es.take j).map Prod.snd ++ [es[j].2]) := Lib.hid (by rw [List.take_succ_eq_append_getElem hlt2, List.map_append]; rfl)
          have hll : (L0 ++ (es.take j).map Prod.snd).length ≤ 20000 := by
            rw [List.length_append, List.length_map, List.length_take]
            omega
          obtain ⟨L1, hL1⟩ : ∃ L, L0 ++ (es.take j).map Prod.snd = L := ⟨_, rfl⟩
          rw [hL1] at HC2 hll
          generalize es[j] = ej at *
          obtain ⟨nm, x⟩ := ej
          simp only at c1 hx HT
          have hcn : L1.count x ≤ 20000 := Nat.le_trans List.count_le_length hll
          have p1 : (0 : Int) ≤ j := by omega
          have p2 : (j : Int) < es.length := by omega
          have hlook := fun o => ((HC2.out.allocC o).drewC).me.look under_u32 under_met (zero_met _) (x : Int) (wf_u32 x hx)
          simp only [gE_at] at hlook
          obtain ⟨w3, hput, h3, t3⟩ := ((HC2.out.allocC (.cells #[.string u, .int .u32 x] 216)).drewC).ent hne (by unfold maxLen; omega) x hx
          have H3 := Lib.hid h3
          have HX3 := Lib.hid (sbox_tch (SBox.drew (HX2.out.alloc (.cells #[.string u, .int .u32 x] 216))) t3 ((HC2.out.allocC (.cells #[.string u, .int .u32 x] 216)).drewC).maps)
          have hbox := HC2.out.ck.box
          have D0 := hbox.cell 0
          have D1 := hbox.cell 1
          have D2 := hbox.cell 2
          have D3 := hbox.cell 3
          have D4 := hbox.cell 4
          have D5 := hbox.cell 5
          have D6 := hbox.cell 6
          simp only [List.getElem?_toArray, List.getElem?_cons_zero, List.getElem?_cons_succ] at D0 D1 D2 D3 D4 D5 D6
          have Dl := hbox.lt
          have hY := SBox.new wr 216 #[.string u, .int .u32 x]
          have Y0 := hY.cell 0
          have Y1 := hY.cell 1
          simp only [List.getElem?_toArray, List.getElem?_cons_zero, List.getElem?_cons_succ] at Y0 Y1
          have Yl := hY.lt
          clear hbox hY h3 t3 hc2 E0 E1
          generalize L1.count x = cn at hlook hput hcn
          go_wp2_with fail
          go_region
          go_wp2_with fail
          go_roundw
          case rel => exact ⟨j + 1, by omega, by go_num, H3.out.cast (by rw [HT.out, ← List.append_assoc, hL1]) rfl, HX3.out⟩
          case measure => simp [intOf]; omega
        · obtain rfl : j = es.length := by omega
          rw [List.take_length] at HC2
          have hX := HX2.out
          clear X0 X1 X2 X3 X4 X5 X6 X7 X8 X9 X10 X11 X12 Xl
          have X0 := hX.cell 0
          have X1 := hX.cell 1
          have X2 := hX.cell 2
          have X3 := hX.cell 3
          have X4 := hX.cell 4
          have X5 := hX.cell 5
          have X6 := hX.cell 6
          have X7 := hX.cell 7
          have X8 := hX.cell 8
          have X9 := hX.cell 9
          have X10 := hX.cell 10
          have X11 := hX.cell 11
          have X12 := hX.cell 12
          simp only [List.getElem?_toArray, List.getElem?_cons_zero, List.getElem?_cons_succ] at X0 X1 X2 X3 X4 X5 X6 X7 X8 X9 X10 X11 X12
          have Xl := hX.lt
          clear hX
          generalize hn2 : n + es.length = n2 at *
          generalize hL2 : L0 ++ es.map Prod.snd = L2 at *
          go_wp2_with fail
          go_loopw [46] (fun c w2 => ∃ j : Nat, j ≤ bs.length ∧ c = .int .i64 j ∧ Cn C M gi bl gj mm bm (.slice (some ⟨g, 0, none⟩) l.length cap) l w (n2 + j) L2 (P0 ++ (bs.take j).map fun b => (b, k + 1)) w2) (fun c _ => 101 - (intOf c).toNat)
          case atStart => exact ⟨0, Nat.zero_le _, rfl, HC2.out.cast rfl (by simp)⟩
          case round =>
            obtain ⟨j, hj, rfl, hc⟩ := hrel
            have HC3 := Lib.hid hc
            clear hc
            by_cases hlt2 : j < bs.length
            · obtain ⟨g2, cap3, e, hg2, hc2⟩ := row_cell (HEB.out _ HC3.out.ck).1 (by omega)
              cases e
              have c1 := hc2 _ _ (u16_cell bs j hlt2)
              have hx := HS4.out bs[j] (List.getElem_mem hlt2)
              have HT : Hid (((bs.take (j + 1)).map fun b => (b, k + 1)) = ((bs.take j).map fun b => (b, k + 1)) ++ [(bs[j], k + 1)]) := Lib.hid (by rw [List.take_succ_eq_append_getElem hlt2, List.map_append]; rfl)
              have hll : (P0 ++ (bs.take j).map fun b => (b, k + 1)).length ≤ 20000 := by
                rw [List.length_append, List.length_map, List.length_take]
                omega
              obtain ⟨P1, hP1⟩ : ∃ P, (P0 ++ (bs.take j).map fun b => (b, k + 1)) = P := ⟨_, rfl⟩
              rw [hP1] at HC3 hll
              generalize bs[j] = x at *
              have hcn : cntP P1 x ≤ 20000 := Nat.le_trans (List.length_filter_le _ _) hll
              have p1 : (0 : Int) ≤ j := by omega
              have p2 : (j : Int) < bs.length := by omega
              have hlook := HC3.out.mb.look under_u16 under_blk (zero_met _) (x : Int) (wf_u16 x hx)
              rw [gB_at] at hlook
              have hbox := HC3.out.ck.box
              have D0 := hbox.cell 0
              have D1 := hbox.cell 1
              have D2 := hbox.cell 2
              have D3 := hbox.cell 3
              have D4 := hbox.cell 4
              have D5 := hbox.cell 5
              have D6 := hbox.cell 6
              simp only [List.getElem?_toArray, List.getElem?_cons_zero, List.getElem?_cons_succ] at D0 D1 D2 D3 D4 D5 D6
              have Dl := hbox.lt
              clear hbox hc2
              have HBL := Lib.hid (fun W (h : Cn C M gi bl gj mm bm (.slice (some ⟨g, 0, none⟩) l.length cap) l w (n2 + j) L2 P1 W) => h.blk hne (by unfold maxLen; omega) x (k + 1) hx)
              generalize hcq : cntP P1 x = cn at *
              generalize fstP P1 x = fn at *
              by_cases hz : cn = 0
              · subst hz
                obtain ⟨w3, hput, h3, t3⟩ := HBL.out _ ((HC3.out.allocC (.cells #[.int .i64 1, .int .u32 ((k : Int) + 1)] 231)).drewC)
                rw [if_pos rfl] at hput
                have hput : (Instr.mapUpdate 158 (.map (some bm)) (.int .u16 x) (.agg #[.int .i64 1, .int .u32 ((k : Int) + 1)])).run Tryz.prog (wr.alloc (.cells #[.int .i64 1, .int .u32 ((k : Int) + 1)] 231)).drew = .ok () w3 := hput
                have H3 := Lib.hid h3
                clear h3 t3
                go_wp2_with fail
                go_region
                go_wp2_with fail
                go_roundw
                case rel => exact ⟨j + 1, by omega, by go_num, H3.out.cast rfl (by rw [HT.out, ← List.append_assoc, hP1])⟩
                case measure => simp [intOf]; omega
              · have t0 : ((cn : Int) == 0) = false := by simp; omega
                obtain ⟨w3, hput, h3, t3⟩ := HBL.out _ ((HC3.out.allocC (.cells #[.int .i64 ((cn : Int) + 1), .int .u32 (fn : Int)] 231)).drewC)
                rw [if_neg hz] at hput
                have hput : (Instr.mapUpdate 158 (.map (some bm)) (.int .u16 x) (.agg #[.int .i64 ((cn : Int) + 1), .int .u32 (fn : Int)])).run Tryz.prog (wr.alloc (.cells #[.int .i64 ((cn : Int) + 1), .int .u32 (fn : Int)] 231)).drew = .ok () w3 := hput
                have H3 := Lib.hid h3
                clear h3 t3
                go_wp2_with fail
                go_region
                go_wp2_with fail
                go_roundw
                case rel => exact ⟨j + 1, by omega, by go_num, H3.out.cast rfl (by rw [HT.out, ← List.append_assoc, hP1])⟩
                case measure => simp [intOf]; omega
            · obtain rfl : j = bs.length := by omega
              rw [List.take_length] at HC3
              go_wp2_with fail
              go_roundw
              case rel => exact ⟨k + 1, by omega, by go_num, n2 + bs.length, by omega, by rw [HME.out, ← hL2]; simp; omega, by rw [HMB.out]; simp; omega, HC3.out.cast HME.out.symm HMB.out.symm⟩
              case measure => simp [intOf]; omega
    · obtain rfl : k = l.length := by omega
      go_wp2
      go_end0
      exact ⟨⟨_, rfl⟩, n, HC.out⟩
end
end Go.Proofs.YtpnfkilfgdnogaaGreatDoor.Img
end
section
namespace Go.Proofs.YtpnfkilfgdnogaaGreatDoor.Img
set_option linter.unusedVariables false
set_option linter.unusedSimpArgs false
open Go.RowKit Go.Shelf Go.Maps Oct Dev Jou Tx Geo Ino Bm Dir Ck
theorem flt_len (fs : List (Nat × Nat × Nat)) : (fltCells fs).length = fs.length * 3 := by
  unfold fltCells
  rw [List.length_flatMap]
  induction fs with
  | nil => rfl
  | cons s r ih => rw [List.map_cons, List.sum_cons, ih]; show 3 + r.length * 3 = (r.length + 1) * 3; omega
theorem flt_one (fs : List (Nat × Nat × Nat)) : ∀ u ∈ fltCells fs, u.oneCell' = true := by
  intro u hu
  obtain ⟨f, _, hf⟩ := List.mem_flatMap.1 hu
  simp at hf
  rcases hf with rfl | rfl | rfl <;> rfl
theorem wpList_append_flts {w : World} {ops : Array Oper} {rest : List Oper} {o : Oper} {a : Act} {Q : Exit → Act → World → Prop} (hgd : o.guard = none) (s x : Operand)
    (ho : o.op = .call { callee := .builtin .append, args := #[s, x], argTypes := #[74, 74] }) (base B : Nat) (fs gs : List (Nat × Nat × Nat)) (v u : Value) (hs : a.eval s = v) (hown : OwnF base fs v w) (hx : a.eval x = u) (hu : OwnF B gs u w)
    (hl : fs.length + gs.length ≤ 100000) (hbase : base ≤ w.heap.size)
    (h : ∀ v' w', OwnF base (fs ++ gs) v' w' → w.grownBy w' v.ownBlock → wpList Tryz.prog ops Q rest (a.put o.dst v') w') : wpList Tryz.prog ops Q (o :: rest) a w := by
  obtain ⟨i0, hi0, hz0, hz1, hz2⟩ := info_parts info_flt
  rcases hu.2 with ⟨e, h0⟩ | ⟨g, cap, cur, e, hb, hg, hc, hr⟩
  · have e0 : gs = [] := List.eq_nil_of_length_eq_zero h0
    subst e0
    refine wpList_append_own_none hgd s x 74 ho base 83 i0 3 Tryz.underlying74 hi0 v fs.length (fltCells fs) hs hown (hx.trans e) ?_
    exact h v w (by rw [List.append_nil]; exact hown) ⟨rfl, rfl, rfl, Nat.le_refl _, fun _ _ _ => rfl⟩
  · refine wpList_append_own w hgd s x 74 ho base 83 i0 (.agg #[.int .u8 0, .int .u32 0, .int .i64 0]) 3 16 Tryz.underlying74 hi0 hz0 hz1 hz2 rfl (by decide) v fs.length (fltCells fs) hs hown ⟨g, 0, none⟩ gs.length cap (fltCells gs) (hx.trans e) (flt_len gs) ?_ (flt_one gs) (by unfold maxLen; omega) (by omega) hbase ?_
    · intro j y hy
      have hadd : (⟨g, 0, none⟩ : Addr).add j = ⟨g, j, none⟩ := by unfold Addr.add; split <;> simp_all
      have h0 := hu
      unfold OwnF at h0
      rw [e] at h0
      have hj := (List.getElem?_eq_some_iff.1 hy).1
      rw [flt_len] at hj
      rw [hadd, World.ownsRow.cellAt h0 j (by omega)]
      exact hy
    · intro v' w' h1 h2 _
      refine h v' w' ?_ h2
      unfold OwnF
      rw [fltCells_app, List.length_append]
      exact h1
section
variable {W W' : World} {B B1 n n1 size size1 : Nat} {e e1 : TypeId} {v v1 : Value} {xs xs1 : List Value}
theorem own_own_ne (h : W.ownsRow B e size v n xs) (h1 : W.ownsRow B1 e1 size1 v1 n1 xs1) (hne : e ≠ e1) (g : Nat) (hg : v.ownBlock = some g) : some g ≠ v1.ownBlock := by
  rcases h.2 with ⟨rfl, _⟩ | ⟨g', cap, cur, rfl, _, hb, _⟩
  · cases hg
  · have e2 : g' = g := Option.some.inj hg
    subst e2
    intro q
    rcases h1.2 with ⟨rfl, _⟩ | ⟨g2, cap2, cur2, rfl, _, hb2, _⟩
    · cases q
    · have e3 : g' = g2 := Option.some.inj q
      subst e3
      rw [hb] at hb2
      cases hb2
      exact hne rfl
theorem own_kept (h : W.ownsRow B e size v n xs) {r : Option Nat} (hg : W.grownBy W' r) (hne : ∀ g, v.ownBlock = some g → some g ≠ r) : W'.ownsRow B e size v n xs := by
  refine ⟨h.1, ?_⟩
  rcases h.2 with h1 | ⟨g, cap, cur, rfl, hb, hg2, q⟩
  · exact .inl h1
  · exact .inr ⟨g, cap, cur, rfl, hb, (hg.block g (Array.getElem?_eq_some_iff.1 hg2).1 (hne g rfl)).trans hg2, q⟩
theorem own_setb (h : W.ownsRow B e size v n xs) {c i : Nat} {t : TypeId} {cs : Array Value} (hc : SBox W c t cs) (hne : t ≠ e) (u : Value) : (W.setCell ⟨c, i, none⟩ u).ownsRow B e size v n xs := by
  refine ⟨h.1, ?_⟩
  rcases h.2 with h1 | ⟨g, cap, cur, rfl, hb, hg2, q⟩
  · exact .inl h1
  · have hcg : g ≠ c := fun q => by
      subst q
      unfold SBox at hc
      rw [hc] at hg2
      cases hg2
      exact hne rfl
    exact .inr ⟨g, cap, cur, rfl, hb, (heap_setCell_other W ⟨c, i, none⟩ g u hcg).trans hg2, q⟩
theorem own_map_ne (h : W.ownsRow B e size v n xs) {m : Nat} (hm : ∃ es cl, W.heap[m]? = some (.map es cl)) : some m ≠ v.ownBlock := by
  rcases h.2 with ⟨rfl, _⟩ | ⟨g, cap, cur, rfl, _, hb, _⟩
  · intro q
    cases q
  · intro q
    have q2 : m = g := Option.some.inj q
    subst q2
    obtain ⟨es, cl, hm⟩ := hm
    rw [hb] at hm
    cases hm
end
structure Lk (C M gi bl gj mm bm : Nat) (w : World) (v : Value) (l : List Sn) (W : World) : Prop where
  box : SBox W C 161 #[.pointer (some ⟨M, 0, none⟩), .int .i64 gi, .int .i64 bl, .int .i64 gj, v, .map (some mm), .map (some bm)]
  all : AllIs W w.heap.size l v
  me : MMap 40 .u32 W mm 0 (fun _ => (0, 0))
  mb : MMap 39 .u16 W bm 0 (fun _ => (0, 0))
  bel : Below w.heap.size w W
  cb : w.heap.size ≤ C
section
variable {C M gi bl gj mm bm : Nat} {v : Value} {l : List Sn} {w W W' : World}
theorem Lk.later (h : Lk C M gi bl gj mm bm w v l W) (hb : Below W.heap.size W W') : Lk C M gi bl gj mm bm w v l W' := ⟨h.box.later hb, h.all.later hb, h.me.later hb, h.mb.later hb, h.bel.trans (hb.mono h.bel.size), h.cb⟩
theorem Lk.snoc (h : Lk C M gi bl gj mm bm w v l W) (s : Sn) (hbs : OwnL w.heap.size s.bs s.vb W) (hes : OwnE w.heap.size s.es s.ve W) {g cap : Nat} (hrow : W'.ownsRow w.heap.size 164 13 (.slice (some ⟨g, 0, none⟩) (l.length + 1) cap) (l.length + 1) (snCells l ++ s.cells)) (hg : W.grownBy W' v.ownBlock) :
    Lk C M gi bl gj mm bm w (.slice (some ⟨g, 0, none⟩) (l.length + 1) cap) (l ++ [s]) (W'.setCell ⟨C, 4, none⟩ (.slice (some ⟨g, 0, none⟩) (l.length + 1) cap)) := by
  have hown := h.all.1
  have hCn := own_ne h.box hown (by decide)
  have hbox := SBox.kept h.box hg hCn
  have key : ∀ s' : Sn, OwnL w.heap.size s'.bs s'.vb W ∧ OwnE w.heap.size s'.es s'.ve W → OwnL w.heap.size s'.bs s'.vb (W'.setCell ⟨C, 4, none⟩ (.slice (some ⟨g, 0, none⟩) (l.length + 1) cap)) ∧ OwnE w.heap.size s'.es s'.ve (W'.setCell ⟨C, 4, none⟩ (.slice (some ⟨g, 0, none⟩) (l.length + 1) cap)) := fun s' q =>
    ⟨own_setb (own_kept q.1 hg (own_own_ne q.1 hown (by decide))) hbox (by decide) _, own_setb (own_kept q.2 hg (own_own_ne q.2 hown (by decide))) hbox (by decide) _⟩
  have hmm : ∀ {m : Nat}, (∃ es cl, W'.heap[m]? = some (.map es cl)) → m ≠ C := fun {m} q e => by
    obtain ⟨es, cl, hm⟩ := q
    subst e
    unfold SBox at hbox
    rw [hbox] at hm
    cases hm
  have me := h.me.kept hg (own_map_ne hown h.me.isMap)
  have mb := h.mb.kept hg (own_map_ne hown h.mb.isMap)
  refine ⟨?_, ⟨?_, ?_⟩, me.block (heap_setCell_other W' ⟨C, 4, none⟩ mm _ (hmm me.isMap)), mb.block (heap_setCell_other W' ⟨C, 4, none⟩ bm _ (hmm mb.isMap)), (Below.grown h.bel hg h.bel.size (fun k e => (hown.lt k e).1)).setCell h.cb _, h.cb⟩
  · have q := hbox.set 4 (.slice (some ⟨g, 0, none⟩) (l.length + 1) cap)
    simp only [List.setIfInBounds_toArray, List.set_cons_zero, List.set_cons_succ] at q
    exact q
  · rw [snCells_snoc, List.length_append]
    exact own_setb hrow hbox (by decide) _
  · intro s' hs'
    rcases List.mem_append.1 hs' with q | q
    · exact key s' (h.all.2 s' q)
    · rw [List.mem_singleton.1 q]
      exact key s ⟨hbs, hes⟩
end
end Go.Proofs.YtpnfkilfgdnogaaGreatDoor.Img
end
section
namespace Go.Proofs.YtpnfkilfgdnogaaGreatDoor.Img
set_option linter.unusedVariables false
set_option linter.unusedSimpArgs false
open Go.RowKit Go.Shelf Go.Maps Oct Dev Jou Tx Geo Ino Bm Dir
structure Seen (i : Nat) (tk : Nat → Bool) (ino : Nat → InoT) (vs : Nat → List Nat) (le : List Ent) (l : List Sn) : Prop where
  len : l.length = i
  at_ : ∀ k, k < i → (snAt l (k + 1)).t = decide ((ino (k + 1)).kind ≠ 0) ∧ (snAt l (k + 1)).x = ino (k + 1) ∧ (snAt l (k + 1)).bad = badN tk ino (k + 1) ∧ (snAt l (k + 1)).bs = blks (ino (k + 1)) (vs (k + 1)) ∧ (snAt l (k + 1)).es = if k = 0 then le else []
section
variable {i : Nat} {tk : Nat → Bool} {ino : Nat → InoT} {vs : Nat → List Nat} {le : List Ent} {l : List Sn}
theorem Seen.there (h : Seen i tk ino vs le l) (n : Nat) : (snAt l n).t = thereB i ino n := by
  unfold thereB
  by_cases h0 : n = 0
  · subst h0
    rfl
  · by_cases hn : n ≤ i
    · obtain ⟨m, rfl⟩ : ∃ m, n = m + 1 := ⟨n - 1, by omega⟩
      rw [(h.at_ m (by omega)).1]
      simp [hn]
    · rw [snAt_no l n (by have := h.len; omega)]
      simp [noSn, hn]
theorem Seen.inoF (h : Seen i tk ino vs le l) (k : Nat) (hk : k < i) : inoS l k = fltI i tk ino le k := by
  obtain ⟨a, b, c, d, e⟩ := h.at_ k hk
  unfold inoS fltI
  rw [c, e]
  by_cases h0 : k = 0
  · subst h0
    rw [if_pos rfl, if_pos rfl]
    congr 1
    refine upTo_congr _ fun q hq => ?_
    unfold entS entF
    rw [h.there]
  · rw [if_neg h0, if_neg h0]
    rfl
theorem Seen.metE (h : Seen i tk ino vs le l) : ∀ k, 1 ≤ k → k ≤ i → metE l k = le.map Prod.snd
  | 1, _, hk => by
    have e : Img.metE l 1 = [] ++ (snAt l 1).es.map Prod.snd := rfl
    rw [e, (h.at_ 0 (by omega)).2.2.2.2, if_pos rfl, List.nil_append]
  | k + 2, _, hk => by
    have e : Img.metE l (k + 2) = Img.metE l (k + 1) ++ (snAt l (k + 2)).es.map Prod.snd := rfl
    rw [e, h.metE (k + 1) (by omega) (by omega), (h.at_ (k + 1) (by omega)).2.2.2.2, if_neg (by omega)]
    simp
theorem Seen.lnk (h : Seen i tk ino vs le l) (hr : (ino 1).kind = 2 ∧ (ino 1).links = 1) (h2 : ∀ n, 2 ≤ n → n ≤ i → (ino n).kind ≠ 2) (hok : ∀ n, 1 ≤ n → n ≤ i → (ino n).kind ≤ 2 ∧ (ino n).links < 65536) (hl : LnkOk i ino le) : LnkS l := by
  intro k hk ht
  have hi := h.len
  obtain ⟨a, b, c, d, e⟩ := h.at_ k (by omega)
  rw [a] at ht
  have h0 : (ino (k + 1)).kind ≠ 0 := by simpa using ht
  by_cases hk0 : k = 0
  · subst hk0
    exact .inr ⟨rfl, by rw [b]; exact hr.2, by rw [b]; exact hr.1⟩
  · have h1 : (ino (k + 1)).kind = 1 := by
      have := (hok (k + 1) (by omega) (by omega)).1
      have := h2 (k + 1) (by omega) (by omega)
      omega
    refine .inl ⟨by rw [b]; exact h1, ?_, by rw [b]; exact (hok (k + 1) (by omega) (by omega)).2⟩
    rw [b, hi, h.metE i (by omega) (Nat.le_refl _), cnt_map]
    exact hl (k + 1) (by omega) (by omega) h1
theorem pairs_congr {L L' : Nat → List Nat} : ∀ n, (∀ m, 1 ≤ m → m ≤ n → L m = L' m) → pairsL L n = pairsL L' n
  | 0, _ => rfl
  | n + 1, h => by
    have e : pairsL L (n + 1) = pairsL L n ++ (L (n + 1)).map fun b => (b, n + 1) := rfl
    have e2 : pairsL L' (n + 1) = pairsL L' n ++ (L' (n + 1)).map fun b => (b, n + 1) := rfl
    rw [e, e2, pairs_congr n (fun m h1 h2 => h m h1 (by omega)), h (n + 1) (by omega) (Nat.le_refl _)]
theorem Seen.metB (h : Seen i tk ino vs le l) : metB l i = pairsL (fun m => blks (ino m) (vs m)) i :=
  pairs_congr i fun m h1 h2 => by
    obtain ⟨k, rfl⟩ : ∃ k, m = k + 1 := ⟨m - 1, by omega⟩
    exact (h.at_ k (by omega)).2.2.2.1
theorem Seen.ck (h : Seen i tk ino vs le l) (bl : Nat) (bt : Nat → Bool) : ckS l bl bt = ckL i bl tk bt ino (fun m => blks (ino m) (vs m)) le := by
  unfold ckS ckL
  rw [h.len, upTo_congr i (fun k hk => h.inoF k hk), h.metB]
end
end Go.Proofs.YtpnfkilfgdnogaaGreatDoor.Img
end
section
namespace Go.Proofs.YtpnfkilfgdnogaaGreatDoor.Img
set_option linter.unusedVariables false
set_option linter.unusedSimpArgs false
open Go.RowKit Go.Shelf Go.Maps Oct Dev Jou Tx Geo Ino Bm Dir Ck
section
variable {E : Im} {D D' : Secs} {ino : Nat → InoT} {vs : Nat → List Nat} {es : List Ent} {Z : Nat → Prop} {w W : World}
theorem blks_len {x : InoT} {v : List Nat} (hl : v.length = 32) : (blks x v).length ≤ 37 := by
  rw [blks_eq hl, List.length_append, List.length_append]
  have h1 := List.length_filter_le (fun v => decide (v ≠ 0)) (dirL x)
  have h2 := List.length_filter_le (fun v => decide (v ≠ 0)) v
  have h3 : (if x.ind = 0 then ([] : List Nat) else [x.ind]).length ≤ 1 := by split <;> simp
  have h4 : (dirL x).length = 4 := rfl
  omega
theorem CkS.ble (c : CkS E D ino vs es) {n b : Nat} (h1 : 1 ≤ n) (hn : n ≤ E.i) (h : b ∈ blks (ino n) (vs n)) : b ≤ E.bl := by
  have hv := c.ind n h1 hn
  obtain ⟨a0, a1, a2, a3, a4⟩ := c.ing n h1 hn
  rcases ((mem_blks hv.len b).1 h).2 with q | q | q
  · simp only [dirL, List.mem_cons, List.not_mem_nil, or_false] at q
    rcases q with rfl | rfl | rfl | rfl <;> assumption
  · exact hv.lt b q
  · rw [q]; exact a4
theorem CkS.free (c : CkS E D ino vs es) {n : Nat} (h1 : 1 ≤ n) (hn : n ≤ E.i) (hk : (ino n).kind = 0) : blks (ino n) (vs n) = [] := by
  have hx : ino n = noIno := by
    rcases c.ok n h1 hn with q | q
    · exact q
    · rcases q.kind with q2 | q2 <;> omega
  have hv := c.ind n h1 hn
  rw [hx] at hv ⊢
  rw [hv.no rfl]
  exact blks_no.1
theorem CkS.kind (c : CkS E D ino vs es) {n : Nat} (h1 : 1 ≤ n) (hn : n ≤ E.i) : (ino n).kind ≤ 2 ∧ (ino n).links < 65536 := by
  rcases c.ok n h1 hn with q | q
  · rw [q]; decide
  · have := q.links
    rcases q.kind with q2 | q2 <;> omega
theorem look_d (hs : Small E) (h : IS w E D Z) (c : CkS E D ino vs es) {C mm bm : Nat} {gi gj : Nat} {allV mV bV : Value} (W : World) (hW : Below w.heap.size w W) (hC : SBox W C 161 #[.pointer (some ⟨E.M, 0, none⟩), .int .i64 gi, .int .i64 E.bl, .int .i64 gj, allV, mV, bV]) (k : Nat) (hk : k < E.i) :
    Calls Tryz.prog 83 #[.pointer (some ⟨C, 0, none⟩), .int .u32 (k + 1 : Nat)] W (LookRes (ino (k + 1)) (bitB (D (fr E 2)) (k + 1)) (blks (ino (k + 1)) (vs (k + 1))) (if k = 0 then live es else []) W) := by
  have h1 : 1 ≤ k + 1 := by omega
  have hW0 := h.later hW
  have IN := fun V (hV : Below W.heap.size W V) => inode_is (k + 1) (ino (k + 1)) V hs (hW0.later hV) h1 hk (c.is _ h1 hk) (c.ok _ h1 hk)
  have TK := fun V (hV : Below W.heap.size W V) => taken_is (k + 1) V hs (hW0.later hV) h1 hk
  have BL := fun V (hV : Below W.heap.size W V) => blocks_is (k + 1) (ino (k + 1)) (vs (k + 1)) V hs (hW0.later hV) h1 hk (c.is _ h1 hk) (c.ok _ h1 hk) (c.ing _ h1 hk) (c.ind _ h1 hk)
  have ble := fun b hb => c.ble (b := b) h1 hk hb
  have bln := blks_len (x := ino (k + 1)) (c.ind _ h1 hk).len
  have hkd := (c.kind h1 hk).1
  have fre := c.free h1 hk
  have hr : (ino (k + 1)).kind = 2 → k = 0 := fun q => Classical.byContradiction fun q2 => c.two (k + 1) (by omega) hk q
  have hr1 : k = 0 → (ino (k + 1)).kind = 2 := fun q => by subst q; exact c.root.kind
  have TX : (ino (k + 1)).kind = 2 → ∀ V, Below W.heap.size W V → Calls Tryz.prog 16 #[.pointer (some ⟨E.M, 0, none⟩), .int .u32 (k + 1 : Nat)] V fun e w' => e = .returned (.tuple #[.string (B (encL es)), .int .i64 0]) ∧ Below V.heap.size V w' := fun q V hV => by
    have k0 := hr q
    subst k0
    have T := text_is 1 (ino 1) (vs 1) V hs (hW0.later hV) (Nat.le_refl 1) hk (c.is 1 h1 hk) (c.ok 1 h1 hk) c.root.kind (c.ing 1 h1 hk) (c.ind 1 h1 hk)
    rw [c.root.text] at T
    exact T
  have hbb : E.bl < 65536 := by have := hs.hb; omega
  unfold blks at ble bln fre ⊢
  generalize ino (k + 1) = x at *
  generalize cutFree x (vs (k + 1)) 0 = bs at *
  obtain ⟨kind, links, size, d0, d1, d2, d3, ind⟩ := x
  simp only at hkd fre hr hr1 TX
  by_cases q0 : kind = 0
  · subst q0
    rw [fre rfl, if_neg (fun q => by have := hr1 q; cases this)]
    exact look_free links size d0 d1 d2 d3 ind hC IN TK
  · have L := look_used kind links size d0 d1 d2 d3 ind (by omega) c.root.dir hC IN TK BL TX ble hbb (by omega)
    by_cases q2 : kind = 2
    · rw [if_pos q2] at L
      rw [if_pos (hr q2)]
      exact L
    · rw [if_neg q2] at L
      rw [if_neg (fun q => q2 (hr1 q))]
      exact L
theorem Seen.snoc {k : Nat} {tk : Nat → Bool} {le : List Ent} {l : List Sn} (h : Seen k tk ino vs le l) (s : Sn) (hs : s.t = decide ((ino (k + 1)).kind ≠ 0) ∧ s.x = ino (k + 1) ∧ s.bad = badN tk ino (k + 1) ∧ s.bs = blks (ino (k + 1)) (vs (k + 1)) ∧ s.es = if k = 0 then le else []) : Seen (k + 1) tk ino vs le (l ++ [s]) := by
  have hl := h.len
  refine ⟨by rw [List.length_append, hl]; rfl, fun q hq => ?_⟩
  by_cases e : q = k
  · subst e
    rw [snAt_get (l ++ [s]) q (by rw [List.length_append, hl]; simp)]
    simp only [List.getElem_append, hl, Nat.lt_irrefl, ↓reduceDIte, Nat.sub_self, List.getElem_cons_zero]
    exact hs
  · have e2 : snAt (l ++ [s]) (q + 1) = snAt l (q + 1) := by
      rw [snAt_get (l ++ [s]) q (by rw [List.length_append, hl]; simp; omega), snAt_get l q (by omega)]
      exact List.getElem_append_left (by omega)
    rw [e2]
    exact h.at_ q (by omega)
theorem Seen.nil {tk : Nat → Bool} {le : List Ent} : Seen 0 tk ino vs le [] := ⟨rfl, fun q hq => by omega⟩
end
end Go.Proofs.YtpnfkilfgdnogaaGreatDoor.Img
end
section
namespace Go.Proofs.YtpnfkilfgdnogaaGreatDoor.Img
set_option linter.unusedVariables false
set_option linter.unusedSimpArgs false
open Go.RowKit Go.Shelf Go.Maps Oct Dev Jou Tx Geo Ino Bm Dir Ck
section
variable {E : Im} {D D' : Secs} {ino : Nat → InoT} {vs : Nat → List Nat} {es : List Ent} {Z : Nat → Prop} {w W : World}
theorem rowk {B k m : Nat} {e : TypeId} {z : Nat} {v : Value} {xs : List Value} (h : m = k) (r : W.ownsRow B e z v m xs) : W.ownsRow B e z v k xs := by subst h; exact r
def ChkR (E : Im) (D : Secs) (ino : Nat → InoT) (vs : Nat → List Nat) (es : List Ent) (w : World) (e : Ending) (w' : World) : Prop :=
  ∃ v, e = .returned (.tuple #[v, .int .i64 0]) ∧ OwnF w.heap.size (ckL E.i E.bl (fun n => bitB (D (fr E 2)) n) (fun b => bitB (D (fr E 3)) b) ino (fun m => blks (ino m) (vs m)) (live es)) v w' ∧ Below w.heap.size w w'
theorem live_len (d : Dir es) : (live es).length ≤ 100 := by
  have h1 : (live es).length ≤ es.length := List.length_filter_le _ _
  have h2 := (enc_size d).2
  rw [size_B, len_encL d.ok] at h2
  omega
set_option maxRecDepth 100000 in
set_option maxHeartbeats 2000000 in
theorem check_is (w : World) (hs : Small E) (h : IS w E D Z) (c : CkS E D ino vs es) (hr : ∀ e ∈ live es, 2 ≤ e.2 ∧ e.2 ≤ E.i) (hlk : LnkOk E.i ino (live es)) :
    Calls Tryz.prog 36 #[.pointer (some ⟨E.M, 0, none⟩), geoV E.i E.bl E.j] w (ChkR E D ino vs es w) := by
  obtain ⟨i0, hi0, hz0, hz1, hz2⟩ := info_parts info_seen
  have hmm := @run_makeMap Tryz.prog
  have hi30 := hs.hi
  have hb60 := hs.hb
  have MY := Lib.hid (fun W => may_any E.i E.bl E.j W)
  rw [hs.may] at MY
  have FR := Lib.hid (fun W (h : IS W E D Z) => free_is W hs h)
  have LK := Lib.hid (fun C mV bV allV W hW hC k hk => look_d (C := C) (mm := 0) (bm := 0) (gi := E.i) (gj := E.j) (mV := mV) (bV := bV) (allV := allV) hs h c W hW hC k hk)
  have H := Lib.hid h
  have HC := Lib.hid c
  have HR := Lib.hid hr
  have HLN := Lib.hid hlk
  have HS := Lib.hid hs
  clear h c hr hlk hs
  have HB0 := Lib.hid ((Below.refl _ w).alloc (Nat.le_refl _) (.cells #[.int .i64 E.i, .int .i64 E.bl, .int .i64 E.j] 23))
  have HG0 := Lib.hid (SBox.new w 23 #[.int .i64 E.i, .int .i64 E.bl, .int .i64 E.j])
  unfold geoV at *
  have hX := HG0.out
  have X0 := hX.cell 0
  have X1 := hX.cell 1
  have X2 := hX.cell 2
  simp only [List.getElem?_toArray, List.getElem?_cons_zero, List.getElem?_cons_succ] at X0 X1 X2
  have Xl := hX.lt
  clear hX
  go_enter Tryz.func36, Tryz.ntmps36
  go_wp2_with fail
  refine (MY.out _).mono ?_
  rintro e w1 ⟨rfl, b1⟩
  have HB1 := Lib.hid (HB0.out.trans (b1.mono HB0.out.size))
  have HG1 := Lib.hid (HG0.out.later b1)
  clear b1 X0 X1 X2 Xl
  go_wp2_with fail
  refine (FR.out _ (H.out.later HB1.out)).mono ?_
  rintro e w2 ⟨rfl, b2⟩
  have HB2 := Lib.hid (HB1.out.trans (b2.mono HB1.out.size))
  have HG2 := Lib.hid (HG1.out.later b2)
  clear b2
  have e1 : (w2.alloc (.map #[] 0)).heap.size = w2.heap.size + 1 := World.size_alloc _ _
  have e2 : ((w2.alloc (.map #[] 0)).alloc (.map #[] 0)).heap.size = w2.heap.size + 1 + 1 := (World.size_alloc _ _).trans (by rw [e1])
  have hX := HG2.out
  have X0 := hX.cell 0
  have X1 := hX.cell 1
  have X2 := hX.cell 2
  simp only [List.getElem?_toArray, List.getElem?_cons_zero, List.getElem?_cons_succ] at X0 X1 X2
  have Xl := hX.lt
  have hX2 := ((HG2.out.alloc (.map #[] 0)).alloc (.map #[] 0)).alloc (.cells #[.pointer (some ⟨E.M, 0, none⟩), .int .i64 E.i, .int .i64 E.bl, .int .i64 E.j, .slice none 0 0, .map (some w2.heap.size), .map (some (w2.heap.size + 1))] 161)
  have Y0 := hX2.cell 0
  have Y1 := hX2.cell 1
  have Y2 := hX2.cell 2
  simp only [List.getElem?_toArray, List.getElem?_cons_zero, List.getElem?_cons_succ] at Y0 Y1 Y2
  have Yl := hX2.lt
  have m1 := (MMap.new 40 .u32 w2).alloc (.map #[] 0)
  have m2 := MMap.new 39 .u16 (w2.alloc (.map #[] 0))
  have bx := SBox.new ((w2.alloc (.map #[] 0)).alloc (.map #[] 0)) 161 #[.pointer (some ⟨E.M, 0, none⟩), .int .i64 E.i, .int .i64 E.bl, .int .i64 E.j, .slice none 0 0, .map (some w2.heap.size), .map (some (w2.heap.size + 1))]
  rw [e1] at m2
  rw [e2] at bx
  have HBL := Lib.hid ((((HB2.out.alloc HB2.out.size (.map #[] 0)).alloc (by have := HB2.out.size; omega) (.map #[] 0)).alloc (by have := HB2.out.size; omega) (.cells #[.pointer (some ⟨E.M, 0, none⟩), .int .i64 E.i, .int .i64 E.bl, .int .i64 E.j, .slice none 0 0, .map (some w2.heap.size), .map (some (w2.heap.size + 1))] 161)))
  have hLK0 : Lk (w2.heap.size + 1 + 1) E.M E.i E.bl E.j w2.heap.size (w2.heap.size + 1) w (.slice none 0 0) [] _ := ⟨bx, ⟨World.ownsRow_nil _ _ _ _, fun _ q => by cases q⟩, m1.alloc _, m2.alloc _, HBL.out, by have := HB2.out.size; omega⟩
  have HLK0 := Lib.hid hLK0
  have hb2 := HB2.out.size
  clear hX hX2 FR MY m1 m2 bx HBL hLK0 e1 e2
  go_wp2_with fail
  go_loopw [35] (fun cI wr => ∃ k : Nat, k ≤ E.i ∧ cI = .int .u32 k ∧ ∃ v l, Seen k (fun n => bitB (D (fr E 2)) n) ino vs (live es) l ∧ Lk (w2.heap.size + 1 + 1) E.M E.i E.bl E.j w2.heap.size (w2.heap.size + 1) w v l wr) (fun cI _ => 101 - (intOf cI).toNat)
  case atStart => exact ⟨0, Nat.zero_le _, rfl, _, _, Seen.nil, HLK0.out⟩
  case round =>
    obtain ⟨k, hk, rfl, v, l, hSe, hL⟩ := hrel
    have HSE := Lib.hid hSe
    have HL := Lib.hid hL
    clear hSe hL X0 X1 X2 Xl Y0 Y1 Y2 Yl
    by_cases hlt : k < E.i
    · have q1 : (k : Int) < E.i := by omega
      have hwr : IntKind.u32.wrap ((k : Int) + 1) = (k : Int) + 1 := by simp [IntKind.wrap, IntKind.bits, IntKind.signed]; omega
      have HLD := Lib.hid (HL.out.later (Below.refl _ _).drew)
      have hlk := HSE.out.len
      have LK1 := LK.out _ _ _ _ _ HLD.out.bel HLD.out.box k hlt
      have HSN := Lib.hid (fun s hs => HSE.out.snoc (ino := ino) (vs := vs) s hs)
      obtain ⟨x, hx⟩ : ∃ x, ino (k + 1) = x := ⟨_, rfl⟩
      obtain ⟨bs, hbs⟩ : ∃ b, blks x (vs (k + 1)) = b := ⟨_, rfl⟩
      obtain ⟨le, hle⟩ : ∃ b, (if k = 0 then live es else []) = b := ⟨_, rfl⟩
      obtain ⟨tb, htb⟩ : ∃ b, decide (x.kind ≠ 0) = b := ⟨_, rfl⟩
      obtain ⟨bad, hbad⟩ : ∃ b, (bitB (D (fr E 2)) (k + 1) != tb) = b := ⟨_, rfl⟩
      unfold badN at HSN
      rw [hx, hbs, hle, htb] at HSN
      rw [hx] at LK1
      unfold LookRes seenV at LK1
      rw [hbs, hle, htb, hbad] at LK1
      simp only [hbad] at HSN
      obtain ⟨ao, cap0, hv⟩ := row_slice HL.out.all.1
      rw [hlk] at hv
      subst hv
      have hX := HL.out.box
      have X0 := hX.cell 0
      have X1 := hX.cell 1
      have X2 := hX.cell 2
      have X3 := hX.cell 3
      have X4 := hX.cell 4
      have X5 := hX.cell 5
      have X6 := hX.cell 6
      simp only [List.getElem?_toArray, List.getElem?_cons_zero, List.getElem?_cons_succ] at X0 X1 X2 X3 X4 X5 X6
      have Xl := hX.lt
      clear hX
      go_wp2_with fail
      go_region_law (first | (refine step_append_lies _ rfl (.tmp 42) (.tmp 47) 159 rfl w.heap.size 164 i0 (.agg #[.bool false, .int .u8 0, .int .u16 0, .int .u32 0, .int .u16 0, .int .u16 0, .int .u16 0, .int .u16 0, .int .u16 0, .slice none 0 0, .slice none 0 0, .bool false, .bool false]) 13 80 Tryz.underlying159 hi0 hz0 hz1 hz2 rfl (by decide) _ k (snCells l) rfl HOA.out ⟨w9.heap.size, 0, none⟩ 1 1 [.bool tb, .int .u8 x.kind, .int .u16 x.links, .int .u32 x.size, .int .u16 x.d0, .int .u16 x.d1, .int .u16 x.d2, .int .u16 x.d3, .int .u16 x.ind, .slice ab bs.length cb, .slice ae le.length ce, .bool bad, .bool false] rfl rfl ?q1 ?q2 (by decide) ?q3 ?q4 ?q5 _ rfl ?_; (case q1 => exact World.news_of_block (SBox.new w9 164 #[.bool tb, .int .u8 x.kind, .int .u16 x.links, .int .u32 x.size, .int .u16 x.d0, .int .u16 x.d1, .int .u16 x.d2, .int .u16 x.d3, .int .u16 x.ind, .slice ab bs.length cb, .slice ae le.length ce, .bool bad, .bool false])); (case q2 => (intro u hu; simp at hu; rcases hu with rfl | rfl | rfl | rfl | rfl | rfl | rfl | rfl | rfl | rfl | rfl | rfl | rfl <;> rfl)); (case q3 => (unfold maxLen; omega)); (case q4 => omega); (case q5 => exact hbs9); intro g cap w10 hown10 hgrow10 hat hlt10; have HXc := Lib.hid (SBox.kept HLA.out.box hgrow10 hne); have y4 := HXc.out.cell 4; have fy := HXc.out.free 4; have yl := HXc.out.lt; simp only [List.getElem?_toArray, List.getElem?_cons_zero, List.getElem?_cons_succ] at y4) | (go_simp; go_at_call 83; (try rw [hwr]); refine Calls.mono LK1 ?_; rintro e w9 ⟨vb, ve, rfl, ob, oe, b9⟩; obtain ⟨ab, cb, rfl⟩ := row_slice ob; obtain ⟨ae, ce, rfl⟩ := row_slice oe; have HL9 := Lib.hid (HLD.out.later b9); have HLA := Lib.hid (HL9.out.later ((Below.refl _ w9).alloc (Nat.le_refl _) (.cells #[.bool tb, .int .u8 x.kind, .int .u16 x.links, .int .u32 x.size, .int .u16 x.d0, .int .u16 x.d1, .int .u16 x.d2, .int .u16 x.d3, .int .u16 x.ind, .slice ab bs.length cb, .slice ae le.length ce, .bool bad, .bool false] 164))); have HOA := Lib.hid (rowk hlk HLA.out.all.1); have HOB := Lib.hid (World.ownsRow.alloc (own_mono ob HLD.out.bel.size) (.cells #[.bool tb, .int .u8 x.kind, .int .u16 x.links, .int .u32 x.size, .int .u16 x.d0, .int .u16 x.d1, .int .u16 x.d2, .int .u16 x.d3, .int .u16 x.ind, .slice ab bs.length cb, .slice ae le.length ce, .bool bad, .bool false] 164)); have HOE := Lib.hid (World.ownsRow.alloc (own_mono oe HLD.out.bel.size) (.cells #[.bool tb, .int .u8 x.kind, .int .u16 x.links, .int .u32 x.size, .int .u16 x.d0, .int .u16 x.d1, .int .u16 x.d2, .int .u16 x.d3, .int .u16 x.ind, .slice ab bs.length cb, .slice ae le.length ce, .bool bad, .bool false] 164)); have hbs9 := HLA.out.bel.size; have hne := own_ne HLA.out.box HLA.out.all.1 (by decide); have hX := HL9.out.box; have P0 := hX.cell 0; have P4 := hX.cell 4; have Pl := hX.lt; simp only [List.getElem?_toArray, List.getElem?_cons_zero, List.getElem?_cons_succ] at P0 P4; clear hX b9 ob oe))
      all_goals
        have hN := HLA.out.snoc ⟨tb, x, .slice ab bs.length cb, .slice ae le.length ce, bad, bs, le⟩ HOB.out HOE.out (by rw [hlk]; exact hown10) hgrow10
        rw [hlk] at hN
        have HN := Lib.hid hN
        clear hN
        go_wp2_with fail
        go_roundw
        case rel => exact ⟨k + 1, by omega, by go_num, _, _, HSN.out ⟨tb, x, .slice ab bs.length cb, .slice ae le.length ce, bad, bs, le⟩ ⟨rfl, rfl, rfl, rfl, rfl⟩, HN.out⟩
        case measure => simp [intOf]; omega
    · obtain rfl : k = E.i := by omega
      have hlk := HSE.out.len
      have hi2 : 2 ≤ E.i := by have := HS.out.may; simp [mayG, inR] at this; omega
      have hCK : CkAt wr (w2.heap.size + 1 + 1) E.M E.i E.bl E.j v w2.heap.size (w2.heap.size + 1) l := ⟨HL.out.box, own_mono HL.out.all.1 (Nat.zero_le _), fun s hs => ⟨own_mono (HL.out.all.2 s hs).1 (Nat.zero_le _), own_mono (HL.out.all.2 s hs).2 (Nat.zero_le _)⟩⟩
      have hLL := live_len HC.out.root.dir
      have hsb : ∀ s ∈ l, s.es.length ≤ 100 ∧ s.bs.length ≤ 100 ∧ (∀ e ∈ s.es, e.2 < 4294967296) ∧ ∀ b ∈ s.bs, b < 65536 := by
        intro s hs
        obtain ⟨q, hq, rfl⟩ := List.getElem_of_mem hs
        obtain ⟨a1, a2, a3, a4, a5⟩ := HSE.out.at_ q (by omega)
        rw [snAt_get l q hq] at a4 a5
        have b1 := blks_len (x := ino (q + 1)) (HC.out.ind (q + 1) (by omega) (by omega)).len
        refine ⟨by rw [a5]; split; exact hLL; exact Nat.zero_le _, by rw [a4]; omega, fun e he => ?_, fun b hb => ?_⟩
        · rw [a5] at he
          split at he
          · have := HR.out e he
            omega
          · cases he
        · rw [a4] at hb
          have := HC.out.ble (by omega) (by omega) hb
          omega
      have hs1 := HSE.out.at_ 0 (by omega)
      have ht1 : (snAt l 1).t = true := by rw [hs1.1, HC.out.root.kind]; rfl
      have hk1 : (snAt l 1).x.kind = 2 := by rw [hs1.2.1]; exact HC.out.root.kind
      have he1 : (snAt l 1).es = live es := by rw [hs1.2.2.2.2, if_pos rfl]
      have hee : ∀ e ∈ (snAt l 1).es, e.2 < 4294967296 ∧ (snAt l e.2).es = [] := by
        intro e he
        rw [he1] at he
        obtain ⟨r1, r2⟩ := HR.out e he
        refine ⟨by omega, ?_⟩
        have := (HSE.out.at_ (e.2 - 1) (by omega)).2.2.2.2
        rw [show e.2 - 1 + 1 = e.2 by omega, if_neg (by omega)] at this
        exact this
      have hls := HSE.out.lnk ⟨HC.out.root.kind, HC.out.root.links⟩ HC.out.two (fun n h1 hn => HC.out.kind h1 hn) HLN.out
      have CN := Lib.hid (count_is wr hCK HL.out.me HL.out.mb (by omega) (by omega) hsb)
      have hck := HSE.out.ck E.bl (fun b => bitB (D (fr E 3)) b)
      unfold ckS at hck
      rw [hlk] at hck
      have HCK := Lib.hid hck
      have hes1 : (snAt l 1).es.length ≤ 100 := by rw [he1]; exact hLL
      have HLL := Lib.hid hlk
      have hl100 : l.length ≤ 100 := by omega
      have hinl : (upTo (inoS l) E.i).length ≤ E.i * 101 := inos_len l E.i 0 (fun q => by
        unfold snAt
        split
        · exact Nat.zero_le _
        · by_cases q2 : q - 1 < l.length
          · have e : l.getD (q - 1) noSn = l[q - 1] := by simp [List.getD, q2]
            rw [e]
            exact (hsb _ (List.getElem_mem q2)).1
          · have e : l.getD (q - 1) noSn = noSn := by simp [List.getD, q2]
            rw [e]
            exact Nat.zero_le _)
      have hown := own_len (fun b => bitB (D (fr E 3)) b) (metB l E.i) E.bl
      have ROOT := Lib.hid (fun W h => croot_is (w2.heap.size + 1 + 1) E.M E.i E.bl E.j w2.heap.size (w2.heap.size + 1) v l W h hl100 ht1 hk1)
      have INOS := Lib.hid (fun W h => inodes_is (w2.heap.size + 1 + 1) E.M E.i E.bl E.j w2.heap.size (w2.heap.size + 1) v l W h hl100 (fun s hs => ⟨(hsb s hs).1, (hsb s hs).2.2.1⟩))
      have LNKS := Lib.hid (fun W h => links_is (C := w2.heap.size + 1 + 1) (M := E.M) (gi := E.i) (bl := E.bl) (gj := E.j) (mm := w2.heap.size) (bm := w2.heap.size + 1) (v := v) (l := l) W h hl100 hes1 hee hls)
      have OWNS := Lib.hid (fun W (h : MetB W (w2.heap.size + 1 + 1) E.M E.i E.bl E.j w2.heap.size (w2.heap.size + 1) v l) (hW : Below w.heap.size w W) => owners_is (fun b => bitB (D (fr E 3)) b) W h (by omega) (fun b W' hW' h1 hb => takenBlock_is b W' HS.out ((H.out.later hW).later hW') h1 hb))
      rw [hlk] at INOS OWNS
      clear hsb hs1 ht1 hk1 he1 hee hls hck hes1 hlk LK hCK
      go_wp2_with fail
      refine CN.out.mono ?_
      rintro e w4 ⟨⟨u, rfl⟩, n, cn⟩
      have HB4 := Lib.hid (cn.t.below (fun c e => by rcases e with rfl | rfl <;> omega) HL.out.bel HL.out.bel.size)
      have HCK4 := Lib.hid cn.ck
      have HME4 : Hid (MetE w4 (w2.heap.size + 1 + 1) E.M E.i E.bl E.j w2.heap.size (w2.heap.size + 1) v l) := Lib.hid ⟨cn.ck, n, cn.me⟩
      have HMB4 : Hid (MetB w4 (w2.heap.size + 1 + 1) E.M E.i E.bl E.j w2.heap.size (w2.heap.size + 1) v l) := Lib.hid ⟨cn.ck, n, cn.mb⟩
      clear cn CN
      have HQ := Lib.hid (SBox.new w4 168 #[.func (.func 85) #[.pointer (some ⟨w2.heap.size + 1 + 1, 0, none⟩)] #[], .func (.func 86) #[.pointer (some ⟨w2.heap.size + 1 + 1, 0, none⟩)] #[], .func (.func 87) #[.pointer (some ⟨w2.heap.size + 1 + 1, 0, none⟩)] #[], .func (.func 88) #[.pointer (some ⟨w2.heap.size + 1 + 1, 0, none⟩)] #[]])
      have HV := Lib.hid ((Below.refl _ w4).alloc (Nat.le_refl _) (.cells #[.func (.func 85) #[.pointer (some ⟨w2.heap.size + 1 + 1, 0, none⟩)] #[], .func (.func 86) #[.pointer (some ⟨w2.heap.size + 1 + 1, 0, none⟩)] #[], .func (.func 87) #[.pointer (some ⟨w2.heap.size + 1 + 1, 0, none⟩)] #[], .func (.func 88) #[.pointer (some ⟨w2.heap.size + 1 + 1, 0, none⟩)] #[]] 168))
      have HO : Hid (OwnF w4.heap.size [] (.slice none 0 0) (w4.alloc (.cells #[.func (.func 85) #[.pointer (some ⟨w2.heap.size + 1 + 1, 0, none⟩)] #[], .func (.func 86) #[.pointer (some ⟨w2.heap.size + 1 + 1, 0, none⟩)] #[], .func (.func 87) #[.pointer (some ⟨w2.heap.size + 1 + 1, 0, none⟩)] #[], .func (.func 88) #[.pointer (some ⟨w2.heap.size + 1 + 1, 0, none⟩)] #[]] 168))) := Lib.hid (World.ownsRow_nil _ _ _ _)
      go_wp2_with fail
      refine wp_loop_rounds 5 ?_
      rw [rounds_succ]
      have hQ := HQ.out
      have Q0 := hQ.cell 0
      have Q1 := hQ.cell 1
      have Q2 := hQ.cell 2
      have Q3 := hQ.cell 3
      simp only [List.getElem?_toArray, List.getElem?_cons_zero, List.getElem?_cons_succ] at Q0 Q1 Q2 Q3
      have Ql := hQ.lt
      have HVb := Lib.hid (HV.out.alloc HV.out.size (.cells #[.func (.func 85) #[.pointer (some ⟨w2.heap.size + 1 + 1, 0, none⟩)] #[]] 168))
      clear hQ
      go_wp2_with fail
      refine (ROOT.out _ (HCK4.out.later HVb.out)).mono ?_
      rintro e w5 ⟨rfl, b5⟩
      have HU : Hid (OwnF 0 [] (.slice none 0 0) w5) := Lib.hid (World.ownsRow_nil _ _ _ _)
      have HO5 := Lib.hid (row_later (World.ownsRow.alloc HO.out (.cells #[.func (.func 85) #[.pointer (some ⟨w2.heap.size + 1 + 1, 0, none⟩)] #[]] 168)) b5)
      have HV5 := Lib.hid (HVb.out.trans (b5.mono HVb.out.size))
      have HQ5 := Lib.hid ((HQ.out.alloc (.cells #[.func (.func 85) #[.pointer (some ⟨w2.heap.size + 1 + 1, 0, none⟩)] #[]] 168)).later b5)
      clear HO HV HQ HVb b5 Q0 Q1 Q2 Q3 Ql
      go_wp2_with (at_builtin; refine wpList_append_flts rfl _ _ rfl w4.heap.size _ [] [] (.slice none 0 0) (.slice none 0 0) rfl HO5.out rfl HU.out (by have := hinl; have := hown; simp; try omega) HV5.out.size ?_; intro v6 w6 ho6 hg6)
      have HO := Lib.hid (show OwnF w4.heap.size [] v6 w6 from ho6)
      have HV := Lib.hid (Below.grown HV5.out hg6 HV5.out.size (fun k e => (HO5.out.lt k e).1))
      have HQ := Lib.hid (SBox.kept HQ5.out hg6 (own_ne HQ5.out HO5.out (by decide)))
      clear HO5 HV5 HQ5 HU hg6 ho6
      rw [rounds_succ]
      have hQ := HQ.out
      have Q0 := hQ.cell 0
      have Q1 := hQ.cell 1
      have Q2 := hQ.cell 2
      have Q3 := hQ.cell 3
      simp only [List.getElem?_toArray, List.getElem?_cons_zero, List.getElem?_cons_succ] at Q0 Q1 Q2 Q3
      have Ql := hQ.lt
      have HVb := Lib.hid (HV.out.alloc HV.out.size (.cells #[.func (.func 86) #[.pointer (some ⟨w2.heap.size + 1 + 1, 0, none⟩)] #[]] 168))
      clear hQ
      go_wp2_with fail
      refine (INOS.out _ (HCK4.out.later HVb.out)).mono ?_
      rintro e w5 ⟨u5, rfl, hu, b5⟩
      have HU := Lib.hid hu
      clear hu
      have HO5 := Lib.hid (row_later (World.ownsRow.alloc HO.out (.cells #[.func (.func 86) #[.pointer (some ⟨w2.heap.size + 1 + 1, 0, none⟩)] #[]] 168)) b5)
      have HV5 := Lib.hid (HVb.out.trans (b5.mono HVb.out.size))
      have HQ5 := Lib.hid ((HQ.out.alloc (.cells #[.func (.func 86) #[.pointer (some ⟨w2.heap.size + 1 + 1, 0, none⟩)] #[]] 168)).later b5)
      clear HO HV HQ HVb b5 Q0 Q1 Q2 Q3 Ql
      go_wp2_with (at_builtin; refine wpList_append_flts rfl _ _ rfl w4.heap.size _ [] (upTo (inoS l) E.i) v6 u5 rfl HO5.out rfl HU.out (by have := hinl; have := hown; simp; try omega) HV5.out.size ?_; intro v6 w6 ho6 hg6)
      have HO := Lib.hid (show OwnF w4.heap.size (upTo (inoS l) E.i) v6 w6 from ho6)
      have HV := Lib.hid (Below.grown HV5.out hg6 HV5.out.size (fun k e => (HO5.out.lt k e).1))
      have HQ := Lib.hid (SBox.kept HQ5.out hg6 (own_ne HQ5.out HO5.out (by decide)))
      clear HO5 HV5 HQ5 HU hg6 ho6
      rw [rounds_succ]
      have hQ := HQ.out
      have Q0 := hQ.cell 0
      have Q1 := hQ.cell 1
      have Q2 := hQ.cell 2
      have Q3 := hQ.cell 3
      simp only [List.getElem?_toArray, List.getElem?_cons_zero, List.getElem?_cons_succ] at Q0 Q1 Q2 Q3
      have Ql := hQ.lt
      have HVb := Lib.hid (HV.out.alloc HV.out.size (.cells #[.func (.func 87) #[.pointer (some ⟨w2.heap.size + 1 + 1, 0, none⟩)] #[]] 168))
      clear hQ
      go_wp2_with fail
      refine (LNKS.out _ (HME4.out.later HVb.out)).mono ?_
      rintro e w5 ⟨rfl, b5⟩
      have HU : Hid (OwnF 0 [] (.slice none 0 0) w5) := Lib.hid (World.ownsRow_nil _ _ _ _)
      have HO5 := Lib.hid (row_later (World.ownsRow.alloc HO.out (.cells #[.func (.func 87) #[.pointer (some ⟨w2.heap.size + 1 + 1, 0, none⟩)] #[]] 168)) b5)
      have HV5 := Lib.hid (HVb.out.trans (b5.mono HVb.out.size))
      have HQ5 := Lib.hid ((HQ.out.alloc (.cells #[.func (.func 87) #[.pointer (some ⟨w2.heap.size + 1 + 1, 0, none⟩)] #[]] 168)).later b5)
      clear HO HV HQ HVb b5 Q0 Q1 Q2 Q3 Ql
      go_wp2_with (at_builtin; refine wpList_append_flts rfl _ _ rfl w4.heap.size _ (upTo (inoS l) E.i) [] v6 (.slice none 0 0) rfl HO5.out rfl HU.out (by have := hinl; have := hown; simp; try omega) HV5.out.size ?_; intro v6 w6 ho6 hg6)
      have HO := Lib.hid (by rw [List.append_nil] at ho6; exact ho6)
      have HV := Lib.hid (Below.grown HV5.out hg6 HV5.out.size (fun k e => (HO5.out.lt k e).1))
      have HQ := Lib.hid (SBox.kept HQ5.out hg6 (own_ne HQ5.out HO5.out (by decide)))
      clear HO5 HV5 HQ5 HU hg6 ho6
      rw [rounds_succ]
      have hQ := HQ.out
      have Q0 := hQ.cell 0
      have Q1 := hQ.cell 1
      have Q2 := hQ.cell 2
      have Q3 := hQ.cell 3
      simp only [List.getElem?_toArray, List.getElem?_cons_zero, List.getElem?_cons_succ] at Q0 Q1 Q2 Q3
      have Ql := hQ.lt
      have HVb := Lib.hid (HV.out.alloc HV.out.size (.cells #[.func (.func 88) #[.pointer (some ⟨w2.heap.size + 1 + 1, 0, none⟩)] #[]] 168))
      clear hQ
      go_wp2_with fail
      refine (OWNS.out _ (HMB4.out.later HVb.out) (HB4.out.trans (HVb.out.mono HB4.out.size))).mono ?_
      rintro e w5 ⟨u5, rfl, hu, b5⟩
      have HU := Lib.hid hu
      clear hu
      have HO5 := Lib.hid (row_later (World.ownsRow.alloc HO.out (.cells #[.func (.func 88) #[.pointer (some ⟨w2.heap.size + 1 + 1, 0, none⟩)] #[]] 168)) b5)
      have HV5 := Lib.hid (HVb.out.trans (b5.mono HVb.out.size))
      have HQ5 := Lib.hid ((HQ.out.alloc (.cells #[.func (.func 88) #[.pointer (some ⟨w2.heap.size + 1 + 1, 0, none⟩)] #[]] 168)).later b5)
      clear HO HV HQ HVb b5 Q0 Q1 Q2 Q3 Ql
      go_wp2_with (at_builtin; refine wpList_append_flts rfl _ _ rfl w4.heap.size _ (upTo (inoS l) E.i) (upTo (ownF (fun b => bitB (D (fr E 3)) b) (metB l E.i)) E.bl) v6 u5 rfl HO5.out rfl HU.out (by have := hinl; have := hown; simp; try omega) HV5.out.size ?_; intro v6 w6 ho6 hg6)
      have HO := Lib.hid (ho6)
      have HV := Lib.hid (Below.grown HV5.out hg6 HV5.out.size (fun k e => (HO5.out.lt k e).1))
      have HQ := Lib.hid (SBox.kept HQ5.out hg6 (own_ne HQ5.out HO5.out (by decide)))
      clear HO5 HV5 HQ5 HU hg6 ho6
      rw [rounds_succ]
      go_wp2
      go_ret2
      exact ⟨_, rfl, by rw [← HCK.out]; exact own_mono HO.out HB4.out.size, HB4.out.trans (HV.out.mono HB4.out.size)⟩
end
end Go.Proofs.YtpnfkilfgdnogaaGreatDoor.Img
end
