/- Layer 11's law: full: a text of 64 bytes. -/
import Derived.Test.YtpnfkilfgdnogaaGreatDoorIsM
import Derived.Deep.RegionHeld3
import Derived.Test.YtpnfkilfgdnogaaGreatDoorBmM
import Derived.StillTailTactics
import Derived.Deep.RegionLawGrows
import Derived.Deep.Cut
import Derived.Deep.CutBlock
import Derived.Deep.CutRange
import Derived.Deep.QuietTactic
import Derived.BigQuiet
import Derived.Test.YtpnfkilfgdnogaaGreatDoorBitsIter
section
namespace Go.Proofs.YtpnfkilfgdnogaaGreatDoor.Img
set_option linter.unusedVariables false
set_option linter.unusedSimpArgs false
open Go.RowKit Go.Shelf Go.Maps Oct Dev Jou Tx Geo
theorem below_same {B b : Nat} {w W : World} {t : TypeId} {v : Value} (h : Below B w W) (hX : SBox W b t #[v]) : Below B w (W.setCell ⟨b, 0, none⟩ v) := by
  refine h.trans ⟨rfl, rfl, rfl, by simp [World.setCell], fun k hk => ?_⟩
  by_cases e : k = b
  · subst e
    exact (SBox.set hX 0 v).trans hX.symm
  · exact heap_setCell_other W ⟨b, 0, none⟩ k v e
def KeepF (V W : World) : Prop := Below V.heap.size V W
theorem KeepF.later {V W W' : World} {a0 a1 a2 : Addr} {v0 v1 v2 : Value} (l0 : a0.block < V.heap.size) (l1 : a1.block < V.heap.size) (l2 : a2.block < V.heap.size) (hb : Below W.heap.size W W') (h : W.cell? a0 = some v0 ∧ W.cell? a1 = some v1 ∧ W.cell? a2 = some v2 ∧ KeepF V W) :
    W'.cell? a0 = some v0 ∧ W'.cell? a1 = some v1 ∧ W'.cell? a2 = some v2 ∧ KeepF V W' :=
  ⟨(hb.cell (Nat.lt_of_lt_of_le l0 h.2.2.2.size)).trans h.1, (hb.cell (Nat.lt_of_lt_of_le l1 h.2.2.2.size)).trans h.2.1, (hb.cell (Nat.lt_of_lt_of_le l2 h.2.2.2.size)).trans h.2.2.1, h.2.2.2.trans (hb.mono h.2.2.2.size)⟩
theorem KeepF.get {V W : World} {A B C : Prop} (h : A ∧ B ∧ C ∧ KeepF V W) : Below V.heap.size V W := h.2.2.2
section
variable {E : Im} {D : Secs} {Z : Nat → Prop} {Q : Prop}
set_option maxRecDepth 100000 in
theorem left_is (p N am ae : Nat) (w : World) (hs : Small E) (h : IS w E D Z) (hp : p = 2 ∨ p = 3) (hN : N ≤ 100) (hm : SBox w am 29 #[.pointer (some ⟨E.M, 0, none⟩)]) (he : SBox w ae 32 #[.int .i64 0]) :
    Calls Tryz.prog 53 #[.int .i64 p, .int .i64 N, .pointer (some ⟨am, 0, none⟩), .pointer (some ⟨ae, 0, none⟩)] w fun e w' => e = .returned (.int .i64 ((N : Int) + 1 - (countB (D (fr E p)) ((N : Int) + 1) : Nat))) ∧ Below w.heap.size w w' := by
  have hsz := h.sec (fr_lt hs h hp)
  have PA := Lib.hid (part_is p w hs h hp)
  have CO := Lib.hid (fun W => count_any (D (fr E p)) ((N : Int) + 1) W (by omega))
  have hcb : countB (D (fr E p)) ((N : Int) + 1) ≤ 512 := by
    have h1 := cntB_le ((N : Int) + 1) (upto (bitPair (D (fr E p))) (8 * (D (fr E p)).size))
    rw [upto_length] at h1
    unfold countB
    omega
  clear h
  generalize countB (D (fr E p)) ((N : Int) + 1) = cc at *
  generalize D (fr E p) = s at *
  generalize fr E p = q at *
  have HE := Lib.hid he
  have M0 := hm.cell 0
  have Ml := hm.lt
  simp only [List.getElem?_toArray, List.getElem?_cons_zero] at M0
  go_enter Tryz.func53, Tryz.ntmps53
  go_wp2_with fail
  refine PA.out.mono ?_
  rintro e w1 ⟨rfl, b1⟩
  have HE1 := Lib.hid (HE.out.later b1)
  have B1 := Lib.hid (below_same b1 HE1.out)
  have E0 := HE1.out.cell 0
  have F0 := HE1.out.free 0
  have El := HE1.out.lt
  simp only [List.getElem?_toArray, List.getElem?_cons_zero] at E0
  clear b1
  go_wp2_with fail
  refine (CO.out _).mono ?_
  rintro e w2 ⟨rfl, b2⟩
  have B2 := Lib.hid (B1.out.trans (b2.mono B1.out.size))
  clear b2
  go_wp2
  go_ret
  exact ⟨rfl, B2.out⟩
set_option maxRecDepth 100000 in
set_option maxHeartbeats 2000000 in
theorem free_is (w : World) (hs : Small E) (h : IS w E D Z) :
    Calls Tryz.prog 14 #[.pointer (some ⟨E.M, 0, none⟩)] w fun e w' => e = .returned (.tuple #[.int .i64 ((E.i : Int) + 1 - (countB (D (fr E 2)) ((E.i : Int) + 1) : Nat)), .int .i64 ((E.bl : Int) + 1 - (countB (D (fr E 3)) ((E.bl : Int) + 1) : Nat)), .int .i64 0]) ∧ Below w.heap.size w w' := by
  have hi := hs.hi
  have hb := hs.hb
  have LF2 := fun W h1 h2 h3 => left_is (E := E) (D := D) (Z := Z) 2 E.i w.heap.size (w.heap.size + 1) W hs h1 (.inl rfl) (by omega) h2 h3
  have LF3 := fun W h1 h2 h3 => left_is (E := E) (D := D) (Z := Z) 3 E.bl w.heap.size (w.heap.size + 1) W hs h1 (.inr rfl) (by omega) h2 h3
  rw [show ((2 : Nat) : Int) = 2 from rfl] at LF2
  rw [show ((3 : Nat) : Int) = 3 from rfl] at LF3
  have LF2 := Lib.hid LF2
  have LF3 := Lib.hid LF3
  have HB0 := Lib.hid (((Below.refl _ w).alloc (Nat.le_refl _) (.cells #[.pointer (some ⟨E.M, 0, none⟩)] 29)).alloc (by simp) (.cells #[.int .i64 0] 32))
  have HM := Lib.hid ((SBox.new w 29 #[.pointer (some ⟨E.M, 0, none⟩)]).alloc (.cells #[.int .i64 0] 32))
  have HE := SBox.new (w.alloc (.cells #[.pointer (some ⟨E.M, 0, none⟩)] 29)) 32 #[.int .i64 0]
  rw [World.size_alloc] at HE
  have HE := Lib.hid HE
  have H := Lib.hid (h.later HB0.out)
  have hX := H.out.img
  clear h
  have X0 := hX.cell 0
  have X1 := hX.cell 1
  have X2 := hX.cell 2
  have X3 := hX.cell 3
  simp only [List.getElem?_toArray, List.getElem?_cons_zero, List.getElem?_cons_succ] at X0 X1 X2 X3
  have Xl := hX.lt
  clear hX
  have M0 := HM.out.cell 0
  have Ml := HM.out.lt
  simp only [List.getElem?_toArray, List.getElem?_cons_zero] at M0
  go_enter Tryz.func14, Tryz.ntmps14
  go_wp2_with fail
  go_region_held3 (fun W => W.cell? ⟨w.heap.size, 0, none⟩ = some (.pointer (some ⟨E.M, 0, none⟩)) ∧ W.cell? ⟨E.M, 1, none⟩ = some (.int .i64 E.i) ∧ W.cell? ⟨E.M, 2, none⟩ = some (.int .i64 E.bl) ∧ KeepF ((w.alloc (.cells #[.pointer (some ⟨E.M, 0, none⟩)] 29)).alloc (.cells #[.int .i64 0] 32)) W)
    (first | exact KeepF.later Ml Xl Xl (by assumption) (by assumption) | exact ⟨M0, X1, X2, (Below.refl _ _).drew⟩ | exact ⟨M0, X1, X2, Below.refl _ _⟩)
    (first
      | (go_at_call 53; with_reducible refine (LF2.out _ (H.out.later (KeepF.get (by assumption))) (HM.out.later (KeepF.get (by assumption))) (HE.out.later (KeepF.get (by assumption)))).mono ?_; rintro e w9 ⟨rfl, b9⟩)
      | (go_at_call 53; with_reducible refine (LF3.out _ (H.out.later (KeepF.get (by assumption))) (HM.out.later (KeepF.get (by assumption))) (HE.out.later (KeepF.get (by assumption)))).mono ?_; rintro e w9 ⟨rfl, b9⟩))
  rename_i hS
  have BS := KeepF.get hS
  have B4 := Lib.hid (HB0.out.trans (BS.mono HB0.out.size))
  have HE4 := Lib.hid (HE.out.later BS)
  have hX := HE4.out
  have V0 := hX.cell 0
  simp only [List.getElem?_toArray, List.getElem?_cons_zero, List.getElem?_cons_succ] at V0
  have Vl := hX.lt
  have F0 := hX.free 0
  clear hX hS BS
  go_wp2
  have k0 := (HE4.out.set 0 (.int .i64 0)).cell 0
  exact bodyPost_ret (v := .tuple #[.int .i64 ((E.i : Int) + 1 - (countB (D (fr E 2)) ((E.i : Int) + 1) : Nat)), .int .i64 ((E.bl : Int) + 1 - (countB (D (fr E 3)) ((E.bl : Int) + 1) : Nat)), .int .i64 0]) (by simp [results, Tryz.results14, go_sem, k0]) rfl ⟨rfl, B4.out.setCell (by simp) _⟩
end
end Go.Proofs.YtpnfkilfgdnogaaGreatDoor.Img
end
section
namespace Go.Proofs.YtpnfkilfgdnogaaGreatDoor.Img
set_option linter.unusedVariables false
set_option linter.unusedSimpArgs false
open Go.RowKit Go.Shelf Go.Maps Oct Dev Jou Tx Geo Ino Bm
theorem keepMX {V W W' : World} {M X : Nat} {m0 m1 m2 m3 x0 x1 x2 x3 x4 x5 x6 x7 : Value} (lM : M < V.heap.size) (lX : X < V.heap.size) (hb : Below W.heap.size W W') (h : W.cell? ⟨M, 0, none⟩ = some m0 ∧ W.cell? ⟨M, 1, none⟩ = some m1 ∧ W.cell? ⟨M, 2, none⟩ = some m2 ∧ W.cell? ⟨M, 3, none⟩ = some m3 ∧ W.cell? ⟨X, 0, none⟩ = some x0 ∧ W.cell? ⟨X, 1, none⟩ = some x1 ∧ W.cell? ⟨X, 2, none⟩ = some x2 ∧ W.cell? ⟨X, 3, none⟩ = some x3 ∧ W.cell? ⟨X, 4, none⟩ = some x4 ∧ W.cell? ⟨X, 5, none⟩ = some x5 ∧ W.cell? ⟨X, 6, none⟩ = some x6 ∧ W.cell? ⟨X, 7, none⟩ = some x7 ∧ KeepF V W) : W'.cell? ⟨M, 0, none⟩ = some m0 ∧ W'.cell? ⟨M, 1, none⟩ = some m1 ∧ W'.cell? ⟨M, 2, none⟩ = some m2 ∧ W'.cell? ⟨M, 3, none⟩ = some m3 ∧ W'.cell? ⟨X, 0, none⟩ = some x0 ∧ W'.cell? ⟨X, 1, none⟩ = some x1 ∧ W'.cell? ⟨X, 2, none⟩ = some x2 ∧ W'.cell? ⟨X, 3, none⟩ = some x3 ∧ W'.cell? ⟨X, 4, none⟩ = some x4 ∧ W'.cell? ⟨X, 5, none⟩ = some x5 ∧ W'.cell? ⟨X, 6, none⟩ = some x6 ∧ W'.cell? ⟨X, 7, none⟩ = some x7 ∧ KeepF V W' := by
  obtain ⟨h0, h1, h2, h3, h4, h5, h6, h7, h8, h9, h10, h11, hk⟩ := h
  have hz := hk.size
  have kM : ∀ i, W'.cell? ⟨M, i, none⟩ = W.cell? ⟨M, i, none⟩ := fun i => hb.cell (p := ⟨M, i, none⟩) (Nat.lt_of_lt_of_le lM hz)
  have kX : ∀ i, W'.cell? ⟨X, i, none⟩ = W.cell? ⟨X, i, none⟩ := fun i => hb.cell (p := ⟨X, i, none⟩) (Nat.lt_of_lt_of_le lX hz)
  exact ⟨(kM 0).trans h0, (kM 1).trans h1, (kM 2).trans h2, (kM 3).trans h3, (kX 0).trans h4, (kX 1).trans h5, (kX 2).trans h6, (kX 3).trans h7, (kX 4).trans h8, (kX 5).trans h9, (kX 6).trans h10, (kX 7).trans h11, Below.trans hk (hb.mono hz)⟩
theorem keepMX_get {V W : World} {M X : Nat} {m0 m1 m2 m3 x0 x1 x2 x3 x4 x5 x6 x7 : Value} (h : W.cell? ⟨M, 0, none⟩ = some m0 ∧ W.cell? ⟨M, 1, none⟩ = some m1 ∧ W.cell? ⟨M, 2, none⟩ = some m2 ∧ W.cell? ⟨M, 3, none⟩ = some m3 ∧ W.cell? ⟨X, 0, none⟩ = some x0 ∧ W.cell? ⟨X, 1, none⟩ = some x1 ∧ W.cell? ⟨X, 2, none⟩ = some x2 ∧ W.cell? ⟨X, 3, none⟩ = some x3 ∧ W.cell? ⟨X, 4, none⟩ = some x4 ∧ W.cell? ⟨X, 5, none⟩ = some x5 ∧ W.cell? ⟨X, 6, none⟩ = some x6 ∧ W.cell? ⟨X, 7, none⟩ = some x7 ∧ KeepF V W) : Below V.heap.size V W := by
  obtain ⟨_, _, _, _, _, _, _, _, _, _, _, _, hk⟩ := h
  exact hk
section
variable {E : Im} {D : Secs} {Z : Nat → Prop} {Q : Prop}
set_option maxRecDepth 100000 in
set_option maxHeartbeats 4000000 in
theorem blocks_is (n : Nat) (x : InoT) (vs : List Nat) (w : World) (hs : Small E) (h : IS w E D Z) (h1 : 1 ≤ n) (hn : n ≤ E.i) (hx : InoIs E D n x) (ho : x.Ok) (hi : InG E.bl x) (hv : IndIs E D x.ind vs) :
    Calls Tryz.prog 43 #[.pointer (some ⟨E.M, 0, none⟩), .int .u32 n] w fun e w' => ∃ v, e = .returned (.tuple #[v, .int .i64 0]) ∧ OwnL w.heap.size (cutFree x vs 0) v w' ∧ Below w.heap.size w w' := by
  have IN := Lib.hid (inode_is n x w hs h h1 hn hx ho)
  have AL := Lib.hid (fun W (h : IS W E D Z) => all_is x vs W hs h hi hv)
  generalize cutFree x vs 0 = fr at *
  have H := Lib.hid h
  clear h hx ho hi hv
  obtain ⟨kind, links, size, d0, d1, d2, d3, ind⟩ := x
  unfold geoV InoT.val at *
  go_enter Tryz.func43, Tryz.ntmps43
  go_wp2_with fail
  refine IN.out.mono ?_
  rintro e w1 ⟨rfl, b1⟩
  have hX := SBox.new w1 43 #[.int .u8 kind, .int .u16 links, .int .u32 size, .int .u16 d0, .int .u16 d1, .int .u16 d2, .int .u16 d3, .int .u16 ind]
  have hB1 := b1.alloc b1.size (.cells #[.int .u8 kind, .int .u16 links, .int .u32 size, .int .u16 d0, .int .u16 d1, .int .u16 d2, .int .u16 d3, .int .u16 ind] 43)
  have H1 := Lib.hid (H.out.later hB1)
  have hM := H1.out.img
  have B1 := Lib.hid hB1
  have X0 := hX.cell 0
  have X1 := hX.cell 1
  have X2 := hX.cell 2
  have X3 := hX.cell 3
  have X4 := hX.cell 4
  have X5 := hX.cell 5
  have X6 := hX.cell 6
  have X7 := hX.cell 7
  simp only [List.getElem?_toArray, List.getElem?_cons_zero, List.getElem?_cons_succ] at X0 X1 X2 X3 X4 X5 X6 X7
  have Xl := hX.lt
  have M0 := hM.cell 0
  have M1 := hM.cell 1
  have M2 := hM.cell 2
  have M3 := hM.cell 3
  simp only [List.getElem?_toArray, List.getElem?_cons_zero, List.getElem?_cons_succ] at M0 M1 M2 M3
  have Ml := hM.lt
  clear hX hM hB1
  go_wp2_with fail
  go_region_held3 (fun W => W.cell? ⟨E.M, 0, none⟩ = some (.pointer (some ⟨E.T.p, 0, none⟩)) ∧ W.cell? ⟨E.M, 1, none⟩ = some (.int .i64 E.i) ∧ W.cell? ⟨E.M, 2, none⟩ = some (.int .i64 E.bl) ∧ W.cell? ⟨E.M, 3, none⟩ = some (.int .i64 E.j) ∧ W.cell? ⟨w1.heap.size, 0, none⟩ = some (.int .u8 kind) ∧ W.cell? ⟨w1.heap.size, 1, none⟩ = some (.int .u16 links) ∧ W.cell? ⟨w1.heap.size, 2, none⟩ = some (.int .u32 size) ∧ W.cell? ⟨w1.heap.size, 3, none⟩ = some (.int .u16 d0) ∧ W.cell? ⟨w1.heap.size, 4, none⟩ = some (.int .u16 d1) ∧ W.cell? ⟨w1.heap.size, 5, none⟩ = some (.int .u16 d2) ∧ W.cell? ⟨w1.heap.size, 6, none⟩ = some (.int .u16 d3) ∧ W.cell? ⟨w1.heap.size, 7, none⟩ = some (.int .u16 ind) ∧ KeepF (w1.alloc (.cells #[.int .u8 kind, .int .u16 links, .int .u32 size, .int .u16 d0, .int .u16 d1, .int .u16 d2, .int .u16 d3, .int .u16 ind] 43)) W)
    (first | exact keepMX Ml Xl (by assumption) (by assumption) | exact ⟨M0, M1, M2, M3, X0, X1, X2, X3, X4, X5, X6, X7, (Below.refl _ _).drew⟩ | exact ⟨M0, M1, M2, M3, X0, X1, X2, X3, X4, X5, X6, X7, Below.refl _ _⟩)
    (first | (go_at_call 91; refine (AL.out _ (H1.out.later (keepMX_get (by assumption)))).mono ?_; rintro e w9 ⟨v, rfl, ho, b9⟩; have HO := Lib.hid (own_mono (b' := w.heap.size) ho (Nat.le_trans B1.out.size (Below.size (keepMX_get (by assumption)))))))
  rename_i hS
  have B9 := Lib.hid (B1.out.trans ((keepMX_get hS).mono B1.out.size))
  clear hS
  go_wp2
  go_ret2
  exact ⟨v, rfl, HO.out, B9.out⟩
theorem mx_lt {w : World} (h : IS w E D Z) : E.T.m < w.heap.size := by
  obtain ⟨f, nn, g1, _⟩ := h
  exact g1.tj.tx.map.lt
set_option maxRecDepth 100000 in
set_option maxHeartbeats 4000000 in
theorem page_is (n p : Nat) (x : InoT) (vs : List Nat) (w : World) (hs : Small E) (h : IS w E D Z) (h1 : 1 ≤ n) (hn : n ≤ E.i) (hx : InoIs E D n x) (ho : x.Ok) (hk : x.kind ≠ 0) (hi : InG E.bl x) (hv : IndIs E D x.ind vs) (hp : p < 36) :
    Calls Tryz.prog 29 #[.pointer (some ⟨E.M, 0, none⟩), .int .u32 n, .int .i64 p] w fun e w' => e = .returned (.tuple #[.string (if pageB x vs p = 0 then zS else D (dq E (pageB x vs p))), .int .i64 0]) ∧ Below w.heap.size w w' := by
  have hbl := hs.hb
  have TH := there_is n x w hs h h1 hn hx ho
  rw [if_neg hk] at TH
  have TH := Lib.hid TH
  have GE := Lib.hid (fun W (h : IS W E D Z) => get_is x vs p W hs h hi hv hp)
  have hpb : pageB x vs p ≤ E.bl := by
    unfold pageB
    have hm : ∀ u ∈ allB x vs, u ≤ E.bl := fun u hu => by
      obtain ⟨g0, g1, g2, g3, g4⟩ := hi
      simp only [allB, List.mem_cons] at hu
      rcases hu with rfl | rfl | rfl | rfl | hu
      · exact g0
      · exact g1
      · exact g2
      · exact g3
      · exact hv.lt u hu
    rw [List.getD_eq_getElem?_getD]
    cases he : (allB x vs)[p]? with
    | none => simp
    | some u => exact hm u (List.mem_of_getElem? he)
  have H := Lib.hid h
  have hlen := h.len
  clear h hx ho hi hv hk
  generalize pageB x vs p = b at *
  obtain ⟨kind, links, size, d0, d1, d2, d3, ind⟩ := x
  have ZE : Hid (∀ W, Calls Tryz.prog 69 #[] W fun e w' => e = .returned (.string zS) ∧ Below W.heap.size W w') := Lib.hid (fun W => zero_any W)
  generalize zS = zs at *
  unfold geoV InoT.val at *
  go_enter Tryz.func29, Tryz.ntmps29
  go_wp2_with fail
  refine TH.out.mono ?_
  rintro e w1 ⟨rfl, b1⟩
  have hX := SBox.new w1 43 #[.int .u8 kind, .int .u16 links, .int .u32 size, .int .u16 d0, .int .u16 d1, .int .u16 d2, .int .u16 d3, .int .u16 ind]
  have hB1 := b1.alloc b1.size (.cells #[.int .u8 kind, .int .u16 links, .int .u32 size, .int .u16 d0, .int .u16 d1, .int .u16 d2, .int .u16 d3, .int .u16 ind] 43)
  have H1 := Lib.hid (H.out.later hB1)
  have hM := H1.out.img
  have B1 := Lib.hid hB1
  have X0 := hX.cell 0
  have X1 := hX.cell 1
  have X2 := hX.cell 2
  have X3 := hX.cell 3
  have X4 := hX.cell 4
  have X5 := hX.cell 5
  have X6 := hX.cell 6
  have X7 := hX.cell 7
  simp only [List.getElem?_toArray, List.getElem?_cons_zero, List.getElem?_cons_succ] at X0 X1 X2 X3 X4 X5 X6 X7
  have Xl := hX.lt
  have M0 := hM.cell 0
  have M1 := hM.cell 1
  have M2 := hM.cell 2
  have M3 := hM.cell 3
  simp only [List.getElem?_toArray, List.getElem?_cons_zero, List.getElem?_cons_succ] at M0 M1 M2 M3
  have Ml := hM.lt
  clear hX hM hB1
  go_wp2_with fail
  go_region_held3 (fun W => W.cell? ⟨E.M, 0, none⟩ = some (.pointer (some ⟨E.T.p, 0, none⟩)) ∧ W.cell? ⟨E.M, 1, none⟩ = some (.int .i64 E.i) ∧ W.cell? ⟨E.M, 2, none⟩ = some (.int .i64 E.bl) ∧ W.cell? ⟨E.M, 3, none⟩ = some (.int .i64 E.j) ∧ W.cell? ⟨w1.heap.size, 0, none⟩ = some (.int .u8 kind) ∧ W.cell? ⟨w1.heap.size, 1, none⟩ = some (.int .u16 links) ∧ W.cell? ⟨w1.heap.size, 2, none⟩ = some (.int .u32 size) ∧ W.cell? ⟨w1.heap.size, 3, none⟩ = some (.int .u16 d0) ∧ W.cell? ⟨w1.heap.size, 4, none⟩ = some (.int .u16 d1) ∧ W.cell? ⟨w1.heap.size, 5, none⟩ = some (.int .u16 d2) ∧ W.cell? ⟨w1.heap.size, 6, none⟩ = some (.int .u16 d3) ∧ W.cell? ⟨w1.heap.size, 7, none⟩ = some (.int .u16 ind) ∧ KeepF (w1.alloc (.cells #[.int .u8 kind, .int .u16 links, .int .u32 size, .int .u16 d0, .int .u16 d1, .int .u16 d2, .int .u16 d3, .int .u16 ind] 43)) W)
    (first | exact keepMX Ml Xl (by assumption) (by assumption) | exact ⟨M0, M1, M2, M3, X0, X1, X2, X3, X4, X5, X6, X7, (Below.refl _ _).drew⟩ | exact ⟨M0, M1, M2, M3, X0, X1, X2, X3, X4, X5, X6, X7, Below.refl _ _⟩)
    (first | (go_at_call 75; refine (GE.out _ (H1.out.later (keepMX_get (by assumption)))).mono ?_; rintro e w9 ⟨rfl, b9⟩))
  rename_i hS
  have B9 := Lib.hid (B1.out.trans ((keepMX_get hS).mono B1.out.size))
  have H9 := Lib.hid (H.out.later B9.out)
  have hM := H9.out.img
  clear hS M0 M1 M2 M3 Ml X0 X1 X2 X3 X4 X5 X6 X7 Xl
  have M0 := hM.cell 0
  have M1 := hM.cell 1
  have M2 := hM.cell 2
  have M3 := hM.cell 3
  simp only [List.getElem?_toArray, List.getElem?_cons_zero, List.getElem?_cons_succ] at M0 M1 M2 M3
  have Ml := hM.lt
  clear hM
  by_cases hb0 : b = 0
  · subst hb0
    go_wp2_with fail
    refine (ZE.out _).mono ?_
    rintro e w2 ⟨rfl, b2⟩
    have B2 := Lib.hid (B9.out.trans (b2.mono B9.out.size))
    clear b2
    go_wp2
    go_ret2
    exact ⟨rfl, B2.out⟩
  · have t1 : ((b : Int) == 0) = false := by simp; omega
    have BL := Lib.hid (fun W => Geo.block_any E.i E.bl E.j b W hs.may (by omega) hpb)
    unfold geoV at BL
    rw [show fromG E.i E.bl E.j 5 + b - 1 = dq E b from rfl] at BL
    have hq := dq_lt hs hlen (b := b) (by omega) hpb
    have RD := Lib.hid (fun W (h : IS W E D Z) => read_is (dq E b) W h hq)
    obtain ⟨sb, hsb⟩ : ∃ s, D (dq E b) = s := ⟨_, rfl⟩
    rw [hsb] at RD
    obtain ⟨q, hqq⟩ : ∃ q, dq E b = q := ⟨_, rfl⟩
    rw [hqq] at RD BL
    go_wp2_with fail
    refine (BL.out _).mono ?_
    rintro e w2 ⟨rfl, b2⟩
    have B2 := Lib.hid (B9.out.trans (b2.mono B9.out.size))
    have H2 := Lib.hid (H.out.later B2.out)
    have hM := H2.out.img
    clear b2 M0 M1 M2 M3 Ml
    have M0 := hM.cell 0
    have M1 := hM.cell 1
    have M2 := hM.cell 2
    have M3 := hM.cell 3
    simp only [List.getElem?_toArray, List.getElem?_cons_zero, List.getElem?_cons_succ] at M0 M1 M2 M3
    have Ml := hM.lt
    clear hM
    go_wp2_with fail
    refine (RD.out _ H2.out).mono ?_
    rintro e w3 ⟨rfl, b3⟩
    have B3 := Lib.hid (B2.out.trans (b3.mono B2.out.size))
    clear b3
    go_wp2
    go_ret2
    exact ⟨by first | rfl | (rw [← hsb, hqq]; rfl), B3.out⟩
end
end Go.Proofs.YtpnfkilfgdnogaaGreatDoor.Img
end
section
namespace Go.Proofs.YtpnfkilfgdnogaaGreatDoor.Img
set_option linter.unusedVariables false
set_option linter.unusedSimpArgs false
open Go.RowKit Go.Shelf Go.Maps Oct Dev Jou Tx Geo Ino Bm
section
variable {E : Im} {D : Secs} {Z : Nat → Prop} {Q : Prop}
def HomePost (E : Im) (D' : Secs) (Z : Nat → Prop) (Q : Prop) (y : InoT) (b : Nat) (w : World) (e : Ending) (w' : World) : Prop :=
  (e = .returned (.tuple #[y.val, .int .u16 b, .int .i64 0]) ∧ Wr E D' Z w w') ∨ ((∃ v u : Value, e = .returned (.tuple #[v, u, .int .i64 4]) ∧ ∃ z : InoT, v = z.val) ∧ Fu E Q w w')
set_option maxRecDepth 100000 in
set_option maxHeartbeats 4000000 in
theorem home_have (p : Nat) (x : InoT) (vs : List Nat) (w : World) (hs : Small E) (h : IS w E D Z) (hi : InG E.bl x) (hv : IndIs E D x.ind vs) (hp : p < 36) (hb : pageB x vs p ≠ 0) (hn : p < 4 ∨ x.ind ≠ 0) :
    Calls Tryz.prog 67 #[.pointer (some ⟨E.M, 0, none⟩), x.val, .int .i64 p] w (HomePost E D Z Q x (pageB x vs p) w) := by
  have GE := Lib.hid (fun W (h : IS W E D Z) => get_is x vs p W hs h hi hv hp)
  have ND := needs_any x p
  have hnd : (decide (4 ≤ p) && decide (x.ind = 0)) = false := by
    rcases hn with h1 | h1
    · simp; omega
    · simp; omega
  have ND := Lib.hid (fun W => ND W hp)
  rw [hnd] at ND
  have H := Lib.hid h
  clear h hi hv hnd
  unfold HomePost
  generalize pageB x vs p = b at *
  obtain ⟨kind, links, size, d0, d1, d2, d3, ind⟩ := x
  have t1 : ((b : Int) != 0) = true := by simp; omega
  have HB0 := Lib.hid (((Below.refl _ w).alloc (Nat.le_refl _) (.cells #[.int .u8 kind, .int .u16 links, .int .u32 size, .int .u16 d0, .int .u16 d1, .int .u16 d2, .int .u16 d3, .int .u16 ind] 43)).alloc (by simp) (.cells #[.int .u8 0, .int .u16 0, .int .u32 0, .int .u16 0, .int .u16 0, .int .u16 0, .int .u16 0, .int .u16 0] 43))
  have HX := Lib.hid ((SBox.new w 43 #[.int .u8 kind, .int .u16 links, .int .u32 size, .int .u16 d0, .int .u16 d1, .int .u16 d2, .int .u16 d3, .int .u16 ind]).alloc (.cells #[.int .u8 0, .int .u16 0, .int .u32 0, .int .u16 0, .int .u16 0, .int .u16 0, .int .u16 0, .int .u16 0] 43))
  have hY := SBox.new (w.alloc (.cells #[.int .u8 kind, .int .u16 links, .int .u32 size, .int .u16 d0, .int .u16 d1, .int .u16 d2, .int .u16 d3, .int .u16 ind] 43)) 43 #[.int .u8 0, .int .u16 0, .int .u32 0, .int .u16 0, .int .u16 0, .int .u16 0, .int .u16 0, .int .u16 0]
  rw [World.size_alloc] at hY
  have HY := Lib.hid hY
  have H1 := Lib.hid (H.out.later HB0.out)
  clear hY
  unfold geoV InoT.val at *
  go_enter Tryz.func67, Tryz.ntmps67
  go_wp2_with fail
  refine (ND.out _).mono ?_
  rintro e w1 ⟨rfl, b1⟩
  have B1 := Lib.hid (HB0.out.trans (b1.mono HB0.out.size))
  have H2 := Lib.hid (H1.out.later b1)
  have HY1 := Lib.hid (HY.out.later b1)
  have HX1 := Lib.hid (HX.out.later b1)
  have hX := HX1.out
  have hM := H2.out.img
  clear b1
  have X0 := hX.cell 0
  have X1 := hX.cell 1
  have X2 := hX.cell 2
  have X3 := hX.cell 3
  have X4 := hX.cell 4
  have X5 := hX.cell 5
  have X6 := hX.cell 6
  have X7 := hX.cell 7
  simp only [List.getElem?_toArray, List.getElem?_cons_zero, List.getElem?_cons_succ] at X0 X1 X2 X3 X4 X5 X6 X7
  have Xl := hX.lt
  have M0 := hM.cell 0
  have M1 := hM.cell 1
  have M2 := hM.cell 2
  have M3 := hM.cell 3
  simp only [List.getElem?_toArray, List.getElem?_cons_zero, List.getElem?_cons_succ] at M0 M1 M2 M3
  have Ml := hM.lt
  clear hX hM
  go_wp2_with fail
  go_region_held3 (fun W => W.cell? ⟨E.M, 0, none⟩ = some (.pointer (some ⟨E.T.p, 0, none⟩)) ∧ W.cell? ⟨E.M, 1, none⟩ = some (.int .i64 E.i) ∧ W.cell? ⟨E.M, 2, none⟩ = some (.int .i64 E.bl) ∧ W.cell? ⟨E.M, 3, none⟩ = some (.int .i64 E.j) ∧ W.cell? ⟨w.heap.size, 0, none⟩ = some (.int .u8 kind) ∧ W.cell? ⟨w.heap.size, 1, none⟩ = some (.int .u16 links) ∧ W.cell? ⟨w.heap.size, 2, none⟩ = some (.int .u32 size) ∧ W.cell? ⟨w.heap.size, 3, none⟩ = some (.int .u16 d0) ∧ W.cell? ⟨w.heap.size, 4, none⟩ = some (.int .u16 d1) ∧ W.cell? ⟨w.heap.size, 5, none⟩ = some (.int .u16 d2) ∧ W.cell? ⟨w.heap.size, 6, none⟩ = some (.int .u16 d3) ∧ W.cell? ⟨w.heap.size, 7, none⟩ = some (.int .u16 ind) ∧ KeepF w1 W)
    (first | exact keepMX Ml Xl (by assumption) (by assumption) | exact ⟨M0, M1, M2, M3, X0, X1, X2, X3, X4, X5, X6, X7, (Below.refl _ _).drew⟩ | exact ⟨M0, M1, M2, M3, X0, X1, X2, X3, X4, X5, X6, X7, Below.refl _ _⟩)
    (first | (go_at_call 75; refine (GE.out _ (H2.out.later (keepMX_get (by assumption)))).mono ?_; rintro e w9 ⟨rfl, b9⟩))
  rename_i hS
  have hb9 := keepMX_get hS
  have HX9 := Lib.hid (HX1.out.later hb9)
  have HY9 := Lib.hid (HY1.out.later hb9)
  have B9 := Lib.hid (B1.out.trans (hb9.mono B1.out.size))
  have hX := HX9.out
  have hY := HY9.out
  clear hS hb9 M0 M1 M2 M3 Ml X0 X1 X2 X3 X4 X5 X6 X7 Xl
  have X0 := hX.cell 0
  have X1 := hX.cell 1
  have X2 := hX.cell 2
  have X3 := hX.cell 3
  have X4 := hX.cell 4
  have X5 := hX.cell 5
  have X6 := hX.cell 6
  have X7 := hX.cell 7
  simp only [List.getElem?_toArray, List.getElem?_cons_zero, List.getElem?_cons_succ] at X0 X1 X2 X3 X4 X5 X6 X7
  have Xl := hX.lt
  have Y0 := hY.cell 0
  have Y1 := hY.cell 1
  have Y2 := hY.cell 2
  have Y3 := hY.cell 3
  have Y4 := hY.cell 4
  have Y5 := hY.cell 5
  have Y6 := hY.cell 6
  have Y7 := hY.cell 7
  simp only [List.getElem?_toArray, List.getElem?_cons_zero, List.getElem?_cons_succ] at Y0 Y1 Y2 Y3 Y4 Y5 Y6 Y7
  have Yl := hY.lt
  have J0 := hY.free 0
  have J1 := hY.free 1
  have J2 := hY.free 2
  have J3 := hY.free 3
  have J4 := hY.free 4
  have J5 := hY.free 5
  have J6 := hY.free 6
  have J7 := hY.free 7
  clear hX hY
  go_wp2
  have BB := fillI_below (n := w.heap.size + 1) (v0 := .int .u8 kind) (v1 := .int .u16 links) (v2 := .int .u32 size) (v3 := .int .u16 d0) (v4 := .int .u16 d1) (v5 := .int .u16 d2) (v6 := .int .u16 d3) (v7 := .int .u16 ind) B9.out (by omega)
  have h9 := fill8 (HY9.out) (.int .u8 kind) (.int .u16 links) (.int .u32 size) (.int .u16 d0) (.int .u16 d1) (.int .u16 d2) (.int .u16 d3) (.int .u16 ind)
  unfold fillI at h9
  have k0 := h9.cell 0
  have k1 := h9.cell 1
  have k2 := h9.cell 2
  have k3 := h9.cell 3
  have k4 := h9.cell 4
  have k5 := h9.cell 5
  have k6 := h9.cell 6
  have k7 := h9.cell 7
  simp only [List.getElem?_toArray, List.getElem?_cons_zero, List.getElem?_cons_succ] at k0 k1 k2 k3 k4 k5 k6 k7
  exact bodyPost_ret (v := .tuple #[.agg #[.int .u8 kind, .int .u16 links, .int .u32 size, .int .u16 d0, .int .u16 d1, .int .u16 d2, .int .u16 d3, .int .u16 ind], .int .u16 b, .int .i64 0]) (by simp [results, Tryz.results67, go_sem, k0, k1, k2, k3, k4, k5, k6, k7]) rfl (.inl ⟨rfl, Wr.same H.out BB⟩)
theorem setDir_form (kind links size d0 d1 d2 d3 ind p b : Nat) : ∃ y0 y1 y2 y3, setDir ⟨kind, links, size, d0, d1, d2, d3, ind⟩ p b = ⟨kind, links, size, y0, y1, y2, y3, ind⟩ := by
  match p with
  | 0 | 1 | 2 | 3 | n + 4 => exact ⟨_, _, _, _, rfl⟩
set_option maxRecDepth 100000 in
set_option maxHeartbeats 4000000 in
theorem home_lo (p b : Nat) (x : InoT) (vs : List Nat) (w : World) (hs : Small E) (h : IS w E D Z) (hi : InG E.bl x) (hv : IndIs E D x.ind vs) (hp : p < 4) (hb : pageB x vs p = 0) (hL : leastB (D (fr E 3)) (E.bl + 1 : Nat) false = (b, true)) (hb1 : 1 ≤ b) (hb2 : b ≤ E.bl) (hz3 : Z (fr E 3)) (hz : Z (dq E b)) (hQ : FullE E Z → Q) :
    Calls Tryz.prog 67 #[.pointer (some ⟨E.M, 0, none⟩), x.val, .int .i64 p] w (HomePost E (blkD E D b) Z Q (setDir x p b) b w) := by
  have GE := Lib.hid (fun W (h : IS W E D Z) => get_is x vs p W hs h hi hv (by omega))
  have BK := Lib.hid (fun W (h : IS W E D Z) => block_is b W hs h hL hb1 hb2 hz3 hz hQ)
  have SL := Lib.hid (fun W => set_lo (E := E) x p b W hs hi hb2 hp)
  have ND := needs_any x p
  have hnd : (decide (4 ≤ p) && decide (x.ind = 0)) = false := by simp; omega
  have ND := Lib.hid (fun W => ND W (by omega))
  rw [hnd] at ND
  rw [hb] at GE
  have H := Lib.hid h
  have hTm := mx_lt h
  clear h hi hv hnd hL hz3 hz hQ hb
  unfold HomePost
  generalize blkD E D b = D2 at *
  obtain ⟨kind, links, size, d0, d1, d2, d3, ind⟩ := x
  obtain ⟨y0, y1, y2, y3, hy⟩ := setDir_form kind links size d0 d1 d2 d3 ind p b
  rw [hy] at SL ⊢
  have HB0 := Lib.hid (((Below.refl _ w).alloc (Nat.le_refl _) (.cells #[.int .u8 kind, .int .u16 links, .int .u32 size, .int .u16 d0, .int .u16 d1, .int .u16 d2, .int .u16 d3, .int .u16 ind] 43)).alloc (by simp) (.cells #[.int .u8 0, .int .u16 0, .int .u32 0, .int .u16 0, .int .u16 0, .int .u16 0, .int .u16 0, .int .u16 0] 43))
  have HX := Lib.hid ((SBox.new w 43 #[.int .u8 kind, .int .u16 links, .int .u32 size, .int .u16 d0, .int .u16 d1, .int .u16 d2, .int .u16 d3, .int .u16 ind]).alloc (.cells #[.int .u8 0, .int .u16 0, .int .u32 0, .int .u16 0, .int .u16 0, .int .u16 0, .int .u16 0, .int .u16 0] 43))
  have hY := SBox.new (w.alloc (.cells #[.int .u8 kind, .int .u16 links, .int .u32 size, .int .u16 d0, .int .u16 d1, .int .u16 d2, .int .u16 d3, .int .u16 ind] 43)) 43 #[.int .u8 0, .int .u16 0, .int .u32 0, .int .u16 0, .int .u16 0, .int .u16 0, .int .u16 0, .int .u16 0]
  rw [World.size_alloc] at hY
  have HY := Lib.hid hY
  have H1 := Lib.hid (H.out.later HB0.out)
  clear hY
  unfold geoV InoT.val at *
  go_enter Tryz.func67, Tryz.ntmps67
  go_wp2_with fail
  refine (ND.out _).mono ?_
  rintro e w1 ⟨rfl, b1⟩
  have B1 := Lib.hid (HB0.out.trans (b1.mono HB0.out.size))
  have H2 := Lib.hid (H1.out.later b1)
  have HY1 := Lib.hid (HY.out.later b1)
  have HX1 := Lib.hid (HX.out.later b1)
  have hX := HX1.out
  have hM := H2.out.img
  clear b1
  have X0 := hX.cell 0
  have X1 := hX.cell 1
  have X2 := hX.cell 2
  have X3 := hX.cell 3
  have X4 := hX.cell 4
  have X5 := hX.cell 5
  have X6 := hX.cell 6
  have X7 := hX.cell 7
  simp only [List.getElem?_toArray, List.getElem?_cons_zero, List.getElem?_cons_succ] at X0 X1 X2 X3 X4 X5 X6 X7
  have Xl := hX.lt
  have M0 := hM.cell 0
  have M1 := hM.cell 1
  have M2 := hM.cell 2
  have M3 := hM.cell 3
  simp only [List.getElem?_toArray, List.getElem?_cons_zero, List.getElem?_cons_succ] at M0 M1 M2 M3
  have Ml := hM.lt
  clear hX hM
  go_wp2_with fail
  go_region_held3 (fun W => W.cell? ⟨E.M, 0, none⟩ = some (.pointer (some ⟨E.T.p, 0, none⟩)) ∧ W.cell? ⟨E.M, 1, none⟩ = some (.int .i64 E.i) ∧ W.cell? ⟨E.M, 2, none⟩ = some (.int .i64 E.bl) ∧ W.cell? ⟨E.M, 3, none⟩ = some (.int .i64 E.j) ∧ W.cell? ⟨w.heap.size, 0, none⟩ = some (.int .u8 kind) ∧ W.cell? ⟨w.heap.size, 1, none⟩ = some (.int .u16 links) ∧ W.cell? ⟨w.heap.size, 2, none⟩ = some (.int .u32 size) ∧ W.cell? ⟨w.heap.size, 3, none⟩ = some (.int .u16 d0) ∧ W.cell? ⟨w.heap.size, 4, none⟩ = some (.int .u16 d1) ∧ W.cell? ⟨w.heap.size, 5, none⟩ = some (.int .u16 d2) ∧ W.cell? ⟨w.heap.size, 6, none⟩ = some (.int .u16 d3) ∧ W.cell? ⟨w.heap.size, 7, none⟩ = some (.int .u16 ind) ∧ KeepF w1 W)
    (first | exact keepMX Ml Xl (by assumption) (by assumption) | exact ⟨M0, M1, M2, M3, X0, X1, X2, X3, X4, X5, X6, X7, (Below.refl _ _).drew⟩ | exact ⟨M0, M1, M2, M3, X0, X1, X2, X3, X4, X5, X6, X7, Below.refl _ _⟩)
    (first | (go_at_call 75; refine (GE.out _ (H2.out.later (keepMX_get (by assumption)))).mono ?_; rintro e w9 ⟨rfl, b9⟩))
  rename_i hS
  have hb9 := keepMX_get hS
  have HX9 := Lib.hid (HX1.out.later hb9)
  have HY9 := Lib.hid (HY1.out.later hb9)
  have B9 := Lib.hid (B1.out.trans (hb9.mono B1.out.size))
  have H9 := Lib.hid (H2.out.later hb9)
  clear hS hb9 M0 M1 M2 M3 Ml X0 X1 X2 X3 X4 X5 X6 X7 Xl
  go_wp2_with fail
  refine (BK.out _ H9.out).mono ?_
  rintro e w2 (⟨rfl, GW⟩ | ⟨rfl, GW⟩)
  · have HX2 := Lib.hid (show SBox w2 w.heap.size 43 _ from (GW.2.block _ HX9.out.lt (by omega)).trans HX9.out)
    have HY2 := Lib.hid (show SBox w2 (w.heap.size + 1) 43 _ from (GW.2.block _ HY9.out.lt (by omega)).trans HY9.out)
    have HW2 := Lib.hid (GW.pre (w0 := w) B9.out)
    have hX := HX2.out
    have hM := HW2.out.1.img
    have HX4 := Lib.hid (SBox.drew HX2.out)
    have HY4 := Lib.hid (SBox.drew HY2.out)
    have HW4 := Lib.hid (HW2.out.post (Below.refl w2.heap.size w2).drew)
    clear GW
    have X0 := hX.cell 0
    have X1 := hX.cell 1
    have X2 := hX.cell 2
    have X3 := hX.cell 3
    have X4 := hX.cell 4
    have X5 := hX.cell 5
    have X6 := hX.cell 6
    have X7 := hX.cell 7
    simp only [List.getElem?_toArray, List.getElem?_cons_zero, List.getElem?_cons_succ] at X0 X1 X2 X3 X4 X5 X6 X7
    have Xl := hX.lt
    have M0 := hM.cell 0
    have M1 := hM.cell 1
    have M2 := hM.cell 2
    have M3 := hM.cell 3
    simp only [List.getElem?_toArray, List.getElem?_cons_zero, List.getElem?_cons_succ] at M0 M1 M2 M3
    have Ml := hM.lt
    clear hX hM
    go_wp2_with fail
    go_region_law (go_simp; refine (SL.out _).mono ?_; rintro e w5 ⟨rfl, b5⟩; have HX5 := HX4.out.later b5; have HY5 := Lib.hid (HY4.out.later b5); have HW5 := Lib.hid (HW4.out.post b5); have hY := HY5.out; have P0 := HX5.cell 0; have P1 := HX5.cell 1; have P2 := HX5.cell 2; have P3 := HX5.cell 3; have P4 := HX5.cell 4; have P5 := HX5.cell 5; have P6 := HX5.cell 6; have P7 := HX5.cell 7; have F0 := HX5.free 0; have F1 := HX5.free 1; have F2 := HX5.free 2; have F3 := HX5.free 3; have F4 := HX5.free 4; have F5 := HX5.free 5; have F6 := HX5.free 6; have F7 := HX5.free 7; have Pl := HX5.lt; have Y0 := hY.cell 0; have Y1 := hY.cell 1; have Y2 := hY.cell 2; have Y3 := hY.cell 3; have Y4 := hY.cell 4; have Y5 := hY.cell 5; have Y6 := hY.cell 6; have Y7 := hY.cell 7; have J0 := hY.free 0; have J1 := hY.free 1; have J2 := hY.free 2; have J3 := hY.free 3; have J4 := hY.free 4; have J5 := hY.free 5; have J6 := hY.free 6; have J7 := hY.free 7; have Yl := hY.lt; simp only [List.getElem?_toArray, List.getElem?_cons_zero, List.getElem?_cons_succ] at P0 P1 P2 P3 P4 P5 P6 P7 Y0 Y1 Y2 Y3 Y4 Y5 Y6 Y7)
    all_goals
      go_wp2
      have BB := fillI_below (n := w.heap.size + 1) (v0 := .int .u8 kind) (v1 := .int .u16 links) (v2 := .int .u32 size) (v3 := .int .u16 y0) (v4 := .int .u16 y1) (v5 := .int .u16 y2) (v6 := .int .u16 y3) (v7 := .int .u16 ind) (fillI_below (n := w.heap.size) (v0 := .int .u8 kind) (v1 := .int .u16 links) (v2 := .int .u32 size) (v3 := .int .u16 y0) (v4 := .int .u16 y1) (v5 := .int .u16 y2) (v6 := .int .u16 y3) (v7 := .int .u16 ind) (Below.refl w.heap.size w5) (by omega)) (by omega)
      have h9 := fill8 (fillI_other (n := w.heap.size) (v0 := .int .u8 kind) (v1 := .int .u16 links) (v2 := .int .u32 size) (v3 := .int .u16 y0) (v4 := .int .u16 y1) (v5 := .int .u16 y2) (v6 := .int .u16 y3) (v7 := .int .u16 ind) HY5.out (by omega)) (.int .u8 kind) (.int .u16 links) (.int .u32 size) (.int .u16 y0) (.int .u16 y1) (.int .u16 y2) (.int .u16 y3) (.int .u16 ind)
      unfold fillI at h9
      have k0 := h9.cell 0
      have k1 := h9.cell 1
      have k2 := h9.cell 2
      have k3 := h9.cell 3
      have k4 := h9.cell 4
      have k5 := h9.cell 5
      have k6 := h9.cell 6
      have k7 := h9.cell 7
      simp only [List.getElem?_toArray, List.getElem?_cons_zero, List.getElem?_cons_succ] at k0 k1 k2 k3 k4 k5 k6 k7
      exact bodyPost_ret (v := .tuple #[.agg #[.int .u8 kind, .int .u16 links, .int .u32 size, .int .u16 y0, .int .u16 y1, .int .u16 y2, .int .u16 y3, .int .u16 ind], .int .u16 b, .int .i64 0]) (by simp [results, Tryz.results67, go_sem, k0, k1, k2, k3, k4, k5, k6, k7]) rfl (.inl ⟨rfl, Wr.via H.out HW5.out BB⟩)
  · have HX2 := (show SBox w2 w.heap.size 43 _ from (GW.2.block _ HX9.out.lt (by omega)).trans HX9.out)
    have HY2 := (show SBox w2 (w.heap.size + 1) 43 _ from (GW.2.block _ HY9.out.lt (by omega)).trans HY9.out)
    have HW2 := Lib.hid (GW.pre (w0 := w) B9.out)
    have HY3 := Lib.hid HY2
    clear GW
    have X0 := HX2.cell 0
    have X1 := HX2.cell 1
    have X2 := HX2.cell 2
    have X3 := HX2.cell 3
    have X4 := HX2.cell 4
    have X5 := HX2.cell 5
    have X6 := HX2.cell 6
    have X7 := HX2.cell 7
    simp only [List.getElem?_toArray, List.getElem?_cons_zero, List.getElem?_cons_succ] at X0 X1 X2 X3 X4 X5 X6 X7
    have Xl := HX2.lt
    have Y0 := HY2.cell 0
    have Y1 := HY2.cell 1
    have Y2 := HY2.cell 2
    have Y3 := HY2.cell 3
    have Y4 := HY2.cell 4
    have Y5 := HY2.cell 5
    have Y6 := HY2.cell 6
    have Y7 := HY2.cell 7
    simp only [List.getElem?_toArray, List.getElem?_cons_zero, List.getElem?_cons_succ] at Y0 Y1 Y2 Y3 Y4 Y5 Y6 Y7
    have Yl := HY2.lt
    have J0 := HY2.free 0
    have J1 := HY2.free 1
    have J2 := HY2.free 2
    have J3 := HY2.free 3
    have J4 := HY2.free 4
    have J5 := HY2.free 5
    have J6 := HY2.free 6
    have J7 := HY2.free 7
    clear HX2 HY2
    go_wp2
    have BB := fillI_below (n := w.heap.size + 1) (v0 := .int .u8 kind) (v1 := .int .u16 links) (v2 := .int .u32 size) (v3 := .int .u16 d0) (v4 := .int .u16 d1) (v5 := .int .u16 d2) (v6 := .int .u16 d3) (v7 := .int .u16 ind) (Below.refl w.heap.size w2) (by omega)
    have h9 := fill8 (HY3.out) (.int .u8 kind) (.int .u16 links) (.int .u32 size) (.int .u16 d0) (.int .u16 d1) (.int .u16 d2) (.int .u16 d3) (.int .u16 ind)
    unfold fillI at h9
    have k0 := h9.cell 0
    have k1 := h9.cell 1
    have k2 := h9.cell 2
    have k3 := h9.cell 3
    have k4 := h9.cell 4
    have k5 := h9.cell 5
    have k6 := h9.cell 6
    have k7 := h9.cell 7
    simp only [List.getElem?_toArray, List.getElem?_cons_zero, List.getElem?_cons_succ] at k0 k1 k2 k3 k4 k5 k6 k7
    exact bodyPost_ret (v := .tuple #[.agg #[.int .u8 kind, .int .u16 links, .int .u32 size, .int .u16 d0, .int .u16 d1, .int .u16 d2, .int .u16 d3, .int .u16 ind], .int .u16 0, .int .i64 4]) (by simp [results, Tryz.results67, go_sem, k0, k1, k2, k3, k4, k5, k6, k7]) rfl (.inr ⟨⟨_, _, rfl, ⟨kind, links, size, d0, d1, d2, d3, ind⟩, rfl⟩, Fu.via HW2.out BB⟩)
end
end Go.Proofs.YtpnfkilfgdnogaaGreatDoor.Img
end
section
namespace Go.Proofs.YtpnfkilfgdnogaaGreatDoor.Img
set_option linter.unusedVariables false
set_option linter.unusedSimpArgs false
open Go.RowKit Go.Shelf Go.Maps Oct Dev Jou Tx Geo Ino Bm
def cutS (s : ByteArray) (tt : Nat) : ByteArray := s.extract 0 tt ++ zS.extract tt 64
theorem cutS_size {s : ByteArray} {tt : Nat} (h : s.size = 64) (ht : tt ≤ 64) : (cutS s tt).size = 64 := by
  have hz : zS.size = 64 := by unfold zS; rw [size_B, List.length_replicate]
  unfold cutS
  simp only [ByteArray.size_append, ByteArray.size_extract, h, hz]
  omega
section
variable {E : Im} {D D' : Secs} {Z : Nat → Prop} {Q : Prop}
theorem put_num (b : Nat) (s : ByteArray) (w : World) (hs : Small E) (h : IS w E D Z) (h1 : 1 ≤ b) (hb : b ≤ E.bl) (h64 : s.size = 64) (hz : Z (dq E b)) (hQ : FullE E Z → Q) :
    Calls Tryz.prog 68 #[.pointer (some ⟨E.M, 0, none⟩), .int .u16 b, .string s] w fun e w' => ∃ c : Int, e = .returned (.int .i64 c) ∧ ((c = 0 ∧ Wr E (upd D (dq E b) s) Z w w') ∨ (c = 4 ∧ Fu E Q w w')) :=
  (put_is b s w hs h h1 hb h64 hz hQ).mono fun e w' h => by
    rcases h with ⟨rfl, g⟩ | ⟨rfl, g⟩
    · exact ⟨0, rfl, .inl ⟨rfl, g⟩⟩
    · exact ⟨4, rfl, .inr ⟨rfl, g⟩⟩
set_option maxRecDepth 100000 in
set_option maxHeartbeats 4000000 in
theorem setPage_is (n p b : Nat) (x y : InoT) (s : ByteArray) (w : World) (hs : Small E) (h : IS w E D Z) (h1 : 1 ≤ n) (hn : n ≤ E.i) (hx : InoIs E D n x) (ho : x.Ok) (hk : x.kind ≠ 0) (hp : p * 64 < x.size) (h64 : s.size = 64) (hy : y.Ok) (hb1 : 1 ≤ b) (hb2 : b ≤ E.bl)
    (hzt : Z (tq E n)) (hzb : Z (dq E b)) (hQ : FullE E Z → Q) (HM : ∀ W, IS W E D Z → Calls Tryz.prog 67 #[.pointer (some ⟨E.M, 0, none⟩), x.val, .int .i64 p] W (HomePost E D' Z Q y b W)) :
    Calls Tryz.prog 23 #[.pointer (some ⟨E.M, 0, none⟩), .int .u32 n, .int .i64 p, .string s] w (Out (.int .i64 0) (.int .i64 4) (Wr E (upd (setIno E D' n y) (dq E b) (cutS s (min 64 (x.size - p * 64)))) Z w) (Fu E Q w)) := by
  have hsz := Ok.size_lt ho
  have TH := there_is n x w hs h h1 hn hx ho
  rw [if_neg hk] at TH
  have TH := Lib.hid TH
  have HM := Lib.hid HM
  have SI := Lib.hid (fun W (h : IS W E D' Z) => setInode_is n y W hs h h1 hn hy hzt hQ)
  have PU := Lib.hid (fun W (h : IS W E (setIno E D' n y) Z) => put_num b (cutS s (min 64 (x.size - p * 64))) W hs h hb1 hb2 (cutS_size h64 (by omega)) hzb hQ)
  have H := Lib.hid h
  have hTm := mx_lt h
  have hzs : zS.size = 64 := by unfold zS; rw [size_B, List.length_replicate]
  clear h hx ho hk hzt hzb hQ hy
  generalize upd (setIno E D' n y) (dq E b) (cutS s (min 64 (x.size - p * 64))) = D3 at *
  unfold cutS at PU
  have ZE : Hid (∀ W, Calls Tryz.prog 69 #[] W fun e w' => e = .returned (.string zS) ∧ Below W.heap.size W w') := Lib.hid (fun W => zero_any W)
  generalize zS = zs at *
  generalize setIno E D' n y = D2 at *
  unfold HomePost at HM
  obtain ⟨kind, links, size, d0, d1, d2, d3, ind⟩ := x
  obtain ⟨yk, yl, ys, y0, y1, y2, y3, yi⟩ := y
  simp only at hp hsz PU
  obtain ⟨tt, hto⟩ : ∃ tt, min 64 (size - p * 64) = tt := ⟨_, rfl⟩
  rw [hto] at PU
  have ht1 : tt ≤ 64 := by omega
  unfold InoT.val at *
  have q1 : ¬ (p : Int) < 0 := by omega
  have q2 : ¬ (36 : Int) ≤ p := by omega
  have q3 : ¬ 36 ≤ p := by omega
  have q4 : ((s.size : Int) != 64) = false := by simp; omega
  have q5 : ¬ (size : Int) ≤ (p : Int) * 64 := by omega
  go_enter Tryz.func23, Tryz.ntmps23
  go_wp2_with fail
  refine TH.out.mono ?_
  rintro e w1 ⟨rfl, b1⟩
  have hX := SBox.new w1 43 #[.int .u8 kind, .int .u16 links, .int .u32 size, .int .u16 d0, .int .u16 d1, .int .u16 d2, .int .u16 d3, .int .u16 ind]
  have hB1 := b1.alloc b1.size (.cells #[.int .u8 kind, .int .u16 links, .int .u32 size, .int .u16 d0, .int .u16 d1, .int .u16 d2, .int .u16 d3, .int .u16 ind] 43)
  have H1 := Lib.hid (H.out.later hB1)
  have HX1 := Lib.hid hX
  have B1 := Lib.hid hB1
  have hw1 := b1.size
  have X0 := hX.cell 0
  have X1 := hX.cell 1
  have X2 := hX.cell 2
  have X3 := hX.cell 3
  have X4 := hX.cell 4
  have X5 := hX.cell 5
  have X6 := hX.cell 6
  have X7 := hX.cell 7
  simp only [List.getElem?_toArray, List.getElem?_cons_zero, List.getElem?_cons_succ] at X0 X1 X2 X3 X4 X5 X6 X7
  have Xl := hX.lt
  clear hX hB1 b1
  go_wp2_with fail
  refine (HM.out _ H1.out).mono ?_
  rintro e w2 (⟨rfl, GW⟩ | ⟨⟨v, u, rfl, ⟨zk, zl, zz, z0, z1, z2, z3, zi⟩, rfl⟩, GF⟩)
  · have HX2 := Lib.hid (show SBox w2 w1.heap.size 43 _ from (GW.2.block _ HX1.out.lt (by omega)).trans HX1.out)
    have HW2 := Lib.hid (GW.pre (w0 := w) B1.out)
    have hY := SBox.new w2 43 #[.int .u8 yk, .int .u16 yl, .int .u32 ys, .int .u16 y0, .int .u16 y1, .int .u16 y2, .int .u16 y3, .int .u16 yi]
    have hB2 := (Below.refl w2.heap.size w2).alloc (Nat.le_refl _) (.cells #[.int .u8 yk, .int .u16 yl, .int .u32 ys, .int .u16 y0, .int .u16 y1, .int .u16 y2, .int .u16 y3, .int .u16 yi] 43)
    have HW3 := Lib.hid (HW2.out.post hB2)
    have HX3 := Lib.hid (HX2.out.later hB2)
    clear GW X0 X1 X2 X3 X4 X5 X6 X7 Xl hB2
    have Y0 := hY.cell 0
    have Y1 := hY.cell 1
    have Y2 := hY.cell 2
    have Y3 := hY.cell 3
    have Y4 := hY.cell 4
    have Y5 := hY.cell 5
    have Y6 := hY.cell 6
    have Y7 := hY.cell 7
    simp only [List.getElem?_toArray, List.getElem?_cons_zero, List.getElem?_cons_succ] at Y0 Y1 Y2 Y3 Y4 Y5 Y6 Y7
    have Yl := hY.lt
    clear hY
    go_wp2_with fail
    refine (SI.out _ HW3.out.1).mono ?_
    rintro e w4 (⟨rfl, GW⟩ | ⟨rfl, GW⟩)
    · have hX := (show SBox w4 w1.heap.size 43 _ from (GW.2.block _ HX3.out.lt (by omega)).trans HX3.out)
      have HW4 := Lib.hid (GW.then_ HW3.out)
      clear GW Y0 Y1 Y2 Y3 Y4 Y5 Y6 Y7 Yl
      have X0 := hX.cell 0
      have X1 := hX.cell 1
      have X2 := hX.cell 2
      have X3 := hX.cell 3
      have X4 := hX.cell 4
      have X5 := hX.cell 5
      have X6 := hX.cell 6
      have X7 := hX.cell 7
      simp only [List.getElem?_toArray, List.getElem?_cons_zero, List.getElem?_cons_succ] at X0 X1 X2 X3 X4 X5 X6 X7
      have Xl := hX.lt
      clear hX
      go_wp2_with fail
      have mt : min (64 : Int) ((size : Int) - (p : Int) * 64) = ((tt : Nat) : Int) := by omega
      rw [mt]
      have r0 : (0 : Int) ≤ tt := by omega
      have r1 : (tt : Int) ≤ 64 := by omega
      have r2 : (tt : Int) ≤ s.size := by omega
      have r3 : tt ≤ s.size := by omega
      have r4 : (tt : Int) ≤ zs.size := by omega
      have r5 : tt ≤ zs.size := by omega
      have r6 : (s.extract 0 tt).size + (zs.extract tt zs.size).size ≤ 100000 := by simp; omega
      have r7 : (s.extract 0 tt).size + (zs.extract tt 64).size ≤ 100000 := by simp; omega
      have HD4 := Lib.hid (HW4.out.post (Below.refl w4.heap.size w4).drew)
      clear X0 X1 X2 X3 X4 X5 X6 X7 Xl mt
      go_region_law (first | (go_simp; go_at_call 69; refine (ZE.out _).mono ?_; rintro e w5 ⟨rfl, b5⟩; have HW5 := Lib.hid (HD4.out.post b5)) | (go_simp; go_at_call 68; refine (PU.out _ HW5.out.1).mono ?_; rintro e w6 ⟨c, rfl, hc⟩))
      all_goals
        have HC := Lib.hid hc
        clear hc
        go_wp2
        go_ret
        rcases HC.out with ⟨rfl, g⟩ | ⟨rfl, g⟩
        · exact .inl ⟨rfl, g.then_ HW5.out⟩
        · exact .inr ⟨rfl, g.then_ HW5.out⟩
    · have HW4 := Lib.hid (GW.then_ HW3.out)
      clear GW Y0 Y1 Y2 Y3 Y4 Y5 Y6 Y7 Yl
      go_wp2
      go_ret
      exact .inr ⟨rfl, HW4.out⟩
  · have HW2 := Lib.hid (GF.pre (w0 := w) B1.out)
    have HW3 := Lib.hid (HW2.out.post ((Below.refl w2.heap.size w2).alloc (Nat.le_refl _) (.cells #[.int .u8 zk, .int .u16 zl, .int .u32 zz, .int .u16 z0, .int .u16 z1, .int .u16 z2, .int .u16 z3, .int .u16 zi] 43)))
    clear GF X0 X1 X2 X3 X4 X5 X6 X7 Xl
    go_wp2
    go_ret
    exact .inr ⟨rfl, HW3.out⟩
end
end Go.Proofs.YtpnfkilfgdnogaaGreatDoor.Img
end
section
namespace Go.Proofs.YtpnfkilfgdnogaaGreatDoor.Img
set_option linter.unusedVariables false
set_option linter.unusedSimpArgs false
open Go.RowKit Go.Shelf Go.Maps Oct Dev Jou Tx Geo Ino Bm
def blankD (E : Im) (D : Secs) (b fm : Nat) : Secs := if b = 0 then D else upd D (dq E b) (patchS (D (dq E b)) fm (zS.extract fm 64))
section
variable {E : Im} {D : Secs} {Z : Nat → Prop} {Q : Prop}
theorem patch_num (i at_ : Nat) (t : ByteArray) (w : World) (h : IS w E D Z) (hj : E.j ≤ 256) (hi : i < E.hard.length) (hs : at_ + t.size ≤ 64) (hz : Z i) (hQ : FullE E Z → Q) :
    Calls Tryz.prog 64 #[.pointer (some ⟨E.T.p, 0, none⟩), .int .i64 i, .int .i64 at_, .string t] w fun e w' => ∃ c : Int, e = .returned (.int .i64 c) ∧ ((c = 0 ∧ Wr E (upd D i (patchS (D i) at_ t)) Z w w') ∨ (c = 4 ∧ Fu E Q w w')) :=
  (patch_is i at_ t w h hj hi hs hz hQ).mono fun e w' h => by
    rcases h with ⟨rfl, g⟩ | ⟨rfl, g⟩
    · exact ⟨0, rfl, .inl ⟨rfl, g⟩⟩
    · exact ⟨4, rfl, .inr ⟨rfl, g⟩⟩
theorem pageB_le {x : InoT} {vs : List Nat} {bl : Nat} (hi : InG bl x) (hv : ∀ v ∈ vs, v ≤ bl) (p : Nat) : pageB x vs p ≤ bl := by
  unfold pageB
  have hm : ∀ u ∈ allB x vs, u ≤ bl := fun u hu => by
    obtain ⟨g0, g1, g2, g3, g4⟩ := hi
    simp only [allB, List.mem_cons] at hu
    rcases hu with rfl | rfl | rfl | rfl | hu
    · exact g0
    · exact g1
    · exact g2
    · exact g3
    · exact hv u hu
  rw [List.getD_eq_getElem?_getD]
  cases he : (allB x vs)[p]? with
  | none => simp
  | some u => exact hm u (List.mem_of_getElem? he)
set_option maxRecDepth 100000 in
set_option maxHeartbeats 4000000 in
theorem blank_is (p fm : Nat) (x : InoT) (vs : List Nat) (w : World) (hs : Small E) (h : IS w E D Z) (hi : InG E.bl x) (hv : IndIs E D x.ind vs) (hp : p < 36) (hf : fm ≤ 64) (hz : pageB x vs p ≠ 0 → Z (dq E (pageB x vs p))) (hQ : FullE E Z → Q) :
    Calls Tryz.prog 66 #[.pointer (some ⟨E.M, 0, none⟩), x.val, .int .i64 p, .int .i64 fm] w fun e w' => ∃ c : Int, e = .returned (.int .i64 c) ∧ ((c = 0 ∧ Wr E (blankD E D (pageB x vs p) fm) Z w w') ∨ (c = 4 ∧ Fu E Q w w')) := by
  have hj := hs.hj
  have hbl := hs.hb
  have hl4 := h.len4
  have hlen := h.len
  have hpb := pageB_le hi hv.lt p
  have GE := Lib.hid (fun W (h : IS W E D Z) => get_is x vs p W hs h hi hv hp)
  have H := Lib.hid h
  clear h hi hv
  generalize pageB x vs p = b at *
  obtain ⟨kind, links, size, d0, d1, d2, d3, ind⟩ := x
  have ZE : Hid (∀ W, Calls Tryz.prog 69 #[] W fun e w' => e = .returned (.string zS) ∧ Below W.heap.size W w') := Lib.hid (fun W => zero_any W)
  have hzs : zS.size = 64 := by unfold zS; rw [size_B, List.length_replicate]
  unfold blankD
  have HB0 := Lib.hid ((Below.refl _ w).alloc (Nat.le_refl _) (.cells #[.int .u8 kind, .int .u16 links, .int .u32 size, .int .u16 d0, .int .u16 d1, .int .u16 d2, .int .u16 d3, .int .u16 ind] 43))
  have hX := SBox.new w 43 #[.int .u8 kind, .int .u16 links, .int .u32 size, .int .u16 d0, .int .u16 d1, .int .u16 d2, .int .u16 d3, .int .u16 ind]
  have H1 := Lib.hid (H.out.later HB0.out)
  have hM := H1.out.img
  have X0 := hX.cell 0
  have X1 := hX.cell 1
  have X2 := hX.cell 2
  have X3 := hX.cell 3
  have X4 := hX.cell 4
  have X5 := hX.cell 5
  have X6 := hX.cell 6
  have X7 := hX.cell 7
  simp only [List.getElem?_toArray, List.getElem?_cons_zero, List.getElem?_cons_succ] at X0 X1 X2 X3 X4 X5 X6 X7
  have Xl := hX.lt
  have M0 := hM.cell 0
  have M1 := hM.cell 1
  have M2 := hM.cell 2
  have M3 := hM.cell 3
  simp only [List.getElem?_toArray, List.getElem?_cons_zero, List.getElem?_cons_succ] at M0 M1 M2 M3
  have Ml := hM.lt
  clear hX hM
  unfold geoV InoT.val at *
  by_cases hb0 : b = 0
  · subst hb0
    generalize zS = zs at *
    go_enter Tryz.func66, Tryz.ntmps66
    go_wp2_with fail
    go_region_held3 (fun W => W.cell? ⟨E.M, 0, none⟩ = some (.pointer (some ⟨E.T.p, 0, none⟩)) ∧ W.cell? ⟨E.M, 1, none⟩ = some (.int .i64 E.i) ∧ W.cell? ⟨E.M, 2, none⟩ = some (.int .i64 E.bl) ∧ W.cell? ⟨E.M, 3, none⟩ = some (.int .i64 E.j) ∧ W.cell? ⟨w.heap.size, 0, none⟩ = some (.int .u8 kind) ∧ W.cell? ⟨w.heap.size, 1, none⟩ = some (.int .u16 links) ∧ W.cell? ⟨w.heap.size, 2, none⟩ = some (.int .u32 size) ∧ W.cell? ⟨w.heap.size, 3, none⟩ = some (.int .u16 d0) ∧ W.cell? ⟨w.heap.size, 4, none⟩ = some (.int .u16 d1) ∧ W.cell? ⟨w.heap.size, 5, none⟩ = some (.int .u16 d2) ∧ W.cell? ⟨w.heap.size, 6, none⟩ = some (.int .u16 d3) ∧ W.cell? ⟨w.heap.size, 7, none⟩ = some (.int .u16 ind) ∧ KeepF (w.alloc (.cells #[.int .u8 kind, .int .u16 links, .int .u32 size, .int .u16 d0, .int .u16 d1, .int .u16 d2, .int .u16 d3, .int .u16 ind] 43)) W)
      (first | exact keepMX Ml Xl (by assumption) (by assumption) | exact ⟨M0, M1, M2, M3, X0, X1, X2, X3, X4, X5, X6, X7, (Below.refl _ _).drew⟩ | exact ⟨M0, M1, M2, M3, X0, X1, X2, X3, X4, X5, X6, X7, Below.refl _ _⟩)
      (first | (go_at_call 75; refine (GE.out _ (H1.out.later (keepMX_get (by assumption)))).mono ?_; rintro e w9 ⟨rfl, b9⟩))
    rename_i hS
    have B9 := Lib.hid (HB0.out.trans ((keepMX_get hS).mono HB0.out.size))
    clear hS M0 M1 M2 M3 Ml X0 X1 X2 X3 X4 X5 X6 X7 Xl
    go_wp2
    go_ret
    exact ⟨0, rfl, .inl ⟨rfl, Wr.same H.out B9.out⟩⟩
  · have t1 : ((b : Int) == 0) = false := by simp; omega
    have BL := Lib.hid (fun W => Geo.block_any E.i E.bl E.j b W hs.may (by omega) hpb)
    unfold geoV at BL
    rw [show fromG E.i E.bl E.j 5 + b - 1 = dq E b from rfl] at BL
    have hq := dq_lt hs hlen (b := b) (by omega) hpb
    have PA := Lib.hid (fun W (h : IS W E D Z) => patch_num (dq E b) fm (zS.extract fm 64) W h (by omega) hq (by simp [hzs]; omega) (hz hb0) hQ)
    rw [if_neg hb0]
    obtain ⟨D2, hD2⟩ : ∃ d, upd D (dq E b) (patchS (D (dq E b)) fm (zS.extract fm 64)) = d := ⟨_, rfl⟩
    rw [hD2] at PA ⊢
    clear hD2 hz
    generalize zS = zs at *
    generalize dq E b = q at *
    have r0 : (0 : Int) ≤ fm := by omega
    have r1 : (fm : Int) ≤ 64 := by omega
    have r2 : (fm : Int) ≤ zs.size := by omega
    have r3 : fm ≤ zs.size := by omega
    go_enter Tryz.func66, Tryz.ntmps66
    go_wp2_with fail
    go_region_held3 (fun W => W.cell? ⟨E.M, 0, none⟩ = some (.pointer (some ⟨E.T.p, 0, none⟩)) ∧ W.cell? ⟨E.M, 1, none⟩ = some (.int .i64 E.i) ∧ W.cell? ⟨E.M, 2, none⟩ = some (.int .i64 E.bl) ∧ W.cell? ⟨E.M, 3, none⟩ = some (.int .i64 E.j) ∧ W.cell? ⟨w.heap.size, 0, none⟩ = some (.int .u8 kind) ∧ W.cell? ⟨w.heap.size, 1, none⟩ = some (.int .u16 links) ∧ W.cell? ⟨w.heap.size, 2, none⟩ = some (.int .u32 size) ∧ W.cell? ⟨w.heap.size, 3, none⟩ = some (.int .u16 d0) ∧ W.cell? ⟨w.heap.size, 4, none⟩ = some (.int .u16 d1) ∧ W.cell? ⟨w.heap.size, 5, none⟩ = some (.int .u16 d2) ∧ W.cell? ⟨w.heap.size, 6, none⟩ = some (.int .u16 d3) ∧ W.cell? ⟨w.heap.size, 7, none⟩ = some (.int .u16 ind) ∧ KeepF (w.alloc (.cells #[.int .u8 kind, .int .u16 links, .int .u32 size, .int .u16 d0, .int .u16 d1, .int .u16 d2, .int .u16 d3, .int .u16 ind] 43)) W)
      (first | exact keepMX Ml Xl (by assumption) (by assumption) | exact ⟨M0, M1, M2, M3, X0, X1, X2, X3, X4, X5, X6, X7, (Below.refl _ _).drew⟩ | exact ⟨M0, M1, M2, M3, X0, X1, X2, X3, X4, X5, X6, X7, Below.refl _ _⟩)
      (first | (go_at_call 75; refine (GE.out _ (H1.out.later (keepMX_get (by assumption)))).mono ?_; rintro e w9 ⟨rfl, b9⟩))
    rename_i hS
    have B9 := Lib.hid (HB0.out.trans ((keepMX_get hS).mono HB0.out.size))
    have H9 := Lib.hid (H.out.later B9.out)
    have hM := H9.out.img
    clear hS M0 M1 M2 M3 Ml X0 X1 X2 X3 X4 X5 X6 X7 Xl
    have M0 := hM.cell 0
    have M1 := hM.cell 1
    have M2 := hM.cell 2
    have M3 := hM.cell 3
    simp only [List.getElem?_toArray, List.getElem?_cons_zero, List.getElem?_cons_succ] at M0 M1 M2 M3
    have Ml := hM.lt
    clear hM
    go_wp2_with fail
    refine (BL.out _).mono ?_
    rintro e w2 ⟨rfl, b2⟩
    have B2 := Lib.hid (B9.out.trans (b2.mono B9.out.size))
    have H2 := Lib.hid (H.out.later B2.out)
    have hM := H2.out.img
    have BD := Lib.hid (B2.out.trans ((Below.refl w2.heap.size w2).drew.mono B2.out.size))
    clear b2 M0 M1 M2 M3 Ml
    have M0 := hM.cell 0
    have M1 := hM.cell 1
    have M2 := hM.cell 2
    have M3 := hM.cell 3
    simp only [List.getElem?_toArray, List.getElem?_cons_zero, List.getElem?_cons_succ] at M0 M1 M2 M3
    have Ml := hM.lt
    clear hM
    go_wp2_with fail
    go_region_law (first | (go_simp; go_at_call 69; refine (ZE.out _).mono ?_; rintro e w5 ⟨rfl, b5⟩; have B5 := Lib.hid (BD.out.trans (b5.mono BD.out.size)); have H5 := Lib.hid (H.out.later B5.out); have hN := H5.out.img; have N0 := hN.cell 0; have Nl := hN.lt; simp only [List.getElem?_toArray, List.getElem?_cons_zero] at N0) | (go_simp; go_at_call 64; refine (PA.out _ H5.out).mono ?_; rintro e w6 ⟨c, rfl, hc⟩))
    all_goals
      have HC := Lib.hid hc
      clear hc
      go_wp2
      go_ret
      rcases HC.out with ⟨rfl, g⟩ | ⟨rfl, g⟩
      · exact ⟨0, rfl, .inl ⟨rfl, g.pre B5.out⟩⟩
      · exact ⟨4, rfl, .inr ⟨rfl, g.pre B5.out⟩⟩
end
end Go.Proofs.YtpnfkilfgdnogaaGreatDoor.Img
end
section
namespace Go.Proofs.YtpnfkilfgdnogaaGreatDoor.Img
set_option linter.unusedVariables false
set_option linter.unusedSimpArgs false
open Go.RowKit Go.Shelf Go.Maps Oct Dev Jou Tx Geo Ino Bm
def giveD (E : Im) (D : Secs) (b : Nat) : Secs := upd D (fr E 3) (setB (D (fr E 3)) b false)
def giveL (E : Im) (D : Secs) (l : List Nat) : Secs := l.foldl (giveD E) D
theorem giveL_snoc (E : Im) (D : Secs) (l : List Nat) (b : Nat) : giveL E D (l ++ [b]) = giveD E (giveL E D l) b := by
  unfold giveL
  rw [List.foldl_append]
  rfl
def cutV (x : InoT) (vs : List Nat) (p : Nat) : List Nat := if x.ind ≠ 0 ∧ p ≤ 4 then List.replicate 32 0 else cutVs vs p
def sized (y : InoT) (s : Nat) : InoT := { y with size := s }
def rszB (y : InoT) (vs : List Nat) (s : Nat) : Nat := if s % 64 = 0 then 0 else pageB y vs (s / 64)
def rszD (E : Im) (D : Secs) (n : Nat) (x : InoT) (vs : List Nat) (s : Nat) : Secs :=
  setIno E (blankD E (giveL E (cutSec E D x vs (pagesN s)) (cutFree x vs (pagesN s))) (rszB (sized (cutEnd x (pagesN s)) s) (cutV x vs (pagesN s)) s) (s % 64)) n (sized (cutEnd x (pagesN s)) s)
section
variable {E : Im} {D : Secs} {Z : Nat → Prop} {Q : Prop}
theorem cut_num (x : InoT) (vs : List Nat) (p : Nat) (w : World) (hs : Small E) (h : IS w E D Z) (hi : InG E.bl x) (hv : IndIs E D x.ind vs) (hp : p ≤ 36) (hz : x.ind ≠ 0 → 4 < p → Z (dq E x.ind)) (hQ : FullE E Z → Q) :
    Calls Tryz.prog 65 #[.pointer (some ⟨E.T.p, 0, none⟩), geoV E.i E.bl E.j, x.val, .int .i64 p] w fun e w' => ∃ (y : InoT) (v : Value) (c : Int), e = .returned (.tuple #[y.val, v, .int .i64 c]) ∧ ((c = 0 ∧ y = cutEnd x p ∧ OwnL w.heap.size (cutFree x vs p) v w' ∧ Wr E (cutSec E D x vs p) Z w w') ∨ (c = 4 ∧ Fu E Q w w')) :=
  ((callsIn_wide (n := 4)).1 (cut_is x vs p w hs h hi hv hp hz (fun _ => hQ))).mono fun e w' h => by
    rcases h with ⟨v, rfl, g1, g2, _⟩ | ⟨rfl, g⟩
    · exact ⟨_, v, 0, rfl, .inl ⟨rfl, rfl, g1, g2⟩⟩
    · exact ⟨noIno, .slice none 0 0, 4, rfl, .inr ⟨rfl, g⟩⟩
theorem tch_of {w w' : World} {c : Int} {A B : Prop} {D' : Secs} (h : (c = 0 ∧ A ∧ B ∧ Wr E D' Z w w') ∨ (c = 4 ∧ Fu E Q w w')) : Tch (fun c => c = E.T.m) w w' := by
  rcases h with ⟨_, _, _, g⟩ | ⟨_, g⟩
  · exact g.2
  · exact g.2
theorem rsz_meet {w W w6 W7 : World} {X pg : Nat} {x y : InoT} {vs : List Nat} {v : Value} {c : Int} {a0 a1 a2 a3 a4 a5 a6 a7 : Value} (h0 : IS w E D Z) (hX : SBox w6 X 43 #[a0, a1, a2, a3, a4, a5, a6, a7]) (hB : Below w.heap.size w W) (hXw : w.heap.size ≤ X) (hXW : X + 1 ≤ W.heap.size)
    (hc : (c = 0 ∧ y = cutEnd x pg ∧ OwnL W.heap.size (cutFree x vs pg) v w6 ∧ Wr E (cutSec E D x vs pg) Z W w6) ∨ (c = 4 ∧ Fu E Q W w6))
    (h7 : fillI w6 X (.int .u8 y.kind) (.int .u16 y.links) (.int .u32 y.size) (.int .u16 y.d0) (.int .u16 y.d1) (.int .u16 y.d2) (.int .u16 y.d3) (.int .u16 y.ind) = W7) :
    ∃ (y' : InoT) (c' : Int), Value.pointer (some ⟨X, 0, none⟩) = .pointer (some ⟨X, 0, none⟩) ∧ Value.int .i64 c = .int .i64 c' ∧ SBox W7 X 43 y'.cells ∧ ((c' = 0 ∧ y' = cutEnd x pg ∧ OwnL (X + 1) (cutFree x vs pg) v W7 ∧ Wr E (cutSec E D x vs pg) Z w W7) ∨ (c' = 4 ∧ Fu E Q w W7)) := by
  have hb : Below w.heap.size w6 W7 := by
    rw [← h7]
    exact fillI_below (Below.refl _ _) hXw
  refine ⟨y, c, rfl, rfl, by rw [← h7]; exact fill8 hX _ _ _ _ _ _ _ _, ?_⟩
  rcases hc with ⟨e, g1, g2, g3⟩ | ⟨e, g⟩
  · refine .inl ⟨e, g1, ?_, Wr.via h0 (g3.pre hB) hb⟩
    rw [← h7]
    exact fillI_own (own_mono g2 hXW) (by omega)
  · exact .inr ⟨e, Fu.via (g.pre hB) hb⟩
set_option maxRecDepth 100000 in
set_option maxHeartbeats 8000000 in
theorem resize_is (n s : Nat) (x : InoT) (vs : List Nat) (w : World) (hs : Small E) (h : IS w E D Z) (h1 : 1 ≤ n) (hn : n ≤ E.i) (hx : InoIs E D n x) (ho : x.Ok) (hk : x.kind ≠ 0) (hi : InG E.bl x) (hv : IndIs E D x.ind vs)
    (hsz : s ≤ 2304) (hd : x.kind = 2 → s % 64 = 0) (hfr : ∀ k (hk : k < (cutFree x vs (pagesN s)).length), 1 ≤ (cutFree x vs (pagesN s))[k] ∧ (cutFree x vs (pagesN s))[k] ≤ E.bl ∧ bitB ((giveL E (cutSec E D x vs (pagesN s)) ((cutFree x vs (pagesN s)).take k)) (fr E 3)) (cutFree x vs (pagesN s))[k] = true)
    (hy : (sized (cutEnd x (pagesN s)) s).Ok) (hyi : InG E.bl (cutEnd x (pagesN s))) (hyv : IndIs E (giveL E (cutSec E D x vs (pagesN s)) (cutFree x vs (pagesN s))) (cutEnd x (pagesN s)).ind (cutV x vs (pagesN s)))
    (hz3 : Z (fr E 3)) (hzt : Z (tq E n)) (hzd : ∀ b, 1 ≤ b → b ≤ E.bl → (b = x.ind ∨ b = rszB (sized (cutEnd x (pagesN s)) s) (cutV x vs (pagesN s)) s) → Z (dq E b)) (hQ : FullE E Z → Q) :
    Calls Tryz.prog 22 #[.pointer (some ⟨E.M, 0, none⟩), .int .u32 n, .int .u32 s] w (Out (.int .i64 0) (.int .i64 4) (Wr E (rszD E D n x vs s) Z w) (Fu E Q w)) := by
  have hpg : pagesN s ≤ 36 := by unfold pagesN; omega
  have TH := there_is n x w hs h h1 hn hx ho
  rw [if_neg hk] at TH
  have TH := Lib.hid TH
  have PG := Lib.hid (fun W => pages_any s W (by omega))
  have CU := Lib.hid (fun W (h : IS W E D Z) => cut_num x vs (pagesN s) W hs h hi hv hpg (fun h0 _ => hzd x.ind (by omega) hi.2.2.2.2 (.inl rfl)) hQ)
  have H := Lib.hid h
  have hTm := mx_lt h
  obtain ⟨kind, links, size, d0, d1, d2, d3, ind⟩ := x
  have HD := Lib.hid hd
  have hk2 : (((kind : Int) == 2) && ((s : Int) % 64 != 0)) = false := by
    by_cases h2 : kind = 2
    · have := hd h2
      simp; omega
    · simp; omega
  have q1 : ¬ (2304 : Int) < s := by omega
  have q2 : ¬ 2304 < s := by omega
  unfold geoV InoT.val at *
  clear h hx ho hk hi hv hd
  go_enter Tryz.func22, Tryz.ntmps22
  go_wp2_with fail
  refine TH.out.mono ?_
  rintro e w1 ⟨rfl, b1⟩
  have hX := SBox.new w1 43 #[.int .u8 kind, .int .u16 links, .int .u32 size, .int .u16 d0, .int .u16 d1, .int .u16 d2, .int .u16 d3, .int .u16 ind]
  have hB1 := b1.alloc b1.size (.cells #[.int .u8 kind, .int .u16 links, .int .u32 size, .int .u16 d0, .int .u16 d1, .int .u16 d2, .int .u16 d3, .int .u16 ind] 43)
  have H1 := Lib.hid (H.out.later hB1)
  have hM := H1.out.img
  have HX1 := Lib.hid hX
  have B1 := Lib.hid hB1
  have hw1 := b1.size
  have X0 := hX.cell 0
  have X1 := hX.cell 1
  have X2 := hX.cell 2
  have X3 := hX.cell 3
  have X4 := hX.cell 4
  have X5 := hX.cell 5
  have X6 := hX.cell 6
  have X7 := hX.cell 7
  simp only [List.getElem?_toArray, List.getElem?_cons_zero, List.getElem?_cons_succ] at X0 X1 X2 X3 X4 X5 X6 X7
  have Xl := hX.lt
  have M0 := hM.cell 0
  have M1 := hM.cell 1
  have M2 := hM.cell 2
  have M3 := hM.cell 3
  simp only [List.getElem?_toArray, List.getElem?_cons_zero, List.getElem?_cons_succ] at M0 M1 M2 M3
  have Ml := hM.lt
  clear hX hM hB1 b1
  go_upto_block 0 with fail
  go_cut [7, 8] from 15 (fun q8 e8 wx => q8 = .pointer (some ⟨w1.heap.size, 0, none⟩) ∧ e8 = .int .i64 0 ∧ wx = w1.alloc (.cells #[.int .u8 kind, .int .u16 links, .int .u32 size, .int .u16 d0, .int .u16 d1, .int .u16 d2, .int .u16 d3, .int .u16 ind] 43))
  case first =>
    by_cases hkd : kind = 2
    · subst hkd
      have h64 := HD.out rfl
      go_wp2_with fail
      go_meet
      case rel => exact ⟨rfl, rfl, rfl⟩
    · have t1 : ((kind : Int) == 2) = false := by simp; omega
      go_wp2_with fail
      go_meet
      case rel => exact ⟨rfl, rfl, rfl⟩
  case rest =>
    obtain ⟨rfl, rfl, rfl⟩ := hcut
    have BD := Lib.hid (B1.out.trans ((Below.refl (w1.alloc (.cells #[.int .u8 kind, .int .u16 links, .int .u32 size, .int .u16 d0, .int .u16 d1, .int .u16 d2, .int .u16 d3, .int .u16 ind] 43)).heap.size (w1.alloc (.cells #[.int .u8 kind, .int .u16 links, .int .u32 size, .int .u16 d0, .int .u16 d1, .int .u16 d2, .int .u16 d3, .int .u16 ind] 43))).drew.mono B1.out.size))
    have HID := Lib.hid (H.out.later BD.out)
    have HXD := Lib.hid (SBox.drew HX1.out)
    have hszw : (w1.alloc (.cells #[.int .u8 kind, .int .u16 links, .int .u32 size, .int .u16 d0, .int .u16 d1, .int .u16 d2, .int .u16 d3, .int .u16 ind] 43)).heap.size = w1.heap.size + 1 := by simp
    go_upto_region 7 with fail
    go_cut [7, 8, 9] from 15 (fun q7 e8 v9 wx => ∃ (y : InoT) (c : Int), q7 = .pointer (some ⟨w1.heap.size, 0, none⟩) ∧ e8 = .int .i64 c ∧ SBox wx w1.heap.size 43 y.cells ∧ ((c = 0 ∧ y = cutEnd ⟨kind, links, size, d0, d1, d2, d3, ind⟩ (pagesN s) ∧ OwnL (w1.heap.size + 1) (cutFree ⟨kind, links, size, d0, d1, d2, d3, ind⟩ vs (pagesN s)) v9 wx ∧ Wr E (cutSec E D ⟨kind, links, size, d0, d1, d2, d3, ind⟩ vs (pagesN s)) Z w wx) ∨ (c = 4 ∧ Fu E Q w wx)))
    case first =>
      go_region_law (first | (go_simp; go_at_call 60; refine (PG.out _).mono ?_; rintro e w5 ⟨rfl, rfl⟩) | (go_simp; go_at_call 65; refine (CU.out _ HID.out).mono ?_; rintro e w6 ⟨y, v, c, rfl, hc⟩; have hX6 : SBox w6 w1.heap.size 43 #[.int .u8 kind, .int .u16 links, .int .u32 size, .int .u16 d0, .int .u16 d1, .int .u16 d2, .int .u16 d3, .int .u16 ind] := (Tch.block (tch_of hc) _ HXD.out.lt (by omega)).trans HXD.out; have HX6 := Lib.hid hX6; have P0 := hX6.cell 0; have P1 := hX6.cell 1; have P2 := hX6.cell 2; have P3 := hX6.cell 3; have P4 := hX6.cell 4; have P5 := hX6.cell 5; have P6 := hX6.cell 6; have P7 := hX6.cell 7; have F0 := hX6.free 0; have F1 := hX6.free 1; have F2 := hX6.free 2; have F3 := hX6.free 3; have F4 := hX6.free 4; have F5 := hX6.free 5; have F6 := hX6.free 6; have F7 := hX6.free 7; have Pl := hX6.lt; have HC := Lib.hid hc; simp only [List.getElem?_toArray, List.getElem?_cons_zero, List.getElem?_cons_succ] at P0 P1 P2 P3 P4 P5 P6 P7; clear hX6 hc))
      all_goals
        go_wp2_with fail
        go_meet
        exact rsz_meet H.out HX6.out BD.out hw1 (Nat.le_of_eq hszw.symm) HC.out rfl
    case rest =>
      obtain ⟨y, c, rfl, rfl, hXc, hcc⟩ := hcut
      clear HX1 HXD HID BD B1 hszw M0 M1 M2 M3 Ml X0 X1 X2 X3 X4 X5 X6 X7 Xl H1
      rcases hcc with ⟨rfl, hyc, hown, hW⟩ | ⟨rfl, hF⟩
      · obtain ⟨fr0, hfr0⟩ : ∃ l, cutFree ⟨kind, links, size, d0, d1, d2, d3, ind⟩ vs (pagesN s) = l := ⟨_, rfl⟩
        obtain ⟨D1, hD1⟩ : ∃ d, cutSec E D ⟨kind, links, size, d0, d1, d2, d3, ind⟩ vs (pagesN s) = d := ⟨_, rfl⟩
        obtain ⟨vs1, hvs1⟩ : ∃ d, cutV ⟨kind, links, size, d0, d1, d2, d3, ind⟩ vs (pagesN s) = d := ⟨_, rfl⟩
        have hfin := Lib.hid (show rszD E D n ⟨kind, links, size, d0, d1, d2, d3, ind⟩ vs s = setIno E (blankD E (giveL E D1 fr0) (rszB (sized y s) vs1 s) (s % 64)) n (sized y s) by unfold rszD; rw [hyc, hD1, hfr0, hvs1])
        rw [← hyc] at hy hyi hyv hzd
        rw [hfr0] at hown hfr hyv
        rw [hD1] at hW hfr hyv
        rw [hvs1] at hyv hzd
        have hfl : fr0.length ≤ 40 := by
          rw [← hfr0]
          unfold cutFree freeD freeV
          have e1 := nzs_len (dirL ⟨kind, links, size, d0, d1, d2, d3, ind⟩) (pagesN s) (4 - pagesN s)
          have e2 := nzs_len vs (pagesN s - 4) (32 - (pagesN s - 4))
          simp only [List.length_append, List.length_map]
          split <;> simp <;> omega
        obtain ⟨ao, cap, rfl⟩ : ∃ ao cap, u9 = .slice ao fr0.length cap := by
          rcases hown.2 with ⟨rfl, e0⟩ | ⟨g, cap, cur, rfl, _⟩
          · exact ⟨none, 0, by rw [e0]⟩
          · exact ⟨_, _, rfl⟩
        clear hyc hfr0 hD1 hvs1 CU PG
        have HR0 := Lib.hid (And.intro hXc (And.intro hW hown))
        have HFR := Lib.hid hfr
        have hfi : (fr0.length : Int) ≤ 9223372036854775807 := by omega
        clear hXc hW hown hfr
        go_wp2_with fail
        go_loopw [58] (fun c wr => ∃ k : Nat, k ≤ fr0.length ∧ c = .int .i64 k ∧ SBox wr w1.heap.size 43 y.cells ∧ Wr E (giveL E D1 (fr0.take k)) Z w wr ∧ OwnL (w1.heap.size + 1) fr0 (.slice ao fr0.length cap) wr) (fun c _ => fr0.length - (intOf c).toNat)
        case atStart => exact ⟨0, Nat.zero_le _, rfl, HR0.out.1, HR0.out.2.1, HR0.out.2.2⟩
        case round =>
          obtain ⟨k, hkl, rfl, hXr, hWr, hOr⟩ := hrel
          by_cases hlt : k < fr0.length
          · obtain ⟨g, cap', e, hge, hcc, hR⟩ := Row16.of_own hOr (by omega)
            injection e with e1 e2 e3
            subst e1 e3
            have c1 := hR.cell k hlt
            have gl := hR.lt
            obtain ⟨f1, f2, f3⟩ := HFR.out k hlt
            have GB := Lib.hid (giveBlock_is (Q := Q) fr0[k] wr hs hWr.1 f1 f2 f3 hz3 hQ)
            have hsn : giveL E D1 (fr0.take (k + 1)) = giveD E (giveL E D1 (fr0.take k)) fr0[k] := by rw [List.take_add_one, List.getElem?_eq_getElem hlt]; exact giveL_snoc E D1 _ _
            have HSN := Lib.hid hsn
            have HXr := Lib.hid hXr
            have HWr := Lib.hid hWr
            have HOr := Lib.hid hOr
            have q0 : (0 : Int) ≤ k := by omega
            have q3 : (k : Int) < fr0.length := by omega
            have hgeW := HWr.out.2.size
            clear hXr hWr hOr hsn hR f1 f2 f3
            generalize fr0[k] = b at *
            go_wp2_with fail
            refine GB.out.mono ?_
            rintro e w5 (⟨rfl, G⟩ | ⟨rfl, G⟩)
            · have HX5 := Lib.hid (show SBox w5 w1.heap.size 43 y.cells from (G.2.block _ HXr.out.lt (by omega)).trans HXr.out)
              have HO5 := Lib.hid (own_tch HOr.out G.2 (by omega))
              have HW5 := Lib.hid (G.then_ HWr.out)
              clear G
              go_wp2_with fail
              go_roundw
              case rel => exact ⟨k + 1, by omega, rfl, HX5.out, by rw [HSN.out]; exact HW5.out, HO5.out⟩
              case measure => simp [intOf]; omega
            · have HW5 := Lib.hid (G.then_ HWr.out)
              clear G
              go_wp2
              go_ret
              exact .inr ⟨rfl, HW5.out⟩
          · obtain rfl : k = fr0.length := by omega
            rw [List.take_length] at hWr
            obtain ⟨yk, yl, yz, y0, y1, y2, y3, yi⟩ := y
            unfold InoT.cells at hXr
            unfold sized at *
            simp only at hXr hy hyi hyv hzd
            generalize giveL E D1 fr0 = D2 at *
            have HWS := Lib.hid (Wr.via H.out hWr ((Below.refl w.heap.size wr).setCell (p := ⟨w1.heap.size, 2, none⟩) hw1 (.int .u32 s)))
            have X0 := hXr.cell 0
            have X1 := hXr.cell 1
            have X2 := hXr.cell 2
            have X3 := hXr.cell 3
            have X4 := hXr.cell 4
            have X5 := hXr.cell 5
            have X6 := hXr.cell 6
            have X7 := hXr.cell 7
            simp only [List.getElem?_toArray, List.getElem?_cons_zero, List.getElem?_cons_succ] at X0 X1 X2 X3 X4 X5 X6 X7
            have Xl := hXr.lt
            have F0 := hXr.free 0
            have F1 := hXr.free 1
            have F2 := hXr.free 2
            have F3 := hXr.free 3
            have F4 := hXr.free 4
            have F5 := hXr.free 5
            have F6 := hXr.free 6
            have F7 := hXr.free 7
            have HXS := Lib.hid (hXr.set 2 (.int .u32 s))
            have hlt9 : w1.heap.size < wr.heap.size := Xl
            clear hWr hOr HR0 hXr
            by_cases h64 : s % 64 = 0
            · have t1 : (s : Int) % 64 = 0 := by omega
              have hz : rszB ⟨yk, yl, s, y0, y1, y2, y3, yi⟩ vs1 s = 0 := if_pos h64
              rw [hz] at hfin
              have SI := Lib.hid (setInode_is (Q := Q) n ⟨yk, yl, s, y0, y1, y2, y3, yi⟩ _ hs HWS.out.1 h1 hn hy hzt hQ)
              unfold InoT.val at SI
              go_wp2_with fail
              refine SI.out.mono ?_
              rintro e w5 (⟨rfl, G⟩ | ⟨rfl, G⟩)
              · have HW5 := Lib.hid (G.then_ HWS.out)
                clear G
                go_wp2
                go_ret
                exact .inl ⟨rfl, by rw [hfin.out]; exact HW5.out⟩
              · have HW5 := Lib.hid (G.then_ HWS.out)
                clear G
                go_wp2
                go_ret
                exact .inr ⟨rfl, HW5.out⟩
            · have t1 : ((s : Int) % 64 != 0) = true := by simp; omega
              have hz : rszB ⟨yk, yl, s, y0, y1, y2, y3, yi⟩ vs1 s = pageB ⟨yk, yl, s, y0, y1, y2, y3, yi⟩ vs1 (s / 64) := if_neg h64
              have e1 : ((s / 64 : Nat) : Int) = (s : Int) / 64 := by omega
              have e2 : ((s % 64 : Nat) : Int) = (s : Int) % 64 := by omega
              have hyi2 : InG E.bl ⟨yk, yl, s, y0, y1, y2, y3, yi⟩ := hyi
              have BLK := blank_is (Q := Q) (s / 64) (s % 64) ⟨yk, yl, s, y0, y1, y2, y3, yi⟩ vs1 _ hs HWS.out.1 hyi2 hyv (by omega) (by omega) (fun h0 => hzd _ (by omega) (pageB_le hyi2 hyv.lt _) (.inr hz.symm)) hQ
              rw [e1, e2] at BLK
              rw [hz] at hfin
              have BLK := Lib.hid BLK
              have SI := Lib.hid (fun W D' (h : IS W E D' Z) => setInode_is (Q := Q) n ⟨yk, yl, s, y0, y1, y2, y3, yi⟩ W hs h h1 hn hy hzt hQ)
              unfold InoT.val at SI BLK
              generalize pageB ⟨yk, yl, s, y0, y1, y2, y3, yi⟩ vs1 (s / 64) = pb at *
              clear hz hzd e1 e2
              go_wp2_with fail
              refine BLK.out.mono ?_
              rintro e w5 ⟨c, rfl, hc⟩
              rcases hc with ⟨rfl, G⟩ | ⟨rfl, G⟩
              · have hX5 : SBox w5 w1.heap.size 43 _ := (G.2.block _ HXS.out.lt (by omega)).trans HXS.out
                simp only [List.setIfInBounds_toArray, List.set_cons_zero, List.set_cons_succ] at hX5
                have HW5 := Lib.hid (G.then_ HWS.out)
                clear G X0 X1 X2 X3 X4 X5 X6 X7 Xl F0 F1 F2 F3 F4 F5 F6 F7
                have X0 := hX5.cell 0
                have X1 := hX5.cell 1
                have X2 := hX5.cell 2
                have X3 := hX5.cell 3
                have X4 := hX5.cell 4
                have X5 := hX5.cell 5
                have X6 := hX5.cell 6
                have X7 := hX5.cell 7
                simp only [List.getElem?_toArray, List.getElem?_cons_zero, List.getElem?_cons_succ] at X0 X1 X2 X3 X4 X5 X6 X7
                have Xl := hX5.lt
                clear hX5
                go_wp2_with fail
                refine (SI.out _ _ HW5.out.1).mono ?_
                rintro e w6 (⟨rfl, G⟩ | ⟨rfl, G⟩)
                · have HW6 := Lib.hid (G.then_ HW5.out)
                  clear G
                  go_wp2
                  go_ret
                  exact .inl ⟨rfl, by rw [hfin.out]; exact HW6.out⟩
                · have HW6 := Lib.hid (G.then_ HW5.out)
                  clear G
                  go_wp2
                  go_ret
                  exact .inr ⟨rfl, HW6.out⟩
              · have HW5 := Lib.hid (G.then_ HWS.out)
                clear G
                go_wp2
                go_ret
                exact .inr ⟨rfl, HW5.out⟩
      · have HF := Lib.hid hF
        clear hF hXc
        go_wp2
        go_ret
        exact .inr ⟨rfl, HF.out⟩
end
end Go.Proofs.YtpnfkilfgdnogaaGreatDoor.Img
end
section
namespace Go.Proofs.YtpnfkilfgdnogaaGreatDoor.Img
set_option linter.unusedVariables false
set_option linter.unusedSimpArgs false
open Go.RowKit Go.Shelf Go.Maps Oct Dev Jou Tx Geo Ino Bm
set_option maxRecDepth 100000 in
theorem small_any (w : World) : Calls Tryz.prog 42 #[] w fun e w' => e = .returned (.agg #[.int .i64 8, .int .i64 16, .int .i64 40]) ∧ Below w.heap.size w w' := by
  go_enter Tryz.func42, Tryz.ntmps42
  go_wp2
  have h9 := SBox.new w 23 #[.int .i64 8, .int .i64 16, .int .i64 40]
  have k0 := h9.cell 0
  have k1 := h9.cell 1
  have k2 := h9.cell 2
  simp only [List.getElem?_toArray, List.getElem?_cons_zero, List.getElem?_cons_succ] at k0 k1 k2
  exact bodyPost_ret (v := .agg #[.int .i64 8, .int .i64 16, .int .i64 40]) (by simp [results, Tryz.results42, go_sem, k0, k1, k2]) rfl ⟨rfl, (Below.refl _ _).alloc (Nat.le_refl _) _⟩
set_option maxRecDepth 100000 in
theorem large_any (i bl j : Int) (w : World) : Calls Tryz.prog 9 #[geoV i bl j] w fun e w' => e = .returned (.bool (decide (60 < bl ∨ 30 < i ∨ 60 < j))) ∧ Below w.heap.size w w' := by
  have hX := SBox.new w 23 #[.int .i64 i, .int .i64 bl, .int .i64 j]
  have X0 := hX.cell 0
  have X1 := hX.cell 1
  have X2 := hX.cell 2
  simp only [List.getElem?_toArray, List.getElem?_cons_zero, List.getElem?_cons_succ] at X0 X1 X2
  have Xl := hX.lt
  clear hX
  unfold geoV
  by_cases h0 : 60 < bl
  · have t0 : decide (60 < bl) = true := by simpa using h0
    go_enter Tryz.func9, Tryz.ntmps9
    go_wp2
    go_ret
    exact ⟨by simp [h0], (Below.refl _ _).alloc (Nat.le_refl _) _⟩
  · have t0 : decide (60 < bl) = false := by simpa using h0
    by_cases h1 : 30 < i
    · have t1 : decide (30 < i) = true := by simpa using h1
      go_enter Tryz.func9, Tryz.ntmps9
      go_wp2
      go_ret
      exact ⟨by simp [h0, h1], (Below.refl _ _).alloc (Nat.le_refl _) _⟩
    · have t1 : decide (30 < i) = false := by simpa using h1
      go_enter Tryz.func9, Tryz.ntmps9
      go_wp2
      go_ret
      exact ⟨by simp [h0, h1], (Below.refl _ _).alloc (Nat.le_refl _) _⟩
theorem SlIs.of_own {W : World} {base : Nat} {v : Value} {l : List Nat} (h : OwnL base l v W) : SlIs W l v := by
  rcases h.2 with ⟨rfl, h0⟩ | ⟨g, cap, cur, rfl, _, hg, hc, _, hz, ht⟩
  · exact .inl ⟨List.eq_nil_of_length_eq_zero h0, rfl⟩
  · refine .inr ⟨g, cap, rfl, cur, hg, fun i hi => ?_⟩
    have h1 : (cur.toList.take (l.length * 1))[i]? = (l.map u16V)[i]? := by rw [ht]
    rw [List.getElem?_take, if_pos (by omega), List.getElem?_map, List.getElem?_eq_getElem hi] at h1
    simpa [u16V] using h1
section
variable {E : Im} {D : Secs} {Z : Nat → Prop} {Q : Prop}
def pgS (E : Im) (D : Secs) (x : InoT) (vs : List Nat) (k : Nat) : ByteArray := if pageB x vs k = 0 then zS else D (dq E (pageB x vs k))
def textS (E : Im) (D : Secs) (x : InoT) (vs : List Nat) : Nat → ByteArray
  | 0 => ⟨#[]⟩
  | k + 1 => textS E D x vs k ++ pgS E D x vs k
theorem pgS_size {w : World} (hs : Small E) (h : IS w E D Z) {x : InoT} {vs : List Nat} (hi : InG E.bl x) (hv : IndIs E D x.ind vs) (k : Nat) : (pgS E D x vs k).size = 64 := by
  unfold pgS
  have hz : zS.size = 64 := by unfold zS; rw [size_B, List.length_replicate]
  split
  · exact hz
  · exact h.sec (dq_lt hs h.len (by omega) (pageB_le hi hv.lt k))
theorem textS_size {w : World} (hs : Small E) (h : IS w E D Z) {x : InoT} {vs : List Nat} (hi : InG E.bl x) (hv : IndIs E D x.ind vs) : ∀ k, (textS E D x vs k).size = 64 * k
  | 0 => rfl
  | k + 1 => by rw [textS, ByteArray.size_append, textS_size hs h hi hv k, pgS_size hs h hi hv k]; omega
set_option maxRecDepth 100000 in
set_option maxHeartbeats 2000000 in
theorem text_is (n : Nat) (x : InoT) (vs : List Nat) (w : World) (hs : Small E) (h : IS w E D Z) (h1 : 1 ≤ n) (hn : n ≤ E.i) (hx : InoIs E D n x) (ho : x.Ok) (hk : x.kind = 2) (hi : InG E.bl x) (hv : IndIs E D x.ind vs) :
    Calls Tryz.prog 16 #[.pointer (some ⟨E.M, 0, none⟩), .int .u32 n] w fun e w' => e = .returned (.tuple #[.string (textS E D x vs (pagesN x.size)), .int .i64 0]) ∧ Below w.heap.size w w' := by
  have hsz := Ok.size_lt ho
  have TH := there_is n x w hs h h1 hn hx ho
  rw [if_neg (by omega)] at TH
  have TH := Lib.hid TH
  have PG := Lib.hid (fun W => pages_any x.size W (by omega))
  have PA := Lib.hid (fun k W (hk2 : k < 36) (h : IS W E D Z) => page_is n k x vs W hs h h1 hn hx ho (by omega) hi hv hk2)
  have TS := Lib.hid (fun k => textS_size hs h hi hv k)
  have PS := Lib.hid (fun k => pgS_size hs h hi hv k)
  have SU := Lib.hid (fun k => show textS E D x vs (k + 1) = textS E D x vs k ++ pgS E D x vs k from rfl)
  have HPG : Hid (∀ k, (if pageB x vs k = 0 then zS else D (dq E (pageB x vs k))) = pgS E D x vs k) := Lib.hid (fun k => rfl)
  have T0 : textS E D x vs 0 = ⟨#[]⟩ := rfl
  have H := Lib.hid h
  have hpg : pagesN x.size ≤ 36 := by unfold pagesN; omega
  clear h hx ho hi hv
  generalize textS E D x vs = tS at *
  generalize pgS E D x vs = pS at *
  obtain ⟨kind, links, size, d0, d1, d2, d3, ind⟩ := x
  simp only at hk hpg PG
  subst hk
  generalize pagesN size = pg at *
  unfold InoT.val at *
  go_enter Tryz.func16, Tryz.ntmps16
  go_wp2_with fail
  refine TH.out.mono ?_
  rintro e w1 ⟨rfl, b1⟩
  have hX := SBox.new w1 43 #[.int .u8 2, .int .u16 links, .int .u32 size, .int .u16 d0, .int .u16 d1, .int .u16 d2, .int .u16 d3, .int .u16 ind]
  have hB1 := b1.alloc b1.size (.cells #[.int .u8 2, .int .u16 links, .int .u32 size, .int .u16 d0, .int .u16 d1, .int .u16 d2, .int .u16 d3, .int .u16 ind] 43)
  have B1 := Lib.hid hB1
  have X0 := hX.cell 0
  have X1 := hX.cell 1
  have X2 := hX.cell 2
  have X3 := hX.cell 3
  have X4 := hX.cell 4
  have X5 := hX.cell 5
  have X6 := hX.cell 6
  have X7 := hX.cell 7
  simp only [List.getElem?_toArray, List.getElem?_cons_zero, List.getElem?_cons_succ] at X0 X1 X2 X3 X4 X5 X6 X7
  have Xl := hX.lt
  clear hX hB1 b1
  go_wp2_with fail
  refine (PG.out _).mono ?_
  rintro e w9 ⟨rfl, rfl⟩
  go_wp2_with fail
  go_loopw [4, 27] (fun s c wr => ∃ k : Nat, k ≤ pg ∧ c = .int .i64 k ∧ s = .string (tS k) ∧ Below w.heap.size w wr) (fun _ c _ => pg - (intOf c).toNat)
  case atStart => exact ⟨0, Nat.zero_le _, rfl, by rw [T0], B1.out⟩
  case round =>
    obtain ⟨k, hk, rfl, rfl, hB⟩ := hrel
    by_cases hlt : k < pg
    · have q0 : (k : Int) < pg := by omega
      have PK := PA.out k wr (by omega) (H.out.later hB)
      rw [HPG.out k] at PK
      have PK := Lib.hid PK
      have hz : (tS k).size + (pS k).size ≤ 100000 := by rw [TS.out, PS.out]; omega
      have SK := Lib.hid (SU.out k)
      have HB := Lib.hid hB
      clear hB
      generalize tS k = s0 at *
      generalize pS k = p0 at *
      go_wp2_with fail
      refine PK.out.mono ?_
      rintro e w2 ⟨rfl, b2⟩
      go_wp2_with fail
      exact ⟨⟨k + 1, by omega, rfl, by rw [SK.out], HB.out.trans (b2.mono HB.out.size)⟩, by simp [intOf]; omega⟩
    · obtain rfl : k = pg := by omega
      have HB := Lib.hid hB
      clear hB
      go_wp2
      go_ret2
      exact ⟨rfl, HB.out⟩
end
end Go.Proofs.YtpnfkilfgdnogaaGreatDoor.Img
end
section
namespace Go.Proofs.YtpnfkilfgdnogaaGreatDoor.Img
set_option linter.unusedVariables false
set_option linter.unusedSimpArgs false
open Go.RowKit Go.Shelf Go.Maps Oct Dev Jou Tx Geo Ino Bm
end Go.Proofs.YtpnfkilfgdnogaaGreatDoor.Img
end
