/- Layer 9 (bmap): Cut, walked. -/
import Derived.Test.YtpnfkilfgdnogaaGreatDoorBmapP
import Derived.BigRegionIn
namespace Go.Proofs.YtpnfkilfgdnogaaGreatDoor.Bm
set_option linter.unusedVariables false
set_option linter.unusedSimpArgs false
open Go.RowKit Go.Shelf Go.Maps Oct Dev Jou Tx Geo Ino Img
attribute [local go_sem] Oper.semAt_some
section
variable {E : Im} {D : Secs} {Z : Nat → Prop} {Q : Prop}
/-- What Cut leaves on the disk, what it takes, and which inode. -/
def cutEnd (x : InoT) (p : Nat) : InoT := if x.ind ≠ 0 ∧ p ≤ 4 then { cutDir x p with ind := 0 } else cutDir x p
def cutFree (x : InoT) (vs : List Nat) (p : Nat) : List Nat := freeD x p ++ freeV vs p ++ if x.ind ≠ 0 ∧ p ≤ 4 then [x.ind] else []
def cutSec (E : Im) (D : Secs) (x : InoT) (vs : List Nat) (p : Nat) : Secs := if x.ind ≠ 0 ∧ p ≤ 4 then D else if freeV vs p = [] then D else upd D (dq E x.ind) (tellS (cutVs vs p))
/-- Nothing is written. -/
def CutSame (x : InoT) (vs : List Nat) (p : Nat) : Prop := (x.ind ≠ 0 ∧ p ≤ 4) ∨ freeV vs p = []
/-- What a slice of its own reads as. -/
def OwnL (B : Nat) (l : List Nat) (v : Value) (W : World) : Prop := W.ownsRow B 39 1 v l.length (l.map u16V)
def CutPost (E : Im) (D : Secs) (Z : Nat → Prop) (Q : Prop) (x : InoT) (vs : List Nat) (p : Nat) (w : World) (e : Ending) (w' : World) : Prop :=
  (∃ v, e = .returned (.tuple #[(cutEnd x p).val, v, .int .i64 0]) ∧ OwnL w.heap.size (cutFree x vs p) v w' ∧ Wr E (cutSec E D x vs p) Z w w' ∧ (CutSame x vs p → Below w.heap.size w w')) ∨ (e = .returned (.tuple #[noIno.val, .slice none 0 0, .int .i64 4]) ∧ Fu E Q w w')
set_option maxRecDepth 100000 in
set_option maxHeartbeats 8000000 in
theorem cut_is (x : InoT) (vs : List Nat) (p : Nat) (w : World) (hs : Small E) (h : IS w E D Z) (hi : InG E.bl x) (hv : IndIs E D x.ind vs) (hp : p ≤ 36) (hz : x.ind ≠ 0 → 4 < p → Z (dq E x.ind)) (hQ : 4 < p → FullE E Z → Q) :
    CallsIn Fence.wide 4 Tryz.prog 65 #[.pointer (some ⟨E.T.p, 0, none⟩), geoV E.i E.bl E.j, x.val, .int .i64 p] w (CutPost E D Z Q x vs p w) := by
  obtain ⟨i0, hi0, hz0, hz1, hz2⟩ := info_parts info_u16
  have hbl := hs.hb
  have MA := Lib.hid (fun W => may_ok E.i E.bl E.j 0 E.T.p x true W hs.may hi (by omega))
  have TD := Lib.hid (fun W (h : IS W E D Z) => told_is x vs W hs h hi.2.2.2.2 hv)
  have TL := Lib.hid (fun W sl (h : IS W E D Z) (h0 : x.ind ≠ 0) (h5 : 4 < p) (hsl : SlIs W (cutVs vs p) sl) => tell_is (cutDir x p) (cutVs vs p) sl W hs h (show 1 ≤ x.ind by omega) hi.2.2.2.2 (by rw [cutVs_len, hv.len]; omega) (fun u hu => by
    obtain ⟨k, hk, rfl⟩ := List.getElem_of_mem hu
    rw [cutVs_len] at hk
    rw [cutVs_get hk]
    split
    · omega
    · have := hv.lt _ (List.getElem_mem hk); omega) hsl (hz h0 h5) (hQ h5))
  have hvl := hv.len
  have hno := Lib.hid hv.no
  have hcd := Lib.hid (cutDir_cells x p)
  have hni : ∀ u ∈ dirL x, u < 65536 := fun u hu => by
    obtain ⟨h0, h1, h2, h3, h4⟩ := hi
    simp only [dirL, List.mem_cons, List.not_mem_nil, or_false] at hu
    rcases hu with rfl | rfl | rfl | rfl <;> omega
  unfold CutPost cutEnd cutFree cutSec
  have H := Lib.hid h
  obtain ⟨kind, links, size, d0, d1, d2, d3, ind⟩ := x
  unfold geoV InoT.val InoT.cells at *
  simp only at hz hcd TL
  have HB0 := Lib.hid ((((( Below.refl _ w).alloc (Nat.le_refl _) (.cells #[.int .i64 E.i, .int .i64 E.bl, .int .i64 E.j] 23)).alloc (by simp) (.cells #[.int .u8 kind, .int .u16 links, .int .u32 size, .int .u16 d0, .int .u16 d1, .int .u16 d2, .int .u16 d3, .int .u16 ind] 43)).alloc (by simp; omega) (.cells #[.int .u8 0, .int .u16 0, .int .u32 0, .int .u16 0, .int .u16 0, .int .u16 0, .int .u16 0, .int .u16 0] 43)).alloc (by simp; omega) (.cells #[.slice none 0 0] 87))
  have hG := (((SBox.new w 23 #[.int .i64 E.i, .int .i64 E.bl, .int .i64 E.j]).alloc (.cells #[.int .u8 kind, .int .u16 links, .int .u32 size, .int .u16 d0, .int .u16 d1, .int .u16 d2, .int .u16 d3, .int .u16 ind] 43)).alloc (.cells #[.int .u8 0, .int .u16 0, .int .u32 0, .int .u16 0, .int .u16 0, .int .u16 0, .int .u16 0, .int .u16 0] 43)).alloc (.cells #[.slice none 0 0] 87)
  have hX := ((SBox.new (w.alloc (.cells #[.int .i64 E.i, .int .i64 E.bl, .int .i64 E.j] 23)) 43 #[.int .u8 kind, .int .u16 links, .int .u32 size, .int .u16 d0, .int .u16 d1, .int .u16 d2, .int .u16 d3, .int .u16 ind]).alloc (.cells #[.int .u8 0, .int .u16 0, .int .u32 0, .int .u16 0, .int .u16 0, .int .u16 0, .int .u16 0, .int .u16 0] 43)).alloc (.cells #[.slice none 0 0] 87)
  have hY := (SBox.new ((w.alloc (.cells #[.int .i64 E.i, .int .i64 E.bl, .int .i64 E.j] 23)).alloc (.cells #[.int .u8 kind, .int .u16 links, .int .u32 size, .int .u16 d0, .int .u16 d1, .int .u16 d2, .int .u16 d3, .int .u16 ind] 43)) 43 #[.int .u8 0, .int .u16 0, .int .u32 0, .int .u16 0, .int .u16 0, .int .u16 0, .int .u16 0, .int .u16 0]).alloc (.cells #[.slice none 0 0] 87)
  have hF := SBox.new (((w.alloc (.cells #[.int .i64 E.i, .int .i64 E.bl, .int .i64 E.j] 23)).alloc (.cells #[.int .u8 kind, .int .u16 links, .int .u32 size, .int .u16 d0, .int .u16 d1, .int .u16 d2, .int .u16 d3, .int .u16 ind] 43)).alloc (.cells #[.int .u8 0, .int .u16 0, .int .u32 0, .int .u16 0, .int .u16 0, .int .u16 0, .int .u16 0, .int .u16 0] 43)) 87 #[.slice none 0 0]
  simp only [World.size_alloc] at hX hY hF
  have HG := Lib.hid hG
  have HX := Lib.hid hX
  have HY := Lib.hid hY
  have HF := Lib.hid hF
  clear hG hX hY hF h hv hi
  have q0 : (0 : Int) ≤ p := by omega
  have q1 : (p : Int) ≤ 36 := by omega
  refine callsIn_of_wp_marks Tryz.func65 rfl trivial ?_ rfl
  simp only [Tryz.ntmps65, List.size_toArray, List.length_cons, List.length_nil, Nat.reduceAdd, Nat.reduceSub, Array.replicate_succ, Array.replicate_zero, List.push_toArray, List.append_toArray, List.nil_append, List.cons_append]
  gi_wp2_with fail
  refine ⟨trivial, ?_⟩
  refine (callsIn_wide.2 (MA.out _)).mono ?_
  rintro e w1 ⟨rfl, b1⟩
  have hB1 := HB0.out.trans (b1.mono HB0.out.size)
  have hG := HG.out.later b1
  have hX := HX.out.later b1
  have HG1 := Lib.hid hG
  have HX1 := Lib.hid hX
  have HY1 := Lib.hid (HY.out.later b1)
  have HF1 := Lib.hid (HF.out.later b1)
  have H1 := Lib.hid (H.out.later hB1)
  have B1 := Lib.hid hB1
  have G0 := hG.cell 0
  have G1 := hG.cell 1
  have G2 := hG.cell 2
  simp only [List.getElem?_toArray, List.getElem?_cons_zero, List.getElem?_cons_succ] at G0 G1 G2
  have Gl := hG.lt
  have X0 := hX.cell 0
  have X1 := hX.cell 1
  have X2 := hX.cell 2
  have X3 := hX.cell 3
  have X4 := hX.cell 4
  have X5 := hX.cell 5
  have X6 := hX.cell 6
  have X7 := hX.cell 7
  simp only [List.getElem?_toArray, List.getElem?_cons_zero, List.getElem?_cons_succ] at X0 X1 X2 X3 X4 X5 X6 X7
  have Xl := hX.lt
  clear hG hX hB1 b1 HG HX HY HF HB0 MA
  gi_wp2_with fail
  refine ⟨trivial, ?_⟩
  refine (callsIn_wide.2 (TD.out _ H1.out)).mono ?_
  rintro e w2 ⟨g, cap, rfl, hg, hc, hR, b2⟩
  obtain ⟨cs2, hR2, hR2c⟩ := hR
  have hB2 := B1.out.trans (b2.mono B1.out.size)
  have hX := HX1.out.later b2
  have HG2 := Lib.hid (HG1.out.later b2)
  have HX2 := Lib.hid hX
  have HY2 := Lib.hid (HY1.out.later b2)
  have HF2 := Lib.hid (HF1.out.later b2)
  have H2 := Lib.hid (H1.out.later b2)
  have B2 := Lib.hid hB2
  have Fl := HF1.out.lt
  have hR2l := hR2.lt
  clear hX hB2 b2 HG1 HX1 HY1 HF1 TD H1 G0 G1 G2 Gl X0 X1 X2 X3 X4 X5 X6 X7 Xl
  gi_wp2_with fail
  refine ⟨trivial, ?_⟩
  refine (callsIn_wide.2 (taken_any ⟨w.heap.size + 1, 3, none⟩ 4 4 p _)).mono ?_
  rintro e w3 ⟨rfl, rfl⟩
  have hB3 := (B2.out.alloc B2.out.size (.cells #[.slice (some ⟨w.heap.size + 1, 3, none⟩) 4 4] 87)).alloc (by have := B2.out.size; simp; omega) (.cells #[.int .i64 p] 3)
  have h3 := (((Below.refl _ w2).alloc (Nat.le_refl _) (.cells #[.slice (some ⟨w.heap.size + 1, 3, none⟩) 4 4] 87)).alloc (by simp) (.cells #[.int .i64 p] 3))
  have hlB := (SBox.new w2 87 #[.slice (some ⟨w.heap.size + 1, 3, none⟩) 4 4]).alloc (.cells #[.int .i64 p] 3)
  have hfB := SBox.new (w2.alloc (.cells #[.slice (some ⟨w.heap.size + 1, 3, none⟩) 4 4] 87)) 3 #[.int .i64 p]
  rw [World.size_alloc] at hfB
  have hsz3 : ((w2.alloc (.cells #[.slice (some ⟨w.heap.size + 1, 3, none⟩) 4 4] 87)).alloc (.cells #[.int .i64 p] 3)).heap.size = w2.heap.size + 2 := by simp
  have HG3 := Lib.hid (HG2.out.later h3)
  have HX3 := Lib.hid (HX2.out.later h3)
  have HY3 := Lib.hid (HY2.out.later h3)
  have HF3 := Lib.hid (HF2.out.later h3)
  have H3 := Lib.hid (H2.out.later h3)
  have hR3 := Lib.hid (hR2.later h3)
  have hB3 := Lib.hid hB3
  have Fl2 := HF2.out.lt
  clear h3 HG2 HX2 HY2 HF2 H2
  gi_wp2_with fail
  generalize (w2.alloc (.cells #[.slice (some ⟨w.heap.size + 1, 3, none⟩) 4 4] 87)).alloc (.cells #[.int .i64 p] 3) = w3 at *
  refine wpIn_rangeFunc_rel2 rfl (by omega) (gf := 158) (lb := #[.pointer (some ⟨w2.heap.size + 1, 0, none⟩), .pointer (some ⟨w2.heap.size, 0, none⟩)]) rfl trivial (enters_of Tryz.func158 (by kernel_rfl) rfl)
    (taken_seq (4 - 1) (by omega) ⟨w.heap.size + 1, 3, 43, #[.int .u8 kind, .int .u16 links, .int .u32 size, .int .u16 d0, .int .u16 d1, .int .u16 d2, .int .u16 d3, .int .u16 ind], [d0, d1, d2, d3], p⟩ (fun k hk => by
      match k, hk with
      | 0, _ | 1, _ | 2, _ | 3, _ => rfl) 4 p (by simp) (by omega) (by simp) w3 (w2.heap.size + 1) w2.heap.size hfB hlB HX3.out (by have := B2.out.size; simp; omega) (by have := B2.out.size; simp; omega))
    (fun pre x W l o o' hl ho hc hN => ⟨hN.1, hN.2.1, hN.2.2.1, hN.2.2.2.1, sbox_put ho hc hN.2.2.2.2⟩)
    (fun xs W l o o' hl ho hc hN => ⟨hN.1, sbox_put ho hc hN.2⟩)
    (fun X Y hT => tch_keeps hT (by have := B2.out.size; simp; omega))
    KpS.trans
    (fun W l o o' _ hl ho _ => kpS_put W l o o' hl ho)
    (Below.refl _ _) (fun _ => rfl)
    (fun pre W => HeldF (w.heap.size + 1 + 1 + 1) (w2.heap.size + 2) (pre.map fun k => [d0, d1, d2, d3].getD k 0) W ∧ SBox W w.heap.size 23 #[.int .i64 E.i, .int .i64 E.bl, .int .i64 E.j] ∧ SBox W (w.heap.size + 1 + 1) 43 #[.int .u8 0, .int .u16 0, .int .u32 0, .int .u16 0, .int .u16 0, .int .u16 0, .int .u16 0, .int .u16 0] ∧ SBox W g 39 cs2 ∧ w2.heap.size + 2 ≤ W.heap.size ∧ Below w.heap.size w W)
    (fun _ _ _ => False)
    ?own (fun _ _ _ _ _ hs _ _ => hs) ?rel (fun _ _ _ _ h _ => h) ?start ?a1 ?assign ?body ?done ?stop
  case assign =>
    intro l x W K hK
    have HK := Lib.hid hK
    clear hK
    dsimp only [encT]
    gi_wp2
    exact HK.out
  case own =>
    rintro pre W W' row ⟨h1, h2, h3, h4, h5, h6⟩ hg hr
    have hB2 := B2.out.size
    exact ⟨h1.own hg hr, sbox_own2 h2 hg hr, sbox_own2 h3 hg hr, sbox_own2 h4 hg hr, Nat.le_trans h5 hg.size, h6.grown hg h6.size (fun k e => by have := (hr k e).1; omega)⟩
  case rel =>
    rintro pre X Y ⟨h1, h2, h3, h4, h5, h6⟩ hT
    have hB2 := B2.out.size
    simp only at hT
    exact ⟨h1.tch hT (by omega) (by omega), (hT.block _ h2.lt (by omega)).trans h2, (hT.block _ h3.lt (by omega)).trans h3, (hT.block _ h4.lt (by omega)).trans h4, Nat.le_trans h5 hT.size, hT.below (fun c hc => by omega) h6 h6.size⟩
  case start => exact ⟨⟨_, HF3.out, World.ownsRow_nil _ _ _ _⟩, HG3.out, HY3.out, hR3.out, by omega, hB3.out⟩
  case stop =>
    rintro D c pre W _ h _
    exact h.elim
  case body =>
    rintro l pre k W ⟨⟨v, hv, hrow⟩, hGW, hYW, hRW, hzW, hBW⟩ ⟨hlt, hge, hnz, hpre, hXW⟩
    have hpl : pre.length ≤ 36 := by
      rw [hpre]
      have := nzs_len [d0, d1, d2, d3] p (k - p)
      simp only [List.length_cons, List.length_nil] at hlt
      simp only at this ⊢
      omega
    have hB2 := B2.out.size
    have cv := hv.cell 0
    have fv := hv.free 0
    have vl := hv.lt
    simp only [List.getElem?_toArray, List.getElem?_cons_zero] at cv
    have hfs : ∀ xs : List Nat, (xs.map fun k => [d0, d1, d2, d3].getD k 0) ++ [[d0, d1, d2, d3][k]?.getD 0] = (xs ++ [k]).map fun k => [d0, d1, d2, d3].getD k 0 := fun xs => by rw [List.map_append]; rfl
    have hfs := Lib.hid (hfs pre)
    have hpm : (pre.map fun k => [d0, d1, d2, d3].getD k 0).length ≤ 36 := by rw [List.length_map]; exact hpl
    clear hpre hXW hnz
    generalize [d0, d1, d2, d3][k]?.getD 0 = b at *
    generalize (pre.map fun k => [d0, d1, d2, d3].getD k 0) = fr at *
    gi_wp2_with (gi_at_builtin; refine wpListIn_append_own _ rfl _ _ 87 rfl (w2.heap.size + 2) 39 i0 (.int .u16 0) 1 2 Tryz.underlying87 hi0 hz0 hz1 hz2 rfl (by decide) _ _ _ rfl (hrow.alloc _) ⟨W.heap.size, 0, none⟩ 1 1 [.int .u16 b] rfl rfl (World.news_of_block (SBox.new _ 39 #[.int .u16 b])) (by intro u hu; simp at hu; subst hu; rfl) (by unfold maxLen; omega) (by omega) (by simp; omega) ?_)
    intro v' W2 hown2 hgrow2 _
    obtain ⟨g', cap', rfl⟩ : ∃ g' cap', v' = .slice (some ⟨g', 0, none⟩) (fr.length + 1) cap' := by
      rcases hown2.2 with ⟨_, e0⟩ | ⟨g', cap', cur', rfl, _⟩
      · omega
      · exact ⟨_, _, rfl⟩
    obtain ⟨hv2, AF⟩ := app_held hv hrow (by omega) hgrow2 hown2
    have hK3 := AF.kp (b := w.heap.size + 1) (fB := w2.heap.size + 1) (lB := w2.heap.size) (t := 43) hrow (by omega) (by omega) (by omega) (by omega)
    have hG3 := AF.keep hrow hGW (by omega) (.inl (by omega))
    have hY3 := AF.keep hrow hYW (by omega) (.inl (by omega))
    have hR4 := AF.keep hrow hRW (by omega) (.inl (by omega))
    have hB4 := AF.tch.below (n := w.heap.size) (fun c hc => by
      rcases hc with rfl | hc
      · omega
      · have := (own_cells hrow hc.symm).1; omega) hBW hBW.size
    have P := Lib.hid (And.intro (AF.keeps (w2.heap.size + 2)) (And.intro hK3 (And.intro AF.held (And.intro hG3 (And.intro hY3 (And.intro hR4 (And.intro (Nat.le_trans hzW AF.tch.size) hB4)))))))
    have c3 := hv2.cell 0
    have f3 := hv2.free 0
    have l3 := hv2.lt
    simp only [List.getElem?_toArray, List.getElem?_cons_zero] at c3
    rw [hfs.out] at P
    clear hv hrow hGW hYW hRW hzW hBW hv2 hgrow2 hown2 AF hK3 hG3 hY3 hR4 hB4 cv fv vl
    gi_wp2
    exact P.out
  case done =>
    rintro DD ys W hD ⟨hys, hXW⟩ ⟨⟨v, hv, hrow⟩, hGW, hYW, hRW, hzW, hBW⟩ hK
    simp only at hys hXW
    have hx4 : ([d0, d1, d2, d3] : List Nat).length - p = 4 - p := rfl
    rw [hx4] at hys hXW
    have hXW2 : SBox W (w.heap.size + 1) 43 _ := hXW
    rw [hcd.out] at hXW2
    obtain ⟨ao, acap, hva⟩ : ∃ ao acap, v = .slice ao (ys.map fun k => [d0, d1, d2, d3].getD k 0).length acap := by
      rcases hrow.2 with ⟨rfl, e0⟩ | ⟨g, cap, cur, rfl, _⟩
      · exact ⟨none, 0, by rw [e0]⟩
      · exact ⟨_, _, rfl⟩
    have hfd : (ys.map fun k => [d0, d1, d2, d3].getD k 0) = freeD ⟨kind, links, size, d0, d1, d2, d3, ind⟩ p := by
      rw [hys]
      rfl
    have hfl : (freeD ⟨kind, links, size, d0, d1, d2, d3, ind⟩ p).length ≤ 4 := by
      unfold freeD
      rw [List.length_map]
      exact Nat.le_trans (nzs_len _ _ _) (by omega)
    rw [hfd] at hrow hva
    obtain ⟨fr1, hfr1⟩ : ∃ l, freeD ⟨kind, links, size, d0, d1, d2, d3, ind⟩ p = l := ⟨_, rfl⟩
    rw [hfr1] at hrow hva hfl
    clear hXW hys hx4 hfd
    subst hva
    have cv := hv.cell 0
    have fv := hv.free 0
    have vl := hv.lt
    simp only [List.getElem?_toArray, List.getElem?_cons_zero] at cv
    have hln1 : fr1.length ≤ 9223372036854775807 := by omega
    have hp4 : (p : Int) - 4 ≤ 1000 := by omega
    have HV := Lib.hid hv
    have HRW := Lib.hid hrow
    have HGW := Lib.hid hGW
    have HYW := Lib.hid hYW
    have HRc := Lib.hid hRW
    have HXW := Lib.hid hXW2
    have HBW := Lib.hid hBW
    clear hv hrow hGW hYW hRW hXW2 hBW
    gi_wp2_with fail
    refine ⟨trivial, ?_⟩
    refine (callsIn_wide.2 (taken_any ⟨g, 0, none⟩ 32 cap ((p : Int) - 4) _)).mono ?_
    rintro e w5 ⟨rfl, rfl⟩
    have hBW2 := HBW.out.size
    have hDl := (Array.getElem?_eq_some_iff.1 hK).1
    have hB5 := Lib.hid ((HBW.out.alloc HBW.out.size (.cells #[.slice (some ⟨g, 0, none⟩) 32 cap] 87)).alloc (by simp; omega) (.cells #[.int .i64 ((p : Int) - 4)] 3))
    have h5 := (((Below.refl _ W).alloc (Nat.le_refl _) (.cells #[.slice (some ⟨g, 0, none⟩) 32 cap] 87)).alloc (by simp) (.cells #[.int .i64 ((p : Int) - 4)] 3))
    have hlB2 := (SBox.new W 87 #[.slice (some ⟨g, 0, none⟩) 32 cap]).alloc (.cells #[.int .i64 ((p : Int) - 4)] 3)
    have hfB2 := SBox.new (W.alloc (.cells #[.slice (some ⟨g, 0, none⟩) 32 cap] 87)) 3 #[.int .i64 ((p : Int) - 4)]
    rw [World.size_alloc] at hfB2
    have hsz5 : ((W.alloc (.cells #[.slice (some ⟨g, 0, none⟩) 32 cap] 87)).alloc (.cells #[.int .i64 ((p : Int) - 4)] 3)).heap.size = W.heap.size + 2 := by simp
    have HG5 := Lib.hid (HGW.out.later h5)
    have HX5 := Lib.hid (HXW.out.later h5)
    have HY5 := Lib.hid (HYW.out.later h5)
    have HV5 := Lib.hid (HV.out.later h5)
    have hR5 := Lib.hid (HRc.out.later h5)
    have HRW5 := Lib.hid ((HRW.out.alloc (.cells #[.slice (some ⟨g, 0, none⟩) 32 cap] 87)).alloc (.cells #[.int .i64 ((p : Int) - 4)] 3))
    have HK5 := Lib.hid ((h5.block DD hDl).trans hK)
    have hgW : g < W.heap.size := by omega
    clear h5 HGW HXW HYW HV HRc HRW HBW cv fv vl
    gi_wp2_with fail
    generalize (W.alloc (.cells #[.slice (some ⟨g, 0, none⟩) 32 cap] 87)).alloc (.cells #[.int .i64 ((p : Int) - 4)] 3) = w5 at *
    have hlB5 : SBox w5 W.heap.size 87 #[.slice (some ⟨g, 0, none⟩) vs.length cap] := by rw [hvl]; exact hlB2
    refine wpIn_rangeFunc_rel2 rfl (by omega) (gf := 158) (lb := #[.pointer (some ⟨W.heap.size + 1, 0, none⟩), .pointer (some ⟨W.heap.size, 0, none⟩)]) rfl trivial (enters_of Tryz.func158 (by kernel_rfl) rfl)
      (taken_seq (4 - 1) (by omega) ⟨g, 0, 39, cs2, vs, p - 4⟩ (fun k hk => by show cs2[0 + k]? = _; rw [Nat.zero_add]; exact hR2c k hk) cap ((p : Int) - 4) (by simp only; omega) (by omega) (by simp only; omega) w5 (W.heap.size + 1) W.heap.size hfB2 hlB5 hR5.out (by simp only; omega) (by simp only; omega))
      (fun pre x W l o o' hl ho hc hN => ⟨hN.1, hN.2.1, hN.2.2.1, hN.2.2.2.1, sbox_put ho hc hN.2.2.2.2⟩)
      (fun xs W l o o' hl ho hc hN => ⟨hN.1, sbox_put ho hc hN.2⟩)
      (fun X Y hT => tch_keeps hT (by simp only; omega))
      KpS.trans
      (fun W l o o' _ hl ho _ => kpS_put W l o o' hl ho)
      (Below.refl _ _) (fun _ => rfl)
      (fun pre W => HeldF (w.heap.size + 1 + 1 + 1) (w2.heap.size + 2) (fr1 ++ pre.map fun k => vs.getD k 0) W ∧ SBox W w.heap.size 23 #[.int .i64 E.i, .int .i64 E.bl, .int .i64 E.j] ∧ SBox W (w.heap.size + 1 + 1) 43 #[.int .u8 0, .int .u16 0, .int .u32 0, .int .u16 0, .int .u16 0, .int .u16 0, .int .u16 0, .int .u16 0] ∧ SBox W (w.heap.size + 1) 43 (cutDir ⟨kind, links, size, d0, d1, d2, d3, ind⟩ p).cells ∧ w2.heap.size + 2 ≤ W.heap.size ∧ Below w.heap.size w W ∧ W.heap[DD]? = some (.deferred (some [])))
      (fun _ _ _ => False)
      ?own2 (fun _ _ _ _ _ hs _ _ => hs) ?rel2 (fun _ _ _ _ h _ => h) ?start2 ?a2 ?assign2 ?body2 ?done2 ?stop2
    case assign2 =>
      intro l x W K hK
      have HK := Lib.hid hK
      clear hK
      dsimp only [encT]
      gi_wp2
      exact HK.out
    case own2 =>
      rintro pre X Y row ⟨h1, h2, h3, h4, h5, h6, h7⟩ hg hr
      exact ⟨h1.own hg hr, sbox_own2 h2 hg hr, sbox_own2 h3 hg hr, sbox_own2 h4 hg hr, Nat.le_trans h5 hg.size, h6.grown hg h6.size (fun k e => by have := (hr k e).1; omega), (hg.block DD (Array.getElem?_eq_some_iff.1 h7).1 (fun e => by have := (hr DD e.symm).1; omega)).trans h7⟩
    case rel2 =>
      rintro pre X Y ⟨h1, h2, h3, h4, h5, h6, h7⟩ hT
      simp only at hT
      exact ⟨h1.tch hT (by omega) (by omega), (hT.block _ h2.lt (by omega)).trans h2, (hT.block _ h3.lt (by omega)).trans h3, (hT.block _ h4.lt (by omega)).trans h4, Nat.le_trans h5 hT.size, hT.below (fun c hc => by omega) h6 h6.size, (hT.block DD (Array.getElem?_eq_some_iff.1 h7).1 (by omega)).trans h7⟩
    case start2 => exact ⟨⟨_, HV5.out, by rw [List.map_nil, List.append_nil]; exact HRW5.out⟩, HG5.out, HY5.out, HX5.out, by omega, hB5.out, HK5.out⟩
    case stop2 =>
      rintro D c pre W _ h _
      exact h.elim
    case body2 =>
      rintro l pre k V ⟨⟨v, hv, hrow⟩, hGV, hYV, hXV, hzV, hBV, hKV⟩ ⟨hlt, hge, hnz, hpre, hRV⟩
      have hpl : pre.length ≤ 36 := by
        rw [hpre]
        have := nzs_len vs (p - 4) (k - (p - 4))
        simp only at this hlt ⊢
        omega
      have cv := hv.cell 0
      have fv := hv.free 0
      have vl := hv.lt
      simp only [List.getElem?_toArray, List.getElem?_cons_zero] at cv
      have hfs : ∀ xs : List Nat, (fr1 ++ xs.map fun k => vs.getD k 0) ++ [vs[k]?.getD 0] = fr1 ++ (xs ++ [k]).map fun k => vs.getD k 0 := fun xs => by rw [List.map_append, List.append_assoc]; rfl
      have hfs := Lib.hid (hfs pre)
      have hpm : (fr1 ++ pre.map fun k => vs.getD k 0).length ≤ 40 := by rw [List.length_append, List.length_map]; omega
      clear hpre hRV hnz
      generalize vs[k]?.getD 0 = b at *
      generalize (fr1 ++ pre.map fun k => vs.getD k 0) = fr at *
      gi_wp2_with (gi_at_builtin; refine wpListIn_append_own _ rfl _ _ 87 rfl (w2.heap.size + 2) 39 i0 (.int .u16 0) 1 2 Tryz.underlying87 hi0 hz0 hz1 hz2 rfl (by decide) _ _ _ rfl (hrow.alloc _) ⟨V.heap.size, 0, none⟩ 1 1 [.int .u16 b] rfl rfl (World.news_of_block (SBox.new _ 39 #[.int .u16 b])) (by intro u hu; simp at hu; subst hu; rfl) (by unfold maxLen; omega) (by omega) (by simp; omega) ?_)
      intro v' V2 hown2 hgrow2 _
      obtain ⟨g', cap', rfl⟩ : ∃ g' cap', v' = .slice (some ⟨g', 0, none⟩) (fr.length + 1) cap' := by
        rcases hown2.2 with ⟨_, e0⟩ | ⟨g', cap', cur', rfl, _⟩
        · omega
        · exact ⟨_, _, rfl⟩
      obtain ⟨hv2, AF⟩ := app_held hv hrow (by omega) hgrow2 hown2
      have hK3 := AF.kp (b := g) (fB := W.heap.size + 1) (lB := W.heap.size) (t := 39) hrow (by omega) (by omega) (by omega) (by omega)
      have hG3 := AF.keep hrow hGV (by omega) (.inl (by omega))
      have hY3 := AF.keep hrow hYV (by omega) (.inl (by omega))
      have hX3 := AF.keep hrow hXV (by omega) (.inl (by omega))
      have hB4 := AF.tch.below (n := w.heap.size) (fun c hc => by
        rcases hc with rfl | hc
        · omega
        · have := (own_cells hrow hc.symm).1; omega) hBV hBV.size
      have P := Lib.hid (And.intro (AF.keeps (W.heap.size + 2)) (And.intro hK3 (And.intro AF.held (And.intro hG3 (And.intro hY3 (And.intro hX3 (And.intro (Nat.le_trans hzV AF.tch.size) (And.intro hB4 ((AF.keeps 0).same DD _ (Nat.zero_le _) hKV rfl)))))))))
      have c3 := hv2.cell 0
      have f3 := hv2.free 0
      have l3 := hv2.lt
      simp only [List.getElem?_toArray, List.getElem?_cons_zero] at c3
      rw [hfs.out] at P
      clear hv hrow hGV hYV hXV hzV hBV hv2 hgrow2 hown2 AF hK3 hG3 hY3 hX3 hB4 cv fv vl
      gi_wp2
      exact P.out
    case done2 =>
      rintro DD2 zs V hD2 ⟨hzs, hRV⟩ ⟨⟨v, hv, hrow⟩, hGV, hYV, hXV, hzV, hBV, hKV⟩ hK2
      simp only at hzs hRV
      rw [hvl] at hzs hRV
      have hfv : (zs.map fun k => vs.getD k 0) = freeV vs p := by
        rw [hzs]
        rfl
      have hfvl : (freeV vs p).length ≤ 32 := by
        unfold freeV
        rw [List.length_map]
        exact Nat.le_trans (nzs_len _ _ _) (by omega)
      have hRT := cutVs_row hvl hR2c hRV
      rw [hfv] at hrow
      clear hzs hRV hfv
      obtain ⟨fr2, hfr2⟩ : ∃ l, freeV vs p = l := ⟨_, rfl⟩
      rw [hfr2] at hrow hfvl
      obtain ⟨e0, e1, e2, e3, hcy⟩ : ∃ e0 e1 e2 e3, cutDir ⟨kind, links, size, d0, d1, d2, d3, ind⟩ p = ⟨kind, links, size, e0, e1, e2, e3, ind⟩ := ⟨_, _, _, _, rfl⟩
      rw [hcy] at hXV
      unfold InoT.cells at hXV
      simp only at hXV
      obtain ⟨ao2, acap2, hva⟩ : ∃ ao acap, v = .slice ao (fr1 ++ fr2).length acap := by
        rcases hrow.2 with ⟨rfl, e0⟩ | ⟨g, cap, cur, rfl, _⟩
        · exact ⟨none, 0, by rw [e0]⟩
        · exact ⟨_, _, rfl⟩
      subst hva
      have cv := hv.cell 0
      have fv := hv.free 0
      have vl := hv.lt
      simp only [List.getElem?_toArray, List.getElem?_cons_zero] at cv
      have X0 := hXV.cell 0
      have X1 := hXV.cell 1
      have X2 := hXV.cell 2
      have X3 := hXV.cell 3
      have X4 := hXV.cell 4
      have X5 := hXV.cell 5
      have X6 := hXV.cell 6
      have X7 := hXV.cell 7
      simp only [List.getElem?_toArray, List.getElem?_cons_zero, List.getElem?_cons_succ] at X0 X1 X2 X3 X4 X5 X6 X7
      have Xl := hXV.lt
      have F0 := hXV.free 0
      have F1 := hXV.free 1
      have F2 := hXV.free 2
      have F3 := hXV.free 3
      have F4 := hXV.free 4
      have F5 := hXV.free 5
      have F6 := hXV.free 6
      have F7 := hXV.free 7
      have HV := Lib.hid hv
      have HRW := Lib.hid hrow
      have HGV := Lib.hid hGV
      have HYV := Lib.hid hYV
      have HXV := Lib.hid hXV
      have HBV := Lib.hid hBV
      have HRT := Lib.hid hRT
      have HK1 := Lib.hid hKV
      have HK2 := Lib.hid hK2
      have hDD : DD ≠ DD2 := by omega
      clear hv hrow hGV hYV hXV hBV hRT hK hK2 hKV
      have hFr1 := Lib.hid hfr1
      by_cases hA : ind ≠ 0 ∧ p ≤ 4
      · have t1 : ((ind : Int) != 0) = true := by simp; omega
        have t2 : (p : Int) ≤ 4 := by omega
        have t3 : p ≤ 4 := hA.2
        have t4 : decide (p ≤ 4) = true := by simpa using t3
        have t5 : ind ≠ 0 := hA.1
        have hpm : (fr1 ++ fr2).length ≤ 40 := by rw [List.length_append]; omega
        obtain ⟨fr, hfr⟩ : ∃ l, fr1 ++ fr2 = l := ⟨_, rfl⟩
        rw [hfr] at HRW HV cv hpm
        gi_wp2_with (gi_at_builtin; refine wpListIn_append_own _ rfl _ _ 87 rfl (w2.heap.size + 2) 39 i0 (.int .u16 0) 1 2 Tryz.underlying87 hi0 hz0 hz1 hz2 rfl (by decide) _ _ _ rfl (HRW.out.alloc _) ⟨V.heap.size, 0, none⟩ 1 1 [.int .u16 ind] rfl rfl (World.news_of_block (SBox.new _ 39 #[.int .u16 ind])) (by intro u hu; simp at hu; subst hu; rfl) (by unfold maxLen; omega) (by omega) (by simp; omega) ?_)
        intro v' V2 hown2 hgrow2 _
        obtain ⟨g', cap', rfl⟩ : ∃ g' cap', v' = .slice (some ⟨g', 0, none⟩) (fr.length + 1) cap' := by
          rcases hown2.2 with ⟨_, e0⟩ | ⟨g', cap', cur', rfl, _⟩
          · omega
          · exact ⟨_, _, rfl⟩
        obtain ⟨hv2, AF⟩ := app_held HV.out HRW.out (by omega) hgrow2 hown2
        have hX3 := AF.keep HRW.out HXV.out (by omega) (.inl (by omega))
        have hY3 := AF.keep HRW.out HYV.out (by omega) (.inl (by omega))
        have hX2 : SBox V2 (w.heap.size + 1) 43 _ := (heap_setCell_other V2 ⟨w.heap.size + 1 + 1 + 1, 0, none⟩ (w.heap.size + 1) (.slice (some ⟨g', 0, none⟩) (fr.length + 1) cap') (show w.heap.size + 1 ≠ w.heap.size + 1 + 1 + 1 by omega)).symm.trans hX3
        have hY2 : SBox V2 (w.heap.size + 1 + 1) 43 _ := (heap_setCell_other V2 ⟨w.heap.size + 1 + 1 + 1, 0, none⟩ (w.heap.size + 1 + 1) (.slice (some ⟨g', 0, none⟩) (fr.length + 1) cap') (show w.heap.size + 1 + 1 ≠ w.heap.size + 1 + 1 + 1 by omega)).symm.trans hY3
        have HB4 := Lib.hid ((AF.tch.below (n := w.heap.size) (fun c hc => by
          rcases hc with rfl | hc
          · omega
          · have := (own_cells HRW.out hc.symm).1; omega) HBV.out HBV.out.size).setCell (p := ⟨w.heap.size + 1, 7, none⟩) (by simp) (.int .u16 0))
        have HF4 := Lib.hid ((hv2.set 0 (.slice (some ⟨g', 0, none⟩) (fr.length + 1) cap')).other (c := w.heap.size + 1) (i := 7) (.int .u16 0) (by omega))
        have HY4 := Lib.hid (hY3.other (c := w.heap.size + 1) (i := 7) (.int .u16 0) (by omega))
        have HR4 := Lib.hid (ownsRow_setCell_below (ownsRow_setCell_below hown2 (a := ⟨w.heap.size + 1 + 1 + 1, 0, none⟩) (by show w.heap.size + 1 + 1 + 1 < _; omega) (.slice (some ⟨g', 0, none⟩) (fr.length + 1) cap')) (a := ⟨w.heap.size + 1, 7, none⟩) (by show w.heap.size + 1 < _; omega) (.int .u16 0))
        have HD4 := Lib.hid ((heap_setCell_other (V2.setCell ⟨w.heap.size + 1 + 1 + 1, 0, none⟩ (.slice (some ⟨g', 0, none⟩) (fr.length + 1) cap')) ⟨w.heap.size + 1, 7, none⟩ DD (.int .u16 0) (show DD ≠ w.heap.size + 1 by omega)).trans ((AF.keeps 0).same DD _ (Nat.zero_le _) HK1.out rfl))
        have HD5 := Lib.hid ((heap_setCell_other (V2.setCell ⟨w.heap.size + 1 + 1 + 1, 0, none⟩ (.slice (some ⟨g', 0, none⟩) (fr.length + 1) cap')) ⟨w.heap.size + 1, 7, none⟩ DD2 (.int .u16 0) (show DD2 ≠ w.heap.size + 1 by omega)).trans ((AF.keeps 0).same DD2 _ (Nat.zero_le _) HK2.out rfl))
        have c3 := hv2.cell 0
        have f3 := hv2.free 0
        have l3 := hv2.lt
        simp only [List.getElem?_toArray, List.getElem?_cons_zero] at c3
        have P0 := hX2.cell 0
        have P1 := hX2.cell 1
        have P2 := hX2.cell 2
        have P3 := hX2.cell 3
        have P4 := hX2.cell 4
        have P5 := hX2.cell 5
        have P6 := hX2.cell 6
        have P7 := hX2.cell 7
        simp only [List.getElem?_toArray, List.getElem?_cons_zero, List.getElem?_cons_succ] at P0 P1 P2 P3 P4 P5 P6 P7
        have Pl := hX2.lt
        have G0 := hX2.free 0
        have G1 := hX2.free 1
        have G2 := hX2.free 2
        have G3 := hX2.free 3
        have G4 := hX2.free 4
        have G5 := hX2.free 5
        have G6 := hX2.free 6
        have G7 := hX2.free 7
        have Y0 := hY2.cell 0
        have Y1 := hY2.cell 1
        have Y2 := hY2.cell 2
        have Y3 := hY2.cell 3
        have Y4 := hY2.cell 4
        have Y5 := hY2.cell 5
        have Y6 := hY2.cell 6
        have Y7 := hY2.cell 7
        simp only [List.getElem?_toArray, List.getElem?_cons_zero, List.getElem?_cons_succ] at Y0 Y1 Y2 Y3 Y4 Y5 Y6 Y7
        have Yl := hY2.lt
        have J0 := hY2.free 0
        have J1 := hY2.free 1
        have J2 := hY2.free 2
        have J3 := hY2.free 3
        have J4 := hY2.free 4
        have J5 := hY2.free 5
        have J6 := hY2.free 6
        have J7 := hY2.free 7
        clear hX2 hY2 hX3 hY3 AF hv2 hown2 hgrow2 X0 X1 X2 X3 X4 X5 X6 X7 Xl F0 F1 F2 F3 F4 F5 F6 F7 cv fv vl
        gi_wp2_with fail
        gi_region
        gi_wp2
        have HR5 : Hid (((V2.setCell ⟨w.heap.size + 1 + 1 + 1, 0, none⟩ (.slice (some ⟨g', 0, none⟩) (fr.length + 1) cap')).setCell ⟨w.heap.size + 1, 7, none⟩ (.int .u16 0)).ownsRow (w2.heap.size + 2) 39 1 (.slice (some ⟨g', 0, none⟩) (fr.length + 1) cap') (fr ++ [ind]).length ((fr ++ [ind]).map u16V)) := Lib.hid (by rw [List.length_append, List.map_append]; exact HR4.out)
        obtain ⟨t1, t2, tY, tF, tR, tB⟩ := cut_tail (n := w.heap.size) (DD := DD) (DD2 := DD2) (v0 := .int .u8 kind) (v1 := .int .u16 links) (v2 := .int .u32 size) (v3 := .int .u16 e0) (v4 := .int .u16 e1) (v5 := .int .u16 e2) (v6 := .int .u16 e3) (v7 := .int .u16 0) HY4.out HF4.out (by omega) HD4.out HD5.out hDD ⟨by omega, by omega, by omega, by omega⟩ HR5.out ⟨by omega, by omega⟩ _ (.inr rfl)
        unfold fillI at t1 t2 tY tF tR tB
        refine ⟨by simp, .inl ⟨_, _, rfl, run_takeDeferred t1, ?_⟩⟩
        refine ⟨by simp, .inl ⟨_, _, rfl, run_takeDeferred t2, ?_⟩⟩
        have k0 := tY.cell 0
        have k1 := tY.cell 1
        have k2 := tY.cell 2
        have k3 := tY.cell 3
        have k4 := tY.cell 4
        have k5 := tY.cell 5
        have k6 := tY.cell 6
        have k7 := tY.cell 7
        have k9 := tF.cell 0
        simp only [List.getElem?_toArray, List.getElem?_cons_zero, List.getElem?_cons_succ] at k0 k1 k2 k3 k4 k5 k6 k7 k9
        refine ⟨.tuple #[.agg #[.int .u8 kind, .int .u16 links, .int .u32 size, .int .u16 e0, .int .u16 e1, .int .u16 e2, .int .u16 e3, .int .u16 0], .slice (some ⟨g', 0, none⟩) (fr.length + 1) cap', .int .i64 0], ?_, ?_⟩
        · simp [results, Tryz.f65, go_sem, k0, k1, k2, k3, k4, k5, k6, k7, k9]
        · exact .inl ⟨_, rfl, own_mono tR (by omega), Wr.same H.out (HB4.out.trans tB), fun _ => HB4.out.trans tB⟩
      · by_cases hBz : fr2 = []
        · subst hBz
          have hYVx := HYV.out
          have Y0 := hYVx.cell 0
          have Y1 := hYVx.cell 1
          have Y2 := hYVx.cell 2
          have Y3 := hYVx.cell 3
          have Y4 := hYVx.cell 4
          have Y5 := hYVx.cell 5
          have Y6 := hYVx.cell 6
          have Y7 := hYVx.cell 7
          simp only [List.getElem?_toArray, List.getElem?_cons_zero, List.getElem?_cons_succ] at Y0 Y1 Y2 Y3 Y4 Y5 Y6 Y7
          have Yl := hYVx.lt
          have J0 := hYVx.free 0
          have J1 := hYVx.free 1
          have J2 := hYVx.free 2
          have J3 := hYVx.free 3
          have J4 := hYVx.free 4
          have J5 := hYVx.free 5
          have J6 := hYVx.free 6
          have J7 := hYVx.free 7
          rcases Nat.eq_zero_or_pos ind with h0 | h0
          · subst h0
            gi_wp2_with fail
            gi_region
            gi_wp2
            rw [List.append_nil] at HRW
            obtain ⟨t1, t2, tY, tF, tR, tB⟩ := cut_tail (n := w.heap.size) (DD := DD) (DD2 := DD2) (v0 := .int .u8 kind) (v1 := .int .u16 links) (v2 := .int .u32 size) (v3 := .int .u16 e0) (v4 := .int .u16 e1) (v5 := .int .u16 e2) (v6 := .int .u16 e3) (v7 := .int .u16 0) HYV.out HV.out (by omega) HK1.out HK2.out hDD ⟨by omega, by omega, by omega, by omega⟩ HRW.out ⟨by omega, by omega⟩ _ (.inr rfl)
            unfold fillI at t1 t2 tY tF tR tB
            refine ⟨by simp, .inl ⟨_, _, rfl, run_takeDeferred t1, ?_⟩⟩
            refine ⟨by simp, .inl ⟨_, _, rfl, run_takeDeferred t2, ?_⟩⟩
            have k0 := tY.cell 0
            have k1 := tY.cell 1
            have k2 := tY.cell 2
            have k3 := tY.cell 3
            have k4 := tY.cell 4
            have k5 := tY.cell 5
            have k6 := tY.cell 6
            have k7 := tY.cell 7
            have k9 := tF.cell 0
            simp only [List.getElem?_toArray, List.getElem?_cons_zero, List.getElem?_cons_succ] at k0 k1 k2 k3 k4 k5 k6 k7 k9
            refine ⟨.tuple #[.agg #[.int .u8 kind, .int .u16 links, .int .u32 size, .int .u16 e0, .int .u16 e1, .int .u16 e2, .int .u16 e3, .int .u16 0], .slice ao2 fr1.length acap2, .int .i64 0], ?_, ?_⟩
            · simp [results, Tryz.f65, go_sem, k0, k1, k2, k3, k4, k5, k6, k7, k9]
            · exact .inl ⟨_, rfl, own_mono tR (by omega), Wr.same H.out (HBV.out.trans tB), fun _ => HBV.out.trans tB⟩
          · have t1 : ((ind : Int) != 0) = true := by simp; omega
            have t2 : ¬ (p : Int) ≤ 4 := by omega
            have t3 : ¬ p ≤ 4 := by omega
            have t4 : decide (p ≤ 4) = false := by simpa using t3
            gi_wp2_with fail
            gi_region
            gi_wp2
            rw [List.append_nil] at HRW
            obtain ⟨t1, t2, tY, tF, tR, tB⟩ := cut_tail (n := w.heap.size) (DD := DD) (DD2 := DD2) (v0 := .int .u8 kind) (v1 := .int .u16 links) (v2 := .int .u32 size) (v3 := .int .u16 e0) (v4 := .int .u16 e1) (v5 := .int .u16 e2) (v6 := .int .u16 e3) (v7 := .int .u16 ind) HYV.out HV.out (by omega) HK1.out HK2.out hDD ⟨by omega, by omega, by omega, by omega⟩ HRW.out ⟨by omega, by omega⟩ _ (.inr rfl)
            unfold fillI at t1 t2 tY tF tR tB
            refine ⟨by simp, .inl ⟨_, _, rfl, run_takeDeferred t1, ?_⟩⟩
            refine ⟨by simp, .inl ⟨_, _, rfl, run_takeDeferred t2, ?_⟩⟩
            have k0 := tY.cell 0
            have k1 := tY.cell 1
            have k2 := tY.cell 2
            have k3 := tY.cell 3
            have k4 := tY.cell 4
            have k5 := tY.cell 5
            have k6 := tY.cell 6
            have k7 := tY.cell 7
            have k9 := tF.cell 0
            simp only [List.getElem?_toArray, List.getElem?_cons_zero, List.getElem?_cons_succ] at k0 k1 k2 k3 k4 k5 k6 k7 k9
            refine ⟨.tuple #[.agg #[.int .u8 kind, .int .u16 links, .int .u32 size, .int .u16 e0, .int .u16 e1, .int .u16 e2, .int .u16 e3, .int .u16 ind], .slice ao2 fr1.length acap2, .int .i64 0], ?_, ?_⟩
            · simp [results, Tryz.f65, go_sem, k0, k1, k2, k3, k4, k5, k6, k7, k9]
            · exact .inl ⟨_, rfl, own_mono tR (by omega), Wr.same H.out (HBV.out.trans tB), fun _ => HBV.out.trans tB⟩
        · have h0 : ind ≠ 0 := fun e => hBz (by rw [← hfr2, hno.out e]; exact freeV_zero p)
          have t1 : ((ind : Int) != 0) = true := by simp; omega
          have t2 : ¬ (p : Int) ≤ 4 := by omega
          have t3 : ¬ p ≤ 4 := by omega
          have t4 : decide (p ≤ 4) = false := by simpa using t3
          have t5 : 0 < fr2.length := List.length_pos_iff.2 hBz
          have hpm : (fr1 ++ fr2).length ≤ 40 := by rw [List.length_append]; omega
          have t6 : fr1.length < (fr1 ++ fr2).length := by rw [List.length_append]; omega
          have t7 : (fr1.length : Int) < ((fr1 ++ fr2).length : Nat) := by omega
          have t8 : (((fr1 ++ fr2).length : Nat) : Int) ≤ 9223372036854775807 := by omega
          rw [hcy] at TL
          simp only at TL
          obtain ⟨fr, hfr⟩ : ∃ l, fr1 ++ fr2 = l := ⟨_, rfl⟩
          rw [hfr] at HRW HV cv hpm t6 t7 t8
          have HIV := Lib.hid (H.out.later HBV.out)
          have hTm : E.T.m < w.heap.size := by
            obtain ⟨f, nn, g1, _⟩ := H.out
            exact g1.tj.tx.map.lt
          have hGVx := HGV.out
          have G0 := hGVx.cell 0
          have G1 := hGVx.cell 1
          have G2 := hGVx.cell 2
          simp only [List.getElem?_toArray, List.getElem?_cons_zero, List.getElem?_cons_succ] at G0 G1 G2
          have Gl := hGVx.lt
          gi_wp2_with fail
          refine ⟨trivial, ?_⟩
          refine (callsIn_wide.2 (TL.out V _ HIV.out h0 (by omega) (.inr ⟨g, cap, by rw [cutVs_len, hvl], HRT.out⟩))).mono ?_
          rintro e V4 (⟨rfl, GW⟩ | ⟨rfl, GF⟩)
          · have T4 := GW.2
            have hF4 := (T4.block _ HV.out.lt (by omega)).trans HV.out
            have hX4 : SBox V4 (w.heap.size + 1) 43 _ := (T4.block _ HXV.out.lt (by omega)).trans HXV.out
            have hY4 : SBox V4 (w.heap.size + 1 + 1) 43 _ := (T4.block _ HYV.out.lt (by omega)).trans HYV.out
            have hF4 : SBox V4 (w.heap.size + 1 + 1 + 1) 87 #[_] := hF4
            have HR4 := Lib.hid (own_tch HRW.out T4 (by omega))
            have HD4 := Lib.hid ((T4.block DD (Array.getElem?_eq_some_iff.1 HK1.out).1 (by omega)).trans HK1.out)
            have HD5 := Lib.hid ((T4.block DD2 (Array.getElem?_eq_some_iff.1 HK2.out).1 (by omega)).trans HK2.out)
            have HF4 := Lib.hid hF4
            have HY4 := Lib.hid hY4
            have HW4 := Lib.hid (GW.pre (w0 := w) HBV.out)
            have c3 := hF4.cell 0
            have f3 := hF4.free 0
            have l3 := hF4.lt
            simp only [List.getElem?_toArray, List.getElem?_cons_zero] at c3
            clear X0 X1 X2 X3 X4 X5 X6 X7 Xl F0 F1 F2 F3 F4 F5 F6 F7 cv fv vl G0 G1 G2 Gl
            have P0 := hX4.cell 0
            have P1 := hX4.cell 1
            have P2 := hX4.cell 2
            have P3 := hX4.cell 3
            have P4 := hX4.cell 4
            have P5 := hX4.cell 5
            have P6 := hX4.cell 6
            have P7 := hX4.cell 7
            simp only [List.getElem?_toArray, List.getElem?_cons_zero, List.getElem?_cons_succ] at P0 P1 P2 P3 P4 P5 P6 P7
            have Pl := hX4.lt
            have Y0 := hY4.cell 0
            have Y1 := hY4.cell 1
            have Y2 := hY4.cell 2
            have Y3 := hY4.cell 3
            have Y4 := hY4.cell 4
            have Y5 := hY4.cell 5
            have Y6 := hY4.cell 6
            have Y7 := hY4.cell 7
            simp only [List.getElem?_toArray, List.getElem?_cons_zero, List.getElem?_cons_succ] at Y0 Y1 Y2 Y3 Y4 Y5 Y6 Y7
            have Yl := hY4.lt
            have J0 := hY4.free 0
            have J1 := hY4.free 1
            have J2 := hY4.free 2
            have J3 := hY4.free 3
            have J4 := hY4.free 4
            have J5 := hY4.free 5
            have J6 := hY4.free 6
            have J7 := hY4.free 7
            clear hX4 hY4 hF4 T4 GW
            gi_wp2_with fail
            gi_region
            gi_wp2
            obtain ⟨t1, t2, tY, tF, tR, tB⟩ := cut_tail (n := w.heap.size) (DD := DD) (DD2 := DD2) (v0 := .int .u8 kind) (v1 := .int .u16 links) (v2 := .int .u32 size) (v3 := .int .u16 e0) (v4 := .int .u16 e1) (v5 := .int .u16 e2) (v6 := .int .u16 e3) (v7 := .int .u16 ind) HY4.out HF4.out (by omega) HD4.out HD5.out hDD ⟨by omega, by omega, by omega, by omega⟩ HR4.out ⟨by omega, by omega⟩ _ (.inr rfl)
            unfold fillI at t1 t2 tY tF tR tB
            refine ⟨by simp, .inl ⟨_, _, rfl, run_takeDeferred t1, ?_⟩⟩
            refine ⟨by simp, .inl ⟨_, _, rfl, run_takeDeferred t2, ?_⟩⟩
            have k0 := tY.cell 0
            have k1 := tY.cell 1
            have k2 := tY.cell 2
            have k3 := tY.cell 3
            have k4 := tY.cell 4
            have k5 := tY.cell 5
            have k6 := tY.cell 6
            have k7 := tY.cell 7
            have k9 := tF.cell 0
            simp only [List.getElem?_toArray, List.getElem?_cons_zero, List.getElem?_cons_succ] at k0 k1 k2 k3 k4 k5 k6 k7 k9
            refine ⟨.tuple #[.agg #[.int .u8 kind, .int .u16 links, .int .u32 size, .int .u16 e0, .int .u16 e1, .int .u16 e2, .int .u16 e3, .int .u16 ind], .slice ao2 fr.length acap2, .int .i64 0], ?_, ?_⟩
            · simp [results, Tryz.f65, go_sem, k0, k1, k2, k3, k4, k5, k6, k7, k9]
            · exact .inl ⟨_, rfl, own_mono tR (by omega), Wr.via H.out HW4.out tB, fun h => by rcases h with h | h; exact absurd h.2 t3; exact absurd (hfr2.symm.trans h) hBz⟩
          · have T4 := GF.2
            have hF4 : SBox V4 (w.heap.size + 1 + 1 + 1) 87 #[_] := (T4.block _ HV.out.lt (by omega)).trans HV.out
            have hY4 : SBox V4 (w.heap.size + 1 + 1) 43 _ := (T4.block _ HYV.out.lt (by omega)).trans HYV.out
            have HD4 := Lib.hid ((T4.block DD (Array.getElem?_eq_some_iff.1 HK1.out).1 (by omega)).trans HK1.out)
            have HD5 := Lib.hid ((T4.block DD2 (Array.getElem?_eq_some_iff.1 HK2.out).1 (by omega)).trans HK2.out)
            have HF4 := Lib.hid hF4
            have HY4 := Lib.hid hY4
            have HW4 := Lib.hid (GF.pre (w0 := w) HBV.out)
            have c3 := hF4.cell 0
            have f3 := hF4.free 0
            have l3 := hF4.lt
            simp only [List.getElem?_toArray, List.getElem?_cons_zero] at c3
            clear X0 X1 X2 X3 X4 X5 X6 X7 Xl F0 F1 F2 F3 F4 F5 F6 F7 cv fv vl G0 G1 G2 Gl
            have Y0 := hY4.cell 0
            have Y1 := hY4.cell 1
            have Y2 := hY4.cell 2
            have Y3 := hY4.cell 3
            have Y4 := hY4.cell 4
            have Y5 := hY4.cell 5
            have Y6 := hY4.cell 6
            have Y7 := hY4.cell 7
            simp only [List.getElem?_toArray, List.getElem?_cons_zero, List.getElem?_cons_succ] at Y0 Y1 Y2 Y3 Y4 Y5 Y6 Y7
            have Yl := hY4.lt
            have J0 := hY4.free 0
            have J1 := hY4.free 1
            have J2 := hY4.free 2
            have J3 := hY4.free 3
            have J4 := hY4.free 4
            have J5 := hY4.free 5
            have J6 := hY4.free 6
            have J7 := hY4.free 7
            clear hY4 hF4 T4 GF
            gi_wp2
            have HR4 := Lib.hid (World.ownsRow_nil V4 (w2.heap.size + 2) 39 1)
            obtain ⟨t1, t2, tY, tF, tR, tB⟩ := cut_tail (n := w.heap.size) (DD := DD) (DD2 := DD2) (v0 := .int .u8 0) (v1 := .int .u16 0) (v2 := .int .u32 0) (v3 := .int .u16 0) (v4 := .int .u16 0) (v5 := .int .u16 0) (v6 := .int .u16 0) (v7 := .int .u16 0) HY4.out HF4.out (by omega) HD4.out HD5.out hDD ⟨by omega, by omega, by omega, by omega⟩ (fr := []) HR4.out ⟨by omega, by omega⟩ _ (.inl rfl)
            unfold fillI at t1 t2 tY tF tR tB
            refine ⟨by simp, .inl ⟨_, _, rfl, run_takeDeferred t1, ?_⟩⟩
            refine ⟨by simp, .inl ⟨_, _, rfl, run_takeDeferred t2, ?_⟩⟩
            have k0 := tY.cell 0
            have k1 := tY.cell 1
            have k2 := tY.cell 2
            have k3 := tY.cell 3
            have k4 := tY.cell 4
            have k5 := tY.cell 5
            have k6 := tY.cell 6
            have k7 := tY.cell 7
            have k9 := tF.cell 0
            simp only [List.getElem?_toArray, List.getElem?_cons_zero, List.getElem?_cons_succ] at k0 k1 k2 k3 k4 k5 k6 k7 k9
            refine ⟨.tuple #[.agg #[.int .u8 0, .int .u16 0, .int .u32 0, .int .u16 0, .int .u16 0, .int .u16 0, .int .u16 0, .int .u16 0], .slice none 0 0, .int .i64 4], ?_, ?_⟩
            · simp [results, Tryz.f65, go_sem, k0, k1, k2, k3, k4, k5, k6, k7, k9]
            · exact .inr ⟨rfl, Fu.via HW4.out tB⟩
end
end Go.Proofs.YtpnfkilfgdnogaaGreatDoor.Bm
