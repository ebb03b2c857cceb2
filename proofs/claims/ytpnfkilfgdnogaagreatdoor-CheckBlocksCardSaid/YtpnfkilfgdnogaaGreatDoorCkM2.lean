/- check.inodes: faults of inodes and of their entries. -/
import Derived.Test.YtpnfkilfgdnogaaGreatDoorCkM1
import Derived.Deep.AppendLies
import Derived.Laws.EntriesVeiled
import Derived.BigRegion
section
namespace Go.Proofs.YtpnfkilfgdnogaaGreatDoor.Img
set_option linter.unusedVariables false
set_option linter.unusedSimpArgs false
open Go.RowKit Go.Shelf Go.Maps Oct Dev Jou Tx Geo Ino Bm Dir Ck
theorem own_ne {W : World} {b B n size : Nat} {t e : TypeId} {cs : Array Value} {v : Value} {xs : List Value} (h : SBox W b t cs) (ho : W.ownsRow B e size v n xs) (hte : t ≠ e) : some b ≠ v.ownBlock := by
  rcases ho.2 with ⟨rfl, _⟩ | ⟨g, cap, cur, rfl, _, hg, _⟩
  · intro q
    cases q
  · intro q
    have q2 : b = g := Option.some.inj q
    subst q2
    unfold SBox at h
    rw [h] at hg
    cases hg
    exact hte rfl
theorem own_flt {W : World} {B a b c : Nat} {fs : List (Nat × Nat × Nat)} {v : Value} (h : W.ownsRow B 83 3 v (fs.length + 1) (fltCells fs ++ [.int .u8 a, .int .u32 b, .int .i64 c])) : OwnF B (fs ++ [(a, b, c)]) v W := by
  unfold OwnF
  rw [fltCells_snoc, List.length_append]
  exact h
theorem AllIs.sn {W : World} {B : Nat} {l : List Sn} {v : Value} (h : AllIs W B l v) (n : Nat) : OwnL B (snAt l n).bs (snAt l n).vb W ∧ OwnE B (snAt l n).es (snAt l n).ve W := by
  have h0 : OwnL B noSn.bs noSn.vb W ∧ OwnE B noSn.es noSn.ve W := ⟨World.ownsRow_nil _ _ _ _, World.ownsRow_nil _ _ _ _⟩
  unfold snAt
  split
  · exact h0
  · by_cases q : n - 1 < l.length
    · have e : l.getD (n - 1) noSn = l[n - 1] := by simp [List.getD, q]
      rw [e]
      exact h.2 _ (List.getElem_mem q)
    · have e : l.getD (n - 1) noSn = noSn := by simp [List.getD, q]
      rw [e]
      exact h0
set_option maxRecDepth 100000 in
set_option maxHeartbeats 4000000 in
theorem croot_is (C M gi bl gj mm bm : Nat) (v : Value) (l : List Sn) (w : World) (h : CkAt w C M gi bl gj v mm bm l) (hl : l.length ≤ 100) (ht : (snAt l 1).t = true) (hk : (snAt l 1).x.kind = 2) :
    Calls Tryz.prog 85 #[.pointer (some ⟨C, 0, none⟩)] w fun e w' => e = .returned (.slice none 0 0) ∧ Below w.heap.size w w' := by
  have OF := Lib.hid (of_is C M gi bl gj mm bm 1 v l w h (by omega) hl)
  unfold Sn.val seenV at OF
  obtain ⟨ab, cb, hvb⟩ := row_slice (h.all.sn 1).1
  obtain ⟨ae, ce, hve⟩ := row_slice (h.all.sn 1).2
  clear h hl
  generalize snAt l 1 = s at *
  obtain ⟨t, ⟨x0, x1, x2, x3, x4, x5, x6, x7⟩, vb, ve, bad, bs, es⟩ := s
  simp only at ht hk hvb hve
  subst ht hk hvb hve
  dsimp only at OF
  go_enter Tryz.func85, Tryz.ntmps85
  go_wp2_with fail
  refine OF.out.mono ?_
  rintro e w1 ⟨rfl, b1⟩
  have HX := Lib.hid (SBox.new w1 164 #[.bool true, .int .u8 (2 : Nat), .int .u16 x1, .int .u32 x2, .int .u16 x3, .int .u16 x4, .int .u16 x5, .int .u16 x6, .int .u16 x7, .slice ab bs.length cb, .slice ae es.length ce, .bool bad, .bool false])
  have HB := Lib.hid (b1.alloc b1.size (.cells #[.bool true, .int .u8 (2 : Nat), .int .u16 x1, .int .u32 x2, .int .u16 x3, .int .u16 x4, .int .u16 x5, .int .u16 x6, .int .u16 x7, .slice ab bs.length cb, .slice ae es.length ce, .bool bad, .bool false] 164))
  have hX := HX.out
  have X0 := hX.cell 0
  have X1 := hX.cell 1
  have X2 := hX.cell 2
  have X3 := hX.cell 3
  have X4 := hX.cell 4
  have X5 := hX.cell 5
  have X6 := hX.cell 6
  have X7 := hX.cell 7
  have X8 := hX.cell 8
  have X9 := hX.cell 9
  have X10 := hX.cell 10
  have X11 := hX.cell 11
  have X12 := hX.cell 12
  simp only [List.getElem?_toArray, List.getElem?_cons_zero, List.getElem?_cons_succ] at X0 X1 X2 X3 X4 X5 X6 X7 X8 X9 X10 X11 X12
  have Xl := hX.lt
  clear hX b1
  go_wp2
  go_ret
  exact ⟨rfl, HB.out⟩
end Go.Proofs.YtpnfkilfgdnogaaGreatDoor.Img
end
section
namespace Go.Proofs.YtpnfkilfgdnogaaGreatDoor.Img
set_option linter.unusedVariables false
set_option linter.unusedSimpArgs false
open Go.RowKit Go.Shelf Go.Maps Oct Dev Jou Tx Geo Ino Bm Dir Ck
structure Rc (C M gi bl gj mm bm : Nat) (v : Value) (l : List Sn) (A Cb G mb nn : Nat) (g : Int → Bool) (W : World) : Prop where
  ck : CkAt W C M gi bl gj v mm bm l
  bA : SBox W A 232 #[.map (some mb)]
  bC : SBox W Cb 156 #[.pointer (some ⟨C, 0, none⟩)]
  bG : SBox W G 276 #[.func (.func 173) #[] #[.pointer (some ⟨A, 0, none⟩), .pointer (some ⟨Cb, 0, none⟩), .pointer (some ⟨G, 0, none⟩)]]
  mp : YMap W mb nn g
theorem field_yes (t : Bool) (W : World) : (Instr.field 235 (.agg #[.bool t]) 0).run Tryz.prog W = .ok (.bool t) W := by kernel_rfl
theorem field_ents (t : Bool) (x0 x1 x2 x3 x4 x5 x6 x7 : Int) (vb ve : Value) (bad odd : Bool) (W : World) : (Instr.field 164 (.agg #[.bool t, .int .u8 x0, .int .u16 x1, .int .u32 x2, .int .u16 x3, .int .u16 x4, .int .u16 x5, .int .u16 x6, .int .u16 x7, vb, ve, .bool bad, .bool odd]) 3).run Tryz.prog W = .ok ve W := by kernel_rfl
theorem field_there (t : Bool) (x0 x1 x2 x3 x4 x5 x6 x7 : Int) (vb ve : Value) (bad odd : Bool) (W : World) : (Instr.field 164 (.agg #[.bool t, .int .u8 x0, .int .u16 x1, .int .u32 x2, .int .u16 x3, .int .u16 x4, .int .u16 x5, .int .u16 x6, .int .u16 x7, vb, ve, .bool bad, .bool odd]) 0).run Tryz.prog W = .ok (.bool t) W := by kernel_rfl
theorem ent_cell : ∀ (es : List Ent) (j : Nat) (h : j < es.length), (entCells es)[j * 2 + 1]? = some (.int .u32 ((es[j]'h).2 : Nat)) ∧ ∃ u, (entCells es)[j * 2]? = some (.string u)
  | e :: r, 0, h => ⟨rfl, _, rfl⟩
  | e :: r, j + 1, h => by
    have := ent_cell r j (by simpa using h)
    rw [show (j + 1) * 2 + 1 = j * 2 + 1 + 1 + 1 by omega, show (j + 1) * 2 = j * 2 + 1 + 1 by omega]
    exact this
section
variable {C M gi bl gj mm bm A Cb G mb nn : Nat} {v : Value} {l : List Sn} {g : Int → Bool} {w W W' : World}
theorem Rc.later (h : Rc C M gi bl gj mm bm v l A Cb G mb nn g W) (hb : Below W.heap.size W W') : Rc C M gi bl gj mm bm v l A Cb G mb nn g W' := ⟨h.ck.later hb, h.bA.later hb, h.bC.later hb, h.bG.later hb, h.mp.later hb⟩
theorem Rc.mono (h : Rc C M gi bl gj mm bm v l A Cb G mb nn g W) {n' : Nat} (hn : nn ≤ n') : Rc C M gi bl gj mm bm v l A Cb G mb n' g W := ⟨h.ck, h.bA, h.bC, h.bG, h.mp.mono hn⟩
theorem Rc.put (h : Rc C M gi bl gj mm bm v l A Cb G mb nn g W) (hn : nn < maxLen) (x : Nat) (hx : x < 4294967296) : ∃ W', (Instr.mapUpdate 232 (.map (some mb)) (.int .u32 x) (.agg #[.bool true])).run Tryz.prog W = .ok () W' ∧ Rc C M gi bl gj mm bm v l A Cb G mb (nn + 1) (fun y => if y = (x : Int) then true else g y) W' ∧ Tch (fun c => c = mb) W W' := by
  obtain ⟨W', h1, h2, h3⟩ := h.mp.put hn (x : Int) (wf_u32 x hx)
  have t : Tch (fun c => c = mb) W W' := Tch.grown h3.grown (fun r e => by cases e; rfl)
  have hm : ∀ c, c = mb → IsMap W c := fun c e => by rw [e]; exact h.mp.isMap
  exact ⟨W', h1, ⟨h.ck.tch t hm, sbox_tch h.bA t hm, sbox_tch h.bC t hm, sbox_tch h.bG t hm, h2⟩, t⟩
set_option maxRecDepth 100000 in
set_option maxHeartbeats 4000000 in
theorem reach_leaf (n : Nat) (w : World) (h : Rc C M gi bl gj mm bm v l A Cb G mb nn g w) (hl : l.length ≤ 100) (hn : n < 4294967296) (hnn : nn < maxLen) (he : (snAt l n).es = []) :
    Calls Tryz.prog 173 #[.int .u32 n, .pointer (some ⟨A, 0, none⟩), .pointer (some ⟨Cb, 0, none⟩), .pointer (some ⟨G, 0, none⟩)] w fun e w' => (∃ u, e = .returned u) ∧ (∃ g', Rc C M gi bl gj mm bm v l A Cb G mb (nn + 1) g' w') ∧ Tch (fun c => c = mb) w w' := by
  have fy := field_yes
  have hA := h.bA.cell 0
  have hC := h.bC.cell 0
  simp only [List.getElem?_toArray, List.getElem?_cons_zero] at hA hC
  have hAl := h.bA.lt
  have hCl := h.bC.lt
  have hlook := h.mp.look (n : Int) (wf_u32 n hn)
  by_cases hg : g n = true
  · rw [hg] at hlook
    have H := Lib.hid h
    clear h
    go_enter Tryz.func173, Tryz.ntmps173
    go_wp2
    exact bodyPost_ret (v := .tuple #[]) (by simp [results, Tryz.results173, go_sem]) rfl ⟨⟨_, rfl⟩, ⟨g, H.out.mono (Nat.le_succ _)⟩, Tch.of_below (Below.refl _ _)⟩
  · rw [Bool.not_eq_true] at hg
    rw [hg] at hlook
    obtain ⟨w2, hput, h2, t2⟩ := h.put hnn n hn
    have H2 := Lib.hid h2
    have T2 := Lib.hid t2
    have OF := Lib.hid (fun W h => of_is C M gi bl gj mm bm n v l W h hn hl)
    have hA2 := h2.bA.cell 0
    have hC2 := h2.bC.cell 0
    simp only [List.getElem?_toArray, List.getElem?_cons_zero] at hA2 hC2
    have hA2l := h2.bA.lt
    have hC2l := h2.bC.lt
    unfold Sn.val seenV at OF
    have hsn := (h.ck.all.sn n).2
    obtain ⟨ae, ce, hve⟩ := row_slice hsn
    have fe := field_ents
    clear h h2 t2 hsn
    generalize snAt l n = s at *
    obtain ⟨t, ⟨x0, x1, x2, x3, x4, x5, x6, x7⟩, vb, ve, bad, bs, es⟩ := s
    simp only at he hve
    subst he hve
    dsimp only at OF
    go_enter Tryz.func173, Tryz.ntmps173
    go_wp2_with fail
    refine (OF.out _ H2.out.ck).mono ?_
    rintro e w3 ⟨rfl, b3⟩
    have H3 := Lib.hid (H2.out.later b3)
    have T3 := Lib.hid (T2.out.trans (Tch.of_below b3))
    clear b3
    go_wp2
    refine wp_loop_rounds 1 ?_
    rw [rounds_succ]
    go_wp2
    go_end0
    exact ⟨⟨_, rfl⟩, ⟨_, H3.out⟩, T3.out⟩
set_option maxRecDepth 100000 in
set_option maxHeartbeats 4000000 in
theorem reach_root (w : World) (h : Rc C M gi bl gj mm bm v l A Cb G mb 0 (fun _ => false) w) (hl : l.length ≤ 100) (hes : (snAt l 1).es.length ≤ 100) (he : ∀ e ∈ (snAt l 1).es, e.2 < 4294967296 ∧ (snAt l e.2).es = []) :
    Calls Tryz.prog 173 #[.int .u32 1, .pointer (some ⟨A, 0, none⟩), .pointer (some ⟨Cb, 0, none⟩), .pointer (some ⟨G, 0, none⟩)] w fun e w' => (∃ u, e = .returned u) ∧ (∃ nn g', Rc C M gi bl gj mm bm v l A Cb G mb nn g' w') ∧ Tch (fun c => c = mb) w w' := by
  have fy := field_yes
  have hA := h.bA.cell 0
  have hC := h.bC.cell 0
  simp only [List.getElem?_toArray, List.getElem?_cons_zero] at hA hC
  have hAl := h.bA.lt
  have hCl := h.bC.lt
  have hlook := h.mp.look 1 (by decide)
  obtain ⟨w2, hput, h2, t2⟩ := h.put (by decide) 1 (by decide)
  rw [show ((1 : Nat) : Int) = 1 from rfl] at hput
  have H2 := Lib.hid h2
  have T2 := Lib.hid t2
  have OF := Lib.hid (fun W h => of_is C M gi bl gj mm bm 1 v l W h (by decide) hl)
  have hA2 := h2.bA.cell 0
  have hC2 := h2.bC.cell 0
  simp only [List.getElem?_toArray, List.getElem?_cons_zero] at hA2 hC2
  have hA2l := h2.bA.lt
  have hC2l := h2.bC.lt
  unfold Sn.val seenV at OF
  have hsn := (h.ck.all.sn 1).2
  have ALL := Lib.hid (fun W (h : CkAt W C M gi bl gj v mm bm l) => (h.all.sn 1).2)
  have LEAF := Lib.hid (fun n nn g W h hn hnn he => reach_leaf (C := C) (M := M) (gi := gi) (bl := bl) (gj := gj) (mm := mm) (bm := bm) (A := A) (Cb := Cb) (G := G) (mb := mb) (nn := nn) (v := v) (l := l) (g := g) n W h hl hn hnn he)
  have HE := Lib.hid he
  obtain ⟨ae, ce, hve⟩ := row_slice hsn
  have fe := field_ents
  clear h h2 t2 hsn he
  generalize snAt l 1 = s at *
  obtain ⟨t, ⟨x0, x1, x2, x3, x4, x5, x6, x7⟩, vb, ve, bad, bs, es⟩ := s
  simp only at hve hes HE ALL
  subst hve
  dsimp only at OF
  go_enter Tryz.func173, Tryz.ntmps173
  go_wp2_with fail
  refine (OF.out _ H2.out.ck).mono ?_
  rintro e w3 ⟨rfl, b3⟩
  have H3 := Lib.hid (H2.out.later b3)
  have T3 := Lib.hid (T2.out.trans (Tch.of_below b3))
  clear b3 hlook hput hA hC hAl hCl hA2 hC2 hA2l hC2l
  go_wp2_with fail
  go_loopw [19] (fun c wr => ∃ j : Nat, j ≤ es.length ∧ c = .int .i64 j ∧ (∃ nn, nn ≤ 1 + j ∧ ∃ g', Rc C M gi bl gj mm bm v l A Cb G mb nn g' wr) ∧ Tch (fun c => c = mb) w wr) (fun c _ => 101 - (intOf c).toNat)
  case atStart => exact ⟨0, Nat.zero_le _, rfl, ⟨_, Nat.le_refl _, _, H3.out⟩, T3.out⟩
  case round =>
    obtain ⟨j, hj, rfl, ⟨nn, hnn, g', hR⟩, hT⟩ := hrel
    have HR := Lib.hid hR
    have HT := Lib.hid hT
    clear hR hT
    by_cases hlt : j < es.length
    · obtain ⟨g, cap2, e, hg, hc⟩ := row_cell (ALL.out _ HR.out.ck) (by omega)
      cases e
      obtain ⟨E1, u, E0⟩ := ent_cell es j hlt
      have c1 := hc _ _ E1
      have c0 := hc _ _ E0
      obtain ⟨q1, q2⟩ := HE.out es[j] (List.getElem_mem hlt)
      generalize es[j] = ej at *
      obtain ⟨nm, n⟩ := ej
      simp only at c1 q1 q2
      have p1 : (0 : Int) ≤ j := by omega
      have p2 : (j : Int) < es.length := by omega
      have HRY := Lib.hid (HR.out.later ((Below.refl _ wr).alloc (Nat.le_refl _) (.cells #[.string u, .int .u32 n] 216)))
      have HTY := Lib.hid (HT.out.trans (Tch.of_below ((Below.refl _ wr).alloc (Nat.le_refl _) (.cells #[.string u, .int .u32 n] 216))))
      have hY := SBox.new wr 216 #[.string u, .int .u32 n]
      have Y0 := hY.cell 0
      have Y1 := hY.cell 1
      simp only [List.getElem?_toArray, List.getElem?_cons_zero, List.getElem?_cons_succ] at Y0 Y1
      have Yl := hY.lt
      have hG := HRY.out.bG
      have G0 := hG.cell 0
      simp only [List.getElem?_toArray, List.getElem?_cons_zero, List.getElem?_cons_succ] at G0
      have Gl := hG.lt
      clear hY hG hc E0 E1
      go_wp2_with fail
      refine (LEAF.out n nn g' _ HRY.out q1 (by unfold maxLen; omega) q2).mono ?_
      rintro e w4 ⟨⟨u4, rfl⟩, ⟨g4, r4⟩, t4⟩
      have HR4 := Lib.hid r4
      have HT4 := Lib.hid (HTY.out.trans t4)
      clear r4 t4
      go_wp2_with fail
      go_roundw
      case rel => exact ⟨j + 1, by omega, by go_num, ⟨nn + 1, by omega, g4, HR4.out⟩, HT4.out⟩
      case measure => simp [intOf]; omega
    · obtain rfl : j = es.length := by omega
      go_wp2
      go_end0
      exact ⟨⟨_, rfl⟩, ⟨nn, g', HR.out⟩, HT.out⟩
end
end Go.Proofs.YtpnfkilfgdnogaaGreatDoor.Img
end
section
namespace Go.Proofs.YtpnfkilfgdnogaaGreatDoor.Img
set_option linter.unusedVariables false
set_option linter.unusedSimpArgs false
open Go.RowKit Go.Shelf Go.Maps Oct Dev Jou Tx Geo Ino Bm Dir Ck
def gE (L : List Nat) : Int → Int × Int := fun x => if x < 0 then (0, 0) else (((L.count x.toNat : Nat) : Int), 0)
def gB (P : List (Nat × Nat)) : Int → Int × Int := fun x => if x < 0 then (0, 0) else (((cntP P x.toNat : Nat) : Int), ((fstP P x.toNat : Nat) : Int))
theorem gE_at (L : List Nat) (n : Nat) : gE L (n : Int) = (((L.count n : Nat) : Int), (0 : Int)) := by
  unfold gE
  rw [if_neg (by omega), Int.toNat_natCast]
theorem gB_at (P : List (Nat × Nat)) (n : Nat) : gB P (n : Int) = (((cntP P n : Nat) : Int), ((fstP P n : Nat) : Int)) := by
  unfold gB
  rw [if_neg (by omega), Int.toNat_natCast]
theorem gE_nil : gE [] = fun _ => (0, 0) := by
  funext x
  unfold gE
  split <;> simp
theorem gB_nil : gB [] = fun _ => (0, 0) := by
  funext x
  unfold gB
  split <;> simp [cntP, fstP]
theorem gE_snoc (L : List Nat) (n : Nat) : putM (gE L) n ((L.count n : Nat) + 1) 0 = gE (L ++ [n]) := by
  funext x
  unfold putM
  by_cases h0 : x < 0
  · rw [if_neg (by omega)]
    unfold gE
    rw [if_pos h0, if_pos h0]
  · obtain ⟨m, rfl⟩ := Int.eq_ofNat_of_zero_le (show 0 ≤ x by omega)
    rw [gE_at, gE_at, List.count_append, List.count_cons, List.count_nil]
    by_cases h : m = n
    · subst h
      rw [if_pos rfl]
      simp
    · rw [if_neg (by omega), if_neg (by simpa using fun e => h e.symm)]
      simp
theorem gB_snoc (P : List (Nat × Nat)) (n k : Nat) : putM (gB P) n ((cntP P n : Nat) + 1) (if cntP P n = 0 then (k : Int) else (fstP P n : Nat)) = gB (P ++ [(n, k)]) := by
  funext x
  unfold putM
  by_cases h0 : x < 0
  · rw [if_neg (by omega)]
    unfold gB
    rw [if_pos h0, if_pos h0]
  · obtain ⟨m, rfl⟩ := Int.eq_ofNat_of_zero_le (show 0 ≤ x by omega)
    rw [gB_at, gB_at, cntP_snoc, fstP_snoc]
    by_cases h : m = n
    · subst h
      rw [if_pos rfl, if_pos rfl, if_pos rfl]
      by_cases h1 : cntP P m = 0
      · rw [if_pos h1, if_pos h1]
        simp
      · rw [if_neg h1, if_neg h1]
        simp
    · rw [if_neg (by omega), if_neg h, if_neg h]
structure Cn (C M gi bl gj mm bm : Nat) (v : Value) (l : List Sn) (w : World) (n : Nat) (L : List Nat) (P : List (Nat × Nat)) (W : World) : Prop where
  ck : CkAt W C M gi bl gj v mm bm l
  me : MMap 40 .u32 W mm n (gE L)
  mb : MMap 39 .u16 W bm n (gB P)
  t : Tch (fun c => c = mm ∨ c = bm) w W
section
variable {C M gi bl gj mm bm n : Nat} {v : Value} {l : List Sn} {w W W' : World} {L : List Nat} {P : List (Nat × Nat)}
theorem Cn.later (h : Cn C M gi bl gj mm bm v l w n L P W) (hb : Below W.heap.size W W') : Cn C M gi bl gj mm bm v l w n L P W' := ⟨h.ck.later hb, h.me.later hb, h.mb.later hb, h.t.trans (Tch.of_below hb)⟩
theorem Cn.maps (h : Cn C M gi bl gj mm bm v l w n L P W) : ∀ c, (c = mm ∨ c = bm) → IsMap W c := by
  rintro c (rfl | rfl)
  · exact h.me.isMap
  · exact h.mb.isMap
theorem turned_tch {b : Nat} {S : Nat → Prop} (h : W.mapTurned W' b) (hS : S b) : Tch S W W' := Tch.grown h.grown (fun r e => by cases e; exact hS)
theorem Cn.ent (h : Cn C M gi bl gj mm bm v l w n L P W) (hne : mm ≠ bm) (hn : n < maxLen) (x : Nat) (hx : x < 4294967296) : ∃ W', (Instr.mapUpdate 157 (.map (some mm)) (.int .u32 x) (.agg #[.int .i64 ((L.count x : Nat) + 1), .int .u32 0])).run Tryz.prog W = .ok () W' ∧ Cn C M gi bl gj mm bm v l w (n + 1) (L ++ [x]) P W' ∧ Tch (fun c => c = mm ∨ c = bm) W W' := by
  obtain ⟨W', h1, h2, h3⟩ := h.me.put under_u32 under_met hn (x : Int) (wf_u32 x hx) ((L.count x : Nat) + 1) 0
  have t : Tch (fun c => c = mm ∨ c = bm) W W' := turned_tch h3 (.inl rfl)
  refine ⟨W', h1, ⟨h.ck.tch t h.maps, ?_, (h.mb.kept h3.grown (fun e => hne (Option.some.inj e).symm)).mono (Nat.le_succ _), h.t.trans t⟩, t⟩
  rw [gE_snoc] at h2
  exact h2
theorem Cn.blk (h : Cn C M gi bl gj mm bm v l w n L P W) (hne : mm ≠ bm) (hn : n < maxLen) (x k : Nat) (hx : x < 65536) : ∃ W', (Instr.mapUpdate 158 (.map (some bm)) (.int .u16 x) (.agg #[.int .i64 ((cntP P x : Nat) + 1), .int .u32 (if cntP P x = 0 then (k : Int) else (fstP P x : Nat))])).run Tryz.prog W = .ok () W' ∧ Cn C M gi bl gj mm bm v l w (n + 1) L (P ++ [(x, k)]) W' ∧ Tch (fun c => c = mm ∨ c = bm) W W' := by
  obtain ⟨W', h1, h2, h3⟩ := h.mb.put under_u16 under_blk hn (x : Int) (wf_u16 x hx) ((cntP P x : Nat) + 1) (if cntP P x = 0 then (k : Int) else (fstP P x : Nat))
  have t : Tch (fun c => c = mm ∨ c = bm) W W' := turned_tch h3 (.inr rfl)
  refine ⟨W', h1, ⟨h.ck.tch t h.maps, (h.me.kept h3.grown (fun e => hne (Option.some.inj e))).mono (Nat.le_succ _), ?_, h.t.trans t⟩, t⟩
  rw [gB_snoc] at h2
  exact h2
end
end Go.Proofs.YtpnfkilfgdnogaaGreatDoor.Img
end
section
namespace Go.Proofs.YtpnfkilfgdnogaaGreatDoor.Img
set_option linter.unusedVariables false
set_option linter.unusedSimpArgs false
open Go.RowKit Go.Shelf Go.Maps Oct Dev Jou Tx Geo Ino Bm Dir Ck
section
variable {C M gi bl gj mm bm : Nat} {v : Value} {l : List Sn} {w W W' : World}
set_option maxRecDepth 100000 in
set_option maxHeartbeats 4000000 in
theorem reached_is (w : World) (h : CkAt w C M gi bl gj v mm bm l) (hl : l.length ≤ 100) (hes : (snAt l 1).es.length ≤ 100) (he : ∀ e ∈ (snAt l 1).es, e.2 < 4294967296 ∧ (snAt l e.2).es = []) :
    Calls Tryz.prog 139 #[.pointer (some ⟨C, 0, none⟩)] w fun e w' => ∃ u, e = .returned u ∧ Below w.heap.size w w' := by
  have ROOT := Lib.hid (fun A Cb G mb W h => reach_root (C := C) (M := M) (gi := gi) (bl := bl) (gj := gj) (mm := mm) (bm := bm) (A := A) (Cb := Cb) (G := G) (mb := mb) (v := v) (l := l) W h hl hes he)
  have H := Lib.hid h
  have hmm := @run_makeMap Tryz.prog
  clear h he
  go_enter Tryz.func139, Tryz.ntmps139
  go_wp2_with fail
  generalize ho1 : Obj.cells #[Value.pointer (some { block := C, off := 0 })] 156 = o1 at *
  have e1 : (w.alloc o1).heap.size = w.heap.size + 1 := World.size_alloc _ _
  have e2 : ((w.alloc o1).alloc (.map #[] 0)).heap.size = w.heap.size + 1 + 1 := (World.size_alloc _ _).trans (by rw [e1])
  have m := YMap.new (w.alloc o1)
  have bA := SBox.new ((w.alloc o1).alloc (.map #[] 0)) 232 #[.map (some (w.heap.size + 1))]
  rw [e1] at m
  rw [e2] at bA
  generalize ho3 : Obj.cells #[Value.map (some (w.heap.size + 1))] 232 = o3 at *
  have e3 : (((w.alloc o1).alloc (.map #[] 0)).alloc o3).heap.size = w.heap.size + 1 + 1 + 1 := (World.size_alloc _ _).trans (by rw [e2])
  have bG := SBox.new (((w.alloc o1).alloc (.map #[] 0)).alloc o3) 276 #[.func (.func 173) #[] #[.pointer (some ⟨w.heap.size + 1 + 1, 0, none⟩), .pointer (some ⟨w.heap.size, 0, none⟩), .pointer (some ⟨w.heap.size + 1 + 1 + 1, 0, none⟩)]]
  rw [e3] at bG
  have bC : SBox (w.alloc o1) w.heap.size 156 #[.pointer (some ⟨C, 0, none⟩)] := by rw [← ho1]; exact SBox.new w _ _
  have hB := (((((Below.refl _ w).alloc (Nat.le_refl _) o1).alloc (by omega) (.map #[] 0)).alloc (by omega) o3).alloc (by omega) (.cells #[.func (.func 173) #[] #[.pointer (some ⟨w.heap.size + 1 + 1, 0, none⟩), .pointer (some ⟨w.heap.size, 0, none⟩), .pointer (some ⟨w.heap.size + 1 + 1 + 1, 0, none⟩)]] 276))
  have HB := Lib.hid hB
  have HR := Lib.hid (Rc.mk (H.out.later hB) (bA.alloc _) (((bC.alloc _).alloc _).alloc _) bG ((m.alloc o3).alloc _))
  clear bG bC bA m hB e1 e2 e3
  refine (ROOT.out _ _ _ _ _ HR.out).mono ?_
  rintro e w4 ⟨⟨u4, rfl⟩, ⟨nn, g4, r4⟩, t4⟩
  have hA := r4.bA.cell 0
  simp only [List.getElem?_toArray, List.getElem?_cons_zero] at hA
  have hAl := r4.bA.lt
  have HB4 := Lib.hid (t4.below (fun c e => by omega) HB.out HB.out.size)
  clear r4 t4
  go_wp2
  go_ret
  exact ⟨_, rfl, HB4.out⟩
theorem MMap.drew {kt : TypeId} {kd : IntKind} {b nn : Nat} {g : Int → Int × Int} (h : MMap kt kd W b nn g) : MMap kt kd W.drew b nn g := h.later (Below.refl _ _).drew
structure MetE (W : World) (C M gi bl gj mm bm : Nat) (v : Value) (l : List Sn) : Prop where
  ck : CkAt W C M gi bl gj v mm bm l
  me : ∃ nn, MMap 40 .u32 W mm nn (gE (metE l l.length))
theorem MetE.later (h : MetE W C M gi bl gj mm bm v l) (hb : Below W.heap.size W W') : MetE W' C M gi bl gj mm bm v l := ⟨h.ck.later hb, by obtain ⟨nn, m⟩ := h.me; exact ⟨nn, m.later hb⟩⟩
theorem field_met (n k : Int) (W : World) : (Instr.field 231 (.agg #[.int .i64 n, .int .u32 k]) 0).run Tryz.prog W = .ok (.int .i64 n) W := by kernel_rfl
set_option maxRecDepth 100000 in
set_option maxHeartbeats 4000000 in
theorem links_is (w : World) (h : MetE w C M gi bl gj mm bm v l) (hl : l.length ≤ 100) (hes : (snAt l 1).es.length ≤ 100) (he : ∀ e ∈ (snAt l 1).es, e.2 < 4294967296 ∧ (snAt l e.2).es = []) (hk : LnkS l) :
    Calls Tryz.prog 87 #[.pointer (some ⟨C, 0, none⟩)] w fun e w' => e = .returned (.slice none 0 0) ∧ Below w.heap.size w w' := by
  have RE := Lib.hid (reached_is w h.ck hl hes he)
  have fm := field_met
  obtain ⟨ao, cap, rfl⟩ := row_slice h.ck.all.1
  have H := Lib.hid h
  have HK := Lib.hid hk
  clear h he hk
  go_enter Tryz.func87, Tryz.ntmps87
  go_wp2_with fail
  refine RE.out.mono ?_
  rintro e w1 ⟨u1, rfl, b1⟩
  have H1 := Lib.hid (H.out.later b1)
  have B1 := Lib.hid b1
  have hC := H1.out.ck.box
  have C0 := hC.cell 0
  have C1 := hC.cell 1
  have C2 := hC.cell 2
  have C3 := hC.cell 3
  have C4 := hC.cell 4
  have C5 := hC.cell 5
  have C6 := hC.cell 6
  simp only [List.getElem?_toArray, List.getElem?_cons_zero, List.getElem?_cons_succ] at C0 C1 C2 C3 C4 C5 C6
  have Cl := hC.lt
  clear hC b1 RE
  go_wp2_with fail
  go_loopw [2, 14] (fun o c wr => ∃ k : Nat, k ≤ l.length ∧ o = .slice none 0 0 ∧ c = .int .i64 k ∧ MetE wr C M gi bl gj mm bm (.slice ao l.length cap) l ∧ Below w.heap.size w wr) (fun _ c _ => 101 - (intOf c).toNat)
  case atStart => exact ⟨0, Nat.zero_le _, rfl, rfl, H1.out, B1.out⟩
  case round =>
    obtain ⟨k, hk, rfl, rfl, hM, hB⟩ := hrel
    have HM := Lib.hid hM
    have HB := Lib.hid hB
    clear hM hB
    by_cases hlt : k < l.length
    · obtain ⟨g, cap2, e, hg, hc⟩ := HM.out.ck.all.cell hlt
      cases e
      have hs := snAt_get l k hlt
      have hlk := HK.out k hlt
      obtain ⟨ab, cb, hvb⟩ := row_slice (HM.out.ck.all.2 l[k] (List.getElem_mem hlt)).1
      obtain ⟨ae, ce, hve⟩ := row_slice (HM.out.ck.all.2 l[k] (List.getElem_mem hlt)).2
      have q1 : (0 : Int) ≤ k := by omega
      have q2 : (k : Int) < l.length := by omega
      have h0 : k = 0 → (snAt l 1) = l[k] := fun e => by subst e; exact hs
      rw [hs] at hlk
      generalize l[k] = s at *
      obtain ⟨t, ⟨x0, x1, x2, x3, x4, x5, x6, x7⟩, vb, ve, bad, bs, es⟩ := s
      simp only at hvb hve
      subst hvb hve
      have S0 := hc 0 _ (by decide) rfl
      have S1 := hc 1 _ (by decide) rfl
      have S2 := hc 2 _ (by decide) rfl
      have S3 := hc 3 _ (by decide) rfl
      have S4 := hc 4 _ (by decide) rfl
      have S5 := hc 5 _ (by decide) rfl
      have S6 := hc 6 _ (by decide) rfl
      have S7 := hc 7 _ (by decide) rfl
      have S8 := hc 8 _ (by decide) rfl
      have S9 := hc 9 _ (by decide) rfl
      have S10 := hc 10 _ (by decide) rfl
      have S11 := hc 11 _ (by decide) rfl
      have S12 := hc 12 _ (by decide) rfl
      simp only [Nat.add_zero, Nat.zero_mul, Nat.zero_add] at S0 S1 S2 S3 S4 S5 S6 S7 S8 S9 S10 S11 S12
      have HMY := Lib.hid (HM.out.later ((Below.refl _ wr).alloc (Nat.le_refl _) (.cells #[.bool t, .int .u8 x0, .int .u16 x1, .int .u32 x2, .int .u16 x3, .int .u16 x4, .int .u16 x5, .int .u16 x6, .int .u16 x7, .slice ab bs.length cb, .slice ae es.length ce, .bool bad, .bool false] 164)))
      have HBY := Lib.hid (HB.out.alloc HB.out.size (.cells #[.bool t, .int .u8 x0, .int .u16 x1, .int .u32 x2, .int .u16 x3, .int .u16 x4, .int .u16 x5, .int .u16 x6, .int .u16 x7, .slice ab bs.length cb, .slice ae es.length ce, .bool bad, .bool false] 164))
      have hY := SBox.new wr 164 #[.bool t, .int .u8 x0, .int .u16 x1, .int .u32 x2, .int .u16 x3, .int .u16 x4, .int .u16 x5, .int .u16 x6, .int .u16 x7, .slice ab bs.length cb, .slice ae es.length ce, .bool bad, .bool false]
      have Y0 := hY.cell 0
      have Y1 := hY.cell 1
      have Y2 := hY.cell 2
      have Y3 := hY.cell 3
      have Y4 := hY.cell 4
      have Y5 := hY.cell 5
      have Y6 := hY.cell 6
      have Y7 := hY.cell 7
      have Y8 := hY.cell 8
      have Y9 := hY.cell 9
      have Y10 := hY.cell 10
      have Y11 := hY.cell 11
      have Y12 := hY.cell 12
      simp only [List.getElem?_toArray, List.getElem?_cons_zero, List.getElem?_cons_succ] at Y0 Y1 Y2 Y3 Y4 Y5 Y6 Y7 Y8 Y9 Y10 Y11 Y12
      have Yl := hY.lt
      clear hY hc
      simp only at hlk h0
      cases t
      · clear hlk h0
        go_wp2_with fail
        go_roundw
        case rel => exact ⟨k + 1, by omega, rfl, by go_num, HMY.out, HBY.out⟩
        case measure => simp [intOf] <;> omega
      · rcases hlk rfl with ⟨rfl, rfl, hcn⟩ | ⟨rfl, e1, e2⟩
        · obtain ⟨nn, hm⟩ := HM.out.me
          have hlook := fun o => (hm.alloc o).look under_u32 under_met (zero_met _) ((k + 1 : Nat) : Int) (wf_u32 (k + 1) (by omega))
          have hlookD := fun o => (Img.MMap.drew (hm.alloc o)).look under_u32 under_met (zero_met _) ((k + 1 : Nat) : Int) (wf_u32 (k + 1) (by omega))
          simp only [gE_at] at hlook hlookD
          simp only [show ((k + 1 : Nat) : Int) = (k : Int) + 1 from rfl] at hlook hlookD
          have hbox := HM.out.ck.box
          have D0 := hbox.cell 0
          have D1 := hbox.cell 1
          have D2 := hbox.cell 2
          have D3 := hbox.cell 3
          have D4 := hbox.cell 4
          have D5 := hbox.cell 5
          have D6 := hbox.cell 6
          simp only [List.getElem?_toArray, List.getElem?_cons_zero, List.getElem?_cons_succ] at D0 D1 D2 D3 D4 D5 D6
          have Dl := hbox.lt
          clear hbox hm h0
          generalize List.count (k + 1) (metE l l.length) = cn at *
          have tn : ((cn : Int) == (cn : Int)) = true := by simp
          have tm : ((cn : Int) != (cn : Int)) = false := by simp
          go_wp2_with fail
          go_region
          go_wp2_with fail
          go_roundw
          case rel => exact ⟨k + 1, by omega, rfl, by go_num, HMY.out.later (Below.refl _ _).drew, HBY.out.drew⟩
          case measure => simp [intOf] <;> omega
        · rw [h0 rfl] at e1 e2
          simp only at e1 e2
          subst e1 e2
          clear hlk h0
          go_wp2_with fail
          go_roundw
          case rel => exact ⟨0 + 1, by omega, rfl, rfl, HMY.out, HBY.out⟩
          case measure => simp [intOf] <;> omega
    · obtain rfl : k = l.length := by omega
      go_wp2
      go_ret
      exact ⟨rfl, HB.out⟩
end
end Go.Proofs.YtpnfkilfgdnogaaGreatDoor.Img
end
section
namespace Go.Proofs.YtpnfkilfgdnogaaGreatDoor.Img
set_option linter.unusedVariables false
set_option linter.unusedSimpArgs false
open Go.RowKit Go.Shelf Go.Maps Oct Dev Jou Tx Geo Ino Bm Dir Ck
section
variable {C M gi bl gj mm bm : Nat} {v : Value} {l : List Sn} {w W W' : World}
structure MetB (W : World) (C M gi bl gj mm bm : Nat) (v : Value) (l : List Sn) : Prop where
  ck : CkAt W C M gi bl gj v mm bm l
  mb : ∃ nn, MMap 39 .u16 W bm nn (gB (metB l l.length))
theorem MetB.later (h : MetB W C M gi bl gj mm bm v l) (hb : Below W.heap.size W W') : MetB W' C M gi bl gj mm bm v l := ⟨h.ck.later hb, by obtain ⟨nn, m⟩ := h.mb; exact ⟨nn, m.later hb⟩⟩
theorem own_len (bt : Nat → Bool) (P : List (Nat × Nat)) (k : Nat) : (upTo (ownF bt P) k).length ≤ k * 1 := upTo_len k fun q _ => by
  unfold ownF
  split <;> simp
set_option maxRecDepth 100000 in
set_option maxHeartbeats 4000000 in
theorem owners_is (bt : Nat → Bool) (w : World) (h : MetB w C M gi bl gj mm bm v l) (hbl : bl ≤ 100)
    (TK : ∀ b W, Below w.heap.size w W → 1 ≤ b → b ≤ bl → Calls Tryz.prog 37 #[.pointer (some ⟨M, 0, none⟩), .int .u16 b] W fun e w' => e = .returned (.tuple #[.bool (bt b), .int .i64 0]) ∧ Below W.heap.size W w') :
    Calls Tryz.prog 88 #[.pointer (some ⟨C, 0, none⟩)] w fun e w' => ∃ v', e = .returned v' ∧ OwnF w.heap.size (upTo (ownF bt (metB l l.length)) bl) v' w' ∧ Below w.heap.size w w' := by
  obtain ⟨i0, hi0, hz0, hz1, hz2⟩ := info_parts info_flt
  have H := Lib.hid h
  have TK := Lib.hid TK
  clear h
  go_enter Tryz.func88, Tryz.ntmps88
  go_wp2_with fail
  go_loopw [2, 3] (fun o c wr => ∃ k : Nat, k ≤ bl ∧ c = .int .i64 (k + 1) ∧ OwnF w.heap.size (upTo (ownF bt (metB l l.length)) k) o wr ∧ Below w.heap.size w wr) (fun _ c _ => 102 - (intOf c).toNat)
  case atStart => exact ⟨0, Nat.zero_le _, rfl, World.ownsRow_nil _ _ _ _, Below.refl _ _⟩
  case round =>
    obtain ⟨k, hk, rfl, hO, hB⟩ := hrel
    have HO := Lib.hid hO
    have HB := Lib.hid hB
    have HM := Lib.hid (H.out.later hB)
    clear hO hB
    have hlen := own_len bt (metB l l.length) k
    have HSTEP : Hid (upTo (ownF bt (metB l l.length)) (k + 1) = upTo (ownF bt (metB l l.length)) k ++ (if (bt (k + 1) = true ∧ cntP (metB l l.length) (k + 1) ≠ 1) ∨ (bt (k + 1) = false ∧ 0 < cntP (metB l l.length) (k + 1)) then [(7, fstP (metB l l.length) (k + 1), k + 1)] else [])) := Lib.hid rfl
    have hbox := HM.out.ck.box
    have D0 := hbox.cell 0
    have D1 := hbox.cell 1
    have D2 := hbox.cell 2
    have D3 := hbox.cell 3
    have D4 := hbox.cell 4
    have D5 := hbox.cell 5
    have D6 := hbox.cell 6
    simp only [List.getElem?_toArray, List.getElem?_cons_zero, List.getElem?_cons_succ] at D0 D1 D2 D3 D4 D5 D6
    have Dl := hbox.lt
    clear hbox
    by_cases hlt : k < bl
    · have q1 : (k : Int) + 1 ≤ bl := by omega
      have TK1 := Lib.hid (TK.out (k + 1) _ HB.out (by omega) (by omega))
      generalize hfs : upTo (ownF bt (metB l l.length)) k = fs at *
      go_wp2_with fail
      refine TK1.out.mono ?_
      rintro e w1 ⟨rfl, b1⟩
      have HM1 := Lib.hid (HM.out.later b1)
      have HO1 := Lib.hid (row_later HO.out b1)
      have HB1 := Lib.hid (HB.out.trans (b1.mono HB.out.size))
      obtain ⟨nn, hm⟩ := HM1.out.mb
      have hlook := hm.look under_u16 under_blk (zero_met _) ((k + 1 : Nat) : Int) (wf_u16 (k + 1) (by omega))
      rw [gB_at] at hlook
      rw [show ((k + 1 : Nat) : Int) = (k : Int) + 1 from rfl] at hlook
      have hbox := HM1.out.ck.box
      clear b1 TK1 D0 D1 D2 D3 D4 D5 D6 Dl hm
      have D0 := hbox.cell 0
      have D1 := hbox.cell 1
      have D2 := hbox.cell 2
      have D3 := hbox.cell 3
      have D4 := hbox.cell 4
      have D5 := hbox.cell 5
      have D6 := hbox.cell 6
      simp only [List.getElem?_toArray, List.getElem?_cons_zero, List.getElem?_cons_succ] at D0 D1 D2 D3 D4 D5 D6
      have Dl := hbox.lt
      clear hbox
      generalize cntP (metB l l.length) (k + 1) = cn at *
      generalize fstP (metB l l.length) (k + 1) = fn at *
      have hX := SBox.new w1 231 #[.int .i64 cn, .int .u32 fn]
      have X0 := hX.cell 0
      have X1 := hX.cell 1
      simp only [List.getElem?_toArray, List.getElem?_cons_zero, List.getElem?_cons_succ] at X0 X1
      have Xl := hX.lt
      clear hX
      have HOX := Lib.hid (World.ownsRow.alloc HO1.out (.cells #[.int .i64 cn, .int .u32 fn] 231))
      have HBX := Lib.hid (HB1.out.alloc HB1.out.size (.cells #[.int .i64 cn, .int .u32 fn] 231))
      have hF := SBox.new (w1.alloc (.cells #[.int .i64 cn, .int .u32 fn] 231)) 83 #[.int .u8 (7 : Nat), .int .u32 fn, .int .i64 (k + 1 : Nat)]
      rw [World.size_alloc] at hF
      rcases hb : bt (k + 1) with _ | _
      · simp only [hb] at *
        by_cases hc : 0 < cn
        · have t1 : decide ((cn : Int) > 0) = true := by simp; omega
          have t2 : decide ((0 : Int) < cn) = true := by simp; omega
          go_wp2_with (at_builtin; refine wpList_append_lies _ rfl _ _ 74 rfl (w.heap.size) 83 i0 (.agg #[.int .u8 0, .int .u32 0, .int .i64 0]) 3 16 Tryz.underlying74 hi0 hz0 hz1 hz2 rfl (by decide) _ (fs).length (fltCells (fs)) rfl (World.ownsRow.alloc HOX.out _) ⟨w1.heap.size + 1, 0, none⟩ 1 1 [.int .u8 ((7 : Nat)), .int .u32 (fn), .int .i64 ((k + 1 : Nat))] rfl rfl (World.news_of_block hF) (by intro u hu; simp at hu; rcases hu with rfl | rfl | rfl <;> rfl) (by decide) (by have := hlen; unfold maxLen; omega) (by have := hlen; omega) (by have := HBX.out.size; (try simp at this); simp; omega) _ rfl ?_; intro g9 cap9 w9 hown9 hgrow9 hat9 hlt9)
          have HON := Lib.hid (own_flt hown9)
          have HBN := Lib.hid (Below.grown (HBX.out.alloc HBX.out.size _) hgrow9 (by have := HBX.out.size; simp at this ⊢; omega) (fun k e => (HOX.out.lt k e).1))
          go_roundw
          case rel => exact ⟨k + 1, by omega, by go_num, by rw [HSTEP.out, if_pos (by (first | (simp; omega) | (simp; done) | omega))]; exact HON.out, HBN.out⟩
          case measure => simp [intOf]; omega
        · have t1 : decide ((cn : Int) > 0) = false := by simp; omega
          have t2 : decide ((0 : Int) < cn) = false := by simp; omega
          clear hF
          go_wp2_with fail
          go_roundw
          case rel => exact ⟨k + 1, by omega, by go_num, by rw [HSTEP.out, if_neg (by (first | (simp; omega) | (simp; done) | omega)), List.append_nil]; exact HOX.out, HBX.out⟩
          case measure => simp [intOf]; omega
      · simp only [hb] at *
        by_cases hc : cn = 1
        · subst hc
          clear hF
          go_wp2_with fail
          go_roundw
          case rel => exact ⟨k + 1, by omega, by go_num, by rw [HSTEP.out, if_neg (by (first | (simp; done) | (simp; omega) | omega)), List.append_nil]; exact HOX.out, HBX.out⟩
          case measure => simp [intOf]; omega
        · have t1 : ((cn : Int) == 1) = false := by simp; omega
          go_wp2_with (at_builtin; refine wpList_append_lies _ rfl _ _ 74 rfl (w.heap.size) 83 i0 (.agg #[.int .u8 0, .int .u32 0, .int .i64 0]) 3 16 Tryz.underlying74 hi0 hz0 hz1 hz2 rfl (by decide) _ (fs).length (fltCells (fs)) rfl (World.ownsRow.alloc HOX.out _) ⟨w1.heap.size + 1, 0, none⟩ 1 1 [.int .u8 ((7 : Nat)), .int .u32 (fn), .int .i64 ((k + 1 : Nat))] rfl rfl (World.news_of_block hF) (by intro u hu; simp at hu; rcases hu with rfl | rfl | rfl <;> rfl) (by decide) (by have := hlen; unfold maxLen; omega) (by have := hlen; omega) (by have := HBX.out.size; (try simp at this); simp; omega) _ rfl ?_; intro g9 cap9 w9 hown9 hgrow9 hat9 hlt9)
          have HON := Lib.hid (own_flt hown9)
          have HBN := Lib.hid (Below.grown (HBX.out.alloc HBX.out.size _) hgrow9 (by have := HBX.out.size; simp at this ⊢; omega) (fun k e => (HOX.out.lt k e).1))
          go_roundw
          case rel => exact ⟨k + 1, by omega, by go_num, by rw [HSTEP.out, if_pos (by (first | (simp; omega) | (simp; done) | omega))]; exact HON.out, HBN.out⟩
          case measure => simp [intOf]; omega
    · obtain rfl : k = bl := by omega
      go_wp2
      go_ret
      exact ⟨_, rfl, HO.out, HB.out⟩
end
end Go.Proofs.YtpnfkilfgdnogaaGreatDoor.Img
end
section
namespace Go.Proofs.YtpnfkilfgdnogaaGreatDoor.Img
set_option linter.unusedVariables false
set_option linter.unusedSimpArgs false
open Go.RowKit Go.Shelf Go.Maps Oct Dev Jou Tx Geo Ino Bm Dir Ck
def bfOf (bad : Bool) (k : Nat) : List Flt := if bad = true then [(2, k + 1, 0)] else []
theorem inos_len (l : List Sn) (k m : Nat) (h : ∀ k, (snAt l k).es.length ≤ 100) : (upTo (inoS l) k).length ≤ k * 101 := by
  refine upTo_len k fun q hq => ?_
  unfold inoS
  rw [List.length_append]
  have h1 : (upTo (entS l q (snAt l (q + 1)).es) (snAt l (q + 1)).es.length).length ≤ (snAt l (q + 1)).es.length * 1 := upTo_len _ fun r _ => by
    unfold entS
    split <;> simp
  have h2 := h (q + 1)
  have h3 : (if (snAt l (q + 1)).bad = true then [(2, q + 1, 0)] else ([] : List Flt)).length ≤ 1 := by split <;> simp
  omega
set_option maxRecDepth 100000 in
set_option maxHeartbeats 8000000 in
theorem inodes_is (C M gi bl gj mm bm : Nat) (v : Value) (l : List Sn) (w : World) (h : CkAt w C M gi bl gj v mm bm l) (hl : l.length ≤ 100) (hes : ∀ s ∈ l, s.es.length ≤ 100 ∧ ∀ e ∈ s.es, e.2 < 4294967296) :
    Calls Tryz.prog 86 #[.pointer (some ⟨C, 0, none⟩)] w fun e w' => ∃ v', e = .returned v' ∧ OwnF w.heap.size (upTo (inoS l) l.length) v' w' ∧ Below w.heap.size w w' := by
  obtain ⟨i0, hi0, hz0, hz1, hz2⟩ := info_parts info_flt
  have OF := Lib.hid (fun n W (hW : Below w.heap.size w W) (hn : n < 4294967296) => of_is C M gi bl gj mm bm n v l W (h.later hW) hn hl)
  obtain ⟨ao, cap, rfl⟩ := row_slice h.all.1
  have HK := Lib.hid h
  have HES := Lib.hid hes
  have LEN : ∀ k, (upTo (inoS l) k).length ≤ k * 101 := fun k => inos_len l k 0 (fun k => by
    unfold snAt
    split
    · exact Nat.zero_le _
    · by_cases q : k - 1 < l.length
      · have e : l.getD (k - 1) noSn = l[k - 1] := by simp [List.getD, q]
        rw [e]
        exact (hes _ (List.getElem_mem q)).1
      · have e : l.getD (k - 1) noSn = noSn := by simp [List.getD, q]
        rw [e]
        exact Nat.zero_le _)
  have LEN := Lib.hid LEN
  have hC := h.box
  have C0 := hC.cell 0
  have C1 := hC.cell 1
  have C2 := hC.cell 2
  have C3 := hC.cell 3
  have C4 := hC.cell 4
  have C5 := hC.cell 5
  have C6 := hC.cell 6
  simp only [List.getElem?_toArray, List.getElem?_cons_zero, List.getElem?_cons_succ] at C0 C1 C2 C3 C4 C5 C6
  have Cl := hC.lt
  clear hC h hes
  go_enter Tryz.func86, Tryz.ntmps86
  go_wp2_with fail
  go_loopw [2, 13] (fun o c wr => ∃ k : Nat, k ≤ l.length ∧ c = .int .i64 k ∧ OwnF w.heap.size (upTo (inoS l) k) o wr ∧ Below w.heap.size w wr) (fun _ c _ => 101 - (intOf c).toNat)
  case atStart => exact ⟨0, Nat.zero_le _, rfl, World.ownsRow_nil _ _ _ _, Below.refl _ _⟩
  case round =>
    obtain ⟨k, hk, rfl, hO, hB⟩ := hrel
    have HOr := Lib.hid hO
    have HBr := Lib.hid hB
    clear hO hB
    by_cases hlt : k < l.length
    · obtain ⟨g, cap2, e, hg, hc⟩ := (HK.out.later HBr.out).all.cell hlt
      cases e
      have HE := Lib.hid ((HK.out.later HBr.out).all.2 l[k] (List.getElem_mem hlt)).2
      have HL := Lib.hid ((HK.out.later HBr.out).all.2 l[k] (List.getElem_mem hlt)).1
      have HS := Lib.hid (snAt_get l k hlt)
      have hq := HES.out l[k] (List.getElem_mem hlt)
      have HQ := Lib.hid hq.2
      have hq1 := hq.1
      have q1 : (0 : Int) ≤ k := by omega
      have q2 : (k : Int) < l.length := by omega
      have hlk := LEN.out k
      generalize l[k] = s at *
      obtain ⟨t, ⟨x0, x1, x2, x3, x4, x5, x6, x7⟩, vb, ve, bad, bs, es⟩ := s
      simp only at HE HL hq1 HQ
      have S0 := hc 0 _ (by decide) rfl
      have S1 := hc 1 _ (by decide) rfl
      have S2 := hc 2 _ (by decide) rfl
      have S3 := hc 3 _ (by decide) rfl
      have S4 := hc 4 _ (by decide) rfl
      have S5 := hc 5 _ (by decide) rfl
      have S6 := hc 6 _ (by decide) rfl
      have S7 := hc 7 _ (by decide) rfl
      have S8 := hc 8 _ (by decide) rfl
      have S9 := hc 9 _ (by decide) rfl
      have S10 := hc 10 _ (by decide) rfl
      have S11 := hc 11 _ (by decide) rfl
      have S12 := hc 12 _ (by decide) rfl
      simp only [Nat.add_zero, Nat.zero_mul, Nat.zero_add] at S0 S1 S2 S3 S4 S5 S6 S7 S8 S9 S10 S11 S12
      obtain ⟨ae, ce, rfl⟩ := row_slice HE.out
      obtain ⟨ab, cb, rfl⟩ := row_slice HL.out
      have HX := Lib.hid (SBox.new wr 164 #[.bool t, .int .u8 x0, .int .u16 x1, .int .u32 x2, .int .u16 x3, .int .u16 x4, .int .u16 x5, .int .u16 x6, .int .u16 x7, .slice ab bs.length cb, .slice ae es.length ce, .bool bad, .bool false])
      have HB1 := Lib.hid (HBr.out.alloc HBr.out.size (.cells #[.bool t, .int .u8 x0, .int .u16 x1, .int .u32 x2, .int .u16 x3, .int .u16 x4, .int .u16 x5, .int .u16 x6, .int .u16 x7, .slice ab bs.length cb, .slice ae es.length ce, .bool bad, .bool false] 164))
      have HO1 := Lib.hid (World.ownsRow.alloc HOr.out (.cells #[.bool t, .int .u8 x0, .int .u16 x1, .int .u32 x2, .int .u16 x3, .int .u16 x4, .int .u16 x5, .int .u16 x6, .int .u16 x7, .slice ab bs.length cb, .slice ae es.length ce, .bool bad, .bool false] 164))
      have hX := HX.out
      have X0 := hX.cell 0
      have X1 := hX.cell 1
      have X2 := hX.cell 2
      have X3 := hX.cell 3
      have X4 := hX.cell 4
      have X5 := hX.cell 5
      have X6 := hX.cell 6
      have X7 := hX.cell 7
      have X8 := hX.cell 8
      have X9 := hX.cell 9
      have X10 := hX.cell 10
      have X11 := hX.cell 11
      have X12 := hX.cell 12
      simp only [List.getElem?_toArray, List.getElem?_cons_zero, List.getElem?_cons_succ] at X0 X1 X2 X3 X4 X5 X6 X7 X8 X9 X10 X11 X12
      have Xl := hX.lt
      clear hX hc
      have HINO : Hid (inoS l k = bfOf bad k ++ upTo (entS l k es) es.length) := Lib.hid (by unfold inoS bfOf; rw [HS.out])
      have hne := own_ne (HX.out.alloc (.cells #[.int .u8 (2 : Nat), .int .u32 (k + 1 : Nat), .int .i64 (0 : Nat)] 83)) (World.ownsRow.alloc HO1.out (.cells #[.int .u8 (2 : Nat), .int .u32 (k + 1 : Nat), .int .i64 (0 : Nat)] 83)) (by decide)
      have fth := field_there
      have hbl : (bfOf bad k).length ≤ 1 := by unfold bfOf; split <;> simp
      cases bad
      · have HOa : Hid (OwnF w.heap.size (upTo (inoS l) k ++ bfOf false k) _ _) := Lib.hid (by rw [show upTo (inoS l) k ++ bfOf false k = upTo (inoS l) k by simp [bfOf]]; exact HO1.out)
        have HBa := Lib.hid HB1.out
        clear HX HO1 HB1 hne
        go_wp2_with fail
        go_loopw [2, 38] (fun o c wr2 => ∃ j : Nat, j ≤ es.length ∧ c = .int .i64 j ∧ OwnF w.heap.size (upTo (inoS l) k ++ bfOf false k ++ upTo (entS l k es) j) o wr2 ∧ Below w.heap.size w wr2) (fun _ c _ => 101 - (intOf c).toNat)
        case atStart => exact ⟨0, Nat.zero_le _, rfl, by rw [show upTo (entS l k es) 0 = [] from rfl, List.append_nil]; exact HOa.out, HBa.out⟩
        case round =>
          obtain ⟨j, hj, rfl, hO2, hB2⟩ := hrel
          have HO2 := Lib.hid hO2
          have HB2 := Lib.hid hB2
          clear hO2 hB2
          by_cases hlt2 : j < es.length
          · have hE := ((HK.out.later HB2.out).all.sn (k + 1)).2
            rw [HS.out] at hE
            obtain ⟨g2, cap3, e, hg2, hc2⟩ := row_cell hE (by simp only; omega)
            cases e
            obtain ⟨E1, u, E0⟩ := ent_cell es j hlt2
            have c1 := hc2 _ _ E1
            have c0 := hc2 _ _ E0
            have q2n := HQ.out es[j] (List.getElem_mem hlt2)
            have HSTEP : Hid (upTo (entS l k es) (j + 1) = upTo (entS l k es) j ++ (if es[j].2 < 2 ∨ (snAt l es[j].2).t = false then [(4, k + 1, j)] else [])) := Lib.hid (by
              have e0 : es.getD j ([], 0) = es[j] := by simp [List.getD, hlt2]
              have e1 : upTo (entS l k es) (j + 1) = upTo (entS l k es) j ++ entS l k es j := rfl
              rw [e1]
              unfold entS
              rw [e0])
            have hl2 : (upTo (inoS l) k ++ bfOf false k ++ upTo (entS l k es) j).length ≤ 20000 := by
              rw [List.length_append, List.length_append]
              have : (upTo (entS l k es) j).length ≤ j * 1 := upTo_len j (fun r _ => by unfold entS; split <;> simp)
              have hq1' := hq1
              omega
            generalize hfs : upTo (inoS l) k ++ bfOf false k ++ upTo (entS l k es) j = fs at *
            generalize es[j] = ej at *
            obtain ⟨nm, n⟩ := ej
            simp only at c1 q2n HSTEP
            have p1 : (0 : Int) ≤ j := by omega
            have p2 : (j : Int) < es.length := by omega
            have HOY := Lib.hid (World.ownsRow.alloc HO2.out (.cells #[.string u, .int .u32 n] 216))
            have HBY := Lib.hid (HB2.out.alloc HB2.out.size (.cells #[.string u, .int .u32 n] 216))
            have hY := SBox.new wr 216 #[.string u, .int .u32 n]
            have Y0 := hY.cell 0
            have Y1 := hY.cell 1
            simp only [List.getElem?_toArray, List.getElem?_cons_zero, List.getElem?_cons_succ] at Y0 Y1
            have Yl := hY.lt
            clear hY hc2 E0 E1 hE
            by_cases hn2 : n < 2
            · have t2 : decide ((n : Int) < 2) = true := by simp; omega
              have hF := SBox.new (wr.alloc (.cells #[.string u, .int .u32 n] 216)) 83 #[.int .u8 (4 : Nat), .int .u32 (k + 1 : Nat), .int .i64 (j : Nat)]
              rw [World.size_alloc] at hF
              go_wp2_with (at_builtin; refine wpList_append_lies _ rfl _ _ 74 rfl (w.heap.size) 83 i0 (.agg #[.int .u8 0, .int .u32 0, .int .i64 0]) 3 16 Tryz.underlying74 hi0 hz0 hz1 hz2 rfl (by decide) _ (fs).length (fltCells (fs)) rfl (World.ownsRow.alloc HOY.out _) ⟨wr.heap.size + 1, 0, none⟩ 1 1 [.int .u8 ((4 : Nat)), .int .u32 ((k + 1 : Nat)), .int .i64 (j)] rfl rfl (World.news_of_block hF) (by intro u hu; simp at hu; rcases hu with rfl | rfl | rfl <;> rfl) (by decide) (by have := hl2; unfold maxLen; omega) (by have := hl2; omega) (by have := HBY.out.size; (try simp at this); simp; omega) _ rfl ?_; intro g9 cap9 w9 hown9 hgrow9 hat9 hlt9)
              have HON := Lib.hid (own_flt hown9)
              have HBN := Lib.hid (Below.grown (HBY.out.alloc HBY.out.size _) hgrow9 (by have := HBY.out.size; simp at this ⊢; omega) (fun k e => (HOY.out.lt k e).1))
              go_roundw
              case rel => exact ⟨j + 1, by omega, by go_num, by rw [HSTEP.out, if_pos (.inl hn2), ← List.append_assoc, hfs]; exact HON.out, HBN.out⟩
              case measure => simp [intOf]; omega
            · have t2 : decide ((n : Int) < 2) = false := by simp; omega
              have OF1 := OF.out n _ HBY.out q2n
              unfold Sn.val seenV at OF1
              rcases ht : (snAt l n).t with _ | _
              · rw [ht] at OF1
                go_wp2_with fail
                refine OF1.mono ?_
                rintro e w5 ⟨rfl, b5⟩
                have HO5 := Lib.hid (row_later HOY.out b5)
                have HB5 := Lib.hid (HBY.out.trans (b5.mono HBY.out.size))
                clear b5
                have hF := SBox.new w5 83 #[.int .u8 (4 : Nat), .int .u32 (k + 1 : Nat), .int .i64 (j : Nat)]
                go_wp2_with (at_builtin; refine wpList_append_lies _ rfl _ _ 74 rfl (w.heap.size) 83 i0 (.agg #[.int .u8 0, .int .u32 0, .int .i64 0]) 3 16 Tryz.underlying74 hi0 hz0 hz1 hz2 rfl (by decide) _ (fs).length (fltCells (fs)) rfl (World.ownsRow.alloc HO5.out _) ⟨w5.heap.size, 0, none⟩ 1 1 [.int .u8 ((4 : Nat)), .int .u32 ((k + 1 : Nat)), .int .i64 (j)] rfl rfl (World.news_of_block hF) (by intro u hu; simp at hu; rcases hu with rfl | rfl | rfl <;> rfl) (by decide) (by have := hl2; unfold maxLen; omega) (by have := hl2; omega) (by have := HB5.out.size; (try simp at this); simp; omega) _ rfl ?_; intro g9 cap9 w9 hown9 hgrow9 hat9 hlt9)
                have HON := Lib.hid (own_flt hown9)
                have HBN := Lib.hid (Below.grown (HB5.out.alloc HB5.out.size _) hgrow9 (by have := HB5.out.size; simp at this ⊢; omega) (fun k e => (HO5.out.lt k e).1))
                go_roundw
                case rel => exact ⟨j + 1, by omega, by go_num, by rw [HSTEP.out, if_pos (.inr ht), ← List.append_assoc, hfs]; exact HON.out, HBN.out⟩
                case measure => simp [intOf]; omega
              · rw [ht] at OF1
                go_wp2_with fail
                refine OF1.mono ?_
                rintro e w5 ⟨rfl, b5⟩
                have HO5 := Lib.hid (row_later HOY.out b5)
                have HB5 := Lib.hid (HBY.out.trans (b5.mono HBY.out.size))
                clear b5
                go_wp2_with fail
                go_roundw
                case rel => exact ⟨j + 1, by omega, by go_num, by rw [HSTEP.out, if_neg (by rw [ht]; rintro (q | q); exact hn2 q; cases q), List.append_nil, hfs]; exact HO5.out, HB5.out⟩
                case measure => simp [intOf]; omega
          · obtain rfl : j = es.length := by omega
            go_wp2_with fail
            go_roundw
            case rel => exact ⟨k + 1, by omega, by go_num, by rw [show upTo (inoS l) (k + 1) = upTo (inoS l) k ++ inoS l k from rfl, HINO.out, ← List.append_assoc]; exact HO2.out, HB2.out⟩
            case measure => simp [intOf]; omega
      · have hF := SBox.new (wr.alloc (.cells #[.bool t, .int .u8 x0, .int .u16 x1, .int .u32 x2, .int .u16 x3, .int .u16 x4, .int .u16 x5, .int .u16 x6, .int .u16 x7, .slice ab bs.length cb, .slice ae es.length ce, .bool true, .bool false] 164)) 83 #[.int .u8 (2 : Nat), .int .u32 (k + 1 : Nat), .int .i64 (0 : Nat)]
        rw [World.size_alloc] at hF
        go_wp2_with (at_builtin; refine wpList_append_lies _ rfl _ _ 74 rfl (w.heap.size) 83 i0 (.agg #[.int .u8 0, .int .u32 0, .int .i64 0]) 3 16 Tryz.underlying74 hi0 hz0 hz1 hz2 rfl (by decide) _ (upTo (inoS l) k).length (fltCells (upTo (inoS l) k)) rfl (World.ownsRow.alloc HO1.out _) ⟨wr.heap.size + 1, 0, none⟩ 1 1 [.int .u8 ((2 : Nat)), .int .u32 ((k + 1 : Nat)), .int .i64 ((0 : Nat))] rfl rfl (World.news_of_block hF) (by intro u hu; simp at hu; rcases hu with rfl | rfl | rfl <;> rfl) (by decide) (by have := hlk; unfold maxLen; omega) (by have := hlk; omega) (by have := HB1.out.size; (try simp at this); simp; omega) _ rfl ?_; intro g9 cap9 w9 hown9 hgrow9 hat9 hlt9; have HX9 := Lib.hid (SBox.kept (HX.out.alloc _) hgrow9 hne); have Z10 := HX9.out.cell 10; have Z12 := HX9.out.cell 12; have Zl := HX9.out.lt; simp only [List.getElem?_toArray, List.getElem?_cons_zero, List.getElem?_cons_succ] at Z10 Z12)
        have HOa : Hid (OwnF w.heap.size (upTo (inoS l) k ++ bfOf true k) _ w9) := Lib.hid (own_flt hown9)
        have HBa := Lib.hid (Below.grown (HB1.out.alloc HB1.out.size _) hgrow9 (by have := HB1.out.size; simp at this ⊢; omega) (fun k e => (HO1.out.lt k e).1))
        clear HX HO1 HB1 hne hown9 hgrow9 hat9 HX9
        go_loopw [2, 38] (fun o c wr2 => ∃ j : Nat, j ≤ es.length ∧ c = .int .i64 j ∧ OwnF w.heap.size (upTo (inoS l) k ++ bfOf true k ++ upTo (entS l k es) j) o wr2 ∧ Below w.heap.size w wr2) (fun _ c _ => 101 - (intOf c).toNat)
        case atStart => exact ⟨0, Nat.zero_le _, rfl, by rw [show upTo (entS l k es) 0 = [] from rfl, List.append_nil]; exact HOa.out, HBa.out⟩
        case round =>
          obtain ⟨j, hj, rfl, hO2, hB2⟩ := hrel
          have HO2 := Lib.hid hO2
          have HB2 := Lib.hid hB2
          clear hO2 hB2
          by_cases hlt2 : j < es.length
          · have hE := ((HK.out.later HB2.out).all.sn (k + 1)).2
            rw [HS.out] at hE
            obtain ⟨g2, cap3, e, hg2, hc2⟩ := row_cell hE (by simp only; omega)
            cases e
            obtain ⟨E1, u, E0⟩ := ent_cell es j hlt2
            have c1 := hc2 _ _ E1
            have c0 := hc2 _ _ E0
            have q2n := HQ.out es[j] (List.getElem_mem hlt2)
            have HSTEP : Hid (upTo (entS l k es) (j + 1) = upTo (entS l k es) j ++ (if es[j].2 < 2 ∨ (snAt l es[j].2).t = false then [(4, k + 1, j)] else [])) := Lib.hid (by
              have e0 : es.getD j ([], 0) = es[j] := by simp [List.getD, hlt2]
              have e1 : upTo (entS l k es) (j + 1) = upTo (entS l k es) j ++ entS l k es j := rfl
              rw [e1]
              unfold entS
              rw [e0])
            have hl2 : (upTo (inoS l) k ++ bfOf true k ++ upTo (entS l k es) j).length ≤ 20000 := by
              rw [List.length_append, List.length_append]
              have : (upTo (entS l k es) j).length ≤ j * 1 := upTo_len j (fun r _ => by unfold entS; split <;> simp)
              have hq1' := hq1
              omega
            generalize hfs : upTo (inoS l) k ++ bfOf true k ++ upTo (entS l k es) j = fs at *
            generalize es[j] = ej at *
            obtain ⟨nm, n⟩ := ej
            simp only at c1 q2n HSTEP
            have p1 : (0 : Int) ≤ j := by omega
            have p2 : (j : Int) < es.length := by omega
            have HOY := Lib.hid (World.ownsRow.alloc HO2.out (.cells #[.string u, .int .u32 n] 216))
            have HBY := Lib.hid (HB2.out.alloc HB2.out.size (.cells #[.string u, .int .u32 n] 216))
            have hY := SBox.new wr 216 #[.string u, .int .u32 n]
            have Y0 := hY.cell 0
            have Y1 := hY.cell 1
            simp only [List.getElem?_toArray, List.getElem?_cons_zero, List.getElem?_cons_succ] at Y0 Y1
            have Yl := hY.lt
            clear hY hc2 E0 E1 hE
            by_cases hn2 : n < 2
            · have t2 : decide ((n : Int) < 2) = true := by simp; omega
              have hF := SBox.new (wr.alloc (.cells #[.string u, .int .u32 n] 216)) 83 #[.int .u8 (4 : Nat), .int .u32 (k + 1 : Nat), .int .i64 (j : Nat)]
              rw [World.size_alloc] at hF
              go_wp2_with (at_builtin; refine wpList_append_lies _ rfl _ _ 74 rfl (w.heap.size) 83 i0 (.agg #[.int .u8 0, .int .u32 0, .int .i64 0]) 3 16 Tryz.underlying74 hi0 hz0 hz1 hz2 rfl (by decide) _ (fs).length (fltCells (fs)) rfl (World.ownsRow.alloc HOY.out _) ⟨wr.heap.size + 1, 0, none⟩ 1 1 [.int .u8 ((4 : Nat)), .int .u32 ((k + 1 : Nat)), .int .i64 (j)] rfl rfl (World.news_of_block hF) (by intro u hu; simp at hu; rcases hu with rfl | rfl | rfl <;> rfl) (by decide) (by have := hl2; unfold maxLen; omega) (by have := hl2; omega) (by have := HBY.out.size; (try simp at this); simp; omega) _ rfl ?_; intro g9 cap9 w9 hown9 hgrow9 hat9 hlt9)
              have HON := Lib.hid (own_flt hown9)
              have HBN := Lib.hid (Below.grown (HBY.out.alloc HBY.out.size _) hgrow9 (by have := HBY.out.size; simp at this ⊢; omega) (fun k e => (HOY.out.lt k e).1))
              go_roundw
              case rel => exact ⟨j + 1, by omega, by go_num, by rw [HSTEP.out, if_pos (.inl hn2), ← List.append_assoc, hfs]; exact HON.out, HBN.out⟩
              case measure => simp [intOf]; omega
            · have t2 : decide ((n : Int) < 2) = false := by simp; omega
              have OF1 := OF.out n _ HBY.out q2n
              unfold Sn.val seenV at OF1
              rcases ht : (snAt l n).t with _ | _
              · rw [ht] at OF1
                go_wp2_with fail
                refine OF1.mono ?_
                rintro e w5 ⟨rfl, b5⟩
                have HO5 := Lib.hid (row_later HOY.out b5)
                have HB5 := Lib.hid (HBY.out.trans (b5.mono HBY.out.size))
                clear b5
                have hF := SBox.new w5 83 #[.int .u8 (4 : Nat), .int .u32 (k + 1 : Nat), .int .i64 (j : Nat)]
                go_wp2_with (at_builtin; refine wpList_append_lies _ rfl _ _ 74 rfl (w.heap.size) 83 i0 (.agg #[.int .u8 0, .int .u32 0, .int .i64 0]) 3 16 Tryz.underlying74 hi0 hz0 hz1 hz2 rfl (by decide) _ (fs).length (fltCells (fs)) rfl (World.ownsRow.alloc HO5.out _) ⟨w5.heap.size, 0, none⟩ 1 1 [.int .u8 ((4 : Nat)), .int .u32 ((k + 1 : Nat)), .int .i64 (j)] rfl rfl (World.news_of_block hF) (by intro u hu; simp at hu; rcases hu with rfl | rfl | rfl <;> rfl) (by decide) (by have := hl2; unfold maxLen; omega) (by have := hl2; omega) (by have := HB5.out.size; (try simp at this); simp; omega) _ rfl ?_; intro g9 cap9 w9 hown9 hgrow9 hat9 hlt9)
                have HON := Lib.hid (own_flt hown9)
                have HBN := Lib.hid (Below.grown (HB5.out.alloc HB5.out.size _) hgrow9 (by have := HB5.out.size; simp at this ⊢; omega) (fun k e => (HO5.out.lt k e).1))
                go_roundw
                case rel => exact ⟨j + 1, by omega, by go_num, by rw [HSTEP.out, if_pos (.inr ht), ← List.append_assoc, hfs]; exact HON.out, HBN.out⟩
                case measure => simp [intOf]; omega
              · rw [ht] at OF1
                go_wp2_with fail
                refine OF1.mono ?_
                rintro e w5 ⟨rfl, b5⟩
                have HO5 := Lib.hid (row_later HOY.out b5)
                have HB5 := Lib.hid (HBY.out.trans (b5.mono HBY.out.size))
                clear b5
                go_wp2_with fail
                go_roundw
                case rel => exact ⟨j + 1, by omega, by go_num, by rw [HSTEP.out, if_neg (by rw [ht]; rintro (q | q); exact hn2 q; cases q), List.append_nil, hfs]; exact HO5.out, HB5.out⟩
                case measure => simp [intOf]; omega
          · obtain rfl : j = es.length := by omega
            go_wp2_with fail
            go_roundw
            case rel => exact ⟨k + 1, by omega, by go_num, by rw [show upTo (inoS l) (k + 1) = upTo (inoS l) k ++ inoS l k from rfl, HINO.out, ← List.append_assoc]; exact HO2.out, HB2.out⟩
            case measure => simp [intOf]; omega
    · obtain rfl : k = l.length := by omega
      go_wp2_with fail
      go_ret
      exact ⟨_, rfl, HOr.out, HBr.out⟩
end Go.Proofs.YtpnfkilfgdnogaaGreatDoor.Img
end
