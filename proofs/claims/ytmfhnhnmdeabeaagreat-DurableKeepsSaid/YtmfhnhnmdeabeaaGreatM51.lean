/- The reference of layer 22 (rec): Play, over the reference's tree. -/
import Derived.Test.YtmfhnhnmdeabeaaGreatM50
set_option linter.unusedVariables false
set_option linter.unusedSimpArgs false
set_option maxRecDepth 100000
section
namespace Go.Proofs.YtmfhnhnmdeabeaaGreat.Re
open Go.RowKit Go.Shelf Go.Maps Oct Path Tr
variable {R g room q : Nat} {S : T} {es : Nat → List Ent} {pa : Nat → Option Addr} {ca : Nat → Nat}
set_option maxHeartbeats 400000 in
theorem play22_1 (wz : World) (h : RtM wz R g room q S es pa ca) (hI : Inv room S) (hq : q < 1000) (r : Rc) (hm : May r) (ho : r.op = 1) :
   Calls Tryz.prog 16 #[.pointer (some ⟨R, 0, none⟩), recV r] wz (ErAns g wz (Ok room r S) fun w' => RtA w' R g room (q + 1) (next r S)) := by
 have mi := hm.ino
 have hrm := h.rm.2
 have hg := h.g_lt
 have hR := h.top.lt
 have H := Lib.hid h
 have HI := Lib.hid hI
 have HO := Lib.hid ho
 have B0 := Lib.hid ((Below.refl wz.heap.size wz).alloc (Nat.le_refl _) (.cells (recC r) 39))
 have X0 := Lib.hid (SBox.new wz 39 (recC r))
 obtain ⟨m1, m2, m3⟩ := hm.ent (by rw [ho]; rfl)
 have mk := hm.knd (by rw [ho]; rfl)
 have MA := Lib.hid (fun W hb => makeAt18 W (h.later hb) hI r.dir r.ino r.kind (by omega) mi.1 mi.2 mk (B r.name) (name_max m3) m3 hq)
 rw [L_B] at MA
 have HMK := Lib.hid mk
 unfold recV recC
 unfold recC at B0 X0
 rw [ho] at B0 X0 ⊢
 clear h hm hI ho
 go_enter Tryz.func16, Tryz.ntmps16
 go_wp2_with fail
 refine Calls.mono (MA.out _ B0.out) ?_
 rintro e w2 ⟨er, rfl, hT, hf⟩
 have HF := Lib.hid hf
 have HT := Lib.hid hT
 have X2 := Tch.box hT X0.out (fun e => by omega)
 have C0 := X2.cell 0
 have C1 := X2.cell 1
 have C2 := X2.cell 2
 have C3 := X2.cell 3
 have C4 := X2.cell 4
 have C5 := X2.cell 5
 have C6 := X2.cell 6
 have C7 := X2.cell 7
 have C8 := X2.cell 8
 have C9 := X2.cell 9
 have C10 := X2.cell 10
 have C11 := X2.cell 11
 simp only [List.getElem?_toArray, List.getElem?_cons_zero, List.getElem?_cons_succ] at C0 C1 C2 C3 C4 C5 C6 C7 C8 C9 C10 C11
 have Cl := X2.lt
 have XL := X2.lt
 have XX := Lib.hid X2
 have hsz := hT.size
 clear hf hT X2
 by_cases e0 : er = 0
 · subst e0
   obtain ⟨⟨p1, p2, p3, p4⟩, es2, pa2, ca2, p5⟩ := HF.out rfl
   rcases HMK.out with mk | mk
   · have hn0 : ((⟨setN S.n r.ino ⟨r.kind, 1, 0, 0, []⟩, setL S.l r.dir r.name r.ino⟩ : T).n r.ino).held = 0 := by simp [setN]
     have HD := Lib.hid (hold18 w2 p5 r.ino (by omega) hn0)
     have kb : ((r.kind : Int) == 1) = true := by rw [mk]; rfl
     have OKP : Hid (Ok room r S) := Lib.hid (by rw [ok_1 HO.out]; exact ⟨p1, p2, p3, mi.1, p4⟩)
     have MK := Lib.hid mk
     clear hn0 mk p1 p2 p3 p4 p5
     go_wp2_with fail
     refine Calls.mono HD.out ?_
     rintro e w3 ⟨er, rfl, hT, hf⟩
     have HF2 := Lib.hid hf
     have HT2 := Lib.hid hT
     clear hf hT
     go_wp2_with fail
     go_ret
     refine ⟨er, rfl, ((Tr.Tch.of B0.out).trans HT.out).trans HT2.out, fun e0 => ?_⟩
     obtain ⟨_, hA⟩ := HF2.out e0
     refine ⟨OKP.out, ?_⟩
     show RtA w3 R g room (q + 1) (next r S)
     rw [next_1 HO.out]
     refine hA.mem rfl fun y => ?_
     by_cases e : y = r.ino
     · subst e
       simp only [setN_same]
       rw [if_pos MK.out]
       exact ⟨rfl, rfl, rfl⟩
     · simp only [setN_other _ _ e]
       exact Mem.rfl' _
   · have kb : ((r.kind : Int) == 1) = false := by rw [mk]; rfl
     have OKP : Hid (Ok room r S) := Lib.hid (by rw [ok_1 HO.out]; exact ⟨p1, p2, p3, mi.1, p4⟩)
     have P5 : Hid (RtA w2 R g room (q + 1) ⟨setN S.n r.ino ⟨r.kind, 1, 0, 0, []⟩, setL S.l r.dir r.name r.ino⟩) := Lib.hid ⟨_, _, _, p5⟩
     have MK := Lib.hid mk
     clear mk p1 p2 p3 p4 p5
     go_wp2_with fail
     go_ret
     refine ErAns.yes ((Tr.Tch.of B0.out).trans HT.out) OKP.out ?_
     rw [next_1 HO.out]
     refine P5.out.mem rfl fun y => ?_
     by_cases e : y = r.ino
     · subst e
       simp only [setN_same]
       rw [if_neg (by rw [MK.out]; decide)]
       exact ⟨rfl, rfl, rfl⟩
     · simp only [setN_other _ _ e]
       exact Mem.rfl' _
 · have t1 : ((er : Int) == 0) = false := by simp; omega
   have HE := Lib.hid e0
   clear e0
   go_wp2_with fail
   go_ret
   exact ErAns.no HE.out ((Tr.Tch.of B0.out).trans HT.out)
set_option maxHeartbeats 400000 in
theorem play22_2 (wz : World) (h : RtM wz R g room q S es pa ca) (hI : Inv room S) (hq : q < 1000) (r : Rc) (hm : May r) (ho : r.op = 2) :
   Calls Tryz.prog 16 #[.pointer (some ⟨R, 0, none⟩), recV r] wz (ErAns g wz (Ok room r S) fun w' => RtA w' R g room (q + 1) (next r S)) := by
 have mi := hm.ino
 have hrm := h.rm.2
 have hg := h.g_lt
 have hR := h.top.lt
 have H := Lib.hid h
 have HI := Lib.hid hI
 have HO := Lib.hid ho
 have B0 := Lib.hid ((Below.refl wz.heap.size wz).alloc (Nat.le_refl _) (.cells (recC r) 39))
 have X0 := Lib.hid (SBox.new wz 39 (recC r))
 obtain ⟨m1, m2, m3⟩ := hm.ent (by rw [ho]; rfl)
 have LN := Lib.hid (fun W hb => link18 W (h.later hb) hI r.dir r.ino (by omega) mi.1 mi.2 (B r.name) (name_max m3) m3 hq)
 rw [L_B] at LN
 unfold recV recC
 unfold recC at B0 X0
 rw [ho] at B0 X0 ⊢
 clear h hm hI ho
 go_enter Tryz.func16, Tryz.ntmps16
 go_wp2_with fail
 refine Calls.mono (LN.out _ B0.out) ?_
 rintro e w2 ⟨er, rfl, hT, hf⟩
 have HF := Lib.hid hf
 have HT := Lib.hid hT
 clear hf hT
 go_wp2_with fail
 go_ret
 refine ⟨er, rfl, (Tr.Tch.of B0.out).trans HT.out, fun e0 => ?_⟩
 have hF := HF.out e0
 obtain ⟨⟨p1, p2, p3, p4⟩, hA⟩ := hF
 refine ⟨?_, ?_⟩
 · rw [ok_2 HO.out]
   exact ⟨p1, p2, p3, by rw [← cnt_links HI.out H.out.rows p3]; exact p4⟩
 · show RtA w2 R g room (q + 1) (next r S)
   rw [next_2 HO.out]
   refine hA.mem rfl fun y => ?_
   by_cases e : y = r.ino
   · subst e
     simp only [setN_same]
     exact ⟨rfl, rfl, rfl⟩
   · simp only [setN_other _ _ e]
     exact Mem.rfl' _
set_option maxHeartbeats 400000 in
theorem play22_3 (wz : World) (h : RtM wz R g room q S es pa ca) (hI : Inv room S) (hq : q < 1000) (r : Rc) (hm : May r) (ho : r.op = 3) :
   Calls Tryz.prog 16 #[.pointer (some ⟨R, 0, none⟩), recV r] wz (ErAns g wz (Ok room r S) fun w' => RtA w' R g room (q + 1) (next r S)) := by
 have mi := hm.ino
 have hrm := h.rm.2
 have hg := h.g_lt
 have hR := h.top.lt
 have H := Lib.hid h
 have HI := Lib.hid hI
 have HO := Lib.hid ho
 have B0 := Lib.hid ((Below.refl wz.heap.size wz).alloc (Nat.le_refl _) (.cells (recC r) 39))
 have X0 := Lib.hid (SBox.new wz 39 (recC r))
 have UN := Lib.hid (fun W hb => unlink22 W (h.later hb) hI r hm ho)
 unfold recV recC at UN
 rw [ho] at UN
 unfold recV recC
 unfold recC at B0 X0
 rw [ho] at B0 X0 ⊢
 clear h hm hI ho
 go_enter Tryz.func16, Tryz.ntmps16
 go_wp2_with fail
 refine Calls.mono (UN.out _ B0.out) ?_
 rintro e w2 ⟨er, rfl, hT, hf⟩
 have HF := Lib.hid hf
 have HT := Lib.hid hT
 clear hf hT
 go_wp2_with fail
 go_ret
 refine ⟨er, rfl, (Tr.Tch.of B0.out).trans HT.out, fun e0 => ?_⟩
 have hF := HF.out e0
 exact ⟨hF.1, RtA.mono hF.2 (Nat.le_succ _) hq⟩
set_option maxHeartbeats 400000 in
theorem play22_4 (wz : World) (h : RtM wz R g room q S es pa ca) (hI : Inv room S) (hq : q < 1000) (r : Rc) (hm : May r) (ho : r.op = 4) :
   Calls Tryz.prog 16 #[.pointer (some ⟨R, 0, none⟩), recV r] wz (ErAns g wz (Ok room r S) fun w' => RtA w' R g room (q + 1) (next r S)) := by
 have mi := hm.ino
 have hrm := h.rm.2
 have hg := h.g_lt
 have hR := h.top.lt
 have H := Lib.hid h
 have HI := Lib.hid hI
 have HO := Lib.hid ho
 have B0 := Lib.hid ((Below.refl wz.heap.size wz).alloc (Nat.le_refl _) (.cells (recC r) 39))
 have X0 := Lib.hid (SBox.new wz 39 (recC r))
 have UN := Lib.hid (fun W hb => rename22 W (h.later hb) hI hq r hm ho)
 unfold recV recC at UN
 rw [ho] at UN
 unfold recV recC
 unfold recC at B0 X0
 rw [ho] at B0 X0 ⊢
 clear h hm hI ho
 go_enter Tryz.func16, Tryz.ntmps16
 go_wp2_with fail
 refine Calls.mono (UN.out _ B0.out) ?_
 rintro e w2 ⟨er, rfl, hT, hf⟩
 have HF := Lib.hid hf
 have HT := Lib.hid hT
 clear hf hT
 go_wp2_with fail
 go_ret
 refine ⟨er, rfl, (Tr.Tch.of B0.out).trans HT.out, fun e0 => ?_⟩
 have hF := HF.out e0
 exact hF
set_option maxHeartbeats 400000 in
theorem play22_5 (wz : World) (h : RtM wz R g room q S es pa ca) (hI : Inv room S) (hq : q < 1000) (r : Rc) (hm : May r) (ho : r.op = 5) :
   Calls Tryz.prog 16 #[.pointer (some ⟨R, 0, none⟩), recV r] wz (ErAns g wz (Ok room r S) fun w' => RtA w' R g room (q + 1) (next r S)) := by
 have mi := hm.ino
 have hrm := h.rm.2
 have hg := h.g_lt
 have hR := h.top.lt
 have H := Lib.hid h
 have HI := Lib.hid hI
 have HO := Lib.hid ho
 have B0 := Lib.hid ((Below.refl wz.heap.size wz).alloc (Nat.le_refl _) (.cells (recC r) 39))
 have X0 := Lib.hid (SBox.new wz 39 (recC r))
 have ms := hm.siz (by rw [ho]; rfl)
 have RS := Lib.hid (fun W hb => resize18 W (h.later hb) r.ino (by omega) r.size ms)
 unfold recV recC
 unfold recC at B0 X0
 rw [ho] at B0 X0 ⊢
 clear h hm hI ho
 go_enter Tryz.func16, Tryz.ntmps16
 go_wp2_with fail
 refine Calls.mono (RS.out _ B0.out) ?_
 rintro e w2 ⟨er, rfl, hT, hf⟩
 have HF := Lib.hid hf
 have HT := Lib.hid hT
 clear hf hT
 go_wp2_with fail
 go_ret
 refine ⟨er, rfl, (Tr.Tch.of B0.out).trans HT.out, fun e0 => ?_⟩
 have hF := HF.out e0
 refine ⟨?_, ?_⟩
 · rw [ok_5 HO.out]; exact hF.1
 · show RtA w2 R g room (q + 1) (next r S)
   rw [next_5 HO.out]
   exact RtA.mono hF.2 (Nat.le_succ _) hq
set_option maxHeartbeats 400000 in
theorem play22_6 (wz : World) (h : RtM wz R g room q S es pa ca) (hI : Inv room S) (hq : q < 1000) (r : Rc) (hm : May r) (ho : r.op = 6) :
   Calls Tryz.prog 16 #[.pointer (some ⟨R, 0, none⟩), recV r] wz (ErAns g wz (Ok room r S) fun w' => RtA w' R g room (q + 1) (next r S)) := by
 have mi := hm.ino
 have hrm := h.rm.2
 have hg := h.g_lt
 have hR := h.top.lt
 have H := Lib.hid h
 have HI := Lib.hid hI
 have HO := Lib.hid ho
 have B0 := Lib.hid ((Below.refl wz.heap.size wz).alloc (Nat.le_refl _) (.cells (recC r) 39))
 have X0 := Lib.hid (SBox.new wz 39 (recC r))
 have ms := hm.siz (by rw [ho]; rfl)
 obtain ⟨mp, md⟩ := hm.dat (by rw [ho]; rfl)
 have WR := Lib.hid (fun W hb => write18 W (h.later hb) r.ino (by omega) r.page mp (B r.data) (by rw [size_B]; exact md))
 rw [L_B] at WR
 unfold recV recC
 unfold recC at B0 X0
 rw [ho] at B0 X0 ⊢
 clear h hm hI ho
 go_enter Tryz.func16, Tryz.ntmps16
 go_wp2_with fail
 refine Calls.mono (WR.out _ B0.out) ?_
 rintro e w2 ⟨er, rfl, hT, hf⟩
 have HF := Lib.hid hf
 have HT := Lib.hid hT
 have X2 := Tch.box hT X0.out (fun e => by omega)
 have C0 := X2.cell 0
 have C1 := X2.cell 1
 have C2 := X2.cell 2
 have C3 := X2.cell 3
 have C4 := X2.cell 4
 have C5 := X2.cell 5
 have C6 := X2.cell 6
 have C7 := X2.cell 7
 have C8 := X2.cell 8
 have C9 := X2.cell 9
 have C10 := X2.cell 10
 have C11 := X2.cell 11
 simp only [List.getElem?_toArray, List.getElem?_cons_zero, List.getElem?_cons_succ] at C0 C1 C2 C3 C4 C5 C6 C7 C8 C9 C10 C11
 have Cl := X2.lt
 have XL := X2.lt
 have XX := Lib.hid X2
 have hsz := hT.size
 clear hf hT X2
 by_cases e0 : er = 0
 · subst e0
   obtain ⟨p1, es2, pa2, ca2, p5⟩ := HF.out rfl
   have RS := Lib.hid (resize18 w2 p5 r.ino (by omega) r.size ms)
   have P1 := Lib.hid p1
   clear p1 p5
   go_wp2_with fail
   refine Calls.mono RS.out ?_
   rintro e w3 ⟨er, rfl, hT, hf⟩
   have HF2 := Lib.hid hf
   have HT2 := Lib.hid hT
   clear hf hT
   go_wp2_with fail
   go_ret
   refine ⟨er, rfl, ((Tr.Tch.of B0.out).trans HT.out).trans HT2.out, fun e0 => ?_⟩
   obtain ⟨_, hA⟩ := HF2.out e0
   refine ⟨by rw [ok_6 HO.out]; exact P1.out, ?_⟩
   show RtA w3 R g room (q + 1) (next r S)
   rw [next_6 HO.out]
   refine RtA.mono ?_ (Nat.le_succ _) hq
   refine hA.mem rfl fun y => ?_
   by_cases e : y = r.ino
   · subst e
     simp only [setN_same]
     exact ⟨rfl, rfl, rfl⟩
   · simp only [setN_other _ _ e]
     exact Mem.rfl' _
 · have t1 : ((er : Int) != 0) = true := by simp; omega
   have HE := Lib.hid e0
   clear e0
   go_wp2_with fail
   go_ret
   exact ErAns.no HE.out ((Tr.Tch.of B0.out).trans HT.out)
set_option maxHeartbeats 400000 in
theorem play22_7 (wz : World) (h : RtM wz R g room q S es pa ca) (hI : Inv room S) (hq : q < 1000) (r : Rc) (hm : May r) (ho : r.op = 7) :
   Calls Tryz.prog 16 #[.pointer (some ⟨R, 0, none⟩), recV r] wz (ErAns g wz (Ok room r S) fun w' => RtA w' R g room (q + 1) (next r S)) := by
 have mi := hm.ino
 have hrm := h.rm.2
 have hg := h.g_lt
 have hR := h.top.lt
 have H := Lib.hid h
 have HI := Lib.hid hI
 have HO := Lib.hid ho
 have B0 := Lib.hid ((Below.refl wz.heap.size wz).alloc (Nat.le_refl _) (.cells (recC r) 39))
 have X0 := Lib.hid (SBox.new wz 39 (recC r))
 have ST := Lib.hid (fun W hb => stat18 W (h.later hb) r.ino (by omega))
 unfold recV recC
 unfold recC at B0 X0
 rw [ho] at B0 X0 ⊢
 clear h hm hI ho
 go_enter Tryz.func16, Tryz.ntmps16
 go_wp2_with fail
 refine Calls.mono (ST.out _ B0.out) ?_
 rintro e w3 ⟨rfl, hb⟩
 have B3 := Lib.hid (B0.out.trans (hb.mono B0.out.size))
 have X3 := X0.out.later hb
 have hl3 := hb.size
 have C0 := X3.cell 0
 have C1 := X3.cell 1
 have C2 := X3.cell 2
 have C3 := X3.cell 3
 have C4 := X3.cell 4
 have C5 := X3.cell 5
 have C6 := X3.cell 6
 have C7 := X3.cell 7
 have C8 := X3.cell 8
 have C9 := X3.cell 9
 have C10 := X3.cell 10
 have C11 := X3.cell 11
 simp only [List.getElem?_toArray, List.getElem?_cons_zero, List.getElem?_cons_succ] at C0 C1 C2 C3 C4 C5 C6 C7 C8 C9 C10 C11
 have Cl := X3.lt
 have XL := X3.lt
 have XX := Lib.hid X3
 clear X3 hb
 by_cases hk : (S.n r.ino).kind = 0
 · rw [show staV S es room r.ino = .agg #[.int .u32 0, .int .u8 0, .int .i64 0, .int .u32 0] by unfold staV; rw [if_pos hk], if_pos hk]
   clear hk
   go_wp2_with fail
   go_ret
   exact ErAns.no (by decide) (Tr.Tch.of (B3.out.alloc B3.out.size _))
 · obtain ⟨x1, x2⟩ := H.out.rng r.ino hk
   rw [show staV S es room r.ino = .agg #[.int .u32 r.ino, .int .u8 (S.n r.ino).kind, .int .i64 (lnkV S es r.ino room), .int .u32 (S.n r.ino).data.length] by unfold staV; rw [if_neg hk], if_neg hk]
   obtain ⟨ln, hln⟩ : ∃ ln, lnkV S es r.ino room = ln := ⟨_, rfl⟩
   rw [hln]
   have B4 := Lib.hid (B3.out.alloc B3.out.size (.cells #[.int .u32 r.ino, .int .u8 (S.n r.ino).kind, .int .i64 ln, .int .u32 (S.n r.ino).data.length] 69))
   have HLN := Lib.hid hln
   have HK := Lib.hid hk
   clear hln hk
   rcases Nat.eq_zero_or_pos ln with e | hpos
   · subst e
     have hk1 : (S.n r.ino).kind = 1 := by
       have := H.out.kd r.ino
       have := HK.out
       have h2 := HLN.out
       unfold lnkV at h2
       split at h2
       · cases h2
       · omega
     have hl0 : (S.n r.ino).links = 0 := by
       have h2 := HLN.out
       unfold lnkV at h2
       rw [if_neg (by omega)] at h2
       rw [← cnt_links HI.out H.out.rows hk1]
       exact h2
     have DR := Lib.hid (fun W hb => drop18 W (H.out.later hb) r.ino (by omega) (fun t => HI.out.noL r.ino t (by omega)))
     have HK1 := Lib.hid hk1
     have HL0 := Lib.hid hl0
     clear hk1 hl0
     go_wp2_with fail
     refine Calls.mono (DR.out _ B4.out) ?_
     rintro e w5 ⟨er, rfl, hT, hf⟩
     have HF := Lib.hid hf
     have HT := Lib.hid hT
     clear hf hT
     go_wp2_with fail
     go_ret
     refine ⟨er, rfl, (Tr.Tch.of B4.out).trans HT.out, fun e0 => ?_⟩
     obtain ⟨⟨p1, p2⟩, hA⟩ := HF.out e0
     refine ⟨by rw [ok_7 HO.out]; exact ⟨HK1.out, HL0.out, p2⟩, ?_⟩
     show RtA w5 R g room (q + 1) (next r S)
     rw [next_7 HO.out]
     have hh := H.out.hd r.ino
     have hx1 : r.ino ≠ 1 := fun e => by have := HI.out.root.1; rw [← e, HK1.out] at this; cases this
     have hn : ¬ Nam S r.ino := (HI.out.cnt r.ino HK1.out).zero.1 HL0.out
     have hf : freS ⟨setN S.n r.ino { S.n r.ino with held := 0 }, S.l⟩ r.ino = ⟨setN (setN S.n r.ino { S.n r.ino with held := 0 }) r.ino Nd.no, S.l⟩ := freS_yes (S := ⟨setN S.n r.ino { S.n r.ino with held := 0 }, S.l⟩) ⟨hx1, hn, by simp [setN]⟩
     rw [hf] at hA
     refine RtA.mono ?_ (Nat.le_succ _) hq
     refine hA.mem rfl fun y => ?_
     by_cases e : y = r.ino
     · subst e
       simp only [setN_same]
       unfold fre
       rw [if_pos ⟨by show (S.n r.ino).held - 1 = 0; omega, HL0.out⟩]
       exact Mem.rfl' _
     · simp only [setN_other _ _ e]
       exact Mem.rfl' _
   · have t1 : (0 : Int) < ln := by omega
     go_wp2_with fail
     go_ret
     exact ErAns.no (by decide) (Tr.Tch.of B4.out)
theorem play22 (wz : World) (hA : RtA wz R g room q S) (hI : Inv room S) (hq : q < 1000) (r : Rc) (hm : May r) :
   Calls Tryz.prog 16 #[.pointer (some ⟨R, 0, none⟩), recV r] wz (ErAns g wz (Ok room r S) fun w' => RtA w' R g room (q + 1) (next r S)) := by
 obtain ⟨es, pa, ca, h⟩ := hA
 obtain ⟨o1, o2⟩ := hm.op
 rcases (by omega : r.op = 1 ∨ r.op = 2 ∨ r.op = 3 ∨ r.op = 4 ∨ r.op = 5 ∨ r.op = 6 ∨ r.op = 7) with ho | ho | ho | ho | ho | ho | ho
 · exact play22_1 wz h hI hq r hm ho
 · exact play22_2 wz h hI hq r hm ho
 · exact play22_3 wz h hI hq r hm ho
 · exact play22_4 wz h hI hq r hm ho
 · exact play22_5 wz h hI hq r hm ho
 · exact play22_6 wz h hI hq r hm ho
 · exact play22_7 wz h hI hq r hm ho
end Go.Proofs.YtmfhnhnmdeabeaaGreat.Re
end
