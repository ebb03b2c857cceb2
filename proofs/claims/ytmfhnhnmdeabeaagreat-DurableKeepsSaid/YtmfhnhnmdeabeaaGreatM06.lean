/- Layer 18 (tree): fresh, New; an inode that is made. -/
import Derived.Test.YtmfhnhnmdeabeaaGreatM04
set_option linter.unusedVariables false
set_option linter.unusedSimpArgs false
set_option maxRecDepth 100000
section
namespace Go.Proofs.YtmfhnhnmdeabeaaGreat.Tr
open Go.RowKit Go.Shelf Go.Maps Oct Path
variable {E : TL} {room q : Nat} {S : T}
def DropC (n : Nat) : Value := .func (.func 65) #[] #[.pointer (some ⟨n, 0, none⟩), .pointer (some ⟨n + 1, 0, none⟩)]
def DropBase (wz : World) (t x : Nat) (W : World) : Prop := Below wz.heap.size wz W ∧ wz.heap.size + 2 ≤ W.heap.size ∧ SBox W wz.heap.size 27 #[.pointer (some ⟨t, 0, none⟩)] ∧ SBox W (wz.heap.size + 1) 37 #[.int .u32 x]
def dropE (S : T) (x : Nat) : Nat := firstE [errB ((S.n x).kind == 0) 3, errB ((S.n x).held == 0) 3]
def dropS (S : T) (x : Nat) : T := if dropE S x = 0 then freeS ⟨setN S.n x { S.n x with held := (S.n x).held - 1 }, S.l⟩ x else S
theorem dropE_ok {S : T} {x : Nat} (h : dropE S x = 0) : (S.n x).kind ≠ 0 ∧ (S.n x).held ≠ 0 := by
 unfold dropE at h
 by_cases e : (S.n x).kind = 0
 · simp [firstE, errB, e] at h
 · by_cases e2 : (S.n x).held = 0
   · simp [firstE, errB, e, e2] at h
   · exact ⟨e, e2⟩
theorem check_drop (t b x : Nat) (w : World) (hT : TreeAt w E room q S) (hx : x < 4294967296) (l p b0 a c : Nat) (hb : SBox w b 93 #[.func (.func 90) #[] #[.pointer (some ⟨l, 0, none⟩), .pointer (some ⟨p, 0, none⟩)], .func (.func 65) #[] #[.pointer (some ⟨a, 0, none⟩), .pointer (some ⟨c, 0, none⟩)]])
   (h1 : SBox w l 63 #[.slice (some ⟨b0, 0, none⟩) 1 1]) (h2 : SBox w p 27 #[.pointer (some ⟨E.t, 0, none⟩)]) (h3 : SBox w b0 37 #[.int .u32 x]) (h4 : SBox w a 27 #[.pointer (some ⟨E.t, 0, none⟩)]) (h5 : SBox w c 37 #[.int .u32 x]) :
   Calls Tryz.prog 46 #[.pointer (some ⟨t, 0, none⟩), .slice (some ⟨b, 0, none⟩) 2 2] w fun e w' => e = .returned (.int .i64 (dropE S x : Nat)) ∧ Below w.heap.size w w' := by
 refine check_pure t b 2 (fun | 0 => 90 | _ => 65) (fun | 0 => #[.pointer (some ⟨l, 0, none⟩), .pointer (some ⟨p, 0, none⟩)] | _ => #[.pointer (some ⟨a, 0, none⟩), .pointer (some ⟨c, 0, none⟩)])
   [errB ((S.n x).kind == 0) 3, errB ((S.n x).held == 0) 3] (by simp) _ w hb ?_ ?_ ?_
 · intro i hi
   match i, hi with
   | 0, _ => rfl
   | 1, _ => rfl
   | i + 2, hi => exact absurd hi (by simp)
 · intro i W hi
   match i, hi with
   | 0, _ => exact enters_of Tryz.func90 (by kernel_rfl) rfl _ W
   | 1, _ => exact enters_of Tryz.func65 (by kernel_rfl) rfl _ W
   | i + 2, hi => exact absurd hi (by simp)
 · intro i W hi hB hz
   match i, hi with
   | 0, _ =>
     obtain ⟨l', p', e, hc⟩ := there_call (n := 0) (w := W) (xs := [x]) ⟨l, p, b0, rfl, Nat.zero_le _, Nat.zero_le _, Nat.zero_le _, h1.later hB, h2.later hB, h3.later hB⟩ (hT.later hB) (by simpa using hx) (by simp)
     cases e
     refine hc.mono ?_
     rintro e w2 ⟨rfl, hb2⟩
     exact ⟨by simp, hb2⟩
   | 1, _ =>
     have hk : (S.n x).kind ≠ 0 := fun e => by have := hz 0 (by omega); simp [errB, e] at this
     exact drop1_any a c x hx hk W (hT.later hB) (h4.later hB) (h5.later hB)
   | i + 2, hi => exact absurd hi (by simp)
set_option maxHeartbeats 4000000 in
theorem drop_any (wz : World) (hT : TreeAt wz E room q S) (x : Nat) (hx : x < 4294967296) :
   Calls Tryz.prog 28 #[.pointer (some ⟨E.t, 0, none⟩), .int .u32 x] wz fun e w' => e = .returned (.int .i64 (dropE S x : Nat)) ∧ TreeAt w' E room q (dropS S x) ∧ Tch E.O wz w' := by
 go_enter Tryz.func28, Tryz.ntmps28
 go_wp2_with fail
 refine wp_region_phi (by kernel_rfl) (fun | 0 => some 6 | 1 => some 7 | 2 => some 8 | 3 => some 9 | 4 => some 10 | 5 => some 11 | 6 => some 12 | 7 => some 13 | 8 => some 5 | _ => none) (fun a => ∃ x5 x6 x7 x8 x9 x10 x11 x12 x13 : Value, a = ⟨#[.pointer (some ⟨E.t, 0, none⟩), .int .u32 x, .pointer (some ⟨wz.heap.size, 0, none⟩), .pointer (some ⟨wz.heap.size + 1, 0, none⟩), .int .i64 0, x5, x6, x7, x8, x9, x10, x11, x12, x13, undef, undef, undef, undef, undef, undef, undef, undef, undef, undef, undef, undef, undef, undef, undef, undef, undef, undef], []⟩) (fun lst W => DropBase wz E.t x W) (fun i w1 w2 => Below w1.heap.size w1 w2) (fun | 0 => (fun v w => v = Value.pointer (some ⟨E.t, 0, none⟩)) | 1 => (fun v w => v = Value.pointer (some ⟨E.t, 0, none⟩)) | 2 => (fun v w => v = Value.int .u32 x) | 3 => (fun v w => SlAt 0 37 ([x].map fun x => Value.int .u32 (x : Nat)).toArray v w) | 4 => (fun v w => InosAt 90 0 E.t [x] v w) | 5 => (fun v w => v = DropC wz.heap.size) | 6 => (fun v w => ∃ v10 : Value, SlAt 0 93 #[v10, DropC wz.heap.size] v w ∧ InosAt 90 0 E.t [x] v10 w) | 7 => (fun v w => v = .int .i64 (dropE S x : Nat)) | 8 => (fun v w => v = .int .i64 (dropE S x : Nat)) | _ => (fun _ _ => True)) (by kernel_rfl) ?st (by kernel_rfl) ?AA ⟨_, _, _, _, _, _, _, _, _, rfl⟩ ?G0 ?step ?done
 case st =>
   intro i j v w1 w2 hi hj hij hw hp hs
   have hi : i < 9 := hi
   match j, hp with
   | 0, hp | 1, hp | 2, hp => exact hp
   | 3, hp =>
     exact hp.stay (StayN.of hs)
   | 4, hp =>
     exact hp.stay (StayN.of hs)
   | 5, hp => exact hp
   | 6, hp =>
     obtain ⟨v10, a, b⟩ := hp
     exact ⟨v10, a.stay (StayN.of hs), b.stay (StayN.of hs)⟩
   | 7, hp | 8, hp => exact hp
   | j + 9, _ => exact trivial
 case AA =>
   rintro i a v hi ⟨_, _, _, _, _, _, _, _, _, rfl⟩
   match i, hi with
   | 0, _ | 1, _ | 2, _ | 3, _ | 4, _ | 5, _ | 6, _ | 7, _ | 8, _ => exact ⟨⟨_, _, _, _, _, _, _, _, _, rfl⟩, fun t h => by cases h <;> exact of_decide_eq_true rfl⟩
   | i + 9, hi => exact absurd hi (by simp)
 case G0 => exact ⟨(((Below.refl _ _).alloc (Nat.le_refl _) _).alloc (by simp) _).drew, by simp, ((SBox.new wz _ _).alloc _).drew, by simpa using (SBox.new (wz.alloc _) _ _).drew⟩
 case step =>
   rintro i a w1 lst hi ⟨x5, x6, x7, x8, x9, x10, x11, x12, x13, rfl⟩ hl hG hp
   refine wpOp_via (fun K hK => ?_)
   match i, hi with
   | 0, _ =>
     obtain ⟨hb, hsz, h3, h4⟩ := hG
     have c0 := h3.cell 0
     simp only [List.getElem?_toArray, List.getElem?_cons_zero] at c0
     have hl0 := h3.lt
     refine wpOp_at (by rfl) rfl ?_
     go_simp
     exact hK _ _ ⟨_, rfl, ⟨hb, hsz, h3, h4⟩, Below.refl _ _, rfl⟩
   | 1, _ =>
     obtain ⟨hb, hsz, h3, h4⟩ := hG
     have c0 := h3.cell 0
     simp only [List.getElem?_toArray, List.getElem?_cons_zero] at c0
     have hl0 := h3.lt
     refine wpOp_at (by rfl) rfl ?_
     go_simp
     exact hK _ _ ⟨_, rfl, ⟨hb, hsz, h3, h4⟩, Below.refl _ _, rfl⟩
   | 2, _ =>
     obtain ⟨hb, hsz, h3, h4⟩ := hG
     have c0 := h4.cell 0
     simp only [List.getElem?_toArray, List.getElem?_cons_zero] at c0
     have hl0 := h4.lt
     refine wpOp_at (by rfl) rfl ?_
     go_simp
     exact hK _ _ ⟨_, rfl, ⟨hb, hsz, h3, h4⟩, Below.refl _ _, rfl⟩
   | 3, _ =>
     obtain ⟨hb, hsz, h3, h4⟩ := hG
     obtain rfl : x8 = _ := hp 2 (by kernel_rfl)
     refine wpOp_at (by rfl) rfl ?_
     go_simp
     exact hK _ _ ⟨_, rfl, ⟨hb.alloc (by omega) _, by simp; omega, h3.alloc _, h4.alloc _⟩, (Below.refl _ _).alloc (Nat.le_refl _) _, _, rfl, Nat.zero_le _, SBox.new _ _ _⟩
   | 4, _ =>
     obtain ⟨hb, hsz, h3, h4⟩ := hG
     obtain rfl : x7 = _ := hp 1 (by kernel_rfl)
     have e9 := hp 3 (by kernel_rfl)
     change SlAt _ _ _ x9 _ at e9
     refine wpOp_at (by rfl) rfl ?_
     go_simp
     refine Calls.mono (there_at e9 (Nat.zero_le _)) ?_
     rintro e w2 ⟨u, rfl, hu, hbw⟩
     exact hK _ _ ⟨_, rfl, ⟨hb.trans (hbw.mono hb.size), by have := hbw.size; omega, h3.later hbw, h4.later hbw⟩, hbw, hu⟩
   | 5, _ =>
     obtain ⟨hb, hsz, h3, h4⟩ := hG
     refine wpOp_at (by rfl) rfl ?_
     go_simp
     exact hK _ _ ⟨_, rfl, ⟨hb, hsz, h3, h4⟩, Below.refl _ _, rfl⟩
   | 6, _ =>
     obtain ⟨hb, hsz, h3, h4⟩ := hG
     obtain rfl : x11 = _ := hp 5 (by kernel_rfl)
     have e10 := hp 4 (by kernel_rfl)
     change InosAt _ _ _ _ x10 _ at e10
     obtain ⟨l2, p2, b2, rfl, a2⟩ := e10
     unfold DropC
     refine wpOp_at (by rfl) rfl ?_
     go_simp
     exact hK _ _ ⟨_, rfl, ⟨hb.alloc (by omega) _, by simp; omega, h3.alloc _, h4.alloc _⟩, (Below.refl _ _).alloc (Nat.le_refl _) _, _, ⟨_, rfl, Nat.zero_le _, SBox.new _ _ _⟩, InosAt.stay ⟨l2, p2, b2, rfl, a2⟩ (StayN.of ((Below.refl _ _).alloc (Nat.le_refl _) _))⟩
   | 7, _ =>
     obtain ⟨hb, hsz, h3, h4⟩ := hG
     obtain rfl : x6 = _ := hp 0 (by kernel_rfl)
     obtain ⟨v10, ⟨b12, he12, hn12, hb12⟩, e10⟩ := hp 6 (by kernel_rfl)
     change x12 = _ at he12
     subst he12
     obtain ⟨l2, p2, b2, rfl, _, _, _, a5, a6, a7⟩ := e10
     refine wpOp_at (by rfl) rfl ?_
     go_simp
     refine Calls.mono (check_drop E.t b12 x w1 (hT.later hb) hx l2 p2 b2 wz.heap.size (wz.heap.size + 1) hb12 a5 a6 a7 h3 h4) ?_
     rintro e w2 ⟨rfl, hbw⟩
     exact hK _ _ ⟨_, rfl, ⟨hb.trans (hbw.mono hb.size), by have := hbw.size; omega, h3.later hbw, h4.later hbw⟩, hbw, rfl⟩
   | 8, _ =>
     obtain ⟨hb, hsz, h3, h4⟩ := hG
     obtain rfl : x13 = _ := hp 7 (by kernel_rfl)
     refine wpOp_at (by rfl) rfl ?_
     go_simp
     exact hK _ _ ⟨_, rfl, ⟨hb, hsz, h3, h4⟩, Below.refl _ _, rfl⟩
   | i + 9, hi => exact absurd hi (by simp)
 case done =>
   rintro a w2 lst hl ⟨x5, x6, x7, x8, x9, x10, x11, x12, x13, rfl⟩ ⟨hb, hsz, h3, h4⟩ hp
   obtain rfl : x5 = _ := hp 8 (by simp)
   have HB := Lib.hid hb
   have HT := Lib.hid (hT.later hb)
   have X0 := h3.cell 0
   have X1 := h4.cell 0
   simp only [List.getElem?_toArray, List.getElem?_cons_zero] at X0 X1
   have Xl0 := h3.lt
   have Xl1 := h4.lt
   have H3 := Lib.hid h3
   have H4 := Lib.hid h4
   clear hp h3 h4 hb hsz hl hT
   by_cases h0 : dropE S x = 0
   · have H0 := Lib.hid h0
     obtain ⟨k0, k2⟩ := dropE_ok h0
     have LK := HT.out.drew.look_is hx k0
     have hY := HT.out.top
     have Y0 := hY.cell 0
     have Y1 := hY.cell 1
     simp only [List.getElem?_toArray, List.getElem?_cons_zero, List.getElem?_cons_succ] at Y0 Y1
     have Yl := hY.lt
     have hV := HT.out.nd x k0
     have HV := Lib.hid hV
     have V0 := hV.cell 0
     have V1 := hV.cell 1
     have V2 := hV.cell 2
     have V3 := hV.cell 3
     have V4 := hV.cell 4
     have V5 := hV.cell 5
     have V6 := hV.cell 6
     simp only [List.getElem?_toArray, List.getElem?_cons_zero, List.getElem?_cons_succ] at V0 V1 V2 V3 V4 V5 V6
     have Vl := hV.lt
     have F5 := hV.free 5
     have hm : (((S.n x).held - 1 : Nat) : Int) = ((S.n x).held : Int) - 1 := by omega
     have hT2 : TreeAt (w2.setCell ⟨E.P x, 5, none⟩ (.int .i64 (((S.n x).held : Int) - 1))).drew E room q ⟨setN S.n x { S.n x with held := (S.n x).held - 1 }, S.l⟩ := (HT.out.node k0 { S.n x with held := (S.n x).held - 1 } rfl rfl (by
         have := HV.out.set 5 (.int .i64 (((S.n x).held : Int) - 1))
         rw [hm]
         simpa using this) (fun b hb _ => heap_setCell_other w2 ⟨E.P x, 5, none⟩ b _ hb) ⟨(HT.out.lk x).1, by have := (HT.out.lk x).2; show (S.n x).held - 1 ≤ 100000; omega⟩).drew
     have FR := Lib.hid (free_any hT2 x hx (by show (setN S.n x _ x).kind ≠ 0; rw [setN_same]; exact k0))
     have OP := Lib.hid (HT.out.own.2.2 x k0).1
     have nP : wz.heap.size ≠ E.P x := fun e => by have := H3.out; have h9 := HV.out; unfold SBox at this h9; rw [e, h9] at this; cases this
     have nP1 : wz.heap.size + 1 ≠ E.P x := fun e => by have := H4.out; have h9 := HV.out; unfold SBox at this h9; rw [e, h9] at this; cases this
     have b3 := (H3.out.other (.int .i64 (((S.n x).held : Int) - 1)) (i := 5) nP).drew
     have b4 := (H4.out.other (.int .i64 (((S.n x).held : Int) - 1)) (i := 5) nP1).drew
     have Z0 := b3.cell 0
     have Z1 := b4.cell 0
     simp only [List.getElem?_toArray, List.getElem?_cons_zero] at Z0 Z1
     rw [h0]
     have hl2 := (HT.out.lk x).2
     clear hY hV HV HT k0 h0 hT2 b3 b4 hm nP nP1 H3 H4
     obtain ⟨h, eh⟩ : ∃ h, (S.n x).held = h := ⟨_, rfl⟩
     rw [eh] at V5 hl2 k2
     have FR2 := FR
     rw [eh] at FR2 Z0 Z1
     have EH := Lib.hid eh
     clear eh FR
     go_wp2_with fail
     go_region
     go_wp2_with fail
     refine Calls.mono FR2.out ?_
     rintro e w8 ⟨rfl, hT8, tc8⟩
     have T8 := Lib.hid hT8
     have C8 := Lib.hid tc8
     clear hT8 tc8
     go_wp2_with fail
     go_ret
     exact ⟨by rw [H0.out]; rfl, by unfold dropS; rw [if_pos H0.out, EH.out]; exact T8.out, ((Tch.of HB.out).trans ((Tch.cell OP.out).trans Tch.drew)).trans C8.out⟩
   · have t0 : ((dropE S x : Int) == 0) = false := by simp; omega
     have H0 := Lib.hid h0
     clear h0
     go_wp2_with fail
     go_ret
     exact ⟨rfl, by unfold dropS; rw [if_neg H0.out]; exact HT.out, Tch.of HB.out⟩
end Go.Proofs.YtmfhnhnmdeabeaaGreat.Tr
end
section
namespace Go.Proofs.YtmfhnhnmdeabeaaGreat.Tr
open Go.RowKit Go.Shelf Go.Maps Oct Path
variable {E : TL} {room q : Nat} {S : T}
structure FreshAt (w w' : World) (k p a b : Nat) : Prop where
 nd : SBox w' p 101 #[.int .u8 k, .int .i64 (k / 2 : Nat), .int .u32 0, .map (some a), .map (some b), .int .i64 0, .int .u32 0]
 ent : VMap w' 9 a 0 (fun _ => none)
 pg : VMap w' 3 b 0 (fun _ => none)
 lo : w.heap.size ≤ p ∧ w.heap.size ≤ a ∧ w.heap.size ≤ b
 ne : a ≠ b
 bel : Below w.heap.size w w'
theorem fresh_any (k : Nat) (hk : k = 1 ∨ k = 2) (w : World) :
   Calls Tryz.prog 21 #[.int .u8 k] w fun e w' => ∃ p a b, e = .returned (.pointer (some ⟨p, 0, none⟩)) ∧ FreshAt w w' k p a b := by
 have hB := (((Below.refl _ w).alloc (Nat.le_refl _) (.map #[] 0)).alloc (by simp) (.map #[] 0)).alloc (by simp; omega) (.cells #[.int .u8 k, .int .i64 (k / 2 : Nat), .int .u32 0, .map (some w.heap.size), .map (some (w.heap.size + 1)), .int .i64 0, .int .u32 0] 101)
 have hN := SBox.new ((w.alloc (.map #[] 0)).alloc (.map #[] 0)) 101 #[.int .u8 k, .int .i64 (k / 2 : Nat), .int .u32 0, .map (some w.heap.size), .map (some (w.heap.size + 1)), .int .i64 0, .int .u32 0]
 have hA := ((VMap.new w 9).alloc (.map #[] 0)).alloc (.cells #[.int .u8 k, .int .i64 (k / 2 : Nat), .int .u32 0, .map (some w.heap.size), .map (some (w.heap.size + 1)), .int .i64 0, .int .u32 0] 101)
 have hM := (VMap.new (w.alloc (.map #[] 0)) 3).alloc (.cells #[.int .u8 k, .int .i64 (k / 2 : Nat), .int .u32 0, .map (some w.heap.size), .map (some (w.heap.size + 1)), .int .i64 0, .int .u32 0] 101)
 simp only [World.size_alloc] at hN hM
 have F := Lib.hid (⟨hN, hA, hM, by omega, by omega, hB⟩ : FreshAt w _ k _ _ _)
 clear hB hN hA hM
 have hmm := @run_makeMap Tryz.prog
 rcases hk with rfl | rfl
 · go_enter Tryz.func21, Tryz.ntmps21
   go_wp2
   go_ret
   exact ⟨_, _, _, rfl, F.out⟩
 · go_enter Tryz.func21, Tryz.ntmps21
   go_wp2
   go_ret
   exact ⟨_, _, _, rfl, F.out⟩
def updN (f : Nat → Nat) (x v : Nat) : Nat → Nat := fun y => if y = x then v else f y
def TL.add (E : TL) (x p a b : Nat) : TL := ⟨E.t, E.m, updN E.P x p, updN E.A x a, updN E.B x b, fun c => E.O c ∨ c = p ∨ c = a ∨ c = b⟩
theorem natF_some {kd : IntKind} {g : Nat → Option Value} {k : Lit} (h : (natF kd g k).isSome = true) : ∃ y : Nat, k = .int kd y ∧ (g y).isSome = true := by
 cases k with
 | int k z =>
   unfold natF at h
   dsimp only at h
   by_cases hz : k = kd ∧ 0 ≤ z
   · rw [if_pos hz] at h
     exact ⟨z.toNat, by rw [hz.1, Int.toNat_of_nonneg hz.2], h⟩
   · rw [if_neg hz] at h; cases h
 | _ => cases h
theorem pageB_nil (k : Nat) : pageB [] k = zero64 := by
 unfold pageB zero64
 rw [List.eq_replicate_iff]
 refine ⟨by simp, fun x hx => ?_⟩
 obtain ⟨i, _, rfl⟩ := List.mem_map.1 hx
 rfl
theorem pgOk_nil : PgOk [] (fun _ => none) := ⟨fun k v h => (by cases h), fun k _ => pageB_nil k⟩
theorem TreeAt.born {W0 W : World} (h0 : TreeAt W0 E room q S) {x k p a b : Nat} (F : FreshAt W0 W k p a b) (hk : k = 1 ∨ k = 2) (hx : (S.n x).kind = 0) (hx1 : 1 ≤ x) (hxr : x ≤ room) (hL : ∀ s, S.l x s = 0) (hr : ∀ y, (S.n y).kind ≠ 0 → 1 ≤ y ∧ y ≤ room) :
   ∃ W', (Instr.mapUpdate 51 (.map (some E.m)) (.int .u32 x) (.pointer (some ⟨p, 0, none⟩))).run Tryz.prog W = .ok () W' ∧ TreeAt W' (E.add x p a b) room q ⟨setN S.n x ⟨k, k / 2, 0, 0, []⟩, S.l⟩ ∧ W.mapTurned W' E.m := by
 have h := h0.later F.bel
 have hrm := h0.rm
 obtain ⟨W', hrun, h1, h2⟩ := h.map.put kU32 Tryz.underlying51 (by unfold maxLen; omega) (key32 (x := x) (by omega)) (.pointer (some ⟨p, 0, none⟩))
 refine ⟨W', hrun, ?_, h2⟩
 have o := h.own
 obtain ⟨es, clk, hmap⟩ := h.map.isMap
 have k0 : k ≠ 0 := by omega
 have hks : ∀ y, (setN S.n x ⟨k, k / 2, 0, 0, []⟩ y).kind ≠ 0 → y ≠ x → (S.n y).kind ≠ 0 := fun y hy e => by rw [setN_other _ _ e] at hy; exact hy
 have old : ∀ y, (S.n y).kind ≠ 0 → E.P y < W0.heap.size ∧ E.A y < W0.heap.size ∧ E.B y < W0.heap.size := fun y hy => by
   obtain ⟨g, _, g2⟩ := h0.pg y hy
   exact ⟨(h0.nd y hy).lt, (h0.ent y hy).lt, g2.lt⟩
 have hlo := F.lo
 have mlt := h0.map.lt
 have tlt := h0.top.lt
 have noM : ∀ {c : Nat} {t : TypeId} {cs : Array Value}, SBox W c t cs → c ≠ E.m := fun hc e => by unfold SBox at hc; rw [e, hmap] at hc; cases hc
 refine { top := ?_, map := ?_, nd := ?_, ent := ?_, pg := ?_, own := ?_, iP := ?_, iA := ?_, iB := ?_, iAB := ?_, iM := ?_, rm := h.rm, q8 := h.q8, lk := ?_, dt := ?_ }
 · exact (turned_block h2 (noM h.top)).trans h.top
 · rw [natF_put] at h1
   have ee : (fun y => if y = x then some (Value.pointer (some ⟨p, 0, none⟩)) else nodeF E S y) = nodeF (E.add x p a b) ⟨setN S.n x ⟨k, k / 2, 0, 0, []⟩, S.l⟩ := by
     funext y
     simp only [nodeF, TL.add, updN, ptr]
     by_cases e : y = x
     · subst e; simp [setN, k0]
     · simp [setN, e]
   rw [ee] at h1
   have := h1.tight kU32 ((List.range 256).map fun i => Lit.int .u32 ((i + 1 : Nat) : Int)) (fun kl _ hs => by
     obtain ⟨y, rfl, hy⟩ := natF_some hs
     have hy2 : (setN S.n x ⟨k, k / 2, 0, 0, []⟩ y).kind ≠ 0 := fun e => by
       simp only [nodeF] at hy
       rw [if_pos e] at hy
       cases hy
     have hy3 : 1 ≤ y ∧ y ≤ room := by
       by_cases e : y = x
       · subst e; exact ⟨hx1, hxr⟩
       · exact hr y (hks y hy2 e)
     exact List.mem_map.2 ⟨y - 1, by simp; omega, by rw [show y - 1 + 1 = y by omega]⟩)
   have hl : ((List.range 256).map fun i => Lit.int .u32 ((i + 1 : Nat) : Int)).length = 256 := by simp
   rw [hl] at this
   exact this
 · intro y hy
   simp only [TL.add, updN]
   by_cases e : y = x
   · subst e
     simp only [setN_same, if_true]
     exact (turned_block h2 (noM F.nd)).trans F.nd
   · simp only [setN_other _ _ e, if_neg e]
     have hy' := hks y hy e
     exact (turned_block h2 (noM (h.nd y hy'))).trans (h.nd y hy')
 · intro y hy
   simp only [TL.add, updN]
   by_cases e : y = x
   · subst e
     simp only [if_true]
     have ee : strF (entF (S.l y)) = fun _ => none := by
       funext kl
       cases kl with
       | string s => simp [strF, entF, hL]
       | _ => rfl
     rw [ee]
     exact (F.ent.mono (Nat.zero_le _)).block (turned_block h2 (by omega))
   · simp only [if_neg e]
     have hy' := hks y hy e
     exact (h.ent y hy').block (turned_block h2 (h.iM y hy').2.1)
 · intro y hy
   simp only [TL.add, updN]
   by_cases e : y = x
   · subst e
     simp only [setN_same, if_true]
     refine ⟨fun _ => none, pgOk_nil, ?_⟩
     have ee : natF .i64 (pgF fun _ => none) = fun _ => none := by
       funext kl
       cases kl with
       | int k z => simp [natF, pgF]
       | _ => rfl
     rw [ee]
     exact (F.pg.mono (by omega)).block (turned_block h2 (by omega))
   · simp only [setN_other _ _ e, if_neg e]
     have hy' := hks y hy e
     obtain ⟨g, g1, g2⟩ := h.pg y hy'
     exact ⟨g, g1, g2.block (turned_block h2 (h.iM y hy').2.2)⟩
 · refine ⟨.inl o.1, .inl o.2.1, fun y hy => ?_⟩
   simp only [TL.add, updN]
   by_cases e : y = x
   · subst e; simp
   · simp only [if_neg e]
     have := o.2.2 y (hks y hy e)
     exact ⟨.inl this.1, .inl this.2.1, .inl this.2.2⟩
 · intro u v hu hv
   simp only [TL.add, updN]
   by_cases e : u = x <;> by_cases f : v = x
   · intro _; rw [e, f]
   · rw [if_pos e, if_neg f]; intro q; have := old v (hks v hv f); omega
   · rw [if_neg e, if_pos f]; intro q; have := old u (hks u hu e); omega
   · rw [if_neg e, if_neg f]; exact h.iP u v (hks u hu e) (hks v hv f)
 · intro u v hu hv
   simp only [TL.add, updN]
   by_cases e : u = x <;> by_cases f : v = x
   · intro _; rw [e, f]
   · rw [if_pos e, if_neg f]; intro q; have := old v (hks v hv f); omega
   · rw [if_neg e, if_pos f]; intro q; have := old u (hks u hu e); omega
   · rw [if_neg e, if_neg f]; exact h.iA u v (hks u hu e) (hks v hv f)
 · intro u v hu hv
   simp only [TL.add, updN]
   by_cases e : u = x <;> by_cases f : v = x
   · intro _; rw [e, f]
   · rw [if_pos e, if_neg f]; intro q; have := old v (hks v hv f); omega
   · rw [if_neg e, if_pos f]; intro q; have := old u (hks u hu e); omega
   · rw [if_neg e, if_neg f]; exact h.iB u v (hks u hu e) (hks v hv f)
 · intro u v hu hv
   simp only [TL.add, updN]
   have hne := F.ne
   by_cases e : u = x <;> by_cases f : v = x
   · rw [if_pos e, if_pos f]; exact hne
   · rw [if_pos e, if_neg f]; intro q; have := old v (hks v hv f); omega
   · rw [if_neg e, if_pos f]; intro q; have := old u (hks u hu e); omega
   · rw [if_neg e, if_neg f]; exact h.iAB u v (hks u hu e) (hks v hv f)
 · intro u hu
   simp only [TL.add, updN]
   by_cases e : u = x
   · simp only [if_pos e]; exact ⟨by omega, by omega, by omega⟩
   · simp only [if_neg e]; exact h.iM u (hks u hu e)
 · intro y
   by_cases e : y = x
   · subst e; simp only [setN_same]; exact ⟨by rcases hk with rfl | rfl <;> decide, by decide⟩
   · simp only [setN_other _ _ e]; exact h.lk y
 · intro y
   by_cases e : y = x
   · subst e; simp only [setN_same]; decide
   · simp only [setN_other _ _ e]; exact h.dt y
end Go.Proofs.YtmfhnhnmdeabeaaGreat.Tr
end
