/- Layer 18 (tree): Look. -/
import Derived.Test.YtmfhnhnmdeabeaaGreatM04
set_option linter.unusedVariables false
set_option linter.unusedSimpArgs false
set_option maxRecDepth 100000
section
namespace Go.Proofs.YtmfhnhnmdeabeaaGreat.Tr
open Go.RowKit Go.Shelf Go.Maps Oct Path
variable {E : TL} {room q : Nat} {S : T}
set_option maxHeartbeats 4000000 in
theorem look_any (dir : Nat) (s : ByteArray) (wz : World) (hT : TreeAt wz E room q S) (hs : s.size ≤ maxLen) (hd : dir < 4294967296) :
   Calls Tryz.prog 18 #[.pointer (some ⟨E.t, 0, none⟩), .int .u32 dir, .string s] wz fun e w' => e = .returned (.tuple #[.int .u32 (lookI S dir (L s) : Nat), .int .i64 (lookE S dir (L s) : Nat)]) ∧ Below wz.heap.size wz w' := by
 go_enter Tryz.func18, Tryz.ntmps18
 go_wp2_with fail
 refine wp_region_phi (by kernel_rfl) (fun | 0 => some 8 | 1 => some 9 | 2 => some 10 | 3 => some 11 | 4 => some 12 | 5 => some 13 | 6 => some 14 | 7 => some 15 | 8 => some 16 | 9 => some 17 | 10 => some 18 | 11 => some 19 | 12 => some 20 | 13 => some 21 | 14 => some 22 | 15 => some 7 | _ => none) (fun a => ∃ x7 x8 x9 x10 x11 x12 x13 x14 x15 x16 x17 x18 x19 x20 x21 x22 : Value, a = ⟨#[.pointer (some ⟨E.t, 0, none⟩), .int .u32 dir, .string s, .pointer (some ⟨wz.heap.size, 0, none⟩), .pointer (some ⟨wz.heap.size + 1, 0, none⟩), .pointer (some ⟨wz.heap.size + 1 + 1, 0, none⟩), .pointer (some ⟨wz.heap.size + 1 + 1 + 1, 0, none⟩), x7, x8, x9, x10, x11, x12, x13, x14, x15, x16, x17, x18, x19, x20, x21, x22, undef, undef], []⟩) (fun lst W => LookBase wz E.t dir s W ∧ (lst 14 = false → SBox W (wz.heap.size + 1 + 1 + 1) 37 #[.int .u32 0])) (fun i w1 w2 => if i = 14 then StayN (wz.heap.size + 1 + 1 + 1 + 1) w1 w2 else Below w1.heap.size w1 w2) (fun | 0 => (fun v w => v = Value.pointer (some ⟨E.t, 0, none⟩)) | 1 => (fun v w => v = Value.string s) | 2 => (fun v w => SlAt (wz.heap.size + 1 + 1 + 1 + 1) 9 ([s].map Value.string).toArray v w) | 3 => (fun v w => NamesAt (wz.heap.size + 1 + 1 + 1 + 1) [s] v w) | 4 => (fun v w => v = Value.pointer (some ⟨E.t, 0, none⟩)) | 5 => (fun v w => v = Value.int .u32 dir) | 6 => (fun v w => SlAt (wz.heap.size + 1 + 1 + 1 + 1) 37 ([dir].map fun x => Value.int .u32 (x : Nat)).toArray v w) | 7 => (fun v w => InosAt 90 (wz.heap.size + 1 + 1 + 1 + 1) E.t [dir] v w) | 8 => (fun v w => v = Value.pointer (some ⟨E.t, 0, none⟩)) | 9 => (fun v w => v = Value.int .u32 dir) | 10 => (fun v w => SlAt (wz.heap.size + 1 + 1 + 1 + 1) 37 ([dir].map fun x => Value.int .u32 (x : Nat)).toArray v w) | 11 => (fun v w => InosAt 93 (wz.heap.size + 1 + 1 + 1 + 1) E.t [dir] v w) | 12 => (fun v w => v = LookC wz.heap.size) | 13 => (fun v w => ∃ v11 v15 v19 : Value, SlAt (wz.heap.size + 1 + 1 + 1 + 1) 93 #[v11, v15, v19, LookC wz.heap.size] v w ∧ NamesAt (wz.heap.size + 1 + 1 + 1 + 1) [s] v11 w ∧ InosAt 90 (wz.heap.size + 1 + 1 + 1 + 1) E.t [dir] v15 w ∧ InosAt 93 (wz.heap.size + 1 + 1 + 1 + 1) E.t [dir] v19 w) | 14 => (fun v w => LookR S dir s (wz.heap.size + 1 + 1 + 1) v w) | 15 => (fun v w => LookR S dir s (wz.heap.size + 1 + 1 + 1) v w) | _ => (fun _ _ => True)) (by kernel_rfl) ?st (by kernel_rfl) ?AA ⟨_, _, _, _, _, _, _, _, _, _, _, _, _, _, _, _, rfl⟩ ?G0 ?step ?done
 case st =>
   intro i j v w1 w2 hi hj hij hw hp hs
   have hi : i < 16 := hi
   match j, hp with
   | 0, hp | 1, hp => exact hp
   | 2, hp =>
     have h14 : StayN (wz.heap.size + 1 + 1 + 1 + 1) w1 w2 := stay_if hs
     exact hp.stay h14
   | 3, hp =>
     have h14 : StayN (wz.heap.size + 1 + 1 + 1 + 1) w1 w2 := stay_if hs
     exact hp.stay h14
   | 4, hp | 5, hp => exact hp
   | 6, hp =>
     have h14 : StayN (wz.heap.size + 1 + 1 + 1 + 1) w1 w2 := stay_if hs
     exact hp.stay h14
   | 7, hp =>
     have h14 : StayN (wz.heap.size + 1 + 1 + 1 + 1) w1 w2 := stay_if hs
     exact hp.stay h14
   | 8, hp | 9, hp => exact hp
   | 10, hp =>
     have h14 : StayN (wz.heap.size + 1 + 1 + 1 + 1) w1 w2 := stay_if hs
     exact hp.stay h14
   | 11, hp =>
     have h14 : StayN (wz.heap.size + 1 + 1 + 1 + 1) w1 w2 := stay_if hs
     exact hp.stay h14
   | 12, hp => exact hp
   | 13, hp =>
     have h14 : StayN (wz.heap.size + 1 + 1 + 1 + 1) w1 w2 := stay_if hs
     obtain ⟨v11, v15, v19, a, b, c, d⟩ := hp
     exact ⟨v11, v15, v19, a.stay h14, b.stay h14, c.stay h14, d.stay h14⟩
   | 14, hp =>
     have hne : i ≠ 14 := hij
     exact ⟨hp.1, hp.2.later (by simpa [hne] using hs)⟩
   | 15, hp =>
     have hne : i ≠ 15 := hij
     exact absurd (hw.symm.trans (waits_all (by kernel_rfl) (by omega))) (by decide)
   | j + 16, _ => exact trivial
 case AA =>
   rintro i a v hi ⟨_, _, _, _, _, _, _, _, _, _, _, _, _, _, _, _, rfl⟩
   match i, hi with
   | 0, _ | 1, _ | 2, _ | 3, _ | 4, _ | 5, _ | 6, _ | 7, _ | 8, _ | 9, _ | 10, _ | 11, _ | 12, _ | 13, _ | 14, _ | 15, _ => exact ⟨⟨_, _, _, _, _, _, _, _, _, _, _, _, _, _, _, _, rfl⟩, fun t h => by cases h <;> exact of_decide_eq_true rfl⟩
   | i + 16, hi => exact absurd hi (by simp)
 case G0 => exact ⟨⟨(((((Below.refl _ _).alloc (Nat.le_refl _) _).alloc (by simp) _).alloc (by simp; omega) _).alloc (by simp; omega) _).drew, by simp, ((((SBox.new wz _ _).alloc _).alloc _).alloc _).drew, by simpa using (((SBox.new (wz.alloc _) _ _).alloc _).alloc _).drew, by simpa using ((SBox.new ((wz.alloc _).alloc _) _ _).alloc _).drew⟩, fun _ => by simpa using (SBox.new (((wz.alloc _).alloc _).alloc _) _ _).drew⟩
 case step =>
   rintro i a w1 lst hi ⟨x7, x8, x9, x10, x11, x12, x13, x14, x15, x16, x17, x18, x19, x20, x21, x22, rfl⟩ hl hG hp
   refine wpOp_via (fun K hK => ?_)
   match i, hi with
   | 0, _ =>
     obtain ⟨⟨hb, hsz, h3, h4, h5⟩, h6⟩ := hG
     have c0 := h3.cell 0
     simp only [List.getElem?_toArray, List.getElem?_cons_zero] at c0
     have hl0 := h3.lt
     refine wpOp_at (by rfl) rfl ?_
     go_simp
     exact hK _ _ ⟨_, rfl, ⟨⟨hb, hsz, h3, h4, h5⟩, fun q => h6 (by simpa using q)⟩, Below.refl _ _, rfl⟩
   | 1, _ =>
     obtain ⟨⟨hb, hsz, h3, h4, h5⟩, h6⟩ := hG
     have c0 := h5.cell 0
     simp only [List.getElem?_toArray, List.getElem?_cons_zero] at c0
     have hl0 := h5.lt
     refine wpOp_at (by rfl) rfl ?_
     go_simp
     exact hK _ _ ⟨_, rfl, ⟨⟨hb, hsz, h3, h4, h5⟩, fun q => h6 (by simpa using q)⟩, Below.refl _ _, rfl⟩
   | 2, _ =>
     obtain ⟨⟨hb, hsz, h3, h4, h5⟩, h6⟩ := hG
     obtain rfl : x9 = _ := hp 1 (by kernel_rfl)
     refine wpOp_at (by rfl) rfl ?_
     go_simp
     exact hK _ _ ⟨_, rfl, ⟨⟨hb.alloc (by omega) _, by simp; omega, h3.alloc _, h4.alloc _, h5.alloc _⟩, fun q => (h6 (by simpa using q)).alloc _⟩, (Below.refl _ _).alloc (Nat.le_refl _) _, _, rfl, by omega, SBox.new _ _ _⟩
   | 3, _ =>
     obtain ⟨⟨hb, hsz, h3, h4, h5⟩, h6⟩ := hG
     have e10 := hp 2 (by kernel_rfl)
     change SlAt _ _ _ x10 _ at e10
     refine wpOp_at (by rfl) rfl ?_
     go_simp
     refine Calls.mono (names_at e10 (by omega)) ?_
     rintro e w2 ⟨u, rfl, hu, hbw⟩
     exact hK _ _ ⟨_, rfl, ⟨⟨hb.trans (hbw.mono hb.size), by have := hbw.size; omega, h3.later hbw, h4.later hbw, h5.later hbw⟩, fun q => (h6 (by simpa using q)).later hbw⟩, hbw, hu⟩
   | 4, _ =>
     obtain ⟨⟨hb, hsz, h3, h4, h5⟩, h6⟩ := hG
     have c0 := h3.cell 0
     simp only [List.getElem?_toArray, List.getElem?_cons_zero] at c0
     have hl0 := h3.lt
     refine wpOp_at (by rfl) rfl ?_
     go_simp
     exact hK _ _ ⟨_, rfl, ⟨⟨hb, hsz, h3, h4, h5⟩, fun q => h6 (by simpa using q)⟩, Below.refl _ _, rfl⟩
   | 5, _ =>
     obtain ⟨⟨hb, hsz, h3, h4, h5⟩, h6⟩ := hG
     have c0 := h4.cell 0
     simp only [List.getElem?_toArray, List.getElem?_cons_zero] at c0
     have hl0 := h4.lt
     refine wpOp_at (by rfl) rfl ?_
     go_simp
     exact hK _ _ ⟨_, rfl, ⟨⟨hb, hsz, h3, h4, h5⟩, fun q => h6 (by simpa using q)⟩, Below.refl _ _, rfl⟩
   | 6, _ =>
     obtain ⟨⟨hb, hsz, h3, h4, h5⟩, h6⟩ := hG
     obtain rfl : x13 = _ := hp 5 (by kernel_rfl)
     refine wpOp_at (by rfl) rfl ?_
     go_simp
     exact hK _ _ ⟨_, rfl, ⟨⟨hb.alloc (by omega) _, by simp; omega, h3.alloc _, h4.alloc _, h5.alloc _⟩, fun q => (h6 (by simpa using q)).alloc _⟩, (Below.refl _ _).alloc (Nat.le_refl _) _, _, rfl, by omega, SBox.new _ _ _⟩
   | 7, _ =>
     obtain ⟨⟨hb, hsz, h3, h4, h5⟩, h6⟩ := hG
     obtain rfl : x12 = _ := hp 4 (by kernel_rfl)
     have e14 := hp 6 (by kernel_rfl)
     change SlAt _ _ _ x14 _ at e14
     refine wpOp_at (by rfl) rfl ?_
     go_simp
     refine Calls.mono (there_at e14 (by omega)) ?_
     rintro e w2 ⟨u, rfl, hu, hbw⟩
     exact hK _ _ ⟨_, rfl, ⟨⟨hb.trans (hbw.mono hb.size), by have := hbw.size; omega, h3.later hbw, h4.later hbw, h5.later hbw⟩, fun q => (h6 (by simpa using q)).later hbw⟩, hbw, hu⟩
   | 8, _ =>
     obtain ⟨⟨hb, hsz, h3, h4, h5⟩, h6⟩ := hG
     have c0 := h3.cell 0
     simp only [List.getElem?_toArray, List.getElem?_cons_zero] at c0
     have hl0 := h3.lt
     refine wpOp_at (by rfl) rfl ?_
     go_simp
     exact hK _ _ ⟨_, rfl, ⟨⟨hb, hsz, h3, h4, h5⟩, fun q => h6 (by simpa using q)⟩, Below.refl _ _, rfl⟩
   | 9, _ =>
     obtain ⟨⟨hb, hsz, h3, h4, h5⟩, h6⟩ := hG
     have c0 := h4.cell 0
     simp only [List.getElem?_toArray, List.getElem?_cons_zero] at c0
     have hl0 := h4.lt
     refine wpOp_at (by rfl) rfl ?_
     go_simp
     exact hK _ _ ⟨_, rfl, ⟨⟨hb, hsz, h3, h4, h5⟩, fun q => h6 (by simpa using q)⟩, Below.refl _ _, rfl⟩
   | 10, _ =>
     obtain ⟨⟨hb, hsz, h3, h4, h5⟩, h6⟩ := hG
     obtain rfl : x17 = _ := hp 9 (by kernel_rfl)
     refine wpOp_at (by rfl) rfl ?_
     go_simp
     exact hK _ _ ⟨_, rfl, ⟨⟨hb.alloc (by omega) _, by simp; omega, h3.alloc _, h4.alloc _, h5.alloc _⟩, fun q => (h6 (by simpa using q)).alloc _⟩, (Below.refl _ _).alloc (Nat.le_refl _) _, _, rfl, by omega, SBox.new _ _ _⟩
   | 11, _ =>
     obtain ⟨⟨hb, hsz, h3, h4, h5⟩, h6⟩ := hG
     obtain rfl : x16 = _ := hp 8 (by kernel_rfl)
     have e18 := hp 10 (by kernel_rfl)
     change SlAt _ _ _ x18 _ at e18
     refine wpOp_at (by rfl) rfl ?_
     go_simp
     refine Calls.mono (dirs_at e18 (by omega)) ?_
     rintro e w2 ⟨u, rfl, hu, hbw⟩
     exact hK _ _ ⟨_, rfl, ⟨⟨hb.trans (hbw.mono hb.size), by have := hbw.size; omega, h3.later hbw, h4.later hbw, h5.later hbw⟩, fun q => (h6 (by simpa using q)).later hbw⟩, hbw, hu⟩
   | 12, _ =>
     obtain ⟨⟨hb, hsz, h3, h4, h5⟩, h6⟩ := hG
     refine wpOp_at (by rfl) rfl ?_
     go_simp
     exact hK _ _ ⟨_, rfl, ⟨⟨hb, hsz, h3, h4, h5⟩, fun q => h6 (by simpa using q)⟩, Below.refl _ _, rfl⟩
   | 13, _ =>
     obtain ⟨⟨hb, hsz, h3, h4, h5⟩, h6⟩ := hG
     obtain rfl : x20 = _ := hp 12 (by kernel_rfl)
     have e11 := hp 3 (by kernel_rfl)
     change NamesAt _ _ x11 _ at e11
     have e15 := hp 7 (by kernel_rfl)
     change InosAt _ _ _ _ x15 _ at e15
     have e19 := hp 11 (by kernel_rfl)
     change InosAt _ _ _ _ x19 _ at e19
     obtain ⟨p1, b1, rfl, a1⟩ := e11
     obtain ⟨l2, p2, b2, rfl, a2⟩ := e15
     obtain ⟨l3, p3, b3, rfl, a3⟩ := e19
     unfold LookC
     refine wpOp_at (by rfl) rfl ?_
     go_simp
     exact hK _ _ ⟨_, rfl, ⟨⟨hb.alloc (by omega) _, by simp; omega, h3.alloc _, h4.alloc _, h5.alloc _⟩, fun q => (h6 (by simpa using q)).alloc _⟩, (Below.refl _ _).alloc (Nat.le_refl _) _, _, _, _, ⟨_, rfl, by omega, SBox.new _ _ _⟩, NamesAt.stay ⟨p1, b1, rfl, a1⟩ (StayN.of ((Below.refl _ _).alloc (Nat.le_refl _) _)), InosAt.stay ⟨l2, p2, b2, rfl, a2⟩ (StayN.of ((Below.refl _ _).alloc (Nat.le_refl _) _)), InosAt.stay ⟨l3, p3, b3, rfl, a3⟩ (StayN.of ((Below.refl _ _).alloc (Nat.le_refl _) _))⟩
   | 14, _ =>
     obtain ⟨⟨hb, hsz, h3, h4, h5⟩, h6⟩ := hG
     obtain rfl : x8 = _ := hp 0 (by kernel_rfl)
     obtain ⟨v11, v15, v19, ⟨b21, he21, hn21, hb21⟩, e11, e15, e19⟩ := hp 13 (by kernel_rfl)
     change x21 = _ at he21
     subst he21
     have hBa : LookBase wz E.t dir s w1 := ⟨hb, hsz, h3, h4, h5⟩
     refine wpOp_at (by rfl) rfl ?_
     go_simp
     refine Calls.mono (look_check (S := S) dir s wz w1 hT hs hd hBa (h6 hl) b21 v11 v15 v19 hb21 hn21 e11 e15 e19) ?_
     rintro e w2 ⟨u, rfl, hu, hB2, hst⟩
     exact hK _ _ ⟨_, rfl, ⟨hB2, fun q => by simp at q⟩, by rw [if_pos rfl]; exact hst, hu⟩
   | 15, _ =>
     obtain ⟨⟨hb, hsz, h3, h4, h5⟩, h6⟩ := hG
     have e22 := hp 14 (by kernel_rfl)
     change LookR _ _ _ _ x22 _ at e22
     refine wpOp_at (by rfl) rfl ?_
     go_simp
     exact hK _ _ ⟨_, rfl, ⟨⟨hb, hsz, h3, h4, h5⟩, fun q => h6 (by simpa using q)⟩, Below.refl _ _, e22⟩
   | i + 16, hi => exact absurd hi (by simp)
 case done =>
   rintro a w2 lst hl ⟨x7, x8, x9, x10, x11, x12, x13, x14, x15, x16, x17, x18, x19, x20, x21, x22, rfl⟩ ⟨⟨hb, hsz, h3, h4, h5⟩, _⟩ hp
   have e7 := hp 15 (by simp)
   change LookR _ _ _ _ x7 _ at e7
   obtain ⟨rfl, h6⟩ := e7
   have Y0 := h6.cell 0
   simp only [List.getElem?_toArray, List.getElem?_cons_zero] at Y0
   have Yf := h6.free 0
   have Yl := h6.lt
   have HB := Lib.hid hb
   have H6 := Lib.hid h6
   clear hp h3 h4 h5 h6 hb hl hT
   go_wp2_with fail
   have hz := (H6.out.set 0 (.int .u32 (lookI S dir (L s) : Nat))).cell 0
   simp only [List.setIfInBounds_toArray, List.set_cons_zero, List.getElem?_toArray, List.getElem?_cons_zero] at hz
   exact bodyPost_ret (v := .tuple #[.int .u32 (lookI S dir (L s) : Nat), .int .i64 (lookE S dir (L s) : Nat)]) (by simp [results, Tryz.results18, go_sem, hz]) rfl ⟨rfl, HB.out.setCell (p := ⟨wz.heap.size + 1 + 1 + 1, 0, none⟩) (by show wz.heap.size ≤ wz.heap.size + 1 + 1 + 1; omega) _⟩
end Go.Proofs.YtmfhnhnmdeabeaaGreat.Tr
end
