/- Layer 37 (text): a memory is made; May. -/
import Derived.Test.YtkljcgopikdjjaaGreatDoorM25
import Derived.Test.YtkljcgopikdjjaaGreatDoorM07
import Derived.Laws.MakeOwn
set_option linter.unusedVariables false
set_option linter.unusedSimpArgs false
set_option maxRecDepth 100000
section
namespace Go.Proofs.YtkljcgopikdjjaaGreatDoor.Tx
set_option maxRecDepth 100000
set_option maxHeartbeats 1000000
open Go.RowKit Go.Shelf Go.Maps Oct
def MdAt (w : World) (b i : Nat) (c : Int) : Prop := ∃ (E : Tr.TL) (fb : Nat), SBox w b 173 #[.pointer (some ⟨E.t, 0, none⟩), .pointer (some ⟨fb, 0, none⟩), .int .i64 c] ∧ Tr.TreeAt w E i 0 Tr.rootT ∧ SBox w fb 246 (fdC c)
theorem inv_root {room : Nat} (h : 2 ≤ room) : Tr.Inv room Tr.rootT := by
 have hn : ∀ x, x ≠ 1 → Tr.rootT.n x = Tr.Nd.no := fun x hx => by simp [Tr.rootT, Tr.setN, hx]
 have h1 : Tr.rootT.n 1 = ⟨2, 1, 0, 0, []⟩ := rfl;have hk : ∀ x, (Tr.rootT.n x).kind ≠ 0 → x = 1 := fun x hx => Classical.byContradiction fun e => hx (by rw [hn x e]; rfl);have hl : ∀ d s, Tr.rootT.l d s = 0 := fun _ _ => rfl;refine { k2 := fun x => ?_, no := fun x hx => ?_, noL := fun _ _ _ => rfl, fl := fun x hx => ?_, dr := fun x hx => ?_, rng := fun x hx => ?_, root := ⟨rfl, rfl⟩, ent := fun d s h => absurd rfl h, one := fun d s h => ?_, one2 := fun d s t h => ?_, upd := fun x hx h => ?_, hl := fun x hx => ?_, cnt := fun x hx => ?_, acy := ⟨fun _ => 0, fun x hx => ?_⟩ }
 · by_cases e : x = 1
   · subst e; rw [h1]; decide
   · rw [hn x e]; decide
 · by_cases e : x = 1
   · subst e; rw [h1] at hx; cases hx
   · exact hn x e
 · rw [hk x (by rw [hx]; decide), h1] at hx; cases hx
 · have e := hk x (by rw [hx]; decide); subst e; exact ⟨rfl, rfl, rfl⟩
 · have e := hk x hx; omega
 · rw [hl, hn 0 (by decide)] at h; cases h
 · rw [hl, hn 0 (by decide)] at h; cases h
 · exact absurd (hk x (by rw [hx]; decide)) h
 · rw [hk x (by rw [hx]; decide), h1] at hx; cases hx
 · rw [hk x (by rw [hx]; decide), h1] at hx; cases hx
 · by_cases e : x = 1
   · subst e; exact absurd rfl hx
   · rw [hn x e] at hx; exact absurd rfl hx
set_option maxHeartbeats 4000000 in
theorem model_new (i : Nat) (c : Int) (w : World) (h2 : 2 ≤ i) (h6 : i ≤ 256) (h1 : 1 ≤ c) (h8 : c ≤ 8) :
   Calls Tryz.prog 95 #[.int .i64 i, .int .i64 c] w fun e w' => ∃ b, e = .returned (.tuple #[ptr b, .int .i64 0]) ∧ MdAt w' b i c ∧ Below w.heap.size w w' := by
 have HT := Lib.hid (Tr.new_any i w h2 h6);have HF := Lib.hid (fun W => fds_new c W h1 h8)
 go_enter Tryz.func95, Tryz.ntmps95
 go_wp2_with fail;refine HT.out.mono ?_;rintro e w1 ⟨E, rfl, hT, hO, hB⟩;have HT1 := Lib.hid hT;have HB1 := Lib.hid hB;clear hT hO hB HT;go_wp2_with fail;refine (HF.out _).mono ?_;rintro e w2 ⟨rfl, hs, hb⟩;unfold ptr;have hN := SBox.new w2 173 #[.pointer (some ⟨E.t, 0, none⟩), .pointer (some ⟨w1.heap.size, 0, none⟩), .int .i64 c];have hb3 := (Below.refl w2.heap.size w2).alloc (Nat.le_refl _) (.cells #[.pointer (some ⟨E.t, 0, none⟩), .pointer (some ⟨w1.heap.size, 0, none⟩), .int .i64 c] 173);have HM := Lib.hid (show MdAt (w2.alloc (.cells #[.pointer (some ⟨E.t, 0, none⟩), .pointer (some ⟨w1.heap.size, 0, none⟩), .int .i64 c] 173)) w2.heap.size i c from ⟨E, w1.heap.size, hN, (HT1.out.later hb).later hb3, hs.later hb3⟩);have HB3 := Lib.hid (HB1.out.trans ((hb.mono HB1.out.size).trans (hb3.mono (Nat.le_trans HB1.out.size hb.size))));clear hs hb hN hb3;go_wp2_with fail;go_ret2;exact ⟨_, rfl, HM.out, HB3.out⟩
theorem model_bad (i : Nat) (c : Int) (w : World) (h2 : 2 ≤ i) (h6 : i ≤ 256) (h : c < 1 ∨ 8 < c) :
   Calls Tryz.prog 95 #[.int .i64 i, .int .i64 c] w fun e w' => e = .returned (.tuple #[.pointer none, .int .i64 2]) ∧ Below w.heap.size w w' := by
 have HT := Lib.hid (Tr.new_any i w h2 h6);have HF := Lib.hid (fun W => fds_bad c W h)
 go_enter Tryz.func95, Tryz.ntmps95
 go_wp2_with fail;refine HT.out.mono ?_;rintro e w1 ⟨E, rfl, -, -, hB⟩;have HB1 := Lib.hid hB;clear hB HT;go_wp2_with fail;refine (HF.out _).mono ?_;rintro e w2 ⟨rfl, rfl⟩;go_wp2_with fail;go_ret2;exact ⟨rfl, HB1.out⟩
theorem model_copy (b i : Nat) (c : Int) (w : World) (h2 : 2 ≤ i) (h : MdAt w b i c) : Calls Tryz.prog 136 #[ptr b] w fun e w' => ∃ b', e = .returned (ptr b') ∧ Below w.heap.size w w' := by
 obtain ⟨E, fb, hM, hT, hF⟩ := h;have HM := Lib.hid hM;have HT := Lib.hid hT;have HF := Lib.hid hF;have HI := Lib.hid (inv_root h2);clear hM hT hF;unfold ptr
 go_enter Tryz.func136, Tryz.ntmps136
 go_wp2_with fail;refine wp_region_phi3 (by kernel_rfl) (fun | 0 => some 5 | 1 => some 6 | 2 => some 7 | 3 => some 8 | 4 => some 9 | 5 => some 10 | 6 => some 11 | 7 => some 12 | 8 => some 13 | 9 => some 14 | 10 => some 15 | 11 => some 16 | 12 => some 17 | 13 => some 18 | 14 => some 19 | 15 => some 20 | 16 => some 21 | 17 => some 22 | 18 => some 2 | _ => none) (fun a => ∃ x2 x5 x6 x7 x8 x9 x10 x11 x12 x13 x14 x15 x16 x17 x18 x19 x20 x21 x22 : Value, a = ⟨#[.pointer (some ⟨b, 0, none⟩), undef, x2, .pointer (some ⟨b, 0, none⟩), .bool false, x5, x6, x7, x8, x9, x10, x11, x12, x13, x14, x15, x16, x17, x18, x19, x20, x21, x22], []⟩) (fun lst W' => Below w.heap.size w W') (fun _ w w' => Below w.heap.size w w') (fun | 0 => (fun f w => f 0 = Value.pointer (some ⟨b, 0, none⟩)) | 1 => (fun f w => f 1 = Value.pointer (some ⟨b, 0, none⟩)) | 2 => (fun f w => f 2 = Value.pointer (some ⟨b, 0, none⟩)) | 3 => (fun f w => f 3 = Value.pointer (some ⟨b, 0, none⟩)) | 4 => (fun f w => f 4 = Value.pointer (some ⟨E.t, 0, none⟩)) | 5 => (fun f w => ∃ p : Nat, f 5 = Value.pointer (some ⟨p, 0, none⟩)) | 6 => (fun f w => ∃ p : Nat, f 6 = Value.agg #[Value.pointer (some ⟨p, 0, none⟩)]) | 7 => (fun f w => f 7 = Value.pointer (some ⟨b, 0, none⟩)) | 8 => (fun f w => f 8 = Value.pointer (some ⟨b, 0, none⟩)) | 9 => (fun f w => f 9 = Value.pointer (some ⟨b, 1, none⟩)) | 10 => (fun f w => f 10 = Value.pointer (some ⟨fb, 0, none⟩)) | 11 => (fun f w => ∃ p : Nat, f 11 = Value.pointer (some ⟨p, 0, none⟩)) | 12 => (fun f w => f 12 = Value.pointer (some ⟨b, 0, none⟩)) | 13 => (fun f w => f 13 = Value.pointer (some ⟨b, 0, none⟩)) | 14 => (fun f w => f 14 = Value.pointer (some ⟨b, 2, none⟩)) | 15 => (fun f w => f 15 = Value.int .i64 c) | 16 => (fun f w => ∃ p q : Nat, f 16 = Value.agg #[Value.pointer (some ⟨p, 0, none⟩), Value.pointer (some ⟨q, 0, none⟩), Value.int .i64 c]) | 17 => (fun f w => ∃ p : Nat, f 17 = Value.pointer (some ⟨p, 0, none⟩)) | 18 => (fun f w => ∃ p : Nat, f 18 = Value.pointer (some ⟨p, 0, none⟩)) | _ => (fun _ _ => True)) (by kernel_rfl) ?stb ?dep (by kernel_rfl) ?AA ⟨_, _, _, _, _, _, _, _, _, _, _, _, _, _, _, _, _, _, _, rfl⟩ ?G0 ?step ?done
 case stb =>
   intro i j v w1 w2 hi hj hij hw hp hs;have hi : i < 19 := hi
   match j, hp with
   | 0, hp | 1, hp | 2, hp | 3, hp | 4, hp | 5, hp | 6, hp | 7, hp | 8, hp | 9, hp | 10, hp | 11, hp | 12, hp | 13, hp | 14, hp | 15, hp | 16, hp | 17, hp | 18, hp => exact hp
   | j + 19, _ => exact trivial
 case dep =>
   intro j f g w hj hfg hp;have hj : j < 19 := hj
   match j, hp, hfg with
   | 0, hp, hfg =>
     have hq : f 0 = Value.pointer (some ⟨b, 0, none⟩) := hp;rw [hfg 0 (by show 0 < 19; decide) (by first | exact .inl rfl | exact .inr (by kernel_rfl))] at hq;exact hq
   | 1, hp, hfg =>
     have hq : f 1 = Value.pointer (some ⟨b, 0, none⟩) := hp;rw [hfg 1 (by show 1 < 19; decide) (by first | exact .inl rfl | exact .inr (by kernel_rfl))] at hq;exact hq
   | 2, hp, hfg =>
     have hq : f 2 = Value.pointer (some ⟨b, 0, none⟩) := hp;rw [hfg 2 (by show 2 < 19; decide) (by first | exact .inl rfl | exact .inr (by kernel_rfl))] at hq;exact hq
   | 3, hp, hfg =>
     have hq : f 3 = Value.pointer (some ⟨b, 0, none⟩) := hp;rw [hfg 3 (by show 3 < 19; decide) (by first | exact .inl rfl | exact .inr (by kernel_rfl))] at hq;exact hq
   | 4, hp, hfg =>
     have hq : f 4 = Value.pointer (some ⟨E.t, 0, none⟩) := hp;rw [hfg 4 (by show 4 < 19; decide) (by first | exact .inl rfl | exact .inr (by kernel_rfl))] at hq;exact hq
   | 5, hp, hfg =>
     have hq : ∃ p : Nat, f 5 = Value.pointer (some ⟨p, 0, none⟩) := hp;rw [hfg 5 (by show 5 < 19; decide) (by first | exact .inl rfl | exact .inr (by kernel_rfl))] at hq;exact hq
   | 6, hp, hfg =>
     have hq : ∃ p : Nat, f 6 = Value.agg #[Value.pointer (some ⟨p, 0, none⟩)] := hp;rw [hfg 6 (by show 6 < 19; decide) (by first | exact .inl rfl | exact .inr (by kernel_rfl))] at hq;exact hq
   | 7, hp, hfg =>
     have hq : f 7 = Value.pointer (some ⟨b, 0, none⟩) := hp;rw [hfg 7 (by show 7 < 19; decide) (by first | exact .inl rfl | exact .inr (by kernel_rfl))] at hq;exact hq
   | 8, hp, hfg =>
     have hq : f 8 = Value.pointer (some ⟨b, 0, none⟩) := hp;rw [hfg 8 (by show 8 < 19; decide) (by first | exact .inl rfl | exact .inr (by kernel_rfl))] at hq;exact hq
   | 9, hp, hfg =>
     have hq : f 9 = Value.pointer (some ⟨b, 1, none⟩) := hp;rw [hfg 9 (by show 9 < 19; decide) (by first | exact .inl rfl | exact .inr (by kernel_rfl))] at hq;exact hq
   | 10, hp, hfg =>
     have hq : f 10 = Value.pointer (some ⟨fb, 0, none⟩) := hp;rw [hfg 10 (by show 10 < 19; decide) (by first | exact .inl rfl | exact .inr (by kernel_rfl))] at hq;exact hq
   | 11, hp, hfg =>
     have hq : ∃ p : Nat, f 11 = Value.pointer (some ⟨p, 0, none⟩) := hp;rw [hfg 11 (by show 11 < 19; decide) (by first | exact .inl rfl | exact .inr (by kernel_rfl))] at hq;exact hq
   | 12, hp, hfg =>
     have hq : f 12 = Value.pointer (some ⟨b, 0, none⟩) := hp;rw [hfg 12 (by show 12 < 19; decide) (by first | exact .inl rfl | exact .inr (by kernel_rfl))] at hq;exact hq
   | 13, hp, hfg =>
     have hq : f 13 = Value.pointer (some ⟨b, 0, none⟩) := hp;rw [hfg 13 (by show 13 < 19; decide) (by first | exact .inl rfl | exact .inr (by kernel_rfl))] at hq;exact hq
   | 14, hp, hfg =>
     have hq : f 14 = Value.pointer (some ⟨b, 2, none⟩) := hp;rw [hfg 14 (by show 14 < 19; decide) (by first | exact .inl rfl | exact .inr (by kernel_rfl))] at hq;exact hq
   | 15, hp, hfg =>
     have hq : f 15 = Value.int .i64 c := hp;rw [hfg 15 (by show 15 < 19; decide) (by first | exact .inl rfl | exact .inr (by kernel_rfl))] at hq;exact hq
   | 16, hp, hfg =>
     have hq : ∃ p q : Nat, f 16 = Value.agg #[Value.pointer (some ⟨p, 0, none⟩), Value.pointer (some ⟨q, 0, none⟩), Value.int .i64 c] := hp;rw [hfg 16 (by show 16 < 19; decide) (by first | exact .inl rfl | exact .inr (by kernel_rfl))] at hq;exact hq
   | 17, hp, hfg =>
     have hq : ∃ p : Nat, f 17 = Value.pointer (some ⟨p, 0, none⟩) := hp;rw [hfg 17 (by show 17 < 19; decide) (by first | exact .inl rfl | exact .inr (by kernel_rfl))] at hq;exact hq
   | 18, hp, hfg =>
     have hq : ∃ p : Nat, f 18 = Value.pointer (some ⟨p, 0, none⟩) := hp;rw [hfg 18 (by show 18 < 19; decide) (by first | exact .inl rfl | exact .inr (by kernel_rfl))] at hq;exact hq
   | j + 19, _, _ => exact trivial
 case AA =>
   rintro i a v hi ⟨_, _, _, _, _, _, _, _, _, _, _, _, _, _, _, _, _, _, _, rfl⟩
   match i, hi with
   | 0, _ | 1, _ | 2, _ | 3, _ | 4, _ | 5, _ | 6, _ | 7, _ | 8, _ | 9, _ | 10, _ | 11, _ | 12, _ | 13, _ | 14, _ | 15, _ | 16, _ | 17, _ | 18, _ => exact ⟨⟨_, _, _, _, _, _, _, _, _, _, _, _, _, _, _, _, _, _, _, rfl⟩, fun t h => by cases h <;> exact of_decide_eq_true rfl⟩
   | i + 19, hi => exact absurd hi (by simp)
 case G0 => exact (Below.refl _ _).drew
 case step =>
   rintro i a w1 lst hi ⟨x2, x5, x6, x7, x8, x9, x10, x11, x12, x13, x14, x15, x16, x17, x18, x19, x20, x21, x22, rfl⟩ hl hcl hG hp;refine wpOp_via (fun K hK => ?_)
   match i, hi with
   | 0, _ =>
     have hb := hG;refine wpOp_at (by rfl) rfl ?_;go_simp;exact hK _ _ ⟨_, rfl, hb, Below.refl _ _, rfl⟩
   | 1, _ =>
     have hb := hG;obtain rfl : x5 = _ := hp 0 (by kernel_rfl);refine wpOp_at (by rfl) rfl ?_;go_simp;exact hK _ _ ⟨_, rfl, hb, Below.refl _ _, rfl⟩
   | 2, _ =>
     have hb := hG;obtain rfl : x6 = _ := hp 1 (by kernel_rfl);refine wpOp_at (by rfl) rfl ?_;go_simp;exact hK _ _ ⟨_, rfl, hb, Below.refl _ _, rfl⟩
   | 3, _ =>
     have hb := hG;obtain rfl : x7 = _ := hp 2 (by kernel_rfl);refine wpOp_at (by rfl) rfl ?_;go_simp;exact hK _ _ ⟨_, rfl, hb, Below.refl _ _, rfl⟩
   | 4, _ =>
     have hb := hG;obtain rfl : x8 = _ := hp 3 (by kernel_rfl);have hc := (HM.out.later hb).cell 0;simp only [List.getElem?_toArray, List.getElem?_cons_zero, List.getElem?_cons_succ] at hc;refine wpOp_at (by rfl) rfl ?_;go_simp;exact hK _ _ ⟨_, rfl, hb, Below.refl _ _, rfl⟩
   | 5, _ =>
     have hb := hG;obtain rfl : x9 = _ := hp 4 (by kernel_rfl);refine wpOp_at (by rfl) rfl ?_;go_simp;refine Calls.mono (Tr.copy_any w1 (HT.out.later hb) HI.out) ?_;rintro e w2 ⟨E2, rfl, -, -, h3⟩;exact hK _ _ ⟨_, rfl, hb.trans (h3.mono hb.size), h3, _, rfl⟩
   | 6, _ =>
     have hb := hG;obtain ⟨p5, e10⟩ := hp 5 (by kernel_rfl);change x10 = _ at e10;subst e10;refine wpOp_at (by rfl) rfl ?_;go_simp;exact hK _ _ ⟨_, rfl, hb, Below.refl _ _, _, rfl⟩
   | 7, _ =>
     have hb := hG;refine wpOp_at (by rfl) rfl ?_;go_simp;exact hK _ _ ⟨_, rfl, hb, Below.refl _ _, rfl⟩
   | 8, _ =>
     have hb := hG;obtain rfl : x12 = _ := hp 7 (by kernel_rfl);refine wpOp_at (by rfl) rfl ?_;go_simp;exact hK _ _ ⟨_, rfl, hb, Below.refl _ _, rfl⟩
   | 9, _ =>
     have hb := hG;obtain rfl : x13 = _ := hp 8 (by kernel_rfl);refine wpOp_at (by rfl) rfl ?_;go_simp;exact hK _ _ ⟨_, rfl, hb, Below.refl _ _, rfl⟩
   | 10, _ =>
     have hb := hG;obtain rfl : x14 = _ := hp 9 (by kernel_rfl);have hc := (HM.out.later hb).cell 1;simp only [List.getElem?_toArray, List.getElem?_cons_zero, List.getElem?_cons_succ] at hc;refine wpOp_at (by rfl) rfl ?_;go_simp;exact hK _ _ ⟨_, rfl, hb, Below.refl _ _, rfl⟩
   | 11, _ =>
     have hb := hG;obtain rfl : x15 = _ := hp 10 (by kernel_rfl);refine wpOp_at (by rfl) rfl ?_;go_simp;refine Calls.mono (fds_copy fb c w1 (HF.out.later hb)) ?_;rintro e w2 ⟨b2, rfl, h3⟩;exact hK _ _ ⟨_, rfl, hb.trans (h3.mono hb.size), h3, _, rfl⟩
   | 12, _ =>
     have hb := hG;refine wpOp_at (by rfl) rfl ?_;go_simp;exact hK _ _ ⟨_, rfl, hb, Below.refl _ _, rfl⟩
   | 13, _ =>
     have hb := hG;obtain rfl : x17 = _ := hp 12 (by kernel_rfl);refine wpOp_at (by rfl) rfl ?_;go_simp;exact hK _ _ ⟨_, rfl, hb, Below.refl _ _, rfl⟩
   | 14, _ =>
     have hb := hG;obtain rfl : x18 = _ := hp 13 (by kernel_rfl);refine wpOp_at (by rfl) rfl ?_;go_simp;exact hK _ _ ⟨_, rfl, hb, Below.refl _ _, rfl⟩
   | 15, _ =>
     have hb := hG;obtain rfl : x19 = _ := hp 14 (by kernel_rfl);have hc := (HM.out.later hb).cell 2;simp only [List.getElem?_toArray, List.getElem?_cons_zero, List.getElem?_cons_succ] at hc;refine wpOp_at (by rfl) rfl ?_;go_simp;exact hK _ _ ⟨_, rfl, hb, Below.refl _ _, rfl⟩
   | 16, _ =>
     have hb := hG;obtain ⟨p6, e11⟩ := hp 6 (by kernel_rfl);change x11 = _ at e11;subst e11;obtain ⟨p11, e16⟩ := hp 11 (by kernel_rfl);change x16 = _ at e16;subst e16;obtain rfl : x20 = _ := hp 15 (by kernel_rfl);refine wpOp_at (by rfl) rfl ?_;go_simp;exact hK _ _ ⟨_, rfl, hb, Below.refl _ _, _, _, rfl⟩
   | 17, _ =>
     have hb := hG;obtain ⟨p16, q16, e21⟩ := hp 16 (by kernel_rfl);change x21 = _ at e21;subst e21;refine wpOp_at (by rfl) rfl ?_;go_simp;have h3 := (Below.refl w1.heap.size w1).alloc (Nat.le_refl _) (.cells #[.pointer (some ⟨p16, 0, none⟩), .pointer (some ⟨q16, 0, none⟩), .int .i64 c] 173);exact hK _ _ ⟨_, rfl, hb.trans (h3.mono hb.size), h3, _, rfl⟩
   | 18, _ =>
     have hb := hG;obtain ⟨p17, e22⟩ := hp 17 (by kernel_rfl);change x22 = _ at e22;subst e22;refine wpOp_at (by rfl) rfl ?_;go_simp;exact hK _ _ ⟨_, rfl, hb, Below.refl _ _, _, rfl⟩
   | i + 19, hi => exact absurd hi (by simp)
 case done =>
   rintro a9 w9 lst hl ⟨x2, x5, x6, x7, x8, x9, x10, x11, x12, x13, x14, x15, x16, x17, x18, x19, x20, x21, x22, rfl⟩ hb hp;obtain ⟨p18, e2⟩ := hp 18 (by decide);change x2 = _ at e2;subst e2
   go_wp2
   go_ret;exact ⟨_, rfl, hb⟩
end Go.Proofs.YtkljcgopikdjjaaGreatDoor.Tx
end
section
namespace Go.Proofs.YtkljcgopikdjjaaGreatDoor.Tx
set_option maxRecDepth 100000
set_option maxHeartbeats 1000000
open Go.RowKit Go.Shelf Go.Maps Oct
theorem MdAt.later {w w' : World} {b i : Nat} {c : Int} (h : MdAt w b i c) (hb : Below w.heap.size w w') : MdAt w' b i c := by
 obtain ⟨E, fb, h1, h2, h3⟩ := h;exact ⟨E, fb, h1.later hb, h2.later hb, h3.later hb⟩
theorem info_proc : (Tryz.prog.info? 383).map (fun i => i.zero.isSome && decide (i.bytes ≤ 4096)) = some true := by kernel_rfl
theorem make_proc (c : Int) (h1 : 1 ≤ c) (h8 : c ≤ 8) : ∃ cells, ∀ W, (Instr.makeSlice 182 (.int .i64 c) (.int .i64 c)).run Tryz.prog W = .ok (.slice (some ⟨W.heap.size, 0, none⟩) c.toNat c.toNat) (W.alloc (.cells cells 383)) := by
 have h := info_proc;cases hi : Tryz.prog.info? 383 with
 | none => rw [hi] at h; cases h
 | some i =>
   rw [hi] at h
   simp at h
   obtain ⟨hz, hb⟩ := h;cases hz0 : i.zero with
   | none => rw [hz0] at hz; cases hz
   | some z => exact ⟨_, fun W => run_make W _ _ i z (by kernel_rfl) hi hz0 .i64 .i64 c c (by omega) (by omega) (Int.le_trans (Int.mul_le_mul_of_nonneg_right (show (i.bytes : Int) ≤ 4096 by omega) (by omega)) (by omega)) (by omega)⟩
def memOk (l t : Int) : Bool := decide (1 ≤ l) && decide (l ≤ 256) && decide (0 ≤ t) && decide (t ≤ 16)
def memE (l t : Int) : Int := if memOk l t then 0 else 2
def cfC (i c l t : Int) : Array Value := #[.int .i64 i, .int .i64 c, .int .i64 l, .int .i64 t]
set_option maxHeartbeats 4000000 in
theorem on_any (ii m : Nat) (c l t : Int) (wz : World) (h2 : 2 ≤ ii) (h6 : ii ≤ 256) (h1 : 1 ≤ c) (h8 : c ≤ 8) (hM : MdAt wz m ii c) :
   Calls Tryz.prog 96 #[.agg (cfC ii c l t), ptr m] wz fun e w' => ∃ v, e = .returned (.tuple #[v, .int .i64 (memE l t)]) ∧ Below wz.heap.size wz w' := by
 unfold cfC ptr;have HX0 := SBox.new wz 101 (cfC ii c l t);unfold cfC at HX0;have X0 := HX0.cell 0;have X1 := HX0.cell 1;have X2 := HX0.cell 2;have X3 := HX0.cell 3;simp only [List.getElem?_toArray, List.getElem?_cons_zero, List.getElem?_cons_succ] at X0 X1 X2 X3;have Xl := HX0.lt;have HB0 := Lib.hid ((Below.refl wz.heap.size wz).alloc (Nat.le_refl _) (.cells #[.int .i64 ii, .int .i64 c, .int .i64 l, .int .i64 t] 101));have HM0 := Lib.hid (hM.later HB0.out);have HXX := Lib.hid HX0;have HN := Lib.hid (fun W => model_new ii c W h2 h6 h1 h8);have HMK0 := make_proc c h1 h8;obtain ⟨pc, hmk⟩ := HMK0;have HMK := Lib.hid hmk;clear hmk hM HX0
 go_enter Tryz.func96, Tryz.ntmps96
 go_wp2_with fail;refine (HN.out _).mono ?_;rintro e w1 ⟨b1, rfl, -, hb1⟩;have HB1 := Lib.hid (HB0.out.trans (hb1.mono HB0.out.size));have HX1 := Lib.hid (HXX.out.later hb1);have HM1 := Lib.hid (HM0.out.later hb1);have hx1 := HX1.out;unfold cfC at hx1;clear hb1 HM0 HXX HB0 X0 X1 X2 X3;have Y0 := hx1.cell 0;have Y1 := hx1.cell 1;have Y2 := hx1.cell 2;have Y3 := hx1.cell 3;simp only [List.getElem?_toArray, List.getElem?_cons_zero, List.getElem?_cons_succ] at Y0 Y1 Y2 Y3;have Yl := hx1.lt
 by_cases hl : 1 ≤ l ∧ l ≤ 256
 · have HL := Lib.hid (fun W => log_new c l W h1 h8 hl.1 hl.2)
   go_wp2_with fail;refine (HL.out _).mono ?_;rintro e w2 ⟨rfl, hb2⟩;have HB2 := Lib.hid (HB1.out.trans (hb2.mono HB1.out.size));have HX := Lib.hid (HX1.out.later hb2);have HM := Lib.hid (HM1.out.later hb2);have hx2 := HX.out;unfold cfC at hx2;clear hb2 HB1 HX1 HM1 hx1 Y0 Y1 Y2 Y3
   generalize w1.heap.size = lg
   unfold ptr;have Z0 := hx2.cell 0;have Z1 := hx2.cell 1;have Z2 := hx2.cell 2;have Z3 := hx2.cell 3;simp only [List.getElem?_toArray, List.getElem?_cons_zero, List.getElem?_cons_succ] at Z0 Z1 Z2 Z3;have Zl := hx2.lt
   by_cases ht : t < 0
   · have t1 : decide (t < 0) = true := by simpa using ht
     go_wp2_with fail;go_ret2;exact ⟨_, by rw [show memE l t = 2 from if_neg (by unfold memOk; simp; omega)]; rfl, HB2.out⟩
   · have t1 : decide (t < 0) = false := by simpa using ht
     by_cases ht2 : 16 < t
     · have t2 : decide (16 < t) = true := by simpa using ht2
       go_wp2_with fail;go_ret2;exact ⟨_, by rw [show memE l t = 2 from if_neg (by unfold memOk; simp; omega)]; rfl, HB2.out⟩
     · have t2 : decide (16 < t) = false := by simpa using ht2
       have hok : memOk l t = true := by unfold memOk; simp; omega
       have hE : memE l t = 0 := if_pos hok;clear hok;go_wp2_with fail;refine wp_region_phi3 (by kernel_rfl) (fun | 0 => some 44 | 1 => some 45 | 2 => some 46 | 3 => some 47 | 4 => some 48 | 5 => some 49 | 6 => some 50 | 7 => some 51 | 8 => some 52 | 9 => some 53 | 10 => some 54 | 11 => some 4 | 12 => some 5 | _ => none) (fun a => ∃ x4 x5 x44 x45 x46 x47 x48 x49 x50 x51 x52 x53 x54 : Value, a = ⟨#[.agg #[.int .i64 ii, .int .i64 c, .int .i64 l, .int .i64 t], .pointer (some ⟨m, 0, none⟩), .pointer (some ⟨wz.heap.size, 0, none⟩), undef, x4, x5, .pointer (some ⟨b1, 0, none⟩), .int .i64 0, .pointer (some ⟨lg, 0, none⟩), .int .i64 0, .pointer (some ⟨m, 0, none⟩), .bool false, .tuple #[.pointer (some ⟨b1, 0, none⟩), .int .i64 0], .pointer (some ⟨wz.heap.size, 0, none⟩), .int .i64 ii, .pointer (some ⟨wz.heap.size, 1, none⟩), .int .i64 c, .tuple #[.pointer (some ⟨b1, 0, none⟩), .int .i64 0], .pointer (some ⟨b1, 0, none⟩), .int .i64 0, .tuple #[.pointer (some ⟨lg, 0, none⟩), .int .i64 0], .pointer (some ⟨wz.heap.size, 1, none⟩), .int .i64 c, .pointer (some ⟨wz.heap.size, 2, none⟩), .int .i64 l, .tuple #[.pointer (some ⟨lg, 0, none⟩), .int .i64 0], .pointer (some ⟨lg, 0, none⟩), .int .i64 0, .int .i64 0, .bool false, .bool false, .int .i64 0, .bool false, .bool false, .bool false, .pointer (some ⟨wz.heap.size, 3, none⟩), .int .i64 t, .bool false, .bool false, .bool false, .pointer (some ⟨wz.heap.size, 3, none⟩), .int .i64 t, .bool false, .bool false, x44, x45, x46, x47, x48, x49, x50, x51, x52, x53, x54], []⟩) (fun lst W' => Below w2.heap.size w2 W') (fun _ w w' => Below w.heap.size w w') (fun | 0 => (fun f w => f 0 = Value.pointer (some ⟨m, 0, none⟩)) | 1 => (fun f w => ∃ p : Nat, f 1 = Value.pointer (some ⟨p, 0, none⟩)) | 2 => (fun f w => ∃ p : Nat, f 2 = Value.agg #[Value.pointer (some ⟨p, 0, none⟩)]) | 3 => (fun f w => f 3 = Value.agg #[.int .i64 ii, .int .i64 c, .int .i64 l, .int .i64 t]) | 4 => (fun f w => f 4 = Value.pointer (some ⟨lg, 0, none⟩)) | 5 => (fun f w => ∃ p : Nat, f 5 = Value.pointer (some ⟨p, 0, none⟩)) | 6 => (fun f w => f 6 = Value.pointer (some ⟨wz.heap.size, 1, none⟩)) | 7 => (fun f w => f 7 = Value.int .i64 c) | 8 => (fun f w => ∃ s : Nat, f 8 = Value.slice (some ⟨s, 0, none⟩) c.toNat c.toNat) | 9 => (fun f w => ∃ p q s : Nat, f 9 = Value.agg #[Value.pointer (some ⟨p, 0, none⟩), .int .i64 ii, .int .i64 c, .int .i64 l, .int .i64 t, Value.pointer (some ⟨lg, 0, none⟩), Value.pointer (some ⟨q, 0, none⟩), Value.slice (some ⟨s, 0, none⟩) c.toNat c.toNat]) | 10 => (fun f w => ∃ p : Nat, f 10 = Value.pointer (some ⟨p, 0, none⟩)) | 11 => (fun f w => ∃ p : Nat, f 11 = Value.pointer (some ⟨p, 0, none⟩)) | 12 => (fun f w => f 12 = Value.int .i64 0) | _ => (fun _ _ => True)) (by kernel_rfl) ?stb ?dep (by kernel_rfl) ?AA ⟨_, _, _, _, _, _, _, _, _, _, _, _, _, rfl⟩ ?G0 ?step ?done
       case stb =>
         intro i j v w1 w2 hi hj hij hw hp hs;have hi : i < 13 := hi
         match j, hp with
         | 0, hp | 1, hp | 2, hp | 3, hp | 4, hp | 5, hp | 6, hp | 7, hp | 8, hp | 9, hp | 10, hp | 11, hp | 12, hp => exact hp
         | j + 13, _ => exact trivial
       case dep =>
         intro j f g w hj hfg hp;have hj : j < 13 := hj
         match j, hp, hfg with
         | 0, hp, hfg =>
           have hq : f 0 = Value.pointer (some ⟨m, 0, none⟩) := hp;rw [hfg 0 (by show 0 < 13; decide) (by first | exact .inl rfl | exact .inr (by kernel_rfl))] at hq;exact hq
         | 1, hp, hfg =>
           have hq : ∃ p : Nat, f 1 = Value.pointer (some ⟨p, 0, none⟩) := hp;rw [hfg 1 (by show 1 < 13; decide) (by first | exact .inl rfl | exact .inr (by kernel_rfl))] at hq;exact hq
         | 2, hp, hfg =>
           have hq : ∃ p : Nat, f 2 = Value.agg #[Value.pointer (some ⟨p, 0, none⟩)] := hp;rw [hfg 2 (by show 2 < 13; decide) (by first | exact .inl rfl | exact .inr (by kernel_rfl))] at hq;exact hq
         | 3, hp, hfg =>
           have hq : f 3 = Value.agg #[.int .i64 ii, .int .i64 c, .int .i64 l, .int .i64 t] := hp;rw [hfg 3 (by show 3 < 13; decide) (by first | exact .inl rfl | exact .inr (by kernel_rfl))] at hq;exact hq
         | 4, hp, hfg =>
           have hq : f 4 = Value.pointer (some ⟨lg, 0, none⟩) := hp;rw [hfg 4 (by show 4 < 13; decide) (by first | exact .inl rfl | exact .inr (by kernel_rfl))] at hq;exact hq
         | 5, hp, hfg =>
           have hq : ∃ p : Nat, f 5 = Value.pointer (some ⟨p, 0, none⟩) := hp;rw [hfg 5 (by show 5 < 13; decide) (by first | exact .inl rfl | exact .inr (by kernel_rfl))] at hq;exact hq
         | 6, hp, hfg =>
           have hq : f 6 = Value.pointer (some ⟨wz.heap.size, 1, none⟩) := hp;rw [hfg 6 (by show 6 < 13; decide) (by first | exact .inl rfl | exact .inr (by kernel_rfl))] at hq;exact hq
         | 7, hp, hfg =>
           have hq : f 7 = Value.int .i64 c := hp;rw [hfg 7 (by show 7 < 13; decide) (by first | exact .inl rfl | exact .inr (by kernel_rfl))] at hq;exact hq
         | 8, hp, hfg =>
           have hq : ∃ s : Nat, f 8 = Value.slice (some ⟨s, 0, none⟩) c.toNat c.toNat := hp;rw [hfg 8 (by show 8 < 13; decide) (by first | exact .inl rfl | exact .inr (by kernel_rfl))] at hq;exact hq
         | 9, hp, hfg =>
           have hq : ∃ p q s : Nat, f 9 = Value.agg #[Value.pointer (some ⟨p, 0, none⟩), .int .i64 ii, .int .i64 c, .int .i64 l, .int .i64 t, Value.pointer (some ⟨lg, 0, none⟩), Value.pointer (some ⟨q, 0, none⟩), Value.slice (some ⟨s, 0, none⟩) c.toNat c.toNat] := hp;rw [hfg 9 (by show 9 < 13; decide) (by first | exact .inl rfl | exact .inr (by kernel_rfl))] at hq;exact hq
         | 10, hp, hfg =>
           have hq : ∃ p : Nat, f 10 = Value.pointer (some ⟨p, 0, none⟩) := hp;rw [hfg 10 (by show 10 < 13; decide) (by first | exact .inl rfl | exact .inr (by kernel_rfl))] at hq;exact hq
         | 11, hp, hfg =>
           have hq : ∃ p : Nat, f 11 = Value.pointer (some ⟨p, 0, none⟩) := hp;rw [hfg 11 (by show 11 < 13; decide) (by first | exact .inl rfl | exact .inr (by kernel_rfl))] at hq;exact hq
         | 12, hp, hfg =>
           have hq : f 12 = Value.int .i64 0 := hp;rw [hfg 12 (by show 12 < 13; decide) (by first | exact .inl rfl | exact .inr (by kernel_rfl))] at hq;exact hq
         | j + 13, _, _ => exact trivial
       case AA =>
         rintro i a v hi ⟨_, _, _, _, _, _, _, _, _, _, _, _, _, rfl⟩
         match i, hi with
         | 0, _ | 1, _ | 2, _ | 3, _ | 4, _ | 5, _ | 6, _ | 7, _ | 8, _ | 9, _ | 10, _ | 11, _ | 12, _ => exact ⟨⟨_, _, _, _, _, _, _, _, _, _, _, _, _, rfl⟩, fun t h => by cases h <;> exact of_decide_eq_true rfl⟩
         | i + 13, hi => exact absurd hi (by simp)
       case G0 => exact (Below.refl _ _).drew
       case step =>
         rintro i a w1 lst hi ⟨x4, x5, x44, x45, x46, x47, x48, x49, x50, x51, x52, x53, x54, rfl⟩ hl hcl hG hp;refine wpOp_via (fun K hK => ?_)
         match i, hi with
         | 0, _ =>
           have hb := hG;refine wpOp_at (by rfl) rfl ?_;go_simp;exact hK _ _ ⟨_, rfl, hb, Below.refl _ _, rfl⟩
         | 1, _ =>
           have hb := hG;obtain rfl : x44 = _ := hp 0 (by kernel_rfl);refine wpOp_at (by rfl) rfl ?_;go_simp;refine Calls.mono (model_copy m ii c w1 h2 (HM.out.later hb)) ?_;rintro e w2 ⟨b2, rfl, h3⟩;exact hK _ _ ⟨_, rfl, hb.trans (h3.mono hb.size), h3, _, rfl⟩
         | 2, _ =>
           have hb := hG;obtain ⟨p1, e45⟩ := hp 1 (by kernel_rfl);change x45 = _ at e45;subst e45;refine wpOp_at (by rfl) rfl ?_;go_simp;exact hK _ _ ⟨_, rfl, hb, Below.refl _ _, _, rfl⟩
         | 3, _ =>
           have hb := hG;have hc0 := (HX.out.later hb).cell 0;have hc1 := (HX.out.later hb).cell 1;have hc2 := (HX.out.later hb).cell 2;have hc3 := (HX.out.later hb).cell 3;simp only [List.getElem?_toArray, List.getElem?_cons_zero, List.getElem?_cons_succ] at hc0 hc1 hc2 hc3;refine wpOp_at (by rfl) rfl ?_;go_simp;exact hK _ _ ⟨_, rfl, hb, Below.refl _ _, rfl⟩
         | 4, _ =>
           have hb := hG;refine wpOp_at (by rfl) rfl ?_;go_simp;exact hK _ _ ⟨_, rfl, hb, Below.refl _ _, rfl⟩
         | 5, _ =>
           have hb := hG;refine wpOp_at (by rfl) rfl ?_;go_simp;refine Calls.mono (cells_new w1) ?_;rintro e w2 ⟨b2, rfl, h3⟩;exact hK _ _ ⟨_, rfl, hb.trans (h3.mono hb.size), h3, _, rfl⟩
         | 6, _ =>
           have hb := hG;refine wpOp_at (by rfl) rfl ?_;go_simp;exact hK _ _ ⟨_, rfl, hb, Below.refl _ _, rfl⟩
         | 7, _ =>
           have hb := hG;obtain rfl : x50 = _ := hp 6 (by kernel_rfl);have hc0 := (HX.out.later hb).cell 0;have hc1 := (HX.out.later hb).cell 1;have hc2 := (HX.out.later hb).cell 2;have hc3 := (HX.out.later hb).cell 3;simp only [List.getElem?_toArray, List.getElem?_cons_zero, List.getElem?_cons_succ] at hc0 hc1 hc2 hc3;refine wpOp_at (by rfl) rfl ?_;go_simp;exact hK _ _ ⟨_, rfl, hb, Below.refl _ _, rfl⟩
         | 8, _ =>
           have hb := hG;obtain rfl : x51 = _ := hp 7 (by kernel_rfl);have hmk := HMK.out w1;refine wpOp_at (by rfl) rfl ?_;go_simp;have h3 := (Below.refl w1.heap.size w1).alloc (Nat.le_refl _) (.cells pc 383);exact hK _ _ ⟨_, rfl, hb.trans (h3.mono hb.size), h3, _, rfl⟩
         | 9, _ =>
           have hb := hG;obtain ⟨p2, e46⟩ := hp 2 (by kernel_rfl);change x46 = _ at e46;subst e46;obtain rfl : x47 = _ := hp 3 (by kernel_rfl);obtain rfl : x48 = _ := hp 4 (by kernel_rfl);obtain ⟨p5, e49⟩ := hp 5 (by kernel_rfl);change x49 = _ at e49;subst e49;obtain ⟨s8, e52⟩ := hp 8 (by kernel_rfl);change x52 = _ at e52;subst e52;refine wpOp_at (by rfl) rfl ?_;go_simp;exact hK _ _ ⟨_, rfl, hb, Below.refl _ _, _, _, _, rfl⟩
         | 10, _ =>
           have hb := hG;obtain ⟨p9, q9, s9, e53⟩ := hp 9 (by kernel_rfl);change x53 = _ at e53;subst e53;refine wpOp_at (by rfl) rfl ?_;go_simp;have h3 := (Below.refl w1.heap.size w1).alloc (Nat.le_refl _) (.cells #[.pointer (some ⟨p9, 0, none⟩), .int .i64 ii, .int .i64 c, .int .i64 l, .int .i64 t, .pointer (some ⟨lg, 0, none⟩), .pointer (some ⟨q9, 0, none⟩), Value.slice (some ⟨s9, 0, none⟩) c.toNat c.toNat] 184);exact hK _ _ ⟨_, rfl, hb.trans (h3.mono hb.size), h3, _, rfl⟩
         | 11, _ =>
           have hb := hG;obtain ⟨p10, e54⟩ := hp 10 (by kernel_rfl);change x54 = _ at e54;subst e54;refine wpOp_at (by rfl) rfl ?_;go_simp;exact hK _ _ ⟨_, rfl, hb, Below.refl _ _, _, rfl⟩
         | 12, _ =>
           have hb := hG;refine wpOp_at (by rfl) rfl ?_;go_simp;exact hK _ _ ⟨_, rfl, hb, Below.refl _ _, rfl⟩
         | i + 13, hi => exact absurd hi (by simp)
       case done =>
         rintro a9 w9 lst hl ⟨x4, x5, x44, x45, x46, x47, x48, x49, x50, x51, x52, x53, x54, rfl⟩ hb hp;obtain ⟨p11, e4⟩ := hp 11 (by decide);change x4 = _ at e4;subst e4;obtain rfl : x5 = _ := hp 12 (by decide);have HB9 := Lib.hid (HB2.out.trans (hb.mono HB2.out.size));clear hp hb
         go_wp2
         go_ret2;exact ⟨_, by rw [hE]; rfl, HB9.out⟩
 · have HL := Lib.hid (fun W => log_bad c l W h1 h8 (by omega))
   go_wp2_with fail;refine (HL.out _).mono ?_;rintro e w2 ⟨rfl, rfl⟩;go_wp2_with fail;go_ret2;exact ⟨_, by rw [show memE l t = 2 from if_neg (by unfold memOk; simp; omega)]; rfl, HB1.out⟩
end Go.Proofs.YtkljcgopikdjjaaGreatDoor.Tx
end
