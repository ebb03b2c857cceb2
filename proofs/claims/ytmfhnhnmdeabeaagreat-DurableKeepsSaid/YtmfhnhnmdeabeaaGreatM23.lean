/- Layer 22 (rec): Parts. -/
import Derived.Test.YtmfhnhnmdeabeaaGreatM26
import Derived.Test.YtmfhnhnmdeabeaaGreatM21
import Derived.Test.YtmfhnhnmdeabeaaGreatM22
import Derived.Deep.DeepMust
import Derived.Deep.AppendLies
set_option linter.unusedVariables false
set_option linter.unusedSimpArgs false
set_option maxRecDepth 100000
section
namespace Go.Proofs.YtmfhnhnmdeabeaaGreat.Re
open Go.RowKit Go.Shelf Go.Maps Oct Path Tr
variable {E : TL} {room q : Nat} {S : T}
def actF (o : Nat) : Nat := if o = 1 then 105 else if o = 2 then 106 else if o = 3 then 107 else if o = 4 then 108 else if o = 5 then 109 else if o = 6 then 110 else 111
theorem kind_at1 {o : Nat} (h : 1 ≤ o ∧ o ≤ 7) : ∃ w, kindF o = some (kv w (kEnt o) (kKnd o) (kMov o) (kSiz o) (kDat o) (actF o)) := by
 obtain ⟨h1, h2⟩ := h
 match o, h1, h2 with
 | 1, _, _ => exact ⟨_, rfl⟩
 | 2, _, _ => exact ⟨_, rfl⟩
 | 3, _, _ => exact ⟨_, rfl⟩
 | 4, _, _ => exact ⟨_, rfl⟩
 | 5, _, _ => exact ⟨_, rfl⟩
 | 6, _, _ => exact ⟨_, rfl⟩
 | 7, _, _ => exact ⟨_, rfl⟩
theorem kind_look1 {W : World} {b o : Nat} (h : VMap W 5 b 7 (natF .u8 kindF)) (ho : 1 ≤ o ∧ o ≤ 7) : ∃ w, (Instr.lookup 114 (.map (some b)) (.int .u8 o) false).run Tryz.prog W = .ok (kv w (kEnt o) (kKnd o) (kMov o) (kSiz o) (kDat o) (actF o)) W := by
 obtain ⟨w, hk⟩ := kind_at1 ho
 refine ⟨w, ?_⟩
 have hz : (zeroValue 113).run Tryz.prog W = .ok kv0 W := by kernel_rfl
 rw [h.look kU8 Tryz.underlying114 hz (key8 (x := o) (by omega)), natF_at, hk]
 rfl
theorem act_ok (wz : World) (hT : TreeAt wz E room q S) (hO : ∀ c, E.O c → c < wz.heap.size) (hI : Inv room S) (hq : q < 100000) (r : Rc) (hm : May r) (ho : Ok room r S) :
   Calls Tryz.prog (actF r.op) #[actV E.t r] wz fun e w' => e = .returned (.int .i64 0) ∧ Pls wz w' E room (q + 1) (next r S) := by
 have hop := hm.op
 have more : ∀ {f : Nat}, Calls Tryz.prog f #[actV E.t r] wz (fun e w' => e = .returned (.int .i64 0) ∧ Pls wz w' E room q (next r S)) → Calls Tryz.prog f #[actV E.t r] wz (fun e w' => e = .returned (.int .i64 0) ∧ Pls wz w' E room (q + 1) (next r S)) := fun h => h.mono (fun e w' h => ⟨h.1, h.2.more (by omega) (by omega)⟩)
 by_cases h1 : r.op = 1
 · rw [show actF r.op = 105 by rw [h1]; rfl]; exact made_ok wz hT hO hI hq r hm ho h1
 by_cases h2 : r.op = 2
 · rw [show actF r.op = 106 by rw [h2]; rfl]; exact link_ok wz hT hO hI hq r hm ho h2
 by_cases h3 : r.op = 3
 · rw [show actF r.op = 107 by rw [h3]; rfl]; exact more (actUnlink_ok wz hT hO hI r hm ho h3)
 by_cases h4 : r.op = 4
 · rw [show actF r.op = 108 by rw [h4]; rfl]; exact actRename_ok wz hT hO hI hq r hm ho h4
 by_cases h5 : r.op = 5
 · rw [show actF r.op = 109 by rw [h5]; rfl]; exact more (size_ok wz hT hO r hm ho h5)
 by_cases h6 : r.op = 6
 · rw [show actF r.op = 110 by rw [h6]; rfl]; exact more (page_ok wz hT hO r hm ho h6)
 have h7 : r.op = 7 := by omega
 rw [show actF r.op = 111 by rw [h7]; rfl]
 exact more (actFree_ok wz hT hO hI r hm ho h7)
theorem actF_run {o : Nat} (h : 1 ≤ o ∧ o ≤ 7) : ∀ (v : Value) (W : World), (callFunc (actF o) #[v]).run Tryz.prog W = .ok (.enter (actF o) #[v]) W := by
 obtain ⟨h1, h2⟩ := h
 intro v W
 match o, h1, h2 with
 | 1, _, _ => exact enters_of Tryz.func105 (by kernel_rfl) rfl _ W
 | 2, _, _ => exact enters_of Tryz.func106 (by kernel_rfl) rfl _ W
 | 3, _, _ => exact enters_of Tryz.func107 (by kernel_rfl) rfl _ W
 | 4, _, _ => exact enters_of Tryz.func108 (by kernel_rfl) rfl _ W
 | 5, _, _ => exact enters_of Tryz.func109 (by kernel_rfl) rfl _ W
 | 6, _, _ => exact enters_of Tryz.func110 (by kernel_rfl) rfl _ W
 | 7, _, _ => exact enters_of Tryz.func111 (by kernel_rfl) rfl _ W
set_option maxHeartbeats 4000000 in
theorem play_ok (wz : World) (hT : TreeAt wz E room q S) (hO : ∀ c, E.O c → c < wz.heap.size) (hI : Inv room S) (hq : q < 100000) (r : Rc) (hm : May r) (ho : Ok room r S) :
   Calls Tryz.prog 26 #[.pointer (some ⟨E.t, 0, none⟩), recV r] wz fun e w' => e = .returned (.int .i64 0) ∧ Pls wz w' E room (q + 1) (next r S) := by
 have hop := hm.op
 have ACT := Lib.hid (fun (W : World) (h : TreeAt W E room q S) (h2 : ∀ c, E.O c → c < W.heap.size) => act_ok W h h2 hI hq r hm ho)
 have CK := Lib.hid (fun W => check_ok r hm W)
 have HF := Lib.hid (actF_run hop)
 have HT := Lib.hid hT
 have HO := Lib.hid hO
 have BX := Lib.hid (SBox.new wz 39 (recC r))
 clear hT hO hI hm ho hq
 unfold recV recC at CK
 unfold recC at BX
 unfold recV recC
 go_enter Tryz.func26, Tryz.ntmps26
 go_wp2_with fail
 refine Calls.mono (CK.out _) ?_
 rintro e w1 ⟨rfl, hb⟩
 have hX := BX.out.later hb
 have B1 := Lib.hid (((Below.refl _ wz).alloc (Nat.le_refl _) (.cells #[.int .u64 r.stamp, .int .u8 r.op, .int .u32 r.dir, .string (B r.name), .int .u32 r.ino, .int .u8 r.kind, .int .u32 r.dir2, .string (B r.name2), .int .u32 r.old, .int .u32 r.size, .int .i64 r.page, .string (B r.data)] 39)).trans (hb.mono (by simp)))
 have X1 := Lib.hid hX
 have V0 := hX.cell 0
 have V1 := hX.cell 1
 have V2 := hX.cell 2
 have V3 := hX.cell 3
 have V4 := hX.cell 4
 have V5 := hX.cell 5
 have V6 := hX.cell 6
 have V7 := hX.cell 7
 have V8 := hX.cell 8
 have V9 := hX.cell 9
 have V10 := hX.cell 10
 have V11 := hX.cell 11
 simp only [List.getElem?_toArray, List.getElem?_cons_zero, List.getElem?_cons_succ] at V0 V1 V2 V3 V4 V5 V6 V7 V8 V9 V10 V11
 have Vl := hX.lt
 clear hX hb BX CK
 go_wp2_with fail
 refine wp_region_phi2 (by kernel_rfl) (fun | 0 => some 13 | 1 => some 14 | 2 => some 15 | 3 => some 16 | 4 => some 17 | 5 => some 18 | 6 => some 19 | 7 => some 20 | 8 => some 21 | 9 => some 4 | _ => none) (fun a => ∃ x4 x13 x14 x15 x16 x17 x18 x19 x20 x21 : Value, a = ⟨#[Value.pointer (some { block := E.t, off := 0 }), Value.agg #[Value.int IntKind.u64 ↑r.stamp, Value.int IntKind.u8 ↑r.op, Value.int IntKind.u32 ↑r.dir, Value.string (B r.name), Value.int IntKind.u32 ↑r.ino, Value.int IntKind.u8 ↑r.kind, Value.int IntKind.u32 ↑r.dir2, Value.string (B r.name2), Value.int IntKind.u32 ↑r.old, Value.int IntKind.u32 ↑r.size, Value.int IntKind.i64 ↑r.page, Value.string (B r.data)], undef, Value.pointer (some { block := wz.heap.size, off := 0 }), x4, Value.int IntKind.i64 0, Value.pointer (some { block := E.t, off := 0 }), Value.bool false, Value.agg #[Value.int IntKind.u64 ↑r.stamp, Value.int IntKind.u8 ↑r.op, Value.int IntKind.u32 ↑r.dir, Value.string (B r.name), Value.int IntKind.u32 ↑r.ino, Value.int IntKind.u8 ↑r.kind, Value.int IntKind.u32 ↑r.dir2, Value.string (B r.name2), Value.int IntKind.u32 ↑r.old, Value.int IntKind.u32 ↑r.size, Value.int IntKind.i64 ↑r.page, Value.string (B r.data)], Value.int IntKind.i64 0, Value.int IntKind.i64 0, Value.bool false, undef, x13, x14, x15, x16, x17, x18, x19, x20, x21], []⟩) (fun lst W => (lst 8 = false → Below wz.heap.size wz W ∧ SBox W wz.heap.size 39 (recC r)) ∧ (lst 8 = true → Pls wz W E room (q + 1) (next r S))) (fun i w1 w2 => if i = 8 then Tch E.O w1 w2 else Below w1.heap.size w1 w2) (fun | 0 => (fun v w => ∃ b, v = Value.map (some b) ∧ wz.heap.size ≤ b ∧ VMap w 5 b 7 (natF .u8 kindF)) | 1 => (fun v w => v = Value.pointer (some ⟨wz.heap.size, 1, none⟩)) | 2 => (fun v w => v = Value.int .u8 r.op) | 3 => (fun v w => ∃ s, v = kv s (kEnt r.op) (kKnd r.op) (kMov r.op) (kSiz r.op) (kDat r.op) (actF r.op)) | 4 => (fun v w => v = Value.func (.func (actF r.op)) #[] #[]) | 5 => (fun v w => v = Value.pointer (some ⟨E.t, 0, none⟩)) | 6 => (fun v w => v = recV r) | 7 => (fun v w => v = actV E.t r) | 8 => (fun v w => v = Value.int .i64 0) | 9 => (fun v w => v = Value.int .i64 0) | _ => (fun _ _ => True)) (by kernel_rfl) ?st (by kernel_rfl) ?AA ⟨_, _, _, _, _, _, _, _, _, _, rfl⟩ ?G0 ?step ?done
 case st =>
   intro i j v w1 w2 hi hj hij hw hp hs
   have hi : i < 10 := hi
   match j, hp with
   | 0, hp =>
     obtain ⟨b, e1, e2, e3⟩ := hp
     by_cases h8 : i = 8
     · rw [if_pos h8] at hs
       exact ⟨b, e1, e2, e3.block (hs.block b e3.lt (fun q => by have := HO.out b q; omega))⟩
     · rw [if_neg h8] at hs
       exact ⟨b, e1, e2, e3.later hs⟩
   | 1, hp | 2, hp | 3, hp | 4, hp | 5, hp | 6, hp | 7, hp | 8, hp | 9, hp => exact hp
   | j + 10, _ => exact trivial
 case AA =>
   rintro i a v hi ⟨_, _, _, _, _, _, _, _, _, _, rfl⟩
   match i, hi with
   | 0, _ | 1, _ | 2, _ | 3, _ | 4, _ | 5, _ | 6, _ | 7, _ | 8, _ | 9, _ => exact ⟨⟨_, _, _, _, _, _, _, _, _, _, rfl⟩, fun t h => by cases h <;> exact of_decide_eq_true rfl⟩
   | i + 10, hi => exact absurd hi (by simp)
 case G0 => exact ⟨fun _ => ⟨B1.out.drew, by unfold recC; exact X1.out.later (Below.refl _ _).drew⟩, fun q => by cases q⟩
 case step =>
   rintro i a w1 lst hi ⟨x4, x13, x14, x15, x16, x17, x18, x19, x20, x21, rfl⟩ hl hcl hG hp
   refine wpOp_via (fun K hK => ?_)
   match i, hi with
   | 0, _ =>
     obtain ⟨h0, h1⟩ := hG
     have hl8 : lst 8 = false := by
       cases h8 : lst 8 with
       | false => rfl
       | true => exact absurd (hcl 8 0 (by show 8 < 10; decide) h8 (by kernel_rfl)) (by rw [hl]; decide)
     obtain ⟨hb, hr⟩ := h0 hl8
     refine wpOp_at (by rfl) rfl ?_
     go_simp
     refine Calls.mono (kinds_any w1) ?_
     rintro e w2 ⟨b, rfl, k1, k2, k3⟩
     exact hK _ _ ⟨_, rfl, ⟨fun _ => ⟨hb.trans (k3.mono hb.size), hr.later k3⟩, fun q => absurd (show lst 8 = true by simpa using q) (by rw [hl8]; decide)⟩, k3, b, rfl, Nat.le_trans hb.size k2, k1⟩
   | 1, _ =>
     obtain ⟨h0, h1⟩ := hG
     have hl8 : lst 8 = false := by
       cases h8 : lst 8 with
       | false => rfl
       | true => exact absurd (hcl 8 1 (by show 8 < 10; decide) h8 (by kernel_rfl)) (by rw [hl]; decide)
     obtain ⟨hb, hr⟩ := h0 hl8
     have hlz := hr.lt
     refine wpOp_at (by rfl) rfl ?_
     go_simp
     exact hK _ _ ⟨_, rfl, ⟨fun _ => ⟨hb, hr⟩, fun q => h1 (by simpa using q)⟩, Below.refl _ _, rfl⟩
   | 2, _ =>
     obtain ⟨h0, h1⟩ := hG
     have hl8 : lst 8 = false := by
       cases h8 : lst 8 with
       | false => rfl
       | true => exact absurd (hcl 8 2 (by show 8 < 10; decide) h8 (by kernel_rfl)) (by rw [hl]; decide)
     obtain ⟨hb, hr⟩ := h0 hl8
     obtain rfl : x14 = _ := hp 1 (by kernel_rfl)
     have c1 := hr.cell 1
     unfold recC at c1
     simp only [List.getElem?_toArray, List.getElem?_cons_zero, List.getElem?_cons_succ] at c1
     have hlz := hr.lt
     refine wpOp_at (by rfl) rfl ?_
     go_simp
     exact hK _ _ ⟨_, rfl, ⟨fun _ => ⟨hb, hr⟩, fun q => h1 (by simpa using q)⟩, Below.refl _ _, rfl⟩
   | 3, _ =>
     obtain ⟨h0, h1⟩ := hG
     have hl8 : lst 8 = false := by
       cases h8 : lst 8 with
       | false => rfl
       | true => exact absurd (hcl 8 3 (by show 8 < 10; decide) h8 (by kernel_rfl)) (by rw [hl]; decide)
     obtain ⟨hb, hr⟩ := h0 hl8
     obtain ⟨b, e13, hbz, hv⟩ := hp 0 (by kernel_rfl)
     change x13 = _ at e13
     subst e13
     obtain rfl : x15 = _ := hp 2 (by kernel_rfl)
     obtain ⟨s, hk⟩ := kind_look1 hv hop
     refine wpOp_at (by rfl) rfl ?_
     go_simp
     exact hK _ _ ⟨_, rfl, ⟨fun _ => ⟨hb, hr⟩, fun q => h1 (by simpa using q)⟩, Below.refl _ _, s, rfl⟩
   | 4, _ =>
     obtain ⟨h0, h1⟩ := hG
     have hl8 : lst 8 = false := by
       cases h8 : lst 8 with
       | false => rfl
       | true => exact absurd (hcl 8 4 (by show 8 < 10; decide) h8 (by kernel_rfl)) (by rw [hl]; decide)
     obtain ⟨hb, hr⟩ := h0 hl8
     obtain ⟨s, e16⟩ := hp 3 (by kernel_rfl)
     change x16 = _ at e16
     subst e16
     unfold kv
     refine wpOp_at (by rfl) rfl ?_
     go_simp
     exact hK _ _ ⟨_, rfl, ⟨fun _ => ⟨hb, hr⟩, fun q => h1 (by simpa using q)⟩, Below.refl _ _, rfl⟩
   | 5, _ =>
     obtain ⟨h0, h1⟩ := hG
     have hl8 : lst 8 = false := by
       cases h8 : lst 8 with
       | false => rfl
       | true => exact absurd (hcl 8 5 (by show 8 < 10; decide) h8 (by kernel_rfl)) (by rw [hl]; decide)
     obtain ⟨hb, hr⟩ := h0 hl8
     refine wpOp_at (by rfl) rfl ?_
     go_simp
     exact hK _ _ ⟨_, rfl, ⟨fun _ => ⟨hb, hr⟩, fun q => h1 (by simpa using q)⟩, Below.refl _ _, rfl⟩
   | 6, _ =>
     obtain ⟨h0, h1⟩ := hG
     have hl8 : lst 8 = false := by
       cases h8 : lst 8 with
       | false => rfl
       | true => exact absurd (hcl 8 6 (by show 8 < 10; decide) h8 (by kernel_rfl)) (by rw [hl]; decide)
     obtain ⟨hb, hr⟩ := h0 hl8
     have hX := hr
     unfold recC at hX
     have V0 := hX.cell 0
     have V1 := hX.cell 1
     have V2 := hX.cell 2
     have V3 := hX.cell 3
     have V4 := hX.cell 4
     have V5 := hX.cell 5
     have V6 := hX.cell 6
     have V7 := hX.cell 7
     have V8 := hX.cell 8
     have V9 := hX.cell 9
     have V10 := hX.cell 10
     have V11 := hX.cell 11
     simp only [List.getElem?_toArray, List.getElem?_cons_zero, List.getElem?_cons_succ] at V0 V1 V2 V3 V4 V5 V6 V7 V8 V9 V10 V11
     have Vl := hX.lt
     clear hX
     refine wpOp_at (by rfl) rfl ?_
     go_simp
     exact hK _ _ ⟨_, rfl, ⟨fun _ => ⟨hb, hr⟩, fun q => h1 (by simpa using q)⟩, Below.refl _ _, rfl⟩
   | 7, _ =>
     obtain ⟨h0, h1⟩ := hG
     have hl8 : lst 8 = false := by
       cases h8 : lst 8 with
       | false => rfl
       | true => exact absurd (hcl 8 7 (by show 8 < 10; decide) h8 (by kernel_rfl)) (by rw [hl]; decide)
     obtain ⟨hb, hr⟩ := h0 hl8
     obtain rfl : x18 = _ := hp 5 (by kernel_rfl)
     obtain rfl : x19 = _ := hp 6 (by kernel_rfl)
     unfold recV recC
     refine wpOp_at (by rfl) rfl ?_
     go_simp
     exact hK _ _ ⟨_, rfl, ⟨fun _ => ⟨hb, hr⟩, fun q => h1 (by simpa using q)⟩, Below.refl _ _, rfl⟩
   | 8, _ =>
     obtain ⟨h0, h1⟩ := hG
     have hl8 : lst 8 = false := hl
     obtain ⟨hb, hr⟩ := h0 hl8
     obtain rfl : x17 = _ := hp 4 (by kernel_rfl)
     obtain rfl : x20 = _ := hp 7 (by kernel_rfl)
     refine wpOp_at (by rfl) rfl ?_
     have hf := HF.out
     go_simp
     refine Calls.mono (ACT.out w1 ((HT.out).later hb) (fun c hc => Nat.lt_of_lt_of_le (HO.out c hc) hb.size)) ?_
     rintro e w2 ⟨rfl, k1⟩
     have k2 := k1
     obtain ⟨E1, p1⟩ := k2
     exact hK _ _ ⟨_, rfl, ⟨fun q => absurd q (by simp), fun _ => Pls.below hb k1⟩, by rw [if_pos rfl]; exact p1.tch, rfl⟩
   | 9, _ =>
     obtain ⟨h0, h1⟩ := hG
     have h8 := hp 8 (by kernel_rfl)
     change x21 = _ at h8
     subst h8
     refine wpOp_at (by rfl) rfl ?_
     go_simp
     exact hK _ _ ⟨_, rfl, ⟨fun q => h0 (by simpa using q), fun q => h1 (by simpa using q)⟩, Below.refl _ _, rfl⟩
   | i + 10, hi => exact absurd hi (by simp)
 case done =>
   rintro a w2 lst hl ⟨x4, x13, x14, x15, x16, x17, x18, x19, x20, x21, rfl⟩ ⟨h0, h1⟩ hp
   obtain rfl : x4 = _ := hp 9 (by decide)
   have PP := Lib.hid (h1 (hl 8 (by show 8 < 10; decide)))
   clear h0 h1 hp
   go_wp2_with fail
   go_ret
   exact ⟨rfl, PP.out⟩
end Go.Proofs.YtmfhnhnmdeabeaaGreat.Re
end
section
namespace Go.Proofs.YtmfhnhnmdeabeaaGreat.Re
open Go.RowKit Go.Shelf Go.Maps Oct Path Tr
def encPt (x : Pt) : List Value := [.int .u8 x.kind, .int .u32 x.ino, .string (B x.name), .bool x.w]
theorem info_Pt : (Tryz.prog.info? 156).map (fun i => (i.zero, i.size, i.bytes)) = some (some (.agg #[.int .u8 0, .int .u32 0, .string ⟨#[]⟩, .bool false]), 4, 32) := by kernel_rfl
theorem own_later {W W2 : World} (h : Below W.heap.size W W2) {base : Nat} {e : TypeId} {size : Nat} {v : Value} {n : Nat} {xs : List Value} (hv : W.ownsRow base e size v n xs) : W2.ownsRow base e size v n xs :=
 hv.kept (Below.grown h) (Classical.em _)
def wrP (x : Pt) : Pt := ⟨x.kind, x.ino, x.name, true⟩
set_option maxHeartbeats 4000000 in
theorem write_one (x : Pt) (o b0 base : Nat) (v : Value) (xs : List Pt) (w : World) (hx : SBox w b0 156 #[.int .u8 x.kind, .int .u32 x.ino, .string (B x.name), .bool x.w]) (ho : SBox w o 153 #[v])
   (hv : w.ownsRow base 156 4 v xs.length (xs.flatMap encPt)) (hob : o < base) (hbase : base ≤ w.heap.size) (hn : xs.length ≤ 100) :
   Calls Tryz.prog 145 #[.slice (some ⟨b0, 0, none⟩) 1 1, .pointer (some ⟨o, 0, none⟩)] w fun e w' => e = .returned (.tuple #[]) ∧ ∃ g cap, SBox w' o 153 #[(.slice (some ⟨g, 0, none⟩) (xs.length + 1) cap)] ∧ w'.ownsRow base 156 4 (.slice (some ⟨g, 0, none⟩) (xs.length + 1) cap) (xs ++ [wrP x]).length ((xs ++ [wrP x]).flatMap encPt) ∧ Tch (fun c => c = o ∨ base ≤ c) w w' := by
 have X0 := hx.cell 0
 have X1 := hx.cell 1
 have X2 := hx.cell 2
 have X3 := hx.cell 3
 simp only [List.getElem?_toArray, List.getElem?_cons_zero, List.getElem?_cons_succ] at X0 X1 X2 X3
 have Xl := hx.lt
 have O0 := ho.cell 0
 simp only [List.getElem?_toArray, List.getElem?_cons_zero, List.getElem?_cons_succ] at O0
 have Ol := ho.lt
 have HV := Lib.hid hv
 have HO := Lib.hid ho
 have HN := Lib.hid hn
 have HB := Lib.hid hbase
 have HVL := Lib.hid (show ∀ g, v.ownBlock = some g → base ≤ g from fun g e => (hv.lt g e).1)
 obtain ⟨i0, hi, hz0, hz1, hz2⟩ := info_parts info_Pt
 clear hx hv ho hn
 go_enter Tryz.func145, Tryz.ntmps145
 go_wp2_with fail
 refine wp_loop_rounds 2 ?_
 rw [rounds_succ]
 go_wp2_with (at_builtin; go_must (refine wpList_append_lies _ rfl _ _ 153 rfl base 156 i0 (.agg #[.int .u8 0, .int .u32 0, .string ⟨#[]⟩, .bool false]) 4 32 Tryz.underlying153 hi hz0 hz1 hz2 rfl (by decide) _ xs.length (xs.flatMap encPt) rfl ((HV.out.alloc _).alloc _) ⟨w.heap.size + 1, 0, none⟩ 1 1 [.int .u8 x.kind, .int .u32 x.ino, .string (B x.name), .bool true] rfl rfl (news_box (by simpa using SBox.new (w.alloc (.cells #[.int .u8 x.kind, .int .u32 x.ino, .string (B x.name), .bool true] 156)) 156 #[.int .u8 x.kind, .int .u32 x.ino, .string (B x.name), .bool true])) (by intro u hu; simp at hu; rcases hu with rfl | rfl | rfl | rfl <;> rfl) (by decide) (by have := HN.out; unfold maxLen; omega) (by have := HN.out; omega) (by have := HB.out; simp; omega) _ rfl ?_; intro g2 cap2 W2 hown2 hgrow2 _ _; have hO2 : SBox W2 o 153 #[v] := (hgrow2.block o (by simp; omega) (fun e => by have := HVL.out o e.symm; omega)).trans ((HO.out.alloc (.cells #[.int .u8 x.kind, .int .u32 x.ino, .string (B x.name), .bool true] 156)).alloc (.cells #[.int .u8 x.kind, .int .u32 x.ino, .string (B x.name), .bool true] 156)); have K0 : W2.cell? ⟨o, 0, none⟩ = some v := hO2.cell 0; have Kl := hO2.lt; have F0 := hO2.free 0; have H2 := Lib.hid hO2; have OW := Lib.hid hown2; have GR := Lib.hid hgrow2; clear hO2 hown2 hgrow2))
 rw [rounds_succ]
 go_wp2_with fail
 go_end0
 have T2 : Tch (fun c => c = o ∨ base ≤ c) w W2 := by
   have h1 : Below w.heap.size w ((w.alloc (.cells #[.int .u8 x.kind, .int .u32 x.ino, .string (B x.name), .bool true] 156)).alloc (.cells #[.int .u8 x.kind, .int .u32 x.ino, .string (B x.name), .bool true] 156)) := ((Below.refl _ w).alloc (Nat.le_refl _) _).alloc (by simp) _
   exact (Tch.of h1).trans ⟨GR.out.os, GR.out.tape, GR.out.output, GR.out.size, fun b hb ho => GR.out.block b hb (fun e => ho (.inr (HVL.out b e.symm)))⟩
 refine ⟨rfl, g2, cap2, H2.out.set 0 _, ?_, T2.trans (Tch.cell (.inl rfl))⟩
 have := OW.out.setCell_below (a := ⟨o, 0, none⟩) hob (.slice (some ⟨g2, 0, none⟩) (xs.length + 1) cap2)
 simpa [encPt, wrP, List.flatMap_append] using this
end Go.Proofs.YtmfhnhnmdeabeaaGreat.Re
end
