/- Layer 37 (text): the words of steps; a step's line. -/
import Derived.Test.YtkljcgopikdjjaaGreatDoorM11
import Derived.Test.YtkljcgopikdjjaaGreatDoorM27
set_option linter.unusedVariables false
set_option linter.unusedSimpArgs false
set_option maxRecDepth 100000
section
namespace Go.Proofs.YtkljcgopikdjjaaGreatDoor.Tx
set_option maxRecDepth 100000
set_option maxHeartbeats 1000000
open Go.RowKit Go.Shelf Go.Maps Oct
theorem MBox.alloc {w : World} {b : Nat} {x : M} (h : MBox w b x) (o : Obj) : MBox (w.alloc o) b x := SBox.alloc h o
theorem MBox.cell {w : World} {b : Nat} {x : M} (h : MBox w b x) (i : Nat) : w.cell? ⟨b, i, none⟩ = x.cells[i]? := SBox.cell h i
def kwC : Array Value := #[.string ⟨#[97, 100, 100]⟩, .string ⟨#[112, 105, 99, 107]⟩, .string ⟨#[114, 117, 110]⟩, .string ⟨#[102, 105, 110, 105, 115, 104]⟩, .string ⟨#[115, 121, 110, 99]⟩, .string ⟨#[102, 117, 115, 101]⟩, .string ⟨#[99, 114, 97, 115, 104]⟩]
theorem kw_cell {W : World} {h : Nat} (hb : SBox W h 9 kwC) (k : Nat) (hk : k < 7) : W.cell? ⟨h, k, none⟩ = some (.string (B (kw k))) := by
 rw [hb.cell k]
 match k, hk with
 | 0, _ | 1, _ | 2, _ | 3, _ | 4, _ | 5, _ | 6, _ => rfl
theorem words_any (w : World) : Calls Tryz.prog 33 #[] w fun e w' => e = .returned (.slice (some ⟨w.heap.size, 0, none⟩) 7 7) ∧ SBox w' w.heap.size 9 kwC ∧ Below w.heap.size w w' := by
 have h1 := Lib.hid (SBox.new w 9 kwC);have b1 := Lib.hid ((Below.refl w.heap.size w).alloc (Nat.le_refl _) (.cells kwC 9));unfold kwC at h1 b1 ⊢
 go_enter Tryz.func33, Tryz.ntmps33
 go_wp2
 go_ret;exact ⟨rfl, h1.out, b1.out⟩
theorem line_no (x : M) (w : World) (hl : Lay w) (hx : x.k < 256) (hd : x.d < 256) (hsz : x.size ≤ 100000) (hm : mayM x = false) :
   Calls Tryz.prog 12 #[x.val] w fun e w' => e = .returned (.tuple #[.string ⟨#[]⟩, .int .i64 2]) ∧ Below w.heap.size w w' := by
 have B0 := Lib.hid ((Below.refl w.heap.size w).alloc (Nat.le_refl _) (.cells x.cells 40));have C := Lib.hid (check_any x (w.alloc (.cells x.cells 40)) (hl.later B0.out) hx hd hsz);rw [hm] at C;simp only [Bool.false_eq_true, if_false] at C;have h1 := SBox.new w 40 x.cells;unfold M.val M.cells at *;have X0 := h1.cell 0;have X1 := h1.cell 1;have X2 := h1.cell 2;have X3 := h1.cell 3;have X4 := h1.cell 4;have X5 := h1.cell 5;have X6 := h1.cell 6;have X7 := h1.cell 7;have X8 := h1.cell 8;have X9 := h1.cell 9;have X10 := h1.cell 10;have X11 := h1.cell 11;simp only [List.getElem?_toArray, List.getElem?_cons_zero, List.getElem?_cons_succ] at X0 X1 X2 X3 X4 X5 X6 X7 X8 X9 X10 X11;have Xl := h1.lt;clear hl h1
 go_enter Tryz.func12, Tryz.ntmps12
 go_wp2_with fail;refine C.out.mono ?_;rintro e w2 ⟨rfl, hb⟩;have HB := Lib.hid (B0.out.trans (hb.mono (by simp)));clear hb;go_wp2_with fail;go_ret2;exact ⟨rfl, HB.out⟩
theorem line_yes (x : M) (wz : World) (hl : Lay wz) (hx : x.In) (hsz : x.size ≤ 3000) (hm : mayM x = true) :
   Calls Tryz.prog 12 #[x.val] wz fun e w' => e = .returned (.tuple #[.string (B (lineL x)), .int .i64 0]) ∧ Below wz.heap.size wz w' := by
 have hgood := may_good x hx hm;have hk7 := hgood.k;have B0 := Lib.hid ((Below.refl wz.heap.size wz).alloc (Nat.le_refl _) (.cells x.cells 40));have C := Lib.hid (check_any x (wz.alloc (.cells x.cells 40)) (hl.later B0.out) (by omega) hx.d (by omega));rw [hm] at C;simp only [if_true] at C;have h1 := SBox.new wz 40 x.cells;have HX0 := Lib.hid h1;have HL := Lib.hid hl;have HG := Lib.hid hgood;have HSZ := Lib.hid hsz;unfold M.val M.cells at *;have X0 := h1.cell 0;have X1 := h1.cell 1;have X2 := h1.cell 2;have X3 := h1.cell 3;have X4 := h1.cell 4;have X5 := h1.cell 5;have X6 := h1.cell 6;have X7 := h1.cell 7;have X8 := h1.cell 8;have X9 := h1.cell 9;have X10 := h1.cell 10;have X11 := h1.cell 11;simp only [List.getElem?_toArray, List.getElem?_cons_zero, List.getElem?_cons_succ] at X0 X1 X2 X3 X4 X5 X6 X7 X8 X9 X10 X11;have Xl := h1.lt;clear hl h1 hgood hx hm hsz
 go_enter Tryz.func12, Tryz.ntmps12
 go_wp2_with fail;refine C.out.mono ?_;rintro e w2 ⟨rfl, hb⟩;have HB1 := Lib.hid (B0.out.trans (hb.mono (by simp)));have HX1 := Lib.hid (show MBox w2 wz.heap.size x from SBox.later HX0.out hb);clear hb X0 X1 X2 X3 X4 X5 X6 X7 X8 X9 X10 X11;go_wp2_with fail;refine wp_region_phi3 (by kernel_rfl) (fun | 0 => some 14 | 1 => some 15 | 2 => some 16 | 3 => some 17 | 4 => some 18 | 5 => some 5 | _ => none) (fun a => ∃ x5 x14 x15 x16 x17 x18 : Value, a = ⟨#[x.val, .pointer (some ⟨wz.heap.size, 0, none⟩), .string ⟨#[]⟩, .int .i64 0, .int .i64 0, x5, undef, undef, undef, x.val, .int .i64 0, .int .i64 0, .bool false, undef, x14, x15, x16, x17, x18, undef, undef, undef, undef, undef, undef, undef, undef, undef, undef, undef, undef, undef, undef, undef, undef, undef, undef, undef, undef, undef], []⟩) (fun lst W => Below wz.heap.size wz W ∧ MBox W wz.heap.size x) (fun _ w w' => Below w.heap.size w w') (fun | 0 => (fun f w => ∃ h, f 0 = Value.slice (some ⟨h, 0, none⟩) 7 7 ∧ SBox w h 9 kwC ∧ wz.heap.size < h) | 1 => (fun f w => f 1 = Value.pointer (some ⟨wz.heap.size, 0, none⟩)) | 2 => (fun f w => f 2 = Value.int .u8 x.k) | 3 => (fun f w => ∃ h, f 3 = Value.pointer (some ⟨h, x.k, none⟩) ∧ SBox w h 9 kwC) | 4 => (fun f w => f 4 = Value.string (B (kw x.k))) | 5 => (fun f w => f 5 = Value.string (B (kw x.k))) | _ => (fun _ _ => True)) (by kernel_rfl) ?stb ?dep (by kernel_rfl) ?AA ⟨_, _, _, _, _, _, rfl⟩ ?G0 ?step ?done
 case stb =>
   intro i j v w1 w2 hi hj hij hw hp hs;have hi : i < 6 := hi
   match j, hp with
   | 0, hp =>
     obtain ⟨h, h1, h2, h3⟩ := hp;exact ⟨h, h1, h2.later hs, h3⟩
   | 1, hp | 2, hp => exact hp
   | 3, hp =>
     obtain ⟨h, h1, h2⟩ := hp;exact ⟨h, h1, h2.later hs⟩
   | 4, hp | 5, hp => exact hp
   | j + 6, _ => exact trivial
 case dep =>
   intro j f g w hj hfg hp;have hj : j < 6 := hj
   match j, hp, hfg with
   | 0, hp, hfg =>
     have hq : ∃ h, f 0 = Value.slice (some ⟨h, 0, none⟩) 7 7 ∧ SBox w h 9 kwC ∧ wz.heap.size < h := hp;rw [hfg 0 (by show 0 < 6; decide) (by first | exact .inl rfl | exact .inr (by kernel_rfl))] at hq;exact hq
   | 1, hp, hfg =>
     have hq : f 1 = Value.pointer (some ⟨wz.heap.size, 0, none⟩) := hp;rw [hfg 1 (by show 1 < 6; decide) (by first | exact .inl rfl | exact .inr (by kernel_rfl))] at hq;exact hq
   | 2, hp, hfg =>
     have hq : f 2 = Value.int .u8 x.k := hp;rw [hfg 2 (by show 2 < 6; decide) (by first | exact .inl rfl | exact .inr (by kernel_rfl))] at hq;exact hq
   | 3, hp, hfg =>
     have hq : ∃ h, f 3 = Value.pointer (some ⟨h, x.k, none⟩) ∧ SBox w h 9 kwC := hp;rw [hfg 3 (by show 3 < 6; decide) (by first | exact .inl rfl | exact .inr (by kernel_rfl))] at hq;exact hq
   | 4, hp, hfg =>
     have hq : f 4 = Value.string (B (kw x.k)) := hp;rw [hfg 4 (by show 4 < 6; decide) (by first | exact .inl rfl | exact .inr (by kernel_rfl))] at hq;exact hq
   | 5, hp, hfg =>
     have hq : f 5 = Value.string (B (kw x.k)) := hp;rw [hfg 5 (by show 5 < 6; decide) (by first | exact .inl rfl | exact .inr (by kernel_rfl))] at hq;exact hq
   | j + 6, _, _ => exact trivial
 case AA =>
   rintro i a v hi ⟨_, _, _, _, _, _, rfl⟩
   match i, hi with
   | 0, _ | 1, _ | 2, _ | 3, _ | 4, _ | 5, _ => exact ⟨⟨_, _, _, _, _, _, rfl⟩, fun t h => by cases h <;> exact of_decide_eq_true rfl⟩
   | i + 6, hi => exact absurd hi (by simp)
 case G0 => exact ⟨HB1.out.drew, HX1.out.drew⟩
 case step =>
   rintro i a w1 lst hi ⟨x5, x14, x15, x16, x17, x18, rfl⟩ hl hcl hG hp;refine wpOp_via (fun K hK => ?_)
   match i, hi with
   | 0, _ =>
     obtain ⟨hb, hr⟩ := hG;refine wpOp_at (by rfl) rfl ?_;go_simp;refine Calls.mono (words_any w1) ?_;rintro e w2 ⟨rfl, h1, h3⟩;have hlz := hr.lt;exact hK _ _ ⟨_, rfl, ⟨hb.trans (h3.mono hb.size), SBox.later hr h3⟩, h3, _, rfl, h1, hlz⟩
   | 1, _ =>
     obtain ⟨hb, hr⟩ := hG;have hlz := hr.lt;refine wpOp_at (by rfl) rfl ?_;go_simp;exact hK _ _ ⟨_, rfl, ⟨hb, hr⟩, Below.refl _ _, rfl⟩
   | 2, _ =>
     obtain ⟨hb, hr⟩ := hG;obtain rfl : x15 = _ := hp 1 (by kernel_rfl);have c1 := SBox.cell hr 0;unfold M.cells at c1;simp only [List.getElem?_toArray, List.getElem?_cons_zero] at c1;refine wpOp_at (by rfl) rfl ?_;go_simp;exact hK _ _ ⟨_, rfl, ⟨hb, hr⟩, Below.refl _ _, rfl⟩
   | 3, _ =>
     obtain ⟨hb, hr⟩ := hG;obtain ⟨h, e14, h2, h3⟩ := hp 0 (by kernel_rfl);change x14 = _ at e14;subst e14;obtain rfl : x16 = _ := hp 2 (by kernel_rfl);have hlh := h2.lt;have g0 : (0 : Int) ≤ (x.k : Int) ∧ (x.k : Int) < 7 := by omega
     refine wpOp_at (by rfl) rfl ?_;go_simp;exact hK _ _ ⟨_, rfl, ⟨hb, hr⟩, Below.refl _ _, h, rfl, h2⟩
   | 4, _ =>
     obtain ⟨hb, hr⟩ := hG;obtain ⟨h, e17, h2⟩ := hp 3 (by kernel_rfl);change x17 = _ at e17;subst e17;have c1 := kw_cell h2 x.k hk7;refine wpOp_at (by rfl) rfl ?_;go_simp;exact hK _ _ ⟨_, rfl, ⟨hb, hr⟩, Below.refl _ _, rfl⟩
   | 5, _ =>
     obtain ⟨hb, hr⟩ := hG;obtain rfl : x18 = _ := hp 4 (by kernel_rfl);refine wpOp_at (by rfl) rfl ?_;go_simp;exact hK _ _ ⟨_, rfl, ⟨hb, hr⟩, Below.refl _ _, rfl⟩
   | i + 6, hi => exact absurd hi (by simp)
 case done =>
   rintro a9 w2 lst hl ⟨x5, x14, x15, x16, x17, x18, rfl⟩ ⟨hb, hr⟩ hp;obtain rfl : x5 = _ := hp 5 (by decide);clear hp;have S1 := Lib.hid (And.intro hb hr);clear hb hr;obtain ⟨hb2, hr2⟩ := S1.out;have HB2 := Lib.hid hb2;have HX2 := Lib.hid hr2;clear hb2 hr2 S1 HB1 HX1 C;go_wp2_with fail;refine (fields_any w2).mono ?_;rintro e w3 ⟨a, r, rfl, ft, hb3⟩;have HF3 := Lib.hid ft;have HB3 := Lib.hid (HB2.out.trans (hb3.mono HB2.out.size));have HX3 := Lib.hid (show MBox w3 wz.heap.size x from SBox.later HX2.out hb3);have hzr := Lib.hid ft.lo;have hz2 : wz.heap.size < w2.heap.size := HX2.out.lt;clear ft hb3
   go_wp2
   go_loopw [5, 21] (fun s i wr => ∃ k : Nat, k ≤ 11 ∧ i = .int .i64 k ∧ s = .string (B (lineTo x k)) ∧ FT w2.heap.size a r wr ∧ MBox wr wz.heap.size x ∧ Below wz.heap.size wz wr) (fun _ i _ => 11 - (intOf i).toNat)
   case atStart => exact ⟨0, by omega, rfl, rfl, HF3.out, HX3.out, HB3.out⟩
   case round =>
     obtain ⟨k, hk, rfl, rfl, hft, hmb, hbl⟩ := hrel
     by_cases hlt : k < 11
     · have hln := lineTo_len x HG.out.toIn k
       have htn := tellF_len x HG.out.toIn k
       have hls : (lineTo x k).length ≤ 200000 := by
         have h1 : k * (31 + 3 * x.size) ≤ 11 * (31 + 3 * 3000) := Nat.mul_le_mul (by omega) (by have := HSZ.out; omega);omega
       have hts : (tellF k x).length ≤ 10000 := by have := HSZ.out; omega
       have hbsz : (B (lineTo x k)).size = (lineTo x k).length := rfl;have hbst : (B (tellF k x)).size = (tellF k x).length := rfl;clear hln htn;have HFT := Lib.hid hft;have HMB := Lib.hid hmb;have HBL := Lib.hid hbl;have hrow := hft.row;have hlr := hrow.lt;have hlm := hmb.lt;clear hft hmb hbl;obtain rfl | rfl | rfl | rfl | rfl | rfl | rfl | rfl | rfl | rfl | rfl : k = 0 ∨ k = 1 ∨ k = 2 ∨ k = 3 ∨ k = 4 ∨ k = 5 ∨ k = 6 ∨ k = 7 ∨ k = 8 ∨ k = 9 ∨ k = 10 := by omega
       · have TL := Lib.hid (tell_num 68 wz.heap.size 1 (a 0) x.co (wr.alloc (.cells #[.string ⟨#[99, 111, 114, 101]⟩, .func (.func 114) #[] #[.pointer (some ⟨a 0, 0, none⟩)], .func (.func 115) #[] #[.pointer (some ⟨a 0, 0, none⟩)]] 79)) (HL.out.later (HBL.out.alloc HBL.out.size (.cells #[.string ⟨#[99, 111, 114, 101]⟩, .func (.func 114) #[] #[.pointer (some ⟨a 0, 0, none⟩)], .func (.func 115) #[] #[.pointer (some ⟨a 0, 0, none⟩)]] 79))) HG.out.co0 HG.out.co1 (SBox.alloc HFT.out.at0 _) (((HMB.out.alloc _).cell 1).trans rfl) (enters_of Tryz.func68 (by kernel_rfl) rfl) (fun W => at0 wz.heap.size W))
         have c0 := hrow.cell 0;have c1 := hrow.cell 1;have c2 := hrow.cell 2;have HT := Lib.hid (show tellF 0 x = tellF 0 x from rfl);change Hid (Calls _ _ _ _ (fun e w' => e = Ending.returned (Value.string (B (tellF 0 x))) ∧ _)) at TL;have NX := Lib.hid (lineTo_next x 0);have SK := Lib.hid (lineTo_skip x 0)
         generalize hte : tellF 0 x = t at *
         generalize hle : lineTo x 0 = l at *
         have BW := Lib.hid ((Below.refl wr.heap.size wr).alloc (Nat.le_refl _) (.cells #[.string ⟨#[99, 111, 114, 101]⟩, .func (.func 114) #[] #[.pointer (some ⟨a 0, 0, none⟩)], .func (.func 115) #[] #[.pointer (some ⟨a 0, 0, none⟩)]] 79));unfold rowT numTf numHf at c0 c1 c2
         (try unfold ptr at c0 c1 c2)
         simp only [List.getElem?_toArray, List.getElem?_cons_zero, List.getElem?_cons_succ] at c0 c1 c2;clear hrow hte hle;go_wp2_with fail;refine TL.out.mono ?_;rintro e w8 ⟨rfl, hb8⟩;have N8 := (SBox.new wr 79 #[.string ⟨#[99, 111, 114, 101]⟩, .func (.func 114) #[] #[.pointer (some ⟨a 0, 0, none⟩)], .func (.func 115) #[] #[.pointer (some ⟨a 0, 0, none⟩)]]).later hb8;have d0 := N8.cell 0;simp only [List.getElem?_toArray, List.getElem?_cons_zero] at d0;have B8 : Below wr.heap.size wr w8 := BW.out.trans (hb8.mono (by simp));have RS := Lib.hid (And.intro (HFT.out.later B8) (And.intro (show MBox w8 wz.heap.size x from SBox.later HMB.out B8) (HBL.out.trans (B8.mono HBL.out.size))));clear hb8 N8 B8 c0 c1 c2
         by_cases ht : t = []
         · have g0 : (B t).toList.isEmpty = true := by rw [Path.toList_L, ht]; rfl
           have SK2 := Lib.hid (SK.out ht);clear ht;go_wp2_with fail;go_roundw
           case rel => exact ⟨1, by omega, by go_num, by rw [SK2.out], RS.out.1, RS.out.2.1, RS.out.2.2⟩
           case measure => simp [intOf]
         · have g0 : (B t).toList.isEmpty = false := empty_no (List.length_pos_iff.mpr ht)
           have NX2 := Lib.hid (NX.out ht);clear ht;go_wp2_with fail;go_roundw
           case rel => exact ⟨1, by omega, by go_num, by rw [NX2.out]; simp only [append_B, L_B]; rfl, RS.out.1, RS.out.2.1, RS.out.2.2⟩
           case measure => simp [intOf]
       · have TL := Lib.hid (tell_num 69 wz.heap.size 2 (a 1) x.n (wr.alloc (.cells #[.string ⟨#[110]⟩, .func (.func 114) #[] #[.pointer (some ⟨a 1, 0, none⟩)], .func (.func 115) #[] #[.pointer (some ⟨a 1, 0, none⟩)]] 79)) (HL.out.later (HBL.out.alloc HBL.out.size (.cells #[.string ⟨#[110]⟩, .func (.func 114) #[] #[.pointer (some ⟨a 1, 0, none⟩)], .func (.func 115) #[] #[.pointer (some ⟨a 1, 0, none⟩)]] 79))) HG.out.n0 HG.out.n1 (SBox.alloc HFT.out.at1 _) (((HMB.out.alloc _).cell 2).trans rfl) (enters_of Tryz.func69 (by kernel_rfl) rfl) (fun W => at1 wz.heap.size W))
         have c0 := hrow.cell 3;have c1 := hrow.cell 4;have c2 := hrow.cell 5;have HT := Lib.hid (show tellF 1 x = tellF 1 x from rfl);change Hid (Calls _ _ _ _ (fun e w' => e = Ending.returned (Value.string (B (tellF 1 x))) ∧ _)) at TL;have NX := Lib.hid (lineTo_next x 1);have SK := Lib.hid (lineTo_skip x 1)
         generalize hte : tellF 1 x = t at *
         generalize hle : lineTo x 1 = l at *
         have BW := Lib.hid ((Below.refl wr.heap.size wr).alloc (Nat.le_refl _) (.cells #[.string ⟨#[110]⟩, .func (.func 114) #[] #[.pointer (some ⟨a 1, 0, none⟩)], .func (.func 115) #[] #[.pointer (some ⟨a 1, 0, none⟩)]] 79));unfold rowT numTf numHf at c0 c1 c2
         (try unfold ptr at c0 c1 c2)
         simp only [List.getElem?_toArray, List.getElem?_cons_zero, List.getElem?_cons_succ] at c0 c1 c2;clear hrow hte hle;go_wp2_with fail;refine TL.out.mono ?_;rintro e w8 ⟨rfl, hb8⟩;have N8 := (SBox.new wr 79 #[.string ⟨#[110]⟩, .func (.func 114) #[] #[.pointer (some ⟨a 1, 0, none⟩)], .func (.func 115) #[] #[.pointer (some ⟨a 1, 0, none⟩)]]).later hb8;have d0 := N8.cell 0;simp only [List.getElem?_toArray, List.getElem?_cons_zero] at d0;have B8 : Below wr.heap.size wr w8 := BW.out.trans (hb8.mono (by simp));have RS := Lib.hid (And.intro (HFT.out.later B8) (And.intro (show MBox w8 wz.heap.size x from SBox.later HMB.out B8) (HBL.out.trans (B8.mono HBL.out.size))));clear hb8 N8 B8 c0 c1 c2
         by_cases ht : t = []
         · have g0 : (B t).toList.isEmpty = true := by rw [Path.toList_L, ht]; rfl
           have SK2 := Lib.hid (SK.out ht);clear ht;go_wp2_with fail;go_roundw
           case rel => exact ⟨2, by omega, by go_num, by rw [SK2.out], RS.out.1, RS.out.2.1, RS.out.2.2⟩
           case measure => simp [intOf]
         · have g0 : (B t).toList.isEmpty = false := empty_no (List.length_pos_iff.mpr ht)
           have NX2 := Lib.hid (NX.out ht);clear ht;go_wp2_with fail;go_roundw
           case rel => exact ⟨2, by omega, by go_num, by rw [NX2.out]; simp only [append_B, L_B]; rfl, RS.out.1, RS.out.2.1, RS.out.2.2⟩
           case measure => simp [intOf]
       · have TL := Lib.hid (tell_high 71 wz.heap.size 3 (a 2) x.ino (wr.alloc (.cells #[.string ⟨#[105, 110, 111]⟩, .func (.func 116) #[] #[.pointer (some ⟨a 2, 0, none⟩)], .func (.func 118) #[] #[.pointer (some ⟨a 2, 0, none⟩)]] 79)) (HL.out.later (HBL.out.alloc HBL.out.size (.cells #[.string ⟨#[105, 110, 111]⟩, .func (.func 116) #[] #[.pointer (some ⟨a 2, 0, none⟩)], .func (.func 118) #[] #[.pointer (some ⟨a 2, 0, none⟩)]] 79))) HG.out.ino (SBox.alloc HFT.out.at2 _) (((HMB.out.alloc _).cell 3).trans rfl) (enters_of Tryz.func71 (by kernel_rfl) rfl) (fun W => at2 wz.heap.size W))
         have c0 := hrow.cell 6;have c1 := hrow.cell 7;have c2 := hrow.cell 8;have HT := Lib.hid (show tellF 2 x = tellF 2 x from rfl);change Hid (Calls _ _ _ _ (fun e w' => e = Ending.returned (Value.string (B (tellF 2 x))) ∧ _)) at TL;have NX := Lib.hid (lineTo_next x 2);have SK := Lib.hid (lineTo_skip x 2)
         generalize hte : tellF 2 x = t at *
         generalize hle : lineTo x 2 = l at *
         have BW := Lib.hid ((Below.refl wr.heap.size wr).alloc (Nat.le_refl _) (.cells #[.string ⟨#[105, 110, 111]⟩, .func (.func 116) #[] #[.pointer (some ⟨a 2, 0, none⟩)], .func (.func 118) #[] #[.pointer (some ⟨a 2, 0, none⟩)]] 79));unfold rowT highTf highHf at c0 c1 c2
         (try unfold ptr at c0 c1 c2)
         simp only [List.getElem?_toArray, List.getElem?_cons_zero, List.getElem?_cons_succ] at c0 c1 c2;clear hrow hte hle;go_wp2_with fail;refine TL.out.mono ?_;rintro e w8 ⟨rfl, hb8⟩;have N8 := (SBox.new wr 79 #[.string ⟨#[105, 110, 111]⟩, .func (.func 116) #[] #[.pointer (some ⟨a 2, 0, none⟩)], .func (.func 118) #[] #[.pointer (some ⟨a 2, 0, none⟩)]]).later hb8;have d0 := N8.cell 0;simp only [List.getElem?_toArray, List.getElem?_cons_zero] at d0;have B8 : Below wr.heap.size wr w8 := BW.out.trans (hb8.mono (by simp));have RS := Lib.hid (And.intro (HFT.out.later B8) (And.intro (show MBox w8 wz.heap.size x from SBox.later HMB.out B8) (HBL.out.trans (B8.mono HBL.out.size))));clear hb8 N8 B8 c0 c1 c2
         by_cases ht : t = []
         · have g0 : (B t).toList.isEmpty = true := by rw [Path.toList_L, ht]; rfl
           have SK2 := Lib.hid (SK.out ht);clear ht;go_wp2_with fail;go_roundw
           case rel => exact ⟨3, by omega, by go_num, by rw [SK2.out], RS.out.1, RS.out.2.1, RS.out.2.2⟩
           case measure => simp [intOf]
         · have g0 : (B t).toList.isEmpty = false := empty_no (List.length_pos_iff.mpr ht)
           have NX2 := Lib.hid (NX.out ht);clear ht;go_wp2_with fail;go_roundw
           case rel => exact ⟨3, by omega, by go_num, by rw [NX2.out]; simp only [append_B, L_B]; rfl, RS.out.1, RS.out.2.1, RS.out.2.2⟩
           case measure => simp [intOf]
       · have TL := Lib.hid (tell_which wz.heap.size x.d (wr.alloc (.cells #[.string ⟨#[100, 111]⟩, .func (.func 119) #[] #[], .func (.func 121) #[] #[]] 79)) (HL.out.later (HBL.out.alloc HBL.out.size (.cells #[.string ⟨#[100, 111]⟩, .func (.func 119) #[] #[], .func (.func 121) #[] #[]] 79))) HG.out.d (((HMB.out.alloc _).cell 4).trans rfl))
         have c0 := hrow.cell 9;have c1 := hrow.cell 10;have c2 := hrow.cell 11;have HT := Lib.hid (show tellF 3 x = tellF 3 x from rfl);change Hid (Calls _ _ _ _ (fun e w' => e = Ending.returned (Value.string (B (tellF 3 x))) ∧ _)) at TL;have NX := Lib.hid (lineTo_next x 3);have SK := Lib.hid (lineTo_skip x 3)
         generalize hte : tellF 3 x = t at *
         generalize hle : lineTo x 3 = l at *
         have BW := Lib.hid ((Below.refl wr.heap.size wr).alloc (Nat.le_refl _) (.cells #[.string ⟨#[100, 111]⟩, .func (.func 119) #[] #[], .func (.func 121) #[] #[]] 79));unfold rowT whichT whichH at c0 c1 c2
         (try unfold ptr at c0 c1 c2)
         simp only [List.getElem?_toArray, List.getElem?_cons_zero, List.getElem?_cons_succ] at c0 c1 c2;clear hrow hte hle;go_wp2_with fail;refine TL.out.mono ?_;rintro e w8 ⟨rfl, hb8⟩;have N8 := (SBox.new wr 79 #[.string ⟨#[100, 111]⟩, .func (.func 119) #[] #[], .func (.func 121) #[] #[]]).later hb8;have d0 := N8.cell 0;simp only [List.getElem?_toArray, List.getElem?_cons_zero] at d0;have B8 : Below wr.heap.size wr w8 := BW.out.trans (hb8.mono (by simp));have RS := Lib.hid (And.intro (HFT.out.later B8) (And.intro (show MBox w8 wz.heap.size x from SBox.later HMB.out B8) (HBL.out.trans (B8.mono HBL.out.size))));clear hb8 N8 B8 c0 c1 c2
         by_cases ht : t = []
         · have g0 : (B t).toList.isEmpty = true := by rw [Path.toList_L, ht]; rfl
           have SK2 := Lib.hid (SK.out ht);clear ht;go_wp2_with fail;go_roundw
           case rel => exact ⟨4, by omega, by go_num, by rw [SK2.out], RS.out.1, RS.out.2.1, RS.out.2.2⟩
           case measure => simp [intOf]
         · have g0 : (B t).toList.isEmpty = false := empty_no (List.length_pos_iff.mpr ht)
           have NX2 := Lib.hid (NX.out ht);clear ht;go_wp2_with fail;go_roundw
           case rel => exact ⟨4, by omega, by go_num, by rw [NX2.out]; simp only [append_B, L_B]; rfl, RS.out.1, RS.out.2.1, RS.out.2.2⟩
           case measure => simp [intOf]
       · have TL := Lib.hid (tell_str 74 wz.heap.size 5 (a 4) x.p (wr.alloc (.cells #[.string ⟨#[112, 97, 116, 104]⟩, .func (.func 122) #[] #[.pointer (some ⟨a 4, 0, none⟩)], .func (.func 124) #[] #[.pointer (some ⟨a 4, 0, none⟩)]] 79)) (by have := HSZ.out; unfold M.size at this; omega) (SBox.alloc HFT.out.at4 _) (((HMB.out.alloc _).cell 5).trans rfl) (enters_of Tryz.func74 (by kernel_rfl) rfl) (fun W => at4 wz.heap.size W))
         have c0 := hrow.cell 12;have c1 := hrow.cell 13;have c2 := hrow.cell 14;have HT := Lib.hid (show tellF 4 x = tellF 4 x from rfl);change Hid (Calls _ _ _ _ (fun e w' => e = Ending.returned (Value.string (B (tellF 4 x))) ∧ _)) at TL;have NX := Lib.hid (lineTo_next x 4);have SK := Lib.hid (lineTo_skip x 4)
         generalize hte : tellF 4 x = t at *
         generalize hle : lineTo x 4 = l at *
         have BW := Lib.hid ((Below.refl wr.heap.size wr).alloc (Nat.le_refl _) (.cells #[.string ⟨#[112, 97, 116, 104]⟩, .func (.func 122) #[] #[.pointer (some ⟨a 4, 0, none⟩)], .func (.func 124) #[] #[.pointer (some ⟨a 4, 0, none⟩)]] 79));unfold rowT strTf strHf at c0 c1 c2
         (try unfold ptr at c0 c1 c2)
         simp only [List.getElem?_toArray, List.getElem?_cons_zero, List.getElem?_cons_succ] at c0 c1 c2;clear hrow hte hle;go_wp2_with fail;refine TL.out.mono ?_;rintro e w8 ⟨rfl, hb8⟩;have N8 := (SBox.new wr 79 #[.string ⟨#[112, 97, 116, 104]⟩, .func (.func 122) #[] #[.pointer (some ⟨a 4, 0, none⟩)], .func (.func 124) #[] #[.pointer (some ⟨a 4, 0, none⟩)]]).later hb8;have d0 := N8.cell 0;simp only [List.getElem?_toArray, List.getElem?_cons_zero] at d0;have B8 : Below wr.heap.size wr w8 := BW.out.trans (hb8.mono (by simp));have RS := Lib.hid (And.intro (HFT.out.later B8) (And.intro (show MBox w8 wz.heap.size x from SBox.later HMB.out B8) (HBL.out.trans (B8.mono HBL.out.size))));clear hb8 N8 B8 c0 c1 c2
         by_cases ht : t = []
         · have g0 : (B t).toList.isEmpty = true := by rw [Path.toList_L, ht]; rfl
           have SK2 := Lib.hid (SK.out ht);clear ht;go_wp2_with fail;go_roundw
           case rel => exact ⟨5, by omega, by go_num, by rw [SK2.out], RS.out.1, RS.out.2.1, RS.out.2.2⟩
           case measure => simp [intOf]
         · have g0 : (B t).toList.isEmpty = false := empty_no (List.length_pos_iff.mpr ht)
           have NX2 := Lib.hid (NX.out ht);clear ht;go_wp2_with fail;go_roundw
           case rel => exact ⟨5, by omega, by go_num, by rw [NX2.out]; simp only [append_B, L_B]; rfl, RS.out.1, RS.out.2.1, RS.out.2.2⟩
           case measure => simp [intOf]
       · have TL := Lib.hid (tell_str 75 wz.heap.size 6 (a 5) x.p2 (wr.alloc (.cells #[.string ⟨#[116, 111]⟩, .func (.func 122) #[] #[.pointer (some ⟨a 5, 0, none⟩)], .func (.func 124) #[] #[.pointer (some ⟨a 5, 0, none⟩)]] 79)) (by have := HSZ.out; unfold M.size at this; omega) (SBox.alloc HFT.out.at5 _) (((HMB.out.alloc _).cell 6).trans rfl) (enters_of Tryz.func75 (by kernel_rfl) rfl) (fun W => at5 wz.heap.size W))
         have c0 := hrow.cell 15;have c1 := hrow.cell 16;have c2 := hrow.cell 17;have HT := Lib.hid (show tellF 5 x = tellF 5 x from rfl);change Hid (Calls _ _ _ _ (fun e w' => e = Ending.returned (Value.string (B (tellF 5 x))) ∧ _)) at TL;have NX := Lib.hid (lineTo_next x 5);have SK := Lib.hid (lineTo_skip x 5)
         generalize hte : tellF 5 x = t at *
         generalize hle : lineTo x 5 = l at *
         have BW := Lib.hid ((Below.refl wr.heap.size wr).alloc (Nat.le_refl _) (.cells #[.string ⟨#[116, 111]⟩, .func (.func 122) #[] #[.pointer (some ⟨a 5, 0, none⟩)], .func (.func 124) #[] #[.pointer (some ⟨a 5, 0, none⟩)]] 79));unfold rowT strTf strHf at c0 c1 c2
         (try unfold ptr at c0 c1 c2)
         simp only [List.getElem?_toArray, List.getElem?_cons_zero, List.getElem?_cons_succ] at c0 c1 c2;clear hrow hte hle;go_wp2_with fail;refine TL.out.mono ?_;rintro e w8 ⟨rfl, hb8⟩;have N8 := (SBox.new wr 79 #[.string ⟨#[116, 111]⟩, .func (.func 122) #[] #[.pointer (some ⟨a 5, 0, none⟩)], .func (.func 124) #[] #[.pointer (some ⟨a 5, 0, none⟩)]]).later hb8;have d0 := N8.cell 0;simp only [List.getElem?_toArray, List.getElem?_cons_zero] at d0;have B8 : Below wr.heap.size wr w8 := BW.out.trans (hb8.mono (by simp));have RS := Lib.hid (And.intro (HFT.out.later B8) (And.intro (show MBox w8 wz.heap.size x from SBox.later HMB.out B8) (HBL.out.trans (B8.mono HBL.out.size))));clear hb8 N8 B8 c0 c1 c2
         by_cases ht : t = []
         · have g0 : (B t).toList.isEmpty = true := by rw [Path.toList_L, ht]; rfl
           have SK2 := Lib.hid (SK.out ht);clear ht;go_wp2_with fail;go_roundw
           case rel => exact ⟨6, by omega, by go_num, by rw [SK2.out], RS.out.1, RS.out.2.1, RS.out.2.2⟩
           case measure => simp [intOf]
         · have g0 : (B t).toList.isEmpty = false := empty_no (List.length_pos_iff.mpr ht)
           have NX2 := Lib.hid (NX.out ht);clear ht;go_wp2_with fail;go_roundw
           case rel => exact ⟨6, by omega, by go_num, by rw [NX2.out]; simp only [append_B, L_B]; rfl, RS.out.1, RS.out.2.1, RS.out.2.2⟩
           case measure => simp [intOf]
       · have TL := Lib.hid (tell_num 76 wz.heap.size 7 (a 6) x.fd (wr.alloc (.cells #[.string ⟨#[102, 100]⟩, .func (.func 114) #[] #[.pointer (some ⟨a 6, 0, none⟩)], .func (.func 115) #[] #[.pointer (some ⟨a 6, 0, none⟩)]] 79)) (HL.out.later (HBL.out.alloc HBL.out.size (.cells #[.string ⟨#[102, 100]⟩, .func (.func 114) #[] #[.pointer (some ⟨a 6, 0, none⟩)], .func (.func 115) #[] #[.pointer (some ⟨a 6, 0, none⟩)]] 79))) HG.out.fd0 HG.out.fd1 (SBox.alloc HFT.out.at6 _) (((HMB.out.alloc _).cell 7).trans rfl) (enters_of Tryz.func76 (by kernel_rfl) rfl) (fun W => at6 wz.heap.size W))
         have c0 := hrow.cell 18;have c1 := hrow.cell 19;have c2 := hrow.cell 20;have HT := Lib.hid (show tellF 6 x = tellF 6 x from rfl);change Hid (Calls _ _ _ _ (fun e w' => e = Ending.returned (Value.string (B (tellF 6 x))) ∧ _)) at TL;have NX := Lib.hid (lineTo_next x 6);have SK := Lib.hid (lineTo_skip x 6)
         generalize hte : tellF 6 x = t at *
         generalize hle : lineTo x 6 = l at *
         have BW := Lib.hid ((Below.refl wr.heap.size wr).alloc (Nat.le_refl _) (.cells #[.string ⟨#[102, 100]⟩, .func (.func 114) #[] #[.pointer (some ⟨a 6, 0, none⟩)], .func (.func 115) #[] #[.pointer (some ⟨a 6, 0, none⟩)]] 79));unfold rowT numTf numHf at c0 c1 c2
         (try unfold ptr at c0 c1 c2)
         simp only [List.getElem?_toArray, List.getElem?_cons_zero, List.getElem?_cons_succ] at c0 c1 c2;clear hrow hte hle;go_wp2_with fail;refine TL.out.mono ?_;rintro e w8 ⟨rfl, hb8⟩;have N8 := (SBox.new wr 79 #[.string ⟨#[102, 100]⟩, .func (.func 114) #[] #[.pointer (some ⟨a 6, 0, none⟩)], .func (.func 115) #[] #[.pointer (some ⟨a 6, 0, none⟩)]]).later hb8;have d0 := N8.cell 0;simp only [List.getElem?_toArray, List.getElem?_cons_zero] at d0;have B8 : Below wr.heap.size wr w8 := BW.out.trans (hb8.mono (by simp));have RS := Lib.hid (And.intro (HFT.out.later B8) (And.intro (show MBox w8 wz.heap.size x from SBox.later HMB.out B8) (HBL.out.trans (B8.mono HBL.out.size))));clear hb8 N8 B8 c0 c1 c2
         by_cases ht : t = []
         · have g0 : (B t).toList.isEmpty = true := by rw [Path.toList_L, ht]; rfl
           have SK2 := Lib.hid (SK.out ht);clear ht;go_wp2_with fail;go_roundw
           case rel => exact ⟨7, by omega, by go_num, by rw [SK2.out], RS.out.1, RS.out.2.1, RS.out.2.2⟩
           case measure => simp [intOf]
         · have g0 : (B t).toList.isEmpty = false := empty_no (List.length_pos_iff.mpr ht)
           have NX2 := Lib.hid (NX.out ht);clear ht;go_wp2_with fail;go_roundw
           case rel => exact ⟨7, by omega, by go_num, by rw [NX2.out]; simp only [append_B, L_B]; rfl, RS.out.1, RS.out.2.1, RS.out.2.2⟩
           case measure => simp [intOf]
       · have TL := Lib.hid (tell_num 77 wz.heap.size 8 (a 7) x.pg (wr.alloc (.cells #[.string ⟨#[112, 97, 103, 101]⟩, .func (.func 114) #[] #[.pointer (some ⟨a 7, 0, none⟩)], .func (.func 115) #[] #[.pointer (some ⟨a 7, 0, none⟩)]] 79)) (HL.out.later (HBL.out.alloc HBL.out.size (.cells #[.string ⟨#[112, 97, 103, 101]⟩, .func (.func 114) #[] #[.pointer (some ⟨a 7, 0, none⟩)], .func (.func 115) #[] #[.pointer (some ⟨a 7, 0, none⟩)]] 79))) HG.out.pg0 HG.out.pg1 (SBox.alloc HFT.out.at7 _) (((HMB.out.alloc _).cell 8).trans rfl) (enters_of Tryz.func77 (by kernel_rfl) rfl) (fun W => at7 wz.heap.size W))
         have c0 := hrow.cell 21;have c1 := hrow.cell 22;have c2 := hrow.cell 23;have HT := Lib.hid (show tellF 7 x = tellF 7 x from rfl);change Hid (Calls _ _ _ _ (fun e w' => e = Ending.returned (Value.string (B (tellF 7 x))) ∧ _)) at TL;have NX := Lib.hid (lineTo_next x 7);have SK := Lib.hid (lineTo_skip x 7)
         generalize hte : tellF 7 x = t at *
         generalize hle : lineTo x 7 = l at *
         have BW := Lib.hid ((Below.refl wr.heap.size wr).alloc (Nat.le_refl _) (.cells #[.string ⟨#[112, 97, 103, 101]⟩, .func (.func 114) #[] #[.pointer (some ⟨a 7, 0, none⟩)], .func (.func 115) #[] #[.pointer (some ⟨a 7, 0, none⟩)]] 79));unfold rowT numTf numHf at c0 c1 c2
         (try unfold ptr at c0 c1 c2)
         simp only [List.getElem?_toArray, List.getElem?_cons_zero, List.getElem?_cons_succ] at c0 c1 c2;clear hrow hte hle;go_wp2_with fail;refine TL.out.mono ?_;rintro e w8 ⟨rfl, hb8⟩;have N8 := (SBox.new wr 79 #[.string ⟨#[112, 97, 103, 101]⟩, .func (.func 114) #[] #[.pointer (some ⟨a 7, 0, none⟩)], .func (.func 115) #[] #[.pointer (some ⟨a 7, 0, none⟩)]]).later hb8;have d0 := N8.cell 0;simp only [List.getElem?_toArray, List.getElem?_cons_zero] at d0;have B8 : Below wr.heap.size wr w8 := BW.out.trans (hb8.mono (by simp));have RS := Lib.hid (And.intro (HFT.out.later B8) (And.intro (show MBox w8 wz.heap.size x from SBox.later HMB.out B8) (HBL.out.trans (B8.mono HBL.out.size))));clear hb8 N8 B8 c0 c1 c2
         by_cases ht : t = []
         · have g0 : (B t).toList.isEmpty = true := by rw [Path.toList_L, ht]; rfl
           have SK2 := Lib.hid (SK.out ht);clear ht;go_wp2_with fail;go_roundw
           case rel => exact ⟨8, by omega, by go_num, by rw [SK2.out], RS.out.1, RS.out.2.1, RS.out.2.2⟩
           case measure => simp [intOf]
         · have g0 : (B t).toList.isEmpty = false := empty_no (List.length_pos_iff.mpr ht)
           have NX2 := Lib.hid (NX.out ht);clear ht;go_wp2_with fail;go_roundw
           case rel => exact ⟨8, by omega, by go_num, by rw [NX2.out]; simp only [append_B, L_B]; rfl, RS.out.1, RS.out.2.1, RS.out.2.2⟩
           case measure => simp [intOf]
       · have TL := Lib.hid (tell_high 78 wz.heap.size 9 (a 8) x.sz (wr.alloc (.cells #[.string ⟨#[115, 105, 122, 101]⟩, .func (.func 116) #[] #[.pointer (some ⟨a 8, 0, none⟩)], .func (.func 118) #[] #[.pointer (some ⟨a 8, 0, none⟩)]] 79)) (HL.out.later (HBL.out.alloc HBL.out.size (.cells #[.string ⟨#[115, 105, 122, 101]⟩, .func (.func 116) #[] #[.pointer (some ⟨a 8, 0, none⟩)], .func (.func 118) #[] #[.pointer (some ⟨a 8, 0, none⟩)]] 79))) HG.out.sz (SBox.alloc HFT.out.at8 _) (((HMB.out.alloc _).cell 9).trans rfl) (enters_of Tryz.func78 (by kernel_rfl) rfl) (fun W => at8 wz.heap.size W))
         have c0 := hrow.cell 24;have c1 := hrow.cell 25;have c2 := hrow.cell 26;have HT := Lib.hid (show tellF 8 x = tellF 8 x from rfl);change Hid (Calls _ _ _ _ (fun e w' => e = Ending.returned (Value.string (B (tellF 8 x))) ∧ _)) at TL;have NX := Lib.hid (lineTo_next x 8);have SK := Lib.hid (lineTo_skip x 8)
         generalize hte : tellF 8 x = t at *
         generalize hle : lineTo x 8 = l at *
         have BW := Lib.hid ((Below.refl wr.heap.size wr).alloc (Nat.le_refl _) (.cells #[.string ⟨#[115, 105, 122, 101]⟩, .func (.func 116) #[] #[.pointer (some ⟨a 8, 0, none⟩)], .func (.func 118) #[] #[.pointer (some ⟨a 8, 0, none⟩)]] 79));unfold rowT highTf highHf at c0 c1 c2
         (try unfold ptr at c0 c1 c2)
         simp only [List.getElem?_toArray, List.getElem?_cons_zero, List.getElem?_cons_succ] at c0 c1 c2;clear hrow hte hle;go_wp2_with fail;refine TL.out.mono ?_;rintro e w8 ⟨rfl, hb8⟩;have N8 := (SBox.new wr 79 #[.string ⟨#[115, 105, 122, 101]⟩, .func (.func 116) #[] #[.pointer (some ⟨a 8, 0, none⟩)], .func (.func 118) #[] #[.pointer (some ⟨a 8, 0, none⟩)]]).later hb8;have d0 := N8.cell 0;simp only [List.getElem?_toArray, List.getElem?_cons_zero] at d0;have B8 : Below wr.heap.size wr w8 := BW.out.trans (hb8.mono (by simp));have RS := Lib.hid (And.intro (HFT.out.later B8) (And.intro (show MBox w8 wz.heap.size x from SBox.later HMB.out B8) (HBL.out.trans (B8.mono HBL.out.size))));clear hb8 N8 B8 c0 c1 c2
         by_cases ht : t = []
         · have g0 : (B t).toList.isEmpty = true := by rw [Path.toList_L, ht]; rfl
           have SK2 := Lib.hid (SK.out ht);clear ht;go_wp2_with fail;go_roundw
           case rel => exact ⟨9, by omega, by go_num, by rw [SK2.out], RS.out.1, RS.out.2.1, RS.out.2.2⟩
           case measure => simp [intOf]
         · have g0 : (B t).toList.isEmpty = false := empty_no (List.length_pos_iff.mpr ht)
           have NX2 := Lib.hid (NX.out ht);clear ht;go_wp2_with fail;go_roundw
           case rel => exact ⟨9, by omega, by go_num, by rw [NX2.out]; simp only [append_B, L_B]; rfl, RS.out.1, RS.out.2.1, RS.out.2.2⟩
           case measure => simp [intOf]
       · have TL := Lib.hid (tell_str 79 wz.heap.size 10 (a 9) x.da (wr.alloc (.cells #[.string ⟨#[100, 97, 116, 97]⟩, .func (.func 122) #[] #[.pointer (some ⟨a 9, 0, none⟩)], .func (.func 124) #[] #[.pointer (some ⟨a 9, 0, none⟩)]] 79)) (by have := HSZ.out; unfold M.size at this; omega) (SBox.alloc HFT.out.at9 _) (((HMB.out.alloc _).cell 10).trans rfl) (enters_of Tryz.func79 (by kernel_rfl) rfl) (fun W => at9 wz.heap.size W))
         have c0 := hrow.cell 27;have c1 := hrow.cell 28;have c2 := hrow.cell 29;have HT := Lib.hid (show tellF 9 x = tellF 9 x from rfl);change Hid (Calls _ _ _ _ (fun e w' => e = Ending.returned (Value.string (B (tellF 9 x))) ∧ _)) at TL;have NX := Lib.hid (lineTo_next x 9);have SK := Lib.hid (lineTo_skip x 9)
         generalize hte : tellF 9 x = t at *
         generalize hle : lineTo x 9 = l at *
         have BW := Lib.hid ((Below.refl wr.heap.size wr).alloc (Nat.le_refl _) (.cells #[.string ⟨#[100, 97, 116, 97]⟩, .func (.func 122) #[] #[.pointer (some ⟨a 9, 0, none⟩)], .func (.func 124) #[] #[.pointer (some ⟨a 9, 0, none⟩)]] 79));unfold rowT strTf strHf at c0 c1 c2
         (try unfold ptr at c0 c1 c2)
         simp only [List.getElem?_toArray, List.getElem?_cons_zero, List.getElem?_cons_succ] at c0 c1 c2;clear hrow hte hle;go_wp2_with fail;refine TL.out.mono ?_;rintro e w8 ⟨rfl, hb8⟩;have N8 := (SBox.new wr 79 #[.string ⟨#[100, 97, 116, 97]⟩, .func (.func 122) #[] #[.pointer (some ⟨a 9, 0, none⟩)], .func (.func 124) #[] #[.pointer (some ⟨a 9, 0, none⟩)]]).later hb8;have d0 := N8.cell 0;simp only [List.getElem?_toArray, List.getElem?_cons_zero] at d0;have B8 : Below wr.heap.size wr w8 := BW.out.trans (hb8.mono (by simp));have RS := Lib.hid (And.intro (HFT.out.later B8) (And.intro (show MBox w8 wz.heap.size x from SBox.later HMB.out B8) (HBL.out.trans (B8.mono HBL.out.size))));clear hb8 N8 B8 c0 c1 c2
         by_cases ht : t = []
         · have g0 : (B t).toList.isEmpty = true := by rw [Path.toList_L, ht]; rfl
           have SK2 := Lib.hid (SK.out ht);clear ht;go_wp2_with fail;go_roundw
           case rel => exact ⟨10, by omega, by go_num, by rw [SK2.out], RS.out.1, RS.out.2.1, RS.out.2.2⟩
           case measure => simp [intOf]
         · have g0 : (B t).toList.isEmpty = false := empty_no (List.length_pos_iff.mpr ht)
           have NX2 := Lib.hid (NX.out ht);clear ht;go_wp2_with fail;go_roundw
           case rel => exact ⟨10, by omega, by go_num, by rw [NX2.out]; simp only [append_B, L_B]; rfl, RS.out.1, RS.out.2.1, RS.out.2.2⟩
           case measure => simp [intOf]
       · have TL := Lib.hid (tell_str 80 wz.heap.size 11 (a 10) x.t (wr.alloc (.cells #[.string ⟨#[116, 101, 120, 116]⟩, .func (.func 122) #[] #[.pointer (some ⟨a 10, 0, none⟩)], .func (.func 124) #[] #[.pointer (some ⟨a 10, 0, none⟩)]] 79)) (by have := HSZ.out; unfold M.size at this; omega) (SBox.alloc HFT.out.at10 _) (((HMB.out.alloc _).cell 11).trans rfl) (enters_of Tryz.func80 (by kernel_rfl) rfl) (fun W => at10 wz.heap.size W))
         have c0 := hrow.cell 30;have c1 := hrow.cell 31;have c2 := hrow.cell 32;have HT := Lib.hid (show tellF 10 x = tellF 10 x from rfl);change Hid (Calls _ _ _ _ (fun e w' => e = Ending.returned (Value.string (B (tellF 10 x))) ∧ _)) at TL;have NX := Lib.hid (lineTo_next x 10);have SK := Lib.hid (lineTo_skip x 10)
         generalize hte : tellF 10 x = t at *
         generalize hle : lineTo x 10 = l at *
         have BW := Lib.hid ((Below.refl wr.heap.size wr).alloc (Nat.le_refl _) (.cells #[.string ⟨#[116, 101, 120, 116]⟩, .func (.func 122) #[] #[.pointer (some ⟨a 10, 0, none⟩)], .func (.func 124) #[] #[.pointer (some ⟨a 10, 0, none⟩)]] 79));unfold rowT strTf strHf at c0 c1 c2
         (try unfold ptr at c0 c1 c2)
         simp only [List.getElem?_toArray, List.getElem?_cons_zero, List.getElem?_cons_succ] at c0 c1 c2;clear hrow hte hle;go_wp2_with fail;refine TL.out.mono ?_;rintro e w8 ⟨rfl, hb8⟩;have N8 := (SBox.new wr 79 #[.string ⟨#[116, 101, 120, 116]⟩, .func (.func 122) #[] #[.pointer (some ⟨a 10, 0, none⟩)], .func (.func 124) #[] #[.pointer (some ⟨a 10, 0, none⟩)]]).later hb8;have d0 := N8.cell 0;simp only [List.getElem?_toArray, List.getElem?_cons_zero] at d0;have B8 : Below wr.heap.size wr w8 := BW.out.trans (hb8.mono (by simp));have RS := Lib.hid (And.intro (HFT.out.later B8) (And.intro (show MBox w8 wz.heap.size x from SBox.later HMB.out B8) (HBL.out.trans (B8.mono HBL.out.size))));clear hb8 N8 B8 c0 c1 c2
         by_cases ht : t = []
         · have g0 : (B t).toList.isEmpty = true := by rw [Path.toList_L, ht]; rfl
           have SK2 := Lib.hid (SK.out ht);clear ht;go_wp2_with fail;go_roundw
           case rel => exact ⟨11, by omega, by go_num, by rw [SK2.out], RS.out.1, RS.out.2.1, RS.out.2.2⟩
           case measure => simp [intOf]
         · have g0 : (B t).toList.isEmpty = false := empty_no (List.length_pos_iff.mpr ht)
           have NX2 := Lib.hid (NX.out ht);clear ht;go_wp2_with fail;go_roundw
           case rel => exact ⟨11, by omega, by go_num, by rw [NX2.out]; simp only [append_B, L_B]; rfl, RS.out.1, RS.out.2.1, RS.out.2.2⟩
           case measure => simp [intOf]
     · obtain rfl : k = 11 := by omega
       have HBL := Lib.hid hbl;have e := lineTo_full x;have HE := Lib.hid e;clear hft hmb hbl e;go_wp2_with fail;go_ret2;exact ⟨by rw [HE.out]; rfl, HBL.out⟩
end Go.Proofs.YtkljcgopikdjjaaGreatDoor.Tx
end
