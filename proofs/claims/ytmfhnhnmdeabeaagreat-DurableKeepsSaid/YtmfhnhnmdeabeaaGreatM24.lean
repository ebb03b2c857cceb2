/- Layer 22 (rec): Parts, of a record that may be. -/
import Derived.Test.YtmfhnhnmdeabeaaGreatM23
import Derived.Deep.DeepMust
import Derived.Deep.AppendLies
import Derived.Deep.DeepCutAuto
set_option linter.unusedVariables false
set_option linter.unusedSimpArgs false
set_option maxRecDepth 100000
section
namespace Go.Proofs.YtmfhnhnmdeabeaaGreat.Re
open Go.RowKit Go.Shelf Go.Maps Oct Path Tr
def ownA (r : Rc) : Array Value := #[.int .u8 2, .int .u32 r.ino, .string ⟨#[]⟩, .bool false]
structure PS (r : Rc) (wz w : World) (oB base : Nat) (xs : List Pt) (v : Value) : Prop where
 be : Below wz.heap.size wz w
 rc : SBox w wz.heap.size 39 (recC r)
 out : SBox w (wz.heap.size + 1) 153 #[v]
 own : SBox w oB 156 (ownA r)
 row : w.ownsRow base 156 4 v xs.length (xs.flatMap encPt)
 lo : wz.heap.size + 1 < oB ∧ oB < base ∧ base ≤ w.heap.size
theorem PS.later {r : Rc} {wz w w' : World} {oB base : Nat} {xs : List Pt} {v : Value} (h : PS r wz w oB base xs v) (hb : Below w.heap.size w w') : PS r wz w' oB base xs v :=
 ⟨h.be.trans (hb.mono h.be.size), h.rc.later hb, h.out.later hb, h.own.later hb, own_later hb h.row, h.lo.1, h.lo.2.1, Nat.le_trans h.lo.2.2 hb.size⟩
theorem PS.tch {r : Rc} {wz w w' : World} {oB base : Nat} {xs ys : List Pt} {v v' : Value} (h : PS r wz w oB base xs v) (ht : Tch (fun c => c = wz.heap.size + 1 ∨ base ≤ c) w w') (ho : SBox w' (wz.heap.size + 1) 153 #[v']) (hr : w'.ownsRow base 156 4 v' ys.length (ys.flatMap encPt)) : PS r wz w' oB base ys v' := by
 have l := h.lo
 exact ⟨h.be.trans (ht.below fun i hi => ⟨Nat.lt_of_lt_of_le hi h.be.size, fun q => by omega⟩), Tch.box ht h.rc (fun q => by omega), ho, Tch.box ht h.own (fun q => by omega), hr, l.1, l.2.1, Nat.le_trans l.2.2 ht.size⟩
theorem PS.wr {r : Rc} {wz w : World} {oB base : Nat} {xs : List Pt} {v : Value} (h : PS r wz w oB base xs v) (x : Pt) (hn : xs.length ≤ 100) :
   Calls Tryz.prog 145 #[.slice (some ⟨w.heap.size, 0, none⟩) 1 1, .pointer (some ⟨wz.heap.size + 1, 0, none⟩)] (w.alloc (.cells #[.int .u8 x.kind, .int .u32 x.ino, .string (B x.name), .bool x.w] 156)) fun e w' => e = .returned (.tuple #[]) ∧ ∃ g cap, PS r wz w' oB base (xs ++ [wrP x]) (.slice (some ⟨g, 0, none⟩) (xs.length + 1) cap) := by
 have l := h.lo
 have h1 := h.later ((Below.refl _ w).alloc (Nat.le_refl _) (.cells #[.int .u8 x.kind, .int .u32 x.ino, .string (B x.name), .bool x.w] 156))
 refine (write_one x (wz.heap.size + 1) w.heap.size base v xs _ (SBox.new w _ _) h1.out h1.row (by omega) h1.lo.2.2 hn).mono ?_
 rintro e w' ⟨rfl, g, cap, a, b, c⟩
 exact ⟨rfl, g, cap, h1.tch c a b⟩
theorem PS.app {r : Rc} {wz w W2 : World} {oB base : Nat} {xs : List Pt} {v : Value} {C : Obj} (h : PS r wz w oB base xs v) (hg : (w.alloc C).grownBy W2 v.ownBlock) : Tch (fun c => c = wz.heap.size + 1 ∨ base ≤ c) w W2 :=
 (Tch.of ((Below.refl _ w).alloc (Nat.le_refl _) C)).trans ⟨hg.os, hg.tape, hg.output, hg.size, fun b hb ho => hg.block b hb (fun e => ho (.inr (h.row.lt b e.symm).1))⟩
theorem PS.old {r : Rc} {wz w W2 : World} {oB base : Nat} {xs : List Pt} {v : Value} {C : Obj} (h : PS r wz w oB base xs v) (hg : (w.alloc C).grownBy W2 v.ownBlock) : SBox W2 (wz.heap.size + 1) 153 #[v] := by
 have h1 := h.later ((Below.refl _ w).alloc (Nat.le_refl _) C)
 have l := h.lo
 exact (hg.block _ h1.out.lt (fun e => by have := (h.row.lt _ e.symm).1; omega)).trans h1.out
structure PCells (r : Rc) (n oB : Nat) (v : Value) (w : World) : Prop where
 c1 : w.cell? ⟨n, 1, none⟩ = some (.int .u8 r.op)
 c2 : w.cell? ⟨n, 2, none⟩ = some (.int .u32 r.dir)
 c3 : w.cell? ⟨n, 3, none⟩ = some (.string (B r.name))
 c5 : w.cell? ⟨n, 5, none⟩ = some (.int .u8 r.kind)
 c6 : w.cell? ⟨n, 6, none⟩ = some (.int .u32 r.dir2)
 c7 : w.cell? ⟨n, 7, none⟩ = some (.string (B r.name2))
 c8 : w.cell? ⟨n, 8, none⟩ = some (.int .u32 r.old)
 o0 : w.cell? ⟨oB, 0, none⟩ = some (.int .u8 2)
 o1 : w.cell? ⟨oB, 1, none⟩ = some (.int .u32 r.ino)
 o2 : w.cell? ⟨oB, 2, none⟩ = some (.string ⟨#[]⟩)
 o3 : w.cell? ⟨oB, 3, none⟩ = some (.bool false)
 v0 : w.cell? ⟨n + 1, 0, none⟩ = some v
 vf : w.frozen? ⟨n + 1, 0, none⟩ = false
 lt : n < w.heap.size ∧ n + 1 < w.heap.size ∧ oB < w.heap.size
theorem PS.mid {r : Rc} {wz w W2 : World} {oB base : Nat} {xs : List Pt} {v : Value} {C : Obj} (h : PS r wz w oB base xs v) (hg : (w.alloc C).grownBy W2 v.ownBlock) : PCells r wz.heap.size oB v W2 := by
 have l := h.lo
 have ht := h.app hg
 have a := Tch.box ht h.rc (fun q => by omega)
 have b := Tch.box ht h.own (fun q => by omega)
 have c := h.old hg
 exact ⟨a.cell 1, a.cell 2, a.cell 3, a.cell 5, a.cell 6, a.cell 7, a.cell 8, b.cell 0, b.cell 1, b.cell 2, b.cell 3, c.cell 0, c.free 0, a.lt, c.lt, b.lt⟩
theorem PS.appd {r : Rc} {wz w W2 : World} {oB base : Nat} {xs : List Pt} {v v2 : Value} {C : Obj} (x : Pt) (h : PS r wz w oB base xs v) (hg : (w.alloc C).grownBy W2 v.ownBlock) (hr : W2.ownsRow base 156 4 v2 (xs.length + 1) (xs.flatMap encPt ++ encPt x)) :
   PS r wz (W2.setCell ⟨wz.heap.size + 1, 0, none⟩ v2) oB base (xs ++ [x]) v2 := by
 have l := h.lo
 refine h.tch ((h.app hg).trans (Tch.cell (.inl rfl))) ((h.old hg).set 0 _) ?_
 have := hr.setCell_below (a := ⟨wz.heap.size + 1, 0, none⟩) (by show wz.heap.size + 1 < base; omega) v2
 simpa [List.flatMap_append] using this
theorem PS.cells {r : Rc} {wz w : World} {oB base : Nat} {xs : List Pt} {v : Value} (h : PS r wz w oB base xs v) : PCells r wz.heap.size oB v w :=
 ⟨h.rc.cell 1, h.rc.cell 2, h.rc.cell 3, h.rc.cell 5, h.rc.cell 6, h.rc.cell 7, h.rc.cell 8, h.own.cell 0, h.own.cell 1, h.own.cell 2, h.own.cell 3, h.out.cell 0, h.out.free 0, h.rc.lt, h.out.lt, h.own.lt⟩
theorem parts_no {r : Rc} (h : kEnt r.op = false) : parts r = [⟨2, r.ino, [], true⟩] := by
 unfold parts
 unfold kEnt at h
 rw [if_pos (by simp at h; omega)]
set_option maxHeartbeats 8000000 in
theorem parts_ok (r : Rc) (hm : May r) (wz : World) : Calls Tryz.prog 129 #[recV r] wz fun e w' => ∃ v, e = .returned v ∧ w'.ownsRow wz.heap.size 156 4 v (parts r).length ((parts r).flatMap encPt) ∧ Below wz.heap.size wz w' := by
 have HM := Lib.hid hm
 have hop := hm.op
 have CK := Lib.hid (fun W => check_ok r hm W)
 have B0 := (Below.refl _ wz).alloc (Nat.le_refl _) (.cells (recC r) 39)
 have BX := Lib.hid ((SBox.new wz 39 (recC r)).alloc (.cells #[.slice none 0 0] 153))
 have BO := Lib.hid (show SBox ((wz.alloc (.cells (recC r) 39)).alloc (.cells #[.slice none 0 0] 153)) (wz.heap.size + 1) 153 #[.slice none 0 0] from by simpa using SBox.new (wz.alloc (.cells (recC r) 39)) 153 #[.slice none 0 0])
 have BB := Lib.hid (B0.alloc B0.size (.cells #[.slice none 0 0] 153))
 clear B0 hm
 unfold recV recC at CK
 unfold recC at BX BO BB
 unfold recV recC
 go_enter Tryz.func129, Tryz.ntmps129
 go_wp2_with fail
 refine Calls.mono (CK.out _) ?_
 rintro e w1 ⟨rfl, hb⟩
 have X1 := Lib.hid (BX.out.later hb)
 have O1 := Lib.hid (BO.out.later hb)
 have B1 := Lib.hid (BB.out.trans (hb.mono (by simp; omega)))
 have hX := X1.out
 have hY := O1.out
 have V0 := hX.cell 0
 have V1 := hX.cell 1
 have V2 := hX.cell 2
 have V3 := hX.cell 3
 have V4 := hX.cell 4
 have V5 := hX.cell 5
 have V6 := hX.cell 6
 have V7 := hX.cell 7
 have V8 := hX.cell 8
 have V9 := hX.cell 9
 have V10 := hX.cell 10
 have V11 := hX.cell 11
 simp only [List.getElem?_toArray, List.getElem?_cons_zero, List.getElem?_cons_succ] at V0 V1 V2 V3 V4 V5 V6 V7 V8 V9 V10 V11
 have Vl := hX.lt
 have Z0 := hY.cell 0
 simp only [List.getElem?_toArray, List.getElem?_cons_zero, List.getElem?_cons_succ] at Z0
 have Zl := hY.lt
 have Zf := hY.free 0
 clear hX hY hb BX BO BB CK
 go_wp2_with fail
 have szw := B1.out.size
 have P0 : Hid (PS r wz (w1.alloc (.cells (ownA r) 156)) w1.heap.size (w1.heap.size + 1) [] (.slice none 0 0)) := Lib.hid ⟨B1.out.alloc szw _, by unfold recC; exact X1.out.alloc _, O1.out.alloc _, SBox.new w1 _ _, World.ownsRow_nil _ _ _ _, by omega, by omega, by simp⟩
 unfold ownA at P0
 generalize (w1.alloc (.cells #[.int .u8 2, .int .u32 r.ino, .string ⟨#[]⟩, .bool false] 156)) = wA at *
 obtain ⟨oB, hoB⟩ : ∃ oB, w1.heap.size = oB := ⟨_, rfl⟩
 rw [hoB] at P0 ⊢
 clear V0 V1 V2 V3 V4 V5 V6 V7 V8 V9 V10 V11 Vl Z0 Zf Zl X1 O1 B1 szw
 refine wp_region_phi (by kernel_rfl) (fun | 0 => some 12 | 1 => some 13 | 2 => some 14 | 3 => some 15 | 4 => some 16 | 5 => some 17 | _ => none) (fun a => ∃ x12 x13 x14 x15 x16 x17 : Value, a = ⟨#[Value.agg #[Value.int IntKind.u64 ↑r.stamp, Value.int IntKind.u8 ↑r.op, Value.int IntKind.u32 ↑r.dir, Value.string (B r.name), Value.int IntKind.u32 ↑r.ino, Value.int IntKind.u8 ↑r.kind, Value.int IntKind.u32 ↑r.dir2, Value.string (B r.name2), Value.int IntKind.u32 ↑r.old, Value.int IntKind.u32 ↑r.size, Value.int IntKind.i64 ↑r.page, Value.string (B r.data)], Value.pointer (some { block := wz.heap.size, off := 0 }), Value.pointer (some { block := wz.heap.size + 1, off := 0 }), Value.func (Fn.func 145) #[] #[Value.pointer (some { block := wz.heap.size + 1, off := 0 })], Value.pointer (some { block := oB, off := 0 }), Value.agg #[Value.int IntKind.u64 ↑r.stamp, Value.int IntKind.u8 ↑r.op, Value.int IntKind.u32 ↑r.dir, Value.string (B r.name), Value.int IntKind.u32 ↑r.ino, Value.int IntKind.u8 ↑r.kind, Value.int IntKind.u32 ↑r.dir2, Value.string (B r.name2), Value.int IntKind.u32 ↑r.old, Value.int IntKind.u32 ↑r.size, Value.int IntKind.i64 ↑r.page, Value.string (B r.data)], Value.int IntKind.i64 0, Value.bool false, Value.func (Fn.func 145) #[] #[Value.pointer (some { block := wz.heap.size + 1, off := 0 })], Value.pointer (some { block := wz.heap.size, off := 4 }), Value.int IntKind.u32 ↑r.ino, Value.agg #[Value.int IntKind.u8 2, Value.int IntKind.u32 ↑r.ino, Value.string { data := #[] }, Value.bool false], x12, x13, x14, x15, x16, x17, undef, undef, undef, undef, undef, undef, undef, undef, undef, undef, undef, undef, undef, undef, undef, undef, undef, undef, undef, undef, undef, undef, undef, undef, undef, undef, undef, undef, undef, undef, undef, undef, undef, undef, undef, undef, undef, undef, undef, undef, undef, undef, undef, undef, undef, undef, undef, undef, undef, undef, undef, undef, undef, undef, undef, undef, undef, undef, undef, undef, undef, undef, undef, undef, undef], []⟩) (fun _ W => PS r wz W oB (oB + 1) [] (.slice none 0 0)) (fun _ w1 w2 => Below w1.heap.size w1 w2) (fun | 0 => (fun v w => ∃ b, v = Value.map (some b) ∧ VMap w 5 b 7 (natF .u8 kindF)) | 1 => (fun v w => v = Value.pointer (some ⟨wz.heap.size, 1, none⟩)) | 2 => (fun v w => v = Value.int .u8 r.op) | 3 => (fun v w => ∃ s g, v = kv s (kEnt r.op) (kKnd r.op) (kMov r.op) (kSiz r.op) (kDat r.op) g) | 4 => (fun v w => v = Value.bool (kEnt r.op)) | 5 => (fun v w => v = Value.bool (!kEnt r.op)) | _ => (fun _ _ => True)) (by kernel_rfl) ?st (by kernel_rfl) ?AA ⟨_, _, _, _, _, _, rfl⟩ ?G0 ?step ?done
 case st =>
   intro i j v w1 w2 hi hj hij hw hp hs
   have hi : i < 6 := hi
   match j, hp with
   | 0, hp =>
     obtain ⟨b, e1, e2⟩ := hp
     exact ⟨b, e1, e2.later hs⟩
   | 1, hp | 2, hp | 3, hp | 4, hp | 5, hp => exact hp
   | j + 6, _ => exact trivial
 case AA =>
   rintro i a v hi ⟨_, _, _, _, _, _, rfl⟩
   match i, hi with
   | 0, _ | 1, _ | 2, _ | 3, _ | 4, _ | 5, _ => exact ⟨⟨_, _, _, _, _, _, rfl⟩, fun t h => by cases h <;> exact of_decide_eq_true rfl⟩
   | i + 6, hi => exact absurd hi (by simp)
 case G0 => exact P0.out.later (Below.refl _ _).drew
 case step =>
   rintro i a w1 lst hi ⟨x12, x13, x14, x15, x16, x17, rfl⟩ hl hG hp
   refine wpOp_via (fun K hK => ?_)
   match i, hi with
   | 0, _ =>
     refine wpOp_at (by rfl) rfl ?_
     go_simp
     refine Calls.mono (kinds_any w1) ?_
     rintro e w2 ⟨b, rfl, k1, k2, k3⟩
     exact hK _ _ ⟨_, rfl, hG.later k3, k3, b, rfl, k1⟩
   | 1, _ =>
     have hl := hG.rc.lt
     refine wpOp_at (by rfl) rfl ?_
     go_simp
     exact hK _ _ ⟨_, rfl, hG, Below.refl _ _, rfl⟩
   | 2, _ =>
     obtain rfl : x13 = _ := hp 1 (by kernel_rfl)
     have hl := hG.rc.lt
     have c1 := hG.cells.c1
     refine wpOp_at (by rfl) rfl ?_
     go_simp
     exact hK _ _ ⟨_, rfl, hG, Below.refl _ _, rfl⟩
   | 3, _ =>
     obtain ⟨b, e12, hv⟩ := hp 0 (by kernel_rfl)
     change x12 = _ at e12
     subst e12
     obtain rfl : x14 = _ := hp 2 (by kernel_rfl)
     obtain ⟨s, hk⟩ := kind_look1 hv hop
     refine wpOp_at (by rfl) rfl ?_
     go_simp
     exact hK _ _ ⟨_, rfl, hG, Below.refl _ _, s, _, rfl⟩
   | 4, _ =>
     obtain ⟨s, g, e15⟩ := hp 3 (by kernel_rfl)
     change x15 = _ at e15
     subst e15
     unfold kv
     refine wpOp_at (by rfl) rfl ?_
     go_simp
     exact hK _ _ ⟨_, rfl, hG, Below.refl _ _, rfl⟩
   | 5, _ =>
     obtain rfl : x16 = _ := hp 4 (by kernel_rfl)
     refine wpOp_at (by rfl) rfl ?_
     go_simp
     exact hK _ _ ⟨_, rfl, hG, Below.refl _ _, rfl⟩
   | i + 6, hi => exact absurd hi (by simp)
 case done =>
   rintro a w2 lst hl ⟨x12, x13, x14, x15, x16, x17, rfl⟩ hG hp
   obtain rfl : x17 = _ := hp 5 (by decide)
   clear hp
   have P0 := Lib.hid hG
   clear hG
   obtain ⟨V1, V2, V3, V5, V6, V7, V8, O0, O1, O2, O3, Z0, Zf, Vl, Zl, Ol⟩ := P0.out.cells
   obtain ⟨i0, hi, hz0, hz1, hz2⟩ := info_parts info_Pt
   have LO := Lib.hid P0.out.lo
   obtain ⟨base, hbase⟩ : ∃ base, oB + 1 = base := ⟨_, rfl⟩
   rw [hbase] at P0 LO
   clear hbase hoB
   cases hE : kEnt r.op
   · have hp5 : parts r = [⟨2, r.ino, [], true⟩] := parts_no hE
     clear hE
     go_wp2_with fail
     refine Calls.mono (P0.out.wr (⟨2, r.ino, [], false⟩) (by simp)) ?_
     rintro e w10 ⟨rfl, g1, cap1, hp⟩
     have P1 : Hid (PS r wz w10 oB base [⟨2, r.ino, [], true⟩] (.slice (some ⟨g1, 0, none⟩) 1 cap1)) := Lib.hid hp
     clear hp
     clear V1 V2 V3 V5 V6 V7 V8 O0 O1 O2 O3 Z0 Zf Vl Zl Ol
     obtain ⟨V1, V2, V3, V5, V6, V7, V8, O0, O1, O2, O3, Z0, Zf, Vl, Zl, Ol⟩ := P1.out.cells
     go_wp2_with fail
     go_wp2_with fail
     have hS := P1.out.out.set 0 (.slice (some ⟨g1, 0, none⟩) 1 cap1)
     have kS := hS.cell 0
     simp only [List.setIfInBounds_toArray, List.set_cons_zero, List.getElem?_toArray, List.getElem?_cons_zero] at kS
     refine bodyPost_ret (v := .slice (some ⟨g1, 0, none⟩) _ cap1) (by simp [results, Tryz.results129, go_sem, kS]; rfl) rfl ⟨_, rfl, ?_, ?_⟩
     · rw [hp5]
       exact row_lower (P1.out.row.setCell_below (by show wz.heap.size + 1 < base; have := LO.out; omega) _) (by have := LO.out; omega)
     · exact P1.out.be.setCell (by show wz.heap.size ≤ wz.heap.size + 1; omega) _
   · have hle : ¬ 5 ≤ r.op := by unfold kEnt at hE; simp at hE; omega
     clear hE
     by_cases h4 : r.op = 4
     · rcases HM.out.knd (by rw [h4]; rfl) with hk | hk
       · by_cases hold : r.old = 0
         · skip
           have HP := Lib.hid (show parts r = [⟨1, r.dir, r.name, true⟩, ⟨1, r.dir2, r.name2, true⟩, ⟨2, r.ino, [], true⟩, ⟨2, r.dir, [], false⟩, ⟨2, r.dir2, [], false⟩] from by unfold parts; simp [hle, h4, hk, hold])
           have t1 : ((r.op : Int) == 4) = true := by rw [h4]; rfl
           have t2 : decide ((r.op : Int) = 4) = true := by rw [h4]; rfl
           have t3 : ((r.old : Int) != 0) = false := by rw [hold]; rfl
           have t4 : decide ((r.old : Int) = 0) = true := by rw [hold]; rfl
           have t5 : ((r.kind : Int) == 2) = false := by rw [hk]; rfl
           have t6 : decide ((r.kind : Int) = 2) = false := by rw [hk]; rfl
           clear h4 hold hle hk
           go_wp2_with fail
           refine Calls.mono (P0.out.wr (⟨1, r.dir, r.name, false⟩) (by simp)) ?_
           rintro e w10 ⟨rfl, g1, cap1, hp⟩
           have P1 : Hid (PS r wz w10 oB base [⟨1, r.dir, r.name, true⟩] (.slice (some ⟨g1, 0, none⟩) 1 cap1)) := Lib.hid hp
           clear hp
           clear V1 V2 V3 V5 V6 V7 V8 O0 O1 O2 O3 Z0 Zf Vl Zl Ol
           obtain ⟨V1, V2, V3, V5, V6, V7, V8, O0, O1, O2, O3, Z0, Zf, Vl, Zl, Ol⟩ := P1.out.cells
           go_wp2_with fail
           refine Calls.mono (P1.out.wr (⟨1, r.dir2, r.name2, false⟩) (by simp)) ?_
           rintro e w11 ⟨rfl, g2, cap2, hp⟩
           have P2 : Hid (PS r wz w11 oB base [⟨1, r.dir, r.name, true⟩, ⟨1, r.dir2, r.name2, true⟩] (.slice (some ⟨g2, 0, none⟩) 2 cap2)) := Lib.hid hp
           clear hp
           clear V1 V2 V3 V5 V6 V7 V8 O0 O1 O2 O3 Z0 Zf Vl Zl Ol
           obtain ⟨V1, V2, V3, V5, V6, V7, V8, O0, O1, O2, O3, Z0, Zf, Vl, Zl, Ol⟩ := P2.out.cells
           go_wp2_with fail
           refine Calls.mono (P2.out.wr (⟨2, r.ino, [], false⟩) (by simp)) ?_
           rintro e w12 ⟨rfl, g3, cap3, hp⟩
           have P3 : Hid (PS r wz w12 oB base [⟨1, r.dir, r.name, true⟩, ⟨1, r.dir2, r.name2, true⟩, ⟨2, r.ino, [], true⟩] (.slice (some ⟨g3, 0, none⟩) 3 cap3)) := Lib.hid hp
           clear hp
           clear V1 V2 V3 V5 V6 V7 V8 O0 O1 O2 O3 Z0 Zf Vl Zl Ol
           obtain ⟨V1, V2, V3, V5, V6, V7, V8, O0, O1, O2, O3, Z0, Zf, Vl, Zl, Ol⟩ := P3.out.cells
           go_upto_region 17 with (at_builtin; go_must (refine wpList_append_lies _ rfl _ _ 153 rfl base 156 i0 (.agg #[.int .u8 0, .int .u32 0, .string ⟨#[]⟩, .bool false]) 4 32 Tryz.underlying153 hi hz0 hz1 hz2 rfl (by decide) _ 3 (([⟨1, r.dir, r.name, true⟩, ⟨1, r.dir2, r.name2, true⟩, ⟨2, r.ino, [], true⟩] : List Pt).flatMap encPt) rfl (P3.out.row.alloc _) ⟨w12.heap.size, 0, none⟩ 1 1 [.int .u8 2, .int .u32 r.dir, .string ⟨#[]⟩, .bool false] rfl rfl (news_box (SBox.new w12 156 #[.int .u8 2, .int .u32 r.dir, .string ⟨#[]⟩, .bool false])) (by intro u hu; simp at hu; rcases hu with rfl | rfl | rfl | rfl <;> rfl) (by decide) (by decide) (by decide) (by have := P3.out.lo.2.2; simp; omega) _ rfl ?_; intro g4 cap4 W3 hown hgrow _ _; have PM := P3.out.mid hgrow; have P4 : Hid (PS r wz (W3.setCell ⟨wz.heap.size + 1, 0, none⟩ (.slice (some ⟨g4, 0, none⟩) 4 cap4)) oB base [⟨1, r.dir, r.name, true⟩, ⟨1, r.dir2, r.name2, true⟩, ⟨2, r.ino, [], true⟩, ⟨2, r.dir, [], false⟩] (.slice (some ⟨g4, 0, none⟩) 4 cap4)) := Lib.hid (PS.appd (⟨2, r.dir, [], false⟩) P3.out hgrow hown); clear hown hgrow; clear V1 V2 V3 V5 V6 V7 V8 O0 O1 O2 O3 Z0 Zf Vl Zl Ol; obtain ⟨V1, V2, V3, V5, V6, V7, V8, O0, O1, O2, O3, Z0, Zf, Vl, Zl, Ol⟩ := PM))
           generalize (W3.setCell ⟨wz.heap.size + 1, 0, none⟩ (.slice (some ⟨g4, 0, none⟩) 4 cap4)) = w13 at *
           clear V1 V2 V3 V5 V6 V7 V8 O0 O1 O2 O3 Z0 Zf Vl Zl Ol
           obtain ⟨V1, V2, V3, V5, V6, V7, V8, O0, O1, O2, O3, Z0, Zf, Vl, Zl, Ol⟩ := P4.out.cells
           go_upto_region 19 with (at_builtin; go_must (refine wpList_append_lies _ rfl _ _ 153 rfl base 156 i0 (.agg #[.int .u8 0, .int .u32 0, .string ⟨#[]⟩, .bool false]) 4 32 Tryz.underlying153 hi hz0 hz1 hz2 rfl (by decide) _ 4 (([⟨1, r.dir, r.name, true⟩, ⟨1, r.dir2, r.name2, true⟩, ⟨2, r.ino, [], true⟩, ⟨2, r.dir, [], false⟩] : List Pt).flatMap encPt) rfl (P4.out.row.alloc _) ⟨w13.heap.size, 0, none⟩ 1 1 [.int .u8 2, .int .u32 r.dir2, .string ⟨#[]⟩, .bool false] rfl rfl (news_box (SBox.new w13 156 #[.int .u8 2, .int .u32 r.dir2, .string ⟨#[]⟩, .bool false])) (by intro u hu; simp at hu; rcases hu with rfl | rfl | rfl | rfl <;> rfl) (by decide) (by decide) (by decide) (by have := P4.out.lo.2.2; simp; omega) _ rfl ?_; intro g5 cap5 W4 hown hgrow _ _; have PM := P4.out.mid hgrow; have P5 : Hid (PS r wz (W4.setCell ⟨wz.heap.size + 1, 0, none⟩ (.slice (some ⟨g5, 0, none⟩) 5 cap5)) oB base [⟨1, r.dir, r.name, true⟩, ⟨1, r.dir2, r.name2, true⟩, ⟨2, r.ino, [], true⟩, ⟨2, r.dir, [], false⟩, ⟨2, r.dir2, [], false⟩] (.slice (some ⟨g5, 0, none⟩) 5 cap5)) := Lib.hid (PS.appd (⟨2, r.dir2, [], false⟩) P4.out hgrow hown); clear hown hgrow; clear V1 V2 V3 V5 V6 V7 V8 O0 O1 O2 O3 Z0 Zf Vl Zl Ol; obtain ⟨V1, V2, V3, V5, V6, V7, V8, O0, O1, O2, O3, Z0, Zf, Vl, Zl, Ol⟩ := PM))
           generalize (W4.setCell ⟨wz.heap.size + 1, 0, none⟩ (.slice (some ⟨g5, 0, none⟩) 5 cap5)) = w14 at *
           clear V1 V2 V3 V5 V6 V7 V8 O0 O1 O2 O3 Z0 Zf Vl Zl Ol
           obtain ⟨V1, V2, V3, V5, V6, V7, V8, O0, O1, O2, O3, Z0, Zf, Vl, Zl, Ol⟩ := P5.out.cells
           go_wp2_with fail
           have hS := P5.out.out.set 0 (.slice (some ⟨g5, 0, none⟩) 5 cap5)
           have kS := hS.cell 0
           simp only [List.setIfInBounds_toArray, List.set_cons_zero, List.getElem?_toArray, List.getElem?_cons_zero] at kS
           refine bodyPost_ret (v := .slice (some ⟨g5, 0, none⟩) _ cap5) (by simp [results, Tryz.results129, go_sem, kS]; rfl) rfl ⟨_, rfl, ?_, ?_⟩
           · rw [HP.out]
             exact row_lower (P5.out.row.setCell_below (by show wz.heap.size + 1 < base; have := LO.out; omega) _) (by have := LO.out; omega)
           · exact P5.out.be.setCell (by show wz.heap.size ≤ wz.heap.size + 1; omega) _
         · skip
           have HP := Lib.hid (show parts r = [⟨1, r.dir, r.name, true⟩, ⟨1, r.dir2, r.name2, true⟩, ⟨2, r.ino, [], true⟩, ⟨2, r.old, [], true⟩, ⟨2, r.dir, [], false⟩, ⟨2, r.dir2, [], false⟩] from by unfold parts; simp [hle, h4, hk, hold])
           have t1 : ((r.op : Int) == 4) = true := by rw [h4]; rfl
           have t2 : decide ((r.op : Int) = 4) = true := by rw [h4]; rfl
           have t3 : ((r.old : Int) != 0) = true := by simp; omega
           have t4 : decide ((r.old : Int) = 0) = false := by simp; omega
           have t5 : ((r.kind : Int) == 2) = false := by rw [hk]; rfl
           have t6 : decide ((r.kind : Int) = 2) = false := by rw [hk]; rfl
           clear h4 hold hle hk
           go_wp2_with fail
           refine Calls.mono (P0.out.wr (⟨1, r.dir, r.name, false⟩) (by simp)) ?_
           rintro e w10 ⟨rfl, g1, cap1, hp⟩
           have P1 : Hid (PS r wz w10 oB base [⟨1, r.dir, r.name, true⟩] (.slice (some ⟨g1, 0, none⟩) 1 cap1)) := Lib.hid hp
           clear hp
           clear V1 V2 V3 V5 V6 V7 V8 O0 O1 O2 O3 Z0 Zf Vl Zl Ol
           obtain ⟨V1, V2, V3, V5, V6, V7, V8, O0, O1, O2, O3, Z0, Zf, Vl, Zl, Ol⟩ := P1.out.cells
           go_wp2_with fail
           refine Calls.mono (P1.out.wr (⟨1, r.dir2, r.name2, false⟩) (by simp)) ?_
           rintro e w11 ⟨rfl, g2, cap2, hp⟩
           have P2 : Hid (PS r wz w11 oB base [⟨1, r.dir, r.name, true⟩, ⟨1, r.dir2, r.name2, true⟩] (.slice (some ⟨g2, 0, none⟩) 2 cap2)) := Lib.hid hp
           clear hp
           clear V1 V2 V3 V5 V6 V7 V8 O0 O1 O2 O3 Z0 Zf Vl Zl Ol
           obtain ⟨V1, V2, V3, V5, V6, V7, V8, O0, O1, O2, O3, Z0, Zf, Vl, Zl, Ol⟩ := P2.out.cells
           go_wp2_with fail
           refine Calls.mono (P2.out.wr (⟨2, r.ino, [], false⟩) (by simp)) ?_
           rintro e w12 ⟨rfl, g3, cap3, hp⟩
           have P3 : Hid (PS r wz w12 oB base [⟨1, r.dir, r.name, true⟩, ⟨1, r.dir2, r.name2, true⟩, ⟨2, r.ino, [], true⟩] (.slice (some ⟨g3, 0, none⟩) 3 cap3)) := Lib.hid hp
           clear hp
           clear V1 V2 V3 V5 V6 V7 V8 O0 O1 O2 O3 Z0 Zf Vl Zl Ol
           obtain ⟨V1, V2, V3, V5, V6, V7, V8, O0, O1, O2, O3, Z0, Zf, Vl, Zl, Ol⟩ := P3.out.cells
           go_wp2_with fail
           refine Calls.mono (P3.out.wr (⟨2, r.old, [], false⟩) (by simp)) ?_
           rintro e w13 ⟨rfl, g4, cap4, hp⟩
           have P4 : Hid (PS r wz w13 oB base [⟨1, r.dir, r.name, true⟩, ⟨1, r.dir2, r.name2, true⟩, ⟨2, r.ino, [], true⟩, ⟨2, r.old, [], true⟩] (.slice (some ⟨g4, 0, none⟩) 4 cap4)) := Lib.hid hp
           clear hp
           clear V1 V2 V3 V5 V6 V7 V8 O0 O1 O2 O3 Z0 Zf Vl Zl Ol
           obtain ⟨V1, V2, V3, V5, V6, V7, V8, O0, O1, O2, O3, Z0, Zf, Vl, Zl, Ol⟩ := P4.out.cells
           go_upto_region 17 with (at_builtin; go_must (refine wpList_append_lies _ rfl _ _ 153 rfl base 156 i0 (.agg #[.int .u8 0, .int .u32 0, .string ⟨#[]⟩, .bool false]) 4 32 Tryz.underlying153 hi hz0 hz1 hz2 rfl (by decide) _ 4 (([⟨1, r.dir, r.name, true⟩, ⟨1, r.dir2, r.name2, true⟩, ⟨2, r.ino, [], true⟩, ⟨2, r.old, [], true⟩] : List Pt).flatMap encPt) rfl (P4.out.row.alloc _) ⟨w13.heap.size, 0, none⟩ 1 1 [.int .u8 2, .int .u32 r.dir, .string ⟨#[]⟩, .bool false] rfl rfl (news_box (SBox.new w13 156 #[.int .u8 2, .int .u32 r.dir, .string ⟨#[]⟩, .bool false])) (by intro u hu; simp at hu; rcases hu with rfl | rfl | rfl | rfl <;> rfl) (by decide) (by decide) (by decide) (by have := P4.out.lo.2.2; simp; omega) _ rfl ?_; intro g5 cap5 W4 hown hgrow _ _; have PM := P4.out.mid hgrow; have P5 : Hid (PS r wz (W4.setCell ⟨wz.heap.size + 1, 0, none⟩ (.slice (some ⟨g5, 0, none⟩) 5 cap5)) oB base [⟨1, r.dir, r.name, true⟩, ⟨1, r.dir2, r.name2, true⟩, ⟨2, r.ino, [], true⟩, ⟨2, r.old, [], true⟩, ⟨2, r.dir, [], false⟩] (.slice (some ⟨g5, 0, none⟩) 5 cap5)) := Lib.hid (PS.appd (⟨2, r.dir, [], false⟩) P4.out hgrow hown); clear hown hgrow; clear V1 V2 V3 V5 V6 V7 V8 O0 O1 O2 O3 Z0 Zf Vl Zl Ol; obtain ⟨V1, V2, V3, V5, V6, V7, V8, O0, O1, O2, O3, Z0, Zf, Vl, Zl, Ol⟩ := PM))
           generalize (W4.setCell ⟨wz.heap.size + 1, 0, none⟩ (.slice (some ⟨g5, 0, none⟩) 5 cap5)) = w14 at *
           clear V1 V2 V3 V5 V6 V7 V8 O0 O1 O2 O3 Z0 Zf Vl Zl Ol
           obtain ⟨V1, V2, V3, V5, V6, V7, V8, O0, O1, O2, O3, Z0, Zf, Vl, Zl, Ol⟩ := P5.out.cells
           go_upto_region 19 with (at_builtin; go_must (refine wpList_append_lies _ rfl _ _ 153 rfl base 156 i0 (.agg #[.int .u8 0, .int .u32 0, .string ⟨#[]⟩, .bool false]) 4 32 Tryz.underlying153 hi hz0 hz1 hz2 rfl (by decide) _ 5 (([⟨1, r.dir, r.name, true⟩, ⟨1, r.dir2, r.name2, true⟩, ⟨2, r.ino, [], true⟩, ⟨2, r.old, [], true⟩, ⟨2, r.dir, [], false⟩] : List Pt).flatMap encPt) rfl (P5.out.row.alloc _) ⟨w14.heap.size, 0, none⟩ 1 1 [.int .u8 2, .int .u32 r.dir2, .string ⟨#[]⟩, .bool false] rfl rfl (news_box (SBox.new w14 156 #[.int .u8 2, .int .u32 r.dir2, .string ⟨#[]⟩, .bool false])) (by intro u hu; simp at hu; rcases hu with rfl | rfl | rfl | rfl <;> rfl) (by decide) (by decide) (by decide) (by have := P5.out.lo.2.2; simp; omega) _ rfl ?_; intro g6 cap6 W5 hown hgrow _ _; have PM := P5.out.mid hgrow; have P6 : Hid (PS r wz (W5.setCell ⟨wz.heap.size + 1, 0, none⟩ (.slice (some ⟨g6, 0, none⟩) 6 cap6)) oB base [⟨1, r.dir, r.name, true⟩, ⟨1, r.dir2, r.name2, true⟩, ⟨2, r.ino, [], true⟩, ⟨2, r.old, [], true⟩, ⟨2, r.dir, [], false⟩, ⟨2, r.dir2, [], false⟩] (.slice (some ⟨g6, 0, none⟩) 6 cap6)) := Lib.hid (PS.appd (⟨2, r.dir2, [], false⟩) P5.out hgrow hown); clear hown hgrow; clear V1 V2 V3 V5 V6 V7 V8 O0 O1 O2 O3 Z0 Zf Vl Zl Ol; obtain ⟨V1, V2, V3, V5, V6, V7, V8, O0, O1, O2, O3, Z0, Zf, Vl, Zl, Ol⟩ := PM))
           generalize (W5.setCell ⟨wz.heap.size + 1, 0, none⟩ (.slice (some ⟨g6, 0, none⟩) 6 cap6)) = w15 at *
           clear V1 V2 V3 V5 V6 V7 V8 O0 O1 O2 O3 Z0 Zf Vl Zl Ol
           obtain ⟨V1, V2, V3, V5, V6, V7, V8, O0, O1, O2, O3, Z0, Zf, Vl, Zl, Ol⟩ := P6.out.cells
           go_wp2_with fail
           have hS := P6.out.out.set 0 (.slice (some ⟨g6, 0, none⟩) 6 cap6)
           have kS := hS.cell 0
           simp only [List.setIfInBounds_toArray, List.set_cons_zero, List.getElem?_toArray, List.getElem?_cons_zero] at kS
           refine bodyPost_ret (v := .slice (some ⟨g6, 0, none⟩) _ cap6) (by simp [results, Tryz.results129, go_sem, kS]; rfl) rfl ⟨_, rfl, ?_, ?_⟩
           · rw [HP.out]
             exact row_lower (P6.out.row.setCell_below (by show wz.heap.size + 1 < base; have := LO.out; omega) _) (by have := LO.out; omega)
           · exact P6.out.be.setCell (by show wz.heap.size ≤ wz.heap.size + 1; omega) _
       · by_cases hold : r.old = 0
         · skip
           have HP := Lib.hid (show parts r = [⟨1, r.dir, r.name, true⟩, ⟨1, r.dir2, r.name2, true⟩, ⟨2, r.ino, [], true⟩, ⟨3, 0, [], true⟩, ⟨2, r.dir, [], false⟩, ⟨2, r.dir2, [], false⟩] from by unfold parts; simp [hle, h4, hk, hold])
           have t1 : ((r.op : Int) == 4) = true := by rw [h4]; rfl
           have t2 : decide ((r.op : Int) = 4) = true := by rw [h4]; rfl
           have t3 : ((r.old : Int) != 0) = false := by rw [hold]; rfl
           have t4 : decide ((r.old : Int) = 0) = true := by rw [hold]; rfl
           have t5 : ((r.kind : Int) == 2) = true := by rw [hk]; rfl
           have t6 : decide ((r.kind : Int) = 2) = true := by rw [hk]; rfl
           clear h4 hold hle hk
           go_wp2_with fail
           refine Calls.mono (P0.out.wr (⟨1, r.dir, r.name, false⟩) (by simp)) ?_
           rintro e w10 ⟨rfl, g1, cap1, hp⟩
           have P1 : Hid (PS r wz w10 oB base [⟨1, r.dir, r.name, true⟩] (.slice (some ⟨g1, 0, none⟩) 1 cap1)) := Lib.hid hp
           clear hp
           clear V1 V2 V3 V5 V6 V7 V8 O0 O1 O2 O3 Z0 Zf Vl Zl Ol
           obtain ⟨V1, V2, V3, V5, V6, V7, V8, O0, O1, O2, O3, Z0, Zf, Vl, Zl, Ol⟩ := P1.out.cells
           go_wp2_with fail
           refine Calls.mono (P1.out.wr (⟨1, r.dir2, r.name2, false⟩) (by simp)) ?_
           rintro e w11 ⟨rfl, g2, cap2, hp⟩
           have P2 : Hid (PS r wz w11 oB base [⟨1, r.dir, r.name, true⟩, ⟨1, r.dir2, r.name2, true⟩] (.slice (some ⟨g2, 0, none⟩) 2 cap2)) := Lib.hid hp
           clear hp
           clear V1 V2 V3 V5 V6 V7 V8 O0 O1 O2 O3 Z0 Zf Vl Zl Ol
           obtain ⟨V1, V2, V3, V5, V6, V7, V8, O0, O1, O2, O3, Z0, Zf, Vl, Zl, Ol⟩ := P2.out.cells
           go_wp2_with fail
           refine Calls.mono (P2.out.wr (⟨2, r.ino, [], false⟩) (by simp)) ?_
           rintro e w12 ⟨rfl, g3, cap3, hp⟩
           have P3 : Hid (PS r wz w12 oB base [⟨1, r.dir, r.name, true⟩, ⟨1, r.dir2, r.name2, true⟩, ⟨2, r.ino, [], true⟩] (.slice (some ⟨g3, 0, none⟩) 3 cap3)) := Lib.hid hp
           clear hp
           clear V1 V2 V3 V5 V6 V7 V8 O0 O1 O2 O3 Z0 Zf Vl Zl Ol
           obtain ⟨V1, V2, V3, V5, V6, V7, V8, O0, O1, O2, O3, Z0, Zf, Vl, Zl, Ol⟩ := P3.out.cells
           go_wp2_with fail
           refine Calls.mono (P3.out.wr (⟨3, 0, [], false⟩) (by simp)) ?_
           rintro e w13 ⟨rfl, g4, cap4, hp⟩
           have P4 : Hid (PS r wz w13 oB base [⟨1, r.dir, r.name, true⟩, ⟨1, r.dir2, r.name2, true⟩, ⟨2, r.ino, [], true⟩, ⟨3, 0, [], true⟩] (.slice (some ⟨g4, 0, none⟩) 4 cap4)) := Lib.hid hp
           clear hp
           clear V1 V2 V3 V5 V6 V7 V8 O0 O1 O2 O3 Z0 Zf Vl Zl Ol
           obtain ⟨V1, V2, V3, V5, V6, V7, V8, O0, O1, O2, O3, Z0, Zf, Vl, Zl, Ol⟩ := P4.out.cells
           go_upto_region 17 with (at_builtin; go_must (refine wpList_append_lies _ rfl _ _ 153 rfl base 156 i0 (.agg #[.int .u8 0, .int .u32 0, .string ⟨#[]⟩, .bool false]) 4 32 Tryz.underlying153 hi hz0 hz1 hz2 rfl (by decide) _ 4 (([⟨1, r.dir, r.name, true⟩, ⟨1, r.dir2, r.name2, true⟩, ⟨2, r.ino, [], true⟩, ⟨3, 0, [], true⟩] : List Pt).flatMap encPt) rfl (P4.out.row.alloc _) ⟨w13.heap.size, 0, none⟩ 1 1 [.int .u8 2, .int .u32 r.dir, .string ⟨#[]⟩, .bool false] rfl rfl (news_box (SBox.new w13 156 #[.int .u8 2, .int .u32 r.dir, .string ⟨#[]⟩, .bool false])) (by intro u hu; simp at hu; rcases hu with rfl | rfl | rfl | rfl <;> rfl) (by decide) (by decide) (by decide) (by have := P4.out.lo.2.2; simp; omega) _ rfl ?_; intro g5 cap5 W4 hown hgrow _ _; have PM := P4.out.mid hgrow; have P5 : Hid (PS r wz (W4.setCell ⟨wz.heap.size + 1, 0, none⟩ (.slice (some ⟨g5, 0, none⟩) 5 cap5)) oB base [⟨1, r.dir, r.name, true⟩, ⟨1, r.dir2, r.name2, true⟩, ⟨2, r.ino, [], true⟩, ⟨3, 0, [], true⟩, ⟨2, r.dir, [], false⟩] (.slice (some ⟨g5, 0, none⟩) 5 cap5)) := Lib.hid (PS.appd (⟨2, r.dir, [], false⟩) P4.out hgrow hown); clear hown hgrow; clear V1 V2 V3 V5 V6 V7 V8 O0 O1 O2 O3 Z0 Zf Vl Zl Ol; obtain ⟨V1, V2, V3, V5, V6, V7, V8, O0, O1, O2, O3, Z0, Zf, Vl, Zl, Ol⟩ := PM))
           generalize (W4.setCell ⟨wz.heap.size + 1, 0, none⟩ (.slice (some ⟨g5, 0, none⟩) 5 cap5)) = w14 at *
           clear V1 V2 V3 V5 V6 V7 V8 O0 O1 O2 O3 Z0 Zf Vl Zl Ol
           obtain ⟨V1, V2, V3, V5, V6, V7, V8, O0, O1, O2, O3, Z0, Zf, Vl, Zl, Ol⟩ := P5.out.cells
           go_upto_region 19 with (at_builtin; go_must (refine wpList_append_lies _ rfl _ _ 153 rfl base 156 i0 (.agg #[.int .u8 0, .int .u32 0, .string ⟨#[]⟩, .bool false]) 4 32 Tryz.underlying153 hi hz0 hz1 hz2 rfl (by decide) _ 5 (([⟨1, r.dir, r.name, true⟩, ⟨1, r.dir2, r.name2, true⟩, ⟨2, r.ino, [], true⟩, ⟨3, 0, [], true⟩, ⟨2, r.dir, [], false⟩] : List Pt).flatMap encPt) rfl (P5.out.row.alloc _) ⟨w14.heap.size, 0, none⟩ 1 1 [.int .u8 2, .int .u32 r.dir2, .string ⟨#[]⟩, .bool false] rfl rfl (news_box (SBox.new w14 156 #[.int .u8 2, .int .u32 r.dir2, .string ⟨#[]⟩, .bool false])) (by intro u hu; simp at hu; rcases hu with rfl | rfl | rfl | rfl <;> rfl) (by decide) (by decide) (by decide) (by have := P5.out.lo.2.2; simp; omega) _ rfl ?_; intro g6 cap6 W5 hown hgrow _ _; have PM := P5.out.mid hgrow; have P6 : Hid (PS r wz (W5.setCell ⟨wz.heap.size + 1, 0, none⟩ (.slice (some ⟨g6, 0, none⟩) 6 cap6)) oB base [⟨1, r.dir, r.name, true⟩, ⟨1, r.dir2, r.name2, true⟩, ⟨2, r.ino, [], true⟩, ⟨3, 0, [], true⟩, ⟨2, r.dir, [], false⟩, ⟨2, r.dir2, [], false⟩] (.slice (some ⟨g6, 0, none⟩) 6 cap6)) := Lib.hid (PS.appd (⟨2, r.dir2, [], false⟩) P5.out hgrow hown); clear hown hgrow; clear V1 V2 V3 V5 V6 V7 V8 O0 O1 O2 O3 Z0 Zf Vl Zl Ol; obtain ⟨V1, V2, V3, V5, V6, V7, V8, O0, O1, O2, O3, Z0, Zf, Vl, Zl, Ol⟩ := PM))
           generalize (W5.setCell ⟨wz.heap.size + 1, 0, none⟩ (.slice (some ⟨g6, 0, none⟩) 6 cap6)) = w15 at *
           clear V1 V2 V3 V5 V6 V7 V8 O0 O1 O2 O3 Z0 Zf Vl Zl Ol
           obtain ⟨V1, V2, V3, V5, V6, V7, V8, O0, O1, O2, O3, Z0, Zf, Vl, Zl, Ol⟩ := P6.out.cells
           go_wp2_with fail
           have hS := P6.out.out.set 0 (.slice (some ⟨g6, 0, none⟩) 6 cap6)
           have kS := hS.cell 0
           simp only [List.setIfInBounds_toArray, List.set_cons_zero, List.getElem?_toArray, List.getElem?_cons_zero] at kS
           refine bodyPost_ret (v := .slice (some ⟨g6, 0, none⟩) _ cap6) (by simp [results, Tryz.results129, go_sem, kS]; rfl) rfl ⟨_, rfl, ?_, ?_⟩
           · rw [HP.out]
             exact row_lower (P6.out.row.setCell_below (by show wz.heap.size + 1 < base; have := LO.out; omega) _) (by have := LO.out; omega)
           · exact P6.out.be.setCell (by show wz.heap.size ≤ wz.heap.size + 1; omega) _
         · skip
           have HP := Lib.hid (show parts r = [⟨1, r.dir, r.name, true⟩, ⟨1, r.dir2, r.name2, true⟩, ⟨2, r.ino, [], true⟩, ⟨2, r.old, [], true⟩, ⟨3, 0, [], true⟩, ⟨2, r.dir, [], false⟩, ⟨2, r.dir2, [], false⟩] from by unfold parts; simp [hle, h4, hk, hold])
           have t1 : ((r.op : Int) == 4) = true := by rw [h4]; rfl
           have t2 : decide ((r.op : Int) = 4) = true := by rw [h4]; rfl
           have t3 : ((r.old : Int) != 0) = true := by simp; omega
           have t4 : decide ((r.old : Int) = 0) = false := by simp; omega
           have t5 : ((r.kind : Int) == 2) = true := by rw [hk]; rfl
           have t6 : decide ((r.kind : Int) = 2) = true := by rw [hk]; rfl
           clear h4 hold hle hk
           go_wp2_with fail
           refine Calls.mono (P0.out.wr (⟨1, r.dir, r.name, false⟩) (by simp)) ?_
           rintro e w10 ⟨rfl, g1, cap1, hp⟩
           have P1 : Hid (PS r wz w10 oB base [⟨1, r.dir, r.name, true⟩] (.slice (some ⟨g1, 0, none⟩) 1 cap1)) := Lib.hid hp
           clear hp
           clear V1 V2 V3 V5 V6 V7 V8 O0 O1 O2 O3 Z0 Zf Vl Zl Ol
           obtain ⟨V1, V2, V3, V5, V6, V7, V8, O0, O1, O2, O3, Z0, Zf, Vl, Zl, Ol⟩ := P1.out.cells
           go_wp2_with fail
           refine Calls.mono (P1.out.wr (⟨1, r.dir2, r.name2, false⟩) (by simp)) ?_
           rintro e w11 ⟨rfl, g2, cap2, hp⟩
           have P2 : Hid (PS r wz w11 oB base [⟨1, r.dir, r.name, true⟩, ⟨1, r.dir2, r.name2, true⟩] (.slice (some ⟨g2, 0, none⟩) 2 cap2)) := Lib.hid hp
           clear hp
           clear V1 V2 V3 V5 V6 V7 V8 O0 O1 O2 O3 Z0 Zf Vl Zl Ol
           obtain ⟨V1, V2, V3, V5, V6, V7, V8, O0, O1, O2, O3, Z0, Zf, Vl, Zl, Ol⟩ := P2.out.cells
           go_wp2_with fail
           refine Calls.mono (P2.out.wr (⟨2, r.ino, [], false⟩) (by simp)) ?_
           rintro e w12 ⟨rfl, g3, cap3, hp⟩
           have P3 : Hid (PS r wz w12 oB base [⟨1, r.dir, r.name, true⟩, ⟨1, r.dir2, r.name2, true⟩, ⟨2, r.ino, [], true⟩] (.slice (some ⟨g3, 0, none⟩) 3 cap3)) := Lib.hid hp
           clear hp
           clear V1 V2 V3 V5 V6 V7 V8 O0 O1 O2 O3 Z0 Zf Vl Zl Ol
           obtain ⟨V1, V2, V3, V5, V6, V7, V8, O0, O1, O2, O3, Z0, Zf, Vl, Zl, Ol⟩ := P3.out.cells
           go_wp2_with fail
           refine Calls.mono (P3.out.wr (⟨2, r.old, [], false⟩) (by simp)) ?_
           rintro e w13 ⟨rfl, g4, cap4, hp⟩
           have P4 : Hid (PS r wz w13 oB base [⟨1, r.dir, r.name, true⟩, ⟨1, r.dir2, r.name2, true⟩, ⟨2, r.ino, [], true⟩, ⟨2, r.old, [], true⟩] (.slice (some ⟨g4, 0, none⟩) 4 cap4)) := Lib.hid hp
           clear hp
           clear V1 V2 V3 V5 V6 V7 V8 O0 O1 O2 O3 Z0 Zf Vl Zl Ol
           obtain ⟨V1, V2, V3, V5, V6, V7, V8, O0, O1, O2, O3, Z0, Zf, Vl, Zl, Ol⟩ := P4.out.cells
           go_wp2_with fail
           refine Calls.mono (P4.out.wr (⟨3, 0, [], false⟩) (by simp)) ?_
           rintro e w14 ⟨rfl, g5, cap5, hp⟩
           have P5 : Hid (PS r wz w14 oB base [⟨1, r.dir, r.name, true⟩, ⟨1, r.dir2, r.name2, true⟩, ⟨2, r.ino, [], true⟩, ⟨2, r.old, [], true⟩, ⟨3, 0, [], true⟩] (.slice (some ⟨g5, 0, none⟩) 5 cap5)) := Lib.hid hp
           clear hp
           clear V1 V2 V3 V5 V6 V7 V8 O0 O1 O2 O3 Z0 Zf Vl Zl Ol
           obtain ⟨V1, V2, V3, V5, V6, V7, V8, O0, O1, O2, O3, Z0, Zf, Vl, Zl, Ol⟩ := P5.out.cells
           go_upto_region 17 with (at_builtin; go_must (refine wpList_append_lies _ rfl _ _ 153 rfl base 156 i0 (.agg #[.int .u8 0, .int .u32 0, .string ⟨#[]⟩, .bool false]) 4 32 Tryz.underlying153 hi hz0 hz1 hz2 rfl (by decide) _ 5 (([⟨1, r.dir, r.name, true⟩, ⟨1, r.dir2, r.name2, true⟩, ⟨2, r.ino, [], true⟩, ⟨2, r.old, [], true⟩, ⟨3, 0, [], true⟩] : List Pt).flatMap encPt) rfl (P5.out.row.alloc _) ⟨w14.heap.size, 0, none⟩ 1 1 [.int .u8 2, .int .u32 r.dir, .string ⟨#[]⟩, .bool false] rfl rfl (news_box (SBox.new w14 156 #[.int .u8 2, .int .u32 r.dir, .string ⟨#[]⟩, .bool false])) (by intro u hu; simp at hu; rcases hu with rfl | rfl | rfl | rfl <;> rfl) (by decide) (by decide) (by decide) (by have := P5.out.lo.2.2; simp; omega) _ rfl ?_; intro g6 cap6 W5 hown hgrow _ _; have PM := P5.out.mid hgrow; have P6 : Hid (PS r wz (W5.setCell ⟨wz.heap.size + 1, 0, none⟩ (.slice (some ⟨g6, 0, none⟩) 6 cap6)) oB base [⟨1, r.dir, r.name, true⟩, ⟨1, r.dir2, r.name2, true⟩, ⟨2, r.ino, [], true⟩, ⟨2, r.old, [], true⟩, ⟨3, 0, [], true⟩, ⟨2, r.dir, [], false⟩] (.slice (some ⟨g6, 0, none⟩) 6 cap6)) := Lib.hid (PS.appd (⟨2, r.dir, [], false⟩) P5.out hgrow hown); clear hown hgrow; clear V1 V2 V3 V5 V6 V7 V8 O0 O1 O2 O3 Z0 Zf Vl Zl Ol; obtain ⟨V1, V2, V3, V5, V6, V7, V8, O0, O1, O2, O3, Z0, Zf, Vl, Zl, Ol⟩ := PM))
           generalize (W5.setCell ⟨wz.heap.size + 1, 0, none⟩ (.slice (some ⟨g6, 0, none⟩) 6 cap6)) = w15 at *
           clear V1 V2 V3 V5 V6 V7 V8 O0 O1 O2 O3 Z0 Zf Vl Zl Ol
           obtain ⟨V1, V2, V3, V5, V6, V7, V8, O0, O1, O2, O3, Z0, Zf, Vl, Zl, Ol⟩ := P6.out.cells
           go_upto_region 19 with (at_builtin; go_must (refine wpList_append_lies _ rfl _ _ 153 rfl base 156 i0 (.agg #[.int .u8 0, .int .u32 0, .string ⟨#[]⟩, .bool false]) 4 32 Tryz.underlying153 hi hz0 hz1 hz2 rfl (by decide) _ 6 (([⟨1, r.dir, r.name, true⟩, ⟨1, r.dir2, r.name2, true⟩, ⟨2, r.ino, [], true⟩, ⟨2, r.old, [], true⟩, ⟨3, 0, [], true⟩, ⟨2, r.dir, [], false⟩] : List Pt).flatMap encPt) rfl (P6.out.row.alloc _) ⟨w15.heap.size, 0, none⟩ 1 1 [.int .u8 2, .int .u32 r.dir2, .string ⟨#[]⟩, .bool false] rfl rfl (news_box (SBox.new w15 156 #[.int .u8 2, .int .u32 r.dir2, .string ⟨#[]⟩, .bool false])) (by intro u hu; simp at hu; rcases hu with rfl | rfl | rfl | rfl <;> rfl) (by decide) (by decide) (by decide) (by have := P6.out.lo.2.2; simp; omega) _ rfl ?_; intro g7 cap7 W6 hown hgrow _ _; have PM := P6.out.mid hgrow; have P7 : Hid (PS r wz (W6.setCell ⟨wz.heap.size + 1, 0, none⟩ (.slice (some ⟨g7, 0, none⟩) 7 cap7)) oB base [⟨1, r.dir, r.name, true⟩, ⟨1, r.dir2, r.name2, true⟩, ⟨2, r.ino, [], true⟩, ⟨2, r.old, [], true⟩, ⟨3, 0, [], true⟩, ⟨2, r.dir, [], false⟩, ⟨2, r.dir2, [], false⟩] (.slice (some ⟨g7, 0, none⟩) 7 cap7)) := Lib.hid (PS.appd (⟨2, r.dir2, [], false⟩) P6.out hgrow hown); clear hown hgrow; clear V1 V2 V3 V5 V6 V7 V8 O0 O1 O2 O3 Z0 Zf Vl Zl Ol; obtain ⟨V1, V2, V3, V5, V6, V7, V8, O0, O1, O2, O3, Z0, Zf, Vl, Zl, Ol⟩ := PM))
           generalize (W6.setCell ⟨wz.heap.size + 1, 0, none⟩ (.slice (some ⟨g7, 0, none⟩) 7 cap7)) = w16 at *
           clear V1 V2 V3 V5 V6 V7 V8 O0 O1 O2 O3 Z0 Zf Vl Zl Ol
           obtain ⟨V1, V2, V3, V5, V6, V7, V8, O0, O1, O2, O3, Z0, Zf, Vl, Zl, Ol⟩ := P7.out.cells
           go_wp2_with fail
           have hS := P7.out.out.set 0 (.slice (some ⟨g7, 0, none⟩) 7 cap7)
           have kS := hS.cell 0
           simp only [List.setIfInBounds_toArray, List.set_cons_zero, List.getElem?_toArray, List.getElem?_cons_zero] at kS
           refine bodyPost_ret (v := .slice (some ⟨g7, 0, none⟩) _ cap7) (by simp [results, Tryz.results129, go_sem, kS]; rfl) rfl ⟨_, rfl, ?_, ?_⟩
           · rw [HP.out]
             exact row_lower (P7.out.row.setCell_below (by show wz.heap.size + 1 < base; have := LO.out; omega) _) (by have := LO.out; omega)
           · exact P7.out.be.setCell (by show wz.heap.size ≤ wz.heap.size + 1; omega) _
     · have hold : r.old = 0 := (HM.out.nom (by unfold kMov; simpa using h4)).2.2
       have HP := Lib.hid (show parts r = [⟨1, r.dir, r.name, true⟩, ⟨2, r.ino, [], true⟩, ⟨2, r.dir, [], false⟩] from by unfold parts; simp [hle, h4, hold])
       have t1 : ((r.op : Int) == 4) = false := by simp; omega
       have t2 : decide ((r.op : Int) = 4) = false := by simp; omega
       have t3 : ((r.old : Int) != 0) = false := by rw [hold]; rfl
       have t4 : decide ((r.old : Int) = 0) = true := by rw [hold]; rfl
       clear h4 hold hle
       go_wp2_with fail
       refine Calls.mono (P0.out.wr (⟨1, r.dir, r.name, false⟩) (by simp)) ?_
       rintro e w10 ⟨rfl, g1, cap1, hp⟩
       have P1 : Hid (PS r wz w10 oB base [⟨1, r.dir, r.name, true⟩] (.slice (some ⟨g1, 0, none⟩) 1 cap1)) := Lib.hid hp
       clear hp
       clear V1 V2 V3 V5 V6 V7 V8 O0 O1 O2 O3 Z0 Zf Vl Zl Ol
       obtain ⟨V1, V2, V3, V5, V6, V7, V8, O0, O1, O2, O3, Z0, Zf, Vl, Zl, Ol⟩ := P1.out.cells
       go_wp2_with fail
       refine Calls.mono (P1.out.wr (⟨2, r.ino, [], false⟩) (by simp)) ?_
       rintro e w11 ⟨rfl, g2, cap2, hp⟩
       have P2 : Hid (PS r wz w11 oB base [⟨1, r.dir, r.name, true⟩, ⟨2, r.ino, [], true⟩] (.slice (some ⟨g2, 0, none⟩) 2 cap2)) := Lib.hid hp
       clear hp
       clear V1 V2 V3 V5 V6 V7 V8 O0 O1 O2 O3 Z0 Zf Vl Zl Ol
       obtain ⟨V1, V2, V3, V5, V6, V7, V8, O0, O1, O2, O3, Z0, Zf, Vl, Zl, Ol⟩ := P2.out.cells
       go_upto_region 17 with (at_builtin; go_must (refine wpList_append_lies _ rfl _ _ 153 rfl base 156 i0 (.agg #[.int .u8 0, .int .u32 0, .string ⟨#[]⟩, .bool false]) 4 32 Tryz.underlying153 hi hz0 hz1 hz2 rfl (by decide) _ 2 (([⟨1, r.dir, r.name, true⟩, ⟨2, r.ino, [], true⟩] : List Pt).flatMap encPt) rfl (P2.out.row.alloc _) ⟨w11.heap.size, 0, none⟩ 1 1 [.int .u8 2, .int .u32 r.dir, .string ⟨#[]⟩, .bool false] rfl rfl (news_box (SBox.new w11 156 #[.int .u8 2, .int .u32 r.dir, .string ⟨#[]⟩, .bool false])) (by intro u hu; simp at hu; rcases hu with rfl | rfl | rfl | rfl <;> rfl) (by decide) (by decide) (by decide) (by have := P2.out.lo.2.2; simp; omega) _ rfl ?_; intro g3 cap3 W2 hown hgrow _ _; have PM := P2.out.mid hgrow; have P3 : Hid (PS r wz (W2.setCell ⟨wz.heap.size + 1, 0, none⟩ (.slice (some ⟨g3, 0, none⟩) 3 cap3)) oB base [⟨1, r.dir, r.name, true⟩, ⟨2, r.ino, [], true⟩, ⟨2, r.dir, [], false⟩] (.slice (some ⟨g3, 0, none⟩) 3 cap3)) := Lib.hid (PS.appd (⟨2, r.dir, [], false⟩) P2.out hgrow hown); clear hown hgrow; clear V1 V2 V3 V5 V6 V7 V8 O0 O1 O2 O3 Z0 Zf Vl Zl Ol; obtain ⟨V1, V2, V3, V5, V6, V7, V8, O0, O1, O2, O3, Z0, Zf, Vl, Zl, Ol⟩ := PM))
       generalize (W2.setCell ⟨wz.heap.size + 1, 0, none⟩ (.slice (some ⟨g3, 0, none⟩) 3 cap3)) = w12 at *
       clear V1 V2 V3 V5 V6 V7 V8 O0 O1 O2 O3 Z0 Zf Vl Zl Ol
       obtain ⟨V1, V2, V3, V5, V6, V7, V8, O0, O1, O2, O3, Z0, Zf, Vl, Zl, Ol⟩ := P3.out.cells
       go_wp2_with fail
       have hS := P3.out.out.set 0 (.slice (some ⟨g3, 0, none⟩) 3 cap3)
       have kS := hS.cell 0
       simp only [List.setIfInBounds_toArray, List.set_cons_zero, List.getElem?_toArray, List.getElem?_cons_zero] at kS
       refine bodyPost_ret (v := .slice (some ⟨g3, 0, none⟩) _ cap3) (by simp [results, Tryz.results129, go_sem, kS]; rfl) rfl ⟨_, rfl, ?_, ?_⟩
       · rw [HP.out]
         exact row_lower (P3.out.row.setCell_below (by show wz.heap.size + 1 < base; have := LO.out; omega) _) (by have := LO.out; omega)
       · exact P3.out.be.setCell (by show wz.heap.size ≤ wz.heap.size + 1; omega) _
end Go.Proofs.YtmfhnhnmdeabeaaGreat.Re
end
