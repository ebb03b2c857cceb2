/- The reference of layer 22: Parts, of a record that may be: its parts, or none. -/
import Derived.Test.YtmfhnhnmdeabeaaGreatM44
import Derived.Test.YtmfhnhnmdeabeaaGreatM24
import Derived.Deep.DeepMust
import Derived.Deep.AppendLies
set_option linter.unusedVariables false
set_option linter.unusedSimpArgs false
set_option maxRecDepth 100000
section
namespace Go.Proofs.YtmfhnhnmdeabeaaGreat.Re
open Go.RowKit Go.Shelf Go.Maps Oct Path Tr
structure QS (r : Array Value) (o : Array Value) (wz w : World) (oB base : Nat) (n : Nat) (xs : List Pt) (v : Value) : Prop where
 be : Below wz.heap.size wz w
 rc : SBox w wz.heap.size 39 r
 own : SBox w oB 156 o
 row : w.ownsRow base 156 4 v n (xs.flatMap encPt)
 lo : wz.heap.size < oB ∧ oB < base ∧ base ≤ w.heap.size
theorem QS.app {r o : Array Value} {wz w W2 : World} {oB base n : Nat} {xs : List Pt} {v v2 : Value} {C : Obj} (x : Pt) (h : QS r o wz w oB base n xs v) (hg : (w.alloc C).grownBy W2 v.ownBlock) (hr : W2.ownsRow base 156 4 v2 (n + 1) (xs.flatMap encPt ++ encPt x)) : QS r o wz W2 oB base (n + 1) (xs ++ [x]) v2 := by
 have l := h.lo
 have b := h.be.size
 have ht : Tch (fun c => base ≤ c) w W2 := (Tch.of ((Below.refl _ w).alloc (Nat.le_refl _) C)).trans ⟨hg.os, hg.tape, hg.output, hg.size, fun b hb ho => hg.block b hb (fun e => ho (h.row.lt b e.symm).1)⟩
 exact ⟨h.be.trans (ht.below fun i hi => ⟨by omega, by omega⟩), Tch.box ht h.rc (by omega), Tch.box ht h.own (by omega), by simpa [List.flatMap_append, encPt] using hr, l.1, l.2.1, Nat.le_trans l.2.2 ht.size⟩
theorem field_needs (b0 b1 b2 b3 b4 : Bool) (W : World) : (Instr.field 84 (.agg #[.bool b0, .bool b1, .bool b2, .bool b3, .bool b4]) 0).run Tryz.prog W = .ok (.bool b0) W := by kernel_rfl
theorem QS.mid {a0 a1 a2 a3 a4 a5 a6 a7 a8 a9 a10 a11 o0 o1 o2 o3 : Value} {wz w : World} {oB base n : Nat} {xs : List Pt} {v : Value} (h : QS #[a0, a1, a2, a3, a4, a5, a6, a7, a8, a9, a10, a11] #[o0, o1, o2, o3] wz w oB base n xs v) :
   w.cell? ⟨wz.heap.size, 1, none⟩ = some a1 ∧ w.cell? ⟨wz.heap.size, 2, none⟩ = some a2 ∧ w.cell? ⟨wz.heap.size, 5, none⟩ = some a5 ∧ w.cell? ⟨wz.heap.size, 6, none⟩ = some a6 ∧ w.cell? ⟨wz.heap.size, 7, none⟩ = some a7 ∧ w.cell? ⟨wz.heap.size, 8, none⟩ = some a8 ∧ wz.heap.size < w.heap.size ∧
   w.cell? ⟨oB, 0, none⟩ = some o0 ∧ w.cell? ⟨oB, 1, none⟩ = some o1 ∧ w.cell? ⟨oB, 2, none⟩ = some o2 ∧ w.cell? ⟨oB, 3, none⟩ = some o3 ∧ oB < w.heap.size :=
 ⟨h.rc.cell 1, h.rc.cell 2, h.rc.cell 5, h.rc.cell 6, h.rc.cell 7, h.rc.cell 8, h.rc.lt, h.own.cell 0, h.own.cell 1, h.own.cell 2, h.own.cell 3, h.own.lt⟩
def PartsAns (r : Rc) (wz : World) (e : Ending) (w' : World) : Prop := ∃ v xs, e = .returned v ∧ (xs = [] ∨ xs = parts r) ∧ w'.ownsRow wz.heap.size 156 4 v xs.length (xs.flatMap encPt) ∧ Below wz.heap.size wz w'
def rwOf (r : Rc) : Rw := ⟨r.stamp, r.op, r.dir, B r.name, r.ino, r.kind, r.dir2, B r.name2, r.old, r.size, r.page, B r.data⟩
theorem name_size {s : Nm} (h : isName s = true ∨ s = []) : (B s).size ≤ maxLen := by
 rw [size_B]
 rcases h with h | rfl
 · have : s.length ≤ 27 := by
     unfold isName at h
     simp only [Bool.and_eq_true, decide_eq_true_eq] at h
     omega
   unfold maxLen
   omega
 · unfold maxLen
   simp
theorem rwOf_in {r : Rc} (h : May r) : (rwOf r).In := by
 refine ⟨h.stp, name_size ?_, name_size ?_, ?_⟩
 · cases hk : kEnt r.op
   · exact .inr (h.noe hk).2
   · exact .inl (h.ent hk).2.2
 · cases hk : kMov r.op
   · exact .inr (h.nom hk).2.1
   · exact .inl (h.mov hk).2.2.1
 · show (B r.data).size ≤ maxLen
   rw [size_B]
   cases hk : kDat r.op
   · rw [(h.nod hk).2]; unfold maxLen; simp
   · rw [(h.dat hk).2]; unfold maxLen; omega
theorem rmay_of (r : Rc) (h : May r) (w : World) : Calls Tryz.prog 15 #[recV r] w fun e w' => ∃ b, e = .returned (.bool b) ∧ Below w.heap.size w w' :=
 Calls.mono (rmay_any (rwOf r) (rwOf_in h) w) fun e w' ⟨b, h1, _, h3⟩ => ⟨b, h1, h3⟩
set_option maxHeartbeats 1600000 in
theorem rparts_ok (r : Rc) (hm : May r) (wz : World) : Calls Tryz.prog 115 #[recV r] wz (PartsAns r wz) := by
 have MY := Lib.hid (fun W => rmay_of r hm W)
 have OF := Lib.hid (fun W => of_ok r.op hm.op W)
 have hop := hm.op
 have hnom := hm.nom
 have hknd := hm.knd
 obtain ⟨i0, hi, hz0, hz1, hz2⟩ := info_parts info_Pt
 obtain ⟨stamp, op, dir, name, ino, kind, dir2, name2, old, size, page, data⟩ := r
 clear hm
 simp only at hop hnom hknd
 unfold recV recC at MY
 unfold recV recC
 unfold ofV at OF
 simp only at MY OF
 go_enter Tryz.func115, Tryz.ntmps115
 go_wp2_with fail
 have hal := (Below.refl _ wz).alloc (Nat.le_refl _) (.cells #[.int .u64 stamp, .int .u8 op, .int .u32 dir, .string (B name), .int .u32 ino, .int .u8 kind, .int .u32 dir2, .string (B name2), .int .u32 old, .int .u32 size, .int .i64 page, .string (B data)] 39)
 have X0 := SBox.new wz 39 #[.int .u64 stamp, .int .u8 op, .int .u32 dir, .string (B name), .int .u32 ino, .int .u8 kind, .int .u32 dir2, .string (B name2), .int .u32 old, .int .u32 size, .int .i64 page, .string (B data)]
 refine Calls.mono (MY.out _) ?_
 rintro e w2 ⟨b, rfl, hb⟩
 have BB := Lib.hid (hal.trans (hb.mono (by simp)))
 have XX := Lib.hid (X0.later hb)
 have hX := XX.out
 have A0 := hX.cell 0
 have A1 := hX.cell 1
 have A2 := hX.cell 2
 have A3 := hX.cell 3
 have A4 := hX.cell 4
 have A5 := hX.cell 5
 have A6 := hX.cell 6
 have A7 := hX.cell 7
 have A8 := hX.cell 8
 have A9 := hX.cell 9
 have A10 := hX.cell 10
 have A11 := hX.cell 11
 simp only [List.getElem?_toArray, List.getElem?_cons_zero, List.getElem?_cons_succ] at A0 A1 A2 A3 A4 A5 A6 A7 A8 A9 A10 A11
 have Al := hX.lt
 clear X0 hal hb hX MY
 cases b
 · go_wp2_with fail
   go_ret
   exact ⟨.slice none 0 0, [], rfl, .inl rfl, World.ownsRow_nil _ _ _ _, BB.out⟩
 · go_wp2_with fail
   refine Calls.mono (OF.out _) ?_
   rintro e w3 ⟨rfl, hb⟩
   have hal2 := (Below.refl _ w2).alloc (Nat.le_refl _) (.cells #[.int .u8 2, .int .u32 ino, .string ⟨#[]⟩, .bool true] 156)
   have Y0 := SBox.new w2 156 #[.int .u8 2, .int .u32 ino, .string ⟨#[]⟩, .bool true]
   have hz : wz.heap.size < w2.heap.size := XX.out.lt
   have X3 := Lib.hid ((XX.out.later hal2).later hb)
   have Y3 := Lib.hid (Y0.later hb)
   have B3 := Lib.hid ((BB.out.trans (hal2.mono (by omega))).trans (hb.mono (by simp; omega)))
   have hy : w2.heap.size < w3.heap.size := Y3.out.lt
   have hX := X3.out
   have hY := Y3.out
   clear A0 A1 A2 A3 A4 A5 A6 A7 A8 A9 A10 A11 Al
   have A0 := hX.cell 0
   have A1 := hX.cell 1
   have A2 := hX.cell 2
   have A3 := hX.cell 3
   have A4 := hX.cell 4
   have A5 := hX.cell 5
   have A6 := hX.cell 6
   have A7 := hX.cell 7
   have A8 := hX.cell 8
   have A9 := hX.cell 9
   have A10 := hX.cell 10
   have A11 := hX.cell 11
   simp only [List.getElem?_toArray, List.getElem?_cons_zero, List.getElem?_cons_succ] at A0 A1 A2 A3 A4 A5 A6 A7 A8 A9 A10 A11
   have Al := hX.lt
   have Z0 := hY.cell 0
   have Z1 := hY.cell 1
   have Z2 := hY.cell 2
   have Z3 := hY.cell 3
   simp only [List.getElem?_toArray, List.getElem?_cons_zero, List.getElem?_cons_succ] at Z0 Z1 Z2 Z3
   have Zl := hY.lt
   clear Y0 hal2 hb hX hY XX BB OF
   rcases (by omega : 5 ≤ op ∨ op = 4 ∨ op ≤ 3) with h5 | h4 | h3
   · have hk : kEnt op = false := by unfold kEnt; simp; omega
     rw [hk]
     have FD := field_needs false (kKnd op) (kMov op) (kSiz op) (kDat op)
     go_wp2_with fail
     go_ret
     refine ⟨_, [⟨2, ino, [], true⟩], rfl, .inr (by unfold parts; rw [if_pos h5]), ?_, B3.out.alloc B3.out.size _⟩
     exact World.ownsRow_lit _ _ _ B3.out.size (by unfold maxLen; omega) rfl
   · subst h4
     have FD := field_needs true (kKnd 4) (kMov 4) (kSiz 4) (kDat 4)
     rw [show kEnt 4 = true from rfl]
     have hk12 := hknd rfl
     clear hnom hknd
     have hbs := B3.out.size
     have Q0 : Hid (QS #[.int .u64 stamp, .int .u8 (4 : Nat), .int .u32 dir, .string (B name), .int .u32 ino, .int .u8 kind, .int .u32 dir2, .string (B name2), .int .u32 old, .int .u32 size, .int .i64 page, .string (B data)] #[.int .u8 2, .int .u32 ino, .string ⟨#[]⟩, .bool true] wz (w3.alloc (.cells #[.int .u8 1, .int .u32 dir, .string (B name), .bool true] 156)) w2.heap.size w3.heap.size 1 [⟨1, dir, name, true⟩] (.slice (some ⟨w3.heap.size, 0, none⟩) 1 1)) := Lib.hid ⟨B3.out.alloc hbs _, X3.out.alloc _, Y3.out.alloc _, World.ownsRow_lit _ _ _ (Nat.le_refl _) (by unfold maxLen; omega) rfl, hz, hy, by simp⟩
     obtain ⟨E1, E2, E5, E6, E7, E8, El, F0, F1, F2, F3, Fl⟩ := Q0.out.mid
     rcases hk12 with hk | hk <;> by_cases ho : old = 0
     · subst ho
       subst hk
       go_wp2_with (at_builtin; first | (refine wpList_append_lies _ rfl _ _ 153 rfl w3.heap.size 156 i0 (.agg #[.int .u8 0, .int .u32 0, .string ⟨#[]⟩, .bool false]) 4 32 Tryz.underlying153 hi hz0 hz1 hz2 rfl (by decide) _ 1 ([⟨1, dir, name, true⟩].flatMap encPt) rfl (Q0.out.row.alloc _) ⟨w3.heap.size + 1, 0, none⟩ 1 1 [.int .u8 1, .int .u32 dir2, .string (B name2), .bool true] rfl rfl (news_box (by simpa using SBox.new (w3.alloc (.cells #[.int .u8 1, .int .u32 dir, .string (B name), .bool true] 156)) 156 #[.int .u8 1, .int .u32 dir2, .string (B name2), .bool true])) (by intro u hu; simp at hu; rcases hu with rfl | rfl | rfl | rfl <;> rfl) (by decide) (by unfold maxLen; omega) (by omega) (by have := Q0.out.lo; simp; omega) _ rfl ?_; intro g1 cap1 W1 hown hgrow _ _; have Q1 := Lib.hid (Q0.out.app ⟨1, dir2, name2, true⟩ hgrow hown); clear hown hgrow A1 A2 A5 A6 A7 A8 Al Z0 Z1 Z2 Z3 Zl; obtain ⟨A1, A2, A5, A6, A7, A8, Al, Z0, Z1, Z2, Z3, Zl⟩ := Q1.out.mid) | (refine wpList_append_lies _ rfl _ _ 153 rfl w3.heap.size 156 i0 (.agg #[.int .u8 0, .int .u32 0, .string ⟨#[]⟩, .bool false]) 4 32 Tryz.underlying153 hi hz0 hz1 hz2 rfl (by decide) _ 2 ([⟨1, dir, name, true⟩, ⟨1, dir2, name2, true⟩].flatMap encPt) rfl (Q1.out.row.alloc _) ⟨W1.heap.size, 0, none⟩ 1 1 [.int .u8 2, .int .u32 ino, .string ⟨#[]⟩, .bool true] rfl rfl (news_box (SBox.new W1 156 #[.int .u8 2, .int .u32 ino, .string ⟨#[]⟩, .bool true])) (by intro u hu; simp at hu; rcases hu with rfl | rfl | rfl | rfl <;> rfl) (by decide) (by unfold maxLen; omega) (by omega) (by have := Q1.out.lo; simp; omega) _ rfl ?_; intro g2 cap2 W2 hown hgrow _ _; have Q2 := Lib.hid (Q1.out.app ⟨2, ino, [], true⟩ hgrow hown); clear hown hgrow A1 A2 A5 A6 A7 A8 Al Z0 Z1 Z2 Z3 Zl; obtain ⟨A1, A2, A5, A6, A7, A8, Al, Z0, Z1, Z2, Z3, Zl⟩ := Q2.out.mid) | (refine wpList_append_lies _ rfl _ _ 153 rfl w3.heap.size 156 i0 (.agg #[.int .u8 0, .int .u32 0, .string ⟨#[]⟩, .bool false]) 4 32 Tryz.underlying153 hi hz0 hz1 hz2 rfl (by decide) _ 3 ([⟨1, dir, name, true⟩, ⟨1, dir2, name2, true⟩, ⟨2, ino, [], true⟩].flatMap encPt) rfl (Q2.out.row.alloc _) ⟨W2.heap.size, 0, none⟩ 1 1 [.int .u8 2, .int .u32 dir, .string ⟨#[]⟩, .bool false] rfl rfl (news_box (SBox.new W2 156 #[.int .u8 2, .int .u32 dir, .string ⟨#[]⟩, .bool false])) (by intro u hu; simp at hu; rcases hu with rfl | rfl | rfl | rfl <;> rfl) (by decide) (by unfold maxLen; omega) (by omega) (by have := Q2.out.lo; simp; omega) _ rfl ?_; intro g3 cap3 W3 hown hgrow _ _; have Q3 := Lib.hid (Q2.out.app ⟨2, dir, [], false⟩ hgrow hown); clear hown hgrow A1 A2 A5 A6 A7 A8 Al Z0 Z1 Z2 Z3 Zl; obtain ⟨A1, A2, A5, A6, A7, A8, Al, Z0, Z1, Z2, Z3, Zl⟩ := Q3.out.mid) | (refine wpList_append_lies _ rfl _ _ 153 rfl w3.heap.size 156 i0 (.agg #[.int .u8 0, .int .u32 0, .string ⟨#[]⟩, .bool false]) 4 32 Tryz.underlying153 hi hz0 hz1 hz2 rfl (by decide) _ 4 ([⟨1, dir, name, true⟩, ⟨1, dir2, name2, true⟩, ⟨2, ino, [], true⟩, ⟨2, dir, [], false⟩].flatMap encPt) rfl (Q3.out.row.alloc _) ⟨W3.heap.size, 0, none⟩ 1 1 [.int .u8 2, .int .u32 dir2, .string ⟨#[]⟩, .bool false] rfl rfl (news_box (SBox.new W3 156 #[.int .u8 2, .int .u32 dir2, .string ⟨#[]⟩, .bool false])) (by intro u hu; simp at hu; rcases hu with rfl | rfl | rfl | rfl <;> rfl) (by decide) (by unfold maxLen; omega) (by omega) (by have := Q3.out.lo; simp; omega) _ rfl ?_; intro g4 cap4 W4 hown hgrow _ _; have Q4 := Lib.hid (Q3.out.app ⟨2, dir2, [], false⟩ hgrow hown); clear hown hgrow A1 A2 A5 A6 A7 A8 Al Z0 Z1 Z2 Z3 Zl; obtain ⟨A1, A2, A5, A6, A7, A8, Al, Z0, Z1, Z2, Z3, Zl⟩ := Q4.out.mid))
       go_ret
       refine ⟨_, [⟨1, dir, name, true⟩, ⟨1, dir2, name2, true⟩, ⟨2, ino, [], true⟩, ⟨2, dir, [], false⟩, ⟨2, dir2, [], false⟩], rfl, .inr ?_, row_lower Q4.out.row hbs, Q4.out.be⟩
       unfold parts
       simp
     · have q : ¬ (old : Int) = 0 := by omega
       subst hk
       go_wp2_with (at_builtin; first | (refine wpList_append_lies _ rfl _ _ 153 rfl w3.heap.size 156 i0 (.agg #[.int .u8 0, .int .u32 0, .string ⟨#[]⟩, .bool false]) 4 32 Tryz.underlying153 hi hz0 hz1 hz2 rfl (by decide) _ 1 ([⟨1, dir, name, true⟩].flatMap encPt) rfl (Q0.out.row.alloc _) ⟨w3.heap.size + 1, 0, none⟩ 1 1 [.int .u8 1, .int .u32 dir2, .string (B name2), .bool true] rfl rfl (news_box (by simpa using SBox.new (w3.alloc (.cells #[.int .u8 1, .int .u32 dir, .string (B name), .bool true] 156)) 156 #[.int .u8 1, .int .u32 dir2, .string (B name2), .bool true])) (by intro u hu; simp at hu; rcases hu with rfl | rfl | rfl | rfl <;> rfl) (by decide) (by unfold maxLen; omega) (by omega) (by have := Q0.out.lo; simp; omega) _ rfl ?_; intro g1 cap1 W1 hown hgrow _ _; have Q1 := Lib.hid (Q0.out.app ⟨1, dir2, name2, true⟩ hgrow hown); clear hown hgrow A1 A2 A5 A6 A7 A8 Al Z0 Z1 Z2 Z3 Zl; obtain ⟨A1, A2, A5, A6, A7, A8, Al, Z0, Z1, Z2, Z3, Zl⟩ := Q1.out.mid) | (refine wpList_append_lies _ rfl _ _ 153 rfl w3.heap.size 156 i0 (.agg #[.int .u8 0, .int .u32 0, .string ⟨#[]⟩, .bool false]) 4 32 Tryz.underlying153 hi hz0 hz1 hz2 rfl (by decide) _ 2 ([⟨1, dir, name, true⟩, ⟨1, dir2, name2, true⟩].flatMap encPt) rfl (Q1.out.row.alloc _) ⟨W1.heap.size, 0, none⟩ 1 1 [.int .u8 2, .int .u32 ino, .string ⟨#[]⟩, .bool true] rfl rfl (news_box (SBox.new W1 156 #[.int .u8 2, .int .u32 ino, .string ⟨#[]⟩, .bool true])) (by intro u hu; simp at hu; rcases hu with rfl | rfl | rfl | rfl <;> rfl) (by decide) (by unfold maxLen; omega) (by omega) (by have := Q1.out.lo; simp; omega) _ rfl ?_; intro g2 cap2 W2 hown hgrow _ _; have Q2 := Lib.hid (Q1.out.app ⟨2, ino, [], true⟩ hgrow hown); clear hown hgrow A1 A2 A5 A6 A7 A8 Al Z0 Z1 Z2 Z3 Zl; obtain ⟨A1, A2, A5, A6, A7, A8, Al, Z0, Z1, Z2, Z3, Zl⟩ := Q2.out.mid) | (refine wpList_append_lies _ rfl _ _ 153 rfl w3.heap.size 156 i0 (.agg #[.int .u8 0, .int .u32 0, .string ⟨#[]⟩, .bool false]) 4 32 Tryz.underlying153 hi hz0 hz1 hz2 rfl (by decide) _ 3 ([⟨1, dir, name, true⟩, ⟨1, dir2, name2, true⟩, ⟨2, ino, [], true⟩].flatMap encPt) rfl (Q2.out.row.alloc _) ⟨W2.heap.size, 0, none⟩ 1 1 [.int .u8 2, .int .u32 old, .string ⟨#[]⟩, .bool true] rfl rfl (news_box (SBox.new W2 156 #[.int .u8 2, .int .u32 old, .string ⟨#[]⟩, .bool true])) (by intro u hu; simp at hu; rcases hu with rfl | rfl | rfl | rfl <;> rfl) (by decide) (by unfold maxLen; omega) (by omega) (by have := Q2.out.lo; simp; omega) _ rfl ?_; intro g3 cap3 W3 hown hgrow _ _; have Q3 := Lib.hid (Q2.out.app ⟨2, old, [], true⟩ hgrow hown); clear hown hgrow A1 A2 A5 A6 A7 A8 Al Z0 Z1 Z2 Z3 Zl; obtain ⟨A1, A2, A5, A6, A7, A8, Al, Z0, Z1, Z2, Z3, Zl⟩ := Q3.out.mid) | (refine wpList_append_lies _ rfl _ _ 153 rfl w3.heap.size 156 i0 (.agg #[.int .u8 0, .int .u32 0, .string ⟨#[]⟩, .bool false]) 4 32 Tryz.underlying153 hi hz0 hz1 hz2 rfl (by decide) _ 4 ([⟨1, dir, name, true⟩, ⟨1, dir2, name2, true⟩, ⟨2, ino, [], true⟩, ⟨2, old, [], true⟩].flatMap encPt) rfl (Q3.out.row.alloc _) ⟨W3.heap.size, 0, none⟩ 1 1 [.int .u8 2, .int .u32 dir, .string ⟨#[]⟩, .bool false] rfl rfl (news_box (SBox.new W3 156 #[.int .u8 2, .int .u32 dir, .string ⟨#[]⟩, .bool false])) (by intro u hu; simp at hu; rcases hu with rfl | rfl | rfl | rfl <;> rfl) (by decide) (by unfold maxLen; omega) (by omega) (by have := Q3.out.lo; simp; omega) _ rfl ?_; intro g4 cap4 W4 hown hgrow _ _; have Q4 := Lib.hid (Q3.out.app ⟨2, dir, [], false⟩ hgrow hown); clear hown hgrow A1 A2 A5 A6 A7 A8 Al Z0 Z1 Z2 Z3 Zl; obtain ⟨A1, A2, A5, A6, A7, A8, Al, Z0, Z1, Z2, Z3, Zl⟩ := Q4.out.mid) | (refine wpList_append_lies _ rfl _ _ 153 rfl w3.heap.size 156 i0 (.agg #[.int .u8 0, .int .u32 0, .string ⟨#[]⟩, .bool false]) 4 32 Tryz.underlying153 hi hz0 hz1 hz2 rfl (by decide) _ 5 ([⟨1, dir, name, true⟩, ⟨1, dir2, name2, true⟩, ⟨2, ino, [], true⟩, ⟨2, old, [], true⟩, ⟨2, dir, [], false⟩].flatMap encPt) rfl (Q4.out.row.alloc _) ⟨W4.heap.size, 0, none⟩ 1 1 [.int .u8 2, .int .u32 dir2, .string ⟨#[]⟩, .bool false] rfl rfl (news_box (SBox.new W4 156 #[.int .u8 2, .int .u32 dir2, .string ⟨#[]⟩, .bool false])) (by intro u hu; simp at hu; rcases hu with rfl | rfl | rfl | rfl <;> rfl) (by decide) (by unfold maxLen; omega) (by omega) (by have := Q4.out.lo; simp; omega) _ rfl ?_; intro g5 cap5 W5 hown hgrow _ _; have Q5 := Lib.hid (Q4.out.app ⟨2, dir2, [], false⟩ hgrow hown); clear hown hgrow A1 A2 A5 A6 A7 A8 Al Z0 Z1 Z2 Z3 Zl; obtain ⟨A1, A2, A5, A6, A7, A8, Al, Z0, Z1, Z2, Z3, Zl⟩ := Q5.out.mid))
       go_ret
       refine ⟨_, [⟨1, dir, name, true⟩, ⟨1, dir2, name2, true⟩, ⟨2, ino, [], true⟩, ⟨2, old, [], true⟩, ⟨2, dir, [], false⟩, ⟨2, dir2, [], false⟩], rfl, .inr ?_, row_lower Q5.out.row hbs, Q5.out.be⟩
       unfold parts
       simp [ho]
     · subst ho
       subst hk
       go_wp2_with (at_builtin; first | (refine wpList_append_lies _ rfl _ _ 153 rfl w3.heap.size 156 i0 (.agg #[.int .u8 0, .int .u32 0, .string ⟨#[]⟩, .bool false]) 4 32 Tryz.underlying153 hi hz0 hz1 hz2 rfl (by decide) _ 1 ([⟨1, dir, name, true⟩].flatMap encPt) rfl (Q0.out.row.alloc _) ⟨w3.heap.size + 1, 0, none⟩ 1 1 [.int .u8 1, .int .u32 dir2, .string (B name2), .bool true] rfl rfl (news_box (by simpa using SBox.new (w3.alloc (.cells #[.int .u8 1, .int .u32 dir, .string (B name), .bool true] 156)) 156 #[.int .u8 1, .int .u32 dir2, .string (B name2), .bool true])) (by intro u hu; simp at hu; rcases hu with rfl | rfl | rfl | rfl <;> rfl) (by decide) (by unfold maxLen; omega) (by omega) (by have := Q0.out.lo; simp; omega) _ rfl ?_; intro g1 cap1 W1 hown hgrow _ _; have Q1 := Lib.hid (Q0.out.app ⟨1, dir2, name2, true⟩ hgrow hown); clear hown hgrow A1 A2 A5 A6 A7 A8 Al Z0 Z1 Z2 Z3 Zl; obtain ⟨A1, A2, A5, A6, A7, A8, Al, Z0, Z1, Z2, Z3, Zl⟩ := Q1.out.mid) | (refine wpList_append_lies _ rfl _ _ 153 rfl w3.heap.size 156 i0 (.agg #[.int .u8 0, .int .u32 0, .string ⟨#[]⟩, .bool false]) 4 32 Tryz.underlying153 hi hz0 hz1 hz2 rfl (by decide) _ 2 ([⟨1, dir, name, true⟩, ⟨1, dir2, name2, true⟩].flatMap encPt) rfl (Q1.out.row.alloc _) ⟨W1.heap.size, 0, none⟩ 1 1 [.int .u8 2, .int .u32 ino, .string ⟨#[]⟩, .bool true] rfl rfl (news_box (SBox.new W1 156 #[.int .u8 2, .int .u32 ino, .string ⟨#[]⟩, .bool true])) (by intro u hu; simp at hu; rcases hu with rfl | rfl | rfl | rfl <;> rfl) (by decide) (by unfold maxLen; omega) (by omega) (by have := Q1.out.lo; simp; omega) _ rfl ?_; intro g2 cap2 W2 hown hgrow _ _; have Q2 := Lib.hid (Q1.out.app ⟨2, ino, [], true⟩ hgrow hown); clear hown hgrow A1 A2 A5 A6 A7 A8 Al Z0 Z1 Z2 Z3 Zl; obtain ⟨A1, A2, A5, A6, A7, A8, Al, Z0, Z1, Z2, Z3, Zl⟩ := Q2.out.mid) | (refine wpList_append_lies _ rfl _ _ 153 rfl w3.heap.size 156 i0 (.agg #[.int .u8 0, .int .u32 0, .string ⟨#[]⟩, .bool false]) 4 32 Tryz.underlying153 hi hz0 hz1 hz2 rfl (by decide) _ 3 ([⟨1, dir, name, true⟩, ⟨1, dir2, name2, true⟩, ⟨2, ino, [], true⟩].flatMap encPt) rfl (Q2.out.row.alloc _) ⟨W2.heap.size, 0, none⟩ 1 1 [.int .u8 3, .int .u32 0, .string ⟨#[]⟩, .bool true] rfl rfl (news_box (SBox.new W2 156 #[.int .u8 3, .int .u32 0, .string ⟨#[]⟩, .bool true])) (by intro u hu; simp at hu; rcases hu with rfl | rfl | rfl | rfl <;> rfl) (by decide) (by unfold maxLen; omega) (by omega) (by have := Q2.out.lo; simp; omega) _ rfl ?_; intro g3 cap3 W3 hown hgrow _ _; have Q3 := Lib.hid (Q2.out.app ⟨3, 0, [], true⟩ hgrow hown); clear hown hgrow A1 A2 A5 A6 A7 A8 Al Z0 Z1 Z2 Z3 Zl; obtain ⟨A1, A2, A5, A6, A7, A8, Al, Z0, Z1, Z2, Z3, Zl⟩ := Q3.out.mid) | (refine wpList_append_lies _ rfl _ _ 153 rfl w3.heap.size 156 i0 (.agg #[.int .u8 0, .int .u32 0, .string ⟨#[]⟩, .bool false]) 4 32 Tryz.underlying153 hi hz0 hz1 hz2 rfl (by decide) _ 4 ([⟨1, dir, name, true⟩, ⟨1, dir2, name2, true⟩, ⟨2, ino, [], true⟩, ⟨3, 0, [], true⟩].flatMap encPt) rfl (Q3.out.row.alloc _) ⟨W3.heap.size, 0, none⟩ 1 1 [.int .u8 2, .int .u32 dir, .string ⟨#[]⟩, .bool false] rfl rfl (news_box (SBox.new W3 156 #[.int .u8 2, .int .u32 dir, .string ⟨#[]⟩, .bool false])) (by intro u hu; simp at hu; rcases hu with rfl | rfl | rfl | rfl <;> rfl) (by decide) (by unfold maxLen; omega) (by omega) (by have := Q3.out.lo; simp; omega) _ rfl ?_; intro g4 cap4 W4 hown hgrow _ _; have Q4 := Lib.hid (Q3.out.app ⟨2, dir, [], false⟩ hgrow hown); clear hown hgrow A1 A2 A5 A6 A7 A8 Al Z0 Z1 Z2 Z3 Zl; obtain ⟨A1, A2, A5, A6, A7, A8, Al, Z0, Z1, Z2, Z3, Zl⟩ := Q4.out.mid) | (refine wpList_append_lies _ rfl _ _ 153 rfl w3.heap.size 156 i0 (.agg #[.int .u8 0, .int .u32 0, .string ⟨#[]⟩, .bool false]) 4 32 Tryz.underlying153 hi hz0 hz1 hz2 rfl (by decide) _ 5 ([⟨1, dir, name, true⟩, ⟨1, dir2, name2, true⟩, ⟨2, ino, [], true⟩, ⟨3, 0, [], true⟩, ⟨2, dir, [], false⟩].flatMap encPt) rfl (Q4.out.row.alloc _) ⟨W4.heap.size, 0, none⟩ 1 1 [.int .u8 2, .int .u32 dir2, .string ⟨#[]⟩, .bool false] rfl rfl (news_box (SBox.new W4 156 #[.int .u8 2, .int .u32 dir2, .string ⟨#[]⟩, .bool false])) (by intro u hu; simp at hu; rcases hu with rfl | rfl | rfl | rfl <;> rfl) (by decide) (by unfold maxLen; omega) (by omega) (by have := Q4.out.lo; simp; omega) _ rfl ?_; intro g5 cap5 W5 hown hgrow _ _; have Q5 := Lib.hid (Q4.out.app ⟨2, dir2, [], false⟩ hgrow hown); clear hown hgrow A1 A2 A5 A6 A7 A8 Al Z0 Z1 Z2 Z3 Zl; obtain ⟨A1, A2, A5, A6, A7, A8, Al, Z0, Z1, Z2, Z3, Zl⟩ := Q5.out.mid))
       go_ret
       refine ⟨_, [⟨1, dir, name, true⟩, ⟨1, dir2, name2, true⟩, ⟨2, ino, [], true⟩, ⟨3, 0, [], true⟩, ⟨2, dir, [], false⟩, ⟨2, dir2, [], false⟩], rfl, .inr ?_, row_lower Q5.out.row hbs, Q5.out.be⟩
       unfold parts
       simp
     · have q : ¬ (old : Int) = 0 := by omega
       subst hk
       go_wp2_with (at_builtin; first | (refine wpList_append_lies _ rfl _ _ 153 rfl w3.heap.size 156 i0 (.agg #[.int .u8 0, .int .u32 0, .string ⟨#[]⟩, .bool false]) 4 32 Tryz.underlying153 hi hz0 hz1 hz2 rfl (by decide) _ 1 ([⟨1, dir, name, true⟩].flatMap encPt) rfl (Q0.out.row.alloc _) ⟨w3.heap.size + 1, 0, none⟩ 1 1 [.int .u8 1, .int .u32 dir2, .string (B name2), .bool true] rfl rfl (news_box (by simpa using SBox.new (w3.alloc (.cells #[.int .u8 1, .int .u32 dir, .string (B name), .bool true] 156)) 156 #[.int .u8 1, .int .u32 dir2, .string (B name2), .bool true])) (by intro u hu; simp at hu; rcases hu with rfl | rfl | rfl | rfl <;> rfl) (by decide) (by unfold maxLen; omega) (by omega) (by have := Q0.out.lo; simp; omega) _ rfl ?_; intro g1 cap1 W1 hown hgrow _ _; have Q1 := Lib.hid (Q0.out.app ⟨1, dir2, name2, true⟩ hgrow hown); clear hown hgrow A1 A2 A5 A6 A7 A8 Al Z0 Z1 Z2 Z3 Zl; obtain ⟨A1, A2, A5, A6, A7, A8, Al, Z0, Z1, Z2, Z3, Zl⟩ := Q1.out.mid) | (refine wpList_append_lies _ rfl _ _ 153 rfl w3.heap.size 156 i0 (.agg #[.int .u8 0, .int .u32 0, .string ⟨#[]⟩, .bool false]) 4 32 Tryz.underlying153 hi hz0 hz1 hz2 rfl (by decide) _ 2 ([⟨1, dir, name, true⟩, ⟨1, dir2, name2, true⟩].flatMap encPt) rfl (Q1.out.row.alloc _) ⟨W1.heap.size, 0, none⟩ 1 1 [.int .u8 2, .int .u32 ino, .string ⟨#[]⟩, .bool true] rfl rfl (news_box (SBox.new W1 156 #[.int .u8 2, .int .u32 ino, .string ⟨#[]⟩, .bool true])) (by intro u hu; simp at hu; rcases hu with rfl | rfl | rfl | rfl <;> rfl) (by decide) (by unfold maxLen; omega) (by omega) (by have := Q1.out.lo; simp; omega) _ rfl ?_; intro g2 cap2 W2 hown hgrow _ _; have Q2 := Lib.hid (Q1.out.app ⟨2, ino, [], true⟩ hgrow hown); clear hown hgrow A1 A2 A5 A6 A7 A8 Al Z0 Z1 Z2 Z3 Zl; obtain ⟨A1, A2, A5, A6, A7, A8, Al, Z0, Z1, Z2, Z3, Zl⟩ := Q2.out.mid) | (refine wpList_append_lies _ rfl _ _ 153 rfl w3.heap.size 156 i0 (.agg #[.int .u8 0, .int .u32 0, .string ⟨#[]⟩, .bool false]) 4 32 Tryz.underlying153 hi hz0 hz1 hz2 rfl (by decide) _ 3 ([⟨1, dir, name, true⟩, ⟨1, dir2, name2, true⟩, ⟨2, ino, [], true⟩].flatMap encPt) rfl (Q2.out.row.alloc _) ⟨W2.heap.size, 0, none⟩ 1 1 [.int .u8 2, .int .u32 old, .string ⟨#[]⟩, .bool true] rfl rfl (news_box (SBox.new W2 156 #[.int .u8 2, .int .u32 old, .string ⟨#[]⟩, .bool true])) (by intro u hu; simp at hu; rcases hu with rfl | rfl | rfl | rfl <;> rfl) (by decide) (by unfold maxLen; omega) (by omega) (by have := Q2.out.lo; simp; omega) _ rfl ?_; intro g3 cap3 W3 hown hgrow _ _; have Q3 := Lib.hid (Q2.out.app ⟨2, old, [], true⟩ hgrow hown); clear hown hgrow A1 A2 A5 A6 A7 A8 Al Z0 Z1 Z2 Z3 Zl; obtain ⟨A1, A2, A5, A6, A7, A8, Al, Z0, Z1, Z2, Z3, Zl⟩ := Q3.out.mid) | (refine wpList_append_lies _ rfl _ _ 153 rfl w3.heap.size 156 i0 (.agg #[.int .u8 0, .int .u32 0, .string ⟨#[]⟩, .bool false]) 4 32 Tryz.underlying153 hi hz0 hz1 hz2 rfl (by decide) _ 4 ([⟨1, dir, name, true⟩, ⟨1, dir2, name2, true⟩, ⟨2, ino, [], true⟩, ⟨2, old, [], true⟩].flatMap encPt) rfl (Q3.out.row.alloc _) ⟨W3.heap.size, 0, none⟩ 1 1 [.int .u8 3, .int .u32 0, .string ⟨#[]⟩, .bool true] rfl rfl (news_box (SBox.new W3 156 #[.int .u8 3, .int .u32 0, .string ⟨#[]⟩, .bool true])) (by intro u hu; simp at hu; rcases hu with rfl | rfl | rfl | rfl <;> rfl) (by decide) (by unfold maxLen; omega) (by omega) (by have := Q3.out.lo; simp; omega) _ rfl ?_; intro g4 cap4 W4 hown hgrow _ _; have Q4 := Lib.hid (Q3.out.app ⟨3, 0, [], true⟩ hgrow hown); clear hown hgrow A1 A2 A5 A6 A7 A8 Al Z0 Z1 Z2 Z3 Zl; obtain ⟨A1, A2, A5, A6, A7, A8, Al, Z0, Z1, Z2, Z3, Zl⟩ := Q4.out.mid) | (refine wpList_append_lies _ rfl _ _ 153 rfl w3.heap.size 156 i0 (.agg #[.int .u8 0, .int .u32 0, .string ⟨#[]⟩, .bool false]) 4 32 Tryz.underlying153 hi hz0 hz1 hz2 rfl (by decide) _ 5 ([⟨1, dir, name, true⟩, ⟨1, dir2, name2, true⟩, ⟨2, ino, [], true⟩, ⟨2, old, [], true⟩, ⟨3, 0, [], true⟩].flatMap encPt) rfl (Q4.out.row.alloc _) ⟨W4.heap.size, 0, none⟩ 1 1 [.int .u8 2, .int .u32 dir, .string ⟨#[]⟩, .bool false] rfl rfl (news_box (SBox.new W4 156 #[.int .u8 2, .int .u32 dir, .string ⟨#[]⟩, .bool false])) (by intro u hu; simp at hu; rcases hu with rfl | rfl | rfl | rfl <;> rfl) (by decide) (by unfold maxLen; omega) (by omega) (by have := Q4.out.lo; simp; omega) _ rfl ?_; intro g5 cap5 W5 hown hgrow _ _; have Q5 := Lib.hid (Q4.out.app ⟨2, dir, [], false⟩ hgrow hown); clear hown hgrow A1 A2 A5 A6 A7 A8 Al Z0 Z1 Z2 Z3 Zl; obtain ⟨A1, A2, A5, A6, A7, A8, Al, Z0, Z1, Z2, Z3, Zl⟩ := Q5.out.mid) | (refine wpList_append_lies _ rfl _ _ 153 rfl w3.heap.size 156 i0 (.agg #[.int .u8 0, .int .u32 0, .string ⟨#[]⟩, .bool false]) 4 32 Tryz.underlying153 hi hz0 hz1 hz2 rfl (by decide) _ 6 ([⟨1, dir, name, true⟩, ⟨1, dir2, name2, true⟩, ⟨2, ino, [], true⟩, ⟨2, old, [], true⟩, ⟨3, 0, [], true⟩, ⟨2, dir, [], false⟩].flatMap encPt) rfl (Q5.out.row.alloc _) ⟨W5.heap.size, 0, none⟩ 1 1 [.int .u8 2, .int .u32 dir2, .string ⟨#[]⟩, .bool false] rfl rfl (news_box (SBox.new W5 156 #[.int .u8 2, .int .u32 dir2, .string ⟨#[]⟩, .bool false])) (by intro u hu; simp at hu; rcases hu with rfl | rfl | rfl | rfl <;> rfl) (by decide) (by unfold maxLen; omega) (by omega) (by have := Q5.out.lo; simp; omega) _ rfl ?_; intro g6 cap6 W6 hown hgrow _ _; have Q6 := Lib.hid (Q5.out.app ⟨2, dir2, [], false⟩ hgrow hown); clear hown hgrow A1 A2 A5 A6 A7 A8 Al Z0 Z1 Z2 Z3 Zl; obtain ⟨A1, A2, A5, A6, A7, A8, Al, Z0, Z1, Z2, Z3, Zl⟩ := Q6.out.mid))
       go_ret
       refine ⟨_, [⟨1, dir, name, true⟩, ⟨1, dir2, name2, true⟩, ⟨2, ino, [], true⟩, ⟨2, old, [], true⟩, ⟨3, 0, [], true⟩, ⟨2, dir, [], false⟩, ⟨2, dir2, [], false⟩], rfl, .inr ?_, row_lower Q6.out.row hbs, Q6.out.be⟩
       unfold parts
       simp [ho]
   · have hk : kEnt op = true := by unfold kEnt; simp; omega
     have hv : kMov op = false := by unfold kMov; simp; omega
     obtain ⟨rfl, rfl, rfl⟩ := hnom hv
     have FD := field_needs true (kKnd op) false (kSiz op) (kDat op)
     have n4 : ((op : Int) == 4) = false := by simp only [beq_eq_false_iff_ne, ne_eq]; omega
     rw [hk]
     have hbs := B3.out.size
     have Q0 : Hid (QS #[.int .u64 stamp, .int .u8 op, .int .u32 dir, .string (B name), .int .u32 ino, .int .u8 kind, .int .u32 (0 : Nat), .string (B []), .int .u32 (0 : Nat), .int .u32 size, .int .i64 page, .string (B data)] #[.int .u8 2, .int .u32 ino, .string ⟨#[]⟩, .bool true] wz (w3.alloc (.cells #[.int .u8 1, .int .u32 dir, .string (B name), .bool true] 156)) w2.heap.size w3.heap.size 1 [⟨1, dir, name, true⟩] (.slice (some ⟨w3.heap.size, 0, none⟩) 1 1)) := Lib.hid ⟨B3.out.alloc hbs _, X3.out.alloc _, Y3.out.alloc _, World.ownsRow_lit _ _ _ (Nat.le_refl _) (by unfold maxLen; omega) rfl, hz, hy, by simp⟩
     obtain ⟨E1, E2, E5, E6, E7, E8, El, F0, F1, F2, F3, Fl⟩ := Q0.out.mid
     go_wp2_with (at_builtin; first | (refine wpList_append_lies _ rfl _ _ 153 rfl w3.heap.size 156 i0 (.agg #[.int .u8 0, .int .u32 0, .string ⟨#[]⟩, .bool false]) 4 32 Tryz.underlying153 hi hz0 hz1 hz2 rfl (by decide) _ 1 ([⟨1, dir, name, true⟩].flatMap encPt) rfl (Q0.out.row.alloc _) ⟨w3.heap.size + 1, 0, none⟩ 1 1 [.int .u8 2, .int .u32 ino, .string ⟨#[]⟩, .bool true] rfl rfl (news_box (by simpa using SBox.new (w3.alloc (.cells #[.int .u8 1, .int .u32 dir, .string (B name), .bool true] 156)) 156 #[.int .u8 2, .int .u32 ino, .string ⟨#[]⟩, .bool true])) (by intro u hu; simp at hu; rcases hu with rfl | rfl | rfl | rfl <;> rfl) (by decide) (by unfold maxLen; omega) (by omega) (by have := Q0.out.lo; simp; omega) _ rfl ?_; intro g1 cap1 W1 hown hgrow _ _; have Q1 := Lib.hid (Q0.out.app ⟨2, ino, [], true⟩ hgrow hown); clear hown hgrow A1 A2 A5 A6 A7 A8 Al Z0 Z1 Z2 Z3 Zl; obtain ⟨A1, A2, A5, A6, A7, A8, Al, Z0, Z1, Z2, Z3, Zl⟩ := Q1.out.mid) | (refine wpList_append_lies _ rfl _ _ 153 rfl w3.heap.size 156 i0 (.agg #[.int .u8 0, .int .u32 0, .string ⟨#[]⟩, .bool false]) 4 32 Tryz.underlying153 hi hz0 hz1 hz2 rfl (by decide) _ 2 ([⟨1, dir, name, true⟩, ⟨2, ino, [], true⟩].flatMap encPt) rfl (Q1.out.row.alloc _) ⟨W1.heap.size, 0, none⟩ 1 1 [.int .u8 2, .int .u32 dir, .string ⟨#[]⟩, .bool false] rfl rfl (news_box (SBox.new W1 156 #[.int .u8 2, .int .u32 dir, .string ⟨#[]⟩, .bool false])) (by intro u hu; simp at hu; rcases hu with rfl | rfl | rfl | rfl <;> rfl) (by decide) (by unfold maxLen; omega) (by omega) (by have := Q1.out.lo; simp; omega) _ rfl ?_; intro g2 cap2 W2 hown hgrow _ _; have Q2 := Lib.hid (Q1.out.app ⟨2, dir, [], false⟩ hgrow hown); clear hown hgrow A1 A2 A5 A6 A7 A8 Al Z0 Z1 Z2 Z3 Zl; obtain ⟨A1, A2, A5, A6, A7, A8, Al, Z0, Z1, Z2, Z3, Zl⟩ := Q2.out.mid))
     go_ret
     refine ⟨_, [⟨1, dir, name, true⟩, ⟨2, ino, [], true⟩, ⟨2, dir, [], false⟩], rfl, .inr ?_, row_lower Q2.out.row hbs, Q2.out.be⟩
     unfold parts
     rw [if_neg (by show ¬ 5 ≤ op; omega), if_neg (by show ¬ op = 4; omega), if_neg (by show ¬ (0 : Nat) ≠ 0; decide), if_neg (by show ¬ (op = 4 ∧ kind = 2); omega), if_neg (by show ¬ op = 4; omega)]
     rfl
end Go.Proofs.YtmfhnhnmdeabeaaGreat.Re
end
