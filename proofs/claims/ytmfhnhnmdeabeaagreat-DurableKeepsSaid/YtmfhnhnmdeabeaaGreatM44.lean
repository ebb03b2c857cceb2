/- The reference of layer 22: May, of any record. -/
import Derived.Test.YtmfhnhnmdeabeaaGreatM37
import Derived.Test.YtmfhnhnmdeabeaaGreatM38
import Derived.Test.YtmfhnhnmdeabeaaGreatM39
import Derived.Test.YtmfhnhnmdeabeaaGreatM40
import Derived.Test.YtmfhnhnmdeabeaaGreatM41
import Derived.Test.YtmfhnhnmdeabeaaGreatM42
import Derived.Test.YtmfhnhnmdeabeaaGreatM43
set_option linter.unusedVariables false
set_option linter.unusedSimpArgs false
set_option maxRecDepth 100000
section
namespace Go.Proofs.YtmfhnhnmdeabeaaGreat.Re
open Go.RowKit Go.Shelf Go.Maps Oct Path Tr
set_option maxHeartbeats 400000 in
theorem of_no (o : Nat) (h : ¬ (1 ≤ o ∧ o ≤ 7)) (w : World) : Calls Tryz.prog 34 #[.int .u8 o] w fun e w' => e = .returned (.agg #[.bool false, .bool false, .bool false, .bool false, .bool false]) ∧ Below w.heap.size w w' := by
 have q1 : ¬ (o : Int) = 1 := by omega
 have q2 : ¬ (o : Int) = 2 := by omega
 have q3 : ¬ (o : Int) = 3 := by omega
 have q4 : ¬ (o : Int) = 4 := by omega
 have q5 : ¬ (o : Int) = 5 := by omega
 have q6 : ¬ (o : Int) = 6 := by omega
 clear h
 go_enter Tryz.func34, Tryz.ntmps34
 go_wp2_with fail
 have X := SBox.new w 84 #[.bool false, .bool false, .bool false, .bool false, .bool false]
 have k0 := X.cell 0
 have k1 := X.cell 1
 have k2 := X.cell 2
 have k3 := X.cell 3
 have k4 := X.cell 4
 simp only [List.getElem?_toArray, List.getElem?_cons_zero, List.getElem?_cons_succ] at k0 k1 k2 k3 k4
 exact bodyPost_ret (v := .agg #[.bool false, .bool false, .bool false, .bool false, .bool false]) (by simp [results, Tryz.results34, go_sem, k0, k1, k2, k3, k4]) rfl ⟨rfl, (Below.refl _ w).alloc (Nat.le_refl _) _⟩
set_option maxHeartbeats 1600000 in
theorem rmay_no (stamp op dir ino kind dir2 old size : Nat) (name name2 data : ByteArray) (page : Int) (h : ¬ (1 ≤ op ∧ op ≤ 7)) (wz : World) :
   Calls Tryz.prog 15 #[.agg (rwC ⟨stamp, op, dir, name, ino, kind, dir2, name2, old, size, page, data⟩)] wz (MayAns ⟨stamp, op, dir, name, ino, kind, dir2, name2, old, size, page, data⟩ wz) := by
 have OF := Lib.hid (of_no op h)
 unfold rwC
 go_enter Tryz.func15, Tryz.ntmps15
 go_wp2_with fail
 have hal := (Below.refl _ wz).alloc (Nat.le_refl _) (.cells #[.int .u64 stamp, .int .u8 op, .int .u32 dir, .string name, .int .u32 ino, .int .u8 kind, .int .u32 dir2, .string name2, .int .u32 old, .int .u32 size, .int .i64 page, .string data] 39)
 have X0 := SBox.new wz 39 #[.int .u64 stamp, .int .u8 op, .int .u32 dir, .string name, .int .u32 ino, .int .u8 kind, .int .u32 dir2, .string name2, .int .u32 old, .int .u32 size, .int .i64 page, .string data]
 refine Calls.mono (OF.out _) ?_
 rintro e w2 ⟨rfl, hb⟩
 have hal2 := (Below.refl _ w2).alloc (Nat.le_refl _) (.cells #[.bool false, .bool false, .bool false, .bool false, .bool false] 84)
 have hz : wz.heap.size < w2.heap.size := by have := hb.size; simp at this; omega
 have X := (X0.later hb).later hal2
 have BB := Lib.hid ((hal.trans (hb.mono (by simp))).trans (hal2.mono (by omega)))
 have A0 := X.cell 0
 have A1 := X.cell 1
 have A2 := X.cell 2
 have A3 := X.cell 3
 have A4 := X.cell 4
 have A5 := X.cell 5
 have A6 := X.cell 6
 have A7 := X.cell 7
 have A8 := X.cell 8
 have A9 := X.cell 9
 have A10 := X.cell 10
 have A11 := X.cell 11
 simp only [List.getElem?_toArray, List.getElem?_cons_zero, List.getElem?_cons_succ] at A0 A1 A2 A3 A4 A5 A6 A7 A8 A9 A10 A11
 have Al := X.lt
 clear X X0 hal hal2 hb hz OF
 rcases (by omega : op < 1 ∨ (¬ op < 1 ∧ 7 < op)) with h1 | ⟨h1, h2⟩
 · have q1 : (op : Int) < 1 := by omega
   go_wp2_with fail
   go_ret
   exact MayAns.no BB.out
 · have q1 : ¬ (op : Int) < 1 := by omega
   have q2 : 7 < (op : Int) := by omega
   go_wp2_with fail
   go_ret
   exact MayAns.no BB.out
theorem rmay_any (r : Rw) (h : r.In) (wz : World) : Calls Tryz.prog 15 #[.agg (rwC r)] wz (MayAns r wz) := by
 obtain ⟨stamp, op, dir, name, ino, kind, dir2, name2, old, size, page, data⟩ := r
 obtain ⟨hs, hn, hn2, _⟩ := h
 by_cases ho : 1 ≤ op ∧ op ≤ 7
 · rcases (by omega : op = 1 ∨ op = 2 ∨ op = 3 ∨ op = 4 ∨ op = 5 ∨ op = 6 ∨ op = 7) with rfl | rfl | rfl | rfl | rfl | rfl | rfl
   · exact rmay_1 stamp dir ino kind dir2 old size name name2 data page hs hn hn2 wz
   · exact rmay_2 stamp dir ino kind dir2 old size name name2 data page hs hn hn2 wz
   · exact rmay_3 stamp dir ino kind dir2 old size name name2 data page hs hn hn2 wz
   · exact rmay_4 stamp dir ino kind dir2 old size name name2 data page hs hn hn2 wz
   · exact rmay_5 stamp dir ino kind dir2 old size name name2 data page hs hn hn2 wz
   · exact rmay_6 stamp dir ino kind dir2 old size name name2 data page hs hn hn2 wz
   · exact rmay_7 stamp dir ino kind dir2 old size name name2 data page hs hn hn2 wz
 · exact rmay_no stamp op dir ino kind dir2 old size name name2 data page ho wz
end Go.Proofs.YtmfhnhnmdeabeaaGreat.Re
end
