/- The reference of layer 22: May: of op 2. -/
import Derived.Test.YtmfhnhnmdeabeaaGreatM26
set_option linter.unusedVariables false
set_option linter.unusedSimpArgs false
set_option maxRecDepth 100000
section
namespace Go.Proofs.YtmfhnhnmdeabeaaGreat.Re
open Go.RowKit Go.Shelf Go.Maps Oct Path Tr
set_option maxHeartbeats 1600000 in
theorem rmay_2 (stamp dir ino kind dir2 old size : Nat) (name name2 data : ByteArray) (page : Int) (hs : stamp < 18446744073709551616) (hn : name.size ≤ maxLen) (hn2 : name2.size ≤ maxLen) (wz : World) :
   Calls Tryz.prog 15 #[.agg (rwC ⟨stamp, 2, dir, name, ino, kind, dir2, name2, old, size, page, data⟩)] wz (MayAns ⟨stamp, 2, dir, name, ino, kind, dir2, name2, old, size, page, data⟩ wz) := by
 have OF : Hid (∀ w : World, Calls Tryz.prog 34 #[.int .u8 2] w fun e w' => e = .returned (.agg #[.bool true, .bool false, .bool false, .bool false, .bool false]) ∧ Below w.heap.size w w') := Lib.hid (fun w => of_ok 2 (by decide) w)
 have IN := Lib.hid rino_ok
 have NM := Lib.hid rname_any
 have hS := Lib.hid hs
 clear hs
 unfold rwC
 go_enter Tryz.func15, Tryz.ntmps15
 go_wp2_with fail
 have hal := (Below.refl _ wz).alloc (Nat.le_refl _) (.cells #[.int .u64 stamp, .int .u8 2, .int .u32 dir, .string name, .int .u32 ino, .int .u8 kind, .int .u32 dir2, .string name2, .int .u32 old, .int .u32 size, .int .i64 page, .string data] 39)
 have X0 := SBox.new wz 39 #[.int .u64 stamp, .int .u8 2, .int .u32 dir, .string name, .int .u32 ino, .int .u8 kind, .int .u32 dir2, .string name2, .int .u32 old, .int .u32 size, .int .i64 page, .string data]
 refine Calls.mono (OF.out _) ?_
 rintro e w2 ⟨rfl, hb⟩
 have hal2 := (Below.refl _ w2).alloc (Nat.le_refl _) (.cells #[.bool true, .bool false, .bool false, .bool false, .bool false] 84)
 have Y := SBox.new w2 84 #[.bool true, .bool false, .bool false, .bool false, .bool false]
 have hz : wz.heap.size < w2.heap.size := by have := hb.size; simp at this; omega
 have X := (X0.later hb).later hal2
 have BB := Lib.hid ((hal.trans (hb.mono (by simp))).trans (hal2.mono (by omega)))
 have A0 := X.cell 0
 have A1 := X.cell 1
 have A2 := X.cell 2
 have A3 := X.cell 3
 have A4 := X.cell 4
 have A5 := X.cell 5
 have A6 := X.cell 6
 have A7 := X.cell 7
 have A8 := X.cell 8
 have A9 := X.cell 9
 have A10 := X.cell 10
 have A11 := X.cell 11
 simp only [List.getElem?_toArray, List.getElem?_cons_zero, List.getElem?_cons_succ] at A0 A1 A2 A3 A4 A5 A6 A7 A8 A9 A10 A11
 have Al := X.lt
 have N0 := Y.cell 0
 have N1 := Y.cell 1
 have N2 := Y.cell 2
 have N3 := Y.cell 3
 have N4 := Y.cell 4
 simp only [List.getElem?_toArray, List.getElem?_cons_zero, List.getElem?_cons_succ] at N0 N1 N2 N3 N4
 have Nl := Y.lt
 clear X Y X0 hal hal2 hb hz OF
 go_wp2_with fail
 refine Calls.mono (IN.out ino _) ?_
 rintro e w3 ⟨rfl, rfl⟩
 by_cases hi : (decide (1 ≤ ino) && decide (ino ≤ 256)) = true
 case neg =>
   rw [Bool.not_eq_true] at hi
   rw [hi]
   go_wp2_with fail
   go_ret
   exact MayAns.no BB.out
 rw [hi]
 simp only [Bool.and_eq_true, decide_eq_true_eq] at hi
 have Hhi := Lib.hid hi
 clear hi
 go_wp2_with fail
 refine Calls.mono (IN.out dir _) ?_
 rintro e w3 ⟨rfl, rfl⟩
 by_cases hd : (decide (1 ≤ dir) && decide (dir ≤ 256)) = true
 case neg =>
   rw [Bool.not_eq_true] at hd
   rw [hd]
   go_wp2_with fail
   go_ret
   exact MayAns.no BB.out
 rw [hd]
 simp only [Bool.and_eq_true, decide_eq_true_eq] at hd
 have Hhd := Lib.hid hd
 clear hd
 go_wp2_with fail
 refine Calls.mono (NM.out name _ hn) ?_
 rintro e w3 ⟨rfl, rfl⟩
 by_cases hm : isName (L name) = true
 case neg =>
   rw [Bool.not_eq_true] at hm
   rw [hm]
   go_wp2_with fail
   go_ret
   exact MayAns.no BB.out
 rw [hm]
 have Hhm := Lib.hid hm
 clear hm
 by_cases hk : kind = 0
 case neg =>
   have q : ¬ (kind : Int) = 0 := by omega
   go_wp2_with fail
   go_ret
   exact MayAns.no BB.out
 subst hk
 by_cases hd2 : dir2 = 0
 case neg =>
   have q : ¬ (dir2 : Int) = 0 := by omega
   go_wp2_with fail
   go_ret
   exact MayAns.no BB.out
 subst hd2
 by_cases hm2 : name2 = ⟨#[]⟩
 case neg =>
   have q : name2.toList.isEmpty = false := by rw [toList_L, List.isEmpty_eq_false_iff]; exact fun e => hm2 (L_inj e)
   go_wp2_with fail
   go_ret
   exact MayAns.no BB.out
 subst hm2
 by_cases ho : old = 0
 case neg =>
   have q : ¬ (old : Int) = 0 := by omega
   go_wp2_with fail
   go_ret
   exact MayAns.no BB.out
 subst ho
 by_cases hz : size = 0
 case neg =>
   have q : ¬ (size : Int) = 0 := by omega
   go_wp2_with fail
   go_ret
   exact MayAns.no BB.out
 subst hz
 by_cases hp : page = 0
 case neg =>
   go_wp2_with fail
   go_ret
   exact MayAns.no BB.out
 subst hp
 by_cases hdl : data = ⟨#[]⟩
 case neg =>
   have q : data.toList.isEmpty = false := by rw [toList_L, List.isEmpty_eq_false_iff]; exact fun e => hdl (L_inj e)
   go_wp2_with fail
   go_ret
   exact MayAns.no BB.out
 subst hdl
 go_wp2_with fail
 go_ret
 refine MayAns.yes ?ka ?kb BB.out
 case kb => exact Int.le_refl 0
 exact {
   op := ⟨by show 1 ≤ 2; decide, by show 2 ≤ 7; decide⟩
   ino := Hhi.out
   ent := fun _ => ⟨Hhd.out.1, Hhd.out.2, Hhm.out⟩
   noe := fun h => absurd (show kEnt 2 = false from h) (by decide)
   knd := fun h => absurd (show kKnd 2 = true from h) (by decide)
   nok := fun _ => rfl
   mov := fun h => absurd (show kMov 2 = true from h) (by decide)
   nom := fun _ => ⟨rfl, rfl, rfl⟩
   siz := fun h => absurd (show kSiz 2 = true from h) (by decide)
   nos := fun _ => rfl
   dat := fun h => absurd (show kDat 2 = true from h) (by decide)
   nod := fun _ => ⟨rfl, rfl⟩
   stp := hS.out }
end Go.Proofs.YtmfhnhnmdeabeaaGreat.Re
end
