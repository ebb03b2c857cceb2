/- The law's alive (layer 32). -/
import Derived.Test.YtmfhnhnmdeabeaaGreatM35
set_option linter.unusedVariables false
set_option linter.unusedSimpArgs false
set_option maxRecDepth 100000
section
namespace Go.Proofs.YtmfhnhnmdeabeaaGreat.Re
open Go.RowKit Go.Shelf Go.Maps Oct Path Tr
variable {E EA EB : TL} {room qA qB : Nat} {S : T}
def rc1 : Rc := ⟨1, 1, 1, [97], 2, 1, 0, [], 0, 0, 0, []⟩
def rc2 : Rc := ⟨2, 1, 1, [98], 3, 1, 0, [], 0, 0, 0, []⟩
def twoR : List Rc := [rc1, rc2]
theorem may_rc1 : May rc1 where
 op := ⟨by decide, by decide⟩
 ino := ⟨by decide, by decide⟩
 ent := fun _ => ⟨by decide, by decide, by decide⟩
 noe := fun h => absurd h (by decide)
 knd := fun _ => .inl rfl
 nok := fun h => absurd h (by decide)
 mov := fun h => absurd h (by decide)
 nom := fun _ => ⟨rfl, rfl, rfl⟩
 siz := fun h => absurd h (by decide)
 nos := fun _ => rfl
 dat := fun h => absurd h (by decide)
 nod := fun _ => ⟨rfl, rfl⟩
 stp := by decide
theorem may_rc2 : May rc2 where
 op := ⟨by decide, by decide⟩
 ino := ⟨by decide, by decide⟩
 ent := fun _ => ⟨by decide, by decide, by decide⟩
 noe := fun h => absurd h (by decide)
 knd := fun _ => .inl rfl
 nok := fun h => absurd h (by decide)
 mov := fun h => absurd h (by decide)
 nom := fun _ => ⟨rfl, rfl, rfl⟩
 siz := fun h => absurd h (by decide)
 nos := fun _ => rfl
 dat := fun h => absurd h (by decide)
 nod := fun _ => ⟨rfl, rfl⟩
 stp := by decide
theorem may_two : ∀ r ∈ twoR, May r := fun r h => by
 simp only [twoR, List.mem_cons, List.not_mem_nil, or_false] at h
 rcases h with rfl | rfl
 · exact may_rc1
 · exact may_rc2
theorem may_one : ∀ r ∈ [rc2], May r := fun r h => by
 simp only [List.mem_cons, List.not_mem_nil, or_false] at h
 rcases h with rfl
 exact may_rc2
theorem tmay_rc1 : Tr.May rc1 := ⟨by decide, by decide, by decide, fun _ => .inl rfl⟩
theorem tmay_rc2 : Tr.May rc2 := ⟨by decide, by decide, by decide, fun _ => .inl rfl⟩
theorem ok_rc2 : Ok 8 rc2 rootT := by
 show (rootT.n 1).kind = 2 ∧ rootT.l 1 [98] = 0 ∧ (rootT.n 3).kind = 0 ∧ 1 ≤ 3 ∧ 3 ≤ 8
 exact ⟨rfl, rfl, rfl, by decide, by decide⟩
theorem ok_rc1 : Ok 8 rc1 rootT := by
 show (rootT.n 1).kind = 2 ∧ rootT.l 1 [97] = 0 ∧ (rootT.n 2).kind = 0 ∧ 1 ≤ 2 ∧ 2 ≤ 8
 exact ⟨rfl, rfl, rfl, by decide, by decide⟩
theorem ok_rc12 : Ok 8 rc2 (next rc1 rootT) := by
 show ((next rc1 rootT).n 1).kind = 2 ∧ (next rc1 rootT).l 1 [98] = 0 ∧ ((next rc1 rootT).n 3).kind = 0 ∧ 1 ≤ 3 ∧ 3 ≤ 8
 exact ⟨rfl, by decide, rfl, by decide, by decide⟩
theorem plays_two : Plays 8 twoR rootT := ⟨tmay_rc1, ok_rc1, tmay_rc2, ok_rc12, trivial⟩
theorem plays_one : Plays 8 [rc2] rootT := ⟨tmay_rc2, ok_rc2, trivial⟩
theorem kept_two : keptL (maskK [2] twoR) = [rc2] := by kernel_rfl
theorem ridT_root : inos (ridT (run [] rootT)) = [1] := by kernel_rfl
theorem ridT_one : inos (ridT (run [rc1] rootT)) = [1, 2] := by kernel_rfl
theorem ridT_two : inos (ridT (run twoR rootT)) = [1, 2, 3] := by kernel_rfl
theorem ridT_b : inos (ridT (run [rc2] rootT)) = [1, 3] := by kernel_rfl
theorem look_b : lookE (ridT (run [rc2] rootT)) 1 [98] = 0 ∧ lookI (ridT (run [rc2] rootT)) 1 [98] = 3 := ⟨by kernel_rfl, by kernel_rfl⟩
theorem look_a : lookE (ridT (run [rc2] rootT)) 1 [97] = 3 := by kernel_rfl
theorem root_ne : inos rootT ≠ inos (ridT (run [rc2] rootT)) := by
 rw [ridT_b]
 decide
theorem two_ne : ∀ i, i < twoR.length → inos (ridT (run (twoR.take i) rootT)) ≠ inos (ridT (run twoR rootT)) := fun i h => by
 rw [ridT_two]
 match i, h with
 | 0, _ => rw [show twoR.take 0 = [] from rfl, ridT_root]; decide
 | 1, _ => rw [show twoR.take 1 = [rc1] from rfl, ridT_one]; decide
 | i + 2, h => exact absurd h (by show ¬ i + 2 < 2; omega)
set_option maxHeartbeats 400000 in
theorem two_ok (wz : World) : Calls Tryz.prog 17 #[] wz fun e w' => e = .returned (.slice (some ⟨wz.heap.size, 0, none⟩) 2 2) ∧ RowR w' wz.heap.size 0 twoR ∧ Below wz.heap.size wz w' := by
 go_enter Tryz.func17, Tryz.ntmps17
 go_wp2_with fail
 go_ret
 refine ⟨rfl, ⟨fun i x hx j c hc => ?_, by simp⟩, (Below.refl _ wz).alloc (Nat.le_refl _) _⟩
 have hi : i < 2 := by have := (List.getElem?_eq_some_iff.1 hx).1; simpa [twoR] using this
 have hj : j < 12 := by have := (Array.getElem?_eq_some_iff.1 hc).1; simpa [recC] using this
 rw [Nat.zero_add]
 have hX := SBox.new wz 39 #[.int .u64 1, .int .u8 1, .int .u32 1, .string ⟨#[97]⟩, .int .u32 2, .int .u8 1, .int .u32 0, .string ⟨#[]⟩, .int .u32 0, .int .u32 0, .int .i64 0, .string ⟨#[]⟩, .int .u64 2, .int .u8 1, .int .u32 1, .string ⟨#[98]⟩, .int .u32 3, .int .u8 1, .int .u32 0, .string ⟨#[]⟩, .int .u32 0, .int .u32 0, .int .i64 0, .string ⟨#[]⟩]
 have key := hX.cell (i * 12 + j)
 rw [key]
 rw [← hc]
 have hx2 : x = (if i = 0 then rc1 else rc2) := by
   match i, hi, hx with
   | 0, _, hx => cases hx; rfl
   | 1, _, hx => cases hx; rfl
 subst hx2
 clear hc hx key hX
 rcases (by omega : i = 0 ∨ i = 1) with rfl | rfl <;>
   rcases (by omega : j = 0 ∨ j = 1 ∨ j = 2 ∨ j = 3 ∨ j = 4 ∨ j = 5 ∨ j = 6 ∨ j = 7 ∨ j = 8 ∨ j = 9 ∨ j = 10 ∨ j = 11) with rfl | rfl | rfl | rfl | rfl | rfl | rfl | rfl | rfl | rfl | rfl | rfl <;> rfl
set_option maxHeartbeats 400000 in
theorem play_none (wz : World) : Calls Tryz.prog 9 #[.pointer none, .slice none 0 0] wz fun e w' => e = .returned (.tuple #[.pointer none, .int .i64 1]) ∧ Below wz.heap.size wz w' := by
 go_enter Tryz.func9, Tryz.ntmps9
 go_wp2_with fail
 go_ret2
 exact ⟨rfl, Below.refl _ _⟩
end Go.Proofs.YtmfhnhnmdeabeaaGreat.Re
end
section
namespace Go.Proofs.YtmfhnhnmdeabeaaGreat.Re
open Go.RowKit Go.Shelf Go.Maps Oct Path Tr
variable {E EA EB : TL} {room qA qB : Nat} {S : T}
set_option maxHeartbeats 800000 in
theorem alive_ok (wz : World) : Calls Tryz.prog 6 #[] wz fun e w' => e = .returned (.bool true) ∧ Below wz.heap.size wz w' := by
 have TW := Lib.hid two_ok
 go_enter Tryz.func6, Tryz.ntmps6
 go_wp2_with fail
 refine Calls.mono (new_any 8 wz (by decide) (by decide)) ?_
 rintro e w1 ⟨E, rfl, hT, hO, hb⟩
 have T1 := Lib.hid hT
 have B1 := Lib.hid hb
 clear hT hO hb
 go_wp2_with fail
 refine Calls.mono (TW.out w1) ?_
 rintro e w2 ⟨rfl, hR, hb⟩
 have B2 := Lib.hid (B1.out.trans (hb.mono B1.out.size))
 have T2 := Lib.hid (T1.out.later hb)
 have hal := (Below.refl _ w2).alloc (Nat.le_refl _) (.cells #[.int .u64 2] 36)
 have X0 := SBox.new w2 36 #[.int .u64 2]
 have hg : w1.heap.size < w2.heap.size := hR.lt
 have K3 : Hid (Calls Tryz.prog 8 #[.slice (some ⟨w1.heap.size, 0, none⟩) 2 2, .slice (some ⟨w2.heap.size, 0, none⟩) 1 1] (w2.alloc (.cells #[.int .u64 2] 36)) _) := Lib.hid (kept_ok twoR may_two (by decide) [2] (by decide) (some ⟨w1.heap.size, 0, none⟩) (some ⟨w2.heap.size, 0, none⟩) w1.heap.size 0 2 1 (by decide) _ (by simp; omega) (fun _ => ⟨rfl, hR.later hal⟩) (fun _ => ⟨w2.heap.size, 0, rfl, by simp, fun j x hj => by
   match j, hj with
   | 0, hj => cases hj; exact X0.cell 0
   | j + 1, hj => cases hj⟩))
 rw [kept_two] at K3
 have B3 := Lib.hid (B2.out.trans (hal.mono B2.out.size))
 have T3 := Lib.hid (T2.out.later hal)
 clear hb hal X0 hg hR T1 B1 B2 T2
 go_wp2_with fail
 refine Calls.mono K3.out ?_
 rintro e w4 ⟨v, rfl, hv, hb⟩
 obtain ⟨p, cap, g, rfl, hcap, hL, hg⟩ := LV.own hv
 have B4 := Lib.hid (B3.out.trans (hb.mono B3.out.size))
 have T4 := Lib.hid (T3.out.later hb)
 have P4 := Lib.hid (durPlay_ok w4 T4.out (by decide) [rc2] plays_one may_one (by decide) p g 0 cap hL)
 clear hb hv hcap hL hg B3 T3 K3
 go_wp2_with fail
 refine Calls.mono P4.out ?_
 rintro e w5 ⟨E1, q1, rfl, hT, _, hb⟩
 have B5 := Lib.hid (B4.out.trans (hb.mono B4.out.size))
 have T5 := Lib.hid (T4.out.later hb)
 have U5 := Lib.hid hT
 clear hb hT B4 T4 P4
 go_wp2_with fail
 refine Calls.mono (TW.out w5) ?_
 rintro e w6 ⟨rfl, hR, hb⟩
 have B6 := Lib.hid (B5.out.trans (hb.mono B5.out.size))
 have T6 := Lib.hid (T5.out.later hb)
 have U6 := Lib.hid (U5.out.later hb)
 have P6 : Hid (Calls Tryz.prog 9 #[.pointer (some ⟨E.t, 0, none⟩), .slice (some ⟨w5.heap.size, 0, none⟩) 2 2] w6 _) := Lib.hid (durPlay_ok w6 T6.out (by decide) twoR plays_two may_two (by decide) (some ⟨w5.heap.size, 0, none⟩) w5.heap.size 0 2 (fun _ => ⟨rfl, hR⟩))
 clear hb hR B5 T5 U5
 go_wp2_with fail
 refine Calls.mono P6.out ?_
 rintro e w7 ⟨E2, q2, rfl, hT, _, hb⟩
 have B7 := Lib.hid (B6.out.trans (hb.mono B6.out.size))
 have T7 := Lib.hid (T6.out.later hb)
 have U7 := Lib.hid (U6.out.later hb)
 have V7 := Lib.hid hT
 have L7 := Lib.hid (look_any 1 ⟨#[98]⟩ w7 U7.out (by decide) (by decide))
 rw [show L (⟨#[98]⟩ : ByteArray) = [98] from rfl, look_b.1, look_b.2] at L7
 clear hb hT B6 T6 U6 P6
 go_wp2_with fail
 refine Calls.mono L7.out ?_
 rintro e w8 ⟨rfl, hb⟩
 have B8 := Lib.hid (B7.out.trans (hb.mono B7.out.size))
 have T8 := Lib.hid (T7.out.later hb)
 have U8 := Lib.hid (U7.out.later hb)
 have V8 := Lib.hid (V7.out.later hb)
 have L8 := Lib.hid (look_any 1 ⟨#[97]⟩ w8 U8.out (by decide) (by decide))
 rw [show L (⟨#[97]⟩ : ByteArray) = [97] from rfl, look_a] at L8
 clear hb B7 T7 U7 V7 L7
 go_wp2_with fail
 refine Calls.mono L8.out ?_
 rintro e w9 ⟨rfl, hb⟩
 have B9 := Lib.hid (B8.out.trans (hb.mono B8.out.size))
 have T9 := Lib.hid (T8.out.later hb)
 have U9 := Lib.hid (U8.out.later hb)
 have V9 := Lib.hid (V8.out.later hb)
 clear hb B8 T8 U8 V8 L8
 go_wp2_with fail
 refine Calls.mono (TW.out w9) ?_
 rintro e w10 ⟨rfl, hR, hb⟩
 have B10 := Lib.hid (B9.out.trans (hb.mono B9.out.size))
 have T10 := Lib.hid (T9.out.later hb)
 have U10 := Lib.hid (U9.out.later hb)
 have V10 := Lib.hid (V9.out.later hb)
 have P10 : Hid (Calls Tryz.prog 19 #[.pointer (some ⟨E.t, 0, none⟩), .pointer (some ⟨E2.t, 0, none⟩), .slice (some ⟨w9.heap.size, 0, none⟩) 2 2] w10 fun e w' => e = .returned (.tuple #[.int .i64 2, .bool true]) ∧ Below w10.heap.size w10 w') := Lib.hid (prefix_ok w10 T10.out (by decide) twoR plays_two may_two (by decide) w9.heap.size 0 2 (by decide) hR V10.out two_ne)
 clear hb hR B9 T9 U9 V9
 go_wp2_with fail
 refine Calls.mono P10.out ?_
 rintro e w11 ⟨rfl, hb⟩
 have B11 := Lib.hid (B10.out.trans (hb.mono B10.out.size))
 have T11 := Lib.hid (T10.out.later hb)
 have U11 := Lib.hid (U10.out.later hb)
 clear hb B10 T10 U10 V10 P10
 go_wp2_with fail
 refine Calls.mono (play_none w11) ?_
 rintro e w12 ⟨rfl, hb⟩
 have B12 := Lib.hid (B11.out.trans (hb.mono B11.out.size))
 have T12 := Lib.hid (T11.out.later hb)
 have U12 := Lib.hid (U11.out.later hb)
 clear hb B11 T11 U11
 go_wp2_with fail
 refine Calls.mono (TW.out w12) ?_
 rintro e w13 ⟨rfl, hR, hb⟩
 have B13 := Lib.hid (B12.out.trans (hb.mono B12.out.size))
 have T13 := Lib.hid (T12.out.later hb)
 have U13 := Lib.hid (U12.out.later hb)
 have hal := (Below.refl _ w13).alloc (Nat.le_refl _) (.cells #[.int .u64 2] 36)
 have X0 := SBox.new w13 36 #[.int .u64 2]
 have hg : w12.heap.size < w13.heap.size := hR.lt
 have B14 := Lib.hid (B13.out.trans (hal.mono B13.out.size))
 have T14 := Lib.hid (T13.out.later hal)
 have U14 := Lib.hid (U13.out.later hal)
 have X14 : Hid (Calls Tryz.prog 12 #[.pointer (some ⟨E.t, 0, none⟩), .pointer (some ⟨E1.t, 0, none⟩), .slice (some ⟨w12.heap.size, 0, none⟩) 2 2, .slice (some ⟨w13.heap.size, 0, none⟩) 1 1] (w13.alloc (.cells #[.int .u64 2] 36)) _) := Lib.hid (explains_ok _ T14.out (by decide) twoR plays_two may_two (by decide) [2] (by decide) (some ⟨w12.heap.size, 0, none⟩) (some ⟨w13.heap.size, 0, none⟩) w12.heap.size 0 2 1 (by decide) (by simp; omega) (fun _ => ⟨rfl, hR.later hal⟩) (fun _ => ⟨w13.heap.size, 0, rfl, by simp, fun j x hj => by
   match j, hj with
   | 0, hj => cases hj; exact X0.cell 0
   | j + 1, hj => cases hj⟩) (by rw [kept_two]; exact U14.out))
 clear hb hal X0 hg hR B12 T12 U12 B13 T13 U13
 go_wp2_with fail
 refine Calls.mono X14.out ?_
 rintro e w15 ⟨rfl, hb⟩
 have B15 := Lib.hid (B14.out.trans (hb.mono B14.out.size))
 have T15 := Lib.hid (T14.out.later hb)
 have U15 := Lib.hid (U14.out.later hb)
 have A15 := Lib.hid (alike_ne w15 T15.out U15.out (inv_root (by decide)) (inv_dropAll (inv_run (inv_root (by decide)) plays_one) _) root_ne)
 clear hb B14 T14 U14 X14
 go_wp2_with fail
 refine Calls.mono A15.out ?_
 rintro e w16 ⟨rfl, hb⟩
 have B16 := Lib.hid (B15.out.trans (hb.mono B15.out.size))
 clear hb
 go_wp2_with fail
 go_ret
 exact ⟨rfl, B16.out⟩
end Go.Proofs.YtmfhnhnmdeabeaaGreat.Re
end
