/- Layer 37 (text): head. -/
import Derived.Test.YtkljcgopikdjjaaGreatDoorM07
import Derived.Test.YtkljcgopikdjjaaGreatDoorM09
set_option linter.unusedVariables false
set_option linter.unusedSimpArgs false
set_option maxRecDepth 100000
section
namespace Go.Proofs.YtkljcgopikdjjaaGreatDoor.Tx
set_option maxRecDepth 100000
set_option maxHeartbeats 1000000
open Go.RowKit Go.Shelf Go.Maps Oct
def headN : Array Value := #[.string ⟨#[105, 110, 111, 100, 101, 115, 61]⟩, .string ⟨#[98, 108, 111, 99, 107, 115, 61]⟩, .string ⟨#[106, 111, 117, 114, 110, 97, 108, 61]⟩, .string ⟨#[99, 111, 114, 101, 115, 61]⟩, .string ⟨#[108, 111, 103, 61]⟩, .string ⟨#[116, 114, 105, 101, 115, 61]⟩]
def headA (b : Nat) : Array Value := #[.pointer (some ⟨b, 0, none⟩), .pointer (some ⟨b, 1, none⟩), .pointer (some ⟨b, 2, none⟩), .pointer (some ⟨b, 3, none⟩), .pointer (some ⟨b, 4, none⟩), .pointer (some ⟨b, 5, none⟩)]
theorem head_any (b : Nat) (wz : World) : Calls Tryz.prog 27 #[.pointer (some ⟨b, 0, none⟩)] wz fun e w' => ∃ r q, e = .returned (.tuple #[.slice (some ⟨r, 0, none⟩) 6 6, .slice (some ⟨q, 0, none⟩) 6 6]) ∧ SBox w' r 9 headN ∧ SBox w' q 69 (headA b) ∧ Below wz.heap.size wz w' := by
 go_enter Tryz.func27, Tryz.ntmps27
 go_wp2_with fail;refine wp_region_phi3 (by kernel_rfl) (fun | 0 => some 4 | 1 => some 5 | 2 => some 6 | 3 => some 7 | 4 => some 8 | 5 => some 9 | 6 => some 10 | 7 => some 11 | 8 => some 12 | 9 => some 13 | 10 => some 14 | 11 => some 15 | 12 => some 16 | 13 => some 17 | 14 => some 18 | 15 => some 19 | 16 => some 20 | 17 => some 21 | 18 => some 22 | 19 => some 23 | 20 => some 24 | 21 => some 25 | 22 => some 26 | 23 => some 27 | 24 => some 28 | 25 => some 29 | 26 => some 2 | 27 => some 3 | _ => none) (fun a => ∃ x2 x3 x4 x5 x6 x7 x8 x9 x10 x11 x12 x13 x14 x15 x16 x17 x18 x19 x20 x21 x22 x23 x24 x25 x26 x27 x28 x29 : Value, a = ⟨#[.pointer (some ⟨b, 0, none⟩), undef, x2, x3, x4, x5, x6, x7, x8, x9, x10, x11, x12, x13, x14, x15, x16, x17, x18, x19, x20, x21, x22, x23, x24, x25, x26, x27, x28, x29], []⟩) (fun lst W' => Below wz.heap.size wz W') (fun _ w w' => Below w.heap.size w w') (fun | 0 => (fun f w => ∃ r : Nat, f 0 = Value.slice (some ⟨r, 0, none⟩) 6 6 ∧ SBox w r 9 headN) | 1 => (fun f w => f 1 = Value.pointer (some ⟨b, 0, none⟩)) | 2 => (fun f w => f 2 = Value.pointer (some ⟨b, 0, none⟩)) | 3 => (fun f w => f 3 = Value.pointer (some ⟨b, 0, none⟩)) | 4 => (fun f w => f 4 = Value.pointer (some ⟨b, 0, none⟩)) | 5 => (fun f w => f 5 = Value.pointer (some ⟨b, 0, none⟩)) | 6 => (fun f w => f 6 = Value.pointer (some ⟨b, 0, none⟩)) | 7 => (fun f w => f 7 = Value.pointer (some ⟨b, 0, none⟩)) | 8 => (fun f w => f 8 = Value.pointer (some ⟨b, 1, none⟩)) | 9 => (fun f w => f 9 = Value.pointer (some ⟨b, 0, none⟩)) | 10 => (fun f w => f 10 = Value.pointer (some ⟨b, 0, none⟩)) | 11 => (fun f w => f 11 = Value.pointer (some ⟨b, 0, none⟩)) | 12 => (fun f w => f 12 = Value.pointer (some ⟨b, 2, none⟩)) | 13 => (fun f w => f 13 = Value.pointer (some ⟨b, 0, none⟩)) | 14 => (fun f w => f 14 = Value.pointer (some ⟨b, 0, none⟩)) | 15 => (fun f w => f 15 = Value.pointer (some ⟨b, 3, none⟩)) | 16 => (fun f w => f 16 = Value.pointer (some ⟨b, 3, none⟩)) | 17 => (fun f w => f 17 = Value.pointer (some ⟨b, 0, none⟩)) | 18 => (fun f w => f 18 = Value.pointer (some ⟨b, 0, none⟩)) | 19 => (fun f w => f 19 = Value.pointer (some ⟨b, 3, none⟩)) | 20 => (fun f w => f 20 = Value.pointer (some ⟨b, 4, none⟩)) | 21 => (fun f w => f 21 = Value.pointer (some ⟨b, 0, none⟩)) | 22 => (fun f w => f 22 = Value.pointer (some ⟨b, 0, none⟩)) | 23 => (fun f w => f 23 = Value.pointer (some ⟨b, 3, none⟩)) | 24 => (fun f w => f 24 = Value.pointer (some ⟨b, 5, none⟩)) | 25 => (fun f w => ∃ r : Nat, f 25 = Value.slice (some ⟨r, 0, none⟩) 6 6 ∧ SBox w r 69 (headA b)) | 26 => (fun f w => ∃ r : Nat, f 26 = Value.slice (some ⟨r, 0, none⟩) 6 6 ∧ SBox w r 9 headN) | 27 => (fun f w => ∃ r : Nat, f 27 = Value.slice (some ⟨r, 0, none⟩) 6 6 ∧ SBox w r 69 (headA b)) | _ => (fun _ _ => True)) (by kernel_rfl) ?stb ?dep (by kernel_rfl) ?AA ⟨_, _, _, _, _, _, _, _, _, _, _, _, _, _, _, _, _, _, _, _, _, _, _, _, _, _, _, _, rfl⟩ ?G0 ?step ?done
 case stb =>
   intro i j v w1 w2 hi hj hij hw hp hs;have hi : i < 28 := hi
   match j, hp with
   | 0, hp =>
     obtain ⟨r, h1, h2⟩ := hp;exact ⟨r, h1, h2.later hs⟩
   | 1, hp | 2, hp | 3, hp | 4, hp | 5, hp | 6, hp | 7, hp | 8, hp | 9, hp | 10, hp | 11, hp | 12, hp | 13, hp | 14, hp | 15, hp | 16, hp | 17, hp | 18, hp | 19, hp | 20, hp | 21, hp | 22, hp | 23, hp | 24, hp => exact hp
   | 25, hp =>
     obtain ⟨r, h1, h2⟩ := hp;exact ⟨r, h1, h2.later hs⟩
   | 26, hp =>
     obtain ⟨r, h1, h2⟩ := hp;exact ⟨r, h1, h2.later hs⟩
   | 27, hp =>
     obtain ⟨r, h1, h2⟩ := hp;exact ⟨r, h1, h2.later hs⟩
   | j + 28, _ => exact trivial
 case dep =>
   intro j f g w hj hfg hp;have hj : j < 28 := hj
   match j, hp, hfg with
   | 0, hp, hfg =>
     have hq : ∃ r : Nat, f 0 = Value.slice (some ⟨r, 0, none⟩) 6 6 ∧ SBox w r 9 headN := hp;rw [hfg 0 (by show 0 < 28; decide) (by first | exact .inl rfl | exact .inr (by kernel_rfl))] at hq;exact hq
   | 1, hp, hfg =>
     have hq : f 1 = Value.pointer (some ⟨b, 0, none⟩) := hp;rw [hfg 1 (by show 1 < 28; decide) (by first | exact .inl rfl | exact .inr (by kernel_rfl))] at hq;exact hq
   | 2, hp, hfg =>
     have hq : f 2 = Value.pointer (some ⟨b, 0, none⟩) := hp;rw [hfg 2 (by show 2 < 28; decide) (by first | exact .inl rfl | exact .inr (by kernel_rfl))] at hq;exact hq
   | 3, hp, hfg =>
     have hq : f 3 = Value.pointer (some ⟨b, 0, none⟩) := hp;rw [hfg 3 (by show 3 < 28; decide) (by first | exact .inl rfl | exact .inr (by kernel_rfl))] at hq;exact hq
   | 4, hp, hfg =>
     have hq : f 4 = Value.pointer (some ⟨b, 0, none⟩) := hp;rw [hfg 4 (by show 4 < 28; decide) (by first | exact .inl rfl | exact .inr (by kernel_rfl))] at hq;exact hq
   | 5, hp, hfg =>
     have hq : f 5 = Value.pointer (some ⟨b, 0, none⟩) := hp;rw [hfg 5 (by show 5 < 28; decide) (by first | exact .inl rfl | exact .inr (by kernel_rfl))] at hq;exact hq
   | 6, hp, hfg =>
     have hq : f 6 = Value.pointer (some ⟨b, 0, none⟩) := hp;rw [hfg 6 (by show 6 < 28; decide) (by first | exact .inl rfl | exact .inr (by kernel_rfl))] at hq;exact hq
   | 7, hp, hfg =>
     have hq : f 7 = Value.pointer (some ⟨b, 0, none⟩) := hp;rw [hfg 7 (by show 7 < 28; decide) (by first | exact .inl rfl | exact .inr (by kernel_rfl))] at hq;exact hq
   | 8, hp, hfg =>
     have hq : f 8 = Value.pointer (some ⟨b, 1, none⟩) := hp;rw [hfg 8 (by show 8 < 28; decide) (by first | exact .inl rfl | exact .inr (by kernel_rfl))] at hq;exact hq
   | 9, hp, hfg =>
     have hq : f 9 = Value.pointer (some ⟨b, 0, none⟩) := hp;rw [hfg 9 (by show 9 < 28; decide) (by first | exact .inl rfl | exact .inr (by kernel_rfl))] at hq;exact hq
   | 10, hp, hfg =>
     have hq : f 10 = Value.pointer (some ⟨b, 0, none⟩) := hp;rw [hfg 10 (by show 10 < 28; decide) (by first | exact .inl rfl | exact .inr (by kernel_rfl))] at hq;exact hq
   | 11, hp, hfg =>
     have hq : f 11 = Value.pointer (some ⟨b, 0, none⟩) := hp;rw [hfg 11 (by show 11 < 28; decide) (by first | exact .inl rfl | exact .inr (by kernel_rfl))] at hq;exact hq
   | 12, hp, hfg =>
     have hq : f 12 = Value.pointer (some ⟨b, 2, none⟩) := hp;rw [hfg 12 (by show 12 < 28; decide) (by first | exact .inl rfl | exact .inr (by kernel_rfl))] at hq;exact hq
   | 13, hp, hfg =>
     have hq : f 13 = Value.pointer (some ⟨b, 0, none⟩) := hp;rw [hfg 13 (by show 13 < 28; decide) (by first | exact .inl rfl | exact .inr (by kernel_rfl))] at hq;exact hq
   | 14, hp, hfg =>
     have hq : f 14 = Value.pointer (some ⟨b, 0, none⟩) := hp;rw [hfg 14 (by show 14 < 28; decide) (by first | exact .inl rfl | exact .inr (by kernel_rfl))] at hq;exact hq
   | 15, hp, hfg =>
     have hq : f 15 = Value.pointer (some ⟨b, 3, none⟩) := hp;rw [hfg 15 (by show 15 < 28; decide) (by first | exact .inl rfl | exact .inr (by kernel_rfl))] at hq;exact hq
   | 16, hp, hfg =>
     have hq : f 16 = Value.pointer (some ⟨b, 3, none⟩) := hp;rw [hfg 16 (by show 16 < 28; decide) (by first | exact .inl rfl | exact .inr (by kernel_rfl))] at hq;exact hq
   | 17, hp, hfg =>
     have hq : f 17 = Value.pointer (some ⟨b, 0, none⟩) := hp;rw [hfg 17 (by show 17 < 28; decide) (by first | exact .inl rfl | exact .inr (by kernel_rfl))] at hq;exact hq
   | 18, hp, hfg =>
     have hq : f 18 = Value.pointer (some ⟨b, 0, none⟩) := hp;rw [hfg 18 (by show 18 < 28; decide) (by first | exact .inl rfl | exact .inr (by kernel_rfl))] at hq;exact hq
   | 19, hp, hfg =>
     have hq : f 19 = Value.pointer (some ⟨b, 3, none⟩) := hp;rw [hfg 19 (by show 19 < 28; decide) (by first | exact .inl rfl | exact .inr (by kernel_rfl))] at hq;exact hq
   | 20, hp, hfg =>
     have hq : f 20 = Value.pointer (some ⟨b, 4, none⟩) := hp;rw [hfg 20 (by show 20 < 28; decide) (by first | exact .inl rfl | exact .inr (by kernel_rfl))] at hq;exact hq
   | 21, hp, hfg =>
     have hq : f 21 = Value.pointer (some ⟨b, 0, none⟩) := hp;rw [hfg 21 (by show 21 < 28; decide) (by first | exact .inl rfl | exact .inr (by kernel_rfl))] at hq;exact hq
   | 22, hp, hfg =>
     have hq : f 22 = Value.pointer (some ⟨b, 0, none⟩) := hp;rw [hfg 22 (by show 22 < 28; decide) (by first | exact .inl rfl | exact .inr (by kernel_rfl))] at hq;exact hq
   | 23, hp, hfg =>
     have hq : f 23 = Value.pointer (some ⟨b, 3, none⟩) := hp;rw [hfg 23 (by show 23 < 28; decide) (by first | exact .inl rfl | exact .inr (by kernel_rfl))] at hq;exact hq
   | 24, hp, hfg =>
     have hq : f 24 = Value.pointer (some ⟨b, 5, none⟩) := hp;rw [hfg 24 (by show 24 < 28; decide) (by first | exact .inl rfl | exact .inr (by kernel_rfl))] at hq;exact hq
   | 25, hp, hfg =>
     have hq : ∃ r : Nat, f 25 = Value.slice (some ⟨r, 0, none⟩) 6 6 ∧ SBox w r 69 (headA b) := hp;rw [hfg 25 (by show 25 < 28; decide) (by first | exact .inl rfl | exact .inr (by kernel_rfl))] at hq;exact hq
   | 26, hp, hfg =>
     have hq : ∃ r : Nat, f 26 = Value.slice (some ⟨r, 0, none⟩) 6 6 ∧ SBox w r 9 headN := hp;rw [hfg 26 (by show 26 < 28; decide) (by first | exact .inl rfl | exact .inr (by kernel_rfl))] at hq;exact hq
   | 27, hp, hfg =>
     have hq : ∃ r : Nat, f 27 = Value.slice (some ⟨r, 0, none⟩) 6 6 ∧ SBox w r 69 (headA b) := hp;rw [hfg 27 (by show 27 < 28; decide) (by first | exact .inl rfl | exact .inr (by kernel_rfl))] at hq;exact hq
   | j + 28, _, _ => exact trivial
 case AA =>
   rintro i a v hi ⟨_, _, _, _, _, _, _, _, _, _, _, _, _, _, _, _, _, _, _, _, _, _, _, _, _, _, _, _, rfl⟩
   match i, hi with
   | 0, _ | 1, _ | 2, _ | 3, _ | 4, _ | 5, _ | 6, _ | 7, _ | 8, _ | 9, _ | 10, _ | 11, _ | 12, _ | 13, _ | 14, _ | 15, _ | 16, _ | 17, _ | 18, _ | 19, _ | 20, _ | 21, _ | 22, _ | 23, _ | 24, _ | 25, _ | 26, _ | 27, _ => exact ⟨⟨_, _, _, _, _, _, _, _, _, _, _, _, _, _, _, _, _, _, _, _, _, _, _, _, _, _, _, _, rfl⟩, fun t h => by cases h <;> exact of_decide_eq_true rfl⟩
   | i + 28, hi => exact absurd hi (by simp)
 case G0 => exact (Below.refl _ _).drew
 case step =>
   rintro i a w1 lst hi ⟨x2, x3, x4, x5, x6, x7, x8, x9, x10, x11, x12, x13, x14, x15, x16, x17, x18, x19, x20, x21, x22, x23, x24, x25, x26, x27, x28, x29, rfl⟩ hl hcl hG hp;refine wpOp_via (fun K hK => ?_)
   match i, hi with
   | 0, _ =>
     have hb := hG;refine wpOp_at (by rfl) rfl ?_;go_simp;have h3 := (Below.refl w1.heap.size w1).alloc (Nat.le_refl _) (.cells headN 9);have h4 := SBox.new w1 9 headN;exact hK _ _ ⟨_, rfl, hb.trans (h3.mono hb.size), h3, _, rfl, h4⟩
   | 1, _ =>
     have hb := hG;refine wpOp_at (by rfl) rfl ?_;go_simp;exact hK _ _ ⟨_, rfl, hb, Below.refl _ _, rfl⟩
   | 2, _ =>
     have hb := hG;obtain rfl : x5 = _ := hp 1 (by kernel_rfl);refine wpOp_at (by rfl) rfl ?_;go_simp;exact hK _ _ ⟨_, rfl, hb, Below.refl _ _, rfl⟩
   | 3, _ =>
     have hb := hG;obtain rfl : x6 = _ := hp 2 (by kernel_rfl);refine wpOp_at (by rfl) rfl ?_;go_simp;exact hK _ _ ⟨_, rfl, hb, Below.refl _ _, rfl⟩
   | 4, _ =>
     have hb := hG;obtain rfl : x7 = _ := hp 3 (by kernel_rfl);refine wpOp_at (by rfl) rfl ?_;go_simp;exact hK _ _ ⟨_, rfl, hb, Below.refl _ _, rfl⟩
   | 5, _ =>
     have hb := hG;refine wpOp_at (by rfl) rfl ?_;go_simp;exact hK _ _ ⟨_, rfl, hb, Below.refl _ _, rfl⟩
   | 6, _ =>
     have hb := hG;obtain rfl : x9 = _ := hp 5 (by kernel_rfl);refine wpOp_at (by rfl) rfl ?_;go_simp;exact hK _ _ ⟨_, rfl, hb, Below.refl _ _, rfl⟩
   | 7, _ =>
     have hb := hG;obtain rfl : x10 = _ := hp 6 (by kernel_rfl);refine wpOp_at (by rfl) rfl ?_;go_simp;exact hK _ _ ⟨_, rfl, hb, Below.refl _ _, rfl⟩
   | 8, _ =>
     have hb := hG;obtain rfl : x11 = _ := hp 7 (by kernel_rfl);refine wpOp_at (by rfl) rfl ?_;go_simp;exact hK _ _ ⟨_, rfl, hb, Below.refl _ _, rfl⟩
   | 9, _ =>
     have hb := hG;refine wpOp_at (by rfl) rfl ?_;go_simp;exact hK _ _ ⟨_, rfl, hb, Below.refl _ _, rfl⟩
   | 10, _ =>
     have hb := hG;obtain rfl : x13 = _ := hp 9 (by kernel_rfl);refine wpOp_at (by rfl) rfl ?_;go_simp;exact hK _ _ ⟨_, rfl, hb, Below.refl _ _, rfl⟩
   | 11, _ =>
     have hb := hG;obtain rfl : x14 = _ := hp 10 (by kernel_rfl);refine wpOp_at (by rfl) rfl ?_;go_simp;exact hK _ _ ⟨_, rfl, hb, Below.refl _ _, rfl⟩
   | 12, _ =>
     have hb := hG;obtain rfl : x15 = _ := hp 11 (by kernel_rfl);refine wpOp_at (by rfl) rfl ?_;go_simp;exact hK _ _ ⟨_, rfl, hb, Below.refl _ _, rfl⟩
   | 13, _ =>
     have hb := hG;refine wpOp_at (by rfl) rfl ?_;go_simp;exact hK _ _ ⟨_, rfl, hb, Below.refl _ _, rfl⟩
   | 14, _ =>
     have hb := hG;obtain rfl : x17 = _ := hp 13 (by kernel_rfl);refine wpOp_at (by rfl) rfl ?_;go_simp;exact hK _ _ ⟨_, rfl, hb, Below.refl _ _, rfl⟩
   | 15, _ =>
     have hb := hG;obtain rfl : x18 = _ := hp 14 (by kernel_rfl);refine wpOp_at (by rfl) rfl ?_;go_simp;exact hK _ _ ⟨_, rfl, hb, Below.refl _ _, rfl⟩
   | 16, _ =>
     have hb := hG;obtain rfl : x19 = _ := hp 15 (by kernel_rfl);refine wpOp_at (by rfl) rfl ?_;go_simp;exact hK _ _ ⟨_, rfl, hb, Below.refl _ _, rfl⟩
   | 17, _ =>
     have hb := hG;refine wpOp_at (by rfl) rfl ?_;go_simp;exact hK _ _ ⟨_, rfl, hb, Below.refl _ _, rfl⟩
   | 18, _ =>
     have hb := hG;obtain rfl : x21 = _ := hp 17 (by kernel_rfl);refine wpOp_at (by rfl) rfl ?_;go_simp;exact hK _ _ ⟨_, rfl, hb, Below.refl _ _, rfl⟩
   | 19, _ =>
     have hb := hG;obtain rfl : x22 = _ := hp 18 (by kernel_rfl);refine wpOp_at (by rfl) rfl ?_;go_simp;exact hK _ _ ⟨_, rfl, hb, Below.refl _ _, rfl⟩
   | 20, _ =>
     have hb := hG;obtain rfl : x23 = _ := hp 19 (by kernel_rfl);refine wpOp_at (by rfl) rfl ?_;go_simp;exact hK _ _ ⟨_, rfl, hb, Below.refl _ _, rfl⟩
   | 21, _ =>
     have hb := hG;refine wpOp_at (by rfl) rfl ?_;go_simp;exact hK _ _ ⟨_, rfl, hb, Below.refl _ _, rfl⟩
   | 22, _ =>
     have hb := hG;obtain rfl : x25 = _ := hp 21 (by kernel_rfl);refine wpOp_at (by rfl) rfl ?_;go_simp;exact hK _ _ ⟨_, rfl, hb, Below.refl _ _, rfl⟩
   | 23, _ =>
     have hb := hG;obtain rfl : x26 = _ := hp 22 (by kernel_rfl);refine wpOp_at (by rfl) rfl ?_;go_simp;exact hK _ _ ⟨_, rfl, hb, Below.refl _ _, rfl⟩
   | 24, _ =>
     have hb := hG;obtain rfl : x27 = _ := hp 23 (by kernel_rfl);refine wpOp_at (by rfl) rfl ?_;go_simp;exact hK _ _ ⟨_, rfl, hb, Below.refl _ _, rfl⟩
   | 25, _ =>
     have hb := hG;obtain rfl : x8 = _ := hp 4 (by kernel_rfl);obtain rfl : x12 = _ := hp 8 (by kernel_rfl);obtain rfl : x16 = _ := hp 12 (by kernel_rfl);obtain rfl : x20 = _ := hp 16 (by kernel_rfl);obtain rfl : x24 = _ := hp 20 (by kernel_rfl);obtain rfl : x28 = _ := hp 24 (by kernel_rfl);refine wpOp_at (by rfl) rfl ?_;go_simp;have h3 := (Below.refl w1.heap.size w1).alloc (Nat.le_refl _) (.cells (headA b) 69);have h4 := SBox.new w1 69 (headA b);exact hK _ _ ⟨_, rfl, hb.trans (h3.mono hb.size), h3, _, rfl, h4⟩
   | 26, _ =>
     have hb := hG;obtain ⟨r0, e4, s0⟩ := hp 0 (by kernel_rfl);change x4 = _ at e4;subst e4;refine wpOp_at (by rfl) rfl ?_;go_simp;exact hK _ _ ⟨_, rfl, hb, Below.refl _ _, _, rfl, s0⟩
   | 27, _ =>
     have hb := hG;obtain ⟨r25, e29, s25⟩ := hp 25 (by kernel_rfl);change x29 = _ at e29;subst e29;refine wpOp_at (by rfl) rfl ?_;go_simp;exact hK _ _ ⟨_, rfl, hb, Below.refl _ _, _, rfl, s25⟩
   | i + 28, hi => exact absurd hi (by simp)
 case done =>
   rintro a9 w9 lst hl ⟨x2, x3, x4, x5, x6, x7, x8, x9, x10, x11, x12, x13, x14, x15, x16, x17, x18, x19, x20, x21, x22, x23, x24, x25, x26, x27, x28, x29, rfl⟩ hb hp;obtain ⟨r26, e2, s26⟩ := hp 26 (by decide);change x2 = _ at e2;subst e2;obtain ⟨r27, e3, s27⟩ := hp 27 (by decide);change x3 = _ at e3;subst e3
   go_wp2
   go_ret2;exact ⟨_, _, rfl, s26, s27, hb⟩
end Go.Proofs.YtkljcgopikdjjaaGreatDoor.Tx
end
