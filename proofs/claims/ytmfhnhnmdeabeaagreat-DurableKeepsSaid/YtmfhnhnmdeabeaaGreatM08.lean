/- Layer 18 (tree): Link. -/
import Derived.Test.YtmfhnhnmdeabeaaGreatM07
set_option linter.unusedVariables false
set_option linter.unusedSimpArgs false
set_option maxRecDepth 100000
section
namespace Go.Proofs.YtmfhnhnmdeabeaaGreat.Tr
open Go.RowKit Go.Shelf Go.Maps Oct Path
variable {E : TL} {room q : Nat} {S : T}
def linkE (S : T) (dir : Nat) (s : ByteArray) (ino : Nat) : Nat := firstE [errB ([s].any fun s => !isName (L s)) 2, errB ([dir, ino].any fun x => (S.n x).kind == 0) 3, errB ([dir].any fun x => !((S.n x).kind == 2)) 180, errB ((S.n ino).kind == 2) 181, errB (S.l dir (L s) != 0) 9, errB (decide (200 ≤ (S.n ino).links)) 184]
def linkS (S : T) (dir : Nat) (s : ByteArray) (ino : Nat) : T := if linkE S dir s ino = 0 then ⟨setN S.n ino (gain (S.n ino) dir), setL S.l dir (L s) ino⟩ else S
theorem linkE_ok {dir : Nat} {s : ByteArray} {ino : Nat} (h : linkE S dir s ino = 0) : isName (L s) = true ∧ (S.n dir).kind = 2 ∧ (S.n ino).kind ≠ 0 ∧ (S.n ino).kind ≠ 2 ∧ S.l dir (L s) = 0 ∧ (S.n ino).links < 200 := by
 unfold linkE at h
 obtain ⟨h1, h⟩ := firstE_cons h
 obtain ⟨h2, h⟩ := firstE_cons h
 obtain ⟨h3, h⟩ := firstE_cons h
 obtain ⟨h4, h⟩ := firstE_cons h
 obtain ⟨h5, h⟩ := firstE_cons h
 obtain ⟨h6, h⟩ := firstE_cons h
 have h1 := errB_no h1 (by decide)
 have h2 := errB_no h2 (by decide)
 have h3 := errB_no h3 (by decide)
 have h4 := errB_no h4 (by decide)
 have h5 := errB_no h5 (by decide)
 have h6 := errB_no h6 (by decide)
 simp at h1 h2 h3 h4 h5 h6
 exact ⟨h1, h3, h2.2, h4, h5, h6⟩
set_option maxHeartbeats 4000000 in
theorem link_any (wz : World) (hT : TreeAt wz E room q S) (hI : Inv room S) (hq : q < 100000) (dir : Nat) (s : ByteArray) (ino : Nat) (hs : s.size ≤ maxLen) (hd : dir < 4294967296) (hino : ino < 4294967296) :
   Calls Tryz.prog 132 #[.pointer (some ⟨E.t, 0, none⟩), .int .u32 dir, .string s, .int .u32 ino] wz fun e w' => e = .returned (.int .i64 (linkE S dir s ino : Nat)) ∧ TreeAt w' E room (q + 1) (linkS S dir s ino) ∧ Tch E.O wz w' := by
 have HI := Lib.hid hI
 have HQ := Lib.hid hq
 clear hI hq
 go_enter Tryz.func132, Tryz.ntmps132
 go_wp2_with fail
 refine wp_region_phi (by kernel_rfl) (fun | 0 => some 10 | 1 => some 11 | 2 => some 12 | 3 => some 13 | 4 => some 14 | 5 => some 15 | 6 => some 16 | 7 => some 17 | 8 => some 18 | 9 => some 19 | 10 => some 20 | 11 => some 21 | 12 => some 22 | 13 => some 23 | 14 => some 24 | 15 => some 25 | 16 => some 26 | 17 => some 27 | 18 => some 28 | 19 => some 29 | 20 => some 30 | 21 => some 31 | 22 => some 32 | 23 => some 9 | _ => none) (fun a => ∃ x9 x10 x11 x12 x13 x14 x15 x16 x17 x18 x19 x20 x21 x22 x23 x24 x25 x26 x27 x28 x29 x30 x31 x32 : Value, a = ⟨#[.pointer (some ⟨E.t, 0, none⟩), .int .u32 dir, .string s, .int .u32 ino, .pointer (some ⟨wz.heap.size, 0, none⟩), undef, undef, .pointer (some ⟨wz.heap.size + 1, 0, none⟩), .int .i64 0, x9, x10, x11, x12, x13, x14, x15, x16, x17, x18, x19, x20, x21, x22, x23, x24, x25, x26, x27, x28, x29, x30, x31, x32, undef, undef, undef, undef, undef, undef, undef, undef], []⟩) (fun lst W => Below wz.heap.size wz W ∧ wz.heap.size + 2 ≤ W.heap.size ∧ SBox W (wz.heap.size) 27 #[.pointer (some ⟨E.t, 0, none⟩)] ∧ SBox W (wz.heap.size + 1) 37 #[.int .u32 ino]) (fun i w1 w2 => Below w1.heap.size w1 w2) (fun | 0 => (fun v w => v = Value.pointer (some ⟨E.t, 0, none⟩)) | 1 => (fun v w => v = Value.string s) | 2 => (fun v w => SlAt 0 9 ([s].map Value.string).toArray v w) | 3 => (fun v w => CloAt (True) (errB ([s].any fun s => !isName (L s)) 2) v w) | 4 => (fun v w => v = Value.pointer (some ⟨E.t, 0, none⟩)) | 5 => (fun v w => v = Value.int .u32 dir) | 6 => (fun v w => v = Value.int .u32 ino) | 7 => (fun v w => SlAt 0 37 ([dir, ino].map fun x => Value.int .u32 (x : Nat)).toArray v w) | 8 => (fun v w => CloAt (True) (errB ([dir, ino].any fun x => (S.n x).kind == 0) 3) v w) | 9 => (fun v w => v = Value.pointer (some ⟨E.t, 0, none⟩)) | 10 => (fun v w => v = Value.int .u32 dir) | 11 => (fun v w => SlAt 0 37 ([dir].map fun x => Value.int .u32 (x : Nat)).toArray v w) | 12 => (fun v w => CloAt (([dir].any fun x => (S.n x).kind == 0) = false) (errB ([dir].any fun x => !((S.n x).kind == 2)) 180) v w) | 13 => (fun v w => v = Value.pointer (some ⟨E.t, 0, none⟩)) | 14 => (fun v w => v = Value.int .u32 ino) | 15 => (fun v w => CloAt ((S.n ino).kind ≠ 0) (errB ((S.n ino).kind == 2) 181) v w) | 16 => (fun v w => v = Value.pointer (some ⟨E.t, 0, none⟩)) | 17 => (fun v w => v = Value.int .u32 dir) | 18 => (fun v w => v = Value.string s) | 19 => (fun v w => CloAt ((S.n dir).kind ≠ 0) (errB (S.l dir (L s) != 0) 9) v w) | 20 => (fun v w => CloAt ((S.n ino).kind ≠ 0) (errB (decide (200 ≤ (S.n ino).links)) 184) v w) | 21 => (fun v w => ∃ v13 v18 v22 v25 v29 v30 : Value, SlAt 0 93 #[v13, v18, v22, v25, v29, v30] v w ∧ CloAt (True) (errB ([s].any fun s => !isName (L s)) 2) v13 w ∧ CloAt (True) (errB ([dir, ino].any fun x => (S.n x).kind == 0) 3) v18 w ∧ CloAt (([dir].any fun x => (S.n x).kind == 0) = false) (errB ([dir].any fun x => !((S.n x).kind == 2)) 180) v22 w ∧ CloAt ((S.n ino).kind ≠ 0) (errB ((S.n ino).kind == 2) 181) v25 w ∧ CloAt ((S.n dir).kind ≠ 0) (errB (S.l dir (L s) != 0) 9) v29 w ∧ CloAt ((S.n ino).kind ≠ 0) (errB (decide (200 ≤ (S.n ino).links)) 184) v30 w) | 22 => (fun v w => v = Value.int .i64 (linkE S dir s ino : Nat)) | 23 => (fun v w => v = Value.int .i64 (linkE S dir s ino : Nat)) | _ => (fun _ _ => True)) (by kernel_rfl) ?st (by kernel_rfl) ?AA ⟨_, _, _, _, _, _, _, _, _, _, _, _, _, _, _, _, _, _, _, _, _, _, _, _, rfl⟩ ?G0 ?step ?done
 case st =>
   intro i j v w1 w2 hi hj hij hw hp hs
   have hi : i < 24 := hi
   match j, hp with
   | 0, hp | 1, hp => exact hp
   | 2, hp =>
     exact hp.stay (StayN.of hs)
   | 3, hp =>
     exact hp.later hs
   | 4, hp | 5, hp | 6, hp => exact hp
   | 7, hp =>
     exact hp.stay (StayN.of hs)
   | 8, hp =>
     exact hp.later hs
   | 9, hp | 10, hp => exact hp
   | 11, hp =>
     exact hp.stay (StayN.of hs)
   | 12, hp =>
     exact hp.later hs
   | 13, hp | 14, hp => exact hp
   | 15, hp =>
     exact hp.later hs
   | 16, hp | 17, hp | 18, hp => exact hp
   | 19, hp =>
     exact hp.later hs
   | 20, hp =>
     exact hp.later hs
   | 21, hp =>
     obtain ⟨v13, v18, v22, v25, v29, v30, a, b13, b18, b22, b25, b29, b30⟩ := hp
     exact ⟨v13, v18, v22, v25, v29, v30, a.stay (StayN.of hs), b13.later hs, b18.later hs, b22.later hs, b25.later hs, b29.later hs, b30.later hs⟩
   | 22, hp | 23, hp => exact hp
   | j + 24, _ => exact trivial
 case AA =>
   rintro i a v hi ⟨_, _, _, _, _, _, _, _, _, _, _, _, _, _, _, _, _, _, _, _, _, _, _, _, rfl⟩
   match i, hi with
   | 0, _ | 1, _ | 2, _ | 3, _ | 4, _ | 5, _ | 6, _ | 7, _ | 8, _ | 9, _ | 10, _ | 11, _ | 12, _ | 13, _ | 14, _ | 15, _ | 16, _ | 17, _ | 18, _ | 19, _ | 20, _ | 21, _ | 22, _ | 23, _ => exact ⟨⟨_, _, _, _, _, _, _, _, _, _, _, _, _, _, _, _, _, _, _, _, _, _, _, _, rfl⟩, fun t h => by cases h <;> exact of_decide_eq_true rfl⟩
   | i + 24, hi => exact absurd hi (by simp)
 case G0 => exact ⟨(((Below.refl _ _).alloc (Nat.le_refl _) _).alloc (by simp) _).drew, by simp, ((SBox.new wz _ _).alloc _).drew, by simpa using (SBox.new (wz.alloc _) _ _).drew⟩
 case step =>
   rintro i a w1 lst hi ⟨x9, x10, x11, x12, x13, x14, x15, x16, x17, x18, x19, x20, x21, x22, x23, x24, x25, x26, x27, x28, x29, x30, x31, x32, rfl⟩ hl hG hp
   refine wpOp_via (fun K hK => ?_)
   match i, hi with
   | 0, _ =>
     obtain ⟨hb, hsz, h4, h7⟩ := hG
     have c0 := h4.cell 0
     simp only [List.getElem?_toArray, List.getElem?_cons_zero] at c0
     have hl0 := h4.lt
     refine wpOp_at (by rfl) rfl ?_
     go_simp
     exact hK _ _ ⟨_, rfl, ⟨hb, hsz, h4, h7⟩, Below.refl _ _, rfl⟩
   | 1, _ =>
     obtain ⟨hb, hsz, h4, h7⟩ := hG
     refine wpOp_at (by rfl) rfl ?_
     go_simp
     exact hK _ _ ⟨_, rfl, ⟨hb, hsz, h4, h7⟩, Below.refl _ _, rfl⟩
   | 2, _ =>
     obtain ⟨hb, hsz, h4, h7⟩ := hG
     obtain rfl : x11 = _ := hp 1 (by kernel_rfl)
     refine wpOp_at (by rfl) rfl ?_
     go_simp
     exact hK _ _ ⟨_, rfl, ⟨hb.alloc (by omega) _, by simp; omega, h4.alloc _, h7.alloc _⟩, (Below.refl _ _).alloc (Nat.le_refl _) _, _, rfl, Nat.zero_le _, SBox.new _ _ _⟩
   | 3, _ =>
     obtain ⟨hb, hsz, h4, h7⟩ := hG
     have e12 := hp 2 (by kernel_rfl)
     change SlAt _ _ _ x12 _ at e12
     refine wpOp_at (by rfl) rfl ?_
     go_simp
     have hTW := hT.later hb
     refine Calls.mono (clo_names (n := 0) e12 (Nat.zero_le _) (by simpa using hs) (by simp)) ?_
     rintro e w2 ⟨u, rfl, hu, hbw⟩
     exact hK _ _ ⟨_, rfl, ⟨hb.trans (hbw.mono hb.size), by have := hbw.size; omega, h4.later hbw, h7.later hbw⟩, hbw, hu⟩
   | 4, _ =>
     obtain ⟨hb, hsz, h4, h7⟩ := hG
     have c0 := h4.cell 0
     simp only [List.getElem?_toArray, List.getElem?_cons_zero] at c0
     have hl0 := h4.lt
     refine wpOp_at (by rfl) rfl ?_
     go_simp
     exact hK _ _ ⟨_, rfl, ⟨hb, hsz, h4, h7⟩, Below.refl _ _, rfl⟩
   | 5, _ =>
     obtain ⟨hb, hsz, h4, h7⟩ := hG
     refine wpOp_at (by rfl) rfl ?_
     go_simp
     exact hK _ _ ⟨_, rfl, ⟨hb, hsz, h4, h7⟩, Below.refl _ _, rfl⟩
   | 6, _ =>
     obtain ⟨hb, hsz, h4, h7⟩ := hG
     have c0 := h7.cell 0
     simp only [List.getElem?_toArray, List.getElem?_cons_zero] at c0
     have hl0 := h7.lt
     refine wpOp_at (by rfl) rfl ?_
     go_simp
     exact hK _ _ ⟨_, rfl, ⟨hb, hsz, h4, h7⟩, Below.refl _ _, rfl⟩
   | 7, _ =>
     obtain ⟨hb, hsz, h4, h7⟩ := hG
     obtain rfl : x15 = _ := hp 5 (by kernel_rfl)
     obtain rfl : x16 = _ := hp 6 (by kernel_rfl)
     refine wpOp_at (by rfl) rfl ?_
     go_simp
     exact hK _ _ ⟨_, rfl, ⟨hb.alloc (by omega) _, by simp; omega, h4.alloc _, h7.alloc _⟩, (Below.refl _ _).alloc (Nat.le_refl _) _, _, rfl, Nat.zero_le _, SBox.new _ _ _⟩
   | 8, _ =>
     obtain ⟨hb, hsz, h4, h7⟩ := hG
     obtain rfl : x14 = _ := hp 4 (by kernel_rfl)
     have e17 := hp 7 (by kernel_rfl)
     change SlAt _ _ _ x17 _ at e17
     refine wpOp_at (by rfl) rfl ?_
     go_simp
     have hTW := hT.later hb
     refine Calls.mono (clo_there (n := 0) e17 (Nat.zero_le _) hTW (by simp; exact ⟨hd, hino⟩) (by simp)) ?_
     rintro e w2 ⟨u, rfl, hu, hbw⟩
     exact hK _ _ ⟨_, rfl, ⟨hb.trans (hbw.mono hb.size), by have := hbw.size; omega, h4.later hbw, h7.later hbw⟩, hbw, hu⟩
   | 9, _ =>
     obtain ⟨hb, hsz, h4, h7⟩ := hG
     have c0 := h4.cell 0
     simp only [List.getElem?_toArray, List.getElem?_cons_zero] at c0
     have hl0 := h4.lt
     refine wpOp_at (by rfl) rfl ?_
     go_simp
     exact hK _ _ ⟨_, rfl, ⟨hb, hsz, h4, h7⟩, Below.refl _ _, rfl⟩
   | 10, _ =>
     obtain ⟨hb, hsz, h4, h7⟩ := hG
     refine wpOp_at (by rfl) rfl ?_
     go_simp
     exact hK _ _ ⟨_, rfl, ⟨hb, hsz, h4, h7⟩, Below.refl _ _, rfl⟩
   | 11, _ =>
     obtain ⟨hb, hsz, h4, h7⟩ := hG
     obtain rfl : x20 = _ := hp 10 (by kernel_rfl)
     refine wpOp_at (by rfl) rfl ?_
     go_simp
     exact hK _ _ ⟨_, rfl, ⟨hb.alloc (by omega) _, by simp; omega, h4.alloc _, h7.alloc _⟩, (Below.refl _ _).alloc (Nat.le_refl _) _, _, rfl, Nat.zero_le _, SBox.new _ _ _⟩
   | 12, _ =>
     obtain ⟨hb, hsz, h4, h7⟩ := hG
     obtain rfl : x19 = _ := hp 9 (by kernel_rfl)
     have e21 := hp 11 (by kernel_rfl)
     change SlAt _ _ _ x21 _ at e21
     refine wpOp_at (by rfl) rfl ?_
     go_simp
     have hTW := hT.later hb
     refine Calls.mono (clo_dirs (n := 0) e21 (Nat.zero_le _) hTW (by simpa using hd) (by simp)) ?_
     rintro e w2 ⟨u, rfl, hu, hbw⟩
     exact hK _ _ ⟨_, rfl, ⟨hb.trans (hbw.mono hb.size), by have := hbw.size; omega, h4.later hbw, h7.later hbw⟩, hbw, hu⟩
   | 13, _ =>
     obtain ⟨hb, hsz, h4, h7⟩ := hG
     have c0 := h4.cell 0
     simp only [List.getElem?_toArray, List.getElem?_cons_zero] at c0
     have hl0 := h4.lt
     refine wpOp_at (by rfl) rfl ?_
     go_simp
     exact hK _ _ ⟨_, rfl, ⟨hb, hsz, h4, h7⟩, Below.refl _ _, rfl⟩
   | 14, _ =>
     obtain ⟨hb, hsz, h4, h7⟩ := hG
     have c0 := h7.cell 0
     simp only [List.getElem?_toArray, List.getElem?_cons_zero] at c0
     have hl0 := h7.lt
     refine wpOp_at (by rfl) rfl ?_
     go_simp
     exact hK _ _ ⟨_, rfl, ⟨hb, hsz, h4, h7⟩, Below.refl _ _, rfl⟩
   | 15, _ =>
     obtain ⟨hb, hsz, h4, h7⟩ := hG
     obtain rfl : x23 = _ := hp 13 (by kernel_rfl)
     obtain rfl : x24 = _ := hp 14 (by kernel_rfl)
     refine wpOp_at (by rfl) rfl ?_
     go_simp
     have hTW := hT.later hb
     refine Calls.mono (clo_file hTW hino) ?_
     rintro e w2 ⟨u, rfl, hu, hbw⟩
     exact hK _ _ ⟨_, rfl, ⟨hb.trans (hbw.mono hb.size), by have := hbw.size; omega, h4.later hbw, h7.later hbw⟩, hbw, hu⟩
   | 16, _ =>
     obtain ⟨hb, hsz, h4, h7⟩ := hG
     have c0 := h4.cell 0
     simp only [List.getElem?_toArray, List.getElem?_cons_zero] at c0
     have hl0 := h4.lt
     refine wpOp_at (by rfl) rfl ?_
     go_simp
     exact hK _ _ ⟨_, rfl, ⟨hb, hsz, h4, h7⟩, Below.refl _ _, rfl⟩
   | 17, _ =>
     obtain ⟨hb, hsz, h4, h7⟩ := hG
     refine wpOp_at (by rfl) rfl ?_
     go_simp
     exact hK _ _ ⟨_, rfl, ⟨hb, hsz, h4, h7⟩, Below.refl _ _, rfl⟩
   | 18, _ =>
     obtain ⟨hb, hsz, h4, h7⟩ := hG
     refine wpOp_at (by rfl) rfl ?_
     go_simp
     exact hK _ _ ⟨_, rfl, ⟨hb, hsz, h4, h7⟩, Below.refl _ _, rfl⟩
   | 19, _ =>
     obtain ⟨hb, hsz, h4, h7⟩ := hG
     obtain rfl : x26 = _ := hp 16 (by kernel_rfl)
     obtain rfl : x27 = _ := hp 17 (by kernel_rfl)
     obtain rfl : x28 = _ := hp 18 (by kernel_rfl)
     refine wpOp_at (by rfl) rfl ?_
     go_simp
     have hTW := hT.later hb
     refine Calls.mono (clo_fresh hTW hd hs) ?_
     rintro e w2 ⟨u, rfl, hu, hbw⟩
     exact hK _ _ ⟨_, rfl, ⟨hb.trans (hbw.mono hb.size), by have := hbw.size; omega, h4.later hbw, h7.later hbw⟩, hbw, hu⟩
   | 20, _ =>
     obtain ⟨hb, hsz, h4, h7⟩ := hG
     refine wpOp_at (by rfl) rfl ?_
     go_simp
     exact hK _ _ ⟨_, rfl, ⟨hb, hsz, h4, h7⟩, Below.refl _ _, _, _, rfl, (fun W => enters_of Tryz.func151 (by kernel_rfl) rfl _ W), fun W hW hpre => link1_any _ _ ino hino hpre W ((hT.later hb).later hW) (h4.later hW) (h7.later hW)⟩
   | 21, _ =>
     obtain ⟨hb, hsz, h4, h7⟩ := hG
     have e13 := hp 3 (by kernel_rfl)
     change CloAt _ _ x13 _ at e13
     have e18 := hp 8 (by kernel_rfl)
     change CloAt _ _ x18 _ at e18
     have e22 := hp 12 (by kernel_rfl)
     change CloAt _ _ x22 _ at e22
     have e25 := hp 15 (by kernel_rfl)
     change CloAt _ _ x25 _ at e25
     have e29 := hp 19 (by kernel_rfl)
     change CloAt _ _ x29 _ at e29
     have e30 := hp 20 (by kernel_rfl)
     change CloAt _ _ x30 _ at e30
     obtain ⟨f13, l13, rfl, r13⟩ := e13
     obtain ⟨f18, l18, rfl, r18⟩ := e18
     obtain ⟨f22, l22, rfl, r22⟩ := e22
     obtain ⟨f25, l25, rfl, r25⟩ := e25
     obtain ⟨f29, l29, rfl, r29⟩ := e29
     obtain ⟨f30, l30, rfl, r30⟩ := e30
     refine wpOp_at (by rfl) rfl ?_
     go_simp
     exact hK _ _ ⟨_, rfl, ⟨hb.alloc (by omega) _, by simp; omega, h4.alloc _, h7.alloc _⟩, (Below.refl _ _).alloc (Nat.le_refl _) _, _, _, _, _, _, _, ⟨_, rfl, Nat.zero_le _, SBox.new _ _ _⟩, CloAt.later ⟨f13, l13, rfl, r13⟩ ((Below.refl _ _).alloc (Nat.le_refl _) _), CloAt.later ⟨f18, l18, rfl, r18⟩ ((Below.refl _ _).alloc (Nat.le_refl _) _), CloAt.later ⟨f22, l22, rfl, r22⟩ ((Below.refl _ _).alloc (Nat.le_refl _) _), CloAt.later ⟨f25, l25, rfl, r25⟩ ((Below.refl _ _).alloc (Nat.le_refl _) _), CloAt.later ⟨f29, l29, rfl, r29⟩ ((Below.refl _ _).alloc (Nat.le_refl _) _), CloAt.later ⟨f30, l30, rfl, r30⟩ ((Below.refl _ _).alloc (Nat.le_refl _) _)⟩
   | 22, _ =>
     obtain ⟨hb, hsz, h4, h7⟩ := hG
     obtain rfl : x10 = _ := hp 0 (by kernel_rfl)
     obtain ⟨v13, v18, v22, v25, v29, v30, ⟨b9, he9, _, hb9⟩, q13, q18, q22, q25, q29, q30⟩ := hp 21 (by kernel_rfl)
     change x31 = _ at he9
     subst he9
     refine wpOp_at (by rfl) rfl ?_
     go_simp
     refine Calls.mono (check_clo E.t b9 [v13, v18, v22, v25, v29, v30] [errB ([s].any fun s => !isName (L s)) 2, errB ([dir, ino].any fun x => (S.n x).kind == 0) 3, errB ([dir].any fun x => !((S.n x).kind == 2)) 180, errB ((S.n ino).kind == 2) 181, errB (S.l dir (L s) != 0) 9, errB (decide (200 ≤ (S.n ino).links)) 184] w1 (by simp) (by simp) hb9 ?cl) ?_
     case cl =>
       intro i hi
       match i, hi with
       | 0, _ => exact q13.weak (fun hz => trivial)
       | 1, _ => exact q18.weak (fun hz => trivial)
       | 2, _ => exact q22.weak (fun hz => (by have h := errB_no (hz 1 (by omega)) (by decide); simp at h; simpa using h.1))
       | 3, _ => exact q25.weak (fun hz => (by have h := errB_no (hz 1 (by omega)) (by decide); simp at h; simpa using h.2))
       | 4, _ => exact q29.weak (fun hz => (by have h := errB_no (hz 1 (by omega)) (by decide); simp at h; simpa using h.1))
       | 5, _ => exact q30.weak (fun hz => (by have h := errB_no (hz 1 (by omega)) (by decide); simp at h; simpa using h.2))
       | i + 6, hi => exact absurd hi (by simp)
     rintro e w2 ⟨rfl, hbw⟩
     exact hK _ _ ⟨_, rfl, ⟨hb.trans (hbw.mono hb.size), by have := hbw.size; omega, h4.later hbw, h7.later hbw⟩, hbw, rfl⟩
   | 23, _ =>
     obtain ⟨hb, hsz, h4, h7⟩ := hG
     obtain rfl : x32 = _ := hp 22 (by kernel_rfl)
     refine wpOp_at (by rfl) rfl ?_
     go_simp
     exact hK _ _ ⟨_, rfl, ⟨hb, hsz, h4, h7⟩, Below.refl _ _, rfl⟩
   | i + 24, hi => exact absurd hi (by simp)
 case done =>
   rintro a w2 lst hl ⟨x9, x10, x11, x12, x13, x14, x15, x16, x17, x18, x19, x20, x21, x22, x23, x24, x25, x26, x27, x28, x29, x30, x31, x32, rfl⟩ ⟨hb, hsz, h4, h7⟩ hp
   obtain rfl : x9 = _ := hp 23 (by simp)
   have HB := Lib.hid hb
   have HT := Lib.hid (hT.later hb)
   have SZ := Lib.hid hsz
   have X0 := h4.cell 0
   have X1 := h7.cell 0
   simp only [List.getElem?_toArray, List.getElem?_cons_zero] at X0 X1
   have Xl0 := h4.lt
   have Xl1 := h7.lt
   clear hp hb hsz hl hT h4 h7
   by_cases h0 : linkE S dir s ino = 0
   · have H0 := Lib.hid h0
     have HK := Lib.hid (linkE_ok h0)
     rw [h0]
     clear h0
     have i0 : ino ≠ 0 := fun e => by have := HI.out.zero; have h := HK.out.2.2.1; rw [e] at h; omega
     have EN := Lib.hid (enter_any HT.out HQ.out dir ino s hs hd hino (by rw [HK.out.2.1]; decide) HK.out.2.2.1 i0 (by have := HK.out.2.2.2.2.2; omega))
     clear i0
     go_wp2_with fail
     refine Calls.mono EN.out ?_
     rintro e w8 ⟨rfl, hT8, tc8⟩
     have T8 := Lib.hid hT8
     have C8 := Lib.hid tc8
     clear hT8 tc8 EN
     go_wp2_with fail
     go_ret
     exact ⟨by rw [H0.out]; rfl, by unfold linkS; rw [if_pos H0.out]; exact T8.out, (Tch.of HB.out).trans C8.out⟩
   · have t0 : ((linkE S dir s ino : Int) == 0) = false := by simp; omega
     have H0 := Lib.hid h0
     clear h0
     go_wp2_with fail
     go_ret
     exact ⟨rfl, by unfold linkS; rw [if_neg H0.out]; exact HT.out.more (Nat.le_succ _) (by have := HQ.out; omega), Tch.of HB.out⟩
end Go.Proofs.YtmfhnhnmdeabeaaGreat.Tr
end
