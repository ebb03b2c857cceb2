/- Layer 18 (tree): MakeAt. -/
import Derived.Test.YtmfhnhnmdeabeaaGreatM05
import Derived.Test.YtmfhnhnmdeabeaaGreatM06
import Derived.Test.YtmfhnhnmdeabeaaGreatM04
set_option linter.unusedVariables false
set_option linter.unusedSimpArgs false
set_option maxRecDepth 100000
section
namespace Go.Proofs.YtmfhnhnmdeabeaaGreat.Tr
open Go.RowKit Go.Shelf Go.Maps Oct Path
variable {E : TL} {room q : Nat} {S : T}
theorem errB_no {b : Bool} {e : Nat} (h : errB b e = 0) (he : e ≠ 0) : b = false := by
 cases b with
 | false => rfl
 | true => exact absurd h he
theorem firstE_cons {e : Nat} {l : List Nat} (h : firstE (e :: l) = 0) : e = 0 ∧ firstE l = 0 := by
 unfold firstE at h
 by_cases h0 : e = 0
 · rw [if_pos h0] at h; exact ⟨h0, h⟩
 · rw [if_neg h0] at h; exact absurd h h0
theorem TreeAt.boxed {W W' : World} (h : TreeAt W E room q S) (hm : W.mapTurned W' E.m) {b : Nat} {t : TypeId} {cs : Array Value} (hb : SBox W b t cs) : SBox W' b t cs := by
 obtain ⟨es, clk, hmap⟩ := h.map.isMap
 refine (turned_block hm fun e => ?_).trans hb
 unfold SBox at hb
 rw [e, hmap] at hb
 cases hb
structure Ext (E E' : TL) (n : Nat) : Prop where
 t : E'.t = E.t
 old : ∀ c, E.O c → E'.O c
 new : ∀ c, E'.O c → E.O c ∨ n ≤ c
theorem Ext.refl (E : TL) (n : Nat) : Ext E E n := ⟨rfl, fun _ h => h, fun _ h => .inl h⟩
theorem Tch.ext {O O' : Nat → Prop} {wz w w' : World} (h1 : Tch O wz w) (h2 : Tch O' w w') (he : ∀ c, O' c → O c ∨ wz.heap.size ≤ c) : Tch O wz w' :=
 ⟨h2.os.trans h1.os, h2.tape.trans h1.tape, h2.output.trans h1.output, Nat.le_trans h1.size h2.size, fun i hi hn => (h2.block i (Nat.lt_of_lt_of_le hi h1.size) (fun q => (he i q).elim hn (by omega))).trans (h1.block i hi hn)⟩
def Did (wz w' : World) (E : TL) (room q : Nat) (S' : T) : Prop := ∃ E', Ext E E' wz.heap.size ∧ TreeAt w' E' room q S' ∧ Tch E.O wz w'
theorem Did.of {wz w' : World} {S' : T} (h : TreeAt w' E room q S') (ht : Tch E.O wz w') : Did wz w' E room q S' := ⟨E, Ext.refl _ _, h, ht⟩
theorem Did.trans {wz w1 w2 : World} {S1 S2 : T} {q1 : Nat} (h : Did wz w1 E room q S1) (h2 : ∀ E', TreeAt w1 E' room q S1 → E'.t = E.t → Did w1 w2 E' room q1 S2) : Did wz w2 E room q1 S2 := by
 obtain ⟨E1, x1, t1, c1⟩ := h
 obtain ⟨E2, x2, t2, c2⟩ := h2 E1 t1 x1.t
 have hs := c1.size
 exact ⟨E2, ⟨x2.t.trans x1.t, fun c hc => x2.old c (x1.old c hc), fun c hc => (x2.new c hc).elim (x1.new c) (fun h => .inr (Nat.le_trans hs h))⟩, t2, c1.ext c2 x1.new⟩
structure FreshN (w w' : World) (k p a b : Nat) : Prop where
 nd : SBox w' p 101 #[.int .u8 k, .int .i64 (k / 2 : Nat), .int .u32 0, .map (some a), .map (some b), .int .i64 0, .int .u32 0]
 ent : VMap w' 9 a 0 (fun _ => none)
 pg : VMap w' 3 b 0 (fun _ => none)
 lo : w.heap.size ≤ p ∧ w.heap.size ≤ a ∧ w.heap.size ≤ b
 ne : a ≠ b
theorem FreshN.stay {w w1 w2 : World} {k p a b : Nat} (h : FreshN w w1 k p a b) (hs : StayN w.heap.size w1 w2) : FreshN w w2 k p a b :=
 ⟨stay_box h.nd h.lo.1 hs, h.ent.block (hs.2 a h.lo.2.1 h.ent.lt), h.pg.block (hs.2 b h.lo.2.2 h.pg.lt), h.lo, h.ne⟩
theorem FreshN.at_ {w w1 : World} {k p a b : Nat} (h : FreshN w w1 k p a b) (hb : Below w.heap.size w w1) : FreshAt w w1 k p a b := ⟨h.nd, h.ent, h.pg, h.lo, h.ne, hb⟩
theorem FreshAt.n {w0 w w1 : World} {k p a b : Nat} (h : FreshAt w w1 k p a b) (hs : w0.heap.size ≤ w.heap.size) : FreshN w0 w1 k p a b := ⟨h.nd, h.ent, h.pg, ⟨Nat.le_trans hs h.lo.1, Nat.le_trans hs h.lo.2.1, Nat.le_trans hs h.lo.2.2⟩, h.ne⟩
theorem stay_turned {n : Nat} {w w' : World} {b : Nat} (h : w.mapTurned w' b) (hb : b < n) : StayN n w w' := ⟨by rw [turned_size h]; exact Nat.le_refl _, fun c hc _ => turned_block h (by omega)⟩
def makeE (S : T) (room dir : Nat) (s : ByteArray) (kind ino : Nat) : Nat := firstE [errB ([s].any fun s => !isName (L s)) 2, errB (kind != 1 && kind != 2) 2, errB (decide (ino < 1) || decide (room < ino)) 2, errB ([dir].any fun x => (S.n x).kind == 0) 3, errB ([dir].any fun x => !((S.n x).kind == 2)) 180, errB (S.l dir (L s) != 0) 9, errB ((S.n ino).kind != 0) 9]
def makeS (S : T) (room dir : Nat) (s : ByteArray) (kind ino : Nat) : T := if makeE S room dir s kind ino = 0 then ⟨setN S.n ino (gain ⟨kind, kind / 2, 0, 0, []⟩ dir), setL S.l dir (L s) ino⟩ else S
theorem makeE_ok {room dir : Nat} {s : ByteArray} {kind ino : Nat} (h : makeE S room dir s kind ino = 0) : isName (L s) = true ∧ (kind = 1 ∨ kind = 2) ∧ 1 ≤ ino ∧ ino ≤ room ∧ (S.n dir).kind = 2 ∧ S.l dir (L s) = 0 ∧ (S.n ino).kind = 0 := by
 unfold makeE at h
 obtain ⟨h1, h⟩ := firstE_cons h
 obtain ⟨h2, h⟩ := firstE_cons h
 obtain ⟨h3, h⟩ := firstE_cons h
 obtain ⟨h4, h⟩ := firstE_cons h
 obtain ⟨h5, h⟩ := firstE_cons h
 obtain ⟨h6, h⟩ := firstE_cons h
 obtain ⟨h7, h⟩ := firstE_cons h
 have h1 := errB_no h1 (by decide)
 have h2 := errB_no h2 (by decide)
 have h3 := errB_no h3 (by decide)
 have h5 := errB_no h5 (by decide)
 have h6 := errB_no h6 (by decide)
 have h7 := errB_no h7 (by decide)
 simp at h1 h2 h3 h5 h6 h7
 exact ⟨h1, by omega, by omega, by omega, h5, h6, h7⟩
set_option maxHeartbeats 4000000 in
theorem makeAt_any (wz : World) (hT : TreeAt wz E room q S) (hI : Inv room S) (hq : q < 100000) (dir : Nat) (s : ByteArray) (kind ino : Nat) (hs : s.size ≤ maxLen) (hd : dir < 4294967296) (hino : ino < 4294967296) :
   Calls Tryz.prog 131 #[.pointer (some ⟨E.t, 0, none⟩), .int .u32 dir, .string s, .int .u8 kind, .int .u32 ino] wz fun e w' => e = .returned (.int .i64 (makeE S room dir s kind ino : Nat)) ∧ Did wz w' E room (q + 1) (makeS S room dir s kind ino) := by
 have HI := Lib.hid hI
 have HQ := Lib.hid hq
 clear hI hq
 go_enter Tryz.func131, Tryz.ntmps131
 go_wp2_with fail
 refine wp_region_phi (by kernel_rfl) (fun | 0 => some 12 | 1 => some 13 | 2 => some 14 | 3 => some 15 | 4 => some 16 | 5 => some 17 | 6 => some 18 | 7 => some 19 | 8 => some 20 | 9 => some 21 | 10 => some 22 | 11 => some 23 | 12 => some 24 | 13 => some 25 | 14 => some 26 | 15 => some 27 | 16 => some 28 | 17 => some 29 | 18 => some 30 | 19 => some 31 | 20 => some 32 | 21 => some 33 | 22 => some 11 | _ => none) (fun a => ∃ x11 x12 x13 x14 x15 x16 x17 x18 x19 x20 x21 x22 x23 x24 x25 x26 x27 x28 x29 x30 x31 x32 x33 : Value, a = ⟨#[.pointer (some ⟨E.t, 0, none⟩), .int .u32 dir, .string s, .int .u8 kind, .int .u32 ino, .pointer (some ⟨wz.heap.size, 0, none⟩), undef, undef, undef, .pointer (some ⟨wz.heap.size + 1, 0, none⟩), .int .i64 0, x11, x12, x13, x14, x15, x16, x17, x18, x19, x20, x21, x22, x23, x24, x25, x26, x27, x28, x29, x30, x31, x32, x33, undef, undef, undef, undef, undef, undef, undef, undef, undef, undef, undef, undef, undef, undef, undef], []⟩) (fun lst W => Below wz.heap.size wz W ∧ wz.heap.size + 2 ≤ W.heap.size ∧ SBox W (wz.heap.size) 27 #[.pointer (some ⟨E.t, 0, none⟩)] ∧ SBox W (wz.heap.size + 1) 37 #[.int .u32 ino]) (fun i w1 w2 => Below w1.heap.size w1 w2) (fun | 0 => (fun v w => v = Value.pointer (some ⟨E.t, 0, none⟩)) | 1 => (fun v w => v = Value.string s) | 2 => (fun v w => SlAt 0 9 ([s].map Value.string).toArray v w) | 3 => (fun v w => CloAt (True) (errB ([s].any fun s => !isName (L s)) 2) v w) | 4 => (fun v w => v = Value.int .u8 kind) | 5 => (fun v w => CloAt (True) (errB (kind != 1 && kind != 2) 2) v w) | 6 => (fun v w => CloAt (True) (errB (decide (ino < 1) || decide (room < ino)) 2) v w) | 7 => (fun v w => v = Value.pointer (some ⟨E.t, 0, none⟩)) | 8 => (fun v w => v = Value.int .u32 dir) | 9 => (fun v w => SlAt 0 37 ([dir].map fun x => Value.int .u32 (x : Nat)).toArray v w) | 10 => (fun v w => CloAt (True) (errB ([dir].any fun x => (S.n x).kind == 0) 3) v w) | 11 => (fun v w => v = Value.pointer (some ⟨E.t, 0, none⟩)) | 12 => (fun v w => v = Value.int .u32 dir) | 13 => (fun v w => SlAt 0 37 ([dir].map fun x => Value.int .u32 (x : Nat)).toArray v w) | 14 => (fun v w => CloAt (([dir].any fun x => (S.n x).kind == 0) = false) (errB ([dir].any fun x => !((S.n x).kind == 2)) 180) v w) | 15 => (fun v w => v = Value.pointer (some ⟨E.t, 0, none⟩)) | 16 => (fun v w => v = Value.int .u32 dir) | 17 => (fun v w => v = Value.string s) | 18 => (fun v w => CloAt ((S.n dir).kind ≠ 0) (errB (S.l dir (L s) != 0) 9) v w) | 19 => (fun v w => CloAt (True) (errB ((S.n ino).kind != 0) 9) v w) | 20 => (fun v w => ∃ v15 v17 v18 v22 v26 v30 v31 : Value, SlAt 0 93 #[v15, v17, v18, v22, v26, v30, v31] v w ∧ CloAt (True) (errB ([s].any fun s => !isName (L s)) 2) v15 w ∧ CloAt (True) (errB (kind != 1 && kind != 2) 2) v17 w ∧ CloAt (True) (errB (decide (ino < 1) || decide (room < ino)) 2) v18 w ∧ CloAt (True) (errB ([dir].any fun x => (S.n x).kind == 0) 3) v22 w ∧ CloAt (([dir].any fun x => (S.n x).kind == 0) = false) (errB ([dir].any fun x => !((S.n x).kind == 2)) 180) v26 w ∧ CloAt ((S.n dir).kind ≠ 0) (errB (S.l dir (L s) != 0) 9) v30 w ∧ CloAt (True) (errB ((S.n ino).kind != 0) 9) v31 w) | 21 => (fun v w => v = Value.int .i64 (makeE S room dir s kind ino : Nat)) | 22 => (fun v w => v = Value.int .i64 (makeE S room dir s kind ino : Nat)) | _ => (fun _ _ => True)) (by kernel_rfl) ?st (by kernel_rfl) ?AA ⟨_, _, _, _, _, _, _, _, _, _, _, _, _, _, _, _, _, _, _, _, _, _, _, rfl⟩ ?G0 ?step ?done
 case st =>
   intro i j v w1 w2 hi hj hij hw hp hs
   have hi : i < 23 := hi
   match j, hp with
   | 0, hp | 1, hp => exact hp
   | 2, hp =>
     exact hp.stay (StayN.of hs)
   | 3, hp =>
     exact hp.later hs
   | 4, hp => exact hp
   | 5, hp =>
     exact hp.later hs
   | 6, hp =>
     exact hp.later hs
   | 7, hp | 8, hp => exact hp
   | 9, hp =>
     exact hp.stay (StayN.of hs)
   | 10, hp =>
     exact hp.later hs
   | 11, hp | 12, hp => exact hp
   | 13, hp =>
     exact hp.stay (StayN.of hs)
   | 14, hp =>
     exact hp.later hs
   | 15, hp | 16, hp | 17, hp => exact hp
   | 18, hp =>
     exact hp.later hs
   | 19, hp =>
     exact hp.later hs
   | 20, hp =>
     obtain ⟨v15, v17, v18, v22, v26, v30, v31, a, b15, b17, b18, b22, b26, b30, b31⟩ := hp
     exact ⟨v15, v17, v18, v22, v26, v30, v31, a.stay (StayN.of hs), b15.later hs, b17.later hs, b18.later hs, b22.later hs, b26.later hs, b30.later hs, b31.later hs⟩
   | 21, hp | 22, hp => exact hp
   | j + 23, _ => exact trivial
 case AA =>
   rintro i a v hi ⟨_, _, _, _, _, _, _, _, _, _, _, _, _, _, _, _, _, _, _, _, _, _, _, rfl⟩
   match i, hi with
   | 0, _ | 1, _ | 2, _ | 3, _ | 4, _ | 5, _ | 6, _ | 7, _ | 8, _ | 9, _ | 10, _ | 11, _ | 12, _ | 13, _ | 14, _ | 15, _ | 16, _ | 17, _ | 18, _ | 19, _ | 20, _ | 21, _ | 22, _ => exact ⟨⟨_, _, _, _, _, _, _, _, _, _, _, _, _, _, _, _, _, _, _, _, _, _, _, rfl⟩, fun t h => by cases h <;> exact of_decide_eq_true rfl⟩
   | i + 23, hi => exact absurd hi (by simp)
 case G0 => exact ⟨(((Below.refl _ _).alloc (Nat.le_refl _) _).alloc (by simp) _).drew, by simp, ((SBox.new wz _ _).alloc _).drew, by simpa using (SBox.new (wz.alloc _) _ _).drew⟩
 case step =>
   rintro i a w1 lst hi ⟨x11, x12, x13, x14, x15, x16, x17, x18, x19, x20, x21, x22, x23, x24, x25, x26, x27, x28, x29, x30, x31, x32, x33, rfl⟩ hl hG hp
   refine wpOp_via (fun K hK => ?_)
   match i, hi with
   | 0, _ =>
     obtain ⟨hb, hsz, h5, h9⟩ := hG
     have c0 := h5.cell 0
     simp only [List.getElem?_toArray, List.getElem?_cons_zero] at c0
     have hl0 := h5.lt
     refine wpOp_at (by rfl) rfl ?_
     go_simp
     exact hK _ _ ⟨_, rfl, ⟨hb, hsz, h5, h9⟩, Below.refl _ _, rfl⟩
   | 1, _ =>
     obtain ⟨hb, hsz, h5, h9⟩ := hG
     refine wpOp_at (by rfl) rfl ?_
     go_simp
     exact hK _ _ ⟨_, rfl, ⟨hb, hsz, h5, h9⟩, Below.refl _ _, rfl⟩
   | 2, _ =>
     obtain ⟨hb, hsz, h5, h9⟩ := hG
     obtain rfl : x13 = _ := hp 1 (by kernel_rfl)
     refine wpOp_at (by rfl) rfl ?_
     go_simp
     exact hK _ _ ⟨_, rfl, ⟨hb.alloc (by omega) _, by simp; omega, h5.alloc _, h9.alloc _⟩, (Below.refl _ _).alloc (Nat.le_refl _) _, _, rfl, Nat.zero_le _, SBox.new _ _ _⟩
   | 3, _ =>
     obtain ⟨hb, hsz, h5, h9⟩ := hG
     have e14 := hp 2 (by kernel_rfl)
     change SlAt _ _ _ x14 _ at e14
     refine wpOp_at (by rfl) rfl ?_
     go_simp
     have hTW := hT.later hb
     refine Calls.mono (clo_names (n := 0) e14 (Nat.zero_le _) (by simpa using hs) (by simp)) ?_
     rintro e w2 ⟨u, rfl, hu, hbw⟩
     exact hK _ _ ⟨_, rfl, ⟨hb.trans (hbw.mono hb.size), by have := hbw.size; omega, h5.later hbw, h9.later hbw⟩, hbw, hu⟩
   | 4, _ =>
     obtain ⟨hb, hsz, h5, h9⟩ := hG
     refine wpOp_at (by rfl) rfl ?_
     go_simp
     exact hK _ _ ⟨_, rfl, ⟨hb, hsz, h5, h9⟩, Below.refl _ _, rfl⟩
   | 5, _ =>
     obtain ⟨hb, hsz, h5, h9⟩ := hG
     obtain rfl : x16 = _ := hp 4 (by kernel_rfl)
     refine wpOp_at (by rfl) rfl ?_
     go_simp
     have hTW := hT.later hb
     refine Calls.mono (clo_kinds kind) ?_
     rintro e w2 ⟨u, rfl, hu, hbw⟩
     exact hK _ _ ⟨_, rfl, ⟨hb.trans (hbw.mono hb.size), by have := hbw.size; omega, h5.later hbw, h9.later hbw⟩, hbw, hu⟩
   | 6, _ =>
     obtain ⟨hb, hsz, h5, h9⟩ := hG
     refine wpOp_at (by rfl) rfl ?_
     go_simp
     exact hK _ _ ⟨_, rfl, ⟨hb, hsz, h5, h9⟩, Below.refl _ _, _, _, rfl, (fun W => enters_of Tryz.func147 (by kernel_rfl) rfl _ W), fun W hW hpre => make1_any _ _ ino W ((hT.later hb).later hW) (h9.later hW) (h5.later hW)⟩
   | 7, _ =>
     obtain ⟨hb, hsz, h5, h9⟩ := hG
     have c0 := h5.cell 0
     simp only [List.getElem?_toArray, List.getElem?_cons_zero] at c0
     have hl0 := h5.lt
     refine wpOp_at (by rfl) rfl ?_
     go_simp
     exact hK _ _ ⟨_, rfl, ⟨hb, hsz, h5, h9⟩, Below.refl _ _, rfl⟩
   | 8, _ =>
     obtain ⟨hb, hsz, h5, h9⟩ := hG
     refine wpOp_at (by rfl) rfl ?_
     go_simp
     exact hK _ _ ⟨_, rfl, ⟨hb, hsz, h5, h9⟩, Below.refl _ _, rfl⟩
   | 9, _ =>
     obtain ⟨hb, hsz, h5, h9⟩ := hG
     obtain rfl : x20 = _ := hp 8 (by kernel_rfl)
     refine wpOp_at (by rfl) rfl ?_
     go_simp
     exact hK _ _ ⟨_, rfl, ⟨hb.alloc (by omega) _, by simp; omega, h5.alloc _, h9.alloc _⟩, (Below.refl _ _).alloc (Nat.le_refl _) _, _, rfl, Nat.zero_le _, SBox.new _ _ _⟩
   | 10, _ =>
     obtain ⟨hb, hsz, h5, h9⟩ := hG
     obtain rfl : x19 = _ := hp 7 (by kernel_rfl)
     have e21 := hp 9 (by kernel_rfl)
     change SlAt _ _ _ x21 _ at e21
     refine wpOp_at (by rfl) rfl ?_
     go_simp
     have hTW := hT.later hb
     refine Calls.mono (clo_there (n := 0) e21 (Nat.zero_le _) hTW (by simpa using hd) (by simp)) ?_
     rintro e w2 ⟨u, rfl, hu, hbw⟩
     exact hK _ _ ⟨_, rfl, ⟨hb.trans (hbw.mono hb.size), by have := hbw.size; omega, h5.later hbw, h9.later hbw⟩, hbw, hu⟩
   | 11, _ =>
     obtain ⟨hb, hsz, h5, h9⟩ := hG
     have c0 := h5.cell 0
     simp only [List.getElem?_toArray, List.getElem?_cons_zero] at c0
     have hl0 := h5.lt
     refine wpOp_at (by rfl) rfl ?_
     go_simp
     exact hK _ _ ⟨_, rfl, ⟨hb, hsz, h5, h9⟩, Below.refl _ _, rfl⟩
   | 12, _ =>
     obtain ⟨hb, hsz, h5, h9⟩ := hG
     refine wpOp_at (by rfl) rfl ?_
     go_simp
     exact hK _ _ ⟨_, rfl, ⟨hb, hsz, h5, h9⟩, Below.refl _ _, rfl⟩
   | 13, _ =>
     obtain ⟨hb, hsz, h5, h9⟩ := hG
     obtain rfl : x24 = _ := hp 12 (by kernel_rfl)
     refine wpOp_at (by rfl) rfl ?_
     go_simp
     exact hK _ _ ⟨_, rfl, ⟨hb.alloc (by omega) _, by simp; omega, h5.alloc _, h9.alloc _⟩, (Below.refl _ _).alloc (Nat.le_refl _) _, _, rfl, Nat.zero_le _, SBox.new _ _ _⟩
   | 14, _ =>
     obtain ⟨hb, hsz, h5, h9⟩ := hG
     obtain rfl : x23 = _ := hp 11 (by kernel_rfl)
     have e25 := hp 13 (by kernel_rfl)
     change SlAt _ _ _ x25 _ at e25
     refine wpOp_at (by rfl) rfl ?_
     go_simp
     have hTW := hT.later hb
     refine Calls.mono (clo_dirs (n := 0) e25 (Nat.zero_le _) hTW (by simpa using hd) (by simp)) ?_
     rintro e w2 ⟨u, rfl, hu, hbw⟩
     exact hK _ _ ⟨_, rfl, ⟨hb.trans (hbw.mono hb.size), by have := hbw.size; omega, h5.later hbw, h9.later hbw⟩, hbw, hu⟩
   | 15, _ =>
     obtain ⟨hb, hsz, h5, h9⟩ := hG
     have c0 := h5.cell 0
     simp only [List.getElem?_toArray, List.getElem?_cons_zero] at c0
     have hl0 := h5.lt
     refine wpOp_at (by rfl) rfl ?_
     go_simp
     exact hK _ _ ⟨_, rfl, ⟨hb, hsz, h5, h9⟩, Below.refl _ _, rfl⟩
   | 16, _ =>
     obtain ⟨hb, hsz, h5, h9⟩ := hG
     refine wpOp_at (by rfl) rfl ?_
     go_simp
     exact hK _ _ ⟨_, rfl, ⟨hb, hsz, h5, h9⟩, Below.refl _ _, rfl⟩
   | 17, _ =>
     obtain ⟨hb, hsz, h5, h9⟩ := hG
     refine wpOp_at (by rfl) rfl ?_
     go_simp
     exact hK _ _ ⟨_, rfl, ⟨hb, hsz, h5, h9⟩, Below.refl _ _, rfl⟩
   | 18, _ =>
     obtain ⟨hb, hsz, h5, h9⟩ := hG
     obtain rfl : x27 = _ := hp 15 (by kernel_rfl)
     obtain rfl : x28 = _ := hp 16 (by kernel_rfl)
     obtain rfl : x29 = _ := hp 17 (by kernel_rfl)
     refine wpOp_at (by rfl) rfl ?_
     go_simp
     have hTW := hT.later hb
     refine Calls.mono (clo_fresh hTW hd hs) ?_
     rintro e w2 ⟨u, rfl, hu, hbw⟩
     exact hK _ _ ⟨_, rfl, ⟨hb.trans (hbw.mono hb.size), by have := hbw.size; omega, h5.later hbw, h9.later hbw⟩, hbw, hu⟩
   | 19, _ =>
     obtain ⟨hb, hsz, h5, h9⟩ := hG
     refine wpOp_at (by rfl) rfl ?_
     go_simp
     exact hK _ _ ⟨_, rfl, ⟨hb, hsz, h5, h9⟩, Below.refl _ _, _, _, rfl, (fun W => enters_of Tryz.func149 (by kernel_rfl) rfl _ W), fun W hW hpre => make2_any _ _ ino hino W ((hT.later hb).later hW) (h5.later hW) (h9.later hW)⟩
   | 20, _ =>
     obtain ⟨hb, hsz, h5, h9⟩ := hG
     have e15 := hp 3 (by kernel_rfl)
     change CloAt _ _ x15 _ at e15
     have e17 := hp 5 (by kernel_rfl)
     change CloAt _ _ x17 _ at e17
     have e18 := hp 6 (by kernel_rfl)
     change CloAt _ _ x18 _ at e18
     have e22 := hp 10 (by kernel_rfl)
     change CloAt _ _ x22 _ at e22
     have e26 := hp 14 (by kernel_rfl)
     change CloAt _ _ x26 _ at e26
     have e30 := hp 18 (by kernel_rfl)
     change CloAt _ _ x30 _ at e30
     have e31 := hp 19 (by kernel_rfl)
     change CloAt _ _ x31 _ at e31
     obtain ⟨f15, l15, rfl, r15⟩ := e15
     obtain ⟨f17, l17, rfl, r17⟩ := e17
     obtain ⟨f18, l18, rfl, r18⟩ := e18
     obtain ⟨f22, l22, rfl, r22⟩ := e22
     obtain ⟨f26, l26, rfl, r26⟩ := e26
     obtain ⟨f30, l30, rfl, r30⟩ := e30
     obtain ⟨f31, l31, rfl, r31⟩ := e31
     refine wpOp_at (by rfl) rfl ?_
     go_simp
     exact hK _ _ ⟨_, rfl, ⟨hb.alloc (by omega) _, by simp; omega, h5.alloc _, h9.alloc _⟩, (Below.refl _ _).alloc (Nat.le_refl _) _, _, _, _, _, _, _, _, ⟨_, rfl, Nat.zero_le _, SBox.new _ _ _⟩, CloAt.later ⟨f15, l15, rfl, r15⟩ ((Below.refl _ _).alloc (Nat.le_refl _) _), CloAt.later ⟨f17, l17, rfl, r17⟩ ((Below.refl _ _).alloc (Nat.le_refl _) _), CloAt.later ⟨f18, l18, rfl, r18⟩ ((Below.refl _ _).alloc (Nat.le_refl _) _), CloAt.later ⟨f22, l22, rfl, r22⟩ ((Below.refl _ _).alloc (Nat.le_refl _) _), CloAt.later ⟨f26, l26, rfl, r26⟩ ((Below.refl _ _).alloc (Nat.le_refl _) _), CloAt.later ⟨f30, l30, rfl, r30⟩ ((Below.refl _ _).alloc (Nat.le_refl _) _), CloAt.later ⟨f31, l31, rfl, r31⟩ ((Below.refl _ _).alloc (Nat.le_refl _) _)⟩
   | 21, _ =>
     obtain ⟨hb, hsz, h5, h9⟩ := hG
     obtain rfl : x12 = _ := hp 0 (by kernel_rfl)
     obtain ⟨v15, v17, v18, v22, v26, v30, v31, ⟨b9, he9, _, hb9⟩, q15, q17, q18, q22, q26, q30, q31⟩ := hp 20 (by kernel_rfl)
     change x32 = _ at he9
     subst he9
     refine wpOp_at (by rfl) rfl ?_
     go_simp
     refine Calls.mono (check_clo E.t b9 [v15, v17, v18, v22, v26, v30, v31] [errB ([s].any fun s => !isName (L s)) 2, errB (kind != 1 && kind != 2) 2, errB (decide (ino < 1) || decide (room < ino)) 2, errB ([dir].any fun x => (S.n x).kind == 0) 3, errB ([dir].any fun x => !((S.n x).kind == 2)) 180, errB (S.l dir (L s) != 0) 9, errB ((S.n ino).kind != 0) 9] w1 (by simp) (by simp) hb9 ?cl) ?_
     case cl =>
       intro i hi
       match i, hi with
       | 0, _ => exact q15.weak (fun hz => trivial)
       | 1, _ => exact q17.weak (fun hz => trivial)
       | 2, _ => exact q18.weak (fun hz => trivial)
       | 3, _ => exact q22.weak (fun hz => trivial)
       | 4, _ => exact q26.weak (fun hz => errB_no (hz 3 (by omega)) (by decide))
       | 5, _ => exact q30.weak (fun hz => (by have h := errB_no (hz 3 (by omega)) (by decide); simpa using h))
       | 6, _ => exact q31.weak (fun hz => trivial)
       | i + 7, hi => exact absurd hi (by simp)
     rintro e w2 ⟨rfl, hbw⟩
     exact hK _ _ ⟨_, rfl, ⟨hb.trans (hbw.mono hb.size), by have := hbw.size; omega, h5.later hbw, h9.later hbw⟩, hbw, rfl⟩
   | 22, _ =>
     obtain ⟨hb, hsz, h5, h9⟩ := hG
     obtain rfl : x33 = _ := hp 21 (by kernel_rfl)
     refine wpOp_at (by rfl) rfl ?_
     go_simp
     exact hK _ _ ⟨_, rfl, ⟨hb, hsz, h5, h9⟩, Below.refl _ _, rfl⟩
   | i + 23, hi => exact absurd hi (by simp)
 case done =>
   rintro a w2 lst hl ⟨x11, x12, x13, x14, x15, x16, x17, x18, x19, x20, x21, x22, x23, x24, x25, x26, x27, x28, x29, x30, x31, x32, x33, rfl⟩ ⟨hb, hsz, h5, h9⟩ hp
   obtain rfl : x11 = _ := hp 22 (by simp)
   have HB := Lib.hid hb
   have HT := Lib.hid (hT.later hb)
   have SZ := Lib.hid hsz
   clear hp hb hsz hl hT
   by_cases h0 : makeE S room dir s kind ino = 0
   · have H0 := Lib.hid h0
     have HK := Lib.hid (makeE_ok h0)
     rw [h0]
     clear h0
     go_wp2_with fail
     refine wp_region_phi2 (by kernel_rfl) (fun | 0 => some 37 | 1 => some 38 | 2 => some 39 | 3 => some 40 | 4 => some 41 | 5 => some 42 | 6 => some 43 | 7 => none | _ => none) (fun a => ∃ x37 x38 x39 x40 x41 x42 x43 : Value, a = ⟨#[.pointer (some ⟨E.t, 0, none⟩), .int .u32 dir, .string s, .int .u8 kind, .int .u32 ino, .pointer (some ⟨wz.heap.size, 0, none⟩), undef, undef, undef, .pointer (some ⟨wz.heap.size + 1, 0, none⟩), .int .i64 0, .int .i64 0, x12, x13, x14, x15, x16, x17, x18, x19, x20, x21, x22, x23, x24, x25, x26, x27, x28, x29, x30, x31, x32, x33, (.int .i64 0), (.bool false), undef, x37, x38, x39, x40, x41, x42, x43, undef, undef, undef, undef, undef], []⟩) (fun lst W => (lst 7 = false → Below w2.heap.size w2 W) ∧ (lst 7 = true → ∃ p a b, TreeAt W (E.add ino p a b) room q ⟨setN S.n ino ⟨kind, kind / 2, 0, 0, []⟩, S.l⟩ ∧ Tch E.O w2 W ∧ w2.heap.size ≤ p ∧ w2.heap.size ≤ a ∧ w2.heap.size ≤ b) ∧ SBox W (wz.heap.size) 27 #[.pointer (some ⟨E.t, 0, none⟩)] ∧ SBox W (wz.heap.size + 1) 37 #[.int .u32 ino]) (fun i w1 w3 => StayN w2.heap.size w1 w3) (fun | 0 => (fun v w => v = Value.pointer (some ⟨E.t, 0, none⟩)) | 1 => (fun v w => v = Value.pointer (some ⟨E.t, 0, none⟩)) | 2 => (fun v w => v = Value.pointer (some ⟨E.t, 1, none⟩)) | 3 => (fun v w => v = Value.map (some E.m)) | 4 => (fun v w => v = Value.int .u32 ino) | 5 => (fun v w => v = Value.int .u8 kind) | 6 => (fun v w => ∃ p a b, v = Value.pointer (some ⟨p, 0, none⟩) ∧ FreshN w2 w kind p a b) | 7 => (fun v w => True) | _ => (fun _ _ => True)) (by kernel_rfl) ?st (by kernel_rfl) ?AA ⟨_, _, _, _, _, _, _, rfl⟩ ?G0 ?step ?done
     case st =>
       intro i j v w1 w2 hi hj hij hw hp hs
       have hi : i < 8 := hi
       match j, hp with
       | 0, hp | 1, hp | 2, hp | 3, hp | 4, hp | 5, hp => exact hp
       | 6, hp =>
         obtain ⟨p, a, b, h1, h2⟩ := hp
         exact ⟨p, a, b, h1, h2.stay hs⟩
       | 7, hp =>
         exact trivial
       | j + 8, _ => exact trivial
     case AA =>
       rintro i a v hi ⟨_, _, _, _, _, _, _, rfl⟩
       match i, hi with
       | 0, _ | 1, _ | 2, _ | 3, _ | 4, _ | 5, _ | 6, _ | 7, _ => exact ⟨⟨_, _, _, _, _, _, _, rfl⟩, fun t h => by cases h <;> exact of_decide_eq_true rfl⟩
       | i + 8, hi => exact absurd hi (by simp)
     case G0 => exact ⟨fun _ => (Below.refl _ _).drew, fun h => (by cases h), h5.drew, h9.drew⟩
     case step =>
       rintro i a w1 lst hi ⟨x37, x38, x39, x40, x41, x42, x43, rfl⟩ hl hcl hG hp
       refine wpOp_via (fun K hK => ?_)
       match i, hi with
       | 0, _ =>
         obtain ⟨hA, hC, h5, h9⟩ := hG
         have h7 : lst 7 = false := by
           cases h7 : lst 7 with
           | false => rfl
           | true => exact absurd (hcl 7 0 (by show (7 : Nat) < 8; decide) h7 (by kernel_rfl)) (by rw [hl]; decide)
         have hb := hA h7
         have hTW := HT.out.later hb
         have c0 := h5.cell 0
         simp only [List.getElem?_toArray, List.getElem?_cons_zero] at c0
         have hl0 := h5.lt
         refine wpOp_at (by rfl) rfl ?_
         go_simp
         exact hK _ _ ⟨_, rfl, ⟨fun h => hb, fun h => absurd h (by show ¬ (if 7 = 0 then true else lst 7) = true; rw [if_neg (by decide), h7]; decide), h5, h9⟩, StayN.refl _ _, rfl⟩
       | 1, _ =>
         obtain ⟨hA, hC, h5, h9⟩ := hG
         have h7 : lst 7 = false := by
           cases h7 : lst 7 with
           | false => rfl
           | true => exact absurd (hcl 7 1 (by show (7 : Nat) < 8; decide) h7 (by kernel_rfl)) (by rw [hl]; decide)
         have hb := hA h7
         have hTW := HT.out.later hb
         obtain rfl : x37 = _ := hp 0 (by kernel_rfl)
         have hY := hTW.top
         have c0 := hY.cell 0
         have c1 := hY.cell 1
         simp only [List.getElem?_toArray, List.getElem?_cons_zero, List.getElem?_cons_succ] at c0 c1
         have hl0 := hY.lt
         refine wpOp_at (by rfl) rfl ?_
         go_simp
         exact hK _ _ ⟨_, rfl, ⟨fun h => hb, fun h => absurd h (by show ¬ (if 7 = 1 then true else lst 7) = true; rw [if_neg (by decide), h7]; decide), h5, h9⟩, StayN.refl _ _, rfl⟩
       | 2, _ =>
         obtain ⟨hA, hC, h5, h9⟩ := hG
         have h7 : lst 7 = false := by
           cases h7 : lst 7 with
           | false => rfl
           | true => exact absurd (hcl 7 2 (by show (7 : Nat) < 8; decide) h7 (by kernel_rfl)) (by rw [hl]; decide)
         have hb := hA h7
         have hTW := HT.out.later hb
         obtain rfl : x38 = _ := hp 1 (by kernel_rfl)
         have hY := hTW.top
         have c0 := hY.cell 0
         have c1 := hY.cell 1
         simp only [List.getElem?_toArray, List.getElem?_cons_zero, List.getElem?_cons_succ] at c0 c1
         have hl0 := hY.lt
         refine wpOp_at (by rfl) rfl ?_
         go_simp
         exact hK _ _ ⟨_, rfl, ⟨fun h => hb, fun h => absurd h (by show ¬ (if 7 = 2 then true else lst 7) = true; rw [if_neg (by decide), h7]; decide), h5, h9⟩, StayN.refl _ _, rfl⟩
       | 3, _ =>
         obtain ⟨hA, hC, h5, h9⟩ := hG
         have h7 : lst 7 = false := by
           cases h7 : lst 7 with
           | false => rfl
           | true => exact absurd (hcl 7 3 (by show (7 : Nat) < 8; decide) h7 (by kernel_rfl)) (by rw [hl]; decide)
         have hb := hA h7
         have hTW := HT.out.later hb
         obtain rfl : x39 = _ := hp 2 (by kernel_rfl)
         have hY := hTW.top
         have c0 := hY.cell 0
         have c1 := hY.cell 1
         simp only [List.getElem?_toArray, List.getElem?_cons_zero, List.getElem?_cons_succ] at c0 c1
         have hl0 := hY.lt
         refine wpOp_at (by rfl) rfl ?_
         go_simp
         exact hK _ _ ⟨_, rfl, ⟨fun h => hb, fun h => absurd h (by show ¬ (if 7 = 3 then true else lst 7) = true; rw [if_neg (by decide), h7]; decide), h5, h9⟩, StayN.refl _ _, rfl⟩
       | 4, _ =>
         obtain ⟨hA, hC, h5, h9⟩ := hG
         have h7 : lst 7 = false := by
           cases h7 : lst 7 with
           | false => rfl
           | true => exact absurd (hcl 7 4 (by show (7 : Nat) < 8; decide) h7 (by kernel_rfl)) (by rw [hl]; decide)
         have hb := hA h7
         have hTW := HT.out.later hb
         have c0 := h9.cell 0
         simp only [List.getElem?_toArray, List.getElem?_cons_zero] at c0
         have hl0 := h9.lt
         refine wpOp_at (by rfl) rfl ?_
         go_simp
         exact hK _ _ ⟨_, rfl, ⟨fun h => hb, fun h => absurd h (by show ¬ (if 7 = 4 then true else lst 7) = true; rw [if_neg (by decide), h7]; decide), h5, h9⟩, StayN.refl _ _, rfl⟩
       | 5, _ =>
         obtain ⟨hA, hC, h5, h9⟩ := hG
         have h7 : lst 7 = false := by
           cases h7 : lst 7 with
           | false => rfl
           | true => exact absurd (hcl 7 5 (by show (7 : Nat) < 8; decide) h7 (by kernel_rfl)) (by rw [hl]; decide)
         have hb := hA h7
         have hTW := HT.out.later hb
         refine wpOp_at (by rfl) rfl ?_
         go_simp
         exact hK _ _ ⟨_, rfl, ⟨fun h => hb, fun h => absurd h (by show ¬ (if 7 = 5 then true else lst 7) = true; rw [if_neg (by decide), h7]; decide), h5, h9⟩, StayN.refl _ _, rfl⟩
       | 6, _ =>
         obtain ⟨hA, hC, h5, h9⟩ := hG
         have h7 : lst 7 = false := by
           cases h7 : lst 7 with
           | false => rfl
           | true => exact absurd (hcl 7 6 (by show (7 : Nat) < 8; decide) h7 (by kernel_rfl)) (by rw [hl]; decide)
         have hb := hA h7
         have hTW := HT.out.later hb
         obtain rfl : x42 = _ := hp 5 (by kernel_rfl)
         refine wpOp_at (by rfl) rfl ?_
         go_simp
         refine Calls.mono (fresh_any kind HK.out.2.1 w1) ?_
         rintro e w3 ⟨p, a, b, rfl, F⟩
         exact hK _ _ ⟨_, rfl, ⟨fun h => hb.trans (F.bel.mono hb.size), fun h => absurd h (by show ¬ (if 7 = 6 then true else lst 7) = true; rw [if_neg (by decide), h7]; decide), h5.later F.bel, h9.later F.bel⟩, StayN.of F.bel, p, a, b, rfl, F.n hb.size⟩
       | 7, _ =>
         obtain ⟨hA, hC, h5, h9⟩ := hG
         have hb := hA hl
         have hTW := HT.out.later hb
         obtain rfl : x40 = _ := hp 3 (by kernel_rfl)
         obtain rfl : x41 = _ := hp 4 (by kernel_rfl)
         obtain ⟨p, a, b, e43, F⟩ := hp 6 (by kernel_rfl)
         change x43 = _ at e43
         subst e43
         obtain ⟨W9, hrun, hT2, hm⟩ := HT.out.born (F.at_ hb) HK.out.2.1 HK.out.2.2.2.2.2.2 HK.out.2.2.1 HK.out.2.2.2.1 (fun s => HI.out.noL _ s (by rw [HK.out.2.2.2.2.2.2]; decide)) HI.out.rng
         have B5 := hTW.boxed hm h5
         have B9 := hTW.boxed hm h9
         have TT := Lib.hid (Tch.turned hm HT.out.own.2.1)
         have SS := Lib.hid (stay_turned (n := w2.heap.size) hm HT.out.map.lt)
         have FF := Lib.hid F.lo
         have T2 := Lib.hid hT2
         clear hT2 hm F h5 h9 hC hA hTW
         refine wpOp_at (by rfl) rfl ?_
         go_simp
         exact hK _ _ ⟨undef, rfl, ⟨fun h => absurd h (by show ¬ (if 7 = 7 then true else lst 7) = false; rw [if_pos rfl]; decide), fun h => ⟨p, a, b, T2.out, (Tch.of hb).trans TT.out, FF.out⟩, B5, B9⟩, SS.out, trivial⟩
       | i + 8, hi => exact absurd hi (by simp)
     case done =>
       rintro a w4 lst hl ⟨x37, x38, x39, x40, x41, x42, x43, rfl⟩ ⟨hA, hC, h5, h9⟩ hp
       obtain ⟨p, a, b, hT4, tc4, hp4, ha4, hb4⟩ := hC (hl 7 (by show (7 : Nat) < 8; decide))
       have X0 := h5.cell 0
       have X1 := h9.cell 0
       simp only [List.getElem?_toArray, List.getElem?_cons_zero] at X0 X1
       have Xl0 := h5.lt
       have Xl1 := h9.lt
       have k0 : ino ≠ dir := fun e => by have h1 := HK.out.2.2.2.2.1; have h2 := HK.out.2.2.2.2.2.2; rw [e] at h2; omega
       have EN := Lib.hid (enter_any hT4 HQ.out dir ino s hs hd hino (by show (setN S.n ino _ dir).kind ≠ 0; rw [setN_other _ _ (Ne.symm k0), HK.out.2.2.2.2.1]; decide) (by show (setN S.n ino _ ino).kind ≠ 0; rw [setN_same]; have := HK.out.2.1; show kind ≠ 0; omega) (by have := HK.out.2.2.1; omega) (by show (setN S.n ino _ ino).links < 100000; rw [setN_same]; have := HK.out.2.1; show kind / 2 < 100000; omega))
       have TC := Lib.hid tc4
       have LO := Lib.hid (And.intro hp4 (And.intro ha4 hb4))
       have T4 := Lib.hid hT4
       clear hT4 tc4 hp4 ha4 hb4 hA hC hp hl h5 h9
       go_wp2_with fail
       refine Calls.mono EN.out ?_
       rintro e w8 ⟨rfl, hT8, tc8⟩
       have T8 := Lib.hid hT8
       have C8 := Lib.hid tc8
       clear hT8 tc8 EN
       go_wp2_with fail
       go_ret
       have e9 := H0.out
       have HX : Ext E (E.add ino p a b) wz.heap.size := ⟨rfl, fun c h => .inl h, fun c h => ?_⟩
       rotate_left
       · have := LO.out
         have := HB.out.size
         rcases h with h | rfl | rfl | rfl
         · exact .inl h
         all_goals exact .inr (by omega)
       refine ⟨by rw [e9]; rfl, E.add ino p a b, HX, ?_, ?_⟩
       · unfold makeS
         rw [if_pos e9]
         have h := T8.out
         rw [setN_same] at h
         have e2 : setN (setN S.n ino ⟨kind, kind / 2, 0, 0, []⟩) ino (gain ⟨kind, kind / 2, 0, 0, []⟩ dir) = setN S.n ino (gain ⟨kind, kind / 2, 0, 0, []⟩ dir) := by funext y; by_cases ey : y = ino <;> simp [setN, ey]
         rw [e2] at h
         exact h
       · exact Tch.ext ((Tch.of HB.out).trans TC.out) C8.out HX.new
   · have t0 : ((makeE S room dir s kind ino : Int) != 0) = true := by simp; omega
     have H0 := Lib.hid h0
     clear h0
     go_wp2_with fail
     go_ret
     exact ⟨rfl, by unfold makeS; rw [if_neg H0.out]; exact Did.of (HT.out.more (Nat.le_succ _) (by have := HQ.out; omega)) (Tch.of HB.out)⟩
end Go.Proofs.YtmfhnhnmdeabeaaGreat.Tr
end
