/- Layer 18 (tree): Rename, of what may be. -/
import Derived.Test.YtmfhnhnmdeabeaaGreatM08
import Derived.Test.YtmfhnhnmdeabeaaGreatM09
set_option linter.unusedVariables false
set_option linter.unusedSimpArgs false
set_option maxRecDepth 100000
section
namespace Go.Proofs.YtmfhnhnmdeabeaaGreat.Tr
open Go.RowKit Go.Shelf Go.Maps Oct Path
variable {E : TL} {room q : Nat} {S : T}
def cutS (S : T) (dir : Nat) (s : Nm) (ino : Nat) : T := freeS ⟨setN S.n ino (loss (S.n ino)), setL S.l dir s 0⟩ ino
theorem lookE_ok {S : T} {dir : Nat} {s : Nm} (h1 : isName s = true) (h2 : (S.n dir).kind = 2) (h3 : S.l dir s ≠ 0) : lookE S dir s = 0 ∧ lookI S dir s = S.l dir s := by
 have h : lookE S dir s = 0 := by unfold lookE; simp [h1, h2, h3]
 exact ⟨h, by unfold lookI; rw [if_pos h]⟩
set_option maxHeartbeats 4000000 in
theorem drop_ok (f : Nat) (wz : World) (hT : TreeAt wz E room q S) (hI : Inv room S) (dir : Nat) (s : ByteArray) (ino : Nat) (hs : s.size ≤ maxLen) (hd : dir < 4294967296) (hn : isName (L s) = true) (hk2 : (S.n dir).kind = 2) (hl : S.l dir (L s) = ino) (hi0 : ino ≠ 0)
   (hf : ∀ W, (callFunc f #[.pointer (some ⟨E.P ino, 0, none⟩)]).run Tryz.prog W = .ok (.enter f #[.pointer (some ⟨E.P ino, 0, none⟩)]) W)
   (hmay : ∀ W, TreeAt W E room q S → Calls Tryz.prog f #[.pointer (some ⟨E.P ino, 0, none⟩)] W fun e w' => e = .returned (.int .i64 0) ∧ W = w') :
   Calls Tryz.prog 152 #[.pointer (some ⟨E.t, 0, none⟩), .int .u32 dir, .string s, .func (.func f) #[] #[]] wz fun e w' => e = .returned (.tuple #[.int .u32 ino, .int .i64 0]) ∧ TreeAt w' E room q (cutS S dir (L s) ino) ∧ Tch E.O wz w' := by
 have ki := (hI.ent dir (L s) (by rw [hl]; exact hi0)).1
 rw [hl] at ki
 have hi : ino < 4294967296 := by have := hI.rng ino ki; have := hT.rm; omega
 have LK := look_any dir s wz hT hs hd
 obtain ⟨e1, e2⟩ := lookE_ok hn hk2 (by rw [hl]; exact hi0)
 rw [e1, e2, hl] at LK
 have hlk : (S.n ino).kind ≠ 2 → (S.n ino).links ≠ 0 := fun h2 => by
   have k1 : (S.n ino).kind = 1 := by have := hI.k2 ino; omega
   exact (hI.cnt ino k1).pos hl
 have HT := Lib.hid hT
 have HL := Lib.hid hl
 have HM := Lib.hid hmay
 have KD := Lib.hid (show (S.n dir).kind ≠ 0 by omega)
 have KI := Lib.hid ki
 have HK := Lib.hid hlk
 have HC := Lib.hid LK
 clear e1 e2 LK hT hI hl hmay hk2 ki hlk
 go_enter Tryz.func152, Tryz.ntmps152
 go_wp2_with fail
 refine Calls.mono HC.out ?_
 rintro e w2 ⟨rfl, hb⟩
 have HB := Lib.hid hb
 have HT2 := Lib.hid (HT.out.later hb)
 clear hb
 have LQ := HT2.out.look_is hi KI.out
 have hY := HT2.out.top
 have Y0 := hY.cell 0
 have Y1 := hY.cell 1
 simp only [List.getElem?_toArray, List.getElem?_cons_zero, List.getElem?_cons_succ] at Y0 Y1
 have Yl := hY.lt
 clear hY
 go_wp2_with fail
 refine Calls.mono (HM.out _ HT2.out) ?_
 rintro e w9 ⟨rfl, rfl⟩
 go_wp2_with fail
 refine Calls.mono (leave_any HT2.out dir ino s hs hd hi KD.out KI.out HL.out HK.out) ?_
 rintro e w3 ⟨rfl, hT3, tc3⟩
 have HT3 := Lib.hid hT3
 have C3 := Lib.hid tc3
 clear hT3 tc3
 go_wp2_with fail
 refine Calls.mono (free_any HT3.out ino hi (by show (setN S.n ino _ ino).kind ≠ 0; rw [setN_same, loss_kind]; exact KI.out)) ?_
 rintro e w4 ⟨rfl, hT4, tc4⟩
 have HT4 := Lib.hid hT4
 have C4 := Lib.hid tc4
 clear hT4 tc4
 go_wp2_with fail
 go_ret2
 exact ⟨rfl, HT4.out, (Tch.of HB.out).trans (C3.out.trans C4.out)⟩
theorem unlink_ok (wz : World) (hT : TreeAt wz E room q S) (hI : Inv room S) (dir : Nat) (s : ByteArray) (ino : Nat) (hs : s.size ≤ maxLen) (hd : dir < 4294967296) (hn : isName (L s) = true) (hk2 : (S.n dir).kind = 2) (hl : S.l dir (L s) = ino) (hi0 : ino ≠ 0) (hk : (S.n ino).kind ≠ 2) :
   Calls Tryz.prog 135 #[.pointer (some ⟨E.t, 0, none⟩), .int .u32 dir, .string s] wz fun e w' => e = .returned (.tuple #[.int .u32 ino, .int .i64 0]) ∧ TreeAt w' E room q (cutS S dir (L s) ino) ∧ Tch E.O wz w' := by
 have ki := (hI.ent dir (L s) (by rw [hl]; exact hi0)).1
 rw [hl] at ki
 have D := Lib.hid (drop_ok 154 wz hT hI dir s ino hs hd hn hk2 hl hi0 (fun W => enters_of Tryz.func154 (by kernel_rfl) rfl _ W) (fun W h => unlink1_ok W h ino ki hk))
 clear hT hI hn hk2 hl hi0 hk ki
 go_enter Tryz.func135, Tryz.ntmps135
 go_wp2_with fail
 refine Calls.mono D.out ?_
 rintro e w2 ⟨rfl, hT2, tc2⟩
 go_wp2_with fail
 go_ret2
 exact ⟨rfl, hT2, tc2⟩
theorem rmdir_ok (wz : World) (hT : TreeAt wz E room q S) (hI : Inv room S) (dir : Nat) (s : ByteArray) (ino : Nat) (hs : s.size ≤ maxLen) (hd : dir < 4294967296) (hn : isName (L s) = true) (hk2 : (S.n dir).kind = 2) (hl : S.l dir (L s) = ino) (hi0 : ino ≠ 0) (hk : (S.n ino).kind = 2) (hle : ∀ t, S.l ino t = 0) :
   Calls Tryz.prog 134 #[.pointer (some ⟨E.t, 0, none⟩), .int .u32 dir, .string s] wz fun e w' => e = .returned (.tuple #[.int .u32 ino, .int .i64 0]) ∧ TreeAt w' E room q (cutS S dir (L s) ino) ∧ Tch E.O wz w' := by
 have D := Lib.hid (drop_ok 153 wz hT hI dir s ino hs hd hn hk2 hl hi0 (fun W => enters_of Tryz.func153 (by kernel_rfl) rfl _ W) (fun W h => rmdir1_ok W h ino hk hle))
 clear hT hI hn hk2 hl hi0 hk hle
 go_enter Tryz.func134, Tryz.ntmps134
 go_wp2_with fail
 refine Calls.mono D.out ?_
 rintro e w2 ⟨rfl, hT2, tc2⟩
 go_wp2_with fail
 go_ret2
 exact ⟨rfl, hT2, tc2⟩
theorem cutS_eq (hI : Inv room S) {dir : Nat} {s : Nm} {ino : Nat} (hl : S.l dir s = ino) (hi0 : ino ≠ 0) : cutS S dir s ino = ⟨setN S.n ino (lose (S.n ino)), setL S.l dir s 0⟩ := by
 have h1 := hI.ent dir s (by rw [hl]; exact hi0)
 rw [hl] at h1
 have k2 := hI.k2 ino
 have hdr := hI.dr ino
 unfold cutS freeS freeB
 have key : ∀ v w : Nd, setN (setN S.n ino v) ino w = setN S.n ino w := fun v w => by funext y; by_cases ey : y = ino <;> simp [setN, ey]
 simp only [setN_same, key]
 by_cases h2 : (S.n ino).kind = 2
 · have := hdr h2
   simp [loss, lose, h2, h1.2, this.1]
 · have k1 : (S.n ino).kind = 1 := by omega
   simp only [loss, lose, fre, h2, if_false, h1.2, bne_iff_ne]
   by_cases h3 : (S.n ino).held = 0 <;> by_cases h4 : (S.n ino).links - 1 = 0 <;> simp [h3, h4, h1.2, h2]
end Go.Proofs.YtmfhnhnmdeabeaaGreat.Tr
end
section
namespace Go.Proofs.YtmfhnhnmdeabeaaGreat.Tr
open Go.RowKit Go.Shelf Go.Maps Oct Path
variable {E : TL} {room q : Nat} {S : T}
def mvS (S : T) (dir : Nat) (s : Nm) (to : Nat) (t : Nm) (ino : Nat) : T :=
 let S2 : T := ⟨setN S.n ino (loss (S.n ino)), setL S.l dir s 0⟩
 ⟨setN S2.n ino (gain (S2.n ino) to), setL S2.l to t ino⟩
structure RenOk (S : T) (dir : Nat) (s : Nm) (to : Nat) (t : Nm) (ino old : Nat) : Prop where
 n1 : isName s = true
 n2 : isName t = true
 d1 : (S.n dir).kind = 2
 d2 : (S.n to).kind = 2
 l1 : S.l dir s = ino
 i0 : ino ≠ 0
 l2 : S.l to t = old
 bel : (S.n ino).kind = 2 → ¬ Bel S ino to
 ok : old ≠ 0 → old ≠ ino → (S.n old).kind = (S.n ino).kind ∧ ∀ u, S.l old u = 0
theorem inv_cut (h : Inv room S) {to old : Nat} {t : Nm} (hl : S.l to t = old) (h0 : old ≠ 0) (hle : ∀ u, S.l old u = 0) : Inv room (cutS S to t old) := by
 rw [cutS_eq h hl h0]
 have hk : (S.n to).kind = 2 := Classical.byContradiction fun q => h0 (by rw [← hl]; exact h.noL to t q)
 exact inv_unlink h hk hl h0 hle
theorem RenOk.cut {dir to ino old : Nat} {s t : Nm} (h : RenOk S dir s to t ino old) (hI : Inv room S) (h0 : old ≠ 0) (h1 : old ≠ ino) : RenOk (cutS S to t old) dir s to t ino 0 := by
 have hle := (h.ok h0 h1).2
 have hne : ¬ (dir = to ∧ s = t) := fun e => h1 (by rw [← h.l2, ← h.l1, e.1, e.2])
 have hod : old ≠ dir := fun e => by have := hle s; rw [e, h.l1] at this; exact h.i0 this
 have hot : old ≠ to := fun e => by have q := hle t; have q2 := h.l2; rw [← e] at q2; exact h0 (q2.symm.trans q)
 rw [cutS_eq hI h.l2 h0]
 refine ⟨h.n1, h.n2, ?_, ?_, ?_, h.i0, ?_, ?_, fun q => absurd rfl q⟩
 · show (setN S.n old _ dir).kind = 2
   rw [setN_other _ _ (Ne.symm hod)]; exact h.d1
 · show (setN S.n old _ to).kind = 2
   rw [setN_other _ _ (Ne.symm hot)]; exact h.d2
 · show setL S.l to t 0 dir s = ino
   unfold setL
   rw [if_neg hne]; exact h.l1
 · show setL S.l to t 0 to t = 0
   simp [setL]
 · show (setN S.n old _ ino).kind = 2 → _
   rw [setN_other _ _ (Ne.symm h1)]
   intro k hb
   refine h.bel k (hb.mono fun x hx => ?_)
   by_cases e : x = old
   · exfalso
     subst e
     have hx' : (setN S.n x (lose (S.n x)) x).up ≠ 0 := hx
     rw [setN_same] at hx'
     have hk : (S.n x).kind = 2 := by rw [(h.ok h0 h1).1]; exact k
     unfold lose at hx'
     rw [if_pos hk] at hx'
     exact hx' rfl
   · left
     show (S.n x).up = (setN S.n old _ x).up
     rw [setN_other _ _ e]
theorem RenOk.ki {dir to ino old : Nat} {s t : Nm} (h : RenOk S dir s to t ino old) (hI : Inv room S) : (S.n ino).kind ≠ 0 := by
 have := (hI.ent dir s (by rw [h.l1]; exact h.i0)).1
 rwa [h.l1] at this
theorem mv1 {dir to ino old : Nat} {s t : ByteArray} (hI : Inv room S) (h : RenOk S dir (L s) to (L t) ino old) (w : World) (hT : TreeAt w E room q S) (hs : s.size ≤ maxLen) (hd : dir < 4294967296) (hi : ino < 4294967296) :
   Calls Tryz.prog 157 #[.pointer (some ⟨E.t, 0, none⟩), .int .u32 dir, .string s] w fun e w' => e = .returned (.tuple #[]) ∧ TreeAt w' E room q ⟨setN S.n ino (loss (S.n ino)), setL S.l dir (L s) 0⟩ ∧ Tch E.O w w' :=
 leave_any hT dir ino s hs hd hi (by rw [h.d1]; decide) (h.ki hI) h.l1 (fun h2 => (hI.cnt ino (by have := hI.k2 ino; have := h.ki hI; omega)).pos h.l1)
theorem mv2 {dir to ino old : Nat} {s t : ByteArray} (hI : Inv room S) (h : RenOk S dir (L s) to (L t) ino old) (w : World) (hT : TreeAt w E room q ⟨setN S.n ino (loss (S.n ino)), setL S.l dir (L s) 0⟩) (hlk : (S.n ino).links ≤ 100000) (hq : q < 100000) (ht : t.size ≤ maxLen) (hto : to < 4294967296) (hi : ino < 4294967296) :
   Calls Tryz.prog 150 #[.pointer (some ⟨E.t, 0, none⟩), .int .u32 to, .string t, .int .u32 ino] w fun e w' => e = .returned (.tuple #[]) ∧ TreeAt w' E room (q + 1) (mvS S dir (L s) to (L t) ino) ∧ Tch E.O w w' := by
 have hk : ∀ x, (setN S.n ino (loss (S.n ino)) x).kind = (S.n x).kind := kind_set (loss_kind _)
 refine enter_any hT hq to ino t ht hto hi ?_ ?_ h.i0 ?_
 · show (setN S.n ino _ to).kind ≠ 0
   rw [hk, h.d2]; decide
 · show (setN S.n ino _ ino).kind ≠ 0
   rw [hk]; exact h.ki hI
 · show (setN S.n ino _ ino).links < 100000
   rw [setN_same]
   by_cases h2 : (S.n ino).kind = 2
   · have := (hI.dr ino h2).2.1
     simp only [loss, h2, if_true, this]; decide
   · have hp := (hI.cnt ino (by have := hI.k2 ino; have := h.ki hI; omega)).pos h.l1
     simp only [loss, h2, if_false]
     omega
theorem mv3 {dir to ino old : Nat} {s t : ByteArray} (hI : Inv room S) (h : RenOk S dir (L s) to (L t) ino old) (h0 : old ≠ 0) (h1 : old ≠ ino) (w : World) (hT : TreeAt w E room q S) (ht : t.size ≤ maxLen) (hto : to < 4294967296) :
   Calls Tryz.prog 157 #[.pointer (some ⟨E.t, 0, none⟩), .int .u32 to, .string t] w fun e w' => e = .returned (.tuple #[]) ∧ TreeAt w' E room q ⟨setN S.n old (loss (S.n old)), setL S.l to (L t) 0⟩ ∧ Tch E.O w w' := by
 have hk := (h.ok h0 h1).1
 have ki := h.ki hI
 have := hI.rng old (by omega)
 have := hT.rm
 exact leave_any hT to old t ht hto (by omega) (by rw [h.d2]; decide) (by omega) h.l2 (fun h2 => (hI.cnt old (by have := hI.k2 old; omega)).pos h.l2)
theorem mv4 {dir to ino old : Nat} {s t : ByteArray} (hI : Inv room S) (h : RenOk S dir (L s) to (L t) ino old) (h0 : old ≠ 0) (h1 : old ≠ ino) (w : World) (hT : TreeAt w E room q ⟨setN S.n old (loss (S.n old)), setL S.l to (L t) 0⟩) :
   Calls Tryz.prog 66 #[.pointer (some ⟨E.t, 0, none⟩), .int .u32 old] w fun e w' => e = .returned (.tuple #[]) ∧ TreeAt w' E room q (cutS S to (L t) old) ∧ Tch E.O w w' := by
 have hk := (h.ok h0 h1).1
 have ki := h.ki hI
 have := hI.rng old (by omega)
 have := hT.rm
 exact free_any hT old (by omega) (by show (setN S.n old _ old).kind ≠ 0; rw [setN_same, loss_kind]; omega)
set_option maxHeartbeats 4000000 in
theorem check_ren (wz : World) (hT : TreeAt wz E room q S) (dir to : Nat) (s t : ByteArray) (hs : s.size ≤ maxLen) (ht : t.size ≤ maxLen) (hd : dir < 4294967296) (hto : to < 4294967296) (n1 : isName (L s) = true) (n2 : isName (L t) = true) (d1 : (S.n dir).kind = 2) (d2 : (S.n to).kind = 2) (v1 v2 v3 : Value) (b : Nat)
   (h1 : CloAt True (errB ([s, t].any fun s => !isName (L s)) 2) v1 wz) (h2 : CloAt True (errB ([dir, to].any fun x => (S.n x).kind == 0) 3) v2 wz) (h3 : CloAt (([dir, to].any fun x => (S.n x).kind == 0) = false) (errB ([dir, to].any fun x => !((S.n x).kind == 2)) 180) v3 wz)
   (hb : SBox wz b 93 #[v1, v2, v3]) :
   Calls Tryz.prog 46 #[.pointer (some ⟨E.t, 0, none⟩), .slice (some ⟨b, 0, none⟩) 3 3] wz fun e w' => e = .returned (.int .i64 0) ∧ Below wz.heap.size wz w' := by
 refine (check_clo E.t b [v1, v2, v3] [errB ([s, t].any fun s => !isName (L s)) 2, errB ([dir, to].any fun x => (S.n x).kind == 0) 3, errB ([dir, to].any fun x => !((S.n x).kind == 2)) 180] wz (by simp) (by simp) hb ?_).mono ?_
 · intro i hi
   match i, hi with
   | 0, _ => exact h1.weak (fun _ => trivial)
   | 1, _ => exact h2.weak (fun _ => trivial)
   | 2, _ => exact h3.weak (fun hz => errB_no (hz 1 (by omega)) (by decide))
   | i + 3, hi => exact absurd hi (by simp)
 · rintro e w' ⟨rfl, hb⟩
   refine ⟨?_, hb⟩
   simp [errB, firstE, n1, n2, d1, d2]
set_option maxHeartbeats 8000000 in
theorem rename_ok (wz : World) (hT : TreeAt wz E room q S) (hI : Inv room S) (hq : q < 100000) (dir : Nat) (s : ByteArray) (to : Nat) (t : ByteArray) (ino old : Nat) (hs : s.size ≤ maxLen) (ht : t.size ≤ maxLen) (hd : dir < 4294967296) (hto : to < 4294967296) (ho : RenOk S dir (L s) to (L t) ino old) :
   Calls Tryz.prog 136 #[.pointer (some ⟨E.t, 0, none⟩), .int .u32 dir, .string s, .int .u32 to, .string t] wz fun e w' => e = .returned (.int .i64 0) ∧ TreeAt w' E room (q + 1) (if old = ino then S else if old = 0 then mvS S dir (L s) to (L t) ino else mvS (cutS S to (L t) old) dir (L s) to (L t) ino) ∧ Tch E.O wz w' := by
 have ki := (hI.ent dir (L s) (by rw [ho.l1]; exact ho.i0)).1
 rw [ho.l1] at ki
 have hi : ino < 4294967296 := by have := hI.rng ino ki; have := hT.rm; omega
 have HI := Lib.hid hI
 have HO := Lib.hid ho
 have KI := Lib.hid ki
 have HQ := Lib.hid hq
 have LK0 : ∀ w, TreeAt w E room q S → Calls Tryz.prog 18 #[.pointer (some ⟨E.t, 0, none⟩), .int .u32 dir, .string s] w fun e w' => e = .returned (.tuple #[.int .u32 ino, .int .i64 0]) ∧ Below w.heap.size w w' := fun w hw => by
   have := look_any dir s w hw hs hd
   obtain ⟨e1, e2⟩ := lookE_ok ho.n1 ho.d1 (by rw [ho.l1]; exact ho.i0)
   rw [e1, e2, ho.l1] at this
   exact this
 have LK := Lib.hid LK0
 obtain ⟨S', hE⟩ : ∃ S', S' = (if old = ino then S else if old = 0 then mvS S dir (L s) to (L t) ino else mvS (cutS S to (L t) old) dir (L s) to (L t) ino) := ⟨_, rfl⟩
 rw [← hE]
 have EQ := Lib.hid hE
 clear hE
 have HT := Lib.hid hT
 clear LK0 ki hI ho hq hT
 go_enter Tryz.func136, Tryz.ntmps136
 go_wp2_with fail
 refine Calls.mono (clo_names (n := 0) (ss := [s, t]) ⟨wz.heap.size, rfl, Nat.zero_le _, SBox.new wz _ _⟩ (Nat.zero_le _) (by simp; exact ⟨hs, ht⟩) (by simp)) ?_
 rintro e w2 ⟨u2, rfl, hu2, hb2⟩
 have B2 := Lib.hid (((Below.refl wz.heap.size wz).alloc (Nat.le_refl _) (.cells #[.string s, .string t] 9)).trans (hb2.mono (by simp)))
 have C2 := Lib.hid hu2
 obtain ⟨f2, l2, rfl, _⟩ := hu2
 have T2 := Lib.hid (HT.out.later B2.out)
 clear hb2
 go_wp2_with fail
 refine Calls.mono (clo_there (n := 0) (xs := [dir, to]) ⟨w2.heap.size, rfl, Nat.zero_le _, SBox.new w2 _ _⟩ (Nat.zero_le _) (T2.out.alloc _) (by simp; exact ⟨hd, hto⟩) (by simp)) ?_
 rintro e w3 ⟨u3, rfl, hu3, hb3⟩
 have B3 := Lib.hid (((Below.refl w2.heap.size w2).alloc (Nat.le_refl _) (.cells #[.int .u32 dir, .int .u32 to] 37)).trans (hb3.mono (by simp)))
 have C3 := Lib.hid hu3
 obtain ⟨f3, l3, rfl, _⟩ := hu3
 have T3 := Lib.hid (T2.out.later B3.out)
 clear hb3
 go_wp2_with fail
 refine Calls.mono (clo_dirs (n := 0) (xs := [dir, to]) ⟨w3.heap.size, rfl, Nat.zero_le _, SBox.new w3 _ _⟩ (Nat.zero_le _) (T3.out.alloc _) (by simp; exact ⟨hd, hto⟩) (by simp)) ?_
 rintro e w4 ⟨u4, rfl, hu4, hb4⟩
 have B4 := Lib.hid (((Below.refl w3.heap.size w3).alloc (Nat.le_refl _) (.cells #[.int .u32 dir, .int .u32 to] 37)).trans (hb4.mono (by simp)))
 have C4 := Lib.hid hu4
 obtain ⟨f4, l4, rfl, _⟩ := hu4
 have T4 := Lib.hid (T3.out.later B4.out)
 clear hb4
 have AL := Lib.hid ((Below.refl w4.heap.size w4).alloc (Nat.le_refl _) (.cells #[.func (.func f2) #[] l2, .func (.func f3) #[] l3, .func (.func f4) #[] l4] 93))
 have B34 := Lib.hid (B3.out.trans (B4.out.mono B3.out.size))
 have CK := Lib.hid (check_ren (w4.alloc (.cells #[.func (.func f2) #[] l2, .func (.func f3) #[] l3, .func (.func f4) #[] l4] 93)) (T4.out.alloc _) dir to s t hs ht hd hto HO.out.n1 HO.out.n2 HO.out.d1 HO.out.d2 _ _ _ w4.heap.size
   ((C2.out.later B34.out).later AL.out) ((C3.out.later B4.out).later AL.out) (C4.out.later AL.out) (SBox.new w4 _ _))
 have B04 := Lib.hid ((B2.out.trans (B34.out.mono B2.out.size)).trans (AL.out.mono (by have := B2.out.size; have := B34.out.size; omega)))
 have T5 := Lib.hid (T4.out.alloc (.cells #[.func (.func f2) #[] l2, .func (.func f3) #[] l3, .func (.func f4) #[] l4] 93))
 clear C2 C3 C4 T2 T3 T4 B2 B3 B4 B34 AL
 go_wp2_with fail
 refine Calls.mono CK.out ?_
 rintro e w5 ⟨rfl, hb5⟩
 have B5 := Lib.hid (B04.out.trans (hb5.mono B04.out.size))
 have T6 := Lib.hid (T5.out.later hb5)
 clear hb5 CK B04 T5
 go_wp2_with fail
 refine Calls.mono (LK.out _ T6.out) ?_
 rintro e w6 ⟨rfl, hb6⟩
 have B6 := Lib.hid (B5.out.trans (hb6.mono B5.out.size))
 have T7 := Lib.hid (T6.out.later hb6)
 clear hb6 B5 T6 LK HT
 have LI := T7.out.look_is hi KI.out
 have LD := T7.out.look_is hto (show (S.n to).kind ≠ 0 by rw [HO.out.d2]; decide)
 have EN := T7.out.entry (x := to) (s := t) (show (S.n to).kind ≠ 0 by rw [HO.out.d2]; decide) ht
 rw [show S.l to t.data.toList = old from HO.out.l2] at EN
 have hY := T7.out.top
 have Y0 := hY.cell 0
 have Y1 := hY.cell 1
 simp only [List.getElem?_toArray, List.getElem?_cons_zero, List.getElem?_cons_succ] at Y0 Y1
 have Yl := hY.lt
 have hV := T7.out.nd to (show (S.n to).kind ≠ 0 by rw [HO.out.d2]; decide)
 have V0 := hV.cell 0
 have V1 := hV.cell 1
 have V2 := hV.cell 2
 have V3 := hV.cell 3
 have V4 := hV.cell 4
 have V5 := hV.cell 5
 have V6 := hV.cell 6
 simp only [List.getElem?_toArray, List.getElem?_cons_zero, List.getElem?_cons_succ] at V0 V1 V2 V3 V4 V5 V6
 have Vl := hV.lt
 clear hY hV
 have DI := Lib.hid (T7.out.dir KI.out)
 have BL := Lib.hid (below_any w6 T7.out HI.out to ino (show (S.n to).kind ≠ 0 by rw [HO.out.d2]; decide) HO.out.i0 hi)
 have GV := Lib.hid (fun (h0 : old ≠ 0) (h1 : old ≠ ino) => gives_ok w6 T7.out ino old KI.out (HO.out.ok h0 h1).1 (HO.out.ok h0 h1).2)
 have LO := Lib.hid (fun (h0 : old ≠ 0) (h1 : old ≠ ino) => T7.out.look_is (x := old) (by have h := (HO.out.ok h0 h1).1; have k := KI.out; have := HI.out.rng old (by omega); have := T7.out.rm; omega) (by have h := (HO.out.ok h0 h1).1; have k := KI.out; omega))
 rcases hk : (S.n ino).kind == 2 with _ | _
 · rw [hk] at DI
   clear hk BL
   go_wp2_with fail
   refine Calls.mono DI.out ?_
   rintro e w8 ⟨rfl, rfl⟩
   have i0 := HO.out.i0
   rcases (by omega : old = ino ∧ old ≠ 0 ∨ old = 0 ∧ old ≠ ino ∨ old ≠ 0 ∧ old ≠ ino) with ⟨o1, o0⟩ | ⟨o0, o1⟩ | ⟨o0, o1⟩
   · have t0 : ((old : Int) != 0) = true := by simp; omega
     have t1 : ((old : Int) == (ino : Int)) = true := by simp; omega
     have O1 := Lib.hid o1
     clear o0 o1 i0
     go_wp2_with fail
     go_ret
     exact ⟨rfl, by rw [EQ.out, if_pos O1.out]; exact T7.out.more (Nat.le_succ _) (by have := HQ.out; omega), Tch.of B6.out⟩
   · subst o0
     have O1 := Lib.hid o1
     have e0 : ((0 : Nat) : Int) = 0 := rfl
     rw [e0] at EN
     clear o1 i0
     go_wp2_with fail
     refine Calls.mono (mv1 HI.out HO.out w6 T7.out hs hd hi) ?_
     rintro e w8 ⟨rfl, hT8, tc8⟩
     have T8 := Lib.hid hT8
     have C8 := Lib.hid tc8
     clear hT8 tc8
     go_wp2_with fail
     refine Calls.mono (mv2 HI.out HO.out w8 T8.out (T7.out.lk ino).1 HQ.out ht hto hi) ?_
     rintro e w9 ⟨rfl, hT9, tc9⟩
     have T9 := Lib.hid hT9
     have C9 := Lib.hid tc9
     clear hT9 tc9
     go_wp2_with fail
     go_ret
     exact ⟨rfl, by rw [EQ.out, if_neg O1.out, if_pos (by simp)]; exact T9.out, (Tch.of B6.out).trans (C8.out.trans C9.out)⟩
   · have t0 : ((old : Int) != 0) = true := by simp; omega
     have t1 : ((old : Int) == (ino : Int)) = false := by simp; omega
     have O1 := Lib.hid (And.intro o0 o1)
     have LQ := LO.out o0 o1
     have GQ := Lib.hid (GV.out o0 o1)
     clear o0 o1 i0
     go_wp2_with fail
     refine Calls.mono GQ.out ?_
     rintro e w8 ⟨rfl, rfl⟩
     go_wp2_with fail
     refine Calls.mono (mv3 HI.out HO.out O1.out.1 O1.out.2 w6 T7.out ht hto) ?_
     rintro e w8 ⟨rfl, hT8, tc8⟩
     have T8 := Lib.hid hT8
     have C8 := Lib.hid tc8
     clear hT8 tc8
     go_wp2_with fail
     refine Calls.mono (mv4 HI.out HO.out O1.out.1 O1.out.2 w8 T8.out) ?_
     rintro e w9 ⟨rfl, hT9, tc9⟩
     have T9 := Lib.hid hT9
     have C9 := Lib.hid tc9
     clear hT9 tc9
     go_wp2_with fail
     refine Calls.mono (mv1 (inv_cut HI.out HO.out.l2 O1.out.1 (HO.out.ok O1.out.1 O1.out.2).2) (HO.out.cut HI.out O1.out.1 O1.out.2) w9 T9.out hs hd hi) ?_
     rintro e w10 ⟨rfl, hT10, tc10⟩
     have T10 := Lib.hid hT10
     have C10 := Lib.hid tc10
     clear hT10 tc10
     go_wp2_with fail
     refine Calls.mono (mv2 (inv_cut HI.out HO.out.l2 O1.out.1 (HO.out.ok O1.out.1 O1.out.2).2) (HO.out.cut HI.out O1.out.1 O1.out.2) w10 T10.out (T9.out.lk ino).1 HQ.out ht hto hi) ?_
     rintro e w11 ⟨rfl, hT11, tc11⟩
     have T11 := Lib.hid hT11
     have C11 := Lib.hid tc11
     clear hT11 tc11
     go_wp2_with fail
     go_ret
     exact ⟨rfl, by rw [EQ.out, if_neg O1.out.2, if_neg O1.out.1]; exact T11.out, (Tch.of B6.out).trans (C8.out.trans (C9.out.trans (C10.out.trans C11.out)))⟩
 · rw [hk] at DI
   have hk2 : (S.n ino).kind = 2 := by simpa using hk
   have NB := Lib.hid (HO.out.bel hk2)
   clear hk hk2
   go_wp2_with fail
   refine Calls.mono DI.out ?_
   rintro e w8 ⟨rfl, rfl⟩
   go_wp2_with fail
   refine Calls.mono BL.out ?_
   rintro e w8 ⟨⟨b, rfl, hb⟩, rfl⟩
   obtain rfl : b = false := by
     cases b with
     | false => rfl
     | true => exact absurd (hb.1 rfl) NB.out
   clear hb NB BL
   have i0 := HO.out.i0
   rcases (by omega : old = ino ∧ old ≠ 0 ∨ old = 0 ∧ old ≠ ino ∨ old ≠ 0 ∧ old ≠ ino) with ⟨o1, o0⟩ | ⟨o0, o1⟩ | ⟨o0, o1⟩
   · have t0 : ((old : Int) != 0) = true := by simp; omega
     have t1 : ((old : Int) == (ino : Int)) = true := by simp; omega
     have O1 := Lib.hid o1
     clear o0 o1 i0
     go_wp2_with fail
     go_ret
     exact ⟨rfl, by rw [EQ.out, if_pos O1.out]; exact T7.out.more (Nat.le_succ _) (by have := HQ.out; omega), Tch.of B6.out⟩
   · subst o0
     have O1 := Lib.hid o1
     have e0 : ((0 : Nat) : Int) = 0 := rfl
     rw [e0] at EN
     clear o1 i0
     go_wp2_with fail
     refine Calls.mono (mv1 HI.out HO.out w6 T7.out hs hd hi) ?_
     rintro e w8 ⟨rfl, hT8, tc8⟩
     have T8 := Lib.hid hT8
     have C8 := Lib.hid tc8
     clear hT8 tc8
     go_wp2_with fail
     refine Calls.mono (mv2 HI.out HO.out w8 T8.out (T7.out.lk ino).1 HQ.out ht hto hi) ?_
     rintro e w9 ⟨rfl, hT9, tc9⟩
     have T9 := Lib.hid hT9
     have C9 := Lib.hid tc9
     clear hT9 tc9
     go_wp2_with fail
     go_ret
     exact ⟨rfl, by rw [EQ.out, if_neg O1.out, if_pos (by simp)]; exact T9.out, (Tch.of B6.out).trans (C8.out.trans C9.out)⟩
   · have t0 : ((old : Int) != 0) = true := by simp; omega
     have t1 : ((old : Int) == (ino : Int)) = false := by simp; omega
     have O1 := Lib.hid (And.intro o0 o1)
     have LQ := LO.out o0 o1
     have GQ := Lib.hid (GV.out o0 o1)
     clear o0 o1 i0
     go_wp2_with fail
     refine Calls.mono GQ.out ?_
     rintro e w8 ⟨rfl, rfl⟩
     go_wp2_with fail
     refine Calls.mono (mv3 HI.out HO.out O1.out.1 O1.out.2 w6 T7.out ht hto) ?_
     rintro e w8 ⟨rfl, hT8, tc8⟩
     have T8 := Lib.hid hT8
     have C8 := Lib.hid tc8
     clear hT8 tc8
     go_wp2_with fail
     refine Calls.mono (mv4 HI.out HO.out O1.out.1 O1.out.2 w8 T8.out) ?_
     rintro e w9 ⟨rfl, hT9, tc9⟩
     have T9 := Lib.hid hT9
     have C9 := Lib.hid tc9
     clear hT9 tc9
     go_wp2_with fail
     refine Calls.mono (mv1 (inv_cut HI.out HO.out.l2 O1.out.1 (HO.out.ok O1.out.1 O1.out.2).2) (HO.out.cut HI.out O1.out.1 O1.out.2) w9 T9.out hs hd hi) ?_
     rintro e w10 ⟨rfl, hT10, tc10⟩
     have T10 := Lib.hid hT10
     have C10 := Lib.hid tc10
     clear hT10 tc10
     go_wp2_with fail
     refine Calls.mono (mv2 (inv_cut HI.out HO.out.l2 O1.out.1 (HO.out.ok O1.out.1 O1.out.2).2) (HO.out.cut HI.out O1.out.1 O1.out.2) w10 T10.out (T9.out.lk ino).1 HQ.out ht hto hi) ?_
     rintro e w11 ⟨rfl, hT11, tc11⟩
     have T11 := Lib.hid hT11
     have C11 := Lib.hid tc11
     clear hT11 tc11
     go_wp2_with fail
     go_ret
     exact ⟨rfl, by rw [EQ.out, if_neg O1.out.2, if_neg O1.out.1]; exact T11.out, (Tch.of B6.out).trans (C8.out.trans (C9.out.trans (C10.out.trans C11.out)))⟩
end Go.Proofs.YtmfhnhnmdeabeaaGreat.Tr
end
