/- The reference of layer 18 (tree): MakeAt, Link, Unlink, Rmdir. -/
import Derived.Test.YtmfhnhnmdeabeaaGreatM29
import Derived.Test.YtmfhnhnmdeabeaaGreatM28
set_option linter.unusedVariables false
set_option linter.unusedSimpArgs false
set_option maxRecDepth 100000
section
namespace Go.Proofs.YtmfhnhnmdeabeaaGreat.Re
open Go.RowKit Go.Shelf Go.Maps Oct Path Tr
variable {R g room q : Nat} {S : T} {es : Nat → List Ent} {pa : Nat → Option Addr} {ca : Nat → Nat}
set_option maxHeartbeats 400000 in
theorem makeAt18 (wz : World) (h : RtM wz R g room q S es pa ca) (hI : Inv room S) (dir ino kind : Nat) (hd : dir < 4294967296) (hi1 : 1 ≤ ino) (hi2 : ino ≤ 256) (hkd : kind = 1 ∨ kind = 2) (s : ByteArray) (hs : s.size ≤ maxLen) (hn : isName (L s) = true) (hq : q < 1000) :
   Calls Tryz.prog 37 #[.pointer (some ⟨R, 0, none⟩), .int .u32 dir, .string s, .int .u8 kind, .int .u32 ino] wz
     (ErAns g wz ((S.n dir).kind = 2 ∧ S.l dir (L s) = 0 ∧ (S.n ino).kind = 0 ∧ ino ≤ room) fun w' => RtA w' R g room (q + 1) ⟨setN S.n ino ⟨kind, 1, 0, 0, []⟩, setL S.l dir (L s) ino⟩) := by
 have NM := Lib.hid (rname_any s wz hs)
 rw [hn] at NM
 have DI := Lib.hid (dir18 wz h dir hd s hs hn)
 have H := Lib.hid h
 have HI := Lib.hid hI
 have HS := Lib.hid hs
 have TH := Lib.hid (there18 wz h ino (by omega))
 have hrm := h.rm.2
 have h0 := h.topC
 have wr : IntKind.u32.wrap (room : Int) = room := by simp [IntKind.wrap, IntKind.bits, IntKind.signed]; omega
 have t1 : ¬ (ino : Int) < 1 := by omega
 have kb : ((kind : Int) == 1 || (kind : Int) == 2) = true := by rcases hkd with rfl | rfl <;> rfl
 have HK := Lib.hid hkd
 clear h hI hs hn
 rcases hkd with rfl | rfl
 · clear kb
   go_enter Tryz.func37, Tryz.ntmps37
   go_wp2_with fail
   refine Calls.mono NM.out ?_
   rintro e w' ⟨rfl, rfl⟩
   rcases Nat.lt_or_ge room ino with hgt | hle
   · have t2 : (room : Int) < ino := by omega
     go_wp2_with fail
     go_ret
     exact ErAns.no (by decide) (Tr.Tch.refl _ _)
   · have t2 : ¬ (room : Int) < ino := by omega
     have HLE := Lib.hid hle
     go_wp2_with fail
     refine Calls.mono DI.out ?_
     rintro e w' ⟨rfl, rfl⟩
     by_cases hdk : (S.n dir).kind = 2
     · have ED : dirE S dir = 0 := by unfold dirE; rw [if_neg (by omega), if_pos hdk]
       rw [ED]
       have HDK := Lib.hid hdk
       obtain ⟨d1, d2⟩ := H.out.rng dir (by omega)
       obtain ⟨di, hdi⟩ : ∃ di, dir = di + 1 := ⟨dir - 1, by omega⟩
       have hdi2 : di < room := by omega
       have AT := Lib.hid (at18 w' H.out dir di hdi hdi2 s)
       have LI : Hid (Listing (S.l dir) (es di)) := Lib.hid (by rw [hdi]; exact H.out.rows.lst di hdi2)
       have DD := Lib.hid (And.intro hdi hdi2)
       clear ED hdk hdi hdi2 d1 d2
       go_wp2_with fail
       refine Calls.mono AT.out ?_
       rintro e w' ⟨k, rfl, ha, rfl⟩
       by_cases hl : S.l dir (L s) = 0
       · have := ha.no LI.out HS.out hl
         subst this
         have HL := Lib.hid hl
         clear ha hl
         go_wp2_with fail
         refine Calls.mono TH.out ?_
         rintro e w' ⟨rfl, rfl⟩
         by_cases hk : (S.n ino).kind = 0
         · rw [hk]
           obtain ⟨i, hx⟩ : ∃ i, ino = i + 1 := ⟨ino - 1, by omega⟩
           have hi : i < room := by omega
           have w1 := w_sub hx (by omega)
           have hg := H.out.g_lt
           obtain ⟨c0, c1, c2, c3, f⟩ := H.out.cellsX hx hi
           have f0 := f (i * 4)
           have f1 := f (i * 4 + 1)
           have f2 := f (i * 4 + 2)
           have f3 := f (i * 4 + 3)
           have hno := HI.out.noL ino
           have hne : dir ≠ ino := fun e => by have := HDK.out; rw [e, hk] at this; cases this
           have PU := H.out.put hi ⟨1, 1, 0, 0, []⟩ S.l [] none 0 q ⟨Nat.le_refl _, H.out.q1⟩ (fun _ _ => rfl) (Listing.nil _ (by rw [← hx]; exact fun t => hno t (by omega))) (fun t ht => absurd (by rw [← hx]; exact hno t (by omega)) ht) (.inl ⟨rfl, rfl, rfl⟩) ⟨Nat.zero_le _, Nat.zero_le _⟩ (by show 1 ≤ 2; decide) (by show 0 ≤ 2304; decide) (by show 0 ≤ 1; decide)
           rw [← hx] at PU
           have AD := Lib.hid (add18 _ PU dir di DD.out.1 DD.out.2 s HS.out ino hi1 HL.out hq)
           have HKI := Lib.hid hk
           clear PU hx f hk hno hne
           go_wp2_with fail
           refine Calls.mono AD.out ?_
           rintro e w5 ⟨rfl, hA, hT⟩
           go_wp2_with fail
           go_ret
           exact ErAns.yes ((st4_tch _ _ _ _ _ _ _).trans hT) ⟨HDK.out, HL.out, HKI.out, HLE.out⟩ hA
         · have t4 : ((S.n ino).kind == 0) = false := by simpa using hk
           rw [t4]
           clear t4 hk
           go_wp2_with fail
           go_ret
           exact ErAns.no (by decide) (Tr.Tch.refl _ _)
       · obtain ⟨m, hm, rfl⟩ := ha.yes LI.out HS.out hl
         have t5 : (0 : Int) ≤ m := by omega
         clear ha hm hl
         go_wp2_with fail
         go_ret
         exact ErAns.no (by decide) (Tr.Tch.refl _ _)
     · have ED : dirE S dir ≠ 0 := by unfold dirE; rw [if_neg hdk]; split <;> decide
       have t6 : ((dirE S dir : Int) != 0) = true := by simp; omega
       have HED := Lib.hid ED
       clear hdk ED
       go_wp2_with fail
       go_ret
       exact ErAns.no HED.out (Tr.Tch.refl _ _)
 · clear kb
   go_enter Tryz.func37, Tryz.ntmps37
   go_wp2_with fail
   refine Calls.mono NM.out ?_
   rintro e w' ⟨rfl, rfl⟩
   rcases Nat.lt_or_ge room ino with hgt | hle
   · have t2 : (room : Int) < ino := by omega
     go_wp2_with fail
     go_ret
     exact ErAns.no (by decide) (Tr.Tch.refl _ _)
   · have t2 : ¬ (room : Int) < ino := by omega
     have HLE := Lib.hid hle
     go_wp2_with fail
     refine Calls.mono DI.out ?_
     rintro e w' ⟨rfl, rfl⟩
     by_cases hdk : (S.n dir).kind = 2
     · have ED : dirE S dir = 0 := by unfold dirE; rw [if_neg (by omega), if_pos hdk]
       rw [ED]
       have HDK := Lib.hid hdk
       obtain ⟨d1, d2⟩ := H.out.rng dir (by omega)
       obtain ⟨di, hdi⟩ : ∃ di, dir = di + 1 := ⟨dir - 1, by omega⟩
       have hdi2 : di < room := by omega
       have AT := Lib.hid (at18 w' H.out dir di hdi hdi2 s)
       have LI : Hid (Listing (S.l dir) (es di)) := Lib.hid (by rw [hdi]; exact H.out.rows.lst di hdi2)
       have DD := Lib.hid (And.intro hdi hdi2)
       clear ED hdk hdi hdi2 d1 d2
       go_wp2_with fail
       refine Calls.mono AT.out ?_
       rintro e w' ⟨k, rfl, ha, rfl⟩
       by_cases hl : S.l dir (L s) = 0
       · have := ha.no LI.out HS.out hl
         subst this
         have HL := Lib.hid hl
         clear ha hl
         go_wp2_with fail
         refine Calls.mono TH.out ?_
         rintro e w' ⟨rfl, rfl⟩
         by_cases hk : (S.n ino).kind = 0
         · rw [hk]
           obtain ⟨i, hx⟩ : ∃ i, ino = i + 1 := ⟨ino - 1, by omega⟩
           have hi : i < room := by omega
           have w1 := w_sub hx (by omega)
           have hg := H.out.g_lt
           obtain ⟨c0, c1, c2, c3, f⟩ := H.out.cellsX hx hi
           have f0 := f (i * 4)
           have f1 := f (i * 4 + 1)
           have f2 := f (i * 4 + 2)
           have f3 := f (i * 4 + 3)
           have hno := HI.out.noL ino
           have hne : dir ≠ ino := fun e => by have := HDK.out; rw [e, hk] at this; cases this
           have PU := H.out.put hi ⟨2, 1, 0, 0, []⟩ S.l [] none 0 q ⟨Nat.le_refl _, H.out.q1⟩ (fun _ _ => rfl) (Listing.nil _ (by rw [← hx]; exact fun t => hno t (by omega))) (fun t ht => absurd (by rw [← hx]; exact hno t (by omega)) ht) (.inl ⟨rfl, rfl, rfl⟩) ⟨Nat.zero_le _, Nat.zero_le _⟩ (by show 2 ≤ 2; decide) (by show 0 ≤ 2304; decide) (by show 0 ≤ 1; decide)
           rw [← hx] at PU
           have AD := Lib.hid (add18 _ PU dir di DD.out.1 DD.out.2 s HS.out ino hi1 HL.out hq)
           have HKI := Lib.hid hk
           clear PU hx f hk hno hne
           go_wp2_with fail
           refine Calls.mono AD.out ?_
           rintro e w5 ⟨rfl, hA, hT⟩
           go_wp2_with fail
           go_ret
           exact ErAns.yes ((st4_tch _ _ _ _ _ _ _).trans hT) ⟨HDK.out, HL.out, HKI.out, HLE.out⟩ hA
         · have t4 : ((S.n ino).kind == 0) = false := by simpa using hk
           rw [t4]
           clear t4 hk
           go_wp2_with fail
           go_ret
           exact ErAns.no (by decide) (Tr.Tch.refl _ _)
       · obtain ⟨m, hm, rfl⟩ := ha.yes LI.out HS.out hl
         have t5 : (0 : Int) ≤ m := by omega
         clear ha hm hl
         go_wp2_with fail
         go_ret
         exact ErAns.no (by decide) (Tr.Tch.refl _ _)
     · have ED : dirE S dir ≠ 0 := by unfold dirE; rw [if_neg hdk]; split <;> decide
       have t6 : ((dirE S dir : Int) != 0) = true := by simp; omega
       have HED := Lib.hid ED
       clear hdk ED
       go_wp2_with fail
       go_ret
       exact ErAns.no HED.out (Tr.Tch.refl _ _)
set_option maxHeartbeats 400000 in
theorem link18 (wz : World) (h : RtM wz R g room q S es pa ca) (hI : Inv room S) (dir ino : Nat) (hd : dir < 4294967296) (hi1 : 1 ≤ ino) (hi2 : ino ≤ 256) (s : ByteArray) (hs : s.size ≤ maxLen) (hn : isName (L s) = true) (hq : q < 1000) :
   Calls Tryz.prog 39 #[.pointer (some ⟨R, 0, none⟩), .int .u32 dir, .string s, .int .u32 ino] wz
     (ErAns g wz ((S.n dir).kind = 2 ∧ S.l dir (L s) = 0 ∧ (S.n ino).kind = 1 ∧ cntN ino es room < 200) fun w' => RtA w' R g room (q + 1) ⟨S.n, setL S.l dir (L s) ino⟩) := by
 have NM := Lib.hid (rname_any s wz hs)
 rw [hn] at NM
 have H := Lib.hid h
 have HS := Lib.hid hs
 have TD := Lib.hid (there18 wz h dir hd)
 have TH := Lib.hid (there18 wz h ino (by omega))
 clear h hI hs hn
 go_enter Tryz.func39, Tryz.ntmps39
 go_wp2_with fail
 refine Calls.mono NM.out ?_
 rintro e w' ⟨rfl, rfl⟩
 go_wp2_with fail
 refine Calls.mono TD.out ?_
 rintro e w' ⟨rfl, rfl⟩
 by_cases hdk : (S.n dir).kind = 0
 · rw [hdk]
   go_wp2_with fail
   go_ret
   exact ErAns.no (by decide) (Tr.Tch.refl _ _)
 have t4 : ((S.n dir).kind == 0) = false := by simpa using hdk
 rw [t4]
 obtain ⟨d1, d2⟩ := H.out.rng dir hdk
 have KD := Lib.hid (kind18 w' H.out dir d1 d2)
 clear t4 hdk
 go_wp2_with fail
 refine Calls.mono TH.out ?_
 rintro e w' ⟨rfl, rfl⟩
 by_cases hik : (S.n ino).kind = 0
 · rw [hik]
   go_wp2_with fail
   go_ret
   exact ErAns.no (by decide) (Tr.Tch.refl _ _)
 have t4 : ((S.n ino).kind == 0) = false := by simpa using hik
 rw [t4]
 obtain ⟨i1, i2⟩ := H.out.rng ino hik
 have KI := Lib.hid (kind18 w' H.out ino i1 i2)
 have LN := Lib.hid (links18 w' H.out ino i1 i2)
 have HIK := Lib.hid hik
 clear t4 hik
 go_wp2_with fail
 refine Calls.mono KD.out ?_
 rintro e w' ⟨rfl, rfl⟩
 by_cases hd2 : (S.n dir).kind = 2
 · rw [hd2]
   have HD2 := Lib.hid hd2
   clear hd2
   go_wp2_with fail
   refine Calls.mono KI.out ?_
   rintro e w' ⟨rfl, rfl⟩
   by_cases hi3 : (S.n ino).kind = 2
   · rw [hi3]
     go_wp2_with fail
     go_ret
     exact ErAns.no (by decide) (Tr.Tch.refl _ _)
   have LE : lnkV S es ino room = cntN ino es room := by unfold lnkV; rw [if_neg hi3]
   rw [LE] at LN
   have HI1 : Hid ((S.n ino).kind = 1) := Lib.hid (by have := H.out.kd ino; have := HIK.out; omega)
   rw [HI1.out]
   obtain ⟨di, hdi⟩ : ∃ di, dir = di + 1 := ⟨dir - 1, by omega⟩
   have hdi2 : di < room := by omega
   have AT := Lib.hid (at18 w' H.out dir di hdi hdi2 s)
   have LI : Hid (Listing (S.l dir) (es di)) := Lib.hid (by rw [hdi]; exact H.out.rows.lst di hdi2)
   have AD := Lib.hid (fun hl => add18 w' H.out dir di hdi hdi2 s HS.out ino hi1 hl hq)
   clear LE hi3 hdi hdi2
   go_wp2_with fail
   refine Calls.mono AT.out ?_
   rintro e w' ⟨k, rfl, ha, rfl⟩
   by_cases hl : S.l dir (L s) = 0
   · have := ha.no LI.out HS.out hl
     subst this
     have HL := Lib.hid hl
     clear ha hl
     go_wp2_with fail
     refine Calls.mono LN.out ?_
     rintro e w' ⟨rfl, rfl⟩
     obtain ⟨c, hc⟩ : ∃ c, cntN ino es room = c := ⟨_, rfl⟩
     rw [hc]
     have HC := Lib.hid hc
     clear hc
     rcases Nat.lt_or_ge c 200 with hlt | hge
     · have t7 : ¬ (200 : Int) ≤ c := by omega
       go_wp2_with fail
       refine Calls.mono (AD.out HL.out) ?_
       rintro e w5 ⟨rfl, hA, hT⟩
       go_wp2_with fail
       go_ret
       exact ErAns.yes hT ⟨HD2.out, HL.out, HI1.out, by rw [HC.out]; exact hlt⟩ hA
     · have t7 : (200 : Int) ≤ c := by omega
       go_wp2_with fail
       go_ret
       exact ErAns.no (by decide) (Tr.Tch.refl _ _)
   · obtain ⟨m, hm, rfl⟩ := ha.yes LI.out HS.out hl
     have t5 : (0 : Int) ≤ m := by omega
     clear ha hm hl
     go_wp2_with fail
     go_ret
     exact ErAns.no (by decide) (Tr.Tch.refl _ _)
 · have t5 : (((S.n dir).kind : Int) != 2) = true := by simp; omega
   clear hd2
   go_wp2_with fail
   go_ret
   exact ErAns.no (by decide) (Tr.Tch.refl _ _)
end Go.Proofs.YtmfhnhnmdeabeaaGreat.Re
end
