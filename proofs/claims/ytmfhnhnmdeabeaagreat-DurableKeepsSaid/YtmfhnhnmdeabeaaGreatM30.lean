/- The reference of layer 18 (tree): Rename. -/
import Derived.Test.YtmfhnhnmdeabeaaGreatM27
import Derived.Test.YtmfhnhnmdeabeaaGreatM29
set_option linter.unusedVariables false
set_option linter.unusedSimpArgs false
set_option maxRecDepth 100000
section
namespace Go.Proofs.YtmfhnhnmdeabeaaGreat.Re
open Go.RowKit Go.Shelf Go.Maps Oct Path Tr
variable {R g room q : Nat} {S : T} {es : Nat → List Ent} {pa : Nat → Option Addr} {ca : Nat → Nat}
noncomputable def ren0 (S : T) (tt : Nat) (s : Nm) (o : Nat) : T := if o = 0 then S else freS ⟨S.n, setL S.l tt s 0⟩ o
noncomputable def renS (S : T) (dir : Nat) (s : Nm) (tt : Nat) (s2 : Nm) (x o : Nat) : T := if o = x then S else ⟨(ren0 S tt s2 o).n, setL (setL (ren0 S tt s2 o).l dir s 0) tt s2 x⟩
def renP (S : T) (tt x o : Nat) : Prop := (S.n tt).kind = 2 ∧ ((S.n x).kind = 2 → ¬ Bel S x tt) ∧ (o ≠ 0 → o ≠ x → (S.n o).kind = (S.n x).kind ∧ ∀ t, S.l o t = 0)
theorem freS_l (S : T) (x : Nat) : (freS S x).l = S.l := by
 unfold freS
 split <;> rfl
theorem freS_kind {S : T} {x y : Nat} (h : y ≠ x) : (freS S x).n y = S.n y := by
 unfold freS
 split
 · simp [setN, h]
 · rfl
set_option maxHeartbeats 400000 in
theorem rename18 (wz : World) (h : RtM wz R g room q S es pa ca) (hI : Inv room S) (dir tt x : Nat) (hd : dir < 4294967296) (ht : tt < 4294967296) (s s2 : ByteArray) (hs : s.size ≤ maxLen) (hs2 : s2.size ≤ maxLen) (hn : isName (L s) = true) (hn2 : isName (L s2) = true) (hq : q < 1000)
   (hdk : (S.n dir).kind = 2) (hx : S.l dir (L s) = x) (hx0 : x ≠ 0) :
   Calls Tryz.prog 82 #[.pointer (some ⟨R, 0, none⟩), .int .u32 dir, .string s, .int .u32 tt, .string s2] wz
     (ErAns g wz (renP S tt x (S.l tt (L s2))) fun w' => RtA w' R g room (q + 1) (renS S dir (L s) tt (L s2) x (S.l tt (L s2)))) := by
 have NM := Lib.hid (rname_any s wz hs)
 rw [hn] at NM
 have NM2 := Lib.hid (rname_any s2 wz hs2)
 rw [hn2] at NM2
 have H := Lib.hid h
 have HI := Lib.hid hI
 have HS := Lib.hid (And.intro hs hs2)
 have TD := Lib.hid (there18 wz h dir hd)
 rw [hdk] at TD
 have TT := Lib.hid (there18 wz h tt ht)
 obtain ⟨d1, d2⟩ := h.rng dir (by omega)
 have KD := Lib.hid (kind18 wz h dir d1 d2)
 rw [hdk] at KD
 have LK := Lib.hid (look18 wz h dir hd s hs hn)
 rw [show lkE S dir (L s) = 0 by unfold lkE; rw [if_neg (by omega), if_pos hdk, if_neg (by rw [hx]; exact hx0)], show lkV S dir (L s) = x by unfold lkV; rw [if_pos hdk, hx]] at LK
 have LK2 := Lib.hid (look18 wz h tt ht s2 hs2 hn2)
 have hxk := (hI.ent dir (L s) (by rw [hx]; exact hx0)).1
 rw [hx] at hxk
 obtain ⟨x1, x2⟩ := h.rng x hxk
 have KX := Lib.hid (kind18 wz h x x1 x2)
 have HDK := Lib.hid hdk
 have HX := Lib.hid hx
 have HX0 := Lib.hid hx0
 have HXK := Lib.hid hxk
 have kx : (S.n x).kind = 1 ∨ (S.n x).kind = 2 := by have := h.kd x; omega
 obtain ⟨o, ho⟩ : ∃ o, S.l tt (L s2) = o := ⟨_, rfl⟩
 rw [ho]
 have HO := Lib.hid ho
 clear h hI hs hs2 hn hn2 hdk hx hxk ho
 go_enter Tryz.func82, Tryz.ntmps82
 go_wp2_with fail
 refine Calls.mono NM.out ?_
 rintro e w' ⟨rfl, rfl⟩
 go_wp2_with fail
 refine Calls.mono NM2.out ?_
 rintro e w' ⟨rfl, rfl⟩
 go_wp2_with fail
 refine Calls.mono TD.out ?_
 rintro e w' ⟨rfl, rfl⟩
 go_wp2_with fail
 refine Calls.mono TT.out ?_
 rintro e w' ⟨rfl, rfl⟩
 by_cases htk0 : (S.n tt).kind = 0
 · rw [htk0]
   go_wp2_with fail
   go_ret
   exact ErAns.no (by decide) (Tr.Tch.refl _ _)
 have t4 : ((S.n tt).kind == 0) = false := by simpa using htk0
 rw [t4]
 obtain ⟨k1, k2⟩ := H.out.rng tt htk0
 have KT := Lib.hid (kind18 w' H.out tt k1 k2)
 have HTK0 := Lib.hid htk0
 clear t4 htk0
 go_wp2_with fail
 refine Calls.mono KD.out ?_
 rintro e w' ⟨rfl, rfl⟩
 go_wp2_with fail
 refine Calls.mono KT.out ?_
 rintro e w' ⟨rfl, rfl⟩
 by_cases htk : (S.n tt).kind = 2
 case neg =>
   have t5 : (((S.n tt).kind : Int) != 2) = true := by simp; omega
   clear htk
   go_wp2_with fail
   go_ret
   exact ErAns.no (by decide) (Tr.Tch.refl _ _)
 rw [htk]
 have HTK := Lib.hid htk
 clear htk
 go_wp2_with fail
 refine Calls.mono LK.out ?_
 rintro e w' ⟨rfl, rfl⟩
 go_wp2_with fail
 refine Calls.mono KX.out ?_
 rintro e w' ⟨rfl, rfl⟩
 have LE : Hid (lkE S tt (L s2) = (if o = 0 then 3 else 0) ∧ lkV S tt (L s2) = o) := Lib.hid (by unfold lkE lkV; rw [if_neg HTK0.out, if_pos HTK.out, if_pos HTK.out, HO.out]; exact ⟨rfl, rfl⟩)
 rw [LE.out.1, LE.out.2] at LK2
 have DE1 := Lib.hid (fun (W : World) (S' : T) (q' : Nat) (hA : RtA W R g room q' S') (hl : S'.l dir (L s) ≠ 0) => (show Calls Tryz.prog 119 #[.pointer (some ⟨R, 0, none⟩), .int .u32 dir, .string s] W fun e w' => e = .returned (.tuple #[]) ∧ RtA w' R g room q' ⟨S'.n, setL S'.l dir (L s) 0⟩ ∧ Tr.Tch (fun b => b = g) W w' from by
   obtain ⟨es', pa', ca', hM⟩ := hA
   exact del18 W hM dir (dir - 1) (by omega) (by omega) s HS.out.1 hl))
 have DE2 := Lib.hid (fun (ho : o ≠ 0) => del18 w' H.out tt (tt - 1) (by omega) (by omega) s2 HS.out.2 (by rw [HO.out]; exact ho))
 have AD := Lib.hid (fun (W : World) (S' : T) (q' : Nat) (hq' : q' < 1000) (hA : RtA W R g room q' S') (hl : S'.l tt (L s2) = 0) => (show Calls Tryz.prog 75 #[.pointer (some ⟨R, 0, none⟩), .int .u32 tt, .string s2, .int .u32 x] W fun e w' => e = .returned (.tuple #[]) ∧ RtA w' R g room (q' + 1) ⟨S'.n, setL S'.l tt (L s2) x⟩ ∧ Tr.Tch (fun b => b = g) W w' from by
   obtain ⟨es', pa', ca', hM⟩ := hA
   exact add18 W hM tt (tt - 1) (by omega) (by omega) s2 HS.out.2 x x1 hl hq'))
 rcases kx with kx | kx
 · have KX1 := Lib.hid kx
   rw [kx]
   clear kx
   go_wp2_with fail
   refine Calls.mono LK2.out ?_
   rintro e w' ⟨rfl, rfl⟩
   by_cases ho0 : o = 0
   · subst ho0
     have hox : ¬ (0 : Nat) = x := fun e => HX0.out e.symm
     have FINEQ : Hid ((⟨S.n, setL (setL S.l dir (L s) 0) tt (L s2) x⟩ : T) = renS S dir (L s) tt (L s2) x 0) := Lib.hid (by unfold renS ren0; rw [if_neg hox, if_pos rfl])
     have L1 : Hid (S.l dir (L s) ≠ 0) := Lib.hid (by rw [HX.out]; exact HX0.out)
     have L2 : Hid (setL S.l dir (L s) 0 tt (L s2) = 0) := Lib.hid (by unfold setL; split; rfl; exact HO.out)
     rw [if_pos rfl]
     clear hox
     go_wp2_with fail
     refine Calls.mono (DE1.out _ _ _ ⟨es, pa, ca, H.out⟩ L1.out) ?_
     rintro e w6 ⟨rfl, hA6, hT6⟩
     have A6 := Lib.hid hA6
     have T6 := Lib.hid hT6
     clear hA6 hT6
     go_wp2_with fail
     refine Calls.mono (AD.out _ _ _ hq A6.out L2.out) ?_
     rintro e w7 ⟨rfl, hA7, hT7⟩
     go_wp2_with fail
     go_ret
     refine ErAns.yes (((Tr.Tch.refl (fun b => b = g) w').trans T6.out).trans hT7) ⟨HTK.out, (fun e => by have := KX1.out; omega), fun e => absurd rfl e⟩ ?_
     exact FINEQ.out ▸ hA7
   by_cases hox : o = x
   · subst hox
     have hox0 : o ≠ 0 := HX0.out
     rw [if_neg hox0]
     clear hox0
     go_wp2_with fail
     refine Calls.mono KX.out ?_
     rintro e w' ⟨rfl, rfl⟩
     rw [KX1.out]
     go_wp2_with fail
     go_ret
     refine ErAns.yes (Tr.Tch.refl _ _) ⟨HTK.out, (fun e => by have := KX1.out; omega), fun _ e => absurd rfl e⟩ ?_
     unfold renS
     rw [if_pos rfl]
     exact RtA.mono ⟨es, pa, ca, H.out⟩ (Nat.le_succ _) hq
   have NEX : Hid (¬ o = x) := Lib.hid hox
   have NE0 : Hid (o ≠ 0) := Lib.hid ho0
   have tn : ((o : Int) == x) = false := by simp; omega
   have hok := (HI.out.ent tt (L s2) (by rw [HO.out]; exact ho0)).1
   rw [HO.out] at hok
   obtain ⟨o1, o2⟩ := H.out.rng o hok
   have KO := Lib.hid (kind18 w' H.out o o1 o2)
   have HOK := Lib.hid hok
   rw [if_neg ho0]
   clear hok ho0 hox
   go_wp2_with fail
   refine Calls.mono KO.out ?_
   rintro e w' ⟨rfl, rfl⟩
   by_cases hk2 : (S.n o).kind = 2
   · rw [hk2]
     clear hk2
     go_wp2_with fail
     go_ret
     exact ErAns.no (by decide) (Tr.Tch.refl _ _)
   · have KO1 : Hid ((S.n o).kind = 1) := Lib.hid (by have := H.out.kd o; have := HOK.out; omega)
     have EMP : Hid (∀ t, S.l o t = 0) := Lib.hid (fun t => HI.out.noL o t hk2)
     rw [KO1.out]
     clear hk2
     have NL2 : Hid (∀ t, setL S.l tt (L s2) 0 o t = 0) := Lib.hid (fun t => by
       unfold setL
       split
       · rfl
       · exact EMP.out t)
     have NDT : Hid (¬ (dir = tt ∧ L s = L s2)) := Lib.hid (fun e => NEX.out (by rw [← HO.out, ← HX.out, e.1, e.2]))
     have FINEQ : Hid ((⟨(freS ⟨S.n, setL S.l tt (L s2) 0⟩ o).n, setL (setL (freS ⟨S.n, setL S.l tt (L s2) 0⟩ o).l dir (L s) 0) tt (L s2) x⟩ : T) = renS S dir (L s) tt (L s2) x o) := Lib.hid (by unfold renS ren0; rw [if_neg NEX.out, if_neg NE0.out])
     have L1 : Hid ((freS ⟨S.n, setL S.l tt (L s2) 0⟩ o).l dir (L s) ≠ 0) := Lib.hid (by rw [freS_l]; unfold setL; simp only; rw [if_neg NDT.out, HX.out]; exact HX0.out)
     have L2 : Hid (setL (freS ⟨S.n, setL S.l tt (L s2) 0⟩ o).l dir (L s) 0 tt (L s2) = 0) := Lib.hid (by rw [freS_l]; unfold setL; split; rfl; simp)
     go_wp2_with fail
     refine Calls.mono (DE2.out NE0.out) ?_
     rintro e w2 ⟨rfl, ⟨es', pa', ca', hM⟩, hT⟩
     have FR := Lib.hid (free18 w2 hM o o1 o2 NL2.out)
     have T2 := Lib.hid hT
     clear hM hT
     go_wp2_with fail
     refine Calls.mono FR.out ?_
     rintro e w3 ⟨rfl, hA3, hT3⟩
     have A3 := Lib.hid hA3
     have T3 := Lib.hid (T2.out.trans hT3)
     clear hA3 hT3
     go_wp2_with fail
     refine Calls.mono (DE1.out _ _ _ A3.out L1.out) ?_
     rintro e w6 ⟨rfl, hA6, hT6⟩
     have A6 := Lib.hid hA6
     have T6 := Lib.hid hT6
     clear hA6 hT6
     go_wp2_with fail
     refine Calls.mono (AD.out _ _ _ hq A6.out L2.out) ?_
     rintro e w7 ⟨rfl, hA7, hT7⟩
     go_wp2_with fail
     go_ret
     refine ErAns.yes ((T3.out.trans T6.out).trans hT7) ⟨HTK.out, (fun e => by have := KX1.out; omega), fun _ _ => ⟨by rw [KX1.out, KO1.out], EMP.out⟩⟩ ?_
     exact FINEQ.out ▸ hA7
 · have KX1 := Lib.hid kx
   rw [kx]
   clear kx
   obtain ⟨rk, hrk⟩ := HI.out.acy
   obtain ⟨N, hN⟩ := rk_bound rk room
   by_cases hbel : Bel S x tt
   · have BL := Lib.hid (below18 w' H.out HI.out rk hrk N hN tt N x x1 x2 (by omega) true (by simp [hbel]))
     clear hrk hN hbel
     go_wp2_with fail
     refine Calls.mono BL.out ?_
     rintro e w' ⟨rfl, rfl⟩
     go_wp2_with fail
     go_ret
     exact ErAns.no (by decide) (Tr.Tch.refl _ _)
   · have BL := Lib.hid (below18 w' H.out HI.out rk hrk N hN tt N x x1 x2 (by omega) false (by simp [hbel]))
     have HBL := Lib.hid hbel
     clear hrk hN hbel
     go_wp2_with fail
     refine Calls.mono BL.out ?_
     rintro e w' ⟨rfl, rfl⟩
     go_wp2_with fail
     refine Calls.mono LK2.out ?_
     rintro e w' ⟨rfl, rfl⟩
     by_cases ho0 : o = 0
     · subst ho0
       have hox : ¬ (0 : Nat) = x := fun e => HX0.out e.symm
       have FINEQ : Hid ((⟨S.n, setL (setL S.l dir (L s) 0) tt (L s2) x⟩ : T) = renS S dir (L s) tt (L s2) x 0) := Lib.hid (by unfold renS ren0; rw [if_neg hox, if_pos rfl])
       have L1 : Hid (S.l dir (L s) ≠ 0) := Lib.hid (by rw [HX.out]; exact HX0.out)
       have L2 : Hid (setL S.l dir (L s) 0 tt (L s2) = 0) := Lib.hid (by unfold setL; split; rfl; exact HO.out)
       rw [if_pos rfl]
       clear hox
       go_wp2_with fail
       refine Calls.mono (DE1.out _ _ _ ⟨es, pa, ca, H.out⟩ L1.out) ?_
       rintro e w6 ⟨rfl, hA6, hT6⟩
       have A6 := Lib.hid hA6
       have T6 := Lib.hid hT6
       clear hA6 hT6
       go_wp2_with fail
       refine Calls.mono (AD.out _ _ _ hq A6.out L2.out) ?_
       rintro e w7 ⟨rfl, hA7, hT7⟩
       go_wp2_with fail
       go_ret
       refine ErAns.yes (((Tr.Tch.refl (fun b => b = g) w').trans T6.out).trans hT7) ⟨HTK.out, (fun _ => HBL.out), fun e => absurd rfl e⟩ ?_
       exact FINEQ.out ▸ hA7
     by_cases hox : o = x
     · subst hox
       have hox0 : o ≠ 0 := HX0.out
       rw [if_neg hox0]
       clear hox0
       go_wp2_with fail
       refine Calls.mono KX.out ?_
       rintro e w' ⟨rfl, rfl⟩
       rw [KX1.out]
       go_wp2_with fail
       go_ret
       refine ErAns.yes (Tr.Tch.refl _ _) ⟨HTK.out, (fun _ => HBL.out), fun _ e => absurd rfl e⟩ ?_
       unfold renS
       rw [if_pos rfl]
       exact RtA.mono ⟨es, pa, ca, H.out⟩ (Nat.le_succ _) hq
     have NEX : Hid (¬ o = x) := Lib.hid hox
     have NE0 : Hid (o ≠ 0) := Lib.hid ho0
     have tn : ((o : Int) == x) = false := by simp; omega
     have hok := (HI.out.ent tt (L s2) (by rw [HO.out]; exact ho0)).1
     rw [HO.out] at hok
     obtain ⟨o1, o2⟩ := H.out.rng o hok
     have KO := Lib.hid (kind18 w' H.out o o1 o2)
     have HOK := Lib.hid hok
     rw [if_neg ho0]
     clear hok ho0 hox
     go_wp2_with fail
     refine Calls.mono KO.out ?_
     rintro e w' ⟨rfl, rfl⟩
     by_cases hk2 : (S.n o).kind = 2
     · have KO1 : Hid ((S.n o).kind = 2) := Lib.hid hk2
       rw [hk2]
       obtain ⟨i, hoi⟩ : ∃ i, o = i + 1 := ⟨o - 1, by omega⟩
       have hi : i < room := by omega
       have hrm := H.out.rm.2
       have w1 := w_sub hoi (by omega)
       have h0 := H.out.topC
       have LI : Hid (Listing (S.l o) (es i)) := Lib.hid (by rw [hoi]; exact H.out.rows.lst i hi)
       obtain ⟨c0, c1, c2, c3, f⟩ := H.out.cellsX hoi hi
       have NMX := Lib.hid (H.out.rows.nm o)
       clear hk2 hoi c0 c2 c3 f
       by_cases hz : es i = []
       · have EMP : Hid (∀ t, S.l o t = 0) := Lib.hid (fun t => Classical.byContradiction fun ht => by
           have := (LI.out.2 (B t, S.l o t)).2 ⟨by rw [L_B], ht, (NMX.out t ht).2.2⟩
           rw [hz] at this
           cases this)
         rw [hz] at c1
         rw [List.length_nil] at c1
         clear hz
         have NL2 : Hid (∀ t, setL S.l tt (L s2) 0 o t = 0) := Lib.hid (fun t => by
           unfold setL
           split
           · rfl
           · exact EMP.out t)
         have NDT : Hid (¬ (dir = tt ∧ L s = L s2)) := Lib.hid (fun e => NEX.out (by rw [← HO.out, ← HX.out, e.1, e.2]))
         have FINEQ : Hid ((⟨(freS ⟨S.n, setL S.l tt (L s2) 0⟩ o).n, setL (setL (freS ⟨S.n, setL S.l tt (L s2) 0⟩ o).l dir (L s) 0) tt (L s2) x⟩ : T) = renS S dir (L s) tt (L s2) x o) := Lib.hid (by unfold renS ren0; rw [if_neg NEX.out, if_neg NE0.out])
         have L1 : Hid ((freS ⟨S.n, setL S.l tt (L s2) 0⟩ o).l dir (L s) ≠ 0) := Lib.hid (by rw [freS_l]; unfold setL; simp only; rw [if_neg NDT.out, HX.out]; exact HX0.out)
         have L2 : Hid (setL (freS ⟨S.n, setL S.l tt (L s2) 0⟩ o).l dir (L s) 0 tt (L s2) = 0) := Lib.hid (by rw [freS_l]; unfold setL; split; rfl; simp)
         go_wp2_with fail
         refine Calls.mono (DE2.out NE0.out) ?_
         rintro e w2 ⟨rfl, ⟨es', pa', ca', hM⟩, hT⟩
         have FR := Lib.hid (free18 w2 hM o o1 o2 NL2.out)
         have T2 := Lib.hid hT
         clear hM hT
         go_wp2_with fail
         refine Calls.mono FR.out ?_
         rintro e w3 ⟨rfl, hA3, hT3⟩
         have A3 := Lib.hid hA3
         have T3 := Lib.hid (T2.out.trans hT3)
         clear hA3 hT3
         go_wp2_with fail
         refine Calls.mono (DE1.out _ _ _ A3.out L1.out) ?_
         rintro e w6 ⟨rfl, hA6, hT6⟩
         have A6 := Lib.hid hA6
         have T6 := Lib.hid hT6
         clear hA6 hT6
         go_wp2_with fail
         refine Calls.mono (AD.out _ _ _ hq A6.out L2.out) ?_
         rintro e w7 ⟨rfl, hA7, hT7⟩
         go_wp2_with fail
         go_ret
         refine ErAns.yes ((T3.out.trans T6.out).trans hT7) ⟨HTK.out, (fun _ => HBL.out), fun _ _ => ⟨by rw [KX1.out, KO1.out], EMP.out⟩⟩ ?_
         exact FINEQ.out ▸ hA7
       · have hlen : 0 < (es i).length := List.length_pos_iff.2 hz
         obtain ⟨n, hn⟩ : ∃ n, (es i).length = n := ⟨_, rfl⟩
         rw [hn] at c1 hlen
         have t2 : (0 : Int) < n := by omega
         clear hz hn
         go_wp2_with fail
         go_ret
         exact ErAns.no (by decide) (Tr.Tch.refl _ _)
     · have KO1 : Hid ((S.n o).kind = 1) := Lib.hid (by have := H.out.kd o; have := HOK.out; omega)
       rw [KO1.out]
       clear hk2
       go_wp2_with fail
       go_ret
       exact ErAns.no (by decide) (Tr.Tch.refl _ _)
end Go.Proofs.YtmfhnhnmdeabeaaGreat.Re
end
