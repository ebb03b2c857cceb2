/- Layer 18 (tree): a closure that check may call, whatever it is; check of a row of such. -/
import Derived.Test.YtmfhnhnmdeabeaaGreatM04
import Derived.Deep.LoopGhost
set_option linter.unusedVariables false
set_option linter.unusedSimpArgs false
set_option maxRecDepth 100000
section
namespace Go.Proofs.YtmfhnhnmdeabeaaGreat.Tr
open Go.RowKit Go.Shelf Go.Maps Oct Path
variable {E : TL} {room q : Nat} {S : T}
theorem check_there (t b x : Nat) (w : World) (hT : TreeAt w E room q S) (hx : x < 4294967296) (l p b0 : Nat) (hb : SBox w b 93 #[.func (.func 90) #[] #[.pointer (some ⟨l, 0, none⟩), .pointer (some ⟨p, 0, none⟩)]])
   (h1 : SBox w l 63 #[.slice (some ⟨b0, 0, none⟩) 1 1]) (h2 : SBox w p 27 #[.pointer (some ⟨E.t, 0, none⟩)]) (h3 : SBox w b0 37 #[.int .u32 x]) :
   Calls Tryz.prog 46 #[.pointer (some ⟨t, 0, none⟩), .slice (some ⟨b, 0, none⟩) 1 1] w fun e w' => e = .returned (.int .i64 (errB ((S.n x).kind == 0) 3 : Nat)) ∧ Below w.heap.size w w' := by
 refine (check_pure t b 1 (fun _ => 90) (fun _ => #[.pointer (some ⟨l, 0, none⟩), .pointer (some ⟨p, 0, none⟩)])
   [errB ((S.n x).kind == 0) 3] (by simp) _ w hb ?_ ?_ ?_).mono ?_
 · intro i hi
   match i, hi with
   | 0, _ => rfl
   | i + 1, hi => exact absurd hi (by simp)
 · exact fun i W hi => enters_of Tryz.func90 (by kernel_rfl) rfl _ W
 · intro i W hi hB hz
   match i, hi with
   | 0, _ =>
     obtain ⟨l', p', e, hc⟩ := there_call (n := 0) (w := W) (xs := [x]) ⟨l, p, b0, rfl, Nat.zero_le _, Nat.zero_le _, Nat.zero_le _, h1.later hB, h2.later hB, h3.later hB⟩ (hT.later hB) (by simpa using hx) (by simp)
     cases e
     refine hc.mono ?_
     rintro e w2 ⟨rfl, hb2⟩
     exact ⟨by simp, hb2⟩
   | i + 1, hi => exact absurd hi (by simp)
 · rintro e w' ⟨rfl, hb⟩
   refine ⟨?_, hb⟩
   unfold firstE firstE
   by_cases h : errB ((S.n x).kind == 0) 3 = 0
   · rw [if_pos h, h]
   · rw [if_neg h]
theorem fill4 {W : World} {b : Nat} {t : TypeId} {a0 a1 a2 a3 : Value} (h : SBox W b t #[a0, a1, a2, a3]) (v0 v1 v2 v3 : Value) : SBox ((((W.setCell ⟨b, 0, none⟩ v0).setCell ⟨b, 1, none⟩ v1).setCell ⟨b, 2, none⟩ v2).setCell ⟨b, 3, none⟩ v3) b t #[v0, v1, v2, v3] := by
 have h0 := (((h.set 0 v0).set 1 v1).set 2 v2).set 3 v3
 simp only [List.setIfInBounds_toArray, List.set_cons_zero, List.set_cons_succ] at h0
 exact h0
theorem fill4_below {w W : World} {b n : Nat} (h : Below n w W) (hb : n ≤ b) (v0 v1 v2 v3 : Value) : Below n w ((((W.setCell ⟨b, 0, none⟩ v0).setCell ⟨b, 1, none⟩ v1).setCell ⟨b, 2, none⟩ v2).setCell ⟨b, 3, none⟩ v3) :=
 (((h.setCell (p := ⟨b, 0, none⟩) hb v0).setCell (p := ⟨b, 1, none⟩) hb v1).setCell (p := ⟨b, 2, none⟩) hb v2).setCell (p := ⟨b, 3, none⟩) hb v3
def statV (S : T) (x : Nat) : Value := if (S.n x).kind = 0 then .agg #[.int .u32 0, .int .u8 0, .int .i64 0, .int .u32 0] else .agg #[.int .u32 x, .int .u8 (S.n x).kind, .int .i64 (S.n x).links, .int .u32 (S.n x).data.length]
set_option maxHeartbeats 4000000 in
theorem stat_any (w : World) (hT : TreeAt w E room q S) (x : Nat) (hx : x < 4294967296) :
   Calls Tryz.prog 30 #[.pointer (some ⟨E.t, 0, none⟩), .int .u32 x] w fun e w' => e = .returned (.tuple #[statV S x, .int .i64 (errB ((S.n x).kind == 0) 3 : Nat)]) ∧ Below w.heap.size w w' := by
 have HT := Lib.hid hT
 clear hT
 have BS := Lib.hid (SBox.new w 69 #[.int .u32 0, .int .u8 0, .int .i64 0, .int .u32 0])
 go_enter Tryz.func30, Tryz.ntmps30
 go_wp2_with fail
 refine Calls.mono (there_at (n := 0) (t := E.t) (xs := [x]) ⟨w.heap.size + 1, rfl, Nat.zero_le _, by simpa using SBox.new (w.alloc _) _ _⟩ (Nat.zero_le _)) ?_
 rintro e w2 ⟨u, rfl, ⟨l, p, b0, rfl, _, _, _, h1, h2, h3⟩, hb2⟩
 have B2 := Lib.hid ((((Below.refl _ w).alloc (Nat.le_refl _) (.cells #[.int .u32 0, .int .u8 0, .int .i64 0, .int .u32 0] 69)).alloc (by simp) (.cells #[.int .u32 x] 37)).trans (hb2.mono (by simp; omega)))
 have BS2 := Lib.hid ((BS.out.alloc (.cells #[.int .u32 x] 37)).later hb2)
 have HI := Lib.hid (And.intro h1 (And.intro h2 h3))
 clear h1 h2 h3 hb2 BS
 go_wp2_with fail
 have hal := (Below.refl _ w2).alloc (Nat.le_refl _) (.cells #[.func (.func 90) #[] #[.pointer (some ⟨l, 0, none⟩), .pointer (some ⟨p, 0, none⟩)]] 93)
 have hT3 := (HT.out.later B2.out).later hal
 refine Calls.mono (check_there E.t w2.heap.size x _ hT3 hx l p b0 (SBox.new w2 _ _) (HI.out.1.later hal) (HI.out.2.1.later hal) (HI.out.2.2.later hal)) ?_
 rintro e w4 ⟨rfl, hb4⟩
 have HT4 := Lib.hid (hT3.later hb4)
 have BS4 := Lib.hid ((BS2.out.later hal).later hb4)
 have B4 : Hid (Below w.heap.size w w4) := Lib.hid ((B2.out.trans (hal.mono B2.out.size)).trans (hb4.mono (Nat.le_trans B2.out.size hal.size)))
 clear hb4 hT3 hal HT B2 HI BS2
 have hs := BS4.out
 have X0 := hs.cell 0
 have X1 := hs.cell 1
 have X2 := hs.cell 2
 have X3 := hs.cell 3
 simp only [List.getElem?_toArray, List.getElem?_cons_zero, List.getElem?_cons_succ] at X0 X1 X2 X3
 have Xl := hs.lt
 have F0 := hs.free 0
 have F1 := hs.free 1
 have F2 := hs.free 2
 have F3 := hs.free 3
 clear hs
 by_cases h0 : (S.n x).kind = 0
 · have H0 := Lib.hid h0
   have tb : errB ((S.n x).kind == 0) 3 = 3 := by simp [h0, errB]
   rw [tb]
   clear tb h0
   go_wp2_with fail
   have h9 := fill4 BS4.out (.int .u32 0) (.int .u8 0) (.int .i64 0) (.int .u32 0)
   have K0 := h9.cell 0
   have K1 := h9.cell 1
   have K2 := h9.cell 2
   have K3 := h9.cell 3
   simp only [List.getElem?_toArray, List.getElem?_cons_zero, List.getElem?_cons_succ] at K0 K1 K2 K3
   have Kl := h9.lt
   exact bodyPost_ret (v := .tuple #[.agg #[.int .u32 0, .int .u8 0, .int .i64 0, .int .u32 0], .int .i64 3]) (by simp [results, Tryz.results30, go_sem, K0, K1, K2, K3]) rfl ⟨by unfold statV; rw [if_pos H0.out, H0.out]; rfl, fill4_below B4.out (Nat.le_refl _) (.int .u32 0) (.int .u8 0) (.int .i64 0) (.int .u32 0)⟩
 · have H0 := Lib.hid h0
   have LK := HT4.out.look_is hx h0
   have hY := HT4.out.top
   have Y0 := hY.cell 0
   have Y1 := hY.cell 1
   simp only [List.getElem?_toArray, List.getElem?_cons_zero, List.getElem?_cons_succ] at Y0 Y1
   have Yl := hY.lt
   have hV := HT4.out.nd x h0
   have V0 := hV.cell 0
   have V1 := hV.cell 1
   have V2 := hV.cell 2
   have V3 := hV.cell 3
   have V4 := hV.cell 4
   have V5 := hV.cell 5
   have V6 := hV.cell 6
   simp only [List.getElem?_toArray, List.getElem?_cons_zero, List.getElem?_cons_succ] at V0 V1 V2 V3 V4 V5 V6
   have Vl := hV.lt
   have tb : errB ((S.n x).kind == 0) 3 = 0 := by simp [h0, errB]
   rw [tb]
   clear tb h0 hY hV
   go_wp2_with fail
   go_region
   go_wp2_with fail
   have h9 := (fill4 BS4.out (.int .u32 x) (.int .u8 (S.n x).kind) (.int .i64 (S.n x).links) (.int .u32 (S.n x).data.length)).drew
   have K0 := h9.cell 0
   have K1 := h9.cell 1
   have K2 := h9.cell 2
   have K3 := h9.cell 3
   simp only [List.getElem?_toArray, List.getElem?_cons_zero, List.getElem?_cons_succ] at K0 K1 K2 K3
   have Kl := h9.lt
   exact bodyPost_ret (v := .tuple #[.agg #[.int .u32 x, .int .u8 (S.n x).kind, .int .i64 (S.n x).links, .int .u32 (S.n x).data.length], .int .i64 0]) (by simp [results, Tryz.results30, go_sem, K0, K1, K2, K3]) rfl ⟨by unfold statV; rw [if_neg H0.out, show ((S.n x).kind == 0) = false by simpa using H0.out]; rfl, (fill4_below B4.out (Nat.le_refl _) (.int .u32 x) (.int .u8 (S.n x).kind) (.int .i64 (S.n x).links) (.int .u32 (S.n x).data.length)).drew⟩
end Go.Proofs.YtmfhnhnmdeabeaaGreat.Tr
end
section
namespace Go.Proofs.YtmfhnhnmdeabeaaGreat.Tr
open Go.RowKit Go.Shelf Go.Maps Oct Path
variable {E : TL} {room q : Nat} {S : T}
theorem Inv.up_kind {room : Nat} {S : T} (h : Inv room S) {x : Nat} (hx : (S.n x).up ≠ 0) : (S.n (S.n x).up).kind ≠ 0 := fun e => by
 obtain ⟨a, b, s, hs⟩ := h.up_ent hx
 rw [h.noL _ s (by omega)] at hs
 subst hs
 have := h.zero
 omega
theorem bel_step {S : T} {top d : Nat} (h : d ≠ top) : Bel S top d ↔ (S.n d).up ≠ 0 ∧ Bel S top (S.n d).up := by
 constructor
 · intro b
   cases b with
   | here => exact absurd rfl h
   | up _ a c => exact ⟨a, c⟩
 · rintro ⟨a, c⟩
   exact .up d a c
def BelB (S : T) (top dir : Nat) (e : Ending) : Prop := ∃ b : Bool, e = .returned (.bool b) ∧ (b = true ↔ Bel S top dir)
set_option maxHeartbeats 4000000 in
theorem below_any (w : World) (hT : TreeAt w E room q S) (hI : Inv room S) (dir top : Nat) (hd : (S.n dir).kind ≠ 0) (htop : top ≠ 0) (ht : top < 4294967296) :
   Calls Tryz.prog 155 #[.pointer (some ⟨E.t, 0, none⟩), .int .u32 dir, .int .u32 top] w fun e w' => BelB S top dir e ∧ w = w' := by
 obtain ⟨rk, hrk⟩ := hI.acy
 have HT := Lib.hid hT
 have HI := Lib.hid hI
 have HR := Lib.hid hrk
 have hd0 : dir ≠ 0 := fun e => by have := hI.zero; rw [e] at hd; omega
 have HD := Lib.hid (And.intro hd hd0)
 have HP := Lib.hid htop
 have hY := hT.top
 have Y0 := hY.cell 0
 have Y1 := hY.cell 1
 simp only [List.getElem?_toArray, List.getElem?_cons_zero, List.getElem?_cons_succ] at Y0 Y1
 have Yl := hY.lt
 clear hY hT hI hrk hd hd0 htop
 go_enter Tryz.func155, Tryz.ntmps155
 go_wp2_with fail
 go_loop [1] (fun c => ∃ d : Nat, c = .int .u32 d ∧ (d = 0 ∨ (S.n d).kind ≠ 0) ∧ (Bel S top dir ↔ d ≠ 0 ∧ Bel S top d)) (fun c => if (intOf c).toNat = 0 then 0 else rk (intOf c).toNat + 1)
 case atStart => exact ⟨dir, rfl, .inr HD.out.1, ⟨fun h => ⟨HD.out.2, h⟩, fun h => h.2⟩⟩
 case round =>
   obtain ⟨d, rfl, hk, hb⟩ := hrel
   have HB := Lib.hid hb
   by_cases h0 : d = 0
   · subst h0
     clear hk hb
     have e0 : ((0 : Nat) : Int) = 0 := rfl
     simp only [e0]
     go_wp2_with fail
     go_ret
     exact ⟨⟨false, rfl, ⟨fun h => (by cases h), fun h => absurd rfl (HB.out.1 h).1⟩⟩, rfl⟩
   · have hk' := hk.resolve_left h0
     have hlt : d < 4294967296 := by have := HI.out.rng d hk'; have := HT.out.rm; omega
     have t0 : ((d : Int) != 0) = true := by simp; omega
     by_cases ht2 : d = top
     · subst ht2
       clear hk hb hk'
       go_wp2_with fail
       go_ret
       exact ⟨⟨true, rfl, ⟨fun _ => HB.out.2 ⟨HP.out, .here⟩, fun _ => rfl⟩⟩, rfl⟩
     · have t1 : ((d : Int) == (top : Int)) = false := by simp; omega
       have LK := HT.out.look_is hlt hk'
       have hV := HT.out.nd d hk'
       have V0 := hV.cell 0
       have V1 := hV.cell 1
       have V2 := hV.cell 2
       have V3 := hV.cell 3
       have V4 := hV.cell 4
       have V5 := hV.cell 5
       have V6 := hV.cell 6
       simp only [List.getElem?_toArray, List.getElem?_cons_zero, List.getElem?_cons_succ] at V0 V1 V2 V3 V4 V5 V6
       have Vl := hV.lt
       have HS := Lib.hid (bel_step (S := S) ht2)
       have HK := Lib.hid hk'
       have H0 := Lib.hid h0
       clear hV hk hb hk' ht2 h0
       go_wp2_with fail
       go_round
       case rel =>
         refine ⟨(S.n d).up, rfl, ?_, ?_⟩
         · by_cases hu : (S.n d).up = 0
           · exact .inl hu
           · exact .inr (HI.out.up_kind hu)
         · rw [HB.out, HS.out]
           exact ⟨fun h => h.2, fun h => ⟨H0.out, h⟩⟩
       case measure =>
         have h0 := H0.out
         have := HR.out d
         simp only [intOf, Int.toNat_natCast]
         by_cases hu : (S.n d).up = 0
         · simp [h0, hu]
         · have := this hu
           simp [h0, hu]
           omega
end Go.Proofs.YtmfhnhnmdeabeaaGreat.Tr
end
section
namespace Go.Proofs.YtmfhnhnmdeabeaaGreat.Tr
open Go.RowKit Go.Shelf Go.Maps Oct Path
variable {E : TL} {room q : Nat} {S : T}
set_option maxHeartbeats 400000 in
theorem make1_any (a b x : Nat) (w : World) (hT : TreeAt w E room q S) (ha : SBox w a 37 #[.int .u32 x]) (hb : SBox w b 27 #[.pointer (some ⟨E.t, 0, none⟩)]) :
   Calls Tryz.prog 147 #[.pointer (some ⟨a, 0, none⟩), .pointer (some ⟨b, 0, none⟩)] w fun e w' => e = .returned (.int .i64 (errB (decide (x < 1) || decide (room < x)) 2 : Nat)) ∧ Below w.heap.size w w' := by
 have A0 := ha.cell 0
 have B0 := hb.cell 0
 simp only [List.getElem?_toArray, List.getElem?_cons_zero] at A0 B0
 have Al := ha.lt
 have Bl := hb.lt
 have hY := hT.top
 have Y0 := hY.cell 0
 have Y1 := hY.cell 1
 simp only [List.getElem?_toArray, List.getElem?_cons_zero, List.getElem?_cons_succ] at Y0 Y1
 have Yl := hY.lt
 clear ha hb hY hT
 rcases (by omega : x < 1 ∨ (¬ x < 1 ∧ room < x) ∨ (¬ x < 1 ∧ ¬ room < x)) with h1 | ⟨h1, h2⟩ | ⟨h1, h2⟩
 · have hb : (decide (x < 1) || decide (room < x)) = true := by simp [h1]
   have t1 : decide ((x : Int) < 1) = true := by simp; omega
   rw [hb]
   clear hb h1
   go_enter Tryz.func147, Tryz.ntmps147
   go_wp2_with fail
   go_quiet ((go_at_call 51; exact Calls.quiet_of_same (turn (as_yes _ _))))
   go_wp2_with fail
   go_ret
   exact ⟨rfl, below_n⟩
 · have hb : (decide (x < 1) || decide (room < x)) = true := by simp [h2]
   have t1 : decide ((x : Int) < 1) = false := by simp; omega
   have t2 : decide ((room : Int) < x) = true := by simp; omega
   have t3 : decide (room < x) = true := by simpa using h2
   rw [hb]
   clear hb h1 h2
   go_enter Tryz.func147, Tryz.ntmps147
   go_wp2_with fail
   go_quiet ((go_at_call 51; exact Calls.quiet_of_same (turn (as_yes _ _))))
   go_wp2_with fail
   go_ret
   exact ⟨rfl, below_n⟩
 · have hb : (decide (x < 1) || decide (room < x)) = false := by simp [h1, h2]
   have t1 : decide ((x : Int) < 1) = false := by simp; omega
   have t2 : decide ((room : Int) < x) = false := by simp; omega
   have t3 : decide (room < x) = false := by simpa using h2
   rw [hb]
   clear hb h1 h2
   go_enter Tryz.func147, Tryz.ntmps147
   go_wp2_with fail
   go_quiet ((go_at_call 51; exact Calls.quiet_of_same (turn (as_no _ _))))
   go_wp2_with fail
   go_ret
   exact ⟨rfl, below_n⟩
end Go.Proofs.YtmfhnhnmdeabeaaGreat.Tr
end
section
namespace Go.Proofs.YtmfhnhnmdeabeaaGreat.Tr
open Go.RowKit Go.Shelf Go.Maps Oct Path
variable {E : TL} {room q : Nat} {S : T}
theorem gives_ok (w : World) (hT : TreeAt w E room q S) (x y : Nat) (hx : (S.n x).kind ≠ 0) (hy : (S.n y).kind = (S.n x).kind) (hl : ∀ s, S.l y s = 0) :
   Calls Tryz.prog 156 #[.pointer (some ⟨E.P x, 0, none⟩), .pointer (some ⟨E.P y, 0, none⟩)] w fun e w' => e = .returned (.int .i64 0) ∧ w = w' := by
 have hy0 : (S.n y).kind ≠ 0 := by omega
 have DX := Lib.hid (hT.dir hx)
 have DY := Lib.hid (hT.dir hy0)
 rw [hy] at DY
 have hV := hT.nd y hy0
 have V0 := hV.cell 0
 have V1 := hV.cell 1
 have V2 := hV.cell 2
 have V3 := hV.cell 3
 have V4 := hV.cell 4
 have V5 := hV.cell 5
 have V6 := hV.cell 6
 simp only [List.getElem?_toArray, List.getElem?_cons_zero, List.getElem?_cons_succ] at V0 V1 V2 V3 V4 V5 V6
 have Vl := hV.lt
 obtain ⟨ks, _, k2, _, _, hlen⟩ := (hT.ent y hy0).len kStr Tryz.underlying98 3
 have e0 : ks = [] := by
   rw [List.eq_nil_iff_forall_not_mem]
   intro k hk
   have := (k2 k hk).1
   cases k with
   | string s => simp [strF, entF, hl] at this
   | _ => cases this
 subst e0
 have hlen0 : (Builtin.len_ #[98] 3 #[.map (some (E.A y))]).run Tryz.prog w = .ok (.int .i64 0) w := hlen
 clear hV k2 hlen hT hl hy0
 by_cases h2 : (S.n x).kind = 2
 · have tb : ((S.n x).kind == 2) = true := by simp [h2]
   rw [tb] at DX DY
   clear tb h2 hx hy
   go_enter Tryz.func156, Tryz.ntmps156
   go_wp2_with fail
   refine Calls.mono DY.out ?_
   rintro e w8 ⟨rfl, rfl⟩
   go_wp2_with fail
   refine Calls.mono DX.out ?_
   rintro e w8 ⟨rfl, rfl⟩
   go_wp2_with fail
   refine Calls.mono DY.out ?_
   rintro e w8 ⟨rfl, rfl⟩
   go_wp2_with fail
   refine (as_no 182 _).mono ?_
   rintro e w8 ⟨rfl, rfl⟩
   go_wp2_with fail
   go_ret
   exact ⟨rfl, rfl⟩
 · have tb : ((S.n x).kind == 2) = false := by simp [h2]
   rw [tb] at DX DY
   clear tb h2 hx hy
   go_enter Tryz.func156, Tryz.ntmps156
   go_wp2_with fail
   refine Calls.mono DY.out ?_
   rintro e w8 ⟨rfl, rfl⟩
   go_wp2_with fail
   refine Calls.mono DY.out ?_
   rintro e w8 ⟨rfl, rfl⟩
   go_wp2_with fail
   refine Calls.mono DX.out ?_
   rintro e w8 ⟨rfl, rfl⟩
   go_wp2_with fail
   refine (as_no 182 _).mono ?_
   rintro e w8 ⟨rfl, rfl⟩
   go_wp2_with fail
   go_ret
   exact ⟨rfl, rfl⟩
theorem unlink1_ok (w : World) (hT : TreeAt w E room q S) (y : Nat) (hy0 : (S.n y).kind ≠ 0) (hy2 : (S.n y).kind ≠ 2) :
   Calls Tryz.prog 154 #[.pointer (some ⟨E.P y, 0, none⟩)] w fun e w' => e = .returned (.int .i64 0) ∧ w = w' := by
 have DY := Lib.hid (hT.dir hy0)
 have tb : ((S.n y).kind == 2) = false := by simp [hy2]
 rw [tb] at DY
 clear tb hT hy0 hy2
 go_enter Tryz.func154, Tryz.ntmps154
 go_wp2_with fail
 refine Calls.mono DY.out ?_
 rintro e w8 ⟨rfl, rfl⟩
 go_wp2_with fail
 refine (as_no 181 _).mono ?_
 rintro e w8 ⟨rfl, rfl⟩
 go_wp2_with fail
 go_ret
 exact ⟨rfl, rfl⟩
theorem rmdir1_ok (w : World) (hT : TreeAt w E room q S) (y : Nat) (hy2 : (S.n y).kind = 2) (hl : ∀ s, S.l y s = 0) :
   Calls Tryz.prog 153 #[.pointer (some ⟨E.P y, 0, none⟩)] w fun e w' => e = .returned (.int .i64 0) ∧ w = w' := by
 have hy0 : (S.n y).kind ≠ 0 := by omega
 have DY := Lib.hid (hT.dir hy0)
 have tb : ((S.n y).kind == 2) = true := by simp [hy2]
 rw [tb] at DY
 have hV := hT.nd y hy0
 have V0 := hV.cell 0
 have V1 := hV.cell 1
 have V2 := hV.cell 2
 have V3 := hV.cell 3
 have V4 := hV.cell 4
 have V5 := hV.cell 5
 have V6 := hV.cell 6
 simp only [List.getElem?_toArray, List.getElem?_cons_zero, List.getElem?_cons_succ] at V0 V1 V2 V3 V4 V5 V6
 have Vl := hV.lt
 obtain ⟨ks, _, k2, _, _, hlen⟩ := (hT.ent y hy0).len kStr Tryz.underlying98 3
 have e0 : ks = [] := by
   rw [List.eq_nil_iff_forall_not_mem]
   intro k hk
   have := (k2 k hk).1
   cases k with
   | string s => simp [strF, entF, hl] at this
   | _ => cases this
 subst e0
 have hlen0 : (Builtin.len_ #[98] 3 #[.map (some (E.A y))]).run Tryz.prog w = .ok (.int .i64 0) w := hlen
 clear hV k2 hlen hT hl hy0 tb hy2
 go_enter Tryz.func153, Tryz.ntmps153
 go_wp2_with fail
 refine Calls.mono DY.out ?_
 rintro e w8 ⟨rfl, rfl⟩
 go_wp2_with fail
 refine (as_no 182 _).mono ?_
 rintro e w8 ⟨rfl, rfl⟩
 go_wp2_with fail
 go_ret
 exact ⟨rfl, rfl⟩
end Go.Proofs.YtmfhnhnmdeabeaaGreat.Tr
end
section
namespace Go.Proofs.YtmfhnhnmdeabeaaGreat.Tr
open Go.RowKit Go.Shelf Go.Maps Oct Path
variable {E : TL} {room q : Nat} {S : T}
def CloAt (pre : Prop) (e : Nat) (v : Value) (w : World) : Prop := ∃ f lb, v = .func (.func f) #[] lb ∧ (∀ W, (callFunc f lb).run Tryz.prog W = .ok (.enter f lb) W) ∧
 ∀ W, Below w.heap.size w W → pre → Calls Tryz.prog f lb W fun r W' => r = .returned (.int .i64 (e : Nat)) ∧ Below W.heap.size W W'
theorem CloAt.later {pre : Prop} {e : Nat} {v : Value} {w w' : World} (h : CloAt pre e v w) (hb : Below w.heap.size w w') : CloAt pre e v w' := by
 obtain ⟨f, lb, h1, h2, h3⟩ := h
 exact ⟨f, lb, h1, h2, fun W hW p => h3 W (hb.trans (hW.mono hb.size)) p⟩
theorem CloAt.weak {pre pre' : Prop} {e : Nat} {v : Value} {w : World} (h : CloAt pre e v w) (hp : pre' → pre) : CloAt pre' e v w := by
 obtain ⟨f, lb, h1, h2, h3⟩ := h
 exact ⟨f, lb, h1, h2, fun W hW p => h3 W hW (hp p)⟩
theorem getD_arr (l : List Value) (i : Nat) (hi : i < l.length) : l.toArray[i]? = some (l.getD i undef) := by simp [hi]
theorem check_clo (t b : Nat) (vs : List Value) (es : List Nat) (w : World) (hl : vs.length = es.length) (hn : es.length ≤ 100) (hb : SBox w b 93 vs.toArray)
   (hc : ∀ i, i < es.length → CloAt (∀ j < i, es.getD j 0 = 0) (es.getD i 0) (vs.getD i undef) w) :
   Calls Tryz.prog 46 #[.pointer (some ⟨t, 0, none⟩), .slice (some ⟨b, 0, none⟩) vs.length vs.length] w fun e w' => e = .returned (.int .i64 (firstE es : Nat)) ∧ Below w.heap.size w w' := by
 rw [hl]
 have hch : ∃ (g : Nat → Nat) (lb : Nat → Array Value), ∀ i, i < es.length → vs.getD i undef = .func (.func (g i)) #[] (lb i) ∧ (∀ W, (callFunc (g i) (lb i)).run Tryz.prog W = .ok (.enter (g i) (lb i)) W) ∧
     ∀ W, Below w.heap.size w W → (∀ j < i, es.getD j 0 = 0) → Calls Tryz.prog (g i) (lb i) W fun r W' => r = .returned (.int .i64 (es.getD i 0 : Nat)) ∧ Below W.heap.size W W' := by
   refine ⟨fun i => if h : i < es.length then (hc i h).choose else 0, fun i => if h : i < es.length then (hc i h).choose_spec.choose else #[], fun i hi => ?_⟩
   simp only [hi, dif_pos]
   exact (hc i hi).choose_spec.choose_spec
 obtain ⟨g, lb, h⟩ := hch
 refine check_pure t b es.length g lb es hn vs.toArray w hb (fun i hi => ?_) (fun i W hi => (h i hi).2.1 W) (fun i W hi hB hz => (h i hi).2.2 W hB hz)
 rw [getD_arr _ _ (by omega), (h i hi).1]
theorem clo_names {n : Nat} {ss : List ByteArray} {v : Value} {w : World} (h : SlAt n 9 (ss.map Value.string).toArray v w) (hn : n ≤ w.heap.size) (hs : ∀ s ∈ ss, s.size ≤ maxLen) (hl : ss.length ≤ 100) :
   Calls Tryz.prog 47 #[v] w fun e w' => ∃ u, e = .returned u ∧ CloAt True (errB (ss.any fun s => !isName (L s)) 2) u w' ∧ Below w.heap.size w w' := by
 refine (names_at h hn).mono ?_
 rintro e w' ⟨u, rfl, hu, hb⟩
 refine ⟨u, rfl, ?_, hb⟩
 have hu' := hu
 obtain ⟨p, b, rfl, _⟩ := hu'
 refine ⟨_, _, rfl, (fun W => enters_of Tryz.func86 (by kernel_rfl) rfl _ W), fun W hW _ => ?_⟩
 obtain ⟨p2, h1, h2⟩ := (hu.stay (StayN.of hW)).call hs hl
 cases h1
 exact h2
theorem clo_there {n : Nat} {xs : List Nat} {v : Value} {w : World} (h : SlAt n 37 (xs.map fun x => Value.int .u32 (x : Nat)).toArray v w) (hn : n ≤ w.heap.size) (hT : TreeAt w E room q S) (hs : ∀ x ∈ xs, x < 4294967296) (hl : xs.length ≤ 100) :
   Calls Tryz.prog 48 #[.pointer (some ⟨E.t, 0, none⟩), v] w fun e w' => ∃ u, e = .returned u ∧ CloAt True (errB (xs.any fun x => (S.n x).kind == 0) 3) u w' ∧ Below w.heap.size w w' := by
 refine (there_at h hn).mono ?_
 rintro e w' ⟨u, rfl, hu, hb⟩
 refine ⟨u, rfl, ?_, hb⟩
 have hu' := hu
 obtain ⟨l, p, b, rfl, _⟩ := hu'
 refine ⟨_, _, rfl, (fun W => enters_of Tryz.func90 (by kernel_rfl) rfl _ W), fun W hW _ => ?_⟩
 obtain ⟨l2, p2, h1, h2⟩ := there_call (hu.stay (StayN.of hW)) ((hT.later hb).later hW) hs hl
 cases h1
 exact h2
theorem clo_dirs {n : Nat} {xs : List Nat} {v : Value} {w : World} (h : SlAt n 37 (xs.map fun x => Value.int .u32 (x : Nat)).toArray v w) (hn : n ≤ w.heap.size) (hT : TreeAt w E room q S) (hs : ∀ x ∈ xs, x < 4294967296) (hl : xs.length ≤ 100) :
   Calls Tryz.prog 49 #[.pointer (some ⟨E.t, 0, none⟩), v] w fun e w' => ∃ u, e = .returned u ∧ CloAt ((xs.any fun x => (S.n x).kind == 0) = false) (errB (xs.any fun x => !((S.n x).kind == 2)) 180) u w' ∧ Below w.heap.size w w' := by
 refine (dirs_at h hn).mono ?_
 rintro e w' ⟨u, rfl, hu, hb⟩
 refine ⟨u, rfl, ?_, hb⟩
 have hu' := hu
 obtain ⟨l, p, b, rfl, _⟩ := hu'
 refine ⟨_, _, rfl, (fun W => enters_of Tryz.func93 (by kernel_rfl) rfl _ W), fun W hW hk => ?_⟩
 obtain ⟨l2, p2, h1, h2⟩ := dirs_call (hu.stay (StayN.of hW)) ((hT.later hb).later hW) hs hl hk
 cases h1
 exact h2
theorem clo_file {w : World} (hT : TreeAt w E room q S) {x : Nat} (hx : x < 4294967296) :
   Calls Tryz.prog 68 #[.pointer (some ⟨E.t, 0, none⟩), .int .u32 x] w fun e w' => ∃ u, e = .returned u ∧ CloAt ((S.n x).kind ≠ 0) (errB ((S.n x).kind == 2) 181) u w' ∧ Below w.heap.size w w' := by
 refine (file_mk _ _ w).mono ?_
 rintro e w' ⟨rfl, rfl⟩
 have hb := ((Below.refl w.heap.size w).alloc (Nat.le_refl _) (.cells #[.pointer (some ⟨E.t, 0, none⟩)] 27)).alloc (by simp) (.cells #[.int .u32 x] 37)
 refine ⟨_, rfl, ⟨_, _, rfl, (fun W => enters_of Tryz.func116 (by kernel_rfl) rfl _ W), fun W hW hk => ?_⟩, hb⟩
 exact file1_any _ _ x hx hk W ((hT.later hb).later hW) (((SBox.new w _ _).alloc _).later hW) (by simpa using (SBox.new (w.alloc _) 37 #[.int .u32 x]).later hW)
theorem clo_kinds (k : Nat) {w : World} :
   Calls Tryz.prog 146 #[.int .u8 k] w fun e w' => ∃ u, e = .returned u ∧ CloAt True (errB (k != 1 && k != 2) 2) u w' ∧ Below w.heap.size w w' := by
 refine (kinds_mk _ w).mono ?_
 rintro e w' ⟨rfl, rfl⟩
 have hb := (Below.refl w.heap.size w).alloc (Nat.le_refl _) (.cells #[.int .u8 k] 5)
 refine ⟨_, rfl, ⟨_, _, rfl, (fun W => enters_of Tryz.func180 (by kernel_rfl) rfl _ W), fun W hW _ => ?_⟩, hb⟩
 exact kinds1_any _ k W ((SBox.new w _ _).later hW)
theorem clo_paged (k : Int) {w : World} :
   Calls Tryz.prog 69 #[.int .i64 k] w fun e w' => ∃ u, e = .returned u ∧ CloAt True (errB (decide (k < 0) || decide (36 ≤ k)) 2) u w' ∧ Below w.heap.size w w' := by
 refine (paged_mk _ w).mono ?_
 rintro e w' ⟨rfl, rfl⟩
 have hb := (Below.refl w.heap.size w).alloc (Nat.le_refl _) (.cells #[.int .i64 k] 3)
 refine ⟨_, rfl, ⟨_, _, rfl, (fun W => enters_of Tryz.func117 (by kernel_rfl) rfl _ W), fun W hW _ => ?_⟩, hb⟩
 exact paged1_any _ k W ((SBox.new w _ _).later hW)
theorem clo_fresh {w : World} (hT : TreeAt w E room q S) {x : Nat} (hx : x < 4294967296) {s : ByteArray} (hs : s.size ≤ maxLen) :
   Calls Tryz.prog 148 #[.pointer (some ⟨E.t, 0, none⟩), .int .u32 x, .string s] w fun e w' => ∃ u, e = .returned u ∧ CloAt ((S.n x).kind ≠ 0) (errB (S.l x (L s) != 0) 9) u w' ∧ Below w.heap.size w w' := by
 refine (freshT_mk _ _ _ w).mono ?_
 rintro e w' ⟨rfl, rfl⟩
 have hb := (((Below.refl w.heap.size w).alloc (Nat.le_refl _) (.cells #[.pointer (some ⟨E.t, 0, none⟩)] 27)).alloc (by simp) (.cells #[.int .u32 x] 37)).alloc (by simp; omega) (.cells #[.string s] 9)
 refine ⟨_, rfl, ⟨_, _, rfl, (fun W => enters_of Tryz.func181 (by kernel_rfl) rfl _ W), fun W hW hk => ?_⟩, hb⟩
 exact fresh1_any _ _ _ x s hs hx hk W ((hT.later hb).later hW) ((((SBox.new w _ _).alloc _).alloc _).later hW) (by simpa using ((SBox.new (w.alloc _) 37 #[.int .u32 x]).alloc _).later hW) (by simpa using (SBox.new ((w.alloc _).alloc _) 9 #[.string s]).later hW)
end Go.Proofs.YtmfhnhnmdeabeaaGreat.Tr
end
