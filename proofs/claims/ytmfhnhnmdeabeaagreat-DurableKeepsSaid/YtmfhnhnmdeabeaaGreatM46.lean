/- The reference of layer 22: Meet, of two records that may be: true of two that meet alone. -/
import Derived.Test.YtmfhnhnmdeabeaaGreatM34
import Derived.Test.YtmfhnhnmdeabeaaGreatM45
import Derived.BigQuiet
set_option linter.unusedVariables false
set_option linter.unusedSimpArgs false
set_option maxRecDepth 100000
section
namespace Go.Proofs.YtmfhnhnmdeabeaaGreat.Re
open Go.RowKit Go.Shelf Go.Maps Oct Path Tr
def RowO (W : World) (base : Nat) (v : Value) (xs : List Pt) : Prop := W.ownsRow base 156 4 v xs.length (xs.flatMap encPt)
def RowQ (W : World) (p : Option Addr) (xs : List Pt) : Prop := ∀ i x, xs[i]? = some x → ∃ g, p = some ⟨g, 0, none⟩ ∧ g < W.heap.size ∧ W.cell? ⟨g, i * 4, none⟩ = some (.int .u8 x.kind) ∧ W.cell? ⟨g, i * 4 + 1, none⟩ = some (.int .u32 x.ino) ∧ W.cell? ⟨g, i * 4 + 2, none⟩ = some (.string (B x.name)) ∧ W.cell? ⟨g, i * 4 + 3, none⟩ = some (.bool x.w)
theorem RowO.of {W : World} {base : Nat} {v : Value} {xs : List Pt} (h : RowO W base v xs) : ∃ p cap, v = .slice p xs.length cap ∧ RowQ W p xs := by
 rcases Nat.eq_zero_or_pos xs.length with h0 | h0
 · have e : xs = [] := List.eq_nil_of_length_eq_zero h0
   subst e
   rcases h.2 with ⟨rfl, _⟩ | ⟨g, cap, cur, rfl, _⟩
   · exact ⟨none, 0, rfl, fun i x hx => by cases hx⟩
   · exact ⟨_, cap, rfl, fun i x hx => by cases hx⟩
 · obtain ⟨g, cap, rfl, _, hR⟩ := RowP.of h h0
   exact ⟨_, cap, rfl, fun i x hx => ⟨g, rfl, hR.lt, hR.at_ i x hx⟩⟩
theorem RowQ.later {W W' : World} {p : Option Addr} {xs : List Pt} (h : RowQ W p xs) (hb : Below W.heap.size W W') : RowQ W' p xs := fun i x hx => by
 obtain ⟨g, rfl, hg, hc⟩ := h i x hx
 refine ⟨g, rfl, Nat.lt_of_lt_of_le hg hb.size, ?_⟩
 have e : ∀ k, W'.cell? ⟨g, k, none⟩ = W.cell? ⟨g, k, none⟩ := fun k => by
   unfold World.cell?
   rw [hb.block g hg]
 simp only [e]
 exact hc
set_option maxHeartbeats 800000 in
theorem rmeet_raw (a b : Rc) (wz : World) (c0 c1 c2 c3 c4 c5 c6 c7 c8 c9 c10 c11 d0 d1 d2 d3 d4 d5 d6 d7 d8 d9 d10 d11 : Value) (hPA : ∀ W, Calls Tryz.prog 115 #[.agg #[c0, c1, c2, c3, c4, c5, c6, c7, c8, c9, c10, c11]] W (PartsAns a W)) (hPB : ∀ W, Calls Tryz.prog 115 #[.agg #[d0, d1, d2, d3, d4, d5, d6, d7, d8, d9, d10, d11]] W (PartsAns b W)) : Calls Tryz.prog 67 #[.agg #[c0, c1, c2, c3, c4, c5, c6, c7, c8, c9, c10, c11], .agg #[d0, d1, d2, d3, d4, d5, d6, d7, d8, d9, d10, d11]] wz fun e w' => (∃ q, e = .returned (.bool q) ∧ (q = true → meet a b = true)) ∧ Below wz.heap.size wz w' := by
 have PA := Lib.hid hPA
 have PB := Lib.hid hPB
 have B0 := (Below.refl _ wz).alloc (Nat.le_refl _) (.cells #[c0, c1, c2, c3, c4, c5, c6, c7, c8, c9, c10, c11] 39)
 have BB := Lib.hid (B0.alloc B0.size (.cells #[d0, d1, d2, d3, d4, d5, d6, d7, d8, d9, d10, d11] 39))
 have AX := Lib.hid ((SBox.new wz 39 #[c0, c1, c2, c3, c4, c5, c6, c7, c8, c9, c10, c11]).alloc (.cells #[d0, d1, d2, d3, d4, d5, d6, d7, d8, d9, d10, d11] 39))
 have BX := Lib.hid (show SBox ((wz.alloc (.cells #[c0, c1, c2, c3, c4, c5, c6, c7, c8, c9, c10, c11] 39)).alloc (.cells #[d0, d1, d2, d3, d4, d5, d6, d7, d8, d9, d10, d11] 39)) (wz.heap.size + 1) 39 #[d0, d1, d2, d3, d4, d5, d6, d7, d8, d9, d10, d11] from by simpa using SBox.new (wz.alloc (.cells #[c0, c1, c2, c3, c4, c5, c6, c7, c8, c9, c10, c11] 39)) 39 #[d0, d1, d2, d3, d4, d5, d6, d7, d8, d9, d10, d11])
 clear hPA hPB B0
 go_enter Tryz.func67, Tryz.ntmps67
 go_wp2_with fail
 refine wp_region_phi (by kernel_rfl) (fun | 0 => some 9 | 1 => some 10 | 2 => some 11 | 3 => some 12 | 4 => some 5 | 5 => some 6 | _ => none) (fun a0 => ∃ x5 x6 x9 x10 x11 x12 : Value, a0 = ⟨#[.agg #[c0, c1, c2, c3, c4, c5, c6, c7, c8, c9, c10, c11], .agg #[d0, d1, d2, d3, d4, d5, d6, d7, d8, d9, d10, d11], .pointer (some ⟨wz.heap.size, 0, none⟩), .pointer (some ⟨wz.heap.size + 1, 0, none⟩), .bool false, x5, x6, undef, undef, x9, x10, x11, x12, undef, undef, undef, undef, undef, undef, undef, undef, undef, undef, undef, undef, undef, undef, undef, undef, undef, undef, undef, undef, undef, undef, undef, undef, undef, undef, undef, undef, undef, undef, undef, undef, undef, undef, undef, undef, undef, undef, undef, undef, undef, undef, undef, undef, undef, undef, undef, undef, undef, undef, undef, undef, undef, undef, undef, undef, undef, undef, undef, undef, undef, undef, undef], []⟩) (fun _ V => Below wz.heap.size wz V ∧ SBox V wz.heap.size 39 #[c0, c1, c2, c3, c4, c5, c6, c7, c8, c9, c10, c11] ∧ SBox V (wz.heap.size + 1) 39 #[d0, d1, d2, d3, d4, d5, d6, d7, d8, d9, d10, d11]) (fun _ w1 w2 => Below w1.heap.size w1 w2) (fun | 0 => (fun v w => v = Value.agg #[c0, c1, c2, c3, c4, c5, c6, c7, c8, c9, c10, c11]) | 1 => (fun v w => ∃ xs, (xs = [] ∨ xs = parts a) ∧ RowO w wz.heap.size v xs) | 2 => (fun v w => v = Value.agg #[d0, d1, d2, d3, d4, d5, d6, d7, d8, d9, d10, d11]) | 3 => (fun v w => ∃ xs, (xs = [] ∨ xs = parts b) ∧ RowO w wz.heap.size v xs) | 4 => (fun v w => ∃ xs, (xs = [] ∨ xs = parts a) ∧ RowO w wz.heap.size v xs) | 5 => (fun v w => ∃ xs, (xs = [] ∨ xs = parts b) ∧ RowO w wz.heap.size v xs) | _ => (fun _ _ => True)) (by kernel_rfl) ?stb (by kernel_rfl) ?AA ⟨_, _, _, _, _, _, rfl⟩ ?G0 ?step ?done
 case stb =>
   intro i j v w1 w2 hi hj hij hw hp hs
   have hi : i < 6 := hi
   match j, hp with
   | 0, hp => exact hp
   | 1, hp =>
     obtain ⟨xs, h1, h2⟩ := hp
     exact ⟨xs, h1, own_later hs h2⟩
   | 2, hp => exact hp
   | 3, hp =>
     obtain ⟨xs, h1, h2⟩ := hp
     exact ⟨xs, h1, own_later hs h2⟩
   | 4, hp =>
     obtain ⟨xs, h1, h2⟩ := hp
     exact ⟨xs, h1, own_later hs h2⟩
   | 5, hp =>
     obtain ⟨xs, h1, h2⟩ := hp
     exact ⟨xs, h1, own_later hs h2⟩
   | j + 6, _ => exact trivial
 case AA =>
   rintro i a0 v hi ⟨_, _, _, _, _, _, rfl⟩
   match i, hi with
   | 0, _ | 1, _ | 2, _ | 3, _ | 4, _ | 5, _ => exact ⟨⟨_, _, _, _, _, _, rfl⟩, fun t h => by cases h <;> exact of_decide_eq_true rfl⟩
   | i + 6, hi => exact absurd hi (by simp)
 case G0 => exact ⟨BB.out.drew, AX.out.later (Below.refl _ _).drew, BX.out.later (Below.refl _ _).drew⟩
 case step =>
   rintro i a0 w1 lst hi ⟨x5, x6, x9, x10, x11, x12, rfl⟩ hl hG hp
   refine wpOp_via (fun K hK => ?_)
   match i, hi with
   | 0, _ =>
     have hX := hG.2.1
     have C0 := hX.cell 0
     have C1 := hX.cell 1
     have C2 := hX.cell 2
     have C3 := hX.cell 3
     have C4 := hX.cell 4
     have C5 := hX.cell 5
     have C6 := hX.cell 6
     have C7 := hX.cell 7
     have C8 := hX.cell 8
     have C9 := hX.cell 9
     have C10 := hX.cell 10
     have C11 := hX.cell 11
     have Cl := hX.lt
     simp only [List.getElem?_toArray, List.getElem?_cons_zero, List.getElem?_cons_succ] at C0 C1 C2 C3 C4 C5 C6 C7 C8 C9 C10 C11
     clear hX
     have HG := Lib.hid hG
     clear hG
     refine wpOp_at (by rfl) rfl ?_
     go_simp
     exact hK _ _ ⟨_, rfl, HG.out, Below.refl _ _, rfl⟩
   | 1, _ =>
     obtain rfl : x9 = _ := hp 0 (by kernel_rfl)
     refine wpOp_at (by rfl) rfl ?_
     go_simp
     refine Calls.mono (PA.out _) ?_
     rintro e w2 ⟨va, xs, rfl, hxs, hrow, hb⟩
     exact hK _ _ ⟨_, rfl, ⟨hG.1.trans (hb.mono hG.1.size), hG.2.1.later hb, hG.2.2.later hb⟩, hb, xs, hxs, row_lower hrow hG.1.size⟩
   | 2, _ =>
     have hX := hG.2.2
     have D0 := hX.cell 0
     have D1 := hX.cell 1
     have D2 := hX.cell 2
     have D3 := hX.cell 3
     have D4 := hX.cell 4
     have D5 := hX.cell 5
     have D6 := hX.cell 6
     have D7 := hX.cell 7
     have D8 := hX.cell 8
     have D9 := hX.cell 9
     have D10 := hX.cell 10
     have D11 := hX.cell 11
     have Dl := hX.lt
     simp only [List.getElem?_toArray, List.getElem?_cons_zero, List.getElem?_cons_succ] at D0 D1 D2 D3 D4 D5 D6 D7 D8 D9 D10 D11
     clear hX
     have HG := Lib.hid hG
     clear hG
     refine wpOp_at (by rfl) rfl ?_
     go_simp
     exact hK _ _ ⟨_, rfl, HG.out, Below.refl _ _, rfl⟩
   | 3, _ =>
     obtain rfl : x11 = _ := hp 2 (by kernel_rfl)
     refine wpOp_at (by rfl) rfl ?_
     go_simp
     refine Calls.mono (PB.out _) ?_
     rintro e w2 ⟨va, xs, rfl, hxs, hrow, hb⟩
     exact hK _ _ ⟨_, rfl, ⟨hG.1.trans (hb.mono hG.1.size), hG.2.1.later hb, hG.2.2.later hb⟩, hb, xs, hxs, row_lower hrow hG.1.size⟩
   | 4, _ =>
     obtain ⟨xs, h1, h2⟩ := hp 1 (by kernel_rfl)
     change RowO _ _ x10 xs at h2
     refine wpOp_at (by rfl) rfl ?_
     go_simp
     exact hK _ _ ⟨_, rfl, hG, Below.refl _ _, xs, h1, h2⟩
   | 5, _ =>
     obtain ⟨xs, h1, h2⟩ := hp 3 (by kernel_rfl)
     change RowO _ _ x12 xs at h2
     refine wpOp_at (by rfl) rfl ?_
     go_simp
     exact hK _ _ ⟨_, rfl, hG, Below.refl _ _, xs, h1, h2⟩
   | i + 6, hi => exact absurd hi (by simp)
 case done =>
   rintro a0 w8 lst hl ⟨x5, x6, x9, x10, x11, x12, rfl⟩ hG hp
   obtain ⟨pa, hpa, hra⟩ := hp 4 (by decide)
   obtain ⟨pb, hpb, hrb⟩ := hp 5 (by decide)
   change RowO _ _ x5 pa at hra
   change RowO _ _ x6 pb at hrb
   have BW := Lib.hid hG.1
   clear hG hp
   obtain ⟨p1, cp1, rfl, hq1⟩ := RowO.of hra
   obtain ⟨p2, cp2, rfl, hq2⟩ := RowO.of hrb
   have lpa : pa.length ≤ 7 := by rcases hpa with rfl | rfl; (simp); exact parts_len a
   have lpb : pb.length ≤ 7 := by rcases hpb with rfl | rfl; (simp); exact parts_len b
   have RA := Lib.hid hq1
   have RB := Lib.hid hq2
   have MT := Lib.hid (fun (x y : Pt) (hx : x ∈ pa) (hy : y ∈ pb) (hh : hits x y = true) => show meet a b = true from by
     rcases hpa with rfl | rfl
     · cases hx
     · rcases hpb with rfl | rfl
       · cases hy
       · exact List.any_eq_true.2 ⟨x, hx, List.any_eq_true.2 ⟨y, hy, hh⟩⟩)
   clear hra hrb hq1 hq2 hpa hpb PA PB AX BX BB
   go_wp2_with fail
   go_loopw [7] (fun s7 wr => ∃ i : Nat, i ≤ pa.length ∧ s7 = .int .i64 i ∧ RowQ wr p1 pa ∧ RowQ wr p2 pb ∧ Below wz.heap.size wz wr) (fun s7 _ => pa.length - (intOf s7).toNat)
   case atStart => exact ⟨0, Nat.zero_le _, rfl, RA.out, RB.out, BW.out⟩
   case round =>
     obtain ⟨i, hi, rfl, hA, hB, hW⟩ := hrel
     have RA2 := Lib.hid hA
     have RB2 := Lib.hid hB
     have BW2 := Lib.hid hW
     clear hA hB hW RA RB BW
     rcases Nat.lt_or_ge i pa.length with hlt | hge
     · have hli : (i : Int) < pa.length := by omega
       obtain ⟨x, hx⟩ : ∃ x, pa[i]? = some x := ⟨_, List.getElem?_eq_getElem hlt⟩
       have HX := Lib.hid hx
       clear hx
       go_wp2_with fail
       go_loopw [8] (fun s8 w3 => ∃ k : Nat, k ≤ pb.length ∧ s8 = .int .i64 k ∧ RowQ w3 p1 pa ∧ RowQ w3 p2 pb ∧ Below wz.heap.size wz w3) (fun s8 _ => pb.length - (intOf s8).toNat)
       case atStart => exact ⟨0, Nat.zero_le _, rfl, RA2.out, RB2.out, BW2.out⟩
       case round =>
         obtain ⟨k, hk, rfl, hA, hB, hW⟩ := hrel
         have RA3 := Lib.hid hA
         have RB3 := Lib.hid hB
         have BW3 := Lib.hid hW
         clear hA hB hW
         rcases Nat.lt_or_ge k pb.length with hlk | hgk
         · have hlj : (k : Int) < pb.length := by omega
           obtain ⟨y, hy⟩ : ∃ y, pb[k]? = some y := ⟨_, List.getElem?_eq_getElem hlk⟩
           obtain ⟨ga, rfl, la, a0, a1, a2, a3⟩ := RA3.out i x HX.out
           obtain ⟨gb, rfl, lb, b0, b1, b2, b3⟩ := RB3.out k y hy
           have HY := Lib.hid hy
           clear hy
           obtain ⟨xw, hxw⟩ : ∃ xw, x.w = xw := ⟨_, rfl⟩
           obtain ⟨yw, hyw⟩ : ∃ yw, y.w = yw := ⟨_, rfl⟩
           rw [hxw] at a3
           rw [hyw] at b3
           have HXW := Lib.hid hxw
           have HYW := Lib.hid hyw
           clear hxw hyw
           by_cases hkk : x.kind = y.kind
           · have k1 : ((x.kind : Int) == (y.kind : Int)) = true := by simp; omega
             by_cases hii : x.ino = y.ino
             · have i1 : ((x.ino : Int) == (y.ino : Int)) = true := by simp; omega
               by_cases hn : x.name = y.name
               · have s3 : ((B x.name).toList == (B y.name).toList) = true := by simp [toList_L, L_B, hn]
                 have HH0 := Lib.hid (fun (q : (xw || yw) = true) => MT.out x y (List.mem_of_getElem? HX.out) (List.mem_of_getElem? HY.out) (by unfold hits; simp [hkk, hii, hn]; rw [HXW.out, HYW.out]; simpa using q))
                 clear hkk hii hn
                 cases xw
                 · cases yw
                   · go_wp2_with fail
                     go_quiet (fail)
                     go_wp2_with fail
                     go_roundw
                     case rel => exact ⟨k + 1, by omega, by go_num, RA3.out.later drewN_below, RB3.out.later drewN_below, BW3.out.trans (Below.mono drewN_below BW3.out.size)⟩
                     case measure => simp [intOf]; omega
                   · have HH := Lib.hid (HH0.out rfl)
                     go_wp2_with fail
                     go_quiet (fail)
                     go_wp2_with fail
                     go_ret
                     exact ⟨⟨true, rfl, fun _ => HH.out⟩, BW3.out.trans (Below.mono drewN_below BW3.out.size)⟩
                 · have HH := Lib.hid (HH0.out (by simp))
                   go_wp2_with fail
                   go_quiet (fail)
                   go_wp2_with fail
                   go_ret
                   exact ⟨⟨true, rfl, fun _ => HH.out⟩, BW3.out.trans (Below.mono drewN_below BW3.out.size)⟩
               · have s3 : ((B x.name).toList == (B y.name).toList) = false := by simp [toList_L, L_B, hn]
                 clear hkk hii hn
                 go_wp2_with fail
                 go_quiet (fail)
                 go_wp2_with fail
                 go_roundw
                 case rel => exact ⟨k + 1, by omega, by go_num, RA3.out.later drewN_below, RB3.out.later drewN_below, BW3.out.trans (Below.mono drewN_below BW3.out.size)⟩
                 case measure => simp [intOf]; omega
             · have i1 : ((x.ino : Int) == (y.ino : Int)) = false := by simp; omega
               clear hkk hii
               go_wp2_with fail
               go_quiet (fail)
               go_wp2_with fail
               go_roundw
               case rel => exact ⟨k + 1, by omega, by go_num, RA3.out.later drewN_below, RB3.out.later drewN_below, BW3.out.trans (Below.mono drewN_below BW3.out.size)⟩
               case measure => simp [intOf]; omega
           · have k1 : ((x.kind : Int) == (y.kind : Int)) = false := by simp; omega
             clear hkk
             go_wp2_with fail
             go_quiet (fail)
             go_wp2_with fail
             go_roundw
             case rel => exact ⟨k + 1, by omega, by go_num, RA3.out.later drewN_below, RB3.out.later drewN_below, BW3.out.trans (Below.mono drewN_below BW3.out.size)⟩
             case measure => simp [intOf]; omega
         · have e : k = pb.length := by omega
           subst e
           go_wp2_with fail
           exact ⟨⟨i + 1, by omega, by go_num, RA3.out, RB3.out, BW3.out⟩, by simp [intOf]; omega⟩
     · have e : i = pa.length := by omega
       subst e
       go_wp2_with fail
       go_ret
       exact ⟨⟨false, rfl, fun h => by cases h⟩, BW2.out⟩
theorem rmeet_ok (a b : Rc) (ha : May a) (hb : May b) (wz : World) : Calls Tryz.prog 67 #[recV a, recV b] wz fun e w' => (∃ q, e = .returned (.bool q) ∧ (q = true → meet a b = true)) ∧ Below wz.heap.size wz w' :=
 rmeet_raw a b wz _ _ _ _ _ _ _ _ _ _ _ _ _ _ _ _ _ _ _ _ _ _ _ _ (fun W => rparts_ok a ha W) (fun W => rparts_ok b hb W)
end Go.Proofs.YtmfhnhnmdeabeaaGreat.Re
end
