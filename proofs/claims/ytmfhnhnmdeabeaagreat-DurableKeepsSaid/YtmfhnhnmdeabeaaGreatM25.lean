/- Layer 22 (rec): Meet, of two records that may be. -/
import Derived.Test.YtmfhnhnmdeabeaaGreatM24
set_option linter.unusedVariables false
set_option linter.unusedSimpArgs false
set_option maxRecDepth 100000
section
namespace Go.Proofs.YtmfhnhnmdeabeaaGreat.Re
open Go.RowKit Go.Shelf Go.Maps Oct Path Tr
theorem flat_at {α : Type} (enc : α → List Value) (m : Nat) (hm : ∀ x, (enc x).length = m) (xs : List α) (i k : Nat) (hk : k < m) : (xs.flatMap enc)[i * m + k]? = (xs[i]?).bind fun x => (enc x)[k]? := by
 induction xs generalizing i with
 | nil => simp
 | cons x xs ih =>
   rw [List.flatMap_cons]
   cases i with
   | zero =>
     rw [Nat.zero_mul, Nat.zero_add, List.getElem?_append_left (by rw [hm]; exact hk)]
     rfl
   | succ i =>
     rw [List.getElem?_append_right (by rw [hm, Nat.succ_mul]; omega), hm, show (i + 1) * m + k - m = i * m + k by rw [Nat.succ_mul]; omega, ih]
     rfl
structure RowP (W : World) (g : Nat) (xs : List Pt) : Prop where
 at_ : ∀ i x, xs[i]? = some x → W.cell? ⟨g, i * 4, none⟩ = some (.int .u8 x.kind) ∧ W.cell? ⟨g, i * 4 + 1, none⟩ = some (.int .u32 x.ino) ∧ W.cell? ⟨g, i * 4 + 2, none⟩ = some (.string (B x.name)) ∧ W.cell? ⟨g, i * 4 + 3, none⟩ = some (.bool x.w)
 lt : g < W.heap.size
theorem RowP.of {W : World} {base : Nat} {v : Value} {xs : List Pt} (h : W.ownsRow base 156 4 v xs.length (xs.flatMap encPt)) (hn : 0 < xs.length) : ∃ g cap, v = .slice (some ⟨g, 0, none⟩) xs.length cap ∧ base ≤ g ∧ RowP W g xs := by
 obtain ⟨g, cap, rfl, h1, h2⟩ := h.form hn
 refine ⟨g, cap, rfl, h1, fun i x hx => ?_, h2⟩
 have hi : i < xs.length := (List.getElem?_eq_some_iff.1 hx).1
 have key : ∀ k, k < 4 → W.cell? ⟨g, i * 4 + k, none⟩ = (encPt x)[k]? := fun k hk => by
   have h3 := h.cellAt (i * 4 + k) (by omega)
   rw [h3, flat_at encPt 4 (fun _ => rfl) xs i k hk, hx]
   rfl
 exact ⟨key 0 (by decide), key 1 (by decide), key 2 (by decide), key 3 (by decide)⟩
theorem RowP.later {W W' : World} {g : Nat} {xs : List Pt} (h : RowP W g xs) (hb : Below W.heap.size W W') : RowP W' g xs := by
 refine ⟨fun i x hx => ?_, Nat.lt_of_lt_of_le h.lt hb.size⟩
 have e : ∀ k, W'.cell? ⟨g, k, none⟩ = W.cell? ⟨g, k, none⟩ := fun k => by
   unfold World.cell?
   rw [hb.block g h.lt]
 simp only [e]
 exact h.at_ i x hx
theorem parts_pos (r : Rc) : 0 < (parts r).length := by
 unfold parts
 split <;> simp
theorem parts_len (r : Rc) : (parts r).length ≤ 7 := by
 unfold parts
 split
 · simp
 · split <;> split <;> split <;> simp
structure MS (wz w : World) (ga : Nat) (pa : List Pt) (b : Rc) : Prop where
 be : Below wz.heap.size wz w
 row : RowP w ga pa
 box : SBox w (wz.heap.size + 1) 39 (recC b)
theorem MS.later {wz w w' : World} {ga : Nat} {pa : List Pt} {b : Rc} (h : MS wz w ga pa b) (hb : Below w.heap.size w w') : MS wz w' ga pa b := ⟨h.be.trans (hb.mono h.be.size), h.row.later hb, h.box.later hb⟩
theorem B_inj {a b : Nm} : B a = B b ↔ a = b := ⟨fun h => by rw [← L_B a, h, L_B], fun h => by rw [h]⟩
theorem no_more {α : Type} {f : α → Bool} {l : List α} {k : Nat} {y : α} (h : ∀ z ∈ l.take k, f z = false) (hy : l[k]? = some y) (hf : f y = false) : ∀ z ∈ l.take (k + 1), f z = false := by
 intro z hz
 rw [List.take_add_one, hy] at hz
 rcases List.mem_append.1 hz with hz | hz
 · exact h z hz
 · simp at hz; subst hz; exact hf
theorem yes_hit {pa pb : List Pt} {i k : Nat} {x y : Pt} (hx : pa[i]? = some x) (hy : pb[k]? = some y) (h : hits x y = true) : (pa.any fun x => pb.any fun y => hits x y) = true :=
 List.any_eq_true.2 ⟨x, List.mem_of_getElem? hx, List.any_eq_true.2 ⟨y, List.mem_of_getElem? hy, h⟩⟩
set_option maxHeartbeats 8000000 in
theorem meet_ok (a b : Rc) (ha : May a) (hb : May b) (wz : World) : Calls Tryz.prog 99 #[recV a, recV b] wz fun e w' => e = .returned (.bool (meet a b)) ∧ Below wz.heap.size wz w' := by
 have PA := Lib.hid (fun W => parts_ok a ha W)
 have PB := Lib.hid (fun W => parts_ok b hb W)
 have B0 := (Below.refl _ wz).alloc (Nat.le_refl _) (.cells (recC a) 39)
 have BB := Lib.hid (B0.alloc B0.size (.cells (recC b) 39))
 have BX := Lib.hid (show SBox ((wz.alloc (.cells (recC a) 39)).alloc (.cells (recC b) 39)) (wz.heap.size + 1) 39 (recC b) from by simpa using SBox.new (wz.alloc (.cells (recC a) 39)) 39 (recC b))
 have LA := parts_len a
 have LB := parts_len b
 have PO := parts_pos a
 have PO2 := Lib.hid (parts_pos b)
 unfold meet
 generalize parts a = pa at *
 generalize parts b = pb at *
 clear ha hb B0
 unfold recV recC at PA PB
 unfold recC at BX BB
 unfold recV recC
 go_enter Tryz.func99, Tryz.ntmps99
 go_wp2_with fail
 refine Calls.mono (PA.out _) ?_
 rintro e w1 ⟨va, rfl, hr, hb⟩
 obtain ⟨ga, ca, rfl, hga, hR⟩ := RowP.of hr PO
 have RA := Lib.hid hR
 have X1 := Lib.hid (BX.out.later hb)
 have B1 := Lib.hid (BB.out.trans (hb.mono (by simp; omega)))
 clear hr hb hga hR BX BB PA
 go_wp2_with fail
 go_loopw [12] (fun s12 wr => ∃ i : Nat, i ≤ pa.length ∧ s12 = .int .i64 i ∧ (∀ x ∈ pa.take i, (pb.any fun y => hits x y) = false) ∧ MS wz wr ga pa b) (fun s12 _ => pa.length - (intOf s12).toNat)
 case atStart => exact ⟨0, Nat.zero_le _, rfl, by simp, B1.out, RA.out, X1.out⟩
 case round =>
   obtain ⟨i, hi, rfl, hno, hM⟩ := hrel
   have M := Lib.hid hM
   have NO := Lib.hid hno
   clear hM hno
   rcases Nat.lt_or_ge i pa.length with hlt | hge
   · obtain ⟨x, hx⟩ : ∃ x, pa[i]? = some x := ⟨_, List.getElem?_eq_getElem hlt⟩
     obtain ⟨c0, c1, c2, c3⟩ := M.out.row.at_ i x hx
     have cl := M.out.row.lt
     have hY := M.out.box
     unfold recC at hY
     have Y0 := hY.cell 0
     have Y1 := hY.cell 1
     have Y2 := hY.cell 2
     have Y3 := hY.cell 3
     have Y4 := hY.cell 4
     have Y5 := hY.cell 5
     have Y6 := hY.cell 6
     have Y7 := hY.cell 7
     have Y8 := hY.cell 8
     have Y9 := hY.cell 9
     have Y10 := hY.cell 10
     have Y11 := hY.cell 11
     simp only [List.getElem?_toArray, List.getElem?_cons_zero, List.getElem?_cons_succ] at Y0 Y1 Y2 Y3 Y4 Y5 Y6 Y7 Y8 Y9 Y10 Y11
     have Yl := hY.lt
     have HX := Lib.hid hx
     clear hY hx
     go_wp2_with fail
     refine Calls.mono (PB.out _) ?_
     rintro e w2 ⟨vb, rfl, hr, hb⟩
     obtain ⟨gb, cb, rfl, hgb, hR⟩ := RowP.of hr PO2.out
     have hal := (Below.refl _ wr).alloc (Nat.le_refl _) (.cells #[.int .u8 x.kind, .int .u32 x.ino, .string (B x.name), .bool x.w] 156)
     have M2 := Lib.hid ((M.out.later hal).later hb)
     have X2 := Lib.hid ((SBox.new wr 156 #[.int .u8 x.kind, .int .u32 x.ino, .string (B x.name), .bool x.w]).later hb)
     have R2 := Lib.hid hR
     clear hr hb hgb hR hal c0 c1 c2 c3 cl Y0 Y1 Y2 Y3 Y4 Y5 Y6 Y7 Y8 Y9 Y10 Y11 Yl M
     obtain ⟨xb, hxb⟩ : ∃ xb, wr.heap.size = xb := ⟨_, rfl⟩
     rw [hxb] at X2 ⊢
     clear hxb
     go_wp2_with fail
     go_loopw [19] (fun s19 w3 => ∃ k : Nat, k ≤ pb.length ∧ s19 = .int .i64 k ∧ (∀ y ∈ pb.take k, hits x y = false) ∧ MS wz w3 ga pa b ∧ RowP w3 gb pb ∧ SBox w3 xb 156 #[.int .u8 x.kind, .int .u32 x.ino, .string (B x.name), .bool x.w]) (fun s19 _ => pb.length - (intOf s19).toNat)
     case atStart => exact ⟨0, Nat.zero_le _, rfl, by simp, M2.out, R2.out, X2.out⟩
     case round =>
       obtain ⟨k, hk, rfl, hnk, hM, hR, hX⟩ := hrel
       have M3 := Lib.hid hM
       have NK := Lib.hid hnk
       have R3 := Lib.hid hR
       have X3h := Lib.hid hX
       clear hM hnk hR
       rcases Nat.lt_or_ge k pb.length with hlk | hgk
       · obtain ⟨y, hy⟩ : ∃ y, pb[k]? = some y := ⟨_, List.getElem?_eq_getElem hlk⟩
         obtain ⟨d0, d1, d2, d3⟩ := R3.out.at_ k y hy
         have dl := R3.out.lt
         have X0 := hX.cell 0
         have X1 := hX.cell 1
         have X2 := hX.cell 2
         have X3 := hX.cell 3
         simp only [List.getElem?_toArray, List.getElem?_cons_zero, List.getElem?_cons_succ] at X0 X1 X2 X3
         have Xl := hX.lt
         have HY2 := Lib.hid hy
         clear hX hy
         have B4 := Lib.hid ((Below.refl _ wr).alloc (Nat.le_refl _) (.cells #[.int .u8 y.kind, .int .u32 y.ino, .string (B y.name), .bool y.w] 156))
         by_cases hkk : x.kind = y.kind
         · skip
           have k1 : ((x.kind : Int) == (y.kind : Int)) = true := by simp; omega
           have k2 : decide ((x.kind : Int) = (y.kind : Int)) = true := by simp; omega
           by_cases hii : x.ino = y.ino
           · skip
             have i1 : ((x.ino : Int) == (y.ino : Int)) = true := by simp; omega
             have i2 : decide ((x.ino : Int) = (y.ino : Int)) = true := by simp; omega
             by_cases hn : x.name = y.name
             · skip
               have s2 : decide (B x.name = B y.name) = true := by simp [B_inj, hn]
               have s3 : ((B x.name).toList == (B y.name).toList) = true := by simp [toList_L, L_B, hn]
               have s4 : decide ((B x.name).toList = (B y.name).toList) = true := by simp [toList_L, L_B, hn]
               obtain ⟨xw, hxw⟩ : ∃ xw, x.w = xw := ⟨_, rfl⟩
               obtain ⟨yw, hyw⟩ : ∃ yw, y.w = yw := ⟨_, rfl⟩
               have HH := Lib.hid (show hits x y = (xw || yw) by unfold hits; simp [hkk, hii, hn, hxw, hyw])
               rw [hxw] at X3
               rw [hyw] at d3
               clear hkk hii hn hyw
               have HXW := Lib.hid hxw
               clear hxw
               have B5 : Hid (Below wr.heap.size wr (wr.alloc (.cells #[.int .u8 y.kind, .int .u32 y.ino, .string (B y.name), .bool yw] 156))) := Lib.hid ((Below.refl _ wr).alloc (Nat.le_refl _) _)
               cases xw
               · cases yw
                 · go_wp2_with fail
                   go_roundw
                   case rel => exact ⟨k + 1, by omega, by go_num, no_more NK.out HY2.out HH.out, M3.out.later B5.out, R3.out.later B5.out, X3h.out.later B5.out⟩
                   case measure => simp [intOf]; omega
                 · go_wp2_with fail
                   go_ret
                   exact ⟨by rw [yes_hit HX.out HY2.out HH.out]; rfl, (M3.out.later B5.out).be⟩
               · go_wp2_with fail
                 go_ret
                 exact ⟨by rw [yes_hit HX.out HY2.out HH.out]; rfl, (M3.out.later B5.out).be⟩
             · skip
               have s2 : decide (B x.name = B y.name) = false := by simp [B_inj, hn]
               have s3 : ((B x.name).toList == (B y.name).toList) = false := by simp [toList_L, L_B, hn]
               have s4 : decide ((B x.name).toList = (B y.name).toList) = false := by simp [toList_L, L_B, hn]
               have HH := Lib.hid (show hits x y = false by unfold hits; simp [hn])
               clear hkk hii hn
               go_wp2_with fail
               go_roundw
               case rel => exact ⟨k + 1, by omega, by go_num, no_more NK.out HY2.out HH.out, M3.out.later B4.out, R3.out.later B4.out, X3h.out.later B4.out⟩
               case measure => simp [intOf]; omega
           · skip
             have i1 : ((x.ino : Int) == (y.ino : Int)) = false := by simp; omega
             have i2 : decide ((x.ino : Int) = (y.ino : Int)) = false := by simp; omega
             have HH := Lib.hid (show hits x y = false by unfold hits; simp [hii])
             clear hkk hii
             go_wp2_with fail
             go_roundw
             case rel => exact ⟨k + 1, by omega, by go_num, no_more NK.out HY2.out HH.out, M3.out.later B4.out, R3.out.later B4.out, X3h.out.later B4.out⟩
             case measure => simp [intOf]; omega
         · skip
           have k1 : ((x.kind : Int) == (y.kind : Int)) = false := by simp; omega
           have k2 : decide ((x.kind : Int) = (y.kind : Int)) = false := by simp; omega
           have HH := Lib.hid (show hits x y = false by unfold hits; simp [hkk])
           clear hkk
           go_wp2_with fail
           go_roundw
           case rel => exact ⟨k + 1, by omega, by go_num, no_more NK.out HY2.out HH.out, M3.out.later B4.out, R3.out.later B4.out, X3h.out.later B4.out⟩
           case measure => simp [intOf]; omega
       · have e : k = pb.length := by omega
         subst e
         have NO2 := Lib.hid (show (pb.any fun y => hits x y) = false from by
           rw [List.any_eq_false]
           intro y hy
           rw [NK.out y (by rw [List.take_length]; exact hy)]
           decide)
         clear hX
         go_wp2_with fail
         go_roundw
         case rel => exact ⟨i + 1, by omega, by go_num, no_more NO.out HX.out NO2.out, M3.out⟩
         case measure => simp [intOf]; omega
   · have e : i = pa.length := by omega
     subst e
     go_wp2_with fail
     go_ret
     refine ⟨?_, M.out.be⟩
     have : (pa.any fun x => pb.any fun y => hits x y) = false := by
       rw [List.any_eq_false]
       intro x hx
       rw [NO.out x (by rw [List.take_length]; exact hx)]
       decide
     rw [this]
     rfl
end Go.Proofs.YtmfhnhnmdeabeaaGreat.Re
end
