/- CheckWhole, for every input: the law returns true, and its arguments read as they did; the root's inode as the program's text lays it (the tied card). Conditions: none beyond the row's own. -/
import Derived.Test.YtpnfkilfgdnogaaGreatDoorOwnG
import Derived.Test.YtpnfkilfgdnogaaGreatDoorCkM6
import Derived.Test.YtpnfkilfgdnogaaGreatDoorCkM5
import Derived.Test.YtpnfkilfgdnogaaGreatDoorImgC
section
namespace Go.Proofs.YtpnfkilfgdnogaaGreatDoor.Img
open Go.RowKit Go.Shelf Oct Ino
set_option linter.unusedVariables false
set_option linter.unusedSimpArgs false
set_option maxRecDepth 100000 in
set_option maxHeartbeats 1000000 in
theorem long12_row (b o c : Nat) (st : List St) (w : World) (hl : st.length ≤ 8796093022208) (hn : ∀ x ∈ st, x.s.size ≤ 140737488351232) (hx : StsAt w b o st) :
    Calls Tryz.prog 33 #[.slice (some ⟨b, o, none⟩) st.length c] w fun e w' => e = .returned (.bool (longB 60 4096 st)) ∧ w = w' := by
  have HX := Lib.hid hx
  have HN := Lib.hid hn
  clear hx hn
  go_enter Tryz.func33, Tryz.ntmps33
  go_wp2
  go_loop [3, 4] (fun n i => ∃ k : Nat, k ≤ st.length ∧ k ≤ 200 ∧ i = .int .i64 k ∧ n = .int .i64 (sumS (st.take k))) (fun _ i => 200 - (intOf i).toNat)
  case atStart => exact ⟨0, Nat.zero_le _, Nat.zero_le _, rfl, rfl⟩
  case round =>
    obtain ⟨k, hk, hk2, rfl, rfl⟩ := hrel
    by_cases hlt : k < st.length
    · by_cases h200 : k < 200
      · have c1 := HX.out.str k hlt
        have ht : st.take (k + 1) = st.take k ++ [st[k]] := by rw [List.take_succ_eq_append_getElem hlt]
        have hs : sumS (st.take (k + 1)) = sumS (st.take k) + st[k].s.size := by rw [ht, sumS_snoc]
        have hsn := HN.out st[k] (List.getElem_mem hlt)
        have hss := sumS_le (st := st.take k) (m := 140737488351232) (fun x hx => HN.out x (List.mem_of_mem_take hx))
        have hlk : (st.take k).length ≤ 200 := by rw [List.length_take]; omega
        have hss2 : sumS (st.take k) ≤ 200 * 140737488351232 := Nat.le_trans hss (Nat.mul_le_mul_right _ hlk)
        obtain ⟨x, hx⟩ : ∃ x, st[k] = x := ⟨_, rfl⟩
        rw [hx] at c1 hsn hs
        have HS := Lib.hid hs
        obtain ⟨sn, hsn0⟩ : ∃ m, sumS (st.take k) = m := ⟨_, rfl⟩
        rw [hsn0] at hss2 hs
        have HS2 := Lib.hid hs
        rw [hsn0]
        have q0 : (0 : Int) ≤ (k : Int) := by omega
        have q1 : (k : Int) < (st.length : Int) := by omega
        clear hs hx hss ht hlk hsn0 HS
        go_wp2
        go_round
        case rel => exact ⟨k + 1, by omega, by omega, by go_num, by rw [HS2.out]; go_num⟩
        case measure => simp [intOf]; omega
      · obtain rfl : k = 200 := by omega
        have t1 : decide (60 < (st.length : Int)) = true := by simp; omega
        have t2 : decide (60 < st.length) = true := by simp; omega
        have HF : Hid (longB 60 4096 st = true) := Lib.hid (by simp [longB]; omega)
        go_wp2
        go_ret
        exact ⟨by rw [HF.out]; rfl, rfl⟩
    · obtain rfl : k = st.length := by omega
      rw [List.take_length]
      have HF : Hid (longB 60 4096 st = (decide (60 < st.length) || decide (4096 < sumS st))) := Lib.hid (by unfold longB; rw [List.take_of_length_le hk2])
      generalize sumS st = sn at *
      by_cases h1 : 60 < st.length
      · have t1 : decide (60 < (st.length : Int)) = true := by simp; omega
        go_wp2
        go_ret
        exact ⟨by rw [HF.out]; simp [h1], rfl⟩
      · have t1 : decide (60 < (st.length : Int)) = false := by simp; omega
        go_wp2
        go_ret
        refine ⟨?_, rfl⟩
        rw [HF.out]
        simp [h1]
        omega
theorem long12_nil (ao : Option Addr) (c : Nat) (w : World) : Calls Tryz.prog 33 #[.slice ao 0 c] w fun e w' => e = .returned (.bool false) ∧ w = w' := by
  go_enter Tryz.func33, Tryz.ntmps33
  go_wp2
  refine wp_loop_rounds 1 ?_
  rw [rounds_succ]
  go_wp2
  go_ret
  exact ⟨rfl, rfl⟩
theorem long12_any (v : Value) (st : List St) (w : World) (h : StsArg w v st) (hl : st.length ≤ 8796093022208) (hn : ∀ x ∈ st, x.s.size ≤ 140737488351232) : Calls Tryz.prog 33 #[v] w fun e w' => e = .returned (.bool (longB 60 4096 st)) ∧ w = w' := by
  rcases h with ⟨rfl, rfl⟩ | ⟨ad, c, rfl, rfl⟩ | ⟨b, o, c, rfl, _, h⟩
  · exact long12_nil none 0 w
  · exact long12_nil (some ad) c w
  · exact long12_row b o c st w hl hn h
end Go.Proofs.YtpnfkilfgdnogaaGreatDoor.Img
end
section
namespace Go.Proofs.YtpnfkilfgdnogaaGreatDoor.Img
set_option linter.unusedVariables false
set_option linter.unusedSimpArgs false
open Go.RowKit Go.Shelf Go.Maps Oct Dev Jou Tx Geo Ino Bm Dir Ck
def Rt (w : World) : Prop := RootAt w ∧ TabAt w
theorem Rt.later {w W : World} (h : Rt w) (hb : Below w.heap.size w W) : Rt W := ⟨h.1.later hb, h.2.later hb⟩
set_option maxRecDepth 100000 in
set_option maxHeartbeats 8000000 in
theorem checkWhole_long (i bl j : Int) (v : Value) (st : List St) (w : World) (hv : StsArg w v st) (hl : st.length ≤ 8796093022208) (hn : ∀ x ∈ st, x.s.size ≤ 140737488351232) (hR : Rt w) (hlong : longB 60 4096 st = true ∨ mayG i bl j = false ∨ (60 < bl ∨ 30 < i ∨ 60 < j)) :
    Calls Tryz.prog 6 #[geoV i bl j, v] w fun e w' => e = .returned (.bool true) ∧ Below w.heap.size w w' := by
  have LO := Lib.hid (fun W (h : Below w.heap.size w W) => long12_any v st W (hv.later h) hl hn)
  have MY := Lib.hid (fun W => may_any i bl j W)
  have LG := Lib.hid (fun W => large_any i bl j W)
  have AL := Lib.hid (fun W (h : Rt W) => alive12 W h.1 h.2)
  have HR := Lib.hid hR
  have HB0 := Lib.hid ((Below.refl _ w).alloc (Nat.le_refl _) (.cells #[.int .i64 i, .int .i64 bl, .int .i64 j] 23))
  have HG0 := Lib.hid (SBox.new w 23 #[.int .i64 i, .int .i64 bl, .int .i64 j])
  clear hR hv hn
  unfold geoV at *
  rcases hq : longB 60 4096 st with _ | _
  · rcases hm : mayG i bl j with _ | _
    · rw [hq] at LO
      rw [hm] at MY
      clear hlong hq hm
      go_enter Tryz.func6, Tryz.ntmps6
      go_wp2_with fail
      refine (LO.out _ HB0.out).mono ?_
      rintro e w1 ⟨rfl, rfl⟩
      have hX := HG0.out
      have X0 := hX.cell 0
      have X1 := hX.cell 1
      have X2 := hX.cell 2
      simp only [List.getElem?_toArray, List.getElem?_cons_zero, List.getElem?_cons_succ] at X0 X1 X2
      have Xl := hX.lt
      clear hX
      go_wp2_with fail
      refine (MY.out _).mono ?_
      rintro e w2 ⟨rfl, b2⟩
      have B2 := Lib.hid (HB0.out.trans (b2.mono HB0.out.size))
      clear b2
      go_wp2_with fail
      refine (AL.out _ (HR.out.later B2.out)).mono ?_
      rintro e w3 ⟨rfl, b3⟩
      have B3 := Lib.hid (B2.out.trans (b3.mono B2.out.size))
      clear b3
      go_wp2
      go_ret
      exact ⟨rfl, B3.out⟩
    · have hg : 60 < bl ∨ 30 < i ∨ 60 < j := by
        rcases hlong with h | h | h
        · rw [hq] at h; cases h
        · rw [hm] at h; cases h
        · exact h
      rw [hq] at LO
      rw [hm] at MY
      rw [decide_eq_true hg] at LG
      clear hlong hq hm hg
      go_enter Tryz.func6, Tryz.ntmps6
      go_wp2_with fail
      refine (LO.out _ HB0.out).mono ?_
      rintro e w1 ⟨rfl, rfl⟩
      have hX := HG0.out
      have X0 := hX.cell 0
      have X1 := hX.cell 1
      have X2 := hX.cell 2
      simp only [List.getElem?_toArray, List.getElem?_cons_zero, List.getElem?_cons_succ] at X0 X1 X2
      have Xl := hX.lt
      clear hX
      go_wp2_with fail
      refine (MY.out _).mono ?_
      rintro e w2 ⟨rfl, b2⟩
      have B2 := Lib.hid (HB0.out.trans (b2.mono HB0.out.size))
      have hX := HG0.out.later b2
      clear b2 X0 X1 X2 Xl
      have X0 := hX.cell 0
      have X1 := hX.cell 1
      have X2 := hX.cell 2
      simp only [List.getElem?_toArray, List.getElem?_cons_zero, List.getElem?_cons_succ] at X0 X1 X2
      have Xl := hX.lt
      clear hX
      go_wp2_with fail
      refine (LG.out _).mono ?_
      rintro e w3 ⟨rfl, b3⟩
      have B3 := Lib.hid (B2.out.trans (b3.mono B2.out.size))
      clear b3
      go_wp2_with fail
      refine (AL.out _ (HR.out.later B3.out)).mono ?_
      rintro e w4 ⟨rfl, b4⟩
      have B4 := Lib.hid (B3.out.trans (b4.mono B3.out.size))
      clear b4
      go_wp2
      go_ret
      exact ⟨rfl, B4.out⟩
  · rw [hq] at LO
    clear hlong hq
    go_enter Tryz.func6, Tryz.ntmps6
    go_wp2_with fail
    refine (LO.out _ HB0.out).mono ?_
    rintro e w1 ⟨rfl, rfl⟩
    go_wp2_with fail
    refine (AL.out _ (HR.out.later HB0.out)).mono ?_
    rintro e w3 ⟨rfl, b3⟩
    have B3 := Lib.hid (HB0.out.trans (b3.mono HB0.out.size))
    clear b3
    go_wp2
    go_ret
    exact ⟨rfl, B3.out⟩
end Go.Proofs.YtpnfkilfgdnogaaGreatDoor.Img
end
section
namespace Go.Proofs.YtpnfkilfgdnogaaGreatDoor.Img
set_option linter.unusedVariables false
set_option linter.unusedSimpArgs false
open Go.RowKit Go.Shelf Go.Maps Oct Dev Jou Tx Geo Ino Bm Dir Ck
set_option maxRecDepth 100000 in
set_option maxHeartbeats 8000000 in
theorem checkWhole_main (i bl j : Nat) (v : Value) (st : List St) (w : World) (hv : StsArg w v st) (hl : st.length ≤ 60) (hn : ∀ x ∈ st, x.s.size ≤ 4096 ∧ x.i < 4294967296 ∧ x.t < 4294967296) (hR : Rt w) (hlong : longB 60 4096 st = false) (hm : mayG i bl j = true) (hi : i ≤ 30) (hb : bl ≤ 60) (hj : j ≤ 60) :
    Calls Tryz.prog 6 #[geoV i bl j, v] w fun e w' => e = .returned (.bool true) ∧ Below w.heap.size w w' := by
  have LO := Lib.hid (fun W (h : Below w.heap.size w W) => long12_any v st W (hv.later h) (by omega) (fun x hx => by have := hn x hx; omega))
  rw [hlong] at LO
  have MY := Lib.hid (fun W => may_any i bl j W)
  rw [hm] at MY
  have LG := Lib.hid (fun W => large_any i bl j W)
  rw [decide_eq_false (by omega)] at LG
  have DK := Lib.hid (fun W h => disk_any i bl j W hm hi hb hj h)
  have AL := Lib.hid (fun W (h : Rt W) => alive12 W h.1 h.2)
  have HR := Lib.hid hR
  have HN := Lib.hid hn
  obtain ⟨ao, cap, rfl, hrow⟩ : ∃ ao cap, v = .slice ao st.length cap ∧ (st.length = 0 ∨ ∃ b o, ao = some ⟨b, o, none⟩ ∧ b < w.heap.size ∧ StsAt w b o st) := by
    rcases hv with ⟨rfl, rfl⟩ | ⟨ad, c, rfl, rfl⟩ | ⟨b, o, c, rfl, h1, h2⟩
    · exact ⟨none, 0, rfl, .inl rfl⟩
    · exact ⟨some ad, c, rfl, .inl rfl⟩
    · exact ⟨some ⟨b, o, none⟩, c, rfl, .inr ⟨b, o, rfl, h1, h2⟩⟩
  have HRO := Lib.hid hrow
  clear hrow
  have HB0 := Lib.hid ((Below.refl _ w).alloc (Nat.le_refl _) (.cells #[.int .i64 i, .int .i64 bl, .int .i64 j] 23))
  have HG0 := Lib.hid (SBox.new w 23 #[.int .i64 i, .int .i64 bl, .int .i64 j])
  clear hR hv hn hlong
  unfold geoV at *
  go_enter Tryz.func6, Tryz.ntmps6
  go_wp2_with fail
  refine (LO.out _ HB0.out).mono ?_
  rintro e w1 ⟨rfl, rfl⟩
  have hX := HG0.out
  have X0 := hX.cell 0
  have X1 := hX.cell 1
  have X2 := hX.cell 2
  simp only [List.getElem?_toArray, List.getElem?_cons_zero, List.getElem?_cons_succ] at X0 X1 X2
  have Xl := hX.lt
  clear hX
  go_wp2_with fail
  refine (MY.out _).mono ?_
  rintro e w2 ⟨rfl, b2⟩
  have HG2 := Lib.hid (HG0.out.later b2)
  have B2 := Lib.hid (HB0.out.trans (b2.mono HB0.out.size))
  have hX := HG2.out
  clear b2 X0 X1 X2 Xl
  have X0 := hX.cell 0
  have X1 := hX.cell 1
  have X2 := hX.cell 2
  simp only [List.getElem?_toArray, List.getElem?_cons_zero, List.getElem?_cons_succ] at X0 X1 X2
  have Xl := hX.lt
  clear hX
  go_wp2_with fail
  refine (LG.out _).mono ?_
  rintro e w3 ⟨rfl, b3⟩
  have HG3 := Lib.hid (HG2.out.later b3)
  have B3 := Lib.hid (B2.out.trans (b3.mono B2.out.size))
  have hX := HG3.out
  clear b3 X0 X1 X2 Xl
  have X0 := hX.cell 0
  have X1 := hX.cell 1
  have X2 := hX.cell 2
  simp only [List.getElem?_toArray, List.getElem?_cons_zero, List.getElem?_cons_succ] at X0 X1 X2
  have Xl := hX.lt
  clear hX
  go_wp2_with fail
  refine (DK.out _ (HR.out.later B3.out).1).mono ?_
  rintro e w4 ⟨E, rfl, hD⟩
  have HG4 := Lib.hid (HG3.out.later hD.bel)
  have B4 := Lib.hid (B3.out.trans (hD.bel.mono B3.out.size))
  have HS := Lib.hid hD.small
  have hTm : w.heap.size ≤ E.T.m := Nat.le_trans B3.out.size hD.own
  have hei : E.i = i := hD.ei
  have heb : E.bl = bl := hD.eb
  have HP : Hid (FS (fun _ => True) E w4) := Lib.hid (fmt_fs hD.small (by rw [hD.ei, hD.eb, hD.ej]; exact hD.is))
  have hGT : w.heap.size ≠ E.T.m := by
    have h1 := HG3.out.lt
    have h2 := hD.own
    omega
  have CK := Lib.hid (fun W h => check_fs (E := E) (Z := fun _ => True) W hD.small h)
  unfold geoV at CK
  rw [hD.ei, hD.eb, hD.ej] at CK
  have MEET := Lib.hid (fun (W W' : World) (h : Tch (fun c => c = E.T.m) W W') (hG : SBox W w.heap.size 23 #[.int .i64 i, .int .i64 bl, .int .i64 j]) (hB : Below w.heap.size w W) => (⟨(h.block _ hG.lt hGT).trans hG, h.below (fun c e => by rw [e]; exact hTm) hB hB.size⟩ : SBox W' w.heap.size 23 #[.int .i64 i, .int .i64 bl, .int .i64 j] ∧ Below w.heap.size w W'))
  clear hD X0 X1 X2 Xl DK LO MY LG HG3 B3 HG2 B2
  go_wp2_with fail
  go_loopw [9] (fun c wr => ∃ k : Nat, k ≤ st.length ∧ c = .int .i64 k ∧ FS (fun _ => True) E wr ∧ SBox wr w.heap.size 23 #[.int .i64 i, .int .i64 bl, .int .i64 j] ∧ Below w.heap.size w wr) (fun c _ => 80 - (intOf c).toNat)
  case atStart => exact ⟨0, Nat.zero_le _, rfl, HP.out, HG4.out, B4.out⟩
  case round =>
    obtain ⟨k, hk, rfl, hW, hG, hB⟩ := hrel
    have HWr := Lib.hid hW
    have HGr := Lib.hid hG
    have HBr := Lib.hid hB
    clear hW hG hB HP B4 HG4
    by_cases hlt : k < st.length
    · obtain ⟨b, o, rfl, hb1, hst⟩ := HRO.out.resolve_left (by omega)
      have hx := StsAt.later hst hb1 HBr.out
      have hx := hx k hlt
      obtain ⟨n1, n2, n3⟩ := HN.out st[k] (List.getElem_mem hlt)
      have FT := Lib.hid (fit_any (E := E) (Z := fun _ => True) st[k] wr HS.out ⟨trivial, trivial, fun _ _ _ => trivial, fun _ _ _ => trivial⟩ HWr.out n2 n1)
      generalize st[k] = x at *
      obtain ⟨xd, xn, xi, xt, ⟨x0, x1, x2, x3, x4, x5, x6, x7⟩, xs, xr⟩ := x
      unfold stCells at FT
      dsimp only at FT
      have C0 := hx 0 _ rfl
      have C1 := hx 1 _ rfl
      have C2 := hx 2 _ rfl
      have C3 := hx 3 _ rfl
      have C4 := hx 4 _ rfl
      have C5 := hx 5 _ rfl
      have C6 := hx 6 _ rfl
      have C7 := hx 7 _ rfl
      have C8 := hx 8 _ rfl
      have C9 := hx 9 _ rfl
      have C10 := hx 10 _ rfl
      have C11 := hx 11 _ rfl
      have C12 := hx 12 _ rfl
      have C13 := hx 13 _ rfl
      simp only [← Nat.add_assoc, Nat.add_zero] at C0 C1 C2 C3 C4 C5 C6 C7 C8 C9 C10 C11 C12 C13
      have q0 : (0 : Int) ≤ k := by omega
      have q3 : (k : Int) < st.length := by omega
      clear hx hst
      go_wp2_with fail
      refine Calls.mono FT.out ?_
      rintro e w5 ⟨c, rfl, t5, c04, r5⟩
      have HC5 := Lib.hid (MEET.out _ _ t5 HGr.out HBr.out)
      have HR5 := Lib.hid r5
      clear t5 r5 FT C0 C1 C2 C3 C4 C5 C6 C7 C8 C9 C10 C11 C12 C13
      rcases c04 with rfl | rfl
      · have HW5 := Lib.hid (HR5.out rfl)
        have hX := HC5.out.1
        have X0 := hX.cell 0
        have X1 := hX.cell 1
        have X2 := hX.cell 2
        simp only [List.getElem?_toArray, List.getElem?_cons_zero, List.getElem?_cons_succ] at X0 X1 X2
        have Xl := hX.lt
        clear hX HR5 AL
        go_wp2_with fail
        refine (CK.out _ HW5.out).mono ?_
        rintro e w6 ⟨ao6, cap6, rfl, b6⟩
        have HW6 := Lib.hid (HW5.out.later b6)
        have HG6 := Lib.hid (HC5.out.1.later b6)
        have HB6 := Lib.hid (HC5.out.2.trans (b6.mono HC5.out.2.size))
        clear b6 X0 X1 X2 Xl HW5 HC5
        go_wp2_with fail
        go_roundw
        case rel => exact ⟨k + 1, by omega, by go_num, HW6.out, HG6.out, HB6.out⟩
        case measure => simp [intOf]; omega
      · clear CK HR5
        go_wp2_with fail
        refine (AL.out _ (HR.out.later HC5.out.2)).mono ?_
        rintro e w6 ⟨rfl, b6⟩
        have B6 := Lib.hid (HC5.out.2.trans (b6.mono HC5.out.2.size))
        clear b6
        go_wp2
        go_ret
        exact ⟨rfl, B6.out⟩
    · obtain rfl : k = st.length := by omega
      clear CK
      go_wp2_with fail
      refine (AL.out _ (HR.out.later HBr.out)).mono ?_
      rintro e w9 ⟨rfl, b9⟩
      have B9 := Lib.hid (HBr.out.trans (b9.mono HBr.out.size))
      clear b9
      go_wp2
      go_ret
      exact ⟨rfl, B9.out⟩
theorem checkWhole_any (i bl j : Int) (v : Value) (st : List St) (w : World) (hv : StsArg w v st) (hl : st.length ≤ 8796093022208) (hn : ∀ x ∈ st, x.s.size ≤ 140737488351232 ∧ x.i < 4294967296 ∧ x.t < 4294967296) (hR : Rt w) :
    Calls Tryz.prog 6 #[geoV i bl j, v] w fun e w' => e = .returned (.bool true) ∧ Below w.heap.size w w' := by
  by_cases hq : longB 60 4096 st = true ∨ mayG i bl j = false ∨ (60 < bl ∨ 30 < i ∨ 60 < j)
  · exact checkWhole_long i bl j v st w hv hl (fun x hx => (hn x hx).1) hR hq
  · have h1 : longB 60 4096 st = false := by
      cases h : longB 60 4096 st with
      | false => rfl
      | true => exact absurd (.inl h) hq
    have h2 : mayG i bl j = true := by
      cases h : mayG i bl j with
      | true => rfl
      | false => exact absurd (.inr (.inl h)) hq
    have h3 : ¬ (60 < bl ∨ 30 < i ∨ 60 < j) := fun h => hq (.inr (.inr h))
    have hk : 2 ≤ i ∧ 8 ≤ bl ∧ 40 ≤ j := by simp [mayG, inR] at h2; omega
    obtain ⟨v1, v2, v3⟩ := hk
    obtain ⟨i', rfl⟩ := Int.eq_ofNat_of_zero_le (show 0 ≤ i by omega)
    obtain ⟨b', rfl⟩ := Int.eq_ofNat_of_zero_le (show 0 ≤ bl by omega)
    obtain ⟨j', rfl⟩ := Int.eq_ofNat_of_zero_le (show 0 ≤ j by omega)
    obtain ⟨l1, l2⟩ := long_no (by omega) h1
    exact checkWhole_main i' b' j' v st w hv l1 (fun x hx => ⟨l2 x hx, (hn x hx).2⟩) hR h1 h2 (by omega) (by omega) (by omega)
end Go.Proofs.YtpnfkilfgdnogaaGreatDoor.Img
end
section
namespace Go.Proofs.YtpnfkilfgdnogaaGreatDoor.Img
open Go.Joins Go.ChangeShapes Go.WideShapes Go.ChangeAt Go.RowKit Go.Deep
open Oct Geo
set_option linter.unusedVariables false
set_option linter.unusedSimpArgs false
theorem tailL {P : Program} {x : String × DataW Unit} {r : List (String × DataW Unit)} {w : World} (h : laidMet P (x :: r) w) : laidMet P r w := by
  obtain ⟨ps, hv, hnd, hrows⟩ := h
  obtain ⟨n, d⟩ := x
  obtain ⟨g, t, cs, fuel, p, q, _, _, _, _, hq, rfl⟩ := hv
  exact ⟨q, hq, List.Nodup.sublist (List.sublist_append_right _ _) hnd, fun b off hm => hrows b off (List.mem_append_right _ hm)⟩
theorem gTab : Tryz.prog.globalNamed "internal/strconv.uint64pow10" = some 2 := by kernel_rfl
theorem gTabType : (Tryz.prog.globals[2]?).map (·.type) = some 315 := by kernel_rfl
theorem rt_of {W : World} (h : laidMetH Tryz.prog Rows.checkWholeRow.laid W) : Rt W := by
  have h0 : laidMet Tryz.prog (("math/bits.deBruijn32tab", Rows.laid_math_bits_deBruijn32tab) :: ("math/bits.deBruijn64tab", Rows.laid_math_bits_deBruijn64tab) :: ("internal/strconv.uint64pow10", Lib.tabData .u64 Lib.pow10Tab) :: [("lunette/image.root", Rows.laid_lunette_image_root)]) W := h
  have h1 := tailL h0
  have h2 := tailL h1
  have h3 := tailL h2
  exact ⟨root_of h3, Lib.tabIs_of_head gTab gTabType Tryz.underlying315 Tryz.underlying60 (by kernel_rfl) (by kernel_rfl) h2⟩
def datCells : DataW Unit → List Value
  | .agg xs => xs.map fun x => match x with
    | .lit (.int k n) => .int k n
    | _ => .bool false
  | _ => []
noncomputable def laidWorld4 (os : Os) : World :=
  { laidWorld os with heap := (((laidWorld os).heap.modify 2 fun
      | .cells _ t frozen => .cells (datCells Rows.laid_internal_strconv_uint64pow10).toArray t frozen
      | o => o).modify 3 fun
      | .cells _ t frozen => .cells (datCells Rows.laid_math_bits_deBruijn32tab).toArray t frozen
      | o => o).modify 4 fun
      | .cells _ t frozen => .cells (datCells Rows.laid_math_bits_deBruijn64tab).toArray t frozen
      | o => o }
end Go.Proofs.YtpnfkilfgdnogaaGreatDoor.Img
end
section
namespace Go.Proofs.YtpnfkilfgdnogaaGreatDoor.checkWhole
open Go.Joins Go.ChangeShapes Go.WideShapes Go.ChangeAt Go.RowKit
open Oct Geo _root_.Go.Proofs.YtpnfkilfgdnogaaGreatDoor.Img
set_option linter.unusedVariables false
set_option maxRecDepth 100000 in
theorem contract (H : Type) (enc : TypeId × Value → H) (W : World) (base : Nat) (args : Array Value) (ds gs : List (DataW H)) (before : List MemPlace) (T : List TypeId)
    (hval0 : ∀ (j : Nat) t v, Tryz.f6.params[j]? = some t → args[j]? = some v → Value.okWide Tryz.prog W .any base t v)
    (hW : DataW.Whole enc Tryz.prog Tryz.f6.params.toList Rows.checkWholeSpec.vars false W args.toList ds gs before)
    (hsz0 : (DataW.weightsEach Tryz.prog (Tryz.f6.params.toList ++ T) (ds ++ gs)).all (· ≤ reachBytes) = true)
    (hL : laidMetH Tryz.prog Rows.checkWholeRow.laid W) :
    Calls Tryz.prog 6 args W fun e W' => ∃ v, e = .returned v ∧ Rows.checkWholeSpec.post enc Tryz.prog Tryz.f6 false true false false W args v W' := by
  have hR : Rt W := rt_of hL
  have hval : ∀ (j : Nat) t v, Tryz.f6.params[j]? = some t → args[j]? = some v → Value.okWide Tryz.prog W .any base t v := hval0
  have hW' := hW
  have hsz := hsz0
  obtain ⟨p, q, hA0, hV, rfl, hfz, hnd⟩ := hW
  have hA : DataW.TrodAll enc Tryz.prog W 0 (fun _ => true) true Tryz.f6.params.toList args.toList ds p := hA0
  rw [Tryz.params6] at hA hval hsz
  obtain ⟨v0, vs0, d0, ds0, p0, q0, hargs, rfl, rfl, h0, r0⟩ := trodAll_cons hA
  obtain ⟨v1, vs1, d1, ds1, p1, q1, rfl, rfl, rfl, h1, r1⟩ := trodAll_cons r0
  obtain ⟨rfl, rfl, rfl⟩ := trodAll_nil r1
  obtain rfl : args = #[v0, v1] := by cases args; simp_all
  obtain ⟨rfl, rfl⟩ := trodVars_none hV
  have k0 := h0
  have lt0 : ∀ x ∈ p0, x.block < W.heap.size := by obtain ⟨m, hm⟩ := k0; exact DataW.trod_lt m _ _ _ hm
  obtain ⟨gi, gb, gj, rfl⟩ := open_geo (hval 0 23 v0 rfl rfl) h0
  obtain ⟨a1, len1, cap1, rfl⟩ := okWide_slice Tryz.underlying47 (hval 1 47 v1 rfl rfl)
  have k1 := h1
  have lt1 : ∀ x ∈ p1, x.block < W.heap.size := by obtain ⟨m, hm⟩ := k1; exact DataW.trod_lt m _ _ _ hm
  obtain ⟨st, s1, y1, z1⟩ := open_sts h1 hsz (j := 1) rfl rfl
  clear hA0 hval0 hsz0
  simp only [List.append_nil] at hW'
  refine (checkWhole_any gi gb gj _ st W s1 y1 z1 hR).mono fun e W' ⟨he, bel⟩ => ?_
  subst he
  exact ⟨_, rfl, _, _, _, [], _, [], hW', trodAll_mk1 (shut_bool Tryz.underlying4 _), (trodAll_cons_mk (Below.trod laidOut (by kernel_rfl) (of_decide_eq_true (by kernel_rfl)) k0 bel lt0) (trodAll_cons_mk (Below.trod laidOut (by kernel_rfl) (of_decide_eq_true (by kernel_rfl)) k1 bel lt1) trodAll_mk0)), rfl, bel.frame _, fun h => by cases h⟩
set_option maxRecDepth 100000 in
theorem laid_met (os : Os) : laidMet Tryz.prog Rows.checkWholeRow.laid ((laidWorld4 os).forCall (fun _ _ => 0) ⟨#[], #[.agg #[.int .i64 0, .int .i64 0, .int .i64 0], .slice none 0 0], []⟩).memory :=
  laidMet_of_run' 8 (by kernel_rfl) (by kernel_rfl)
set_option maxRecDepth 100000 in
theorem reads (os : Os) {H : Type} (enc : TypeId × Value → H) : ∃ places, DataW.whole enc Tryz.prog ((laidWorld4 os).forCall (fun _ _ => 0) ⟨#[], #[.agg #[.int .i64 0, .int .i64 0, .int .i64 0], .slice none 0 0], []⟩).memory Tryz.f6.params.toList Rows.checkWholeSpec.vars false (#[.agg #[.int .i64 0, .int .i64 0, .int .i64 0], .slice none 0 0] : Array Value).toList 8 = some ([.agg [.lit (.int .i64 0), .lit (.int .i64 0), .lit (.int .i64 0)], .nil], [], places) :=
  ⟨[], by kernel_rfl⟩
set_option maxRecDepth 100000 in
theorem lifted (os : Os) (started : os.Started) (H : Type) (enc : TypeId × Value → H) (F : Stop.Interp) :
    ReturnsInHanded {} Tryz.checked os 6 .any ((OpenSpec.ofChange Rows.checkWholeSpec).preRow enc Tryz.prog Tryz.f6 Rows.checkWholeRow.domain false Rows.checkWholeRow.laid) (((OpenSpec.ofChange Rows.checkWholeSpec).at F).post enc Tryz.prog Tryz.f6 false true false false) := by
  obtain ⟨places, hx⟩ := reads os enc
  refine returnsInHanded_of_row (C := Tryz.checked) (s := OpenSpec.ofChange Rows.checkWholeSpec) own started (by kernel_rfl) Tryz.func6
    (witness_row_at (enc := enc) (C := Tryz.checked) false (laidWorld4 os) #[.agg #[.int .i64 0, .int .i64 0, .int .i64 0], .slice none 0 0] rfl (by kernel_rfl) (by kernel_rfl) (by kernel_rfl)
      (OpenSpec.preRow_of_cond 8 hx (by kernel_rfl) (fun k hk => by cases hk) (by kernel_rfl) (laid_met os))) ?_
  intro W base args ds gs before hval hW _ _ hsz hL _ _
  exact contract H enc W base args ds gs before _ hval hW hsz hL
set_option maxRecDepth 100000 in
theorem said : Rows.CheckWholeSaid :=
  OpenClaim.holds_of_cond 6 Tryz.f6 rfl rfl rfl rfl rfl rfl rfl ⟨rfl, rfl, rfl, rfl, rfl⟩ rfl rfl rfl rfl rfl (by kernel_rfl) Tryz.func6 (by kernel_rfl)
    (of_decide_eq_true (by kernel_rfl)) (by unfold Func.isWrapper; first | (rw [if_pos (by decide +kernel)]; kernel_rfl) | (rw [if_neg (by decide +kernel)]; exact ⟨rfl, rfl⟩))
    (fun os started H enc _ F => by rw [OpenClaim.pre_eq_preRow]; exact lifted os started H enc F)
set_option maxRecDepth 100000 in
theorem plain (f : FuncId) (fn : Func) (hf : Tryz.pinned.checked.prog.funcNamed "lunette/lunettelaw12.CheckWhole" = some f) (hfn : Tryz.pinned.checked.prog.funcs[f]? = some fn) :
    false = Tryz.pinned.checked.prog.looks [] ∧ ∀ (j : Nat) t, fn.params[j]? = some t → Tryz.pinned.checked.prog.wantsStandIn t = false := by
  obtain rfl : f = 6 := Option.some.inj ((show Tryz.prog.funcNamed "lunette/lunettelaw12.CheckWhole" = some 6 by kernel_rfl).symm.trans hf) |>.symm
  obtain rfl : fn = Tryz.f6 := (Option.some.inj (Tryz.func6.symm.trans hfn)).symm
  refine ⟨by kernel_rfl, fun j t ht => ?_⟩
  rw [Tryz.params6] at ht
  have hm : t ∈ [23, 47] := by have := Array.mem_of_getElem? ht; simpa using this
  simp only [List.mem_cons, List.not_mem_nil, or_false] at hm
  rcases hm with rfl | rfl
  · exact (show Tryz.prog.wantsStandIn 23 = false by kernel_rfl)
  · exact (show Tryz.prog.wantsStandIn 47 = false by kernel_rfl)
theorem card : Rows.CheckWholeCardSaid :=
  Claim7.holds_tied_plain_at .later [] _ _ _ _ said (fun _ h => by cases h) (by kernel_rfl) (fun _ h => by cases h) checkWhole_row_tie rfl ⟨rfl, rfl⟩ (by kernel_rfl) rfl plain (by kernel_rfl)
end Go.Proofs.YtpnfkilfgdnogaaGreatDoor.checkWhole
end
