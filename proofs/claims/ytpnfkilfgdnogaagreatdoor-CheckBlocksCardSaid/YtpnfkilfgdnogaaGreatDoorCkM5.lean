/- Layer 12: the step fit, walked: by case. -/
import Derived.Test.YtpnfkilfgdnogaaGreatDoorDirM
import Derived.Test.YtpnfkilfgdnogaaGreatDoorInoM
import Derived.Test.YtpnfkilfgdnogaaGreatDoorCkM4
import Derived.Test.YtpnfkilfgdnogaaGreatDoorOwnG
import Derived.Deep.RegionLawGrows
import Derived.BigRegion
section
namespace Go.Proofs.YtpnfkilfgdnogaaGreatDoor.Img
set_option linter.unusedVariables false
set_option linter.unusedSimpArgs false
open Go.RowKit Go.Shelf Go.Maps Oct
theorem padB_64 {s : ByteArray} (h : s.size ≤ 64) : (padB s 64).size = 64 := by
  unfold padB
  rw [size_B, List.length_append, List.length_replicate, len_L]
  omega
set_option maxRecDepth 100000 in
set_option maxHeartbeats 400000 in
theorem sector_any (s : ByteArray) (w : World) (h : s.size ≤ 4096) :
    Calls Tryz.prog 82 #[.string s] w fun e w' => ∃ t, e = .returned (.string t) ∧ t.size = 64 ∧ Below w.heap.size w w' := by
  by_cases h1 : s.size ≤ 64
  · have RP := Lib.hid (fun W => Oct.rpad_ok s 64 W (by decide) h1)
    have m1 : min (s.size : Int) 64 = s.size := by omega
    go_enter Tryz.func82, Tryz.ntmps82
    go_wp2_with fail
    refine (RP.out _).mono ?_
    rintro e w1 ⟨rfl, b1⟩
    go_wp2
    go_ret
    exact ⟨_, rfl, padB_64 h1, b1⟩
  · have RP := Lib.hid (fun W => Oct.rpad_ok (s.extract 0 64) 64 W (by decide) (by rw [ByteArray.size_extract]; omega))
    have m1 : min (s.size : Int) 64 = 64 := by omega
    go_enter Tryz.func82, Tryz.ntmps82
    go_wp2_with fail
    refine (RP.out _).mono ?_
    rintro e w1 ⟨rfl, b1⟩
    go_wp2
    go_ret
    exact ⟨_, rfl, padB_64 (by rw [ByteArray.size_extract]; omega), b1⟩
end Go.Proofs.YtpnfkilfgdnogaaGreatDoor.Img
end
section
namespace Go.Proofs.YtpnfkilfgdnogaaGreatDoor.Img
set_option linter.unusedVariables false
set_option linter.unusedSimpArgs false
open Go.RowKit Go.Shelf Go.Maps Oct Dev Jou Tx Geo Ino Bm Dir
section
variable {E : Im} {D D' : Secs} {ino : Nat → InoT} {vs : Nat → List Nat} {es : List Ent} {Z : Nat → Prop} {w W : World}
theorem seti_c (n : Nat) (c8 : Int) (w : World) (hs : Small E) (hZ : ZAll E Z) (h : (c8 = 0 ∧ Mid2 Z E n w) ∨ (c8 = 4 ∧ Shown E w)) (h2 : 2 ≤ n) (hn : n ≤ E.i) :
    Calls Tryz.prog 20 #[.pointer (some ⟨E.M, 0, none⟩), .int .u32 n, .agg #[.int .u8 1, .int .u16 1, .int .u32 0, .int .u16 0, .int .u16 0, .int .u16 0, .int .u16 0, .int .u16 0]] w fun e W => ∃ c : Int, e = .returned (.int .i64 c) ∧ Tch (fun c => c = E.T.m) w W ∧ (c = 0 ∨ c = 4) ∧ (c8 = 0 → c = 0 → FS Z E W) := by
  rcases h with ⟨rfl, h⟩ | ⟨rfl, h⟩
  · refine (seti_s n w hs hZ h h2 hn).mono ?_
    rintro e W ⟨c, rfl, t, hc, r⟩
    exact ⟨c, rfl, t, hc, fun _ q => r q⟩
  · refine (seti_any n w hs h (by omega) hn xF xF_ok).mono ?_
    rintro e W ⟨c, rfl, t, hc⟩
    exact ⟨c, rfl, t, hc, fun q => by cases q⟩
theorem give_c (n : Nat) (c8 : Int) (w : World) (hs : Small E) (hZ : ZAll E Z) (h : (c8 = 0 ∧ MidM Z E n w) ∨ (c8 = 4 ∧ Shown E w)) (h2 : 2 ≤ n) (hn : n ≤ E.i) :
    Calls Tryz.prog 40 #[.pointer (some ⟨E.M, 0, none⟩), .int .u32 n] w fun e W => ∃ c : Int, e = .returned (.int .i64 c) ∧ Tch (fun c => c = E.T.m) w W ∧ (c8 = 0 → (c = 0 ∨ c = 4) ∧ (c = 0 → FS Z E W)) := by
  rcases h with ⟨rfl, h⟩ | ⟨rfl, h⟩
  · refine (give_s n w hs hZ h).mono ?_
    rintro e W ⟨c, rfl, t, hc, r⟩
    exact ⟨c, rfl, t, fun _ => ⟨hc, r⟩⟩
  · refine (give_any n w hs h (by omega) hn).mono ?_
    rintro e W ⟨c, rfl, t⟩
    exact ⟨c, rfl, t, fun q => by cases q⟩
theorem Mid1.later {n : Nat} (h : Mid1 Z E n w) (hb : Below w.heap.size w W) : Mid1 Z E n W := by
  obtain ⟨D, ino, vs, es, es0, a, b, nm, g, r⟩ := h
  exact ⟨D, ino, vs, es, es0, a, b, nm, g.later hb, r⟩
end
end Go.Proofs.YtpnfkilfgdnogaaGreatDoor.Img
end
section
namespace Go.Proofs.YtpnfkilfgdnogaaGreatDoor.Img
set_option linter.unusedVariables false
set_option linter.unusedSimpArgs false
open Go.RowKit Go.Shelf Go.Maps Oct Dev Jou Tx Geo Ino Bm Dir
section
variable {E : Im} {D D' : Secs} {ino : Nat → InoT} {vs : Nat → List Nat} {es : List Ent} {Z : Nat → Prop} {w W : World}
set_option maxRecDepth 100000 in
set_option maxHeartbeats 2000000 in
theorem fit_bad (x : St) (w : World) (hs : Small E) (hZ : ZAll E Z) (h : FS Z E w) (hxi : x.i < 4294967296) (hxs : x.s.size ≤ 4096) (hbad : x.i < 1 ∨ E.i < x.i) :
    Calls Tryz.prog 35 #[.pointer (some ⟨E.M, 0, none⟩), .agg (stCells x).toArray] w fun e W => ∃ c : Int, e = .returned (.int .i64 c) ∧ StR Z E w c W := by
  have HF := Lib.hid h
  have HS := Lib.hid hs
  obtain ⟨D, ino, vs, es, g, f, nm⟩ := h
  have hTm := mx_lt g
  obtain ⟨xd, xn, xi, xt, ⟨x0, x1, x2, x3, x4, x5, x6, x7⟩, xs, xr⟩ := x
  simp only at hxi hxs hbad
  have HB0 := Lib.hid ((Below.refl _ w).alloc (Nat.le_refl _) (.cells #[.int .i64 xd, .int .i64 xn, .int .u32 xi, .int .u32 xt, .int .u8 x0, .int .u16 x1, .int .u32 x2, .int .u16 x3, .int .u16 x4, .int .u16 x5, .int .u16 x6, .int .u16 x7, .string xs, .bool xr] 54))
  have HY0 := Lib.hid (SBox.new w 54 #[.int .i64 xd, .int .i64 xn, .int .u32 xi, .int .u32 xt, .int .u8 x0, .int .u16 x1, .int .u32 x2, .int .u16 x3, .int .u16 x4, .int .u16 x5, .int .u16 x6, .int .u16 x7, .string xs, .bool xr])
  have H0 := Lib.hid (g.later HB0.out)
  have HF0 := Lib.hid (HF.out.later HB0.out)
  unfold stCells
  dsimp only
  have hY := HY0.out
  have Y0 := hY.cell 0
  have Y1 := hY.cell 1
  have Y2 := hY.cell 2
  have Y3 := hY.cell 3
  have Y4 := hY.cell 4
  have Y5 := hY.cell 5
  have Y6 := hY.cell 6
  have Y7 := hY.cell 7
  have Y8 := hY.cell 8
  have Y9 := hY.cell 9
  have Y10 := hY.cell 10
  have Y11 := hY.cell 11
  have Y12 := hY.cell 12
  have Y13 := hY.cell 13
  simp only [List.getElem?_toArray, List.getElem?_cons_zero, List.getElem?_cons_succ] at Y0 Y1 Y2 Y3 Y4 Y5 Y6 Y7 Y8 Y9 Y10 Y11 Y12 Y13
  have Yl := hY.lt
  clear hY HF
  go_enter Tryz.func35, Tryz.ntmps35
  have IN := Lib.hid (inode_bad xi _ hs H0.out hxi hbad)
  clear g f nm
  go_wp2_with fail
  refine IN.out.mono ?_
  rintro e w1 ⟨rfl, b1⟩
  have HB1 := Lib.hid (HB0.out.trans (b1.mono HB0.out.size))
  have HF1 := Lib.hid (HF0.out.later b1)
  clear b1
  go_wp2
  go_ret
  exact ⟨0, rfl, Tch.of_below (HB1.out.alloc HB1.out.size _), .inl rfl, fun _ => HF1.out.later ((Below.refl _ _).alloc (Nat.le_refl _) _)⟩
end
end Go.Proofs.YtpnfkilfgdnogaaGreatDoor.Img
end
section
namespace Go.Proofs.YtpnfkilfgdnogaaGreatDoor.Img
set_option linter.unusedVariables false
set_option linter.unusedSimpArgs false
open Go.RowKit Go.Shelf Go.Maps Oct Dev Jou Tx Geo Ino Bm Dir
section
variable {E : Im} {D D' : Secs} {ino : Nat → InoT} {vs : Nat → List Nat} {es : List Ent} {Z : Nat → Prop} {w W : World}
set_option maxRecDepth 100000 in
set_option maxHeartbeats 2000000 in
theorem fit_enter0 (x : St) (w : World) (hs : Small E) (hZ : ZAll E Z) (h : FS Z E w) (hxi : x.i < 4294967296) (hxs : x.s.size ≤ 4096) (hbad : ¬ (x.i < 1 ∨ E.i < x.i)) (hd : x.d = 0) :
    Calls Tryz.prog 35 #[.pointer (some ⟨E.M, 0, none⟩), .agg (stCells x).toArray] w fun e W => ∃ c : Int, e = .returned (.int .i64 c) ∧ StR Z E w c W := by
  have HF := Lib.hid h
  have HS := Lib.hid hs
  obtain ⟨D, ino, vs, es, g, f, nm⟩ := h
  have hTm := mx_lt g
  obtain ⟨xd, xn, xi, xt, ⟨x0, x1, x2, x3, x4, x5, x6, x7⟩, xs, xr⟩ := x
  simp only at hxi hxs hbad hd
  have HB0 := Lib.hid ((Below.refl _ w).alloc (Nat.le_refl _) (.cells #[.int .i64 xd, .int .i64 xn, .int .u32 xi, .int .u32 xt, .int .u8 x0, .int .u16 x1, .int .u32 x2, .int .u16 x3, .int .u16 x4, .int .u16 x5, .int .u16 x6, .int .u16 x7, .string xs, .bool xr] 54))
  have HY0 := Lib.hid (SBox.new w 54 #[.int .i64 xd, .int .i64 xn, .int .u32 xi, .int .u32 xt, .int .u8 x0, .int .u16 x1, .int .u32 x2, .int .u16 x3, .int .u16 x4, .int .u16 x5, .int .u16 x6, .int .u16 x7, .string xs, .bool xr])
  have H0 := Lib.hid (g.later HB0.out)
  have HF0 := Lib.hid (HF.out.later HB0.out)
  unfold stCells
  dsimp only
  have hY := HY0.out
  have Y0 := hY.cell 0
  have Y1 := hY.cell 1
  have Y2 := hY.cell 2
  have Y3 := hY.cell 3
  have Y4 := hY.cell 4
  have Y5 := hY.cell 5
  have Y6 := hY.cell 6
  have Y7 := hY.cell 7
  have Y8 := hY.cell 8
  have Y9 := hY.cell 9
  have Y10 := hY.cell 10
  have Y11 := hY.cell 11
  have Y12 := hY.cell 12
  have Y13 := hY.cell 13
  simp only [List.getElem?_toArray, List.getElem?_cons_zero, List.getElem?_cons_succ] at Y0 Y1 Y2 Y3 Y4 Y5 Y6 Y7 Y8 Y9 Y10 Y11 Y12 Y13
  have Yl := hY.lt
  clear hY HF
  subst hd
  go_enter Tryz.func35, Tryz.ntmps35
  have h1 : 1 ≤ xi := by omega
  have hn : xi ≤ E.i := by omega
  have IN := Lib.hid (inode_is xi (ino xi) _ hs H0.out h1 hn (f.own.is xi h1 hn) (f.own.ok xi h1 hn))
  have hk3 : (ino xi).kind ≤ 2 := by
    rcases f.own.ok xi h1 hn with q | q
    · rw [q]; decide
    · rcases q.kind with q2 | q2 <;> omega
  have hk1 : xi = 1 → (ino xi).kind = 2 := fun q => by rw [q]; exact f.root.kind
  have hk2 : 2 ≤ xi → (ino xi).kind ≠ 2 := fun q => f.two xi q hn
  have hsz : (ino xi).kind ≠ 0 → (ino xi).size ≤ 2304 := fun q => by
    rcases f.own.ok xi h1 hn with q1 | q1
    · exact absurd (by rw [q1]; rfl) q
    · exact q1.size
  have EN := Lib.hid (fun W (h : IS W E D Z) h2 hk => enter_s xi xs W hs hZ h f nm h2 hn hk (by unfold maxLen; omega))
  have TK := Lib.hid (fun W h h2 => take_s (E := E) (Z := Z) xi W hs hZ h h2 hn)
  have SI := Lib.hid (fun c8 W h h2 => seti_c (E := E) (Z := Z) xi c8 W hs hZ h h2 hn)
  have RZ := Lib.hid (fun s W (h : IS W E D Z) h2 hk hl => resize_s xi s W hs hZ h f nm h2 hn hk hl)
  have PG := Lib.hid (fun p s W (h : IS W E D Z) h2 hk hp h64 => page_s xi p s W hs hZ h f nm h2 hn hk hp h64)
  have LE := Lib.hid (fun W h => leave_s (E := E) (Z := Z) xs W hs hZ h (by unfold maxLen; omega))
  have EM := Lib.hid (fun n W h => empty_s (E := E) (Z := Z) n W hs hZ h)
  have GV := Lib.hid (fun n c8 W h h2 hn => give_c (E := E) (Z := Z) n c8 W hs hZ h h2 hn)
  unfold InoT.val at IN
  clear g f nm
  generalize ino xi = y at *
  obtain ⟨k, ln, sz, e0, e1, e2, e3, ei⟩ := y
  simp only at hk3 hk1 hk2 hsz EN RZ PG
  go_wp2_with fail
  refine IN.out.mono ?_
  rintro e w1 ⟨rfl, b1⟩
  have HB1 := Lib.hid ((HB0.out.trans (b1.mono HB0.out.size)).alloc (HB0.out.trans (b1.mono HB0.out.size)).size (.cells #[.int .u8 k, .int .u16 ln, .int .u32 sz, .int .u16 e0, .int .u16 e1, .int .u16 e2, .int .u16 e3, .int .u16 ei] 43))
  have HF1 := Lib.hid ((HF0.out.later b1).later ((Below.refl _ _).alloc (Nat.le_refl _) (.cells #[.int .u8 k, .int .u16 ln, .int .u32 sz, .int .u16 e0, .int .u16 e1, .int .u16 e2, .int .u16 e3, .int .u16 ei] 43)))
  have H1 := Lib.hid ((H0.out.later b1).later ((Below.refl _ _).alloc (Nat.le_refl _) (.cells #[.int .u8 k, .int .u16 ln, .int .u32 sz, .int .u16 e0, .int .u16 e1, .int .u16 e2, .int .u16 e3, .int .u16 ei] 43)))
  have HY1 := Lib.hid ((HY0.out.later b1).alloc (.cells #[.int .u8 k, .int .u16 ln, .int .u32 sz, .int .u16 e0, .int .u16 e1, .int .u16 e2, .int .u16 e3, .int .u16 ei] 43))
  have HX1 := Lib.hid (SBox.new w1 43 #[.int .u8 k, .int .u16 ln, .int .u32 sz, .int .u16 e0, .int .u16 e1, .int .u16 e2, .int .u16 e3, .int .u16 ei])
  have hY := HY0.out.later b1
  clear b1 Y0 Y1 Y2 Y3 Y4 Y5 Y6 Y7 Y8 Y9 Y10 Y11 Y12 Y13 Yl IN HF0 H0 HY0
  have Y0 := hY.cell 0
  have Y1 := hY.cell 1
  have Y2 := hY.cell 2
  have Y3 := hY.cell 3
  have Y4 := hY.cell 4
  have Y5 := hY.cell 5
  have Y6 := hY.cell 6
  have Y7 := hY.cell 7
  have Y8 := hY.cell 8
  have Y9 := hY.cell 9
  have Y10 := hY.cell 10
  have Y11 := hY.cell 11
  have Y12 := hY.cell 12
  have Y13 := hY.cell 13
  simp only [List.getElem?_toArray, List.getElem?_cons_zero, List.getElem?_cons_succ] at Y0 Y1 Y2 Y3 Y4 Y5 Y6 Y7 Y8 Y9 Y10 Y11 Y12 Y13
  have Yl := hY.lt
  have hX := HX1.out
  have X0 := hX.cell 0
  have X1 := hX.cell 1
  have X2 := hX.cell 2
  have X3 := hX.cell 3
  have X4 := hX.cell 4
  have X5 := hX.cell 5
  have X6 := hX.cell 6
  have X7 := hX.cell 7
  simp only [List.getElem?_toArray, List.getElem?_cons_zero, List.getElem?_cons_succ] at X0 X1 X2 X3 X4 X5 X6 X7
  have Xl := hX.lt
  clear hY hX
  have hne : w.heap.size ≠ E.T.m := by omega
  clear RZ PG LE EM GV
  by_cases hk : k = 0
  · subst hk
    have h2 : 2 ≤ xi := by
      by_cases q : xi = 1
      · have := hk1 q
        omega
      · omega
    go_wp2_with fail
    refine (EN.out _ H1.out h2 (by trivial)).mono ?_
    rintro e w2 ⟨c, rfl, t2, m0, m1⟩
    have T2 := Lib.hid ((Tch.of_below HB1.out).trans t2)
    have HM1 := Lib.hid m1
    have HY2 := Lib.hid (show SBox w2 w.heap.size 54 _ from (t2.block _ HY1.out.lt hne).trans HY1.out)
    clear t2 m1 Y0 Y1 Y2 Y3 Y4 Y5 Y6 Y7 Y8 Y9 Y10 Y11 Y12 Y13 Yl X0 X1 X2 X3 X4 X5 X6 X7 Xl EN
    by_cases c0 : c = 0
    · subst c0
      have HMD : Hid (Mid1 Z E xi w2.drew) := Lib.hid ((m0 rfl).later (Below.refl _ _).drew)
      have HYD := Lib.hid (SBox.drew HY2.out)
      have hY := HY2.out
      have Y2 := hY.cell 2
      simp only [List.getElem?_toArray, List.getElem?_cons_zero, List.getElem?_cons_succ] at Y2
      have Yl := hY.lt
      clear hY m0
      go_upto_region 14 with fail
      go_region_law (first | (go_simp; go_at_call 19; refine (TK.out _ HMD.out h2).mono ?_; rintro e w7 ⟨c7, rfl, t7, m7⟩; have T7 := Lib.hid t7; have HM7 := Lib.hid m7; have hY7 : SBox w7 w.heap.size 54 _ := (t7.block _ HYD.out.lt hne).trans HYD.out; have P2 := hY7.cell 2; simp only [List.getElem?_toArray, List.getElem?_cons_zero, List.getElem?_cons_succ] at P2; have Pl := hY7.lt; clear hY7 t7 m7) | (go_simp; go_at_call 20; refine (SI.out c7 _ HM7.out h2).mono ?_; rintro e w8 ⟨c8, rfl, t8, hc8, m8⟩; have T8 := Lib.hid t8; have HM8 := Lib.hid m8; clear t8 m8))
      all_goals
        have TT := Lib.hid ((T2.out.trans (Tch.of_below (Below.refl _ w2).drew)).trans (T7.out.trans T8.out))
        rcases HM7.out with ⟨rfl, _⟩ | ⟨rfl, _⟩
        · go_wp2
          go_ret
          exact ⟨c8, rfl, TT.out, hc8, fun q => HM8.out (by trivial) q⟩
        · go_wp2
          go_ret
          exact ⟨4, rfl, TT.out, .inr rfl, fun q => by cases q⟩
    · by_cases c4 : c = 4
      · subst c4
        clear TK SI m0
        go_wp2
        go_ret
        exact ⟨4, rfl, T2.out, .inr rfl, fun q => by cases q⟩
      · have t0 : (c == 0) = false := by simp; omega
        have t4 : (c == 4) = false := by simp; omega
        clear TK SI m0
        go_wp2
        go_ret
        exact ⟨0, rfl, T2.out, .inl rfl, fun _ => HM1.out c0 c4⟩
  · have tk : ((k : Int) == 0) = false := by simp; omega
    clear EN TK SI
    go_wp2
    go_ret
    exact ⟨0, rfl, Tch.of_below HB1.out, .inl rfl, fun _ => HF1.out⟩
end
end Go.Proofs.YtpnfkilfgdnogaaGreatDoor.Img
end
section
namespace Go.Proofs.YtpnfkilfgdnogaaGreatDoor.Img
set_option linter.unusedVariables false
set_option linter.unusedSimpArgs false
open Go.RowKit Go.Shelf Go.Maps Oct Dev Jou Tx Geo Ino Bm Dir
section
variable {E : Im} {D D' : Secs} {ino : Nat → InoT} {vs : Nat → List Nat} {es : List Ent} {Z : Nat → Prop} {w W : World}
set_option maxRecDepth 100000 in
set_option maxHeartbeats 2000000 in
theorem fit_enter7 (x : St) (w : World) (hs : Small E) (hZ : ZAll E Z) (h : FS Z E w) (hxi : x.i < 4294967296) (hxs : x.s.size ≤ 4096) (hbad : ¬ (x.i < 1 ∨ E.i < x.i)) (hd : x.d = 7) :
    Calls Tryz.prog 35 #[.pointer (some ⟨E.M, 0, none⟩), .agg (stCells x).toArray] w fun e W => ∃ c : Int, e = .returned (.int .i64 c) ∧ StR Z E w c W := by
  have HF := Lib.hid h
  have HS := Lib.hid hs
  obtain ⟨D, ino, vs, es, g, f, nm⟩ := h
  have hTm := mx_lt g
  obtain ⟨xd, xn, xi, xt, ⟨x0, x1, x2, x3, x4, x5, x6, x7⟩, xs, xr⟩ := x
  simp only at hxi hxs hbad hd
  have HB0 := Lib.hid ((Below.refl _ w).alloc (Nat.le_refl _) (.cells #[.int .i64 xd, .int .i64 xn, .int .u32 xi, .int .u32 xt, .int .u8 x0, .int .u16 x1, .int .u32 x2, .int .u16 x3, .int .u16 x4, .int .u16 x5, .int .u16 x6, .int .u16 x7, .string xs, .bool xr] 54))
  have HY0 := Lib.hid (SBox.new w 54 #[.int .i64 xd, .int .i64 xn, .int .u32 xi, .int .u32 xt, .int .u8 x0, .int .u16 x1, .int .u32 x2, .int .u16 x3, .int .u16 x4, .int .u16 x5, .int .u16 x6, .int .u16 x7, .string xs, .bool xr])
  have H0 := Lib.hid (g.later HB0.out)
  have HF0 := Lib.hid (HF.out.later HB0.out)
  unfold stCells
  dsimp only
  have hY := HY0.out
  have Y0 := hY.cell 0
  have Y1 := hY.cell 1
  have Y2 := hY.cell 2
  have Y3 := hY.cell 3
  have Y4 := hY.cell 4
  have Y5 := hY.cell 5
  have Y6 := hY.cell 6
  have Y7 := hY.cell 7
  have Y8 := hY.cell 8
  have Y9 := hY.cell 9
  have Y10 := hY.cell 10
  have Y11 := hY.cell 11
  have Y12 := hY.cell 12
  have Y13 := hY.cell 13
  simp only [List.getElem?_toArray, List.getElem?_cons_zero, List.getElem?_cons_succ] at Y0 Y1 Y2 Y3 Y4 Y5 Y6 Y7 Y8 Y9 Y10 Y11 Y12 Y13
  have Yl := hY.lt
  clear hY HF
  subst hd
  go_enter Tryz.func35, Tryz.ntmps35
  have h1 : 1 ≤ xi := by omega
  have hn : xi ≤ E.i := by omega
  have IN := Lib.hid (inode_is xi (ino xi) _ hs H0.out h1 hn (f.own.is xi h1 hn) (f.own.ok xi h1 hn))
  have hk3 : (ino xi).kind ≤ 2 := by
    rcases f.own.ok xi h1 hn with q | q
    · rw [q]; decide
    · rcases q.kind with q2 | q2 <;> omega
  have hk1 : xi = 1 → (ino xi).kind = 2 := fun q => by rw [q]; exact f.root.kind
  have hk2 : 2 ≤ xi → (ino xi).kind ≠ 2 := fun q => f.two xi q hn
  have hsz : (ino xi).kind ≠ 0 → (ino xi).size ≤ 2304 := fun q => by
    rcases f.own.ok xi h1 hn with q1 | q1
    · exact absurd (by rw [q1]; rfl) q
    · exact q1.size
  have EN := Lib.hid (fun W (h : IS W E D Z) h2 hk => enter_s xi xs W hs hZ h f nm h2 hn hk (by unfold maxLen; omega))
  have TK := Lib.hid (fun W h h2 => take_s (E := E) (Z := Z) xi W hs hZ h h2 hn)
  have SI := Lib.hid (fun c8 W h h2 => seti_c (E := E) (Z := Z) xi c8 W hs hZ h h2 hn)
  have RZ := Lib.hid (fun s W (h : IS W E D Z) h2 hk hl => resize_s xi s W hs hZ h f nm h2 hn hk hl)
  have PG := Lib.hid (fun p s W (h : IS W E D Z) h2 hk hp h64 => page_s xi p s W hs hZ h f nm h2 hn hk hp h64)
  have LE := Lib.hid (fun W h => leave_s (E := E) (Z := Z) xs W hs hZ h (by unfold maxLen; omega))
  have EM := Lib.hid (fun n W h => empty_s (E := E) (Z := Z) n W hs hZ h)
  have GV := Lib.hid (fun n c8 W h h2 hn => give_c (E := E) (Z := Z) n c8 W hs hZ h h2 hn)
  unfold InoT.val at IN
  clear g f nm
  generalize ino xi = y at *
  obtain ⟨k, ln, sz, e0, e1, e2, e3, ei⟩ := y
  simp only at hk3 hk1 hk2 hsz EN RZ PG
  go_wp2_with fail
  refine IN.out.mono ?_
  rintro e w1 ⟨rfl, b1⟩
  have HB1 := Lib.hid ((HB0.out.trans (b1.mono HB0.out.size)).alloc (HB0.out.trans (b1.mono HB0.out.size)).size (.cells #[.int .u8 k, .int .u16 ln, .int .u32 sz, .int .u16 e0, .int .u16 e1, .int .u16 e2, .int .u16 e3, .int .u16 ei] 43))
  have HF1 := Lib.hid ((HF0.out.later b1).later ((Below.refl _ _).alloc (Nat.le_refl _) (.cells #[.int .u8 k, .int .u16 ln, .int .u32 sz, .int .u16 e0, .int .u16 e1, .int .u16 e2, .int .u16 e3, .int .u16 ei] 43)))
  have H1 := Lib.hid ((H0.out.later b1).later ((Below.refl _ _).alloc (Nat.le_refl _) (.cells #[.int .u8 k, .int .u16 ln, .int .u32 sz, .int .u16 e0, .int .u16 e1, .int .u16 e2, .int .u16 e3, .int .u16 ei] 43)))
  have HY1 := Lib.hid ((HY0.out.later b1).alloc (.cells #[.int .u8 k, .int .u16 ln, .int .u32 sz, .int .u16 e0, .int .u16 e1, .int .u16 e2, .int .u16 e3, .int .u16 ei] 43))
  have HX1 := Lib.hid (SBox.new w1 43 #[.int .u8 k, .int .u16 ln, .int .u32 sz, .int .u16 e0, .int .u16 e1, .int .u16 e2, .int .u16 e3, .int .u16 ei])
  have hY := HY0.out.later b1
  clear b1 Y0 Y1 Y2 Y3 Y4 Y5 Y6 Y7 Y8 Y9 Y10 Y11 Y12 Y13 Yl IN HF0 H0 HY0
  have Y0 := hY.cell 0
  have Y1 := hY.cell 1
  have Y2 := hY.cell 2
  have Y3 := hY.cell 3
  have Y4 := hY.cell 4
  have Y5 := hY.cell 5
  have Y6 := hY.cell 6
  have Y7 := hY.cell 7
  have Y8 := hY.cell 8
  have Y9 := hY.cell 9
  have Y10 := hY.cell 10
  have Y11 := hY.cell 11
  have Y12 := hY.cell 12
  have Y13 := hY.cell 13
  simp only [List.getElem?_toArray, List.getElem?_cons_zero, List.getElem?_cons_succ] at Y0 Y1 Y2 Y3 Y4 Y5 Y6 Y7 Y8 Y9 Y10 Y11 Y12 Y13
  have Yl := hY.lt
  have hX := HX1.out
  have X0 := hX.cell 0
  have X1 := hX.cell 1
  have X2 := hX.cell 2
  have X3 := hX.cell 3
  have X4 := hX.cell 4
  have X5 := hX.cell 5
  have X6 := hX.cell 6
  have X7 := hX.cell 7
  simp only [List.getElem?_toArray, List.getElem?_cons_zero, List.getElem?_cons_succ] at X0 X1 X2 X3 X4 X5 X6 X7
  have Xl := hX.lt
  clear hY hX
  have hne : w.heap.size ≠ E.T.m := by omega
  clear RZ PG LE EM GV
  by_cases hk : k = 0
  · subst hk
    have h2 : 2 ≤ xi := by
      by_cases q : xi = 1
      · have := hk1 q
        omega
      · omega
    go_wp2_with fail
    refine (EN.out _ H1.out h2 (by trivial)).mono ?_
    rintro e w2 ⟨c, rfl, t2, m0, m1⟩
    have T2 := Lib.hid ((Tch.of_below HB1.out).trans t2)
    have HM1 := Lib.hid m1
    have HY2 := Lib.hid (show SBox w2 w.heap.size 54 _ from (t2.block _ HY1.out.lt hne).trans HY1.out)
    clear t2 m1 Y0 Y1 Y2 Y3 Y4 Y5 Y6 Y7 Y8 Y9 Y10 Y11 Y12 Y13 Yl X0 X1 X2 X3 X4 X5 X6 X7 Xl EN
    by_cases c0 : c = 0
    · subst c0
      have HMD : Hid (Mid1 Z E xi w2.drew) := Lib.hid ((m0 rfl).later (Below.refl _ _).drew)
      have HYD := Lib.hid (SBox.drew HY2.out)
      have hY := HY2.out
      have Y2 := hY.cell 2
      simp only [List.getElem?_toArray, List.getElem?_cons_zero, List.getElem?_cons_succ] at Y2
      have Yl := hY.lt
      clear hY m0
      go_upto_region 14 with fail
      go_region_law (first | (go_simp; go_at_call 19; refine (TK.out _ HMD.out h2).mono ?_; rintro e w7 ⟨c7, rfl, t7, m7⟩; have T7 := Lib.hid t7; have HM7 := Lib.hid m7; have hY7 : SBox w7 w.heap.size 54 _ := (t7.block _ HYD.out.lt hne).trans HYD.out; have P2 := hY7.cell 2; simp only [List.getElem?_toArray, List.getElem?_cons_zero, List.getElem?_cons_succ] at P2; have Pl := hY7.lt; clear hY7 t7 m7) | (go_simp; go_at_call 20; refine (SI.out c7 _ HM7.out h2).mono ?_; rintro e w8 ⟨c8, rfl, t8, hc8, m8⟩; have T8 := Lib.hid t8; have HM8 := Lib.hid m8; clear t8 m8))
      all_goals
        have TT := Lib.hid ((T2.out.trans (Tch.of_below (Below.refl _ w2).drew)).trans (T7.out.trans T8.out))
        rcases HM7.out with ⟨rfl, _⟩ | ⟨rfl, _⟩
        · go_wp2
          go_ret
          exact ⟨c8, rfl, TT.out, hc8, fun q => HM8.out (by trivial) q⟩
        · go_wp2
          go_ret
          exact ⟨4, rfl, TT.out, .inr rfl, fun q => by cases q⟩
    · by_cases c4 : c = 4
      · subst c4
        clear TK SI m0
        go_wp2
        go_ret
        exact ⟨4, rfl, T2.out, .inr rfl, fun q => by cases q⟩
      · have t0 : (c == 0) = false := by simp; omega
        have t4 : (c == 4) = false := by simp; omega
        clear TK SI m0
        go_wp2
        go_ret
        exact ⟨0, rfl, T2.out, .inl rfl, fun _ => HM1.out c0 c4⟩
  · have tk : ((k : Int) == 0) = false := by simp; omega
    clear EN TK SI
    go_wp2
    go_ret
    exact ⟨0, rfl, Tch.of_below HB1.out, .inl rfl, fun _ => HF1.out⟩
end
end Go.Proofs.YtpnfkilfgdnogaaGreatDoor.Img
end
section
namespace Go.Proofs.YtpnfkilfgdnogaaGreatDoor.Img
set_option linter.unusedVariables false
set_option linter.unusedSimpArgs false
open Go.RowKit Go.Shelf Go.Maps Oct Dev Jou Tx Geo Ino Bm Dir
section
variable {E : Im} {D D' : Secs} {ino : Nat → InoT} {vs : Nat → List Nat} {es : List Ent} {Z : Nat → Prop} {w W : World}
set_option maxRecDepth 100000 in
set_option maxHeartbeats 2000000 in
theorem fit_resize (x : St) (w : World) (hs : Small E) (hZ : ZAll E Z) (h : FS Z E w) (hxi : x.i < 4294967296) (hxs : x.s.size ≤ 4096) (hbad : ¬ (x.i < 1 ∨ E.i < x.i)) (hd : x.d = 6) :
    Calls Tryz.prog 35 #[.pointer (some ⟨E.M, 0, none⟩), .agg (stCells x).toArray] w fun e W => ∃ c : Int, e = .returned (.int .i64 c) ∧ StR Z E w c W := by
  have HF := Lib.hid h
  have HS := Lib.hid hs
  obtain ⟨D, ino, vs, es, g, f, nm⟩ := h
  have hTm := mx_lt g
  obtain ⟨xd, xn, xi, xt, ⟨x0, x1, x2, x3, x4, x5, x6, x7⟩, xs, xr⟩ := x
  simp only at hxi hxs hbad hd
  have HB0 := Lib.hid ((Below.refl _ w).alloc (Nat.le_refl _) (.cells #[.int .i64 xd, .int .i64 xn, .int .u32 xi, .int .u32 xt, .int .u8 x0, .int .u16 x1, .int .u32 x2, .int .u16 x3, .int .u16 x4, .int .u16 x5, .int .u16 x6, .int .u16 x7, .string xs, .bool xr] 54))
  have HY0 := Lib.hid (SBox.new w 54 #[.int .i64 xd, .int .i64 xn, .int .u32 xi, .int .u32 xt, .int .u8 x0, .int .u16 x1, .int .u32 x2, .int .u16 x3, .int .u16 x4, .int .u16 x5, .int .u16 x6, .int .u16 x7, .string xs, .bool xr])
  have H0 := Lib.hid (g.later HB0.out)
  have HF0 := Lib.hid (HF.out.later HB0.out)
  unfold stCells
  dsimp only
  have hY := HY0.out
  have Y0 := hY.cell 0
  have Y1 := hY.cell 1
  have Y2 := hY.cell 2
  have Y3 := hY.cell 3
  have Y4 := hY.cell 4
  have Y5 := hY.cell 5
  have Y6 := hY.cell 6
  have Y7 := hY.cell 7
  have Y8 := hY.cell 8
  have Y9 := hY.cell 9
  have Y10 := hY.cell 10
  have Y11 := hY.cell 11
  have Y12 := hY.cell 12
  have Y13 := hY.cell 13
  simp only [List.getElem?_toArray, List.getElem?_cons_zero, List.getElem?_cons_succ] at Y0 Y1 Y2 Y3 Y4 Y5 Y6 Y7 Y8 Y9 Y10 Y11 Y12 Y13
  have Yl := hY.lt
  clear hY HF
  subst hd
  go_enter Tryz.func35, Tryz.ntmps35
  have h1 : 1 ≤ xi := by omega
  have hn : xi ≤ E.i := by omega
  have IN := Lib.hid (inode_is xi (ino xi) _ hs H0.out h1 hn (f.own.is xi h1 hn) (f.own.ok xi h1 hn))
  have hk3 : (ino xi).kind ≤ 2 := by
    rcases f.own.ok xi h1 hn with q | q
    · rw [q]; decide
    · rcases q.kind with q2 | q2 <;> omega
  have hk1 : xi = 1 → (ino xi).kind = 2 := fun q => by rw [q]; exact f.root.kind
  have hk2 : 2 ≤ xi → (ino xi).kind ≠ 2 := fun q => f.two xi q hn
  have hsz : (ino xi).kind ≠ 0 → (ino xi).size ≤ 2304 := fun q => by
    rcases f.own.ok xi h1 hn with q1 | q1
    · exact absurd (by rw [q1]; rfl) q
    · exact q1.size
  have EN := Lib.hid (fun W (h : IS W E D Z) h2 hk => enter_s xi xs W hs hZ h f nm h2 hn hk (by unfold maxLen; omega))
  have TK := Lib.hid (fun W h h2 => take_s (E := E) (Z := Z) xi W hs hZ h h2 hn)
  have SI := Lib.hid (fun c8 W h h2 => seti_c (E := E) (Z := Z) xi c8 W hs hZ h h2 hn)
  have RZ := Lib.hid (fun s W (h : IS W E D Z) h2 hk hl => resize_s xi s W hs hZ h f nm h2 hn hk hl)
  have PG := Lib.hid (fun p s W (h : IS W E D Z) h2 hk hp h64 => page_s xi p s W hs hZ h f nm h2 hn hk hp h64)
  have LE := Lib.hid (fun W h => leave_s (E := E) (Z := Z) xs W hs hZ h (by unfold maxLen; omega))
  have EM := Lib.hid (fun n W h => empty_s (E := E) (Z := Z) n W hs hZ h)
  have GV := Lib.hid (fun n c8 W h h2 hn => give_c (E := E) (Z := Z) n c8 W hs hZ h h2 hn)
  unfold InoT.val at IN
  clear g f nm
  generalize ino xi = y at *
  obtain ⟨k, ln, sz, e0, e1, e2, e3, ei⟩ := y
  simp only at hk3 hk1 hk2 hsz EN RZ PG
  go_wp2_with fail
  refine IN.out.mono ?_
  rintro e w1 ⟨rfl, b1⟩
  have HB1 := Lib.hid ((HB0.out.trans (b1.mono HB0.out.size)).alloc (HB0.out.trans (b1.mono HB0.out.size)).size (.cells #[.int .u8 k, .int .u16 ln, .int .u32 sz, .int .u16 e0, .int .u16 e1, .int .u16 e2, .int .u16 e3, .int .u16 ei] 43))
  have HF1 := Lib.hid ((HF0.out.later b1).later ((Below.refl _ _).alloc (Nat.le_refl _) (.cells #[.int .u8 k, .int .u16 ln, .int .u32 sz, .int .u16 e0, .int .u16 e1, .int .u16 e2, .int .u16 e3, .int .u16 ei] 43)))
  have H1 := Lib.hid ((H0.out.later b1).later ((Below.refl _ _).alloc (Nat.le_refl _) (.cells #[.int .u8 k, .int .u16 ln, .int .u32 sz, .int .u16 e0, .int .u16 e1, .int .u16 e2, .int .u16 e3, .int .u16 ei] 43)))
  have HY1 := Lib.hid ((HY0.out.later b1).alloc (.cells #[.int .u8 k, .int .u16 ln, .int .u32 sz, .int .u16 e0, .int .u16 e1, .int .u16 e2, .int .u16 e3, .int .u16 ei] 43))
  have HX1 := Lib.hid (SBox.new w1 43 #[.int .u8 k, .int .u16 ln, .int .u32 sz, .int .u16 e0, .int .u16 e1, .int .u16 e2, .int .u16 e3, .int .u16 ei])
  have hY := HY0.out.later b1
  clear b1 Y0 Y1 Y2 Y3 Y4 Y5 Y6 Y7 Y8 Y9 Y10 Y11 Y12 Y13 Yl IN HF0 H0 HY0
  have Y0 := hY.cell 0
  have Y1 := hY.cell 1
  have Y2 := hY.cell 2
  have Y3 := hY.cell 3
  have Y4 := hY.cell 4
  have Y5 := hY.cell 5
  have Y6 := hY.cell 6
  have Y7 := hY.cell 7
  have Y8 := hY.cell 8
  have Y9 := hY.cell 9
  have Y10 := hY.cell 10
  have Y11 := hY.cell 11
  have Y12 := hY.cell 12
  have Y13 := hY.cell 13
  simp only [List.getElem?_toArray, List.getElem?_cons_zero, List.getElem?_cons_succ] at Y0 Y1 Y2 Y3 Y4 Y5 Y6 Y7 Y8 Y9 Y10 Y11 Y12 Y13
  have Yl := hY.lt
  have hX := HX1.out
  have X0 := hX.cell 0
  have X1 := hX.cell 1
  have X2 := hX.cell 2
  have X3 := hX.cell 3
  have X4 := hX.cell 4
  have X5 := hX.cell 5
  have X6 := hX.cell 6
  have X7 := hX.cell 7
  simp only [List.getElem?_toArray, List.getElem?_cons_zero, List.getElem?_cons_succ] at X0 X1 X2 X3 X4 X5 X6 X7
  have Xl := hX.lt
  clear hY hX
  have hne : w.heap.size ≠ E.T.m := by omega
  clear EN TK SI PG LE EM GV
  by_cases hk : k = 1
  · subst hk
    have h2 : 2 ≤ xi := by
      by_cases q : xi = 1
      · have := hk1 q
        omega
      · omega
    have hz : ∃ s : Nat, s ≤ 2304 ∧ (IntKind.u64.wrap xn).tmod 2305 % 4294967296 = (s : Int) := by
      have e : IntKind.u64.wrap xn = xn % 18446744073709551616 := by simp [IntKind.wrap, IntKind.bits, IntKind.signed]
      rw [e, Int.tmod_eq_emod_of_nonneg (by omega)]
      exact ⟨((xn % 18446744073709551616) % 2305).toNat, by omega, by omega⟩
    obtain ⟨s, hz1, hz2⟩ := hz
    have RZ1 := RZ.out s _ H1.out h2 (by decide) hz1
    clear hz1
    go_wp2_with fail
    rw [hz2]
    refine Calls.mono RZ1 ?_
    rintro e w2 ⟨c, rfl, r⟩
    have R2 := Lib.hid (r.pre HB1.out)
    go_wp2
    go_ret
    exact ⟨c, rfl, R2.out⟩
  · have tk : ((k : Int) == 1) = false := by simp; omega
    clear RZ
    go_wp2
    go_ret
    exact ⟨0, rfl, Tch.of_below HB1.out, .inl rfl, fun _ => HF1.out⟩
end
end Go.Proofs.YtpnfkilfgdnogaaGreatDoor.Img
end
section
namespace Go.Proofs.YtpnfkilfgdnogaaGreatDoor.Img
set_option linter.unusedVariables false
set_option linter.unusedSimpArgs false
open Go.RowKit Go.Shelf Go.Maps Oct Dev Jou Tx Geo Ino Bm Dir
section
variable {E : Im} {D D' : Secs} {ino : Nat → InoT} {vs : Nat → List Nat} {es : List Ent} {Z : Nat → Prop} {w W : World}
set_option maxRecDepth 100000 in
set_option maxHeartbeats 2000000 in
theorem fit_page (x : St) (w : World) (hs : Small E) (hZ : ZAll E Z) (h : FS Z E w) (hxi : x.i < 4294967296) (hxs : x.s.size ≤ 4096) (hbad : ¬ (x.i < 1 ∨ E.i < x.i)) (hd : x.d = 5) :
    Calls Tryz.prog 35 #[.pointer (some ⟨E.M, 0, none⟩), .agg (stCells x).toArray] w fun e W => ∃ c : Int, e = .returned (.int .i64 c) ∧ StR Z E w c W := by
  have HF := Lib.hid h
  have HS := Lib.hid hs
  obtain ⟨D, ino, vs, es, g, f, nm⟩ := h
  have hTm := mx_lt g
  obtain ⟨xd, xn, xi, xt, ⟨x0, x1, x2, x3, x4, x5, x6, x7⟩, xs, xr⟩ := x
  simp only at hxi hxs hbad hd
  have HB0 := Lib.hid ((Below.refl _ w).alloc (Nat.le_refl _) (.cells #[.int .i64 xd, .int .i64 xn, .int .u32 xi, .int .u32 xt, .int .u8 x0, .int .u16 x1, .int .u32 x2, .int .u16 x3, .int .u16 x4, .int .u16 x5, .int .u16 x6, .int .u16 x7, .string xs, .bool xr] 54))
  have HY0 := Lib.hid (SBox.new w 54 #[.int .i64 xd, .int .i64 xn, .int .u32 xi, .int .u32 xt, .int .u8 x0, .int .u16 x1, .int .u32 x2, .int .u16 x3, .int .u16 x4, .int .u16 x5, .int .u16 x6, .int .u16 x7, .string xs, .bool xr])
  have H0 := Lib.hid (g.later HB0.out)
  have HF0 := Lib.hid (HF.out.later HB0.out)
  unfold stCells
  dsimp only
  have hY := HY0.out
  have Y0 := hY.cell 0
  have Y1 := hY.cell 1
  have Y2 := hY.cell 2
  have Y3 := hY.cell 3
  have Y4 := hY.cell 4
  have Y5 := hY.cell 5
  have Y6 := hY.cell 6
  have Y7 := hY.cell 7
  have Y8 := hY.cell 8
  have Y9 := hY.cell 9
  have Y10 := hY.cell 10
  have Y11 := hY.cell 11
  have Y12 := hY.cell 12
  have Y13 := hY.cell 13
  simp only [List.getElem?_toArray, List.getElem?_cons_zero, List.getElem?_cons_succ] at Y0 Y1 Y2 Y3 Y4 Y5 Y6 Y7 Y8 Y9 Y10 Y11 Y12 Y13
  have Yl := hY.lt
  clear hY HF
  subst hd
  go_enter Tryz.func35, Tryz.ntmps35
  have h1 : 1 ≤ xi := by omega
  have hn : xi ≤ E.i := by omega
  have IN := Lib.hid (inode_is xi (ino xi) _ hs H0.out h1 hn (f.own.is xi h1 hn) (f.own.ok xi h1 hn))
  have hk3 : (ino xi).kind ≤ 2 := by
    rcases f.own.ok xi h1 hn with q | q
    · rw [q]; decide
    · rcases q.kind with q2 | q2 <;> omega
  have hk1 : xi = 1 → (ino xi).kind = 2 := fun q => by rw [q]; exact f.root.kind
  have hk2 : 2 ≤ xi → (ino xi).kind ≠ 2 := fun q => f.two xi q hn
  have hsz : (ino xi).kind ≠ 0 → (ino xi).size ≤ 2304 := fun q => by
    rcases f.own.ok xi h1 hn with q1 | q1
    · exact absurd (by rw [q1]; rfl) q
    · exact q1.size
  have EN := Lib.hid (fun W (h : IS W E D Z) h2 hk => enter_s xi xs W hs hZ h f nm h2 hn hk (by unfold maxLen; omega))
  have TK := Lib.hid (fun W h h2 => take_s (E := E) (Z := Z) xi W hs hZ h h2 hn)
  have SI := Lib.hid (fun c8 W h h2 => seti_c (E := E) (Z := Z) xi c8 W hs hZ h h2 hn)
  have RZ := Lib.hid (fun s W (h : IS W E D Z) h2 hk hl => resize_s xi s W hs hZ h f nm h2 hn hk hl)
  have PG := Lib.hid (fun p s W (h : IS W E D Z) h2 hk hp h64 => page_s xi p s W hs hZ h f nm h2 hn hk hp h64)
  have LE := Lib.hid (fun W h => leave_s (E := E) (Z := Z) xs W hs hZ h (by unfold maxLen; omega))
  have EM := Lib.hid (fun n W h => empty_s (E := E) (Z := Z) n W hs hZ h)
  have GV := Lib.hid (fun n c8 W h h2 hn => give_c (E := E) (Z := Z) n c8 W hs hZ h h2 hn)
  unfold InoT.val at IN
  clear g f nm
  generalize ino xi = y at *
  obtain ⟨k, ln, sz, e0, e1, e2, e3, ei⟩ := y
  simp only at hk3 hk1 hk2 hsz EN RZ PG
  go_wp2_with fail
  refine IN.out.mono ?_
  rintro e w1 ⟨rfl, b1⟩
  have HB1 := Lib.hid ((HB0.out.trans (b1.mono HB0.out.size)).alloc (HB0.out.trans (b1.mono HB0.out.size)).size (.cells #[.int .u8 k, .int .u16 ln, .int .u32 sz, .int .u16 e0, .int .u16 e1, .int .u16 e2, .int .u16 e3, .int .u16 ei] 43))
  have HF1 := Lib.hid ((HF0.out.later b1).later ((Below.refl _ _).alloc (Nat.le_refl _) (.cells #[.int .u8 k, .int .u16 ln, .int .u32 sz, .int .u16 e0, .int .u16 e1, .int .u16 e2, .int .u16 e3, .int .u16 ei] 43)))
  have H1 := Lib.hid ((H0.out.later b1).later ((Below.refl _ _).alloc (Nat.le_refl _) (.cells #[.int .u8 k, .int .u16 ln, .int .u32 sz, .int .u16 e0, .int .u16 e1, .int .u16 e2, .int .u16 e3, .int .u16 ei] 43)))
  have HY1 := Lib.hid ((HY0.out.later b1).alloc (.cells #[.int .u8 k, .int .u16 ln, .int .u32 sz, .int .u16 e0, .int .u16 e1, .int .u16 e2, .int .u16 e3, .int .u16 ei] 43))
  have HX1 := Lib.hid (SBox.new w1 43 #[.int .u8 k, .int .u16 ln, .int .u32 sz, .int .u16 e0, .int .u16 e1, .int .u16 e2, .int .u16 e3, .int .u16 ei])
  have hY := HY0.out.later b1
  clear b1 Y0 Y1 Y2 Y3 Y4 Y5 Y6 Y7 Y8 Y9 Y10 Y11 Y12 Y13 Yl IN HF0 H0 HY0
  have Y0 := hY.cell 0
  have Y1 := hY.cell 1
  have Y2 := hY.cell 2
  have Y3 := hY.cell 3
  have Y4 := hY.cell 4
  have Y5 := hY.cell 5
  have Y6 := hY.cell 6
  have Y7 := hY.cell 7
  have Y8 := hY.cell 8
  have Y9 := hY.cell 9
  have Y10 := hY.cell 10
  have Y11 := hY.cell 11
  have Y12 := hY.cell 12
  have Y13 := hY.cell 13
  simp only [List.getElem?_toArray, List.getElem?_cons_zero, List.getElem?_cons_succ] at Y0 Y1 Y2 Y3 Y4 Y5 Y6 Y7 Y8 Y9 Y10 Y11 Y12 Y13
  have Yl := hY.lt
  have hX := HX1.out
  have X0 := hX.cell 0
  have X1 := hX.cell 1
  have X2 := hX.cell 2
  have X3 := hX.cell 3
  have X4 := hX.cell 4
  have X5 := hX.cell 5
  have X6 := hX.cell 6
  have X7 := hX.cell 7
  simp only [List.getElem?_toArray, List.getElem?_cons_zero, List.getElem?_cons_succ] at X0 X1 X2 X3 X4 X5 X6 X7
  have Xl := hX.lt
  clear hY hX
  have hne : w.heap.size ≠ E.T.m := by omega
  clear EN TK SI RZ LE EM GV
  by_cases hk : k = 1
  · subst hk
    have h2 : 2 ≤ xi := by
      by_cases q : xi = 1
      · have := hk1 q
        omega
      · omega
    by_cases n0 : 0 ≤ xn
    · by_cases n36 : xn < 36
      · obtain ⟨p, rfl⟩ := Int.eq_ofNat_of_zero_le n0
        by_cases n64 : (p : Int) * 64 < sz
        · have HSC := Lib.hid (fun W => sector_any xs W (by omega))
          have HD1 := Lib.hid (H1.out.later (Below.refl _ _).drew)
          have HYD := Lib.hid (SBox.drew HY1.out)
          go_upto_region 23 with fail
          go_region_law (first | (go_simp; go_at_call 82; refine (HSC.out _).mono ?_; rintro e w7 ⟨s7, rfl, h7, b7⟩; have H7 := Lib.hid (HD1.out.later b7); have B7 := Lib.hid b7; have hY7 := HYD.out.later b7; have P1 := hY7.cell 1; have P2 := hY7.cell 2; simp only [List.getElem?_toArray, List.getElem?_cons_zero, List.getElem?_cons_succ] at P1 P2; have Pl := hY7.lt; clear hY7 b7) | (go_simp; go_at_call 23; refine (PG.out p s7 _ H7.out h2 (by decide) (by omega) h7).mono ?_; rintro e w8 ⟨c8, rfl, r8⟩; have R8 := Lib.hid (r8.pre (HB1.out.drew.trans (B7.out.mono HB1.out.size))); clear r8))
          all_goals
            go_wp2
            go_ret
            exact ⟨c8, rfl, R8.out⟩
        · clear PG
          go_wp2
          go_ret
          exact ⟨0, rfl, Tch.of_below HB1.out, .inl rfl, fun _ => HF1.out⟩
      · clear PG
        go_wp2
        go_ret
        exact ⟨0, rfl, Tch.of_below HB1.out, .inl rfl, fun _ => HF1.out⟩
    · clear PG
      go_wp2
      go_ret
      exact ⟨0, rfl, Tch.of_below HB1.out, .inl rfl, fun _ => HF1.out⟩
  · have tk : ((k : Int) == 1) = false := by simp; omega
    clear PG
    go_wp2
    go_ret
    exact ⟨0, rfl, Tch.of_below HB1.out, .inl rfl, fun _ => HF1.out⟩
end
end Go.Proofs.YtpnfkilfgdnogaaGreatDoor.Img
end
section
namespace Go.Proofs.YtpnfkilfgdnogaaGreatDoor.Img
set_option linter.unusedVariables false
set_option linter.unusedSimpArgs false
open Go.RowKit Go.Shelf Go.Maps Oct Dev Jou Tx Geo Ino Bm Dir
section
variable {E : Im} {D D' : Secs} {ino : Nat → InoT} {vs : Nat → List Nat} {es : List Ent} {Z : Nat → Prop} {w W : World}
set_option maxRecDepth 100000 in
set_option maxHeartbeats 2000000 in
theorem fit_leave (x : St) (w : World) (hs : Small E) (hZ : ZAll E Z) (h : FS Z E w) (hxi : x.i < 4294967296) (hxs : x.s.size ≤ 4096) (hbad : ¬ (x.i < 1 ∨ E.i < x.i)) (hd : x.d = 8) :
    Calls Tryz.prog 35 #[.pointer (some ⟨E.M, 0, none⟩), .agg (stCells x).toArray] w fun e W => ∃ c : Int, e = .returned (.int .i64 c) ∧ StR Z E w c W := by
  have HF := Lib.hid h
  have HS := Lib.hid hs
  obtain ⟨D, ino, vs, es, g, f, nm⟩ := h
  have hTm := mx_lt g
  obtain ⟨xd, xn, xi, xt, ⟨x0, x1, x2, x3, x4, x5, x6, x7⟩, xs, xr⟩ := x
  simp only at hxi hxs hbad hd
  have HB0 := Lib.hid ((Below.refl _ w).alloc (Nat.le_refl _) (.cells #[.int .i64 xd, .int .i64 xn, .int .u32 xi, .int .u32 xt, .int .u8 x0, .int .u16 x1, .int .u32 x2, .int .u16 x3, .int .u16 x4, .int .u16 x5, .int .u16 x6, .int .u16 x7, .string xs, .bool xr] 54))
  have HY0 := Lib.hid (SBox.new w 54 #[.int .i64 xd, .int .i64 xn, .int .u32 xi, .int .u32 xt, .int .u8 x0, .int .u16 x1, .int .u32 x2, .int .u16 x3, .int .u16 x4, .int .u16 x5, .int .u16 x6, .int .u16 x7, .string xs, .bool xr])
  have H0 := Lib.hid (g.later HB0.out)
  have HF0 := Lib.hid (HF.out.later HB0.out)
  unfold stCells
  dsimp only
  have hY := HY0.out
  have Y0 := hY.cell 0
  have Y1 := hY.cell 1
  have Y2 := hY.cell 2
  have Y3 := hY.cell 3
  have Y4 := hY.cell 4
  have Y5 := hY.cell 5
  have Y6 := hY.cell 6
  have Y7 := hY.cell 7
  have Y8 := hY.cell 8
  have Y9 := hY.cell 9
  have Y10 := hY.cell 10
  have Y11 := hY.cell 11
  have Y12 := hY.cell 12
  have Y13 := hY.cell 13
  simp only [List.getElem?_toArray, List.getElem?_cons_zero, List.getElem?_cons_succ] at Y0 Y1 Y2 Y3 Y4 Y5 Y6 Y7 Y8 Y9 Y10 Y11 Y12 Y13
  have Yl := hY.lt
  clear hY HF
  subst hd
  go_enter Tryz.func35, Tryz.ntmps35
  have h1 : 1 ≤ xi := by omega
  have hn : xi ≤ E.i := by omega
  have IN := Lib.hid (inode_is xi (ino xi) _ hs H0.out h1 hn (f.own.is xi h1 hn) (f.own.ok xi h1 hn))
  have hk3 : (ino xi).kind ≤ 2 := by
    rcases f.own.ok xi h1 hn with q | q
    · rw [q]; decide
    · rcases q.kind with q2 | q2 <;> omega
  have hk1 : xi = 1 → (ino xi).kind = 2 := fun q => by rw [q]; exact f.root.kind
  have hk2 : 2 ≤ xi → (ino xi).kind ≠ 2 := fun q => f.two xi q hn
  have hsz : (ino xi).kind ≠ 0 → (ino xi).size ≤ 2304 := fun q => by
    rcases f.own.ok xi h1 hn with q1 | q1
    · exact absurd (by rw [q1]; rfl) q
    · exact q1.size
  have EN := Lib.hid (fun W (h : IS W E D Z) h2 hk => enter_s xi xs W hs hZ h f nm h2 hn hk (by unfold maxLen; omega))
  have TK := Lib.hid (fun W h h2 => take_s (E := E) (Z := Z) xi W hs hZ h h2 hn)
  have SI := Lib.hid (fun c8 W h h2 => seti_c (E := E) (Z := Z) xi c8 W hs hZ h h2 hn)
  have RZ := Lib.hid (fun s W (h : IS W E D Z) h2 hk hl => resize_s xi s W hs hZ h f nm h2 hn hk hl)
  have PG := Lib.hid (fun p s W (h : IS W E D Z) h2 hk hp h64 => page_s xi p s W hs hZ h f nm h2 hn hk hp h64)
  have LE := Lib.hid (fun W h => leave_s (E := E) (Z := Z) xs W hs hZ h (by unfold maxLen; omega))
  have EM := Lib.hid (fun n W h => empty_s (E := E) (Z := Z) n W hs hZ h)
  have GV := Lib.hid (fun n c8 W h h2 hn => give_c (E := E) (Z := Z) n c8 W hs hZ h h2 hn)
  unfold InoT.val at IN
  clear g f nm
  generalize ino xi = y at *
  obtain ⟨k, ln, sz, e0, e1, e2, e3, ei⟩ := y
  simp only at hk3 hk1 hk2 hsz EN RZ PG
  go_wp2_with fail
  refine IN.out.mono ?_
  rintro e w1 ⟨rfl, b1⟩
  have HB1 := Lib.hid ((HB0.out.trans (b1.mono HB0.out.size)).alloc (HB0.out.trans (b1.mono HB0.out.size)).size (.cells #[.int .u8 k, .int .u16 ln, .int .u32 sz, .int .u16 e0, .int .u16 e1, .int .u16 e2, .int .u16 e3, .int .u16 ei] 43))
  have HF1 := Lib.hid ((HF0.out.later b1).later ((Below.refl _ _).alloc (Nat.le_refl _) (.cells #[.int .u8 k, .int .u16 ln, .int .u32 sz, .int .u16 e0, .int .u16 e1, .int .u16 e2, .int .u16 e3, .int .u16 ei] 43)))
  have H1 := Lib.hid ((H0.out.later b1).later ((Below.refl _ _).alloc (Nat.le_refl _) (.cells #[.int .u8 k, .int .u16 ln, .int .u32 sz, .int .u16 e0, .int .u16 e1, .int .u16 e2, .int .u16 e3, .int .u16 ei] 43)))
  have HY1 := Lib.hid ((HY0.out.later b1).alloc (.cells #[.int .u8 k, .int .u16 ln, .int .u32 sz, .int .u16 e0, .int .u16 e1, .int .u16 e2, .int .u16 e3, .int .u16 ei] 43))
  have HX1 := Lib.hid (SBox.new w1 43 #[.int .u8 k, .int .u16 ln, .int .u32 sz, .int .u16 e0, .int .u16 e1, .int .u16 e2, .int .u16 e3, .int .u16 ei])
  have hY := HY0.out.later b1
  clear b1 Y0 Y1 Y2 Y3 Y4 Y5 Y6 Y7 Y8 Y9 Y10 Y11 Y12 Y13 Yl IN HF0 H0 HY0
  have Y0 := hY.cell 0
  have Y1 := hY.cell 1
  have Y2 := hY.cell 2
  have Y3 := hY.cell 3
  have Y4 := hY.cell 4
  have Y5 := hY.cell 5
  have Y6 := hY.cell 6
  have Y7 := hY.cell 7
  have Y8 := hY.cell 8
  have Y9 := hY.cell 9
  have Y10 := hY.cell 10
  have Y11 := hY.cell 11
  have Y12 := hY.cell 12
  have Y13 := hY.cell 13
  simp only [List.getElem?_toArray, List.getElem?_cons_zero, List.getElem?_cons_succ] at Y0 Y1 Y2 Y3 Y4 Y5 Y6 Y7 Y8 Y9 Y10 Y11 Y12 Y13
  have Yl := hY.lt
  have hX := HX1.out
  have X0 := hX.cell 0
  have X1 := hX.cell 1
  have X2 := hX.cell 2
  have X3 := hX.cell 3
  have X4 := hX.cell 4
  have X5 := hX.cell 5
  have X6 := hX.cell 6
  have X7 := hX.cell 7
  simp only [List.getElem?_toArray, List.getElem?_cons_zero, List.getElem?_cons_succ] at X0 X1 X2 X3 X4 X5 X6 X7
  have Xl := hX.lt
  clear hY hX
  have hne : w.heap.size ≠ E.T.m := by omega
  clear EN TK SI RZ PG
  go_wp2_with fail
  refine (LE.out _ HF1.out).mono ?_
  rintro e w2 ⟨u, c, rfl, t2, m0, m1⟩
  have T2 := Lib.hid ((Tch.of_below HB1.out).trans t2)
  clear t2 LE
  by_cases c0 : c = 0
  · subst c0
    obtain ⟨hm, u2, ui⟩ := m0 rfl
    have HM := Lib.hid hm
    clear hm m0 m1
    go_wp2_with fail
    refine (EM.out u _ HM.out).mono ?_
    rintro e w3 ⟨c3, rfl, t3, m3⟩
    have T3 := Lib.hid (T2.out.trans t3)
    have HM3 := Lib.hid m3
    clear t3 m3
    go_wp2_with fail
    refine (GV.out u c3 _ HM3.out u2 ui).mono ?_
    rintro e w4 ⟨c4, rfl, t4, m4⟩
    have T4 := Lib.hid (T3.out.trans t4)
    have HM4 := Lib.hid m4
    clear t4 m4
    rcases HM3.out with ⟨rfl, _⟩ | ⟨rfl, _⟩
    · go_wp2
      go_ret
      exact ⟨c4, rfl, T4.out, (HM4.out (by trivial)).1, (HM4.out (by trivial)).2⟩
    · go_wp2
      go_ret
      exact ⟨4, rfl, T4.out, .inr rfl, fun q => by cases q⟩
  · have t0c : (c == 0) = false := by simp; omega
    have HM1 := Lib.hid (m1 c0)
    clear m0 m1 EM GV
    go_wp2
    go_ret
    exact ⟨0, rfl, T2.out, .inl rfl, fun _ => HM1.out⟩
end
end Go.Proofs.YtpnfkilfgdnogaaGreatDoor.Img
end
section
namespace Go.Proofs.YtpnfkilfgdnogaaGreatDoor.Img
set_option linter.unusedVariables false
set_option linter.unusedSimpArgs false
open Go.RowKit Go.Shelf Go.Maps Oct Dev Jou Tx Geo Ino Bm Dir
section
variable {E : Im} {D D' : Secs} {ino : Nat → InoT} {vs : Nat → List Nat} {es : List Ent} {Z : Nat → Prop} {w W : World}
set_option maxRecDepth 100000 in
set_option maxHeartbeats 2000000 in
theorem fit_none (x : St) (w : World) (hs : Small E) (hZ : ZAll E Z) (h : FS Z E w) (hxi : x.i < 4294967296) (hxs : x.s.size ≤ 4096) (hbad : ¬ (x.i < 1 ∨ E.i < x.i)) (hd : ¬ (x.d = 0 ∨ x.d = 7 ∨ x.d = 6 ∨ x.d = 5 ∨ x.d = 8)) :
    Calls Tryz.prog 35 #[.pointer (some ⟨E.M, 0, none⟩), .agg (stCells x).toArray] w fun e W => ∃ c : Int, e = .returned (.int .i64 c) ∧ StR Z E w c W := by
  have HF := Lib.hid h
  have HS := Lib.hid hs
  obtain ⟨D, ino, vs, es, g, f, nm⟩ := h
  have hTm := mx_lt g
  obtain ⟨xd, xn, xi, xt, ⟨x0, x1, x2, x3, x4, x5, x6, x7⟩, xs, xr⟩ := x
  simp only at hxi hxs hbad hd
  have HB0 := Lib.hid ((Below.refl _ w).alloc (Nat.le_refl _) (.cells #[.int .i64 xd, .int .i64 xn, .int .u32 xi, .int .u32 xt, .int .u8 x0, .int .u16 x1, .int .u32 x2, .int .u16 x3, .int .u16 x4, .int .u16 x5, .int .u16 x6, .int .u16 x7, .string xs, .bool xr] 54))
  have HY0 := Lib.hid (SBox.new w 54 #[.int .i64 xd, .int .i64 xn, .int .u32 xi, .int .u32 xt, .int .u8 x0, .int .u16 x1, .int .u32 x2, .int .u16 x3, .int .u16 x4, .int .u16 x5, .int .u16 x6, .int .u16 x7, .string xs, .bool xr])
  have H0 := Lib.hid (g.later HB0.out)
  have HF0 := Lib.hid (HF.out.later HB0.out)
  unfold stCells
  dsimp only
  have hY := HY0.out
  have Y0 := hY.cell 0
  have Y1 := hY.cell 1
  have Y2 := hY.cell 2
  have Y3 := hY.cell 3
  have Y4 := hY.cell 4
  have Y5 := hY.cell 5
  have Y6 := hY.cell 6
  have Y7 := hY.cell 7
  have Y8 := hY.cell 8
  have Y9 := hY.cell 9
  have Y10 := hY.cell 10
  have Y11 := hY.cell 11
  have Y12 := hY.cell 12
  have Y13 := hY.cell 13
  simp only [List.getElem?_toArray, List.getElem?_cons_zero, List.getElem?_cons_succ] at Y0 Y1 Y2 Y3 Y4 Y5 Y6 Y7 Y8 Y9 Y10 Y11 Y12 Y13
  have Yl := hY.lt
  clear hY HF
  go_enter Tryz.func35, Tryz.ntmps35
  have h1 : 1 ≤ xi := by omega
  have hn : xi ≤ E.i := by omega
  have IN := Lib.hid (inode_is xi (ino xi) _ hs H0.out h1 hn (f.own.is xi h1 hn) (f.own.ok xi h1 hn))
  have hk3 : (ino xi).kind ≤ 2 := by
    rcases f.own.ok xi h1 hn with q | q
    · rw [q]; decide
    · rcases q.kind with q2 | q2 <;> omega
  have hk1 : xi = 1 → (ino xi).kind = 2 := fun q => by rw [q]; exact f.root.kind
  have hk2 : 2 ≤ xi → (ino xi).kind ≠ 2 := fun q => f.two xi q hn
  have hsz : (ino xi).kind ≠ 0 → (ino xi).size ≤ 2304 := fun q => by
    rcases f.own.ok xi h1 hn with q1 | q1
    · exact absurd (by rw [q1]; rfl) q
    · exact q1.size
  have EN := Lib.hid (fun W (h : IS W E D Z) h2 hk => enter_s xi xs W hs hZ h f nm h2 hn hk (by unfold maxLen; omega))
  have TK := Lib.hid (fun W h h2 => take_s (E := E) (Z := Z) xi W hs hZ h h2 hn)
  have SI := Lib.hid (fun c8 W h h2 => seti_c (E := E) (Z := Z) xi c8 W hs hZ h h2 hn)
  have RZ := Lib.hid (fun s W (h : IS W E D Z) h2 hk hl => resize_s xi s W hs hZ h f nm h2 hn hk hl)
  have PG := Lib.hid (fun p s W (h : IS W E D Z) h2 hk hp h64 => page_s xi p s W hs hZ h f nm h2 hn hk hp h64)
  have LE := Lib.hid (fun W h => leave_s (E := E) (Z := Z) xs W hs hZ h (by unfold maxLen; omega))
  have EM := Lib.hid (fun n W h => empty_s (E := E) (Z := Z) n W hs hZ h)
  have GV := Lib.hid (fun n c8 W h h2 hn => give_c (E := E) (Z := Z) n c8 W hs hZ h h2 hn)
  unfold InoT.val at IN
  clear g f nm
  generalize ino xi = y at *
  obtain ⟨k, ln, sz, e0, e1, e2, e3, ei⟩ := y
  simp only at hk3 hk1 hk2 hsz EN RZ PG
  go_wp2_with fail
  refine IN.out.mono ?_
  rintro e w1 ⟨rfl, b1⟩
  have HB1 := Lib.hid ((HB0.out.trans (b1.mono HB0.out.size)).alloc (HB0.out.trans (b1.mono HB0.out.size)).size (.cells #[.int .u8 k, .int .u16 ln, .int .u32 sz, .int .u16 e0, .int .u16 e1, .int .u16 e2, .int .u16 e3, .int .u16 ei] 43))
  have HF1 := Lib.hid ((HF0.out.later b1).later ((Below.refl _ _).alloc (Nat.le_refl _) (.cells #[.int .u8 k, .int .u16 ln, .int .u32 sz, .int .u16 e0, .int .u16 e1, .int .u16 e2, .int .u16 e3, .int .u16 ei] 43)))
  have H1 := Lib.hid ((H0.out.later b1).later ((Below.refl _ _).alloc (Nat.le_refl _) (.cells #[.int .u8 k, .int .u16 ln, .int .u32 sz, .int .u16 e0, .int .u16 e1, .int .u16 e2, .int .u16 e3, .int .u16 ei] 43)))
  have HY1 := Lib.hid ((HY0.out.later b1).alloc (.cells #[.int .u8 k, .int .u16 ln, .int .u32 sz, .int .u16 e0, .int .u16 e1, .int .u16 e2, .int .u16 e3, .int .u16 ei] 43))
  have HX1 := Lib.hid (SBox.new w1 43 #[.int .u8 k, .int .u16 ln, .int .u32 sz, .int .u16 e0, .int .u16 e1, .int .u16 e2, .int .u16 e3, .int .u16 ei])
  have hY := HY0.out.later b1
  clear b1 Y0 Y1 Y2 Y3 Y4 Y5 Y6 Y7 Y8 Y9 Y10 Y11 Y12 Y13 Yl IN HF0 H0 HY0
  have Y0 := hY.cell 0
  have Y1 := hY.cell 1
  have Y2 := hY.cell 2
  have Y3 := hY.cell 3
  have Y4 := hY.cell 4
  have Y5 := hY.cell 5
  have Y6 := hY.cell 6
  have Y7 := hY.cell 7
  have Y8 := hY.cell 8
  have Y9 := hY.cell 9
  have Y10 := hY.cell 10
  have Y11 := hY.cell 11
  have Y12 := hY.cell 12
  have Y13 := hY.cell 13
  simp only [List.getElem?_toArray, List.getElem?_cons_zero, List.getElem?_cons_succ] at Y0 Y1 Y2 Y3 Y4 Y5 Y6 Y7 Y8 Y9 Y10 Y11 Y12 Y13
  have Yl := hY.lt
  have hX := HX1.out
  have X0 := hX.cell 0
  have X1 := hX.cell 1
  have X2 := hX.cell 2
  have X3 := hX.cell 3
  have X4 := hX.cell 4
  have X5 := hX.cell 5
  have X6 := hX.cell 6
  have X7 := hX.cell 7
  simp only [List.getElem?_toArray, List.getElem?_cons_zero, List.getElem?_cons_succ] at X0 X1 X2 X3 X4 X5 X6 X7
  have Xl := hX.lt
  clear hY hX
  have hne : w.heap.size ≠ E.T.m := by omega
  clear EN TK SI RZ PG LE EM GV
  have t0 : (xd == 0) = false := by simp; omega
  have t7 : (xd == 7) = false := by simp; omega
  have t6 : (xd == 6) = false := by simp; omega
  have t5 : (xd == 5) = false := by simp; omega
  have t8 : (xd == 8) = false := by simp; omega
  go_wp2
  go_ret
  exact ⟨0, rfl, Tch.of_below HB1.out, .inl rfl, fun _ => HF1.out⟩
end
end Go.Proofs.YtpnfkilfgdnogaaGreatDoor.Img
end
section
namespace Go.Proofs.YtpnfkilfgdnogaaGreatDoor.Img
set_option linter.unusedVariables false
set_option linter.unusedSimpArgs false
open Go.RowKit Go.Shelf Go.Maps Oct Dev Jou Tx Geo Ino Bm Dir
section
variable {E : Im} {D D' : Secs} {ino : Nat → InoT} {vs : Nat → List Nat} {es : List Ent} {Z : Nat → Prop} {w W : World}
theorem fit_any (x : St) (w : World) (hs : Small E) (hZ : ZAll E Z) (h : FS Z E w) (hxi : x.i < 4294967296) (hxs : x.s.size ≤ 4096) :
    Calls Tryz.prog 35 #[.pointer (some ⟨E.M, 0, none⟩), .agg (stCells x).toArray] w fun e W => ∃ c : Int, e = .returned (.int .i64 c) ∧ StR Z E w c W := by
  by_cases hb : x.i < 1 ∨ E.i < x.i
  · exact fit_bad x w hs hZ h hxi hxs hb
  · by_cases h0 : x.d = 0
    · exact fit_enter0 x w hs hZ h hxi hxs hb h0
    · by_cases h7 : x.d = 7
      · exact fit_enter7 x w hs hZ h hxi hxs hb h7
      · by_cases h6 : x.d = 6
        · exact fit_resize x w hs hZ h hxi hxs hb h6
        · by_cases h5 : x.d = 5
          · exact fit_page x w hs hZ h hxi hxs hb h5
          · by_cases h8 : x.d = 8
            · exact fit_leave x w hs hZ h hxi hxs hb h8
            · exact fit_none x w hs hZ h hxi hxs hb (by omega)
end
end Go.Proofs.YtpnfkilfgdnogaaGreatDoor.Img
end
