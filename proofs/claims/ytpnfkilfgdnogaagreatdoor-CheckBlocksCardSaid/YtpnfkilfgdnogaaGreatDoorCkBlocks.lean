/- Layer 12's law CheckBlocks, walked. -/
import Derived.Test.YtpnfkilfgdnogaaGreatDoorCkM7
import Derived.Test.YtpnfkilfgdnogaaGreatDoorCkM5
import Derived.Test.YtpnfkilfgdnogaaGreatDoorCkBk
namespace Go.Proofs.YtpnfkilfgdnogaaGreatDoor.Img
set_option linter.unusedVariables false
set_option linter.unusedSimpArgs false
open Go.RowKit Go.Shelf Go.Maps Oct Dev Jou Tx Geo Ino Bm Dir Ck
def anyF (fs : List Flt) (j : Nat) : Bool := (fs.take j).any fun f => f.1 == 4 && f.2.1 == 1
theorem anyF_succ (fs : List Flt) (j : Nat) (h : j < fs.length) : anyF fs (j + 1) = (anyF fs j || ((fs[j]'h).1 == 4 && (fs[j]'h).2.1 == 1)) := by
  unfold anyF
  rw [List.take_succ_eq_append_getElem h, List.any_append]
  simp
theorem anyF_yes {fs : List Flt} (h : ∃ q, (4, 1, q) ∈ fs) : anyF fs fs.length = true := by
  obtain ⟨q, hq⟩ := h
  unfold anyF
  rw [List.take_length, List.any_eq_true]
  exact ⟨_, hq, rfl⟩
theorem flt_at : ∀ (fs : List Flt) (j : Nat) (h : j < fs.length), (fltCells fs)[j * 3]? = some (.int .u8 ((fs[j]'h).1 : Nat)) ∧ (fltCells fs)[j * 3 + 1]? = some (.int .u32 ((fs[j]'h).2.1 : Nat)) ∧ (fltCells fs)[j * 3 + 2]? = some (.int .i64 ((fs[j]'h).2.2 : Nat))
  | f :: r, 0, h => ⟨rfl, rfl, rfl⟩
  | f :: r, j + 1, h => by
    have := flt_at r j (by simpa using h)
    rw [show (j + 1) * 3 = j * 3 + 1 + 1 + 1 by omega, show j * 3 + 1 + 1 + 1 + 1 = j * 3 + 1 + 1 + 1 + 1 by rfl]
    exact this
set_option maxRecDepth 100000 in
set_option maxHeartbeats 8000000 in
theorem checkBlocks_any (v : Value) (st : List St) (b io : Nat) (w : World) (hv : StsArg w v st) (hl : st.length ≤ 8796093022208) (hn : ∀ x ∈ st, x.s.size ≤ 140737488351232 ∧ x.i < 4294967296 ∧ x.t < 4294967296) (hb8 : b < 256) (hi8 : io < 256) (hR : Rt w) :
    Calls Tryz.prog 7 #[v, .int .u8 b, .int .u8 io] w fun e w' => e = .returned (.bool true) ∧ Below w.heap.size w w' := by
  have LO := Lib.hid (long12_any v st w hv hl (fun x hx => (hn x hx).1))
  have AL := Lib.hid (fun W (h : Rt W) => alive12 W h.1 h.2)
  have DK : Hid (∀ W, RootAt W → Calls Tryz.prog 11 #[.agg #[.int .i64 8, .int .i64 30, .int .i64 60]] W fun e w' => ∃ E : Im, e = .returned (.tuple #[.pointer (some ⟨E.b.p, 0, none⟩), .pointer (some ⟨E.T.j, 0, none⟩), .pointer (some ⟨E.T.p, 0, none⟩), .pointer (some ⟨E.M, 0, none⟩)]) ∧ DiskAt W E 8 30 60 w') := Lib.hid (fun W h => disk_any 8 30 60 W (by decide) (by omega) (by omega) (by omega) h)
  have HR := Lib.hid hR
  rcases hq : longB 60 4096 st with _ | _
  · rw [hq] at LO
    obtain ⟨hl60, hn2⟩ := long_no (by omega) hq
    have HN := Lib.hid (fun x hx => (⟨hn2 x hx, (hn x hx).2⟩ : x.s.size ≤ 4096 ∧ x.i < 4294967296 ∧ x.t < 4294967296))
    obtain ⟨ao, cap, rfl, hrow⟩ : ∃ ao cap, v = .slice ao st.length cap ∧ (st.length = 0 ∨ ∃ b o, ao = some ⟨b, o, none⟩ ∧ b < w.heap.size ∧ StsAt w b o st) := by
      rcases hv with ⟨rfl, rfl⟩ | ⟨ad, c, rfl, rfl⟩ | ⟨b, o, c, rfl, h1, h2⟩
      · exact ⟨none, 0, rfl, .inl rfl⟩
      · exact ⟨some ad, c, rfl, .inl rfl⟩
      · exact ⟨some ⟨b, o, none⟩, c, rfl, .inr ⟨b, o, rfl, h1, h2⟩⟩
    have HRO := Lib.hid hrow
    clear hrow hv hn hn2 hq hR hl
    go_enter Tryz.func7, Tryz.ntmps7
    go_wp2_with fail
    refine LO.out.mono ?_
    rintro e w1 ⟨rfl, rfl⟩
    have HB0 := Lib.hid ((Below.refl _ w).alloc (Nat.le_refl _) (.cells #[.int .i64 8, .int .i64 30, .int .i64 60] 23))
    have HG0 := Lib.hid (SBox.new w 23 #[.int .i64 8, .int .i64 30, .int .i64 60])
    have hX := HG0.out
    have X0 := hX.cell 0
    have X1 := hX.cell 1
    have X2 := hX.cell 2
    simp only [List.getElem?_toArray, List.getElem?_cons_zero, List.getElem?_cons_succ] at X0 X1 X2
    have Xl := hX.lt
    clear hX LO
    go_wp2_with fail
    refine (DK.out _ (HR.out.later HB0.out).1).mono ?_
    rintro e w4 ⟨E, rfl, hD⟩
    have HG4 := Lib.hid (HG0.out.later hD.bel)
    have B4 := Lib.hid (HB0.out.trans (hD.bel.mono HB0.out.size))
    have hTm : w.heap.size ≤ E.T.m := Nat.le_trans HB0.out.size hD.own
    have hGT : w.heap.size ≠ E.T.m := by
      have h1 := HG0.out.lt
      have h2 := hD.own
      omega
    have x30 : G30 E := ⟨hD.small, hD.ei, hD.eb, hD.ej⟩
    have X30 := Lib.hid x30
    have HS := Lib.hid hD.small
    have ei8 := hD.ei
    have eb30 := hD.eb
    have HZ := Lib.hid (zs_all hD.small hD.is.len hD.is)
    have HP : Hid (FS (ZS E) E w4) := Lib.hid (fmt_fs hD.small (by rw [hD.ei, hD.eb, hD.ej]; exact hD.is))
    have CK1 := Lib.hid (fun W (D : Secs) (ino : Nat → InoT) (vs : Nat → List Nat) (es : List Ent) (t : Bool) (n : Nat) (h : IS W E D (ZS E)) k => ck_bk (w := W) (D := D) (ino := ino) (vs := vs) (es := es) (t := t) (n := n) hD.small h k)
    have CK2 := Lib.hid (fun W (D : Secs) (ino : Nat → InoT) (vs : Nat → List Nat) (es : List Ent) (h : IS W E D (ZS E)) k => ck2_bk (w := W) (D := D) (ino := ino) (vs := vs) (es := es) hD.small h k)
    unfold geoV at CK1 CK2
    rw [hD.ei, hD.eb, hD.ej] at CK1 CK2
    have MEET := Lib.hid (fun (W W' : World) (h : Tch (fun c => c = E.T.m) W W') (hG : SBox W w.heap.size 23 #[.int .i64 8, .int .i64 30, .int .i64 60]) (hB : Below w.heap.size w W) => (⟨(h.block _ hG.lt hGT).trans hG, h.below (fun c e => by rw [e]; exact hTm) hB hB.size⟩ : SBox W' w.heap.size 23 #[.int .i64 8, .int .i64 30, .int .i64 60] ∧ Below w.heap.size w W'))
    clear hD X0 X1 X2 Xl DK HG0 HB0 x30
    go_wp2_with fail
    go_loopw [12] (fun c wr => ∃ k : Nat, k ≤ st.length ∧ c = .int .i64 k ∧ FS (ZS E) E wr ∧ SBox wr w.heap.size 23 #[.int .i64 8, .int .i64 30, .int .i64 60] ∧ Below w.heap.size w wr) (fun c _ => 80 - (intOf c).toNat)
    case atStart => exact ⟨0, Nat.zero_le _, rfl, HP.out, HG4.out, B4.out⟩
    case round =>
      obtain ⟨k, hk, rfl, hW, hG, hB⟩ := hrel
      have HWr := Lib.hid hW
      have HGr := Lib.hid hG
      have HBr := Lib.hid hB
      clear hW hG hB HP B4 HG4
      by_cases hlt : k < st.length
      · obtain ⟨b, o, rfl, hb1, hst⟩ := HRO.out.resolve_left (by omega)
        have hx := StsAt.later hst hb1 HBr.out
        have hx := hx k hlt
        obtain ⟨n1, n2, n3⟩ := HN.out st[k] (List.getElem_mem hlt)
        have FT := Lib.hid (fit_any (E := E) (Z := ZS E) st[k] wr HS.out HZ.out HWr.out n2 n1)
        generalize st[k] = x at *
        obtain ⟨xd, xn, xi, xt, ⟨x0, x1, x2, x3, x4, x5, x6, x7⟩, xs, xr⟩ := x
        unfold stCells at FT
        dsimp only at FT
        have C0 := hx 0 _ rfl
        have C1 := hx 1 _ rfl
        have C2 := hx 2 _ rfl
        have C3 := hx 3 _ rfl
        have C4 := hx 4 _ rfl
        have C5 := hx 5 _ rfl
        have C6 := hx 6 _ rfl
        have C7 := hx 7 _ rfl
        have C8 := hx 8 _ rfl
        have C9 := hx 9 _ rfl
        have C10 := hx 10 _ rfl
        have C11 := hx 11 _ rfl
        have C12 := hx 12 _ rfl
        have C13 := hx 13 _ rfl
        simp only [← Nat.add_assoc, Nat.add_zero] at C0 C1 C2 C3 C4 C5 C6 C7 C8 C9 C10 C11 C12 C13
        have q0 : (0 : Int) ≤ k := by omega
        have q3 : (k : Int) < st.length := by omega
        clear hx hst CK1 CK2
        go_wp2_with fail
        refine Calls.mono FT.out ?_
        rintro e w5 ⟨c, rfl, t5, c04, r5⟩
        have HC5 := Lib.hid (MEET.out _ _ t5 HGr.out HBr.out)
        have HR5 := Lib.hid r5
        clear t5 r5 FT C0 C1 C2 C3 C4 C5 C6 C7 C8 C9 C10 C11 C12 C13
        rcases c04 with rfl | rfl
        · go_wp2_with fail
          go_roundw
          case rel => exact ⟨k + 1, by omega, by go_num, HR5.out (by trivial), HC5.out.1, HC5.out.2⟩
          case measure => simp [intOf]; omega
        · clear HR5
          go_wp2_with fail
          refine (AL.out _ (HR.out.later HC5.out.2)).mono ?_
          rintro e w6 ⟨rfl, b6⟩
          have B6 := Lib.hid (HC5.out.2.trans (b6.mono HC5.out.2.size))
          clear b6
          go_wp2
          go_ret
          exact ⟨rfl, B6.out⟩
      · obtain rfl : k = st.length := by omega
        obtain ⟨m, hm, hm1, hm30⟩ : ∃ m : Nat, (1 : Int) + (b : Int) % 30 = m ∧ 1 ≤ m ∧ m ≤ 30 := ⟨1 + b % 30, by omega, by omega, by omega⟩
        obtain ⟨D, ino, vs, es, g, f, nm⟩ := HWr.out
        have TB := takenBlock_is m wr HS.out g hm1 (by omega)
        have GB := Lib.hid (fun W h ht => gb_bk (w := W) X30.out h f nm m hm1 (by omega) ht)
        have BL := Lib.hid (fun W h => bl_bk (w := W) X30.out h f nm)
        have G0 := Lib.hid g
        clear g f nm HWr
        rcases ht : bitB (D (fr E 3)) m with _ | _
        · rw [ht] at TB
          have TB := Lib.hid TB
          go_wp2_with fail
          (try rw [hm])
          refine Calls.mono TB.out ?_
          rintro e w5 ⟨rfl, b5⟩
          have HG5 := Lib.hid (HGr.out.later b5)
          have HB5 := Lib.hid (HBr.out.trans (b5.mono HBr.out.size))
          have G5 := Lib.hid (G0.out.later b5)
          clear b5 TB
          go_wp2_with fail
          refine Calls.mono (BL.out _ G5.out) ?_
          rintro e w6 (⟨kb, rfl, t6, D1, g6, k6⟩ | ⟨rfl, b6⟩)
          · have HC6 := Lib.hid (MEET.out _ _ t6 HG5.out HB5.out)
            have hn30 : kb ≤ 30 := by have := k6.n2; omega
            have CKx := Lib.hid (CK1.out w6 D1 ino vs es false kb g6 k6)
            have G6 := Lib.hid g6
            have K6 := Lib.hid k6
            have hX := HC6.out.1
            have X0 := hX.cell 0
            have X1 := hX.cell 1
            have X2 := hX.cell 2
            simp only [List.getElem?_toArray, List.getElem?_cons_zero, List.getElem?_cons_succ] at X0 X1 X2
            have Xl := hX.lt
            clear hX t6 g6 k6 HG5 HB5
            go_wp2_with fail
            refine Calls.mono CKx.out ?_
            rintro e w7 ⟨vx, fx, hf, rfl, ho7, b7⟩
            obtain ⟨g7, cap7, rfl, hg7, hc7⟩ := row_cell ho7 (by simp)
            have c0 := hc7 0 _ rfl
            have c1 := hc7 1 _ rfl
            have c2 := hc7 2 _ rfl
            have G7 := Lib.hid (G6.out.later b7)
            have HG7 := Lib.hid (HC6.out.1.later b7)
            have HB7 := Lib.hid (HC6.out.2.trans (b7.mono HC6.out.2.size))
            clear hc7 ho7 b7 X0 X1 X2 Xl CKx
            obtain rfl : fx = 0 := Classical.byContradiction fun q => by have := hf.1 q; cases this
            have tn1 : ((kb : Int) == (kb : Int)) = true := by simp
            have tn2 : ((kb : Int) != (kb : Int)) = false := by simp
            obtain ⟨p, hp, hp2, hp8⟩ : ∃ p : Nat, (2 : Int) + (io : Int) % 7 = p ∧ 2 ≤ p ∧ p ≤ 8 := ⟨2 + io % 7, by omega, by omega, by omega⟩
            have IN := Lib.hid (inode_is p (ino p) w7 HS.out G7.out (by omega) (by omega) (K6.out.ck.is p (by omega) (by omega)) (K6.out.ck.ok p (by omega) (by omega)))
            have GV := Lib.hid (fun W h hk => gv_bk (w := W) X30.out h K6.out p hp2 (by omega) hk)
            unfold InoT.val at IN
            generalize ino p = y at *
            obtain ⟨yk, y1, y2, y3, y4, y5, y6, y7⟩ := y
            simp only at GV
            go_wp2_with fail
            (try rw [hp])
            refine Calls.mono IN.out ?_
            rintro e w8 ⟨rfl, b8⟩
            have hal := (Below.refl _ w8).alloc (Nat.le_refl _) (.cells #[.int .u8 yk, .int .u16 y1, .int .u32 y2, .int .u16 y3, .int .u16 y4, .int .u16 y5, .int .u16 y6, .int .u16 y7] 43)
            have G8 := Lib.hid ((G7.out.later b8).later hal)
            have HG8 := Lib.hid ((HG7.out.later b8).later hal)
            have HB8 := Lib.hid ((HB7.out.trans (b8.mono HB7.out.size)).trans (hal.mono (HB7.out.trans (b8.mono HB7.out.size)).size))
            have hY := SBox.new w8 43 #[.int .u8 yk, .int .u16 y1, .int .u32 y2, .int .u16 y3, .int .u16 y4, .int .u16 y5, .int .u16 y6, .int .u16 y7]
            have Y0 := hY.cell 0
            have Y1 := hY.cell 1
            have Y2 := hY.cell 2
            have Y3 := hY.cell 3
            have Y4 := hY.cell 4
            have Y5 := hY.cell 5
            have Y6 := hY.cell 6
            have Y7 := hY.cell 7
            simp only [List.getElem?_toArray, List.getElem?_cons_zero, List.getElem?_cons_succ] at Y0 Y1 Y2 Y3 Y4 Y5 Y6 Y7
            have Yl := hY.lt
            clear hY hal b8 c0 c1 c2
            by_cases hk0 : yk = 0
            · subst hk0
              clear GV CK2
              go_wp2_with fail
              refine (AL.out _ (HR.out.later HB8.out)).mono ?_
              rintro e wz ⟨rfl, bz⟩
              have BZ := Lib.hid (HB8.out.trans (bz.mono HB8.out.size))
              clear bz
              go_wp2
              go_ret
              exact ⟨rfl, BZ.out⟩
            · have tk0 : ((yk : Int) == 0) = false := by simp; omega
              go_wp2_with fail
              refine Calls.mono (GV.out _ G8.out hk0) ?_
              rintro e w9 ⟨rfl, t9, D2, ino2, vs2, g9, k9⟩
              have HC9 := Lib.hid (MEET.out _ _ t9 HG8.out HB8.out)
              have CKy := Lib.hid (CK2.out w9 D2 ino2 vs2 es g9 k9)
              have hX := HC9.out.1
              have X0 := hX.cell 0
              have X1 := hX.cell 1
              have X2 := hX.cell 2
              simp only [List.getElem?_toArray, List.getElem?_cons_zero, List.getElem?_cons_succ] at X0 X1 X2
              have Xl := hX.lt
              clear hX t9 g9 k9 HG8 HB8 G8 Y0 Y1 Y2 Y3 Y4 Y5 Y6 Y7 Yl GV
              go_wp2_with fail
              refine Calls.mono CKy.out ?_
              rintro e wA ⟨vy, fs, hfq, hlf, rfl, hoA, bA⟩
              have hpos : 0 < fs.length := by
                obtain ⟨q, hq⟩ := hfq
                exact List.length_pos_of_mem hq
              obtain ⟨gA, capA, rfl, hgA, hcA⟩ := row_cell hoA hpos
              have HCA := Lib.hid hcA
              have HBA := Lib.hid (HC9.out.2.trans (bA.mono HC9.out.2.size))
              have hany : anyF fs fs.length = true := anyF_yes hfq
              have HANY := Lib.hid hany
              clear hcA hoA bA X0 X1 X2 Xl CKy hany hfq HC9
              go_wp2_with fail
              go_loopw [25, 26] (fun isv c wr => ∃ j : Nat, j ≤ fs.length ∧ c = .int .i64 j ∧ isv = .bool (anyF fs j) ∧ wr = wA) (fun _ c _ => 10001 - (intOf c).toNat)
              case atStart => exact ⟨0, Nat.zero_le _, rfl, rfl, rfl⟩
              case round =>
                obtain ⟨j, hj, rfl, rfl, rfl⟩ := hrel
                by_cases hltj : j < fs.length
                · obtain ⟨d0, d1, d2⟩ := flt_at fs j hltj
                  have c0 := HCA.out _ _ d0
                  have c1 := HCA.out _ _ d1
                  have hst := Lib.hid (anyF_succ fs j hltj)
                  generalize fs[j] = fj at *
                  obtain ⟨fk, fi, fn⟩ := fj
                  simp only at c0 c1 hst
                  have p1 : (0 : Int) ≤ j := by omega
                  have p2 : (j : Int) < fs.length := by omega
                  clear d0 d1 d2
                  rcases ha : anyF fs j with _ | _
                  · rw [ha] at hst
                    by_cases h4 : fk = 4
                    · subst h4
                      by_cases h1 : fi = 1
                      · subst h1
                        go_wp2_with fail
                        go_roundw
                        case rel => exact ⟨j + 1, by omega, by go_num, by rw [hst.out]; rfl, by trivial⟩
                        case measure => simp [intOf]; omega
                      · have t1 : ((fi : Int) == 1) = false := by simp; omega
                        go_wp2_with fail
                        go_roundw
                        case rel => exact ⟨j + 1, by omega, by go_num, by rw [hst.out]; simp [h1], by trivial⟩
                        case measure => simp [intOf]; omega
                    · have t4 : ((fk : Int) == 4) = false := by simp; omega
                      go_wp2_with fail
                      go_roundw
                      case rel => exact ⟨j + 1, by omega, by go_num, by rw [hst.out]; simp [h4], by trivial⟩
                      case measure => simp [intOf]; omega
                  · rw [ha] at hst
                    go_wp2_with fail
                    go_roundw
                    case rel => exact ⟨j + 1, by omega, by go_num, by rw [hst.out]; rfl, by trivial⟩
                    case measure => simp [intOf]; omega
                · obtain rfl : j = fs.length := by omega
                  rw [HANY.out]
                  go_wp2_with fail
                  refine (AL.out _ (HR.out.later HBA.out)).mono ?_
                  rintro e wz ⟨rfl, bz⟩
                  have BZ := Lib.hid (HBA.out.trans (bz.mono HBA.out.size))
                  clear bz
                  go_wp2
                  go_ret
                  exact ⟨rfl, BZ.out⟩
          · have HB6 := Lib.hid (HB5.out.trans (b6.mono HB5.out.size))
            clear b6 BL GB CK1 CK2
            go_wp2_with fail
            refine (AL.out _ (HR.out.later HB6.out)).mono ?_
            rintro e wz ⟨rfl, bz⟩
            have BZ := Lib.hid (HB6.out.trans (bz.mono HB6.out.size))
            clear bz
            go_wp2
            go_ret
            exact ⟨rfl, BZ.out⟩
        · rw [ht] at TB
          have TB := Lib.hid TB
          go_wp2_with fail
          (try rw [hm])
          refine Calls.mono TB.out ?_
          rintro e w5 ⟨rfl, b5⟩
          have HG5 := Lib.hid (HGr.out.later b5)
          have HB5 := Lib.hid (HBr.out.trans (b5.mono HBr.out.size))
          have G5 := Lib.hid (G0.out.later b5)
          clear b5 TB
          go_wp2_with fail
          refine Calls.mono (GB.out _ G5.out ht) ?_
          rintro e w6 ⟨rfl, t6, D1, g6, k6⟩
          have HC6 := Lib.hid (MEET.out _ _ t6 HG5.out HB5.out)
          have hn30 : m ≤ 30 := by have := k6.n2; omega
          have CKx := Lib.hid (CK1.out w6 D1 ino vs es true m g6 k6)
          have G6 := Lib.hid g6
          have K6 := Lib.hid k6
          have hX := HC6.out.1
          have X0 := hX.cell 0
          have X1 := hX.cell 1
          have X2 := hX.cell 2
          simp only [List.getElem?_toArray, List.getElem?_cons_zero, List.getElem?_cons_succ] at X0 X1 X2
          have Xl := hX.lt
          clear hX t6 g6 k6 HG5 HB5
          go_wp2_with fail
          refine Calls.mono CKx.out ?_
          rintro e w7 ⟨vx, fx, hf, rfl, ho7, b7⟩
          obtain ⟨g7, cap7, rfl, hg7, hc7⟩ := row_cell ho7 (by simp)
          have c0 := hc7 0 _ rfl
          have c1 := hc7 1 _ rfl
          have c2 := hc7 2 _ rfl
          have G7 := Lib.hid (G6.out.later b7)
          have HG7 := Lib.hid (HC6.out.1.later b7)
          have HB7 := Lib.hid (HC6.out.2.trans (b7.mono HC6.out.2.size))
          clear hc7 ho7 b7 X0 X1 X2 Xl CKx
          have tf : ((fx : Int) == 0) = false := by have := hf.2 (by trivial); simp; omega
          have tg : ((fx : Int) != 0) = true := by have := hf.2 (by trivial); simp; omega
          have tn1 : ((m : Int) == (m : Int)) = true := by simp
          have tn2 : ((m : Int) != (m : Int)) = false := by simp
          obtain ⟨p, hp, hp2, hp8⟩ : ∃ p : Nat, (2 : Int) + (io : Int) % 7 = p ∧ 2 ≤ p ∧ p ≤ 8 := ⟨2 + io % 7, by omega, by omega, by omega⟩
          have IN := Lib.hid (inode_is p (ino p) w7 HS.out G7.out (by omega) (by omega) (K6.out.ck.is p (by omega) (by omega)) (K6.out.ck.ok p (by omega) (by omega)))
          have GV := Lib.hid (fun W h hk => gv_bk (w := W) X30.out h K6.out p hp2 (by omega) hk)
          unfold InoT.val at IN
          generalize ino p = y at *
          obtain ⟨yk, y1, y2, y3, y4, y5, y6, y7⟩ := y
          simp only at GV
          go_wp2_with fail
          (try rw [hp])
          refine Calls.mono IN.out ?_
          rintro e w8 ⟨rfl, b8⟩
          have hal := (Below.refl _ w8).alloc (Nat.le_refl _) (.cells #[.int .u8 yk, .int .u16 y1, .int .u32 y2, .int .u16 y3, .int .u16 y4, .int .u16 y5, .int .u16 y6, .int .u16 y7] 43)
          have G8 := Lib.hid ((G7.out.later b8).later hal)
          have HG8 := Lib.hid ((HG7.out.later b8).later hal)
          have HB8 := Lib.hid ((HB7.out.trans (b8.mono HB7.out.size)).trans (hal.mono (HB7.out.trans (b8.mono HB7.out.size)).size))
          have hY := SBox.new w8 43 #[.int .u8 yk, .int .u16 y1, .int .u32 y2, .int .u16 y3, .int .u16 y4, .int .u16 y5, .int .u16 y6, .int .u16 y7]
          have Y0 := hY.cell 0
          have Y1 := hY.cell 1
          have Y2 := hY.cell 2
          have Y3 := hY.cell 3
          have Y4 := hY.cell 4
          have Y5 := hY.cell 5
          have Y6 := hY.cell 6
          have Y7 := hY.cell 7
          simp only [List.getElem?_toArray, List.getElem?_cons_zero, List.getElem?_cons_succ] at Y0 Y1 Y2 Y3 Y4 Y5 Y6 Y7
          have Yl := hY.lt
          clear hY hal b8 c0 c1 c2
          by_cases hk0 : yk = 0
          · subst hk0
            clear GV CK2
            go_wp2_with fail
            refine (AL.out _ (HR.out.later HB8.out)).mono ?_
            rintro e wz ⟨rfl, bz⟩
            have BZ := Lib.hid (HB8.out.trans (bz.mono HB8.out.size))
            clear bz
            go_wp2
            go_ret
            exact ⟨rfl, BZ.out⟩
          · have tk0 : ((yk : Int) == 0) = false := by simp; omega
            go_wp2_with fail
            refine Calls.mono (GV.out _ G8.out hk0) ?_
            rintro e w9 ⟨rfl, t9, D2, ino2, vs2, g9, k9⟩
            have HC9 := Lib.hid (MEET.out _ _ t9 HG8.out HB8.out)
            have CKy := Lib.hid (CK2.out w9 D2 ino2 vs2 es g9 k9)
            have hX := HC9.out.1
            have X0 := hX.cell 0
            have X1 := hX.cell 1
            have X2 := hX.cell 2
            simp only [List.getElem?_toArray, List.getElem?_cons_zero, List.getElem?_cons_succ] at X0 X1 X2
            have Xl := hX.lt
            clear hX t9 g9 k9 HG8 HB8 G8 Y0 Y1 Y2 Y3 Y4 Y5 Y6 Y7 Yl GV
            go_wp2_with fail
            refine Calls.mono CKy.out ?_
            rintro e wA ⟨vy, fs, hfq, hlf, rfl, hoA, bA⟩
            have hpos : 0 < fs.length := by
              obtain ⟨q, hq⟩ := hfq
              exact List.length_pos_of_mem hq
            obtain ⟨gA, capA, rfl, hgA, hcA⟩ := row_cell hoA hpos
            have HCA := Lib.hid hcA
            have HBA := Lib.hid (HC9.out.2.trans (bA.mono HC9.out.2.size))
            have hany : anyF fs fs.length = true := anyF_yes hfq
            have HANY := Lib.hid hany
            clear hcA hoA bA X0 X1 X2 Xl CKy hany hfq HC9
            go_wp2_with fail
            go_loopw [25, 26] (fun isv c wr => ∃ j : Nat, j ≤ fs.length ∧ c = .int .i64 j ∧ isv = .bool (anyF fs j) ∧ wr = wA) (fun _ c _ => 10001 - (intOf c).toNat)
            case atStart => exact ⟨0, Nat.zero_le _, rfl, rfl, rfl⟩
            case round =>
              obtain ⟨j, hj, rfl, rfl, rfl⟩ := hrel
              by_cases hltj : j < fs.length
              · obtain ⟨d0, d1, d2⟩ := flt_at fs j hltj
                have c0 := HCA.out _ _ d0
                have c1 := HCA.out _ _ d1
                have hst := Lib.hid (anyF_succ fs j hltj)
                generalize fs[j] = fj at *
                obtain ⟨fk, fi, fn⟩ := fj
                simp only at c0 c1 hst
                have p1 : (0 : Int) ≤ j := by omega
                have p2 : (j : Int) < fs.length := by omega
                clear d0 d1 d2
                rcases ha : anyF fs j with _ | _
                · rw [ha] at hst
                  by_cases h4 : fk = 4
                  · subst h4
                    by_cases h1 : fi = 1
                    · subst h1
                      go_wp2_with fail
                      go_roundw
                      case rel => exact ⟨j + 1, by omega, by go_num, by rw [hst.out]; rfl, by trivial⟩
                      case measure => simp [intOf]; omega
                    · have t1 : ((fi : Int) == 1) = false := by simp; omega
                      go_wp2_with fail
                      go_roundw
                      case rel => exact ⟨j + 1, by omega, by go_num, by rw [hst.out]; simp [h1], by trivial⟩
                      case measure => simp [intOf]; omega
                  · have t4 : ((fk : Int) == 4) = false := by simp; omega
                    go_wp2_with fail
                    go_roundw
                    case rel => exact ⟨j + 1, by omega, by go_num, by rw [hst.out]; simp [h4], by trivial⟩
                    case measure => simp [intOf]; omega
                · rw [ha] at hst
                  go_wp2_with fail
                  go_roundw
                  case rel => exact ⟨j + 1, by omega, by go_num, by rw [hst.out]; rfl, by trivial⟩
                  case measure => simp [intOf]; omega
              · obtain rfl : j = fs.length := by omega
                rw [HANY.out]
                go_wp2_with fail
                refine (AL.out _ (HR.out.later HBA.out)).mono ?_
                rintro e wz ⟨rfl, bz⟩
                have BZ := Lib.hid (HBA.out.trans (bz.mono HBA.out.size))
                clear bz
                go_wp2
                go_ret
                exact ⟨rfl, BZ.out⟩
  · rw [hq] at LO
    clear hv hn hR hq hl DK
    go_enter Tryz.func7, Tryz.ntmps7
    go_wp2_with fail
    refine LO.out.mono ?_
    rintro e w1 ⟨rfl, rfl⟩
    go_wp2_with fail
    refine (AL.out _ HR.out).mono ?_
    rintro e w6 ⟨rfl, b6⟩
    go_wp2
    go_ret
    exact ⟨rfl, b6⟩
end Go.Proofs.YtpnfkilfgdnogaaGreatDoor.Img
