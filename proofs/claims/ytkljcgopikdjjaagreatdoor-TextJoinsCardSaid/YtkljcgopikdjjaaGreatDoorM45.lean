/- The law TextJoins: the walk. -/
import Derived.Test.YtkljcgopikdjjaaGreatDoorM44
import Derived.Deep.RegionHeld3
set_option linter.unusedVariables false
set_option linter.unusedSimpArgs false
set_option maxRecDepth 100000
section
namespace Go.Proofs.YtkljcgopikdjjaaGreatDoor.Tx
set_option maxRecDepth 100000
set_option maxHeartbeats 4000000
open Go.RowKit Go.Shelf Go.Maps Oct
theorem keepH {w8 W W' : World} {bc : Nat} {c : Cf} (hlt : bc < w8.heap.size) (h : Below w8.heap.size w8 W ∧ W.cell? ⟨bc, 0, none⟩ = some (.int .i64 c.i) ∧ W.cell? ⟨bc, 1, none⟩ = some (.int .i64 c.b) ∧ W.cell? ⟨bc, 2, none⟩ = some (.int .i64 c.j) ∧ W.cell? ⟨bc, 3, none⟩ = some (.int .i64 c.c) ∧ W.cell? ⟨bc, 4, none⟩ = some (.int .i64 c.l) ∧ W.cell? ⟨bc, 5, none⟩ = some (.int .i64 c.t)) (b : Below w8.heap.size W W') : Below w8.heap.size w8 W' ∧ W'.cell? ⟨bc, 0, none⟩ = some (.int .i64 c.i) ∧ W'.cell? ⟨bc, 1, none⟩ = some (.int .i64 c.b) ∧ W'.cell? ⟨bc, 2, none⟩ = some (.int .i64 c.j) ∧ W'.cell? ⟨bc, 3, none⟩ = some (.int .i64 c.c) ∧ W'.cell? ⟨bc, 4, none⟩ = some (.int .i64 c.l) ∧ W'.cell? ⟨bc, 5, none⟩ = some (.int .i64 c.t) := by
 obtain ⟨h0, h1, h2, h3, h4, h5, h6⟩ := h;have hb := b.block bc hlt;exact ⟨h0.trans b, (cells_blk hb 0).trans h1, (cells_blk hb 1).trans h2, (cells_blk hb 2).trans h3, (cells_blk hb 3).trans h4, (cells_blk hb 4).trans h5, (cells_blk hb 5).trans h6⟩
theorem sizeH {w8 W : World} {bc : Nat} {c : Cf} (h : Below w8.heap.size w8 W ∧ W.cell? ⟨bc, 0, none⟩ = some (.int .i64 c.i) ∧ W.cell? ⟨bc, 1, none⟩ = some (.int .i64 c.b) ∧ W.cell? ⟨bc, 2, none⟩ = some (.int .i64 c.j) ∧ W.cell? ⟨bc, 3, none⟩ = some (.int .i64 c.c) ∧ W.cell? ⟨bc, 4, none⟩ = some (.int .i64 c.l) ∧ W.cell? ⟨bc, 5, none⟩ = some (.int .i64 c.t)) : w8.heap.size ≤ W.heap.size := h.1.size
theorem rd_cases (s : ByteArray) : (∃ x, stepL mayM (L s) = some x) ∨ stepL mayM (L s) = none := by
 cases stepL mayM (L s) with
 | none => exact .inr rfl
 | some x => exact .inl ⟨x, rfl⟩
theorem joins_law (c : Cf) (hc : c.In) (l : List M) (hw : ∀ x ∈ l, x.Wide) (hin : ∀ x ∈ l, x.In ∧ x.k < 256) (p : Option Addr) (g o cap : Nat) (hcap : p = none → cap = 0)
   (more : List M) (hw2 : ∀ x ∈ more, x.Wide) (hin2 : ∀ x ∈ more, x.In ∧ x.k < 256) (p2 : Option Addr) (g2 o2 cap2 : Nat) (hcap2 : p2 = none → cap2 = 0) (odd : ByteArray) (hodd : odd.size ≤ 140737488351232) (w : World) (hl : Lay w) (hv : LM w p g o l) (hv2 : LM w p2 g2 o2 more) :
   Calls Tryz.prog 3 #[c.val, .slice p l.length cap, .slice p2 more.length cap2, .string odd] w fun e w' => e = .returned (.bool true) ∧ Below w.heap.size w w' := by
 have HL := Lib.hid hl;have AL := Lib.hid alive37;have ha := (Below.refl w.heap.size w).alloc (Nat.le_refl _) (.cells c.cells 27);have HB := Lib.hid ha;have HV := Lib.hid (hv.later ha);have HU := Lib.hid (hv2.later ha);have H0 := Lib.hid (SBox.new w 27 c.cells);have BG := Lib.hid (fun W h => big_any l hw p g o cap W h);have BH := Lib.hid (fun W h => big_any more hw2 p2 g2 o2 cap2 W h);have LA := Lib.hid (fun W => large_any c W);clear hl hv hv2 ha;unfold Cf.val at LA ⊢;unfold Cf.cells at HB HV HU H0
 go_enter Tryz.func3, Tryz.ntmps3
 go_upto_region 1 with (fail)
 generalize w.alloc (.cells #[.int .i64 c.i, .int .i64 c.b, .int .i64 c.j, .int .i64 c.c, .int .i64 c.l, .int .i64 c.t] 27) = w1 at *
 cases hbg : bigM l with
 | true =>
   rw [hbg] at BG;go_wp2_with fail;refine (BG.out _ HV.out).mono ?_;rintro e w2 ⟨rfl, b2⟩;have B2 := Lib.hid (HB.out.trans (b2.mono HB.out.size));clear b2;go_wp2_with fail;refine (AL.out _ (HL.out.later B2.out)).mono ?_;rintro e wz ⟨rfl, bz⟩;have BZ := Lib.hid (B2.out.trans (bz.mono B2.out.size));clear bz;go_wp2_with fail;go_ret;exact ⟨rfl, BZ.out⟩
 | false =>
   obtain ⟨hl150, hsz⟩ := big_no hbg;rw [hbg] at BG;go_wp2_with fail;refine (BG.out _ HV.out).mono ?_;rintro e w2 ⟨rfl, b2⟩;have B2 := Lib.hid (HB.out.trans (b2.mono HB.out.size));have H2 := Lib.hid (H0.out.later b2);have V2 := Lib.hid (HV.out.later b2);have U2 := Lib.hid (HU.out.later b2);clear b2 HB H0 HV HU BG;cases hbh : bigM more with
   | true =>
     rw [hbh] at BH;go_wp2_with fail;refine (BH.out _ U2.out).mono ?_;rintro e w3 ⟨rfl, b3⟩;have B3 := Lib.hid (B2.out.trans (b3.mono B2.out.size));clear b3;go_wp2_with fail;refine (AL.out _ (HL.out.later B3.out)).mono ?_;rintro e wz ⟨rfl, bz⟩;have BZ := Lib.hid (B3.out.trans (bz.mono B3.out.size));clear bz;go_wp2_with fail;go_ret;exact ⟨rfl, BZ.out⟩
   | false =>
     obtain ⟨hm150, hsy⟩ := big_no hbh;rw [hbh] at BH;go_wp2_with fail;refine (BH.out _ U2.out).mono ?_;rintro e w3 ⟨rfl, b3⟩;have B3 := Lib.hid (B2.out.trans (b3.mono B2.out.size));have H3 := Lib.hid (H2.out.later b3);have V3 := Lib.hid (V2.out.later b3);have U3 := Lib.hid (U2.out.later b3);have y0 := H3.out;clear b3 B2 H2 V2 U2 BH;have X0 := y0.cell 0;have X1 := y0.cell 1;have X2 := y0.cell 2;have X3 := y0.cell 3;have X4 := y0.cell 4;have X5 := y0.cell 5;simp only [List.getElem?_toArray, List.getElem?_cons_zero, List.getElem?_cons_succ] at X0 X1 X2 X3 X4 X5;have Xl := y0.lt;clear y0;cases hlg : largeC c with
     | true =>
       rw [hlg] at LA;go_wp2_with fail;refine (LA.out _).mono ?_;rintro e w4 ⟨rfl, b4⟩;have B4 := Lib.hid (B3.out.trans (b4.mono B3.out.size));clear b4;go_wp2_with fail;refine (AL.out _ (HL.out.later B4.out)).mono ?_;rintro e wz ⟨rfl, bz⟩;have BZ := Lib.hid (B4.out.trans (bz.mono B4.out.size));clear bz;go_wp2_with fail;go_ret;exact ⟨rfl, BZ.out⟩
     | false =>
       rw [hlg] at LA;go_wp2_with fail;refine (LA.out _).mono ?_;rintro e w4 ⟨rfl, b4⟩;have B4 := Lib.hid (B3.out.trans (b4.mono B3.out.size));have H4 := Lib.hid (H3.out.later b4);have V4 := Lib.hid (V3.out.later b4);have U4 := Lib.hid (U3.out.later b4);clear b4 B3 H3 V3 U3 X0 X1 X2 X3 X4 X5 Xl LA
       by_cases hod : 1024 < odd.size
       · have t1 : (1024 : Int) < odd.size := by omega
         go_wp2_with fail;refine (AL.out _ (HL.out.later B4.out)).mono ?_;rintro e wz ⟨rfl, bz⟩;have BZ := Lib.hid (B4.out.trans (bz.mono B4.out.size));clear bz;go_wp2_with fail;go_ret;exact ⟨rfl, BZ.out⟩
       · have t1 : ¬ (1024 : Int) < odd.size := by omega
         have hlin : ∀ m ∈ l, m.In ∧ m.k < 256 ∧ m.size ≤ 100000 := fun m hm => ⟨(hin m hm).1, (hin m hm).2, by have := hsz m hm; omega⟩;have hlin2 : ∀ m ∈ more, m.In ∧ m.k < 256 ∧ m.size ≤ 3100 := fun m hm => ⟨(hin2 m hm).1, (hin2 m hm).2, hsy m hm⟩
         have hlinA : ∀ m ∈ l ++ more, m.In ∧ m.k < 256 ∧ m.size ≤ 100000 := fun m hm => by
           rcases List.mem_append.1 hm with h | h
           · exact hlin m h
           · have := hlin2 m h
             exact ⟨this.1, this.2.1, by omega⟩
         have WR := Lib.hid (fun p g o cap W h hv => write_all c hc l (by omega) hlin p g o cap W h hv);have WS := Lib.hid (fun p g o cap W h hv => write_all c hc (l ++ more) (by rw [List.length_append]; omega) hlinA p g o cap W h hv);unfold WrAns Cf.val at WR WS;obtain ⟨n2, hn2⟩ : ∃ n2, (l ++ more).length = n2 := ⟨_, rfl⟩;rw [hn2] at WS;have HN3 := Lib.hid hn2;clear hn2
         generalize hst : B (if writeE c l = 0 then writeT c l else []) = st at WR
         generalize hec : writeE c l = ec at WR
         have HST := Lib.hid hst;have HEC := Lib.hid hec;clear hst hec;have y0 := H4.out;have X0 := y0.cell 0;have X1 := y0.cell 1;have X2 := y0.cell 2;have X3 := y0.cell 3;have X4 := y0.cell 4;have X5 := y0.cell 5;simp only [List.getElem?_toArray, List.getElem?_cons_zero, List.getElem?_cons_succ] at X0 X1 X2 X3 X4 X5;have Xl := y0.lt;clear y0;have K0 := Lib.hid hl150;have K1 := Lib.hid hm150;have K2 := Lib.hid hlin2;have K3 := Lib.hid hod;clear hbg hbh hlg hsz hsy hin hin2 hw hw2 hlin hlin2 hlinA;go_wp2_with fail;refine (WR.out _ _ _ _ _ (HL.out.later B4.out) V4.out).mono ?_;rintro e w5 ⟨rfl, b5⟩;have B5 := Lib.hid (B4.out.trans (b5.mono B4.out.size));have H5 := Lib.hid (H4.out.later b5);have V5 := Lib.hid (V4.out.later b5);have U5 := Lib.hid (U4.out.later b5);clear b5 B4 H4 V4 U4 X0 X1 X2 X3 X4 X5 Xl WR t1
         by_cases hz : ec = 0
         · subst hz
           have hz := HEC.out;have hst := HST.out;rw [if_pos hz] at hst;have Z0 := Lib.hid hz;have Z1 := Lib.hid hst;have zs : st.size ≤ 262144 := by rw [← hst, size_B]; exact (writeE_zero hz).2.2
           have ZS := Lib.hid zs;clear hz hst HEC HST hod;obtain ⟨n, hn⟩ : ∃ n, more.length = n := ⟨_, rfl⟩;have HN := Lib.hid hn;have hn150 : n ≤ 150 := by omega
           rw [hn];clear hn hl150 hm150;go_wp2_with fail
           go_loopw [11, 12] (fun tl i wr => ∃ k : Nat, k ≤ n ∧ i = .int .i64 k ∧ tl = .string (B (linesT (more.take k))) ∧ (∀ m ∈ more.take k, mayM m = true) ∧ Below w5.heap.size w5 wr) (fun _ i _ => n - (intOf i).toNat)
           case atStart => exact ⟨0, Nat.zero_le _, rfl, rfl, by simp, Below.refl _ _⟩
           case round =>
             obtain ⟨k, hk, rfl, rfl, hmay, hB⟩ := hrel;have B6 := Lib.hid (B5.out.trans (hB.mono B5.out.size));have H6 := Lib.hid (H5.out.later hB);have V6 := Lib.hid (V5.out.later hB);have U6 := Lib.hid (U5.out.later hB);have HB6 := Lib.hid hB;have HM := Lib.hid hmay;clear hB hmay
             have ht0 : (linesT (more.take k)).length ≤ 3311 * k := by
               have h1 := linesT_len (more.take k) fun m hm => ⟨(K2.out m (List.mem_of_mem_take hm)).1, HM.out m hm⟩;have h2 : (more.take k).length ≤ k := List.length_take_le k more;omega
             have zt : (B (linesT (more.take k))).size ≤ 500000 := by rw [size_B]; omega
             clear ht0
             rcases Nat.lt_or_ge k n with hlt | hge
             · have hki : (k : Int) < n := by omega
               obtain ⟨x, hx⟩ : ∃ x, more[k]? = some x := ⟨_, List.getElem?_eq_getElem (by rw [HN.out]; exact hlt)⟩;have hxm : x ∈ more := List.mem_of_getElem? hx;obtain ⟨hxi, hxk, hxs⟩ := K2.out x hxm;obtain ⟨rfl, hgl, A⟩ := U6.out.get hx;have hcp : 0 < n := by omega
               obtain ⟨a0, a1, a2, a3, a4, a5, a6, a7, a8, a9, a10, a11⟩ := A;have e1 : more.take (k + 1) = more.take k ++ [x] := by rw [List.take_add_one, hx]; rfl
               cases hmm : mayM x with
               | false =>
                 have LN := Lib.hid (fun W h => line_no x W h hxk hxi.d (by omega) hmm);unfold M.val M.cells at LN;clear hx hxm e1 hmm;go_wp2_with fail;refine (LN.out _ (HL.out.later B6.out)).mono ?_;rintro e w7 ⟨rfl, b7⟩;have B7 := Lib.hid (B6.out.trans (b7.mono B6.out.size));clear b7 a0 a1 a2 a3 a4 a5 a6 a7 a8 a9 a10 a11;go_wp2_with fail;refine (AL.out _ (HL.out.later B7.out)).mono ?_;rintro e wz ⟨rfl, bz⟩;have BZ := Lib.hid (B7.out.trans (bz.mono B7.out.size));clear bz;go_wp2_with fail;go_ret;exact ⟨rfl, BZ.out⟩
               | true =>
                 have hx3 := may_size x hxi hmm;have LY := Lib.hid (fun W h => line_yes x W h hxi (by omega) hmm);unfold M.val M.cells at LY;have hll := lineL_len x hxi;have zl : (B (lineL x)).size ≤ 10000 := by rw [size_B]; omega
                 have hcat : B (linesT (more.take k)) ++ B (lineL x) ++ (⟨#[10]⟩ : ByteArray) = B (linesT (more.take (k + 1))) := by
                   rw [B_append, show (⟨#[10]⟩ : ByteArray) = B [10] from rfl, B_append, e1, linesT_app]
                   simp [linesT]
                 have hmay2 : ∀ m ∈ more.take (k + 1), mayM m = true := by
                   rw [e1];intro m hm
                   rcases List.mem_append.1 hm with h | h
                   · exact HM.out m h
                   · have : m = x := by simpa using h
                     rw [this]; exact hmm
                 have HM2 := Lib.hid hmay2;have w1 : IntKind.i64.wrap ((k : Int) + 1) = ((k + 1 : Nat) : Int) := by rw [IntWalk.i64_in _ (by omega)]; omega
                 clear hx hxm e1 hmm hx3 hll hmay2
                 generalize B (linesT (more.take k)) = tk at *
                 generalize hli : B (lineL x) = li at *
                 clear hli;go_wp2_with fail;refine (LY.out _ (HL.out.later B6.out)).mono ?_;rintro e w7 ⟨rfl, b7⟩;have HB7 := Lib.hid (HB6.out.trans (b7.mono HB6.out.size));clear b7 a0 a1 a2 a3 a4 a5 a6 a7 a8 a9 a10 a11;go_wp2_with fail;exact ⟨⟨k + 1, by omega, by go_num, rfl, HM2.out, HB7.out⟩, by simp [intOf]; omega⟩
             · have e : k = n := by omega
               subst e;have t2 : ¬ (k : Int) < k := by omega
               have etk : more.take k = more := List.take_of_length_le (by rw [HN.out]; exact Nat.le_refl _);rw [etk] at HM zt ⊢;have hEA := writeE_app Z0.out HM.out;have Z2 := Lib.hid (size_B (linesT more));have ztl : (linesT more).length ≤ 500000 := by rw [size_B] at zt; exact zt
               have zsl : st.size = (writeT c l).length := by rw [← Z1.out, size_B]
               generalize hst : B (if writeE c (l ++ more) = 0 then writeT c (l ++ more) else []) = st2 at WS
               generalize hec : writeE c (l ++ more) = ec2 at WS hEA
               have HST := Lib.hid hst;have HEC := Lib.hid hec;have HEA := Lib.hid hEA
               generalize htl : B (linesT more) = tl at *
               have HT := Lib.hid htl;clear hst hec hEA htl etk;have y0 := H6.out;have X0 := y0.cell 0;have X1 := y0.cell 1;have X2 := y0.cell 2;have X3 := y0.cell 3;have X4 := y0.cell 4;have X5 := y0.cell 5;simp only [List.getElem?_toArray, List.getElem?_cons_zero, List.getElem?_cons_succ] at X0 X1 X2 X3 X4 X5;have Xl := y0.lt;clear y0;have HN1 := Lib.hid hcap;have HN2 := Lib.hid hcap2;have hn1 : more.length = k := HN.out;clear hcap hcap2;go_wp2_with fail
               go_region_held3 (fun W => Below wr.heap.size wr W ∧ W.cell? ⟨w.heap.size, 0, none⟩ = some (.int .i64 c.i) ∧ W.cell? ⟨w.heap.size, 1, none⟩ = some (.int .i64 c.b) ∧ W.cell? ⟨w.heap.size, 2, none⟩ = some (.int .i64 c.j) ∧ W.cell? ⟨w.heap.size, 3, none⟩ = some (.int .i64 c.c) ∧ W.cell? ⟨w.heap.size, 4, none⟩ = some (.int .i64 c.l) ∧ W.cell? ⟨w.heap.size, 5, none⟩ = some (.int .i64 c.t))
                 (first | exact keepH Xl (by assumption) b9 | exact keepF Xl (by assumption) b9 | exact ⟨(Below.refl _ _).drew, X0, X1, X2, X3, X4, X5⟩ | exact ⟨Below.refl _ _, X0, X1, X2, X3, X4, X5⟩ | assumption)
                 (first | (refine step_append_M1 (by rfl) (.tmp 71) (by rfl) wr.heap.size (sizeH (by assumption)) l p g o cap (by rfl) (lmF V6.out (by assumption)) HN1.out (by have := K0.out; omega) ?_; intro v9 w9 hown9 b9; obtain ⟨p8, cap8, g8, rfl, hcp8, hL8⟩ := LM.own hown9; have O9 := Lib.hid hown9; clear hown9 hL8 hcp8) | (refine step_append_M2 (by rfl) (.tmp 72) (.tmp 73) (by rfl) wr.heap.size l more _ (by rfl) O9.out (sizeH (by assumption)) p2 g2 o2 cap2 (by rw [hn1]; rfl) (lmF U6.out (by assumption)) HN2.out (by have := K0.out; have := K1.out; omega) ?_; intro v9 w9 hown9 b9; obtain ⟨p9, cap9, g9, e9, hcp9, hL9⟩ := LM.own hown9; rw [HN3.out] at e9; subst e9; have L9 := Lib.hid hL9; clear hown9 hL9 hcp9) | (go_at_call 11; refine (WS.out _ _ _ _ _ (layF HL.out B6.out (by assumption)) L9.out).mono ?_; rintro e w9 ⟨rfl, b9⟩))
               rename_i hS
               have B7 := Lib.hid (B6.out.trans (hS.1.mono B6.out.size));clear hS X0 X1 X2 X3 X4 X5 Xl WS V6 U6 H6 V5 U5 H5;have ztl2 : tl.size = (linesT more).length := by rw [← HT.out, size_B]
               have ZTL : Hid (tl.size ≤ 500000) := Lib.hid (by omega)
               by_cases hbig : 262144 < st.size + tl.size
               · have e5 : ec2 = 5 := by
                   have := HEA.out;rw [if_pos (by omega)] at this;exact this
                 subst e5;have t3 : (262144 : Int) < (st.size : Int) + (tl.size : Int) := by omega
                 have t4 : IntKind.i64.wrap ((st.size : Int) + (tl.size : Int)) = (st.size : Int) + (tl.size : Int) := IntWalk.i64_in _ (by omega);clear ztl ztl2 zsl;go_wp2_with fail;refine (AL.out _ (HL.out.later B7.out)).mono ?_;rintro e wz ⟨rfl, bz⟩;have BZ := Lib.hid (B7.out.trans (bz.mono B7.out.size));clear bz;go_wp2_with fail;go_ret;exact ⟨rfl, BZ.out⟩
               · have e0 : ec2 = 0 := by
                   have := HEA.out;rw [if_neg (by omega)] at this;exact this
                 subst e0
                 have hst2 : st ++ tl = st2 := by
                   have h1 := HST.out;rw [if_pos HEC.out, writeT_app, ← B_append, Z1.out, HT.out] at h1;exact h1
                 have q1 : (st2.toList == st2.toList) = true := by simp
                 have z2 : st2.size = st.size + tl.size := by rw [← hst2]; simp
                 have Z2' := Lib.hid z2;clear z2;have ZT := Lib.hid ztl2;have ZL := Lib.hid zsl;have HB' := Lib.hid hbig;clear ztl ztl2 zsl;go_wp2_with fail;clear q1 hst2
                 go_loopw [16] (fun i wr2 => ∃ j : Nat, j ≤ odd.size ∧ i = .int .i64 j ∧ (∀ c ∈ (L odd).take j, c ≠ 10) ∧ Below w9.heap.size w9 wr2) (fun i _ => odd.size - (intOf i).toNat)
                 case atStart => exact ⟨0, Nat.zero_le _, rfl, by simp, Below.refl _ _⟩
                 case round =>
                   obtain ⟨j, hj, rfl, hno, hB⟩ := hrel;have B8 := Lib.hid (B7.out.trans (hB.mono B7.out.size));have HB8 := Lib.hid hB;have NO := Lib.hid hno;clear hB hno;have ho24 := K3.out
                   by_cases hlt : j < odd.size
                   · have t1 : (j : Int) < odd.size := by omega
                     have hdr := drop_get odd j hlt;have w1 : IntKind.i64.wrap ((j : Int) + 1) = ((j + 1 : Nat) : Int) := by rw [IntWalk.i64_in _ (by omega)]; omega
                     by_cases h10 : odd[j] = 10
                     · have g2 : ((odd[j].toNat : Int) == 10) = true := by rw [h10]; rfl
                       clear hdr h10;go_wp2_with fail;refine (AL.out _ (HL.out.later B8.out)).mono ?_;rintro e wz ⟨rfl, bz⟩;have BZ := Lib.hid (B8.out.trans (bz.mono B8.out.size));clear bz;go_wp2_with fail;go_ret;exact ⟨rfl, BZ.out⟩
                     · have g2 : ((odd[j].toNat : Int) == 10) = false := by
                         apply beq_eq_false_iff_ne.mpr
                         intro e;exact h10 (UInt8.toNat_inj.mp (by show odd[j].toNat = 10; omega))
                       have hno2 : ∀ c ∈ (L odd).take (j + 1), c ≠ 10 := by
                         have hg : (L odd)[j]? = some odd[j] := by
                           have := congrArg (fun l => l[0]?) hdr
                           simpa using this
                         rw [List.take_add_one, hg];intro c hc
                         rcases List.mem_append.1 hc with h | h
                         · exact NO.out c h
                         · have : c = odd[j] := by simpa using h
                           rw [this]; exact h10
                       have NO2 := Lib.hid hno2;clear hdr h10 hno2;go_wp2_with fail;exact ⟨⟨j + 1, by omega, by go_num, NO2.out, HB8.out⟩, by simp [intOf]; omega⟩
                   · have e : j = odd.size := by omega
                     subst e;have t1 : ¬ (odd.size : Int) < odd.size := by omega
                     have hno : ∀ c ∈ L odd, c ≠ 10 := by
                       have h1 := NO.out;rw [List.take_of_length_le (by rw [len_L]; exact Nat.le_refl _)] at h1;exact h1
                     have RD := Lib.hid (fun W h => rdline_any odd (by omega) W h)
                     rcases rd_cases odd with ⟨y, hy⟩ | hn
                     · rw [hy] at RD
                       unfold rdAns M.val M.cells at RD;simp only at RD;clear hy hno;go_wp2_with fail;refine (RD.out _ (HL.out.later B8.out)).mono ?_;rintro e w10 ⟨rfl, b10⟩;have B10 := Lib.hid (B8.out.trans (b10.mono B8.out.size));clear b10
                       go_upto_region 25 with (fail)
                       have B11 := Lib.hid (B10.out.alloc B10.out.size (.cells #[.int .u8 y.k, .int .i64 y.co, .int .i64 y.n, .int .u32 y.ino, .int .u8 y.d, .string (B y.p), .string (B y.p2), .int .i64 y.fd, .int .i64 y.pg, .int .u32 y.sz, .string (B y.da), .string (B y.t)] 40))
                       generalize w10.alloc (.cells #[.int .u8 y.k, .int .i64 y.co, .int .i64 y.n, .int .u32 y.ino, .int .u8 y.d, .string (B y.p), .string (B y.p2), .int .i64 y.fd, .int .i64 y.pg, .int .u32 y.sz, .string (B y.da), .string (B y.t)] 40) = w11 at *
                       clear B10;go_wp2_with fail;refine (AL.out _ (HL.out.later B11.out)).mono ?_;rintro e wz ⟨rfl, bz⟩;have BZ := Lib.hid (B11.out.trans (bz.mono B11.out.size));clear bz;go_wp2_with fail;go_ret;exact ⟨rfl, BZ.out⟩
                     · have hz2 := Z2'.out
                       have hzt := ZT.out;have hzl := ZL.out;have hbb := HB'.out;have hl150 := K0.out
                       by_cases hlong : 262144 ≤ st2.size + odd.size
                       · rw [hn] at RD
                         unfold rdAns M.val M.cells at RD;simp only at RD;have t5 : decide ((262144 : Int) ≤ (st2.size : Int) + (odd.size : Int)) = true := decide_eq_true (by omega);have t7 : decide ((st2.size : Int) + (odd.size : Int) < (262144 : Int)) = false := decide_eq_false (by omega);have t6 : IntKind.i64.wrap ((st2.size : Int) + (odd.size : Int)) = (st2.size : Int) + (odd.size : Int) := IntWalk.i64_in _ (by omega);clear hn hno hz2 hzt hzl hbb hlong hl150;go_wp2_with fail;refine (RD.out _ (HL.out.later B8.out)).mono ?_;rintro e w10 ⟨rfl, b10⟩;have B10 := Lib.hid (B8.out.trans (b10.mono B8.out.size));clear b10
                         go_upto_region 25 with (fail)
                         have B11 := Lib.hid (B10.out.alloc B10.out.size (.cells #[.int .u8 M.zero.k, .int .i64 M.zero.co, .int .i64 M.zero.n, .int .u32 M.zero.ino, .int .u8 M.zero.d, .string (B M.zero.p), .string (B M.zero.p2), .int .i64 M.zero.fd, .int .i64 M.zero.pg, .int .u32 M.zero.sz, .string (B M.zero.da), .string (B M.zero.t)] 40))
                         generalize w10.alloc (.cells #[.int .u8 M.zero.k, .int .i64 M.zero.co, .int .i64 M.zero.n, .int .u32 M.zero.ino, .int .u8 M.zero.d, .string (B M.zero.p), .string (B M.zero.p2), .int .i64 M.zero.fd, .int .i64 M.zero.pg, .int .u32 M.zero.sz, .string (B M.zero.da), .string (B M.zero.t)] 40) = w11 at *
                         clear B10;go_wp2_with fail;refine (AL.out _ (HL.out.later B11.out)).mono ?_;rintro e wz ⟨rfl, bz⟩;have BZ := Lib.hid (B11.out.trans (bz.mono B11.out.size));clear bz;go_wp2_with fail;go_ret;exact ⟨rfl, BZ.out⟩
                       · have RO := Lib.hid (fun W h => reads_odd c hc l more Z0.out HM.out (L odd) hno hn (by rw [len_L]; omega) (by rw [len_L]; omega) W h)
                         rw [hn] at RD;unfold rdAns M.val M.cells at RD;simp only at RD
                         have hcat3 : B (writeT c l ++ L odd ++ 10 :: linesT more) = st ++ odd ++ (⟨#[10]⟩ : ByteArray) ++ tl := by
                           rw [show writeT c l ++ L odd ++ 10 :: linesT more = writeT c l ++ L odd ++ [10] ++ linesT more by simp, ← B_append, ← B_append, ← B_append, Z1.out, HT.out, B_L]
                           rfl
                         generalize B (writeT c l ++ L odd ++ 10 :: linesT more) = st3 at RO hcat3
                         replace hcat3 := hcat3.symm
                         unfold rdV Cf.val Cf.zero at RO
                         generalize hnl : ((8 + l.length : Nat) : Int) = nl at RO
                         have w2 : IntKind.i64.wrap (8 + (l.length : Int)) = nl := by rw [IntWalk.i64_in _ (by omega)]; omega
                         have q2 : (nl == nl) = true := by simp
                         have t5 : decide ((262144 : Int) ≤ (st2.size : Int) + (odd.size : Int)) = false := decide_eq_false (by omega);have t7 : decide ((st2.size : Int) + (odd.size : Int) < (262144 : Int)) = true := decide_eq_true (by omega);have t6 : IntKind.i64.wrap ((st2.size : Int) + (odd.size : Int)) = (st2.size : Int) + (odd.size : Int) := IntWalk.i64_in _ (by omega);have zs9 : st.size ≤ 262144 := ZS.out;have zt9 : tl.size ≤ 500000 := ZTL.out;clear hn hno hz2 hzt hzl hnl hbb hlong hl150;go_wp2_with fail;refine (RD.out _ (HL.out.later B8.out)).mono ?_;rintro e w10 ⟨rfl, b10⟩;have B10 := Lib.hid (B8.out.trans (b10.mono B8.out.size));clear b10
                         go_upto_region 25 with (fail)
                         have B11 := Lib.hid (B10.out.alloc B10.out.size (.cells #[.int .u8 M.zero.k, .int .i64 M.zero.co, .int .i64 M.zero.n, .int .u32 M.zero.ino, .int .u8 M.zero.d, .string (B M.zero.p), .string (B M.zero.p2), .int .i64 M.zero.fd, .int .i64 M.zero.pg, .int .u32 M.zero.sz, .string (B M.zero.da), .string (B M.zero.t)] 40))
                         generalize w10.alloc (.cells #[.int .u8 M.zero.k, .int .i64 M.zero.co, .int .i64 M.zero.n, .int .u32 M.zero.ino, .int .u8 M.zero.d, .string (B M.zero.p), .string (B M.zero.p2), .int .i64 M.zero.fd, .int .i64 M.zero.pg, .int .u32 M.zero.sz, .string (B M.zero.da), .string (B M.zero.t)] 40) = w11 at *
                         clear B10;go_wp2_with fail;refine (RO.out _ (HL.out.later B11.out)).mono ?_;rintro e w12 ⟨b12, rfl⟩;have B12 := Lib.hid (B11.out.trans (b12.mono B11.out.size));clear b12
                         go_upto_region 28 with (fail)
                         have B13 := Lib.hid (B12.out.alloc B12.out.size (.cells #[.int .i64 0, .int .i64 0, .int .i64 0, .int .i64 0, .int .i64 0, .int .i64 0] 27))
                         generalize w12.alloc (.cells #[.int .i64 0, .int .i64 0, .int .i64 0, .int .i64 0, .int .i64 0, .int .i64 0] 27) = w13 at *
                         clear B12;go_wp2_with fail;refine (AL.out _ (HL.out.later B13.out)).mono ?_;rintro e wz ⟨rfl, bz⟩;have BZ := Lib.hid (B13.out.trans (bz.mono B13.out.size));clear bz;go_wp2_with fail;go_ret;exact ⟨rfl, BZ.out⟩
         · have t1 : (ec == 0) = false := by simpa using hz
           go_wp2_with fail;refine (AL.out _ (HL.out.later B5.out)).mono ?_;rintro e wz ⟨rfl, bz⟩;have BZ := Lib.hid (B5.out.trans (bz.mono B5.out.size));clear bz;go_wp2_with fail;go_ret;exact ⟨rfl, BZ.out⟩
 end Go.Proofs.YtkljcgopikdjjaaGreatDoor.Tx
end
