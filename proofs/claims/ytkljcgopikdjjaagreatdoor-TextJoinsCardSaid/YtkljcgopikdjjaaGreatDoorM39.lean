/- Layer 37 (text): Read, its loop's law and its ends. -/
import Derived.Test.YtkljcgopikdjjaaGreatDoorM38
import Derived.Test.YtkljcgopikdjjaaGreatDoorM37
import Derived.Test.YtkljcgopikdjjaaGreatDoorM35
import Derived.BigRegion
import Derived.Deep.RegionLawGrows
import Derived.Deep.AppendLies
import Derived.Test.YtkljcgopikdjjaaGreatDoorM07
import Derived.Test.YtkljcgopikdjjaaGreatDoorM13
set_option linter.unusedVariables false
set_option linter.unusedSimpArgs false
set_option maxRecDepth 100000
section
namespace Go.Proofs.YtkljcgopikdjjaaGreatDoor.Tx
set_option maxRecDepth 100000
set_option maxHeartbeats 1000000
open Go.RowKit Go.Shelf Go.Maps Oct
def rdV (c : Cf) (v : Value) (n er : Int) : Ending := .returned (.tuple #[c.val, v, .int .i64 n, .int .i64 er])
def ReadAns (s : List UInt8) (w : World) (e : Ending) (w' : World) : Prop :=
 Below w.heap.size w w' ∧ ((262144 < s.length ∧ e = rdV Cf.zero (.slice none 0 0) 0 5) ∨ (s.length ≤ 262144 ∧ ∃ m : Nat, readQ s = .inl m ∧ e = rdV Cf.zero (.slice none 0 0) m 370) ∨
   (s.length ≤ 262144 ∧ ∃ c l p cap g, readQ s = .inr (c, l) ∧ e = rdV c (.slice p l.length cap) 0 0 ∧ LM w' p g 0 l))
theorem readQ_of {s : List UInt8} : readQ s = match rGo (confQ (linesQ s).1) (linesQ s).1 0 [] with
   | .inl n => .inl n
   | .inr l => if (linesQ s).2 ≠ [] ∨ (linesQ s).1.length < 7 then .inl ((linesQ s).1.length + 1) else if (confQ (linesQ s).1).may = true then .inr (confQ (linesQ s).1, l) else .inl 7 := by
 rw [← ref_read]
 rfl
theorem headC_at (c : Cf) (k : Nat) (hk : k < 7) : (headC c)[k]? = some (.string (B (headQ c k))) := by
 match k, hk with
 | 0, _ | 1, _ | 2, _ | 3, _ | 4, _ | 5, _ | 6, _ => rfl
theorem info_Cmd2 : ∃ i, Tryz.prog.info? 40 = some i ∧ i.zero = some (.agg M.zero.cells) ∧ i.size = 12 ∧ i.bytes = 128 := info_parts (by kernel_rfl)
theorem rd_err {s : List UInt8} {w W : World} {tm : Array Value} {n : Nat} (hZ : SBox W w.heap.size 27 Cf.zero.cells) (hB : Below w.heap.size w W) (h2 : tm[2]? = some (.pointer (some ⟨w.heap.size, 0, none⟩))) (h3 : tm[3]? = some (.slice none 0 0)) (h4 : tm[4]? = some (.int .i64 (n : Int))) (h5 : tm[5]? = some (.int .i64 370)) (hs : s.length ≤ 262144) (hR : readQ s = .inl n) :
   bodyPost Tryz.prog Tryz.f24 (ReadAns s w) Exit.ret { tmps := tm, defers := [] } (fillC W w.heap.size Cf.zero) := by
 have HF := fillC_box hZ Cf.zero;have HT := fillC_tch W w.heap.size Cf.zero;have hsw := hB.size;have hwl := hZ.lt;have hb9 : Below w.heap.size w (fillC W w.heap.size Cf.zero) := hB.trans (HT.below fun i hi => ⟨by omega, by omega⟩);unfold Cf.cells at HF
 generalize fillC W w.heap.size Cf.zero = w99 at *
 have G0 := HF.cell 0;have G1 := HF.cell 1;have G2 := HF.cell 2;have G3 := HF.cell 3;have G4 := HF.cell 4;have G5 := HF.cell 5;simp only [List.getElem?_toArray, List.getElem?_cons_zero, List.getElem?_cons_succ] at G0 G1 G2 G3 G4 G5;have Gl := HF.lt;refine bodyPost_ret (v := .tuple #[Cf.zero.val, .slice none 0 0, .int .i64 n, .int .i64 370]) ?_ rfl ⟨hb9, .inr (.inl ⟨hs, n, hR, rfl⟩)⟩
 simp [results, Tryz.f24, go_sem, h2, h3, h4, h5, G0, G1, G2, G3, G4, G5, Cf.val, Cf.zero]
theorem rd_errA {s : List UInt8} {w W : World} {tm : Array Value} {n : Nat} (ob : Obj) (hZ : SBox W w.heap.size 27 Cf.zero.cells) (hB : Below w.heap.size w W) (h2 : tm[2]? = some (.pointer (some ⟨w.heap.size, 0, none⟩))) (h3 : tm[3]? = some (.slice none 0 0)) (h4 : tm[4]? = some (.int .i64 (n : Int))) (h5 : tm[5]? = some (.int .i64 370)) (hs : s.length ≤ 262144) (hR : readQ s = .inl n) :
   bodyPost Tryz.prog Tryz.f24 (ReadAns s w) Exit.ret { tmps := tm, defers := [] } ((fillC W w.heap.size Cf.zero).alloc ob) := by
 have HF := fillC_box hZ Cf.zero;have HT := fillC_tch W w.heap.size Cf.zero;have hsw := hB.size;have hwl := hZ.lt;have hb9 : Below w.heap.size w (fillC W w.heap.size Cf.zero) := hB.trans (HT.below fun i hi => ⟨by omega, by omega⟩);have HF := HF.alloc ob;have hb9 := hb9.alloc (by have := HT.size; omega) ob;unfold Cf.cells at HF
 generalize (fillC W w.heap.size Cf.zero).alloc ob = w99 at *
 have G0 := HF.cell 0;have G1 := HF.cell 1;have G2 := HF.cell 2;have G3 := HF.cell 3;have G4 := HF.cell 4;have G5 := HF.cell 5;simp only [List.getElem?_toArray, List.getElem?_cons_zero, List.getElem?_cons_succ] at G0 G1 G2 G3 G4 G5;have Gl := HF.lt;refine bodyPost_ret (v := .tuple #[Cf.zero.val, .slice none 0 0, .int .i64 n, .int .i64 370]) ?_ rfl ⟨hb9, .inr (.inl ⟨hs, n, hR, rfl⟩)⟩
 simp [results, Tryz.f24, go_sem, h2, h3, h4, h5, G0, G1, G2, G3, G4, G5, Cf.val, Cf.zero]
theorem rd_ok {s : List UInt8} {w W : World} {tm : Array Value} {c : Cf} {l : List M} {p : Option Addr} {cap g : Nat} (hZ : SBox W w.heap.size 27 Cf.zero.cells) (hB : Below w.heap.size w W) (hL : LM W p g 0 l) (hg : l ≠ [] → w.heap.size < g) (h2 : tm[2]? = some (.pointer (some ⟨w.heap.size, 0, none⟩))) (h3 : tm[3]? = some (.slice p l.length cap)) (h4 : tm[4]? = some (.int .i64 0)) (h5 : tm[5]? = some (.int .i64 0)) (hs : s.length ≤ 262144) (hR : readQ s = .inr (c, l)) :
   bodyPost Tryz.prog Tryz.f24 (ReadAns s w) Exit.ret { tmps := tm, defers := [] } (fillC W w.heap.size c) := by
 have HF := fillC_box hZ c;have HT := fillC_tch W w.heap.size c;have hsw := hB.size;have hwl := hZ.lt;have hb9 : Below w.heap.size w (fillC W w.heap.size c) := hB.trans (HT.below fun i hi => ⟨by omega, by omega⟩)
 have hL9 : LM (fillC W w.heap.size c) p g 0 l := fun hn => by
   have hg2 := hg hn;exact (hL.blk HT.size fun h => HT.block g h (by omega)) hn
 unfold Cf.cells at HF
 generalize fillC W w.heap.size c = w99 at *
 have G0 := HF.cell 0;have G1 := HF.cell 1;have G2 := HF.cell 2;have G3 := HF.cell 3;have G4 := HF.cell 4;have G5 := HF.cell 5;simp only [List.getElem?_toArray, List.getElem?_cons_zero, List.getElem?_cons_succ] at G0 G1 G2 G3 G4 G5;have Gl := HF.lt;refine bodyPost_ret (v := .tuple #[c.val, .slice p l.length cap, .int .i64 0, .int .i64 0]) ?_ rfl ⟨hb9, .inr (.inr ⟨hs, c, l, p, cap, g, hR, rfl, hL9⟩)⟩
 simp [results, Tryz.f24, go_sem, h2, h3, h4, h5, G0, G1, G2, G3, G4, G5, Cf.val]
set_option maxHeartbeats 40000000 in
theorem rread_any (s : ByteArray) (hs : s.size ≤ 300000) (hline : ∀ v ∈ (linesQ (L s)).1, v.length ≤ 20000) (w : World) (hl : Lay w) : Calls Tryz.prog 24 #[.string s] w (ReadAns (L s) w) := by
 obtain ⟨i0, hi, hz0, hz1, hz2⟩ := info_Cmd2;have hLs := len_L s;have h1 := SBox.new w 27 Cf.zero.cells;have b1 := (Below.refl w.heap.size w).alloc (Nat.le_refl _) (.cells Cf.zero.cells 27);have h2 := h1.later ((Below.refl _ _).alloc (Nat.le_refl _) (.cells Cf.zero.cells 27));have h3 := SBox.new' (b := w.heap.size + 1) (w.alloc (.cells Cf.zero.cells 27)) 27 Cf.zero.cells (by simp);have b3 := b1.alloc (by simp) (.cells Cf.zero.cells 27);have Z0 := Lib.hid h2;have Z1 := Lib.hid h3;have BB := Lib.hid b3;have HL := Lib.hid hl;have LI := Lib.hid (fun W => rlines_any s W hs);have HLE := Lib.hid hline;clear h1 b1 h2 h3 b3 hl;unfold Cf.zero Cf.cells at Z0 Z1 BB;have y0 := Z0.out;have y1 := Z1.out;have X0 := y0.cell 0;have X1 := y0.cell 1;have X2 := y0.cell 2;have X3 := y0.cell 3;have X4 := y0.cell 4;have X5 := y0.cell 5;simp only [List.getElem?_toArray, List.getElem?_cons_zero, List.getElem?_cons_succ] at X0 X1 X2 X3 X4 X5;have Xl := y0.lt;have F0 := y0.free 0;have F1 := y0.free 1;have F2 := y0.free 2;have F3 := y0.free 3;have F4 := y0.free 4;have F5 := y0.free 5;have Y0 := y1.cell 0;have Y1 := y1.cell 1;have Y2 := y1.cell 2;have Y3 := y1.cell 3;have Y4 := y1.cell 4;have Y5 := y1.cell 5;simp only [List.getElem?_toArray, List.getElem?_cons_zero, List.getElem?_cons_succ] at Y0 Y1 Y2 Y3 Y4 Y5;have Yl := y1.lt;clear y0 y1
 go_enter Tryz.func24, Tryz.ntmps24
 by_cases hbig : 262144 < s.size
 · have t1 : (262144 : Int) < s.size := by omega
   go_wp2_with fail;exact bodyPost_ret (v := .tuple #[Cf.zero.val, .slice none 0 0, .int .i64 0, .int .i64 5]) (by simp [results, Tryz.f24, go_sem, X0, X1, X2, X3, X4, X5, Cf.val, Cf.zero]) rfl ⟨BB.out, .inl ⟨by omega, rfl⟩⟩
 · have t1 : ¬ (262144 : Int) < s.size := by omega
   go_wp2_with fail;refine (LI.out _).mono ?_;rintro e w1 ⟨v1, rfl, hown, hb1⟩;rw [show (linesQ (L s)).1.length = (linesQ (L s)).1.length from rfl] at hown;obtain ⟨pl, cl, gl, rfl, hcl, hls⟩ := LS.own hown;have hw1 := hb1.size;simp only [World.alloc, Array.size_push] at hw1;have Z01 := Lib.hid (Z0.out.later hb1);have Z11 := Lib.hid (Z1.out.later hb1);have HB1 := Lib.hid (BB.out.trans (hb1.mono BB.out.size));have hll := lines_len (L s);have CN := Lib.hid (rconf_any (linesQ (L s)).1 (by omega) (fun v hv => by have := HLE.out v hv; omega) pl gl cl w1 (HL.out.later HB1.out) hls);have HLS := Lib.hid hls;have hn : (linesQ (L s)).1.length ≤ 300000 := by omega
   have RQ := Lib.hid (readQ_of (s := L s));have HLN : Hid (∀ v ∈ (linesQ (L s)).1, v.length ≤ 20000) := HLE
   generalize (linesQ (L s)).1 = ls at *
   generalize (linesQ (L s)).2 = rest at *
   have hcf : (confQ ls).In := fun k => by
     by_cases hk : k < 6
     · rw [conf_get ls k hk]
       unfold cnfN
       split
       · exact cnf_in _
       · decide
     · have : (confQ ls).get k = (confQ ls).get 5 := by
         match k, hk with
         | k + 6, _ => rfl
       rw [this, conf_get ls 5 (by decide)];unfold cnfN
       split
       · exact cnf_in _
       · decide
   have HH := Lib.hid (fun W h => rhead_any (confQ ls) hcf W h);have MY := Lib.hid (fun W => rmay37 (confQ ls) W)
   generalize confQ ls = cq at *
   clear hown hb1 hls hll hline HLE LI hcf X0 X1 X2 X3 X4 X5 Xl F0 F1 F2 F3 F4 F5 Y0 Y1 Y2 Y3 Y4 Y5 Yl Z0 Z1 BB;unfold Cf.val at CN MY HH;go_wp2_with fail;refine CN.out.mono ?_;rintro e w2 ⟨rfl, hb2⟩;have hB2 := HB1.out.trans (hb2.mono HB1.out.size);have q9 := SBox.new w2 27 cq.cells;have hb9 := (Below.refl w2.heap.size w2).alloc (Nat.le_refl _) (.cells cq.cells 27);have Q9 := Lib.hid q9;have HB3 := Lib.hid (hB2.trans (hb9.mono hB2.size));have Z03 := Lib.hid ((Z01.out.later hb2).later hb9);have Z13 := Lib.hid ((Z11.out.later hb2).later hb9);have LS3 := Lib.hid ((HLS.out.later hb2).later hb9);have hw2 := hb2.size;unfold Cf.cells at q9;have P0 := q9.cell 0;have P1 := q9.cell 1;have P2 := q9.cell 2;have P3 := q9.cell 3;have P4 := q9.cell 4;have P5 := q9.cell 5;simp only [List.getElem?_toArray, List.getElem?_cons_zero, List.getElem?_cons_succ] at P0 P1 P2 P3 P4 P5;have Pl := q9.lt;clear hb2 hB2 q9 hb9 Z01 Z11 HLS HB1;go_wp2_with fail;refine (HH.out _ (HL.out.later HB3.out)).mono ?_;rintro e wz ⟨r, rfl, hr, hrz, hbz⟩;have Q := Lib.hid (Q9.out.later hbz);have Z0 := Lib.hid (Z03.out.later hbz);have Z1 := Lib.hid (Z13.out.later hbz);have BB := Lib.hid (HB3.out.trans (hbz.mono HB3.out.size));have LL := Lib.hid (LS3.out.later hbz);have HR := Lib.hid hr;have hsz := hbz.size;simp only [World.alloc, Array.size_push] at hsz;clear P0 P1 P2 P3 P4 P5 Pl hr hbz Q9 Z03 Z13 LS3 HB3 HH CN
   go_wp2
   go_loopw [11, 12] (fun v i wr => ∃ (k : Nat) (l : List M), k ≤ ls.length ∧ l.length ≤ k ∧ i = .int .i64 k ∧ rGo cq ls 0 [] = rGo cq (ls.drop k) k l ∧ wr.ownsRow wz.heap.size 40 12 v l.length (rowM l) ∧ Below wz.heap.size wz wr) (fun _ i _ => ls.length - (intOf i).toNat)
   case atStart => exact ⟨0, [], by omega, by simp, rfl, by simp, ⟨rfl, .inl ⟨rfl, rfl⟩⟩, Below.refl _ _⟩
   case round =>
     obtain ⟨k, l, hk, hlk, rfl, hgo, hown, hb⟩ := hrel;have hbs := hb.size;have Z0r := Lib.hid (Z0.out.later hb);have Z1r := Lib.hid (Z1.out.later hb);have BBr := Lib.hid (BB.out.trans (hb.mono BB.out.size));have HB := Lib.hid hb;have HG := Lib.hid hgo;have HO := Lib.hid hown;have LLr := Lib.hid (LL.out.later hb);clear hb hgo hown
     by_cases hlt : k < ls.length
     · obtain ⟨u, hu⟩ : ∃ u, ls[k]? = some u := ⟨_, List.getElem?_eq_getElem hlt⟩
       have hd : ls.drop k = u :: ls.drop (k + 1) := by
         rw [List.drop_eq_getElem_cons hlt];rw [List.getElem?_eq_getElem hlt] at hu
         injection hu with hu
         rw [hu]
       have hul := HLN.out u (List.mem_of_getElem? hu);obtain ⟨rfl, hgl, hc⟩ := LLr.out.get hu;have t2 : (k : Int) < ls.length := by omega
       have w1 : IntKind.i64.wrap ((k : Int) + 1) = ((k + 1 : Nat) : Int) := by rw [IntWalk.i64_in _ (by omega)]; omega
       by_cases h7 : k < 7
       · have t3 : (k : Int) < 7 := by omega
         have hrc := ((HR.out.later HB.out).cell k).trans (headC_at cq k h7);have hrl := (HR.out.later HB.out).lt
         by_cases heq : u = headQ cq k
         · have HG2 := Lib.hid (show rGo cq ls 0 [] = rGo cq (ls.drop (k + 1)) (k + 1) l by
             rw [HG.out, hd]; simp only [rGo]; rw [if_pos h7, if_pos heq])
           rw [← heq] at hrc;have q1 : ((B u).toList == (B u).toList) = true := by simp
           clear heq hd hu;go_wp2_with fail
           go_quiet (fail)
           have hqq := below_drewN wr nq;have HBq := Lib.hid (HB.out.trans (hqq.mono HB.out.size));have HOq : Hid ((wr.drewN nq).ownsRow wz.heap.size 40 12 u11 l.length (rowM l)) := HO;clear hqq
           go_wp2
           exact ⟨⟨k + 1, l, by omega, by omega, by go_num, HG2.out, HOq.out, HBq.out⟩, by simp [intOf]; omega⟩
         · have RE := Lib.hid (show readQ (L s) = .inl (k + 1) by
             rw [RQ.out, HG.out, hd]; simp only [rGo]; rw [if_pos h7, if_neg heq])
           have q1 := B_ne heq;clear heq hd hu;go_wp2_with fail
           go_quiet (fail)
           have hqq := below_drewN wr nq;have Z0q := Lib.hid (Z0r.out.later hqq);have Z1q := Lib.hid (Z1r.out.later hqq);have BBq := Lib.hid (BBr.out.trans (hqq.mono BBr.out.size));have y0 := Z0q.out;have y1 := Z1q.out;have X0 := y0.cell 0;have X1 := y0.cell 1;have X2 := y0.cell 2;have X3 := y0.cell 3;have X4 := y0.cell 4;have X5 := y0.cell 5;simp only [List.getElem?_toArray, List.getElem?_cons_zero, List.getElem?_cons_succ] at X0 X1 X2 X3 X4 X5;have Xl := y0.lt;have F0 := y0.free 0;have F1 := y0.free 1;have F2 := y0.free 2;have F3 := y0.free 3;have F4 := y0.free 4;have F5 := y0.free 5;have Y0 := y1.cell 0;have Y1 := y1.cell 1;have Y2 := y1.cell 2;have Y3 := y1.cell 3;have Y4 := y1.cell 4;have Y5 := y1.cell 5;simp only [List.getElem?_toArray, List.getElem?_cons_zero, List.getElem?_cons_succ] at Y0 Y1 Y2 Y3 Y4 Y5;have Yl := y1.lt;clear y0 y1 hqq hrc hc
           generalize wr.drewN nq = wq at *
           go_wp2_with fail;exact rd_err (W := wq) (n := k + 1) (Z0q.out) (BBq.out) rfl rfl (by first | rfl | (simp; done) | go_num) rfl (by omega) RE.out
       · have hrs := HO.out
         have RL := Lib.hid (fun W h => rreadline_any (B u) (by rw [size_B]; omega) W h);rw [L_B] at RL;have t3 : ¬ (k : Int) < 7 := by omega
         cases ho : stepL mayM u with
         | none =>
           have RE := Lib.hid (show readQ (L s) = .inl (k + 1) by
             rw [RQ.out, HG.out, hd]; simp only [rGo]; rw [if_neg h7, ho])
           rw [ho] at RL;unfold rdAns M.val M.cells M.zero at RL;simp only at RL;clear hd hu ho hrs;go_wp2_with fail;refine (RL.out _ (HL.out.later BBr.out)).mono ?_;rintro e w5 ⟨rfl, hb5⟩;have HB5 := Lib.hid hb5;have y0 := Z0r.out.later hb5;have y1 := Z1r.out.later hb5;have X0 := y0.cell 0;have X1 := y0.cell 1;have X2 := y0.cell 2;have X3 := y0.cell 3;have X4 := y0.cell 4;have X5 := y0.cell 5;simp only [List.getElem?_toArray, List.getElem?_cons_zero, List.getElem?_cons_succ] at X0 X1 X2 X3 X4 X5;have Xl := y0.lt;have F0 := y0.free 0;have F1 := y0.free 1;have F2 := y0.free 2;have F3 := y0.free 3;have F4 := y0.free 4;have F5 := y0.free 5;have Y0 := y1.cell 0;have Y1 := y1.cell 1;have Y2 := y1.cell 2;have Y3 := y1.cell 3;have Y4 := y1.cell 4;have Y5 := y1.cell 5;simp only [List.getElem?_toArray, List.getElem?_cons_zero, List.getElem?_cons_succ] at Y0 Y1 Y2 Y3 Y4 Y5;have Yl := y1.lt;clear y0 y1 hb5 hc;go_wp2_with fail;exact rd_errA (W := w5) (n := k + 1) _ (Z0r.out.later HB5.out) (BBr.out.trans (HB5.out.mono BBr.out.size)) rfl rfl (by first | rfl | (simp; done) | go_num) rfl (by omega) RE.out
         | some x =>
           have HG2 := Lib.hid (show rGo cq ls 0 [] = rGo cq (ls.drop (k + 1)) (k + 1) (l ++ [x]) by
             rw [HG.out, hd]; simp only [rGo]; rw [if_neg h7, ho])
           rw [ho] at RL;unfold rdAns M.val M.cells at RL;simp only at RL;clear hd hu ho hrs;go_wp2_with fail;refine (RL.out _ (HL.out.later BBr.out)).mono ?_;rintro e w5 ⟨rfl, hb5⟩;have O5 := Lib.hid (ownsRow_later (ownsRow_later HO.out hb5) ((Below.refl w5.heap.size w5).alloc (Nat.le_refl _) (.cells x.cells 40)));have HB5 := Lib.hid ((HB.out.trans (hb5.mono HB.out.size)).alloc (HB.out.trans (hb5.mono HB.out.size)).size (.cells x.cells 40));have hs5 := (HB.out.trans (hb5.mono HB.out.size)).size;clear hb5 hc;unfold M.cells at O5 HB5
           go_wp2_with (at_builtin; refine wpList_append_lies _ rfl _ _ 28 rfl wz.heap.size 40 i0 (.agg M.zero.cells) 12 128 Tryz.underlying28 hi hz0 hz1 hz2 rfl (by decide) _ l.length (rowM l) rfl (World.ownsRow.alloc O5.out _) ⟨w5.heap.size + 1, 0, none⟩ 1 1 [.int .u8 x.k, .int .i64 x.co, .int .i64 x.n, .int .u32 x.ino, .int .u8 x.d, .string (B x.p), .string (B x.p2), .int .i64 x.fd, .int .i64 x.pg, .int .u32 x.sz, .string (B x.da), .string (B x.t)] rfl rfl (World.news_of_block (SBox.new' _ _ _ (by simp))) (by intro u hu; simp at hu; rcases hu with rfl | rfl | rfl | rfl | rfl | rfl | rfl | rfl | rfl | rfl | rfl | rfl <;> rfl) (by decide) (by unfold maxLen; omega) (by omega) (by simp; omega) _ rfl ?_; intro g9 cap9 w9 hown9 hgrow9 hat9 hlt9; have B9 := Lib.hid ((HB5.out.alloc HB5.out.size (.cells x.cells 40)).grown hgrow9 (by simp; omega) (fun q e => (O5.out.lt q e).1)); have O9 := Lib.hid hown9; clear hown9 hgrow9 hat9)
           refine ⟨⟨k + 1, l ++ [x], by omega, by simp; omega, by go_num, HG2.out, ?_, B9.out⟩, by simp [intOf]; omega⟩;have h := O9.out;rw [rowM_app]
           simpa [M.cells] using h
     · have hke : k = ls.length := by omega
       subst hke
       have RG := Lib.hid (show rGo cq ls 0 [] = .inr l by
         rw [HG.out, List.drop_of_length_le (Nat.le_refl _)]; rfl)
       have t2 : ¬ (ls.length : Int) < ls.length := by omega
       have w1 : IntKind.i64.wrap ((ls.length : Int) + 1) = ((ls.length + 1 : Nat) : Int) := by rw [IntWalk.i64_in _ (by omega)]; omega
       have y0 := Z0r.out;have y1 := Z1r.out
       by_cases hbad : rest ≠ [] ∨ ls.length < 7
       · have RE := Lib.hid (show readQ (L s) = .inl (ls.length + 1) by
           rw [RQ.out, RG.out]; simp only; rw [if_pos hbad])
         have X0 := y0.cell 0;have X1 := y0.cell 1;have X2 := y0.cell 2;have X3 := y0.cell 3;have X4 := y0.cell 4;have X5 := y0.cell 5;simp only [List.getElem?_toArray, List.getElem?_cons_zero, List.getElem?_cons_succ] at X0 X1 X2 X3 X4 X5;have Xl := y0.lt;have F0 := y0.free 0;have F1 := y0.free 1;have F2 := y0.free 2;have F3 := y0.free 3;have F4 := y0.free 4;have F5 := y0.free 5;have Y0 := y1.cell 0;have Y1 := y1.cell 1;have Y2 := y1.cell 2;have Y3 := y1.cell 3;have Y4 := y1.cell 4;have Y5 := y1.cell 5;simp only [List.getElem?_toArray, List.getElem?_cons_zero, List.getElem?_cons_succ] at Y0 Y1 Y2 Y3 Y4 Y5;have Yl := y1.lt;clear y0 y1
         by_cases hre : rest = []
         · have h7 : ls.length < 7 := by
             rcases hbad with h | h
             · exact absurd hre h
             · exact h
           have g0 : (B rest).toList.isEmpty = true := by rw [hre, Path.toList_L]; rfl
           have t3 : (ls.length : Int) < 7 := by omega
           clear hre hbad;go_wp2_with fail;exact rd_err (W := wr) (n := ls.length + 1) (Z0r.out) (BBr.out) rfl rfl (by first | rfl | (simp; done) | go_num) rfl (by omega) RE.out
         · have g0 : (B rest).toList.isEmpty = false := empty_no (List.length_pos_iff.mpr hre)
           clear hre hbad;go_wp2_with fail;exact rd_err (W := wr) (n := ls.length + 1) (Z0r.out) (BBr.out) rfl rfl (by first | rfl | (simp; done) | go_num) rfl (by omega) RE.out
       · have hre : rest = [] := by
           by_cases h : rest = []
           · exact h
           · exact absurd (.inl h) hbad
         have h7 : ¬ ls.length < 7 := fun h => hbad (.inr h);have g0 : (B rest).toList.isEmpty = true := by rw [hre, Path.toList_L]; rfl
         have t3 : ¬ (ls.length : Int) < 7 := by omega
         have hq := Q.out.later HB.out;have HQr := Lib.hid hq;unfold Cf.cells at hq;have P0 := hq.cell 0;have P1 := hq.cell 1;have P2 := hq.cell 2;have P3 := hq.cell 3;have P4 := hq.cell 4;have P5 := hq.cell 5;simp only [List.getElem?_toArray, List.getElem?_cons_zero, List.getElem?_cons_succ] at P0 P1 P2 P3 P4 P5;have Pl := hq.lt;cases hm : cq.may with
         | false =>
           have RE := Lib.hid (show readQ (L s) = .inl 7 by
             rw [RQ.out, RG.out]; simp only; rw [if_neg hbad, hm]; rfl)
           rw [hm] at MY;clear hre hbad hm hq y0 y1;go_wp2_with fail;refine (MY.out _).mono ?_;rintro e w5 ⟨rfl, hb5⟩;have Z0q := Lib.hid (Z0r.out.later hb5);have Z1q := Lib.hid (Z1r.out.later hb5);have BBq := Lib.hid (BBr.out.trans (hb5.mono BBr.out.size));have y0 := Z0q.out;have y1 := Z1q.out;have X0 := y0.cell 0;have X1 := y0.cell 1;have X2 := y0.cell 2;have X3 := y0.cell 3;have X4 := y0.cell 4;have X5 := y0.cell 5;simp only [List.getElem?_toArray, List.getElem?_cons_zero, List.getElem?_cons_succ] at X0 X1 X2 X3 X4 X5;have Xl := y0.lt;have F0 := y0.free 0;have F1 := y0.free 1;have F2 := y0.free 2;have F3 := y0.free 3;have F4 := y0.free 4;have F5 := y0.free 5;have Y0 := y1.cell 0;have Y1 := y1.cell 1;have Y2 := y1.cell 2;have Y3 := y1.cell 3;have Y4 := y1.cell 4;have Y5 := y1.cell 5;simp only [List.getElem?_toArray, List.getElem?_cons_zero, List.getElem?_cons_succ] at Y0 Y1 Y2 Y3 Y4 Y5;have Yl := y1.lt;clear y0 y1 hb5 P0 P1 P2 P3 P4 P5 Pl;go_wp2_with fail;exact rd_err (W := w5) (n := 7) (Z0q.out) (BBq.out) rfl rfl (by first | rfl | (simp; done) | go_num) rfl (by omega) RE.out
         | true =>
           have RE := Lib.hid (show readQ (L s) = .inr (cq, l) by
             rw [RQ.out, RG.out]; simp only; rw [if_neg hbad, hm]; rfl)
           rw [hm] at MY;clear hre hbad hm hq y0 y1;obtain ⟨pm, cm, gm, rfl, hcm, hLM⟩ := LM.own HO.out;have HLM := Lib.hid hLM
           have HGM : Hid (l ≠ [] → w.heap.size < gm) := Lib.hid (fun hln => by
             have h1 := hLM hln
             rcases HO.out.2 with ⟨e, _⟩ | ⟨g, c, cur, e, hg, _⟩
             · injection e with e1
               rw [h1.1] at e1;cases e1
             · rw [h1.1] at e
               cases e;omega)
           clear hLM;go_wp2_with fail;refine (MY.out _).mono ?_;rintro e w5 ⟨rfl, hb5⟩;have Z0q := Lib.hid (Z0r.out.later hb5);have BBq := Lib.hid (BBr.out.trans (hb5.mono BBr.out.size));have LMq := Lib.hid (HLM.out.later hb5);have y0 := Z0q.out;have hq := HQr.out.later hb5;unfold Cf.cells at hq;have hs5 := hb5.size;clear P0 P1 P2 P3 P4 P5 Pl hb5;have X0 := y0.cell 0;have X1 := y0.cell 1;have X2 := y0.cell 2;have X3 := y0.cell 3;have X4 := y0.cell 4;have X5 := y0.cell 5;simp only [List.getElem?_toArray, List.getElem?_cons_zero, List.getElem?_cons_succ] at X0 X1 X2 X3 X4 X5;have Xl := y0.lt;have F0 := y0.free 0;have F1 := y0.free 1;have F2 := y0.free 2;have F3 := y0.free 3;have F4 := y0.free 4;have F5 := y0.free 5;have P0 := hq.cell 0;have P1 := hq.cell 1;have P2 := hq.cell 2;have P3 := hq.cell 3;have P4 := hq.cell 4;have P5 := hq.cell 5;simp only [List.getElem?_toArray, List.getElem?_cons_zero, List.getElem?_cons_succ] at P0 P1 P2 P3 P4 P5;have Pl := hq.lt;clear y0 hq;go_wp2_with fail;exact rd_ok (W := w5) (Z0q.out) (BBq.out) LMq.out HGM.out rfl rfl rfl rfl (by omega) RE.out
end Go.Proofs.YtkljcgopikdjjaaGreatDoor.Tx
end
section
namespace Go.Proofs.YtkljcgopikdjjaaGreatDoor.Tx
set_option maxRecDepth 100000
set_option maxHeartbeats 2000000
open Go.RowKit Go.Shelf Go.Maps Oct
theorem tk_begin (s : ByteArray) (cb n3 nb n6 n7 r q : Nat) (c : Cf) (w : World) (ht : TK w cb n3 nb n6 n7 r q 6 c) :
   Calls Tryz.prog 38 #[.string s, .pointer (some ⟨nb, 0, none⟩), .pointer (some ⟨n6, 0, none⟩), .pointer (some ⟨n7, 0, none⟩), .pointer (some ⟨n3, 0, none⟩)] w fun e w' => e = (if L s = beginB then .returned (.tuple #[]) else wrongE) ∧ w = w' := by
 have HM := Lib.hid must_yes;have HNO := Lib.hid must_no;have g0 := ht.hn.cell 0;have g1 := ht.h6.cell 0;simp only [List.getElem?_toArray, List.getElem?_cons_zero] at g0 g1;clear ht
 by_cases hb : L s = beginB
 · have hs : s = B beginB := by rw [← hb, B_L]
   rw [if_pos hb];clear hb;subst hs
   have q1 : ((B beginB).toList == [98, 101, 103, 105, 110]) = true := by
     rw [Path.toList_L, L_B]; rfl
   go_enter Tryz.func38, Tryz.ntmps38
   go_wp2_with fail;refine (HM.out _).mono ?_;rintro e w8 ⟨rfl, rfl⟩;go_wp2_with fail;go_end0;exact ⟨rfl, rfl⟩
 · rw [if_neg hb]
   have q1 : (s.toList == [98, 101, 103, 105, 110]) = false := by
     rw [Path.toList_L];exact beq_eq_false_iff_ne.mpr hb
   clear hb
   go_enter Tryz.func38, Tryz.ntmps38
   go_wp2_with fail;refine (HNO.out _).mono ?_;rintro e w8 ⟨rfl, rfl⟩;unfold wrongE;go_wp2_with fail;exact ⟨rfl, rfl, rfl⟩
def StpAns (z n3 : Nat) (v0 : Value) (l : List M) (s : List UInt8) (w : World) (e : Ending) (w' : World) : Prop :=
 (match stepL mayM s with | some x => e = .returned (.tuple #[]) ∧ ∃ v, SBox w' n3 28 #[v] ∧ w'.ownsRow z 40 12 v (l.length + 1) (rowM (l ++ [x])) | none => e = wrongE ∧ Below w.heap.size w w') ∧ Tch (fun b => b = n3 ∨ some b = v0.ownBlock) w w'
theorem stp_none {z n3 : Nat} {v0 : Value} {l : List M} {s : List UInt8} {w w' : World} {tm : Array Value} (h : stepL mayM s = none) (hb : Below w.heap.size w w') : bodyPost Tryz.prog Tryz.f38 (StpAns z n3 v0 l s w) (Exit.panic [{ v := .iface 130 (.agg #[]), recovered := false }]) { tmps := tm, defers := [] } w' := by
 refine ⟨rfl, ?_⟩;unfold StpAns;rw [h];exact ⟨⟨rfl, hb⟩, Tch.of hb⟩
theorem own_tch {W W' : World} {z n3 sz n : Nat} {e : TypeId} {v : Value} {xs : List Value} (h : W.ownsRow z e sz v n xs) (ht : Tch (fun b => b = n3) W W') (hz : n3 < z) : W'.ownsRow z e sz v n xs := by
 obtain ⟨h0, h1⟩ := h;refine ⟨h0, ?_⟩
 rcases h1 with h1 | ⟨g, cap, cur, rfl, hbs, hg, r⟩
 · exact .inl h1
 · exact .inr ⟨g, cap, cur, rfl, hbs, (ht.block g (Array.getElem?_eq_some_iff.1 hg).1 (by omega)).trans hg, r⟩
theorem grown_tch {W W' : World} {n3 : Nat} {v : Value} (hg : W.grownBy W' v.ownBlock) : Tch (fun b => b = n3 ∨ some b = v.ownBlock) W W' :=
 ⟨hg.os, hg.tape, hg.output, hg.size, fun b hb hn => hg.block b hb fun e => hn (.inr e)⟩
set_option maxHeartbeats 8000000 in
theorem tk_step (s : ByteArray) (hs : s.size ≤ 20000) (cb n3 nb n6 n7 r q k z : Nat) (hk : 7 ≤ k) (hkm : k ≤ 300000) (c : Cf) (l : List M) (hll : l.length ≤ 300000) (v : Value) (w : World) (hl : Lay w) (ht : TK w cb n3 nb n6 n7 r q k c) (h3 : SBox w n3 28 #[v]) (hz : n3 < z) (hzw : z ≤ w.heap.size) (ho : w.ownsRow z 40 12 v l.length (rowM l)) :
   Calls Tryz.prog 38 #[.string s, .pointer (some ⟨nb, 0, none⟩), .pointer (some ⟨n6, 0, none⟩), .pointer (some ⟨n7, 0, none⟩), .pointer (some ⟨n3, 0, none⟩)] w (StpAns z n3 v l (L s) w) := by
 obtain ⟨i0, hi, hz0, hz1, hz2⟩ := info_Cmd2;have g0 := ht.hn.cell 0;have g1 := ht.h6.cell 0;have g3 := h3.cell 0;simp only [List.getElem?_toArray, List.getElem?_cons_zero] at g0 g1 g3;have w1 : IntKind.i64.wrap ((k : Int) + 1 - 1) = (k : Int) := by rw [IntWalk.i64_in _ (by omega)]; omega
 have t1 : ¬ (k : Int) < 6 := by omega
 have t2 : ((k : Int) == 6) = false := by simp; omega
 have ST := Lib.hid (fun W h => step_any s hs W h);have HL := Lib.hid hl;have H3 := Lib.hid h3;have HO := Lib.hid ho;have BD : Hid (Below w.heap.size w w.drew) := Lib.hid (Below.refl _ _).drew;clear ht hl h3 ho;unfold StepAns at ST
 go_enter Tryz.func38, Tryz.ntmps38
 go_wp2_with fail;cases hst : stepL mayM (L s) with
 | none =>
   have HS := Lib.hid hst;rw [hst] at ST;simp only at ST;clear hst;refine wp_region_phi3 (by kernel_rfl) (fun | 0 => some 9 | 1 => some 10 | 2 => some 11 | 3 => some 12 | 4 => some 13 | 5 => none | _ => none) (fun a => ∃ x9 x10 x11 x12 x13 : Value, a = ⟨#[.string s, .pointer (some ⟨nb, 0, none⟩), .pointer (some ⟨n6, 0, none⟩), .pointer (some ⟨n7, 0, none⟩), .pointer (some ⟨n3, 0, none⟩), undef, .int .i64 k, .int .i64 ((k : Int) + 1), .int .i64 k, x9, x10, x11, x12, x13, .bool false, .int .i64 k, .slice (some ⟨r, 0, none⟩) 6 6, .int .i64 6, .bool false, undef, undef, undef, undef, undef, undef, undef, undef, undef, undef, undef, undef, undef, undef, undef, undef, undef, undef, undef, undef, .bool false, .int .i64 k, .slice (some ⟨r, 0, none⟩) 6 6, .int .i64 6, .bool false, undef, undef, undef], []⟩) (fun lst W => Below w.heap.size w W) (fun _ _ _ => True) (fun | 0 => (fun f w => f 0 = v) | 1 => (fun f w => f 1 = Value.string s) | 2 => (fun f w => False) | 3 => (fun f w => False) | 4 => (fun f w => False) | 5 => (fun f w => False) | _ => (fun _ _ => True)) (by kernel_rfl) ?stb ?dep (by kernel_rfl) ?AA ⟨_, _, _, _, _, rfl⟩ ?G0 ?step ?done
   case stb =>
     intro i j v w1 w2 hi hj hij hw hp hs;have hi : i < 6 := hi
     match j, hp with
     | 0, hp | 1, hp | 2, hp | 3, hp | 4, hp | 5, hp => exact hp
     | j + 6, _ => exact trivial
   case dep =>
     intro j f g w hj hfg hp;have hj : j < 6 := hj
     match j, hp, hfg with
     | 0, hp, hfg =>
       have hq : f 0 = v := hp;rw [hfg 0 (by show 0 < 6; decide) (by first | exact .inl rfl | exact .inr (by kernel_rfl))] at hq;exact hq
     | 1, hp, hfg =>
       have hq : f 1 = Value.string s := hp;rw [hfg 1 (by show 1 < 6; decide) (by first | exact .inl rfl | exact .inr (by kernel_rfl))] at hq;exact hq
     | 2, hp, hfg =>
       have hq : False := hp;exact hq
     | 3, hp, hfg =>
       have hq : False := hp;exact hq
     | 4, hp, hfg =>
       have hq : False := hp;exact hq
     | 5, hp, hfg =>
       have hq : False := hp;exact hq
     | j + 6, _, _ => exact trivial
   case AA =>
     rintro i a v hi ⟨_, _, _, _, _, rfl⟩
     match i, hi with
     | 0, _ | 1, _ | 2, _ | 3, _ | 4, _ | 5, _ => exact ⟨⟨_, _, _, _, _, rfl⟩, fun t h => by cases h <;> exact of_decide_eq_true rfl⟩
     | i + 6, hi => exact absurd hi (by simp)
   case G0 => exact BD.out
   case step =>
     rintro i a w1 lst hi ⟨x9, x10, x11, x12, x13, rfl⟩ hl hcl hG hp;refine wpOp_via (fun K hK => ?_)
     match i, hi with
     | 0, _ =>
       have c3 := (H3.out.later hG).cell 0;simp only [List.getElem?_toArray, List.getElem?_cons_zero] at c3;refine wpOp_at (by rfl) rfl ?_;go_simp;exact hK _ _ ⟨_, rfl, hG, trivial, rfl⟩
     | 1, _ =>
       refine wpOp_at (by rfl) rfl ?_;go_simp;exact hK _ _ ⟨_, rfl, hG, trivial, rfl⟩
     | 2, _ =>
       obtain rfl : x10 = _ := hp 1 (by kernel_rfl);refine wpOp_at (by rfl) rfl ?_;go_simp;refine (ST.out _ (HL.out.later hG)).mono ?_;rintro e w5 ⟨rfl, b5⟩;unfold wrongE;exact stp_none HS.out (hG.trans (b5.mono hG.size))
     | 3, _ =>
       exact (hp 2 (by kernel_rfl)).elim
     | 4, _ =>
       exact (hp 3 (by kernel_rfl)).elim
     | 5, _ =>
       exact (hp 4 (by kernel_rfl)).elim
     | i + 6, hi => exact absurd hi (by simp)
   case done =>
     rintro a9 w9 lst hl ⟨x9, x10, x11, x12, x13, rfl⟩ hG hp;exact (hp 2 (by decide)).elim
 | some x =>
   have HS := Lib.hid hst;rw [hst] at ST;simp only at ST;unfold M.val M.cells at ST;clear hst
   go_region_law (first | (refine step_append_lies _ rfl (.tmp 9) (.tmp 12) 28 rfl z 40 i0 (.agg M.zero.cells) 12 128 Tryz.underlying28 hi hz0 hz1 hz2 rfl (by decide) _ l.length (rowM l) rfl OA.out ⟨w5.heap.size, 0, none⟩ 1 1 [.int .u8 x.k, .int .i64 x.co, .int .i64 x.n, .int .u32 x.ino, .int .u8 x.d, .string (B x.p), .string (B x.p2), .int .i64 x.fd, .int .i64 x.pg, .int .u32 x.sz, .string (B x.da), .string (B x.t)] rfl rfl ?q1 ?q2 (by decide) ?q3 ?q4 ?q5 _ rfl ?_; (case q1 => exact World.news_of_block (SBox.new w5 _ _)); (case q2 => (intro u hu; simp at hu; rcases hu with rfl | rfl | rfl | rfl | rfl | rfl | rfl | rfl | rfl | rfl | rfl | rfl <;> rfl)); (case q3 => (unfold maxLen; omega)); (case q4 => omega); (case q5 => (simp; omega)); intro g9 cap9 w9 hown9 hgrow9 hat9 hlt9; have HN9 := Lib.hid (SBox.kept N3.out hgrow9 HNE.out); have c9 := HN9.out.cell 0; have f9 := HN9.out.free 0; have l9 := HN9.out.lt; simp only [List.getElem?_toArray, List.getElem?_cons_zero] at c9; have O9 := Lib.hid hown9; have T9 := Lib.hid hgrow9; clear hown9 hgrow9 hat9) | (go_simp; go_at_call 37; refine (ST.out _ (HL.out.later BD.out)).mono ?_; rintro e w5 ⟨rfl, b5⟩; have B5 := Lib.hid (Below.trans BD.out b5); have OA := Lib.hid (World.ownsRow.alloc (ownsRow_later HO.out B5.out) (.cells #[.int .u8 x.k, .int .i64 x.co, .int .i64 x.n, .int .u32 x.ino, .int .u8 x.d, .string (B x.p), .string (B x.p2), .int .i64 x.fd, .int .i64 x.pg, .int .u32 x.sz, .string (B x.da), .string (B x.t)] 40)); have N3 := Lib.hid ((H3.out.later B5.out).alloc (.cells #[.int .u8 x.k, .int .i64 x.co, .int .i64 x.n, .int .u32 x.ino, .int .u8 x.d, .string (B x.p), .string (B x.p2), .int .i64 x.fd, .int .i64 x.pg, .int .u32 x.sz, .string (B x.da), .string (B x.t)] 40)); have HNE : Hid (some n3 ≠ v.ownBlock) := Lib.hid (fun e => by have := (HO.out.lt n3 e.symm).1; omega); have hs5 := B5.out.size; have c5 := (H3.out.later B5.out).cell 0; have l5 := (H3.out.later B5.out).lt; simp only [List.getElem?_toArray, List.getElem?_cons_zero] at c5; clear b5))
   all_goals
     go_wp2
     go_end0;unfold StpAns;rw [HS.out];have hts : Tch (fun b => b = n3) w9 (w9.setCell ⟨n3, 0, none⟩ (.slice (some ⟨g9, 0, none⟩) (l.length + 1) cap9)) := Tch.cell (O := fun b => b = n3) rfl;refine ⟨⟨rfl, _, HN9.out.set 0 _, ?_⟩, ?_⟩
     · refine own_tch ?_ hts hz
       have h := O9.out;rw [rowM_app]
       simpa [M.cells] using h
     · exact ((Tch.of B5.out).trans ((Tch.of ((Below.refl w5.heap.size w5).alloc (Nat.le_refl _) _)).trans (grown_tch T9.out))).trans (hts.mono fun i _ h => .inl h)
end Go.Proofs.YtkljcgopikdjjaaGreatDoor.Tx
end
section
namespace Go.Proofs.YtkljcgopikdjjaaGreatDoor.Tx
set_option maxRecDepth 100000
set_option maxHeartbeats 2000000
open Go.RowKit Go.Shelf Go.Maps Oct
theorem own_ne {W : World} {base sz n p : Nat} {e t : TypeId} {v : Value} {xs : List Value} {cs : Array Value} (h : W.ownsRow base e sz v n xs) (hX : SBox W p t cs) (ht : e ≠ t) : some p ≠ v.ownBlock := fun q => by
 rcases h.2 with ⟨rfl, _⟩ | ⟨g, cap, cur, rfl, hbs, hg, r⟩
 · cases q
 · cases q
   have := hX.symm.trans hg;cases this;exact ht rfl
def TkAns (z cb n3 : Nat) (v0 : Value) (k : Nat) (c : Cf) (l : List M) (s : List UInt8) (w : World) (e : Ending) (w' : World) : Prop :=
 (match takeQ k (c, l) s with | some q => e = .returned (.tuple #[]) ∧ SBox w' cb 27 q.1.cells ∧ ∃ v, SBox w' n3 28 #[v] ∧ w'.ownsRow z 40 12 v q.2.length (rowM q.2) | none => e = wrongE ∧ Below w.heap.size w w') ∧ Tch (fun b => b = cb ∨ b = n3 ∨ some b = v0.ownBlock) w w'
theorem take_l (k : Nat) (hk : k < 6) (c : Cf) (l : List M) (s : List UInt8) : takeQ k (c, l) s = (takeQ k (c, []) s).map fun q => (q.1, l) := by
 unfold takeQ;rw [if_pos hk, if_pos hk]
 split
 · cases numL (s.drop (nmH k).length) <;> rfl
 · rfl
theorem tk_any (s : ByteArray) (hs : s.size ≤ 20000) (cb n3 nb n6 n7 r q k z : Nat) (hkm : k ≤ 300000) (c : Cf) (l : List M) (hll : l.length ≤ 300000) (v : Value) (w : World) (hl : Lay w) (hcb5 : 5 ≤ cb) (ht : TK w cb n3 nb n6 n7 r q k c) (h3 : SBox w n3 28 #[v]) (hcn : n3 ≠ cb) (hz : n3 < z) (hz2 : cb < z) (hzw : z ≤ w.heap.size) (ho : w.ownsRow z 40 12 v l.length (rowM l)) :
   Calls Tryz.prog 38 #[.string s, .pointer (some ⟨nb, 0, none⟩), .pointer (some ⟨n6, 0, none⟩), .pointer (some ⟨n7, 0, none⟩), .pointer (some ⟨n3, 0, none⟩)] w (TkAns z cb n3 v k c l (L s) w) := by
 rcases Nat.lt_trichotomy k 6 with h6 | h6 | h6
 · refine (tk_head s hs cb n3 nb n6 n7 r q k h6 c w hl hcb5 ht).mono ?_
   rintro e w' ⟨h1, h2⟩;have ht2 : Tch (fun b => b = cb ∨ b = n3 ∨ some b = v.ownBlock) w w' := h2.mono fun i _ h => .inl h;refine ⟨?_, ht2⟩;rw [take_l k h6];cases hq : takeQ k (c, []) (L s) with
   | none => rw [hq] at h1; exact h1
   | some qq =>
     rw [hq] at h1;refine ⟨h1.1, h1.2, v, (h2.block n3 h3.lt hcn).trans h3, ?_⟩;exact own_tch ho h2 hz2
 · subst h6
   refine (tk_begin s cb n3 nb n6 n7 r q c w ht).mono ?_;rintro e w' ⟨h1, rfl⟩;refine ⟨?_, Tch.refl _ _⟩
   have e6 : takeQ 6 (c, l) (L s) = if L s = beginB then some (c, l) else none := by
     unfold takeQ;rw [if_neg (by omega), if_pos rfl]
   rw [e6]
   by_cases hb : L s = beginB
   · rw [if_pos hb]
     rw [if_pos hb] at h1;exact ⟨h1, ht.hc, v, h3, ho⟩
   · rw [if_neg hb]
     rw [if_neg hb] at h1;exact ⟨h1, Below.refl _ _⟩
 · refine (tk_step s hs cb n3 nb n6 n7 r q k z (by omega) hkm c l hll v w hl ht h3 hz hzw ho).mono ?_
   rintro e w' ⟨h1, h2⟩;refine ⟨?_, h2.mono fun i _ h => .inr h⟩
   have e7 : takeQ k (c, l) (L s) = (stepL mayM (L s)).map (fun x => (c, l ++ [x])) := by
     unfold takeQ;rw [if_neg (by omega), if_neg (by omega)]
   rw [e7];cases hq : stepL mayM (L s) with
   | none => rw [hq] at h1; exact h1
   | some x =>
     rw [hq] at h1;obtain ⟨a, v', b1, b2⟩ := h1;refine ⟨a, (h2.block cb ht.hc.lt ?_).trans ht.hc, v', b1, by simpa using b2⟩;rintro (e | e)
     · exact hcn e.symm
     · have := (ho.lt cb e.symm).1
       omega
def RdK (z cb n3 nb n6 n7 r q k : Nat) (v0 : Value) (c : Cf) (l : List M) (s : List UInt8) (w w' : World) : Prop :=
 (match takeQ k (c, l) s with | some q => SBox w' cb 27 q.1.cells ∧ ∃ v, SBox w' n3 28 #[v] ∧ w'.ownsRow z 40 12 v q.2.length (rowM q.2) | none => Below w.heap.size w w') ∧ Tch (fun b => b = cb ∨ b = n3 ∨ some b = v0.ownBlock) w w'
theorem rd2_do (s : ByteArray) (hs : s.size ≤ 20000) (cb n3 nb n6 n7 n8 n9 b r q k z : Nat) (hkm : k ≤ 300000) (c : Cf) (l : List M) (hll : l.length ≤ 300000) (v : Value) (w : World) (hl : Lay w) (hcb5 : 5 ≤ cb) (ht : TK w cb n3 nb n6 n7 r q k c) (h3 : SBox w n3 28 #[v]) (hcn : n3 ≠ cb) (hz : n3 < z) (hz2 : cb < z) (hzw : z ≤ w.heap.size) (ho : w.ownsRow z 40 12 v l.length (rowM l))
   (h8 : SBox w n8 85 #[.func (.func 38) #[] #[.pointer (some ⟨nb, 0, none⟩), .pointer (some ⟨n6, 0, none⟩), .pointer (some ⟨n7, 0, none⟩), .pointer (some ⟨n3, 0, none⟩)]]) (h9 : SBox w n9 9 #[.string s]) (hb : SBox w b 4 #[.bool false]) (hbc : b ≠ cb) (hb3 : b ≠ n3) :
   Calls Tryz.prog 43 #[.pointer (some ⟨n8, 0, none⟩), .pointer (some ⟨n9, 0, none⟩)] w (Doing (takeQ k (c, l) (L s)).isSome b (RdK z cb n3 nb n6 n7 r q k v c l (L s) w)) := by
 have HT := Lib.hid (tk_any s hs cb n3 nb n6 n7 r q k z hkm c l hll v w hl hcb5 ht h3 hcn hz hz2 hzw ho);have HE : ∀ args W, (callFunc 38 args).run Tryz.prog W = .ok (.enter 38 args) W := fun args W => enters_of Tryz.func38 (by kernel_rfl) rfl args W;have HNE := Lib.hid (own_ne ho hb (by decide));have HB := Lib.hid hb;have c8 := h8.cell 0;have c9 := h9.cell 0;simp only [List.getElem?_toArray, List.getElem?_cons_zero] at c8 c9;clear hl ht h3 ho h8 h9 hb
 go_enter Tryz.func43, Tryz.ntmps43
 go_wp2_with fail;refine HT.out.mono ?_;rintro e w5 ⟨he, htc⟩
 have HB5 := Lib.hid (show SBox w5 b 4 #[.bool false] from (htc.block b HB.out.lt (fun h => by
   rcases h with h | h | h
   · exact hbc h
   · exact hb3 h
   · exact HNE.out h)).trans HB.out)
 have HTC := Lib.hid htc;clear htc;cases hq : takeQ k (c, l) (L s) with
 | none =>
   rw [hq] at he;obtain ⟨he, hbw⟩ := he;have HBW := Lib.hid hbw;subst he;clear hbw;unfold wrongE;go_wp2_with fail;refine ⟨rfl, rfl, HB5.out, ?_, HTC.out⟩;rw [hq];exact HBW.out
 | some qq =>
   rw [hq] at he;obtain ⟨he, hr⟩ := he;subst he;have HR := Lib.hid hr;clear hr;go_wp2_with fail;go_end0;refine ⟨by rw [hq]; rfl, HB5.out, ?_, HTC.out⟩;rw [hq];exact HR.out
end Go.Proofs.YtkljcgopikdjjaaGreatDoor.Tx
end
section
namespace Go.Proofs.YtkljcgopikdjjaaGreatDoor.Tx
set_option maxRecDepth 100000
set_option maxHeartbeats 2000000
open Go.RowKit Go.Shelf Go.Maps Oct
def RO (cb n3 nb z b : Nat) : Prop := b = cb ∨ b = n3 ∨ b = nb ∨ z ≤ b
theorem TK.keep {W W' : World} {cb n3 nb n6 n7 r q k k' z : Nat} {c c' : Cf} (h : TK W cb n3 nb n6 n7 r q k c) (ht : Tch (RO cb n3 nb z) W W') (hc : SBox W' cb 27 c'.cells) (hn : SBox W' nb 3 #[.int .i64 ((k' : Int) + 1)])
   (e6 : ¬ RO cb n3 nb z n6) (e7 : ¬ RO cb n3 nb z n7) (er : ¬ RO cb n3 nb z r) (eq : ¬ RO cb n3 nb z q) : TK W' cb n3 nb n6 n7 r q k' c' :=
 ⟨hc, hn, (ht.block n6 h.h6.lt e6).trans h.h6, (ht.block n7 h.h7.lt e7).trans h.h7, (ht.block r h.hr.lt er).trans h.hr, (ht.block q h.hq.lt eq).trans h.hq, h.d1, h.d2, h.d3, h.d4, h.d5⟩
theorem box_ne {W : World} {a b : Nat} {t u : TypeId} {cs ds : Array Value} (h1 : SBox W a t cs) (h2 : SBox W b u ds) (ht : t ≠ u) : a ≠ b := by
 rintro rfl;have h := h1.symm.trans h2;cases h;exact ht rfl
structure RLo (wz wr : World) (cb n3 nb z : Nat) (s rest : List UInt8) (k : Nat) (c : Cf) (l : List M) (v : Value) : Prop where
 len : rest.length ≤ s.length
 cnt : k + (linesQ rest).1.length = (linesQ s).1.length
 ll : l.length ≤ k
 hc : SBox wr cb 27 c.cells
 hn : SBox wr nb 3 #[.int .i64 ((k : Int) + 1)]
 h3 : SBox wr n3 28 #[v]
 own : wr.ownsRow z 40 12 v l.length (rowM l)
 tch : Tch (RO cb n3 nb z) wz wr
 go : goQ (linesQ s).1 0 (Cf.zero, []) = goQ (linesQ rest).1 k (c, l)
 tail : (linesQ s).2 = (linesQ rest).2
 small : ∀ w ∈ (linesQ rest).1, w.length ≤ 20000
theorem take_len {k : Nat} {c c' : Cf} {l l' : List M} {a : List UInt8} (h : takeQ k (c, l) a = some (c', l')) : l'.length ≤ l.length + 1 := by
 unfold takeQ at h
 split at h
 · split at h
   · cases hn : numL (a.drop (nmH k).length) with
     | none => rw [hn] at h; cases h
     | some v => rw [hn] at h; simp only [Option.map_some, Option.some.injEq, Prod.mk.injEq] at h; rw [← h.2]; omega
   · cases h
 · split at h
   · split at h
     · simp only [Option.some.injEq, Prod.mk.injEq] at h; rw [← h.2]; omega
     · cases h
   · cases hn : stepL mayM a with
     | none => rw [hn] at h; cases h
     | some v => rw [hn] at h; cases h; simp
theorem own_ge {W : World} {z sz n b : Nat} {e : TypeId} {v : Value} {xs : List Value} (h : W.ownsRow z e sz v n xs) (hb : some b = v.ownBlock) : z ≤ b := (h.lt b hb.symm).1
theorem rlo_next {wz wr wq w2 w6 : World} {cb n3 nb n6 n7 r q z : Nat} {s rest rest' a : List UInt8} {k : Nat} {c c' : Cf} {l l' : List M} {v : Value} {ob : Obj} (hR : RLo wz wr cb n3 nb z s rest k c l v) (hz : wz.heap.size = z) (hq : Below wr.heap.size wr wq)
   (hK : RdK z cb n3 nb n6 n7 r q k v c l a (wq.alloc ob) w2) (hbq : SBox w2 wq.heap.size 4 #[.bool false]) (ht : Tch (fun q => q = wq.heap.size) w2 w6) (htake : takeQ k (c, l) a = some (c', l')) (hcut : linesQ rest = (a :: (linesQ rest').1, (linesQ rest').2)) (hlen : rest'.length ≤ rest.length) (d1 : cb ≠ nb) (d2 : n3 ≠ nb) (z1 : cb < z) (z2 : n3 < z) (z3 : nb < z) :
   SBox w6 nb 3 #[.int .i64 ((k : Int) + 1)] ∧ ∃ v', RLo wz (w6.setCell ⟨nb, 0, none⟩ (.int .i64 ((k : Int) + 1 + 1))) cb n3 nb z s rest' (k + 1) c' l' v' := by
 obtain ⟨hA, hT⟩ := hK;rw [htake] at hA;obtain ⟨b1, v', b2, b3⟩ := hA;have s1 := hR.tch.size;have s2 := hq.size
 have T1 : Tch (RO cb n3 nb z) (wq.alloc ob) w2 := hT.mono fun i _ h => by
   rcases h with h | h | h
   · exact .inl h
   · exact .inr (.inl h)
   · exact .inr (.inr (.inr (own_ge hR.own h)))
 have T2 : Tch (RO cb n3 nb z) w2 w6 := ht.mono fun i _ h => .inr (.inr (.inr (by omega)));have T3 : Tch (RO cb n3 nb z) w6 (w6.setCell ⟨nb, 0, none⟩ (.int .i64 ((k : Int) + 1 + 1))) := Tch.cell (O := RO cb n3 nb z) (.inr (.inr (.inl rfl)));have T3' : Tch (fun b => b = nb) w6 (w6.setCell ⟨nb, 0, none⟩ (.int .i64 ((k : Int) + 1 + 1))) := Tch.cell (O := fun b => b = nb) rfl;have hal : Below wq.heap.size wq (wq.alloc ob) := (Below.refl _ _).alloc (Nat.le_refl _) ob
 have hnb2 : SBox w2 nb 3 #[.int .i64 ((k : Int) + 1)] := by
   have h := (hR.hn.later hq).later hal;refine (hT.block nb h.lt ?_).trans h;rintro (h | h | h)
   · exact d1 h.symm
   · exact d2 h.symm
   · have := own_ge hR.own h
     omega
 have hnb6 : SBox w6 nb 3 #[.int .i64 ((k : Int) + 1)] := (ht.block nb hnb2.lt (by omega)).trans hnb2;have hcut1 : (linesQ rest).1 = a :: (linesQ rest').1 := by rw [hcut]
 have hcut2 : (linesQ rest).2 = (linesQ rest').2 := by rw [hcut]
 refine ⟨hnb6, v', ?_, ?_, ?_, ?_, ?_, ?_, ?_, ?_, ?_, ?_, ?_⟩
 · have := hR.len; omega
 · have := hR.cnt
   rw [hcut1] at this
   simp at this
   omega
 · have := take_len htake
   have := hR.ll;omega
 · have h := (ht.block cb b1.lt (by omega)).trans b1
   exact (T3'.block cb (SBox.lt h) d1).trans h
 · exact hnb6.set 0 _
 · have h := (ht.block n3 b2.lt (by omega)).trans b2
   exact (T3'.block n3 (SBox.lt h) d2).trans h
 · have h : w6.ownsRow z 40 12 v' l'.length (rowM l') := by
     have hno := own_ne b3 hbq (by decide);obtain ⟨h0, h1⟩ := b3;refine ⟨h0, ?_⟩
     rcases h1 with h1 | ⟨g, cap, cur, e, hbs, hg, r⟩
     · exact .inl h1
     · refine .inr ⟨g, cap, cur, e, hbs, (ht.block g (Array.getElem?_eq_some_iff.1 hg).1 ?_).trans hg, r⟩
       intro e2;exact hno (by rw [e, ← e2]; rfl)
   exact own_tch h T3' z3
 · exact ((((hR.tch.trans (Tch.of hq)).trans (Tch.of hal)).trans T1).trans T2).trans T3
 · rw [hR.go, hcut1]
   simp only [goQ];rw [htake]
 · rw [hR.tail, hcut2]
 · intro w hw
   exact hR.small w (by rw [hcut1]; exact List.mem_cons_of_mem _ hw)
theorem reads_line {wz wr wq : World} {cb n3 nb n6 n7 n8 n9 r q : Nat} {s rest a : List UInt8} {k : Nat} {c c0 : Cf} {l : List M} {v : Value} (hR : RLo wz wr cb n3 nb (n8 + 1) s rest k c l v) (hT0 : TK wz cb n3 nb n6 n7 r q 0 c0)
   (h8 : SBox wz n8 85 #[.func (.func 38) #[] #[.pointer (some ⟨nb, 0, none⟩), .pointer (some ⟨n6, 0, none⟩), .pointer (some ⟨n7, 0, none⟩), .pointer (some ⟨n3, 0, none⟩)]]) (hz : wz.heap.size = n8 + 1)
   (d1 : cb < n3) (d2 : n3 < nb) (d3 : nb < n6) (d4 : n6 < n7) (d5 : n7 < n8) (er : ¬ RO cb n3 nb (n8 + 1) r) (eq : ¬ RO cb n3 nb (n8 + 1) q)
   (hq : Below wr.heap.size wr wq) (h9 : SBox wq n9 9 #[.string (B a)]) (hl : Lay wq) (ha : a.length ≤ 20000) (hk : k ≤ 300000) (hcb5 : 5 ≤ cb) :
   Calls Tryz.prog 35 #[.func (.func 43) #[] #[.pointer (some ⟨n8, 0, none⟩), .pointer (some ⟨n9, 0, none⟩)]] wq fun e w' => e = .returned (.bool (takeQ k (c, l) a).isSome) ∧ ∃ w2, (RdK (n8 + 1) cb n3 nb n6 n7 r q k v c l a (wq.alloc (.cells #[.bool false] 4)) w2 ∧ SBox w2 wq.heap.size 4 #[.bool false]) ∧ Tch (fun q => q = wq.heap.size) w2 w' := by
 have HE : ∀ args W, (callFunc 43 args).run Tryz.prog W = .ok (.enter 43 args) W := fun args W => enters_of Tryz.func43 (by kernel_rfl) rfl args W;have s1 := hR.tch.size;have s2 := hq.size;have hal : Below wq.heap.size wq (wq.alloc (.cells #[.bool false] 4)) := (Below.refl _ _).alloc (Nat.le_refl _) _;have hqa : Below wr.heap.size wr (wq.alloc (.cells #[.bool false] 4)) := hq.trans (hal.mono s2);have hTA : Tch (RO cb n3 nb (n8 + 1)) wz (wq.alloc (.cells #[.bool false] 4)) := hR.tch.trans (Tch.of hqa);have hTK : TK (wq.alloc (.cells #[.bool false] 4)) cb n3 nb n6 n7 r q k c := hT0.keep hTA (hR.hc.later hqa) (hR.hn.later hqa) (by rintro (h | h | h | h) <;> omega) (by rintro (h | h | h | h) <;> omega) er eq
 have hd := rd2_do (B a) (by rw [size_B]; exact ha) cb n3 nb n6 n7 n8 n9 wq.heap.size r q k (n8 + 1) hk c l (by have := hR.ll; omega) v (wq.alloc (.cells #[.bool false] 4)) (hl.later hal) hcb5 hTK (hR.h3.later hqa) (by omega) (by omega) (by omega) (by have := hal.size; omega) (ownsRow_later hR.own hqa)
   ((hTA.block n8 h8.lt (by rintro (h | h | h | h) <;> omega)).trans h8) (h9.later hal) (SBox.new wq 4 #[.bool false]) (by omega) (by omega)
 rw [L_B] at hd;exact reads_any (takeQ k (c, l) a).isSome 43 #[.pointer (some ⟨n8, 0, none⟩), .pointer (some ⟨n9, 0, none⟩)] (fun W => RdK (n8 + 1) cb n3 nb n6 n7 r q k v c l a (wq.alloc (.cells #[.bool false] 4)) W ∧ SBox W wq.heap.size 4 #[.bool false]) wq (HE _) (fun W hQ => by have := hQ.2.lt; omega) (hd.mono fun e w' h => ⟨h.1, h.2.1, h.2.2, h.2.1⟩)
def rqW (W : World) (cb n3 nb : Nat) (c : Cf) (v i : Value) : World := (((fillC W cb c).setCell ⟨n3, 0, none⟩ v).setCell ⟨nb, 0, none⟩ i).drew
theorem rq_box {W : World} {cb n3 nb : Nat} {c0 : Cf} {v0 i0 : Value} (hc : SBox W cb 27 c0.cells) (h3 : SBox W n3 28 #[v0]) (hb : SBox W nb 3 #[i0]) (d1 : cb ≠ n3) (d2 : cb ≠ nb) (d3 : n3 ≠ nb) (c : Cf) (v i : Value) :
   SBox (rqW W cb n3 nb c v i) cb 27 c.cells ∧ SBox (rqW W cb n3 nb c v i) n3 28 #[v] ∧ SBox (rqW W cb n3 nb c v i) nb 3 #[i] ∧ Tch (fun b => b = cb ∨ b = n3 ∨ b = nb) W (rqW W cb n3 nb c v i) := by
 have t1 := fillC_tch W cb c;have t2 : Tch (fun b => b = n3) (fillC W cb c) ((fillC W cb c).setCell ⟨n3, 0, none⟩ v) := Tch.cell (O := fun b => b = n3) rfl;have t3 : Tch (fun b => b = nb) ((fillC W cb c).setCell ⟨n3, 0, none⟩ v) (((fillC W cb c).setCell ⟨n3, 0, none⟩ v).setCell ⟨nb, 0, none⟩ i) := Tch.cell (O := fun b => b = nb) rfl;have a1 := fillC_box hc c;have a2 := (t1.block n3 h3.lt (Ne.symm d1)).trans h3;have a3 := (t1.block nb hb.lt (Ne.symm d2)).trans hb;have a1 := (t2.block cb (SBox.lt a1) d1).trans a1;have a2 : SBox ((fillC W cb c).setCell ⟨n3, 0, none⟩ v) n3 28 #[v] := SBox.set a2 0 v;have a3 := (t2.block nb (SBox.lt a3) (Ne.symm d3)).trans a3;have a1 := (t3.block cb (SBox.lt a1) d2).trans a1;have a2 := (t3.block n3 (SBox.lt a2) d3).trans a2;have a3 : SBox (((fillC W cb c).setCell ⟨n3, 0, none⟩ v).setCell ⟨nb, 0, none⟩ i) nb 3 #[i] := SBox.set a3 0 i;exact ⟨SBox.drew a1, SBox.drew a2, SBox.drew a3, (((t1.mono fun i _ h => .inl h).trans (t2.mono fun i _ h => .inr (.inl h))).trans (t3.mono fun i _ h => .inr (.inr h))).trans Tch.drew⟩
theorem rq_err {s : List UInt8} {w W : World} {cb n3 nb : Nat} {c0 : Cf} {v0 i0 : Value} {tm : Array Value} {n : Nat} (hc : SBox W cb 27 c0.cells) (h3 : SBox W n3 28 #[v0]) (hb : SBox W nb 3 #[i0]) (d1 : cb ≠ n3) (d2 : cb ≠ nb) (d3 : n3 ≠ nb)
   (hB : Below w.heap.size w W) (z1 : w.heap.size ≤ cb) (z2 : w.heap.size ≤ n3) (z3 : w.heap.size ≤ nb) (e2 : tm[2]? = some (.pointer (some ⟨cb, 0, none⟩))) (e3 : tm[3]? = some (.pointer (some ⟨n3, 0, none⟩))) (e4 : tm[4]? = some (.pointer (some ⟨nb, 0, none⟩))) (e5 : tm[5]? = some (.int .i64 370)) (hs : s.length ≤ 262144) (hR : readQ s = .inl n) :
   bodyPost Tryz.prog Tryz.f14 (ReadAns s w) Exit.ret { tmps := tm, defers := [] } (rqW W cb n3 nb Cf.zero (.slice none 0 0) (.int .i64 (n : Int))) := by
 obtain ⟨q1, q2, q3, q4⟩ := rq_box hc h3 hb d1 d2 d3 Cf.zero (.slice none 0 0) (.int .i64 (n : Int));have hsw := hB.size;have hb9 : Below w.heap.size w (rqW W cb n3 nb Cf.zero (.slice none 0 0) (.int .i64 (n : Int))) := hB.trans (q4.below fun i hi => ⟨by omega, by omega⟩);unfold Cf.cells at q1
 generalize rqW W cb n3 nb Cf.zero (.slice none 0 0) (.int .i64 (n : Int)) = w99 at *
 have H0 := q2.cell 0;have H1 := q3.cell 0;simp only [List.getElem?_toArray, List.getElem?_cons_zero] at H0 H1;have G0 := q1.cell 0;have G1 := q1.cell 1;have G2 := q1.cell 2;have G3 := q1.cell 3;have G4 := q1.cell 4;have G5 := q1.cell 5;simp only [List.getElem?_toArray, List.getElem?_cons_zero, List.getElem?_cons_succ] at G0 G1 G2 G3 G4 G5;have Gl := q1.lt;refine bodyPost_ret (v := .tuple #[Cf.zero.val, .slice none 0 0, .int .i64 n, .int .i64 370]) ?_ rfl ⟨hb9, .inr (.inl ⟨hs, n, hR, rfl⟩)⟩
 simp [results, Tryz.f14, go_sem, e2, e3, e4, e5, G0, G1, G2, G3, G4, G5, H0, H1, Cf.val, Cf.zero]
theorem rq_ok {s : List UInt8} {w W : World} {cb n3 nb : Nat} {c0 : Cf} {v0 i0 : Value} {tm : Array Value} {c : Cf} {l : List M} {p : Option Addr} {cap g : Nat} (hc : SBox W cb 27 c0.cells) (h3 : SBox W n3 28 #[v0]) (hb : SBox W nb 3 #[i0]) (d1 : cb ≠ n3) (d2 : cb ≠ nb) (d3 : n3 ≠ nb)
   (hB : Below w.heap.size w W) (z1 : w.heap.size ≤ cb) (z2 : w.heap.size ≤ n3) (z3 : w.heap.size ≤ nb) (hL : LM W p g 0 l) (hg : l ≠ [] → cb < g ∧ n3 < g ∧ nb < g) (e2 : tm[2]? = some (.pointer (some ⟨cb, 0, none⟩))) (e3 : tm[3]? = some (.pointer (some ⟨n3, 0, none⟩))) (e4 : tm[4]? = some (.pointer (some ⟨nb, 0, none⟩))) (e5 : tm[5]? = some (.int .i64 0)) (hs : s.length ≤ 262144) (hR : readQ s = .inr (c, l)) :
   bodyPost Tryz.prog Tryz.f14 (ReadAns s w) Exit.ret { tmps := tm, defers := [] } (rqW W cb n3 nb c (.slice p l.length cap) (.int .i64 0)) := by
 obtain ⟨q1, q2, q3, q4⟩ := rq_box hc h3 hb d1 d2 d3 c (.slice p l.length cap) (.int .i64 0);have hsw := hB.size;have hb9 : Below w.heap.size w (rqW W cb n3 nb c (.slice p l.length cap) (.int .i64 0)) := hB.trans (q4.below fun i hi => ⟨by omega, by omega⟩)
 have hL9 : LM (rqW W cb n3 nb c (.slice p l.length cap) (.int .i64 0)) p g 0 l := fun hn => by
   obtain ⟨g1, g2, g3⟩ := hg hn;exact (hL.blk q4.size fun h => q4.block g h (by omega)) hn
 unfold Cf.cells at q1
 generalize rqW W cb n3 nb c (.slice p l.length cap) (.int .i64 0) = w99 at *
 have H0 := q2.cell 0;have H1 := q3.cell 0;simp only [List.getElem?_toArray, List.getElem?_cons_zero] at H0 H1;have G0 := q1.cell 0;have G1 := q1.cell 1;have G2 := q1.cell 2;have G3 := q1.cell 3;have G4 := q1.cell 4;have G5 := q1.cell 5;simp only [List.getElem?_toArray, List.getElem?_cons_zero, List.getElem?_cons_succ] at G0 G1 G2 G3 G4 G5;have Gl := q1.lt;refine bodyPost_ret (v := .tuple #[c.val, .slice p l.length cap, .int .i64 0, .int .i64 0]) ?_ rfl ⟨hb9, .inr (.inr ⟨hs, c, l, p, cap, g, hR, rfl, hL9⟩)⟩
 simp [results, Tryz.f14, go_sem, e2, e3, e4, e5, G0, G1, G2, G3, G4, G5, H0, H1, Cf.val]
end Go.Proofs.YtkljcgopikdjjaaGreatDoor.Tx
end
