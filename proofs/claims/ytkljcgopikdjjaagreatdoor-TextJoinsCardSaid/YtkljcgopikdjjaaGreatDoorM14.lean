/- Layer 37 (text): the text that is told so. -/
import Derived.Test.YtkljcgopikdjjaaGreatDoorM13
import Derived.Deep.AppendLies
import Derived.BigQuiet
import Derived.Lib.BufferRead
set_option linter.unusedVariables false
set_option linter.unusedSimpArgs false
set_option maxRecDepth 100000
section
namespace Go.Proofs.YtkljcgopikdjjaaGreatDoor.Tx
set_option maxRecDepth 100000
set_option maxHeartbeats 1000000
open Go.RowKit Go.Shelf Go.Maps Oct
theorem idx_nat : ∀ n, n < 256 → Lib.indexByte [48, 49, 50, 51, 52, 53, 54, 55, 56, 57, 97, 98, 99, 100, 101, 102] (UInt8.ofNat n) = (match unhex (UInt8.ofNat n) with | some x => (x : Int) | none => -1) := by decide
theorem idx_dig (c : UInt8) : Lib.indexByte [48, 49, 50, 51, 52, 53, 54, 55, 56, 57, 97, 98, 99, 100, 101, 102] c = (match unhex c with | some x => (x : Int) | none => -1) := by
 have h := idx_nat c.toNat c.toNat_lt;rw [show UInt8.ofNat c.toNat = c from by simp] at h;exact h
theorem or16 : ∀ x, x < 16 → ∀ y, y < 16 → bits .or .i64 ((x : Nat) * 16 : Int) (y : Nat) = ((x * 16 + y : Nat) : Int) := by decide
def HearAns (l : List UInt8) (w : World) (e : Ending) (w' : World) : Prop :=
 (match hearL l with | some r => e = .returned (.string (B r)) | none => e = wrongE) ∧ Below w.heap.size w w'
theorem hear_none {l : List UInt8} (h : hearR l = none) : hearL l = none := by unfold hearL; rw [h]
theorem hearR_st (c : UInt8) (r : List UInt8) (h : c ≠ 37) : hearR (c :: r) = if stB c = true then (hearR r).map (c :: ·) else none := by
 rw [hearR.eq_def];simp only [if_neg h]
theorem hearR_37 (a b : UInt8) (r : List UInt8) : hearR (37 :: a :: b :: r) = (match unhex a, unhex b with | some x, some y => if stB (UInt8.ofNat (x * 16 + y)) = true then none else (hearR r).map (UInt8.ofNat (x * 16 + y) :: ·) | _, _ => none) := by
 rw [hearR.eq_def];simp only [if_true];cases unhex a <;> cases unhex b <;> rfl
theorem drop_cons (s : ByteArray) (k : Nat) (h : k < s.size) : (L s).drop k = s[k] :: (L s).drop (k + 1) := by
 have h2 : k < (L s).length := by rw [len_L]; exact h
 exact List.drop_eq_getElem_cons h2
theorem hearR_end (r : List UInt8) (h : r.length < 2) : hearR (37 :: r) = none := by
 rw [hearR.eq_def];simp only [if_true]
 match r, h with
 | [], _ => rfl
 | [a], _ => rfl
theorem map_app (o : Option (List UInt8)) (p : List UInt8) (c : UInt8) : (o.map (c :: ·)).map (p ++ ·) = o.map (p ++ [c] ++ ·) := by
 cases o with
 | none => rfl
 | some r => simp
def neL : List UInt8 → Option (List UInt8)
 | [] => none
 | c :: r => some (c :: r)
theorem hear_ne {l out : List UInt8} (h : hearR l = some out) : hearL l = neL out := by
 unfold hearL;rw [h];cases out <;> rfl
theorem ne_some {l : List UInt8} (h : l ≠ []) : neL l = some l := by
 cases l with
 | nil => exact absurd rfl h
 | cons c r => rfl
theorem hearing_any (s : ByteArray) (w : World) (hs : s.size ≤ 100000) : Calls Tryz.prog 125 #[.string s] w (HearAns (L s) w) := by
 obtain ⟨i0, hi, hz0, hz1, hz2⟩ := info_u8;have HM := Lib.hid must_yes;have HN := Lib.hid must_no;have HS := Lib.hid stands_any
 go_enter Tryz.func125, Tryz.ntmps125
 go_wp2
 go_loopw [3, 4] (fun v i wr => ∃ (k : Nat) (out : List UInt8), k ≤ s.size ∧ out.length ≤ k ∧ i = .int .i64 k ∧ wr.ownsRow w.heap.size 5 1 v out.length (Lib.byteCells out) ∧ Below w.heap.size w wr ∧ hearR (L s) = (hearR ((L s).drop k)).map (out ++ ·)) (fun _ i _ => s.size - (intOf i).toNat)
 case atStart => exact ⟨0, [], by omega, by simp, rfl, ⟨rfl, .inl ⟨rfl, rfl⟩⟩, Below.refl _ _, by simp⟩
 case round =>
   obtain ⟨k, out, hk, ho, rfl, hown, hb, hr⟩ := hrel
   by_cases hlt : k < s.size
   · have hd : (L s).drop k = s[k] :: (L s).drop (k + 1) := drop_cons s k hlt
     have HB := Lib.hid hb;have HR := Lib.hid hr;have HD := Lib.hid hd;clear hb hr hd
     by_cases h37 : s[k] = 37
     · have g0 : (s[k].toNat == 37) = true := by rw [h37]; rfl
       have g1 : decide ((s[k].toNat : Int) = 37) = true := by rw [h37]; rfl
       have g2 : ((s[k].toNat : Int) == 37) = true := by rw [h37]; rfl
       have q1 : IntKind.i64.wrap ((k : Int) + 2) = (k : Int) + 2 := IntWalk.i64_in _ (by omega);have q2 : IntKind.i64.wrap ((k : Int) + 1) = (k : Int) + 1 := IntWalk.i64_in _ (by omega)
       by_cases h2 : k + 2 < s.size
       · have hd2 : (L s).drop (k + 1) = s[k + 1] :: (L s).drop (k + 2) := drop_cons s (k + 1) (by omega)
         have hd3 : (L s).drop (k + 2) = s[k + 2] :: (L s).drop (k + 3) := drop_cons s (k + 2) h2;have HE := Lib.hid (hearR_37 s[k + 1] s[k + 2] ((L s).drop (k + 3)));have t1 : decide ((k : Int) + 2 < (s.size : Int)) = true := by simp; omega
         have t2 : decide (k + 2 < s.size) = true := by simp; omega
         have x1 : (0 : Int) ≤ (k : Int) + 1 ∧ (k : Int) + 1 < (s.size : Int) := by omega
         have x2 : (0 : Int) ≤ (k : Int) + 2 ∧ (k : Int) + 2 < (s.size : Int) := by omega
         have n1 : ((k : Int) + 1).toNat = k + 1 := by omega
         have n2 : ((k : Int) + 2).toNat = k + 2 := by omega
         have HI := fun (c : UInt8) (W : World) => Tryz.strings_IndexByte ⟨#[48, 49, 50, 51, 52, 53, 54, 55, 56, 57, 97, 98, 99, 100, 101, 102]⟩ (c.toNat : Int) W;have e0 : ∀ c : UInt8, ((c.toNat : Int).toNat).toUInt8 = c := by intro c; simp
         have i1 := idx_dig s[k + 1];have i2 := idx_dig s[k + 2];have HI1 := HI s[k + 1];have HI2 := HI s[k + 2];rw [e0] at HI1 HI2;change ∀ W, Calls _ _ _ W (fun e w' => e = .returned (.int .i64 (Lib.indexByte [48, 49, 50, 51, 52, 53, 54, 55, 56, 57, 97, 98, 99, 100, 101, 102] s[k + 1])) ∧ w' = W) at HI1;change ∀ W, Calls _ _ _ W (fun e w' => e = .returned (.int .i64 (Lib.indexByte [48, 49, 50, 51, 52, 53, 54, 55, 56, 57, 97, 98, 99, 100, 101, 102] s[k + 2])) ∧ w' = W) at HI2;rw [i1] at HI1;rw [i2] at HI2;have HRR : hearR (L s) = (hearR (37 :: s[k + 1] :: s[k + 2] :: (L s).drop (k + 3))).map (out ++ ·) := by rw [HR.out, HD.out, hd2, hd3, h37]
         rw [HE.out] at HRR;clear h37 hd2 hd3 i1 i2 e0 HI HE;cases hx : unhex s[k + 1] with
         | none =>
           rw [hx] at HI1 HRR;simp only at HI1;have HX := Lib.hid (show hearR (L s) = none by rw [HRR]; rfl);have HI1 := Lib.hid HI1;have HI2 := Lib.hid HI2;clear HRR hx;go_wp2_with fail;refine (HM.out _).mono ?_;rintro e w9 ⟨rfl, rfl⟩;go_wp2_with fail
           go_quiet ((go_at_call 160; exact Calls.quiet_of_same (by first | exact HI1.out _ | exact HI2.out _)))
           generalize hw : wr.drewN _ = wq
           have HBq := Lib.hid (show Below w.heap.size w wq by rw [← hw]; exact ⟨HB.out.os, HB.out.tape, HB.out.output, HB.out.size, HB.out.block⟩);have hownq : wq.ownsRow w.heap.size 5 1 u3 out.length (Lib.byteCells out) := by rw [← hw]; exact hown
           clear hown hw;go_wp2_with fail
           all_goals
             refine (HN.out _).mono ?_;rintro e w9 ⟨rfl, rfl⟩;unfold wrongE;go_wp2_with fail;refine ⟨rfl, ?_⟩;unfold HearAns;rw [hear_none HX.out];exact ⟨rfl, HBq.out⟩
         | some x =>
           have hx16 := (hex_unhex hx).2;have y1 : decide ((0 : Int) ≤ (x : Int)) = true := by simp
           cases hy : unhex s[k + 2] with
           | none =>
             rw [hx] at HI1;rw [hx, hy] at HRR;rw [hy] at HI2;simp only at HI1 HI2;have HX := Lib.hid (show hearR (L s) = none by rw [HRR]; rfl);have HI1 := Lib.hid HI1;have HI2 := Lib.hid HI2;clear HRR hx hy;go_wp2_with fail;refine (HM.out _).mono ?_;rintro e w9 ⟨rfl, rfl⟩;go_wp2_with fail
             go_quiet ((go_at_call 160; exact Calls.quiet_of_same (by first | exact HI1.out _ | exact HI2.out _)))
             generalize hw : wr.drewN _ = wq
             have HBq := Lib.hid (show Below w.heap.size w wq by rw [← hw]; exact ⟨HB.out.os, HB.out.tape, HB.out.output, HB.out.size, HB.out.block⟩);have hownq : wq.ownsRow w.heap.size 5 1 u3 out.length (Lib.byteCells out) := by rw [← hw]; exact hown
             clear hown hw;go_wp2_with fail;refine (HN.out _).mono ?_;rintro e w9 ⟨rfl, rfl⟩;unfold wrongE;go_wp2_with fail;refine ⟨rfl, ?_⟩;unfold HearAns;rw [hear_none HX.out];exact ⟨rfl, HBq.out⟩
           | some y =>
             have hy16 := (hex_unhex hy).2;have y2 : decide ((0 : Int) ≤ (y : Int)) = true := by simp
             rw [hx] at HI1;rw [hx, hy] at HRR;rw [hy] at HI2;simp only at HI1 HI2 HRR;have HI1 := Lib.hid HI1;have HI2 := Lib.hid HI2;have o1 := or16 x hx16 y hy16;have hv : (UInt8.ofNat (x * 16 + y)).toNat = x * 16 + y := by rw [UInt8.toNat_ofNat']; omega
             have o2 : IntKind.u8.wrap ((x * 16 + y : Nat) : Int) = ((UInt8.ofNat (x * 16 + y)).toNat : Int) := by rw [hv, IntKind.wrap_u8']; omega
             have o3 : IntKind.i64.wrap ((x : Int) * 16) = (x : Int) * 16 := IntWalk.i64_in _ (by omega);have hlx : out.length ≤ k := ho;have hs1 := HB.out.size;have hvi : ((UInt8.ofNat (x * 16 + y)).toNat : Int) = (x : Int) * 16 + (y : Int) := by rw [hv]; omega
             have HSV := Lib.hid (fun W => stands_any (UInt8.ofNat (x * 16 + y)) W);rw [hvi] at HSV;have o4 : IntKind.u8.wrap ((x : Int) * 16 + (y : Int)) = (x : Int) * 16 + (y : Int) := by rw [IntKind.wrap_u8']; omega
             rw [show ((x * 16 + y : Nat) : Int) = (x : Int) * 16 + (y : Int) from by omega] at o1;have HVI := Lib.hid hvi
             generalize UInt8.ofNat (x * 16 + y) = c at *
             clear hx hy hv o2 hvi;go_wp2_with fail;refine (HM.out _).mono ?_;rintro e w9 ⟨rfl, rfl⟩;go_wp2_with fail
             go_quiet ((go_at_call 160; exact Calls.quiet_of_same (by first | exact HI1.out _ | exact HI2.out _)))
             generalize hw : wr.drewN _ = wq
             have HBq := Lib.hid (show Below w.heap.size w wq by rw [← hw]; exact ⟨HB.out.os, HB.out.tape, HB.out.output, HB.out.size, HB.out.block⟩);have hownq : wq.ownsRow w.heap.size 5 1 u3 out.length (Lib.byteCells out) := by rw [← hw]; exact hown
             clear hown hw;go_wp2_with fail;refine (HSV.out _).mono ?_;rintro e w9 ⟨rfl, rfl⟩
             by_cases hst : stB c = true
             · have HX := Lib.hid (show hearR (L s) = none by rw [HRR, if_pos hst]; rfl)
               rw [hst];clear hst HRR;go_wp2_with fail;refine (HN.out _).mono ?_;rintro e w9 ⟨rfl, rfl⟩;unfold wrongE;go_wp2_with fail;refine ⟨rfl, ?_⟩;unfold HearAns;rw [hear_none HX.out];exact ⟨rfl, HBq.out⟩
             · have hst2 : stB c = false := by simpa using hst
               have HT := Lib.hid (show hearR (L s) = (hearR ((L s).drop (k + 3))).map (out ++ [c] ++ ·) by rw [HRR, if_neg hst, map_app]);rw [hst2];clear hst hst2 HRR;go_wp2_with fail;refine (HM.out _).mono ?_;rintro e w9 ⟨rfl, rfl⟩;have hs2 := HBq.out.size
               go_wp2_with (at_builtin; refine wpList_append_lies _ rfl _ _ 56 rfl w.heap.size 5 i0 (.int .u8 0) 1 1 Tryz.underlying56 hi hz0 hz1 hz2 rfl (by decide) _ out.length (Lib.byteCells out) rfl (World.ownsRow.alloc hownq _) ⟨wq.heap.size, 0, none⟩ 1 1 [.int .u8 ((x : Int) * 16 + (y : Int))] rfl rfl (World.news_of_block (SBox.new wq _ _)) (by intro u hu; simp at hu; subst hu; rfl) (by decide) (by unfold maxLen; omega) (by omega) (by have := hs2; simp; omega) _ rfl ?_; intro g9 cap9 w9 hown9 hgrow9 hat9 hlt9; have B9 := Lib.hid ((HBq.out.alloc HBq.out.size (.cells #[.int .u8 ((x : Int) * 16 + (y : Int))] 5)).grown hgrow9 (by have := HBq.out.size; simp; omega) (fun q e => (hownq.lt q e).1)); have O9 := Lib.hid hown9; clear hown9 hgrow9 hat9)
               refine ⟨⟨k + 3, out ++ [c], by omega, by simp; omega, by go_num, ?_, B9.out, HT.out⟩, by simp [intOf]; omega⟩;have h := O9.out;rw [← HVI.out] at h
               simpa [Lib.byteCells] using h
       · have t1 : decide ((k : Int) + 2 < (s.size : Int)) = false := by simp; omega
         have t2 : decide (k + 2 < s.size) = false := by simp; omega
         have HX := Lib.hid (show hearR (L s) = none by
           rw [HR.out, HD.out, h37, hearR_end _ (by rw [List.length_drop, len_L]; omega)]; rfl)
         clear h37;go_wp2_with fail;refine (HN.out _).mono ?_;rintro e w9 ⟨rfl, rfl⟩;unfold wrongE;go_wp2_with fail;refine ⟨rfl, ?_⟩;unfold HearAns;rw [hear_none HX.out];exact ⟨rfl, HB.out⟩
     · have g0 : (s[k].toNat == 37) = false := by
         rw [beq_eq_false_iff_ne]; intro e; exact h37 (UInt8.toNat_inj.mp e)
       have g1 : decide ((s[k].toNat : Int) = 37) = false := by
         rw [decide_eq_false_iff_not]; intro e; exact h37 (UInt8.toNat_inj.mp (by show s[k].toNat = 37; omega))
       have g2 : ((s[k].toNat : Int) == 37) = false := by
         rw [beq_eq_false_iff_ne]; intro e; exact h37 (UInt8.toNat_inj.mp (by show s[k].toNat = 37; omega))
       have HE := Lib.hid (hearR_st s[k] ((L s).drop (k + 1)) h37);clear h37;go_wp2_with fail;refine (HS.out _ _).mono ?_;rintro e w9 ⟨rfl, rfl⟩
       by_cases hst : stB s[k] = true
       · have HT := Lib.hid (show hearR (L s) = (hearR ((L s).drop (k + 1))).map (out ++ [s[k]] ++ ·) by
           rw [HR.out, HD.out, HE.out, if_pos hst, map_app])
         rw [hst];clear hst;go_wp2_with fail;refine (HM.out _).mono ?_;rintro e w9 ⟨rfl, rfl⟩;have hs1 := HB.out.size
         go_wp2_with (at_builtin; refine wpList_append_lies _ rfl _ _ 56 rfl w.heap.size 5 i0 (.int .u8 0) 1 1 Tryz.underlying56 hi hz0 hz1 hz2 rfl (by decide) _ out.length (Lib.byteCells out) rfl (World.ownsRow.alloc hown _) ⟨wr.heap.size, 0, none⟩ 1 1 [.int .u8 s[k].toNat] rfl rfl (World.news_of_block (SBox.new wr _ _)) (by intro u hu; simp at hu; subst hu; rfl) (by decide) (by unfold maxLen; omega) (by omega) (by have := hs1; simp; omega) _ rfl ?_; intro g9 cap9 w9 hown9 hgrow9 hat9 hlt9; have B9 := Lib.hid ((HB.out.alloc HB.out.size (.cells #[.int .u8 s[k].toNat] 5)).grown hgrow9 (by have := HB.out.size; simp; omega) (fun q e => (hown.lt q e).1)); have O9 := Lib.hid hown9; clear hown9 hgrow9 hat9)
         refine ⟨⟨k + 1, out ++ [s[k]], by omega, by simp; omega, by go_num, ?_, B9.out, HT.out⟩, by simp [intOf]; omega⟩;have h := O9.out
         simpa [Lib.byteCells] using h
       · have hst2 : stB s[k] = false := by simpa using hst
         have HX := Lib.hid (show hearR (L s) = none by
           rw [HR.out, HD.out, HE.out, if_neg hst]; rfl)
         rw [hst2];clear hst hst2;go_wp2_with fail;refine (HN.out _).mono ?_;rintro e w9 ⟨rfl, rfl⟩;unfold wrongE;go_wp2_with fail;refine ⟨rfl, ?_⟩;unfold HearAns;rw [hear_none HX.out];exact ⟨rfl, HB.out⟩
   · obtain rfl : k = s.size := by omega
     have hd : (L s).drop s.size = [] := List.drop_of_length_le (by rw [len_L]; omega);rw [hd] at hr;have HR := Lib.hid (show hearR (L s) = some out by rw [hr]; simp [hearR]);have HB := Lib.hid hb;have hcc : (L s).length = s.size := len_L s;have HH := Lib.hid (show hearL (L s) = neL out from hear_ne HR.out);have t1 : ((s.size : Int) < (s.size : Int)) = False := by simp
     clear hr hb hd
     rcases hown.2 with ⟨rfl, h0⟩ | ⟨g, cap, cur, rfl, hg, hcur, hcap, hmx, hsz, htk⟩
     · have : out = [] := List.eq_nil_of_length_eq_zero h0
       subst this;go_wp2_with fail;refine (HN.out _).mono ?_;rintro e w9 ⟨rfl, rfl⟩;unfold wrongE;go_wp2_with fail;refine ⟨rfl, ?_⟩;unfold HearAns;rw [HH.out];exact ⟨rfl, HB.out⟩
     · by_cases h0 : out = []
       · subst h0
         go_wp2_with fail;refine (HN.out _).mono ?_;rintro e w9 ⟨rfl, rfl⟩;unfold wrongE;go_wp2_with fail;refine ⟨rfl, ?_⟩;unfold HearAns;rw [HH.out];exact ⟨rfl, HB.out⟩
       · have hlp : 0 < out.length := List.length_pos_iff.mpr h0
         have t2 : decide ((0 : Int) < (out.length : Int)) = true := by simp; omega
         have t3 : decide (0 < out.length) = true := by simp; omega
         have hback : (convert 56 9 (.slice (some ⟨g, 0, none⟩) out.length cap)).run Tryz.prog wr = .ok (.string (B out)) wr :=
           run_convert_bytes_back wr 56 9 5 ⟨g, 0, none⟩ cap out Tryz.underlying56 Tryz.underlying5 Tryz.underlying9 (Lib.bytes_of_row hcur (by simpa using htk))
         have HO := Lib.hid (show hearL (L s) = some out by rw [HH.out]; exact ne_some h0);clear h0 hown hcur htk hlp;go_wp2_with fail;refine (HM.out _).mono ?_;rintro e w9 ⟨rfl, rfl⟩;go_wp2_with fail;go_ret;unfold HearAns;rw [HO.out];exact ⟨rfl, HB.out⟩
end Go.Proofs.YtkljcgopikdjjaaGreatDoor.Tx
end
