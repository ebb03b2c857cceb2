/- Layer 37, the document's answer: which call has a word. -/
import Derived.Test.YtkljcgopikdjjaaGreatDoorM08
import Derived.Test.YtkljcgopikdjjaaGreatDoorM13
import Derived.BigRegion
import Derived.Deep.RegionLawGrows
import Derived.Deep.AppendLies
import Derived.Test.YtkljcgopikdjjaaGreatDoorM15
set_option linter.unusedVariables false
set_option linter.unusedSimpArgs false
set_option maxRecDepth 100000
section
namespace Go.Proofs.YtkljcgopikdjjaaGreatDoor.Tx
set_option maxRecDepth 100000
set_option maxHeartbeats 1000000
open Go.RowKit Go.Shelf Go.Maps Oct
def rowT (a : Nat → Nat) : Array Value := #[.string ⟨#[99, 111, 114, 101]⟩, numTf (a 0), numHf (a 0), .string ⟨#[110]⟩, numTf (a 1), numHf (a 1), .string ⟨#[105, 110, 111]⟩, highTf (a 2), highHf (a 2), .string ⟨#[100, 111]⟩, whichT, whichH, .string ⟨#[112, 97, 116, 104]⟩, strTf (a 4), strHf (a 4), .string ⟨#[116, 111]⟩, strTf (a 5), strHf (a 5), .string ⟨#[102, 100]⟩, numTf (a 6), numHf (a 6), .string ⟨#[112, 97, 103, 101]⟩, numTf (a 7), numHf (a 7), .string ⟨#[115, 105, 122, 101]⟩, highTf (a 8), highHf (a 8), .string ⟨#[100, 97, 116, 97]⟩, strTf (a 9), strHf (a 9), .string ⟨#[116, 101, 120, 116]⟩, strTf (a 10), strHf (a 10)]
structure FT (n : Nat) (a : Nat → Nat) (r : Nat) (w : World) : Prop where
 row : SBox w r 79 (rowT a)
 lo : n ≤ r ∧ ∀ k, k < 11 → k ≠ 3 → n ≤ a k
 at0 : numAt w (a 0) 68
 at1 : numAt w (a 1) 69
 at2 : highAt w (a 2) 71
 at4 : strAt w (a 4) 74
 at5 : strAt w (a 5) 75
 at6 : numAt w (a 6) 76
 at7 : numAt w (a 7) 77
 at8 : highAt w (a 8) 78
 at9 : strAt w (a 9) 79
 at10 : strAt w (a 10) 80
theorem FT.keep {n : Nat} {a : Nat → Nat} {r : Nat} {w w' : World} (h : FT n a r w) (hb : ∀ b, b < w.heap.size → n ≤ b → w'.heap[b]? = w.heap[b]?) : FT n a r w' :=
 ⟨(hb _ h.row.lt h.lo.1).trans h.row, h.lo, (hb _ h.at0.lt (h.lo.2 0 (by omega) (by omega))).trans h.at0, (hb _ h.at1.lt (h.lo.2 1 (by omega) (by omega))).trans h.at1, (hb _ h.at2.lt (h.lo.2 2 (by omega) (by omega))).trans h.at2, (hb _ h.at4.lt (h.lo.2 4 (by omega) (by omega))).trans h.at4, (hb _ h.at5.lt (h.lo.2 5 (by omega) (by omega))).trans h.at5, (hb _ h.at6.lt (h.lo.2 6 (by omega) (by omega))).trans h.at6, (hb _ h.at7.lt (h.lo.2 7 (by omega) (by omega))).trans h.at7, (hb _ h.at8.lt (h.lo.2 8 (by omega) (by omega))).trans h.at8, (hb _ h.at9.lt (h.lo.2 9 (by omega) (by omega))).trans h.at9, (hb _ h.at10.lt (h.lo.2 10 (by omega) (by omega))).trans h.at10⟩
theorem FT.later {n : Nat} {a : Nat → Nat} {r : Nat} {w w' : World} (h : FT n a r w) (hb : Below w.heap.size w w') : FT n a r w' := h.keep fun b hl _ => hb.block b hl
theorem fields_any (w : World) : Calls Tryz.prog 34 #[] w fun e w' => ∃ a r, e = .returned (.slice (some ⟨r, 0, none⟩) 11 11) ∧ FT w.heap.size a r w' ∧ Below w.heap.size w w' := by
 have Cnum := Lib.hid num_any;have Chigh := Lib.hid high_any;have Cstr := Lib.hid str_any;have Cw := Lib.hid which_any
 go_enter Tryz.func34, Tryz.ntmps34
 go_wp2_with fail;refine (Cnum.out ⟨#[99, 111, 114, 101]⟩ 68 w).mono ?_;rintro e w0 ⟨rfl, s0, b0⟩;have B0 := Lib.hid b0;have S0 := Lib.hid s0;clear b0 s0;go_wp2_with fail;refine (Cnum.out ⟨#[110]⟩ 69 w0).mono ?_;rintro e w1 ⟨rfl, s1, b1⟩;have B1 := Lib.hid b1;have S1 := Lib.hid s1;clear b1 s1;go_wp2_with fail;refine (Chigh.out ⟨#[105, 110, 111]⟩ 71 w1).mono ?_;rintro e w2 ⟨rfl, s2, b2⟩;have B2 := Lib.hid b2;have S2 := Lib.hid s2;clear b2 s2;go_wp2_with fail;refine (Cw.out w2).mono ?_;rintro e w3 ⟨rfl, b3⟩;have B3 := Lib.hid b3;clear b3;go_wp2_with fail;refine (Cstr.out ⟨#[112, 97, 116, 104]⟩ 74 w3).mono ?_;rintro e w4 ⟨rfl, s4, b4⟩;have B4 := Lib.hid b4;have S4 := Lib.hid s4;clear b4 s4;go_wp2_with fail;refine (Cstr.out ⟨#[116, 111]⟩ 75 w4).mono ?_;rintro e w5 ⟨rfl, s5, b5⟩;have B5 := Lib.hid b5;have S5 := Lib.hid s5;clear b5 s5;go_wp2_with fail;refine (Cnum.out ⟨#[102, 100]⟩ 76 w5).mono ?_;rintro e w6 ⟨rfl, s6, b6⟩;have B6 := Lib.hid b6;have S6 := Lib.hid s6;clear b6 s6;go_wp2_with fail;refine (Cnum.out ⟨#[112, 97, 103, 101]⟩ 77 w6).mono ?_;rintro e w7 ⟨rfl, s7, b7⟩;have B7 := Lib.hid b7;have S7 := Lib.hid s7;clear b7 s7;go_wp2_with fail;refine (Chigh.out ⟨#[115, 105, 122, 101]⟩ 78 w7).mono ?_;rintro e w8 ⟨rfl, s8, b8⟩;have B8 := Lib.hid b8;have S8 := Lib.hid s8;clear b8 s8;go_wp2_with fail;refine (Cstr.out ⟨#[100, 97, 116, 97]⟩ 79 w8).mono ?_;rintro e w9 ⟨rfl, s9, b9⟩;have B9 := Lib.hid b9;have S9 := Lib.hid s9;clear b9 s9;go_wp2_with fail;refine (Cstr.out ⟨#[116, 101, 120, 116]⟩ 80 w9).mono ?_;rintro e w10 ⟨rfl, s10, b10⟩;have B10 := Lib.hid b10;have S10 := Lib.hid s10;clear b10 s10;have hz : w.heap.size ≤ w0.heap.size ∧ w0.heap.size ≤ w1.heap.size ∧ w1.heap.size ≤ w2.heap.size ∧ w2.heap.size ≤ w3.heap.size ∧ w3.heap.size ≤ w4.heap.size ∧ w4.heap.size ≤ w5.heap.size ∧ w5.heap.size ≤ w6.heap.size ∧ w6.heap.size ≤ w7.heap.size ∧ w7.heap.size ≤ w8.heap.size ∧ w8.heap.size ≤ w9.heap.size ∧ w9.heap.size ≤ w10.heap.size := ⟨B0.out.size, B1.out.size, B2.out.size, B3.out.size, B4.out.size, B5.out.size, B6.out.size, B7.out.size, B8.out.size, B9.out.size, B10.out.size⟩;have HZ := Lib.hid hz;clear hz;have HR := Lib.hid (SBox.new w10 79 (rowT (fun | 0 => w.heap.size | 1 => w0.heap.size | 2 => w1.heap.size | 3 => w2.heap.size | 4 => w3.heap.size | 5 => w4.heap.size | 6 => w5.heap.size | 7 => w6.heap.size | 8 => w7.heap.size | 9 => w8.heap.size | 10 => w9.heap.size | _ => 0)));have B11 := Lib.hid ((Below.refl w10.heap.size w10).alloc (Nat.le_refl _) (.cells (rowT (fun | 0 => w.heap.size | 1 => w0.heap.size | 2 => w1.heap.size | 3 => w2.heap.size | 4 => w3.heap.size | 5 => w4.heap.size | 6 => w5.heap.size | 7 => w6.heap.size | 8 => w7.heap.size | 9 => w8.heap.size | 10 => w9.heap.size | _ => 0)) 79));unfold rowT at HR B11;simp only at HR B11;go_wp2_with fail;go_ret;obtain ⟨z0, z1, z2, z3, z4, z5, z6, z7, z8, z9, z10⟩ := HZ.out;refine ⟨(fun | 0 => w.heap.size | 1 => w0.heap.size | 2 => w1.heap.size | 3 => w2.heap.size | 4 => w3.heap.size | 5 => w4.heap.size | 6 => w5.heap.size | 7 => w6.heap.size | 8 => w7.heap.size | 9 => w8.heap.size | 10 => w9.heap.size | _ => 0), w10.heap.size, rfl, ⟨HR.out, ⟨by omega, ?_⟩, (((((((((((S0.out.later B1.out).later B2.out).later B3.out).later B4.out).later B5.out).later B6.out).later B7.out).later B8.out).later B9.out).later B10.out).later B11.out), ((((((((((S1.out.later B2.out).later B3.out).later B4.out).later B5.out).later B6.out).later B7.out).later B8.out).later B9.out).later B10.out).later B11.out), (((((((((S2.out.later B3.out).later B4.out).later B5.out).later B6.out).later B7.out).later B8.out).later B9.out).later B10.out).later B11.out), (((((((S4.out.later B5.out).later B6.out).later B7.out).later B8.out).later B9.out).later B10.out).later B11.out), ((((((S5.out.later B6.out).later B7.out).later B8.out).later B9.out).later B10.out).later B11.out), (((((S6.out.later B7.out).later B8.out).later B9.out).later B10.out).later B11.out), ((((S7.out.later B8.out).later B9.out).later B10.out).later B11.out), (((S8.out.later B9.out).later B10.out).later B11.out), ((S9.out.later B10.out).later B11.out), (S10.out.later B11.out)⟩, (((((((((((B0.out.trans (B1.out.mono (by omega))).trans (B2.out.mono (by omega))).trans (B3.out.mono (by omega))).trans (B4.out.mono (by omega))).trans (B5.out.mono (by omega))).trans (B6.out.mono (by omega))).trans (B7.out.mono (by omega))).trans (B8.out.mono (by omega))).trans (B9.out.mono (by omega))).trans (B10.out.mono (by omega))).trans (B11.out.mono (by omega)))⟩;intro k hk h3
 match k, hk with
 | 0, _ => show w.heap.size ≤ w.heap.size; omega
 | 1, _ => show w.heap.size ≤ w0.heap.size; omega
 | 2, _ => show w.heap.size ≤ w1.heap.size; omega
 | 3, _ => show w.heap.size ≤ w2.heap.size; omega
 | 4, _ => show w.heap.size ≤ w3.heap.size; omega
 | 5, _ => show w.heap.size ≤ w4.heap.size; omega
 | 6, _ => show w.heap.size ≤ w5.heap.size; omega
 | 7, _ => show w.heap.size ≤ w6.heap.size; omega
 | 8, _ => show w.heap.size ≤ w7.heap.size; omega
 | 9, _ => show w.heap.size ≤ w8.heap.size; omega
 | 10, _ => show w.heap.size ≤ w9.heap.size; omega
theorem numT_small (u : Nat) : numT (u : Int) = if u = 0 then [] else Lib.decDigits u := by
 unfold numT
 by_cases h : u = 0
 · rw [if_pos (by omega), if_pos h]
 · rw [if_neg (by omega), if_neg h, Lib.itoa_nonneg]
theorem tell_num (g b off a : Nat) (v : Int) (w : World) (hl : Lay w) (h0 : -9223372036854775808 ≤ v) (h1 : v ≤ 9223372036854775807) (ha : numAt w a g) (hc : w.cell? ⟨b, off, none⟩ = some (.int .i64 v))
   (hg : ∀ args w, (callFunc g args).run Tryz.prog w = .ok (.enter g args) w) (hat : ∀ w, Calls Tryz.prog g #[ptr b] w fun e w' => e = .returned (.pointer (some ⟨b, off, none⟩)) ∧ w = w') :
   Calls Tryz.prog 114 #[ptr b, ptr a] w fun e w' => e = .returned (.string (B (numT v))) ∧ Below w.heap.size w w' := by
 have HA := Lib.hid hat;have HL := Lib.hid hl;have HI := Lib.hid (itoa_any v h0 h1 w hl);unfold numAt at ha;have ka := ha.cell 0;simp only [List.getElem?_toArray, List.getElem?_cons_zero] at ka;clear ha hat hl;unfold ptr at HA ⊢
 by_cases hv : v = 0
 · subst hv
   go_enter Tryz.func114, Tryz.ntmps114
   go_wp2_with fail;refine (HA.out _).mono ?_;rintro e w' ⟨rfl, rfl⟩;go_wp2_with fail;go_ret;exact ⟨rfl, Below.refl _ _⟩
 · have e : numT v = Lib.itoa v := by unfold numT; rw [if_neg hv]
   rw [e];have t1 : (v == 0) = false := by simpa using hv
   have t2 : decide (v = 0) = false := by simpa using hv
   clear e
   go_enter Tryz.func114, Tryz.ntmps114
   go_wp2_with fail;refine (HA.out _).mono ?_;rintro e w' ⟨rfl, rfl⟩;go_wp2_with fail;refine HI.out.mono ?_;rintro e w' ⟨rfl, hb⟩;have HB := Lib.hid hb;clear hb;go_wp2_with fail;go_ret;exact ⟨rfl, HB.out⟩
theorem tell_high (g b off a : Nat) (v : Nat) (w : World) (hl : Lay w) (h0 : v < 4294967296) (ha : highAt w a g) (hc : w.cell? ⟨b, off, none⟩ = some (.int .u32 v))
   (hg : ∀ args w, (callFunc g args).run Tryz.prog w = .ok (.enter g args) w) (hat : ∀ w, Calls Tryz.prog g #[ptr b] w fun e w' => e = .returned (.pointer (some ⟨b, off, none⟩)) ∧ w = w') :
   Calls Tryz.prog 116 #[ptr b, ptr a] w fun e w' => e = .returned (.string (B (numT v))) ∧ Below w.heap.size w w' := by
 have HA := Lib.hid hat;have HL := Lib.hid hl;have HI := Lib.hid (fmtu_any v h0 w hl);unfold highAt at ha;have ka := ha.cell 0;simp only [List.getElem?_toArray, List.getElem?_cons_zero] at ka;clear ha hat hl;unfold ptr at HA ⊢;rw [numT_small]
 by_cases hv : v = 0
 · subst hv
   go_enter Tryz.func116, Tryz.ntmps116
   go_wp2_with fail;refine (HA.out _).mono ?_;rintro e w' ⟨rfl, rfl⟩;go_wp2_with fail;go_ret;exact ⟨rfl, Below.refl _ _⟩
 · rw [if_neg hv]
   have t1 : ((v : Int) == 0) = false := by simp; omega
   have t2 : decide ((v : Int) = 0) = false := by simp; omega
   have t3 : decide (v = 0) = false := by simp; omega
   go_enter Tryz.func116, Tryz.ntmps116
   go_wp2_with fail;refine (HA.out _).mono ?_;rintro e w' ⟨rfl, rfl⟩;go_wp2_with fail;refine HI.out.mono ?_;rintro e w' ⟨rfl, hb⟩;have HB := Lib.hid hb;clear hb;go_wp2_with fail;go_ret;exact ⟨rfl, HB.out⟩
theorem tell_str (g b off a : Nat) (s : List UInt8) (w : World) (h0 : s.length ≤ 100000) (ha : strAt w a g) (hc : w.cell? ⟨b, off, none⟩ = some (.string (B s)))
   (hg : ∀ args w, (callFunc g args).run Tryz.prog w = .ok (.enter g args) w) (hat : ∀ w, Calls Tryz.prog g #[ptr b] w fun e w' => e = .returned (.pointer (some ⟨b, off, none⟩)) ∧ w = w') :
   Calls Tryz.prog 122 #[ptr b, ptr a] w fun e w' => e = .returned (.string (B (strT s))) ∧ Below w.heap.size w w' := by
 have HA := Lib.hid hat;have hsz : (B s).size = s.length := rfl;have HI := Lib.hid (telling_any (B s) w (by omega));unfold strAt at ha;have ka := ha.cell 0;simp only [List.getElem?_toArray, List.getElem?_cons_zero] at ka;clear ha hat;unfold ptr at HA ⊢
 by_cases hv : s = []
 · subst hv
   have t1 : (B []).toList.isEmpty = true := by rw [Path.toList_L]; rfl
   go_enter Tryz.func122, Tryz.ntmps122
   go_wp2_with fail;refine (HA.out _).mono ?_;rintro e w' ⟨rfl, rfl⟩;go_wp2_with fail;go_ret;exact ⟨rfl, Below.refl _ _⟩
 · have e : strT s = tellL s := by unfold strT; rw [if_neg hv]
   have t1 : (B s).toList.isEmpty = false := empty_no (by rw [hsz]; exact List.length_pos_iff.mpr hv);rw [e];clear e
   go_enter Tryz.func122, Tryz.ntmps122
   go_wp2_with fail;refine (HA.out _).mono ?_;rintro e w' ⟨rfl, rfl⟩;go_wp2_with fail;refine HI.out.mono ?_;rintro e w' ⟨rfl, hb⟩;have HB := Lib.hid hb;clear hb;go_wp2_with fail;go_ret;exact ⟨rfl, HB.out⟩
theorem cw_word (d : Nat) : cw d = Call.wordN d := by
 match d with
 | 0 | 1 | 2 | 3 | 4 | 5 | 6 | 7 | 8 | 9 | 10 | 11 | 12 | 13 | 14 | 15 => rfl
 | d + 16 => rfl
theorem tell_which (b : Nat) (d : Nat) (w : World) (hl : Lay w) (h0 : d < 256) (hc : w.cell? ⟨b, 4, none⟩ = some (.int .u8 d)) :
   Calls Tryz.prog 119 #[ptr b] w fun e w' => e = .returned (.string (B (cw d))) ∧ Below w.heap.size w w' := by
 have HI := Lib.hid (Call.word_any d w hl.kinds h0);rw [cw_word];clear hl;unfold ptr
 go_enter Tryz.func119, Tryz.ntmps119
 go_wp2_with fail;refine HI.out.mono ?_;rintro e w' ⟨rfl, rfl⟩;go_wp2_with fail;go_ret;exact ⟨rfl, Below.refl _ _⟩
end Go.Proofs.YtkljcgopikdjjaaGreatDoor.Tx
end
section
namespace Go.Proofs.YtkljcgopikdjjaaGreatDoor.Tx
set_option maxRecDepth 100000
set_option maxHeartbeats 1000000
open Go.RowKit Go.Shelf Go.Maps Oct
theorem drop_get (s : ByteArray) (k : Nat) (h : k < s.size) : (L s).drop k = s[k] :: (L s).drop (k + 1) := by
 have h2 : k < (L s).length := by rw [len_L]; exact h
 rw [List.drop_eq_getElem_cons h2]
 rfl
theorem untext_37 (a b : UInt8) (r : List UInt8) : untextL (37 :: a :: b :: r) = UInt8.ofNat (16 * unhexR a + unhexR b) :: untextL r := rfl
theorem untext_st {c : UInt8} (h : c ≠ 37) (r : List UInt8) : untextL (c :: r) = c :: untextL r := by
 rw [untextL.eq_def];simp only [if_neg h]
theorem untext_end2 (a : UInt8) : untextL [37, a] = untextL [a] := by
 by_cases h : a = 37
 · subst h; rfl
 · rw [untext_st h]
   show (if a = 37 then [] else [a]) = a :: [];rw [if_neg h]
theorem unhexR_lt (c : UInt8) : unhexR c < 16 := by
 unfold unhexR
 split
 · omega
 · split <;> omega
theorem untext_any (s : ByteArray) (w : World) (hs : s.size ≤ 100000) : Calls Tryz.prog 56 #[.string s] w fun e w' => e = .returned (.string (B (untextL (L s)))) ∧ Below w.heap.size w w' := by
 obtain ⟨i0, hi, hz0, hz1, hz2⟩ := info_u8;have HU := Lib.hid unhex37
 go_enter Tryz.func56, Tryz.ntmps56
 go_wp2
 go_loopw [3, 4] (fun v i wr => ∃ (k : Nat) (out : List UInt8), k ≤ s.size ∧ out.length ≤ k ∧ i = .int .i64 k ∧ wr.ownsRow w.heap.size 5 1 v out.length (Lib.byteCells out) ∧ Below w.heap.size w wr ∧ untextL (L s) = out ++ untextL ((L s).drop k)) (fun _ i _ => s.size - (intOf i).toNat)
 case atStart => exact ⟨0, [], by omega, by simp, rfl, ⟨rfl, .inl ⟨rfl, rfl⟩⟩, Below.refl _ _, by simp⟩
 case round =>
   obtain ⟨k, out, hk, ho, rfl, hown, hb, hr⟩ := hrel;have HB := Lib.hid hb
   by_cases hlt : k < s.size
   · have hd : (L s).drop k = s[k] :: (L s).drop (k + 1) := drop_get s k hlt
     rw [hd] at hr;clear hb hd
     by_cases h37 : s[k] = 37
     · have g2 : ((s[k].toNat : Int) == 37) = true := by rw [h37]; rfl
       have q1 : IntKind.i64.wrap ((k : Int) + 2) = (k : Int) + 2 := IntWalk.i64_in _ (by omega);have q2 : IntKind.i64.wrap ((k : Int) + 1) = (k : Int) + 1 := IntWalk.i64_in _ (by omega)
       by_cases h2 : k + 2 < s.size
       · have hd2 : (L s).drop (k + 1) = s[k + 1] :: (L s).drop (k + 2) := drop_get s (k + 1) (by omega)
         have hd3 : (L s).drop (k + 2) = s[k + 2] :: (L s).drop (k + 3) := drop_get s (k + 2) h2;rw [h37, hd2, hd3, untext_37] at hr;have t1 : decide ((k : Int) + 2 < (s.size : Int)) = true := by simp; omega
         have t2 : decide (k + 2 < s.size) = true := by simp; omega
         have x1 : (0 : Int) ≤ (k : Int) + 1 ∧ (k : Int) + 1 < (s.size : Int) := by omega
         have x2 : (0 : Int) ≤ (k : Int) + 2 ∧ (k : Int) + 2 < (s.size : Int) := by omega
         have n1 : ((k : Int) + 1).toNat = k + 1 := by omega
         have n2 : ((k : Int) + 2).toNat = k + 2 := by omega
         have l1 := unhexR_lt s[k + 1];have l2 := unhexR_lt s[k + 2];have H1 := Lib.hid (HU.out s[k + 1]);have H2 := Lib.hid (HU.out s[k + 2]);have HR := Lib.hid hr
         generalize unhexR s[k + 1] = a at *
         generalize unhexR s[k + 2] = b at *
         have w1 : IntKind.u8.wrap (16 * (a : Int)) = 16 * (a : Int) := by rw [IntKind.wrap_u8']; omega
         have w2 : IntKind.u8.wrap (16 * (a : Int) + (b : Int)) = ((16 * a + b : Nat) : Int) := by rw [IntKind.wrap_u8']; omega
         have HOD : Hid ((wr.drew.alloc (.cells #[.int .u8 ((16 * a + b : Nat) : Int)] 5)).ownsRow w.heap.size 5 1 u3 out.length (Lib.byteCells out)) := Lib.hid (World.ownsRow.alloc (show wr.drew.ownsRow w.heap.size 5 1 u3 out.length (Lib.byteCells out) from hown) _);have HBD : Hid (Below w.heap.size w (wr.drew.alloc (.cells #[.int .u8 ((16 * a + b : Nat) : Int)] 5))) := Lib.hid (HB.out.drew.alloc HB.out.size _);have hbz := HB.out.size;have hvi : (UInt8.ofNat (16 * a + b)).toNat = 16 * a + b := by rw [UInt8.toNat_ofNat']; omega
         have HVI := Lib.hid hvi;clear hown hr h37 hd2 hd3 hvi;go_wp2_with fail
         go_region_law (first | (refine step_append_lies _ rfl (.tmp 22) (.tmp 35) 56 rfl w.heap.size 5 i0 (.int .u8 0) 1 1 Tryz.underlying56 hi hz0 hz1 hz2 rfl (by decide) _ out.length (Lib.byteCells out) rfl HOD.out ⟨wr.heap.size, 0, none⟩ 1 1 [.int .u8 ((16 * a + b : Nat) : Int)] rfl rfl ?q1 ?q2 (by decide) ?q3 ?q4 ?q5 _ rfl ?_; (case q1 => exact World.news_of_block (SBox.new wr.drew 5 #[.int .u8 ((16 * a + b : Nat) : Int)])); (case q2 => (intro u hu; simp at hu; subst hu; rfl)); (case q3 => (unfold maxLen; omega)); (case q4 => omega); (case q5 => (simp; omega)); intro g9 cap9 w9 hown9 hgrow9 hat9 hlt9; have B9 := Lib.hid (HBD.out.grown hgrow9 (by simp; omega) (fun q e => (HOD.out.lt q e).1)); have O9 := Lib.hid hown9; clear hown9 hgrow9 hat9) | (go_simp; go_at_call 99; first | with_reducible refine (H1.out _).mono ?_ | with_reducible refine (H2.out _).mono ?_; rintro e w9 ⟨rfl, rfl⟩))
         all_goals
           go_wp2
           refine ⟨⟨k + 3, out ++ [UInt8.ofNat (16 * a + b)], by omega, by simp; omega, by go_num, ?_, B9.out, by rw [HR.out]; simp⟩, by simp [intOf]; omega⟩;have h := O9.out;rw [← HVI.out] at h
           simpa [Lib.byteCells] using h
       · have t1 : decide ((k : Int) + 2 < (s.size : Int)) = false := by simp; omega
         have t2 : decide (k + 2 < s.size) = false := by simp; omega
         have HR := Lib.hid (show untextL (L s) = out ++ untextL ((L s).drop (k + 1)) by
           rw [hr, h37]
           rcases Nat.lt_or_ge (k + 1) s.size with h | h
           · have e1 := drop_get s (k + 1) h
             have e2 : (L s).drop (k + 1 + 1) = [] := List.drop_of_length_le (by rw [len_L]; omega);rw [e2] at e1;rw [e1, untext_end2]
           · have e2 : (L s).drop (k + 1) = [] := List.drop_of_length_le (by rw [len_L]; omega)
             rw [e2]; rfl)
         have HO := Lib.hid hown;clear h37 hr hown;go_wp2_with fail;refine ⟨⟨k + 1, out, by omega, by omega, by go_num, HO.out, HB.out, HR.out⟩, by simp [intOf]; omega⟩
     · have g2 : ((s[k].toNat : Int) == 37) = false := by
         rw [beq_eq_false_iff_ne]; intro e; exact h37 (UInt8.toNat_inj.mp (by show s[k].toNat = 37; omega))
       have HR := Lib.hid (show untextL (L s) = out ++ [s[k]] ++ untextL ((L s).drop (k + 1)) by
         rw [hr, untext_st h37]; simp)
       clear h37 hr
       go_wp2_with (at_builtin; refine wpList_append_lies _ rfl _ _ 56 rfl w.heap.size 5 i0 (.int .u8 0) 1 1 Tryz.underlying56 hi hz0 hz1 hz2 rfl (by decide) _ out.length (Lib.byteCells out) rfl (World.ownsRow.alloc hown _) ⟨wr.heap.size, 0, none⟩ 1 1 [.int .u8 s[k].toNat] rfl rfl (World.news_of_block (SBox.new wr _ _)) (by intro u hu; simp at hu; subst hu; rfl) (by decide) (by unfold maxLen; omega) (by omega) (by have := HB.out.size; simp; omega) _ rfl ?_; intro g9 cap9 w9 hown9 hgrow9 hat9 hlt9; have B9 := Lib.hid ((HB.out.alloc HB.out.size (.cells #[.int .u8 s[k].toNat] 5)).grown hgrow9 (by have := HB.out.size; simp; omega) (fun q e => (hown.lt q e).1)); have O9 := Lib.hid hown9; clear hown9 hgrow9 hat9)
       refine ⟨⟨k + 1, out ++ [s[k]], by omega, by simp; omega, by go_num, ?_, B9.out, HR.out⟩, by simp [intOf]; omega⟩;have h := O9.out
       simpa [Lib.byteCells] using h
   · have hk2 : k = s.size := by omega
     subst hk2;have hd : (L s).drop s.size = [] := List.drop_of_length_le (by rw [len_L]; omega);have E2 := Lib.hid (show untextL (L s) = out by rw [hr, hd]; simp [untextL]);clear hr hd hb
     have hconv : ∃ W2, (convert 56 9 u3).run Tryz.prog wr = .ok (.string (B out)) W2 ∧ W2 = wr := by
       rcases hown.2 with ⟨rfl, h0⟩ | ⟨g, cap, cur, rfl, hg0, hcur, hc1, hc2, hc3, htk⟩
       · have h00 := List.eq_nil_of_length_eq_zero h0
         subst h00;exact ⟨wr, by kernel_rfl, rfl⟩
       · exact ⟨wr, run_convert_bytes_back wr 56 9 5 ⟨g, 0, none⟩ cap out Tryz.underlying56 Tryz.underlying5 Tryz.underlying9 (Lib.bytes_of_row hcur (by simpa using htk)), rfl⟩
     obtain ⟨W2, hcv, rfl⟩ := hconv;clear hown;go_wp2_with fail;go_ret;exact ⟨by rw [E2.out]; rfl, HB.out⟩
end Go.Proofs.YtkljcgopikdjjaaGreatDoor.Tx
end
section
namespace Go.Proofs.YtkljcgopikdjjaaGreatDoor.Tx
set_option maxRecDepth 100000
set_option maxHeartbeats 1000000
open Go.RowKit Go.Shelf Go.Maps Oct
theorem val_nil (key : List UInt8) : ∀ l : List UInt8, l.length < key.length → valL key l = [] := by
 intro l
 induction l with
 | nil => intro _; rfl
 | cons c r ih =>
   intro h
   have h1 : ¬ key.isPrefixOf (c :: r) = true := by
     intro e;have := (List.isPrefixOf_iff_prefix.mp e).length_le;omega
   simp only [valL, if_neg h1];exact ih (by simp at h; omega)
theorem val_hit {key : List UInt8} {c : UInt8} {r : List UInt8} (h : key.isPrefixOf (c :: r) = true) : valL key (c :: r) = ((c :: r).drop key.length).takeWhile ne32 := by simp only [valL, if_pos h]
theorem val_miss {key : List UInt8} {c : UInt8} {r : List UInt8} (h : ¬ key.isPrefixOf (c :: r) = true) : valL key (c :: r) = valL key r := by simp only [valL, if_neg h]
theorem B_ne {a b : List UInt8} (h : a ≠ b) : ((B a).toList == (B b).toList) = false := by
 rw [Path.toList_L, Path.toList_L, L_B, L_B]
 simpa using h
theorem ex_mid (s : ByteArray) (i j : Nat) : s.extract i (i + j) = B (((L s).drop i).take j) := by
 apply L_inj
 rw [L_B];unfold L;obtain ⟨⟨l⟩⟩ := s;rw [ByteArray.extract_mk]
 simp
theorem value_any (s : ByteArray) (n : List UInt8) (hs : s.size ≤ 100000) (hn : n.length ≤ 10) (w : World) : Calls Tryz.prog 55 #[.string s, .string (B n)] w fun e w' => e = .returned (.string (B (valL (keyL n) (L s)))) ∧ w = w' := by
 have hkl : (keyL n).length = n.length + 2 := by simp [keyL]
 have z1 : (B n).size = n.length := size_B n
 have hcat : (⟨#[32]⟩ : ByteArray) ++ B n ++ (⟨#[61]⟩ : ByteArray) = B (keyL n) := by
   rw [show (⟨#[32]⟩ : ByteArray) = B [32] from rfl, show (⟨#[61]⟩ : ByteArray) = B [61] from rfl, B_append, B_append]
   rfl
 have z2 : (B (keyL n)).size = n.length + 2 := by rw [size_B, hkl]
 have HK := Lib.hid hkl
 generalize hkey : keyL n = key at *
 clear hkl hkey
 go_enter Tryz.func55, Tryz.ntmps55
 go_wp2_with fail
 go_loopw [6] (fun i wr => ∃ k : Nat, k ≤ s.size ∧ i = .int .i64 k ∧ valL key (L s) = valL key ((L s).drop k) ∧ wr = w) (fun i _ => s.size + 1 - (intOf i).toNat)
 case atStart => exact ⟨0, by omega, rfl, by simp, rfl⟩
 case round =>
   obtain ⟨k, hk, rfl, hv, rfl⟩ := hrel;have q1 : IntKind.i64.wrap ((k : Int) + ((n.length + 2 : Nat) : Int)) = ((k + (n.length + 2) : Nat) : Int) := by rw [IntWalk.i64_in _ (by omega)]; omega
   by_cases hlt : k + (n.length + 2) ≤ s.size
   · have t1 : decide (((k + (n.length + 2) : Nat) : Int) ≤ (s.size : Int)) = true := by simp; omega
     have hd : (L s).drop k = s[k] :: (L s).drop (k + 1) := drop_get s k (by omega);have hx := ex_mid s k (n.length + 2);have hlen : (((L s).drop k).take (n.length + 2)).length = n.length + 2 := by rw [List.length_take, List.length_drop, len_L]; omega
     have hpre : key.isPrefixOf (s[k] :: (L s).drop (k + 1)) = true ↔ ((L s).drop k).take (n.length + 2) = key := by
       rw [← hd, List.isPrefixOf_iff_prefix, List.prefix_iff_eq_take, HK.out];exact eq_comm
     have hvh := val_hit (key := key) (c := s[k]) (r := (L s).drop (k + 1));have hvm := val_miss (key := key) (c := s[k]) (r := (L s).drop (k + 1));rw [← hd] at hpre hvh hvm;have HR : Hid (valL key (L s) = valL key ((L s).drop k)) := Lib.hid hv
     generalize htk : ((L s).drop k).take (n.length + 2) = tk at *
     by_cases hkk : tk = key
     · have E2 : Hid (valL key (L s) = ((L s).drop (k + (n.length + 2))).takeWhile ne32) := Lib.hid (by
         rw [HR.out, hvh (hpre.mpr hkk), HK.out, List.drop_drop])
       subst hkk;clear hpre hvh hvm htk hd hv;have q2 : ((B tk).toList == (B tk).toList) = true := by simp
       have q3 : IntKind.i64.wrap ((k : Int) + ((n.length + 2 : Nat) : Int)) = ((k + (n.length + 2) : Nat) : Int) := by rw [IntWalk.i64_in _ (by omega)]; omega
       generalize hm : n.length + 2 = m at *
       go_wp2_with fail
       go_loopw [7] (fun e wq => ∃ j : Nat, k + m ≤ j ∧ j ≤ s.size ∧ e = .int .i64 j ∧ ((L s).drop (k + m)).takeWhile ne32 = ((L s).drop (k + m)).take (j - (k + m)) ++ ((L s).drop j).takeWhile ne32 ∧ wq = wr) (fun e _ => s.size - (intOf e).toNat)
       case atStart => exact ⟨k + m, by omega, by omega, by go_num, by simp, rfl⟩
       case round =>
         obtain ⟨j, hj0, hj1, rfl, hw, rfl⟩ := hrel;have q4 : (((k + m : Nat) : Int)).toNat = k + m := by omega
         by_cases hjs : j < s.size
         · have hd : (L s).drop j = s[j] :: (L s).drop (j + 1) := drop_get s j hjs
           by_cases h32 : s[j] = 32
           · have g2 : ((s[j].toNat : Int) == 32) = true := by rw [h32]; rfl
             have E3 := Lib.hid (show valL tk (L s) = ((L s).drop (k + m)).take (j - (k + m)) by
               rw [E2.out, hw, hd, h32]
               simp [ne32])
             have hx := ex_mid s (k + m) (j - (k + m));rw [show k + m + (j - (k + m)) = j by omega] at hx;clear hw hd h32;go_wp2_with fail;go_ret;exact ⟨by rw [E3.out, ← hx]; rfl, rfl⟩
           · have g2 : ((s[j].toNat : Int) == 32) = false := by
               rw [beq_eq_false_iff_ne]; intro e; exact h32 (UInt8.toNat_inj.mp (by show s[j].toNat = 32; omega))
             have HN := Lib.hid (show ((L s).drop (k + m)).takeWhile ne32 = ((L s).drop (k + m)).take (j + 1 - (k + m)) ++ ((L s).drop (j + 1)).takeWhile ne32 by
               have e1 : ((L s).drop (k + m)).take (j + 1 - (k + m)) = ((L s).drop (k + m)).take (j - (k + m)) ++ [s[j]] := by
                 rw [show j + 1 - (k + m) = (j - (k + m)) + 1 by omega, List.take_add_one, List.getElem?_drop, show k + m + (j - (k + m)) = j by omega];have := congrArg (fun z => z[0]?) hd
                 simp at this
                 rw [this]
                 rfl
               have hn : ne32 s[j] = true := by simp [ne32, h32]
               rw [hw, hd, e1, List.takeWhile_cons, if_pos hn]
               simp)
             clear hw hd h32;go_wp2_with fail;exact ⟨⟨j + 1, by omega, by omega, by go_num, HN.out, trivial⟩, by simp [intOf]; omega⟩
         · have hje : j = s.size := by omega
           subst hje;have hd : (L s).drop s.size = [] := List.drop_of_length_le (by rw [len_L]; omega)
           have E3 := Lib.hid (show valL tk (L s) = ((L s).drop (k + m)).take (s.size - (k + m)) by
             rw [E2.out, hw, hd]
             simp)
           have hx := ex_mid s (k + m) (s.size - (k + m));rw [show k + m + (s.size - (k + m)) = s.size by omega] at hx;clear hw hd;go_wp2_with fail;go_ret;exact ⟨by rw [E3.out, ← hx]; rfl, rfl⟩
     · have hv2 : Hid (valL key (L s) = valL key ((L s).drop (k + 1))) := Lib.hid (by rw [HR.out, hvm (fun e => hkk (hpre.mp e))])
       have q2 : ((B tk).toList == (B key).toList) = false := B_ne hkk;clear hpre hvh hvm htk hd hv hkk;go_wp2_with fail;exact ⟨⟨k + 1, by omega, by go_num, hv2.out, trivial⟩, by simp [intOf]; omega⟩
   · have t1 : decide (((k + (n.length + 2) : Nat) : Int) ≤ (s.size : Int)) = false := by simp; omega
     have E2 := Lib.hid (show valL key (L s) = [] by rw [hv]; exact val_nil key _ (by rw [List.length_drop, len_L, HK.out]; omega));clear hv;go_wp2_with fail;go_ret;exact ⟨by rw [E2.out]; rfl, rfl⟩
end Go.Proofs.YtkljcgopikdjjaaGreatDoor.Tx
end
section
namespace Go.Proofs.YtkljcgopikdjjaaGreatDoor.Tx
set_option maxRecDepth 100000
set_option maxHeartbeats 1000000
open Go.RowKit Go.Shelf Go.Maps Oct
theorem callOf_none {l : List UInt8} (h : ∀ j, 1 ≤ j → j ≤ 15 → cw j ≠ l) : callOf l = 0 := by
 by_cases e : callOf l = 0
 · exact e
 · obtain ⟨a, b⟩ := callOf_some e
   exact absurd a (h _ (by omega) b)
theorem B_same (a : List UInt8) : ((B a).toList == (B a).toList) = true := by simp
theorem rcall_any (l : List UInt8) (w : World) : Calls Tryz.prog 54 #[.string (B l)] w fun e w' => e = .returned (.int .u8 (callOf l)) ∧ Below w.heap.size w w' := by
 have RW := Lib.hid (fun d (hd : d < 256) W => Call.rword_any d W hd)
 go_enter Tryz.func54, Tryz.ntmps54
 go_wp2
 go_loopw [3] (fun i wr => ∃ k : Nat, k ≤ 15 ∧ i = .int .u8 ((k + 1 : Nat) : Int) ∧ (∀ j, 1 ≤ j → j ≤ k → cw j ≠ l) ∧ Below w.heap.size w wr) (fun i _ => 16 - (intOf i).toNat)
 case atStart => exact ⟨0, by omega, rfl, fun j h1 h2 => by omega, Below.refl _ _⟩
 case round =>
   obtain ⟨k, hk, rfl, hno, hb⟩ := hrel;have HB := Lib.hid hb;have HN := Lib.hid hno;clear hb hno
   by_cases h15 : k < 15
   · have C := Lib.hid (RW.out (k + 1) (by omega) wr)
     rw [← cw_word] at C
     by_cases hc : cw (k + 1) = l
     · have e := callOf_cw (k + 1) (by omega) (by omega)
       rw [hc] at C e;have E := Lib.hid e;have q := B_same l;clear e;clear hc;go_wp2_with fail;refine C.out.mono ?_;rintro e w5 ⟨rfl, hb5⟩;have HB5 := Lib.hid (HB.out.trans (hb5.mono HB.out.size));clear hb5;go_wp2_with fail;go_ret;exact ⟨by rw [E.out]; rfl, HB5.out⟩
     · have q := B_ne hc
       have HN2 := Lib.hid (show ∀ j, 1 ≤ j → j ≤ k + 1 → cw j ≠ l from fun j h1 h2 => by
         rcases Nat.lt_or_ge k j with h | h
         · have : j = k + 1 := by omega
           subst this; exact hc
         · exact HN.out j h1 h)
       clear hc;go_wp2_with fail;refine C.out.mono ?_;rintro e w5 ⟨rfl, hb5⟩;have HB5 := Lib.hid (HB.out.trans (hb5.mono HB.out.size));clear hb5;have w1 : IntKind.u8.wrap (((k + 1 : Nat) : Int) + 1) = ((k + 1 + 1 : Nat) : Int) := by rw [IntKind.wrap_u8']; omega
       go_wp2_with fail;exact ⟨⟨k + 1, by omega, by go_num, HN2.out, HB5.out⟩, by simp [intOf]; omega⟩
   · have : k = 15 := by omega
     subst this;have E := Lib.hid (callOf_none HN.out);go_wp2_with fail;go_ret;exact ⟨by rw [E.out]; rfl, HB.out⟩
end Go.Proofs.YtkljcgopikdjjaaGreatDoor.Tx
end
