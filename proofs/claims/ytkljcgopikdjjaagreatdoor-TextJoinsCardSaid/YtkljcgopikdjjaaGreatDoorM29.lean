/- Layer 37 (text): any field heard. -/
import Derived.Test.YtkljcgopikdjjaaGreatDoorM14
import Derived.Test.YtkljcgopikdjjaaGreatDoorM27
import Derived.Test.YtkljcgopikdjjaaGreatDoorM28
set_option linter.unusedVariables false
set_option linter.unusedSimpArgs false
set_option maxRecDepth 100000
section
namespace Go.Proofs.YtkljcgopikdjjaaGreatDoor.Tx
set_option maxRecDepth 100000
set_option maxHeartbeats 1000000
open Go.RowKit Go.Shelf Go.Maps Oct
theorem gTab : Tryz.prog.globalNamed "internal/strconv.uint64pow10" = some 2 := by kernel_rfl
theorem gSyn : Tryz.prog.globalNamed "strconv.ErrSyntax" = some 3 := by kernel_rfl
theorem gRng : Tryz.prog.globalNamed "strconv.ErrRange" = some 4 := by kernel_rfl
theorem Lay.size {w : World} (h : Lay w) : 5 ≤ w.heap.size := by
 obtain ⟨a, b, e⟩ := h.er;unfold World.var? at e;rw [gRng] at e;simp only [Option.bind_some] at e
 rcases Nat.lt_or_ge 4 w.heap.size with h' | h'
 · omega
 · simp [Array.getElem?_eq_none h'] at e
theorem var_tch {w w' : World} {b g : Nat} {n : String} {cs : Array Value} (hg : Tryz.prog.globalNamed n = some g) (h : w.var? Tryz.prog n = some cs) (ht : Tch (fun k => k = b) w w') (hne : g ≠ b) : w'.var? Tryz.prog n = some cs := by
 unfold World.var? at h ⊢;rw [hg] at h ⊢;simp only [Option.bind_some] at h ⊢
 have hlt : g < w.heap.size := by
   rcases Nat.lt_or_ge g w.heap.size with h' | h'
   · exact h'
   · simp [Array.getElem?_eq_none h'] at h
 rw [ht.block g hlt hne];exact h
theorem Lay.tch {w w' : World} {b : Nat} (h : Lay w) (ht : Tch (fun k => k = b) w w') (hb : 5 ≤ b) : Lay w' := by
 have hz := h.size;refine ⟨h.kinds.below (n := 5) (by omega) ?_, var_tch gTab h.tab ht (by omega), ?_, ?_⟩
 · exact ht.below fun i hi => ⟨by omega, by omega⟩
 · obtain ⟨a, c, e⟩ := h.es; exact ⟨a, c, var_tch gSyn e ht (by omega)⟩
 · obtain ⟨a, c, e⟩ := h.er; exact ⟨a, c, var_tch gRng e ht (by omega)⟩
def HearPost (b off : Nat) (x : M) (o : Option Value) (w : World) (e : Ending) (w' : World) : Prop :=
 (match o with | some v => e = .returned (.tuple #[]) ∧ SBox w' b 40 (x.cells.setIfInBounds off v) | none => e = wrongE) ∧ Tch (fun k => k = b) w w'
theorem hear_num (g b off a : Nat) (s : ByteArray) (x : M) (z : Int) (w : World) (hl : Lay w) (hs : s.size ≤ 100000) (ha : numAt w a g) (hx : MBox w b x) (hz : x.cells[off]? = some (.int .i64 z))
   (hg : ∀ args w, (callFunc g args).run Tryz.prog w = .ok (.enter g args) w) (hat : ∀ w, Calls Tryz.prog g #[ptr b] w fun e w' => e = .returned (.pointer (some ⟨b, off, none⟩)) ∧ w = w') :
   Calls Tryz.prog 115 #[ptr b, .string s, ptr a] w (HearPost b off x ((numH (L s)).map fun n => .int .i64 n) w) := by
 have HA := Lib.hid hat;have HNU := Lib.hid (number_any s w hl hs);have HX := Lib.hid hx;have HAT := Lib.hid ha;have HM := Lib.hid must_yes;have HN := Lib.hid must_no;have HZ := Lib.hid hz;clear ha hat hl hx hz;unfold ptr at HA ⊢;cases hn : numL (L s) with
 | none =>
   have HH := Lib.hid (show numH (L s) = none by unfold numH; rw [hn]);unfold NumAns at HNU;rw [hn] at HNU;clear hn
   go_enter Tryz.func115, Tryz.ntmps115
   go_wp2_with fail;refine HNU.out.mono ?_;rintro e w2 ⟨rfl, hb⟩;have HB := Lib.hid (Tch.of (O := fun k => k = b) hb);clear hb;unfold wrongE;go_wp2_with fail;refine ⟨rfl, ?_⟩;unfold HearPost;rw [HH.out];exact ⟨rfl, HB.out⟩
 | some v =>
   unfold NumAns at HNU;rw [hn] at HNU;simp only at HNU
   by_cases hv : v = 0
   · have HH := Lib.hid (show numH (L s) = none by unfold numH; rw [hn]; simp only; rw [if_pos hv])
     subst hv;clear hn
     go_enter Tryz.func115, Tryz.ntmps115
     go_wp2_with fail;refine HNU.out.mono ?_;rintro e w2 ⟨rfl, hb⟩;have HB := Lib.hid (Tch.of (O := fun k => k = b) hb);clear hb;go_wp2_with fail;refine (HN.out _).mono ?_;rintro e w9 ⟨rfl, rfl⟩;unfold wrongE;go_wp2_with fail;refine ⟨rfl, ?_⟩;unfold HearPost;rw [HH.out];exact ⟨rfl, HB.out⟩
   · have HH := Lib.hid (show numH (L s) = some v by unfold numH; rw [hn]; simp only; rw [if_neg hv])
     have g0 : (v != 0) = true := by simpa using hv
     have g1 : decide (v = 0) = false := by simpa using hv
     have g2 : (v == 0) = false := by simpa using hv
     clear hn hv
     go_enter Tryz.func115, Tryz.ntmps115
     go_wp2_with fail;refine HNU.out.mono ?_;rintro e w2 ⟨rfl, hb⟩;have HB := Lib.hid (Tch.of (O := fun k => k = b) hb);have HX2 := Lib.hid (show MBox w2 b x from SBox.later HX.out hb);have ka := (show SBox w2 a _ _ from SBox.later HAT.out hb).cell 0;simp only [List.getElem?_toArray, List.getElem?_cons_zero] at ka;have kc := (SBox.cell HX2.out off).trans HZ.out;have kf := SBox.free HX2.out off;clear hb;go_wp2_with fail;refine (HM.out _).mono ?_;rintro e w9 ⟨rfl, rfl⟩;go_wp2_with fail;refine (HA.out _).mono ?_;rintro e w9 ⟨rfl, rfl⟩;have HS := Lib.hid (SBox.set HX2.out off (.int .i64 v));have HC := Lib.hid (HB.out.trans (Tch.cell (O := fun k => k = b) (w := w2) (b := b) (i := off) (v := .int .i64 v) rfl));go_wp2_with fail;go_end0;unfold HearPost;rw [HH.out];exact ⟨⟨rfl, HS.out⟩, HC.out⟩
theorem hear_high (g b off a : Nat) (s : ByteArray) (x : M) (z : Nat) (w : World) (hl : Lay w) (hs : s.size ≤ 100000) (ha : highAt w a g) (hx : MBox w b x) (hz : x.cells[off]? = some (.int .u32 z))
   (hg : ∀ args w, (callFunc g args).run Tryz.prog w = .ok (.enter g args) w) (hat : ∀ w, Calls Tryz.prog g #[ptr b] w fun e w' => e = .returned (.pointer (some ⟨b, off, none⟩)) ∧ w = w') :
   Calls Tryz.prog 118 #[ptr b, .string s, ptr a] w (HearPost b off x ((highH (L s)).map fun n => .int .u32 n) w) := by
 have HA := Lib.hid hat;have HNU := Lib.hid (number_any s w hl hs);have HX := Lib.hid hx;have HAT := Lib.hid ha;have HM := Lib.hid must_yes;have HN := Lib.hid must_no;have HZ := Lib.hid hz;clear ha hat hl hx hz;unfold ptr at HA ⊢;cases hn : numL (L s) with
 | none =>
   have HH := Lib.hid (show highH (L s) = none by unfold highH; rw [hn]);unfold NumAns at HNU;rw [hn] at HNU;clear hn
   go_enter Tryz.func118, Tryz.ntmps118
   go_wp2_with fail;refine HNU.out.mono ?_;rintro e w2 ⟨rfl, hb⟩;have HB := Lib.hid (Tch.of (O := fun k => k = b) hb);clear hb;unfold wrongE;go_wp2_with fail;refine ⟨rfl, ?_⟩;unfold HearPost;rw [HH.out];exact ⟨rfl, HB.out⟩
 | some v =>
   unfold NumAns at HNU;rw [hn] at HNU;simp only at HNU
   by_cases hv : 0 < v ∧ v < 4294967296
   · have HH := Lib.hid (show highH (L s) = some v.toNat by unfold highH; rw [hn]; simp only; rw [if_pos hv])
     obtain ⟨u, rfl⟩ : ∃ u : Nat, v = u := ⟨v.toNat, by omega⟩;have g0 : decide ((0 : Int) < (u : Int)) = true := by simp; omega
     have g1 : decide ((u : Int) < 4294967296) = true := by simp; omega
     have g2 : IntKind.u32.wrap (u : Int) = (u : Int) := by rw [IntKind.wrap_u32]; omega
     have g3 : decide (0 < u) = true := by simp; omega
     have g4 : decide (u < 4294967296) = true := by simp; omega
     clear hn hv
     go_enter Tryz.func118, Tryz.ntmps118
     go_wp2_with fail;refine HNU.out.mono ?_;rintro e w2 ⟨rfl, hb⟩;have HB := Lib.hid (Tch.of (O := fun k => k = b) hb);have HX2 := Lib.hid (show MBox w2 b x from SBox.later HX.out hb);have ka := (show SBox w2 a _ _ from SBox.later HAT.out hb).cell 0;simp only [List.getElem?_toArray, List.getElem?_cons_zero] at ka;have kc := (SBox.cell HX2.out off).trans HZ.out;have kf := SBox.free HX2.out off;clear hb;go_wp2_with fail;refine (HM.out _).mono ?_;rintro e w9 ⟨rfl, rfl⟩;go_wp2_with fail;refine (HA.out _).mono ?_;rintro e w9 ⟨rfl, rfl⟩;have HS := Lib.hid (SBox.set HX2.out off (.int .u32 (u : Int)));have HC := Lib.hid (HB.out.trans (Tch.cell (O := fun k => k = b) (w := w2) (b := b) (i := off) (v := .int .u32 (u : Int)) rfl));go_wp2_with fail;go_end0;unfold HearPost;rw [HH.out];exact ⟨⟨rfl, HS.out⟩, HC.out⟩
   · have HH := Lib.hid (show highH (L s) = none by unfold highH; rw [hn]; simp only; rw [if_neg hv])
     have g0 : (decide ((0 : Int) < v) = false) ∨ (decide ((0 : Int) < v) = true ∧ decide (v < 4294967296) = false) := by
       by_cases h : 0 < v
       · exact .inr ⟨by simpa using h, by simp; omega⟩
       · exact .inl (by simpa using h)
     clear hn hv
     rcases g0 with g0 | ⟨g0, g1⟩
     all_goals
       go_enter Tryz.func118, Tryz.ntmps118
       go_wp2_with fail;refine HNU.out.mono ?_;rintro e w2 ⟨rfl, hb⟩;have HB := Lib.hid (Tch.of (O := fun k => k = b) hb);clear hb;go_wp2_with fail;refine (HN.out _).mono ?_;rintro e w9 ⟨rfl, rfl⟩;unfold wrongE;go_wp2_with fail;refine ⟨rfl, ?_⟩;unfold HearPost;rw [HH.out];exact ⟨rfl, HB.out⟩
theorem hear_str (g b off a : Nat) (s : ByteArray) (x : M) (z : ByteArray) (w : World) (hs : s.size ≤ 100000) (ha : strAt w a g) (hx : MBox w b x) (hz : x.cells[off]? = some (.string z))
   (hg : ∀ args w, (callFunc g args).run Tryz.prog w = .ok (.enter g args) w) (hat : ∀ w, Calls Tryz.prog g #[ptr b] w fun e w' => e = .returned (.pointer (some ⟨b, off, none⟩)) ∧ w = w') :
   Calls Tryz.prog 124 #[ptr b, .string s, ptr a] w (HearPost b off x ((hearL (L s)).map fun l => .string (B l)) w) := by
 have HA := Lib.hid hat;have HNU := Lib.hid (hearing_any s w hs);have HX := Lib.hid hx;have HZ := Lib.hid hz;have ka := (show SBox w a _ _ from ha).cell 0;simp only [List.getElem?_toArray, List.getElem?_cons_zero] at ka;clear ha hat hx hz;unfold ptr at HA ⊢;cases hn : hearL (L s) with
 | none =>
   unfold HearAns at HNU;rw [hn] at HNU;clear hn
   go_enter Tryz.func124, Tryz.ntmps124
   go_wp2_with fail;refine (HA.out _).mono ?_;rintro e w9 ⟨rfl, rfl⟩;go_wp2_with fail;refine HNU.out.mono ?_;rintro e w2 ⟨rfl, hb⟩;have HB := Lib.hid (Tch.of (O := fun k => k = b) hb);clear hb;unfold wrongE;go_wp2_with fail;refine ⟨rfl, ?_⟩;unfold HearPost;exact ⟨rfl, HB.out⟩
 | some v =>
   unfold HearAns at HNU;rw [hn] at HNU;simp only at HNU;clear hn
   go_enter Tryz.func124, Tryz.ntmps124
   go_wp2_with fail;refine (HA.out _).mono ?_;rintro e w9 ⟨rfl, rfl⟩;go_wp2_with fail;refine HNU.out.mono ?_;rintro e w2 ⟨rfl, hb⟩;have HB := Lib.hid (Tch.of (O := fun k => k = b) hb);have HX2 := Lib.hid (show MBox w2 b x from SBox.later HX.out hb);have kc := (SBox.cell HX2.out off).trans HZ.out;have kf := SBox.free HX2.out off;have HS := Lib.hid (SBox.set HX2.out off (.string (B v)));have HC := Lib.hid (HB.out.trans (Tch.cell (O := fun k => k = b) (w := w2) (b := b) (i := off) (v := .string (B v)) rfl));clear hb;go_wp2_with fail;go_end0;unfold HearPost;exact ⟨⟨rfl, HS.out⟩, HC.out⟩
theorem hear_which (b : Nat) (s : ByteArray) (x : M) (w : World) (hl : Lay w) (hx : MBox w b x) (hd : x.d < 256) (hb5 : 5 ≤ b) :
   Calls Tryz.prog 121 #[ptr b, .string s] w (HearPost b 4 x ((callH x.d (L s)).map fun n => .int .u8 n) w) := by
 have HL := Lib.hid hl;have HX := Lib.hid hx;have HM := Lib.hid must_yes;have HN := Lib.hid must_no;have hz0 : x.cells[4]? = some (.int .u8 x.d) := rfl;have HZ := Lib.hid hz0;have hset : ∀ v : Nat, (x.cells.setIfInBounds 4 (.int .u8 v))[4]? = some (.int .u8 v) := fun v => rfl;have HSE := Lib.hid hset;clear hl hx hz0 hset;unfold ptr
 go_enter Tryz.func121, Tryz.ntmps121
 go_wp2
 go_loopw [4] (fun i wr => ∃ d : Nat, d ≤ 15 ∧ i = .int .u8 ((d + 1 : Nat) : Int) ∧ SBox wr b 40 (x.cells.setIfInBounds 4 (.int .u8 ((if callF (L s) d ≠ 0 then callF (L s) d else x.d : Nat) : Int))) ∧ Tch (fun k => k = b) w wr) (fun i _ => 17 - (intOf i).toNat)
 case atStart =>
   refine ⟨0, by omega, rfl, ?_, Tch.refl _ _⟩;rw [if_neg (by simp [callF])];have e : x.cells.setIfInBounds 4 (.int .u8 (x.d : Int)) = x.cells := rfl;rw [e];exact HX.out
 case round =>
   obtain ⟨d, hdd, rfl, hb, ht⟩ := hrel
   have hd2 : (if callF (L s) d ≠ 0 then callF (L s) d else x.d) < 256 := by
     split
     · have := callF_some (L s) d (by assumption)
       omega
     · exact hd
   generalize hq : (if callF (L s) d ≠ 0 then callF (L s) d else x.d) = q at hb hd2
   have HQ := Lib.hid hq;have HB := Lib.hid hb;have HT := Lib.hid ht;have kc := (SBox.cell hb 4).trans (HSE.out q);have kf := SBox.free hb 4;have kl := hb.lt;clear hq hb ht
   by_cases hlt : d < 15
   · have t1 : decide (((d + 1 : Nat) : Int) ≤ 15) = true := by simp; omega
     have t2 : decide (d + 1 ≤ 15) = true := by simp; omega
     have q1 : IntKind.u8.wrap (((d + 1 : Nat) : Int) + 1) = ((d + 1 + 1 : Nat) : Int) := by rw [IntKind.wrap_u8']; omega
     have HW := Lib.hid (Call.word_any (d + 1) wr (HL.out.tch HT.out hb5).kinds (by omega));have HN1 := Lib.hid (show callF (L s) (d + 1) = if cw (d + 1) = L s then d + 1 else callF (L s) d from rfl);rw [← cw_word] at HW
     by_cases he : cw (d + 1) = L s
     · have g0 : ((B (cw (d + 1))).toList == s.toList) = true := by rw [Path.toList_L, Path.toList_L, L_B, he]; simp
       have HS := Lib.hid (SBox.set HB.out 4 (.int .u8 ((d + 1 : Nat) : Int)));have HC := Lib.hid (HT.out.trans (Tch.cell (O := fun k => k = b) (w := wr) (b := b) (i := 4) (v := .int .u8 ((d + 1 : Nat) : Int)) rfl));have HE := Lib.hid he;clear he
       generalize cw (d + 1) = cv at g0 HW
       go_wp2_with fail;refine HW.out.mono ?_;rintro e w9 ⟨rfl, rfl⟩;go_wp2_with fail;go_roundw
       case rel =>
         refine ⟨d + 1, by omega, by go_num, ?_, HC.out⟩;rw [HN1.out, if_pos HE.out, if_pos (by omega)];have h := HS.out;rw [Array.setIfInBounds_setIfInBounds] at h;exact h
       case measure => simp [intOf]; omega
     · have g0 : ((B (cw (d + 1))).toList == s.toList) = false := by rw [Path.toList_L, Path.toList_L, L_B]; simpa using he
       have HE := Lib.hid he;clear he
       generalize cw (d + 1) = cv at g0 HW
       go_wp2_with fail;refine HW.out.mono ?_;rintro e w9 ⟨rfl, rfl⟩;go_wp2_with fail;go_roundw
       case rel =>
         refine ⟨d + 1, by omega, by go_num, ?_, HT.out⟩;rw [HN1.out, if_neg HE.out, HQ.out];exact HB.out
       case measure => simp [intOf]; omega
   · obtain rfl : d = 15 := by omega
     have t1 : decide (((15 + 1 : Nat) : Int) ≤ 15) = false := by decide
     have hcl : callH x.d (L s) = if q ≠ 0 then some q else none := by
       rw [← HQ.out];unfold callH callOf
       by_cases h1 : callF (L s) 15 = 0
       · simp [h1]
       · simp [h1]
     by_cases hq0 : q = 0
     · have g0 : ((q : Int) != 0) = false := by simp [hq0]
       have g1 : decide ((q : Int) = 0) = true := by simp [hq0]
       have g2 : ((q : Int) == 0) = true := by simp [hq0]
       have g3 : decide (q = 0) = true := by simp [hq0]
       have HH := Lib.hid (show callH x.d (L s) = none by rw [hcl, if_neg (by omega)]);clear hcl hq0;go_wp2_with fail;refine (HN.out _).mono ?_;rintro e w9 ⟨rfl, rfl⟩;unfold wrongE;go_wp2_with fail;refine ⟨rfl, ?_⟩;unfold HearPost;rw [HH.out];exact ⟨rfl, HT.out⟩
     · have g0 : ((q : Int) != 0) = true := by simp; omega
       have g1 : decide ((q : Int) = 0) = false := by simp; omega
       have g2 : ((q : Int) == 0) = false := by simp; omega
       have g3 : decide (q = 0) = false := by simp; omega
       have HH := Lib.hid (show callH x.d (L s) = some q by rw [hcl, if_pos hq0]);clear hcl hq0;go_wp2_with fail;refine (HM.out _).mono ?_;rintro e w9 ⟨rfl, rfl⟩;go_wp2_with fail;go_end0;unfold HearPost;rw [HH.out];exact ⟨⟨rfl, HB.out⟩, HT.out⟩
end Go.Proofs.YtkljcgopikdjjaaGreatDoor.Tx
end
section
namespace Go.Proofs.YtkljcgopikdjjaaGreatDoor.Tx
set_option maxRecDepth 100000
set_option maxHeartbeats 1000000
open Go.RowKit Go.Shelf Go.Maps Oct
def HearM (b : Nat) (o : Option M) (w : World) (e : Ending) (w' : World) : Prop :=
 (match o with | some y => e = .returned (.tuple #[]) ∧ MBox w' b y | none => e = wrongE) ∧ Tch (fun k => k = b) w w'
theorem hearM_of {b off : Nat} {x : M} {o : Option Value} {o' : Option M} {w : World} {e : Ending} {w' : World} (h : HearPost b off x o w e w') (h0 : o = none → o' = none) (h1 : ∀ v, o = some v → ∃ y, o' = some y ∧ x.cells.setIfInBounds off v = y.cells) : HearM b o' w e w' := by
 unfold HearPost at h;unfold HearM;refine ⟨?_, h.2⟩;cases ho : o with
 | none =>
   have h2 := h.1;rw [ho] at h2;rw [h0 ho];exact h2
 | some v =>
   have h2 := h.1;rw [ho] at h2;obtain ⟨y, hy, hc⟩ := h1 v ho;rw [hy];refine ⟨h2.1, ?_⟩;unfold MBox;rw [← hc];exact h2.2
theorem hearM_0 (b a : Nat) (s : ByteArray) (x : M) (w : World) (hl : Lay w) (hs : s.size ≤ 100000) (ha : numAt w a 68) (hx : MBox w b x) : Calls Tryz.prog 115 #[ptr b, .string s, ptr a] w (HearM b (hearF 0 x (L s)) w) :=
 (hear_num 68 b 1 a s x x.co w hl hs ha hx rfl (enters_of Tryz.func68 (by kernel_rfl) rfl) (fun W => at0 b W)).mono fun e w' h => hearM_of h (by
   intro h;show Option.map _ (numH (L s)) = none;cases hh : numH (L s) with
   | none => rfl
   | some u => rw [hh] at h; cases h) (by
   intro v h;cases hh : numH (L s) with
   | none => rw [hh] at h; cases h
   | some u =>
     rw [hh] at h
     injection h with h
     subst h;exact ⟨{ x with co := u }, by show Option.map _ (numH (L s)) = _; rw [hh]; rfl, rfl⟩)
theorem hearM_1 (b a : Nat) (s : ByteArray) (x : M) (w : World) (hl : Lay w) (hs : s.size ≤ 100000) (ha : numAt w a 69) (hx : MBox w b x) : Calls Tryz.prog 115 #[ptr b, .string s, ptr a] w (HearM b (hearF 1 x (L s)) w) :=
 (hear_num 69 b 2 a s x x.n w hl hs ha hx rfl (enters_of Tryz.func69 (by kernel_rfl) rfl) (fun W => at1 b W)).mono fun e w' h => hearM_of h (by
   intro h;show Option.map _ (numH (L s)) = none;cases hh : numH (L s) with
   | none => rfl
   | some u => rw [hh] at h; cases h) (by
   intro v h;cases hh : numH (L s) with
   | none => rw [hh] at h; cases h
   | some u =>
     rw [hh] at h
     injection h with h
     subst h;exact ⟨{ x with n := u }, by show Option.map _ (numH (L s)) = _; rw [hh]; rfl, rfl⟩)
theorem hearM_2 (b a : Nat) (s : ByteArray) (x : M) (w : World) (hl : Lay w) (hs : s.size ≤ 100000) (ha : highAt w a 71) (hx : MBox w b x) : Calls Tryz.prog 118 #[ptr b, .string s, ptr a] w (HearM b (hearF 2 x (L s)) w) :=
 (hear_high 71 b 3 a s x x.ino w hl hs ha hx rfl (enters_of Tryz.func71 (by kernel_rfl) rfl) (fun W => at2 b W)).mono fun e w' h => hearM_of h (by
   intro h;show Option.map _ (highH (L s)) = none;cases hh : highH (L s) with
   | none => rfl
   | some u => rw [hh] at h; cases h) (by
   intro v h;cases hh : highH (L s) with
   | none => rw [hh] at h; cases h
   | some u =>
     rw [hh] at h
     injection h with h
     subst h;exact ⟨{ x with ino := u }, by show Option.map _ (highH (L s)) = _; rw [hh]; rfl, rfl⟩)
theorem hearM_3 (b : Nat) (s : ByteArray) (x : M) (w : World) (hl : Lay w) (hx : MBox w b x) (hd : x.d < 256) (hb5 : 5 ≤ b) : Calls Tryz.prog 121 #[ptr b, .string s] w (HearM b (hearF 3 x (L s)) w) :=
 (hear_which b s x w hl hx hd hb5).mono fun e w' h => hearM_of h (by
   intro h;show Option.map _ (callH x.d (L s)) = none;cases hh : callH x.d (L s) with
   | none => rfl
   | some u => rw [hh] at h; cases h) (by
   intro v h;cases hh : callH x.d (L s) with
   | none => rw [hh] at h; cases h
   | some u =>
     rw [hh] at h
     injection h with h
     subst h;exact ⟨{ x with d := u }, by show Option.map _ (callH x.d (L s)) = _; rw [hh]; rfl, rfl⟩)
theorem hearM_4 (b a : Nat) (s : ByteArray) (x : M) (w : World) (hl : Lay w) (hs : s.size ≤ 100000) (ha : strAt w a 74) (hx : MBox w b x) : Calls Tryz.prog 124 #[ptr b, .string s, ptr a] w (HearM b (hearF 4 x (L s)) w) :=
 (hear_str 74 b 5 a s x (B x.p) w hs ha hx rfl (enters_of Tryz.func74 (by kernel_rfl) rfl) (fun W => at4 b W)).mono fun e w' h => hearM_of h (by
   intro h;show Option.map _ (hearL (L s)) = none;cases hh : hearL (L s) with
   | none => rfl
   | some u => rw [hh] at h; cases h) (by
   intro v h;cases hh : hearL (L s) with
   | none => rw [hh] at h; cases h
   | some u =>
     rw [hh] at h
     injection h with h
     subst h;exact ⟨{ x with p := u }, by show Option.map _ (hearL (L s)) = _; rw [hh]; rfl, rfl⟩)
theorem hearM_5 (b a : Nat) (s : ByteArray) (x : M) (w : World) (hl : Lay w) (hs : s.size ≤ 100000) (ha : strAt w a 75) (hx : MBox w b x) : Calls Tryz.prog 124 #[ptr b, .string s, ptr a] w (HearM b (hearF 5 x (L s)) w) :=
 (hear_str 75 b 6 a s x (B x.p2) w hs ha hx rfl (enters_of Tryz.func75 (by kernel_rfl) rfl) (fun W => at5 b W)).mono fun e w' h => hearM_of h (by
   intro h;show Option.map _ (hearL (L s)) = none;cases hh : hearL (L s) with
   | none => rfl
   | some u => rw [hh] at h; cases h) (by
   intro v h;cases hh : hearL (L s) with
   | none => rw [hh] at h; cases h
   | some u =>
     rw [hh] at h
     injection h with h
     subst h;exact ⟨{ x with p2 := u }, by show Option.map _ (hearL (L s)) = _; rw [hh]; rfl, rfl⟩)
theorem hearM_6 (b a : Nat) (s : ByteArray) (x : M) (w : World) (hl : Lay w) (hs : s.size ≤ 100000) (ha : numAt w a 76) (hx : MBox w b x) : Calls Tryz.prog 115 #[ptr b, .string s, ptr a] w (HearM b (hearF 6 x (L s)) w) :=
 (hear_num 76 b 7 a s x x.fd w hl hs ha hx rfl (enters_of Tryz.func76 (by kernel_rfl) rfl) (fun W => at6 b W)).mono fun e w' h => hearM_of h (by
   intro h;show Option.map _ (numH (L s)) = none;cases hh : numH (L s) with
   | none => rfl
   | some u => rw [hh] at h; cases h) (by
   intro v h;cases hh : numH (L s) with
   | none => rw [hh] at h; cases h
   | some u =>
     rw [hh] at h
     injection h with h
     subst h;exact ⟨{ x with fd := u }, by show Option.map _ (numH (L s)) = _; rw [hh]; rfl, rfl⟩)
theorem hearM_7 (b a : Nat) (s : ByteArray) (x : M) (w : World) (hl : Lay w) (hs : s.size ≤ 100000) (ha : numAt w a 77) (hx : MBox w b x) : Calls Tryz.prog 115 #[ptr b, .string s, ptr a] w (HearM b (hearF 7 x (L s)) w) :=
 (hear_num 77 b 8 a s x x.pg w hl hs ha hx rfl (enters_of Tryz.func77 (by kernel_rfl) rfl) (fun W => at7 b W)).mono fun e w' h => hearM_of h (by
   intro h;show Option.map _ (numH (L s)) = none;cases hh : numH (L s) with
   | none => rfl
   | some u => rw [hh] at h; cases h) (by
   intro v h;cases hh : numH (L s) with
   | none => rw [hh] at h; cases h
   | some u =>
     rw [hh] at h
     injection h with h
     subst h;exact ⟨{ x with pg := u }, by show Option.map _ (numH (L s)) = _; rw [hh]; rfl, rfl⟩)
theorem hearM_8 (b a : Nat) (s : ByteArray) (x : M) (w : World) (hl : Lay w) (hs : s.size ≤ 100000) (ha : highAt w a 78) (hx : MBox w b x) : Calls Tryz.prog 118 #[ptr b, .string s, ptr a] w (HearM b (hearF 8 x (L s)) w) :=
 (hear_high 78 b 9 a s x x.sz w hl hs ha hx rfl (enters_of Tryz.func78 (by kernel_rfl) rfl) (fun W => at8 b W)).mono fun e w' h => hearM_of h (by
   intro h;show Option.map _ (highH (L s)) = none;cases hh : highH (L s) with
   | none => rfl
   | some u => rw [hh] at h; cases h) (by
   intro v h;cases hh : highH (L s) with
   | none => rw [hh] at h; cases h
   | some u =>
     rw [hh] at h
     injection h with h
     subst h;exact ⟨{ x with sz := u }, by show Option.map _ (highH (L s)) = _; rw [hh]; rfl, rfl⟩)
theorem hearM_9 (b a : Nat) (s : ByteArray) (x : M) (w : World) (hl : Lay w) (hs : s.size ≤ 100000) (ha : strAt w a 79) (hx : MBox w b x) : Calls Tryz.prog 124 #[ptr b, .string s, ptr a] w (HearM b (hearF 9 x (L s)) w) :=
 (hear_str 79 b 10 a s x (B x.da) w hs ha hx rfl (enters_of Tryz.func79 (by kernel_rfl) rfl) (fun W => at9 b W)).mono fun e w' h => hearM_of h (by
   intro h;show Option.map _ (hearL (L s)) = none;cases hh : hearL (L s) with
   | none => rfl
   | some u => rw [hh] at h; cases h) (by
   intro v h;cases hh : hearL (L s) with
   | none => rw [hh] at h; cases h
   | some u =>
     rw [hh] at h
     injection h with h
     subst h;exact ⟨{ x with da := u }, by show Option.map _ (hearL (L s)) = _; rw [hh]; rfl, rfl⟩)
theorem hearM_10 (b a : Nat) (s : ByteArray) (x : M) (w : World) (hl : Lay w) (hs : s.size ≤ 100000) (ha : strAt w a 80) (hx : MBox w b x) : Calls Tryz.prog 124 #[ptr b, .string s, ptr a] w (HearM b (hearF 10 x (L s)) w) :=
 (hear_str 80 b 11 a s x (B x.t) w hs ha hx rfl (enters_of Tryz.func80 (by kernel_rfl) rfl) (fun W => at10 b W)).mono fun e w' h => hearM_of h (by
   intro h;show Option.map _ (hearL (L s)) = none;cases hh : hearL (L s) with
   | none => rfl
   | some u => rw [hh] at h; cases h) (by
   intro v h;cases hh : hearL (L s) with
   | none => rw [hh] at h; cases h
   | some u =>
     rw [hh] at h
     injection h with h
     subst h;exact ⟨{ x with t := u }, by show Option.map _ (hearL (L s)) = _; rw [hh]; rfl, rfl⟩)
theorem tellB_pos (c : UInt8) : 1 ≤ (tellB c).length := by unfold tellB; split <;> simp
theorem tellR_ge (l : List UInt8) : l.length ≤ (tellR l).length := by
 induction l with
 | nil => simp
 | cons c r ih => have := tellB_pos c; simp only [tellR, List.length_append, List.length_cons]; omega
theorem hearL_len {v l : List UInt8} (h : hearL v = some l) : l.length ≤ v.length := by
 obtain ⟨h1, h2⟩ := tell_hear h;unfold tellL at h1;rw [if_neg h2] at h1;have := tellR_ge l;rw [h1] at this;exact this
def M.Fit (x : M) (m : Nat) : Prop := x.d ≤ 15 ∧ x.p.length ≤ m ∧ x.p2.length ≤ m ∧ x.da.length ≤ m ∧ x.t.length ≤ m
theorem hear_fit {k m : Nat} {x y : M} {v : List UInt8} (h : hearF k x v = some y) (hx : x.Fit m) (hv : v.length ≤ m) : y.Fit m := by
 obtain ⟨h0, h1, h2, h3, h4⟩ := hx
 match k with
 | 0 =>
   simp only [hearF, Option.map_eq_some_iff] at h;obtain ⟨n, hn, rfl⟩ := h;exact ⟨h0, h1, h2, h3, h4⟩
 | 1 =>
   simp only [hearF, Option.map_eq_some_iff] at h;obtain ⟨n, hn, rfl⟩ := h;exact ⟨h0, h1, h2, h3, h4⟩
 | 2 =>
   simp only [hearF, Option.map_eq_some_iff] at h;obtain ⟨n, hn, rfl⟩ := h;exact ⟨h0, h1, h2, h3, h4⟩
 | 3 =>
   simp only [hearF, Option.map_eq_some_iff] at h;obtain ⟨n, hn, rfl⟩ := h;refine ⟨?_, h1, h2, h3, h4⟩;unfold callH at hn
   split at hn
   · rename_i hc
     injection hn with hn
     subst hn;exact (callOf_some hc).2
   · split at hn
     · injection hn with hn; subst hn; exact h0
     · cases hn
 | 4 =>
   simp only [hearF, Option.map_eq_some_iff] at h;obtain ⟨n, hn, rfl⟩ := h;have := hearL_len hn;exact ⟨h0, Nat.le_trans this hv, h2, h3, h4⟩
 | 5 =>
   simp only [hearF, Option.map_eq_some_iff] at h;obtain ⟨n, hn, rfl⟩ := h;have := hearL_len hn;exact ⟨h0, h1, Nat.le_trans this hv, h3, h4⟩
 | 6 =>
   simp only [hearF, Option.map_eq_some_iff] at h;obtain ⟨n, hn, rfl⟩ := h;exact ⟨h0, h1, h2, h3, h4⟩
 | 7 =>
   simp only [hearF, Option.map_eq_some_iff] at h;obtain ⟨n, hn, rfl⟩ := h;exact ⟨h0, h1, h2, h3, h4⟩
 | 8 =>
   simp only [hearF, Option.map_eq_some_iff] at h;obtain ⟨n, hn, rfl⟩ := h;exact ⟨h0, h1, h2, h3, h4⟩
 | 9 =>
   simp only [hearF, Option.map_eq_some_iff] at h;obtain ⟨n, hn, rfl⟩ := h;have := hearL_len hn;exact ⟨h0, h1, h2, Nat.le_trans this hv, h4⟩
 | 10 =>
   simp only [hearF, Option.map_eq_some_iff] at h;obtain ⟨n, hn, rfl⟩ := h;have := hearL_len hn;exact ⟨h0, h1, h2, h3, Nat.le_trans this hv⟩
 | k + 11 => simp only [hearF] at h; cases h
theorem FT.name {n : Nat} {a : Nat → Nat} {r : Nat} {w : World} (h : FT n a r w) (j : Nat) (hj : j < 11) : w.cell? ⟨r, 3 * j, none⟩ = some (.string (B (nm j))) := by
 rw [h.row.cell]
 match j, hj with
 | 0, _ | 1, _ | 2, _ | 3, _ | 4, _ | 5, _ | 6, _ | 7, _ | 8, _ | 9, _ | 10, _ => rfl
theorem FT.hear0 {n : Nat} {a : Nat → Nat} {r : Nat} {w : World} (h : FT n a r w) : w.cell? ⟨r, 2, none⟩ = some (numHf (a 0)) := (h.row.cell 2).trans rfl
theorem FT.hear1 {n : Nat} {a : Nat → Nat} {r : Nat} {w : World} (h : FT n a r w) : w.cell? ⟨r, 5, none⟩ = some (numHf (a 1)) := (h.row.cell 5).trans rfl
theorem FT.hear2 {n : Nat} {a : Nat → Nat} {r : Nat} {w : World} (h : FT n a r w) : w.cell? ⟨r, 8, none⟩ = some (highHf (a 2)) := (h.row.cell 8).trans rfl
theorem FT.hear3 {n : Nat} {a : Nat → Nat} {r : Nat} {w : World} (h : FT n a r w) : w.cell? ⟨r, 11, none⟩ = some (whichH) := (h.row.cell 11).trans rfl
theorem FT.hear4 {n : Nat} {a : Nat → Nat} {r : Nat} {w : World} (h : FT n a r w) : w.cell? ⟨r, 14, none⟩ = some (strHf (a 4)) := (h.row.cell 14).trans rfl
theorem FT.hear5 {n : Nat} {a : Nat → Nat} {r : Nat} {w : World} (h : FT n a r w) : w.cell? ⟨r, 17, none⟩ = some (strHf (a 5)) := (h.row.cell 17).trans rfl
theorem FT.hear6 {n : Nat} {a : Nat → Nat} {r : Nat} {w : World} (h : FT n a r w) : w.cell? ⟨r, 20, none⟩ = some (numHf (a 6)) := (h.row.cell 20).trans rfl
theorem FT.hear7 {n : Nat} {a : Nat → Nat} {r : Nat} {w : World} (h : FT n a r w) : w.cell? ⟨r, 23, none⟩ = some (numHf (a 7)) := (h.row.cell 23).trans rfl
theorem FT.hear8 {n : Nat} {a : Nat → Nat} {r : Nat} {w : World} (h : FT n a r w) : w.cell? ⟨r, 26, none⟩ = some (highHf (a 8)) := (h.row.cell 26).trans rfl
theorem FT.hear9 {n : Nat} {a : Nat → Nat} {r : Nat} {w : World} (h : FT n a r w) : w.cell? ⟨r, 29, none⟩ = some (strHf (a 9)) := (h.row.cell 29).trans rfl
theorem FT.hear10 {n : Nat} {a : Nat → Nat} {r : Nat} {w : World} (h : FT n a r w) : w.cell? ⟨r, 32, none⟩ = some (strHf (a 10)) := (h.row.cell 32).trans rfl
end Go.Proofs.YtkljcgopikdjjaaGreatDoor.Tx
end
section
namespace Go.Proofs.YtkljcgopikdjjaaGreatDoor.Tx
set_option maxRecDepth 100000
set_option maxHeartbeats 1000000
open Go.RowKit Go.Shelf Go.Maps Oct
def hearN : Nat → Nat
 | 0 => 115
 | 1 => 115
 | 2 => 118
 | 3 => 121
 | 6 => 115
 | 7 => 115
 | 8 => 118
 | _ => 124
def hearC (a : Nat → Nat) (k : Nat) : Array Value := if k = 3 then #[] else #[ptr (a k)]
theorem FT.hear {n : Nat} {a : Nat → Nat} {r : Nat} {w : World} (h : FT n a r w) (k : Nat) (hk : k < 11) : w.cell? ⟨r, 3 * k + 2, none⟩ = some (.func (.func (hearN k)) #[] (hearC a k)) := by
 match k, hk with
 | 0, _ => exact h.hear0
 | 1, _ => exact h.hear1
 | 2, _ => exact h.hear2
 | 3, _ => exact h.hear3
 | 4, _ => exact h.hear4
 | 5, _ => exact h.hear5
 | 6, _ => exact h.hear6
 | 7, _ => exact h.hear7
 | 8, _ => exact h.hear8
 | 9, _ => exact h.hear9
 | 10, _ => exact h.hear10
theorem hear_any {n r : Nat} {a : Nat → Nat} {w : World} (h : FT n a r w) (k : Nat) (hk : k < 11) (b : Nat) (hb5 : 5 ≤ b) (s : ByteArray) (x : M) (hl : Lay w) (hs : s.size ≤ 100000) (hx : MBox w b x) (hd : x.d < 256) :
   Calls Tryz.prog (hearN k) (#[ptr b, .string s] ++ hearC a k) w (HearM b (hearF k x (L s)) w) := by
 match k, hk with
 | 0, _ => exact hearM_0 b _ s x w hl hs h.at0 hx
 | 1, _ => exact hearM_1 b _ s x w hl hs h.at1 hx
 | 2, _ => exact hearM_2 b _ s x w hl hs h.at2 hx
 | 3, _ => exact hearM_3 b s x w hl hx hd hb5
 | 4, _ => exact hearM_4 b _ s x w hl hs h.at4 hx
 | 5, _ => exact hearM_5 b _ s x w hl hs h.at5 hx
 | 6, _ => exact hearM_6 b _ s x w hl hs h.at6 hx
 | 7, _ => exact hearM_7 b _ s x w hl hs h.at7 hx
 | 8, _ => exact hearM_8 b _ s x w hl hs h.at8 hx
 | 9, _ => exact hearM_9 b _ s x w hl hs h.at9 hx
 | 10, _ => exact hearM_10 b _ s x w hl hs h.at10 hx
theorem hear_enter (k : Nat) (hk : k < 11) (args : Array Value) (W : World) : (callFunc (hearN k) args).run Tryz.prog W = .ok (.enter (hearN k) args) W := by
 match k, hk with
 | 0, _ | 1, _ | 6, _ | 7, _ => exact enters_of Tryz.func115 (by kernel_rfl) rfl args W
 | 2, _ | 8, _ => exact enters_of Tryz.func118 (by kernel_rfl) rfl args W
 | 3, _ => exact enters_of Tryz.func121 (by kernel_rfl) rfl args W
 | 4, _ | 5, _ | 9, _ | 10, _ => exact enters_of Tryz.func124 (by kernel_rfl) rfl args W
end Go.Proofs.YtkljcgopikdjjaaGreatDoor.Tx
end
