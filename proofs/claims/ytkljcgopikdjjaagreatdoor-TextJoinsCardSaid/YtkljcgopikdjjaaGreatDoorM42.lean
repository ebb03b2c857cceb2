/- The law TextTold: the walk. -/
import Derived.Test.YtkljcgopikdjjaaGreatDoorM40
import Derived.Test.YtkljcgopikdjjaaGreatDoorM39
import Derived.Test.YtkljcgopikdjjaaGreatDoorM41
import Derived.Deep.RegionHeld3
import Derived.Test.YtkljcgopikdjjaaGreatDoorM36
import Derived.Test.YtkljcgopikdjjaaGreatDoorM32
set_option linter.unusedVariables false
set_option linter.unusedSimpArgs false
set_option maxRecDepth 100000
section
namespace Go.Proofs.YtkljcgopikdjjaaGreatDoor.Tx
set_option maxRecDepth 100000
set_option maxHeartbeats 2000000
open Go.RowKit Go.Shelf Go.Maps Oct
theorem nat_ne0 (n : Nat) : ((n : Int) != 0) = (n != 0) := by
 cases n with
 | zero => rfl
 | succ n => simp; omega
theorem list_ne0 (l : List UInt8) : (!l.isEmpty) = (l != []) := by cases l <;> rfl
theorem hasF_at (x : M) (k : Nat) (hk : k < 11) : (#[.bool (x.co != 0), .bool (x.n != 0), .bool ((x.ino : Int) != 0), .bool ((x.d : Int) != 0), .bool (!x.p.isEmpty), .bool (!x.p2.isEmpty), .bool (x.fd != 0), .bool (x.pg != 0), .bool ((x.sz : Int) != 0), .bool (!x.da.isEmpty), .bool (!x.t.isEmpty)] : Array Value)[k]? = some (.bool (hasF x k)) := by
 match k, hk with
 | 0, _ | 1, _ | 6, _ | 7, _ => rfl
 | 2, _ => show some (Value.bool ((x.ino : Int) != 0)) = _; rw [nat_ne0]; rfl
 | 3, _ => show some (Value.bool ((x.d : Int) != 0)) = _; rw [nat_ne0]; rfl
 | 8, _ => show some (Value.bool ((x.sz : Int) != 0)) = _; rw [nat_ne0]; rfl
 | 4, _ => show some (Value.bool (!x.p.isEmpty)) = _; rw [list_ne0]; rfl
 | 5, _ => show some (Value.bool (!x.p2.isEmpty)) = _; rw [list_ne0]; rfl
 | 9, _ => show some (Value.bool (!x.da.isEmpty)) = _; rw [list_ne0]; rfl
 | 10, _ => show some (Value.bool (!x.t.isEmpty)) = _; rw [list_ne0]; rfl
theorem lfields_any (x : M) (w : World) : Calls Tryz.prog 18 #[x.val] w fun e w' => e = .returned (.int .i64 (fieldN x 11 : Nat)) ∧ Below w.heap.size w w' := by
 unfold M.val;have s1 : ((B x.p).toList == []) = (x.p == []) := by rw [Path.toList_L, L_B]
 have s2 : ((B x.p2).toList == []) = (x.p2 == []) := by rw [Path.toList_L, L_B]
 have s3 : ((B x.da).toList == []) = (x.da == []) := by rw [Path.toList_L, L_B]
 have s4 : ((B x.t).toList == []) = (x.t == []) := by rw [Path.toList_L, L_B]
 have h0 := SBox.new w 40 x.cells;have b0 := (Below.refl w.heap.size w).alloc (Nat.le_refl _) (.cells x.cells 40);unfold M.cells at h0 b0 ⊢;have X0 := h0.cell 0;have X1 := h0.cell 1;have X2 := h0.cell 2;have X3 := h0.cell 3;have X4 := h0.cell 4;have X5 := h0.cell 5;have X6 := h0.cell 6;have X7 := h0.cell 7;have X8 := h0.cell 8;have X9 := h0.cell 9;have X10 := h0.cell 10;have X11 := h0.cell 11;simp only [List.getElem?_toArray, List.getElem?_cons_zero, List.getElem?_cons_succ] at X0 X1 X2 X3 X4 X5 X6 X7 X8 X9 X10 X11;have Xl := h0.lt;have HB := Lib.hid b0;clear h0 b0
 go_enter Tryz.func18, Tryz.ntmps18
 go_upto_region 4 with (fail)
 have h1 := SBox.new' (b := w.heap.size + 1) (w.alloc (.cells #[.int .u8 x.k, .int .i64 x.co, .int .i64 x.n, .int .u32 x.ino, .int .u8 x.d, .string (B x.p), .string (B x.p2), .int .i64 x.fd, .int .i64 x.pg, .int .u32 x.sz, .string (B x.da), .string (B x.t)] 40)) 4 #[.bool (x.co != 0), .bool (x.n != 0), .bool ((x.ino : Int) != 0), .bool ((x.d : Int) != 0), .bool (!x.p.isEmpty), .bool (!x.p2.isEmpty), .bool (x.fd != 0), .bool (x.pg != 0), .bool ((x.sz : Int) != 0), .bool (!x.da.isEmpty), .bool (!x.t.isEmpty)] (by simp);have HB2 := Lib.hid (HB.out.alloc (by simp) (.cells #[.bool (x.co != 0), .bool (x.n != 0), .bool ((x.ino : Int) != 0), .bool ((x.d : Int) != 0), .bool (!x.p.isEmpty), .bool (!x.p2.isEmpty), .bool (x.fd != 0), .bool (x.pg != 0), .bool ((x.sz : Int) != 0), .bool (!x.da.isEmpty), .bool (!x.t.isEmpty)] 4));have h2 := Lib.hid h1.cell;have hlt := h1.lt;clear h1 HB X0 X1 X2 X3 X4 X5 X6 X7 X8 X9 X10 X11 Xl;have HC := Lib.hid (fun k hk => (h2.out k).trans (hasF_at x k hk));clear h2
 generalize (w.alloc (.cells #[.int .u8 x.k, .int .i64 x.co, .int .i64 x.n, .int .u32 x.ino, .int .u8 x.d, .string (B x.p), .string (B x.p2), .int .i64 x.fd, .int .i64 x.pg, .int .u32 x.sz, .string (B x.da), .string (B x.t)] 40)).alloc (.cells #[.bool (x.co != 0), .bool (x.n != 0), .bool ((x.ino : Int) != 0), .bool ((x.d : Int) != 0), .bool (!x.p.isEmpty), .bool (!x.p2.isEmpty), .bool (x.fd != 0), .bool (x.pg != 0), .bool ((x.sz : Int) != 0), .bool (!x.da.isEmpty), .bool (!x.t.isEmpty)] 4) = wy at *
 go_loopw [3, 5] (fun n i wr => ∃ k : Nat, k ≤ 11 ∧ i = .int .i64 k ∧ n = .int .i64 (fieldN x k : Nat) ∧ fieldN x k ≤ k ∧ wr = wy) (fun _ i _ => 11 - (intOf i).toNat)
 case atStart => exact ⟨0, by omega, rfl, rfl, Nat.le_refl _, rfl⟩
 case round =>
   obtain ⟨k, hk, rfl, rfl, hle, rfl⟩ := hrel
   by_cases hlk : k < 11
   · have t1 : (k : Int) < 11 := by omega
     have hck := HC.out k hlk;have w1 : IntKind.i64.wrap ((k : Int) + 1) = ((k + 1 : Nat) : Int) := by rw [IntWalk.i64_in _ (by omega)]; omega
     cases hf : hasF x k with
     | true =>
       have hn : fieldN x (k + 1) = fieldN x k + 1 := by simp [fieldN, hf]
       have HN := Lib.hid hn;rw [hf] at hck;have w2 : IntKind.i64.wrap ((fieldN x k : Int) + 1) = ((fieldN x k + 1 : Nat) : Int) := by rw [IntWalk.i64_in _ (by omega)]; omega
       clear hn hf;go_wp2_with fail;exact ⟨⟨k + 1, by omega, by go_num, by rw [HN.out]; go_num, by rw [HN.out]; omega, trivial⟩, by simp [intOf]; omega⟩
     | false =>
       have hn : fieldN x (k + 1) = fieldN x k := by simp [fieldN, hf]
       have HN := Lib.hid hn;rw [hf] at hck;clear hn hf;go_wp2_with fail;exact ⟨⟨k + 1, by omega, by go_num, by rw [HN.out], by rw [HN.out]; omega, trivial⟩, by simp [intOf]; omega⟩
   · have e : k = 11 := by omega
     subst e;go_wp2_with fail;go_ret;exact ⟨rfl, HB2.out⟩
theorem lgeo_any (w : World) : Calls Tryz.prog 60 #[] w fun e w' => e = .returned (.agg #[.int .i64 12, .int .i64 30, .int .i64 40]) ∧ Below w.heap.size w w' := by
 go_enter Tryz.func60, Tryz.ntmps60
 go_wp2_with fail;refine bodyPost_ret (v := .agg #[.int .i64 12, .int .i64 30, .int .i64 40]) ?_ rfl ⟨rfl, (Below.refl _ _).alloc (Nat.le_refl _) _⟩;have h := SBox.new w 23 #[.int .i64 12, .int .i64 30, .int .i64 40];have c0 := h.cell 0;have c1 := h.cell 1;have c2 := h.cell 2;simp only [List.getElem?_toArray, List.getElem?_cons_zero, List.getElem?_cons_succ] at c0 c1 c2
 simp [results, Tryz.f60, go_sem, c0, c1, c2]
theorem lconf_any (w : World) : Calls Tryz.prog 61 #[] w fun e w' => e = .returned (.agg #[.int .i64 2, .int .i64 60, .int .i64 2]) ∧ Below w.heap.size w w' := by
 go_enter Tryz.func61, Tryz.ntmps61
 go_wp2_with fail;refine bodyPost_ret (v := .agg #[.int .i64 2, .int .i64 60, .int .i64 2]) ?_ rfl ⟨rfl, (Below.refl _ _).alloc (Nat.le_refl _) _⟩;have h := SBox.new w 25 #[.int .i64 2, .int .i64 60, .int .i64 2];have c0 := h.cell 0;have c1 := h.cell 1;have c2 := h.cell 2;simp only [List.getElem?_toArray, List.getElem?_cons_zero, List.getElem?_cons_succ] at c0 c1 c2
 simp [results, Tryz.f61, go_sem, c0, c1, c2]
theorem lplain_any (w : World) : Calls Tryz.prog 26 #[] w fun e w' => e = .returned (Cf.val ⟨12, 30, 40, 2, 60, 2⟩) ∧ Below w.heap.size w w' := by
 have GE := Lib.hid lgeo_any;have CO := Lib.hid lconf_any;have Z0 := Lib.hid (SBox.new w 27 Cf.zero.cells);have BB := Lib.hid ((Below.refl w.heap.size w).alloc (Nat.le_refl _) (.cells Cf.zero.cells 27));unfold Cf.zero Cf.cells at Z0 BB
 go_enter Tryz.func26, Tryz.ntmps26
 go_wp2_with fail;refine (GE.out _).mono ?_;rintro e w5 ⟨rfl, b5⟩;have Z1 := Lib.hid (Z0.out.later b5);have B1 := Lib.hid (BB.out.trans (b5.mono BB.out.size));clear b5;go_wp2_with fail;refine (CO.out _).mono ?_;rintro e w6 ⟨rfl, b6⟩;have Z2 := Lib.hid (Z1.out.later b6);have B2 := Lib.hid (B1.out.trans (b6.mono B1.out.size));clear b6;have x0 := Z2.out;have X0 := x0.cell 0;have X1 := x0.cell 1;have X2 := x0.cell 2;have X3 := x0.cell 3;have X4 := x0.cell 4;have X5 := x0.cell 5;simp only [List.getElem?_toArray, List.getElem?_cons_zero, List.getElem?_cons_succ] at X0 X1 X2 X3 X4 X5;have Xl := x0.lt;have F0 := x0.free 0;have F1 := x0.free 1;have F2 := x0.free 2;have F3 := x0.free 3;have F4 := x0.free 4;have F5 := x0.free 5;clear x0;go_wp2_with fail;have HF := fillC_box (x := Cf.zero) (by unfold Cf.zero Cf.cells; exact Z2.out) ⟨12, 30, 40, 2, 60, 2⟩;have HT := fillC_tch w6 w.heap.size ⟨12, 30, 40, 2, 60, 2⟩;have hsw := B2.out.size;have hb9 : Below w.heap.size w (fillC w6 w.heap.size ⟨12, 30, 40, 2, 60, 2⟩) := B2.out.trans (HT.below fun i hi => ⟨by omega, by omega⟩);unfold Cf.cells at HF;show bodyPost _ _ _ _ _ (fillC w6 w.heap.size ⟨12, 30, 40, 2, 60, 2⟩);clear X0 X1 X2 X3 X4 X5 Xl F0 F1 F2 F3 F4 F5 Z0 Z1 Z2 HT
 generalize fillC w6 w.heap.size ⟨12, 30, 40, 2, 60, 2⟩ = w99 at *
 have G0 := HF.cell 0;have G1 := HF.cell 1;have G2 := HF.cell 2;have G3 := HF.cell 3;have G4 := HF.cell 4;have G5 := HF.cell 5;simp only [List.getElem?_toArray, List.getElem?_cons_zero, List.getElem?_cons_succ] at G0 G1 G2 G3 G4 G5;have Gl := HF.lt;refine bodyPost_ret (v := Cf.val ⟨12, 30, 40, 2, 60, 2⟩) ?_ rfl ⟨rfl, hb9⟩
 simp [results, Tryz.f26, go_sem, G0, G1, G2, G3, G4, G5, Cf.val]
end Go.Proofs.YtkljcgopikdjjaaGreatDoor.Tx
end
section
namespace Go.Proofs.YtkljcgopikdjjaaGreatDoor.Tx
set_option maxRecDepth 100000
set_option maxHeartbeats 2000000
open Go.RowKit Go.Shelf Go.Maps Oct
def alA : M := ⟨0, 2, 0, 0, 4, [], [], 3, 1, 0, [97, 32, 98], []⟩
def alB : M := ⟨2, 0, 0, 0, 0, [], [], 0, 0, 0, [], [0, 1]⟩
def alS : M := ⟨4, 0, 0, 0, 0, [], [], 0, 0, 0, [], []⟩
def alC : Cf := ⟨12, 30, 40, 2, 60, 2⟩
def alAs : List UInt8 := [97, 100, 100, 32, 99, 111, 114, 101, 61, 50, 32, 100, 111, 61, 119, 114, 105, 116, 101, 32, 102, 100, 61, 51, 32, 112, 97, 103, 101, 61, 49, 32, 100, 97, 116, 97, 61, 97, 37, 50, 48, 98]
def alBs : List UInt8 := [114, 117, 110, 32, 116, 101, 120, 116, 61, 37, 48, 48, 37, 48, 49]
def alNs : List UInt8 := [102, 105, 110, 105, 115, 104, 32, 110, 61, 48, 53]
def alTs : List UInt8 := [105, 110, 111, 100, 101, 115, 61, 49, 50, 10, 98, 108, 111, 99, 107, 115, 61, 51, 48, 10, 106, 111, 117, 114, 110, 97, 108, 61, 52, 48, 10, 99, 111, 114, 101, 115, 61, 50, 10, 108, 111, 103, 61, 54, 48, 10, 116, 114, 105, 101, 115, 61, 50, 10, 98, 101, 103, 105, 110, 10, 115, 121, 110, 99, 10]
theorem dd1 : Lib.decDigits 1 = [49] := Lib.decDigits_one (by decide)
theorem dd2 : Lib.decDigits 2 = [50] := Lib.decDigits_one (by decide)
theorem dd3 : Lib.decDigits 3 = [51] := Lib.decDigits_one (by decide)
theorem dd5 : Lib.decDigits 5 = [53] := Lib.decDigits_one (by decide)
theorem dd12 : Lib.decDigits 12 = [49, 50] := Lib.decDigits_two (by decide) (by decide)
theorem dd30 : Lib.decDigits 30 = [51, 48] := Lib.decDigits_two (by decide) (by decide)
theorem dd40 : Lib.decDigits 40 = [52, 48] := Lib.decDigits_two (by decide) (by decide)
theorem dd60 : Lib.decDigits 60 = [54, 48] := Lib.decDigits_two (by decide) (by decide)
theorem alA_line : lineL alA = alAs := by
 have h1 : tellR [97, 32, 98] = [97, 37, 50, 48, 98] := by decide
 have h2 : cw 4 = [119, 114, 105, 116, 101] := by decide
 simp [lineL, alA, wordsR, tellF, kw, nm, numT, strT, tellL, Lib.itoa, alAs, dd1, dd2, dd3, h1, h2]
theorem alB_line : lineL alB = alBs := by decide
theorem may_of (x : M) (h : (decide (x.k < 7) && !decide (x.co < 0) && !decide (8 ≤ x.co) && !decide (x.n < 0) && !decide (((mostK x.k : Nat) : Int) < x.n) && !decide (256 < x.ino) && !decide (255 < x.t.length) && (!bitB (hasK x.k) 8 || x.c.checkE == 0) && (bitB (hasK x.k) 1 || x.co == 0) && (bitB (hasK x.k) 4 || (x.ino : Int) == 0) && (bitB (hasK x.k) 8 || decide (x.c = Call.C.zero 0)) && (bitB (hasK x.k) 16 || x.t.isEmpty)) = true) : mayM x = true := by
 rw [mayM_bool, Path.toList_L, L_B];exact h
theorem alA_may : mayM alA = true := may_of _ (by decide)
theorem alB_may : mayM alB = true := may_of _ (by decide)
theorem alS_may : mayM alS = true := may_of _ (by decide)
theorem alC_may : alC.may = true := by decide
theorem alG_none : stepL mayM [103, 111] = none := by
 have h : stepW (splitB 32 [103, 111]) = none := by decide
 unfold stepL;rw [h]
theorem alN_num : numL [48, 53] = none := by
 have h : Lib.atoiAll [48, 53] = .ok 5 := by decide
 unfold numL;rw [h]
 simp [Lib.itoa, dd5]
theorem alT_write : writeT alC [alS] = alTs := by
 have h0 : cw 0 = [] := by decide
 simp [h0, writeT, headT, headL, linesT, alC, alS, lineL, wordsR, tellF, kw, nm, nmH, numT, strT, Lib.itoa, alTs, dd2, dd12, dd30, dd40, dd60, Cf.get, beginB]
theorem alT_e : writeE alC [alS] = 0 := by
 unfold writeE;rw [alT_write]
 simp [alC_may, alS_may, alTs]
theorem alN_none : stepL mayM alNs = none := by
 have h : splitB 32 alNs = [[102, 105, 110, 105, 115, 104], [110, 61, 48, 53]] := by decide
 unfold stepL;rw [h];have h1 : (kwOf [102, 105, 110, 105, 115, 104]).isSome = true := by decide
 have h2 : cutL [110, 61, 48, 53] = some ([110], [48, 53]) := by decide
 have h3 : findR [110] 0 11 = some 1 := by decide
 obtain ⟨k, hk⟩ := Option.isSome_iff_exists.mp h1
 simp [stepW, goF, hk, h2, h3, hearF, numH, alN_num]
end Go.Proofs.YtkljcgopikdjjaaGreatDoor.Tx
end
section
namespace Go.Proofs.YtkljcgopikdjjaaGreatDoor.Tx
open Go.RowKit Go.Shelf Go.Maps Oct
theorem read_is_yes {s : List UInt8} {w w' : World} {e : Ending} {c : Cf} {l : List M} (h : ReadAns s w e w') (hs : s.length ≤ 262144) (hq : readQ s = .inr (c, l)) : Below w.heap.size w w' ∧ ∃ p cap g, e = rdV c (.slice p l.length cap) 0 0 ∧ LM w' p g 0 l := by
 obtain ⟨hb, h | ⟨_, m, h1, h2⟩ | ⟨_, c', l', p, cap, g, h1, h2, h3⟩⟩ := h
 · omega
 · rw [hq] at h1; cases h1
 · rw [hq] at h1
   cases h1;exact ⟨hb, p, cap, g, h2, h3⟩
theorem read_is_no {s : List UInt8} {w w' : World} {e : Ending} {m : Nat} (h : ReadAns s w e w') (hs : s.length ≤ 262144) (hq : readQ s = .inl m) : Below w.heap.size w w' ∧ e = rdV Cf.zero (.slice none 0 0) m 370 := by
 obtain ⟨hb, h | ⟨_, m', h1, h2⟩ | ⟨_, c', l', p, cap, g, h1, h2, h3⟩⟩ := h
 · omega
 · rw [hq] at h1
   cases h1;exact ⟨hb, h2⟩
 · rw [hq] at h1; cases h1
end Go.Proofs.YtkljcgopikdjjaaGreatDoor.Tx
end
section
namespace Go.Proofs.YtkljcgopikdjjaaGreatDoor.Tx
open Go.RowKit Go.Shelf Go.Maps Oct
set_option maxHeartbeats 200000
theorem alC_in : alC.In := fun k => by
 match k with
 | 0 | 1 | 2 | 3 | 4 => exact ⟨by decide, by decide⟩
 | k + 5 => exact (show _ ∧ _ from ⟨(by decide : (-9223372036854775808 : Int) ≤ 2), (by decide : (2 : Int) ≤ 9223372036854775807)⟩)
theorem alS_all : ∀ m ∈ [alS], mayM m = true := fun m hm => by
 have e : m = alS := by simpa using hm
 subst e;exact alS_may
theorem al_read2 : readQ (writeT alC [alS] ++ [103, 111] ++ 10 :: []) = .inl 9 := read_odd alC alC_in [alS] alS_all [103, 111] [] (by decide) alG_none
theorem al_text : L (B alTs ++ ⟨#[103, 111, 10]⟩) = writeT alC [alS] ++ [103, 111] ++ 10 :: [] := by
 have h : (⟨#[103, 111, 10]⟩ : ByteArray) = B [103, 111, 10] := rfl;rw [h, B_append, L_B, alT_write, List.append_assoc]
 rfl
theorem al_len : (writeT alC [alS] ++ [103, 111] ++ 10 :: []).length ≤ 200 := by
 rw [alT_write]; decide
theorem al_rd2 (w9 : World) (hl : Lay w9) (t : ByteArray) (ht : L t = writeT alC [alS] ++ [103, 111] ++ 10 :: []) : Calls Tryz.prog 14 #[.string t] w9 fun e w' => Below w9.heap.size w9 w' ∧ e = rdV Cf.zero (.slice none 0 0) 9 370 := by
 have hlen : t.size ≤ 200 := by rw [← len_L, ht]; exact al_len
 refine (read_any t (by omega) (fun v hv => ?_) w9 hl).mono (fun e w' h => read_is_no (m := 9) h (by rw [len_L]; omega) (by rw [ht]; exact al_read2));have h1 := (lines_len (L t)).1 v hv;rw [len_L] at h1;omega
end Go.Proofs.YtkljcgopikdjjaaGreatDoor.Tx
end
section
namespace Go.Proofs.YtkljcgopikdjjaaGreatDoor.Tx
set_option maxRecDepth 100000
set_option maxHeartbeats 8000000
open Go.RowKit Go.Shelf Go.Maps Oct
theorem keepC {w8 W W' : World} {bc : Nat} (hlt : bc < w8.heap.size) (h : Below w8.heap.size w8 W ∧ W.cell? ⟨bc, 0, none⟩ = some (.int .i64 12) ∧ W.cell? ⟨bc, 1, none⟩ = some (.int .i64 30) ∧ W.cell? ⟨bc, 2, none⟩ = some (.int .i64 40) ∧ W.cell? ⟨bc, 3, none⟩ = some (.int .i64 2) ∧ W.cell? ⟨bc, 4, none⟩ = some (.int .i64 60) ∧ W.cell? ⟨bc, 5, none⟩ = some (.int .i64 2)) (b : Below W.heap.size W W') : Below w8.heap.size w8 W' ∧ W'.cell? ⟨bc, 0, none⟩ = some (.int .i64 12) ∧ W'.cell? ⟨bc, 1, none⟩ = some (.int .i64 30) ∧ W'.cell? ⟨bc, 2, none⟩ = some (.int .i64 40) ∧ W'.cell? ⟨bc, 3, none⟩ = some (.int .i64 2) ∧ W'.cell? ⟨bc, 4, none⟩ = some (.int .i64 60) ∧ W'.cell? ⟨bc, 5, none⟩ = some (.int .i64 2) := by
 obtain ⟨h0, h1, h2, h3, h4, h5, h6⟩ := h;have hb := b.block bc (Nat.lt_of_lt_of_le hlt h0.size);exact ⟨h0.trans (b.mono h0.size), (cells_blk hb 0).trans h1, (cells_blk hb 1).trans h2, (cells_blk hb 2).trans h3, (cells_blk hb 3).trans h4, (cells_blk hb 4).trans h5, (cells_blk hb 5).trans h6⟩
theorem alA_in : alA.In := may_in alA alA_may
theorem LM.one (w : World) (x : M) : LM (w.alloc (.cells x.cells 40)) (some ⟨w.heap.size, 0, none⟩) w.heap.size 0 [x] := fun hn => by
 have h := SBox.new w 40 x.cells;refine ⟨rfl, h.lt, fun i y hy => ?_⟩
 match i, hy with
 | 0, hy =>
   have e : x = y := by simpa using hy
   subst e;exact ⟨h.cell 0, h.cell 1, h.cell 2, h.cell 3, h.cell 4, h.cell 5, h.cell 6, h.cell 7, h.cell 8, h.cell 9, h.cell 10, h.cell 11⟩
theorem alive37 (w : World) (hl : Lay w) : Calls Tryz.prog 10 #[] w fun e w' => e = .returned (.bool true) ∧ Below w.heap.size w w' := by
 have HL := Lib.hid hl;have A1 := Lib.hid (fun W h => line_yes alA W h alA_in (by decide) alA_may);rw [alA_line] at A1;have A2 := Lib.hid (fun W h => rdline_any (B alBs) (by rw [size_B]; decide) W h);rw [L_B, ← alB_line, stepL_line alB_may] at A2;have A3 := Lib.hid (fun W h => rdline_any (B alNs) (by rw [size_B]; decide) W h);rw [L_B, alN_none] at A3;have PL := Lib.hid lplain_any;unfold rdAns M.val M.cells at A2;unfold rdAns M.val M.cells M.zero at A3;unfold M.val M.cells at A1;unfold Cf.val at PL;simp only at A2 A3 PL;simp only [alA] at A1;simp only [alB] at A2;clear hl
 go_enter Tryz.func10, Tryz.ntmps10
 go_wp2_with fail;refine (A1.out _ HL.out).mono ?_;rintro e w1 ⟨rfl, b1⟩;have q1 : ((B alAs).toList == [97, 100, 100, 32, 99, 111, 114, 101, 61, 50, 32, 100, 111, 61, 119, 114, 105, 116, 101, 32, 102, 100, 61, 51, 32, 112, 97, 103, 101, 61, 49, 32, 100, 97, 116, 97, 61, 97, 37, 50, 48, 98]) = true := by rw [Path.toList_L, L_B]; rfl
 have q2 : decide ((B alAs).toList = [97, 100, 100, 32, 99, 111, 114, 101, 61, 50, 32, 100, 111, 61, 119, 114, 105, 116, 101, 32, 102, 100, 61, 51, 32, 112, 97, 103, 101, 61, 49, 32, 100, 97, 116, 97, 61, 97, 37, 50, 48, 98]) = true := by rw [Path.toList_L, L_B]; rfl
 have B1 := Lib.hid b1;clear b1;go_wp2_with fail;clear q1 q2;refine (A2.out _ (HL.out.later B1.out)).mono ?_;rintro e w2 ⟨rfl, b2⟩;have B2 := Lib.hid (B1.out.trans (b2.mono B1.out.size));clear b2
 go_upto_region 5 with (fail)
 have h2 := Lib.hid (SBox.new w2 40 #[.int .u8 2, .int .i64 0, .int .i64 0, .int .u32 0, .int .u8 0, .string (B []), .string (B []), .int .i64 0, .int .i64 0, .int .u32 0, .string (B []), .string (B [0, 1])]);have B2 := Lib.hid (B2.out.alloc B2.out.size (.cells #[.int .u8 2, .int .i64 0, .int .i64 0, .int .u32 0, .int .u8 0, .string (B []), .string (B []), .int .i64 0, .int .i64 0, .int .u32 0, .string (B []), .string (B [0, 1])] 40))
 generalize w2.alloc (.cells #[.int .u8 2, .int .i64 0, .int .i64 0, .int .u32 0, .int .u8 0, .string (B []), .string (B []), .int .i64 0, .int .i64 0, .int .u32 0, .string (B []), .string (B [0, 1])] 40) = w2a at *
 generalize w2.heap.size = bx at *
 go_wp2_with fail;refine (A3.out _ (HL.out.later B2.out)).mono ?_;rintro e w3 ⟨rfl, b3⟩;have h3 := Lib.hid (h2.out.later b3);have B3 := Lib.hid (B2.out.trans (b3.mono B2.out.size));clear b3 h2 B2
 go_upto_region 6 with (fail)
 have HN : Below w3.heap.size w3 (w3.alloc (.cells M.zero.cells 40)) := (Below.refl _ _).alloc (Nat.le_refl _) _;have h4 := Lib.hid (h3.out.later HN);have B4 := Lib.hid (B3.out.trans (HN.mono B3.out.size));have B4 : Hid (Below w.heap.size w (w3.alloc (.cells #[.int .u8 0, .int .i64 0, .int .i64 0, .int .u32 0, .int .u8 0, .string (B []), .string (B []), .int .i64 0, .int .i64 0, .int .u32 0, .string (B []), .string (B [])] 40))) := B4;have h4 : Hid (SBox (w3.alloc (.cells #[.int .u8 0, .int .i64 0, .int .i64 0, .int .u32 0, .int .u8 0, .string (B []), .string (B []), .int .i64 0, .int .i64 0, .int .u32 0, .string (B []), .string (B [])] 40)) bx 40 #[.int .u8 2, .int .i64 0, .int .i64 0, .int .u32 0, .int .u8 0, .string (B []), .string (B []), .int .i64 0, .int .i64 0, .int .u32 0, .string (B []), .string (B [0, 1])]) := h4;clear HN h3 B3
 generalize w3.alloc (.cells #[.int .u8 0, .int .i64 0, .int .i64 0, .int .u32 0, .int .u8 0, .string (B []), .string (B []), .int .i64 0, .int .i64 0, .int .u32 0, .string (B []), .string (B [])] 40) = w4 at *
 generalize w3.heap.size = by_ at *
 have x0 := h4.out;have X0 := x0.cell 0;have X1 := x0.cell 1;have X2 := x0.cell 2;have X3 := x0.cell 3;have X4 := x0.cell 4;have X5 := x0.cell 5;have X6 := x0.cell 6;have X7 := x0.cell 7;have X8 := x0.cell 8;have X9 := x0.cell 9;have X10 := x0.cell 10;have X11 := x0.cell 11;simp only [List.getElem?_toArray, List.getElem?_cons_zero, List.getElem?_cons_succ] at X0 X1 X2 X3 X4 X5 X6 X7 X8 X9 X10 X11;have Xl := x0.lt;clear x0 h4;have q3 : (B []).toList = [] := by rw [Path.toList_L, L_B]
 have q4 : (B [0, 1]).toList = [0, 1] := by rw [Path.toList_L, L_B]
 go_wp2_with fail;clear X0 X1 X2 X3 X4 X5 X6 X7 X8 X9 X10 X11 Xl q3 q4;refine (PL.out _).mono ?_;rintro e w5 ⟨rfl, b5⟩;have B5 := Lib.hid (B4.out.trans (b5.mono B4.out.size));clear b5;have LO := Lib.hid (LM.one w5 alS);have B6 := Lib.hid (B5.out.alloc B5.out.size (.cells alS.cells 40))
 have WR := Lib.hid (write_yes alC alC_in [alS] (by decide) (fun m hm => by
   have e : m = alS := by simpa using hm
   subst e;exact ⟨may_in alS alS_may, by decide, by decide⟩) _ _ _ 1 _ (HL.out.later B6.out) LO.out alC_may)
 unfold WrAns at WR;rw [alT_e, if_pos rfl, alT_write] at WR;go_wp2_with fail;refine (WR.out).mono ?_;rintro e w6 ⟨rfl, b6⟩;have B7 := Lib.hid (B6.out.trans (b6.mono B6.out.size));clear b6 WR LO
 have hline : ∀ (t : List UInt8), t.length ≤ 100 → ∀ v ∈ (linesQ (L (B t))).1, v.length ≤ 20000 := fun t ht v hv => by
   have h1 := (lines_len (L (B t))).1 v hv;rw [L_B] at h1;omega
 have RD := Lib.hid ((read_any (B alTs) (by rw [size_B]; decide) (hline _ (by decide)) w6 (HL.out.later B7.out)).mono (fun e w' h => read_is_yes h (by rw [L_B]; decide) (show readQ (L (B alTs)) = .inr (alC, [alS]) by rw [L_B, ← alT_write]; exact read_write alC alC_in [alS] alC_may (fun m hm => by
   have e : m = alS := by simpa using hm
   subst e;exact alS_may))))
 clear hline;go_wp2_with fail;refine (RD.out).mono ?_;rintro e w7 ⟨b7, p7, c7, g7, rfl, hL7⟩;have B8 := Lib.hid (B7.out.trans (b7.mono B7.out.size));clear RD b7 hL7;unfold rdV Cf.val alC
 go_upto_region 10 with (fail)
 have h8 := SBox.new w7 27 #[.int .i64 12, .int .i64 30, .int .i64 40, .int .i64 2, .int .i64 60, .int .i64 2];have BB := Lib.hid (B8.out.alloc B8.out.size (.cells #[.int .i64 12, .int .i64 30, .int .i64 40, .int .i64 2, .int .i64 60, .int .i64 2] 27))
 generalize w7.alloc (.cells #[.int .i64 12, .int .i64 30, .int .i64 40, .int .i64 2, .int .i64 60, .int .i64 2] 27) = w8 at *
 generalize w7.heap.size = bc at *
 have X0 := h8.cell 0;have X1 := h8.cell 1;have X2 := h8.cell 2;have X3 := h8.cell 3;have X4 := h8.cell 4;have X5 := h8.cell 5;simp only [List.getElem?_toArray, List.getElem?_cons_zero, List.getElem?_cons_succ] at X0 X1 X2 X3 X4 X5;have Xl := h8.lt;clear h8;have q5 : ((B alTs).toList == [105, 110, 111, 100, 101, 115, 61, 49, 50, 10, 98, 108, 111, 99, 107, 115, 61, 51, 48, 10, 106, 111, 117, 114, 110, 97, 108, 61, 52, 48, 10, 99, 111, 114, 101, 115, 61, 50, 10, 108, 111, 103, 61, 54, 48, 10, 116, 114, 105, 101, 115, 61, 50, 10, 98, 101, 103, 105, 110, 10, 115, 121, 110, 99, 10]) = true := by rw [Path.toList_L, L_B]; rfl
 have q6 : decide ((B alTs).toList = [105, 110, 111, 100, 101, 115, 61, 49, 50, 10, 98, 108, 111, 99, 107, 115, 61, 51, 48, 10, 106, 111, 117, 114, 110, 97, 108, 61, 52, 48, 10, 99, 111, 114, 101, 115, 61, 50, 10, 108, 111, 103, 61, 54, 48, 10, 116, 114, 105, 101, 115, 61, 50, 10, 98, 101, 103, 105, 110, 10, 115, 121, 110, 99, 10]) = true := by rw [Path.toList_L, L_B]; rfl
 go_region_held3 (fun W => Below w8.heap.size w8 W ∧ W.cell? ⟨bc, 0, none⟩ = some (.int .i64 12) ∧ W.cell? ⟨bc, 1, none⟩ = some (.int .i64 30) ∧ W.cell? ⟨bc, 2, none⟩ = some (.int .i64 40) ∧ W.cell? ⟨bc, 3, none⟩ = some (.int .i64 2) ∧ W.cell? ⟨bc, 4, none⟩ = some (.int .i64 60) ∧ W.cell? ⟨bc, 5, none⟩ = some (.int .i64 2))
   (first | exact keepC Xl (by assumption) b9 | exact ⟨(Below.refl _ _).drew, X0, X1, X2, X3, X4, X5⟩ | exact ⟨Below.refl _ _, X0, X1, X2, X3, X4, X5⟩)
   (first | (go_at_call 26; refine (PL.out _).mono ?_; rintro e w9 ⟨rfl, b9⟩))
 rename_i hS
 have B9 := Lib.hid (BB.out.trans (hS.1.mono BB.out.size));have zz : (B alTs).size ≤ 100 := by rw [size_B]; decide
 have RD := Lib.hid (al_rd2 w9 (HL.out.later B9.out) _ al_text);clear hS X0 X1 X2 X3 X4 X5 Xl q5 q6
 generalize B alTs = st at *
 go_wp2_with fail;refine (RD.out).mono ?_;rintro e w10 ⟨b10, rfl⟩;have B10 := Lib.hid (B9.out.trans (b10.mono B9.out.size));clear RD b10;unfold rdV;go_wp2_with fail;go_ret;exact ⟨rfl, B10.out⟩
end Go.Proofs.YtkljcgopikdjjaaGreatDoor.Tx
end
section
namespace Go.Proofs.YtkljcgopikdjjaaGreatDoor.Tx
set_option maxRecDepth 100000
set_option maxHeartbeats 4000000
open Go.RowKit Go.Shelf Go.Maps Oct
theorem layT {w w8 W : World} {b1 b2 : Nat} {x : M} (hl : Lay w) (hb : Below w.heap.size w w8) (h : Below w8.heap.size w8 W ∧ W.cell? ⟨b1, 0, none⟩ = some (.int .u8 x.k) ∧ W.cell? ⟨b1, 1, none⟩ = some (.int .i64 x.co) ∧ W.cell? ⟨b1, 2, none⟩ = some (.int .i64 x.n) ∧ W.cell? ⟨b1, 3, none⟩ = some (.int .u32 x.ino) ∧ W.cell? ⟨b1, 4, none⟩ = some (.int .u8 x.d) ∧ W.cell? ⟨b1, 5, none⟩ = some (.string (B x.p)) ∧ W.cell? ⟨b1, 6, none⟩ = some (.string (B x.p2)) ∧ W.cell? ⟨b1, 7, none⟩ = some (.int .i64 x.fd) ∧ W.cell? ⟨b1, 8, none⟩ = some (.int .i64 x.pg) ∧ W.cell? ⟨b1, 9, none⟩ = some (.int .u32 x.sz) ∧ W.cell? ⟨b1, 10, none⟩ = some (.string (B x.da)) ∧ W.cell? ⟨b1, 11, none⟩ = some (.string (B x.t)) ∧ W.cell? ⟨b2, 0, none⟩ = some (.int .u8 x.k) ∧ W.cell? ⟨b2, 1, none⟩ = some (.int .i64 x.co) ∧ W.cell? ⟨b2, 2, none⟩ = some (.int .i64 x.n) ∧ W.cell? ⟨b2, 3, none⟩ = some (.int .u32 x.ino) ∧ W.cell? ⟨b2, 4, none⟩ = some (.int .u8 x.d) ∧ W.cell? ⟨b2, 5, none⟩ = some (.string (B x.p)) ∧ W.cell? ⟨b2, 6, none⟩ = some (.string (B x.p2)) ∧ W.cell? ⟨b2, 7, none⟩ = some (.int .i64 x.fd) ∧ W.cell? ⟨b2, 8, none⟩ = some (.int .i64 x.pg) ∧ W.cell? ⟨b2, 9, none⟩ = some (.int .u32 x.sz) ∧ W.cell? ⟨b2, 10, none⟩ = some (.string (B x.da)) ∧ W.cell? ⟨b2, 11, none⟩ = some (.string (B x.t))) : Lay W := hl.later (hb.trans (h.1.mono hb.size))
theorem keepT {w8 W W' : World} {b1 b2 : Nat} {x : M} (l1 : b1 < w8.heap.size) (l2 : b2 < w8.heap.size) (h : Below w8.heap.size w8 W ∧ W.cell? ⟨b1, 0, none⟩ = some (.int .u8 x.k) ∧ W.cell? ⟨b1, 1, none⟩ = some (.int .i64 x.co) ∧ W.cell? ⟨b1, 2, none⟩ = some (.int .i64 x.n) ∧ W.cell? ⟨b1, 3, none⟩ = some (.int .u32 x.ino) ∧ W.cell? ⟨b1, 4, none⟩ = some (.int .u8 x.d) ∧ W.cell? ⟨b1, 5, none⟩ = some (.string (B x.p)) ∧ W.cell? ⟨b1, 6, none⟩ = some (.string (B x.p2)) ∧ W.cell? ⟨b1, 7, none⟩ = some (.int .i64 x.fd) ∧ W.cell? ⟨b1, 8, none⟩ = some (.int .i64 x.pg) ∧ W.cell? ⟨b1, 9, none⟩ = some (.int .u32 x.sz) ∧ W.cell? ⟨b1, 10, none⟩ = some (.string (B x.da)) ∧ W.cell? ⟨b1, 11, none⟩ = some (.string (B x.t)) ∧ W.cell? ⟨b2, 0, none⟩ = some (.int .u8 x.k) ∧ W.cell? ⟨b2, 1, none⟩ = some (.int .i64 x.co) ∧ W.cell? ⟨b2, 2, none⟩ = some (.int .i64 x.n) ∧ W.cell? ⟨b2, 3, none⟩ = some (.int .u32 x.ino) ∧ W.cell? ⟨b2, 4, none⟩ = some (.int .u8 x.d) ∧ W.cell? ⟨b2, 5, none⟩ = some (.string (B x.p)) ∧ W.cell? ⟨b2, 6, none⟩ = some (.string (B x.p2)) ∧ W.cell? ⟨b2, 7, none⟩ = some (.int .i64 x.fd) ∧ W.cell? ⟨b2, 8, none⟩ = some (.int .i64 x.pg) ∧ W.cell? ⟨b2, 9, none⟩ = some (.int .u32 x.sz) ∧ W.cell? ⟨b2, 10, none⟩ = some (.string (B x.da)) ∧ W.cell? ⟨b2, 11, none⟩ = some (.string (B x.t))) (b : Below W.heap.size W W') : Below w8.heap.size w8 W' ∧ W'.cell? ⟨b1, 0, none⟩ = some (.int .u8 x.k) ∧ W'.cell? ⟨b1, 1, none⟩ = some (.int .i64 x.co) ∧ W'.cell? ⟨b1, 2, none⟩ = some (.int .i64 x.n) ∧ W'.cell? ⟨b1, 3, none⟩ = some (.int .u32 x.ino) ∧ W'.cell? ⟨b1, 4, none⟩ = some (.int .u8 x.d) ∧ W'.cell? ⟨b1, 5, none⟩ = some (.string (B x.p)) ∧ W'.cell? ⟨b1, 6, none⟩ = some (.string (B x.p2)) ∧ W'.cell? ⟨b1, 7, none⟩ = some (.int .i64 x.fd) ∧ W'.cell? ⟨b1, 8, none⟩ = some (.int .i64 x.pg) ∧ W'.cell? ⟨b1, 9, none⟩ = some (.int .u32 x.sz) ∧ W'.cell? ⟨b1, 10, none⟩ = some (.string (B x.da)) ∧ W'.cell? ⟨b1, 11, none⟩ = some (.string (B x.t)) ∧ W'.cell? ⟨b2, 0, none⟩ = some (.int .u8 x.k) ∧ W'.cell? ⟨b2, 1, none⟩ = some (.int .i64 x.co) ∧ W'.cell? ⟨b2, 2, none⟩ = some (.int .i64 x.n) ∧ W'.cell? ⟨b2, 3, none⟩ = some (.int .u32 x.ino) ∧ W'.cell? ⟨b2, 4, none⟩ = some (.int .u8 x.d) ∧ W'.cell? ⟨b2, 5, none⟩ = some (.string (B x.p)) ∧ W'.cell? ⟨b2, 6, none⟩ = some (.string (B x.p2)) ∧ W'.cell? ⟨b2, 7, none⟩ = some (.int .i64 x.fd) ∧ W'.cell? ⟨b2, 8, none⟩ = some (.int .i64 x.pg) ∧ W'.cell? ⟨b2, 9, none⟩ = some (.int .u32 x.sz) ∧ W'.cell? ⟨b2, 10, none⟩ = some (.string (B x.da)) ∧ W'.cell? ⟨b2, 11, none⟩ = some (.string (B x.t)) := by
 obtain ⟨h0, p0, p1, p2, p3, p4, p5, p6, p7, p8, p9, p10, p11, q0, q1, q2, q3, q4, q5, q6, q7, q8, q9, q10, q11⟩ := h;have e1 := b.block b1 (Nat.lt_of_lt_of_le l1 h0.size);have e2 := b.block b2 (Nat.lt_of_lt_of_le l2 h0.size);exact ⟨h0.trans (b.mono h0.size), (cells_blk e1 0).trans p0, (cells_blk e1 1).trans p1, (cells_blk e1 2).trans p2, (cells_blk e1 3).trans p3, (cells_blk e1 4).trans p4, (cells_blk e1 5).trans p5, (cells_blk e1 6).trans p6, (cells_blk e1 7).trans p7, (cells_blk e1 8).trans p8, (cells_blk e1 9).trans p9, (cells_blk e1 10).trans p10, (cells_blk e1 11).trans p11, (cells_blk e2 0).trans q0, (cells_blk e2 1).trans q1, (cells_blk e2 2).trans q2, (cells_blk e2 3).trans q3, (cells_blk e2 4).trans q4, (cells_blk e2 5).trans q5, (cells_blk e2 6).trans q6, (cells_blk e2 7).trans q7, (cells_blk e2 8).trans q8, (cells_blk e2 9).trans q9, (cells_blk e2 10).trans q10, (cells_blk e2 11).trans q11⟩
theorem told_law (x : M) (hk : x.k < 256) (hd : x.d < 256) (hw : x.Wide) (w : World) (hl : Lay w) : Calls Tryz.prog 4 #[x.val] w fun e w' => e = .returned (.bool true) ∧ Below w.heap.size w w' := by
 have h0 := SBox.new w 40 x.cells;have b0 := (Below.refl w.heap.size w).alloc (Nat.le_refl _) (.cells x.cells 40);have HL := Lib.hid hl;have H0 := Lib.hid h0;have HB := Lib.hid b0;have AL := Lib.hid alive37;have hlm := LM.one (w.alloc (.cells x.cells 40)) x;rw [show (w.alloc (.cells x.cells 40)).heap.size = w.heap.size + 1 from by simp] at hlm
 have BG := Lib.hid (big_any [x] (fun y hy => by
   have e : y = x := by simpa using hy
   rw [e]; exact hw) _ _ 0 1 _ hlm)
 rw [List.length_singleton] at BG;clear hlm hw;have B1 := Lib.hid (b0.alloc b0.size (.cells x.cells 40));have H1 := Lib.hid (h0.alloc (.cells x.cells 40));have hbig : bigM [x] = longM x := by simp [bigM]
 rw [hbig] at BG;clear hbig h0 b0;have y0 := H0.out;unfold M.cells at y0 BG H1 B1;unfold M.val M.cells;have X0 := y0.cell 0;have X1 := y0.cell 1;have X2 := y0.cell 2;have X3 := y0.cell 3;have X4 := y0.cell 4;have X5 := y0.cell 5;have X6 := y0.cell 6;have X7 := y0.cell 7;have X8 := y0.cell 8;have X9 := y0.cell 9;have X10 := y0.cell 10;have X11 := y0.cell 11;simp only [List.getElem?_toArray, List.getElem?_cons_zero, List.getElem?_cons_succ] at X0 X1 X2 X3 X4 X5 X6 X7 X8 X9 X10 X11;have Xl := y0.lt;clear y0 hl
 go_enter Tryz.func4, Tryz.ntmps4
 go_wp2_with fail;refine (BG.out).mono ?_;rintro e w2 ⟨rfl, b2⟩;have H2 := Lib.hid (H1.out.later b2);have B2 := Lib.hid (B1.out.trans (b2.mono B1.out.size));have y0 := H2.out;clear b2 H1 B1 BG X0 X1 X2 X3 X4 X5 X6 X7 X8 X9 X10 X11 Xl H0 HB;have X0 := y0.cell 0;have X1 := y0.cell 1;have X2 := y0.cell 2;have X3 := y0.cell 3;have X4 := y0.cell 4;have X5 := y0.cell 5;have X6 := y0.cell 6;have X7 := y0.cell 7;have X8 := y0.cell 8;have X9 := y0.cell 9;have X10 := y0.cell 10;have X11 := y0.cell 11;simp only [List.getElem?_toArray, List.getElem?_cons_zero, List.getElem?_cons_succ] at X0 X1 X2 X3 X4 X5 X6 X7 X8 X9 X10 X11;have Xl := y0.lt;clear y0;cases hlg : longM x with
 | true =>
   go_wp2_with fail;refine (AL.out _ (HL.out.later B2.out)).mono ?_;rintro e w3 ⟨rfl, b3⟩;have B3 := Lib.hid (B2.out.trans (b3.mono B2.out.size));clear b3;go_wp2_with fail;go_ret;exact ⟨rfl, B3.out⟩
 | false =>
   have hsz : x.size ≤ 3100 := by
     unfold longM longC at hlg
     simp at hlg
     unfold M.size;omega
   have RM := Lib.hid (fun W => may36 x W hk hd (by omega));have RL := Lib.hid (fun W h => rline_any x W h hk hd (by omega));cases hm : mayM x with
   | false =>
     have LN := Lib.hid (fun W h => line_no x W h hk hd (by omega) hm);unfold lineV at RL;rw [hm] at RM RL;rw [if_neg (by decide)] at RL;unfold M.val M.cells at RM RL LN;clear hlg hm;go_wp2_with fail;refine (LN.out _ (HL.out.later B2.out)).mono ?_;rintro e w3 ⟨rfl, b3⟩;have H3 := Lib.hid (H2.out.later b3);have B3 := Lib.hid (B2.out.trans (b3.mono B2.out.size));have y0 := H3.out;clear b3 H2 B2 X0 X1 X2 X3 X4 X5 X6 X7 X8 X9 X10 X11 Xl;have X0 := y0.cell 0;have X1 := y0.cell 1;have X2 := y0.cell 2;have X3 := y0.cell 3;have X4 := y0.cell 4;have X5 := y0.cell 5;have X6 := y0.cell 6;have X7 := y0.cell 7;have X8 := y0.cell 8;have X9 := y0.cell 9;have X10 := y0.cell 10;have X11 := y0.cell 11;simp only [List.getElem?_toArray, List.getElem?_cons_zero, List.getElem?_cons_succ] at X0 X1 X2 X3 X4 X5 X6 X7 X8 X9 X10 X11;have Xl := y0.lt;clear y0;go_wp2_with fail;refine (RL.out _ (HL.out.later B3.out)).mono ?_;rintro e w4 ⟨rfl, b4⟩;have H4 := Lib.hid (H3.out.later b4);have B4 := Lib.hid (B3.out.trans (b4.mono B3.out.size));have y0 := H4.out;clear b4 H3 B3 X0 X1 X2 X3 X4 X5 X6 X7 X8 X9 X10 X11 Xl;have X0 := y0.cell 0;have X1 := y0.cell 1;have X2 := y0.cell 2;have X3 := y0.cell 3;have X4 := y0.cell 4;have X5 := y0.cell 5;have X6 := y0.cell 6;have X7 := y0.cell 7;have X8 := y0.cell 8;have X9 := y0.cell 9;have X10 := y0.cell 10;have X11 := y0.cell 11;simp only [List.getElem?_toArray, List.getElem?_cons_zero, List.getElem?_cons_succ] at X0 X1 X2 X3 X4 X5 X6 X7 X8 X9 X10 X11;have Xl := y0.lt;clear y0;go_wp2_with fail;refine (RM.out _).mono ?_;rintro e w5 ⟨rfl, b5⟩;have B5 := Lib.hid (B4.out.trans (b5.mono B4.out.size));clear b5 H4 B4 X0 X1 X2 X3 X4 X5 X6 X7 X8 X9 X10 X11 Xl;go_wp2_with fail;refine (AL.out _ (HL.out.later B5.out)).mono ?_;rintro e w6 ⟨rfl, b6⟩;have B6 := Lib.hid (B5.out.trans (b6.mono B5.out.size));clear b6;go_wp2_with fail;go_ret;exact ⟨rfl, B6.out⟩
   | true =>
     have hin := may_in x hm;have hms := may_size x hin hm;have hll := lineL_len x hin;have LY := Lib.hid (fun W h => line_yes x W h hin (by omega) hm);have RD := Lib.hid (fun W h => rdline_any (B (lineL x)) (by rw [size_B]; omega) W h);rw [L_B, stepL_line hm] at RD;have BK := Lib.hid (blanks_any (B (lineL x)) (by rw [size_B]; omega));rw [L_B, blank_line x (may_good x hin hm)] at BK;have FD := Lib.hid (lfields_any x);unfold lineV at RL;rw [hm, if_pos rfl] at RL;unfold rdAns at RD;unfold M.val M.cells at RL LY RD FD;simp only at RD;clear hlg hm hin hms hll RM hsz
     generalize B (lineL x) = st at *
     generalize fieldN x 11 = fn at *
     go_wp2_with fail;refine (LY.out _ (HL.out.later B2.out)).mono ?_;rintro e w3 ⟨rfl, b3⟩;have H3 := Lib.hid (H2.out.later b3);have B3 := Lib.hid (B2.out.trans (b3.mono B2.out.size));have y0 := H3.out;clear b3 H2 B2 X0 X1 X2 X3 X4 X5 X6 X7 X8 X9 X10 X11 Xl;have X0 := y0.cell 0;have X1 := y0.cell 1;have X2 := y0.cell 2;have X3 := y0.cell 3;have X4 := y0.cell 4;have X5 := y0.cell 5;have X6 := y0.cell 6;have X7 := y0.cell 7;have X8 := y0.cell 8;have X9 := y0.cell 9;have X10 := y0.cell 10;have X11 := y0.cell 11;simp only [List.getElem?_toArray, List.getElem?_cons_zero, List.getElem?_cons_succ] at X0 X1 X2 X3 X4 X5 X6 X7 X8 X9 X10 X11;have Xl := y0.lt;clear y0;go_wp2_with fail;refine (RL.out _ (HL.out.later B3.out)).mono ?_;rintro e w4 ⟨rfl, b4⟩;have H4 := Lib.hid (H3.out.later b4);have B4 := Lib.hid (B3.out.trans (b4.mono B3.out.size));have q1 : (st.toList == st.toList) = true := by simp
     have y0 := H4.out;clear b4 H3 B3 X0 X1 X2 X3 X4 X5 X6 X7 X8 X9 X10 X11 Xl;have X0 := y0.cell 0;have X1 := y0.cell 1;have X2 := y0.cell 2;have X3 := y0.cell 3;have X4 := y0.cell 4;have X5 := y0.cell 5;have X6 := y0.cell 6;have X7 := y0.cell 7;have X8 := y0.cell 8;have X9 := y0.cell 9;have X10 := y0.cell 10;have X11 := y0.cell 11;simp only [List.getElem?_toArray, List.getElem?_cons_zero, List.getElem?_cons_succ] at X0 X1 X2 X3 X4 X5 X6 X7 X8 X9 X10 X11;have Xl := y0.lt;clear y0;go_wp2_with fail;refine (RD.out _ (HL.out.later B4.out)).mono ?_;rintro e w5 ⟨rfl, b5⟩;have H5 := Lib.hid (H4.out.later b5);have B5 := Lib.hid (B4.out.trans (b5.mono B4.out.size));clear b5 H4 B4 X0 X1 X2 X3 X4 X5 X6 X7 X8 X9 X10 X11 Xl
     go_upto_region 10 with (fail)
     have y1 := SBox.new w5 40 #[.int .u8 x.k, .int .i64 x.co, .int .i64 x.n, .int .u32 x.ino, .int .u8 x.d, .string (B x.p), .string (B x.p2), .int .i64 x.fd, .int .i64 x.pg, .int .u32 x.sz, .string (B x.da), .string (B x.t)];have y0 := H5.out.later ((Below.refl w5.heap.size w5).alloc (Nat.le_refl _) (.cells #[.int .u8 x.k, .int .i64 x.co, .int .i64 x.n, .int .u32 x.ino, .int .u8 x.d, .string (B x.p), .string (B x.p2), .int .i64 x.fd, .int .i64 x.pg, .int .u32 x.sz, .string (B x.da), .string (B x.t)] 40));have B6 := Lib.hid (B5.out.alloc B5.out.size (.cells #[.int .u8 x.k, .int .i64 x.co, .int .i64 x.n, .int .u32 x.ino, .int .u8 x.d, .string (B x.p), .string (B x.p2), .int .i64 x.fd, .int .i64 x.pg, .int .u32 x.sz, .string (B x.da), .string (B x.t)] 40));clear H5 B5
     generalize w5.alloc (.cells #[.int .u8 x.k, .int .i64 x.co, .int .i64 x.n, .int .u32 x.ino, .int .u8 x.d, .string (B x.p), .string (B x.p2), .int .i64 x.fd, .int .i64 x.pg, .int .u32 x.sz, .string (B x.da), .string (B x.t)] 40) = w6 at *
     generalize w5.heap.size = b7 at *
     have X0 := y0.cell 0;have X1 := y0.cell 1;have X2 := y0.cell 2;have X3 := y0.cell 3;have X4 := y0.cell 4;have X5 := y0.cell 5;have X6 := y0.cell 6;have X7 := y0.cell 7;have X8 := y0.cell 8;have X9 := y0.cell 9;have X10 := y0.cell 10;have X11 := y0.cell 11;simp only [List.getElem?_toArray, List.getElem?_cons_zero, List.getElem?_cons_succ] at X0 X1 X2 X3 X4 X5 X6 X7 X8 X9 X10 X11;have Xl := y0.lt;have Y0 := y1.cell 0;have Y1 := y1.cell 1;have Y2 := y1.cell 2;have Y3 := y1.cell 3;have Y4 := y1.cell 4;have Y5 := y1.cell 5;have Y6 := y1.cell 6;have Y7 := y1.cell 7;have Y8 := y1.cell 8;have Y9 := y1.cell 9;have Y10 := y1.cell 10;have Y11 := y1.cell 11;simp only [List.getElem?_toArray, List.getElem?_cons_zero, List.getElem?_cons_succ] at Y0 Y1 Y2 Y3 Y4 Y5 Y6 Y7 Y8 Y9 Y10 Y11;have Yl := y1.lt;clear y0 y1;have z1 : ((fn : Int) == (fn : Int)) = true := by simp
     go_region_held3 (fun W => Below w6.heap.size w6 W ∧ W.cell? ⟨w.heap.size, 0, none⟩ = some (.int .u8 x.k) ∧ W.cell? ⟨w.heap.size, 1, none⟩ = some (.int .i64 x.co) ∧ W.cell? ⟨w.heap.size, 2, none⟩ = some (.int .i64 x.n) ∧ W.cell? ⟨w.heap.size, 3, none⟩ = some (.int .u32 x.ino) ∧ W.cell? ⟨w.heap.size, 4, none⟩ = some (.int .u8 x.d) ∧ W.cell? ⟨w.heap.size, 5, none⟩ = some (.string (B x.p)) ∧ W.cell? ⟨w.heap.size, 6, none⟩ = some (.string (B x.p2)) ∧ W.cell? ⟨w.heap.size, 7, none⟩ = some (.int .i64 x.fd) ∧ W.cell? ⟨w.heap.size, 8, none⟩ = some (.int .i64 x.pg) ∧ W.cell? ⟨w.heap.size, 9, none⟩ = some (.int .u32 x.sz) ∧ W.cell? ⟨w.heap.size, 10, none⟩ = some (.string (B x.da)) ∧ W.cell? ⟨w.heap.size, 11, none⟩ = some (.string (B x.t)) ∧ W.cell? ⟨b7, 0, none⟩ = some (.int .u8 x.k) ∧ W.cell? ⟨b7, 1, none⟩ = some (.int .i64 x.co) ∧ W.cell? ⟨b7, 2, none⟩ = some (.int .i64 x.n) ∧ W.cell? ⟨b7, 3, none⟩ = some (.int .u32 x.ino) ∧ W.cell? ⟨b7, 4, none⟩ = some (.int .u8 x.d) ∧ W.cell? ⟨b7, 5, none⟩ = some (.string (B x.p)) ∧ W.cell? ⟨b7, 6, none⟩ = some (.string (B x.p2)) ∧ W.cell? ⟨b7, 7, none⟩ = some (.int .i64 x.fd) ∧ W.cell? ⟨b7, 8, none⟩ = some (.int .i64 x.pg) ∧ W.cell? ⟨b7, 9, none⟩ = some (.int .u32 x.sz) ∧ W.cell? ⟨b7, 10, none⟩ = some (.string (B x.da)) ∧ W.cell? ⟨b7, 11, none⟩ = some (.string (B x.t)))
       (first | exact keepT Xl Yl (by assumption) b9 | exact ⟨(Below.refl _ _).drew, X0, X1, X2, X3, X4, X5, X6, X7, X8, X9, X10, X11, Y0, Y1, Y2, Y3, Y4, Y5, Y6, Y7, Y8, Y9, Y10, Y11⟩ | exact ⟨Below.refl _ _, X0, X1, X2, X3, X4, X5, X6, X7, X8, X9, X10, X11, Y0, Y1, Y2, Y3, Y4, Y5, Y6, Y7, Y8, Y9, Y10, Y11⟩ | assumption)
       (first | (go_at_call 18; refine (FD.out _).mono ?_; rintro e w9 ⟨rfl, b9⟩) | (go_at_call 17; refine (BK.out _).mono ?_; rintro e w9 ⟨rfl, rfl⟩) | (go_at_call 10; refine (AL.out _ (layT HL.out B6.out (by assumption))).mono ?_; rintro e w9 ⟨rfl, b9⟩))
     rename_i hS
     have B9 := Lib.hid (B6.out.trans (hS.1.mono B6.out.size));clear hS X0 X1 X2 X3 X4 X5 X6 X7 X8 X9 X10 X11 Xl Y0 Y1 Y2 Y3 Y4 Y5 Y6 Y7 Y8 Y9 Y10 Y11 Yl;go_wp2_with fail;go_ret;exact ⟨rfl, B9.out⟩
end Go.Proofs.YtkljcgopikdjjaaGreatDoor.Tx
end
