/- Layer 37: what the rows' list of variables gives; a world for the witness. -/
import Derived.Test.YtkljcgopikdjjaaGreatDoorM39
import Derived.Test.YtkljcgopikdjjaaGreatDoorM07
import Derived.Test.YtkljcgopikdjjaaGreatDoorM34
import Derived.Test.YtkljcgopikdjjaaGreatDoorM27
import Derived.Deep.QuietTactic
import Derived.BigQuiet
import Derived.Laws.IdiomArrays
import Derived.WalkKit
import Derived.ProofKit
import Derived.Deep.Slices
import Derived.Deep.Fields
import Derived.Deep.Strs
import Derived.ChangeSame
import Derived.SizedLaws
import Derived.Test.YtkljcgopikdjjaaGreatDoorCards
import Derived.Test.YtkljcgopikdjjaaGreatDoorTieE
import Derived.Test.YtkljcgopikdjjaaGreatDoorTxFacts
import Derived.OpenShut
import Derived.ShutString
import Derived.ChangeOld
import Derived.Below
import Derived.Deep.DeepHandedRow
import Derived.Lib.LaidTab
import Derived.Lib.SmallJoins
set_option linter.unusedVariables false
set_option linter.unusedSimpArgs false
set_option maxRecDepth 100000
section
namespace Go.Proofs.YtkljcgopikdjjaaGreatDoor.Tx
set_option maxRecDepth 100000
set_option maxHeartbeats 1000000
open Go.RowKit Go.Shelf Go.Maps Oct
def M.Wide (x : M) : Prop := x.p.length ≤ 140737488351232 ∧ x.p2.length ≤ 140737488351232 ∧ x.da.length ≤ 140737488351232 ∧ x.t.length ≤ 140737488351232
def longC (x : M) : Bool := decide (2048 < x.p.length + x.p2.length + x.da.length)
def longM (x : M) : Bool := longC x || decide (1024 < x.t.length)
theorem long_any (x : M) (h : x.Wide) (w : World) :
   Calls Tryz.prog 25 #[.agg #[.int .u8 x.d, .string (B x.p), .string (B x.p2), .int .i64 x.fd, .int .i64 x.pg, .int .u32 x.sz, .string (B x.da)]] w fun e w' => e = .returned (.bool (longC x)) ∧ Below w.heap.size w w' := by
 obtain ⟨h1, h2, h3, h4⟩ := h;have z1 := size_B x.p;have z2 := size_B x.p2;have z3 := size_B x.da
 by_cases hl : 2048 < x.p.length + x.p2.length + x.da.length
 · have e : longC x = true := by unfold longC; simp; omega
   rw [e];have t1 : (2048 : Int) < ((B x.p).size : Int) + ((B x.p2).size : Int) + ((B x.da).size : Int) := by omega
   clear e
   go_enter Tryz.func25, Tryz.ntmps25
   go_wp2_with fail;go_ret
   first | exact ⟨rfl, (Below.refl _ _).alloc (Nat.le_refl _) _⟩ | exact ⟨by simp; omega, (Below.refl _ _).alloc (Nat.le_refl _) _⟩
 · have e : longC x = false := by unfold longC; simp; omega
   rw [e];have t1 : ¬ (2048 : Int) < ((B x.p).size : Int) + ((B x.p2).size : Int) + ((B x.da).size : Int) := by omega
   clear e
   go_enter Tryz.func25, Tryz.ntmps25
   go_wp2_with fail;go_ret
   first | exact ⟨rfl, (Below.refl _ _).alloc (Nat.le_refl _) _⟩ | exact ⟨by simp; omega, (Below.refl _ _).alloc (Nat.le_refl _) _⟩
def largeC (c : Cf) : Bool := c.may && (decide (100 < c.b) || decide (100 < c.i))
theorem large_any (c : Cf) (w : World) : Calls Tryz.prog 9 #[c.val] w fun e w' => e = .returned (.bool (largeC c)) ∧ Below w.heap.size w w' := by
 have MY := Lib.hid (fun W => rmay37 c W);have HX := Lib.hid (SBox.new w 27 c.cells);have HB := Lib.hid ((Below.refl w.heap.size w).alloc (Nat.le_refl _) (.cells c.cells 27));unfold Cf.val at MY ⊢;unfold Cf.cells at HX HB
 go_enter Tryz.func9, Tryz.ntmps9
 go_wp2_with fail;refine (MY.out _).mono ?_;rintro e w5 ⟨rfl, b5⟩;have x0 := HX.out.later b5;have X0 := x0.cell 0;have X1 := x0.cell 1;have X2 := x0.cell 2;have X3 := x0.cell 3;have X4 := x0.cell 4;have X5 := x0.cell 5;simp only [List.getElem?_toArray, List.getElem?_cons_zero, List.getElem?_cons_succ] at X0 X1 X2 X3 X4 X5;have Xl := x0.lt;have BW := Lib.hid (HB.out.trans (b5.mono HB.out.size));clear x0 b5;cases hm : c.may with
 | false =>
   go_wp2_with fail;go_ret;exact ⟨by simp [largeC, hm], BW.out⟩
 | true =>
   by_cases h1 : 100 < c.b
   · have t1 : decide (100 < c.b) = true := decide_eq_true h1
     go_wp2_with fail;go_ret;exact ⟨by simp [largeC, hm, h1], BW.out⟩
   · have t1 : decide (100 < c.b) = false := decide_eq_false h1
     by_cases h2 : 100 < c.i
     · go_wp2_with fail
       go_ret;exact ⟨by simp [largeC, hm, h1, h2], BW.out⟩
     · go_wp2_with fail
       go_ret;exact ⟨by simp [largeC, hm]; omega, BW.out⟩
theorem blanks_any (s : ByteArray) (hs : s.size ≤ 200000) (w : World) : Calls Tryz.prog 17 #[.string s] w fun e w' => e = .returned (.int .i64 (blankN (L s) : Nat)) ∧ w = w' := by
 have hLs := len_L s
 go_enter Tryz.func17, Tryz.ntmps17
 go_wp2_with fail
 go_loopw [3, 4] (fun n i wr => ∃ k m : Nat, k ≤ s.size ∧ i = .int .i64 k ∧ n = .int .i64 m ∧ m ≤ k ∧ m + blankN ((L s).drop k) = blankN (L s) ∧ wr = w) (fun _ i _ => s.size - (intOf i).toNat)
 case atStart => exact ⟨0, 0, by omega, rfl, rfl, Nat.le_refl _, by simp, rfl⟩
 case round =>
   obtain ⟨k, m, hk, rfl, rfl, hmk, hd, rfl⟩ := hrel
   by_cases hlt : k < s.size
   · have t1 : (k : Int) < s.size := by omega
     have hdr : (L s).drop k = s[k] :: (L s).drop (k + 1) := drop_get s k hlt;have w1 : IntKind.i64.wrap ((k : Int) + 1) = ((k + 1 : Nat) : Int) := by rw [IntWalk.i64_in _ (by omega)]; omega
     have w2 : IntKind.i64.wrap ((m : Int) + 1) = ((m + 1 : Nat) : Int) := by rw [IntWalk.i64_in _ (by omega)]; omega
     rw [hdr] at hd;unfold blankN at hd;rw [List.countP_cons] at hd
     by_cases h32 : s[k] = 32
     · have g2 : ((s[k].toNat : Int) == 32) = true := by rw [h32]; rfl
       rw [if_pos (by simp [isB, h32])] at hd;have HD := Lib.hid hd;clear hd hdr h32;go_wp2_with fail;exact ⟨⟨k + 1, m + 1, by omega, by go_num, by go_num, by omega, by have := HD.out; unfold blankN; omega, trivial⟩, by simp [intOf]; omega⟩
     · have g2 : ((s[k].toNat : Int) == 32) = false := by
         apply beq_eq_false_iff_ne.mpr
         intro e;exact h32 (UInt8.toNat_inj.mp (by show s[k].toNat = 32; omega))
       rw [if_neg (by simp [isB, h32])] at hd;have HD := Lib.hid hd;clear hd hdr h32;go_wp2_with fail;exact ⟨⟨k + 1, m, by omega, by go_num, rfl, by omega, by have := HD.out; unfold blankN; omega, trivial⟩, by simp [intOf]; omega⟩
   · have e : k = s.size := by omega
     subst e;have t1 : ¬ (s.size : Int) < s.size := by omega
     have hz : blankN ((L s).drop s.size) = 0 := by rw [List.drop_of_length_le (by omega)]; rfl
     go_wp2_with fail;go_ret;exact ⟨by rw [← hd, hz]; rfl, rfl⟩
end Go.Proofs.YtkljcgopikdjjaaGreatDoor.Tx
end
section
namespace Go.Proofs.YtkljcgopikdjjaaGreatDoor.Tx
set_option maxRecDepth 100000
set_option maxHeartbeats 2000000
open Go.RowKit Go.Shelf Go.Maps Oct
def bigM (l : List M) : Bool := decide (150 < l.length) || l.any longM
theorem any_drop {l : List M} {i : Nat} {x : M} (h : l[i]? = some x) : (l.drop i).any longM = (longM x || (l.drop (i + 1)).any longM) := by
 obtain ⟨hi, rfl⟩ := List.getElem?_eq_some_iff.1 h;rw [List.drop_eq_getElem_cons hi, List.any_cons]
theorem big_any (l : List M) (hw : ∀ x ∈ l, x.Wide) (p : Option Addr) (g o cap : Nat) (w : World) (hl : LM w p g o l) : Calls Tryz.prog 8 #[.slice p l.length cap] w fun e w' => e = .returned (.bool (bigM l)) ∧ Below w.heap.size w w' := by
 have HL := Lib.hid hl;clear hl
 by_cases h150 : 150 < l.length
 · have e : bigM l = true := by unfold bigM; simp [h150]
   rw [e];have t1 : (150 : Int) < l.length := by omega
   go_enter Tryz.func8, Tryz.ntmps8
   go_wp2_with fail;go_ret;exact ⟨rfl, Below.refl _ _⟩
 · have t1 : ¬ (150 : Int) < l.length := by omega
   have eb : bigM l = l.any longM := by unfold bigM; simp [h150]
   rw [eb];clear eb;obtain ⟨n, hn⟩ : ∃ n, l.length = n := ⟨_, rfl⟩;have HN := Lib.hid hn;rw [hn] at t1 h150 ⊢;clear hn;have hn150 : n ≤ 150 := by omega
   go_enter Tryz.func8, Tryz.ntmps8
   go_wp2_with fail
   go_loopw [3] (fun s3 wr => ∃ i : Nat, i ≤ n ∧ s3 = .int .i64 i ∧ l.any longM = (l.drop i).any longM ∧ Below w.heap.size w wr) (fun s3 _ => n - (intOf s3).toNat)
   case atStart => exact ⟨0, Nat.zero_le _, rfl, rfl, Below.refl _ _⟩
   case round =>
     obtain ⟨i, hi, rfl, hd, hB⟩ := hrel;have BW := Lib.hid hB;have HD := Lib.hid hd;clear hB hd
     rcases Nat.lt_or_ge i n with hlt | hge
     · have hli : (i : Int) < n := by omega
       obtain ⟨x, hx⟩ : ∃ x, l[i]? = some x := ⟨_, List.getElem?_eq_getElem (by rw [HN.out]; exact hlt)⟩;have hwx := hw x (List.mem_of_getElem? hx);have LG := Lib.hid (fun W => long_any x hwx W);obtain ⟨rfl, hgl, A⟩ := (HL.out.later BW.out).get hx;have hall := any_drop hx;have z4 := size_B x.t;have w1 : IntKind.i64.wrap ((i : Int) + 1) = ((i + 1 : Nat) : Int) := by rw [IntWalk.i64_in _ (by omega)]; omega
       obtain ⟨a0, a1, a2, a3, a4, a5, a6, a7, a8, a9, a10, a11⟩ := A;clear hx;have A11 := Lib.hid (HL.out);cases hlc : longC x with
       | true =>
         rw [hlc] at LG;have e : l.any longM = true := by rw [HD.out, hall]; simp [longM, hlc]
         have EQ := Lib.hid e;clear hall hlc e;go_wp2_with fail;refine (LG.out _).mono ?_;rintro e w5 ⟨rfl, b5⟩;have BW5 := Lib.hid (BW.out.trans (b5.mono BW.out.size));clear b5;go_wp2_with fail;go_ret;exact ⟨by rw [EQ.out]; rfl, BW5.out⟩
       | false =>
         rw [hlc] at LG
         by_cases ht : 1024 < x.t.length
         · have e : l.any longM = true := by rw [HD.out, hall]; simp [longM, hlc, ht]
           have EQ := Lib.hid e;have t2 : decide ((1024 : Int) < (B x.t).size) = true := decide_eq_true (by omega);have t3 : (1024 : Int) < (B x.t).size := by omega
           clear hall hlc e;go_wp2_with fail;refine (LG.out _).mono ?_;rintro e w5 ⟨rfl, b5⟩;have BW5 := Lib.hid (BW.out.trans (b5.mono BW.out.size));have f11 := (cells_blk (b5.block _ hgl) (o + i * 12 + 11)).trans a11;have hgl5 := Nat.lt_of_lt_of_le hgl b5.size;clear b5;go_wp2_with fail;go_ret;exact ⟨by rw [EQ.out]; rfl, BW5.out⟩
         · have e : l.any longM = (l.drop (i + 1)).any longM := by rw [HD.out, hall]; simp [longM, hlc, ht]
           have HE := Lib.hid e;have t2 : decide ((1024 : Int) < (B x.t).size) = false := decide_eq_false (by omega);have t3 : ¬ (1024 : Int) < (B x.t).size := by omega
           clear hall hlc e;go_wp2_with fail;refine (LG.out _).mono ?_;rintro e w5 ⟨rfl, b5⟩;have BW5 := Lib.hid (BW.out.trans (b5.mono BW.out.size));have f11 := (cells_blk (b5.block _ hgl) (o + i * 12 + 11)).trans a11;have hgl5 := Nat.lt_of_lt_of_le hgl b5.size;clear b5;go_wp2_with fail;exact ⟨⟨i + 1, by omega, by go_num, HE.out, BW5.out⟩, by simp [intOf]; omega⟩
     · have e : i = n := by omega
       subst e;have t2 : ¬ (i : Int) < i := by omega
       have hz : l.any longM = false := by rw [HD.out, List.drop_of_length_le (by rw [HN.out]; omega)]; rfl
       have EQ := Lib.hid hz;clear hz;go_wp2_with fail;go_ret;exact ⟨by rw [EQ.out]; rfl, BW.out⟩
theorem same_ok (wz : World) (xs : List M) (p1 p2 : Option Addr) (g1 o1 g2 o2 c1 c2 : Nat) (h1 : LM wz p1 g1 o1 xs) (h2 : LM wz p2 g2 o2 xs) (hlen : xs.length ≤ 300000) :
   Calls Tryz.prog 22 #[.slice p1 xs.length c1, .slice p2 xs.length c2] wz fun e w' => e = .returned (.bool true) ∧ Below wz.heap.size wz w' := by
 have H1 := Lib.hid h1;have H2 := Lib.hid h2;have HL := Lib.hid hlen;obtain ⟨n, hn⟩ : ∃ n, xs.length = n := ⟨_, rfl⟩;rw [hn] at HL ⊢;have HN := Lib.hid hn;clear h1 h2 hlen hn
 go_enter Tryz.func22, Tryz.ntmps22
 go_wp2_with fail
 go_loopw [5] (fun s5 wr => ∃ i : Nat, i ≤ n ∧ s5 = .int .i64 i ∧ Below wz.heap.size wz wr) (fun s5 _ => n - (intOf s5).toNat)
 case atStart => exact ⟨0, Nat.zero_le _, rfl, Below.refl _ _⟩
 case round =>
   obtain ⟨i, hi, rfl, hB⟩ := hrel;have BW := Lib.hid hB;clear hB;have hl100 := HL.out
   rcases Nat.lt_or_ge i n with hlt | hge
   · have hli : (i : Int) < n := by omega
     obtain ⟨x, hx⟩ : ∃ x, xs[i]? = some x := ⟨_, List.getElem?_eq_getElem (by rw [HN.out]; exact hlt)⟩;obtain ⟨rfl, l1, A⟩ := (H1.out.later BW.out).get hx;obtain ⟨rfl, l2, D⟩ := (H2.out.later BW.out).get hx;have HX := Lib.hid hx;clear hx;obtain ⟨a0, a1, a2, a3, a4, a5, a6, a7, a8, a9, a10, a11⟩ := A;obtain ⟨d0, d1, d2, d3, d4, d5, d6, d7, d8, d9, d10, d11⟩ := D;go_wp2_with fail
     go_quiet (fail)
     go_wp2_with fail;go_roundw
     case rel => exact ⟨i + 1, by omega, by go_num, BW.out.trans ((below_drewN _ _).mono BW.out.size)⟩
     case measure => simp [intOf]; omega
   · have e : i = n := by omega
     subst e;go_wp2_with fail;go_ret;exact ⟨rfl, BW.out⟩
end Go.Proofs.YtkljcgopikdjjaaGreatDoor.Tx
end
section
namespace Go.Proofs.YtkljcgopikdjjaaGreatDoor.Tx
open Go.ChangeShapes Go.WideShapes Go.Deep Go.RowKit Go.ChangeAt
open Oct
set_option maxRecDepth 100000
theorem cells_cmd : Tryz.prog.cellsOf 40 = 12 := by kernel_rfl
theorem cells_conf : Tryz.prog.cellsOf 27 = 6 := by kernel_rfl
theorem l12 {α : Type} {l : List α} (h : l.length = 12) : ∃ c0 c1 c2 c3 c4 c5 c6 c7 c8 c9 c10 c11, l = [c0, c1, c2, c3, c4, c5, c6, c7, c8, c9, c10, c11] := by
 match l, h with
 | [c0, c1, c2, c3, c4, c5, c6, c7, c8, c9, c10, c11], _ => exact ⟨c0, c1, c2, c3, c4, c5, c6, c7, c8, c9, c10, c11, rfl⟩
theorem l7 {α : Type} {l : List α} (h : l.length = 7) : ∃ y0 y1 y2 y3 y4 y5 y6, l = [y0, y1, y2, y3, y4, y5, y6] := by
 match l, h with
 | [y0, y1, y2, y3, y4, y5, y6], _ => exact ⟨y0, y1, y2, y3, y4, y5, y6, rfl⟩
theorem l6 {α : Type} {l : List α} (h : l.length = 6) : ∃ y0 y1 y2 y3 y4 y5, l = [y0, y1, y2, y3, y4, y5] := by
 match l, h with
 | [y0, y1, y2, y3, y4, y5], _ => exact ⟨y0, y1, y2, y3, y4, y5, rfl⟩
theorem l3 {α : Type} {l : List α} (h : l.length = 3) : ∃ y0 y1 y2, l = [y0, y1, y2] := by
 match l, h with
 | [y0, y1, y2], _ => exact ⟨y0, y1, y2, rfl⟩
theorem l2 {α : Type} {l : List α} (h : l.length = 2) : ∃ y0 y1, l = [y0, y1] := by
 match l, h with
 | [y0, y1], _ => exact ⟨y0, y1, rfl⟩
section
variable {H : Type} {enc : TypeId × Value → H} {W : World} {base : Nat} {sp : Nat → Bool} {held : Bool}
theorem nat_of {fuel : Nat} {t : TypeId} {k : IntKind} {c : Value} {x : DataW H × List MemPlace} (ht : Tryz.prog.underlying t = some (.int k)) (h : DataW.trod enc Tryz.prog W base sp held fuel t [c] = some x) (h0 : k.min = 0) : ∃ m : Nat, c = .int k m ∧ (m : Int) ≤ k.max := by
 obtain ⟨n, e, _, hw⟩ := DataW.trod_int ht h;simp only [List.cons.injEq, and_true] at e;simp only [Lit.wf, Bool.and_eq_true, decide_eq_true_eq] at hw;rw [h0] at hw;obtain ⟨m, rfl⟩ := Int.eq_ofNat_of_zero_le hw.1;exact ⟨m, e, hw.2⟩
theorem int_of {fuel : Nat} {c : Value} {x : DataW H × List MemPlace} (h : DataW.trod enc Tryz.prog W base sp held fuel 3 [c] = some x) : ∃ n : Int, c = .int .i64 n ∧ -9223372036854775808 ≤ n ∧ n ≤ 9223372036854775807 := by
 obtain ⟨n, e, _, hw⟩ := DataW.trod_int Tryz.underlying3 h;simp only [List.cons.injEq, and_true] at e;simp only [Lit.wf, Bool.and_eq_true, decide_eq_true_eq] at hw;have k1 : IntKind.min .i64 = -9223372036854775808 := rfl;have k2 : IntKind.max .i64 = 9223372036854775807 := rfl;rw [k1, k2] at hw;exact ⟨n, e, hw.1, hw.2⟩
theorem str_of {fuel : Nat} {c : Value} {x : DataW H × List MemPlace} (h : DataW.trod enc Tryz.prog W base sp held fuel 9 [c] = some x) : ∃ l : List UInt8, c = .string (B l) ∧ x.1 = .lit (.string l) := by
 obtain ⟨s, e, rfl, _⟩ := DataW.trod_string Tryz.underlying9 h;simp only [List.cons.injEq, and_true] at e;exact ⟨L s, by rw [e, B_L], rfl⟩
def M.fits (x : M) (ws : List Nat) : Prop := x.p.length ∈ ws ∧ x.p2.length ∈ ws ∧ x.da.length ∈ ws ∧ x.t.length ∈ ws
theorem open_cells {fuel : Nat} {cs : List Value} {y : DataW H × List MemPlace} (h : DataW.trod enc Tryz.prog W base sp held fuel 40 cs = some y) :
   ∃ x : M, cs = x.cells.toList ∧ x.k < 256 ∧ x.In ∧ x.fits (y.1.weights Tryz.prog 40) := by
 obtain ⟨xs, n, _, rfl, hl, hxl, hg⟩ := DataW.trod_struct Tryz.underlying40 h;obtain ⟨c0, c1, c2, c3, c4, c5, c6, c7, c8, c9, c10, c11, rfl⟩ := l12 (hl.trans cells_cmd);obtain ⟨y0, y1, y2, y3, y4, y5, rfl⟩ := l6 (hxl.trans rfl);have g0 : DataW.trod enc Tryz.prog W base sp held n 5 [c0] = some y0 := hg 0 _ rfl;have g1 : DataW.trod enc Tryz.prog W base sp held n 3 [c1] = some y1 := hg 1 _ rfl;have g2 : DataW.trod enc Tryz.prog W base sp held n 3 [c2] = some y2 := hg 2 _ rfl;have g3 : DataW.trod enc Tryz.prog W base sp held n 36 [c3] = some y3 := hg 3 _ rfl;have g4 : DataW.trod enc Tryz.prog W base sp held n 38 [c4, c5, c6, c7, c8, c9, c10] = some y4 := hg 4 _ rfl;have g5 : DataW.trod enc Tryz.prog W base sp held n 9 [c11] = some y5 := hg 5 _ rfl;obtain ⟨zs, n2, _, rfl, _, hzl, hz⟩ := DataW.trod_struct Tryz.underlying38 g4;obtain ⟨z0, z1, z2, z3, z4, z5, z6, rfl⟩ := l7 (hzl.trans rfl);have k0 : DataW.trod enc Tryz.prog W base sp held n2 5 [c4] = some z0 := hz 0 _ rfl;have k1 : DataW.trod enc Tryz.prog W base sp held n2 9 [c5] = some z1 := hz 1 _ rfl;have k2 : DataW.trod enc Tryz.prog W base sp held n2 9 [c6] = some z2 := hz 2 _ rfl;have k3 : DataW.trod enc Tryz.prog W base sp held n2 3 [c7] = some z3 := hz 3 _ rfl;have k4 : DataW.trod enc Tryz.prog W base sp held n2 3 [c8] = some z4 := hz 4 _ rfl;have k5 : DataW.trod enc Tryz.prog W base sp held n2 36 [c9] = some z5 := hz 5 _ rfl;have k6 : DataW.trod enc Tryz.prog W base sp held n2 9 [c10] = some z6 := hz 6 _ rfl;obtain ⟨m0, rfl, b0⟩ := nat_of Tryz.underlying5 g0 rfl;obtain ⟨m1, rfl, b1, b1'⟩ := int_of g1;obtain ⟨m2, rfl, b2, b2'⟩ := int_of g2;obtain ⟨m3, rfl, b3⟩ := nat_of Tryz.underlying36 g3 rfl;obtain ⟨m4, rfl, b4⟩ := nat_of Tryz.underlying5 k0 rfl;obtain ⟨s5, rfl, e5⟩ := str_of k1;obtain ⟨s6, rfl, e6⟩ := str_of k2;obtain ⟨m7, rfl, b7, b7'⟩ := int_of k3;obtain ⟨m8, rfl, b8, b8'⟩ := int_of k4;obtain ⟨m9, rfl, b9⟩ := nat_of Tryz.underlying36 k5 rfl;obtain ⟨s10, rfl, e10⟩ := str_of k6;obtain ⟨s11, rfl, e11⟩ := str_of g5;have q1 : IntKind.max .u8 = 255 := rfl;have q2 : IntKind.max .u32 = 4294967295 := rfl;rw [q1] at b0 b4;rw [q2] at b3 b9;refine ⟨⟨m0, m1, m2, m3, m4, s5, s6, m7, m8, m9, s10, s11⟩, rfl, by simp only; omega, ⟨b1, b1', b2, b2', by simp only; omega, by simp only; omega, b7, b7', b8, b8', by simp only; omega⟩, ?_⟩;obtain ⟨d1, p1⟩ := z1;obtain ⟨d2, p2⟩ := z2;obtain ⟨d6, p6⟩ := z6;obtain ⟨d5, p5⟩ := y5;simp only at e5 e6 e10 e11;subst e5 e6 e10 e11;unfold M.fits;simp only [DataW.weights, Tryz.underlying40]
 simp [DataW.weights, DataW.weightsEach, Tryz.underlying38]
theorem M.fits.wide {x : M} {ws : List Nat} (h : x.fits ws) (hw : ∀ n ∈ ws, n ≤ 140737488351232) : x.Wide := ⟨hw _ h.1, hw _ h.2.1, hw _ h.2.2.1, hw _ h.2.2.2⟩
theorem open_cmd {r : Reach} {b0 : Nat} {v : Value} {d : DataW H} {p : List MemPlace} {ds : List (DataW H)} {ts : List TypeId} {j : Nat}
   (hv : Value.okWide Tryz.prog W r b0 40 v) (h : DataW.Trod enc Tryz.prog W base sp held 40 v d p)
   (hsz : (DataW.weightsEach Tryz.prog ts ds).all (· ≤ reachBytes) = true) (ht : ts[j]? = some 40) (hd : ds[j]? = some d) :
   ∃ x : M, v = x.val ∧ x.k < 256 ∧ x.In ∧ x.Wide := by
 obtain ⟨cs, rfl, hcs⟩ := okWide_struct Tryz.underlying40 hv;obtain ⟨fuel, hf⟩ := h;obtain ⟨x, e, h1, h2, h3⟩ := open_cells hf;refine ⟨x, ?_, h1, h2, h3.wide fun n hn => ?_⟩
 · have e : cs.toList = x.cells.toList := e
   unfold M.val;rw [Array.toList_inj.1 e]
 · have := List.all_eq_true.1 hsz _ (DataW.weights_mem_each ht hd _ hn)
   have := of_decide_eq_true this
   simpa [reachBytes] using this
theorem open_conf {r : Reach} {b0 : Nat} {v : Value} {d : DataW H} {p : List MemPlace}
   (hv : Value.okWide Tryz.prog W r b0 27 v) (h : DataW.Trod enc Tryz.prog W base sp held 27 v d p) : ∃ c : Cf, v = c.val ∧ c.In := by
 obtain ⟨cs, rfl, hcs⟩ := okWide_struct Tryz.underlying27 hv;obtain ⟨l⟩ := cs;obtain ⟨fuel, hf⟩ := h;have hf : DataW.trod enc Tryz.prog W base sp held fuel 27 l = some (d, p) := hf;obtain ⟨xs, n, _, _, hl, hxl, hg⟩ := DataW.trod_struct Tryz.underlying27 hf;obtain ⟨c0, c1, c2, c3, c4, c5, rfl⟩ := l6 (hl.trans cells_conf);obtain ⟨y0, y1, rfl⟩ := l2 (hxl.trans rfl);have g0 : DataW.trod enc Tryz.prog W base sp held n 23 [c0, c1, c2] = some y0 := hg 0 _ rfl;have g1 : DataW.trod enc Tryz.prog W base sp held n 25 [c3, c4, c5] = some y1 := hg 1 _ rfl;obtain ⟨zs, n2, _, _, _, hzl, hz⟩ := DataW.trod_struct Tryz.underlying23 g0;obtain ⟨z0, z1, z2, rfl⟩ := l3 (hzl.trans rfl);obtain ⟨us, n3, _, _, _, hul, hu⟩ := DataW.trod_struct Tryz.underlying25 g1;obtain ⟨u0, u1, u2, rfl⟩ := l3 (hul.trans rfl);have k0 : DataW.trod enc Tryz.prog W base sp held n2 3 [c0] = some z0 := hz 0 _ rfl;have k1 : DataW.trod enc Tryz.prog W base sp held n2 3 [c1] = some z1 := hz 1 _ rfl;have k2 : DataW.trod enc Tryz.prog W base sp held n2 3 [c2] = some z2 := hz 2 _ rfl;have k3 : DataW.trod enc Tryz.prog W base sp held n3 3 [c3] = some u0 := hu 0 _ rfl;have k4 : DataW.trod enc Tryz.prog W base sp held n3 3 [c4] = some u1 := hu 1 _ rfl;have k5 : DataW.trod enc Tryz.prog W base sp held n3 3 [c5] = some u2 := hu 2 _ rfl;obtain ⟨m0, rfl, b0⟩ := int_of k0;obtain ⟨m1, rfl, b1⟩ := int_of k1;obtain ⟨m2, rfl, b2⟩ := int_of k2;obtain ⟨m3, rfl, b3⟩ := int_of k3;obtain ⟨m4, rfl, b4⟩ := int_of k4;obtain ⟨m5, rfl, b5⟩ := int_of k5;refine ⟨⟨m0, m1, m2, m3, m4, m5⟩, rfl, fun k => ?_⟩
 match k with
 | 0 => exact b0
 | 1 => exact b1
 | 2 => exact b2
 | 3 => exact b3
 | 4 => exact b4
 | k + 5 => exact b5
theorem mem_weightsAll {P : Program} {e : TypeId} {x : DataW H} {k : Nat} : ∀ {es : List (DataW H)}, x ∈ es → k ∈ x.weights P e → k ∈ DataW.weightsAll P e es
 | y :: r, h, hk => by
   show k ∈ DataW.weights P e y ++ DataW.weightsAll P e r
   rcases List.mem_cons.1 h with h1 | h1
   · subst h1; exact List.mem_append_left _ hk
   · exact List.mem_append_right _ (mem_weightsAll h1 hk)
theorem block_of_cell {W : World} {a : Addr} {v : Value} (h : W.cell? a = some v) : a.block < W.heap.size ∧ a.spot = none := by
 unfold World.cell? at h
 split at h
 · rename_i hh
   refine ⟨(Array.getElem?_eq_some_iff.1 hh).1, ?_⟩;cases hs : a.spot with
   | none => rfl
   | some z => simp [hs] at h
 · cases h
theorem open_cmds {p : List MemPlace} {d : DataW H} {ds : List (DataW H)} {ts : List TypeId} {j : Nat} {a : Option Addr} {len cap : Nat}
   (h : DataW.Trod enc Tryz.prog W 0 (fun _ => true) true 28 (.slice a len cap) d p)
   (hsz : (DataW.weightsEach Tryz.prog ts ds).all (· ≤ reachBytes) = true) (ht : ts[j]? = some 28) (hd : ds[j]? = some d) :
   ∃ (l : List M) (g o : Nat), l.length = len ∧ LM W a g o l ∧ (a = none → cap = 0) ∧ (∀ x ∈ l, x.Wide) ∧ ∀ x ∈ l, x.In ∧ x.k < 256 := by
 obtain ⟨fuel, hf⟩ := h
 rcases open_slice Tryz.underlying28 hf with ⟨hcs, _⟩ | ⟨x, l, c, m, n, D, Pl, hcs, hb, hl, hm, hmm, hx, hi⟩
 · simp [Value.cells] at hcs
   obtain ⟨rfl, rfl, rfl⟩ := hcs;exact ⟨[], 0, 0, rfl, LM.nil _ _ _ _, (fun _ => rfl), (fun x h => by cases h), (fun x h => by cases h)⟩
 · simp [Value.cells] at hcs
   obtain ⟨rfl, rfl, rfl⟩ := hcs;simp only [if_true] at hmm;subst hmm
   have key : ∀ i, ∃ s : M, i < len → (∀ (k : Nat) (v : Value), s.cells.toList[k]? = some v → W.cell? (x.add (i * 12 + k)) = some v) ∧ s.fits ((D i).weights Tryz.prog 40) ∧ s.In ∧ s.k < 256 := fun i => by
     by_cases hil : i < len
     · obtain ⟨cs', hc, ht'⟩ := hi i (by omega)
       rw [cells_cmd] at hc;obtain ⟨_, hcl, hat⟩ := World.cells?_some hc;obtain ⟨s, rfl, b1, b2, b3⟩ := open_cells ht';refine ⟨s, fun _ => ⟨fun k v hk => ?_, b3, b2, b1⟩⟩;have hk12 : k < 12 := (List.getElem?_eq_some_iff.1 hk).1;have a0 := hat k hk12;rw [Go.Deep.add_add, hk] at a0;exact a0
     · exact ⟨M.zero, fun h => absurd h hil⟩
   obtain ⟨f, hF⟩ := Classical.axiomOfChoice key;obtain ⟨rfl, _⟩ := Prod.mk.inj hx;have hel : ((List.range len).map f).length = len := by simp
   have hfits : ∀ y ∈ (List.range len).map f, y.Wide := by
     intro y hy;obtain ⟨q, hq, rfl⟩ := List.mem_map.1 hy;obtain ⟨_, hw, _, _⟩ := hF q (List.mem_range.1 hq);refine hw.wide fun n hn => ?_
     have hmem : n ∈ (DataW.slice (List.map D (List.range len)) (List.map (fun j => D (len + j)) (List.range (m - len)))).weights Tryz.prog 28 := by
       simp only [DataW.weights, Tryz.underlying28];exact List.mem_cons_of_mem _ (List.mem_append_left _ (mem_weightsAll (List.mem_map_of_mem hq) hn))
     have := List.all_eq_true.1 hsz _ (DataW.weights_mem_each ht hd _ hmem);have := of_decide_eq_true this
     simpa [reachBytes] using this
   have hins : ∀ y ∈ (List.range len).map f, y.In ∧ y.k < 256 := by
     intro y hy;obtain ⟨q, hq, rfl⟩ := List.mem_map.1 hy;obtain ⟨_, _, h1, h2⟩ := hF q (List.mem_range.1 hq);exact ⟨h1, h2⟩
   by_cases h0 : len = 0
   · subst h0
     exact ⟨[], 0, 0, rfl, LM.nil _ _ _ _, (fun h => by cases h), (fun x h => by cases h), (fun x h => by cases h)⟩
   · have c0 := (hF 0 (by omega)).1 0 _ rfl
     obtain ⟨b, off, spot⟩ := x;have e0 : (⟨b, off, spot⟩ : Addr).add (0 * 12 + 0) = ⟨b, off, spot⟩ := by unfold Addr.add; rw [if_pos rfl]
     rw [e0] at c0;have hb2 := block_of_cell c0;obtain ⟨hb1, hs⟩ := hb2;simp only at hb1 hs;subst hs;have ea : ∀ k, (⟨b, off, none⟩ : Addr).add k = ⟨b, off + k, none⟩ := fun k => by unfold Addr.add; split <;> simp_all
     refine ⟨(List.range len).map f, b, off, hel, fun _ => ⟨rfl, hb1, fun i y hy => ?_⟩, (fun h => by cases h), hfits, hins⟩;have hil : i < len := by have := (List.getElem?_eq_some_iff.1 hy).1; omega
     simp only [List.getElem?_map, List.getElem?_range hil, Option.map_some, Option.some.injEq] at hy;subst hy
     have key2 : ∀ k v, (f i).cells.toList[k]? = some v → W.cell? ⟨b, off + i * 12 + k, none⟩ = some v := fun k v hk => by
       have h3 := (hF i hil).1 k v hk;rw [ea] at h3;rw [Nat.add_assoc];exact h3
     exact ⟨by simpa using key2 0 _ rfl, key2 1 _ rfl, key2 2 _ rfl, key2 3 _ rfl, key2 4 _ rfl, key2 5 _ rfl, key2 6 _ rfl, key2 7 _ rfl, key2 8 _ rfl, key2 9 _ rfl, key2 10 _ rfl, key2 11 _ rfl⟩
end
end Go.Proofs.YtkljcgopikdjjaaGreatDoor.Tx
end
section
namespace Go.Proofs.YtkljcgopikdjjaaGreatDoor.Tx
open Go.Joins Go.ChangeShapes Go.WideShapes Go.ChangeAt Go.RowKit Go.Deep
open Oct
open _root_.Go.Proofs.YtkljcgopikdjjaaGreatDoor.Call (wordN hasN)
set_option maxRecDepth 100000
theorem own : ownKnob Tryz.prog.godebug = none := by kernel_rfl
theorem gKinds : Tryz.prog.globalNamed "lunette/call.kinds" = some 0 := by kernel_rfl
theorem gKindsType : (Tryz.prog.globals[0]?).map (·.type) = some 217 := by kernel_rfl
theorem cellsTab : Tryz.prog.cellsOf 217 = 32 := by kernel_rfl
theorem cellsKind : Tryz.prog.cellsOf 216 = 2 := by kernel_rfl
theorem cellsStr : Tryz.prog.cellsOf 9 = 1 := by kernel_rfl
theorem cellsInt : Tryz.prog.cellsOf 3 = 1 := by kernel_rfl
def kindD {H : Type} (d : Nat) : DataW H := .agg [.lit (.string (wordN d)), .lit (.int .i64 (hasN d))]
theorem laid_is {H : Type} : (Rows.laid_lunette_call_kinds : DataW H) = .agg ((List.range 16).map kindD) := rfl
theorem cells_of_kinds {H : Type} {enc : TypeId × Value → H} {W : World} {base : Nat} {sp : Nat → Bool} {held : Bool} {fuel : Nat} {cs : List Value} {p : List MemPlace}
   (h : DataW.trod enc Tryz.prog W base sp held fuel 217 cs = some (Rows.laid_lunette_call_kinds, p)) (d : Nat) (hd : d < 16) : cs[d * 2]? = some (.string (B (wordN d))) ∧ cs[d * 2 + 1]? = some (.int .i64 (hasN d)) := by
 rw [laid_is] at h;cases fuel with
 | zero => simp [DataW.trod] at h
 | succ fuel =>
   simp only [DataW.trod, Tryz.underlying217, cellsKind, cellsTab] at h
   split at h
   · rename_i hl
     obtain ⟨xs, hm, hx⟩ := Option.map_eq_some_iff.1 h
     have hxs : xs.map (·.1) = (List.range 16).map (kindD (H := H)) := by
       have := congrArg Prod.fst hx
       simpa using this
     obtain ⟨b, hb, hf⟩ := Lib.mapM_at hm d d (by simp [hd])
     have hbd : b.1 = kindD d := by
       have h2 : (xs.map (·.1))[d]? = some b.1 := by simp [hb]
       rw [hxs] at h2
       simp [hd] at h2
       exact h2.symm
     obtain ⟨y0, y1, n, rfl, _, t0, t1⟩ := trod_struct2 Tryz.underlying216 hf;simp only [cellsStr, cellsInt] at t0 t1;obtain ⟨s, e0, rfl, _⟩ := DataW.trod_string Tryz.underlying9 t0;obtain ⟨z, e1, rfl, _⟩ := DataW.trod_int Tryz.underlying3 t1;simp only [kindD, DataW.agg.injEq, List.cons.injEq, DataW.lit.injEq, Lit.string.injEq, Lit.int.injEq, true_and, and_true] at hbd;obtain ⟨hs, rfl⟩ := hbd;have es : s = B (wordN d) := L_inj (by rw [L_B]; exact hs);subst es
     constructor
     · have := congrArg (·[0]?) e0
       simpa [List.getElem?_take, List.getElem?_drop] using this
     · have := congrArg (·[0]?) e1
       simpa [List.getElem?_take, List.getElem?_drop] using this
   · cases h
theorem kinds_of {W : World} {r : List (String × DataW Unit)} (h : laidMet Tryz.prog (("lunette/call.kinds", Rows.laid_lunette_call_kinds) :: r) W) : Call.Kinds W := by
 obtain ⟨ps, ⟨g', t', cs, fuel, p, q, hg', ht', hvar, hd, _, _⟩, _⟩ := h;obtain rfl := Option.some.inj (gKinds.symm.trans hg');obtain rfl := Option.some.inj (gKindsType.symm.trans ht');have hc := fun i => World.var?_cell gKinds hvar i
 have key : ∀ d, d < 16 → W.cell? ⟨0, d * 2, none⟩ = some (.string (B (wordN d))) ∧ W.cell? ⟨0, d * 2 + 1, none⟩ = some (.int .i64 (hasN d)) := fun d hd16 => by
   obtain ⟨k1, k2⟩ := cells_of_kinds hd d hd16;rw [hc, hc];exact ⟨by simpa using k1, by simpa using k2⟩
 exact ⟨World.block_lt_of_cell? _ _ (key 0 (by decide)).1, key⟩
theorem tailL {P : Program} {x : String × DataW Unit} {r : List (String × DataW Unit)} {w : World} (h : laidMet P (x :: r) w) : laidMet P r w := by
 obtain ⟨ps, hv, hnd, hrows⟩ := h;obtain ⟨n, d⟩ := x;obtain ⟨g, t, cs, fuel, p, q, _, _, _, _, hq, rfl⟩ := hv;exact ⟨q, hq, List.Nodup.sublist (List.sublist_append_right _ _) hnd, fun b off hm => hrows b off (List.mem_append_right _ hm)⟩
theorem gTabType : (Tryz.prog.globals[2]?).map (·.type) = some 260 := by kernel_rfl
theorem gEs : Tryz.prog.globalNamed "strconv.ErrSyntax" = some 3 := by kernel_rfl
theorem gEsType : (Tryz.prog.globals[3]?).map (·.type) = some 65 := by kernel_rfl
theorem gEr : Tryz.prog.globalNamed "strconv.ErrRange" = some 4 := by kernel_rfl
theorem gErType : (Tryz.prog.globals[4]?).map (·.type) = some 65 := by kernel_rfl
theorem iface_of {H : Type} {enc : TypeId × Value → H} {P : Program} {W : World} {base : Nat} {sp : Nat → Bool} {held : Bool} {fuel : Nat} {t : TypeId} {ms : Array (String × TypeId)} {cs : List Value} {nm : String} {d : DataW H} {p : List MemPlace}
   (ht : P.underlying t = some (.interface ms)) (h : DataW.trod enc P W base sp held fuel t cs = some (.iface nm d, p)) : ∃ u v, cs = [.iface u v] := by
 cases fuel with
 | zero => simp [DataW.trod] at h
 | succ fuel =>
   unfold DataW.trod at h;rw [ht] at h
   split at h <;> first | exact ⟨_, _, rfl⟩ | simp_all
theorem var_of {W : World} {n : String} {nm : String} {d : DataW Unit} {r : List (String × DataW Unit)} {g : Nat} {t : TypeId} {ms : Array (String × TypeId)} (hg : Tryz.prog.globalNamed n = some g) (hty : (Tryz.prog.globals[g]?).map (·.type) = some t) (ht : Tryz.prog.underlying t = some (.interface ms))
   (h : laidMet Tryz.prog ((n, .iface nm d) :: r) W) : ∃ tp p, W.var? Tryz.prog n = some #[.iface tp p] := by
 obtain ⟨ps, ⟨g', t', cs, fuel, p, q, hg', ht', hvar, hd, _, _⟩, _⟩ := h;obtain rfl := Option.some.inj (hg.symm.trans hg');obtain rfl := Option.some.inj (hty.symm.trans ht');obtain ⟨u, v, e⟩ := iface_of ht hd;obtain ⟨l⟩ := cs;have e : l = _ := e;subst e;exact ⟨u, v, hvar⟩
theorem lay_of {W : World} (h : laidMet Tryz.prog listed W) : Lay W := by
 have h0 : laidMet Tryz.prog (("lunette/call.kinds", Rows.laid_lunette_call_kinds) :: ("internal/strconv.uint64pow10", Lib.tabData .u64 Lib.pow10Tab) :: ("math/bits.deBruijn32tab", Rows.laid_math_bits_deBruijn32tab) :: ("math/bits.deBruijn64tab", Rows.laid_math_bits_deBruijn64tab) :: ("strconv.ErrSyntax", Rows.laid_strconv_ErrSyntax) :: [("strconv.ErrRange", Rows.laid_strconv_ErrRange)]) W := h;have h1 := tailL h0;have h2 := tailL h1;have h3 := tailL h2;have h4 := tailL h3;have h5 := tailL h4;exact ⟨kinds_of h0, Lib.tabIs_of_head gTab gTabType Tryz.underlying260 Tryz.underlying161 (by kernel_rfl) (by kernel_rfl) h1, var_of gEs gEsType Tryz.underlying65 h4, var_of gEr gErType Tryz.underlying65 h5⟩
def flat1 : DataW Unit → List Value
 | .lit (.int k n) => [.int k n]
 | .lit (.string l) => [.string ⟨l.toArray⟩]
 | _ => []
def flat2 : DataW Unit → List Value
 | .agg xs => xs.flatMap flat1
 | d => flat1 d
def flat3 : DataW Unit → List Value
 | .agg xs => xs.flatMap flat2
 | d => flat1 d
def strOf : DataW Unit → List Value
 | .iface _ (.ptr d) => flat2 d
 | _ => []
noncomputable def laidHeap (w : World) : Array Obj :=
 (((((((w.heap.modify 0 fun
     | .cells _ t frozen => .cells (flat3 Rows.laid_lunette_call_kinds).toArray t frozen
     | o => o).modify 2 fun
     | .cells _ t frozen => .cells (flat3 Rows.laid_internal_strconv_uint64pow10).toArray t frozen
     | o => o).modify 5 fun
     | .cells _ t frozen => .cells (flat3 Rows.laid_math_bits_deBruijn32tab).toArray t frozen
     | o => o).modify 6 fun
     | .cells _ t frozen => .cells (flat3 Rows.laid_math_bits_deBruijn64tab).toArray t frozen
     | o => o).modify 3 fun
     | .cells _ t frozen => .cells #[.iface 376 (.pointer (some ⟨w.heap.size, 0, none⟩))] t frozen
     | o => o).modify 4 fun
     | .cells _ t frozen => .cells #[.iface 376 (.pointer (some ⟨w.heap.size + 1, 0, none⟩))] t frozen
     | o => o).push (.cells (strOf Rows.laid_strconv_ErrSyntax).toArray 378)).push (.cells (strOf Rows.laid_strconv_ErrRange).toArray 378)
noncomputable def laidWorld (os : Os) : World :=
 { World.holding Tryz.prog os ⟨#[], #[], []⟩ with heap := laidHeap (World.holding Tryz.prog os ⟨#[], #[], []⟩) }
end Go.Proofs.YtkljcgopikdjjaaGreatDoor.Tx
end
