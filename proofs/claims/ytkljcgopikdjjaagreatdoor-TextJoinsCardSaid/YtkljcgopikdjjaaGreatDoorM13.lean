/- Layer 37, the document's answer: numbers, and a line's fields. -/
import Derived.Test.YtkljcgopikdjjaaGreatDoorM08
import Derived.Test.YtkljcgopikdjjaaGreatDoorM07
import Derived.WalkKit
import Derived.WalkSmall
import Derived.Test.YtkljcgopikdjjaaGreatDoorM03
import Derived.Deep.AppendLies
import Derived.BigQuiet
import Derived.Lib.BufferRead
import Derived.BigRegion
import Derived.Deep.RegionLawGrows
import Derived.Lib.ParseIntBTie
set_option linter.unusedVariables false
set_option linter.unusedSimpArgs false
set_option maxRecDepth 100000
section
namespace Go.Proofs.YtkljcgopikdjjaaGreatDoor.Tx
set_option maxRecDepth 100000
set_option maxHeartbeats 1000000
open Go.RowKit Go.Shelf Go.Maps Oct
def wrongE : Ending := .panicked [{ v := .iface 130 (.agg #[]), recovered := false }]
theorem must_yes (w : World) : Calls Tryz.prog 39 #[.bool true] w fun e w' => e = .returned (.tuple #[]) ∧ w = w' := by
 go_enter Tryz.func39, Tryz.ntmps39
 go_wp2
 go_end0;exact ⟨rfl, rfl⟩
theorem must_no (w : World) : Calls Tryz.prog 39 #[.bool false] w fun e w' => e = wrongE ∧ w = w' := by
 unfold wrongE
 go_enter Tryz.func39, Tryz.ntmps39
 go_wp2
 exact ⟨rfl, rfl, rfl⟩
def NumAns (l : List UInt8) (w : World) (e : Ending) (w' : World) : Prop :=
 (match numL l with | some v => e = .returned (.int .i64 v) | none => e = wrongE) ∧ Below w.heap.size w w'
theorem bytes_below (w : World) (t : TypeId) (s : ByteArray) : Below w.heap.size w (Lib.bytesWorld w t s) := by
 refine ⟨rfl, rfl, rfl, ?_, fun j hj => Lib.bytesWorld_at_old w t s j hj⟩;rw [Lib.bytesWorld_size]; omega
theorem atoi_any (s : ByteArray) (w : World) (hl : Lay w) (hs : s.size ≤ 100000) :
   Calls Tryz.prog 85 #[.string s] w fun e w' => ∃ v er, e = .returned (.tuple #[.int .i64 v, er]) ∧ (er = .nilIface ∧ Lib.atoiAll (L s) = .ok v ∨ (∃ p, er = .iface 233 (.pointer (some p))) ∧ numL (L s) = none) ∧ Below w.heap.size w w' := by
 cases h : Lib.atoiAll s.data.toList with
 | ok v =>
   refine (Tryz.strconv_Atoi_ok s (by omega) v h w).mono ?_;rintro e w' ⟨rfl, hw⟩;refine ⟨v, _, rfl, .inl ⟨rfl, h⟩, ?_⟩
   rcases hw with rfl | ⟨t, rfl⟩
   · exact Below.refl _ _
   · exact bytes_below w _ t
 | range =>
   obtain ⟨tp, p, hv⟩ := hl.er;refine (Tryz.strconv_Atoi_range_var s (by omega) h tp p w hv).mono ?_;rintro e w' ⟨N, rfl, h1, h2, h3⟩;exact ⟨_, _, rfl, .inr ⟨⟨_, rfl⟩, by unfold numL; rw [show Lib.atoiAll (L s) = _ from h]⟩, h3⟩
 | _ =>
   obtain ⟨tp, p, hv⟩ := hl.es;refine (Tryz.strconv_Atoi_syntax_var s (by omega) h tp p w hv).mono ?_;rintro e w' ⟨N, rfl, h1, h2, h3⟩;exact ⟨0, _, rfl, .inr ⟨⟨_, rfl⟩, by unfold numL; rw [show Lib.atoiAll (L s) = _ from h]⟩, h3⟩
theorem number_any (s : ByteArray) (w : World) (hl : Lay w) (hs : s.size ≤ 100000) : Calls Tryz.prog 41 #[.string s] w (NumAns (L s) w) := by
 have HL := Lib.hid hl;have HA := Lib.hid (atoi_any s w hl hs);have HM := Lib.hid must_yes;have HN := Lib.hid must_no;clear hl
 go_enter Tryz.func41, Tryz.ntmps41
 go_wp2_with fail;refine HA.out.mono ?_;rintro e w2 ⟨v, er, rfl, hr, hb⟩;have HB := Lib.hid hb;clear hb
 rcases hr with ⟨rfl, hok⟩ | ⟨⟨p, rfl⟩, hno⟩
 · have hin := atoi_in _ _ hok
   have HI := Lib.hid (itoa_any v hin.1 hin.2 w2 (HL.out.later HB.out));have HO := Lib.hid hok;clear hin hok;go_wp2_with fail;refine HI.out.mono ?_;rintro e w3 ⟨rfl, hb3⟩;have HB3 := Lib.hid (HB.out.trans (hb3.mono HB.out.size));clear hb3
   by_cases hq : Lib.itoa v = L s
   · have g0 : ((B (Lib.itoa v)).toList == s.toList) = true := by rw [Path.toList_L, Path.toList_L, L_B, hq]; simp
     have HS := Lib.hid (show numL (L s) = some v by unfold numL; rw [HO.out]; simp only; rw [if_pos hq]);clear hq;go_wp2_with fail;refine (HM.out _).mono ?_;rintro e w9 ⟨rfl, rfl⟩;go_wp2_with fail;go_ret;exact ⟨by rw [HS.out]; rfl, HB3.out⟩
   · have g0 : ((B (Lib.itoa v)).toList == s.toList) = false := by rw [Path.toList_L, Path.toList_L, L_B]; simpa using hq
     have HS := Lib.hid (show numL (L s) = none by unfold numL; rw [HO.out]; simp only; rw [if_neg hq]);clear hq;go_wp2_with fail;refine (HN.out _).mono ?_;rintro e w9 ⟨rfl, rfl⟩;unfold wrongE;go_wp2_with fail;refine ⟨rfl, ?_⟩;unfold NumAns;rw [HS.out];exact ⟨rfl, HB3.out⟩
 · have HO := Lib.hid hno
   clear hno;go_wp2_with fail;refine (HN.out _).mono ?_;rintro e w9 ⟨rfl, rfl⟩;unfold wrongE;go_wp2_with fail;refine ⟨rfl, ?_⟩;unfold NumAns;rw [HO.out];exact ⟨rfl, HB.out⟩
end Go.Proofs.YtkljcgopikdjjaaGreatDoor.Tx
end
section
namespace Go.Proofs.YtkljcgopikdjjaaGreatDoor.Tx
open Go.RowKit Go.Shelf Oct Path
set_option maxRecDepth 100000
theorem cut_partsB {b : UInt8} {l p r : List UInt8} (h : l = p ++ b :: r) : l.take p.length = p ∧ l.drop (p.length + 1) = r := by
 subst h;exact ⟨List.take_left, by rw [← List.drop_drop, List.drop_left]; rfl⟩
set_option maxHeartbeats 400000 in
theorem liteCutB (b : UInt8) (s : ByteArray) (w : World) (hs : s.size ≤ maxLen) :
   Calls Tryz.prog 86 #[.string s, .string ⟨#[b]⟩] w fun e w' => e = .returned (.tuple #[.string (B (brkB b (L s)).1), .string (B (brkB b (L s)).2.1), .bool (brkB b (L s)).2.2]) ∧ ∃ m, w' = w.drewN m := by
 unfold maxLen at hs;have hi := brkB_index b (L s);have hl := len_L s;have hsb : (⟨#[b]⟩ : ByteArray).size = 1 := rfl
 by_cases h : (brkB b (L s)).2.2 = true
 · have hf := brkB_found b (L s) h
   have hlen := congrArg List.length hf;rw [List.length_append, List.length_cons, hl] at hlen;obtain ⟨e1, e2⟩ := cut_partsB hf;rw [h] at hi ⊢;simp only [if_true] at hi;have E1 := Lib.hid (show s.extract 0 (brkB b (L s)).1.length = B (brkB b (L s)).1 by rw [ex_front, e1]);have E2 := Lib.hid (show s.extract ((brkB b (L s)).1.length + 1) s.size = B (brkB b (L s)).2.1 by rw [ex_rest, e2]);have C := Lib.hid (fun W => Tryz.stringslite_Index_one s b W);have HI := Lib.hid hi
   generalize (brkB b (L s)).1 = p at *
   generalize (brkB b (L s)).2.1 = q at *
   have hp : p.length < s.size := by omega
   clear hi hl hf hlen e1 e2 h;have q0 : (0 : Int) ≤ (p.length : Int) := by omega
   have q1 : (p.length : Int) ≤ (s.size : Int) := by omega
   have q2 : IntKind.i64.wrap ((p.length : Int) + 1) = (p.length : Int) + 1 := IntWalk.i64_in _ (by omega);have q3 : (0 : Int) ≤ (p.length : Int) + 1 := by omega
   have q4 : (p.length : Int) + 1 ≤ (s.size : Int) := by omega
   have q5 : ((p.length : Int) + 1).toNat = p.length + 1 := by omega
   go_enter Tryz.func86, Tryz.ntmps86
   go_wp2_with fail;refine (C.out _).mono ?_;rintro e w' ⟨rfl, rfl⟩;have hi2 : Lib.indexByte s.data.toList b = (p.length : Int) := HI.out;rw [hi2];clear hi2
   go_wp2
   go_quiet (fail)
   go_wp2
   go_ret3
   refine ⟨?_, _, rfl⟩;rw [← E1.out, ← E2.out]
   rfl
 · have h' : (brkB b (L s)).2.2 = false := by simpa using h
   have hn := brkB_not b (L s) h';rw [h'] at hi ⊢;simp only [Bool.false_eq_true, if_false] at hi;rw [hn.1, hn.2, B_L];have C := Lib.hid (fun W => Tryz.stringslite_Index_one s b W);have HI := Lib.hid hi;clear hi hl h h' hn
   go_enter Tryz.func86, Tryz.ntmps86
   go_wp2_with fail;refine (C.out _).mono ?_;rintro e w' ⟨rfl, rfl⟩;have hi2 : Lib.indexByte s.data.toList b = -1 := HI.out;rw [hi2];clear hi2
   go_wp2
   go_ret3
   exact ⟨rfl, 0, rfl⟩
set_option maxHeartbeats 400000 in
theorem cutB (b : UInt8) (s : ByteArray) (w : World) (hs : s.size ≤ maxLen) :
   Calls Tryz.prog 42 #[.string s, .string ⟨#[b]⟩] w fun e w' => e = .returned (.tuple #[.string (B (brkB b (L s)).1), .string (B (brkB b (L s)).2.1), .bool (brkB b (L s)).2.2]) ∧ ∃ m, w' = w.drewN m := by
 have C := Lib.hid (fun W => liteCutB b s W hs)
 go_enter Tryz.func42, Tryz.ntmps42
 go_wp2_with fail;refine (C.out _).mono ?_;rintro e w' ⟨rfl, m, rfl⟩
 go_wp2
 go_ret3
 exact ⟨rfl, m, rfl⟩
attribute [local go_sem] Oper.semAt_some
def LeftB (b : UInt8) (r0 : List UInt8) (pre : List (List UInt8)) (more : Bool) (r : List UInt8) : Prop := splitB b r0 = pre ++ (if more then splitB b r else []) ∧ r.length ≤ r0.length
theorem brkB_len (b : UInt8) (r : List UInt8) : (brkB b r).2.1.length ≤ r.length ∧ ((brkB b r).2.2 = true → (brkB b r).2.1.length < r.length) := by
 by_cases h : (brkB b r).2.2 = true
 · have := congrArg List.length (brkB_found b r h)
   rw [List.length_append, List.length_cons] at this;exact ⟨by omega, fun _ => by omega⟩
 · have h' : (brkB b r).2.2 = false := by simpa using h
   rw [(brkB_not b r h').2];exact ⟨by simp, fun q => absurd q h⟩
theorem leftB_step {b : UInt8} {r0 r : List UInt8} {pre : List (List UInt8)} (h : LeftB b r0 pre true r) : LeftB b r0 (pre ++ [(brkB b r).1]) (brkB b r).2.2 (brkB b r).2.1 ∧ pre ++ [(brkB b r).1] <+: splitB b r0 ∧ ((brkB b r).2.2 = true → (brkB b r).2.1.length < r.length) := by
 have h1 := h.1;simp only [if_true] at h1;rw [brkB_split b r] at h1;have hl := brkB_len b r
 have e : splitB b r0 = (pre ++ [(brkB b r).1]) ++ (if (brkB b r).2.2 = true then splitB b (brkB b r).2.1 else []) := by
   rw [h1]
   split <;> simp
 refine ⟨⟨e, ?_⟩, ?_, hl.2⟩
 · have := h.2
   omega
 · rw [e]; exact List.prefix_append _ _
theorem grown_once (W : World) (B m : Nat) (u : Value) : W.grownBy ((W.drewN m).setCell ⟨B, 0, none⟩ u) (some B) := by
 have h1 := grownBy_setCell' (W.drewN m) B u;exact ⟨h1.os, h1.tape, h1.output, h1.size, h1.block⟩
def Keep2 (Bs Bg : Nat) (X Y : World) : Prop := KeptBox Bs 9 X Y ∧ KeptBox Bg 9 X Y
def leftN (Bs : Nat) (m : Value) (wr : World) : Nat :=
 match m with
 | .bool true => (match wr.cell? ⟨Bs, 0, none⟩ with | some (.string t) => t.size + 1 | _ => 0)
 | _ => 0
theorem leftN_true {Bs : Nat} {t : TypeId} {wr : World} {r : List UInt8} (h : Boxed wr Bs t (.string (B r))) : leftN Bs (.bool true) wr = r.length + 1 := by
 unfold leftN;simp only [h.cell, size_B]
theorem leftN_false {Bs : Nat} {wr : World} : leftN Bs (.bool false) wr = 0 := rfl
set_option maxHeartbeats 1000000 in
theorem parts1_in (F : Fence) (n : Nat) (HW : Hid (F = Fence.wide)) (hro : F.round = none) (hn : 1 ≤ n) (b : UInt8) (l Bs Bg : Nat) (hne : Bs ≠ Bg) (r0 : List UInt8) (hr : r0.length ≤ 1048576) (J Jx : List (List UInt8) → World → Prop)
   (hJ : ∀ s X Y, J s X → TurnsBox Bs 9 X Y → J s Y) (hJx : ∀ s X Y, Jx s X → TurnsBox Bs 9 X Y → Jx s Y)
   (hY : ∀ pre x W, J pre W → pre ++ [x] <+: splitB b r0 → YieldAt F (n - 1) Tryz.prog l #[.string (B x)] W fun e W' =>
     (e = .returned (.bool true) ∧ J (pre ++ [x]) W' ∧ Keep2 Bs Bg W W') ∨ (e = .returned (.bool false) ∧ Jx (pre ++ [x]) W'))
   (W : World) (hBs : Boxed W Bs 9 (.string (B r0))) (hBg : Boxed W Bg 9 (.string ⟨#[b]⟩)) (h0 : J [] W) :
   CallsIn F n Tryz.prog 126 #[.func (.yield l) #[] #[], .pointer (some ⟨Bs, 0, none⟩), .pointer (some ⟨Bg, 0, none⟩)] W fun e W' => (∃ v, e = .returned v) ∧
     ((∃ ys, ys = splitB b r0 ∧ J ys W') ∨ (∃ pre, pre <+: splitB b r0 ∧ Jx pre W')) := by
 refine callsIn_of_wp Tryz.func126 rfl (fn_w HW _) ?_ hro;simp only [Tryz.ntmps126, List.size_toArray, List.length_cons, List.length_nil, Nat.reduceAdd, Nat.reduceSub, Array.replicate_succ, Array.replicate_zero, List.push_toArray, List.append_toArray, List.nil_append, List.cons_append]
 gi_wp2
 gi_loopw [4] (fun m wr => ∃ (pre : List (List UInt8)) (more : Bool) (r : List UInt8), m = .bool more ∧ LeftB b r0 pre more r ∧ J pre wr ∧ Boxed wr Bs 9 (.string (B r)) ∧ Boxed wr Bg 9 (.string ⟨#[b]⟩))
   (fun m wr => leftN Bs m wr)
 case atStart => exact ⟨[], true, r0, rfl, ⟨rfl, Nat.le_refl _⟩, h0, hBs, hBg⟩
 case round =>
   obtain ⟨pre, more, r, rfl, hL, hJs, hnx, hng⟩ := hrel;have hcx := hnx.cell;have hfx := hnx.frozen;have hcg := hng.cell;cases more with
   | false =>
     gi_wp2
     go_end0;refine ⟨⟨_, rfl⟩, .inl ⟨pre, ?_, hJs⟩⟩;have := hL.1
     simp at this
     exact this.symm
   | true =>
     obtain ⟨hL2, hlen, hdec⟩ := leftB_step hL;have hr2 := hL.2
     gi_wp2_with fail
     refine ⟨fn_w HW _, ?_⟩;refine (callsIn_w HW (cutB b (B r) _ (by rw [size_B]; unfold maxLen; omega))).mono ?_;rintro e w' ⟨rfl, m, rfl⟩;rw [L_B];have hq : (brkB b r).2.1.length ≤ r.length := (brkB_len b r).1
     generalize (brkB b r).1 = x at *
     generalize (brkB b r).2.1 = q at *
     generalize (brkB b r).2.2 = mo at *
     have hb2 : Boxed (wr.drewN m) Bs 9 (.string (B r)) := hnx;have hg2 : Boxed (wr.drewN m) Bg 9 (.string ⟨#[b]⟩) := hng;have hc2 := hb2.cell;have hf2 := hb2.frozen;have hB3 : Boxed ((wr.drewN m).setCell ⟨Bs, 0, none⟩ (.string (B q))) Bs 9 (.string (B q)) := hb2.set _;have hG3 : Boxed ((wr.drewN m).setCell ⟨Bs, 0, none⟩ (.string (B q))) Bg 9 (.string ⟨#[b]⟩) := hg2.other (fun e => hne e.symm) _;have hJ3 := hJ pre wr _ hJs ⟨grown_once wr Bs m (.string (B q)), _, hnx⟩;obtain ⟨fn, tmps, assign, body, hy, hR⟩ := hY pre x _ hJ3 hlen;have HB3 := Lib.hid (And.intro hB3 hG3);clear hB3 hG3 hJ3 hJs
     gi_wp2
     refine hR.mono ?_;rintro e W3 (⟨rfl, hJ4, hk4⟩ | ⟨rfl, hJx4⟩)
     · have hB4 : Boxed W3 Bs 9 (.string (B q)) := hk4.1 _ HB3.out.1
       have hG4 : Boxed W3 Bg 9 (.string ⟨#[b]⟩) := hk4.2 _ HB3.out.2
       gi_wp2
       go_roundw
       case rel => exact ⟨pre ++ [x], mo, q, rfl, hL2, hJ4, hB4, hG4⟩
       case measure =>
         rw [leftN_true hnx];cases mo with
         | false => rw [leftN_false]; omega
         | true => rw [leftN_true hB4]; have := hdec rfl; omega
     · gi_wp2
       refine bodyPost_ret (results_none rfl _ _ _) rfl ?_;refine ⟨⟨_, rfl⟩, .inr ⟨pre ++ [x], ?_, hJx4⟩⟩;rw [hL2.1];exact List.prefix_append _ _
theorem parts_seq (F : Fence) (n : Nat) (HW : Hid (F = Fence.wide)) (hro : F.round = none) (hn : 1 ≤ n) (b : UInt8) (Bs Bg : Nat) (hne : Bs ≠ Bg) (r0 : List UInt8) (hr : r0.length ≤ 1048576) (w : World) (hBs : Boxed w Bs 9 (.string (B r0))) (hBg : Boxed w Bg 9 (.string ⟨#[b]⟩)) :
   SeqRel F n Tryz.prog 126 #[.pointer (some ⟨Bs, 0, none⟩), .pointer (some ⟨Bg, 0, none⟩)] (fun x : List UInt8 => #[Value.string (B x)]) (TurnsBox Bs 9) (Keep2 Bs Bg) (fun ys => ys = splitB b r0)
     (fun pre => pre <+: splitB b r0) (fun pre x => pre ++ [x] <+: splitB b r0) w := fun k J Jx W hW hJ hJx hY h0 =>
 parts1_in F n HW hro hn b k Bs Bg hne r0 hr J Jx hJ hJx hY W ((hW.block Bs hBs.lt).trans hBs) ((hW.block Bg hBg.lt).trans hBg) h0
set_option maxHeartbeats 1000000 in
theorem parts_in (F : Fence) (n : Nat) (h6 : F.fn 82) (hro : F.round = none) (s g : ByteArray) (w : World) :
   CallsIn F n Tryz.prog 82 #[.string s, .string g] w fun e w' => e = .returned (.func (.func 126) #[] #[.pointer (some ⟨w.heap.size, 0, none⟩), .pointer (some ⟨w.heap.size + 1, 0, none⟩)]) ∧ (w.alloc (.cells #[.string s] 9)).alloc (.cells #[.string g] 9) = w' := by
 refine callsIn_of_wp Tryz.func82 rfl h6 ?_ hro;simp only [Tryz.ntmps82, List.size_toArray, List.length_cons, List.length_nil, Nat.reduceAdd, Nat.reduceSub, Array.replicate_succ, Array.replicate_zero, List.push_toArray, List.append_toArray, List.nil_append, List.cons_append]
 gi_wp2
 go_ret;exact ⟨rfl, rfl⟩
end Go.Proofs.YtkljcgopikdjjaaGreatDoor.Tx
end
section
namespace Go.Proofs.YtkljcgopikdjjaaGreatDoor.Tx
set_option maxRecDepth 100000
set_option maxHeartbeats 1000000
open Go.RowKit Go.Shelf Go.Maps Oct
theorem plain_any (c : UInt8) (w : World) : Calls Tryz.prog 169 #[.int .u8 c.toNat] w fun e w' => e = .returned (.bool (stB c)) ∧ w = w' := by
 have hc := c.toNat_lt
 by_cases h1 : 97 ≤ c.toNat ∧ c.toNat ≤ 122
 · have e : stB c = true := by unfold stB; simp [h1]
   have t1 : decide (97 ≤ (c.toNat : Int)) = true := by simp; omega
   have t2 : decide ((c.toNat : Int) ≤ 122) = true := by simp; omega
   rw [e]
   go_enter Tryz.func169, Tryz.ntmps169
   go_wp2_with fail;go_ret;exact ⟨rfl, rfl⟩
 by_cases h2 : 65 ≤ c.toNat ∧ c.toNat ≤ 90
 · have e : stB c = true := by unfold stB; simp [h2]
   have t1 : decide (97 ≤ (c.toNat : Int)) = false := by simp; omega
   have t3 : decide (65 ≤ (c.toNat : Int)) = true := by simp; omega
   have t4 : decide ((c.toNat : Int) ≤ 90) = true := by simp; omega
   rw [e]
   go_enter Tryz.func169, Tryz.ntmps169
   go_wp2_with fail;go_ret;exact ⟨rfl, rfl⟩
 by_cases h3 : 48 ≤ c.toNat ∧ c.toNat ≤ 57
 · have e : stB c = true := by unfold stB; simp [h3]
   have t1 : decide (97 ≤ (c.toNat : Int)) = false := by simp; omega
   have t3 : decide (65 ≤ (c.toNat : Int)) = false := by simp; omega
   have t5 : decide (48 ≤ (c.toNat : Int)) = true := by simp; omega
   have t6 : decide ((c.toNat : Int) ≤ 57) = true := by simp; omega
   rw [e]
   go_enter Tryz.func169, Tryz.ntmps169
   go_wp2_with fail;go_ret;exact ⟨rfl, rfl⟩
 have T : (decide (97 ≤ (c.toNat : Int)) = true → decide ((c.toNat : Int) ≤ 122) = false) ∧ (decide (65 ≤ (c.toNat : Int)) = true → decide ((c.toNat : Int) ≤ 90) = false) ∧ (decide (48 ≤ (c.toNat : Int)) = true → decide ((c.toNat : Int) ≤ 57) = false) := by
   refine ⟨?_, ?_, ?_⟩ <;> simp only [decide_eq_true_eq, decide_eq_false_iff_not] <;> omega
 have e : stB c = (c == 46 || c == 47 || c == 95 || c == 45) := by unfold stB; simp only [h1, h2, h3, decide_false, Bool.false_or]
 clear h1 h2 h3;obtain ⟨T1, T2, T3⟩ := T
 have f : ∀ m : UInt8, (c == m) = decide (c.toNat = m.toNat) := by
   intro m
   by_cases h : c = m
   · subst h; simp
   · have : c.toNat ≠ m.toNat := fun e => h (UInt8.toNat_inj.mp e)
     simp [h, this]
 rw [f 46, f 47, f 95, f 45] at e;rw [e];have HE := Lib.hid e;clear e f HE;change Calls _ _ _ _ (fun e w' => e = Ending.returned (Value.bool (decide (c.toNat = 46) || decide (c.toNat = 47) || decide (c.toNat = 95) || decide (c.toNat = 45))) ∧ w = w')
 generalize c.toNat = n at *
 cases a1 : decide (97 ≤ (n : Int)) <;> cases a2 : decide (65 ≤ (n : Int)) <;> cases a3 : decide (48 ≤ (n : Int))
 all_goals
   rw [a1] at T1;rw [a2] at T2;rw [a3] at T3;simp only [forall_const, Bool.false_eq_true, false_implies] at T1 T2 T3
   by_cases b1 : n = 46
   · subst b1
     go_enter Tryz.func169, Tryz.ntmps169
     go_wp2_with fail;go_ret;exact ⟨rfl, rfl⟩
   by_cases b2 : n = 47
   · subst b2
     go_enter Tryz.func169, Tryz.ntmps169
     go_wp2_with fail;go_ret;exact ⟨rfl, rfl⟩
   by_cases b3 : n = 95
   · subst b3
     go_enter Tryz.func169, Tryz.ntmps169
     go_wp2_with fail;go_ret;exact ⟨rfl, rfl⟩
   have d1 : ((n : Int) == 46) = false := by simp; omega
   have d2 : ((n : Int) == 47) = false := by simp; omega
   have d3 : ((n : Int) == 95) = false := by simp; omega
   have c1 : decide (n = 46) = false := decide_eq_false b1;have c2 : decide (n = 47) = false := decide_eq_false b2;have c3 : decide (n = 95) = false := decide_eq_false b3;rw [c1, c2, c3];simp only [Bool.false_or];clear b1 b2 b3
   by_cases b4 : n = 45
   · subst b4
     go_enter Tryz.func169, Tryz.ntmps169
     go_wp2_with fail;go_ret;exact ⟨rfl, rfl⟩
   have d4 : ((n : Int) == 45) = false := by simp; omega
   have c4 : decide (n = 45) = false := decide_eq_false b4;rw [c4];clear b4
   go_enter Tryz.func169, Tryz.ntmps169
   go_wp2_with fail;go_ret;exact ⟨rfl, rfl⟩
theorem hex_any (n : Nat) (h : n < 16) (w : World) : Calls Tryz.prog 170 #[.int .u8 n] w fun e w' => e = .returned (.int .u8 (hexN n).toNat) ∧ w = w' := by
 rw [hexN_toNat n h]
 by_cases hn : n < 10
 · rw [if_pos hn]
   have t1 : decide ((n : Int) < 10) = true := by simp; omega
   have t2 : decide (n < 10) = true := by simp; omega
   have q : IntKind.u8.wrap (48 + (n : Int)) = ((48 + n : Nat) : Int) := by rw [IntKind.wrap_u8']; omega
   go_enter Tryz.func170, Tryz.ntmps170
   go_wp2_with fail;go_ret;exact ⟨rfl, rfl⟩
 · rw [if_neg hn]
   have t1 : decide ((n : Int) < 10) = false := by simp; omega
   have t2 : decide (n < 10) = false := by simp; omega
   have q : IntKind.u8.wrap (97 + (n : Int)) = ((97 + n : Nat) : Int) := by rw [IntKind.wrap_u8']; omega
   have q2 : IntKind.u8.wrap (((97 + n : Nat) : Int) - 10) = ((87 + n : Nat) : Int) := by rw [IntKind.wrap_u8']; omega
   have q3 : IntKind.u8.wrap ((97 + (n : Int)) - 10) = ((87 + n : Nat) : Int) := by rw [IntKind.wrap_u8']; omega
   go_enter Tryz.func170, Tryz.ntmps170
   go_wp2_with fail;go_ret;exact ⟨rfl, rfl⟩
end Go.Proofs.YtkljcgopikdjjaaGreatDoor.Tx
end
section
namespace Go.Proofs.YtkljcgopikdjjaaGreatDoor.Tx
set_option maxRecDepth 100000
set_option maxHeartbeats 1000000
open Go.RowKit Go.Shelf Go.Maps Oct
theorem tellR_take (s : ByteArray) (k : Nat) (h : k < s.size) : tellR ((L s).take (k + 1)) = tellR ((L s).take k) ++ tellB s[k] := by
 have h2 : k < (L s).length := by rw [len_L]; exact h
 rw [List.take_succ_eq_append_getElem h2, tellR_app];simp only [tellR, List.append_nil]
 rfl
theorem rtext_any (s : ByteArray) (w : World) (hs : s.size ≤ 100000) : Calls Tryz.prog 130 #[.string s] w fun e w' => e = .returned (.string (B (tellL (L s)))) ∧ Below w.heap.size w w' := by
 by_cases h0 : s.size = 0
 · have e : s = ⟨#[]⟩ := L_inj (List.eq_nil_of_length_eq_zero (by rw [len_L]; omega))
   subst e
   go_enter Tryz.func130, Tryz.ntmps130
   go_wp2
   go_ret;exact ⟨rfl, Below.refl _ _⟩
 have et : tellL (L s) = tellR (L s) := by
   unfold tellL;rw [if_neg];intro e;have := len_L s;rw [e] at this
   simp at this
   omega
 rw [et];clear et;have q0 : s.toList.isEmpty = false := empty_no (by omega);obtain ⟨i0, hi, hz0, hz1, hz2⟩ := info_u8;have HP := Lib.hid plain_any
 go_enter Tryz.func130, Tryz.ntmps130
 go_wp2
 go_loopw [3, 4] (fun v i wr => ∃ (k : Nat) (out : List UInt8), k ≤ s.size ∧ i = .int .i64 k ∧ out = tellR ((L s).take k) ∧ wr.ownsRow w.heap.size 5 1 v out.length (Lib.byteCells out) ∧ Below w.heap.size w wr) (fun _ i _ => s.size - (intOf i).toNat)
 case atStart => exact ⟨0, [], by omega, rfl, rfl, ⟨rfl, .inl ⟨rfl, rfl⟩⟩, Below.refl _ _⟩
 case round =>
   obtain ⟨k, out, hk, rfl, ho, hown, hb⟩ := hrel
   have hlo : out.length ≤ 300000 := by
     rw [ho];have := tellR_len ((L s).take k);rw [List.length_take] at this;omega
   have HB := Lib.hid hb;have HO := Lib.hid ho;clear hb ho
   by_cases hlt : k < s.size
   · have HT := Lib.hid (tellR_take s k hlt)
     go_wp2_with fail;refine (HP.out _ _).mono ?_;rintro e w9 ⟨rfl, rfl⟩
     by_cases hst : stB s[k] = true
     · have e1 : tellB s[k] = [s[k]] := by unfold tellB; rw [if_pos hst]
       rw [e1] at HT;rw [hst];clear hst e1
       go_wp2_with (at_builtin; refine wpList_append_lies _ rfl _ _ 56 rfl w.heap.size 5 i0 (.int .u8 0) 1 1 Tryz.underlying56 hi hz0 hz1 hz2 rfl (by decide) _ out.length (Lib.byteCells out) rfl (World.ownsRow.alloc hown _) ⟨wr.heap.size, 0, none⟩ 1 1 [.int .u8 s[k].toNat] rfl rfl (World.news_of_block (SBox.new wr _ _)) (by intro u hu; simp at hu; subst hu; rfl) (by decide) (by unfold maxLen; omega) (by omega) (by have := HB.out.size; simp; omega) _ rfl ?_; intro g9 cap9 w9 hown9 hgrow9 hat9 hlt9; have B9 := Lib.hid ((HB.out.alloc HB.out.size (.cells #[.int .u8 s[k].toNat] 5)).grown hgrow9 (by have := HB.out.size; simp; omega) (fun q e => (hown.lt q e).1)); have O9 := Lib.hid hown9; clear hown9 hgrow9 hat9)
       refine ⟨⟨k + 1, out ++ [s[k]], by omega, by go_num, by rw [HT.out, ← HO.out], ?_, B9.out⟩, by simp [intOf]; omega⟩;have h := O9.out
       simpa [Lib.byteCells] using h
     · have e1 : tellB s[k] = [37, hexN (s[k].toNat / 16), hexN (s[k].toNat % 16)] := by unfold tellB; rw [if_neg hst]
       have hst2 : stB s[k] = false := by simpa using hst
       rw [e1] at HT;rw [hst2];have hlt8 := s[k].toNat_lt;have H1 := Lib.hid (fun W => hex_any (s[k].toNat / 16) (by omega) W);have H2 := Lib.hid (fun W => hex_any (s[k].toNat % 16) (by omega) W);rw [show ((s[k].toNat / 16 : Nat) : Int) = (s[k].toNat : Int) / 16 from by omega] at H1;rw [show ((s[k].toNat % 16 : Nat) : Int) = (s[k].toNat : Int).tmod 16 from by rw [Int.tmod_eq_emod_of_nonneg (by omega)]; omega] at H2;have r1 : IntKind.u8.wrap ((s[k].toNat : Int).tdiv 16) = (s[k].toNat : Int) / 16 := by rw [IntKind.wrap_u8', Int.tdiv_eq_ediv_of_nonneg (by omega)]; omega
       have r2 : IntKind.u8.wrap ((s[k].toNat : Int).tmod 16) = (s[k].toNat : Int) % 16 := by rw [IntKind.wrap_u8', Int.tmod_eq_emod_of_nonneg (by omega)]; omega
       have r3 : IntKind.u8.wrap ((s[k].toNat : Int) / 16) = (s[k].toNat : Int) / 16 := by rw [IntKind.wrap_u8']; omega
       have r4 : IntKind.u8.wrap ((s[k].toNat : Int) % 16) = (s[k].toNat : Int) % 16 := by rw [IntKind.wrap_u8']; omega
       clear hst hst2 e1;have HOD : Hid ((wr.drew.alloc (.cells #[.int .u8 37, .int .u8 (hexN (s[k].toNat / 16)).toNat, .int .u8 (hexN (s[k].toNat % 16)).toNat] 5)).ownsRow w.heap.size 5 1 u3 out.length (Lib.byteCells out)) := Lib.hid (World.ownsRow.alloc (show wr.drew.ownsRow w.heap.size 5 1 u3 out.length (Lib.byteCells out) from hown) _);have HBD : Hid (Below w.heap.size w (wr.drew.alloc (.cells #[.int .u8 37, .int .u8 (hexN (s[k].toNat / 16)).toNat, .int .u8 (hexN (s[k].toNat % 16)).toNat] 5))) := Lib.hid (HB.out.drew.alloc HB.out.size _);have hbz := HB.out.size;clear hown;go_wp2_with fail
       go_region_law (first | (refine step_append_lies _ rfl (.tmp 23) (.tmp 34) 56 rfl w.heap.size 5 i0 (.int .u8 0) 1 1 Tryz.underlying56 hi hz0 hz1 hz2 rfl (by decide) _ out.length (Lib.byteCells out) rfl HOD.out ⟨wr.heap.size, 0, none⟩ 3 3 [.int .u8 37, .int .u8 (hexN (s[k].toNat / 16)).toNat, .int .u8 (hexN (s[k].toNat % 16)).toNat] rfl rfl ?q1 ?q2 (by decide) ?q3 ?q4 ?q5 _ rfl ?_; (case q1 => exact World.news_of_block (SBox.new wr.drew 5 #[.int .u8 37, .int .u8 (hexN (s[k].toNat / 16)).toNat, .int .u8 (hexN (s[k].toNat % 16)).toNat])); (case q2 => (intro u hu; simp at hu; rcases hu with rfl | rfl | rfl <;> rfl)); (case q3 => (unfold maxLen; omega)); (case q4 => omega); (case q5 => (simp; omega)); intro g9 cap9 w9 hown9 hgrow9 hat9 hlt9; have B9 := Lib.hid (HBD.out.grown hgrow9 (by simp; omega) (fun q e => (HOD.out.lt q e).1)); have O9 := Lib.hid hown9; clear hown9 hgrow9 hat9) | (go_simp; go_at_call 170; first | with_reducible refine (H1.out _).mono ?_ | with_reducible refine (H2.out _).mono ?_; rintro e w9 ⟨rfl, rfl⟩))
       all_goals
         go_wp2
         refine ⟨⟨k + 1, out ++ [37, hexN (s[k].toNat / 16), hexN (s[k].toNat % 16)], by omega, by go_num, by rw [HT.out, ← HO.out], ?_, B9.out⟩, by simp [intOf]; omega⟩;have h := O9.out
         simpa [Lib.byteCells] using h
   · have hk2 : k = s.size := by omega
     subst hk2;have e2 : tellR (L s) = out := by rw [HO.out, List.take_of_length_le (by rw [len_L]; omega)]
     have E2 := Lib.hid e2;clear e2
     have hconv : ∃ W2, (convert 56 9 u3).run Tryz.prog wr = .ok (.string (B out)) W2 ∧ W2 = wr := by
       rcases hown.2 with ⟨rfl, h0⟩ | ⟨g, cap, cur, rfl, hg0, hcur, hc1, hc2, hc3, htk⟩
       · have h00 := List.eq_nil_of_length_eq_zero h0
         subst h00;exact ⟨wr, by kernel_rfl, rfl⟩
       · exact ⟨wr, run_convert_bytes_back wr 56 9 5 ⟨g, 0, none⟩ cap out Tryz.underlying56 Tryz.underlying5 Tryz.underlying9 (Lib.bytes_of_row hcur (by simpa using htk)), rfl⟩
     obtain ⟨W2, hcv, rfl⟩ := hconv;clear hown;go_wp2_with fail;go_ret;exact ⟨by rw [E2.out]; rfl, HB.out⟩
end Go.Proofs.YtkljcgopikdjjaaGreatDoor.Tx
end
section
namespace Go.Proofs.YtkljcgopikdjjaaGreatDoor.Tx
set_option maxRecDepth 100000
set_option maxHeartbeats 1000000
open Go.RowKit Go.Shelf Go.Maps Oct
theorem rnum37 (n : Int) (h0 : -9223372036854775808 ≤ n) (h1 : n ≤ 9223372036854775807) (w : World) (hl : Lay w) : Calls Tryz.prog 93 #[.int .i64 n] w fun e w' => e = .returned (.string (B (Lib.itoa n))) ∧ Below w.heap.size w w' := by
 have C := Lib.hid (show Calls Tryz.prog 132 #[.int .i64 n, .int .i64 10] w (fun e w' => e = .returned (.string (B (Lib.itoa n))) ∧ Below w.heap.size w w') from (Tryz.strconv_FormatInt_10 n h0 h1 w hl.tab).mono (by rintro e w' ⟨rfl, k, os, rfl⟩; exact ⟨rfl, below_grow w k os⟩));clear hl
 go_enter Tryz.func93, Tryz.ntmps93
 go_wp2_with fail;refine C.out.mono ?_;rintro e w' ⟨rfl, hb⟩;have HB := Lib.hid hb;clear hb;go_wp2_with fail;go_ret;exact ⟨rfl, HB.out⟩
theorem sep_cat (s t : List UInt8) : L (⟨#[32]⟩ : ByteArray) ++ s ++ L (⟨#[61]⟩ : ByteArray) ++ t = 32 :: (s ++ 61 :: t) := by
 show [32] ++ s ++ [61] ++ t = _
 simp
def fldL (n t : List UInt8) : List UInt8 := if t = [] then [] else 32 :: (n ++ 61 :: t)
theorem rfield_any (s : List UInt8) (hs : s.length ≤ 10) (n : Int) (h0 : -9223372036854775808 ≤ n) (h1 : n ≤ 9223372036854775807) (w : World) (hl : Lay w) :
   Calls Tryz.prog 88 #[.string (B s), .int .i64 n] w fun e w' => e = .returned (.string (B (fldL s (numT n)))) ∧ Below w.heap.size w w' := by
 by_cases hn : n = 0
 · subst hn
   have e : fldL s (numT 0) = [] := rfl;rw [e]
   go_enter Tryz.func88, Tryz.ntmps88
   go_wp2
   go_ret;exact ⟨rfl, Below.refl _ _⟩
 · have e : fldL s (numT n) = 32 :: (s ++ 61 :: Lib.itoa n) := by unfold fldL numT; rw [if_neg hn, if_neg (itoa_ne n)]
   rw [e];have HN := Lib.hid (rnum37 n h0 h1 w hl);have hlen := itoa_len n h0 h1;have z1 : (B s).size ≤ 10 := by rw [size_B]; exact hs
   have z2 : (B (Lib.itoa n)).size ≤ 25 := by rw [size_B]; exact hlen
   have q : (n == 0) = false := by simpa using hn
   clear hl
   go_enter Tryz.func88, Tryz.ntmps88
   go_wp2_with fail;refine HN.out.mono ?_;rintro e w' ⟨rfl, hb⟩;have HB := Lib.hid hb;clear hb;go_wp2_with fail;go_ret;refine ⟨?_, HB.out⟩;simp only [append_B, L_B, sep_cat]
   rfl
theorem rtextField_any (s : List UInt8) (hs : s.length ≤ 10) (t : List UInt8) (ht : t.length ≤ 100000) (w : World) :
   Calls Tryz.prog 90 #[.string (B s), .string (B t)] w fun e w' => e = .returned (.string (B (fldL s (strT t)))) ∧ Below w.heap.size w w' := by
 by_cases hn : t = []
 · subst hn
   have e : fldL s (strT []) = [] := rfl;rw [e];have q0 : (B []).toList.isEmpty = true := by rw [Path.toList_L]; rfl
   go_enter Tryz.func90, Tryz.ntmps90
   go_wp2
   go_ret;exact ⟨rfl, Below.refl _ _⟩
 · have e : fldL s (strT t) = 32 :: (s ++ 61 :: tellL t) := by unfold fldL strT; rw [if_neg hn, if_neg (tell_ne t)]
   rw [e];have HN := Lib.hid (rtext_any (B t) w (by rw [size_B]; exact ht));rw [L_B] at HN
   have hlen : (tellL t).length ≤ 3 * t.length + 1 := by
     unfold tellL;rw [if_neg hn];have := tellR_len t;omega
   have z1 : (B s).size ≤ 10 := by rw [size_B]; exact hs
   have z2 : (B (tellL t)).size ≤ 300001 := by rw [size_B]; omega
   have q : (B t).toList.isEmpty = false := empty_no (List.length_pos_iff.mpr hn)
   go_enter Tryz.func90, Tryz.ntmps90
   go_wp2_with fail;refine HN.out.mono ?_;rintro e w' ⟨rfl, hb⟩;have HB := Lib.hid hb;clear hb;go_wp2_with fail;go_ret;refine ⟨?_, HB.out⟩;simp only [append_B, L_B, sep_cat]
   rfl
theorem lineTo_fld (x : M) (k : Nat) : lineTo x (k + 1) = lineTo x k ++ fldL (nm k) (tellF k x) := by
 unfold fldL
 by_cases h : tellF k x = []
 · rw [lineTo_skip x k h, if_pos h, List.append_nil]
 · rw [lineTo_next x k h, if_neg h]
theorem unnum_any (l : List UInt8) (hs : l.length ≤ 100000) (w : World) (hl : Lay w) : Calls Tryz.prog 57 #[.string (B l)] w fun e w' => e = .returned (.int .i64 (unnumL l)) ∧ Below w.heap.size w w' := by
 have hsz : (B l).size = l.length := size_B l
 have C : Calls Tryz.prog 100 #[.string (B l), .int .i64 10, .int .i64 64] w (fun e w' => (∃ er, e = .returned (.tuple #[.int .i64 (unnumL l), er])) ∧ Below w.heap.size w w') := by
   have hB : (B l).data.toList = l := L_B l;unfold unnumL;cases h : Lib.atoiAll l with
   | ok v =>
     refine (Tryz.strconv_ParseInt_10_at64_ok (B l) (by omega) v (by rw [Lib.parseIntB_64, hB]; exact h) w).mono ?_;rintro e w' ⟨rfl, hw⟩;refine ⟨⟨_, rfl⟩, ?_⟩
     rcases hw with rfl | ⟨t, rfl⟩
     · exact Below.refl _ _
     · exact bytes_below w _ t
   | range =>
     obtain ⟨tp, p, hv⟩ := hl.er;refine (Tryz.strconv_ParseInt_10_at64_range_var (B l) (by omega) (by rw [Lib.parseIntB_64, hB]; exact h) tp p w hv).mono ?_;rintro e w' ⟨N, rfl, h1, h2, h3⟩;exact ⟨⟨.iface 233 (.pointer (some ⟨N, 0, none⟩)), by rw [Lib.intSat_64, hB]⟩, h3⟩
   | _ =>
     obtain ⟨tp, p, hv⟩ := hl.es;refine (Tryz.strconv_ParseInt_10_at64_syntax_var (B l) (by omega) (by rw [Lib.parseIntB_64, hB]; exact h) tp p w hv).mono ?_;rintro e w' ⟨N, rfl, h1, h2, h3⟩;exact ⟨⟨_, rfl⟩, h3⟩
 have HC := Lib.hid C;clear C hl
 generalize unnumL l = v at *
 go_enter Tryz.func57, Tryz.ntmps57
 go_wp2_with fail;refine HC.out.mono ?_;rintro e w' ⟨⟨er, rfl⟩, hb⟩;have HB := Lib.hid hb;clear hb;go_wp2_with fail;go_ret;exact ⟨rfl, HB.out⟩
theorem unhex37 (c : UInt8) (w : World) : Calls Tryz.prog 99 #[.int .u8 c.toNat] w fun e w' => e = .returned (.int .u8 (unhexR c)) ∧ w = w' := by
 have hc := c.toNat_lt
 by_cases h1 : 97 ≤ c.toNat ∧ c.toNat ≤ 102
 · have e : unhexR c = c.toNat - 87 := by unfold unhexR; rw [if_pos h1]
   have d1 : decide ((97 : Int) ≤ (c.toNat : Int)) = true := by simp; omega
   have d2 : decide ((c.toNat : Int) ≤ 102) = true := by simp; omega
   have w1 : IntKind.u8.wrap ((c.toNat : Int) - 97) = (c.toNat : Int) - 97 := by rw [IntKind.wrap_u8']; omega
   have w2 : IntKind.u8.wrap ((c.toNat : Int) - 97 + 10) = ((c.toNat - 87 : Nat) : Int) := by rw [IntKind.wrap_u8']; omega
   rw [e]
   go_enter Tryz.func99, Tryz.ntmps99
   go_wp2
   go_ret;exact ⟨rfl, rfl⟩
 · by_cases h2 : 48 ≤ c.toNat ∧ c.toNat ≤ 57
   · have e : unhexR c = c.toNat - 48 := by unfold unhexR; rw [if_neg h1, if_pos h2]
     have d1 : decide ((97 : Int) ≤ (c.toNat : Int)) = false := by simp; omega
     have d3 : decide ((48 : Int) ≤ (c.toNat : Int)) = true := by simp; omega
     have d4 : decide ((c.toNat : Int) ≤ 57) = true := by simp; omega
     have w1 : IntKind.u8.wrap ((c.toNat : Int) - 48) = ((c.toNat - 48 : Nat) : Int) := by rw [IntKind.wrap_u8']; omega
     rw [e]
     go_enter Tryz.func99, Tryz.ntmps99
     go_wp2
     go_ret;exact ⟨rfl, rfl⟩
   · have e : unhexR c = 0 := by unfold unhexR; rw [if_neg h1, if_neg h2]
     rw [e]
     by_cases a1 : 97 ≤ c.toNat
     · have d1 : decide ((97 : Int) ≤ (c.toNat : Int)) = true := by simp; omega
       have d2 : decide ((c.toNat : Int) ≤ 102) = false := by simp; omega
       have d3 : decide ((48 : Int) ≤ (c.toNat : Int)) = true := by simp; omega
       have d4 : decide ((c.toNat : Int) ≤ 57) = false := by simp; omega
       go_enter Tryz.func99, Tryz.ntmps99
       go_wp2
       go_ret;exact ⟨rfl, rfl⟩
     · have d1 : decide ((97 : Int) ≤ (c.toNat : Int)) = false := by simp; omega
       by_cases a2 : 48 ≤ c.toNat
       · have d3 : decide ((48 : Int) ≤ (c.toNat : Int)) = true := by simp; omega
         have d4 : decide ((c.toNat : Int) ≤ 57) = false := by simp; omega
         go_enter Tryz.func99, Tryz.ntmps99
         go_wp2
         go_ret;exact ⟨rfl, rfl⟩
       · have d3 : decide ((48 : Int) ≤ (c.toNat : Int)) = false := by simp; omega
         go_enter Tryz.func99, Tryz.ntmps99
         go_wp2
         go_ret;exact ⟨rfl, rfl⟩
end Go.Proofs.YtkljcgopikdjjaaGreatDoor.Tx
end
