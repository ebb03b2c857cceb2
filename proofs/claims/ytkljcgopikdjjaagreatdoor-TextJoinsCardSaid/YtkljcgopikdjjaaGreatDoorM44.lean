/- The law TextWritten: the walk. -/
import Derived.Test.YtkljcgopikdjjaaGreatDoorM43
import Derived.Deep.AppendLies
import Derived.Laws.AppendOwnNone
import Derived.Test.YtkljcgopikdjjaaGreatDoorM38
import Derived.Deep.RegionHeld3
set_option linter.unusedVariables false
set_option linter.unusedSimpArgs false
set_option maxRecDepth 100000
section
namespace Go.Proofs.YtkljcgopikdjjaaGreatDoor.Tx
set_option maxRecDepth 100000
set_option maxHeartbeats 4000000
open Go.RowKit Go.Shelf Go.Maps Oct
theorem linesT_ge : ∀ l : List M, l.length ≤ (linesT l).length
 | [] => Nat.le_refl _
 | m :: l => by
   have := linesT_ge l;simp only [linesT, List.length_cons, List.length_append, List.length_nil];omega
theorem steps_in {l : List M} (h : ∀ m ∈ l, mayM m = true) : ∀ m ∈ l, m.In ∧ m.k < 256 ∧ m.size ≤ 100000 := fun m hm => by
 have h1 := h m hm;have h2 := may_in m h1;have h3 := may_size m h2 h1;have h4 : m.k < 7 := of_decide_eq_true ((mayM_iff m).mp h1).known;exact ⟨h2, by omega, by omega⟩
theorem writeE_ok {c : Cf} {l : List M} (hc : c.may = true) (hl : ∀ m ∈ l, mayM m = true) (hs : (writeT c l).length ≤ 262144) : writeE c l = 0 := by
 unfold writeE;rw [if_neg (by rw [hc]; decide), if_neg (by rw [List.all_eq_true.mpr hl]; decide), if_neg (by omega)]
theorem read_law (s : ByteArray) (w : World) (hl : Lay w) : Calls Tryz.prog 7 #[.string s] w fun e w' => e = .returned (.bool true) ∧ Below w.heap.size w w' := by
 have HL := Lib.hid hl;have AL := Lib.hid alive37;clear hl
 by_cases hbig : 16384 < s.size
 · have t1 : (16384 : Int) < s.size := by omega
   go_enter Tryz.func7, Tryz.ntmps7
   go_wp2_with fail;refine (AL.out _ HL.out).mono ?_;rintro e w3 ⟨rfl, b3⟩;have B3 := Lib.hid b3;clear b3;go_wp2_with fail;go_ret;exact ⟨rfl, B3.out⟩
 · have t1 : ¬ (16384 : Int) < s.size := by omega
   have hLs := len_L s
   have hline : ∀ v ∈ (linesQ (L s)).1, v.length ≤ 20000 := fun v hv => by
     have := (lines_len (L s)).1 v hv;omega
   have hrd := fun W h => read_any s (by omega) hline W h;have hrr := fun W h => rread_any s (by omega) hline W h;have SM := Lib.hid same_ok;cases hq : readQ (L s) with
   | inl m =>
     have RD := Lib.hid (fun W h => (hrd W h).mono fun e w' h => read_is_no h (by omega) hq);have RR := Lib.hid (fun W h => (hrr W h).mono fun e w' h => read_is_no h (by omega) hq);have SN := Lib.hid (fun W => same_ok W [] none none 0 0 0 0 0 0 (LM.nil _ _ _ _) (LM.nil _ _ _ _) (by decide));rw [List.length_nil] at SN;clear hrd hrr hline hq
     go_enter Tryz.func7, Tryz.ntmps7
     go_wp2_with fail;refine (RD.out _ HL.out).mono ?_;rintro e w1 ⟨b1, rfl⟩;have B1 := Lib.hid b1;clear b1;unfold rdV Cf.val Cf.zero
     go_upto_region 4 with (fail)
     have y0 := Lib.hid (SBox.new w1 27 #[.int .i64 0, .int .i64 0, .int .i64 0, .int .i64 0, .int .i64 0, .int .i64 0]);have ha1 := (Below.refl w1.heap.size w1).alloc (Nat.le_refl _) (.cells #[.int .i64 0, .int .i64 0, .int .i64 0, .int .i64 0, .int .i64 0, .int .i64 0] 27);have B2 := Lib.hid (B1.out.trans (ha1.mono B1.out.size));clear ha1
     generalize w1.alloc (.cells #[.int .i64 0, .int .i64 0, .int .i64 0, .int .i64 0, .int .i64 0, .int .i64 0] 27) = w2 at *
     generalize w1.heap.size = c1 at *
     go_wp2_with fail;refine (RR.out _ (HL.out.later B2.out)).mono ?_;rintro e w3 ⟨b3, rfl⟩;have B3 := Lib.hid (B2.out.trans (b3.mono B2.out.size));have y1 := Lib.hid (y0.out.later b3);clear b3 y0 B2;unfold rdV Cf.val Cf.zero
     go_upto_region 5 with (fail)
     have ha3 := (Below.refl w3.heap.size w3).alloc (Nat.le_refl _) (.cells #[.int .i64 0, .int .i64 0, .int .i64 0, .int .i64 0, .int .i64 0, .int .i64 0] 27);have z0 := y1.out.later ha3;have z1 := SBox.new w3 27 #[.int .i64 0, .int .i64 0, .int .i64 0, .int .i64 0, .int .i64 0, .int .i64 0];have Z0 := Lib.hid z0;have B4 := Lib.hid (B3.out.trans (ha3.mono B3.out.size));clear ha3
     generalize w3.alloc (.cells #[.int .i64 0, .int .i64 0, .int .i64 0, .int .i64 0, .int .i64 0, .int .i64 0] 27) = w4 at *
     generalize w3.heap.size = c2 at *
     clear y1 B3;have X0 := z0.cell 0;have X1 := z0.cell 1;have X2 := z0.cell 2;have X3 := z0.cell 3;have X4 := z0.cell 4;have X5 := z0.cell 5;simp only [List.getElem?_toArray, List.getElem?_cons_zero, List.getElem?_cons_succ] at X0 X1 X2 X3 X4 X5;have Xl := z0.lt;have Y0 := z1.cell 0;have Y1 := z1.cell 1;have Y2 := z1.cell 2;have Y3 := z1.cell 3;have Y4 := z1.cell 4;have Y5 := z1.cell 5;simp only [List.getElem?_toArray, List.getElem?_cons_zero, List.getElem?_cons_succ] at Y0 Y1 Y2 Y3 Y4 Y5;have Yl := z1.lt;clear z0 z1;go_wp2_with fail;refine (SN.out _).mono ?_;rintro e w5 ⟨rfl, b5⟩;have B5 := Lib.hid (B4.out.trans (b5.mono B4.out.size));clear b5;go_wp2_with fail;refine (AL.out _ (HL.out.later B5.out)).mono ?_;rintro e w6 ⟨rfl, b6⟩;have B6 := Lib.hid (B5.out.trans (b6.mono B5.out.size));clear b6;go_wp2_with fail;go_ret;exact ⟨rfl, B6.out⟩
   | inr q =>
     obtain ⟨c, l⟩ := q;obtain ⟨hwt, hcin, hcm, hlm⟩ := write_read hq
     have hlen : l.length ≤ 20000 := by
       have h1 := linesT_ge l;have h2 : (writeT c l).length ≤ 16384 := by rw [hwt]; omega
       unfold writeT at h2;simp only [List.length_append] at h2;omega
     have hwe : writeE c l = 0 := writeE_ok hcm hlm (by rw [hwt]; omega);have RD := Lib.hid (fun W h => (hrd W h).mono fun e w' h => read_is_yes h (by omega) hq);have RR := Lib.hid (fun W h => (hrr W h).mono fun e w' h => read_is_yes h (by omega) hq);have WR := Lib.hid (fun p g o cap W h hv => write_yes c hcin l hlen (steps_in hlm) p g o cap W h hv hcm);unfold WrAns Cf.val at WR;rw [hwe, if_pos rfl, hwt, B_L] at WR;have HLN := Lib.hid hlen;clear hrd hrr hline hq hwt hwe hcm hlm hcin
     go_enter Tryz.func7, Tryz.ntmps7
     go_wp2_with fail;refine (RD.out _ HL.out).mono ?_;rintro e w1 ⟨b1, p1, k1, g1, rfl, hL1⟩;have B1 := Lib.hid b1;have L1 := Lib.hid hL1;clear b1 hL1;unfold rdV Cf.val
     go_upto_region 4 with (fail)
     have y0 := Lib.hid (SBox.new w1 27 #[.int .i64 c.i, .int .i64 c.b, .int .i64 c.j, .int .i64 c.c, .int .i64 c.l, .int .i64 c.t]);have ha1 := (Below.refl w1.heap.size w1).alloc (Nat.le_refl _) (.cells #[.int .i64 c.i, .int .i64 c.b, .int .i64 c.j, .int .i64 c.c, .int .i64 c.l, .int .i64 c.t] 27);have B2 := Lib.hid (B1.out.trans (ha1.mono B1.out.size));have L2 := Lib.hid (L1.out.later ha1);clear ha1
     generalize w1.alloc (.cells #[.int .i64 c.i, .int .i64 c.b, .int .i64 c.j, .int .i64 c.c, .int .i64 c.l, .int .i64 c.t] 27) = w2 at *
     generalize w1.heap.size = c1 at *
     go_wp2_with fail;refine (RR.out _ (HL.out.later B2.out)).mono ?_;rintro e w3 ⟨b3, p3, k3, g3, rfl, hL3⟩;have B3 := Lib.hid (B2.out.trans (b3.mono B2.out.size));have y1 := Lib.hid (y0.out.later b3);have L3 := Lib.hid (L2.out.later b3);have M3 := Lib.hid hL3;clear b3 hL3 y0 B2;unfold rdV Cf.val
     go_upto_region 5 with (fail)
     have ha3 := (Below.refl w3.heap.size w3).alloc (Nat.le_refl _) (.cells #[.int .i64 c.i, .int .i64 c.b, .int .i64 c.j, .int .i64 c.c, .int .i64 c.l, .int .i64 c.t] 27);have z0 := y1.out.later ha3;have z1 := SBox.new w3 27 #[.int .i64 c.i, .int .i64 c.b, .int .i64 c.j, .int .i64 c.c, .int .i64 c.l, .int .i64 c.t];have Z0 := Lib.hid z0;have B4 := Lib.hid (B3.out.trans (ha3.mono B3.out.size));have L4 := Lib.hid (L3.out.later ha3);have M4 := Lib.hid (M3.out.later ha3);clear ha3
     generalize w3.alloc (.cells #[.int .i64 c.i, .int .i64 c.b, .int .i64 c.j, .int .i64 c.c, .int .i64 c.l, .int .i64 c.t] 27) = w4 at *
     generalize w3.heap.size = c2 at *
     clear y1 B3;have X0 := z0.cell 0;have X1 := z0.cell 1;have X2 := z0.cell 2;have X3 := z0.cell 3;have X4 := z0.cell 4;have X5 := z0.cell 5;simp only [List.getElem?_toArray, List.getElem?_cons_zero, List.getElem?_cons_succ] at X0 X1 X2 X3 X4 X5;have Xl := z0.lt;have Y0 := z1.cell 0;have Y1 := z1.cell 1;have Y2 := z1.cell 2;have Y3 := z1.cell 3;have Y4 := z1.cell 4;have Y5 := z1.cell 5;simp only [List.getElem?_toArray, List.getElem?_cons_zero, List.getElem?_cons_succ] at Y0 Y1 Y2 Y3 Y4 Y5;have Yl := z1.lt;clear z0 z1;go_wp2_with fail;refine (SM.out w4 l p1 p3 g1 0 g3 0 k1 k3 L4.out M4.out (by have := HLN.out; omega)).mono ?_;rintro e w5 ⟨rfl, b5⟩;have B5 := Lib.hid (B4.out.trans (b5.mono B4.out.size));have L5 := Lib.hid (L4.out.later b5);have z5 := Z0.out.later b5;clear b5 X0 X1 X2 X3 X4 X5 Xl Y0 Y1 Y2 Y3 Y4 Y5 Yl;have X0 := z5.cell 0;have X1 := z5.cell 1;have X2 := z5.cell 2;have X3 := z5.cell 3;have X4 := z5.cell 4;have X5 := z5.cell 5;simp only [List.getElem?_toArray, List.getElem?_cons_zero, List.getElem?_cons_succ] at X0 X1 X2 X3 X4 X5;have Xl := z5.lt;clear z5;go_wp2_with fail;refine (WR.out _ _ _ _ _ (HL.out.later B5.out) L5.out).mono ?_;rintro e w6 ⟨rfl, b6⟩;have B6 := Lib.hid (B5.out.trans (b6.mono B5.out.size));have q1 : (s.toList == s.toList) = true := by simp
     clear b6 X0 X1 X2 X3 X4 X5 Xl;go_wp2_with fail;refine (AL.out _ (HL.out.later B6.out)).mono ?_;rintro e w7 ⟨rfl, b7⟩;have B7 := Lib.hid (B6.out.trans (b7.mono B6.out.size));clear b7;go_wp2_with fail;go_ret;exact ⟨rfl, B7.out⟩
end Go.Proofs.YtkljcgopikdjjaaGreatDoor.Tx
end
section
namespace Go.Proofs.YtkljcgopikdjjaaGreatDoor.Tx
open Go.RowKit Go.Shelf Go.Maps Oct
theorem rowM_at {W : World} {g : Nat} : ∀ (l : List M) (o : Nat), (∀ i x, l[i]? = some x → CellsM W g (o + i * 12) x) → ∀ j u, (rowM l)[j]? = some u → W.cell? ⟨g, o + j, none⟩ = some u
 | [], o, _, j, u, hj => by simp [rowM] at hj
 | x :: l, o, h, j, u, hj => by
   have hx := h 0 x rfl
   have ih := rowM_at (W := W) (g := g) l (o + 12) (fun i y hy => by
     have := h (i + 1) y (by simpa using hy);rw [show o + (i + 1) * 12 = o + 12 + i * 12 by omega] at this;exact this)
   have hr : rowM (x :: l) = x.cells.toList ++ rowM l := by simp [rowM]
   rw [hr] at hj
   by_cases h12 : j < 12
   · rw [List.getElem?_append_left (by simpa [M.cells] using h12)] at hj
     obtain ⟨c0, c1, c2, c3, c4, c5, c6, c7, c8, c9, c10, c11⟩ := hx;simp only [Nat.zero_mul, Nat.add_zero] at c0 c1 c2 c3 c4 c5 c6 c7 c8 c9 c10 c11
     match j, h12 with
     | 0, _ => simp [M.cells] at hj; rw [← hj]; exact c0
     | 1, _ => simp [M.cells] at hj; rw [← hj]; exact c1
     | 2, _ => simp [M.cells] at hj; rw [← hj]; exact c2
     | 3, _ => simp [M.cells] at hj; rw [← hj]; exact c3
     | 4, _ => simp [M.cells] at hj; rw [← hj]; exact c4
     | 5, _ => simp [M.cells] at hj; rw [← hj]; exact c5
     | 6, _ => simp [M.cells] at hj; rw [← hj]; exact c6
     | 7, _ => simp [M.cells] at hj; rw [← hj]; exact c7
     | 8, _ => simp [M.cells] at hj; rw [← hj]; exact c8
     | 9, _ => simp [M.cells] at hj; rw [← hj]; exact c9
     | 10, _ => simp [M.cells] at hj; rw [← hj]; exact c10
     | 11, _ => simp [M.cells] at hj; rw [← hj]; exact c11
   · rw [List.getElem?_append_right (by simp [M.cells]; omega)] at hj
     have h12' : x.cells.toList.length = 12 := by simp [M.cells]
     rw [h12'] at hj;have := ih (j - 12) u hj;rw [show o + 12 + (j - 12) = o + j by omega] at this;exact this
theorem LM.news {W : World} {p : Option Addr} {g o : Nat} {l : List M} (h : LM W p g o l) (hn : l ≠ []) : ∀ j u, (rowM l)[j]? = some u → W.cell? ((⟨g, o, none⟩ : Addr).add j) = some u := fun j u hj => by
 have hadd : (⟨g, o, none⟩ : Addr).add j = ⟨g, o + j, none⟩ := by unfold Addr.add; split <;> simp_all
 rw [hadd];exact rowM_at l o (h hn).2.2 j u hj
theorem rowM_one (l : List M) : ∀ u ∈ rowM l, u.oneCell' = true := by
 intro u hu;unfold rowM at hu;rw [List.mem_flatMap] at hu;obtain ⟨x, _, hu⟩ := hu
 simp [M.cells] at hu
 rcases hu with rfl | rfl | rfl | rfl | rfl | rfl | rfl | rfl | rfl | rfl | rfl | rfl <;> rfl
end Go.Proofs.YtkljcgopikdjjaaGreatDoor.Tx
end
section
namespace Go.Proofs.YtkljcgopikdjjaaGreatDoor.Tx
open Go.RowKit Go.Shelf Go.Maps Oct
theorem wp_append_M {w : World} {o : Oper} {a : Act} {K : Act → World → Prop} {Q : Exit → Act → World → Prop} (x : Operand)
   (ho : o.op = .call { callee := .builtin .append, args := #[.const (.slice none 0 0), x], argTypes := #[28, 28] })
   (l : List M) (p : Option Addr) (g of cap : Nat) (hx : a.eval x = .slice p l.length cap) (hS : LM w p g of l) (hcap : p = none → cap = 0) (hn : l.length * 128 ≤ 140737488355328)
   (h : ∀ v' w', w'.ownsRow w.heap.size 40 12 v' l.length (rowM l) → Below w.heap.size w w' → K (a.put o.dst v') w') : o.wp Tryz.prog a w K Q := by
 obtain ⟨i0, hi, hz0, hz1, hz2⟩ := info_Cmd2
 by_cases hne : l = []
 · subst hne
   cases p with
   | none =>
     have hrun := run_append_owned_none (P := Tryz.prog) (w := w) w.heap.size 28 o.type 40 i0 12 Tryz.underlying28 hi (.slice none 0 0) 0 [] (World.ownsRow_nil _ _ _ _);have hs : a.eval (.const (.slice none 0 0)) = .slice none 0 0 := rfl;rw [List.length_nil, hcap rfl] at hx;unfold Oper.wp
     simp [execOp, ho, resolve, invoke, builtin, hs, hx, hrun, Result.andThen]
     exact h _ _ (World.ownsRow_nil _ _ _ _) (Below.refl _ _)
   | some ad =>
     refine wp_append_own w (.const (.slice none 0 0)) x 28 ho w.heap.size 40 i0 (.agg M.zero.cells) 12 128 Tryz.underlying28 hi hz0 hz1 hz2 rfl (by decide) _ 0 [] rfl (World.ownsRow_nil _ _ _ _) ad 0 cap [] hx (by simp) (fun j u hj => by simp at hj) (fun u hu => by simp at hu) (by unfold maxLen; omega) (by omega) (by simp) ?_;intro va wa howna hgrowa _;exact h _ _ (by simpa [rowM] using howna) ((Below.refl _ w).grown hgrowa (Nat.le_refl _) (fun k e => by cases e))
 · obtain ⟨rfl, hgl, _⟩ := hS hne
   refine wp_append_own w (.const (.slice none 0 0)) x 28 ho w.heap.size 40 i0 (.agg M.zero.cells) 12 128 Tryz.underlying28 hi hz0 hz1 hz2 rfl (by decide) _ 0 [] rfl (World.ownsRow_nil _ _ _ _) ⟨g, of, none⟩ l.length cap (rowM l) hx (rowM_len l) (hS.news hne) (rowM_one l) (by unfold maxLen; omega) (by omega) (by simp) ?_;intro va wa howna hgrowa _;exact h _ _ (by simpa using howna) ((Below.refl _ w).grown hgrowa (Nat.le_refl _) (fun k e => by cases e))
theorem step_append_M {w : World} {ops : Array Oper} {o : Oper} {a : Act} {K : Act → World → Prop} {Q : Exit → Act → World → Prop} {E : Prop} (hgd : o.guard = none) (x : Operand)
   (ho : o.op = .call { callee := .builtin .append, args := #[.const (.slice none 0 0), x], argTypes := #[28, 28] })
   (l : List M) (p : Option Addr) (g of cap : Nat) (hx : a.eval x = .slice p l.length cap) (hS : LM w p g of l) (hcap : p = none → cap = 0) (hn : l.length * 128 ≤ 140737488355328)
   (h : ∀ v' w', w'.ownsRow w.heap.size 40 12 v' l.length (rowM l) → Below w.heap.size w w' → K (a.put o.dst v') w') :
   if Region.wanted o (yielded ops a.tmps) = true then Oper.wp Tryz.prog o a w K Q else E := by
 have hw : Region.wanted o (yielded ops a.tmps) = true := by simp [Region.wanted, hgd]
 rw [if_pos hw];exact wp_append_M x ho l p g of cap hx hS hcap hn h
end Go.Proofs.YtkljcgopikdjjaaGreatDoor.Tx
end
section
namespace Go.Proofs.YtkljcgopikdjjaaGreatDoor.Tx
open Go.RowKit Go.Shelf Go.Maps Oct
theorem rowM_add (a b : List M) : rowM (a ++ b) = rowM a ++ rowM b := by simp [rowM]
theorem wp_append_M2 {w : World} {o : Oper} {a : Act} {K : Act → World → Prop} {Q : Exit → Act → World → Prop} (s x : Operand)
   (ho : o.op = .call { callee := .builtin .append, args := #[s, x], argTypes := #[28, 28] })
   (base : Nat) (l0 l : List M) (v : Value) (hs : a.eval s = v) (hown : w.ownsRow base 40 12 v l0.length (rowM l0)) (hbase : base ≤ w.heap.size)
   (p : Option Addr) (g of cap : Nat) (hx : a.eval x = .slice p l.length cap) (hS : LM w p g of l) (hcap : p = none → cap = 0) (hn : (l0.length + l.length) * 128 ≤ 140737488355328)
   (h : ∀ v' w', w'.ownsRow base 40 12 v' (l0 ++ l).length (rowM (l0 ++ l)) → Below base w w' → K (a.put o.dst v') w') : o.wp Tryz.prog a w K Q := by
 obtain ⟨i0, hi, hz0, hz1, hz2⟩ := info_Cmd2;have hbel : ∀ w', w.grownBy w' v.ownBlock → Below base w w' := fun w' hg => (Below.refl base w).grown hg hbase fun c hc => (hown.lt c hc).1
 by_cases hne : l = []
 · subst hne
   rw [List.append_nil] at h;cases p with
   | none =>
     have hrun := run_append_owned_none (P := Tryz.prog) (w := w) base 28 o.type 40 i0 12 Tryz.underlying28 hi v l0.length (rowM l0) hown;rw [List.length_nil, hcap rfl] at hx;unfold Oper.wp
     simp [execOp, ho, resolve, invoke, builtin, hs, hx, hrun, Result.andThen]
     exact h _ _ hown (Below.refl _ _)
   | some ad =>
     refine wp_append_own w s x 28 ho base 40 i0 (.agg M.zero.cells) 12 128 Tryz.underlying28 hi hz0 hz1 hz2 rfl (by decide) v l0.length (rowM l0) hs hown ad 0 cap [] hx (by simp) (fun j u hj => by simp at hj) (fun u hu => by simp at hu) (by unfold maxLen; simp at hn; omega) (by simp at hn; omega) hbase ?_;intro va wa howna hgrowa _;exact h _ _ (by simpa using howna) (hbel _ hgrowa)
 · obtain ⟨rfl, hgl, _⟩ := hS hne
   refine wp_append_own w s x 28 ho base 40 i0 (.agg M.zero.cells) 12 128 Tryz.underlying28 hi hz0 hz1 hz2 rfl (by decide) v l0.length (rowM l0) hs hown ⟨g, of, none⟩ l.length cap (rowM l) hx (rowM_len l) (hS.news hne) (rowM_one l) (by unfold maxLen; omega) (by omega) hbase ?_;intro va wa howna hgrowa _;exact h _ _ (by rw [List.length_append, rowM_add]; exact howna) (hbel _ hgrowa)
theorem step_append_M2 {w : World} {ops : Array Oper} {o : Oper} {a : Act} {K : Act → World → Prop} {Q : Exit → Act → World → Prop} {E : Prop} (hgd : o.guard = none) (s x : Operand)
   (ho : o.op = .call { callee := .builtin .append, args := #[s, x], argTypes := #[28, 28] })
   (base : Nat) (l0 l : List M) (v : Value) (hs : a.eval s = v) (hown : w.ownsRow base 40 12 v l0.length (rowM l0)) (hbase : base ≤ w.heap.size)
   (p : Option Addr) (g of cap : Nat) (hx : a.eval x = .slice p l.length cap) (hS : LM w p g of l) (hcap : p = none → cap = 0) (hn : (l0.length + l.length) * 128 ≤ 140737488355328)
   (h : ∀ v' w', w'.ownsRow base 40 12 v' (l0 ++ l).length (rowM (l0 ++ l)) → Below base w w' → K (a.put o.dst v') w') :
   if Region.wanted o (yielded ops a.tmps) = true then Oper.wp Tryz.prog o a w K Q else E := by
 have hw : Region.wanted o (yielded ops a.tmps) = true := by simp [Region.wanted, hgd]
 rw [if_pos hw];exact wp_append_M2 s x ho base l0 l v hs hown hbase p g of cap hx hS hcap hn h
theorem step_append_M1 {w : World} {ops : Array Oper} {o : Oper} {a : Act} {K : Act → World → Prop} {Q : Exit → Act → World → Prop} {E : Prop} (hgd : o.guard = none) (x : Operand)
   (ho : o.op = .call { callee := .builtin .append, args := #[.const (.slice none 0 0), x], argTypes := #[28, 28] })
   (base : Nat) (hbase : base ≤ w.heap.size) (l : List M) (p : Option Addr) (g of cap : Nat) (hx : a.eval x = .slice p l.length cap) (hS : LM w p g of l) (hcap : p = none → cap = 0) (hn : l.length * 128 ≤ 140737488355328)
   (h : ∀ v' w', w'.ownsRow base 40 12 v' l.length (rowM l) → Below base w w' → K (a.put o.dst v') w') :
   if Region.wanted o (yielded ops a.tmps) = true then Oper.wp Tryz.prog o a w K Q else E :=
 step_append_M2 hgd _ x ho base [] l (.slice none 0 0) rfl (World.ownsRow_nil _ _ _ _) hbase p g of cap hx hS hcap (by simpa using hn) (fun v' w' ho' hb' => h v' w' (by simpa using ho') hb')
end Go.Proofs.YtkljcgopikdjjaaGreatDoor.Tx
end
section
namespace Go.Proofs.YtkljcgopikdjjaaGreatDoor.Tx
open Go.RowKit Go.Shelf Go.Maps Oct
theorem writeE_zero {c : Cf} {l : List M} (h : writeE c l = 0) : c.may = true ∧ (∀ m ∈ l, mayM m = true) ∧ (writeT c l).length ≤ 262144 := by
 unfold writeE at h
 split at h
 · exact absurd h (by decide)
 · rename_i h1
   split at h
   · exact absurd h (by decide)
   · rename_i h2
     split at h
     · exact absurd h (by decide)
     · rename_i h3
       refine ⟨by simpa using h1, List.all_eq_true.mp ?_, by omega⟩;cases h4 : l.all mayM with
       | true => rfl
       | false => exact absurd h4 h2
theorem allQ_len2 {c : Cf} (hc : c.In) {l : List M} (hl : ∀ m ∈ l, mayM m = true) : ∀ v ∈ allQ c l, v.length ≤ 20000 := by
 intro v hv;unfold allQ at hv;rw [List.mem_append] at hv
 rcases hv with hv | hv
 · simp only [List.mem_cons, List.not_mem_nil, or_false] at hv
   have h0 := headL_len c hc
   rcases hv with rfl | rfl | rfl | rfl | rfl | rfl | rfl
   · have := h0 0 (by decide); omega
   · have := h0 1 (by decide); omega
   · have := h0 2 (by decide); omega
   · have := h0 3 (by decide); omega
   · have := h0 4 (by decide); omega
   · have := h0 5 (by decide); omega
   · decide
 · rw [List.mem_map] at hv
   obtain ⟨m, hm, rfl⟩ := hv;have h1 := may_in m (hl m hm);have h2 := may_size m h1 (hl m hm);have h3 := lineL_len m h1;omega
theorem write_lines {c : Cf} (hc : c.In) {l : List M} (hl : ∀ m ∈ l, mayM m = true) : ∀ v ∈ (linesQ (writeT c l)).1, v.length ≤ 20000 := by
 have e := lines_join (allQ c l) [] (allQ_10 c l hl);rw [List.append_nil, ← write_join] at e;rw [e];intro v hv;have hv : v ∈ allQ c l ++ (linesQ []).1 := hv;rw [show (linesQ []).1 = [] by simp [linesQ], List.append_nil] at hv;exact allQ_len2 hc hl v hv
theorem steps_lines {l : List M} (hl : ∀ m ∈ l, mayM m = true) : ∀ v ∈ (linesQ (linesT l)).1, v.length ≤ 20000 := by
 have h10 : ∀ w ∈ l.map lineL, ∀ c ∈ w, c ≠ 10 := fun w hw => by
   rw [List.mem_map] at hw;obtain ⟨m, hm, rfl⟩ := hw;exact lineL_10 m (may_good m (may_in m (hl m hm)) (hl m hm)).k
 have e := lines_join (l.map lineL) [] h10;rw [List.append_nil, ← linesT_join] at e;rw [e];intro v hv;have hv : v ∈ l.map lineL ++ (linesQ []).1 := hv;rw [show (linesQ []).1 = [] by simp [linesQ], List.append_nil, List.mem_map] at hv;obtain ⟨m, hm, rfl⟩ := hv;have h1 := may_in m (hl m hm);have h2 := may_size m h1 (hl m hm);have h3 := lineL_len m h1;omega
theorem odd_lines {c : Cf} (hc : c.In) {l more : List M} (hl : ∀ m ∈ l, mayM m = true) (hm : ∀ m ∈ more, mayM m = true) {odd : List UInt8} (ho : ∀ c ∈ odd, c ≠ 10) (h1 : odd.length ≤ 1024) :
   ∀ v ∈ (linesQ (writeT c l ++ odd ++ 10 :: linesT more)).1, v.length ≤ 20000 := by
 have e := lines_join (allQ c l) (odd ++ 10 :: linesT more) (allQ_10 c l hl);rw [lines_app odd (linesT more) ho, ← write_join, ← List.append_assoc] at e;rw [e];intro v hv;have hv : v ∈ allQ c l ++ odd :: (linesQ (linesT more)).1 := hv;rw [List.mem_append, List.mem_cons] at hv
 rcases hv with hv | rfl | hv
 · exact allQ_len2 hc hl v hv
 · omega
 · exact steps_lines hm v hv
theorem writeT_app (c : Cf) (a b : List M) : writeT c (a ++ b) = writeT c a ++ linesT b := by
 unfold writeT;rw [linesT_app];simp only [List.append_assoc]
theorem writeE_app {c : Cf} {a b : List M} (ha : writeE c a = 0) (hb : ∀ m ∈ b, mayM m = true) : writeE c (a ++ b) = if 262144 < (writeT c a).length + (linesT b).length then 5 else 0 := by
 obtain ⟨h1, h2, h3⟩ := writeE_zero ha
 have h4 : (a ++ b).all mayM = true := by
   rw [List.all_eq_true];intro m hm
   rcases List.mem_append.1 hm with h | h
   · exact h2 m h
   · exact hb m h
 unfold writeE;rw [if_neg (by rw [h1]; decide), if_neg (by rw [h4]; decide), writeT_app, List.length_append]
theorem reads_back (c : Cf) (hc : c.In) (l : List M) (h0 : writeE c l = 0) (w : World) (hl : Lay w) :
   Calls Tryz.prog 14 #[.string (B (writeT c l))] w fun e w' => Below w.heap.size w w' ∧ ∃ p cap g, e = rdV c (.slice p l.length cap) 0 0 ∧ LM w' p g 0 l := by
 obtain ⟨h1, h2, h3⟩ := writeE_zero h0;refine (read_any (B (writeT c l)) (by rw [size_B]; omega) (by rw [L_B]; exact write_lines hc h2) w hl).mono fun e w' h => ?_;rw [L_B] at h;exact read_is_yes h h3 (read_write c hc l h1 h2)
theorem reads_odd (c : Cf) (hc : c.In) (l more : List M) (h0 : writeE c l = 0) (hm : ∀ m ∈ more, mayM m = true) (odd : List UInt8) (ho : ∀ c ∈ odd, c ≠ 10) (hn : stepL mayM odd = none) (hs : (writeT c l).length + (linesT more).length + odd.length < 262144) (h1 : odd.length ≤ 1024) (w : World) (hl : Lay w) :
   Calls Tryz.prog 14 #[.string (B (writeT c l ++ odd ++ 10 :: linesT more))] w fun e w' => Below w.heap.size w w' ∧ e = rdV Cf.zero (.slice none 0 0) ((8 + l.length : Nat) : Int) 370 := by
 obtain ⟨k1, k2, k3⟩ := writeE_zero h0
 have hlen : (writeT c l ++ odd ++ 10 :: linesT more).length ≤ 262144 := by
   simp only [List.length_append, List.length_cons];omega
 refine (read_any (B (writeT c l ++ odd ++ 10 :: linesT more)) (by rw [size_B]; omega) (by rw [L_B]; exact odd_lines hc k2 hm ho h1) w hl).mono fun e w' h => ?_;rw [L_B] at h;exact read_is_no h hlen (read_odd c hc l k2 odd (linesT more) ho hn)
end Go.Proofs.YtkljcgopikdjjaaGreatDoor.Tx
end
section
namespace Go.Proofs.YtkljcgopikdjjaaGreatDoor.Tx
set_option maxRecDepth 100000
set_option maxHeartbeats 4000000
open Go.RowKit Go.Shelf Go.Maps Oct
theorem big_no {l : List M} (h : bigM l = false) : l.length ≤ 150 ∧ ∀ x ∈ l, x.size ≤ 3100 := by
 unfold bigM at h;simp only [Bool.or_eq_false_iff, decide_eq_false_iff_not] at h;obtain ⟨h1, h2⟩ := h;refine ⟨by omega, fun x hx => ?_⟩;rw [List.any_eq_false] at h2;have h3 := h2 x hx;unfold longM longC at h3
 simp at h3
 unfold M.size;omega
theorem keepF {w8 W W' : World} {bc : Nat} {c : Cf} (hlt : bc < w8.heap.size) (h : Below w8.heap.size w8 W ∧ W.cell? ⟨bc, 0, none⟩ = some (.int .i64 c.i) ∧ W.cell? ⟨bc, 1, none⟩ = some (.int .i64 c.b) ∧ W.cell? ⟨bc, 2, none⟩ = some (.int .i64 c.j) ∧ W.cell? ⟨bc, 3, none⟩ = some (.int .i64 c.c) ∧ W.cell? ⟨bc, 4, none⟩ = some (.int .i64 c.l) ∧ W.cell? ⟨bc, 5, none⟩ = some (.int .i64 c.t)) (b : Below W.heap.size W W') : Below w8.heap.size w8 W' ∧ W'.cell? ⟨bc, 0, none⟩ = some (.int .i64 c.i) ∧ W'.cell? ⟨bc, 1, none⟩ = some (.int .i64 c.b) ∧ W'.cell? ⟨bc, 2, none⟩ = some (.int .i64 c.j) ∧ W'.cell? ⟨bc, 3, none⟩ = some (.int .i64 c.c) ∧ W'.cell? ⟨bc, 4, none⟩ = some (.int .i64 c.l) ∧ W'.cell? ⟨bc, 5, none⟩ = some (.int .i64 c.t) := by
 obtain ⟨h0, h1, h2, h3, h4, h5, h6⟩ := h;have hb := b.block bc (Nat.lt_of_lt_of_le hlt h0.size);exact ⟨h0.trans (b.mono h0.size), (cells_blk hb 0).trans h1, (cells_blk hb 1).trans h2, (cells_blk hb 2).trans h3, (cells_blk hb 3).trans h4, (cells_blk hb 4).trans h5, (cells_blk hb 5).trans h6⟩
theorem lmF {w8 W : World} {bc : Nat} {c : Cf} {p : Option Addr} {g o : Nat} {l : List M} (hv : LM w8 p g o l) (h : Below w8.heap.size w8 W ∧ W.cell? ⟨bc, 0, none⟩ = some (.int .i64 c.i) ∧ W.cell? ⟨bc, 1, none⟩ = some (.int .i64 c.b) ∧ W.cell? ⟨bc, 2, none⟩ = some (.int .i64 c.j) ∧ W.cell? ⟨bc, 3, none⟩ = some (.int .i64 c.c) ∧ W.cell? ⟨bc, 4, none⟩ = some (.int .i64 c.l) ∧ W.cell? ⟨bc, 5, none⟩ = some (.int .i64 c.t)) : LM W p g o l := hv.later h.1
theorem layF {w w8 W : World} {bc : Nat} {c : Cf} (hl : Lay w) (hb : Below w.heap.size w w8) (h : Below w8.heap.size w8 W ∧ W.cell? ⟨bc, 0, none⟩ = some (.int .i64 c.i) ∧ W.cell? ⟨bc, 1, none⟩ = some (.int .i64 c.b) ∧ W.cell? ⟨bc, 2, none⟩ = some (.int .i64 c.j) ∧ W.cell? ⟨bc, 3, none⟩ = some (.int .i64 c.c) ∧ W.cell? ⟨bc, 4, none⟩ = some (.int .i64 c.l) ∧ W.cell? ⟨bc, 5, none⟩ = some (.int .i64 c.t)) : Lay W := hl.later (hb.trans (h.1.mono hb.size))
theorem write_all (c : Cf) (hc : c.In) (l : List M) (hlen : l.length ≤ 20000) (hin : ∀ m ∈ l, m.In ∧ m.k < 256 ∧ m.size ≤ 100000) (p : Option Addr) (g o cap : Nat) (w : World) (hl : Lay w) (hv : LM w p g o l) : Calls Tryz.prog 11 #[c.val, .slice p l.length cap] w (WrAns c l w) := by
 cases hm : c.may with
 | false => exact write_no c l _ w hm
 | true => exact write_yes c hc l hlen hin p g o cap w hl hv hm
theorem rwrite_all (c : Cf) (hc : c.In) (l : List M) (hlen : l.length ≤ 20000) (hin : ∀ m ∈ l, m.In ∧ m.k < 256 ∧ m.size ≤ 100000) (p : Option Addr) (g o cap : Nat) (w : World) (hl : Lay w) (hv : LM w p g o l) : Calls Tryz.prog 19 #[c.val, .slice p l.length cap] w (WrAns c l w) := by
 cases hm : c.may with
 | false => exact rwrite_no c l _ w hm
 | true => exact rwrite_yes c hc l hlen hin p g o cap w hl hv hm
theorem written_law (c : Cf) (hc : c.In) (l : List M) (hw : ∀ x ∈ l, x.Wide) (hin : ∀ x ∈ l, x.In ∧ x.k < 256) (p : Option Addr) (g o cap : Nat) (hcap : p = none → cap = 0) (w : World) (hl : Lay w) (hv : LM w p g o l) :
   Calls Tryz.prog 5 #[c.val, .slice p l.length cap] w fun e w' => e = .returned (.bool true) ∧ Below w.heap.size w w' := by
 have HL := Lib.hid hl;have AL := Lib.hid alive37;have ha := (Below.refl w.heap.size w).alloc (Nat.le_refl _) (.cells c.cells 27);have HB := Lib.hid ha;have HV := Lib.hid (hv.later ha);have H0 := Lib.hid (SBox.new w 27 c.cells);have BG := Lib.hid (fun W h => big_any l hw p g o cap W h);have LA := Lib.hid (fun W => large_any c W);clear hl hv ha;unfold Cf.val at LA ⊢;unfold Cf.cells at HB HV H0
 go_enter Tryz.func5, Tryz.ntmps5
 go_upto_region 1 with (fail)
 generalize w.alloc (.cells #[.int .i64 c.i, .int .i64 c.b, .int .i64 c.j, .int .i64 c.c, .int .i64 c.l, .int .i64 c.t] 27) = w1 at *
 cases hbg : bigM l with
 | true =>
   rw [hbg] at BG;go_wp2_with fail;refine (BG.out _ HV.out).mono ?_;rintro e w2 ⟨rfl, b2⟩;have B2 := Lib.hid (HB.out.trans (b2.mono HB.out.size));clear b2;go_wp2_with fail;refine (AL.out _ (HL.out.later B2.out)).mono ?_;rintro e w3 ⟨rfl, b3⟩;have B3 := Lib.hid (B2.out.trans (b3.mono B2.out.size));clear b3;go_wp2_with fail;go_ret;exact ⟨rfl, B3.out⟩
 | false =>
   obtain ⟨hl150, hsz⟩ := big_no hbg;rw [hbg] at BG;go_wp2_with fail;refine (BG.out _ HV.out).mono ?_;rintro e w2 ⟨rfl, b2⟩;have B2 := Lib.hid (HB.out.trans (b2.mono HB.out.size));have H2 := Lib.hid (H0.out.later b2);have V2 := Lib.hid (HV.out.later b2);have y0 := H2.out;clear b2 HB H0 HV;have X0 := y0.cell 0;have X1 := y0.cell 1;have X2 := y0.cell 2;have X3 := y0.cell 3;have X4 := y0.cell 4;have X5 := y0.cell 5;simp only [List.getElem?_toArray, List.getElem?_cons_zero, List.getElem?_cons_succ] at X0 X1 X2 X3 X4 X5;have Xl := y0.lt;clear y0;cases hlg : largeC c with
   | true =>
     rw [hlg] at LA;go_wp2_with fail;refine (LA.out _).mono ?_;rintro e w3 ⟨rfl, b3⟩;have B3 := Lib.hid (B2.out.trans (b3.mono B2.out.size));clear b3;go_wp2_with fail;refine (AL.out _ (HL.out.later B3.out)).mono ?_;rintro e w4 ⟨rfl, b4⟩;have B4 := Lib.hid (B3.out.trans (b4.mono B3.out.size));clear b4;go_wp2_with fail;go_ret;exact ⟨rfl, B4.out⟩
   | false =>
     rw [hlg] at LA;go_wp2_with fail;refine (LA.out _).mono ?_;rintro e w3 ⟨rfl, b3⟩;have B3 := Lib.hid (B2.out.trans (b3.mono B2.out.size));have H3 := Lib.hid (H2.out.later b3);have V3 := Lib.hid (V2.out.later b3);have y0 := H3.out;clear b3 B2 H2 V2 X0 X1 X2 X3 X4 X5 Xl;have X0 := y0.cell 0;have X1 := y0.cell 1;have X2 := y0.cell 2;have X3 := y0.cell 3;have X4 := y0.cell 4;have X5 := y0.cell 5;simp only [List.getElem?_toArray, List.getElem?_cons_zero, List.getElem?_cons_succ] at X0 X1 X2 X3 X4 X5;have Xl := y0.lt;clear y0;have hlin : ∀ m ∈ l, m.In ∧ m.k < 256 ∧ m.size ≤ 100000 := fun m hm => ⟨(hin m hm).1, (hin m hm).2, by have := hsz m hm; omega⟩;have WR := Lib.hid (fun p g o cap W h hv => write_all c hc l (by omega) hlin p g o cap W h hv);have RW := Lib.hid (fun p g o cap W h hv => rwrite_all c hc l (by omega) hlin p g o cap W h hv);unfold WrAns Cf.val at WR RW
     generalize hst : B (if writeE c l = 0 then writeT c l else []) = st at WR RW
     generalize hec : writeE c l = ec at WR RW
     have HST := Lib.hid hst;have HEC := Lib.hid hec;clear hst hec;obtain ⟨i0, hi, hz0, hz1, hz2⟩ := info_Cmd2;go_wp2_with fail;have RD := Lib.hid (fun (h0 : writeE c l = 0) W h => reads_back c hc l h0 W h);have SM := Lib.hid (fun W p1 p2 g1 g2 o2 c1 c2 h1 h2 => same_ok W l p1 p2 g1 0 g2 o2 c1 c2 h1 h2 (by omega));have MY := Lib.hid (fun W => may_conf c W);have RM := Lib.hid (fun W => rmay37 c W);unfold Cf.val at MY RM
     generalize c.may = cm at MY RM
     clear hbg hlg hsz hin hw hc BG LA;have HN := Lib.hid hcap;clear hcap
     go_region_held3 (fun W => Below w3.heap.size w3 W ∧ W.cell? ⟨w.heap.size, 0, none⟩ = some (.int .i64 c.i) ∧ W.cell? ⟨w.heap.size, 1, none⟩ = some (.int .i64 c.b) ∧ W.cell? ⟨w.heap.size, 2, none⟩ = some (.int .i64 c.j) ∧ W.cell? ⟨w.heap.size, 3, none⟩ = some (.int .i64 c.c) ∧ W.cell? ⟨w.heap.size, 4, none⟩ = some (.int .i64 c.l) ∧ W.cell? ⟨w.heap.size, 5, none⟩ = some (.int .i64 c.t))
         (first | exact keepF Xl (by assumption) b9 | exact ⟨(Below.refl _ _).drew, X0, X1, X2, X3, X4, X5⟩ | exact ⟨Below.refl _ _, X0, X1, X2, X3, X4, X5⟩ | assumption)
         (first | (refine step_append_M (by rfl) (.tmp 22) (by rfl) l p g o cap (by rfl) (lmF V3.out (by assumption)) HN.out (by omega) ?_; intro v9 w9 hown9 b9; obtain ⟨p9, cap9, g9, rfl, hcp9, hL9⟩ := LM.own hown9; have L9 := Lib.hid hL9; clear hown9 hL9 hcp9) | (go_at_call 11; refine (WR.out _ _ _ _ _ (layF HL.out B3.out (by assumption)) L9.out).mono ?_; rintro e w9 ⟨rfl, b9⟩))
     rename_i hS
     have B4 := Lib.hid (B3.out.trans (hS.1.mono B3.out.size));have V4 := Lib.hid (V3.out.later hS.1);have H4 := Lib.hid (H3.out.later hS.1);have y0 := H4.out;clear hS B3 V3 H3 X0 X1 X2 X3 X4 X5 Xl WR;have X0 := y0.cell 0;have X1 := y0.cell 1;have X2 := y0.cell 2;have X3 := y0.cell 3;have X4 := y0.cell 4;have X5 := y0.cell 5;simp only [List.getElem?_toArray, List.getElem?_cons_zero, List.getElem?_cons_succ] at X0 X1 X2 X3 X4 X5;have Xl := y0.lt;clear y0;go_wp2_with fail;refine (RW.out _ _ _ _ _ (HL.out.later B4.out) V4.out).mono ?_;rintro e w5 ⟨rfl, b5⟩;have B5 := Lib.hid (B4.out.trans (b5.mono B4.out.size));have V5 := Lib.hid (V4.out.later b5);have H5 := Lib.hid (H4.out.later b5);have y0 := H5.out;clear b5 B4 V4 H4 X0 X1 X2 X3 X4 X5 Xl RW;have X0 := y0.cell 0;have X1 := y0.cell 1;have X2 := y0.cell 2;have X3 := y0.cell 3;have X4 := y0.cell 4;have X5 := y0.cell 5;simp only [List.getElem?_toArray, List.getElem?_cons_zero, List.getElem?_cons_succ] at X0 X1 X2 X3 X4 X5;have Xl := y0.lt;clear y0;have q1 : (st.toList == st.toList) = true := by simp
     have q2 : (ec == ec) = true := by simp
     have q3 : (cm == cm) = true := by simp
     go_wp2_with fail
     go_region_held3 (fun W => Below w5.heap.size w5 W ∧ W.cell? ⟨w.heap.size, 0, none⟩ = some (.int .i64 c.i) ∧ W.cell? ⟨w.heap.size, 1, none⟩ = some (.int .i64 c.b) ∧ W.cell? ⟨w.heap.size, 2, none⟩ = some (.int .i64 c.j) ∧ W.cell? ⟨w.heap.size, 3, none⟩ = some (.int .i64 c.c) ∧ W.cell? ⟨w.heap.size, 4, none⟩ = some (.int .i64 c.l) ∧ W.cell? ⟨w.heap.size, 5, none⟩ = some (.int .i64 c.t))
         (first | exact keepF Xl (by assumption) b9 | exact ⟨(Below.refl _ _).drew, X0, X1, X2, X3, X4, X5⟩ | exact ⟨Below.refl _ _, X0, X1, X2, X3, X4, X5⟩ | assumption)
         (first | (go_at_call 20; refine (MY.out _).mono ?_; rintro e w9 ⟨rfl, b9⟩) | (go_at_call 21; refine (RM.out _).mono ?_; rintro e w9 ⟨rfl, b9⟩))
     rename_i hS
     have B6 := Lib.hid (B5.out.trans (hS.1.mono B5.out.size));have V6 := Lib.hid (V5.out.later hS.1);have H6 := Lib.hid (H5.out.later hS.1);have y0 := H6.out;clear hS B5 V5 H5 X0 X1 X2 X3 X4 X5 Xl MY RM;have X0 := y0.cell 0;have X1 := y0.cell 1;have X2 := y0.cell 2;have X3 := y0.cell 3;have X4 := y0.cell 4;have X5 := y0.cell 5;simp only [List.getElem?_toArray, List.getElem?_cons_zero, List.getElem?_cons_succ] at X0 X1 X2 X3 X4 X5;have Xl := y0.lt;clear y0
     by_cases hz : ec = 0
     · subst hz
       have hst := HST.out;have hz := HEC.out;rw [if_pos hz] at hst;have RR := Lib.hid (RD.out hz);rw [hst] at RR;clear hst hz HST HEC RD q1 q2 q3;go_wp2_with fail;refine (RR.out _ (HL.out.later B6.out)).mono ?_;rintro e w7 ⟨b7, p7, k7, g7, rfl, hL7⟩;have B7 := Lib.hid (B6.out.trans (b7.mono B6.out.size));have V7 := Lib.hid (V6.out.later b7);have L7 := Lib.hid hL7;have H7 := Lib.hid (H6.out.later b7);clear b7 hL7 B6 V6 H6 X0 X1 X2 X3 X4 X5 Xl RR;unfold rdV Cf.val
       go_upto_region 10 with (fail)
       have ha := (Below.refl w7.heap.size w7).alloc (Nat.le_refl _) (.cells #[.int .i64 c.i, .int .i64 c.b, .int .i64 c.j, .int .i64 c.c, .int .i64 c.l, .int .i64 c.t] 27);have y0 := H7.out.later ha;have y1 := SBox.new w7 27 #[.int .i64 c.i, .int .i64 c.b, .int .i64 c.j, .int .i64 c.c, .int .i64 c.l, .int .i64 c.t];have B8 := Lib.hid (B7.out.trans (ha.mono B7.out.size));have V8 := Lib.hid (V7.out.later ha);have L8 := Lib.hid (L7.out.later ha);clear ha B7 V7 L7 H7
       generalize w7.alloc (.cells #[.int .i64 c.i, .int .i64 c.b, .int .i64 c.j, .int .i64 c.c, .int .i64 c.l, .int .i64 c.t] 27) = w8 at *
       generalize w7.heap.size = b8 at *
       have X0 := y0.cell 0;have X1 := y0.cell 1;have X2 := y0.cell 2;have X3 := y0.cell 3;have X4 := y0.cell 4;have X5 := y0.cell 5;simp only [List.getElem?_toArray, List.getElem?_cons_zero, List.getElem?_cons_succ] at X0 X1 X2 X3 X4 X5;have Xl := y0.lt;have Y0 := y1.cell 0;have Y1 := y1.cell 1;have Y2 := y1.cell 2;have Y3 := y1.cell 3;have Y4 := y1.cell 4;have Y5 := y1.cell 5;simp only [List.getElem?_toArray, List.getElem?_cons_zero, List.getElem?_cons_succ] at Y0 Y1 Y2 Y3 Y4 Y5;have Yl := y1.lt;clear y0 y1;have q4 : ∀ x : Int, (x == x) = true := fun x => by simp
       go_wp2_with fail;refine (SM.out _ _ _ _ _ _ _ _ L8.out V8.out).mono ?_;rintro e w9 ⟨rfl, b9⟩;have B9 := Lib.hid (B8.out.trans (b9.mono B8.out.size));clear b9 X0 X1 X2 X3 X4 X5 Xl Y0 Y1 Y2 Y3 Y4 Y5 Yl;go_wp2_with fail;refine (AL.out _ (HL.out.later B9.out)).mono ?_;rintro e w10 ⟨rfl, b10⟩;have B10 := Lib.hid (B9.out.trans (b10.mono B9.out.size));clear b10;go_wp2_with fail;go_ret;exact ⟨rfl, B10.out⟩
     · have t1 : (ec == 0) = false := by simpa using hz
       go_wp2_with fail;refine (AL.out _ (HL.out.later B6.out)).mono ?_;rintro e w7 ⟨rfl, b7⟩;have B7 := Lib.hid (B6.out.trans (b7.mono B6.out.size));clear b7;go_wp2_with fail;go_ret;exact ⟨rfl, B7.out⟩
end Go.Proofs.YtkljcgopikdjjaaGreatDoor.Tx
end
