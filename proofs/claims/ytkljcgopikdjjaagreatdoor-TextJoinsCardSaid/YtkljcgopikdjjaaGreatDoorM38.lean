/- Layer 37, the document's answer: the conf of lines. -/
import Derived.Test.YtkljcgopikdjjaaGreatDoorM34
import Derived.Great.Walk
import Derived.Test.YtkljcgopikdjjaaGreatDoorM36
import Derived.Test.YtkljcgopikdjjaaGreatDoorM27
import Derived.Deep.QuietTactic
import Derived.BigQuiet
set_option linter.unusedVariables false
set_option linter.unusedSimpArgs false
set_option maxRecDepth 100000
section
namespace Go.Proofs.YtkljcgopikdjjaaGreatDoor.Tx
set_option maxRecDepth 100000
set_option maxHeartbeats 1000000
open Go.RowKit Go.Shelf Go.Maps Oct
theorem geo05 (i b j : Int) (w : World) : Calls Tryz.prog 51 #[.agg #[.int .i64 i, .int .i64 b, .int .i64 j]] w fun e w' => e = .returned (.bool (Geo.mayG i b j)) ∧ Below w.heap.size w w' := by
 have h1 := SBox.new w 23 #[.int .i64 i, .int .i64 b, .int .i64 j];have B0 := Lib.hid ((Below.refl w.heap.size w).alloc (Nat.le_refl _) (.cells #[.int .i64 i, .int .i64 b, .int .i64 j] 23));have HE : Hid (Geo.mayG i b j = (decide (2 ≤ i) && decide (i ≤ 256) && (decide (8 ≤ b) && decide (b ≤ 1024)) && (decide (40 ≤ j) && decide (j ≤ 256)))) := Lib.hid rfl;have X0 := h1.cell 0;have X1 := h1.cell 1;have X2 := h1.cell 2;simp only [List.getElem?_toArray, List.getElem?_cons_zero, List.getElem?_cons_succ] at X0 X1 X2;have Xl := h1.lt;clear h1
 go_enter Tryz.func51, Tryz.ntmps51
 go_wp2_with fail
 all_goals
   go_ret;refine ⟨?_, B0.out⟩;rw [HE.out]
   simp_all <;> omega
theorem may21 (i c : Int) (w : World) : Calls Tryz.prog 97 #[.int .i64 i, .int .i64 c] w fun e w' => e = .returned (.bool (decide (2 ≤ i) && decide (i ≤ 256) && decide (1 ≤ c) && decide (c ≤ 8))) ∧ w' = w := by
 go_enter Tryz.func97, Tryz.ntmps97
 go_wp2_with fail
 all_goals
   go_ret;refine ⟨?_, rfl⟩
   simp_all <;> omega
theorem may23 (c l : Int) (w : World) : Calls Tryz.prog 98 #[.int .i64 c, .int .i64 l] w fun e w' => e = .returned (.bool (decide (1 ≤ c) && decide (c ≤ 8) && decide (1 ≤ l) && decide (l ≤ 256))) ∧ w' = w := by
 go_enter Tryz.func98, Tryz.ntmps98
 go_wp2_with fail
 all_goals
   go_ret;refine ⟨?_, rfl⟩
   simp_all <;> omega
def m27 (i c l t : Int) : Bool := (decide (2 ≤ i) && decide (i ≤ 256) && decide (1 ≤ c) && decide (c ≤ 8)) && (decide (1 ≤ c) && decide (c ≤ 8) && decide (1 ≤ l) && decide (l ≤ 256)) && decide (0 ≤ t) && decide (t ≤ 16)
theorem may27 (i c l t : Int) (w : World) : Calls Tryz.prog 52 #[.agg #[.int .i64 i, .int .i64 c, .int .i64 l, .int .i64 t]] w fun e w' => e = .returned (.bool (m27 i c l t)) ∧ Below w.heap.size w w' := by
 have h1 := SBox.new w 101 #[.int .i64 i, .int .i64 c, .int .i64 l, .int .i64 t];have B0 := Lib.hid ((Below.refl w.heap.size w).alloc (Nat.le_refl _) (.cells #[.int .i64 i, .int .i64 c, .int .i64 l, .int .i64 t] 101));have M1 := Lib.hid (fun W => may21 i c W);have M2 := Lib.hid (fun W => may23 c l W);have HE : Hid (m27 i c l t = (((decide (2 ≤ i) && decide (i ≤ 256) && decide (1 ≤ c) && decide (c ≤ 8)) && (decide (1 ≤ c) && decide (c ≤ 8) && decide (1 ≤ l) && decide (l ≤ 256)) && decide (0 ≤ t) && decide (t ≤ 16)))) := Lib.hid rfl
 generalize (decide (2 ≤ i) && decide (i ≤ 256) && decide (1 ≤ c) && decide (c ≤ 8)) = b1 at *
 generalize (decide (1 ≤ c) && decide (c ≤ 8) && decide (1 ≤ l) && decide (l ≤ 256)) = b2 at *
 have X0 := h1.cell 0;have X1 := h1.cell 1;have X2 := h1.cell 2;have X3 := h1.cell 3;simp only [List.getElem?_toArray, List.getElem?_cons_zero, List.getElem?_cons_succ] at X0 X1 X2 X3;have Xl := h1.lt;clear h1;cases b1 with
 | false =>
   go_enter Tryz.func52, Tryz.ntmps52
   go_wp2_with fail;refine (M1.out _).mono ?_;rintro e w9 ⟨rfl, rfl⟩;go_wp2_with fail;go_ret;exact ⟨by rw [HE.out]; rfl, B0.out⟩
 | true =>
   go_enter Tryz.func52, Tryz.ntmps52
   go_wp2_with fail;refine (M1.out _).mono ?_;rintro e w9 ⟨rfl, rfl⟩;go_wp2_with fail;refine (M2.out _).mono ?_;rintro e w9 ⟨rfl, rfl⟩;go_wp2_with fail
   all_goals
     go_ret;refine ⟨?_, B0.out⟩;rw [HE.out]
     simp_all <;> omega
theorem conf30 (i b j c l t : Int) (w : World) : Calls Tryz.prog 53 #[.agg #[.int .i64 c, .int .i64 l, .int .i64 t], .agg #[.int .i64 i, .int .i64 b, .int .i64 j]] w fun e w' => e = .returned (.agg #[.int .i64 i, .int .i64 c, .int .i64 l, .int .i64 t]) ∧ Below w.heap.size w w' := by
 have B0 := (((Below.refl w.heap.size w).alloc (Nat.le_refl _) (.cells #[.int .i64 c, .int .i64 l, .int .i64 t] 25)).alloc (by simp) (.cells #[.int .i64 i, .int .i64 b, .int .i64 j] 23)).alloc (by simp; omega) (.cells #[.int .i64 i, .int .i64 c, .int .i64 l, .int .i64 t] 101);have HB := Lib.hid B0;clear B0
 go_enter Tryz.func53, Tryz.ntmps53
 go_wp2_with fail;exact bodyPost_ret (v := .agg #[.int .i64 i, .int .i64 c, .int .i64 l, .int .i64 t]) (by simp [results, Tryz.results53, go_sem]) rfl ⟨rfl, HB.out⟩
theorem cf_may (x : Cf) : x.may = (Geo.mayG x.i x.b x.j && m27 x.i x.c x.l x.t) := by
 unfold Cf.may m27 Geo.mayG Geo.inR memOk;rw [Bool.eq_iff_iff];simp only [Bool.and_eq_true, decide_eq_true_eq]
 constructor
 · rintro ⟨⟨⟨⟨a, b⟩, c⟩, d⟩, ⟨e, f⟩, ⟨⟨g, h⟩, i⟩, j⟩; exact ⟨⟨⟨⟨a, b⟩, c⟩, d⟩, ⟨⟨⟨⟨⟨a, b⟩, e⟩, f⟩, ⟨⟨e, f⟩, g⟩, h⟩, i⟩, j⟩
 · rintro ⟨⟨⟨⟨a, b⟩, c⟩, d⟩, ⟨⟨⟨⟨⟨a, b⟩, e⟩, f⟩, ⟨⟨e, f⟩, g⟩, h⟩, i⟩, j⟩; exact ⟨⟨⟨⟨a, b⟩, c⟩, d⟩, ⟨e, f⟩, ⟨⟨g, h⟩, i⟩, j⟩
theorem rmay37 (x : Cf) (w : World) : Calls Tryz.prog 21 #[x.val] w fun e w' => e = .returned (.bool x.may) ∧ Below w.heap.size w w' := by
 have h1 := SBox.new w 27 x.cells;have B0 := Lib.hid ((Below.refl w.heap.size w).alloc (Nat.le_refl _) (.cells x.cells 27));have HX := Lib.hid h1;have G := Lib.hid (fun W => geo05 x.i x.b x.j W);have CF := Lib.hid (fun W => conf30 x.i x.b x.j x.c x.l x.t W);have M := Lib.hid (fun W => may27 x.i x.c x.l x.t W);have E := Lib.hid (cf_may x)
 generalize Geo.mayG x.i x.b x.j = g at *
 generalize m27 x.i x.c x.l x.t = m at *
 unfold Cf.val;unfold Cf.cells at *;have X0 := h1.cell 0;have X1 := h1.cell 1;have X2 := h1.cell 2;have X3 := h1.cell 3;have X4 := h1.cell 4;have X5 := h1.cell 5;simp only [List.getElem?_toArray, List.getElem?_cons_zero, List.getElem?_cons_succ] at X0 X1 X2 X3 X4 X5;have Xl := h1.lt;clear h1;cases g with
 | false =>
   go_enter Tryz.func21, Tryz.ntmps21
   go_wp2_with fail;refine (G.out _).mono ?_;rintro e w2 ⟨rfl, b2⟩;have HB2 := Lib.hid (B0.out.trans (b2.mono B0.out.size));clear b2;go_wp2_with fail;go_ret;exact ⟨by rw [E.out]; rfl, HB2.out⟩
 | true =>
   go_enter Tryz.func21, Tryz.ntmps21
   go_wp2_with fail;refine (G.out _).mono ?_;rintro e w2 ⟨rfl, b2⟩;have hx2 := HX.out.later b2;have HB2 := Lib.hid (B0.out.trans (b2.mono B0.out.size));clear b2 X0 X1 X2 X3 X4 X5 Xl;have Y0 := hx2.cell 0;have Y1 := hx2.cell 1;have Y2 := hx2.cell 2;have Y3 := hx2.cell 3;have Y4 := hx2.cell 4;have Y5 := hx2.cell 5;simp only [List.getElem?_toArray, List.getElem?_cons_zero, List.getElem?_cons_succ] at Y0 Y1 Y2 Y3 Y4 Y5;have Yl := hx2.lt;clear hx2;go_wp2_with fail;refine (CF.out _).mono ?_;rintro e w3 ⟨rfl, b3⟩;have HB3 := Lib.hid (HB2.out.trans (b3.mono HB2.out.size));clear b3;go_wp2_with fail;refine (M.out _).mono ?_;rintro e w4 ⟨rfl, b4⟩;have HB4 := Lib.hid (HB3.out.trans (b4.mono HB3.out.size));clear b4;go_wp2_with fail;go_ret;exact ⟨by rw [E.out]; rfl, HB4.out⟩
end Go.Proofs.YtkljcgopikdjjaaGreatDoor.Tx
end
section
namespace Go.Proofs.YtkljcgopikdjjaaGreatDoor.Tx
set_option maxRecDepth 100000
set_option maxHeartbeats 1000000
open Go.RowKit Go.Shelf Go.Maps Oct
theorem info_str : ∃ i, Tryz.prog.info? 9 = some i ∧ i.zero = some (.string ⟨#[]⟩) ∧ i.size = 1 ∧ i.bytes = 16 := info_parts (by kernel_rfl)
def rowS (l : List (List UInt8)) : List Value := l.map fun s => .string (B s)
def LS (W : World) (p : Option Addr) (g : Nat) (l : List (List UInt8)) : Prop := l ≠ [] → p = some ⟨g, 0, none⟩ ∧ g < W.heap.size ∧ ∀ i s, l[i]? = some s → W.cell? ⟨g, i, none⟩ = some (.string (B s))
theorem LS.own {W : World} {base : Nat} {v : Value} {l : List (List UInt8)} (h : W.ownsRow base 9 1 v l.length (rowS l)) : ∃ p cap g, v = .slice p l.length cap ∧ l.length ≤ cap ∧ LS W p g l := by
 rcases h.2 with ⟨rfl, h0⟩ | ⟨g, cap, cur, rfl, h1, h2, h3, h4, _⟩
 · exact ⟨none, 0, 0, by rw [h0], by omega, fun hn => absurd (List.eq_nil_of_length_eq_zero h0) hn⟩
 · have hg := (Array.getElem?_eq_some_iff.1 h2).1
   refine ⟨_, cap, g, rfl, h3, fun hn => ⟨rfl, hg, fun i s hs => ?_⟩⟩;have hi : i < l.length := (List.getElem?_eq_some_iff.1 hs).1;have h3 := World.ownsRow.cellAt h i (by omega);rw [h3];unfold rowS;rw [List.getElem?_map, hs]
   rfl
theorem LS.get {W : World} {p : Option Addr} {g : Nat} {l : List (List UInt8)} (h : LS W p g l) {i : Nat} {s : List UInt8} (hs : l[i]? = some s) : p = some ⟨g, 0, none⟩ ∧ g < W.heap.size ∧ W.cell? ⟨g, i, none⟩ = some (.string (B s)) := by
 have hn : l ≠ [] := by rintro rfl; simp at hs
 obtain ⟨h1, h2, h3⟩ := h hn;exact ⟨h1, h2, h3 i s hs⟩
theorem LS.later {W W' : World} {p : Option Addr} {g : Nat} {l : List (List UInt8)} (h : LS W p g l) (hb : Below W.heap.size W W') : LS W' p g l := fun hn => by
 obtain ⟨h1, h2, h3⟩ := h hn;exact ⟨h1, Nat.lt_of_lt_of_le h2 hb.size, fun i s hs => (cells_blk (hb.block g h2) i).trans (h3 i s hs)⟩
theorem ownsRow_later {W W' : World} {base : Nat} {e : TypeId} {sz : Nat} {v : Value} {n : Nat} {xs : List Value} (h : W.ownsRow base e sz v n xs) (hb : Below W.heap.size W W') : W'.ownsRow base e sz v n xs := by
 obtain ⟨h0, h1⟩ := h;refine ⟨h0, ?_⟩
 rcases h1 with h1 | ⟨g, cap, cur, rfl, hbs, hg, r⟩
 · exact .inl h1
 · exact .inr ⟨g, cap, cur, rfl, hbs, (hb.block g (Array.getElem?_eq_some_iff.1 hg).1).trans hg, r⟩
theorem head_row {W : World} {r z : Nat} {x : Cf} (h : SBox W r 9 (headC x)) (hz : z ≤ r) : W.ownsRow z 9 1 (.slice (some ⟨r, 0, none⟩) 7 7) 7 (rowS (allQ x [])) :=
 ⟨rfl, .inr ⟨r, 7, headC x, rfl, hz, h, Nat.le_refl _, by decide, rfl, rfl⟩⟩
theorem join_app (a b : List (List UInt8)) : joinQ (a ++ b) = joinQ a ++ joinQ b := by simp [joinQ]
theorem allQ_snoc (x : Cf) (l : List M) (m : M) : allQ x (l ++ [m]) = allQ x l ++ [lineL m] := by simp [allQ]
theorem allQ_len (x : Cf) (l : List M) : (allQ x l).length = 7 + l.length := by simp [allQ]; omega
theorem rwrite_no (x : Cf) (l : List M) (v : Value) (w : World) (hm : x.may = false) : Calls Tryz.prog 19 #[x.val, v] w (WrAns x l w) := by
 have hE : writeE x l = 2 := by unfold writeE; rw [hm]; rfl
 have h1 := SBox.new w 27 x.cells;have B0 := Lib.hid ((Below.refl w.heap.size w).alloc (Nat.le_refl _) (.cells x.cells 27));have HM := Lib.hid (fun W => rmay37 x W);rw [hm] at HM;unfold WrAns;rw [hE];unfold Cf.val at *;unfold Cf.cells at h1 B0;have X0 := h1.cell 0;have X1 := h1.cell 1;have X2 := h1.cell 2;have X3 := h1.cell 3;have X4 := h1.cell 4;have X5 := h1.cell 5;simp only [List.getElem?_toArray, List.getElem?_cons_zero, List.getElem?_cons_succ] at X0 X1 X2 X3 X4 X5;have Xl := h1.lt
 go_enter Tryz.func19, Tryz.ntmps19
 go_wp2_with fail;refine (HM.out _).mono ?_;rintro e w1 ⟨rfl, hb1⟩;have HB1 := Lib.hid (B0.out.trans (hb1.mono B0.out.size));clear hb1 h1;go_wp2_with fail;go_ret2;exact ⟨rfl, HB1.out⟩
set_option maxHeartbeats 4000000 in
theorem rwrite_yes (x : Cf) (hx : x.In) (l : List M) (hlen : l.length ≤ 20000) (hin : ∀ m ∈ l, m.In ∧ m.k < 256 ∧ m.size ≤ 100000) (pv : Option Addr) (gv ov cv : Nat) (wz : World) (hl : Lay wz) (hv : LM wz pv gv ov l) (hm : x.may = true) : Calls Tryz.prog 19 #[x.val, .slice pv l.length cv] wz (WrAns x l wz) := by
 obtain ⟨i0, hi, hz0, hz1, hz2⟩ := info_str;have h1 := SBox.new wz 27 x.cells;have B0 := Lib.hid ((Below.refl wz.heap.size wz).alloc (Nat.le_refl _) (.cells x.cells 27));have HX := Lib.hid h1;have HL := Lib.hid hl;have HV := Lib.hid hv;have HM := Lib.hid (fun W => rmay37 x W);have HH := Lib.hid (fun W h => rhead_any x hx W h);rw [hm] at HM;unfold Cf.val at *;unfold Cf.cells at *;have X0 := h1.cell 0;have X1 := h1.cell 1;have X2 := h1.cell 2;have X3 := h1.cell 3;have X4 := h1.cell 4;have X5 := h1.cell 5;simp only [List.getElem?_toArray, List.getElem?_cons_zero, List.getElem?_cons_succ] at X0 X1 X2 X3 X4 X5;have Xl := h1.lt;clear hl hv h1
 go_enter Tryz.func19, Tryz.ntmps19
 go_wp2_with fail;refine (HM.out _).mono ?_;rintro e w1 ⟨rfl, hb1⟩;have hx1 := HX.out.later hb1;have HB1 := Lib.hid (B0.out.trans (hb1.mono B0.out.size));clear hb1 X0 X1 X2 X3 X4 X5 Xl;have Y0 := hx1.cell 0;have Y1 := hx1.cell 1;have Y2 := hx1.cell 2;have Y3 := hx1.cell 3;have Y4 := hx1.cell 4;have Y5 := hx1.cell 5;simp only [List.getElem?_toArray, List.getElem?_cons_zero, List.getElem?_cons_succ] at Y0 Y1 Y2 Y3 Y4 Y5;have Yl := hx1.lt;clear hx1;go_wp2_with fail;refine (HH.out _ (HL.out.later HB1.out)).mono ?_;rintro e w2 ⟨r, rfl, hr, hrz, hb2⟩;have hwz := HB1.out.size;have OW := Lib.hid (head_row (z := wz.heap.size) hr (by omega));have HB2 := Lib.hid (HB1.out.trans (hb2.mono HB1.out.size));clear hb2 hr
 go_wp2
 go_loopw [6, 7] (fun v i wr => ∃ k : Nat, k ≤ l.length ∧ i = .int .i64 k ∧ wr.ownsRow wz.heap.size 9 1 v (7 + k) (rowS (allQ x (l.take k))) ∧ (∀ m ∈ l.take k, mayM m = true) ∧ Below wz.heap.size wz wr) (fun _ i _ => l.length - (intOf i).toNat)
 case atStart => exact ⟨0, by omega, rfl, by simpa using OW.out, by simp, HB2.out⟩
 case round =>
   obtain ⟨k, hk, rfl, hown, hmay, hb⟩ := hrel;have HB := Lib.hid hb;have HMY := Lib.hid hmay;have HOW := Lib.hid hown;have hsz := hb.size;clear hb hmay hown
   by_cases hlt : k < l.length
   · obtain ⟨m, hm0⟩ : ∃ m, l[k]? = some m := ⟨_, List.getElem?_eq_getElem hlt⟩
     have hml : m ∈ l := List.mem_of_getElem? hm0;obtain ⟨hmi, hmk, hms⟩ := hin m hml;have e1 : l.take (k + 1) = l.take k ++ [m] := by rw [List.take_add_one, hm0]; rfl
     obtain ⟨rfl, hgl, hc⟩ := HV.out.get hm0;have HC := Lib.hid hc;have hcr := hc.blk (HB.out.block gv hgl);obtain ⟨a0, a1, a2, a3, a4, a5, a6, a7, a8, a9, a10, a11⟩ := hcr;have hgr : gv < wr.heap.size := by omega
     have t1 : (k : Int) < l.length := by omega
     have MY := Lib.hid (fun W => may36 m W hmk hmi.d hms);cases hmm : mayM m with
     | false =>
       have hE : writeE x l = 2 := by
         unfold writeE;rw [hm];simp only [Bool.true_eq_false, if_false];rw [if_pos];rw [Bool.eq_false_iff];intro h;rw [List.all_eq_true] at h;rw [h m hml] at hmm;cases hmm
       rw [hmm] at MY;unfold M.val M.cells at MY;clear hc hmm hmi;go_wp2_with fail;refine (MY.out _).mono ?_;rintro e w5 ⟨rfl, hb5⟩;have HB5 := Lib.hid (HB.out.trans (hb5.mono HB.out.size));clear hb5;go_wp2_with fail;go_ret2;exact ⟨by rw [hE]; rfl, HB5.out⟩
     | true =>
       have hg15 := (may_good m hmi hmm).d15;have TD := Lib.hid (fun W h => told_any m hmi hmk hg15 hms W h)
       have HM1 := Lib.hid (show ∀ y ∈ l.take (k + 1), mayM y = true from by
         rw [e1]; intro y hy
         rcases List.mem_append.mp hy with h | h
         · exact HMY.out y h
         · simp at h; subst h; exact hmm)
       have HE1 := Lib.hid e1;rw [hmm] at MY;unfold M.val M.cells at MY TD;clear hc hmm hmi e1;go_wp2_with fail;refine (MY.out _).mono ?_;rintro e w5 ⟨rfl, hb5⟩;have hcr := (HC.out.blk (HB.out.block gv hgl)).blk (hb5.block gv hgr);have HB5 := Lib.hid (HB.out.trans (hb5.mono HB.out.size));have O5 := Lib.hid (ownsRow_later HOW.out hb5);have hg5 := Nat.lt_of_lt_of_le hgr hb5.size;clear hb5 a0 a1 a2 a3 a4 a5 a6 a7 a8 a9 a10 a11;obtain ⟨a0, a1, a2, a3, a4, a5, a6, a7, a8, a9, a10, a11⟩ := hcr;go_wp2_with fail;refine (TD.out _ (HL.out.later HB5.out)).mono ?_;rintro e w6 ⟨rfl, hb6⟩;have HB6 := Lib.hid (HB5.out.trans (hb6.mono HB5.out.size));have O6 := Lib.hid (ownsRow_later O5.out hb6);have hs6 := HB6.out.size;clear hb6 a0 a1 a2 a3 a4 a5 a6 a7 a8 a9 a10 a11
       go_wp2_with (at_builtin; refine wpList_append_lies _ rfl _ _ 59 rfl wz.heap.size 9 i0 (.string ⟨#[]⟩) 1 16 Tryz.underlying59 hi hz0 hz1 hz2 rfl (by decide) _ (7 + k) (rowS (allQ x (l.take k))) rfl (World.ownsRow.alloc O6.out _) ⟨w6.heap.size, 0, none⟩ 1 1 [.string (B (lineL m))] rfl rfl (World.news_of_block (SBox.new w6 _ _)) (by intro u hu; simp at hu; subst hu; rfl) (by decide) (by unfold maxLen; omega) (by omega) (by simp; omega) _ rfl ?_; intro g9 cap9 w9 hown9 hgrow9 hat9 hlt9; have B9 := Lib.hid ((HB6.out.alloc HB6.out.size (.cells #[.string (B (lineL m))] 9)).grown hgrow9 (by simp; omega) (fun q e => (O6.out.lt q e).1)); have O9 := Lib.hid hown9; clear hown9 hgrow9 hat9)
       refine ⟨⟨k + 1, by omega, by go_num, ?_, HM1.out, B9.out⟩, by simp [intOf]; omega⟩;have h := O9.out;rw [HE1.out, allQ_snoc]
       simpa [rowS, Nat.add_assoc] using h
   · have hkl : k = l.length := by omega
     subst hkl;have t1 : ¬ (l.length : Int) < l.length := by omega
     have hall : ∀ m ∈ l, mayM m = true := by
       have h := HMY.out;rw [List.take_length] at h;exact h
     have hown := HOW.out;rw [List.take_length, ← allQ_len x l] at hown;obtain ⟨p, cap, g, rfl, hcap, hls⟩ := LS.own hown;have hW : writeT x l = joinQ (allQ x l) := write_join x l;have htk : (linesT l).length ≤ 3311 * l.length := linesT_len l fun m hm => ⟨(hin m hm).1, hall m hm⟩;have hhd := headT_len x hx 6 (by omega)
     have htl : (joinQ (allQ x l)).length ≤ 70000000 := by
       rw [← hW];unfold writeT;simp only [List.length_append, beginB, List.length_cons, List.length_nil];omega
     have hE : writeE x l = if 262144 < (joinQ (allQ x l)).length then 5 else 0 := by
       unfold writeE;rw [hm, List.all_eq_true.mpr hall, hW]
       simp
     have HT := Lib.hid hW;have HLS := Lib.hid hls;have hla : (allQ x l).length ≤ 20007 := by rw [allQ_len]; omega
     have HE := Lib.hid hE;clear hE;clear hown hls hall hW htk hhd HMY HOW HH HM HX OW
     generalize allQ x l = all at *
     go_wp2
     go_loopw [8, 9] (fun v i wq => ∃ j : Nat, j ≤ all.length ∧ i = .int .i64 j ∧ v = .string (B (joinQ (all.take j))) ∧ wq = wr) (fun _ i _ => all.length - (intOf i).toNat)
     case atStart => exact ⟨0, by omega, rfl, rfl, rfl⟩
     case round =>
       obtain ⟨j, hj, rfl, rfl, rfl⟩ := hrel
       have hpre : (joinQ (all.take j)).length ≤ (joinQ all).length := by
         conv => rhs; rw [← List.take_append_drop j all, join_app]
         simp
       have z1 : (B (joinQ (all.take j))).size ≤ 70000000 := by rw [size_B]; omega
       by_cases hjl : j < all.length
       · obtain ⟨s, hs⟩ : ∃ s, all[j]? = some s := ⟨_, List.getElem?_eq_getElem hjl⟩
         have e1 : joinQ (all.take (j + 1)) = joinQ (all.take j) ++ (s ++ [10]) := by
           rw [List.take_add_one, hs, join_app]
           simp [joinQ]
         have hpre2 : (joinQ (all.take (j + 1))).length ≤ (joinQ all).length := by
           conv => rhs; rw [← List.take_append_drop (j + 1) all, join_app]
           simp
         have z2 : (B s).size ≤ 70000000 := by
           rw [size_B];rw [e1] at hpre2;simp only [List.length_append] at hpre2;omega
         obtain ⟨rfl, hgl, hc⟩ := HLS.out.get hs;have t1 : (j : Int) < all.length := by omega
         have hcat : B (joinQ (all.take j)) ++ B s ++ (⟨#[10]⟩ : ByteArray) = B (joinQ (all.take (j + 1))) := by
           rw [show (⟨#[10]⟩ : ByteArray) = B [10] from rfl, B_append, B_append, e1, List.append_assoc]
         have HCAT := Lib.hid hcat;clear e1 hpre hpre2 hcat hs;go_wp2_with fail;exact ⟨⟨j + 1, by omega, by go_num, by rw [← HCAT.out], trivial⟩, by simp [intOf]; omega⟩
       · have hje : j = all.length := by omega
         subst hje;have t1 : ¬ (all.length : Int) < all.length := by omega
         rw [List.take_length];have hzz : (B (joinQ all)).size = (joinQ all).length := size_B _;clear z1 hpre
         generalize joinQ all = tx at *
         by_cases hbig : 262144 < tx.length
         · have hE := HE.out
           rw [if_pos hbig] at hE;have t2 : (262144 : Int) < tx.length := by omega
           go_wp2_with fail;go_ret2;exact ⟨by rw [hE]; rfl, HB.out⟩
         · have hE := HE.out
           rw [if_neg hbig] at hE;have t2 : ¬ (262144 : Int) < tx.length := by omega
           go_wp2_with fail;go_ret2;exact ⟨by rw [hE, HT.out]; rfl, HB.out⟩
end Go.Proofs.YtkljcgopikdjjaaGreatDoor.Tx
end
section
namespace Go.Proofs.YtkljcgopikdjjaaGreatDoor.Tx
set_option maxRecDepth 100000
set_option maxHeartbeats 1000000
open Go.RowKit Go.Shelf Go.Maps Oct
theorem lines_none (w : List UInt8) (h : ∀ c ∈ w, c ≠ 10) : linesQ w = ([], w) := by
 induction w with
 | nil => rfl
 | cons c w ih =>
   have hc : ¬ c = 10 := h c List.mem_cons_self;have e := ih fun d hd => h d (List.mem_cons_of_mem _ hd);simp only [linesQ, if_neg hc, e]
theorem take_add (l : List UInt8) (f k : Nat) (h : f ≤ k) : (l.drop f).take (k + 1 - f) = (l.drop f).take (k - f) ++ (l.drop k).take 1 := by
 have e1 : l.drop k = (l.drop f).drop (k - f) := by rw [List.drop_drop, show f + (k - f) = k by omega]
 rw [e1, show k + 1 - f = (k - f) + 1 by omega];exact List.take_add
theorem rlines_any (s : ByteArray) (w : World) (hs : s.size ≤ 300000) : Calls Tryz.prog 58 #[.string s] w fun e w' => ∃ v, e = .returned (.tuple #[v, .string (B (linesQ (L s)).2)]) ∧ w'.ownsRow w.heap.size 9 1 v (linesQ (L s)).1.length (rowS (linesQ (L s)).1) ∧ Below w.heap.size w w' := by
 obtain ⟨i0, hi, hz0, hz1, hz2⟩ := info_str;have hLs := len_L s
 go_enter Tryz.func58, Tryz.ntmps58
 go_wp2
 go_loopw [4, 5, 6] (fun v fr i wr => ∃ (pre : List (List UInt8)) (f k : Nat), f ≤ k ∧ k ≤ s.size ∧ pre.length ≤ f ∧ fr = .int .i64 f ∧ i = .int .i64 k ∧ wr.ownsRow w.heap.size 9 1 v pre.length (rowS pre) ∧ (∀ c ∈ ((L s).drop f).take (k - f), c ≠ 10) ∧ linesQ (L s) = (pre ++ (linesQ ((L s).drop f)).1, (linesQ ((L s).drop f)).2) ∧ Below w.heap.size w wr) (fun _ _ i _ => s.size - (intOf i).toNat)
 case atStart => exact ⟨[], 0, 0, by omega, by omega, by simp, rfl, rfl, ⟨rfl, .inl ⟨rfl, rfl⟩⟩, by simp, by simp, Below.refl _ _⟩
 case round =>
   obtain ⟨pre, f, k, hfk, hk, hpl, rfl, rfl, hown, hno, hq, hb⟩ := hrel;have HB := Lib.hid hb;have HQ := Lib.hid hq;have HN := Lib.hid hno;have HO := Lib.hid hown;clear hb hq hno hown
   by_cases hlt : k < s.size
   · have hd : (L s).drop k = s[k] :: (L s).drop (k + 1) := drop_get s k hlt
     have hta := take_add (L s) f k hfk;rw [hd, List.take_succ_cons, List.take_zero] at hta
     have hsplit : (L s).drop f = ((L s).drop f).take (k - f) ++ s[k] :: (L s).drop (k + 1) := by
       conv => lhs; rw [← List.take_append_drop (k - f) ((L s).drop f), List.drop_drop, show f + (k - f) = k by omega, hd]
     by_cases h10 : s[k] = 10
     · have g2 : ((s[k].toNat : Int) == 10) = true := by rw [h10]; rfl
       have hx := ex_mid s f (k - f);rw [show f + (k - f) = k by omega] at hx
       have HQ2 := Lib.hid (show linesQ (L s) = ((pre ++ [((L s).drop f).take (k - f)]) ++ (linesQ ((L s).drop (k + 1))).1, (linesQ ((L s).drop (k + 1))).2) by
         have e := lines_app (((L s).drop f).take (k - f)) ((L s).drop (k + 1)) HN.out;rw [h10] at hsplit;rw [← hsplit] at e;rw [HQ.out, e]
         simp)
       have HX := Lib.hid hx;have hf2 : (f : Int) ≤ k := by omega
       have hsz := HB.out.size;clear hd hta hsplit h10
       go_wp2_with (at_builtin; refine wpList_append_lies _ rfl _ _ 59 rfl w.heap.size 9 i0 (.string ⟨#[]⟩) 1 16 Tryz.underlying59 hi hz0 hz1 hz2 rfl (by decide) _ pre.length (rowS pre) rfl (World.ownsRow.alloc HO.out _) ⟨wr.heap.size, 0, none⟩ 1 1 [.string (B (((L s).drop f).take (k - f)))] rfl rfl (World.news_of_block (SBox.new wr _ _)) (by intro u hu; simp at hu; subst hu; rfl) (by decide) (by unfold maxLen; omega) (by omega) (by simp; omega) _ rfl ?_; intro g9 cap9 w9 hown9 hgrow9 hat9 hlt9; have B9 := Lib.hid ((HB.out.alloc HB.out.size (.cells #[.string (B (((L s).drop f).take (k - f)))] 9)).grown hgrow9 (by simp; omega) (fun q e => (HO.out.lt q e).1)); have O9 := Lib.hid hown9; clear hown9 hgrow9 hat9)
       refine ⟨⟨pre ++ [((L s).drop f).take (k - f)], k + 1, k + 1, by omega, by omega, by simp; omega, by go_num, by go_num, ?_, by simp, HQ2.out, B9.out⟩, by simp [intOf]; omega⟩;have h := O9.out
       simpa [rowS] using h
     · have g2 : ((s[k].toNat : Int) == 10) = false := by
         rw [beq_eq_false_iff_ne]; intro e; exact h10 (UInt8.toNat_inj.mp (by show s[k].toNat = 10; omega))
       have HN2 := Lib.hid (show ∀ c ∈ ((L s).drop f).take (k + 1 - f), c ≠ 10 by
         rw [hta];intro c hc
         rcases List.mem_append.mp hc with h | h
         · exact HN.out c h
         · simp at h; subst h; exact h10)
       clear hd hta hsplit h10;go_wp2_with fail;exact ⟨⟨pre, f, k + 1, by omega, by omega, hpl, rfl, by go_num, HO.out, HN2.out, HQ.out, HB.out⟩, by simp [intOf]; omega⟩
   · have hke : k = s.size := by omega
     subst hke;have hx := ex_rest s f;have hno := HN.out;rw [List.take_of_length_le (by rw [List.length_drop]; omega)] at hno
     have HQ2 := Lib.hid (show linesQ (L s) = (pre, (L s).drop f) by
       rw [HQ.out, lines_none _ hno]; simp)
     have hf2 : (f : Int) ≤ s.size := by omega
     clear hno;go_wp2_with fail
     go_quiet (fail)
     go_wp2
     go_ret2;refine ⟨u4, ?_, ?_, HB.out.trans ((below_drewN _ _).mono HB.out.size)⟩
     · rw [HQ2.out]; rfl
     · rw [HQ2.out]; exact HO.out
end Go.Proofs.YtkljcgopikdjjaaGreatDoor.Tx
end
section
namespace Go.Proofs.YtkljcgopikdjjaaGreatDoor.Tx
set_option maxRecDepth 100000
set_option maxHeartbeats 1000000
open Go.RowKit Go.Shelf Go.Maps Oct
def fillC (w : World) (b : Nat) (y : Cf) : World := (((((w.setCell ⟨b, 0, none⟩ (.int .i64 y.i)).setCell ⟨b, 1, none⟩ (.int .i64 y.b)).setCell ⟨b, 2, none⟩ (.int .i64 y.j)).setCell ⟨b, 3, none⟩ (.int .i64 y.c)).setCell ⟨b, 4, none⟩ (.int .i64 y.l)).setCell ⟨b, 5, none⟩ (.int .i64 y.t)
theorem fillC_box {w : World} {b : Nat} {x : Cf} (h : SBox w b 27 x.cells) (y : Cf) : SBox (fillC w b y) b 27 y.cells := by
 unfold fillC Cf.cells at *;have h : SBox _ b 27 #[.int .i64 y.i, .int .i64 x.b, .int .i64 x.j, .int .i64 x.c, .int .i64 x.l, .int .i64 x.t] := h.set 0 (.int .i64 y.i);have h : SBox _ b 27 #[.int .i64 y.i, .int .i64 y.b, .int .i64 x.j, .int .i64 x.c, .int .i64 x.l, .int .i64 x.t] := h.set 1 (.int .i64 y.b);have h : SBox _ b 27 #[.int .i64 y.i, .int .i64 y.b, .int .i64 y.j, .int .i64 x.c, .int .i64 x.l, .int .i64 x.t] := h.set 2 (.int .i64 y.j);have h : SBox _ b 27 #[.int .i64 y.i, .int .i64 y.b, .int .i64 y.j, .int .i64 y.c, .int .i64 x.l, .int .i64 x.t] := h.set 3 (.int .i64 y.c);have h : SBox _ b 27 #[.int .i64 y.i, .int .i64 y.b, .int .i64 y.j, .int .i64 y.c, .int .i64 y.l, .int .i64 x.t] := h.set 4 (.int .i64 y.l);have h : SBox _ b 27 #[.int .i64 y.i, .int .i64 y.b, .int .i64 y.j, .int .i64 y.c, .int .i64 y.l, .int .i64 y.t] := h.set 5 (.int .i64 y.t);exact h
theorem fillC_tch (w : World) (b : Nat) (y : Cf) : Tch (fun q => q = b) w (fillC w b y) := ((((((Tch.refl (fun q => q = b) w).trans (Tch.cell (O := fun q => q = b) rfl)).trans (Tch.cell (O := fun q => q = b) rfl)).trans (Tch.cell (O := fun q => q = b) rfl)).trans (Tch.cell (O := fun q => q = b) rfl)).trans (Tch.cell (O := fun q => q = b) rfl)).trans (Tch.cell (O := fun q => q = b) rfl)
def cnfC (ls : List (List UInt8)) (k : Nat) (j : Nat) : Int := if j < k then cnfN ls j else 0
theorem brk_at (w : List UInt8) (k : Nat) (hk : k ≤ w.length) (h : ∀ c ∈ w.take k, c ≠ 61) (he : k < w.length → w[k]? = some 61) : brkB 61 w = if k < w.length then (w.take k, w.drop (k + 1), true) else (w, [], false) := by
 by_cases hl : k < w.length
 · rw [if_pos hl]
   have e : w = w.take k ++ 61 :: w.drop (k + 1) := by
     conv => lhs; rw [← List.take_append_drop k w]
     rw [List.drop_eq_getElem_cons hl];have := he hl;rw [List.getElem?_eq_getElem hl] at this
     injection this with this
     rw [this]
   conv => lhs; rw [e]
   exact brkB_of 61 _ _ h
 · rw [if_neg hl]
   rw [List.take_of_length_le (by omega)] at h
   have hb : (brkB 61 w).2.2 = false := by
     by_cases hb : (brkB 61 w).2.2 = true
     · have := brkB_found 61 w hb
       exact absurd rfl (h 61 (by rw [this]; simp))
     · simpa using hb
   obtain ⟨a, b⟩ := brkB_not 61 w hb;rw [← hb];exact Prod.ext a (Prod.ext b rfl)
def arrC (ls : List (List UInt8)) (k : Nat) : Array Value := #[.int .i64 (cnfC ls k 0), .int .i64 (cnfC ls k 1), .int .i64 (cnfC ls k 2), .int .i64 (cnfC ls k 3), .int .i64 (cnfC ls k 4), .int .i64 (cnfC ls k 5)]
theorem arr_step (ls : List (List UInt8)) (k : Nat) (hk : k < 6) : (arrC ls k).setIfInBounds k (.int .i64 (cnfN ls k)) = arrC ls (k + 1) := by
 match k, hk with
 | 0, _ | 1, _ | 2, _ | 3, _ | 4, _ | 5, _ => simp [arrC, cnfC]
theorem arr_same (ls : List (List UInt8)) (k : Nat) (hk : k < 6) (h : cnfN ls k = 0) : arrC ls (k + 1) = arrC ls k := by
 match k, hk, h with
 | 0, _, h | 1, _, h | 2, _, h | 3, _, h | 4, _, h | 5, _, h => simp [arrC, cnfC, h]
theorem arr_end (ls : List (List UInt8)) (k : Nat) (h : k = 6 ∨ k = ls.length) (hk : k ≤ 6) : arrC ls k = (confQ ls).cells := by
 have e : ∀ j, j < 6 → cnfC ls k j = cnfN ls j := fun j hj => by
   unfold cnfC
   by_cases hjk : j < k
   · rw [if_pos hjk]
   · rw [if_neg hjk]
     unfold cnfN;rw [List.getElem?_eq_none (by omega)]
 unfold arrC;rw [e 0 (by decide), e 1 (by decide), e 2 (by decide), e 3 (by decide), e 4 (by decide), e 5 (by decide)]
 rfl
theorem arr_cell (ls : List (List UInt8)) (k j : Nat) (hj : j < 6) : ∃ v, (arrC ls k)[j]? = some v := by
 match j, hj with
 | 0, _ | 1, _ | 2, _ | 3, _ | 4, _ | 5, _ => exact ⟨_, rfl⟩
theorem LS.belo {W W' : World} {p : Option Addr} {g n : Nat} {l : List (List UInt8)} (h : LS W p g l) (hb : Below n W W') (hn : W.heap.size ≤ n) : LS W' p g l := fun hne => by
 obtain ⟨h1, h2, h3⟩ := h hne;exact ⟨h1, Nat.lt_of_lt_of_le h2 hb.size, fun i s hs => (cells_blk (hb.block g (by omega)) i).trans (h3 i s hs)⟩
theorem rconf_any (ls : List (List UInt8)) (hll : ls.length ≤ 300000) (hw : ∀ w ∈ ls, w.length ≤ 100000) (p : Option Addr) (g cap : Nat) (w : World) (hl : Lay w) (hls : LS w p g ls) :
   Calls Tryz.prog 59 #[.slice p ls.length cap] w fun e w' => e = .returned (confQ ls).val ∧ Below w.heap.size w w' := by
 have h1 := SBox.new w 27 #[.int .i64 0, .int .i64 0, .int .i64 0, .int .i64 0, .int .i64 0, .int .i64 0];have B0 := (Below.refl w.heap.size w).alloc (Nat.le_refl _) (.cells #[.int .i64 0, .int .i64 0, .int .i64 0, .int .i64 0, .int .i64 0, .int .i64 0] 27);have hx0 := h1.later ((Below.refl _ _).alloc (Nat.le_refl _) (.cells #[.int .i64 0, .int .i64 0, .int .i64 0, .int .i64 0, .int .i64 0, .int .i64 0] 151));have ha0 := SBox.new (w.alloc (.cells #[.int .i64 0, .int .i64 0, .int .i64 0, .int .i64 0, .int .i64 0, .int .i64 0] 27)) 151 #[.int .i64 0, .int .i64 0, .int .i64 0, .int .i64 0, .int .i64 0, .int .i64 0];have hb0 := B0.alloc (by simp) (.cells #[.int .i64 0, .int .i64 0, .int .i64 0, .int .i64 0, .int .i64 0, .int .i64 0] 151);have hw1 : (w.alloc (.cells #[.int .i64 0, .int .i64 0, .int .i64 0, .int .i64 0, .int .i64 0, .int .i64 0] 27)).heap.size = w.heap.size + 1 := by simp
 rw [hw1] at ha0;have HX0 := Lib.hid hx0;have HA0 := Lib.hid ha0;have HB0 := Lib.hid hb0;have HL := Lib.hid hl;have HS := Lib.hid hls;clear h1 B0 hx0 ha0 hb0 hw1 hl hls
 go_enter Tryz.func59, Tryz.ntmps59
 go_wp2_with fail
 go_loopw [4] (fun i wr => ∃ k : Nat, k ≤ 6 ∧ k ≤ ls.length ∧ i = .int .i64 k ∧ SBox wr w.heap.size 27 Cf.zero.cells ∧ SBox wr (w.heap.size + 1) 151 (arrC ls k) ∧ Below w.heap.size w wr) (fun i _ => 6 - (intOf i).toNat)
 case atStart => exact ⟨0, by omega, by omega, rfl, HX0.out, HA0.out, HB0.out⟩
 case round =>
   obtain ⟨k, hk6, hkl, rfl, hxr, har, hbr⟩ := hrel;have HX := Lib.hid hxr;have HA := Lib.hid har;have HB := Lib.hid hbr;clear hxr har hbr
   by_cases hgo : k < ls.length ∧ k < 6
   · obtain ⟨hlt, h6⟩ := hgo
     have t1 : (k : Int) < ls.length := by omega
     have t2 : (k : Int) < 6 := by omega
     obtain ⟨s, hs⟩ : ∃ s, ls[k]? = some s := ⟨_, List.getElem?_eq_getElem hlt⟩;have hsl := hw s (List.mem_of_getElem? hs);obtain ⟨rfl, hgl, hc⟩ := (LS.belo HS.out HB.out (Nat.le_refl _)).get hs;have hsz : (B s).size = s.length := size_B s;have HSS := Lib.hid hs;clear hs;go_wp2_with fail
     go_loopw [5] (fun i wq => ∃ a : Nat, a ≤ s.length ∧ i = .int .i64 a ∧ (∀ c ∈ s.take a, c ≠ 61) ∧ wq = wr) (fun i _ => s.length - (intOf i).toNat)
     case atStart => exact ⟨0, by omega, rfl, by simp, rfl⟩
     case round =>
       obtain ⟨a, ha, rfl, hno, rfl⟩ := hrel
       by_cases has : a < s.length
       · have has2 : a < (B s).size := by rw [size_B]; exact has
         have hd := drop_get (B s) a has2;rw [L_B] at hd
         have hget : s[a]? = some (B s)[a] := by
           have := congrArg (fun z => z[0]?) hd
           simpa using this
         have t3 : (a : Int) < s.length := by omega
         by_cases h61 : (B s)[a] = 61
         · have g2 : (((B s)[a].toNat : Int) == 61) = true := by rw [h61]; rfl
           have hbr := brk_at s a (by omega) hno (fun _ => by rw [hget, h61]);rw [if_pos has] at hbr
           have HCV := Lib.hid (show cnfN ls k = unnumL (s.drop (a + 1)) by
             unfold cnfN cnfV;rw [HSS.out]
             simp [hbr])
           have hx := ex_rest (B s) (a + 1);rw [L_B, size_B] at hx;have UN := Lib.hid (fun W h => unnum_any (s.drop (a + 1)) (by rw [List.length_drop]; omega) W h);have t4 : (a : Int) + 1 ≤ s.length := by omega
           clear hd hget hbr h61 hno;go_wp2_with fail;refine (UN.out _ (HL.out.later HB.out)).mono ?_;rintro e w5 ⟨rfl, hb5⟩;have hA5 := HA.out.later hb5;obtain ⟨v0, hv0⟩ := arr_cell ls k k h6;have c5 := (hA5.cell k).trans hv0;have f5 := hA5.free k;have hset := hA5.set k (.int .i64 (unnumL (s.drop (a + 1))));rw [← HCV.out, arr_step ls k h6, HCV.out] at hset;have hX5 := HX.out.later hb5;have HT : Hid (Tch (fun q => q = w.heap.size + 1) w5 (w5.setCell ⟨w.heap.size + 1, k, none⟩ (.int .i64 (unnumL (s.drop (a + 1)))))) := Lib.hid (Tch.cell (O := fun q => q = w.heap.size + 1) rfl);have HA5 := Lib.hid hset;have HX5 := Lib.hid ((HT.out.block _ hX5.lt (by omega)).trans hX5);have hB5 := HB.out.trans (hb5.mono HB.out.size);have HB5 := Lib.hid (hB5.trans (HT.out.below fun i hi => ⟨Nat.lt_of_lt_of_le hi hB5.size, fun e => by omega⟩));have hl5 := hA5.lt;clear hb5 hA5 hX5 hset hv0 hB5;go_wp2_with fail;exact ⟨⟨k + 1, by omega, by omega, by go_num, HX5.out, HA5.out, HB5.out⟩, by simp [intOf]; omega⟩
         · have g2 : (((B s)[a].toNat : Int) == 61) = false := by
             rw [beq_eq_false_iff_ne]; intro e; exact h61 (UInt8.toNat_inj.mp (by show (B s)[a].toNat = 61; omega))
           have HN2 := Lib.hid (show ∀ c ∈ s.take (a + 1), c ≠ 61 by
             rw [List.take_add_one, hget];intro c hc
             rcases List.mem_append.mp hc with h | h
             · exact hno c h
             · simp at h; subst h; exact h61)
           clear hd hget h61 hno;go_wp2_with fail;exact ⟨⟨a + 1, by omega, by go_num, HN2.out, trivial⟩, by simp [intOf]; omega⟩
       · have hae : a = s.length := by omega
         subst hae;have hbr := brk_at s s.length (by omega) hno (fun h => absurd h (by omega));rw [if_neg (by omega)] at hbr
         have HA2 := Lib.hid (show SBox wr (w.heap.size + 1) 151 (arrC ls (k + 1)) by
           rw [arr_same ls k h6 (by
             unfold cnfN cnfV;rw [HSS.out]
             simp [hbr])]
           exact HA.out)
         have t3 : ¬ (s.length : Int) < s.length := by omega
         clear hbr hno;go_wp2_with fail;exact ⟨⟨k + 1, by omega, by omega, by go_num, HX.out, HA2.out, HB.out⟩, by simp [intOf]; omega⟩
   · have hend : k = 6 ∨ k = ls.length := by omega
     have hae := arr_end ls k hend hk6;have hA := HA.out;rw [hae] at hA;have hX := HX.out;have HX2 := Lib.hid hX;have HQ : Hid (arrC ls k = (confQ ls).cells) := Lib.hid hae;obtain ⟨cq, hcq⟩ : ∃ cq, confQ ls = cq := ⟨_, rfl⟩;rw [hcq] at hA HQ;have HCQ := Lib.hid hcq;clear hcq hae;unfold Cf.cells at hA;unfold Cf.zero Cf.cells at hX;have A0 := hA.cell 0;have A1 := hA.cell 1;have A2 := hA.cell 2;have A3 := hA.cell 3;have A4 := hA.cell 4;have A5 := hA.cell 5;simp only [List.getElem?_toArray, List.getElem?_cons_zero, List.getElem?_cons_succ] at A0 A1 A2 A3 A4 A5;have Al := hA.lt;have X0 := hX.cell 0;have X1 := hX.cell 1;have X2 := hX.cell 2;have X3 := hX.cell 3;have X4 := hX.cell 4;have X5 := hX.cell 5;simp only [List.getElem?_toArray, List.getElem?_cons_zero, List.getElem?_cons_succ] at X0 X1 X2 X3 X4 X5;have Xl := hX.lt;have F0 := hX.free 0;have F1 := hX.free 1;have F2 := hX.free 2;have F3 := hX.free 3;have F4 := hX.free 4;have F5 := hX.free 5;have HF := Lib.hid (fillC_box HX2.out cq);have HT := Lib.hid (fillC_tch wr w.heap.size cq);clear hA hX HQ HX HA;have hk' : ¬ ((k : Int) < ls.length ∧ (k : Int) < 6) := by omega
     rcases Nat.lt_or_ge k ls.length with hl1 | hl1
     · have t1 : (k : Int) < ls.length := by omega
       have t2 : ¬ (k : Int) < 6 := by omega
       go_wp2_with fail;have hsw := HB.out.size;have hwl := HX2.out.lt;change bodyPost _ _ _ _ _ (fillC wr w.heap.size cq);have hb9 : Below w.heap.size w (fillC wr w.heap.size cq) := HB.out.trans (HT.out.below fun i hi => ⟨by omega, by omega⟩);have hX9 := HF.out;unfold Cf.cells at hX9
       generalize fillC wr w.heap.size cq = w99 at *
       have G0 := hX9.cell 0;have G1 := hX9.cell 1;have G2 := hX9.cell 2;have G3 := hX9.cell 3;have G4 := hX9.cell 4;have G5 := hX9.cell 5;simp only [List.getElem?_toArray, List.getElem?_cons_zero, List.getElem?_cons_succ] at G0 G1 G2 G3 G4 G5;have Gl := hX9.lt;refine bodyPost_ret (v := cq.val) ?_ rfl ⟨by rw [HCQ.out], hb9⟩
       simp [results, Tryz.f59, go_sem, G0, G1, G2, G3, G4, G5, Cf.val]
     · have t1 : ¬ (k : Int) < ls.length := by omega
       go_wp2_with fail;have hsw := HB.out.size;have hwl := HX2.out.lt;change bodyPost _ _ _ _ _ (fillC wr w.heap.size cq);have hb9 : Below w.heap.size w (fillC wr w.heap.size cq) := HB.out.trans (HT.out.below fun i hi => ⟨by omega, by omega⟩);have hX9 := HF.out;unfold Cf.cells at hX9
       generalize fillC wr w.heap.size cq = w99 at *
       have G0 := hX9.cell 0;have G1 := hX9.cell 1;have G2 := hX9.cell 2;have G3 := hX9.cell 3;have G4 := hX9.cell 4;have G5 := hX9.cell 5;simp only [List.getElem?_toArray, List.getElem?_cons_zero, List.getElem?_cons_succ] at G0 G1 G2 G3 G4 G5;have Gl := hX9.lt;refine bodyPost_ret (v := cq.val) ?_ rfl ⟨by rw [HCQ.out], hb9⟩
       simp [results, Tryz.f59, go_sem, G0, G1, G2, G3, G4, G5, Cf.val]
end Go.Proofs.YtkljcgopikdjjaaGreatDoor.Tx
end
