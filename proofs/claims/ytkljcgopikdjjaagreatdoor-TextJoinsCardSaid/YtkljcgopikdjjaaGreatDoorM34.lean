/- Layer 37, the document's answer: the lines of a conf. -/
import Derived.Test.YtkljcgopikdjjaaGreatDoorM26
import Derived.Test.YtkljcgopikdjjaaGreatDoorM07
import Derived.Test.YtkljcgopikdjjaaGreatDoorM11
import Derived.Test.YtkljcgopikdjjaaGreatDoorM08
import Derived.Test.YtkljcgopikdjjaaGreatDoorM12
import Derived.Test.YtkljcgopikdjjaaGreatDoorM28
import Derived.Test.YtkljcgopikdjjaaGreatDoorM29
import Derived.Deep.MidRow
import Derived.Deep.DeepCutAuto
import Derived.Test.YtkljcgopikdjjaaGreatDoorM13
import Derived.BigRegion
import Derived.Deep.RegionHeld3
set_option linter.unusedVariables false
set_option linter.unusedSimpArgs false
set_option maxRecDepth 100000
section
namespace Go.Proofs.YtkljcgopikdjjaaGreatDoor.Tx
set_option maxRecDepth 100000
set_option maxHeartbeats 1000000
open Go.RowKit Go.Shelf Go.Maps Oct
def procE (c l t : Int) : Int := if c < 1 ∨ 8 < c then 2 else memE l t
theorem procnew_any (i : Nat) (c l t : Int) (w : World) (h2 : 2 ≤ i) (h6 : i ≤ 256) :
   Calls Tryz.prog 50 #[.agg (cfC i c l t)] w fun e w' => ∃ v, e = .returned (.tuple #[v, .int .i64 (procE c l t)]) ∧ Below w.heap.size w w' := by
 have HX0 := SBox.new w 101 (cfC i c l t);have HB0 := Lib.hid ((Below.refl w.heap.size w).alloc (Nat.le_refl _) (.cells (cfC i c l t) 101));have HXX := Lib.hid HX0;unfold cfC at HX0 HB0 HXX ⊢;have X0 := HX0.cell 0;have X1 := HX0.cell 1;have X2 := HX0.cell 2;have X3 := HX0.cell 3;simp only [List.getElem?_toArray, List.getElem?_cons_zero, List.getElem?_cons_succ] at X0 X1 X2 X3;have Xl := HX0.lt;clear HX0
 by_cases hc : c < 1 ∨ 8 < c
 · have hE : procE c l t = 2 := if_pos hc
   have HN := Lib.hid (fun W => model_bad i c W h2 h6 hc);clear hc
   go_enter Tryz.func50, Tryz.ntmps50
   go_wp2_with fail;refine (HN.out _).mono ?_;rintro e w1 ⟨rfl, hb1⟩;have HB1 := Lib.hid (HB0.out.trans (hb1.mono HB0.out.size));clear hb1;go_wp2_with fail;go_ret2;exact ⟨_, by rw [hE]; rfl, HB1.out⟩
 · have hE : procE c l t = memE l t := if_neg hc
   have h1 : 1 ≤ c := by omega
   have h8 : c ≤ 8 := by omega
   have HN := Lib.hid (fun W => model_new i c W h2 h6 h1 h8)
   go_enter Tryz.func50, Tryz.ntmps50
   go_wp2_with fail;refine (HN.out _).mono ?_;rintro e w1 ⟨b1, rfl, hm, hb1⟩;have HB1 := Lib.hid (HB0.out.trans (hb1.mono HB0.out.size));have hx1 := HXX.out.later hb1;have HO := Lib.hid (on_any i b1 c l t w1 h2 h6 h1 h8 hm);unfold cfC at HO;clear hb1 hm;have Y0 := hx1.cell 0;have Y1 := hx1.cell 1;have Y2 := hx1.cell 2;have Y3 := hx1.cell 3;simp only [List.getElem?_toArray, List.getElem?_cons_zero, List.getElem?_cons_succ] at Y0 Y1 Y2 Y3;have Yl := hx1.lt;go_wp2_with fail;refine HO.out.mono ?_;rintro e w2 ⟨v, rfl, hb2⟩;have HB2 := Lib.hid (HB1.out.trans (hb2.mono HB1.out.size));clear hb2;go_wp2_with fail;go_ret2;exact ⟨_, by rw [hE]; rfl, HB2.out⟩
structure Cf where
 i : Int
 b : Int
 j : Int
 c : Int
 l : Int
 t : Int
def Cf.val (x : Cf) : Value := .agg #[.int .i64 x.i, .int .i64 x.b, .int .i64 x.j, .int .i64 x.c, .int .i64 x.l, .int .i64 x.t]
def Cf.may (x : Cf) : Bool := Geo.mayG x.i x.b x.j && (decide (1 ≤ x.c) && decide (x.c ≤ 8) && memOk x.l x.t)
theorem may_conf (x : Cf) (w : World) : Calls Tryz.prog 20 #[x.val] w fun e w' => e = .returned (.bool x.may) ∧ Below w.heap.size w w' := by
 obtain ⟨i, b, j, c, l, t⟩ := x;unfold Cf.val;have HX0 := SBox.new w 27 #[.int .i64 i, .int .i64 b, .int .i64 j, .int .i64 c, .int .i64 l, .int .i64 t];have HB0 := Lib.hid ((Below.refl w.heap.size w).alloc (Nat.le_refl _) (.cells #[.int .i64 i, .int .i64 b, .int .i64 j, .int .i64 c, .int .i64 l, .int .i64 t] 27));have HXX := Lib.hid HX0;have X0 := HX0.cell 0;have X1 := HX0.cell 1;have X2 := HX0.cell 2;have X3 := HX0.cell 3;have X4 := HX0.cell 4;have X5 := HX0.cell 5;simp only [List.getElem?_toArray, List.getElem?_cons_zero, List.getElem?_cons_succ] at X0 X1 X2 X3 X4 X5;have Xl := HX0.lt;clear HX0;have HG := Lib.hid (fun W => Geo.may_any i b j W);unfold Geo.geoV at HG;obtain ⟨g, hg⟩ : ∃ g, Geo.mayG i b j = g := ⟨_, rfl⟩;rw [hg] at HG
 go_enter Tryz.func20, Tryz.ntmps20
 cases g with
 | false =>
   have hE : (Cf.mk i b j c l t).may = false := by unfold Cf.may; simp only [hg]; rfl
   go_wp2_with fail;refine (HG.out _).mono ?_;rintro e w1 ⟨rfl, hb1⟩;have HB1 := Lib.hid (HB0.out.trans (hb1.mono HB0.out.size));clear hb1;go_wp2_with fail;go_ret;exact ⟨by rw [hE]; rfl, HB1.out⟩
 | true =>
   go_wp2_with fail;refine (HG.out _).mono ?_;rintro e w1 ⟨rfl, hb1⟩;have HB1 := Lib.hid (HB0.out.trans (hb1.mono HB0.out.size));have hx1 := HXX.out.later hb1;clear hb1;have Y0 := hx1.cell 0;have Y1 := hx1.cell 1;have Y2 := hx1.cell 2;have Y3 := hx1.cell 3;have Y4 := hx1.cell 4;have Y5 := hx1.cell 5;simp only [List.getElem?_toArray, List.getElem?_cons_zero, List.getElem?_cons_succ] at Y0 Y1 Y2 Y3 Y4 Y5;have Yl := hx1.lt
   have hi : 2 ≤ i ∧ i ≤ 256 := by
     unfold Geo.mayG Geo.inR at hg
     simp at hg
     exact hg.1.1
   obtain ⟨n, rfl⟩ : ∃ n : Nat, i = n := ⟨i.toNat, by omega⟩;have HP := Lib.hid (fun W => procnew_any n c l t W (by omega) (by omega));unfold cfC at HP;go_wp2_with fail;refine (HP.out _).mono ?_;rintro e w2 ⟨v, rfl, hb2⟩;have HB2 := Lib.hid (HB1.out.trans (hb2.mono HB1.out.size))
   have hE : (Cf.mk n b j c l t).may = decide (procE c l t = 0) := by
     unfold Cf.may procE memE;simp only [hg, Bool.true_and]
     by_cases hc : c < 1 ∨ 8 < c
     · rw [if_pos hc]
       have : (decide (1 ≤ c) && decide (c ≤ 8)) = false := by simp; omega
       rw [this]; rfl
     · rw [if_neg hc]
       have : (decide (1 ≤ c) && decide (c ≤ 8)) = true := by simp; omega
       rw [this];cases memOk l t <;> rfl
   clear hb2;go_wp2_with fail;go_ret;exact ⟨by rw [hE]; simp; rfl, HB2.out⟩
end Go.Proofs.YtkljcgopikdjjaaGreatDoor.Tx
end
section
namespace Go.Proofs.YtkljcgopikdjjaaGreatDoor.Tx
open Go Oct
def nmH : Nat → List UInt8
 | 0 => [105, 110, 111, 100, 101, 115, 61] | 1 => [98, 108, 111, 99, 107, 115, 61] | 2 => [106, 111, 117, 114, 110, 97, 108, 61]
 | 3 => [99, 111, 114, 101, 115, 61] | 4 => [108, 111, 103, 61] | 5 => [116, 114, 105, 101, 115, 61] | _ => []
def beginB : List UInt8 := [98, 101, 103, 105, 110]
def Cf.get (x : Cf) : Nat → Int
 | 0 => x.i | 1 => x.b | 2 => x.j | 3 => x.c | 4 => x.l | _ => x.t
def Cf.cells (x : Cf) : Array Value := #[.int .i64 x.i, .int .i64 x.b, .int .i64 x.j, .int .i64 x.c, .int .i64 x.l, .int .i64 x.t]
def Cf.In (x : Cf) : Prop := ∀ k, -9223372036854775808 ≤ x.get k ∧ x.get k ≤ 9223372036854775807
def headL (x : Cf) (k : Nat) : List UInt8 := nmH k ++ Lib.itoa (x.get k)
def headT (x : Cf) : Nat → List UInt8
 | 0 => []
 | k + 1 => headT x k ++ (headL x k ++ [10])
def linesT : List M → List UInt8
 | [] => []
 | m :: l => lineL m ++ [10] ++ linesT l
def writeT (x : Cf) (l : List M) : List UInt8 := headT x 6 ++ (beginB ++ [10]) ++ linesT l
noncomputable def writeE (x : Cf) (l : List M) : Int := if x.may = false then 2 else if l.all mayM = false then 2 else if 262144 < (writeT x l).length then 5 else 0
theorem nmH_len : ∀ k, k < 6 → (nmH k).length ≤ 8 := by decide
theorem headL_len (x : Cf) (hx : x.In) (k : Nat) (hk : k < 6) : (headL x k).length ≤ 33 := by
 have h1 := nmH_len k hk;have h2 := itoa_len (x.get k) (hx k).1 (hx k).2;unfold headL;rw [List.length_append];omega
theorem headT_len (x : Cf) (hx : x.In) : ∀ k, k ≤ 6 → (headT x k).length ≤ 34 * k := by
 intro k
 induction k with
 | zero => intro _; simp [headT]
 | succ k ih =>
   intro hk;have h1 := ih (by omega);have h2 := headL_len x hx k (by omega);simp only [headT, List.length_append, List.length_cons, List.length_nil];omega
theorem may_size (x : M) (hx : x.In) (h : mayM x = true) : x.size ≤ 1020 := by
 have hm := (mayM_iff x).mp h;have ht : x.t.length ≤ 255 := by have := hm.t; omega
 have hc : x.p.length ≤ 255 ∧ x.p2.length ≤ 255 ∧ x.da.length ≤ 255 := by
   by_cases h8 : bitB (hasK x.k) 8 = true
   · have hf := Call.check_fits (hm.ck h8)
     exact ⟨hf.p, hf.p2, hf.da⟩
   · have hb := hm.b8
     rw [Bool.not_eq_true] at h8;rw [h8] at hb;simp only [Bool.false_or, decide_eq_true_eq] at hb;have h1 := congrArg (fun c => c.p.size) hb;have h2 := congrArg (fun c => c.p2.size) hb;have h3 := congrArg (fun c => c.da.size) hb;have h1 : x.p.length = 0 := h1;have h2 : x.p2.length = 0 := h2;have h3 : x.da.length = 0 := h3;omega
 unfold M.size;omega
def fieldB (x : M) : Nat → Nat
 | 4 => 3 * x.p.length | 5 => 3 * x.p2.length | 9 => 3 * x.da.length | 10 => 3 * x.t.length | _ => 25
theorem tellF_len2 (x : M) (h : x.In) (k : Nat) : (tellF k x).length ≤ fieldB x k := by
 have hi := h.ino;have hz := h.sz
 match k with
 | 0 => have := numT_len x.co h.co0 h.co1; simp only [tellF, fieldB]; omega
 | 1 => have := numT_len x.n h.n0 h.n1; simp only [tellF, fieldB]; omega
 | 2 => have := numT_len x.ino (by omega) (by omega); simp only [tellF, fieldB]; omega
 | 3 => have := cw_len x.d; simp only [tellF, fieldB]; omega
 | 4 => have := strT_len x.p; simp only [tellF, fieldB]; omega
 | 5 => have := strT_len x.p2; simp only [tellF, fieldB]; omega
 | 6 => have := numT_len x.fd h.fd0 h.fd1; simp only [tellF, fieldB]; omega
 | 7 => have := numT_len x.pg h.pg0 h.pg1; simp only [tellF, fieldB]; omega
 | 8 => have := numT_len x.sz (by omega) (by omega); simp only [tellF, fieldB]; omega
 | 9 => have := strT_len x.da; simp only [tellF, fieldB]; omega
 | 10 => have := strT_len x.t; simp only [tellF, fieldB]; omega
 | k + 11 => simp [tellF, fieldB]
theorem lineTo_step (x : M) (k : Nat) : (lineTo x (k + 1)).length ≤ (lineTo x k).length + (6 + (tellF k x).length) := by
 have b := nm_len k;simp only [lineTo]
 split
 · omega
 · simp only [List.length_append, List.length_cons]; omega
theorem lineL_len (x : M) (h : x.In) : (lineL x).length ≤ 250 + 3 * x.size := by
 rw [← lineTo_full];have h0 : (lineTo x 0).length ≤ 6 := kw_len x.k;have s0 : (lineTo x 1).length ≤ (lineTo x 0).length + (6 + (tellF 0 x).length) := lineTo_step x 0;have s1 : (lineTo x 2).length ≤ (lineTo x 1).length + (6 + (tellF 1 x).length) := lineTo_step x 1;have s2 : (lineTo x 3).length ≤ (lineTo x 2).length + (6 + (tellF 2 x).length) := lineTo_step x 2;have s3 : (lineTo x 4).length ≤ (lineTo x 3).length + (6 + (tellF 3 x).length) := lineTo_step x 3;have s4 : (lineTo x 5).length ≤ (lineTo x 4).length + (6 + (tellF 4 x).length) := lineTo_step x 4;have s5 : (lineTo x 6).length ≤ (lineTo x 5).length + (6 + (tellF 5 x).length) := lineTo_step x 5;have s6 : (lineTo x 7).length ≤ (lineTo x 6).length + (6 + (tellF 6 x).length) := lineTo_step x 6;have s7 : (lineTo x 8).length ≤ (lineTo x 7).length + (6 + (tellF 7 x).length) := lineTo_step x 7;have s8 : (lineTo x 9).length ≤ (lineTo x 8).length + (6 + (tellF 8 x).length) := lineTo_step x 8;have s9 : (lineTo x 10).length ≤ (lineTo x 9).length + (6 + (tellF 9 x).length) := lineTo_step x 9;have s10 : (lineTo x 11).length ≤ (lineTo x 10).length + (6 + (tellF 10 x).length) := lineTo_step x 10;have t0 := tellF_len2 x h 0; have t1 := tellF_len2 x h 1; have t2 := tellF_len2 x h 2; have t3 := tellF_len2 x h 3; have t4 := tellF_len2 x h 4; have t5 := tellF_len2 x h 5;have t6 := tellF_len2 x h 6; have t7 := tellF_len2 x h 7; have t8 := tellF_len2 x h 8; have t9 := tellF_len2 x h 9; have t10 := tellF_len2 x h 10;simp only [fieldB] at t0 t1 t2 t3 t4 t5 t6 t7 t8 t9 t10;unfold M.size;omega
theorem linesT_len (l : List M) (h : ∀ m ∈ l, m.In ∧ mayM m = true) : (linesT l).length ≤ 3311 * l.length := by
 induction l with
 | nil => simp [linesT]
 | cons m l ih =>
   have h1 := ih fun x hx => h x (List.mem_cons_of_mem _ hx);obtain ⟨a, b⟩ := h m List.mem_cons_self;have h2 := lineL_len m a;have h3 := may_size m a b;simp only [linesT, List.length_append, List.length_cons, List.length_nil];omega
end Go.Proofs.YtkljcgopikdjjaaGreatDoor.Tx
end
section
namespace Go.Proofs.YtkljcgopikdjjaaGreatDoor.Tx
open Go.RowKit Go.Shelf Go.Maps Oct
structure CellsM (W : World) (g o : Nat) (x : M) : Prop where
 c0 : W.cell? ⟨g, o, none⟩ = some (.int .u8 x.k)
 c1 : W.cell? ⟨g, o + 1, none⟩ = some (.int .i64 x.co)
 c2 : W.cell? ⟨g, o + 2, none⟩ = some (.int .i64 x.n)
 c3 : W.cell? ⟨g, o + 3, none⟩ = some (.int .u32 x.ino)
 c4 : W.cell? ⟨g, o + 4, none⟩ = some (.int .u8 x.d)
 c5 : W.cell? ⟨g, o + 5, none⟩ = some (.string (B x.p))
 c6 : W.cell? ⟨g, o + 6, none⟩ = some (.string (B x.p2))
 c7 : W.cell? ⟨g, o + 7, none⟩ = some (.int .i64 x.fd)
 c8 : W.cell? ⟨g, o + 8, none⟩ = some (.int .i64 x.pg)
 c9 : W.cell? ⟨g, o + 9, none⟩ = some (.int .u32 x.sz)
 c10 : W.cell? ⟨g, o + 10, none⟩ = some (.string (B x.da))
 c11 : W.cell? ⟨g, o + 11, none⟩ = some (.string (B x.t))
theorem cells_blk {W W' : World} {g : Nat} (h : W'.heap[g]? = W.heap[g]?) (o : Nat) : W'.cell? ⟨g, o, none⟩ = W.cell? ⟨g, o, none⟩ := by simp [World.cell?, h]
theorem CellsM.blk {W W' : World} {g o : Nat} {x : M} (c : CellsM W g o x) (h : W'.heap[g]? = W.heap[g]?) : CellsM W' g o x :=
 ⟨(cells_blk h _).trans c.c0, (cells_blk h _).trans c.c1, (cells_blk h _).trans c.c2, (cells_blk h _).trans c.c3, (cells_blk h _).trans c.c4, (cells_blk h _).trans c.c5, (cells_blk h _).trans c.c6, (cells_blk h _).trans c.c7, (cells_blk h _).trans c.c8, (cells_blk h _).trans c.c9, (cells_blk h _).trans c.c10, (cells_blk h _).trans c.c11⟩
def LM (W : World) (p : Option Addr) (g o : Nat) (l : List M) : Prop := l ≠ [] → p = some ⟨g, o, none⟩ ∧ g < W.heap.size ∧ ∀ i x, l[i]? = some x → CellsM W g (o + i * 12) x
theorem LM.blk {W W' : World} {p : Option Addr} {g o : Nat} {l : List M} (h : LM W p g o l) (hs : W.heap.size ≤ W'.heap.size) (hb : g < W.heap.size → W'.heap[g]? = W.heap[g]?) : LM W' p g o l := fun hn => by
 obtain ⟨h1, h2, h3⟩ := h hn;exact ⟨h1, Nat.lt_of_lt_of_le h2 hs, fun i x hx => (h3 i x hx).blk (hb h2)⟩
theorem LM.later {W W' : World} {p : Option Addr} {g o : Nat} {l : List M} (h : LM W p g o l) (hb : Below W.heap.size W W') : LM W' p g o l := h.blk hb.size fun hg => hb.block g hg
theorem LM.nil (W : World) (p : Option Addr) (g o : Nat) : LM W p g o [] := fun h => absurd rfl h
theorem LM.get {W : World} {p : Option Addr} {g o : Nat} {l : List M} (h : LM W p g o l) {i : Nat} {x : M} (hx : l[i]? = some x) : p = some ⟨g, o, none⟩ ∧ g < W.heap.size ∧ CellsM W g (o + i * 12) x := by
 have hn : l ≠ [] := by rintro rfl; simp at hx
 obtain ⟨h1, h2, h3⟩ := h hn;exact ⟨h1, h2, h3 i x hx⟩
def rowM (l : List M) : List Value := l.flatMap fun x => x.cells.toList
theorem rowM_len (l : List M) : (rowM l).length = l.length * 12 := by
 induction l with
 | nil => rfl
 | cons x l ih =>
   have : (rowM (x :: l)) = x.cells.toList ++ rowM l := rfl;rw [this, List.length_append, ih]
   simp [M.cells]
   omega
theorem rowM_get (l : List M) : ∀ (i : Nat) (x : M), l[i]? = some x → ∀ j, j < 12 → (rowM l)[i * 12 + j]? = x.cells.toList[j]? := by
 induction l with
 | nil => intro i x h; simp at h
 | cons y l ih =>
   intro i x h j hj;have e : (rowM (y :: l)) = y.cells.toList ++ rowM l := rfl;have hl : y.cells.toList.length = 12 := rfl;rw [e];cases i with
   | zero =>
     simp only [List.getElem?_cons_zero, Option.some.injEq] at h;subst h;rw [List.getElem?_append_left (by omega)]
     simp
   | succ i =>
     simp only [List.getElem?_cons_succ] at h;rw [List.getElem?_append_right (by omega), hl, show (i + 1) * 12 + j - 12 = i * 12 + j by omega];exact ih i x h j hj
theorem rowM_app (l : List M) (x : M) : rowM (l ++ [x]) = rowM l ++ x.cells.toList := by simp [rowM]
theorem LM.own {W : World} {base : Nat} {v : Value} {l : List M} (h : W.ownsRow base 40 12 v l.length (rowM l)) : ∃ p cap g, v = .slice p l.length cap ∧ l.length ≤ cap ∧ LM W p g 0 l := by
 rcases h.2 with ⟨rfl, h0⟩ | ⟨g, cap, cur, rfl, h1, h2, h3, h4, _⟩
 · exact ⟨none, 0, 0, by rw [h0], by omega, fun hn => absurd (List.eq_nil_of_length_eq_zero h0) hn⟩
 · have hg := (Array.getElem?_eq_some_iff.1 h2).1
   refine ⟨_, cap, g, rfl, h3, fun hn => ⟨rfl, hg, fun i x hx => ?_⟩⟩;have hi : i < l.length := (List.getElem?_eq_some_iff.1 hx).1
   have key : ∀ j, j < 12 → ∀ u, x.cells.toList[j]? = some u → W.cell? ⟨g, 0 + (i * 12 + j), none⟩ = some u := fun j hj u hu => by
     have h3 := World.ownsRow.cellAt h (i * 12 + j) (by omega);rw [Nat.zero_add, h3, rowM_get l i x hx j hj];exact hu
   rw [Nat.zero_add];exact ⟨by simpa using key 0 (by decide) _ rfl, by simpa using key 1 (by decide) _ rfl, by simpa using key 2 (by decide) _ rfl, by simpa using key 3 (by decide) _ rfl, by simpa using key 4 (by decide) _ rfl, by simpa using key 5 (by decide) _ rfl, by simpa using key 6 (by decide) _ rfl, by simpa using key 7 (by decide) _ rfl, by simpa using key 8 (by decide) _ rfl, by simpa using key 9 (by decide) _ rfl, by simpa using key 10 (by decide) _ rfl, by simpa using key 11 (by decide) _ rfl⟩
end Go.Proofs.YtkljcgopikdjjaaGreatDoor.Tx
end
section
namespace Go.Proofs.YtkljcgopikdjjaaGreatDoor.Tx
set_option maxRecDepth 100000
set_option maxHeartbeats 1000000
open Go.RowKit Go.Shelf Go.Maps Oct
theorem Bd.later {z b : Nat} {l : List UInt8} {w w' : World} (h : Bd z b l w) (hb : Below w.heap.size w w') : Bd z b l w' := by
 obtain ⟨h1, h2, p, v, h3, h4, h5⟩ := h;refine ⟨h1, Nat.le_trans h2 hb.size, p, v, h3.later hb, h4, h5.1, ?_⟩
 rcases h5.2 with h | ⟨g, cap, cur, e, hg, hc, r⟩
 · exact .inl h
 · exact .inr ⟨g, cap, cur, e, hg, (hb.block g (Array.getElem?_eq_some_iff.1 hc).1).trans hc, r⟩
theorem headN_at (k : Nat) (hk : k < 6) : headN[k]? = some (.string (B (nmH k))) := by
 match k, hk with
 | 0, _ | 1, _ | 2, _ | 3, _ | 4, _ | 5, _ => rfl
theorem headA_at (b k : Nat) (hk : k < 6) : (headA b)[k]? = some (.pointer (some ⟨b, k, none⟩)) := by
 match k, hk with
 | 0, _ | 1, _ | 2, _ | 3, _ | 4, _ | 5, _ => rfl
theorem Cf.cells_at (x : Cf) (k : Nat) (hk : k < 6) : x.cells[k]? = some (.int .i64 (x.get k)) := by
 match k, hk with
 | 0, _ | 1, _ | 2, _ | 3, _ | 4, _ | 5, _ => rfl
def WrAns (x : Cf) (l : List M) (w : World) (e : Ending) (w' : World) : Prop :=
 e = .returned (.tuple #[.string (B (if writeE x l = 0 then writeT x l else [])), .int .i64 (writeE x l)]) ∧ Below w.heap.size w w'
theorem Lay.tchB {w w' : World} {z b : Nat} (h : Lay w) (ht : Tch (OnB z b) w w') (hb : 5 ≤ b) (hz : w.heap.size ≤ z) : Lay w' :=
 h.tch (b := b) (ht.mono fun i hi ho => by rcases ho with h | h; exact h; omega) hb
theorem linesT_app (a b : List M) : linesT (a ++ b) = linesT a ++ linesT b := by
 induction a with
 | nil => rfl
 | cons m a ih => simp only [List.cons_append, linesT, ih, List.append_assoc]
theorem write_no (x : Cf) (l : List M) (v : Value) (w : World) (hm : x.may = false) : Calls Tryz.prog 11 #[x.val, v] w (WrAns x l w) := by
 have hE : writeE x l = 2 := by unfold writeE; rw [hm]; rfl
 have h1 := SBox.new w 27 x.cells;have B0 := Lib.hid ((Below.refl w.heap.size w).alloc (Nat.le_refl _) (.cells x.cells 27));have HM := Lib.hid (fun W => may_conf x W);rw [hm] at HM;unfold WrAns;rw [hE];unfold Cf.val at *;unfold Cf.cells at h1 B0;have X0 := h1.cell 0;have X1 := h1.cell 1;have X2 := h1.cell 2;have X3 := h1.cell 3;have X4 := h1.cell 4;have X5 := h1.cell 5;simp only [List.getElem?_toArray, List.getElem?_cons_zero, List.getElem?_cons_succ] at X0 X1 X2 X3 X4 X5;have Xl := h1.lt
 go_enter Tryz.func11, Tryz.ntmps11
 go_wp2_with fail;refine (HM.out _).mono ?_;rintro e w1 ⟨rfl, hb1⟩;have HB1 := Lib.hid (B0.out.trans (hb1.mono B0.out.size));clear hb1 h1;go_wp2_with fail;go_ret2;exact ⟨rfl, HB1.out⟩
set_option maxHeartbeats 4000000 in
theorem write_yes (x : Cf) (hx : x.In) (l : List M) (hlen : l.length ≤ 20000) (hin : ∀ m ∈ l, m.In ∧ m.k < 256 ∧ m.size ≤ 100000) (pv : Option Addr) (gv ov cv : Nat) (wz : World) (hl : Lay wz) (hv : LM wz pv gv ov l) (hm : x.may = true) : Calls Tryz.prog 11 #[x.val, .slice pv l.length cv] wz (WrAns x l wz) := by
 have hlay5 := hl.size;have h1 := SBox.new wz 27 x.cells;have B0 := Lib.hid ((Below.refl wz.heap.size wz).alloc (Nat.le_refl _) (.cells x.cells 27));have HL0 := Lib.hid (hl.later B0.out);have HX0 := Lib.hid h1;have HM := Lib.hid (fun W => may_conf x W);have HV := Lib.hid hv;rw [hm] at HM;unfold Cf.val at *;unfold Cf.cells at h1 B0;have X0 := h1.cell 0;have X1 := h1.cell 1;have X2 := h1.cell 2;have X3 := h1.cell 3;have X4 := h1.cell 4;have X5 := h1.cell 5;simp only [List.getElem?_toArray, List.getElem?_cons_zero, List.getElem?_cons_succ] at X0 X1 X2 X3 X4 X5;have Xl := h1.lt;clear hl hv h1
 go_enter Tryz.func11, Tryz.ntmps11
 go_wp2_with fail;refine (HM.out _).mono ?_;rintro e w1 ⟨rfl, hb1⟩;have HB1 := Lib.hid (B0.out.trans (hb1.mono B0.out.size));have HX1 := Lib.hid (HX0.out.later hb1);have HL1 := Lib.hid (HL0.out.later hb1);have bb := SBox.new w1 58 #[.pointer none, .slice none 0 0];have hbA := (Below.refl w1.heap.size w1).alloc (Nat.le_refl _) (.cells #[.pointer none, .slice none 0 0] 58);have HB2 := Lib.hid (HB1.out.trans (hbA.mono HB1.out.size));have HX2 := Lib.hid (HX1.out.later hbA);have HL2 := Lib.hid (HL1.out.later hbA);have HS2 := Lib.hid bb;have hs1 : wz.heap.size < w1.heap.size := HX1.out.lt;have HH := Lib.hid (head_any wz.heap.size (w1.alloc (.cells #[.pointer none, .slice none 0 0] 58)));clear hb1 hbA bb HB1 HX1 HL1 HX0 HL0 X0 X1 X2 X3 X4 X5;go_wp2_with fail;refine HH.out.mono ?_;rintro e w3 ⟨r, q, rfl, hr, hq, hb3⟩;have hz2 : w1.heap.size < (w1.alloc (.cells #[.pointer none, .slice none 0 0] 58)).heap.size := by simp
 have HB3 := Lib.hid (HB2.out.trans (hb3.mono HB2.out.size));have HX3 := Lib.hid (HX2.out.later hb3);have HL3 := Lib.hid (HL2.out.later hb3);have HS3 := HS2.out.later hb3
 have hrb : r ≠ w1.heap.size := by
   rintro rfl;have e := hr.symm.trans HS3
   simp at e
 have hqb : q ≠ w1.heap.size := by
   rintro rfl;have e := hq.symm.trans HS3
   simp at e
 have hrl := hr.lt;have hql := hq.lt;have hbl := HS3.lt;have hxl := HX3.out.lt;have BD0 := Lib.hid (Bd.fresh (z := w3.heap.size) hbl (Nat.le_refl _) HS3);have HR := Lib.hid hr;have HQ := Lib.hid hq;clear hb3 HB2 HX2 HL2 HS2 HH HS3 hr hq hz2
 generalize w1.heap.size = bb at *
 go_wp2
 go_loopw [24] (fun i wr => ∃ k : Nat, k ≤ 6 ∧ i = .int .i64 k ∧ Bd w3.heap.size bb (headT x k) wr ∧ Tch (OnB w3.heap.size bb) w3 wr) (fun i _ => 6 - (intOf i).toNat)
 case atStart => exact ⟨0, by omega, rfl, BD0.out, Tch.refl _ _⟩
 case round =>
   obtain ⟨k, hk, rfl, hbd, ht⟩ := hrel;have BD := Lib.hid hbd;have HT := Lib.hid ht;clear hbd ht;have hold : ∀ c, c < w3.heap.size → c ≠ bb → wr.heap[c]? = w3.heap[c]? := fun c h1 h2 => HT.out.block c h1 (fun h => by rcases h with h | h; exact h2 h; omega)
   by_cases hk6 : k < 6
   · have c1 : wr.cell? ⟨r, k, none⟩ = some (.string (B (nmH k))) := (SBox.cell ((hold r hrl hrb).trans HR.out) k).trans (headN_at k hk6)
     have c2 : wr.cell? ⟨q, k, none⟩ = some (.pointer (some ⟨wz.heap.size, k, none⟩)) := (SBox.cell ((hold q hql hqb).trans HQ.out) k).trans (headA_at wz.heap.size k hk6);have c3 : wr.cell? ⟨wz.heap.size, k, none⟩ = some (.int .i64 (x.get k)) := (SBox.cell ((hold wz.heap.size hxl (by omega)).trans HX3.out) k).trans (x.cells_at k hk6);have HLr := Lib.hid (show Lay wr from HL3.out.tchB HT.out (by omega) (by omega));have HI := Lib.hid (itoa_any (x.get k) (hx k).1 (hx k).2 wr HLr.out)
     have hcat : B (nmH k) ++ B (Lib.itoa (x.get k)) ++ (⟨#[10]⟩ : ByteArray) = B (headL x k ++ [10]) := by
       rw [B_append, show (⟨#[10]⟩ : ByteArray) = B [10] from rfl, B_append]; rfl
     have h33 := headL_len x hx k hk6;have hhl := headT_len x hx k hk;have z1 : (B (nmH k)).size ≤ 8 := by rw [size_B]; exact nmH_len k hk6
     have z2 : (B (Lib.itoa (x.get k))).size ≤ 25 := by rw [size_B]; exact itoa_len _ (hx k).1 (hx k).2
     clear hold;go_wp2_with fail;refine HI.out.mono ?_;rintro e w5 ⟨rfl, hb5⟩;have BD5 := Lib.hid (BD.out.later hb5);have HT5 := Lib.hid (HT.out.trans (Tch.of hb5));have HW := Lib.hid (bd_wstr (m := headL x k ++ [10]) BD5.out (by omega) (by simp) (by simp; omega));unfold ptr at HW;clear hb5 c1 c2 c3;go_wp2_with fail;refine HW.out.mono ?_;rintro e w6 ⟨rfl, hbd6, ht6⟩;have BD6 := Lib.hid hbd6;have HT6 := Lib.hid (HT5.out.trans ht6);clear hbd6 ht6;go_wp2_with fail;go_roundw
     case rel => exact ⟨k + 1, by omega, by go_num, BD6.out, HT6.out⟩
     case measure => simp [intOf]; omega
   · have hk0 : k = 6 := by omega
     subst hk0;have hhl := headT_len x hx 6 (by omega);have HW := Lib.hid (bd_wstr (m := beginB ++ [10]) BD.out (by omega) (by decide) (by decide));unfold ptr at HW;have HVr : Hid (LM wr pv gv ov l) := Lib.hid (HV.out.blk (by have := HT.out.size; omega) fun hg => (hold gv (by omega) (by omega)).trans (HB3.out.block gv hg));have HLr := Lib.hid (show Lay wr from HL3.out.tchB HT.out (by omega) (by omega));have hsr := HT.out.size;clear hold;go_wp2_with fail;refine (show Calls _ _ #[.pointer (some ⟨bb, 0, none⟩), .string ⟨#[98, 101, 103, 105, 110, 10]⟩] _ _ from HW.out).mono ?_;rintro e w7 ⟨rfl, hbd7, ht7⟩;have hb7 : bb < w7.heap.size := by have := ht7.size; omega
     have BD7 := Lib.hid hbd7;have HT7 := Lib.hid (HT.out.trans ht7);clear hbd7 ht7;have h03 : headT x 6 ++ (beginB ++ [10]) = headT x 6 ++ (beginB ++ [10]) ++ linesT (l.take 0) := by simp [linesT]
     rw [h03] at BD7;clear h03;have hs37 := HT7.out.size
     go_wp2
     go_loopw [44] (fun i wr => ∃ k : Nat, k ≤ l.length ∧ i = .int .i64 k ∧ (∀ m ∈ l.take k, mayM m = true) ∧ Bd w3.heap.size bb (headT x 6 ++ (beginB ++ [10]) ++ linesT (l.take k)) wr ∧ Tch (OnB w3.heap.size bb) w3 wr) (fun i _ => l.length - (intOf i).toNat)
     case atStart => exact ⟨0, by omega, rfl, by simp, BD7.out, HT7.out⟩
     case round =>
       obtain ⟨k, hk, rfl, hmay, hbd, ht⟩ := hrel;have BD := Lib.hid hbd;have HT := Lib.hid ht;have HMY := Lib.hid hmay;clear hbd ht hmay;have hsz := HT.out.size
       have htk : (linesT (l.take k)).length ≤ 3311 * k := by
         have h1 := linesT_len (l.take k) fun m hm => ⟨(hin m (List.mem_of_mem_take hm)).1, HMY.out m hm⟩;have h2 : (l.take k).length ≤ k := List.length_take_le k l;omega
       have htl : (headT x 6 ++ (beginB ++ [10]) ++ linesT (l.take k)).length ≤ 210 + 3311 * k := by
         simp only [List.length_append];have : (beginB ++ [10]).length = 6 := rfl;simp only [List.length_append] at this;omega
       by_cases hlt : k < l.length
       · obtain ⟨m, hm0⟩ : ∃ m, l[k]? = some m := ⟨_, List.getElem?_eq_getElem hlt⟩
         have hml : m ∈ l := List.mem_of_getElem? hm0;obtain ⟨hmi, hmk, hms⟩ := hin m hml;have HVk : Hid (LM wr pv gv ov l) := Lib.hid (HV.out.blk (by have := HB3.out.size; omega) fun hg => (HT.out.block gv (by omega) (fun ho => by rcases ho with h | h <;> omega)).trans (HB3.out.block gv hg));have HLk : Hid (Lay wr) := Lib.hid (HL3.out.tchB HT.out (by omega) (Nat.le_refl _));obtain ⟨rfl, hgl, hc⟩ := HVk.out.get hm0;obtain ⟨a0, a1, a2, a3, a4, a5, a6, a7, a8, a9, a10, a11⟩ := hc;have hsz2 := wr.heap.size;have hbA := (Below.refl wr.heap.size wr).alloc (Nat.le_refl _) (.cells m.cells 40);have HBA := Lib.hid hbA;have HLA := Lib.hid (HLk.out.later hbA);have t1 : (k : Int) < l.length := by omega
         have e1 : l.take (k + 1) = l.take k ++ [m] := by rw [List.take_add_one, hm0]; rfl
         cases hmm : mayM m with
         | false =>
           have LN := Lib.hid (line_no m (wr.alloc (.cells m.cells 40)) HLA.out hmk hmi.d hms hmm)
           have hE : writeE x l = 2 := by
             unfold writeE;rw [hm];simp only [Bool.true_eq_false, if_false];rw [if_pos];rw [Bool.eq_false_iff];intro h;rw [List.all_eq_true] at h;rw [h m hml] at hmm;cases hmm
           unfold M.val M.cells at LN;have HBk := Lib.hid (HB3.out.trans (HT.out.below fun i hi => ⟨by omega, fun ho => by rcases ho with h | h <;> omega⟩));clear hbA hmi;go_wp2_with fail;refine LN.out.mono ?_;rintro e w5 ⟨rfl, hb5⟩;have HB5 := Lib.hid (HBk.out.trans ((HBA.out.trans (hb5.mono (by simp))).mono HBk.out.size));clear hb5;go_wp2_with fail;go_ret2;exact ⟨by rw [hE]; rfl, HB5.out⟩
         | true =>
           have LN := Lib.hid (line_yes m (wr.alloc (.cells m.cells 40)) HLA.out hmi (by have := may_size m hmi hmm; omega) hmm);have hln := lineL_len m hmi;have hms2 := may_size m hmi hmm;unfold M.val M.cells at LN;have z1 : (B (lineL m)).size ≤ 3310 := by rw [size_B]; omega
           have hcat : B (lineL m) ++ (⟨#[10]⟩ : ByteArray) = B (lineL m ++ [10]) := by rw [show (⟨#[10]⟩ : ByteArray) = B [10] from rfl, B_append]
           clear hbA hmi;go_wp2_with fail;refine LN.out.mono ?_;rintro e w5 ⟨rfl, hb5⟩;have BD5 := Lib.hid ((BD.out.later HBA.out).later hb5);have HT5 := Lib.hid (HT.out.trans ((Tch.of HBA.out).trans (Tch.of hb5)));have HW := Lib.hid (bd_wstr (m := lineL m ++ [10]) BD5.out (by omega) (by simp) (by simp; omega));unfold ptr at HW;clear hb5;go_wp2_with fail;refine HW.out.mono ?_;rintro e w6 ⟨rfl, hbd6, ht6⟩;have BD6 := Lib.hid hbd6;have HT6 := Lib.hid (HT5.out.trans ht6);clear hbd6 ht6;go_wp2_with fail;go_roundw
           case rel => exact ⟨k + 1, by omega, by go_num, by
             rw [e1]; intro y hy
             rcases List.mem_append.mp hy with h | h
             · exact HMY.out y h
             · simp at h; subst h; exact hmm, by
             have h := BD6.out;rw [e1, linesT_app]
             simpa [linesT] using h, HT6.out⟩
           case measure => simp [intOf]; omega
       · have hkl : k = l.length := by omega
         subst hkl
         have hall : l.all mayM = true := by
           rw [List.all_eq_true];have h := HMY.out;rw [List.take_length] at h;exact h
         have hW : headT x 6 ++ (beginB ++ [10]) ++ linesT (l.take l.length) = writeT x l := by rw [List.take_length]; rfl
         rw [hW] at BD htl;have HLn := Lib.hid (bd_len BD.out);have HSt := Lib.hid (bd_string BD.out);have HBk := Lib.hid (HB3.out.trans (HT.out.below fun i hi => ⟨by omega, fun ho => by rcases ho with h | h <;> omega⟩))
         have hE : writeE x l = if 262144 < (writeT x l).length then 5 else 0 := by
           unfold writeE;rw [hm, hall]
           simp
         unfold ptr at HLn HSt;obtain ⟨tx, htx⟩ : ∃ tx, writeT x l = tx := ⟨_, rfl⟩;rw [htx] at HLn HSt hE htl;have HTX := Lib.hid htx;clear htx
         by_cases hbig : 262144 < tx.length
         · rw [if_pos hbig] at hE
           have t2 : (262144 : Int) < tx.length := by omega
           go_wp2_with fail;refine HLn.out.mono ?_;rintro e w9 ⟨rfl, rfl⟩;go_wp2_with fail;go_ret2;exact ⟨by rw [hE]; rfl, HBk.out⟩
         · rw [if_neg hbig] at hE
           have t2 : ¬ (262144 : Int) < tx.length := by omega
           go_wp2_with fail;refine HLn.out.mono ?_;rintro e w9 ⟨rfl, rfl⟩;go_wp2_with fail;refine HSt.out.mono ?_;rintro e w9 ⟨rfl, hb9⟩;have HB9 := Lib.hid (HBk.out.trans (hb9.mono (by omega)));clear hb9;go_wp2_with fail;go_ret2;exact ⟨by rw [hE, HTX.out]; rfl, HB9.out⟩
end Go.Proofs.YtkljcgopikdjjaaGreatDoor.Tx
end
section
namespace Go.Proofs.YtkljcgopikdjjaaGreatDoor.Tx
open Go Oct
theorem mostK_le : ∀ k, mostK k ≤ 4095 := by
 intro k
 match k with
 | 0 | 1 | 2 | 3 | 4 | 5 | 6 => decide
 | k + 7 => simp [mostK]
theorem may_in (x : M) (h : mayM x = true) : x.In := by
 have hm := (mayM_iff x).mp h;have h1 := hm.co0; have h2 := hm.co1; have h3 := hm.n0; have h4 := hm.n1; have h5 := hm.ino;have h6 := mostK_le x.k
 have hc : x.d < 256 ∧ 0 ≤ x.fd ∧ x.fd ≤ 255 ∧ 0 ≤ x.pg ∧ x.pg ≤ 255 ∧ x.sz < 4294967296 := by
   by_cases h8 : bitB (hasK x.k) 8 = true
   · have hf := Call.check_fits (hm.ck h8)
     have hd := checkE_d x.c (hm.ck h8);have hd : x.d ≤ 15 := hd;exact ⟨by omega, hf.fd0, hf.fd, hf.pg0, hf.pg, hf.sz⟩
   · have hb := hm.b8
     rw [Bool.not_eq_true] at h8;rw [h8] at hb;simp only [Bool.false_or, decide_eq_true_eq] at hb;have e1 : x.d = 0 := congrArg (fun c => c.d) hb;have e2 : x.fd = 0 := congrArg (fun c => c.fd) hb;have e3 : x.pg = 0 := congrArg (fun c => c.pg) hb;have e4 : x.sz = 0 := congrArg (fun c => c.sz) hb;omega
 obtain ⟨a1, a2, a3, a4, a5, a6⟩ := hc;exact ⟨by omega, by omega, by omega, by omega, by omega, a1, by omega, by omega, by omega, by omega, a6⟩
theorem stepL_in {s : List UInt8} {x : M} (h : stepL mayM s = some x) : x.In := may_in x (of_step mayM h).1
theorem stepL_line {x : M} (h : mayM x = true) : stepL mayM (lineL x) = some x := step_of mayM (fun x h i => may_good x i h) x (may_in x h) h
def Cf.set (x : Cf) (k : Nat) (v : Int) : Cf :=
 match k with
 | 0 => { x with i := v } | 1 => { x with b := v } | 2 => { x with j := v } | 3 => { x with c := v } | 4 => { x with l := v } | _ => { x with t := v }
def Cf.zero : Cf := ⟨0, 0, 0, 0, 0, 0⟩
noncomputable def takeQ (k : Nat) (q : Cf × List M) (w : List UInt8) : Option (Cf × List M) :=
 if k < 6 then (if (nmH k).isPrefixOf w = true then (numL (w.drop (nmH k).length)).map (fun v => (q.1.set k v, q.2)) else none)
 else if k = 6 then (if w = beginB then some q else none)
 else (stepL mayM w).map (fun x => (q.1, q.2 ++ [x]))
noncomputable def goQ : List (List UInt8) → Nat → Cf × List M → Nat ⊕ (Cf × List M)
 | [], _, q => .inr q
 | w :: r, k, q => match takeQ k q w with
   | none => .inl (k + 1)
   | some q' => goQ r (k + 1) q'
def linesQ : List UInt8 → List (List UInt8) × List UInt8
 | [] => ([], [])
 | c :: r => if c = 10 then ([] :: (linesQ r).1, (linesQ r).2) else
     match linesQ r with
     | ([], t) => ([], c :: t)
     | (w :: ws, t) => ((c :: w) :: ws, t)
noncomputable def readQ (s : List UInt8) : Nat ⊕ (Cf × List M) :=
 match goQ (linesQ s).1 0 (Cf.zero, []) with
 | .inl n => .inl n
 | .inr q => if (linesQ s).2 ≠ [] ∨ (linesQ s).1.length < 7 then .inl ((linesQ s).1.length + 1) else if q.1.may = true then .inr q else .inl 7
theorem lines_cut (s : List UInt8) : linesQ s = if (brkB 10 s).2.2 = true then ((brkB 10 s).1 :: (linesQ (brkB 10 s).2.1).1, (linesQ (brkB 10 s).2.1).2) else ([], s) := by
 induction s with
 | nil => rfl
 | cons c r ih =>
   simp only [linesQ, brkB]
   by_cases e : c = 10
   · simp [e]
   · simp only [if_neg e]
     rw [ih]
     by_cases h : (brkB 10 r).2.2 = true
     · simp [h]
     · simp [h]
theorem lines_app (w r : List UInt8) (h : ∀ c ∈ w, c ≠ 10) : linesQ (w ++ 10 :: r) = (w :: (linesQ r).1, (linesQ r).2) := by
 induction w with
 | nil => simp [linesQ]
 | cons c w ih =>
   have hc : ¬ c = 10 := h c List.mem_cons_self;have e := ih fun d hd => h d (List.mem_cons_of_mem _ hd);simp only [List.cons_append, linesQ, if_neg hc, e]
def joinQ (ls : List (List UInt8)) : List UInt8 := (ls.map (· ++ [10])).flatten
theorem lines_join (ls : List (List UInt8)) (r : List UInt8) (h : ∀ w ∈ ls, ∀ c ∈ w, c ≠ 10) : linesQ (joinQ ls ++ r) = (ls ++ (linesQ r).1, (linesQ r).2) := by
 induction ls with
 | nil => simp [joinQ]
 | cons w ls ih =>
   have e := ih fun v hv => h v (List.mem_cons_of_mem _ hv);have e2 : joinQ (w :: ls) ++ r = w ++ 10 :: (joinQ ls ++ r) := by simp [joinQ]
   rw [e2, lines_app w _ (h w List.mem_cons_self), e]
   rfl
theorem join_lines (s : List UInt8) : joinQ (linesQ s).1 ++ (linesQ s).2 = s := by
 induction s with
 | nil => rfl
 | cons c r ih =>
   simp only [linesQ]
   by_cases e : c = 10
   · rw [if_pos e, e]
     have : joinQ ([] :: (linesQ r).1) = 10 :: joinQ (linesQ r).1 := by simp [joinQ]
     simp only [this, List.cons_append, ih]
   · rw [if_neg e]
     cases hl : linesQ r with
     | mk ws t =>
       rw [hl] at ih;cases ws with
       | nil => simp only [joinQ, List.map_nil, List.flatten_nil, List.nil_append] at ih ⊢; rw [ih]
       | cons w ws => simp only [joinQ, List.map_cons, List.flatten_cons, List.cons_append, List.append_assoc] at ih ⊢; rw [ih]
theorem lines_len (s : List UInt8) : (∀ w ∈ (linesQ s).1, w.length ≤ s.length) ∧ (linesQ s).1.length ≤ s.length ∧ (linesQ s).2.length ≤ s.length := by
 induction s with
 | nil => simp [linesQ]
 | cons c r ih =>
   obtain ⟨h1, h2, h3⟩ := ih;simp only [linesQ]
   by_cases e : c = 10
   · rw [if_pos e]
     refine ⟨?_, by simp; omega, by simp; omega⟩;intro w h
     rcases List.mem_cons.mp h with rfl | h
     · simp
     · have := h1 w h; simp; omega
   · rw [if_neg e]
     cases hl : linesQ r with
     | mk ws t =>
       rw [hl] at h1 h2 h3;cases ws with
       | nil => simp at h3 ⊢; exact h3
       | cons v ws =>
         refine ⟨?_, by simp at h2 ⊢; omega, by simp at h3 ⊢; omega⟩;intro w h
         rcases List.mem_cons.mp h with rfl | h
         · have := h1 v List.mem_cons_self; simp; omega
         · have := h1 w (List.mem_cons_of_mem _ h); simp; omega
def headQ (x : Cf) (k : Nat) : List UInt8 := if k < 6 then headL x k else beginB
def allQ (x : Cf) (l : List M) : List (List UInt8) := [headL x 0, headL x 1, headL x 2, headL x 3, headL x 4, headL x 5, beginB] ++ l.map lineL
theorem linesT_join (l : List M) : linesT l = joinQ (l.map lineL) := by
 induction l with
 | nil => rfl
 | cons m l ih => simp only [linesT, ih, joinQ, List.map_cons, List.flatten_cons]
theorem write_join (x : Cf) (l : List M) : writeT x l = joinQ (allQ x l) := by
 unfold writeT allQ;rw [linesT_join]
 simp [headT, joinQ]
theorem nmH_10 : ∀ k, k < 6 → ∀ c ∈ nmH k, c ≠ 10 := by decide
theorem headL_10 (x : Cf) (k : Nat) (hk : k < 6) : ∀ c ∈ headL x k, c ≠ 10 := by
 intro c hc;unfold headL at hc
 rcases List.mem_append.mp hc with hc | hc
 · exact nmH_10 k hk c hc
 · have := say_itoa (x.get k) c hc
   simp only [sayB, Bool.and_eq_true, bne_iff_ne] at this;exact this.2
theorem lineL_10 (x : M) (h : x.k < 7) : ∀ c ∈ lineL x, c ≠ 10 := by
 intro c hc;unfold lineL at hc
 rcases List.mem_append.mp hc with hc | hc
 · exact (kw_ne h c hc).2
 · simp only [List.mem_flatten, List.mem_map] at hc
   obtain ⟨v, ⟨w, hw, rfl⟩, hc⟩ := hc
   rcases List.mem_cons.mp hc with rfl | hc
   · decide
   · exact (say_words x 11 0 rfl w hw c hc).2
theorem allQ_10 (x : Cf) (l : List M) (hl : ∀ m ∈ l, mayM m = true) : ∀ w ∈ allQ x l, ∀ c ∈ w, c ≠ 10 := by
 intro w hw;unfold allQ at hw
 rcases List.mem_append.mp hw with hw | hw
 · simp only [List.mem_cons, List.not_mem_nil, or_false] at hw
   rcases hw with rfl | rfl | rfl | rfl | rfl | rfl | rfl
   · exact headL_10 x 0 (by decide)
   · exact headL_10 x 1 (by decide)
   · exact headL_10 x 2 (by decide)
   · exact headL_10 x 3 (by decide)
   · exact headL_10 x 4 (by decide)
   · exact headL_10 x 5 (by decide)
   · decide
 · simp only [List.mem_map] at hw
   obtain ⟨m, hm, rfl⟩ := hw;exact lineL_10 m (may_good m (may_in m (hl m hm)) (hl m hm)).k
theorem get_set (x : Cf) (k : Nat) (hk : k < 6) (v : Int) : (x.set k v).get k = v := by
 match k, hk with
 | 0, _ | 1, _ | 2, _ | 3, _ | 4, _ | 5, _ => rfl
theorem get_set_ne (x : Cf) (k j : Nat) (hk : k < 6) (hj : j < 6) (h : j ≠ k) (v : Int) : (x.set k v).get j = x.get j := by
 match k, hk, j, hj with
 | 0, _, 0, _ | 1, _, 1, _ | 2, _, 2, _ | 3, _, 3, _ | 4, _, 4, _ | 5, _, 5, _ => exact absurd rfl h
 | 0, _, 1, _ | 0, _, 2, _ | 0, _, 3, _ | 0, _, 4, _ | 0, _, 5, _ => rfl
 | 1, _, 0, _ | 1, _, 2, _ | 1, _, 3, _ | 1, _, 4, _ | 1, _, 5, _ => rfl
 | 2, _, 0, _ | 2, _, 1, _ | 2, _, 3, _ | 2, _, 4, _ | 2, _, 5, _ => rfl
 | 3, _, 0, _ | 3, _, 1, _ | 3, _, 2, _ | 3, _, 4, _ | 3, _, 5, _ => rfl
 | 4, _, 0, _ | 4, _, 1, _ | 4, _, 2, _ | 4, _, 3, _ | 4, _, 5, _ => rfl
 | 5, _, 0, _ | 5, _, 1, _ | 5, _, 2, _ | 5, _, 3, _ | 5, _, 4, _ => rfl
theorem Cf.ext6 (x y : Cf) (h : ∀ k, k < 6 → x.get k = y.get k) : x = y := by
 have h0 : x.i = y.i := h 0 (by decide);have h1 : x.b = y.b := h 1 (by decide);have h2 : x.j = y.j := h 2 (by decide);have h3 : x.c = y.c := h 3 (by decide);have h4 : x.l = y.l := h 4 (by decide);have h5 : x.t = y.t := h 5 (by decide);cases x; cases y;simp only at h0 h1 h2 h3 h4 h5;subst h0; subst h1; subst h2; subst h3; subst h4; subst h5
 rfl
theorem take_head (x q : Cf) (l : List M) (hx : x.In) (k : Nat) (hk : k < 6) : takeQ k (q, l) (headL x k) = some (q.set k (x.get k), l) := by
 unfold takeQ headL;rw [if_pos hk, if_pos (List.isPrefixOf_iff_prefix.mpr (List.prefix_append _ _)), List.drop_left, num_itoa _ (hx k).1 (hx k).2]
 rfl
theorem go_steps (l : List M) (hl : ∀ m ∈ l, mayM m = true) : ∀ (r : List (List UInt8)) (k : Nat) (c : Cf) (l0 : List M), 7 ≤ k → goQ (l.map lineL ++ r) k (c, l0) = goQ r (k + l.length) (c, l0 ++ l) := by
 induction l with
 | nil => intro r k c l0 _; simp
 | cons m l ih =>
   intro r k c l0 hk;have e := ih (fun x hx => hl x (List.mem_cons_of_mem _ hx)) r (k + 1) c (l0 ++ [m]) (by omega)
   have e2 : takeQ k (c, l0) (lineL m) = some (c, l0 ++ [m]) := by
     unfold takeQ;rw [if_neg (by omega), if_neg (by omega), stepL_line (hl m List.mem_cons_self)]
     rfl
   simp only [List.map_cons, List.cons_append, goQ, e2, e, List.length_cons, List.append_assoc];rw [show k + 1 + l.length = k + (l.length + 1) by omega]
   rfl
theorem go_all (x : Cf) (hx : x.In) (l : List M) (hl : ∀ m ∈ l, mayM m = true) (r : List (List UInt8)) : goQ (allQ x l ++ r) 0 (Cf.zero, []) = goQ r (7 + l.length) (x, l) := by
 have h0 := take_head x Cf.zero [] hx 0 (by decide);have h1 := take_head x (Cf.zero.set 0 (x.get 0)) [] hx 1 (by decide);have h2 := take_head x ((Cf.zero.set 0 (x.get 0)).set 1 (x.get 1)) [] hx 2 (by decide);have h3 := take_head x (((Cf.zero.set 0 (x.get 0)).set 1 (x.get 1)).set 2 (x.get 2)) [] hx 3 (by decide);have h4 := take_head x ((((Cf.zero.set 0 (x.get 0)).set 1 (x.get 1)).set 2 (x.get 2)).set 3 (x.get 3)) [] hx 4 (by decide);have h5 := take_head x (((((Cf.zero.set 0 (x.get 0)).set 1 (x.get 1)).set 2 (x.get 2)).set 3 (x.get 3)).set 4 (x.get 4)) [] hx 5 (by decide);have e : (((((Cf.zero.set 0 (x.get 0)).set 1 (x.get 1)).set 2 (x.get 2)).set 3 (x.get 3)).set 4 (x.get 4)).set 5 (x.get 5) = x := rfl;rw [e] at h5;have h6 : takeQ 6 (x, []) beginB = some (x, []) := by simp [takeQ]
 have h7 := go_steps l hl r 7 x [] (by omega);unfold allQ;simp only [List.cons_append, List.nil_append, goQ, h0, h1, h2, h3, h4, h5, h6]
 simpa using h7
theorem read_write (x : Cf) (hx : x.In) (l : List M) (hm : x.may = true) (hl : ∀ m ∈ l, mayM m = true) : readQ (writeT x l) = .inr (x, l) := by
 have e := lines_join (allQ x l) [] (allQ_10 x l hl);rw [List.append_nil] at e;have e2 : linesQ (writeT x l) = (allQ x l, []) := by rw [write_join, e]; simp [linesQ]
 have g := go_all x hx l hl [];rw [List.append_nil] at g;unfold readQ;rw [e2];simp only [g, goQ, hm, if_true];rw [if_neg]
 simp [allQ]
theorem read_odd (x : Cf) (hx : x.In) (l : List M) (hl : ∀ m ∈ l, mayM m = true) (odd tail : List UInt8) (ho : ∀ c ∈ odd, c ≠ 10) (hn : stepL mayM odd = none) :
   readQ (writeT x l ++ odd ++ 10 :: tail) = .inl (8 + l.length) := by
 have e := lines_join (allQ x l) (odd ++ 10 :: tail) (allQ_10 x l hl);rw [lines_app odd tail ho] at e
 have e2 : linesQ (writeT x l ++ odd ++ 10 :: tail) = (allQ x l ++ odd :: (linesQ tail).1, (linesQ tail).2) := by
   rw [write_join, List.append_assoc, e]
 have g := go_all x hx l hl (odd :: (linesQ tail).1)
 have t : takeQ (7 + l.length) (x, l) odd = none := by
   unfold takeQ;rw [if_neg (by omega), if_neg (by omega), hn]
   rfl
 unfold readQ;rw [e2];simp only [g, goQ, t];rw [show 7 + l.length + 1 = 8 + l.length by omega]
theorem take_back {k : Nat} {q q' : Cf × List M} {w : List UInt8} (h : takeQ k q w = some q') :
   (k < 6 → ∃ v, q' = (q.1.set k v, q.2) ∧ w = nmH k ++ Lib.itoa v ∧ -9223372036854775808 ≤ v ∧ v ≤ 9223372036854775807) ∧ (k = 6 → q' = q ∧ w = beginB) ∧ (7 ≤ k → ∃ x, q' = (q.1, q.2 ++ [x]) ∧ lineL x = w ∧ mayM x = true) := by
 unfold takeQ at h;refine ⟨fun hk => ?_, fun hk => ?_, fun hk => ?_⟩
 · rw [if_pos hk] at h
   split at h
   · rename_i hp
     rw [Option.map_eq_some_iff] at h;obtain ⟨v, hv, rfl⟩ := h;obtain ⟨t, rfl⟩ := List.isPrefixOf_iff_prefix.mp hp;rw [List.drop_left] at hv;obtain ⟨e, ea⟩ := num_some hv;obtain ⟨b1, b2⟩ := atoi_in _ _ ea;exact ⟨v, rfl, by rw [e], b1, b2⟩
   · cases h
 · rw [if_neg (by omega), if_pos hk] at h
   split at h
   · injection h with h
     exact ⟨h.symm, ‹_›⟩
   · cases h
 · rw [if_neg (by omega), if_neg (by omega), Option.map_eq_some_iff] at h
   obtain ⟨x, hx, rfl⟩ := h;obtain ⟨a, b, _⟩ := of_step mayM hx;exact ⟨x, rfl, b, a⟩
theorem go_back_steps : ∀ (ls : List (List UInt8)) (k : Nat) (c c' : Cf) (l0 l : List M), 7 ≤ k → goQ ls k (c, l0) = .inr (c', l) → c' = c ∧ ∃ l1, l = l0 ++ l1 ∧ ls = l1.map lineL ∧ ∀ m ∈ l1, mayM m = true := by
 intro ls
 induction ls with
 | nil =>
   intro k c c' l0 l hk h;simp only [goQ] at h
   injection h with h
   injection h with h1 h2
   exact ⟨h1.symm, [], by simp [h2], rfl, fun m hm => by cases hm⟩
 | cons w ls ih =>
   intro k c c' l0 l hk h;simp only [goQ] at h
   split at h
   · cases h
   · rename_i q' ht
     obtain ⟨x, rfl, hw, hm⟩ := (take_back ht).2.2 hk;obtain ⟨e, l1, rfl, rfl, hl1⟩ := ih (k + 1) c c' (l0 ++ [x]) l (by omega) h;refine ⟨e, x :: l1, by simp, by simp [hw], ?_⟩;intro m hm2
     rcases List.mem_cons.mp hm2 with rfl | hm2
     · exact hm
     · exact hl1 m hm2
theorem go_cons {w : List UInt8} {ls : List (List UInt8)} {k : Nat} {q r : Cf × List M} (h : goQ (w :: ls) k q = .inr r) : ∃ q', takeQ k q w = some q' ∧ goQ ls (k + 1) q' = .inr r := by
 simp only [goQ] at h
 split at h
 · cases h
 · exact ⟨_, ‹_›, h⟩
theorem write_read {s : List UInt8} {c : Cf} {l : List M} (h : readQ s = .inr (c, l)) : writeT c l = s ∧ c.In ∧ c.may = true ∧ ∀ m ∈ l, mayM m = true := by
 unfold readQ at h
 split at h
 · cases h
 · rename_i q hg
   split at h
   · cases h
   · rename_i hc
     split at h
     · rename_i hm
       injection h with h
       subst h;have hs := join_lines s
       generalize linesQ s = z at *
       obtain ⟨ls, t⟩ := z;simp only at hc hg hs
       have ht : t = [] := by
         by_cases e : t = []
         · exact e
         · exact absurd (.inl e) hc
       have hl7 : 7 ≤ ls.length := by
         have : ¬ ls.length < 7 := fun e => hc (.inr e);omega
       subst ht;rw [List.append_nil] at hs
       match ls, hl7, hg, hs with
       | w0 :: w1 :: w2 :: w3 :: w4 :: w5 :: w6 :: ls, _, hg, hs =>
         obtain ⟨q0, t0, hg⟩ := go_cons hg;obtain ⟨v0, e0, f0, a0, b0⟩ := (take_back t0).1 (by decide);subst e0;obtain ⟨q1, t1, hg⟩ := go_cons hg;obtain ⟨v1, e1, f1, a1, b1⟩ := (take_back t1).1 (by decide);subst e1;obtain ⟨q2, t2, hg⟩ := go_cons hg;obtain ⟨v2, e2, f2, a2, b2⟩ := (take_back t2).1 (by decide);subst e2;obtain ⟨q3, t3, hg⟩ := go_cons hg;obtain ⟨v3, e3, f3, a3, b3⟩ := (take_back t3).1 (by decide);subst e3;obtain ⟨q4, t4, hg⟩ := go_cons hg;obtain ⟨v4, e4, f4, a4, b4⟩ := (take_back t4).1 (by decide);subst e4;obtain ⟨q5, t5, hg⟩ := go_cons hg;obtain ⟨v5, e5, f5, a5, b5⟩ := (take_back t5).1 (by decide);subst e5;obtain ⟨q6, t6, hg⟩ := go_cons hg;obtain ⟨e6, f6⟩ := (take_back t6).2.1 rfl;subst e6;obtain ⟨e, l1, e8, e9, hl1⟩ := go_back_steps ls 7 _ c [] l (by omega) hg;rw [List.nil_append] at e8;subst e8;subst e9;refine ⟨?_, ?_, hm, hl1⟩
         · rw [write_join, ← hs, f0, f1, f2, f3, f4, f5, f6, e]
           rfl
         · rw [e]
           intro k
           match k with
           | 0 => exact ⟨a0, b0⟩
           | 1 => exact ⟨a1, b1⟩
           | 2 => exact ⟨a2, b2⟩
           | 3 => exact ⟨a3, b3⟩
           | 4 => exact ⟨a4, b4⟩
           | k + 5 => exact ⟨a5, b5⟩
     · cases h
end Go.Proofs.YtkljcgopikdjjaaGreatDoor.Tx
end
section
namespace Go.Proofs.YtkljcgopikdjjaaGreatDoor.Tx
open Go Oct
def cnfV (w : List UInt8) : Int := if (brkB 61 w).2.2 = true then unnumL (brkB 61 w).2.1 else 0
def cnfN (ls : List (List UInt8)) (k : Nat) : Int := match ls[k]? with
 | some w => cnfV w
 | none => 0
def confQ (ls : List (List UInt8)) : Cf := ⟨cnfN ls 0, cnfN ls 1, cnfN ls 2, cnfN ls 3, cnfN ls 4, cnfN ls 5⟩
theorem conf_get (ls : List (List UInt8)) (k : Nat) (hk : k < 6) : (confQ ls).get k = cnfN ls k := by
 match k, hk with
 | 0, _ | 1, _ | 2, _ | 3, _ | 4, _ | 5, _ => rfl
noncomputable def rGo (c : Cf) : List (List UInt8) → Nat → List M → Nat ⊕ List M
 | [], _, l => .inr l
 | w :: r, k, l => if k < 7 then (if w = headQ c k then rGo c r (k + 1) l else .inl (k + 1)) else
     match stepL mayM w with
     | none => .inl (k + 1)
     | some x => rGo c r (k + 1) (l ++ [x])
noncomputable def refQ (s : List UInt8) : Nat ⊕ (Cf × List M) :=
 match rGo (confQ (linesQ s).1) (linesQ s).1 0 [] with
 | .inl n => .inl n
 | .inr l => if (linesQ s).2 ≠ [] ∨ (linesQ s).1.length < 7 then .inl ((linesQ s).1.length + 1) else if (confQ (linesQ s).1).may = true then .inr (confQ (linesQ s).1, l) else .inl 7
theorem brkB_of (b : UInt8) (p r : List UInt8) (h : ∀ c ∈ p, c ≠ b) : brkB b (p ++ b :: r) = (p, r, true) := by
 induction p with
 | nil => simp [brkB]
 | cons c p ih =>
   have hc : ¬ c = b := h c List.mem_cons_self;have e := ih fun d hd => h d (List.mem_cons_of_mem _ hd);simp only [List.cons_append, brkB, if_neg hc, e]
theorem nmH_61 : ∀ k, k < 6 → nmH k = (nmH k).dropLast ++ [61] ∧ ∀ c ∈ (nmH k).dropLast, c ≠ 61 := by decide
theorem unnum_itoa (v : Int) (h0 : -9223372036854775808 ≤ v) (h1 : v ≤ 9223372036854775807) : unnumL (Lib.itoa v) = v := by
 unfold unnumL;rw [atoi_itoa v h0 h1]
theorem cnf_head (k : Nat) (hk : k < 6) (v : Int) (h0 : -9223372036854775808 ≤ v) (h1 : v ≤ 9223372036854775807) : cnfV (nmH k ++ Lib.itoa v) = v := by
 obtain ⟨e, h⟩ := nmH_61 k hk
 have e2 : nmH k ++ Lib.itoa v = (nmH k).dropLast ++ 61 :: Lib.itoa v := by
   conv => lhs; rw [e]
   simp
 unfold cnfV;rw [e2, brkB_of 61 _ _ h];simp only [if_true];exact unnum_itoa v h0 h1
theorem cnf_in (w : List UInt8) : -9223372036854775808 ≤ cnfV w ∧ cnfV w ≤ 9223372036854775807 := by
 unfold cnfV
 split
 · exact unnum_in _ atoi_in
 · decide
theorem take_ref (k : Nat) (hk : k < 6) (q : Cf × List M) (w : List UInt8) : takeQ k q w = if w = nmH k ++ Lib.itoa (cnfV w) then some (q.1.set k (cnfV w), q.2) else none := by
 by_cases h : w = nmH k ++ Lib.itoa (cnfV w)
 · rw [if_pos h]
   have hi := cnf_in w
   generalize hv : cnfV w = v at *
   rw [h];unfold takeQ;rw [if_pos hk, if_pos (List.isPrefixOf_iff_prefix.mpr (List.prefix_append _ _)), List.drop_left, num_itoa v hi.1 hi.2]
   rfl
 · rw [if_neg h]
   cases ht : takeQ k q w with
   | none => rfl
   | some q' =>
     obtain ⟨v, _, hw, h0, h1⟩ := (take_back ht).1 hk;refine absurd ?_ h;rw [hw, cnf_head k hk v h0 h1]
theorem go_ref (all : List (List UInt8)) : ∀ (ls : List (List UInt8)) (k : Nat) (q : Cf) (l : List M), all.drop k = ls → k ≤ all.length → (∀ j, j < k → j < 6 → q.get j = (confQ all).get j) →
   ∃ q', goQ ls k (q, l) = (match rGo (confQ all) ls k l with | .inl n => .inl n | .inr l' => .inr (q', l')) ∧ ∀ j, j < all.length → j < 6 → q'.get j = (confQ all).get j := by
 intro ls
 induction ls with
 | nil =>
   intro k q l hd hk hq
   have : k = all.length := by
     have := congrArg List.length hd
     simp at this
     omega
   subst this;exact ⟨q, rfl, hq⟩
 | cons w ls ih =>
   intro k q l hd hk hq
   have hlt : k < all.length := by
     have := congrArg List.length hd
     simp at this
     omega
   have hw : all[k]? = some w := by
     have := congrArg (fun x => x[0]?) hd
     simpa using this
   have hd2 : all.drop (k + 1) = ls := by
     rw [← List.drop_drop, hd]
     rfl
   by_cases h6 : k < 6
   · have ht := take_ref k h6 (q, l) w
     have hg : (confQ all).get k = cnfV w := by
       rw [conf_get all k h6];unfold cnfN;rw [hw]
     have hh : headQ (confQ all) k = nmH k ++ Lib.itoa (cnfV w) := by
       unfold headQ headL;rw [if_pos h6, hg]
     simp only [goQ, rGo];rw [ht, hh, if_pos (show k < 7 by omega)]
     by_cases e : w = nmH k ++ Lib.itoa (cnfV w)
     · rw [if_pos e, if_pos e]
       refine ih (k + 1) (q.set k (cnfV w)) l hd2 hlt ?_;intro j hj hj6
       by_cases hjk : j = k
       · subst hjk
         rw [get_set q j h6, hg]
       · rw [get_set_ne q k j h6 hj6 hjk]
         exact hq j (by omega) hj6
     · rw [if_neg e, if_neg e]
       have hn : ∃ q0 : Cf, ∀ j, j < all.length → j < 6 → q0.get j = (confQ all).get j := ⟨confQ all, fun _ _ _ => rfl⟩;obtain ⟨q0, h0⟩ := hn;exact ⟨q0, rfl, h0⟩
   · by_cases h7 : k = 6
     · subst h7
       have hh : headQ (confQ all) 6 = beginB := rfl;simp only [goQ, rGo, takeQ];rw [hh];simp only [Nat.lt_irrefl, if_false, if_true]
       by_cases e : w = beginB
       · rw [if_pos e, if_pos e]
         simp only [show (6 : Nat) < 7 from by decide, if_true];exact ih 7 q l hd2 hlt fun j hj hj6 => hq j (by omega) hj6
       · rw [if_neg e, if_neg e]
         exact ⟨confQ all, rfl, fun _ _ _ => rfl⟩
     · simp only [goQ, rGo, takeQ]
       rw [if_neg h6, if_neg h7, if_neg (show ¬ k < 7 by omega)];cases hs : stepL mayM w with
       | none => exact ⟨confQ all, rfl, fun _ _ _ => rfl⟩
       | some x => exact ih (k + 1) q (l ++ [x]) hd2 hlt fun j hj hj6 => hq j (by omega) hj6
theorem ref_read (s : List UInt8) : refQ s = readQ s := by
 unfold refQ readQ;obtain ⟨q', e, h⟩ := go_ref (linesQ s).1 (linesQ s).1 0 Cf.zero [] rfl (Nat.zero_le _) (fun j hj => absurd hj (by omega));rw [e];cases hr : rGo (confQ (linesQ s).1) (linesQ s).1 0 [] with
 | inl n => rfl
 | inr l =>
   simp only
   by_cases hc : (linesQ s).2 ≠ [] ∨ (linesQ s).1.length < 7
   · rw [if_pos hc, if_pos hc]
   · rw [if_neg hc, if_neg hc]
     have : q' = confQ (linesQ s).1 := Cf.ext6 _ _ fun k hk => h k (by omega) hk;rw [this]
theorem refL_step (s : List UInt8) : refL mayM s = stepL mayM s := ref_step mayM (fun x h i => may_good x i h) s (fun x h => stepL_in h)
end Go.Proofs.YtkljcgopikdjjaaGreatDoor.Tx
end
section
namespace Go.Proofs.YtkljcgopikdjjaaGreatDoor.Tx
set_option maxRecDepth 100000
set_option maxHeartbeats 1000000
open Go.RowKit Go.Shelf Go.Maps Oct
def headC (x : Cf) : Array Value := #[.string (B (headL x 0)), .string (B (headL x 1)), .string (B (headL x 2)), .string (B (headL x 3)), .string (B (headL x 4)), .string (B (headL x 5)), .string (B beginB)]
structure KC (w : World) (x : Cf) (W : World) : Prop where
 box : SBox W w.heap.size 27 x.cells
 bel : Below w.heap.size w W
abbrev SC (w : World) (x : Cf) (W : World) : Prop := W.cell? ⟨w.heap.size, 0, none⟩ = some (.int .i64 x.i) ∧ W.cell? ⟨w.heap.size, 1, none⟩ = some (.int .i64 x.b) ∧ W.cell? ⟨w.heap.size, 2, none⟩ = some (.int .i64 x.j) ∧ W.cell? ⟨w.heap.size, 3, none⟩ = some (.int .i64 x.c) ∧ W.cell? ⟨w.heap.size, 4, none⟩ = some (.int .i64 x.l) ∧ W.cell? ⟨w.heap.size, 5, none⟩ = some (.int .i64 x.t) ∧ w.heap.size < W.heap.size ∧ KC w x W
theorem KC.s {w W : World} {x : Cf} (h : KC w x W) : SC w x W := by
 have hx := h.box;unfold Cf.cells at hx;have X0 := hx.cell 0;have X1 := hx.cell 1;have X2 := hx.cell 2;have X3 := hx.cell 3;have X4 := hx.cell 4;have X5 := hx.cell 5;simp only [List.getElem?_toArray, List.getElem?_cons_zero, List.getElem?_cons_succ] at X0 X1 X2 X3 X4 X5;have Xl := hx.lt;exact ⟨X0, X1, X2, X3, X4, X5, Xl, h⟩
theorem SC.kc {w W : World} {x : Cf} (h : SC w x W) : KC w x W := h.2.2.2.2.2.2.2
theorem KC.go {w W W2 : World} {x : Cf} (h : KC w x W) (b : Below W.heap.size W W2) : KC w x W2 := ⟨SBox.later h.box b, h.bel.trans (b.mono h.bel.size)⟩
theorem SC.go {w W W2 : World} {x : Cf} (h : SC w x W) (b : Below W.heap.size W W2) : SC w x W2 := (h.kc.go b).s
theorem rhead_any (x : Cf) (hx : x.In) (w : World) (hl : Lay w) : Calls Tryz.prog 48 #[x.val] w fun e w' => ∃ r, e = .returned (.slice (some ⟨r, 0, none⟩) 7 7) ∧ SBox w' r 9 (headC x) ∧ w.heap.size ≤ r ∧ Below w.heap.size w w' := by
 have K0 : KC w x (w.alloc (.cells x.cells 27)) := ⟨SBox.new w 27 x.cells, (Below.refl w.heap.size w).alloc (Nat.le_refl _) _⟩;have HK0 := Lib.hid K0;have N0 := Lib.hid (fun W (h : SC w x W) => rnum37 x.i (hx 0).1 (hx 0).2 W (hl.later h.kc.bel));have C0 : Hid (((⟨#[105, 110, 111, 100, 101, 115, 61]⟩ : ByteArray) ++ B (Lib.itoa x.i)) = B (headL x 0)) := Lib.hid (by rw [show (⟨#[105, 110, 111, 100, 101, 115, 61]⟩ : ByteArray) = B (nmH 0) from rfl, B_append]; rfl);have s0 : ¬ 9223372036854775807 < 7 + (B (Lib.itoa x.i)).size := by rw [size_B]; have := itoa_len x.i (hx 0).1 (hx 0).2; omega
 have N1 := Lib.hid (fun W (h : SC w x W) => rnum37 x.b (hx 1).1 (hx 1).2 W (hl.later h.kc.bel));have C1 : Hid (((⟨#[98, 108, 111, 99, 107, 115, 61]⟩ : ByteArray) ++ B (Lib.itoa x.b)) = B (headL x 1)) := Lib.hid (by rw [show (⟨#[98, 108, 111, 99, 107, 115, 61]⟩ : ByteArray) = B (nmH 1) from rfl, B_append]; rfl);have s1 : ¬ 9223372036854775807 < 7 + (B (Lib.itoa x.b)).size := by rw [size_B]; have := itoa_len x.b (hx 1).1 (hx 1).2; omega
 have N2 := Lib.hid (fun W (h : SC w x W) => rnum37 x.j (hx 2).1 (hx 2).2 W (hl.later h.kc.bel));have C2 : Hid (((⟨#[106, 111, 117, 114, 110, 97, 108, 61]⟩ : ByteArray) ++ B (Lib.itoa x.j)) = B (headL x 2)) := Lib.hid (by rw [show (⟨#[106, 111, 117, 114, 110, 97, 108, 61]⟩ : ByteArray) = B (nmH 2) from rfl, B_append]; rfl);have s2 : ¬ 9223372036854775807 < 8 + (B (Lib.itoa x.j)).size := by rw [size_B]; have := itoa_len x.j (hx 2).1 (hx 2).2; omega
 have N3 := Lib.hid (fun W (h : SC w x W) => rnum37 x.c (hx 3).1 (hx 3).2 W (hl.later h.kc.bel));have C3 : Hid (((⟨#[99, 111, 114, 101, 115, 61]⟩ : ByteArray) ++ B (Lib.itoa x.c)) = B (headL x 3)) := Lib.hid (by rw [show (⟨#[99, 111, 114, 101, 115, 61]⟩ : ByteArray) = B (nmH 3) from rfl, B_append]; rfl);have s3 : ¬ 9223372036854775807 < 6 + (B (Lib.itoa x.c)).size := by rw [size_B]; have := itoa_len x.c (hx 3).1 (hx 3).2; omega
 have N4 := Lib.hid (fun W (h : SC w x W) => rnum37 x.l (hx 4).1 (hx 4).2 W (hl.later h.kc.bel));have C4 : Hid (((⟨#[108, 111, 103, 61]⟩ : ByteArray) ++ B (Lib.itoa x.l)) = B (headL x 4)) := Lib.hid (by rw [show (⟨#[108, 111, 103, 61]⟩ : ByteArray) = B (nmH 4) from rfl, B_append]; rfl);have s4 : ¬ 9223372036854775807 < 4 + (B (Lib.itoa x.l)).size := by rw [size_B]; have := itoa_len x.l (hx 4).1 (hx 4).2; omega
 have N5 := Lib.hid (fun W (h : SC w x W) => rnum37 x.t (hx 5).1 (hx 5).2 W (hl.later h.kc.bel));have C5 : Hid (((⟨#[116, 114, 105, 101, 115, 61]⟩ : ByteArray) ++ B (Lib.itoa x.t)) = B (headL x 5)) := Lib.hid (by rw [show (⟨#[116, 114, 105, 101, 115, 61]⟩ : ByteArray) = B (nmH 5) from rfl, B_append]; rfl);have s5 : ¬ 9223372036854775807 < 6 + (B (Lib.itoa x.t)).size := by rw [size_B]; have := itoa_len x.t (hx 5).1 (hx 5).2; omega
 clear K0 hl;unfold Cf.val;unfold Cf.cells at HK0
 go_enter Tryz.func48, Tryz.ntmps48
 go_wp2_with fail
 go_region_held3 (fun W => W.cell? ⟨w.heap.size, 0, none⟩ = some (.int .i64 x.i) ∧ W.cell? ⟨w.heap.size, 1, none⟩ = some (.int .i64 x.b) ∧ W.cell? ⟨w.heap.size, 2, none⟩ = some (.int .i64 x.j) ∧ W.cell? ⟨w.heap.size, 3, none⟩ = some (.int .i64 x.c) ∧ W.cell? ⟨w.heap.size, 4, none⟩ = some (.int .i64 x.l) ∧ W.cell? ⟨w.heap.size, 5, none⟩ = some (.int .i64 x.t) ∧ w.heap.size < W.heap.size ∧ KC w x W)
   (first | exact SC.go (by assumption) b2 | exact (KC.go HK0.out (Below.refl _ _).drew).s | exact HK0.out.s | exact SC.go (by assumption) ((Below.refl _ _).alloc (Nat.le_refl _) _))
   (first | (go_at_call 93; (first | with_reducible refine (N0.out _ (by assumption)).mono ?_ | with_reducible refine (N1.out _ (by assumption)).mono ?_ | with_reducible refine (N2.out _ (by assumption)).mono ?_ | with_reducible refine (N3.out _ (by assumption)).mono ?_ | with_reducible refine (N4.out _ (by assumption)).mono ?_ | with_reducible refine (N5.out _ (by assumption)).mono ?_); rintro e w2 ⟨rfl, b2⟩))
 have HE : Hid (KC w x (w2.alloc _)) := Lib.hid (SC.kc (by assumption));have hsz := HE.out.bel.size;have hlt := HE.out.box.lt;rw [C0.out, C1.out, C2.out, C3.out, C4.out, C5.out] at HE ⊢
 go_wp2
 go_ret;have hle : w.heap.size ≤ w2.heap.size := by simp at hlt; omega
 exact ⟨_, rfl, SBox.new w2 9 (headC x), hle, HE.out.bel⟩
end Go.Proofs.YtkljcgopikdjjaaGreatDoor.Tx
end
