/- Layer 37, the document's answer: a step's line. -/
import Derived.Test.YtkljcgopikdjjaaGreatDoorM27
import Derived.BigRegion
import Derived.Deep.RegionHeld3
set_option linter.unusedVariables false
set_option linter.unusedSimpArgs false
set_option maxRecDepth 100000
section
namespace Go.Proofs.YtkljcgopikdjjaaGreatDoor.Tx
set_option maxRecDepth 100000
set_option maxHeartbeats 1000000
open Go.RowKit Go.Shelf Go.Maps Oct
theorem word37 (k : Nat) (hk : k < 256) (w : World) : Calls Tryz.prog 87 #[.int .u8 k] w fun e w' => e = .returned (.string (B (kw k))) ∧ w = w' := by
 by_cases h7 : k < 7
 · match k, h7 with
   | 0, _ | 1, _ | 2, _ | 3, _ | 4, _ | 5, _ | 6, _ =>
     go_enter Tryz.func87, Tryz.ntmps87
     go_wp2
     go_ret;exact ⟨rfl, rfl⟩
 · have e : kw k = [] := by
     match k, h7 with
     | k + 7, _ => rfl
   rw [e];have q0 : ((k : Int) == 0) = false := by simp; omega
   have q1 : ((k : Int) == 1) = false := by simp; omega
   have q2 : ((k : Int) == 2) = false := by simp; omega
   have q3 : ((k : Int) == 3) = false := by simp; omega
   have q4 : ((k : Int) == 4) = false := by simp; omega
   have q5 : ((k : Int) == 5) = false := by simp; omega
   have q6 : ((k : Int) == 6) = false := by simp; omega
   go_enter Tryz.func87, Tryz.ntmps87
   go_wp2
   go_ret;exact ⟨rfl, rfl⟩
structure KT (w : World) (x : M) (W : World) : Prop where
 box : MBox W w.heap.size x
 bel : Below w.heap.size w W
theorem KT.go {w W W2 : World} {x : M} (h : KT w x W) (b : Below W.heap.size W W2) : KT w x W2 := ⟨SBox.later h.box b, h.bel.trans (b.mono h.bel.size)⟩
abbrev ST (w : World) (x : M) (W : World) : Prop := W.cell? ⟨w.heap.size, 0, none⟩ = some (.int .u8 x.k) ∧ W.cell? ⟨w.heap.size, 1, none⟩ = some (.int .i64 x.co) ∧ W.cell? ⟨w.heap.size, 2, none⟩ = some (.int .i64 x.n) ∧ W.cell? ⟨w.heap.size, 3, none⟩ = some (.int .u32 x.ino) ∧ W.cell? ⟨w.heap.size, 4, none⟩ = some (.int .u8 x.d) ∧ W.cell? ⟨w.heap.size, 5, none⟩ = some (.string (B x.p)) ∧ W.cell? ⟨w.heap.size, 6, none⟩ = some (.string (B x.p2)) ∧ W.cell? ⟨w.heap.size, 7, none⟩ = some (.int .i64 x.fd) ∧ W.cell? ⟨w.heap.size, 8, none⟩ = some (.int .i64 x.pg) ∧ W.cell? ⟨w.heap.size, 9, none⟩ = some (.int .u32 x.sz) ∧ W.cell? ⟨w.heap.size, 10, none⟩ = some (.string (B x.da)) ∧ W.cell? ⟨w.heap.size, 11, none⟩ = some (.string (B x.t)) ∧ w.heap.size < W.heap.size ∧ KT w x W
theorem KT.s {w W : World} {x : M} (h : KT w x W) : ST w x W := by
 have hx := h.box;unfold MBox M.cells at hx;have c0 := hx.cell 0; have c1 := hx.cell 1; have c2 := hx.cell 2; have c3 := hx.cell 3; have c4 := hx.cell 4; have c5 := hx.cell 5; have c6 := hx.cell 6; have c7 := hx.cell 7; have c8 := hx.cell 8; have c9 := hx.cell 9; have c10 := hx.cell 10; have c11 := hx.cell 11;simp only [List.getElem?_toArray, List.getElem?_cons_zero, List.getElem?_cons_succ] at c0 c1 c2 c3 c4 c5 c6 c7 c8 c9 c10 c11;exact ⟨c0, c1, c2, c3, c4, c5, c6, c7, c8, c9, c10, c11, hx.lt, h⟩
theorem ST.kt {w W : World} {x : M} (h : ST w x W) : KT w x W := h.2.2.2.2.2.2.2.2.2.2.2.2.2
theorem ST.go {w W W2 : World} {x : M} (h : ST w x W) (b : Below W.heap.size W W2) : ST w x W2 := (h.kt.go b).s
theorem cat_step (a b : List UInt8) (n : Nat) (ha : a.length ≤ n) (hb : b.length ≤ 400000) (hn : n ≤ 100000000) : ∃ c, c = a ++ b ∧ B a ++ B b = B c ∧ c.length ≤ n + 400000 ∧ ¬ 9223372036854775807 < (B a).size + (B b).size :=
 ⟨a ++ b, rfl, B_append a b, by rw [List.length_append]; omega, by rw [size_B, size_B]; omega⟩
theorem fld_len (n t : List UInt8) (hn : n.length ≤ 4) : (fldL n t).length ≤ t.length + 6 := by
 unfold fldL
 split
 · simp
 · simp; omega
theorem told_parts (x : M) : lineL x = kw x.k ++ fldL (nm 0) (tellF 0 x) ++ fldL (nm 1) (tellF 1 x) ++ fldL (nm 2) (tellF 2 x) ++ fldL (nm 3) (tellF 3 x) ++ fldL (nm 4) (tellF 4 x) ++ fldL (nm 5) (tellF 5 x) ++ fldL (nm 6) (tellF 6 x) ++ fldL (nm 7) (tellF 7 x) ++ fldL (nm 8) (tellF 8 x) ++ fldL (nm 9) (tellF 9 x) ++ fldL (nm 10) (tellF 10 x) := by
 rw [← lineTo_full, lineTo_fld, lineTo_fld, lineTo_fld, lineTo_fld, lineTo_fld, lineTo_fld, lineTo_fld, lineTo_fld, lineTo_fld, lineTo_fld, lineTo_fld]
 rfl
theorem told_any (x : M) (hx : x.In) (hk : x.k < 256) (h15 : x.d ≤ 15) (hsz : x.size ≤ 100000) (w : World) (hl : Lay w) : Calls Tryz.prog 44 #[x.val] w fun e w' => e = .returned (.string (B (lineL x))) ∧ Below w.heap.size w w' := by
 have hp : x.p.length ≤ 100000 ∧ x.p2.length ≤ 100000 ∧ x.da.length ≤ 100000 ∧ x.t.length ≤ 100000 := by unfold M.size at hsz; omega
 obtain ⟨hp1, hp2, hp3, hp4⟩ := hp;have hino := hx.ino;have hszz := hx.sz;have KT0 : KT w x (w.alloc (.cells x.cells 40)) := ⟨SBox.new w 40 x.cells, (Below.refl w.heap.size w).alloc (Nat.le_refl _) _⟩;have E := Lib.hid (told_parts x);have HW := Lib.hid (fun W => (word37 x.k hk W).mono (R' := fun e w' => e = .returned (.string (B (kw x.k))) ∧ Below W.heap.size W w') fun e w' h => ⟨h.1, by rw [← h.2]; exact Below.refl _ _⟩);have H0 := Lib.hid (fun W (h : ST w x W) => rfield_any (nm 0) (by decide) x.co hx.co0 hx.co1 W (hl.later h.kt.bel));have H1 := Lib.hid (fun W (h : ST w x W) => rfield_any (nm 1) (by decide) x.n hx.n0 hx.n1 W (hl.later h.kt.bel));have H2 := Lib.hid (fun W (h : ST w x W) => rfield_any (nm 2) (by decide) x.ino (by omega) (by omega) W (hl.later h.kt.bel));have H4 := Lib.hid (fun W => rtextField_any (nm 4) (by decide) x.p hp1 W);have H5 := Lib.hid (fun W => rtextField_any (nm 5) (by decide) x.p2 hp2 W);have H6 := Lib.hid (fun W (h : ST w x W) => rfield_any (nm 6) (by decide) x.fd hx.fd0 hx.fd1 W (hl.later h.kt.bel));have H7 := Lib.hid (fun W (h : ST w x W) => rfield_any (nm 7) (by decide) x.pg hx.pg0 hx.pg1 W (hl.later h.kt.bel));have H8 := Lib.hid (fun W (h : ST w x W) => rfield_any (nm 8) (by decide) x.sz (by omega) (by omega) W (hl.later h.kt.bel));have H9 := Lib.hid (fun W => rtextField_any (nm 9) (by decide) x.da hp3 W);have H10 := Lib.hid (fun W => rtextField_any (nm 10) (by decide) x.t hp4 W);have HD := Lib.hid (fun W => Call.rword_any x.d W (by omega));have hB : ∀ l : List UInt8, B l = ⟨l.toArray⟩ := fun _ => rfl;have z0 := fld_len (nm 0) (tellF 0 x) (by decide);have z1 := fld_len (nm 1) (tellF 1 x) (by decide);have z2 := fld_len (nm 2) (tellF 2 x) (by decide);have z4 := fld_len (nm 4) (tellF 4 x) (by decide);have z5 := fld_len (nm 5) (tellF 5 x) (by decide);have z6 := fld_len (nm 6) (tellF 6 x) (by decide);have z7 := fld_len (nm 7) (tellF 7 x) (by decide);have z8 := fld_len (nm 8) (tellF 8 x) (by decide);have z9 := fld_len (nm 9) (tellF 9 x) (by decide);have z10 := fld_len (nm 10) (tellF 10 x) (by decide);have y := fun k => tellF_len x hx k;have y0 := y 0; have y1 := y 1; have y2 := y 2; have y4 := y 4; have y5 := y 5; have y6 := y 6; have y7 := y 7; have y8 := y 8; have y9 := y 9; have y10 := y 10;clear y;have hkw := kw_len x.k;have s0 : (fldL (nm 0) (tellF 0 x)).length ≤ 400000 := by omega
 have s1 : (fldL (nm 1) (tellF 1 x)).length ≤ 400000 := by omega
 have s2 : (fldL (nm 2) (tellF 2 x)).length ≤ 400000 := by omega
 have s4 : (fldL (nm 4) (tellF 4 x)).length ≤ 400000 := by omega
 have s5 : (fldL (nm 5) (tellF 5 x)).length ≤ 400000 := by omega
 have s6 : (fldL (nm 6) (tellF 6 x)).length ≤ 400000 := by omega
 have s7 : (fldL (nm 7) (tellF 7 x)).length ≤ 400000 := by omega
 have s8 : (fldL (nm 8) (tellF 8 x)).length ≤ 400000 := by omega
 have s9 : (fldL (nm 9) (tellF 9 x)).length ≤ 400000 := by omega
 have s10 : (fldL (nm 10) (tellF 10 x)).length ≤ 400000 := by omega
 clear z0 z1 z2 z4 z5 z6 z7 z8 z9 z10 y0 y1 y2 y4 y5 y6 y7 y8 y9 y10;change Hid (∀ W (h : ST w x W), Calls _ _ #[.string ⟨#[99, 111, 114, 101]⟩, .int .i64 x.co] W fun e w' => e = .returned (.string (B (fldL (nm 0) (tellF 0 x)))) ∧ _) at H0;change Hid (∀ W (h : ST w x W), Calls _ _ #[.string ⟨#[110]⟩, .int .i64 x.n] W fun e w' => e = .returned (.string (B (fldL (nm 1) (tellF 1 x)))) ∧ _) at H1;change Hid (∀ W (h : ST w x W), Calls _ _ #[.string ⟨#[105, 110, 111]⟩, .int .i64 x.ino] W fun e w' => e = .returned (.string (B (fldL (nm 2) (tellF 2 x)))) ∧ _) at H2;change Hid (∀ W, Calls _ _ #[.string ⟨#[112, 97, 116, 104]⟩, .string (B x.p)] W fun e w' => e = .returned (.string (B (fldL (nm 4) (tellF 4 x)))) ∧ _) at H4;change Hid (∀ W, Calls _ _ #[.string ⟨#[116, 111]⟩, .string (B x.p2)] W fun e w' => e = .returned (.string (B (fldL (nm 5) (tellF 5 x)))) ∧ _) at H5;change Hid (∀ W (h : ST w x W), Calls _ _ #[.string ⟨#[102, 100]⟩, .int .i64 x.fd] W fun e w' => e = .returned (.string (B (fldL (nm 6) (tellF 6 x)))) ∧ _) at H6;change Hid (∀ W (h : ST w x W), Calls _ _ #[.string ⟨#[112, 97, 103, 101]⟩, .int .i64 x.pg] W fun e w' => e = .returned (.string (B (fldL (nm 7) (tellF 7 x)))) ∧ _) at H7;change Hid (∀ W (h : ST w x W), Calls _ _ #[.string ⟨#[115, 105, 122, 101]⟩, .int .i64 x.sz] W fun e w' => e = .returned (.string (B (fldL (nm 8) (tellF 8 x)))) ∧ _) at H8;change Hid (∀ W, Calls _ _ #[.string ⟨#[100, 97, 116, 97]⟩, .string (B x.da)] W fun e w' => e = .returned (.string (B (fldL (nm 9) (tellF 9 x)))) ∧ _) at H9;change Hid (∀ W, Calls _ _ #[.string ⟨#[116, 101, 120, 116]⟩, .string (B x.t)] W fun e w' => e = .returned (.string (B (fldL (nm 10) (tellF 10 x)))) ∧ _) at H10
 have E3 : fldL (nm 3) (tellF 3 x) = if x.d = 0 then [] else [32, 100, 111, 61] ++ cw x.d := by
   show (if cw x.d = [] then [] else 32 :: (nm 3 ++ 61 :: cw x.d)) = _
   by_cases h0 : x.d = 0
   · rw [if_pos h0, h0]; rfl
   · rw [if_neg h0, if_neg (cw_pos x.d (by omega) (by omega))]; rfl
 have E3 := Lib.hid E3;rw [← cw_word] at HD;have sd := cw_len x.d
 generalize fldL (nm 0) (tellF 0 x) = f0 at *
 generalize fldL (nm 1) (tellF 1 x) = f1 at *
 generalize fldL (nm 2) (tellF 2 x) = f2 at *
 generalize fldL (nm 3) (tellF 3 x) = f3 at *
 generalize fldL (nm 4) (tellF 4 x) = f4 at *
 generalize fldL (nm 5) (tellF 5 x) = f5 at *
 generalize fldL (nm 6) (tellF 6 x) = f6 at *
 generalize fldL (nm 7) (tellF 7 x) = f7 at *
 generalize fldL (nm 8) (tellF 8 x) = f8 at *
 generalize fldL (nm 9) (tellF 9 x) = f9 at *
 generalize fldL (nm 10) (tellF 10 x) = f10 at *
 generalize kw x.k = fk at *
 generalize cw x.d = fd at *
 obtain ⟨a1, p1, c1, l1, m1⟩ := cat_step fk f0 6 hkw s0 (by decide);obtain ⟨a2, p2, c2, l2, m2⟩ := cat_step a1 f1 _ l1 s1 (by decide);obtain ⟨a3, p3, c3, l3, m3⟩ := cat_step a2 f2 _ l2 s2 (by decide);have n2 : ¬ 9223372036854775807 < (B fk).size + (B f0).size + (B f1).size := by rw [size_B, size_B, size_B]; omega
 have n3 : ¬ 9223372036854775807 < (B fk).size + (B f0).size + (B f1).size + (B f2).size := by rw [size_B, size_B, size_B, size_B]; omega
 have C1 := Lib.hid c1;have C2 := Lib.hid c2;have C3 := Lib.hid c3;clear c1 c2 c3;have HK0 := Lib.hid KT0.s;have HKT := Lib.hid KT0;have wi : IntKind.i64.wrap (x.ino : Int) = x.ino := IntWalk.i64_in _ (by omega);have ws : IntKind.i64.wrap (x.sz : Int) = x.sz := IntWalk.i64_in _ (by omega);unfold M.val M.cells at *;clear hl KT0 hB
 go_enter Tryz.func44, Tryz.ntmps44
 go_wp2_with fail
 go_region_held3 (fun W => W.cell? ⟨w.heap.size, 0, none⟩ = some (.int .u8 x.k) ∧ W.cell? ⟨w.heap.size, 1, none⟩ = some (.int .i64 x.co) ∧ W.cell? ⟨w.heap.size, 2, none⟩ = some (.int .i64 x.n) ∧ W.cell? ⟨w.heap.size, 3, none⟩ = some (.int .u32 x.ino) ∧ W.cell? ⟨w.heap.size, 4, none⟩ = some (.int .u8 x.d) ∧ W.cell? ⟨w.heap.size, 5, none⟩ = some (.string (B x.p)) ∧ W.cell? ⟨w.heap.size, 6, none⟩ = some (.string (B x.p2)) ∧ W.cell? ⟨w.heap.size, 7, none⟩ = some (.int .i64 x.fd) ∧ W.cell? ⟨w.heap.size, 8, none⟩ = some (.int .i64 x.pg) ∧ W.cell? ⟨w.heap.size, 9, none⟩ = some (.int .u32 x.sz) ∧ W.cell? ⟨w.heap.size, 10, none⟩ = some (.string (B x.da)) ∧ W.cell? ⟨w.heap.size, 11, none⟩ = some (.string (B x.t)) ∧ w.heap.size < W.heap.size ∧ KT w x W)
   (first | exact ST.go (by assumption) b2 | exact (KT.go HKT.out (Below.refl _ _).drew).s | exact HKT.out.s)
   (first | (go_at_call 87; with_reducible refine (HW.out _).mono ?_; rintro e w2 ⟨rfl, b2⟩) | (go_at_call 88; (first | with_reducible refine (H0.out _ (by assumption)).mono ?_ | with_reducible refine (H1.out _ (by assumption)).mono ?_ | with_reducible refine (H2.out _ (by assumption)).mono ?_); rintro e w2 ⟨rfl, b2⟩))
 have HK3 : Hid (KT w x w2) := Lib.hid (ST.kt (by assumption));have hT : B fk ++ B f0 ++ B f1 ++ B f2 = B a3 := by rw [C1.out, C2.out, C3.out]
 rw [hT];have HP3 : Hid (a3 = fk ++ f0 ++ f1 ++ f2) := Lib.hid (by rw [p3, p2, p1]);clear hT n2 n3 m1 m2 m3 p1 p2 p3
 rcases Nat.eq_zero_or_pos x.d with h0 | h0
 case' inl =>
   have hd0 : ((x.d : Int) != 0) = false := by simp; omega
   obtain ⟨a4, P4, c4, l4, m4⟩ := cat_step a3 [] _ l3 (by simp) (by decide);have e34 : a4 = a3 := by rw [P4]; simp
   have E4 : Hid (a4 = a3 ++ f3) := Lib.hid (by rw [e34, E3.out, if_pos h0]; simp);rw [← e34];go_wp2_with fail;have HK4 : Hid (KT w x w2) := Lib.hid HK3.out;clear m4 c4 P4 e34 hd0
 case' inr =>
   have hd0 : ((x.d : Int) != 0) = true := by simp; omega
   have n4 : (B a3).size ≤ 1300000 := by rw [size_B]; omega
   have n5 : (B fd).size ≤ 8 := by rw [size_B]; omega
   obtain ⟨a4, P4, c4, l4, m4⟩ := cat_step a3 ([32, 100, 111, 61] ++ fd) _ l3 (by simp; omega) (by decide);have E4 : Hid (a4 = a3 ++ f3) := Lib.hid (by rw [P4, E3.out, if_neg (by omega)])
   have hT : B a3 ++ (⟨#[32, 100, 111, 61]⟩ : ByteArray) ++ B fd = B a4 := by
     rw [show (⟨#[32, 100, 111, 61]⟩ : ByteArray) = B [32, 100, 111, 61] from rfl, B_append, B_append, P4, List.append_assoc]
   have HT := Lib.hid hT;clear hT c4 m4 P4;go_wp2_with fail;refine (HD.out _).mono ?_;rintro e w4 ⟨rfl, b4⟩;have HK4 : Hid (KT w x w4) := Lib.hid (HK3.out.go b4);clear b4;go_wp2_with fail;rw [HT.out];clear n4 n5 hd0
 all_goals
   have y4 := HK4.out.s;have n4 : ¬ 9223372036854775807 < (B a4).size + (B f4).size := by rw [size_B, size_B]; omega
   have n5 : ¬ 9223372036854775807 < (B a4).size + (B f4).size + (B f5).size := by rw [size_B, size_B, size_B]; omega
   have n6 : ¬ 9223372036854775807 < (B a4).size + (B f4).size + (B f5).size + (B f6).size := by rw [size_B, size_B, size_B, size_B]; omega
   have n7 : ¬ 9223372036854775807 < (B a4).size + (B f4).size + (B f5).size + (B f6).size + (B f7).size := by rw [size_B, size_B, size_B, size_B, size_B]; omega
   go_region_held3 (fun W => W.cell? ⟨w.heap.size, 0, none⟩ = some (.int .u8 x.k) ∧ W.cell? ⟨w.heap.size, 1, none⟩ = some (.int .i64 x.co) ∧ W.cell? ⟨w.heap.size, 2, none⟩ = some (.int .i64 x.n) ∧ W.cell? ⟨w.heap.size, 3, none⟩ = some (.int .u32 x.ino) ∧ W.cell? ⟨w.heap.size, 4, none⟩ = some (.int .u8 x.d) ∧ W.cell? ⟨w.heap.size, 5, none⟩ = some (.string (B x.p)) ∧ W.cell? ⟨w.heap.size, 6, none⟩ = some (.string (B x.p2)) ∧ W.cell? ⟨w.heap.size, 7, none⟩ = some (.int .i64 x.fd) ∧ W.cell? ⟨w.heap.size, 8, none⟩ = some (.int .i64 x.pg) ∧ W.cell? ⟨w.heap.size, 9, none⟩ = some (.int .u32 x.sz) ∧ W.cell? ⟨w.heap.size, 10, none⟩ = some (.string (B x.da)) ∧ W.cell? ⟨w.heap.size, 11, none⟩ = some (.string (B x.t)) ∧ w.heap.size < W.heap.size ∧ KT w x W)
     (first | exact ST.go (by assumption) b2 | exact (KT.go HK4.out (Below.refl _ _).drew).s | exact HK4.out.s)
     (first | (go_at_call 90; (first | with_reducible refine (H4.out _).mono ?_ | with_reducible refine (H5.out _).mono ?_); rintro e w2 ⟨rfl, b2⟩) | (go_at_call 88; (first | with_reducible refine (H6.out _ (by assumption)).mono ?_ | with_reducible refine (H7.out _ (by assumption)).mono ?_); rintro e w2 ⟨rfl, b2⟩))
   have HK8 : Hid (KT w x w2) := Lib.hid (ST.kt (by assumption));obtain ⟨a8, p8, l8⟩ : ∃ a8 : List UInt8, a8 = a4 ++ f4 ++ f5 ++ f6 ++ f7 ∧ a8.length ≤ 10000000 := ⟨_, rfl, by simp only [List.length_append]; omega⟩;have hT8 : B a4 ++ B f4 ++ B f5 ++ B f6 ++ B f7 = B a8 := by rw [B_append, B_append, B_append, B_append, p8]
   rw [hT8];have P8 := Lib.hid p8;have n8 : ¬ 9223372036854775807 < (B a8).size + (B f8).size := by rw [size_B, size_B]; omega
   have n9 : ¬ 9223372036854775807 < (B a8).size + (B f8).size + (B f9).size := by rw [size_B, size_B, size_B]; omega
   have n10 : ¬ 9223372036854775807 < (B a8).size + (B f8).size + (B f9).size + (B f10).size := by rw [size_B, size_B, size_B, size_B]; omega
   clear hT8 n4 n5 n6 n7 p8;go_wp2_with fail
   go_region_held3 (fun W => W.cell? ⟨w.heap.size, 0, none⟩ = some (.int .u8 x.k) ∧ W.cell? ⟨w.heap.size, 1, none⟩ = some (.int .i64 x.co) ∧ W.cell? ⟨w.heap.size, 2, none⟩ = some (.int .i64 x.n) ∧ W.cell? ⟨w.heap.size, 3, none⟩ = some (.int .u32 x.ino) ∧ W.cell? ⟨w.heap.size, 4, none⟩ = some (.int .u8 x.d) ∧ W.cell? ⟨w.heap.size, 5, none⟩ = some (.string (B x.p)) ∧ W.cell? ⟨w.heap.size, 6, none⟩ = some (.string (B x.p2)) ∧ W.cell? ⟨w.heap.size, 7, none⟩ = some (.int .i64 x.fd) ∧ W.cell? ⟨w.heap.size, 8, none⟩ = some (.int .i64 x.pg) ∧ W.cell? ⟨w.heap.size, 9, none⟩ = some (.int .u32 x.sz) ∧ W.cell? ⟨w.heap.size, 10, none⟩ = some (.string (B x.da)) ∧ W.cell? ⟨w.heap.size, 11, none⟩ = some (.string (B x.t)) ∧ w.heap.size < W.heap.size ∧ KT w x W)
     (first | exact ST.go (by assumption) b2 | exact (KT.go HK8.out (Below.refl _ _).drew).s | exact HK8.out.s)
     (first | (go_at_call 90; (first | with_reducible refine (H9.out _).mono ?_ | with_reducible refine (H10.out _).mono ?_); rintro e w2 ⟨rfl, b2⟩) | (go_at_call 88; (first | with_reducible refine (H8.out _ (by assumption)).mono ?_); rintro e w2 ⟨rfl, b2⟩))
   have HK10 : Hid (KT w x w2) := Lib.hid (ST.kt (by assumption))
   have E9 : Hid (B a8 ++ B f8 ++ B f9 ++ B f10 = B (lineL x)) := Lib.hid (by
     rw [B_append, B_append, B_append, E.out, P8.out, E4.out, HP3.out])
   clear n8 n9 n10
   go_wp2
   go_ret;exact ⟨by rw [← E9.out]; rfl, HK10.out.bel⟩
end Go.Proofs.YtkljcgopikdjjaaGreatDoor.Tx
end
