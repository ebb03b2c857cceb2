/- Layer 20, the document's answer: Check, by what a call has. -/
import Derived.Test.YtkljcgopikdjjaaGreatDoorM15
import Derived.Deep.Cut
import Derived.BigGuard
set_option linter.unusedVariables false
set_option linter.unusedSimpArgs false
set_option maxRecDepth 100000
section
namespace Go.Proofs.YtkljcgopikdjjaaGreatDoor.Call
open Go.RowKit Oct Path
def rBad (h32 : Bool) (x : C) : Bool := decide (x.fd < 0 ∨ 15 < x.fd ∨ x.pg < 0 ∨ 36 ≤ x.pg ∨ (h32 = true ∧ (x.da.size < 1 ∨ 64 < x.da.size)) ∨ 2304 < x.sz)
def rE (h1 h2 h4 h8 h16 h32 h64 h128 : Bool) (x : C) : Int :=
 if (h1 = false ∧ x.p ≠ ⟨#[]⟩) ∨ (h2 = false ∧ x.p2 ≠ ⟨#[]⟩) ∨ (h4 = false ∧ x.fd ≠ 0) ∨ (h8 = false ∧ x.pg ≠ 0) ∨ (h16 = false ∧ x.sz ≠ 0) ∨ (h32 = false ∧ x.da ≠ ⟨#[]⟩) then 2
 else if h1 = true ∧ splitE (L x.p) ≠ 0 then splitE (L x.p)
 else if h1 = true ∧ h64 = true ∧ splitN (L x.p) = [] ∧ h2 = false then 2
 else if h2 = true ∧ splitE (L x.p2) ≠ 0 then splitE (L x.p2)
 else if h2 = true ∧ ((h64 = true ∧ x.p = ⟨#[47]⟩) ∨ (h128 = true ∧ x.p2 = ⟨#[47]⟩)) then 2
 else if rBad h32 x = true then 2 else 0
theorem root_iff {p : ByteArray} (h : splitE (L p) = 0) : splitN (L p) = [] ↔ p = ⟨#[47]⟩ := by
 unfold splitN;rw [if_pos h];obtain ⟨r, hr⟩ := (splitE_ok h).head;rw [names_nil_iff hr]
 constructor
 · intro e
   apply L_inj
   rw [hr, e]
   rfl
 · intro e
   rw [e] at hr;have : [47] = 47 :: r := hr
   simpa using this.symm
theorem slash_ok : splitE (L (⟨#[47]⟩ : ByteArray)) = 0 := by decide +kernel
theorem bits_of : ∀ d, d < 16 → (hasB (hasN d) 128 = true → hasB (hasN d) 2 = true) ∧ (hasB (hasN d) 2 = true → hasB (hasN d) 1 = true) ∧ (hasB (hasN d) 64 = true → hasB (hasN d) 1 = true) := by decide +kernel
theorem keep_iff (x : C) (h : Int) : x.keep h 6 = x ↔ (hasB h 1 = false → x.p = ⟨#[]⟩) ∧ (hasB h 2 = false → x.p2 = ⟨#[]⟩) ∧ (hasB h 4 = false → x.fd = 0) ∧ (hasB h 8 = false → x.pg = 0) ∧ (hasB h 16 = false → x.sz = 0) ∧ (hasB h 32 = false → x.da = ⟨#[]⟩) := by
 obtain ⟨d, p, p2, fd, pg, sz, da⟩ := x;simp only [C.keep, C.mk.injEq, true_and];cases hasB h 1 <;> cases hasB h 2 <;> cases hasB h 4 <;> cases hasB h 8 <;> cases hasB h 16 <;> cases hasB h 32 <;> simp [eq_comm]
theorem rE_eq (x : C) (h1 : 1 ≤ x.d) (h2 : x.d ≤ 15) : x.checkE = rE (hasB (hasN x.d) 1) (hasB (hasN x.d) 2) (hasB (hasN x.d) 4) (hasB (hasN x.d) 8) (hasB (hasN x.d) 16) (hasB (hasN x.d) 32) (hasB (hasN x.d) 64) (hasB (hasN x.d) 128) x := by
 obtain ⟨b1, b2, b3⟩ := bits_of x.d (by omega);unfold C.checkE rE;rw [if_neg (by omega), if_neg (by omega)];have hk := (bare_keep x (hasN x.d)).trans (keep_iff x (hasN x.d))
 by_cases hb : x.bareTo (hasN x.d) 6 = C.zero x.d
 · obtain ⟨k1, k2, k3, k4, k5, k6⟩ := hk.1 hb
   rw [if_neg (by simpa using hb)];rw [if_neg (by rintro (⟨a, b⟩ | ⟨a, b⟩ | ⟨a, b⟩ | ⟨a, b⟩ | ⟨a, b⟩ | ⟨a, b⟩); exact b (k1 a); exact b (k2 a); exact b (k3 a); exact b (k4 a); exact b (k5 a); exact b (k6 a))];unfold C.restE C.e1 C.e2;clear hk hb;have hd : hasB (hasN x.d) 32 = false → x.da.size = 0 := fun e => by rw [k6 e]; rfl
   have hbad : x.bad = (x.root || rBad (hasB (hasN x.d) 32) x) := by
     unfold C.bad rBad
     generalize x.root = rt
     rw [Bool.eq_iff_iff];cases hq : hasB (hasN x.d) 32 with
     | true =>
       simp only [Bool.or_eq_true, Bool.true_and, decide_eq_true_eq, true_and]
       generalize (rt = true) = RT
       by_cases hrt : RT
       · simp only [hrt, true_or]
       · simp only [hrt, false_or]; omega
     | false =>
       have hz := hd hq;simp only [Bool.or_eq_true, Bool.false_and, Bool.false_eq_true, decide_eq_true_eq, false_and, or_false, false_or]
       generalize (rt = true) = RT
       by_cases hrt : RT
       · simp only [hrt, true_or]
       · simp only [hrt, false_or]; omega
   rw [hbad];unfold C.root
   generalize hasB (hasN x.d) 1 = g1 at *
   generalize hasB (hasN x.d) 2 = g2 at *
   generalize hasB (hasN x.d) 64 = g64 at *
   generalize hasB (hasN x.d) 128 = g128 at *
   generalize rBad (hasB (hasN x.d) 32) x = Q at *
   by_cases s1 : splitE (L x.p) = 0
   · have r1 := root_iff s1
     by_cases s2 : splitE (L x.p2) = 0
     · have r2 := root_iff s2
       by_cases q1 : x.p = ⟨#[47]⟩ <;> by_cases q2 : x.p2 = ⟨#[47]⟩ <;> cases Q <;> cases g1 <;> cases g2 <;> cases g64 <;> cases g128 <;> simp_all
     · by_cases q1 : x.p = ⟨#[47]⟩ <;> cases Q <;> cases g1 <;> cases g2 <;> cases g64 <;> cases g128 <;> simp_all
   · by_cases s2 : splitE (L x.p2) = 0
     · have r2 := root_iff s2
       by_cases q2 : x.p2 = ⟨#[47]⟩ <;> cases Q <;> cases g1 <;> cases g2 <;> cases g64 <;> cases g128 <;> simp_all
     · cases Q <;> cases g1 <;> cases g2 <;> cases g64 <;> cases g128 <;> simp_all
 · rw [if_pos hb, if_pos ?_]
   have hn := fun e => hb (hk.2 e)
   by_cases a1 : hasB (hasN x.d) 1 = false ∧ x.p ≠ ⟨#[]⟩
   · exact .inl a1
   by_cases a2 : hasB (hasN x.d) 2 = false ∧ x.p2 ≠ ⟨#[]⟩
   · exact .inr (.inl a2)
   by_cases a3 : hasB (hasN x.d) 4 = false ∧ x.fd ≠ 0
   · exact .inr (.inr (.inl a3))
   by_cases a4 : hasB (hasN x.d) 8 = false ∧ x.pg ≠ 0
   · exact .inr (.inr (.inr (.inl a4)))
   by_cases a5 : hasB (hasN x.d) 16 = false ∧ x.sz ≠ 0
   · exact .inr (.inr (.inr (.inr (.inl a5))))
   by_cases a6 : hasB (hasN x.d) 32 = false ∧ x.da ≠ ⟨#[]⟩
   · exact .inr (.inr (.inr (.inr (.inr a6))))
   exact absurd ⟨fun e => Classical.byContradiction fun z => a1 ⟨e, z⟩, fun e => Classical.byContradiction fun z => a2 ⟨e, z⟩, fun e => Classical.byContradiction fun z => a3 ⟨e, z⟩, fun e => Classical.byContradiction fun z => a4 ⟨e, z⟩, fun e => Classical.byContradiction fun z => a5 ⟨e, z⟩, fun e => Classical.byContradiction fun z => a6 ⟨e, z⟩⟩ hn
structure KS (w wj : World) (bh : Nat) (hv : Array Value) (x : C) : Prop where
 xb : Box wj w.heap.size x
 hb : wj.heap[bh]? = some (.cells hv 138 (0, 0))
 l : w.heap.size < bh
 bel : Below w.heap.size w wj
theorem KS.lt {w wj : World} {bh : Nat} {hv : Array Value} {x : C} (g : KS w wj bh hv x) : bh < wj.heap.size := lt_of_block g.hb
theorem KS.h {w wj : World} {bh : Nat} {hv : Array Value} {x : C} (g : KS w wj bh hv x) (i : Nat) : wj.cell? ⟨bh, i, none⟩ = hv[i]? := by
 have := g.hb; simp [World.cell?, this]
theorem KS.later {w wj wk : World} {bh : Nat} {hv : Array Value} {x : C} (g : KS w wj bh hv x) (h : Below wj.heap.size wj wk) : KS w wk bh hv x :=
 ⟨g.xb.below g.xb.lt h, (h.block _ g.lt).trans g.hb, g.l, g.bel.trans (h.mono g.bel.size)⟩
theorem box_x (x : C) (w : World) : Box (w.alloc (.cells #[.int .u8 x.d, .string x.p, .string x.p2, .int .i64 x.fd, .int .i64 x.pg, .int .u32 x.sz, .string x.da] 38)) w.heap.size x := heap_alloc_new w _
theorem rs_len (s : ByteArray) (hs : s.size ≤ maxLen) (n : Nat) (hn : ((splitN (L s)).map B).length = n) (E : Int) (hE : splitE (L s) = E) (W : World) :
   Calls Tryz.prog 92 #[.string s] W fun e w' => ∃ ao cap, e = .returned (.tuple #[.slice ao n cap, .int .i64 E]) ∧ Below W.heap.size W w' := by
 refine (rs_any s W hs).mono ?_;rintro e w' ⟨v, rfl, hv, b⟩;obtain ⟨ao, cap, rfl⟩ := strs_form hv;rw [hn, hE];exact ⟨ao, cap, rfl, b⟩
end Go.Proofs.YtkljcgopikdjjaaGreatDoor.Call
end
section
namespace Go.Proofs.YtkljcgopikdjjaaGreatDoor.Call
open Go.RowKit Oct Path
set_option maxHeartbeats 40000000 in
theorem rcheck_20 (x : C) (w : World) (hd : x.d < 256) (h1 : 1 ≤ x.d) (h2 : x.d ≤ 15) (hp : x.p.size ≤ maxLen) (hp2 : x.p2.size ≤ maxLen) (hda : x.da.size ≤ maxLen) (hof : ofV x.d = .agg #[.bool false, .bool false, .bool true, .bool false, .bool true, .bool false, .bool false, .bool false]) :
   Calls Tryz.prog 47 #[.agg #[.int .u8 x.d, .string x.p, .string x.p2, .int .i64 x.fd, .int .i64 x.pg, .int .u32 x.sz, .string x.da]] w fun e w' => e = .returned (.int .i64 (rE false false true false true false false false x)) ∧ Below w.heap.size w w' := by
 have OF := Lib.hid (fun W => rof_any x.d W hd);rw [hof] at OF;have t0 : decide ((x.d : Int) < 1) = false := by simp; omega
 have t1 : decide (15 < (x.d : Int)) = false := by simp; omega
 unfold maxLen at hda;clear hof
 by_cases z0 : x.p = ⟨#[]⟩
 · skip
   by_cases z1 : x.p2 = ⟨#[]⟩
   · skip
     by_cases z3 : x.pg = 0
     · skip
       by_cases z5 : x.da = ⟨#[]⟩
       · skip
         have HZ0 := Lib.hid z0;clear z0;have HZ1 := Lib.hid z1;clear z1;have HZ3 := Lib.hid z3;clear z3;have HZ5 := Lib.hid z5;clear z5
         go_enter Tryz.func47, Tryz.ntmps47
         simp only [List.append_eq, List.cons_append, List.nil_append];go_wp2_with fail;refine (OF.out _).mono ?_;rintro e w1 ⟨rfl, b1⟩;have bb : Below w.heap.size w w1 := ((Below.refl _ w).alloc (Nat.le_refl _) _).trans (b1.mono (by simp));have hX : Box w1 w.heap.size x := (box_x x w).below (by simp) b1;have hlt := hX.lt;have c0 := hX.c0;have c1 := hX.c1;have c2 := hX.c2;have c3 := hX.c3;have c4 := hX.c4;have c5 := hX.c5;have c6 := hX.c6;have HXX := Lib.hid hX;clear b1 hX OF;rw [HZ0.out] at c1;rw [HZ1.out] at c2;rw [HZ3.out] at c4;rw [HZ5.out] at c6
         go_upto_region 4 with (fail)
         have k1 : KS w (w1.alloc (.cells #[.bool false, .bool false, .bool true, .bool false, .bool true, .bool false, .bool false, .bool false] 138)) w1.heap.size #[.bool false, .bool false, .bool true, .bool false, .bool true, .bool false, .bool false, .bool false] x := ⟨HXX.out.alloc _, heap_alloc_new w1 _, hlt, bb.alloc bb.size _⟩;obtain ⟨W, hW⟩ : ∃ W, w1.alloc (.cells #[.bool false, .bool false, .bool true, .bool false, .bool true, .bool false, .bool false, .bool false] 138) = W := ⟨_, rfl⟩;obtain ⟨bh, hbh⟩ : ∃ b, w1.heap.size = b := ⟨_, rfl⟩;rw [hW, hbh] at k1;rw [hW, hbh];clear hW hbh hlt c0 c1 c2 c3 c4 c5 c6 bb HXX;have al := k1.l;have alt := k1.lt;have ac0 := k1.xb.c0;have ac1 := k1.xb.c1;have ac2 := k1.xb.c2;have ac3 := k1.xb.c3;have ac4 := k1.xb.c4;have ac5 := k1.xb.c5;have ac6 := k1.xb.c6;rw [HZ0.out] at ac1;rw [HZ1.out] at ac2;rw [HZ3.out] at ac4;rw [HZ5.out] at ac6;have ah0 : W.cell? ⟨bh, 0, none⟩ = some (.bool false) := k1.h 0;have ah1 : W.cell? ⟨bh, 1, none⟩ = some (.bool false) := k1.h 1;have ah2 : W.cell? ⟨bh, 2, none⟩ = some (.bool true) := k1.h 2;have ah3 : W.cell? ⟨bh, 3, none⟩ = some (.bool false) := k1.h 3;have ah4 : W.cell? ⟨bh, 4, none⟩ = some (.bool true) := k1.h 4;have ah5 : W.cell? ⟨bh, 5, none⟩ = some (.bool false) := k1.h 5;have ah6 : W.cell? ⟨bh, 6, none⟩ = some (.bool false) := k1.h 6;have ah7 : W.cell? ⟨bh, 7, none⟩ = some (.bool false) := k1.h 7
         by_cases a1 : x.fd < 0
         · skip
           have a1t : decide (x.fd < 0) = true := by simp; omega
           go_wp2
           all_goals
             go_ret;have z0 := HZ0.out;have z1 := HZ1.out;have z3 := HZ3.out;have z5 := HZ5.out;exact ⟨by simp [rE, rBad, z0, z1, z3, z5, a1], k1.bel⟩
         · skip
           have a1t : decide (x.fd < 0) = false := by simp; omega
           by_cases a2 : 15 < x.fd
           · skip
             have a2t : decide (15 < x.fd) = true := by simp; omega
             go_wp2
             all_goals
               go_ret;have z0 := HZ0.out;have z1 := HZ1.out;have z3 := HZ3.out;have z5 := HZ5.out;exact ⟨by simp [rE, rBad, z0, z1, z3, z5, a1, a2], k1.bel⟩
           · skip
             have a2t : decide (15 < x.fd) = false := by simp; omega
             by_cases a7 : 2304 < x.sz
             · skip
               have a7t : decide (2304 < (x.sz : Int)) = true := by simp; omega
               go_wp2
               all_goals
                 go_ret;have z0 := HZ0.out;have z1 := HZ1.out;have z3 := HZ3.out;have z5 := HZ5.out;exact ⟨by simp [rE, rBad, z0, z1, z3, z5, a1, a2, a7], k1.bel⟩
             · skip
               have a7t : decide (2304 < (x.sz : Int)) = false := by simp; omega
               go_wp2
               all_goals
                 go_ret;have z0 := HZ0.out;have z1 := HZ1.out;have z3 := HZ3.out;have z5 := HZ5.out;exact ⟨by simp [rE, rBad, z0, z1, z3, z5, a1, a2, a7], k1.bel⟩
       · skip
         have n1 : x.da.toList.isEmpty = false := empty_no (Nat.pos_of_ne_zero fun e => z5 (nil_of (by omega)));have HN := Lib.hid z5;clear z5;have HZ0 := Lib.hid z0;clear z0;have HZ1 := Lib.hid z1;clear z1;have HZ3 := Lib.hid z3;clear z3
         go_enter Tryz.func47, Tryz.ntmps47
         simp only [List.append_eq, List.cons_append, List.nil_append];go_wp2_with fail;refine (OF.out _).mono ?_;rintro e w1 ⟨rfl, b1⟩;have bb : Below w.heap.size w w1 := ((Below.refl _ w).alloc (Nat.le_refl _) _).trans (b1.mono (by simp));have hX : Box w1 w.heap.size x := (box_x x w).below (by simp) b1;have hlt := hX.lt;have c0 := hX.c0;have c1 := hX.c1;have c2 := hX.c2;have c3 := hX.c3;have c4 := hX.c4;have c5 := hX.c5;have c6 := hX.c6;have HXX := Lib.hid hX;clear b1 hX OF;rw [HZ0.out] at c1;rw [HZ1.out] at c2;rw [HZ3.out] at c4
         go_wp2
         all_goals
           go_ret;have z0 := HZ0.out;have z1 := HZ1.out;have z3 := HZ3.out;have z5 := HN.out;exact ⟨by simp [rE, rBad, z0, z1, z3, z5], bb.alloc bb.size _⟩
     · skip
       have n1 : (x.pg == 0) = false := by simpa using z3
       have n2 : (x.pg != 0) = true := by simpa using z3
       have HZ0 := Lib.hid z0;clear z0;have HZ1 := Lib.hid z1;clear z1
       go_enter Tryz.func47, Tryz.ntmps47
       simp only [List.append_eq, List.cons_append, List.nil_append];go_wp2_with fail;refine (OF.out _).mono ?_;rintro e w1 ⟨rfl, b1⟩;have bb : Below w.heap.size w w1 := ((Below.refl _ w).alloc (Nat.le_refl _) _).trans (b1.mono (by simp));have hX : Box w1 w.heap.size x := (box_x x w).below (by simp) b1;have hlt := hX.lt;have c0 := hX.c0;have c1 := hX.c1;have c2 := hX.c2;have c3 := hX.c3;have c4 := hX.c4;have c5 := hX.c5;have c6 := hX.c6;have HXX := Lib.hid hX;clear b1 hX OF;rw [HZ0.out] at c1;rw [HZ1.out] at c2
       go_wp2
       all_goals
         go_ret;have z0 := HZ0.out;have z1 := HZ1.out;exact ⟨by simp [rE, rBad, z0, z1, z3], bb.alloc bb.size _⟩
   · skip
     have n1 : x.p2.toList.isEmpty = false := empty_no (Nat.pos_of_ne_zero fun e => z1 (nil_of (by omega)));have HN := Lib.hid z1;clear z1;have HZ0 := Lib.hid z0;clear z0
     go_enter Tryz.func47, Tryz.ntmps47
     simp only [List.append_eq, List.cons_append, List.nil_append];go_wp2_with fail;refine (OF.out _).mono ?_;rintro e w1 ⟨rfl, b1⟩;have bb : Below w.heap.size w w1 := ((Below.refl _ w).alloc (Nat.le_refl _) _).trans (b1.mono (by simp));have hX : Box w1 w.heap.size x := (box_x x w).below (by simp) b1;have hlt := hX.lt;have c0 := hX.c0;have c1 := hX.c1;have c2 := hX.c2;have c3 := hX.c3;have c4 := hX.c4;have c5 := hX.c5;have c6 := hX.c6;have HXX := Lib.hid hX;clear b1 hX OF;rw [HZ0.out] at c1
     go_wp2
     all_goals
       go_ret;have z0 := HZ0.out;have z1 := HN.out;exact ⟨by simp [rE, rBad, z0, z1], bb.alloc bb.size _⟩
 · skip
   have n1 : x.p.toList.isEmpty = false := empty_no (Nat.pos_of_ne_zero fun e => z0 (nil_of (by omega)));have HN := Lib.hid z0;clear z0
   go_enter Tryz.func47, Tryz.ntmps47
   simp only [List.append_eq, List.cons_append, List.nil_append];go_wp2_with fail;refine (OF.out _).mono ?_;rintro e w1 ⟨rfl, b1⟩;have bb : Below w.heap.size w w1 := ((Below.refl _ w).alloc (Nat.le_refl _) _).trans (b1.mono (by simp));have hX : Box w1 w.heap.size x := (box_x x w).below (by simp) b1;have hlt := hX.lt;have c0 := hX.c0;have c1 := hX.c1;have c2 := hX.c2;have c3 := hX.c3;have c4 := hX.c4;have c5 := hX.c5;have c6 := hX.c6;have HXX := Lib.hid hX;clear b1 hX OF
   go_wp2
   all_goals
     go_ret;have z0 := HN.out;exact ⟨by simp [rE, rBad, z0], bb.alloc bb.size _⟩
end Go.Proofs.YtkljcgopikdjjaaGreatDoor.Call
end
