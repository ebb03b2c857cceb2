/- Layer 20: the walk of Check, its second half. -/
import Derived.Test.YtkljcgopikdjjaaGreatDoorM05
set_option linter.unusedVariables false
set_option linter.unusedSimpArgs false
set_option maxRecDepth 100000
section
namespace Go.Proofs.YtkljcgopikdjjaaGreatDoor.Call
open Go.RowKit Oct Path
structure AtR (br : Nat) (r : Bool) (w w' : World) : Prop where
 box : Boxed w' br 4 (.bool r)
 size : w.heap.size ≤ w'.heap.size
 block : ∀ b, b < w.heap.size → b ≠ br → w'.heap[b]? = w.heap[b]?
 below : Below br w w'
theorem at_any (s : ByteArray) (bit named h : Int) (root : Bool) (bh br : Nat) (w : World) (hs : s.size ≤ maxLen)
   (ch : Boxed w bh 3 (.int .i64 h)) (cr : Boxed w br 4 (.bool root)) :
   Calls Tryz.prog 112 #[.string s, .int .i64 bit, .int .i64 named, .pointer (some ⟨bh, 0, none⟩), .pointer (some ⟨br, 0, none⟩)] w fun e w' =>
     e = .returned (.int .i64 (if hasB h bit then splitE (L s) else 0)) ∧ AtR br (root || (hasB h bit && hasB h named && decide (splitN (L s) = []))) w w' := by
 cases hb : hasB h bit with
 | false =>
   refine (at_no s bit named h bh br w (by simpa [hasB] using hb) ch.cell).mono ?_;rintro e w' ⟨rfl, rfl⟩;refine ⟨by simp, ?_, Nat.le_refl _, fun _ _ _ => rfl, Below.refl _ _⟩
   simpa using cr
 | true =>
   refine (at_yes s bit named h root (hasB h named) bh br w hs (by simpa [hasB] using hb) rfl ch.cell cr.cell cr.frozen ch.lt cr.lt).mono ?_;rintro e w' ⟨rfl, w1, b1, rfl⟩;have bx : Boxed w1 br 4 (.bool root) := (b1.block br cr.lt).trans cr;have bl : Below br w (w1.setCell ⟨br, 0, none⟩ (.bool (root || (hasB h named && decide (splitN (L s) = []))))) := (b1.mono (Nat.le_of_lt cr.lt)).setCell (Nat.le_refl _) _;refine ⟨by simp, ?_, bl.size, fun b hl hne => ?_, ?_⟩
   · simpa using bx.set _
   · rw [heap_setCell_other w1 ⟨br, 0, none⟩ b _ hne]; exact b1.block b hl
   · simpa using bl
theorem box8 (w : World) (A : Obj) (v : Value) : Boxed ((w.alloc A).alloc (.cells #[v] 3)).drew (w.heap.size + 1) 3 v := by
 have := Boxed.new (w.alloc A) 3 v;simp only [World.size_alloc] at this;exact this
theorem AtR.cell {br : Nat} {r : Bool} {w w' : World} (h : AtR br r w w') (b i : Nat) (hl : b < w.heap.size) (hne : b ≠ br) : w'.cell? ⟨b, i, none⟩ = w.cell? ⟨b, i, none⟩ := by
 simp only [World.cell?, h.block b hl hne]
def C.e1 (x : C) : Int := if hasB (hasN x.d) 1 then splitE (L x.p) else 0
def C.e2 (x : C) : Int := if hasB (hasN x.d) 2 then splitE (L x.p2) else 0
def C.root (x : C) : Bool := (hasB (hasN x.d) 1 && hasB (hasN x.d) 64 && decide (splitN (L x.p) = [])) || (hasB (hasN x.d) 2 && hasB (hasN x.d) 128 && decide (splitN (L x.p2) = []))
def C.bad (x : C) : Bool := x.root || decide (x.fd < 0) || decide (15 < x.fd) || decide (x.pg < 0) || decide (36 ≤ x.pg) || (hasB (hasN x.d) 32 && decide (x.da.size = 0)) || decide (64 < x.da.size) || decide (2304 < x.sz)
def C.restE (x : C) : Int := if x.e1 ≠ 0 then x.e1 else if x.e2 ≠ 0 then x.e2 else if x.bad then 2 else 0
def C.checkE (x : C) : Int := if x.d < 1 then 2 else if 15 < x.d then 2 else if x.bareTo (hasN x.d) 6 ≠ C.zero x.d then 2 else x.restE
set_option maxHeartbeats 4000000 in
theorem check_main (x : C) (w : World) (hk : Kinds w) (hd : x.d < 256) (h1 : 1 ≤ x.d) (h2 : x.d ≤ 15) (hy : x.bareTo (hasN x.d) 6 = C.zero x.d) (hp : x.p.size ≤ maxLen) (hp2 : x.p2.size ≤ maxLen) (hda : x.da.size ≤ maxLen) : Calls Tryz.prog 66 #[.agg #[.int .u8 x.d, .string x.p, .string x.p2, .int .i64 x.fd, .int .i64 x.pg, .int .u32 x.sz, .string x.da]] w fun e w' => e = .returned (.int .i64 x.restE) ∧ Below w.heap.size w w' := by
 have HK := Lib.hid hk;have OF := Lib.hid (fun W k => of_any x.d W k hd);have BA := Lib.hid (fun W k => bare_any x W k hd);rw [hy] at BA;simp only [C.cells, C.zero] at BA;have HRE : Hid (x.restE = if x.e1 ≠ 0 then x.e1 else if x.e2 ≠ 0 then x.e2 else if x.bad then 2 else 0) := Lib.hid rfl;obtain ⟨r1, hr1⟩ : ∃ r, (hasB (hasN x.d) 1 && hasB (hasN x.d) 64 && decide (splitN (L x.p) = [])) = r := ⟨_, rfl⟩;have hroot : x.root = (r1 || (hasB (hasN x.d) 2 && hasB (hasN x.d) 128 && decide (splitN (L x.p2) = []))) := by unfold C.root; rw [hr1]
 have A1 : Hid (∀ W bh br, Boxed W bh 3 (.int .i64 (hasN x.d)) → Boxed W br 4 (.bool false) → Calls Tryz.prog 112 #[.string x.p, .int .i64 1, .int .i64 64, .pointer (some ⟨bh, 0, none⟩), .pointer (some ⟨br, 0, none⟩)] W fun e w' => e = .returned (.int .i64 x.e1) ∧ AtR br r1 W w') :=
   Lib.hid (fun W bh br k1 k2 => (at_any x.p 1 64 (hasN x.d) false bh br W hp k1 k2).mono (fun e w' ⟨he, hr⟩ => ⟨he, by rw [← hr1]; simpa using hr⟩))
 have A2 : Hid (∀ W bh br, Boxed W bh 3 (.int .i64 (hasN x.d)) → Boxed W br 4 (.bool r1) → Calls Tryz.prog 112 #[.string x.p2, .int .i64 2, .int .i64 128, .pointer (some ⟨bh, 0, none⟩), .pointer (some ⟨br, 0, none⟩)] W fun e w' => e = .returned (.int .i64 x.e2) ∧ AtR br x.root W w') :=
   Lib.hid (fun W bh br k1 k2 => (at_any x.p2 2 128 (hasN x.d) r1 bh br W hp2 k1 k2).mono (fun e w' ⟨he, hr⟩ => ⟨he, by rw [hroot]; exact hr⟩))
 clear hr1 hroot;obtain ⟨re, hre⟩ : ∃ r, x.restE = r := ⟨_, rfl⟩;rw [hre] at HRE ⊢;have HBD : Hid (x.bad = (x.root || decide (x.fd < 0) || decide (15 < x.fd) || decide (x.pg < 0) || decide (36 ≤ x.pg) || (hasB (hasN x.d) 32 && decide (x.da.size = 0)) || decide (64 < x.da.size) || decide (2304 < x.sz))) := Lib.hid rfl
 generalize hasN x.d = h at *
 generalize x.e1 = e1 at *
 generalize x.e2 = e2 at *
 generalize x.root = rt at *
 generalize x.bad = bd at *
 have t0 : decide ((x.d : Int) < 1) = false := by simp; omega
 have t1 : decide (15 < (x.d : Int)) = false := by simp; omega
 unfold maxLen at hda;clear hk hy hre hp hp2
 go_enter Tryz.func66, Tryz.ntmps66
 go_wp2_with fail;refine (OF.out _ (HK.out.later ((Below.refl _ _).alloc (Nat.le_refl _) _))).mono ?_;rintro e w1 ⟨rfl, rfl⟩;go_wp2_with fail
 go_region_held3 (fun w' => (w'.cell? ⟨w.heap.size, 0, none⟩ = some (.int .u8 x.d) ∧ w'.cell? ⟨w.heap.size, 1, none⟩ = some (.string x.p) ∧ w'.cell? ⟨w.heap.size, 2, none⟩ = some (.string x.p2) ∧ w'.cell? ⟨w.heap.size, 3, none⟩ = some (.int .i64 x.fd) ∧ w'.cell? ⟨w.heap.size, 4, none⟩ = some (.int .i64 x.pg) ∧ w'.cell? ⟨w.heap.size, 5, none⟩ = some (.int .u32 x.sz) ∧ w'.cell? ⟨w.heap.size, 6, none⟩ = some (.string x.da) ∧ w.heap.size < w'.heap.size ∧ Below w.heap.size w w') ∧ Boxed w' (w.heap.size + 1) 3 (.int .i64 h))
   (first | exact ⟨base7 x w _, box8 w _ _⟩ | exact ⟨keep7 (And.left (by assumption)) b2, (b2.block (w.heap.size + 1) (Boxed.lt (And.right (by assumption)))).trans (And.right (by assumption))⟩ | (go_keep; done))
   (first | (go_at_call 111; refine (BA.out _ (HK.out.later (by simp_all only))).mono ?_; rintro e w2 ⟨rfl, b2⟩))
 rename_i hS
 obtain ⟨⟨c0, c1, c2, c3, c4, c5, c6, hl, hbel⟩, hbx⟩ := hS;have hl2 := hbx.lt;go_wp2_with fail;have K1 : Hid (Boxed (w2.alloc (.cells #[.bool false] 4)).drew (w.heap.size + 1) 3 (.int .i64 h)) := Lib.hid (hbx.alloc _);have K2 : Hid (Boxed (w2.alloc (.cells #[.bool false] 4)).drew w2.heap.size 4 (.bool false)) := Lib.hid (Boxed.new w2 _ _);have U1 : Hid ((w2.alloc (.cells #[.bool false] 4)).drew.heap.size = w2.heap.size + 1) := Lib.hid (by simp);have Q1 : (w2.alloc (.cells #[.bool false] 4)).drew.cell? ⟨w.heap.size, 1, none⟩ = some (.string x.p) := by go_keep
 have Q2 : (w2.alloc (.cells #[.bool false] 4)).drew.cell? ⟨w.heap.size, 2, none⟩ = some (.string x.p2) := by go_keep
 go_region_held3 (fun w' => w'.cell? ⟨w.heap.size, 1, none⟩ = some (.string x.p) ∧ w'.cell? ⟨w.heap.size, 2, none⟩ = some (.string x.p2))
   (first | exact ⟨(r4.cell w.heap.size 1 (by have := r3.size; rw [U1.out] at this; omega) (by omega)).trans (And.left (by assumption)), (r4.cell w.heap.size 2 (by have := r3.size; rw [U1.out] at this; omega) (by omega)).trans (And.right (by assumption))⟩ | exact ⟨(r3.cell w.heap.size 1 (by rw [U1.out]; omega) (by omega)).trans Q1, (r3.cell w.heap.size 2 (by rw [U1.out]; omega) (by omega)).trans Q2⟩ | exact ⟨Q1, Q2⟩ | (go_keep; done))
   (first | (go_at_call 112; refine (A2.out _ (w.heap.size + 1) w2.heap.size ((r3.block _ (by rw [U1.out]; omega) (by omega)).trans K1.out) r3.box).mono ?_; rintro e w4 ⟨rfl, r4⟩) | (go_at_call 112; refine (A1.out _ (w.heap.size + 1) w2.heap.size K1.out K2.out).mono ?_; rintro e w3 ⟨rfl, r3⟩))
 have s4 : w2.heap.size + 1 ≤ w4.heap.size := by have := r3.size; have := r4.size; rw [U1.out] at *; omega
 have s5 : w2.heap.size < w4.heap.size := by omega
 have s6 : w.heap.size < w4.heap.size := by omega
 have s7 : w.heap.size + 1 < w4.heap.size := by omega
 have e4 : ∀ i, w4.cell? ⟨w.heap.size, i, none⟩ = (w2.alloc (.cells #[.bool false] 4)).drew.cell? ⟨w.heap.size, i, none⟩ := fun i =>
   (r4.cell w.heap.size i (by have := r3.size; rw [U1.out] at this; omega) (by omega)).trans (r3.cell w.heap.size i (by rw [U1.out]; omega) (by omega))
 have d3 : w4.cell? ⟨w.heap.size, 3, none⟩ = some (.int .i64 x.fd) := (e4 3).trans (by go_keep);have d4 : w4.cell? ⟨w.heap.size, 4, none⟩ = some (.int .i64 x.pg) := (e4 4).trans (by go_keep);have d5 : w4.cell? ⟨w.heap.size, 5, none⟩ = some (.int .u32 x.sz) := (e4 5).trans (by go_keep);have d6 : w4.cell? ⟨w.heap.size, 6, none⟩ = some (.string x.da) := (e4 6).trans (by go_keep);have dr := r4.box.cell;have dh : w4.cell? ⟨w.heap.size + 1, 0, none⟩ = some (.int .i64 h) := (r4.cell _ 0 (by have := r3.size; rw [U1.out] at this; omega) (by omega)).trans ((r3.cell _ 0 (by rw [U1.out]; omega) (by omega)).trans K1.out.cell);have B4 : Hid (Below w.heap.size w w4) := Lib.hid (((hbel.alloc (Nat.le_of_lt hl) _).trans (⟨rfl, rfl, rfl, Nat.le_refl _, fun _ _ => rfl⟩ : Below w.heap.size (w2.alloc (.cells #[.bool false] 4)) (w2.alloc (.cells #[.bool false] 4)).drew)).trans ((r3.below.mono (Nat.le_of_lt hl)).trans (r4.below.mono (Nat.le_of_lt hl))));clear e4 r3 r4 K1 K2 U1 Q1 Q2 c0 c1 c2 c3 c4 c5 c6 A1 A2 hbx hbel OF BA HK b2
 rename_i hHeld
 clear hHeld
 by_cases q1 : e1 = 0
 · subst q1
   by_cases q2 : e2 = 0
   · subst q2
     go_wp2
     refine wp_loop_rounds 3 ?_;rw [rounds_succ]
     go_wp2
     rw [rounds_succ]
     go_wp2
     rw [rounds_succ];cases rt with
     | true =>
       go_wp2
       go_ret;exact ⟨by rw [HRE.out, HBD.out]; simp [], B4.out.alloc (by omega) _⟩
     | false =>
       by_cases k0 : x.fd < 0
       · have f0 : decide (x.fd < 0) = true := by simp; omega
         go_wp2
         go_ret;exact ⟨by rw [HRE.out, HBD.out]; simp [k0], B4.out.alloc (by omega) _⟩
       · have f0 : decide (x.fd < 0) = false := by simp; omega
         by_cases k1 : 15 < x.fd
         · have f1 : decide (15 < x.fd) = true := by simp; omega
           go_wp2
           go_ret;exact ⟨by rw [HRE.out, HBD.out]; simp [k0, k1], B4.out.alloc (by omega) _⟩
         · have f1 : decide (15 < x.fd) = false := by simp; omega
           by_cases k2 : x.pg < 0
           · have f2 : decide (x.pg < 0) = true := by simp; omega
             go_wp2
             go_ret;exact ⟨by rw [HRE.out, HBD.out]; simp [k0, k1, k2], B4.out.alloc (by omega) _⟩
           · have f2 : decide (x.pg < 0) = false := by simp; omega
             by_cases k3 : 36 ≤ x.pg
             · have f3 : decide (36 ≤ x.pg) = true := by simp; omega
               go_wp2
               go_ret;exact ⟨by rw [HRE.out, HBD.out]; simp [k0, k1, k2, k3], B4.out.alloc (by omega) _⟩
             · have f3 : decide (36 ≤ x.pg) = false := by simp; omega
               by_cases kd : hasB h 32 = true ∧ x.da.size = 0
               · obtain ⟨kd1, kd2⟩ := kd
                 have g1 : (bits .and .i64 h 32 != 0) = true := kd1;have g2 : x.da.toList.isEmpty = true := by rw [toList_L]; simp [List.eq_nil_of_length_eq_zero ((len_L x.da).trans kd2)]
                 go_wp2
                 go_ret;exact ⟨by rw [HRE.out, HBD.out]; simp [k0, k1, k2, k3, kd1, kd2], B4.out.alloc (by omega) _⟩
               · have kd3 : (hasB h 32 && decide (x.da.size = 0)) = false := by cases hq : hasB h 32 <;> simp_all
                 have kd4 : ∀ b, (bits .and .i64 h 32 != 0) = b → (b = false ∨ x.da.toList.isEmpty = false) := fun b hb => by
                   cases b with
                   | false => exact .inl rfl
                   | true => exact .inr (empty_no (Nat.pos_of_ne_zero (fun h0 => kd ⟨hb, h0⟩)))
                 obtain ⟨bb, hbb⟩ : ∃ b, (bits .and .i64 h 32 != 0) = b := ⟨_, rfl⟩;have k4 := kd4 bb hbb;clear kd4;cases bb with
                 | false =>
                   by_cases k5 : 64 < x.da.size
                   · have f5 : decide (64 < (x.da.size : Int)) = true := by simp; omega
                     go_wp2
                     go_ret;exact ⟨by rw [HRE.out, HBD.out, kd3]; simp [k0, k1, k2, k3, k5], B4.out.alloc (by omega) _⟩
                   · have f5 : decide (64 < (x.da.size : Int)) = false := by simp; omega
                     by_cases k6 : 2304 < x.sz
                     · have f6 : decide (2304 < (x.sz : Int)) = true := by simp; omega
                       go_wp2
                       go_ret;exact ⟨by rw [HRE.out, HBD.out, kd3]; simp [k0, k1, k2, k3, k5, k6], B4.out.alloc (by omega) _⟩
                     · have f6 : decide (2304 < (x.sz : Int)) = false := by simp; omega
                       go_wp2
                       go_ret;exact ⟨by rw [HRE.out, HBD.out, kd3]; simp [k0, k1, k2, k3, k5, k6], B4.out.alloc (by omega) _⟩
                 | true =>
                   have f4 : x.da.toList.isEmpty = false := by rcases k4 with k4 | k4; exact absurd k4 (by simp); exact k4
                   by_cases k5 : 64 < x.da.size
                   · have f5 : decide (64 < (x.da.size : Int)) = true := by simp; omega
                     go_wp2
                     go_ret;exact ⟨by rw [HRE.out, HBD.out, kd3]; simp [k0, k1, k2, k3, k5], B4.out.alloc (by omega) _⟩
                   · have f5 : decide (64 < (x.da.size : Int)) = false := by simp; omega
                     by_cases k6 : 2304 < x.sz
                     · have f6 : decide (2304 < (x.sz : Int)) = true := by simp; omega
                       go_wp2
                       go_ret;exact ⟨by rw [HRE.out, HBD.out, kd3]; simp [k0, k1, k2, k3, k5, k6], B4.out.alloc (by omega) _⟩
                     · have f6 : decide (2304 < (x.sz : Int)) = false := by simp; omega
                       go_wp2
                       go_ret;exact ⟨by rw [HRE.out, HBD.out, kd3]; simp [k0, k1, k2, k3, k5, k6], B4.out.alloc (by omega) _⟩
   · have q3 : (e2 == 0) = false := by simpa using q2
     have q4 : (e2 != 0) = true := by simpa using q2
     go_wp2
     refine wp_loop_rounds 3 ?_;rw [rounds_succ]
     go_wp2
     rw [rounds_succ]
     go_wp2
     go_ret;exact ⟨by rw [HRE.out]; simp [q2], B4.out.alloc (by omega) _⟩
 · have q3 : (e1 == 0) = false := by simpa using q1
   have q4 : (e1 != 0) = true := by simpa using q1
   go_wp2
   refine wp_loop_rounds 3 ?_;rw [rounds_succ]
   go_wp2
   go_ret;exact ⟨by rw [HRE.out]; simp [q1], B4.out.alloc (by omega) _⟩
end Go.Proofs.YtkljcgopikdjjaaGreatDoor.Call
end
