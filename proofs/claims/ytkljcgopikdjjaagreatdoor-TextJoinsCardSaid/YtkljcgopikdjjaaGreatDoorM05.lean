/- Layer 20: the walk of Check. -/
import Derived.Test.YtkljcgopikdjjaaGreatDoorM04
import Derived.Deep.QuietTactic
import Derived.BigQuiet
import Derived.Deep.RegionHeld3
set_option linter.unusedVariables false
set_option linter.unusedSimpArgs false
set_option maxRecDepth 100000
section
namespace Go.Proofs.YtkljcgopikdjjaaGreatDoor.Call
open Go.RowKit Oct Path
set_option maxHeartbeats 1000000 in
theorem check_low (x : C) (w : World) (hk : Kinds w) (hd : x.d < 256) (h : x.d < 1) : Calls Tryz.prog 66 #[.agg #[.int .u8 x.d, .string x.p, .string x.p2, .int .i64 x.fd, .int .i64 x.pg, .int .u32 x.sz, .string x.da]] w fun e w' => e = .returned (.int .i64 2) ∧ Below w.heap.size w w' := by
 have HK := Lib.hid hk;have OF := Lib.hid (fun W k => of_any x.d W k hd);have t0 : decide ((x.d : Int) < 1) = true := by simp; omega
 clear hk
 go_enter Tryz.func66, Tryz.ntmps66
 go_wp2_with fail;refine (OF.out _ (HK.out.later ((Below.refl _ _).alloc (Nat.le_refl _) _))).mono ?_;rintro e w1 ⟨rfl, rfl⟩;go_wp2_with fail
 go_quiet (fail)
 go_wp2
 go_ret;exact ⟨rfl, (((Below.refl _ _).alloc (Nat.le_refl _) _).alloc (by simp) _).trans (Oct.below_drewN _ _ _)⟩
set_option maxHeartbeats 1000000 in
theorem check_high (x : C) (w : World) (hk : Kinds w) (hd : x.d < 256) (h : 15 < x.d) : Calls Tryz.prog 66 #[.agg #[.int .u8 x.d, .string x.p, .string x.p2, .int .i64 x.fd, .int .i64 x.pg, .int .u32 x.sz, .string x.da]] w fun e w' => e = .returned (.int .i64 2) ∧ Below w.heap.size w w' := by
 have HK := Lib.hid hk;have OF := Lib.hid (fun W k => of_any x.d W k hd);have t0 : decide ((x.d : Int) < 1) = false := by simp; omega
 have t1 : decide (15 < (x.d : Int)) = true := by simp; omega
 clear hk
 go_enter Tryz.func66, Tryz.ntmps66
 go_wp2_with fail;refine (OF.out _ (HK.out.later ((Below.refl _ _).alloc (Nat.le_refl _) _))).mono ?_;rintro e w1 ⟨rfl, rfl⟩;go_wp2_with fail
 go_quiet (fail)
 go_wp2
 go_ret;exact ⟨rfl, (((Below.refl _ _).alloc (Nat.le_refl _) _).alloc (by simp) _).trans (Oct.below_drewN _ _ _)⟩
theorem keep7 {x : C} {w W w2 : World} (h : W.cell? ⟨w.heap.size, 0, none⟩ = some (.int .u8 x.d) ∧ W.cell? ⟨w.heap.size, 1, none⟩ = some (.string x.p) ∧ W.cell? ⟨w.heap.size, 2, none⟩ = some (.string x.p2) ∧ W.cell? ⟨w.heap.size, 3, none⟩ = some (.int .i64 x.fd) ∧ W.cell? ⟨w.heap.size, 4, none⟩ = some (.int .i64 x.pg) ∧ W.cell? ⟨w.heap.size, 5, none⟩ = some (.int .u32 x.sz) ∧ W.cell? ⟨w.heap.size, 6, none⟩ = some (.string x.da) ∧ w.heap.size < W.heap.size ∧ Below w.heap.size w W) (b : Below W.heap.size W w2) : w2.cell? ⟨w.heap.size, 0, none⟩ = some (.int .u8 x.d) ∧ w2.cell? ⟨w.heap.size, 1, none⟩ = some (.string x.p) ∧ w2.cell? ⟨w.heap.size, 2, none⟩ = some (.string x.p2) ∧ w2.cell? ⟨w.heap.size, 3, none⟩ = some (.int .i64 x.fd) ∧ w2.cell? ⟨w.heap.size, 4, none⟩ = some (.int .i64 x.pg) ∧ w2.cell? ⟨w.heap.size, 5, none⟩ = some (.int .u32 x.sz) ∧ w2.cell? ⟨w.heap.size, 6, none⟩ = some (.string x.da) ∧ w.heap.size < w2.heap.size ∧ Below w.heap.size w w2 := by
 obtain ⟨c0, c1, c2, c3, c4, c5, c6, hl, hb⟩ := h;exact ⟨(b.cell (p := ⟨w.heap.size, 0, none⟩) hl).trans c0, (b.cell (p := ⟨w.heap.size, 1, none⟩) hl).trans c1, (b.cell (p := ⟨w.heap.size, 2, none⟩) hl).trans c2, (b.cell (p := ⟨w.heap.size, 3, none⟩) hl).trans c3, (b.cell (p := ⟨w.heap.size, 4, none⟩) hl).trans c4, (b.cell (p := ⟨w.heap.size, 5, none⟩) hl).trans c5, (b.cell (p := ⟨w.heap.size, 6, none⟩) hl).trans c6, Nat.lt_of_lt_of_le hl b.size, hb.trans (b.mono (Nat.le_of_lt hl))⟩
theorem base7 (x : C) (w : World) (o : Obj) : ((w.alloc (.cells #[.int .u8 x.d, .string x.p, .string x.p2, .int .i64 x.fd, .int .i64 x.pg, .int .u32 x.sz, .string x.da] 38)).alloc o).drew.cell? ⟨w.heap.size, 0, none⟩ = some (.int .u8 x.d) ∧ ((w.alloc (.cells #[.int .u8 x.d, .string x.p, .string x.p2, .int .i64 x.fd, .int .i64 x.pg, .int .u32 x.sz, .string x.da] 38)).alloc o).drew.cell? ⟨w.heap.size, 1, none⟩ = some (.string x.p) ∧ ((w.alloc (.cells #[.int .u8 x.d, .string x.p, .string x.p2, .int .i64 x.fd, .int .i64 x.pg, .int .u32 x.sz, .string x.da] 38)).alloc o).drew.cell? ⟨w.heap.size, 2, none⟩ = some (.string x.p2) ∧ ((w.alloc (.cells #[.int .u8 x.d, .string x.p, .string x.p2, .int .i64 x.fd, .int .i64 x.pg, .int .u32 x.sz, .string x.da] 38)).alloc o).drew.cell? ⟨w.heap.size, 3, none⟩ = some (.int .i64 x.fd) ∧ ((w.alloc (.cells #[.int .u8 x.d, .string x.p, .string x.p2, .int .i64 x.fd, .int .i64 x.pg, .int .u32 x.sz, .string x.da] 38)).alloc o).drew.cell? ⟨w.heap.size, 4, none⟩ = some (.int .i64 x.pg) ∧ ((w.alloc (.cells #[.int .u8 x.d, .string x.p, .string x.p2, .int .i64 x.fd, .int .i64 x.pg, .int .u32 x.sz, .string x.da] 38)).alloc o).drew.cell? ⟨w.heap.size, 5, none⟩ = some (.int .u32 x.sz) ∧ ((w.alloc (.cells #[.int .u8 x.d, .string x.p, .string x.p2, .int .i64 x.fd, .int .i64 x.pg, .int .u32 x.sz, .string x.da] 38)).alloc o).drew.cell? ⟨w.heap.size, 6, none⟩ = some (.string x.da) ∧ w.heap.size < ((w.alloc (.cells #[.int .u8 x.d, .string x.p, .string x.p2, .int .i64 x.fd, .int .i64 x.pg, .int .u32 x.sz, .string x.da] 38)).alloc o).drew.heap.size ∧ Below w.heap.size w ((w.alloc (.cells #[.int .u8 x.d, .string x.p, .string x.p2, .int .i64 x.fd, .int .i64 x.pg, .int .u32 x.sz, .string x.da] 38)).alloc o).drew := by
 refine ⟨?_, ?_, ?_, ?_, ?_, ?_, ?_, ?_, ?_⟩
 iterate 7 go_keep
 · simp; omega
 · exact (((Below.refl _ _).alloc (Nat.le_refl _) _).alloc (by simp) _).trans ⟨rfl, rfl, rfl, Nat.le_refl _, fun _ _ => rfl⟩
set_option maxHeartbeats 4000000 in
theorem check_bare0 (x y : C) (w : World) (hk : Kinds w) (hd : x.d < 256) (h1 : 1 ≤ x.d) (h2 : x.d ≤ 15) (hy : x.bareTo (hasN x.d) 6 = y) (hyd : y.d = x.d)  (hne : y.p ≠ ⟨#[]⟩) : Calls Tryz.prog 66 #[.agg #[.int .u8 x.d, .string x.p, .string x.p2, .int .i64 x.fd, .int .i64 x.pg, .int .u32 x.sz, .string x.da]] w fun e w' => e = .returned (.int .i64 2) ∧ Below w.heap.size w w' := by
 have HK := Lib.hid hk;have OF := Lib.hid (fun W k => of_any x.d W k hd);have BA := Lib.hid (fun W k => bare_any x W k hd);rw [hy] at BA;obtain ⟨yd, yp, yp2, yfd, ypg, ysz, yda⟩ := y;simp only at hyd hne;subst hyd;simp only [C.cells] at BA;have n1 : ¬ (yp.toList = []) := fun e => hne (L_inj (by rw [← toList_L, e]; rfl));have n2 : (yp.toList == []) = false := by simpa using n1
 have n3 : decide (yp.toList = []) = false := by simpa using n1
 have n4 : yp.toList ≠ [] := n1;have t0 : decide ((x.d : Int) < 1) = false := by simp; omega
 have t1 : decide (15 < (x.d : Int)) = false := by simp; omega
 clear hk hy
 go_enter Tryz.func66, Tryz.ntmps66
 go_wp2_with fail;refine (OF.out _ (HK.out.later ((Below.refl _ _).alloc (Nat.le_refl _) _))).mono ?_;rintro e w1 ⟨rfl, rfl⟩;go_wp2_with fail
 go_region_held3 (fun w' => w'.cell? ⟨w.heap.size, 0, none⟩ = some (.int .u8 x.d) ∧ w'.cell? ⟨w.heap.size, 1, none⟩ = some (.string x.p) ∧ w'.cell? ⟨w.heap.size, 2, none⟩ = some (.string x.p2) ∧ w'.cell? ⟨w.heap.size, 3, none⟩ = some (.int .i64 x.fd) ∧ w'.cell? ⟨w.heap.size, 4, none⟩ = some (.int .i64 x.pg) ∧ w'.cell? ⟨w.heap.size, 5, none⟩ = some (.int .u32 x.sz) ∧ w'.cell? ⟨w.heap.size, 6, none⟩ = some (.string x.da) ∧ w.heap.size < w'.heap.size ∧ Below w.heap.size w w')
   (first | exact base7 x w _ | exact keep7 (by assumption) b2 | (go_keep; done))
   (first | (go_at_call 111; refine (BA.out _ (HK.out.later (by simp_all only))).mono ?_; rintro e w2 ⟨rfl, b2⟩))
 go_wp2
 go_ret;exact ⟨rfl, (keep7 (x := x) (by assumption) (Below.refl _ _)).2.2.2.2.2.2.2.2⟩
set_option maxHeartbeats 4000000 in
theorem check_bare1 (x y : C) (w : World) (hk : Kinds w) (hd : x.d < 256) (h1 : 1 ≤ x.d) (h2 : x.d ≤ 15) (hy : x.bareTo (hasN x.d) 6 = y) (hyd : y.d = x.d) (e0 : y.p = ⟨#[]⟩) (hne : y.p2 ≠ ⟨#[]⟩) : Calls Tryz.prog 66 #[.agg #[.int .u8 x.d, .string x.p, .string x.p2, .int .i64 x.fd, .int .i64 x.pg, .int .u32 x.sz, .string x.da]] w fun e w' => e = .returned (.int .i64 2) ∧ Below w.heap.size w w' := by
 have HK := Lib.hid hk;have OF := Lib.hid (fun W k => of_any x.d W k hd);have BA := Lib.hid (fun W k => bare_any x W k hd);rw [hy] at BA;obtain ⟨yd, yp, yp2, yfd, ypg, ysz, yda⟩ := y;simp only at hyd hne e0;subst hyd e0;simp only [C.cells] at BA;have n1 : ¬ (yp2.toList = []) := fun e => hne (L_inj (by rw [← toList_L, e]; rfl));have n2 : (yp2.toList == []) = false := by simpa using n1
 have n3 : decide (yp2.toList = []) = false := by simpa using n1
 have n4 : yp2.toList ≠ [] := n1;have t0 : decide ((x.d : Int) < 1) = false := by simp; omega
 have t1 : decide (15 < (x.d : Int)) = false := by simp; omega
 clear hk hy
 go_enter Tryz.func66, Tryz.ntmps66
 go_wp2_with fail;refine (OF.out _ (HK.out.later ((Below.refl _ _).alloc (Nat.le_refl _) _))).mono ?_;rintro e w1 ⟨rfl, rfl⟩;go_wp2_with fail
 go_region_held3 (fun w' => w'.cell? ⟨w.heap.size, 0, none⟩ = some (.int .u8 x.d) ∧ w'.cell? ⟨w.heap.size, 1, none⟩ = some (.string x.p) ∧ w'.cell? ⟨w.heap.size, 2, none⟩ = some (.string x.p2) ∧ w'.cell? ⟨w.heap.size, 3, none⟩ = some (.int .i64 x.fd) ∧ w'.cell? ⟨w.heap.size, 4, none⟩ = some (.int .i64 x.pg) ∧ w'.cell? ⟨w.heap.size, 5, none⟩ = some (.int .u32 x.sz) ∧ w'.cell? ⟨w.heap.size, 6, none⟩ = some (.string x.da) ∧ w.heap.size < w'.heap.size ∧ Below w.heap.size w w')
   (first | exact base7 x w _ | exact keep7 (by assumption) b2 | (go_keep; done))
   (first | (go_at_call 111; refine (BA.out _ (HK.out.later (by simp_all only))).mono ?_; rintro e w2 ⟨rfl, b2⟩))
 go_wp2
 go_ret;exact ⟨rfl, (keep7 (x := x) (by assumption) (Below.refl _ _)).2.2.2.2.2.2.2.2⟩
set_option maxHeartbeats 4000000 in
theorem check_bare2 (x y : C) (w : World) (hk : Kinds w) (hd : x.d < 256) (h1 : 1 ≤ x.d) (h2 : x.d ≤ 15) (hy : x.bareTo (hasN x.d) 6 = y) (hyd : y.d = x.d) (e0 : y.p = ⟨#[]⟩) (e1 : y.p2 = ⟨#[]⟩) (hne : y.fd ≠ 0) : Calls Tryz.prog 66 #[.agg #[.int .u8 x.d, .string x.p, .string x.p2, .int .i64 x.fd, .int .i64 x.pg, .int .u32 x.sz, .string x.da]] w fun e w' => e = .returned (.int .i64 2) ∧ Below w.heap.size w w' := by
 have HK := Lib.hid hk;have OF := Lib.hid (fun W k => of_any x.d W k hd);have BA := Lib.hid (fun W k => bare_any x W k hd);rw [hy] at BA;obtain ⟨yd, yp, yp2, yfd, ypg, ysz, yda⟩ := y;simp only at hyd hne e0 e1;subst hyd e0 e1;simp only [C.cells] at BA;have n2 : (yfd == 0) = false := by simpa using hne
 have n3 : decide (yfd = 0) = false := by simpa using hne
 have t0 : decide ((x.d : Int) < 1) = false := by simp; omega
 have t1 : decide (15 < (x.d : Int)) = false := by simp; omega
 clear hk hy
 go_enter Tryz.func66, Tryz.ntmps66
 go_wp2_with fail;refine (OF.out _ (HK.out.later ((Below.refl _ _).alloc (Nat.le_refl _) _))).mono ?_;rintro e w1 ⟨rfl, rfl⟩;go_wp2_with fail
 go_region_held3 (fun w' => w'.cell? ⟨w.heap.size, 0, none⟩ = some (.int .u8 x.d) ∧ w'.cell? ⟨w.heap.size, 1, none⟩ = some (.string x.p) ∧ w'.cell? ⟨w.heap.size, 2, none⟩ = some (.string x.p2) ∧ w'.cell? ⟨w.heap.size, 3, none⟩ = some (.int .i64 x.fd) ∧ w'.cell? ⟨w.heap.size, 4, none⟩ = some (.int .i64 x.pg) ∧ w'.cell? ⟨w.heap.size, 5, none⟩ = some (.int .u32 x.sz) ∧ w'.cell? ⟨w.heap.size, 6, none⟩ = some (.string x.da) ∧ w.heap.size < w'.heap.size ∧ Below w.heap.size w w')
   (first | exact base7 x w _ | exact keep7 (by assumption) b2 | (go_keep; done))
   (first | (go_at_call 111; refine (BA.out _ (HK.out.later (by simp_all only))).mono ?_; rintro e w2 ⟨rfl, b2⟩))
 go_wp2
 go_ret;exact ⟨rfl, (keep7 (x := x) (by assumption) (Below.refl _ _)).2.2.2.2.2.2.2.2⟩
set_option maxHeartbeats 4000000 in
theorem check_bare3 (x y : C) (w : World) (hk : Kinds w) (hd : x.d < 256) (h1 : 1 ≤ x.d) (h2 : x.d ≤ 15) (hy : x.bareTo (hasN x.d) 6 = y) (hyd : y.d = x.d) (e0 : y.p = ⟨#[]⟩) (e1 : y.p2 = ⟨#[]⟩) (e2 : y.fd = 0) (hne : y.pg ≠ 0) : Calls Tryz.prog 66 #[.agg #[.int .u8 x.d, .string x.p, .string x.p2, .int .i64 x.fd, .int .i64 x.pg, .int .u32 x.sz, .string x.da]] w fun e w' => e = .returned (.int .i64 2) ∧ Below w.heap.size w w' := by
 have HK := Lib.hid hk;have OF := Lib.hid (fun W k => of_any x.d W k hd);have BA := Lib.hid (fun W k => bare_any x W k hd);rw [hy] at BA;obtain ⟨yd, yp, yp2, yfd, ypg, ysz, yda⟩ := y;simp only at hyd hne e0 e1 e2;subst hyd e0 e1 e2;simp only [C.cells] at BA;have n2 : (ypg == 0) = false := by simpa using hne
 have n3 : decide (ypg = 0) = false := by simpa using hne
 have t0 : decide ((x.d : Int) < 1) = false := by simp; omega
 have t1 : decide (15 < (x.d : Int)) = false := by simp; omega
 clear hk hy
 go_enter Tryz.func66, Tryz.ntmps66
 go_wp2_with fail;refine (OF.out _ (HK.out.later ((Below.refl _ _).alloc (Nat.le_refl _) _))).mono ?_;rintro e w1 ⟨rfl, rfl⟩;go_wp2_with fail
 go_region_held3 (fun w' => w'.cell? ⟨w.heap.size, 0, none⟩ = some (.int .u8 x.d) ∧ w'.cell? ⟨w.heap.size, 1, none⟩ = some (.string x.p) ∧ w'.cell? ⟨w.heap.size, 2, none⟩ = some (.string x.p2) ∧ w'.cell? ⟨w.heap.size, 3, none⟩ = some (.int .i64 x.fd) ∧ w'.cell? ⟨w.heap.size, 4, none⟩ = some (.int .i64 x.pg) ∧ w'.cell? ⟨w.heap.size, 5, none⟩ = some (.int .u32 x.sz) ∧ w'.cell? ⟨w.heap.size, 6, none⟩ = some (.string x.da) ∧ w.heap.size < w'.heap.size ∧ Below w.heap.size w w')
   (first | exact base7 x w _ | exact keep7 (by assumption) b2 | (go_keep; done))
   (first | (go_at_call 111; refine (BA.out _ (HK.out.later (by simp_all only))).mono ?_; rintro e w2 ⟨rfl, b2⟩))
 go_wp2
 go_ret;exact ⟨rfl, (keep7 (x := x) (by assumption) (Below.refl _ _)).2.2.2.2.2.2.2.2⟩
set_option maxHeartbeats 4000000 in
theorem check_bare4 (x y : C) (w : World) (hk : Kinds w) (hd : x.d < 256) (h1 : 1 ≤ x.d) (h2 : x.d ≤ 15) (hy : x.bareTo (hasN x.d) 6 = y) (hyd : y.d = x.d) (e0 : y.p = ⟨#[]⟩) (e1 : y.p2 = ⟨#[]⟩) (e2 : y.fd = 0) (e3 : y.pg = 0) (hne : y.sz ≠ 0) : Calls Tryz.prog 66 #[.agg #[.int .u8 x.d, .string x.p, .string x.p2, .int .i64 x.fd, .int .i64 x.pg, .int .u32 x.sz, .string x.da]] w fun e w' => e = .returned (.int .i64 2) ∧ Below w.heap.size w w' := by
 have HK := Lib.hid hk;have OF := Lib.hid (fun W k => of_any x.d W k hd);have BA := Lib.hid (fun W k => bare_any x W k hd);rw [hy] at BA;obtain ⟨yd, yp, yp2, yfd, ypg, ysz, yda⟩ := y;simp only at hyd hne e0 e1 e2 e3;subst hyd e0 e1 e2 e3;simp only [C.cells] at BA;have n1 : ¬ ((ysz : Int) = 0) := by omega
 have n2 : ((ysz : Int) == 0) = false := by simpa using n1
 have n3 : decide ((ysz : Int) = 0) = false := by simpa using n1
 have t0 : decide ((x.d : Int) < 1) = false := by simp; omega
 have t1 : decide (15 < (x.d : Int)) = false := by simp; omega
 clear hk hy
 go_enter Tryz.func66, Tryz.ntmps66
 go_wp2_with fail;refine (OF.out _ (HK.out.later ((Below.refl _ _).alloc (Nat.le_refl _) _))).mono ?_;rintro e w1 ⟨rfl, rfl⟩;go_wp2_with fail
 go_region_held3 (fun w' => w'.cell? ⟨w.heap.size, 0, none⟩ = some (.int .u8 x.d) ∧ w'.cell? ⟨w.heap.size, 1, none⟩ = some (.string x.p) ∧ w'.cell? ⟨w.heap.size, 2, none⟩ = some (.string x.p2) ∧ w'.cell? ⟨w.heap.size, 3, none⟩ = some (.int .i64 x.fd) ∧ w'.cell? ⟨w.heap.size, 4, none⟩ = some (.int .i64 x.pg) ∧ w'.cell? ⟨w.heap.size, 5, none⟩ = some (.int .u32 x.sz) ∧ w'.cell? ⟨w.heap.size, 6, none⟩ = some (.string x.da) ∧ w.heap.size < w'.heap.size ∧ Below w.heap.size w w')
   (first | exact base7 x w _ | exact keep7 (by assumption) b2 | (go_keep; done))
   (first | (go_at_call 111; refine (BA.out _ (HK.out.later (by simp_all only))).mono ?_; rintro e w2 ⟨rfl, b2⟩))
 go_wp2
 go_ret;exact ⟨rfl, (keep7 (x := x) (by assumption) (Below.refl _ _)).2.2.2.2.2.2.2.2⟩
set_option maxHeartbeats 4000000 in
theorem check_bare5 (x y : C) (w : World) (hk : Kinds w) (hd : x.d < 256) (h1 : 1 ≤ x.d) (h2 : x.d ≤ 15) (hy : x.bareTo (hasN x.d) 6 = y) (hyd : y.d = x.d) (e0 : y.p = ⟨#[]⟩) (e1 : y.p2 = ⟨#[]⟩) (e2 : y.fd = 0) (e3 : y.pg = 0) (e4 : y.sz = 0) (hne : y.da ≠ ⟨#[]⟩) : Calls Tryz.prog 66 #[.agg #[.int .u8 x.d, .string x.p, .string x.p2, .int .i64 x.fd, .int .i64 x.pg, .int .u32 x.sz, .string x.da]] w fun e w' => e = .returned (.int .i64 2) ∧ Below w.heap.size w w' := by
 have HK := Lib.hid hk;have OF := Lib.hid (fun W k => of_any x.d W k hd);have BA := Lib.hid (fun W k => bare_any x W k hd);rw [hy] at BA;obtain ⟨yd, yp, yp2, yfd, ypg, ysz, yda⟩ := y;simp only at hyd hne e0 e1 e2 e3 e4;subst hyd e0 e1 e2 e3 e4;simp only [C.cells] at BA;have n1 : ¬ (yda.toList = []) := fun e => hne (L_inj (by rw [← toList_L, e]; rfl));have n2 : (yda.toList == []) = false := by simpa using n1
 have n3 : decide (yda.toList = []) = false := by simpa using n1
 have n4 : yda.toList ≠ [] := n1;have t0 : decide ((x.d : Int) < 1) = false := by simp; omega
 have t1 : decide (15 < (x.d : Int)) = false := by simp; omega
 clear hk hy
 go_enter Tryz.func66, Tryz.ntmps66
 go_wp2_with fail;refine (OF.out _ (HK.out.later ((Below.refl _ _).alloc (Nat.le_refl _) _))).mono ?_;rintro e w1 ⟨rfl, rfl⟩;go_wp2_with fail
 go_region_held3 (fun w' => w'.cell? ⟨w.heap.size, 0, none⟩ = some (.int .u8 x.d) ∧ w'.cell? ⟨w.heap.size, 1, none⟩ = some (.string x.p) ∧ w'.cell? ⟨w.heap.size, 2, none⟩ = some (.string x.p2) ∧ w'.cell? ⟨w.heap.size, 3, none⟩ = some (.int .i64 x.fd) ∧ w'.cell? ⟨w.heap.size, 4, none⟩ = some (.int .i64 x.pg) ∧ w'.cell? ⟨w.heap.size, 5, none⟩ = some (.int .u32 x.sz) ∧ w'.cell? ⟨w.heap.size, 6, none⟩ = some (.string x.da) ∧ w.heap.size < w'.heap.size ∧ Below w.heap.size w w')
   (first | exact base7 x w _ | exact keep7 (by assumption) b2 | (go_keep; done))
   (first | (go_at_call 111; refine (BA.out _ (HK.out.later (by simp_all only))).mono ?_; rintro e w2 ⟨rfl, b2⟩))
 go_wp2
 go_ret;exact ⟨rfl, (keep7 (x := x) (by assumption) (Below.refl _ _)).2.2.2.2.2.2.2.2⟩
end Go.Proofs.YtkljcgopikdjjaaGreatDoor.Call
end
