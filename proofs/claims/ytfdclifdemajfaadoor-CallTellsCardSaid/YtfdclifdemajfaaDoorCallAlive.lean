/- Layer 20: the chapter's examples; Long; Changes. -/
import Derived.Test.YtfdclifdemajfaaDoorCallGet
namespace Go.Proofs.YtfdclifdemajfaaDoor.Call
set_option linter.unusedVariables false
set_option linter.unusedSimpArgs false
open Go.RowKit Oct Path

theorem ex_put1 (w : World) (hk : Kinds w) : Calls Tryd.prog 9 #[.agg #[.int .u8 3, .string ⟨#[]⟩, .string ⟨#[]⟩, .int .i64 3, .int .i64 1, .int .u32 0, .string ⟨#[]⟩]] w fun e w' => e = .returned (.tuple #[.string ⟨#[3, 3, 1]⟩, .int .i64 0]) ∧ Below w.heap.size w w' := by
  have h := put_yes ⟨3, ⟨#[]⟩, ⟨#[]⟩, 3, 1, 0, ⟨#[]⟩⟩ w hk (by decide) (by decide) (by decide) (by decide) (by decide +kernel)
  rw [show C.bytes ⟨3, ⟨#[]⟩, ⟨#[]⟩, 3, 1, 0, ⟨#[]⟩⟩ = [3, 3, 1] from by decide +kernel] at h
  exact h
theorem ex_put2 (w : World) (hk : Kinds w) : Calls Tryd.prog 9 #[.agg #[.int .u8 9, .string ⟨#[47, 97]⟩, .string ⟨#[]⟩, .int .i64 0, .int .i64 0, .int .u32 0, .string ⟨#[]⟩]] w fun e w' => e = .returned (.tuple #[.string ⟨#[9, 2, 47, 97]⟩, .int .i64 0]) ∧ Below w.heap.size w w' := by
  have h := put_yes ⟨9, ⟨#[47, 97]⟩, ⟨#[]⟩, 0, 0, 0, ⟨#[]⟩⟩ w hk (by decide) (by decide) (by decide) (by decide) (by decide +kernel)
  rw [show C.bytes ⟨9, ⟨#[47, 97]⟩, ⟨#[]⟩, 0, 0, 0, ⟨#[]⟩⟩ = [9, 2, 47, 97] from by decide +kernel] at h
  exact h
theorem ex_get (w : World) (hk : Kinds w) : Calls Tryd.prog 11 #[.string ⟨#[9, 2, 47, 97, 33]⟩] w fun e w' => e = .returned (.tuple #[.agg #[.int .u8 9, .string ⟨#[47, 97]⟩, .string ⟨#[]⟩, .int .i64 0, .int .i64 0, .int .u32 0, .string ⟨#[]⟩], .string ⟨#[33]⟩, .int .i64 0]) ∧ Below w.heap.size w w' := by
  have h := get_any ⟨#[9, 2, 47, 97, 33]⟩ w hk (by decide)
  have e := get_put (x := ⟨9, ⟨#[47, 97]⟩, ⟨#[]⟩, 0, 0, 0, ⟨#[]⟩⟩) (by decide +kernel) [33]
  rw [show C.bytes ⟨9, ⟨#[47, 97]⟩, ⟨#[]⟩, 0, 0, 0, ⟨#[]⟩⟩ = [9, 2, 47, 97] from by decide +kernel] at e
  rw [show getV (L ⟨#[9, 2, 47, 97, 33]⟩) = .tuple #[.agg #[.int .u8 9, .string ⟨#[47, 97]⟩, .string ⟨#[]⟩, .int .i64 0, .int .i64 0, .int .u32 0, .string ⟨#[]⟩], .string ⟨#[33]⟩, .int .i64 0] from getV_some e] at h
  exact h
theorem ex_check1 (w : World) (hk : Kinds w) : Calls Tryd.prog 10 #[.agg #[.int .u8 9, .string ⟨#[47]⟩, .string ⟨#[]⟩, .int .i64 0, .int .i64 0, .int .u32 0, .string ⟨#[]⟩]] w fun e w' => e = .returned (.int .i64 2) ∧ Below w.heap.size w w' := by
  have h := check_any ⟨9, ⟨#[47]⟩, ⟨#[]⟩, 0, 0, 0, ⟨#[]⟩⟩ w hk (by decide) (by decide) (by decide) (by decide)
  rw [show C.checkE ⟨9, ⟨#[47]⟩, ⟨#[]⟩, 0, 0, 0, ⟨#[]⟩⟩ = 2 from by decide +kernel] at h
  exact h
theorem ex_check2 (w : World) (hk : Kinds w) : Calls Tryd.prog 10 #[.agg #[.int .u8 9, .string ⟨#[97]⟩, .string ⟨#[]⟩, .int .i64 0, .int .i64 0, .int .u32 0, .string ⟨#[]⟩]] w fun e w' => e = .returned (.int .i64 7) ∧ Below w.heap.size w w' := by
  have h := check_any ⟨9, ⟨#[97]⟩, ⟨#[]⟩, 0, 0, 0, ⟨#[]⟩⟩ w hk (by decide) (by decide) (by decide) (by decide)
  rw [show C.checkE ⟨9, ⟨#[97]⟩, ⟨#[]⟩, 0, 0, 0, ⟨#[]⟩⟩ = 7 from by decide +kernel] at h
  exact h
set_option maxRecDepth 100000 in
set_option maxHeartbeats 1000000 in
theorem alive20 (w : World) (hk : Kinds w) : Calls Tryd.prog 8 #[] w fun e w' => e = .returned (.bool true) ∧ Below w.heap.size w w' := by
  have HK := Lib.hid hk
  clear hk
  go_enter Tryd.func8, Tryd.ntmps8
  go_wp2_with fail
  refine (ex_put1 _ HK.out).mono ?_
  rintro e w1 ⟨rfl, b1⟩
  have K1 := Lib.hid (HK.out.later b1)
  go_wp2_with fail
  refine (ex_put2 _ K1.out).mono ?_
  rintro e w2 ⟨rfl, b2⟩
  have K2 := Lib.hid (K1.out.later b2)
  go_wp2_with fail
  refine (ex_get _ K2.out).mono ?_
  rintro e w3 ⟨rfl, b3⟩
  have K3 := Lib.hid (K2.out.later b3)
  go_wp2_with fail
  refine (ex_check1 _ (K3.out.later ((Below.refl _ _).alloc (Nat.le_refl _) _))).mono ?_
  rintro e w4 ⟨rfl, b4⟩
  have b34 : Below w3.heap.size w3 w4 := ((Below.refl _ w3).alloc (Nat.le_refl _) _).trans (b4.mono (by simp))
  clear b4
  go_wp2_with fail
  refine (ex_check2 _ (K3.out.later b34)).mono ?_
  rintro e w5 ⟨rfl, b5⟩
  go_wp2
  go_ret
  exact ⟨rfl, b1.trans ((b2.trans ((b3.trans ((b34.trans (b5.mono b34.size)).mono b3.size)).mono b2.size)).mono b1.size)⟩

set_option maxRecDepth 100000 in
set_option maxHeartbeats 400000 in
theorem long_yes (x : C) (w : World) (h1 : x.p.size ≤ 140737488351232) (h2 : x.p2.size ≤ 140737488351232) (h3 : x.da.size ≤ 140737488351232) (h : 2048 < x.p.size + x.p2.size + x.da.size) :
    Calls Tryd.prog 7 #[.agg #[.int .u8 x.d, .string x.p, .string x.p2, .int .i64 x.fd, .int .i64 x.pg, .int .u32 x.sz, .string x.da]] w fun e w' => e = .returned (.bool true) ∧ Below w.heap.size w w' := by
  have t1 : decide (2048 < (x.p.size : Int) + (x.p2.size : Int) + (x.da.size : Int)) = true := by simp; omega
  have t2 : decide (2048 < x.p.size + x.p2.size + x.da.size) = true := by simp; omega
  go_enter Tryd.func7, Tryd.ntmps7
  go_wp2
  go_ret
  first | exact ⟨rfl, (Below.refl _ _).alloc (Nat.le_refl _) _⟩ | exact ⟨by first | rw [t1] | rw [t2] | simp; omega, (Below.refl _ _).alloc (Nat.le_refl _) _⟩
set_option maxRecDepth 100000 in
set_option maxHeartbeats 400000 in
theorem long_no (x : C) (w : World) (h1 : x.p.size ≤ 140737488351232) (h2 : x.p2.size ≤ 140737488351232) (h3 : x.da.size ≤ 140737488351232) (h : x.p.size + x.p2.size + x.da.size ≤ 2048) :
    Calls Tryd.prog 7 #[.agg #[.int .u8 x.d, .string x.p, .string x.p2, .int .i64 x.fd, .int .i64 x.pg, .int .u32 x.sz, .string x.da]] w fun e w' => e = .returned (.bool false) ∧ Below w.heap.size w w' := by
  have t1 : decide (2048 < (x.p.size : Int) + (x.p2.size : Int) + (x.da.size : Int)) = false := by simp; omega
  have t2 : decide (2048 < x.p.size + x.p2.size + x.da.size) = false := by simp; omega
  go_enter Tryd.func7, Tryd.ntmps7
  go_wp2
  go_ret
  first | exact ⟨rfl, (Below.refl _ _).alloc (Nat.le_refl _) _⟩ | exact ⟨by first | rw [t1] | rw [t2] | simp; omega, (Below.refl _ _).alloc (Nat.le_refl _) _⟩
def changes (d : Nat) : Bool := d == 2 || d == 4 || d == 5 || d == 6 || d == 7 || d == 8 || d == 9 || d == 10
set_option maxRecDepth 100000 in
set_option maxHeartbeats 1000000 in
theorem changes_any (d : Nat) (w : World) (hd : d < 256) : Calls Tryd.prog 14 #[.int .u8 d] w fun e w' => e = .returned (.bool (changes d)) ∧ w = w' := by
  by_cases h : d ≤ 10
  · obtain rfl | rfl | rfl | rfl | rfl | rfl | rfl | rfl | rfl | rfl | rfl : d = 0 ∨ d = 1 ∨ d = 2 ∨ d = 3 ∨ d = 4 ∨ d = 5 ∨ d = 6 ∨ d = 7 ∨ d = 8 ∨ d = 9 ∨ d = 10 := by omega
    all_goals
      clear h hd
      go_enter Tryd.func14, Tryd.ntmps14
      go_wp2
      go_ret
      exact ⟨rfl, rfl⟩
  · have hc : changes d = false := by simp [changes]; omega
    rw [hc]
    have t2 : ((d : Int) == 2) = false := by simp; omega
    have t4 : ((d : Int) == 4) = false := by simp; omega
    have t5 : ((d : Int) == 5) = false := by simp; omega
    have t6 : ((d : Int) == 6) = false := by simp; omega
    have t7 : ((d : Int) == 7) = false := by simp; omega
    have t8 : ((d : Int) == 8) = false := by simp; omega
    have t9 : ((d : Int) == 9) = false := by simp; omega
    have t10 : ((d : Int) == 10) = false := by simp; omega
    clear hc h
    go_enter Tryd.func14, Tryd.ntmps14
    go_wp2
    go_ret
    exact ⟨rfl, rfl⟩

end Go.Proofs.YtfdclifdemajfaaDoor.Call
