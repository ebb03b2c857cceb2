/- Proves Rows.OctetNumbersSaid: for every number, count and text the law OctetNumbers returns true and its arguments read as before. No further conditions. -/
import Derived.Test.YtfdclifdemajfaaRows
import Derived.Test.YtfdclifdemajfaaOctetAlive
import Derived.WalkKit
import Derived.ProofKit
import Derived.OpenShut
import Derived.ShutString
import Derived.ChangeOld
import Derived.Below
namespace Go.Proofs.Ytfdclifdemajfaa.octetNumbers
open Go.ChangeShapes Go.WideShapes Go.ChangeAt Go.RowKit
open Go.ChangeMaps (open_string shut_string)
set_option linter.unusedVariables false

open Oct

set_option maxRecDepth 100000 in
set_option maxHeartbeats 1000000 in
theorem walk_big (v n : Int) (s : ByteArray) (hs : s.size ≤ maxLen) (h : 1024 < s.size) (w : World) :
    Calls Try.prog 4 #[.int .u64 v, .int .i64 n, .string s] w fun e w' => e = .returned (.bool true) ∧ Below w.heap.size w w' := by
  unfold maxLen at hs
  go_enter Try.func4, Try.ntmps4
  go_wp2_with fail
  refine (alive01 _).mono ?_
  rintro e w1 ⟨rfl, b1⟩
  go_wp2
  go_ret
  exact ⟨rfl, b1⟩

set_option maxRecDepth 100000 in
set_option maxHeartbeats 1000000 in
theorem walk_out_long (v : Nat) (n : Int) (hn : n < 0 ∨ 8 < n) (s : ByteArray) (hs : s.size ≤ 1024) (h8 : 8 < s.size) (HV : Hid (v < 256 ^ 8)) (w : World) :
    Calls Try.prog 4 #[.int .u64 v, .int .i64 n, .string s] w fun e w' => e = .returned (.bool true) ∧ Below w.heap.size w w' := by
  have t0 : decide (1024 < s.size) = false := by simp; omega
  have t0' : decide (1024 < (s.size : Int)) = false := by simp; omega
  have HN := Lib.hid hn
  have t1 : (decide (0 ≤ n) = false) ∨ (decide (0 ≤ n) = true ∧ decide (n ≤ 8) = false) := by simp; omega
  clear hn
  rcases t1 with t1 | ⟨t1, t2⟩
  all_goals
    go_enter Try.func4, Try.ntmps4
    go_wp2_with fail
    refine (num_no v n _ HN.out).mono ?_
    rintro e _ ⟨rfl, rfl⟩
    go_wp2_with fail
    refine (get_long s _ (by unfold maxLen; omega) h8).mono ?_
    rintro e _ ⟨rfl, rfl⟩
    go_wp2_with fail
    refine (rget_long s _ (by unfold maxLen; omega) h8).mono ?_
    rintro e _ ⟨rfl, rfl⟩
    go_wp2_with fail
    refine (alive01 _).mono ?_
    rintro e w4 ⟨rfl, bw4⟩
    go_wp2
    go_ret
    exact ⟨rfl, bw4⟩

set_option maxRecDepth 100000 in
set_option maxHeartbeats 1000000 in
theorem walk_out_ok (v : Nat) (n : Int) (hn : n < 0 ∨ 8 < n) (s : ByteArray) (h8 : s.size ≤ 8) (HV : Hid (v < 256 ^ 8)) (w : World) :
    Calls Try.prog 4 #[.int .u64 v, .int .i64 n, .string s] w fun e w' => e = .returned (.bool true) ∧ Below w.heap.size w w' := by
  have t0 : decide (1024 < s.size) = false := by simp; omega
  have t0' : decide (1024 < (s.size : Int)) = false := by simp; omega
  have HN := Lib.hid hn
  have t1 : (decide (0 ≤ n) = false) ∨ (decide (0 ≤ n) = true ∧ decide (n ≤ 8) = false) := by simp; omega
  clear hn
  have hlt : Hid (valL (L s) < 256 ^ s.size) := Lib.hid (by have := valL_lt (L s); rw [len_L] at this; exact this)
  have ES := Lib.hid (show B (numL (valL (L s)) s.size) = s by have := numL_valL (L s); rw [len_L] at this; rw [this, B_L])
  rcases t1 with t1 | ⟨t1, t2⟩
  all_goals
    go_enter Try.func4, Try.ntmps4
    go_wp2_with fail
    refine (num_no v n _ HN.out).mono ?_
    rintro e _ ⟨rfl, rfl⟩
    go_wp2_with fail
    refine (get_ok s _ h8).mono ?_
    rintro e _ ⟨rfl, rfl⟩
    go_wp2_with fail
    refine (rget_ok s _ h8).mono ?_
    rintro e _ ⟨rfl, rfl⟩
    go_wp2_with fail
    refine (num_ok (valL (L s)) s.size _ h8 hlt.out).mono ?_
    rintro e w3 ⟨rfl, bw3⟩
    rw [ES.out]
    go_wp2_with fail
    refine (alive01 _).mono ?_
    rintro e w4 ⟨rfl, bw4⟩
    go_wp2
    go_ret
    exact ⟨rfl, bw3.trans ((bw4).mono bw3.size)⟩

set_option maxRecDepth 100000 in
set_option maxHeartbeats 1000000 in
theorem walk_big_long (v : Nat) (n : Nat) (hn : n ≤ 8) (hv : Hid (256 ^ n ≤ v)) (s : ByteArray) (hs : s.size ≤ 1024) (h8 : 8 < s.size) (HV : Hid (v < 256 ^ 8)) (w : World) :
    Calls Try.prog 4 #[.int .u64 v, .int .i64 n, .string s] w fun e w' => e = .returned (.bool true) ∧ Below w.heap.size w w' := by
  have t0 : decide (1024 < s.size) = false := by simp; omega
  have t0' : decide (1024 < (s.size : Int)) = false := by simp; omega
  have t1 : decide ((0 : Int) ≤ (n : Int)) = true := by simp
  have t2 : decide (n ≤ 8) = true := by simp; omega
  have t2' : decide ((n : Int) ≤ 8) = true := by simp; omega
  go_enter Try.func4, Try.ntmps4
  go_wp2_with fail
  refine (num_big v n _ hn hv.out HV.out).mono ?_
  rintro e _ ⟨rfl, rfl⟩
  go_wp2_with fail
  refine (rnum_big v n _ hn HV hv).mono ?_
  rintro e w2 ⟨rfl, bw2⟩
  go_wp2_with fail
  refine (get_long s _ (by unfold maxLen; omega) h8).mono ?_
  rintro e _ ⟨rfl, rfl⟩
  go_wp2_with fail
  refine (rget_long s _ (by unfold maxLen; omega) h8).mono ?_
  rintro e _ ⟨rfl, rfl⟩
  go_wp2_with fail
  refine (alive01 _).mono ?_
  rintro e w4 ⟨rfl, bw4⟩
  go_wp2
  go_ret
  exact ⟨rfl, bw2.trans ((bw4).mono bw2.size)⟩

set_option maxRecDepth 100000 in
set_option maxHeartbeats 1000000 in
theorem walk_big_ok (v : Nat) (n : Nat) (hn : n ≤ 8) (hv : Hid (256 ^ n ≤ v)) (s : ByteArray) (h8 : s.size ≤ 8) (HV : Hid (v < 256 ^ 8)) (w : World) :
    Calls Try.prog 4 #[.int .u64 v, .int .i64 n, .string s] w fun e w' => e = .returned (.bool true) ∧ Below w.heap.size w w' := by
  have t0 : decide (1024 < s.size) = false := by simp; omega
  have t0' : decide (1024 < (s.size : Int)) = false := by simp; omega
  have t1 : decide ((0 : Int) ≤ (n : Int)) = true := by simp
  have t2 : decide (n ≤ 8) = true := by simp; omega
  have t2' : decide ((n : Int) ≤ 8) = true := by simp; omega
  have hlt : Hid (valL (L s) < 256 ^ s.size) := Lib.hid (by have := valL_lt (L s); rw [len_L] at this; exact this)
  have ES := Lib.hid (show B (numL (valL (L s)) s.size) = s by have := numL_valL (L s); rw [len_L] at this; rw [this, B_L])
  go_enter Try.func4, Try.ntmps4
  go_wp2_with fail
  refine (num_big v n _ hn hv.out HV.out).mono ?_
  rintro e _ ⟨rfl, rfl⟩
  go_wp2_with fail
  refine (rnum_big v n _ hn HV hv).mono ?_
  rintro e w2 ⟨rfl, bw2⟩
  go_wp2_with fail
  refine (get_ok s _ h8).mono ?_
  rintro e _ ⟨rfl, rfl⟩
  go_wp2_with fail
  refine (rget_ok s _ h8).mono ?_
  rintro e _ ⟨rfl, rfl⟩
  go_wp2_with fail
  refine (num_ok (valL (L s)) s.size _ h8 hlt.out).mono ?_
  rintro e w3 ⟨rfl, bw3⟩
  rw [ES.out]
  go_wp2_with fail
  refine (alive01 _).mono ?_
  rintro e w4 ⟨rfl, bw4⟩
  go_wp2
  go_ret
  exact ⟨rfl, bw2.trans ((bw3.trans ((bw4).mono bw3.size)).mono bw2.size)⟩

set_option maxRecDepth 100000 in
set_option maxHeartbeats 1000000 in
theorem walk_ok_long (v : Nat) (n : Nat) (hn : n ≤ 8) (hv : Hid (v < 256 ^ n)) (s : ByteArray) (hs : s.size ≤ 1024) (h8 : 8 < s.size) (HV : Hid (v < 256 ^ 8)) (w : World) :
    Calls Try.prog 4 #[.int .u64 v, .int .i64 n, .string s] w fun e w' => e = .returned (.bool true) ∧ Below w.heap.size w w' := by
  have t0 : decide (1024 < s.size) = false := by simp; omega
  have t0' : decide (1024 < (s.size : Int)) = false := by simp; omega
  have t1 : decide ((0 : Int) ≤ (n : Int)) = true := by simp
  have t2 : decide (n ≤ 8) = true := by simp; omega
  have t2' : decide ((n : Int) ≤ 8) = true := by simp; omega
  have EV := Lib.hid (show valL (L (B (numL v n))) = v by rw [L_B, valL_numL, Nat.mod_eq_of_lt hv.out])
  have EZ : (B (numL v n)).size = n := by rw [size_B, len_numL]
  have z1 : (B (numL v n)).size ≤ 8 := by omega
  have z2 : (((B (numL v n)).size : Int) != (n : Int)) = false := by simp; omega
  clear EZ
  go_enter Try.func4, Try.ntmps4
  go_wp2_with fail
  refine (num_ok v n _ hn hv.out).mono ?_
  rintro e w1 ⟨rfl, bw1⟩
  go_wp2_with fail
  refine (rnum_ok v n _ hn HV hv).mono ?_
  rintro e w2 ⟨rfl, bw2⟩
  go_wp2_with fail
  refine (get_long s _ (by unfold maxLen; omega) h8).mono ?_
  rintro e _ ⟨rfl, rfl⟩
  go_wp2_with fail
  refine (rget_long s _ (by unfold maxLen; omega) h8).mono ?_
  rintro e _ ⟨rfl, rfl⟩
  go_wp2_with fail
  refine (get_ok (B (numL v n)) _ z1).mono ?_
  rintro e _ ⟨rfl, rfl⟩
  rw [EV.out]
  go_wp2_with fail
  refine (alive01 _).mono ?_
  rintro e w4 ⟨rfl, bw4⟩
  go_wp2
  go_ret
  exact ⟨rfl, bw1.trans ((bw2.trans ((bw4).mono bw2.size)).mono bw1.size)⟩

set_option maxRecDepth 100000 in
set_option maxHeartbeats 1000000 in
theorem walk_ok_ok (v : Nat) (n : Nat) (hn : n ≤ 8) (hv : Hid (v < 256 ^ n)) (s : ByteArray) (h8 : s.size ≤ 8) (HV : Hid (v < 256 ^ 8)) (w : World) :
    Calls Try.prog 4 #[.int .u64 v, .int .i64 n, .string s] w fun e w' => e = .returned (.bool true) ∧ Below w.heap.size w w' := by
  have t0 : decide (1024 < s.size) = false := by simp; omega
  have t0' : decide (1024 < (s.size : Int)) = false := by simp; omega
  have t1 : decide ((0 : Int) ≤ (n : Int)) = true := by simp
  have t2 : decide (n ≤ 8) = true := by simp; omega
  have t2' : decide ((n : Int) ≤ 8) = true := by simp; omega
  have hlt : Hid (valL (L s) < 256 ^ s.size) := Lib.hid (by have := valL_lt (L s); rw [len_L] at this; exact this)
  have ES := Lib.hid (show B (numL (valL (L s)) s.size) = s by have := numL_valL (L s); rw [len_L] at this; rw [this, B_L])
  have EV := Lib.hid (show valL (L (B (numL v n))) = v by rw [L_B, valL_numL, Nat.mod_eq_of_lt hv.out])
  have EZ : (B (numL v n)).size = n := by rw [size_B, len_numL]
  have z1 : (B (numL v n)).size ≤ 8 := by omega
  have z2 : (((B (numL v n)).size : Int) != (n : Int)) = false := by simp; omega
  clear EZ
  go_enter Try.func4, Try.ntmps4
  go_wp2_with fail
  refine (num_ok v n _ hn hv.out).mono ?_
  rintro e w1 ⟨rfl, bw1⟩
  go_wp2_with fail
  refine (rnum_ok v n _ hn HV hv).mono ?_
  rintro e w2 ⟨rfl, bw2⟩
  go_wp2_with fail
  refine (get_ok s _ h8).mono ?_
  rintro e _ ⟨rfl, rfl⟩
  go_wp2_with fail
  refine (rget_ok s _ h8).mono ?_
  rintro e _ ⟨rfl, rfl⟩
  go_wp2_with fail
  refine (get_ok (B (numL v n)) _ z1).mono ?_
  rintro e _ ⟨rfl, rfl⟩
  rw [EV.out]
  go_wp2_with fail
  refine (num_ok (valL (L s)) s.size _ h8 hlt.out).mono ?_
  rintro e w3 ⟨rfl, bw3⟩
  rw [ES.out]
  go_wp2_with fail
  refine (alive01 _).mono ?_
  rintro e w4 ⟨rfl, bw4⟩
  go_wp2
  go_ret
  exact ⟨rfl, bw1.trans ((bw2.trans ((bw3.trans ((bw4).mono bw3.size)).mono bw2.size)).mono bw1.size)⟩

theorem walk (a0 a1 : Int) (a2 : ByteArray) (w0 : (Lit.int .u64 a0).wf = true) (w1 : (Lit.int .i64 a1).wf = true) (w2 : a2.size ≤ maxLen) (w : World) :
    Calls Try.prog 4 #[.int .u64 a0, .int .i64 a1, .string a2] w fun e w' => e = .returned (.bool true) ∧ Below w.heap.size w w' := by
  have hb := bounds_u64 w0
  by_cases h : 1024 < a2.size
  · exact walk_big a0 a1 a2 w2 h w
  · obtain ⟨v, rfl⟩ := Int.eq_ofNat_of_zero_le hb.1
    have HV : Hid (v < 256 ^ 8) := Lib.hid (by have := hb.2; omega)
    by_cases hn : a1 < 0 ∨ 8 < a1
    · by_cases h8 : a2.size ≤ 8
      · exact walk_out_ok v a1 hn a2 h8 HV w
      · exact walk_out_long v a1 hn a2 (by omega) (by omega) HV w
    · obtain ⟨n, rfl⟩ := Int.eq_ofNat_of_zero_le (show 0 ≤ a1 by omega)
      by_cases hv : v < 256 ^ n
      · by_cases h8 : a2.size ≤ 8
        · exact walk_ok_ok v n (by omega) (Lib.hid hv) a2 h8 HV w
        · exact walk_ok_long v n (by omega) (Lib.hid hv) a2 (by omega) (by omega) HV w
      · by_cases h8 : a2.size ≤ 8
        · exact walk_big_ok v n (by omega) (Lib.hid (by omega)) a2 h8 HV w
        · exact walk_big_long v n (by omega) (Lib.hid (by omega)) a2 (by omega) (by omega) HV w

theorem own : ownKnob Try.prog.godebug = none := by kernel_rfl
set_option maxRecDepth 100000 in
theorem lifted (os : Os) (started : os.Started) (H : Type) (enc : TypeId × Value → H) :
    ReturnsInHanded {} Try.checked os 4 .any (Rows.octetNumbersSpec.pre6 enc Try.prog Try.f4 Rows.octetNumbersRow.domain false) (Rows.octetNumbersSpec.post enc Try.prog Try.f4 false true false false) := by
  refine returnsInHanded_of_change (C := Try.checked) own started (by kernel_rfl) Try.func4
    (ChangeSpec.witness6 (enc := enc) (C := Try.checked) false ⟨#[], #[.int .u64 0, .int .i64 0, .string ByteArray.empty], []⟩ 8 (by kernel_rfl) (by kernel_rfl) (by kernel_rfl) (by kernel_rfl)) ?_
  intro W base args ds gs before hval0 hW hcnd _
  have hval : ∀ (j : Nat) t v, Try.f4.params[j]? = some t → args[j]? = some v → Value.okWide Try.prog W .any base t v := hval0
  have hW' := hW
  obtain ⟨p, q, hA0, hV, rfl, hfz, hnd⟩ := hW
  have hA : DataW.TrodAll enc Try.prog W 0 (fun _ => true) true Try.f4.params.toList args.toList ds p := hA0
  rw [Try.params4] at hA hval
  obtain ⟨v0, vs0, d0, ds0, p0, q0, hargs, rfl, rfl, h0, r0⟩ := trodAll_cons hA
  obtain ⟨v1, vs1, d1, ds1, p1, q1, rfl, rfl, rfl, h1, r1⟩ := trodAll_cons r0
  obtain ⟨v2, vs2, d2, ds2, p2, q2, rfl, rfl, rfl, h2, r2⟩ := trodAll_cons r1
  obtain ⟨rfl, rfl, rfl⟩ := trodAll_nil r2
  obtain rfl : args = #[v0, v1, v2] := by cases args; simp_all
  obtain ⟨rfl, rfl⟩ := trodVars_none hV
  obtain ⟨a0, rfl, rfl, rfl, w0⟩ := open_int Try.underlying30 (hval 0 30 v0 rfl rfl) h0
  obtain ⟨a1, rfl, rfl, rfl, w1⟩ := open_int Try.underlying3 (hval 1 3 v1 rfl rfl) h1
  obtain ⟨a2, rfl, rfl, rfl, w2⟩ := open_string Try.underlying9 (hval 2 9 v2 rfl rfl) h2
  clear hA0 hval0
  simp only [List.append_nil] at hW'
  refine (walk a0 a1 a2 w0 w1 w2 W).mono fun e W' ⟨he, bel⟩ => ?_
  subst he
  exact ⟨_, rfl, _, _, _, [], _, [], hW', trodAll_mk1 (shut_bool Try.underlying4 _), (trodAll_cons_mk (shut_int Try.underlying30 w0) (trodAll_cons_mk (shut_int Try.underlying3 w1) (trodAll_cons_mk (shut_string Try.underlying9 w2) trodAll_mk0))), rfl, bel.frame _, fun h => by cases h⟩

theorem over : Rows.octetNumbersRow.holds Try.pinned (OpenSpec.ofChange Rows.octetNumbersSpec) :=
  OpenClaim.holds_of_wide 4 Try.f4 rfl rfl rfl rfl rfl rfl rfl ⟨rfl, rfl, rfl, rfl, rfl⟩ rfl rfl rfl rfl rfl (by kernel_rfl) Try.func4 (by kernel_rfl)
    (of_decide_eq_true (by kernel_rfl)) (by unfold Func.isWrapper; first | (rw [if_pos (by decide +kernel)]; kernel_rfl) | (rw [if_neg (by decide +kernel)]; exact ⟨rfl, rfl⟩))
    (fun os started H enc _ => lifted os started H enc)

theorem proved : Rows.OctetNumbersSaid := over

end Go.Proofs.Ytfdclifdemajfaa.octetNumbers
