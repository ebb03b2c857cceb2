/- Proves Rows.BitsSetSaid: for every text, number and bool the law BitsSet returns true and its arguments read as before. No further conditions. -/
import Derived.Test.YtfdclifdemajfaaRows
import Derived.Test.YtfdclifdemajfaaBitsAlive
import Derived.WalkKit
import Derived.ProofKit
import Derived.OpenShut
import Derived.ShutString
import Derived.ChangeOld
import Derived.Below
namespace Go.Proofs.Ytfdclifdemajfaa.bitsSet
open Go.ChangeShapes Go.WideShapes Go.ChangeAt Go.RowKit
open Go.ChangeMaps (open_string shut_string)
set_option linter.unusedVariables false

theorem own : ownKnob Try.prog.godebug = none := by kernel_rfl
theorem laidOut : laidOutB Try.prog = true := by kernel_rfl

set_option maxRecDepth 100000 in
set_option maxHeartbeats 1000000 in
theorem walk_big (s : ByteArray) (a1 : Int) (on : Bool) (w0 : s.size ≤ maxLen) (h : 200 < s.size ∨ s.size = 0) (w : World) :
    Calls Try.prog 3 #[.string s, .int .u16 a1, .bool on] w fun e w' => e = .returned (.bool true) ∧ Below w.heap.size w w' := by
  unfold maxLen at w0
  by_cases h1 : 200 < s.size
  · clear h
    go_enter Try.func3, Try.ntmps3
    go_wp2_with fail
    refine (alive06 _).mono ?_
    rintro e w1 ⟨rfl, b1⟩
    go_wp2
    go_ret
    exact ⟨rfl, b1⟩
  · have h2 : s = ⟨#[]⟩ := by
      apply ByteArray.ext
      exact Array.eq_empty_of_size_eq_zero (by have : s.size = s.data.size := rfl; omega)
    subst h2
    go_enter Try.func3, Try.ntmps3
    go_wp2_with fail
    refine (alive06 _).mono ?_
    rintro e w1 ⟨rfl, b1⟩
    go_wp2
    go_ret
    exact ⟨rfl, b1⟩

set_option maxRecDepth 100000 in
set_option maxHeartbeats 1000000 in
theorem walk_small (s : ByteArray) (n : Nat) (on : Bool) (h : s.size ≤ 200) (h0 : 0 < s.size) (hn : n ≤ 65535) (w : World) :
    Calls Try.prog 3 #[.string s, .int .u16 n, .bool on] w fun e w' => e = .returned (.bool true) ∧ Below w.heap.size w w' := by
  obtain ⟨k, hk, hlt⟩ : ∃ k : Nat, (n : Int) % (8 * (s.size : Int)) = k ∧ k < 8 * s.size := ⟨n % (8 * s.size), by norm_cast, Nat.mod_lt _ (by omega)⟩
  have hne : s.toList.isEmpty = false := by
    have e : s.toList = s.data.toList := ByteArray.toList_eq s
    have e2 := len_toList s
    rw [e]
    cases hl : s.data.toList with
    | nil => rw [hl] at e2; simp at e2; omega
    | cons a l => rfl
  have hd : decide (200 < s.size) = false := by simp; omega
  have hd' : decide (200 < (s.size : Int)) = false := by simp; omega
  have hz := size_setB s k on
  have HA := Lib.hid (setB_again s k on on hlt)
  have HB := Lib.hid (setB_again s k on (bitB s k) hlt)
  have HC := Lib.hid (setB_self s k hlt)
  have HG := Lib.hid (fun i => bitB_setB s k i on hlt)
  have HZ := Lib.hid hz
  clear hz
  obtain ⟨t, ht⟩ : ∃ t, setB s k on = t := ⟨_, rfl⟩
  rw [ht] at HA HB HG HZ
  have HT := Lib.hid ht
  clear ht
  have zt : t.size = s.size := HZ.out
  have zt1 : t.size ≤ s.size := by omega
  have zt2 : s.size ≤ t.size := by omega
  have zq : ((t.size : Int) != (s.size : Int)) = false := by simp; omega
  clear zt
  go_enter Try.func3, Try.ntmps3
  go_wp2_with fail
  rw [hk]
  have HK := Lib.hid hk
  clear hk
  refine (set_yes s k on _ (by omega) hlt).mono ?_
  rintro e w1 ⟨rfl, b1⟩
  rw [HT.out]
  go_wp2_with fail
  refine (set_yes t k on _ (by omega) (by omega)).mono ?_
  rintro e w2 ⟨rfl, b2⟩
  rw [HA.out]
  go_wp2_with fail
  go_loop [12] (fun j => ∃ i : Nat, i ≤ 8 * s.size ∧ j = .int .i64 i) (fun j => 8 * s.size - (intOf j).toNat)
  case atStart => exact ⟨0, Nat.zero_le _, rfl⟩
  case round =>
    obtain ⟨i, hi, rfl⟩ := hrel
    by_cases hlt2 : i < 8 * s.size
    · go_wp2_with fail
      refine (get_yes s i _ (by omega) hlt2).mono ?_
      rintro e _ ⟨rfl, rfl⟩
      go_wp2_with fail
      refine (get_yes t i _ (by omega) (by omega)).mono ?_
      rintro e _ ⟨rfl, rfl⟩
      rw [HG.out i]
      by_cases hik : i = k
      · rw [if_pos hik]
        have q1 : ((i : Int) == (k : Int)) = true := by simp; omega
        have q2 : ((i : Int) != (k : Int)) = false := by simp; omega
        have q3 : (on != on) = false := by simp
        have HI := Lib.hid hik
        clear hik
        go_wp2
        go_round
        case rel => exact ⟨i + 1, by omega, by go_num⟩
        case measure => simp [intOf]; omega
      · rw [if_neg hik]
        have q1 : ((i : Int) == (k : Int)) = false := by simp; omega
        have q2 : ((i : Int) != (k : Int)) = true := by simp; omega
        have q3 : (bitB s i != bitB s i) = false := by simp
        have HI := Lib.hid hik
        clear hik
        go_wp2
        go_round
        case rel => exact ⟨i + 1, by omega, by go_num⟩
        case measure => simp [intOf]; omega
    · go_wp2_with fail
      refine (get_yes s k _ (by omega) hlt).mono ?_
      rintro e _ ⟨rfl, rfl⟩
      go_wp2_with fail
      refine (set_yes t k (bitB s k) _ (by omega) (by omega)).mono ?_
      rintro e w3 ⟨rfl, b3⟩
      rw [HB.out, HC.out]
      go_wp2_with fail
      refine (alive06 _).mono ?_
      rintro e w4 ⟨rfl, b4⟩
      go_wp2
      go_ret
      exact ⟨rfl, b1.trans ((b2.trans ((b3.trans (b4.mono b3.size)).mono b2.size)).mono b1.size)⟩

theorem walk (a0 : ByteArray) (a1 : Int) (a2 : Bool) (w0 : a0.size ≤ maxLen) (w1 : (Lit.int .u16 a1).wf = true) (w : World) :
    Calls Try.prog 3 #[.string a0, .int .u16 a1, .bool a2] w fun e w' => e = .returned (.bool true) ∧ Below w.heap.size w w' := by
  by_cases h : 200 < a0.size ∨ a0.size = 0
  · exact walk_big a0 a1 a2 w0 h w
  · have hb := bounds_u16 w1
    obtain ⟨n, rfl⟩ := Int.eq_ofNat_of_zero_le hb.1
    exact walk_small a0 n a2 (by omega) (by omega) (by omega) w

set_option maxRecDepth 100000 in
theorem lifted (os : Os) (started : os.Started) (H : Type) (enc : TypeId × Value → H) :
    ReturnsInHanded {} Try.checked os 3 .any (Rows.bitsSetSpec.pre6 enc Try.prog Try.f3 Rows.bitsSetRow.domain false) (Rows.bitsSetSpec.post enc Try.prog Try.f3 false true false false) := by
  refine returnsInHanded_of_change (C := Try.checked) own started (by kernel_rfl) Try.func3
    (ChangeSpec.witness6 (enc := enc) (C := Try.checked) false ⟨#[], #[.string ByteArray.empty, .int .u16 0, .bool false], []⟩ 8 (by kernel_rfl) (by kernel_rfl) (by kernel_rfl) (by kernel_rfl)) ?_
  intro W base args ds gs before hval0 hW hcnd _
  have hval : ∀ (j : Nat) t v, Try.f3.params[j]? = some t → args[j]? = some v → Value.okWide Try.prog W .any base t v := hval0
  have hW' := hW
  obtain ⟨p, q, hA0, hV, rfl, hfz, hnd⟩ := hW
  have hA : DataW.TrodAll enc Try.prog W 0 (fun _ => true) true Try.f3.params.toList args.toList ds p := hA0
  rw [Try.params3] at hA hval
  obtain ⟨v0, vs0, d0, ds0, p0, q0, hargs, rfl, rfl, h0, r0⟩ := trodAll_cons hA
  obtain ⟨v1, vs1, d1, ds1, p1, q1, rfl, rfl, rfl, h1, r1⟩ := trodAll_cons r0
  obtain ⟨v2, vs2, d2, ds2, p2, q2, rfl, rfl, rfl, h2, r2⟩ := trodAll_cons r1
  obtain ⟨rfl, rfl, rfl⟩ := trodAll_nil r2
  obtain rfl : args = #[v0, v1, v2] := by cases args; simp_all
  obtain ⟨rfl, rfl⟩ := trodVars_none hV
  obtain ⟨a0, rfl, rfl, rfl, w0⟩ := open_string Try.underlying9 (hval 0 9 v0 rfl rfl) h0
  obtain ⟨a1, rfl, rfl, rfl, w1⟩ := open_int Try.underlying22 (hval 1 22 v1 rfl rfl) h1
  obtain ⟨a2, rfl, rfl, rfl⟩ := open_bool Try.underlying4 (hval 2 4 v2 rfl rfl) h2
  clear hA0 hval0
  simp only [List.append_nil] at hW'
  refine (walk a0 a1 a2 w0 w1 W).mono fun e W' ⟨he, bel⟩ => ?_
  subst he
  exact ⟨_, rfl, _, _, _, [], _, [], hW', trodAll_mk1 (shut_bool Try.underlying4 _), (trodAll_cons_mk (shut_string Try.underlying9 w0) (trodAll_cons_mk (shut_int Try.underlying22 w1) (trodAll_cons_mk (shut_bool Try.underlying4 _) trodAll_mk0))), rfl, bel.frame _, fun h => by cases h⟩

theorem over : Rows.bitsSetRow.holds Try.pinned (OpenSpec.ofChange Rows.bitsSetSpec) :=
  OpenClaim.holds_of_wide 3 Try.f3 rfl rfl rfl rfl rfl rfl rfl ⟨rfl, rfl, rfl, rfl, rfl⟩ rfl rfl rfl rfl rfl (by kernel_rfl) Try.func3 (by kernel_rfl)
    (of_decide_eq_true (by kernel_rfl)) (by unfold Func.isWrapper; first | (rw [if_pos (by decide +kernel)]; kernel_rfl) | (rw [if_neg (by decide +kernel)]; exact ⟨rfl, rfl⟩))
    (fun os started H enc _ => lifted os started H enc)

theorem proved : Rows.BitsSetSaid := over
end Go.Proofs.Ytfdclifdemajfaa.bitsSet
