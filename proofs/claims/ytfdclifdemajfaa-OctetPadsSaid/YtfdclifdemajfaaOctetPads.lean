/- Proves Rows.OctetPadsSaid: for every text and number the law OctetPads returns true and its arguments read as before. No further conditions. -/
import Derived.Test.YtfdclifdemajfaaRows
import Derived.Test.YtfdclifdemajfaaOctetAlive
import Derived.WalkKit
import Derived.ProofKit
import Derived.OpenShut
import Derived.ShutString
import Derived.ChangeOld
import Derived.Below
namespace Go.Proofs.Ytfdclifdemajfaa.octetPads
open Go.ChangeShapes Go.WideShapes Go.ChangeAt Go.RowKit
open Go.ChangeMaps (open_string shut_string)
set_option linter.unusedVariables false

open Oct

set_option maxRecDepth 100000 in
set_option maxHeartbeats 1000000 in
theorem walk_big (s : ByteArray) (n : Int) (hs : s.size ≤ maxLen) (h : 8192 < s.size ∨ (s.size ≤ 8192 ∧ 131072 < n)) (w : World) :
    Calls Try.prog 5 #[.string s, .int .i64 n] w fun e w' => e = .returned (.bool true) ∧ Below w.heap.size w w' := by
  unfold maxLen at hs
  rcases h with h | ⟨h1, h⟩
  · go_enter Try.func5, Try.ntmps5
    go_wp2_with fail
    refine (alive01 _).mono ?_
    rintro e w1 ⟨rfl, b1⟩
    go_wp2
    go_ret
    exact ⟨rfl, b1⟩
  · have t0 : decide (8192 < (s.size : Int)) = false := by simp; omega
    have t0' : decide (8192 < s.size) = false := by simp; omega
    go_enter Try.func5, Try.ntmps5
    go_wp2_with fail
    refine (alive01 _).mono ?_
    rintro e w1 ⟨rfl, b1⟩
    go_wp2
    go_ret
    exact ⟨rfl, b1⟩

theorem bare_size (s : ByteArray) : (B (bareL (L s))).size ≤ s.size := by
  rw [size_B]
  unfold bareL
  rw [List.length_take, len_L]
  omega
theorem pad_bare (s : ByteArray) : padB (B (bareL (L s))) s.size = s := by
  unfold padB
  rw [L_B, size_B, ← len_L s, bare_pad, B_L]
theorem bare_padB (s : ByteArray) (n : Nat) : bareL (L (padB s n)) = bareL (L s) := by
  unfold padB
  rw [L_B, bareL_pad]
theorem size_padB (s : ByteArray) (n : Nat) (h : s.size ≤ n) : (padB s n).size = n := by
  unfold padB
  rw [size_B, List.length_append, List.length_replicate, len_L]
  omega

set_option maxRecDepth 100000 in
set_option maxHeartbeats 1000000 in
theorem walk_arg (s : ByteArray) (n : Int) (hn : n < 0 ∨ 65536 < n) (hn2 : n ≤ 131072) (hs : s.size ≤ 8192) (w : World) :
    Calls Try.prog 5 #[.string s, .int .i64 n] w fun e w' => e = .returned (.bool true) ∧ Below w.heap.size w w' := by
  have t0 : decide (8192 < (s.size : Int)) = false := by simp; omega
  have t0' : decide (8192 < s.size) = false := by simp; omega
  have t1 : decide (131072 < (n : Int)) = false := by simp; omega
  have hm : s.size ≤ maxLen := by unfold maxLen; omega
  have HM := Lib.hid hm
  clear hm
  have zc := bare_size s
  have EP := Lib.hid (pad_bare s)
  have EB := Lib.hid (bareL_bareL (L s))
  have HN := Lib.hid hn
  clear hn
  obtain ⟨c, hc⟩ : ∃ c, B (bareL (L s)) = c := ⟨_, rfl⟩
  have EC := Lib.hid hc
  rw [hc] at EP zc
  have EB2 : B (bareL (L c)) = c := by rw [← hc, L_B, EB.out]
  have EB3 := Lib.hid EB2
  clear EB2 hc EB
  go_enter Try.func5, Try.ntmps5
  go_wp2_with fail
  refine (pad_arg s n _ HN.out).mono ?_
  rintro e _ ⟨rfl, rfl⟩
  go_wp2_with fail
  refine (rpad_arg s n _ HN.out).mono ?_
  rintro e _ ⟨rfl, rfl⟩
  go_wp2_with fail
  refine (bare_ok s _ HM.out).mono ?_
  rintro e _ ⟨rfl, rfl⟩
  rw [EC.out]
  go_wp2_with fail
  refine (pad_ok c s.size _ (by omega) zc).mono ?_
  rintro e w3 ⟨rfl, bw3⟩
  rw [EP.out]
  go_wp2_with fail
  refine (rbare_ok s _ HM.out).mono ?_
  rintro e _ ⟨rfl, rfl⟩
  rw [EC.out]
  go_wp2_with fail
  refine (bare_ok c _ (by unfold maxLen; omega)).mono ?_
  rintro e _ ⟨rfl, rfl⟩
  rw [EB3.out]
  go_wp2_with fail
  refine (alive01 _).mono ?_
  rintro e w4 ⟨rfl, bw4⟩
  go_wp2
  go_ret
  exact ⟨rfl, bw3.trans ((bw4).mono bw3.size)⟩

set_option maxRecDepth 100000 in
set_option maxHeartbeats 1000000 in
theorem walk_long (s : ByteArray) (n : Nat) (hn : n ≤ 65536) (hl : n < s.size) (hs : s.size ≤ 8192) (w : World) :
    Calls Try.prog 5 #[.string s, .int .i64 n] w fun e w' => e = .returned (.bool true) ∧ Below w.heap.size w w' := by
  have t0 : decide (8192 < (s.size : Int)) = false := by simp; omega
  have t0' : decide (8192 < s.size) = false := by simp; omega
  have t1 : decide (131072 < (n : Int)) = false := by simp; omega
  have hm : s.size ≤ maxLen := by unfold maxLen; omega
  have HM := Lib.hid hm
  clear hm
  have zc := bare_size s
  have EP := Lib.hid (pad_bare s)
  have EB := Lib.hid (bareL_bareL (L s))
  obtain ⟨c, hc⟩ : ∃ c, B (bareL (L s)) = c := ⟨_, rfl⟩
  have EC := Lib.hid hc
  rw [hc] at EP zc
  have EB2 : B (bareL (L c)) = c := by rw [← hc, L_B, EB.out]
  have EB3 := Lib.hid EB2
  clear EB2 hc EB
  go_enter Try.func5, Try.ntmps5
  go_wp2_with fail
  refine (pad_long s n _ HM.out hn hl).mono ?_
  rintro e _ ⟨rfl, rfl⟩
  go_wp2_with fail
  refine (rpad_long s n _ HM.out hn hl).mono ?_
  rintro e _ ⟨rfl, rfl⟩
  go_wp2_with fail
  refine (bare_ok s _ HM.out).mono ?_
  rintro e _ ⟨rfl, rfl⟩
  rw [EC.out]
  go_wp2_with fail
  refine (pad_ok c s.size _ (by omega) zc).mono ?_
  rintro e w3 ⟨rfl, bw3⟩
  rw [EP.out]
  go_wp2_with fail
  refine (rbare_ok s _ HM.out).mono ?_
  rintro e _ ⟨rfl, rfl⟩
  rw [EC.out]
  go_wp2_with fail
  refine (bare_ok c _ (by unfold maxLen; omega)).mono ?_
  rintro e _ ⟨rfl, rfl⟩
  rw [EB3.out]
  go_wp2_with fail
  refine (alive01 _).mono ?_
  rintro e w4 ⟨rfl, bw4⟩
  go_wp2
  go_ret
  exact ⟨rfl, bw3.trans ((bw4).mono bw3.size)⟩

set_option maxRecDepth 100000 in
set_option maxHeartbeats 1000000 in
theorem walk_ok (s : ByteArray) (n : Nat) (hn : n ≤ 65536) (hl : s.size ≤ n) (hs : s.size ≤ 8192) (w : World) :
    Calls Try.prog 5 #[.string s, .int .i64 n] w fun e w' => e = .returned (.bool true) ∧ Below w.heap.size w w' := by
  have t0 : decide (8192 < (s.size : Int)) = false := by simp; omega
  have t0' : decide (8192 < s.size) = false := by simp; omega
  have t1 : decide (131072 < (n : Int)) = false := by simp; omega
  have hm : s.size ≤ maxLen := by unfold maxLen; omega
  have HM := Lib.hid hm
  clear hm
  have zc := bare_size s
  have EP := Lib.hid (pad_bare s)
  have EB := Lib.hid (bareL_bareL (L s))
  have EQ := Lib.hid (bare_padB s n)
  have z3 : (((padB s n).size : Int) == (n : Int)) = true := by rw [size_padB s n hl]; simp
  have z4 : (padB s n).size ≤ 65536 := by rw [size_padB s n hl]; exact hn
  have hp1 := fun W => pad_ok s n W hn hl
  have hp2 := fun W => rpad_ok s n W hn hl
  generalize padB s n = a at *
  have HP1 := Lib.hid hp1
  have HP2 := Lib.hid hp2
  clear hp1 hp2
  obtain ⟨c, hc⟩ : ∃ c, B (bareL (L s)) = c := ⟨_, rfl⟩
  have EC := Lib.hid hc
  rw [hc] at EP zc
  have EB2 : B (bareL (L c)) = c := by rw [← hc, L_B, EB.out]
  have EB3 := Lib.hid EB2
  clear EB2 hc EB
  go_enter Try.func5, Try.ntmps5
  go_wp2_with fail
  refine (HP1.out _).mono ?_
  rintro e w1 ⟨rfl, bw1⟩
  go_wp2_with fail
  refine (HP2.out _).mono ?_
  rintro e w2 ⟨rfl, bw2⟩
  go_wp2_with fail
  refine (bare_ok s _ HM.out).mono ?_
  rintro e _ ⟨rfl, rfl⟩
  rw [EC.out]
  go_wp2_with fail
  refine (pad_ok c s.size _ (by omega) zc).mono ?_
  rintro e w3 ⟨rfl, bw3⟩
  rw [EP.out]
  go_wp2_with fail
  refine (rbare_ok s _ HM.out).mono ?_
  rintro e _ ⟨rfl, rfl⟩
  rw [EC.out]
  go_wp2_with fail
  refine (bare_ok a _ (by unfold maxLen; omega)).mono ?_
  rintro e _ ⟨rfl, rfl⟩
  rw [EQ.out, EC.out]
  go_wp2_with fail
  refine (bare_ok c _ (by unfold maxLen; omega)).mono ?_
  rintro e _ ⟨rfl, rfl⟩
  rw [EB3.out]
  go_wp2_with fail
  refine (alive01 _).mono ?_
  rintro e w4 ⟨rfl, bw4⟩
  go_wp2
  go_ret
  exact ⟨rfl, bw1.trans ((bw2.trans ((bw3.trans ((bw4).mono bw3.size)).mono bw2.size)).mono bw1.size)⟩

theorem walk (a0 : ByteArray) (a1 : Int) (w0 : a0.size ≤ maxLen) (w1 : (Lit.int .i64 a1).wf = true) (w : World) :
    Calls Try.prog 5 #[.string a0, .int .i64 a1] w fun e w' => e = .returned (.bool true) ∧ Below w.heap.size w w' := by
  by_cases h : 8192 < a0.size
  · exact walk_big a0 a1 w0 (.inl h) w
  · by_cases h2 : 131072 < a1
    · exact walk_big a0 a1 w0 (.inr ⟨by omega, h2⟩) w
    · by_cases hn : a1 < 0 ∨ 65536 < a1
      · exact walk_arg a0 a1 hn (by omega) (by omega) w
      · obtain ⟨n, rfl⟩ := Int.eq_ofNat_of_zero_le (show 0 ≤ a1 by omega)
        by_cases hl : n < a0.size
        · exact walk_long a0 n (by omega) hl (by omega) w
        · exact walk_ok a0 n (by omega) (by omega) (by omega) w

theorem own : ownKnob Try.prog.godebug = none := by kernel_rfl
set_option maxRecDepth 100000 in
theorem lifted (os : Os) (started : os.Started) (H : Type) (enc : TypeId × Value → H) :
    ReturnsInHanded {} Try.checked os 5 .any (Rows.octetPadsSpec.pre6 enc Try.prog Try.f5 Rows.octetPadsRow.domain false) (Rows.octetPadsSpec.post enc Try.prog Try.f5 false true false false) := by
  refine returnsInHanded_of_change (C := Try.checked) own started (by kernel_rfl) Try.func5
    (ChangeSpec.witness6 (enc := enc) (C := Try.checked) false ⟨#[], #[.string ByteArray.empty, .int .i64 0], []⟩ 8 (by kernel_rfl) (by kernel_rfl) (by kernel_rfl) (by kernel_rfl)) ?_
  intro W base args ds gs before hval0 hW hcnd _
  have hval : ∀ (j : Nat) t v, Try.f5.params[j]? = some t → args[j]? = some v → Value.okWide Try.prog W .any base t v := hval0
  have hW' := hW
  obtain ⟨p, q, hA0, hV, rfl, hfz, hnd⟩ := hW
  have hA : DataW.TrodAll enc Try.prog W 0 (fun _ => true) true Try.f5.params.toList args.toList ds p := hA0
  rw [Try.params5] at hA hval
  obtain ⟨v0, vs0, d0, ds0, p0, q0, hargs, rfl, rfl, h0, r0⟩ := trodAll_cons hA
  obtain ⟨v1, vs1, d1, ds1, p1, q1, rfl, rfl, rfl, h1, r1⟩ := trodAll_cons r0
  obtain ⟨rfl, rfl, rfl⟩ := trodAll_nil r1
  obtain rfl : args = #[v0, v1] := by cases args; simp_all
  obtain ⟨rfl, rfl⟩ := trodVars_none hV
  obtain ⟨a0, rfl, rfl, rfl, w0⟩ := open_string Try.underlying9 (hval 0 9 v0 rfl rfl) h0
  obtain ⟨a1, rfl, rfl, rfl, w1⟩ := open_int Try.underlying3 (hval 1 3 v1 rfl rfl) h1
  clear hA0 hval0
  simp only [List.append_nil] at hW'
  refine (walk a0 a1 w0 w1 W).mono fun e W' ⟨he, bel⟩ => ?_
  subst he
  exact ⟨_, rfl, _, _, _, [], _, [], hW', trodAll_mk1 (shut_bool Try.underlying4 _), (trodAll_cons_mk (shut_string Try.underlying9 w0) (trodAll_cons_mk (shut_int Try.underlying3 w1) trodAll_mk0)), rfl, bel.frame _, fun h => by cases h⟩

theorem over : Rows.octetPadsRow.holds Try.pinned (OpenSpec.ofChange Rows.octetPadsSpec) :=
  OpenClaim.holds_of_wide 5 Try.f5 rfl rfl rfl rfl rfl rfl rfl ⟨rfl, rfl, rfl, rfl, rfl⟩ rfl rfl rfl rfl rfl (by kernel_rfl) Try.func5 (by kernel_rfl)
    (of_decide_eq_true (by kernel_rfl)) (by unfold Func.isWrapper; first | (rw [if_pos (by decide +kernel)]; kernel_rfl) | (rw [if_neg (by decide +kernel)]; exact ⟨rfl, rfl⟩))
    (fun os started H enc _ => lifted os started H enc)

theorem proved : Rows.OctetPadsSaid := over

end Go.Proofs.Ytfdclifdemajfaa.octetPads
