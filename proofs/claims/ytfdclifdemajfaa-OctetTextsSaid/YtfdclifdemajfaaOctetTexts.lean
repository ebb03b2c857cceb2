/- Proves Rows.OctetTextsSaid: for every two texts the law OctetTexts returns true and its arguments read as before. No further conditions. -/
import Derived.Test.YtfdclifdemajfaaRows
import Derived.Test.YtfdclifdemajfaaOctetAlive
import Derived.WalkKit
import Derived.ProofKit
import Derived.OpenShut
import Derived.ShutString
import Derived.ChangeOld
import Derived.Below
import Derived.SizedLaws
namespace Go.Proofs.Ytfdclifdemajfaa.octetTexts
open Go.ChangeShapes Go.WideShapes Go.ChangeAt Go.RowKit
open Go.ChangeMaps (open_string shut_string)
set_option linter.unusedVariables false

open Oct

set_option maxRecDepth 100000 in
set_option maxHeartbeats 1000000 in
theorem walk_big (s t : ByteArray) (hs : s.size ≤ 140737488351232) (ht : t.size ≤ 140737488351232) (h : 8192 < s.size + t.size) (w : World) :
    Calls Try.prog 7 #[.string s, .string t] w fun e w' => e = .returned (.bool true) ∧ Below w.heap.size w w' := by
  go_enter Try.func7, Try.ntmps7
  go_wp2_with fail
  refine (alive01 _).mono ?_
  rintro e w1 ⟨rfl, b1⟩
  go_wp2
  go_ret
  exact ⟨rfl, b1⟩

/-- Read8 and the reference's, of the same text, in one word. -/
def R8 (t : ByteArray) : Value :=
  if h : 0 < t.size then (if t[0].toNat + 1 ≤ t.size then .tuple #[.string (B (((L t).drop 1).take t[0].toNat)), .string (B ((L t).drop (t[0].toNat + 1))), .int .i64 0] else .tuple #[.string ⟨#[]⟩, .string ⟨#[]⟩, .int .i64 6])
  else .tuple #[.string ⟨#[]⟩, .string ⟨#[]⟩, .int .i64 6]
theorem read8_any (t : ByteArray) (w : World) (ht : t.size ≤ maxLen) : Calls Try.prog 33 #[.string t] w fun e w' => e = .returned (R8 t) ∧ Below w.heap.size w w' := by
  unfold R8
  by_cases h : 0 < t.size
  · rw [dif_pos h]
    by_cases h2 : t[0].toNat + 1 ≤ t.size
    · rw [if_pos h2]; exact read8_ok t w ht h _ rfl h2
    · rw [if_neg h2]; exact read8_short t w ht h _ rfl t[0].toNat_lt (by omega)
  · rw [dif_neg h, is_empty (s := t) (by omega)]
    exact read8_empty w
theorem rread8_any (t : ByteArray) (w : World) (ht : t.size ≤ maxLen) : Calls Try.prog 34 #[.string t] w fun e w' => e = .returned (R8 t) ∧ Below w.heap.size w w' := by
  unfold R8
  by_cases h : 0 < t.size
  · rw [dif_pos h]
    by_cases h2 : t[0].toNat + 1 ≤ t.size
    · rw [if_pos h2]; exact rread8_ok t w ht h _ rfl t[0].toNat_lt h2
    · rw [if_neg h2]; exact rread8_short t w ht h _ rfl t[0].toNat_lt (by omega)
  · rw [dif_neg h, is_empty (s := t) (by omega)]
    exact rread8_empty w
theorem R8_form (t : ByteArray) : ∃ (a b : ByteArray) (e : Int), R8 t = .tuple #[.string a, .string b, .int .i64 e] := by
  unfold R8
  split
  · split
    · exact ⟨_, _, _, rfl⟩
    · exact ⟨_, _, _, rfl⟩
  · exact ⟨_, _, _, rfl⟩
theorem R8_put (s t : ByteArray) (hs : s.size ≤ 255) : R8 (B (UInt8.ofNat s.size :: L s) ++ t) = .tuple #[.string s, .string t, .int .i64 0] := by
  have e0 : B (UInt8.ofNat s.size :: L s) ++ t = B (UInt8.ofNat s.size :: (L s ++ L t)) := by rw [append_B]; rfl
  have e1 : (UInt8.ofNat s.size).toNat = s.size := by rw [UInt8.toNat_ofNat', Nat.mod_eq_of_lt (by omega)]
  have hz : (B (UInt8.ofNat s.size :: (L s ++ L t))).size = 1 + s.size + t.size := by
    rw [size_B, List.length_cons, List.length_append, len_L, len_L]; omega
  have h0 : 0 < (B (UInt8.ofNat s.size :: (L s ++ L t))).size := by omega
  have e2 : (B (UInt8.ofNat s.size :: (L s ++ L t)))[0].toNat = s.size := e1
  rw [e0]
  unfold R8
  rw [dif_pos h0, e2, if_pos (by omega), L_B]
  have e3 : ((UInt8.ofNat s.size :: (L s ++ L t)).drop 1).take s.size = L s := by
    show (L s ++ L t).take s.size = L s
    rw [← len_L s, List.take_left]
  have e4 : (UInt8.ofNat s.size :: (L s ++ L t)).drop (s.size + 1) = L t := by
    show (L s ++ L t).drop s.size = L t
    rw [← len_L s, List.drop_left]
  rw [e3, e4, B_L, B_L]

set_option maxRecDepth 100000 in
set_option maxHeartbeats 1000000 in
theorem walk_long (s t : ByteArray) (hs : s.size + t.size ≤ 8192) (h5 : 255 < s.size) (w : World) :
    Calls Try.prog 7 #[.string s, .string t] w fun e w' => e = .returned (.bool true) ∧ Below w.heap.size w w' := by
  have t0 : decide (8192 < (s.size : Int) + (t.size : Int)) = false := by simp; omega
  obtain ⟨a, b, e8, h8⟩ := R8_form t
  have c1 := fun W => read8_any t W (by unfold maxLen; omega)
  have c2 := fun W => rread8_any t W (by unfold maxLen; omega)
  rw [h8] at c1 c2
  have C1 := Lib.hid c1
  have C2 := Lib.hid c2
  have H8 := Lib.hid h8
  clear c1 c2 h8
  go_enter Try.func7, Try.ntmps7
  go_wp2_with fail
  refine (text8_long s _ (by unfold maxLen; omega) h5).mono ?_
  rintro e _ ⟨rfl, rfl⟩
  go_wp2_with fail
  refine (rtext8_long s _ (by unfold maxLen; omega) h5).mono ?_
  rintro e _ ⟨rfl, rfl⟩
  go_wp2_with fail
  refine (C1.out _).mono ?_
  rintro e w3 ⟨rfl, bw3⟩
  go_wp2_with fail
  refine (C2.out _).mono ?_
  rintro e w4 ⟨rfl, bw4⟩
  go_wp2_with fail
  refine (alive01 _).mono ?_
  rintro e w6 ⟨rfl, bw6⟩
  go_wp2
  go_ret
  exact ⟨rfl, bw3.trans ((bw4.trans ((bw6).mono bw4.size)).mono bw3.size)⟩

set_option maxRecDepth 100000 in
set_option maxHeartbeats 1000000 in
theorem walk_ok (s t : ByteArray) (hs : s.size + t.size ≤ 8192) (h5 : s.size ≤ 255) (w : World) :
    Calls Try.prog 7 #[.string s, .string t] w fun e w' => e = .returned (.bool true) ∧ Below w.heap.size w w' := by
  have t0 : decide (8192 < (s.size : Int) + (t.size : Int)) = false := by simp; omega
  obtain ⟨a, b, e8, h8⟩ := R8_form t
  have c1 := fun W => read8_any t W (by unfold maxLen; omega)
  have c2 := fun W => rread8_any t W (by unfold maxLen; omega)
  rw [h8] at c1 c2
  have C1 := Lib.hid c1
  have C2 := Lib.hid c2
  have H8 := Lib.hid h8
  clear c1 c2 h8
  have d1 := fun W => text8_ok s W h5
  have d2 := fun W => rtext8_ok s W h5
  have hz : (B (UInt8.ofNat s.size :: L s)).size = s.size + 1 := by rw [size_B, List.length_cons, len_L]
  have hp := R8_put s t h5
  generalize B (UInt8.ofNat s.size :: L s) = x at *
  have z1 : x.size + t.size ≤ 8193 := by omega
  have z2 : (x ++ t).size ≤ maxLen := by rw [ByteArray.size_append]; unfold maxLen; omega
  have d3 := fun W => read8_any (x ++ t) W z2
  rw [hp] at d3
  have D1 := Lib.hid d1
  have D2 := Lib.hid d2
  have D3 := Lib.hid d3
  clear d1 d2 d3 hp hz z2
  go_enter Try.func7, Try.ntmps7
  go_wp2_with fail
  refine (D1.out _).mono ?_
  rintro e w1 ⟨rfl, bw1⟩
  go_wp2_with fail
  refine (D2.out _).mono ?_
  rintro e w2 ⟨rfl, bw2⟩
  go_wp2_with fail
  refine (C1.out _).mono ?_
  rintro e w3 ⟨rfl, bw3⟩
  go_wp2_with fail
  refine (C2.out _).mono ?_
  rintro e w4 ⟨rfl, bw4⟩
  go_wp2_with fail
  refine (D3.out _).mono ?_
  rintro e w5 ⟨rfl, bw5⟩
  go_wp2_with fail
  refine (alive01 _).mono ?_
  rintro e w6 ⟨rfl, bw6⟩
  go_wp2
  go_ret
  exact ⟨rfl, bw1.trans ((bw2.trans ((bw3.trans ((bw4.trans ((bw5.trans ((bw6).mono bw5.size)).mono bw4.size)).mono bw3.size)).mono bw2.size)).mono bw1.size)⟩

theorem walk (a0 a1 : ByteArray) (w0 : a0.size ≤ 140737488351232) (w1 : a1.size ≤ 140737488351232) (w : World) :
    Calls Try.prog 7 #[.string a0, .string a1] w fun e w' => e = .returned (.bool true) ∧ Below w.heap.size w w' := by
  by_cases h : 8192 < a0.size + a1.size
  · exact walk_big a0 a1 w0 w1 h w
  · by_cases h5 : 255 < a0.size
    · exact walk_long a0 a1 (by omega) h5 w
    · exact walk_ok a0 a1 (by omega) (by omega) w

theorem own : ownKnob Try.prog.godebug = none := by kernel_rfl
set_option maxRecDepth 100000 in
theorem lifted (os : Os) (started : os.Started) (H : Type) (enc : TypeId × Value → H) :
    ReturnsInHanded {} Try.checked os 7 .any (Rows.octetTextsSpec.pre6 enc Try.prog Try.f7 Rows.octetTextsRow.domain false) (Rows.octetTextsSpec.post enc Try.prog Try.f7 false true false false) := by
  refine returnsInHanded_of_change_sized (C := Try.checked) own started (by kernel_rfl) Try.func7
    (ChangeSpec.witness6 (enc := enc) (C := Try.checked) false ⟨#[], #[.string ByteArray.empty, .string ByteArray.empty], []⟩ 8 (by kernel_rfl) (by kernel_rfl) (by kernel_rfl) (by kernel_rfl)) ?_
  intro W base args ds gs before hval0 hW hcnd hsz0 _
  have hval : ∀ (j : Nat) t v, Try.f7.params[j]? = some t → args[j]? = some v → Value.okWide Try.prog W .any base t v := hval0
  have hW' := hW
  obtain ⟨p, q, hA0, hV, rfl, hfz, hnd⟩ := hW
  have hA : DataW.TrodAll enc Try.prog W 0 (fun _ => true) true Try.f7.params.toList args.toList ds p := hA0
  have hsz : (DataW.weightsEach Try.prog (Try.f7.params.toList ++ Rows.octetTextsSpec.plain.varTypes Try.prog) (ds ++ gs)).all (· ≤ reachBytes) = true := hsz0
  rw [Try.params7] at hA hval hsz
  obtain ⟨v0, vs0, d0, ds0, p0, q0, hargs, rfl, rfl, h0, r0⟩ := trodAll_cons hA
  obtain ⟨v1, vs1, d1, ds1, p1, q1, rfl, rfl, rfl, h1, r1⟩ := trodAll_cons r0
  obtain ⟨rfl, rfl, rfl⟩ := trodAll_nil r1
  obtain rfl : args = #[v0, v1] := by cases args; simp_all
  obtain ⟨rfl, rfl⟩ := trodVars_none hV
  obtain ⟨a0, rfl, rfl, rfl, w0⟩ := open_string Try.underlying9 (hval 0 9 v0 rfl rfl) h0
  obtain ⟨a1, rfl, rfl, rfl, w1⟩ := open_string Try.underlying9 (hval 1 9 v1 rfl rfl) h1
  have z0 : a0.size ≤ 140737488351232 := sized_string hsz (j := 0) (t := 9) rfl rfl
  have z1 : a1.size ≤ 140737488351232 := sized_string hsz (j := 1) (t := 9) rfl rfl
  clear hA0 hval0
  simp only [List.append_nil] at hW'
  refine (walk a0 a1 z0 z1 W).mono fun e W' ⟨he, bel⟩ => ?_
  subst he
  exact ⟨_, rfl, _, _, _, [], _, [], hW', trodAll_mk1 (shut_bool Try.underlying4 _), (trodAll_cons_mk (shut_string Try.underlying9 w0) (trodAll_cons_mk (shut_string Try.underlying9 w1) trodAll_mk0)), rfl, bel.frame _, fun h => by cases h⟩

theorem over : Rows.octetTextsRow.holds Try.pinned (OpenSpec.ofChange Rows.octetTextsSpec) :=
  OpenClaim.holds_of_wide 7 Try.f7 rfl rfl rfl rfl rfl rfl rfl ⟨rfl, rfl, rfl, rfl, rfl⟩ rfl rfl rfl rfl rfl (by kernel_rfl) Try.func7 (by kernel_rfl)
    (of_decide_eq_true (by kernel_rfl)) (by unfold Func.isWrapper; first | (rw [if_pos (by decide +kernel)]; kernel_rfl) | (rw [if_neg (by decide +kernel)]; exact ⟨rfl, rfl⟩))
    (fun os started H enc _ => lifted os started H enc)

theorem proved : Rows.OctetTextsSaid := over

end Go.Proofs.Ytfdclifdemajfaa.octetTexts
