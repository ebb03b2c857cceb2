/- The walks of octet.Bare and Pad, and of the reference's. -/
import Derived.Test.YtfdclifdemajfaaOctetCut
import Derived.Test.YtfdclifdemajfaaShelf
import Derived.WalkMore
namespace Go.Proofs.Ytfdclifdemajfaa.Oct
set_option linter.unusedVariables false
open Go.RowKit

theorem at_L (s : ByteArray) (j : Nat) (h : j < s.size) : (L s)[j]'(by rw [len_L]; exact h) = s[j] := rfl
theorem u8_zero {b : UInt8} (h : b.toNat = 0) : b = 0 := UInt8.toNat_inj.1 (by simpa using h)

/-- All from k on are nought. -/
def Noughts (s : ByteArray) (k : Nat) : Prop := ∀ j (h : j < s.size), k ≤ j → s[j] = 0
theorem bare_of (s : ByteArray) (k : Nat) (hk : k ≤ s.size) (hz : Noughts s k) (hl : k = 0 ∨ ∃ h : k - 1 < s.size, s[k - 1].toNat ≠ 0) : B ((L s).take k) = B (bareL (L s)) := by
  have e : k = bareN (L s) := isBare_unique (l := L s) ⟨by rw [len_L]; exact hk, fun j h h2 => by
    rw [len_L] at h
    exact hz j h h2, by
    rcases hl with hl | ⟨h, hl⟩
    · exact .inl hl
    · refine .inr ⟨by rw [len_L]; exact h, fun e => hl ?_⟩
      have : s[k - 1] = 0 := e
      rw [this]; rfl⟩ (isBare_bareN _)
  rw [e]
  rfl
theorem noughts_step {s : ByteArray} {k : Nat} (hz : Noughts s k) (h : k - 1 < s.size) (e : s[k - 1].toNat = 0) : Noughts s (k - 1) := fun j hj h2 => by
  by_cases q : j = k - 1
  · subst q; exact u8_zero e
  · exact hz j hj (by omega)

set_option maxRecDepth 100000 in
set_option maxHeartbeats 400000 in
theorem bare_ok (s : ByteArray) (w : World) (hs : s.size ≤ maxLen) :
    Calls Try.prog 24 #[.string s] w fun e w' => e = .returned (.string (B (bareL (L s)))) ∧ w = w' := by
  unfold maxLen at hs
  go_enter Try.func24, Try.ntmps24
  go_wp2
  go_step3
  go_wp2
  go_step3
  go_wp2
  go_loop [3] (fun i => ∃ k : Nat, k ≤ s.size ∧ i = .int .i64 k ∧ Noughts s k) (fun i => (intOf i).toNat)
  case atStart => exact ⟨s.size, Nat.le_refl _, rfl, fun j h h2 => by omega⟩
  case round =>
    obtain ⟨k, hk, rfl, hz⟩ := hrel
    by_cases h0 : 0 < k
    · have hk1 : k - 1 < s.size := by omega
      have d1 : ((k : Int) - 1).toNat = k - 1 := by omega
      by_cases hb : s[k - 1].toNat = 0
      · have hb' : ((s[k - 1].toNat : Int) != 0) = false := by simp; exact hb
        have HN := Lib.hid (noughts_step hz hk1 hb)
        clear hb hz
        go_wp2
        go_round
        case rel => exact ⟨k - 1, by omega, by congr 1; omega, HN.out⟩
        case measure => simp [intOf]; omega
      · have hb' : ((s[k - 1].toNat : Int) != 0) = true := by simp; exact hb
        have HE := Lib.hid (bare_of s k hk hz (.inr ⟨hk1, hb⟩))
        have HF := Lib.hid (ex_front s k)
        clear hb hz
        go_wp2
        rw [Exit.noGoto_ret]
        go_ret
        refine ⟨?_, rfl⟩
        rw [← HE.out, ← HF.out]
        rfl
    · obtain rfl : k = 0 := by omega
      have HE := Lib.hid (bare_of s 0 hk hz (.inl rfl))
      clear hz
      go_wp2
      go_ret
      refine ⟨?_, rfl⟩
      rw [← HE.out]
      rfl

theorem take_size (s : ByteArray) (k : Nat) (hk : k ≤ s.size) : (B ((L s).take k)).size = k := by rw [size_B, List.length_take, len_L]; omega
theorem take_get (s : ByteArray) (k j : Nat) (hk : k ≤ s.size) (hj : j < k) (h1 : j < (B ((L s).take k)).size) (h2 : j < s.size) : (B ((L s).take k))[j] = s[j] := by
  have e : ((L s).take k)[j]'(by rw [List.length_take, len_L]; omega) = (L s)[j]'(by rw [len_L]; exact h2) := List.getElem_take
  exact e

set_option maxRecDepth 100000 in
set_option maxHeartbeats 400000 in
theorem rbare_ok (s : ByteArray) (w : World) (hs : s.size ≤ maxLen) :
    Calls Try.prog 25 #[.string s] w fun e w' => e = .returned (.string (B (bareL (L s)))) ∧ w = w' := by
  unfold maxLen at hs
  go_enter Try.func25, Try.ntmps25
  go_wp2
  go_loop [0] (fun v => ∃ (t : ByteArray) (k : Nat), v = .string t ∧ Hid (t = B ((L s).take k)) ∧ k ≤ s.size ∧ Noughts s k) (fun v => match v with | .string t => t.size | _ => 0)
  case atStart => exact ⟨s, s.size, rfl, Lib.hid (by rw [List.take_of_length_le (by rw [len_L]; exact Nat.le_refl _), B_L]), Nat.le_refl _, fun j h h2 => by omega⟩
  case round =>
    obtain ⟨t, k, rfl, HT, hk, hz⟩ := hrel
    have zt : t.size = k := by rw [HT.out]; exact take_size s k hk
    have z1 : t.size ≤ k := by omega
    have z2 : k ≤ t.size := by omega
    by_cases h0 : 0 < k
    · have ht0 : 0 < t.size := by omega
      have hne := empty_no ht0
      have hk1 : k - 1 < s.size := by omega
      have hk2 : t.size - 1 < t.size := by omega
      have eb : t[t.size - 1] = s[k - 1] := by
        have e1 : t[t.size - 1] = t[k - 1]'(by omega) := by congr 1; omega
        rw [e1]
        have h2 := HT.out
        subst h2
        exact take_get s k (k - 1) hk (by omega) _ _
      clear zt
      have d1 : ((t.size : Int) - 1).toNat = t.size - 1 := by omega
      have EX := Lib.hid (show t.extract 0 (t.size - 1) = B ((L s).take (k - 1)) by
        rw [ex_front, HT.out, L_B, List.take_take, take_size s k hk]
        congr 2; omega)
      by_cases hb : t[t.size - 1].toNat = 0
      · have hb' : ((t[t.size - 1].toNat : Int) == 0) = true := by simp; exact hb
        have HN := Lib.hid (noughts_step hz hk1 (by rw [← eb]; exact hb))
        clear hb hz eb
        go_wp2
        refine ⟨⟨_, k - 1, rfl, EX, by omega, HN.out⟩, ?_⟩
        show (t.extract 0 (t.size - 1)).size < t.size
        rw [EX.out, take_size s (k - 1) (by omega)]
        omega
      · have hb' : ((t[t.size - 1].toNat : Int) == 0) = false := by simp; exact hb
        have HE := Lib.hid (bare_of s k hk hz (.inr ⟨hk1, by rw [← eb]; exact hb⟩))
        clear hb hz eb
        go_wp2
        go_ret
        refine ⟨?_, rfl⟩
        rw [← HE.out, ← HT.out]
        rfl
    · obtain rfl : k = 0 := by omega
      have HE := Lib.hid (bare_of s 0 hk hz (.inl rfl))
      have et : t = ⟨#[]⟩ := is_empty zt
      subst et
      clear hz
      go_wp2
      go_ret
      refine ⟨?_, rfl⟩
      rw [← HE.out]
      rfl

def padB (s : ByteArray) (n : Nat) : ByteArray := B (L s ++ List.replicate (n - s.size) 0)
theorem repeat_zero : ∀ c : Nat, Lib.repeatL [0] c = List.replicate c (0 : UInt8)
  | 0 => rfl
  | c + 1 => by rw [Lib.repeatL, repeat_zero c]; rfl
theorem pad_join (s : ByteArray) (n : Nat) : s ++ ⟨(List.replicate (n - s.size) (0 : UInt8)).toArray⟩ = padB s n := by
  rw [append_B]; rfl

set_option maxRecDepth 100000 in
set_option maxHeartbeats 400000 in
theorem pad_arg (s : ByteArray) (n : Int) (w : World) (h : n < 0 ∨ 65536 < n) :
    Calls Try.prog 22 #[.string s, .int .i64 n] w fun e w' => e = .returned (.tuple #[.string ⟨#[]⟩, .int .i64 2]) ∧ w = w' := by
  rcases h with h | h
  · go_enter Try.func22, Try.ntmps22
    go_wp2
    go_ret2
    exact ⟨rfl, rfl⟩
  · have t1 : decide (n < 0) = false := by simp; omega
    go_enter Try.func22, Try.ntmps22
    go_wp2
    go_ret2
    exact ⟨rfl, rfl⟩
set_option maxRecDepth 100000 in
set_option maxHeartbeats 400000 in
theorem pad_long (s : ByteArray) (n : Nat) (w : World) (hs : s.size ≤ maxLen) (hn : n ≤ 65536) (h : n < s.size) :
    Calls Try.prog 22 #[.string s, .int .i64 n] w fun e w' => e = .returned (.tuple #[.string ⟨#[]⟩, .int .i64 5]) ∧ w = w' := by
  unfold maxLen at hs
  have t1 : decide ((n : Int) < 0) = false := by simp
  have t2 : decide (65536 < (n : Int)) = false := by simp; omega
  go_enter Try.func22, Try.ntmps22
  go_wp2
  go_ret2
  exact ⟨rfl, rfl⟩
set_option maxRecDepth 100000 in
set_option maxHeartbeats 400000 in
theorem pad_ok (s : ByteArray) (n : Nat) (w : World) (hn : n ≤ 65536) (h : s.size ≤ n) :
    Calls Try.prog 22 #[.string s, .int .i64 n] w fun e w' => e = .returned (.tuple #[.string (padB s n), .int .i64 0]) ∧ Below w.heap.size w w' := by
  have t1 : decide ((n : Int) < 0) = false := by simp
  have t2 : decide (65536 < (n : Int)) = false := by simp; omega
  go_enter Try.func22, Try.ntmps22
  go_wp2_with fail
  have e : ((n : Int) - (s.size : Int)) = ((n - s.size : Nat) : Int) := by omega
  rw [e]
  have hr := Try.strings_Repeat ⟨#[0]⟩ (n - s.size) w (by omega) (by
    have : (⟨#[0]⟩ : ByteArray).size = 1 := rfl
    rw [this]; omega)
  have e2 : Lib.repeatL (⟨#[0]⟩ : ByteArray).data.toList (n - s.size) = List.replicate (n - s.size) 0 := repeat_zero _
  rw [e2] at hr
  refine hr.mono ?_
  rintro e w1 ⟨rfl, b1⟩
  have EJ := Lib.hid (pad_join s n)
  have z : (⟨(List.replicate (n - s.size) (0 : UInt8)).toArray⟩ : ByteArray).size ≤ 65536 := by
    have := size_B (List.replicate (n - s.size) (0 : UInt8))
    unfold B at this
    rw [this, List.length_replicate]; omega
  generalize (⟨(List.replicate (n - s.size) (0 : UInt8)).toArray⟩ : ByteArray) = r at *
  have ER := Lib.hid e
  clear e
  go_wp2
  go_ret2
  refine ⟨?_, b1⟩
  rw [← EJ.out]
  rfl

set_option maxRecDepth 100000 in
set_option maxHeartbeats 400000 in
theorem rpad_arg (s : ByteArray) (n : Int) (w : World) (h : n < 0 ∨ 65536 < n) :
    Calls Try.prog 23 #[.string s, .int .i64 n] w fun e w' => e = .returned (.tuple #[.string ⟨#[]⟩, .int .i64 2]) ∧ w = w' := by
  rcases h with h | h
  · go_enter Try.func23, Try.ntmps23
    go_wp2
    go_ret2
    exact ⟨rfl, rfl⟩
  · have t1 : decide (n < 0) = false := by simp; omega
    go_enter Try.func23, Try.ntmps23
    go_wp2
    go_ret2
    exact ⟨rfl, rfl⟩
set_option maxRecDepth 100000 in
set_option maxHeartbeats 400000 in
theorem rpad_long (s : ByteArray) (n : Nat) (w : World) (hs : s.size ≤ maxLen) (hn : n ≤ 65536) (h : n < s.size) :
    Calls Try.prog 23 #[.string s, .int .i64 n] w fun e w' => e = .returned (.tuple #[.string ⟨#[]⟩, .int .i64 5]) ∧ w = w' := by
  unfold maxLen at hs
  have t1 : decide ((n : Int) < 0) = false := by simp
  have t2 : decide (65536 < (n : Int)) = false := by simp; omega
  go_enter Try.func23, Try.ntmps23
  go_wp2
  go_ret2
  exact ⟨rfl, rfl⟩
set_option maxRecDepth 100000 in
set_option maxHeartbeats 400000 in
theorem rpad_ok (s : ByteArray) (n : Nat) (w : World) (hn : n ≤ 65536) (h : s.size ≤ n) :
    Calls Try.prog 23 #[.string s, .int .i64 n] w fun e w' => e = .returned (.tuple #[.string (padB s n), .int .i64 0]) ∧ Below w.heap.size w w' := by
  have t1 : decide ((n : Int) < 0) = false := by simp
  have t2 : decide (65536 < (n : Int)) = false := by simp; omega
  have hmk := run_made (n - s.size) (by omega) w
  have e : ((n - s.size : Nat) : Int) = ((n : Int) - (s.size : Int)) := by omega
  rw [e] at hmk
  clear e
  have hback := run_back (w.alloc (.cells (madeCells #[.int .u8 0] (n - s.size)) 5)) w.heap.size (n - s.size) (List.replicate (n - s.size) 0) (fun _ => .int .u8 0) (by rw [List.length_replicate]; exact World.rowIs_made w _ _ _) (fun j hj => by simp)
  rw [List.length_replicate] at hback
  have EJ := Lib.hid (pad_join s n)
  have z : (B (List.replicate (n - s.size) 0)).size ≤ 65536 := by rw [size_B, List.length_replicate]; omega
  have EB := Lib.hid (show B (List.replicate (n - s.size) 0) = ⟨(List.replicate (n - s.size) (0 : UInt8)).toArray⟩ from rfl)
  rw [← EB.out] at EJ
  clear EB
  generalize B (List.replicate (n - s.size) 0) = r at *
  go_enter Try.func23, Try.ntmps23
  go_wp2
  go_ret2
  refine ⟨?_, (Below.refl _ _).alloc (Nat.le_refl _) _⟩
  rw [← EJ.out]
  rfl
end Go.Proofs.Ytfdclifdemajfaa.Oct
