/- The reference's IsName of layer 17. -/
import Derived.Test.YtfdclifdemajfaaDoorPathLaws
namespace Go.Proofs.YtfdclifdemajfaaDoor.Path
open Go.RowKit
open Oct
set_option linter.unusedVariables false

set_option maxRecDepth 100000 in
set_option maxHeartbeats 400000 in
theorem rname_long (s : ByteArray) (w : World) (hs : s.size ≤ maxLen) (h : 27 < s.size) :
    Calls Tryd.prog 55 #[.string s] w fun e w' => e = .returned (.bool false) ∧ w = w' := by
  unfold maxLen at hs
  have t0 : decide (s.size < 1) = false := decide_eq_false (by omega)
  have t0' : decide ((s.size : Int) < 1) = false := decide_eq_false (by omega)
  have t1 : decide (27 < (s.size : Int)) = true := by simp; omega
  go_enter Tryd.func55, Tryd.ntmps55
  go_wp2
  go_ret
  exact ⟨rfl, rfl⟩
set_option maxRecDepth 100000 in
set_option maxHeartbeats 400000 in
theorem rname_empty (w : World) :
    Calls Tryd.prog 55 #[.string ⟨#[]⟩] w fun e w' => e = .returned (.bool false) ∧ w = w' := by
  go_enter Tryd.func55, Tryd.ntmps55
  go_wp2
  go_ret
  exact ⟨rfl, rfl⟩
set_option maxRecDepth 100000 in
set_option maxHeartbeats 400000 in
theorem rname_dot (w : World) :
    Calls Tryd.prog 55 #[.string ⟨#[46]⟩] w fun e w' => e = .returned (.bool false) ∧ w = w' := by
  go_enter Tryd.func55, Tryd.ntmps55
  go_wp2
  go_ret
  exact ⟨rfl, rfl⟩
set_option maxRecDepth 100000 in
set_option maxHeartbeats 400000 in
theorem rname_dots (w : World) :
    Calls Tryd.prog 55 #[.string ⟨#[46, 46]⟩] w fun e w' => e = .returned (.bool false) ∧ w = w' := by
  go_enter Tryd.func55, Tryd.ntmps55
  go_wp2
  go_ret
  exact ⟨rfl, rfl⟩

theorem any_take_succ (s : ByteArray) (k : Nat) (h : k < s.size) : ((L s).take (k + 1)).any badC = (((L s).take k).any badC || badC s[k]) := by
  have h2 : k < (L s).length := by rw [len_L]; exact h
  rw [List.take_succ_eq_append_getElem h2, List.any_append]
  simp only [List.any_cons, List.any_nil, Bool.or_false]
  rfl
theorem any_hit (s : ByteArray) (k : Nat) (h : k < s.size) (hb : badC s[k] = true) : (L s).any badC = true :=
  List.any_eq_true.2 ⟨s[k], by
    have h2 : k < (L s).length := by rw [len_L]; exact h
    exact List.getElem_mem h2, hb⟩

set_option maxRecDepth 100000 in
set_option maxHeartbeats 400000 in
theorem rname_full (s : ByteArray) (w : World) (h0 : 0 < s.size) (h27 : s.size ≤ 27) (h1 : (s.toList == [46]) = false) (h2 : (s.toList == [46, 46]) = false) (b : Bool) (hb : Hid ((L s).any badC = b)) :
    Calls Tryd.prog 55 #[.string s] w fun e w' => e = .returned (.bool (!b)) ∧ w = w' := by
  have t0 : decide (s.size < 1) = false := decide_eq_false (by omega)
  have t0' : decide ((s.size : Int) < 1) = false := decide_eq_false (by omega)
  have t1 : decide (27 < (s.size : Int)) = false := by simp; omega
  go_enter Tryd.func55, Tryd.ntmps55
  go_wp2
  go_loop [3] (fun i => ∃ k : Nat, k ≤ s.size ∧ i = .int .i64 k ∧ Hid (((L s).take k).any badC = false)) (fun i => s.size - (intOf i).toNat)
  case atStart => exact ⟨0, Nat.zero_le _, rfl, Lib.hid (by simp)⟩
  case round =>
    obtain ⟨k, hk, rfl, HT⟩ := hrel
    by_cases hlt : k < s.size
    · by_cases c1 : s[k] = 47
      · have HB : Hid (b = true) := Lib.hid (by rw [← hb.out]; exact any_hit s k hlt (by rw [c1]; rfl))
        have q1 : ((s[k].toNat : Int) == 47) = true := by rw [c1]; rfl
        clear c1
        go_wp2
        go_ret
        exact ⟨by rw [HB.out]; rfl, rfl⟩
      · have q1 : ((s[k].toNat : Int) == 47) = false := by
          simp only [beq_eq_false_iff_ne, ne_eq]
          exact fun e => c1 (UInt8.toNat_inj.1 (by simpa using Int.ofNat.inj e))
        by_cases c2 : s[k] = 0
        · have HB : Hid (b = true) := Lib.hid (by rw [← hb.out]; exact any_hit s k hlt (by rw [c2]; rfl))
          have q2 : ((s[k].toNat : Int) == 0) = true := by rw [c2]; rfl
          clear c1 c2
          go_wp2
          go_ret
          exact ⟨by rw [HB.out]; rfl, rfl⟩
        · have q2 : ((s[k].toNat : Int) == 0) = false := by
            simp only [beq_eq_false_iff_ne, ne_eq]
            exact fun e => c2 (UInt8.toNat_inj.1 (by simpa using Int.ofNat.inj e))
          have HN : Hid (((L s).take (k + 1)).any badC = false) := Lib.hid (by
            rw [any_take_succ s k hlt, HT.out]
            unfold badC
            simp [c1, c2])
          clear c1 c2
          go_wp2
          go_round
          case rel => exact ⟨k + 1, by omega, by go_num, HN⟩
          case measure => simp [intOf]; omega
    · have HB : Hid (b = false) := Lib.hid (by
        rw [← hb.out]
        have := HT.out
        rw [List.take_of_length_le (by rw [len_L]; omega)] at this
        exact this)
      go_wp2
      go_ret
      exact ⟨by rw [HB.out]; rfl, rfl⟩

/-- The reference's IsName, whatever the text. -/
theorem rname_any (s : ByteArray) (w : World) (hs : s.size ≤ maxLen) :
    Calls Tryd.prog 55 #[.string s] w fun e w' => e = .returned (.bool (isName (L s))) ∧ w = w' := by
  have hl := len_L s
  by_cases h0 : s.size = 0
  · rw [is_empty h0]; exact rname_empty w
  · by_cases h27 : 27 < s.size
    · have e : isName (L s) = false := by
        unfold isName
        have : decide ((L s).length ≤ 27) = false := by simp; omega
        rw [this]; simp
      rw [e]
      exact rname_long s w hs h27
    · by_cases h1 : L s = [46]
      · have e : s = ⟨#[46]⟩ := L_inj h1
        rw [e]; exact rname_dot w
      · by_cases h2 : L s = [46, 46]
        · have e : s = ⟨#[46, 46]⟩ := L_inj h2
          rw [e]; exact rname_dots w
        · have h := rname_full s w (by omega) (by omega) (by rw [toList_L]; simpa using h1) (by rw [toList_L]; simpa using h2) _ (Lib.hid rfl)
          have e : isName (L s) = !(L s).any badC := by
            unfold isName
            rw [all_not_any]
            have a1 : decide (1 ≤ (L s).length) = true := by simp; omega
            have a2 : decide ((L s).length ≤ 27) = true := by simp; omega
            have a3 : (L s == [46]) = false := by simpa using h1
            have a4 : (L s == [46, 46]) = false := by simpa using h2
            rw [a1, a2, a3, a4]
            cases (L s).any badC <;> rfl
          rw [e]
          exact h
end Go.Proofs.YtfdclifdemajfaaDoor.Path
