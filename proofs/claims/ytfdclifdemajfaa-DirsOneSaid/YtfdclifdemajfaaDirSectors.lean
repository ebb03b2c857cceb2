/- Layer 10: in how many sectors two texts differ. -/
import Derived.Test.YtfdclifdemajfaaDirLong
namespace Go.Proofs.Ytfdclifdemajfaa.Dir
set_option linter.unusedVariables false
set_option linter.unusedSimpArgs false
open Go.RowKit Go.Shelf Oct Path
def secN (a b : ByteArray) : Nat → Nat
  | 0 => 0
  | j + 1 => secN a b j + if a.extract (64 * j) (64 * j + 64) = b.extract (64 * j) (64 * j + 64) then 0 else 1
theorem secN_le (a b : ByteArray) : ∀ j, secN a b j ≤ j
  | 0 => Nat.le_refl _
  | j + 1 => by
    have := secN_le a b j
    unfold secN
    split <;> omega
set_option maxRecDepth 100000 in
set_option maxHeartbeats 1000000 in
theorem sectors_row (a b : ByteArray) (w : World) (hab : a.size = b.size) (hs : a.size ≤ 8192) :
    Calls Try.prog 52 #[.string a, .string b] w fun e w' => e = .returned (.int .i64 (secN a b (a.size / 64))) ∧ Below w.heap.size w w' := by
  have HE : Hid (b.size = a.size) := Lib.hid hab.symm
  have z1 : ((a.size : Int) != (b.size : Int)) = false := by rw [hab]; simp
  have z2 : decide ((a.size : Int) = (b.size : Int)) = true := by rw [hab]; simp
  have z3 : ((a.size : Int) == (b.size : Int)) = true := by rw [hab]; simp
  clear hab
  go_enter Try.func52, Try.ntmps52
  go_wp2
  go_loopw [5, 6] (fun n i wr => ∃ m p : Nat, p = 64 * m ∧ p ≤ a.size ∧ i = .int .i64 p ∧ n = .int .i64 (secN a b m) ∧ Below w.heap.size w wr) (fun _ i _ => a.size + 64 - (intOf i).toNat)
  case atStart => exact ⟨0, 0, rfl, Nat.zero_le _, rfl, rfl, Below.refl _ _⟩
  case round =>
    obtain ⟨m, p, hp, hle, rfl, rfl, hB⟩ := hrel
    by_cases hlt : p + 64 ≤ a.size
    · have hle2 := secN_le a b m
      obtain ⟨q, hq⟩ : ∃ q, secN a b m = q := ⟨_, rfl⟩
      have HQ : Hid (secN a b m = q) := Lib.hid hq
      have hN : secN a b (m + 1) = q + if a.extract p (p + 64) = b.extract p (p + 64) then 0 else 1 := by rw [hp, ← hq]; rfl
      rw [hq] at hle2
      rw [hq]
      have HN := Lib.hid hN
      have HP := Lib.hid hp
      have hE := HE.out
      have q0 : (0 : Int) ≤ (p : Int) := by omega
      have q1 : (p : Int) ≤ (p : Int) + 64 := by omega
      have q2 : (p : Int) + 64 ≤ (a.size : Int) := by omega
      have q3 : (p : Int) + 64 ≤ (b.size : Int) := by omega
      have q4 : p + 64 ≤ b.size := by omega
      have q5 : q ≤ 8192 := by omega
      clear hq hN hp hE
      by_cases hx : a.extract p (p + 64) = b.extract p (p + 64)
      · have HS : Hid (secN a b (m + 1) = q) := Lib.hid (by rw [HN.out, if_pos hx]; rfl)
        go_wp2
        go_quiet (fail)
        go_wp2
        go_round
        case rel => exact ⟨m + 1, p + 64, by have := HP.out; omega, hlt, by go_num, by rw [HS.out], hB.trans (Oct.below_drewN _ _ _)⟩
        case measure => simp [intOf]; omega
      · have HS : Hid (secN a b (m + 1) = q + 1) := Lib.hid (by rw [HN.out, if_neg hx])
        have u1 : ((a.extract p (p + 64)).toList == (b.extract p (p + 64)).toList) = false := by
          rw [toList_L, toList_L]
          simpa using fun e => hx (L_inj e)
        go_wp2
        go_quiet (fail)
        go_wp2
        go_round
        case rel => exact ⟨m + 1, p + 64, by have := HP.out; omega, hlt, by go_num, by rw [HS.out]; go_num, hB.trans (Oct.below_drewN _ _ _)⟩
        case measure => simp [intOf]; omega
    · have HM : Hid (a.size / 64 = m) := Lib.hid (by omega)
      have t1 : decide ((p : Int) + 64 ≤ (a.size : Int)) = false := by simp; omega
      clear hp
      go_wp2
      go_ret
      refine ⟨?_, hB⟩
      rw [HM.out]
      rfl
end Go.Proofs.Ytfdclifdemajfaa.Dir
