/- Layer 6 (bits): Fill: a row of bits is set. -/
import Derived.Test.YtpnfkilfgdnogaaGreatDoorBitsIter
namespace Go.Proofs.YtpnfkilfgdnogaaGreatDoor
set_option linter.unusedVariables false
set_option linter.unusedSimpArgs false
open Go.RowKit Go.Shelf
def fillN (s : ByteArray) (on : Bool) (f : Nat) : Nat → ByteArray
  | 0 => s
  | n + 1 => setB (fillN s on f n) (f + n) on
theorem fillN_size (s : ByteArray) (on : Bool) (f : Nat) : ∀ n, (fillN s on f n).size = s.size
  | 0 => rfl
  | n + 1 => by rw [fillN, size_setB, fillN_size s on f n]
set_option maxRecDepth 100000 in
set_option maxHeartbeats 1000000 in
theorem fill_any (s : ByteArray) (f t : Nat) (on : Bool) (w : World) (hs : s.size ≤ 1099511627776) (hft : f ≤ t) (ht : t ≤ 8 * s.size) :
    Calls Tryz.prog 95 #[.string s, .int .i64 f, .int .i64 t, .bool on] w fun e w' => e = .returned (.tuple #[.string (fillN s on f (t - f)), .int .i64 0]) ∧ Below w.heap.size w w' := by
  have t1 : decide ((f : Int) < 0) = false := by simp
  have t2 : decide ((t : Int) < (f : Int)) = false := by simp; omega
  have t4 : decide (t < f) = false := by simp; omega
  have t5 : decide (8 * s.size < t) = false := by simp; omega
  have t3 : decide (8 * (s.size : Int) < (t : Int)) = false := by simp; omega
  go_enter Tryz.func95, Tryz.ntmps95
  go_wp2_with fail
  go_loopw [0, 10] (fun v c wr => ∃ m : Nat, f + m ≤ t ∧ c = .int .i64 ((f + m : Nat) : Int) ∧ v = .string (fillN s on f m) ∧ Below w.heap.size w wr) (fun _ c _ => t - (intOf c).toNat)
  case atStart => exact ⟨0, by omega, rfl, rfl, Below.refl _ _⟩
  case round =>
    obtain ⟨m, hm, rfl, rfl, hB⟩ := hrel
    by_cases hlt : f + m < t
    · have q1 : ((f + m : Nat) : Int) < t := by omega
      have hz := fillN_size s on f m
      have SE := Lib.hid (fun W => set_yes (fillN s on f m) (f + m) on W (by omega) (by omega))
      have E := Lib.hid (show setB (fillN s on f m) (f + m) on = fillN s on f (m + 1) from rfl)
      generalize fillN s on f m = s0 at *
      have HB := Lib.hid hB
      generalize hq : f + m = q at *
      go_wp2_with fail
      refine (SE.out _).mono ?_
      rintro e w1 ⟨rfl, b1⟩
      go_wp2_with fail
      exact ⟨⟨m + 1, by omega, by (congr 1; omega), by rw [E.out], HB.out.trans (b1.mono HB.out.size)⟩, by simp [intOf]; omega⟩
    · obtain rfl : m = t - f := by omega
      have q1 : ¬ ((f + (t - f) : Nat) : Int) < t := by omega
      go_wp2
      go_ret2
      exact ⟨rfl, hB⟩
end Go.Proofs.YtpnfkilfgdnogaaGreatDoor
