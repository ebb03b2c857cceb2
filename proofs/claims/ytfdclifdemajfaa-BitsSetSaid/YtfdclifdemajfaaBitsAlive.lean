/- The walk of lunettelaw06.alive: it returns true. -/
import Derived.Test.YtfdclifdemajfaaBitsIter
namespace Go.Proofs.Ytfdclifdemajfaa
open Go.RowKit

theorem ex_set (w : World) : Calls Try.prog 15 #[.string ⟨#[0, 0]⟩, .int .i64 9, .bool true] w fun e w' => e = .returned (.tuple #[.string ⟨#[0, 2]⟩, .int .i64 0]) ∧ Below w.heap.size w w' := by
  have h := set_yes ⟨#[0, 0]⟩ 9 true w (by decide) (by decide)
  rw [show setB ⟨#[0, 0]⟩ 9 true = ⟨#[0, 2]⟩ from by decide +kernel] at h
  exact h
theorem ex_get (w : World) : Calls Try.prog 16 #[.string ⟨#[0, 2]⟩, .int .i64 9] w fun e w' => e = .returned (.tuple #[.bool true, .int .i64 0]) ∧ w = w' := by
  have h := get_yes ⟨#[0, 2]⟩ 9 w (by decide) (by decide)
  rw [show bitB ⟨#[0, 2]⟩ 9 = true from by decide +kernel] at h
  exact h
theorem ex_get2 (w : World) : Calls Try.prog 16 #[.string ⟨#[97]⟩, .int .i64 8] w fun e w' => e = .returned (.tuple #[.bool false, .int .i64 2]) ∧ w = w' :=
  get_no ⟨#[97]⟩ 8 w (by decide) (by decide)
theorem ex_least (w : World) : Calls Try.prog 57 #[.string ⟨#[7]⟩, .int .i64 8, .bool false] w fun e w' => e = .returned (.tuple #[.int .i64 3, .bool true]) ∧ Below w.heap.size w w' := by
  have h := least_any ⟨#[7]⟩ 8 false w (by decide)
  rw [show leastB ⟨#[7]⟩ 8 false = (3, true) from by decide +kernel] at h
  exact h
theorem ex_least2 (w : World) : Calls Try.prog 57 #[.string ⟨#[255]⟩, .int .i64 20, .bool false] w fun e w' => e = .returned (.tuple #[.int .i64 0, .bool false]) ∧ Below w.heap.size w w' := by
  have h := least_any ⟨#[255]⟩ 20 false w (by decide)
  rw [show leastB ⟨#[255]⟩ 20 false = (0, false) from by decide +kernel] at h
  exact h
theorem ex_count (w : World) : Calls Try.prog 58 #[.string ⟨#[255, 1]⟩, .int .i64 9] w fun e w' => e = .returned (.int .i64 9) ∧ Below w.heap.size w w' := by
  have h := count_any ⟨#[255, 1]⟩ 9 w (by decide)
  rw [show countB ⟨#[255, 1]⟩ 9 = 9 from by decide +kernel] at h
  exact h

set_option maxRecDepth 100000 in
set_option maxHeartbeats 1000000 in
theorem alive06 (w : World) : Calls Try.prog 14 #[] w fun e w' => e = .returned (.bool true) ∧ Below w.heap.size w w' := by
  go_enter Try.func14, Try.ntmps14
  go_wp2_with fail
  refine (ex_set _).mono ?_
  rintro e w1 ⟨rfl, b1⟩
  go_wp2_with fail
  refine (ex_get _).mono ?_
  rintro e _ ⟨rfl, rfl⟩
  go_wp2_with fail
  refine (ex_least _).mono ?_
  rintro e w2 ⟨rfl, b2⟩
  go_wp2_with fail
  refine (ex_least2 _).mono ?_
  rintro e w3 ⟨rfl, b3⟩
  go_wp2_with fail
  refine (ex_get2 _).mono ?_
  rintro e _ ⟨rfl, rfl⟩
  go_wp2_with fail
  refine (ex_count _).mono ?_
  rintro e w4 ⟨rfl, b4⟩
  go_wp2
  go_ret
  exact ⟨rfl, b1.trans ((b2.trans ((b3.trans (b4.mono b3.size)).mono b2.size)).mono b1.size)⟩
end Go.Proofs.Ytfdclifdemajfaa
