/- The walk of lunettelaw01.alive: it returns true. -/
import Derived.Test.YtfdclifdemajfaaOctetSplit
import Derived.Test.YtfdclifdemajfaaOctetPad
namespace Go.Proofs.Ytfdclifdemajfaa.Oct
set_option linter.unusedVariables false
open Go.RowKit

theorem ex_num (w : World) : Calls Try.prog 18 #[.int .u64 258, .int .i64 2] w fun e w' => e = .returned (.tuple #[.string ⟨#[2, 1]⟩, .int .i64 0]) ∧ Below w.heap.size w w' := by
  have h := num_ok 258 2 w (by decide) (by decide)
  rw [show B (numL 258 2) = ⟨#[2, 1]⟩ from by decide +kernel] at h
  exact h
theorem ex_num2 (w : World) : Calls Try.prog 18 #[.int .u64 256, .int .i64 1] w fun e w' => e = .returned (.tuple #[.string ⟨#[]⟩, .int .i64 2]) ∧ w = w' :=
  num_big 256 1 w (by decide) (by decide) (by decide)
theorem ex_get (w : World) : Calls Try.prog 20 #[.string ⟨#[2, 1]⟩] w fun e w' => e = .returned (.tuple #[.int .u64 258, .int .i64 0]) ∧ w = w' := by
  have h := get_ok ⟨#[2, 1]⟩ w (by decide)
  rw [show valL (L ⟨#[2, 1]⟩) = 258 from by decide +kernel] at h
  exact h
theorem ex_get2 (w : World) : Calls Try.prog 20 #[.string ⟨#[]⟩] w fun e w' => e = .returned (.tuple #[.int .u64 0, .int .i64 0]) ∧ w = w' := by
  have h := get_ok ⟨#[]⟩ w (by decide)
  rw [show valL (L ⟨#[]⟩) = 0 from by decide +kernel] at h
  exact h
def abcde : List ByteArray := [⟨#[97, 98]⟩, ⟨#[99, 100]⟩, ⟨#[101]⟩]
def AbcdePost (w : World) (e : Ending) (w' : World) : Prop :=
  ∃ v, e = .returned (.tuple #[v, .int .i64 0]) ∧ Strs w' v abcde ∧ Below w.heap.size w w'
theorem ex_split (w : World) : Calls Try.prog 28 #[.string ⟨#[97, 98, 99, 100, 101]⟩, .int .i64 2] w (AbcdePost w) := by
  have h := split_ok ⟨#[97, 98, 99, 100, 101]⟩ 2 w (by decide) (by decide) (by decide)
  refine h.mono ?_
  rintro e w' ⟨v, he, hs, hb⟩
  rw [show (chunks 2 (L ⟨#[97, 98, 99, 100, 101]⟩)).map B = abcde from by decide +kernel] at hs
  exact ⟨v, he, hs, hb⟩
theorem ex_pad (w : World) : Calls Try.prog 22 #[.string ⟨#[97]⟩, .int .i64 3] w fun e w' => e = .returned (.tuple #[.string ⟨#[97, 0, 0]⟩, .int .i64 0]) ∧ Below w.heap.size w w' := by
  have h := pad_ok ⟨#[97]⟩ 3 w (by decide) (by decide)
  rw [show padB ⟨#[97]⟩ 3 = ⟨#[97, 0, 0]⟩ from by decide +kernel] at h
  exact h
theorem ex_bare (w : World) : Calls Try.prog 24 #[.string ⟨#[97, 0, 98, 0, 0]⟩] w fun e w' => e = .returned (.string ⟨#[97, 0, 98]⟩) ∧ w = w' := by
  have h := bare_ok ⟨#[97, 0, 98, 0, 0]⟩ w (by decide)
  rw [show B (bareL (L ⟨#[97, 0, 98, 0, 0]⟩)) = ⟨#[97, 0, 98]⟩ from by decide +kernel] at h
  exact h

/-- '[]string{..}' laid by the call. -/
theorem strs_built (w : World) (ps : List ByteArray) (hl : ps.length ≤ 8796093022208) : Strs (w.alloc (.cells (ps.map Value.string).toArray 9)) (.slice (some ⟨w.heap.size, 0, none⟩) ps.length ps.length) ps := by
  refine .inr (.inl ⟨w.heap.size, 0, ps.length, rfl, ⟨hl, Nat.le_refl _⟩, by simp, fun j h => ?_⟩)
  rw [Nat.zero_add]
  have := (World.rowIs_alloc w (ps.map Value.string).toArray 9 (fun i => ((ps.map Value.string)[i]?).getD undef) (fun i hi => by simp at hi; simp [hi])).cell (i := j) (by simpa using h)
  rw [this]
  simp [h]

set_option maxRecDepth 100000 in
set_option maxHeartbeats 1000000 in
theorem alive01 (w : World) : Calls Try.prog 17 #[] w fun e w' => e = .returned (.bool true) ∧ Below w.heap.size w w' := by
  go_enter Try.func17, Try.ntmps17
  go_wp2_with fail
  refine (ex_num _).mono ?_
  rintro e w1 ⟨rfl, b1⟩
  go_wp2_with fail
  refine (ex_num2 _).mono ?_
  rintro e _ ⟨rfl, rfl⟩
  go_wp2_with fail
  refine (ex_get _).mono ?_
  rintro e _ ⟨rfl, rfl⟩
  go_wp2_with fail
  refine (ex_get2 _).mono ?_
  rintro e _ ⟨rfl, rfl⟩
  go_wp2_with fail
  refine (ex_split _).mono ?_
  rintro e w2 ⟨v, rfl, hv, b2⟩
  go_wp2_with fail
  refine (ex_pad _).mono ?_
  rintro e w3 ⟨rfl, b3⟩
  have hv3 := Lib.hid (hv.below b3)
  clear hv
  go_wp2_with fail
  refine (same_ok _ _ abcde _ (hv3.out.below ((Below.refl _ _).alloc (Nat.le_refl _) _)) (strs_built w3 abcde (by decide))).mono ?_
  rintro e w4 ⟨rfl, b4⟩
  have b34 : Below w3.heap.size w3 w4 := ((Below.refl _ w3).alloc (Nat.le_refl _) _).trans (b4.mono (by simp))
  clear b4
  go_wp2_with fail
  refine (ex_bare _).mono ?_
  rintro e _ ⟨rfl, rfl⟩
  go_wp2
  go_ret
  exact ⟨rfl, b1.trans ((b2.trans ((b3.trans (b34.mono b3.size)).mono b2.size)).mono b1.size)⟩
end Go.Proofs.Ytfdclifdemajfaa.Oct
