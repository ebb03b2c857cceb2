/- Layer 10: the chapter's examples. -/
import Derived.Test.YtfdclifdemajfaaDirAdd
import Derived.Test.YtfdclifdemajfaaDirTrim
import Derived.Test.YtfdclifdemajfaaDirList
import Derived.BigGuard
namespace Go.Proofs.Ytfdclifdemajfaa.Dir
set_option linter.unusedVariables false
set_option linter.unusedSimpArgs false
open Go.RowKit Go.Shelf Oct Path
/-- The cells of a row of entries. -/
def RowAt (W : World) (b o : Nat) (es : List Ent) : Prop := ∀ j (h : j < es.length), W.cell? ⟨b, o + j * 2, none⟩ = some (.string (B (es[j]'h).1)) ∧ W.cell? ⟨b, o + j * 2 + 1, none⟩ = some (.int .u32 (es[j]'h).2)
set_option maxRecDepth 100000 in
set_option maxHeartbeats 400000 in
theorem same_row (x y ox oy c d : Nat) (es : List Ent) (hl : es.length ≤ 1000) (w : World) (hx : RowAt w x ox es) (hy : RowAt w y oy es) :
    Calls Try.prog 70 #[.slice (some ⟨x, ox, none⟩) es.length c, .slice (some ⟨y, oy, none⟩) es.length d] w fun e w' => e = .returned (.bool true) ∧ Below w.heap.size w w' := by
  have HX := Lib.hid hx
  have HY := Lib.hid hy
  clear hx hy
  go_enter Try.func70, Try.ntmps70
  go_wp2
  go_loopw [5] (fun i wr => ∃ k m : Nat, k ≤ es.length ∧ i = .int .i64 k ∧ wr = w.drewN m) (fun i _ => es.length - (intOf i).toNat)
  case atStart => exact ⟨0, 0, Nat.zero_le _, rfl, rfl⟩
  case round =>
    obtain ⟨k, m, hk, rfl, rfl⟩ := hrel
    by_cases hlt : k < es.length
    · obtain ⟨c1, c2⟩ := HX.out k hlt
      obtain ⟨c3, c4⟩ := HY.out k hlt
      obtain ⟨p, hp⟩ : ∃ p, es[k] = p := ⟨_, rfl⟩
      rw [hp] at c1 c2 c3 c4
      clear hp
      have q0 : (0 : Int) ≤ (k : Int) := by omega
      have q1 : (k : Int) < (es.length : Int) := by omega
      go_wp2
      go_quiet (fail)
      go_wp2
      exact ⟨⟨k + 1, m + nq, by omega, by go_num, rfl⟩, by simp [intOf]; omega⟩
    · go_wp2
      go_ret
      exact ⟨rfl, Oct.below_drewN _ _ _⟩
/-! ### The examples -/
theorem entCells_get : ∀ (es : List Ent) (j : Nat) (h : j < es.length), (entCells es)[j * 2]? = some (.string (B (es[j]'h).1)) ∧ (entCells es)[j * 2 + 1]? = some (.int .u32 (es[j]'h).2)
  | e :: es, 0, _ => ⟨rfl, rfl⟩
  | e :: es, j + 1, h => by
    have := entCells_get es j (by simpa using h)
    have e1 : entCells (e :: es) = .string (B e.1) :: .int .u32 e.2 :: entCells es := rfl
    rw [e1, show (j + 1) * 2 = j * 2 + 1 + 1 by omega, show j * 2 + 1 + 1 + 1 = (j * 2 + 1) + 1 + 1 by omega]
    simpa using this
theorem row_of_own {W : World} {base : Nat} {v : Value} {es : List Ent} (h : W.ownsRow base 73 2 v es.length (entCells es)) : (∃ c, v = .slice none 0 c ∧ es = []) ∨ ∃ g cap, v = .slice (some ⟨g, 0, none⟩) es.length cap ∧ base ≤ g ∧ g < W.heap.size ∧ RowAt W g 0 es := by
  rcases h.2 with ⟨rfl, e0⟩ | ⟨g, cap, cur, rfl, hb, hg, hc, hm, hs, ht⟩
  · exact .inl ⟨0, rfl, List.eq_nil_of_length_eq_zero e0⟩
  · refine .inr ⟨g, cap, rfl, hb, (Array.getElem?_eq_some_iff.1 hg).1, fun j hj => ?_⟩
    have hcell : ∀ i, W.cell? ⟨g, i, none⟩ = cur[i]? := fun i => by simp [World.cell?, hg]
    have key : ∀ i v, (entCells es)[i]? = some v → cur[i]? = some v := fun i v hi => by
      rw [← ht] at hi
      rw [List.getElem?_take] at hi
      split at hi
      · simpa using hi
      · cases hi
    obtain ⟨k1, k2⟩ := entCells_get es j hj
    exact ⟨by rw [Nat.zero_add, hcell]; exact key _ _ k1, by rw [Nat.zero_add, hcell]; exact key _ _ k2⟩

theorem x1 : addR [] [97] 5 = ([5, 0, 0, 0, 1, 97, 0, 0, 0, 0, 0, 0, 0, 0, 0, 0, 0, 0, 0, 0, 0, 0, 0, 0, 0, 0, 0, 0, 0, 0, 0, 0, 0, 0, 0, 0, 0, 0, 0, 0, 0, 0, 0, 0, 0, 0, 0, 0, 0, 0, 0, 0, 0, 0, 0, 0, 0, 0, 0, 0, 0, 0, 0, 0], 0) := by decide +kernel
theorem x2 : addR [5, 0, 0, 0, 1, 97, 0, 0, 0, 0, 0, 0, 0, 0, 0, 0, 0, 0, 0, 0, 0, 0, 0, 0, 0, 0, 0, 0, 0, 0, 0, 0, 0, 0, 0, 0, 0, 0, 0, 0, 0, 0, 0, 0, 0, 0, 0, 0, 0, 0, 0, 0, 0, 0, 0, 0, 0, 0, 0, 0, 0, 0, 0, 0] [98] 6 = ([5, 0, 0, 0, 1, 97, 0, 0, 0, 0, 0, 0, 0, 0, 0, 0, 0, 0, 0, 0, 0, 0, 0, 0, 0, 0, 0, 0, 0, 0, 0, 0, 6, 0, 0, 0, 1, 98, 0, 0, 0, 0, 0, 0, 0, 0, 0, 0, 0, 0, 0, 0, 0, 0, 0, 0, 0, 0, 0, 0, 0, 0, 0, 0], 0) := by decide +kernel
theorem x3 : delR [5, 0, 0, 0, 1, 97, 0, 0, 0, 0, 0, 0, 0, 0, 0, 0, 0, 0, 0, 0, 0, 0, 0, 0, 0, 0, 0, 0, 0, 0, 0, 0, 6, 0, 0, 0, 1, 98, 0, 0, 0, 0, 0, 0, 0, 0, 0, 0, 0, 0, 0, 0, 0, 0, 0, 0, 0, 0, 0, 0, 0, 0, 0, 0] [97] = ([0, 0, 0, 0, 0, 0, 0, 0, 0, 0, 0, 0, 0, 0, 0, 0, 0, 0, 0, 0, 0, 0, 0, 0, 0, 0, 0, 0, 0, 0, 0, 0, 6, 0, 0, 0, 1, 98, 0, 0, 0, 0, 0, 0, 0, 0, 0, 0, 0, 0, 0, 0, 0, 0, 0, 0, 0, 0, 0, 0, 0, 0, 0, 0], 5, 0) := by decide +kernel
theorem x4 : addR [0, 0, 0, 0, 0, 0, 0, 0, 0, 0, 0, 0, 0, 0, 0, 0, 0, 0, 0, 0, 0, 0, 0, 0, 0, 0, 0, 0, 0, 0, 0, 0, 6, 0, 0, 0, 1, 98, 0, 0, 0, 0, 0, 0, 0, 0, 0, 0, 0, 0, 0, 0, 0, 0, 0, 0, 0, 0, 0, 0, 0, 0, 0, 0] [99] 7 = ([7, 0, 0, 0, 1, 99, 0, 0, 0, 0, 0, 0, 0, 0, 0, 0, 0, 0, 0, 0, 0, 0, 0, 0, 0, 0, 0, 0, 0, 0, 0, 0, 6, 0, 0, 0, 1, 98, 0, 0, 0, 0, 0, 0, 0, 0, 0, 0, 0, 0, 0, 0, 0, 0, 0, 0, 0, 0, 0, 0, 0, 0, 0, 0], 0) := by decide +kernel
theorem x5 : addR [7, 0, 0, 0, 1, 99, 0, 0, 0, 0, 0, 0, 0, 0, 0, 0, 0, 0, 0, 0, 0, 0, 0, 0, 0, 0, 0, 0, 0, 0, 0, 0, 6, 0, 0, 0, 1, 98, 0, 0, 0, 0, 0, 0, 0, 0, 0, 0, 0, 0, 0, 0, 0, 0, 0, 0, 0, 0, 0, 0, 0, 0, 0, 0] [99] 8 = ([], 9) := by decide +kernel
theorem x6 : addR [7, 0, 0, 0, 1, 99, 0, 0, 0, 0, 0, 0, 0, 0, 0, 0, 0, 0, 0, 0, 0, 0, 0, 0, 0, 0, 0, 0, 0, 0, 0, 0, 6, 0, 0, 0, 1, 98, 0, 0, 0, 0, 0, 0, 0, 0, 0, 0, 0, 0, 0, 0, 0, 0, 0, 0, 0, 0, 0, 0, 0, 0, 0, 0] [47] 8 = ([], 2) := by decide +kernel
theorem x7 : findR [7, 0, 0, 0, 1, 99, 0, 0, 0, 0, 0, 0, 0, 0, 0, 0, 0, 0, 0, 0, 0, 0, 0, 0, 0, 0, 0, 0, 0, 0, 0, 0, 6, 0, 0, 0, 1, 98, 0, 0, 0, 0, 0, 0, 0, 0, 0, 0, 0, 0, 0, 0, 0, 0, 0, 0, 0, 0, 0, 0, 0, 0, 0, 0] [99] = (7, 0, true) := by decide +kernel
theorem x8 : checkE ([7, 0, 0, 0, 1, 99, 0, 0, 0, 0, 0, 0, 0, 0, 0, 0, 0, 0, 0, 0, 0, 0, 0, 0, 0, 0, 0, 0, 0, 0, 0, 0, 6, 0, 0, 0, 1, 98, 0, 0, 0, 0, 0, 0, 0, 0, 0, 0, 0, 0, 0, 0, 0, 0, 0, 0, 0, 0, 0, 0, 0, 0, 0, 0].drop 1) = 7 := by decide +kernel
theorem x9 : listL [7, 0, 0, 0, 1, 99, 0, 0, 0, 0, 0, 0, 0, 0, 0, 0, 0, 0, 0, 0, 0, 0, 0, 0, 0, 0, 0, 0, 0, 0, 0, 0, 6, 0, 0, 0, 1, 98, 0, 0, 0, 0, 0, 0, 0, 0, 0, 0, 0, 0, 0, 0, 0, 0, 0, 0, 0, 0, 0, 0, 0, 0, 0, 0] = [([99], 7), ([98], 6)] := by decide +kernel
def sA : ByteArray := B [5, 0, 0, 0, 1, 97, 0, 0, 0, 0, 0, 0, 0, 0, 0, 0, 0, 0, 0, 0, 0, 0, 0, 0, 0, 0, 0, 0, 0, 0, 0, 0, 0, 0, 0, 0, 0, 0, 0, 0, 0, 0, 0, 0, 0, 0, 0, 0, 0, 0, 0, 0, 0, 0, 0, 0, 0, 0, 0, 0, 0, 0, 0, 0]
def sB : ByteArray := B [5, 0, 0, 0, 1, 97, 0, 0, 0, 0, 0, 0, 0, 0, 0, 0, 0, 0, 0, 0, 0, 0, 0, 0, 0, 0, 0, 0, 0, 0, 0, 0, 6, 0, 0, 0, 1, 98, 0, 0, 0, 0, 0, 0, 0, 0, 0, 0, 0, 0, 0, 0, 0, 0, 0, 0, 0, 0, 0, 0, 0, 0, 0, 0]
def sC : ByteArray := B [0, 0, 0, 0, 0, 0, 0, 0, 0, 0, 0, 0, 0, 0, 0, 0, 0, 0, 0, 0, 0, 0, 0, 0, 0, 0, 0, 0, 0, 0, 0, 0, 6, 0, 0, 0, 1, 98, 0, 0, 0, 0, 0, 0, 0, 0, 0, 0, 0, 0, 0, 0, 0, 0, 0, 0, 0, 0, 0, 0, 0, 0, 0, 0]
def sD : ByteArray := B [7, 0, 0, 0, 1, 99, 0, 0, 0, 0, 0, 0, 0, 0, 0, 0, 0, 0, 0, 0, 0, 0, 0, 0, 0, 0, 0, 0, 0, 0, 0, 0, 6, 0, 0, 0, 1, 98, 0, 0, 0, 0, 0, 0, 0, 0, 0, 0, 0, 0, 0, 0, 0, 0, 0, 0, 0, 0, 0, 0, 0, 0, 0, 0]
theorem y1 (w : World) : Calls Try.prog 49 #[.string ⟨#[]⟩, .string ⟨#[97]⟩, .int .u32 5] w fun q w' => q = .returned (.tuple #[.string sA, .int .i64 0]) ∧ Below w.heap.size w w' := by
  have h := add_any ⟨#[]⟩ ⟨#[97]⟩ 5 w (by unfold maxLen; decide) (by unfold maxLen; decide) (by decide)
  rw [show L (⟨#[]⟩ : ByteArray) = [] from rfl, show L (⟨#[97]⟩ : ByteArray) = [97] from rfl, x1] at h
  exact h
theorem y2 (w : World) : Calls Try.prog 49 #[.string sA, .string ⟨#[98]⟩, .int .u32 6] w fun q w' => q = .returned (.tuple #[.string sB, .int .i64 0]) ∧ Below w.heap.size w w' := by
  have h := add_any sA ⟨#[98]⟩ 6 w (by unfold maxLen; decide) (by unfold maxLen; decide) (by decide)
  rw [show L sA = [5, 0, 0, 0, 1, 97, 0, 0, 0, 0, 0, 0, 0, 0, 0, 0, 0, 0, 0, 0, 0, 0, 0, 0, 0, 0, 0, 0, 0, 0, 0, 0, 0, 0, 0, 0, 0, 0, 0, 0, 0, 0, 0, 0, 0, 0, 0, 0, 0, 0, 0, 0, 0, 0, 0, 0, 0, 0, 0, 0, 0, 0, 0, 0] from rfl, show L (⟨#[98]⟩ : ByteArray) = [98] from rfl, x2] at h
  exact h
theorem y3 (w : World) : Calls Try.prog 50 #[.string sB, .string ⟨#[97]⟩] w fun q w' => q = .returned (.tuple #[.string sC, .int .u32 5, .int .i64 0]) ∧ Below w.heap.size w w' := by
  have h := del_any sB ⟨#[97]⟩ w (by unfold maxLen; decide) (by unfold maxLen; decide)
  rw [show L sB = [5, 0, 0, 0, 1, 97, 0, 0, 0, 0, 0, 0, 0, 0, 0, 0, 0, 0, 0, 0, 0, 0, 0, 0, 0, 0, 0, 0, 0, 0, 0, 0, 6, 0, 0, 0, 1, 98, 0, 0, 0, 0, 0, 0, 0, 0, 0, 0, 0, 0, 0, 0, 0, 0, 0, 0, 0, 0, 0, 0, 0, 0, 0, 0] from rfl, show L (⟨#[97]⟩ : ByteArray) = [97] from rfl, x3] at h
  exact h
theorem y4 (w : World) : Calls Try.prog 49 #[.string sC, .string ⟨#[99]⟩, .int .u32 7] w fun q w' => q = .returned (.tuple #[.string sD, .int .i64 0]) ∧ Below w.heap.size w w' := by
  have h := add_any sC ⟨#[99]⟩ 7 w (by unfold maxLen; decide) (by unfold maxLen; decide) (by decide)
  rw [show L sC = [0, 0, 0, 0, 0, 0, 0, 0, 0, 0, 0, 0, 0, 0, 0, 0, 0, 0, 0, 0, 0, 0, 0, 0, 0, 0, 0, 0, 0, 0, 0, 0, 6, 0, 0, 0, 1, 98, 0, 0, 0, 0, 0, 0, 0, 0, 0, 0, 0, 0, 0, 0, 0, 0, 0, 0, 0, 0, 0, 0, 0, 0, 0, 0] from rfl, show L (⟨#[99]⟩ : ByteArray) = [99] from rfl, x4] at h
  exact h
theorem y5 (w : World) : Calls Try.prog 49 #[.string sD, .string ⟨#[99]⟩, .int .u32 8] w fun q w' => q = .returned (.tuple #[.string ⟨#[]⟩, .int .i64 9]) ∧ Below w.heap.size w w' := by
  have h := add_any sD ⟨#[99]⟩ 8 w (by unfold maxLen; decide) (by unfold maxLen; decide) (by decide)
  rw [show L sD = [7, 0, 0, 0, 1, 99, 0, 0, 0, 0, 0, 0, 0, 0, 0, 0, 0, 0, 0, 0, 0, 0, 0, 0, 0, 0, 0, 0, 0, 0, 0, 0, 6, 0, 0, 0, 1, 98, 0, 0, 0, 0, 0, 0, 0, 0, 0, 0, 0, 0, 0, 0, 0, 0, 0, 0, 0, 0, 0, 0, 0, 0, 0, 0] from rfl, show L (⟨#[99]⟩ : ByteArray) = [99] from rfl, x5] at h
  exact h
theorem y6 (w : World) : Calls Try.prog 49 #[.string sD, .string ⟨#[47]⟩, .int .u32 8] w fun q w' => q = .returned (.tuple #[.string ⟨#[]⟩, .int .i64 2]) ∧ Below w.heap.size w w' := by
  have h := add_any sD ⟨#[47]⟩ 8 w (by unfold maxLen; decide) (by unfold maxLen; decide) (by decide)
  rw [show L sD = [7, 0, 0, 0, 1, 99, 0, 0, 0, 0, 0, 0, 0, 0, 0, 0, 0, 0, 0, 0, 0, 0, 0, 0, 0, 0, 0, 0, 0, 0, 0, 0, 6, 0, 0, 0, 1, 98, 0, 0, 0, 0, 0, 0, 0, 0, 0, 0, 0, 0, 0, 0, 0, 0, 0, 0, 0, 0, 0, 0, 0, 0, 0, 0] from rfl, show L (⟨#[47]⟩ : ByteArray) = [47] from rfl, x6] at h
  exact h
theorem y7 (w : World) : Calls Try.prog 54 #[.string sD, .string ⟨#[99]⟩] w fun q w' => q = .returned (.tuple #[.int .u32 7, .int .i64 0, .bool true]) ∧ Below w.heap.size w w' := by
  have h := find_any sD ⟨#[99]⟩ w (by unfold maxLen; decide) (by unfold maxLen; decide)
  rw [show L sD = [7, 0, 0, 0, 1, 99, 0, 0, 0, 0, 0, 0, 0, 0, 0, 0, 0, 0, 0, 0, 0, 0, 0, 0, 0, 0, 0, 0, 0, 0, 0, 0, 6, 0, 0, 0, 1, 98, 0, 0, 0, 0, 0, 0, 0, 0, 0, 0, 0, 0, 0, 0, 0, 0, 0, 0, 0, 0, 0, 0, 0, 0, 0, 0] from rfl, show L (⟨#[99]⟩ : ByteArray) = [99] from rfl, x7] at h
  exact h
theorem y8 (w : World) : Calls Try.prog 56 #[.string (sD.extract 1 sD.size)] w fun q w' => q = .returned (.int .i64 7) ∧ Below w.heap.size w w' := by
  have h := check_any (sD.extract 1 sD.size) w (by rw [ex_rest, size_B, List.length_drop]; unfold maxLen; decide)
  rw [ex_rest, L_B, show L sD = [7, 0, 0, 0, 1, 99, 0, 0, 0, 0, 0, 0, 0, 0, 0, 0, 0, 0, 0, 0, 0, 0, 0, 0, 0, 0, 0, 0, 0, 0, 0, 0, 6, 0, 0, 0, 1, 98, 0, 0, 0, 0, 0, 0, 0, 0, 0, 0, 0, 0, 0, 0, 0, 0, 0, 0, 0, 0, 0, 0, 0, 0, 0, 0] from rfl, x8, ← show L sD = [7, 0, 0, 0, 1, 99, 0, 0, 0, 0, 0, 0, 0, 0, 0, 0, 0, 0, 0, 0, 0, 0, 0, 0, 0, 0, 0, 0, 0, 0, 0, 0, 6, 0, 0, 0, 1, 98, 0, 0, 0, 0, 0, 0, 0, 0, 0, 0, 0, 0, 0, 0, 0, 0, 0, 0, 0, 0, 0, 0, 0, 0, 0, 0] from rfl, ← ex_rest] at h
  exact h
theorem y9 (w : World) : Calls Try.prog 53 #[.string sD] w (ListRes [([99], 7), ([98], 6)] w) := by
  have h := list_any sD w (by unfold maxLen; decide)
  rw [show L sD = [7, 0, 0, 0, 1, 99, 0, 0, 0, 0, 0, 0, 0, 0, 0, 0, 0, 0, 0, 0, 0, 0, 0, 0, 0, 0, 0, 0, 0, 0, 0, 0, 6, 0, 0, 0, 1, 98, 0, 0, 0, 0, 0, 0, 0, 0, 0, 0, 0, 0, 0, 0, 0, 0, 0, 0, 0, 0, 0, 0, 0, 0, 0, 0] from rfl, x9] at h
  exact h
set_option maxRecDepth 100000 in
set_option maxHeartbeats 4000000 in
theorem alive10 (w : World) : Calls Try.prog 48 #[] w fun e w' => e = .returned (.bool true) ∧ Below w.heap.size w w' := by
  have Y1 := Lib.hid y1
  have Y2 := Lib.hid y2
  have Y3 := Lib.hid y3
  have Y4 := Lib.hid y4
  have Y5 := Lib.hid y5
  have Y6 := Lib.hid y6
  have Y7 := Lib.hid y7
  have Y8 := Lib.hid y8
  have Y9 := Lib.hid y9
  have hs1 : ((sA.size : Int) == 64) = true := by decide
  have hs2 : (6 : Int) ≤ (sA.size : Int) := by decide
  have hs3 : 6 ≤ sA.size := by decide
  have hs4 : (1 : Int) ≤ (sD.size : Int) := by decide
  have hs5 : 1 ≤ sD.size := by decide
  have hex : sA.extract 0 6 = ⟨#[5, 0, 0, 0, 1, 97]⟩ := by rw [ex_front]; rfl
  generalize sA = a at *
  generalize sB = b at *
  generalize sC = c at *
  generalize sD = d at *
  go_enter Try.func48, Try.ntmps48
  try simp only [List.append_eq, List.cons_append, List.nil_append]
  go_wp2_with fail
  refine (Y1.out _).mono ?_
  rintro e w1 ⟨rfl, b1⟩
  go_wp2_with fail
  refine (Y2.out _).mono ?_
  rintro e w2 ⟨rfl, b2⟩
  go_wp2_with fail
  refine (Y3.out _).mono ?_
  rintro e w3 ⟨rfl, b3⟩
  go_wp2_with fail
  refine (Y4.out _).mono ?_
  rintro e w4 ⟨rfl, b4⟩
  go_wp2_with fail
  refine (Y5.out _).mono ?_
  rintro e w5 ⟨rfl, b5⟩
  go_wp2_with fail
  refine (Y6.out _).mono ?_
  rintro e w6 ⟨rfl, b6⟩
  go_wp2_with fail
  refine (Y7.out _).mono ?_
  rintro e w7 ⟨rfl, b7⟩
  have bb7 : Below w.heap.size w w7 := b1.trans ((b2.trans ((b3.trans ((b4.trans ((b5.trans ((b6.trans (b7.mono b6.size)).mono b5.size)).mono b4.size)).mono b3.size)).mono b2.size)).mono b1.size)
  clear b1 b2 b3 b4 b5 b6 b7 Y1 Y2 Y3 Y4 Y5 Y6 Y7
  go_wp2_with fail
  refine (Y8.out _).mono ?_
  rintro e w8 ⟨rfl, b8⟩
  go_wp2_with fail
  refine (Y9.out _).mono ?_
  rintro e w9 ⟨v, rfl, hrow, b9⟩
  have bb9 : Below w.heap.size w w9 := bb7.trans ((b8.trans (b9.mono b8.size)).mono bb7.size)
  rcases row_of_own hrow with ⟨_, _, he⟩ | ⟨g, cap, rfl, hg1, hg2, hr⟩
  · cases he
  · have hr1 : RowAt (w9.alloc (.cells #[.string ⟨#[99]⟩, .int .u32 7, .string ⟨#[98]⟩, .int .u32 6] 73)) g 0 [([99], 7), ([98], 6)] := fun j hj => by
      have := hr j hj
      have k := (Below.refl w9.heap.size w9).alloc (Nat.le_refl _) (.cells #[.string ⟨#[99]⟩, .int .u32 7, .string ⟨#[98]⟩, .int .u32 6] 73)
      exact ⟨(k.cell (p := ⟨g, _, none⟩) hg2).trans this.1, (k.cell (p := ⟨g, _, none⟩) hg2).trans this.2⟩
    have hr2 : RowAt (w9.alloc (.cells #[.string ⟨#[99]⟩, .int .u32 7, .string ⟨#[98]⟩, .int .u32 6] 73)) w9.heap.size 0 [([99], 7), ([98], 6)] := fun j hj => by
      have k := SBox.new w9 73 #[.string ⟨#[99]⟩, .int .u32 7, .string ⟨#[98]⟩, .int .u32 6]
      rw [Nat.zero_add, k.cell, k.cell]
      match j, hj with
      | 0, _ => exact ⟨rfl, rfl⟩
      | 1, _ => exact ⟨rfl, rfl⟩
    have SM := Lib.hid (same_row g w9.heap.size 0 0 cap 2 [([99], 7), ([98], 6)] (by decide) _ hr1 hr2)
    clear b8 b9 bb7 hrow hr hr1 hr2
    go_wp2_with fail
    refine SM.out.mono ?_
    rintro e w10 ⟨rfl, b10⟩
    go_wp2
    go_ret
    exact ⟨rfl, (bb9.alloc bb9.size _).trans (b10.mono (by have := bb9.size; simp; omega))⟩
end Go.Proofs.Ytfdclifdemajfaa.Dir
