/- Layer 10: one entry changed is one sector changed; the plain law behind DirsOne. -/
import Derived.Test.YtfdclifdemajfaaDirSectors
import Derived.Test.YtfdclifdemajfaaDirKeepP
namespace Go.Proofs.Ytfdclifdemajfaa.Dir
set_option linter.unusedVariables false
set_option linter.unusedSimpArgs false
open Go.RowKit Go.Shelf Oct Path
theorem drop_enc : ∀ {es : List Ent} (h : ∀ e ∈ es, OkE e) (k : Nat), (encL es).drop (32 * k) = encL (es.drop k)
  | [], h, k => by simp [encL]
  | e :: r, h, 0 => by simp
  | e :: r, h, k + 1 => by
    have ih := drop_enc (es := r) (fun x hx => h x (List.mem_cons_of_mem _ hx)) k
    have hl := len_enc (h e (by simp))
    rw [encL_cons, List.drop_succ_cons, ← ih, show 32 * (k + 1) = (encE e).length + 32 * k by rw [hl]; omega, ← List.drop_drop, List.drop_left]
theorem take_enc : ∀ {es : List Ent} (h : ∀ e ∈ es, OkE e) (k : Nat), (encL es).take (32 * k) = encL (es.take k)
  | [], h, k => by simp [encL]
  | e :: r, h, 0 => by simp [encL]
  | e :: r, h, k + 1 => by
    have ih := take_enc (es := r) (fun x hx => h x (List.mem_cons_of_mem _ hx)) k
    have hl := len_enc (h e (by simp))
    rw [encL_cons, List.take_succ_cons, encL_cons, ← ih, List.take_append, List.take_of_length_le (by rw [hl]; omega), hl, show 32 * (k + 1) - 32 = 32 * k by omega]
theorem ex_at (s : ByteArray) (p : Nat) : L (s.extract p (p + 64)) = ((L s).drop p).take 64 := by
  show (s.extract p (p + 64)).data.toList = _
  rw [ByteArray.data_extract, Array.toList_extract, List.extract_eq_take_drop, show p + 64 - p = 64 by omega]
  rfl
theorem sec_of {es : List Ent} (h : ∀ e ∈ es, OkE e) (j : Nat) : L ((B (encL es)).extract (64 * j) (64 * j + 64)) = encL ((es.drop (2 * j)).take 2) := by
  rw [ex_at, L_B, show 64 * j = 32 * (2 * j) by omega, drop_enc h, show (64 : Nat) = 32 * 2 from rfl, take_enc (fun e he => h e (List.mem_of_mem_drop he))]
theorem sec_set {es : List Ent} (h : ∀ e ∈ es, OkE e) (k : Nat) (x : Ent) (h' : ∀ e ∈ es.set k x, OkE e) : ∀ n, secN (B (encL es)) (B (encL (es.set k x))) n ≤ if k / 2 < n then 1 else 0
  | 0 => by simp [secN]
  | n + 1 => by
    have ih := sec_set h k x h' n
    unfold secN
    by_cases hn : n = k / 2
    · have i0 : secN (B (encL es)) (B (encL (es.set k x))) n ≤ 0 := by rw [if_neg (by omega)] at ih; exact ih
      have i1 : k / 2 < n + 1 := by omega
      rw [if_pos i1]
      split
      · omega
      · omega
    · have he : (B (encL es)).extract (64 * n) (64 * n + 64) = (B (encL (es.set k x))).extract (64 * n) (64 * n + 64) := by
        apply L_inj
        rw [sec_of h, sec_of h']
        congr 1
        apply List.ext_getElem?
        intro i
        rw [List.getElem?_take, List.getElem?_take]
        split
        · rw [List.getElem?_drop, List.getElem?_drop, List.getElem?_set_ne (by omega)]
        · rfl
      rw [if_pos he]
      split at ih <;> split <;> omega
theorem live_ino {es : List Ent} (d : Dir es) {e : Ent} (he : e ∈ live es) : inoOf e.1 es = e.2 ∧ e.2 ≠ 0 := by
  have h2 : e ∈ es ∧ e.2 ≠ 0 := by simpa [live] using he
  obtain ⟨k, hk, rfl⟩ := List.getElem_of_mem h2.1
  exact ⟨ino_at d.nodup hk h2.2 rfl, h2.2⟩
end Go.Proofs.Ytfdclifdemajfaa.Dir
