/- Layer 10, plain: what may be a directory; how entries are found, added, set, deleted. No program in sight. -/
import Derived.Test.YtfdclifdemajfaaDirPlain
namespace Go.Proofs.Ytfdclifdemajfaa.Dir
set_option linter.unusedVariables false
open Oct Path
def live (es : List Ent) : List Ent := es.filter fun e => decide (e.2 ≠ 0)
def names (es : List Ent) : List (List UInt8) := (live es).map Prod.fst
/-- What Check comes to. -/
def checkE (s : List UInt8) : Int :=
  if s.length % 64 ≠ 0 ∨ 2304 < s.length then 7 else if ([], 1) ∈ slotsL s then 7 else if (names (slotsL s)).Nodup then 0 else 9
/-- The entries of a directory. -/
structure Dir (es : List Ent) : Prop where
  ok : ∀ e ∈ es, OkE e
  even : es.length % 2 = 0
  le : es.length ≤ 72
  nodup : (names es).Nodup
theorem okE_ne {e : Ent} (h : OkE e) : e ≠ ([], 1) := fun he => by
  subst he
  rcases h with h | h
  · cases h
  · have := (may_name h.1).2
    exact absurd this (by decide)
theorem check_enc {es : List Ent} (h : Dir es) : checkE (encL es) = 0 := by
  unfold checkE
  rw [slots_enc h.ok, len_encL h.ok, if_neg (by have := h.even; have := h.le; omega), if_neg (fun hm => okE_ne (h.ok _ hm) rfl), if_pos h.nodup]
theorem dir_of {s : List UInt8} (h : checkE s = 0) : Dir (slotsL s) ∧ encL (slotsL s) = s ∧ s.length = 32 * (slotsL s).length := by
  unfold checkE at h
  split at h
  · cases h
  · split at h
    · cases h
    · split at h
      · rename_i h1 h2 h3
        obtain ⟨k1, k2⟩ := enc_slots (s := s) (by omega) (fun e he e1 => h2 (e1 ▸ he))
        have hl : (slotsL s).length = s.length / 32 := by simp [slotsL]
        exact ⟨⟨k1, by omega, by omega, h3⟩, k2, by omega⟩
      · cases h
theorem check_range (s : List UInt8) : checkE s = 0 ∨ checkE s = 7 ∨ checkE s = 9 := by
  unfold checkE
  split
  · simp
  · split
    · simp
    · split <;> simp

/-- The first entry of a name, and its slot. -/
def hit (n : List UInt8) (e : Ent) : Bool := decide (e.2 ≠ 0 ∧ e.1 = n)
def findK (n : List UInt8) (es : List Ent) : Option Nat := es.findIdx? (hit n)
def freeK (es : List Ent) : Option Nat := es.findIdx? fun e => decide (e.2 = 0)
/-- The inode of a name; 0: it has none. -/
def inoOf (n : List UInt8) (es : List Ent) : Nat := match findK n es with | some k => (es.getD k ([], 0)).2 | none => 0
theorem find_some {n : List UInt8} {es : List Ent} {k : Nat} (h : findK n es = some k) : ∃ hk : k < es.length, (es[k]'hk).2 ≠ 0 ∧ (es[k]'hk).1 = n := by
  obtain ⟨hk, h1, _⟩ := List.findIdx?_eq_some_iff_getElem.1 h
  have : hit n es[k] = true := h1
  simp only [hit, decide_eq_true_eq] at this
  exact ⟨hk, this⟩
theorem find_none {n : List UInt8} {es : List Ent} (h : findK n es = none) : ∀ e ∈ es, e.2 ≠ 0 → e.1 ≠ n := fun e he h0 h1 => by
  have := List.findIdx?_eq_none_iff.1 h e he
  simp [hit, h0, h1] at this
theorem free_some {es : List Ent} {k : Nat} (h : freeK es = some k) : ∃ hk : k < es.length, (es[k]'hk).2 = 0 := by
  obtain ⟨hk, h1, _⟩ := List.findIdx?_eq_some_iff_getElem.1 h
  exact ⟨hk, by simpa using h1⟩
theorem nodup_inj {es : List Ent} (h : (names es).Nodup) : ∀ {j k : Nat} (hj : j < es.length) (hk : k < es.length), (es[j]'hj).2 ≠ 0 → (es[k]'hk).2 ≠ 0 → (es[j]'hj).1 = (es[k]'hk).1 → j = k := by
  induction es with
  | nil => intro j k hj; simp at hj
  | cons e r ih =>
    have hr : (names r).Nodup := by
      unfold names live at h ⊢
      by_cases h0 : e.2 ≠ 0
      · rw [List.filter_cons_of_pos (by simpa using h0), List.map_cons] at h
        exact (List.nodup_cons.1 h).2
      · rw [List.filter_cons_of_neg (by simpa using h0)] at h
        exact h
    have hd : e.2 ≠ 0 → ∀ x ∈ r, x.2 ≠ 0 → x.1 ≠ e.1 := fun h0 x hx hx0 hxe => by
      unfold names live at h
      rw [List.filter_cons_of_pos (by simpa using h0), List.map_cons] at h
      refine (List.nodup_cons.1 h).1 ?_
      rw [← hxe]
      exact List.mem_map_of_mem (List.mem_filter.2 ⟨hx, by simpa using hx0⟩)
    intro j k hj hk hj0 hk0 hjk
    match j, k with
    | 0, 0 => rfl
    | 0, k + 1 => exact absurd hjk.symm (hd hj0 _ (List.getElem_mem _) hk0)
    | j + 1, 0 => exact absurd hjk (hd hk0 _ (List.getElem_mem _) hj0)
    | j + 1, k + 1 =>
      have := ih hr (by simpa using hj) (by simpa using hk) hj0 hk0 hjk
      omega
theorem find_at {n : List UInt8} {es : List Ent} (h : (names es).Nodup) {k : Nat} (hk : k < es.length) (h0 : (es[k]'hk).2 ≠ 0) (h1 : (es[k]'hk).1 = n) : findK n es = some k := by
  cases hf : findK n es with
  | none => exact absurd h1 (find_none hf _ (List.getElem_mem hk) h0)
  | some j =>
    obtain ⟨hj, j0, j1⟩ := find_some hf
    rw [nodup_inj h hj hk j0 h0 (j1.trans h1.symm)]
theorem mem_names {n : List UInt8} {es : List Ent} : n ∈ names es ↔ ∃ e ∈ es, e.2 ≠ 0 ∧ e.1 = n := by
  unfold names live
  simp only [List.mem_map, List.mem_filter, decide_eq_true_eq]
  constructor
  · rintro ⟨e, ⟨a, b⟩, c⟩; exact ⟨e, a, b, c⟩
  · rintro ⟨e, a, b, c⟩; exact ⟨e, ⟨a, b⟩, c⟩
theorem find_mem {n : List UInt8} {es : List Ent} : (findK n es).isSome = decide (n ∈ names es) := by
  cases hf : findK n es with
  | none =>
    have : ¬ (n ∈ names es) := fun hm => by
      obtain ⟨e, a, b, c⟩ := mem_names.1 hm
      exact find_none hf e a b c
    simp [this]
  | some k =>
    obtain ⟨hk, a, b⟩ := find_some hf
    have : n ∈ names es := mem_names.2 ⟨_, List.getElem_mem hk, a, b⟩
    simp [this]

/-- The text with a slot otherwise. -/
def putL (s : List UInt8) (k : Nat) (t : List UInt8) : List UInt8 := s.take (32 * k) ++ t ++ s.drop (32 * (k + 1))
theorem put_enc {es : List Ent} (h : ∀ e ∈ es, OkE e) {e : Ent} (he : OkE e) {k : Nat} (hk : k < es.length) : putL (encL es) k (encE e) = encL (es.set k e) := by
  have e1 : es = es.take k ++ es[k] :: es.drop (k + 1) := by rw [List.getElem_cons_drop, List.take_append_drop]
  have l1 : (encL (es.take k)).length = 32 * k := by
    rw [len_encL (fun x hx => h x (List.mem_of_mem_take hx)), List.length_take, Nat.min_eq_left (by omega)]
  have l2 : (encE es[k]).length = 32 := len_enc (h _ (List.getElem_mem hk))
  have e2 : encL es = encL (es.take k) ++ (encE es[k] ++ encL (es.drop (k + 1))) := by
    rw [← encL_cons, ← encL_append, ← e1]
  have e3 : es.set k e = es.take k ++ e :: es.drop (k + 1) := by rw [List.set_eq_take_append_cons_drop, if_pos hk]
  unfold putL
  rw [e3, encL_append, encL_cons, e2]
  rw [List.take_append_of_le_length (by omega), List.take_of_length_le (by omega)]
  rw [show 32 * (k + 1) = (encL (es.take k)).length + 32 by omega, List.drop_length_add_append, List.drop_append_of_le_length (by omega), List.drop_of_length_le (by omega), List.nil_append, List.append_assoc]

/-- Add, of a directory's entries. -/
def addL (n : List UInt8) (i : Nat) (es : List Ent) : Int × List Ent :=
  if may (n, i) = false then (2, []) else match findK n es with
  | some _ => (9, [])
  | none => match freeK es with
    | some k => (0, es.set k (n, i))
    | none => if 72 ≤ es.length then (4, []) else (0, es ++ [(n, i), ([], 0)])
def setL (n : List UInt8) (i : Nat) (es : List Ent) : Int × List Ent :=
  if i = 0 then (2, []) else match findK n es with
  | none => (3, [])
  | some k => (0, es.set k (n, i))
def delL (n : List UInt8) (es : List Ent) : Int × List Ent :=
  match findK n es with
  | none => (3, [])
  | some k => (0, es.set k ([], 0))
end Go.Proofs.Ytfdclifdemajfaa.Dir
