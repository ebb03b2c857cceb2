/- Layer 10, plain: a directory's bytes, slot by slot, and its entries. No program in sight. -/
import Derived.Test.YtfdclifdemajfaaPathPlain
namespace Go.Proofs.Ytfdclifdemajfaa.Dir
set_option linter.unusedVariables false
open Oct Path
/-- An entry: its name, its inode. -/
abbrev Ent := List UInt8 × Nat
def freeL : List UInt8 := List.replicate 32 0
def rowL (e : Ent) : List UInt8 := numL e.2 4 ++ (UInt8.ofNat e.1.length :: e.1)
def slotL (e : Ent) : List UInt8 := rowL e ++ List.replicate (32 - (rowL e).length) 0
def may (e : Ent) : Bool := decide (e.2 ≠ 0) && isName e.1
def encE (e : Ent) : List UInt8 := if e.2 = 0 then freeL else slotL e
def OkE (e : Ent) : Prop := e = ([], 0) ∨ (may e = true ∧ e.2 < 4294967296)
def lenAt (t : List UInt8) : Nat := (t.getD 4 0).toNat
def entOf (t : List UInt8) : Ent := ((t.drop 5).take (lenAt t), valL (t.take 4))
/-- The entry of a slot; none: it is none's. -/
def readL (t : List UInt8) : Option Ent :=
  if t = freeL then some ([], 0)
  else if 27 < lenAt t then none
  else if may (entOf t) = true ∧ slotL (entOf t) = t then some (entOf t) else none
def entL (t : List UInt8) : Ent := (readL t).getD ([], 1)
def partL (s : List UInt8) (k : Nat) : List UInt8 := (s.drop (32 * k)).take 32
def slotsL (s : List UInt8) : List Ent := (List.range (s.length / 32)).map fun k => entL (partL s k)

theorem name_len {n : List UInt8} (h : isName n = true) : 1 ≤ n.length ∧ n.length ≤ 27 := ⟨(isName_noSlash h).2.2.1, (isName_noSlash h).2.2.2⟩
theorem may_name {e : Ent} (h : may e = true) : e.2 ≠ 0 ∧ isName e.1 = true := by
  simp only [may, Bool.and_eq_true, decide_eq_true_eq] at h
  exact h
theorem len_row (e : Ent) : (rowL e).length = 5 + e.1.length := by simp [rowL, len_numL]; omega
theorem len_slot {e : Ent} (h : may e = true) : (slotL e).length = 32 := by
  have := (name_len (may_name h).2).2
  unfold slotL
  rw [List.length_append, List.length_replicate, len_row]
  omega
theorem len_free : freeL.length = 32 := by simp [freeL]
theorem okE_may {e : Ent} (h : OkE e) (h0 : e.2 ≠ 0) : may e = true ∧ e.2 < 4294967296 := by
  rcases h with rfl | h
  · exact absurd rfl h0
  · exact h
theorem okE_free {e : Ent} (h : OkE e) (h0 : e.2 = 0) : e = ([], 0) := by
  rcases h with h | h
  · exact h
  · exact absurd h0 (may_name h.1).1
theorem len_enc {e : Ent} (h : OkE e) : (encE e).length = 32 := by
  unfold encE
  by_cases h0 : e.2 = 0
  · rw [if_pos h0]; exact len_free
  · rw [if_neg h0]; exact len_slot (okE_may h h0).1
theorem take_slot (e : Ent) : (slotL e).take 4 = numL e.2 4 := by
  unfold slotL rowL
  rw [List.append_assoc, List.take_append_of_le_length (by rw [len_numL]; exact Nat.le_refl _), List.take_of_length_le (by rw [len_numL]; exact Nat.le_refl _)]
theorem drop_slot (e : Ent) : (slotL e).drop 4 = UInt8.ofNat e.1.length :: (e.1 ++ List.replicate (32 - (rowL e).length) 0) := by
  unfold slotL rowL
  rw [List.append_assoc, List.drop_append_of_le_length (by rw [len_numL]; exact Nat.le_refl _), List.drop_of_length_le (by rw [len_numL]; exact Nat.le_refl _)]
  rfl
theorem lenAt_slot {e : Ent} (h : e.1.length ≤ 27) : lenAt (slotL e) = e.1.length := by
  have h1 : (slotL e).getD 4 0 = ((slotL e).drop 4).getD 0 0 := by simp [List.getD_eq_getElem?_getD]
  unfold lenAt
  rw [h1, drop_slot]
  simp [UInt8.toNat_ofNat']
  omega
theorem entOf_slot {e : Ent} (h : e.1.length ≤ 27) (h2 : e.2 < 4294967296) : entOf (slotL e) = e := by
  obtain ⟨n, i⟩ := e
  have hd : (slotL (n, i)).drop 5 = n ++ List.replicate (32 - (rowL (n, i)).length) 0 := by
    have : (slotL (n, i)).drop 5 = ((slotL (n, i)).drop 4).drop 1 := by rw [List.drop_drop]
    rw [this, drop_slot]
    rfl
  unfold entOf
  rw [lenAt_slot h, take_slot, hd, valL_numL]
  simp only [List.take_left']
  rw [Nat.mod_eq_of_lt (by simpa using h2)]
theorem slot_ne_free {e : Ent} (h : e.2 ≠ 0) (h2 : e.2 < 4294967296) : slotL e ≠ freeL := fun he => by
  have h1 : valL ((slotL e).take 4) = e.2 := by rw [take_slot, valL_numL, Nat.mod_eq_of_lt (by simpa using h2)]
  rw [he] at h1
  exact h h1.symm
theorem read_slot {e : Ent} (h : may e = true) (h2 : e.2 < 4294967296) : readL (slotL e) = some e := by
  obtain ⟨m1, m2⟩ := may_name h
  have hn := (name_len m2).2
  unfold readL
  rw [if_neg (slot_ne_free m1 h2), lenAt_slot hn, if_neg (by omega), entOf_slot hn h2, if_pos ⟨h, rfl⟩]
theorem read_free : readL freeL = some ([], 0) := by unfold readL; rw [if_pos rfl]
theorem read_enc {e : Ent} (h : OkE e) : readL (encE e) = some e := by
  unfold encE
  by_cases h0 : e.2 = 0
  · rw [if_pos h0, okE_free h h0]; exact read_free
  · rw [if_neg h0]; exact read_slot (okE_may h h0).1 (okE_may h h0).2
theorem enc_read {t : List UInt8} {e : Ent} (h : readL t = some e) : OkE e ∧ encE e = t := by
  unfold readL at h
  split at h
  · rename_i ht
    simp only [Option.some.injEq] at h
    subst h
    exact ⟨.inl rfl, ht.symm⟩
  · split at h
    · cases h
    · split at h
      · rename_i h1 h2 h3
        simp only [Option.some.injEq] at h
        subst h
        refine ⟨.inr ⟨h3.1, ?_⟩, ?_⟩
        · have := valL_lt (t.take 4)
          have hl : (t.take 4).length ≤ 4 := List.length_take_le _ _
          have : (256 : Nat) ^ (t.take 4).length ≤ 256 ^ 4 := Nat.pow_le_pow_right (by decide) hl
          show valL (t.take 4) < 4294967296
          omega
        · unfold encE
          rw [if_neg (may_name h3.1).1]
          exact h3.2
      · cases h

/-- A directory's bytes, of its entries. -/
def encL (es : List Ent) : List UInt8 := es.flatMap encE
theorem encL_cons (e : Ent) (es : List Ent) : encL (e :: es) = encE e ++ encL es := rfl
theorem encL_append (a b : List Ent) : encL (a ++ b) = encL a ++ encL b := List.flatMap_append
theorem len_encL : ∀ {es : List Ent}, (∀ e ∈ es, OkE e) → (encL es).length = 32 * es.length
  | [], _ => rfl
  | e :: es, h => by
    rw [encL_cons, List.length_append, len_enc (h e (by simp)), len_encL (fun x hx => h x (by simp [hx])), List.length_cons]
    omega
theorem part_enc : ∀ {es : List Ent} (h : ∀ e ∈ es, OkE e) (k : Nat) (hk : k < es.length), partL (encL es) k = encE es[k]
  | e :: es, h, 0, _ => by
    unfold partL
    rw [encL_cons, Nat.mul_zero, List.drop_zero, List.take_append_of_le_length (by rw [len_enc (h e (by simp))]; exact Nat.le_refl _), List.take_of_length_le (by rw [len_enc (h e (by simp))]; exact Nat.le_refl _)]
    rfl
  | e :: es, h, k + 1, hk => by
    have he := len_enc (h e (by simp))
    have := part_enc (es := es) (fun x hx => h x (List.mem_cons_of_mem _ hx)) k (by simpa using hk)
    unfold partL at this ⊢
    rw [encL_cons, show 32 * (k + 1) = (encE e).length + 32 * k by omega, List.drop_length_add_append, this]
    rfl
theorem ent_enc {e : Ent} (h : OkE e) : entL (encE e) = e := by unfold entL; rw [read_enc h]; rfl
theorem slots_enc {es : List Ent} (h : ∀ e ∈ es, OkE e) : slotsL (encL es) = es := by
  unfold slotsL
  rw [len_encL h, Nat.mul_div_cancel_left _ (by decide)]
  apply List.ext_getElem (by simp)
  intro k h1 h2
  simp only [List.getElem_map, List.getElem_range]
  rw [part_enc h k h2, ent_enc (h _ (List.getElem_mem _))]
theorem flat_congr {α β : Type} {f g : α → List β} : ∀ {l : List α}, (∀ x ∈ l, f x = g x) → l.flatMap f = l.flatMap g
  | [], _ => rfl
  | x :: l, h => by
    rw [List.flatMap_cons, List.flatMap_cons, h x (by simp), flat_congr (fun y hy => h y (List.mem_cons_of_mem _ hy))]
/-- A text of whole slots, none of which is none's, is its entries' bytes. -/
theorem parts_join : ∀ (n : Nat) (s : List UInt8), s.length = 32 * n → s = (List.range n).flatMap (partL s)
  | 0, s, h => by simpa using h
  | n + 1, s, h => by
    rw [List.range_succ, List.flatMap_append, List.flatMap_singleton]
    have h1 : (s.take (32 * n)).length = 32 * n := by rw [List.length_take]; omega
    have h2 := parts_join n (s.take (32 * n)) h1
    have h3 : ∀ k ∈ List.range n, partL (s.take (32 * n)) k = partL s k := fun k hk => by
      have := List.mem_range.1 hk
      unfold partL
      rw [List.drop_take, List.take_take]
      congr 1
      omega
    rw [flat_congr h3] at h2
    rw [← h2]
    unfold partL
    rw [List.take_of_length_le (l := s.drop (32 * n)) (by rw [List.length_drop]; omega), List.take_append_drop]
theorem enc_slots {s : List UInt8} (h : s.length % 32 = 0) (hb : ∀ e ∈ slotsL s, e ≠ ([], 1)) : (∀ e ∈ slotsL s, OkE e) ∧ encL (slotsL s) = s := by
  have key : ∀ k, k < s.length / 32 → readL (partL s k) = some (entL (partL s k)) := fun k hk => by
    have hm : entL (partL s k) ∈ slotsL s := List.mem_map_of_mem (List.mem_range.2 hk)
    have := hb _ hm
    unfold entL at this ⊢
    cases hr : readL (partL s k) with
    | none => rw [hr] at this; exact absurd rfl this
    | some e => rfl
  refine ⟨fun e he => ?_, ?_⟩
  · obtain ⟨k, hk, rfl⟩ := List.mem_map.1 he
    exact (enc_read (key k (List.mem_range.1 hk))).1
  · have hl : s.length = 32 * (s.length / 32) := by omega
    unfold encL slotsL
    rw [List.flatMap_map]
    refine Eq.trans ?_ (parts_join _ s hl).symm
    apply flat_congr
    intro k hk
    exact (enc_read (key k (List.mem_range.1 hk))).2
end Go.Proofs.Ytfdclifdemajfaa.Dir
