/- Layer 10: the walk of dirs.Check. -/
import Derived.Test.YtpnfkilfgdnogaaGreatDoorOctetCut
import Derived.Test.YtpnfkilfgdnogaaGreatDoorShelf
import Derived.Test.YtpnfkilfgdnogaaGreatDoorRange
import Derived.Laws.RangeAny
import Derived.Laws.RangeString
import Derived.Lib.Bytealg
import Derived.WalkMore
import Derived.Lib.BufferWrite
import Derived.Laws.CopyOwn
import Derived.Outline
import Derived.Deep.RegionHeld3
import Derived.Deep.QuietTactic
import Derived.BigQuiet
import Derived.IntWalk
import Derived.Deep.Cut
import Derived.Test.YtpnfkilfgdnogaaGreatDoorBoxes
import Derived.Maps.OwnSet
import Derived.Maps.Views
import Derived.StringKeys
section
namespace Go.Proofs.YtpnfkilfgdnogaaGreatDoor.Path
set_option linter.unusedVariables false
open Go.RowKit Oct
def isName (l : List UInt8) : Bool := decide (1 ≤ l.length) && decide (l.length ≤ 27) && !(l == [46]) && !(l == [46, 46]) && l.all (fun c => !(c == 47) && !(c == 0))
def badR (r : Nat) : Bool := r == 47 || r == 0
def badC (c : UInt8) : Bool := c == 47 || c == 0
theorem get_bang (s : ByteArray) (i : Nat) (h : i < s.size) : s.get! i = s[i] := by
  simp [ByteArray.get!, getElem!_pos, h]
  rfl
theorem decode_cont (s : ByteArray) (i k : Nat) (h1 : 1 ≤ k) (h2 : k < (Utf8.decode s i).2) : i + k < s.size ∧ (s.get! (i + k)).toNat / 64 = 2 := by
  have hk : k = 1 ∨ k = 2 ∨ k = 3 ∨ 4 ≤ k := by omega
  simp only [Utf8.decode] at h2
  rcases hk with rfl | rfl | rfl | hk
  all_goals
    repeat' split at h2
    all_goals
      simp only [Bool.and_eq_true, decide_eq_true_eq, beq_iff_eq] at *
      omega
theorem bad_ascii (c : UInt8) : badC c = badR c.toNat := by
  unfold badC badR
  rw [Bool.eq_iff_iff]
  simp only [Bool.or_eq_true, beq_iff_eq]
  constructor
  · rintro (rfl | rfl)
    · exact .inl rfl
    · exact .inr rfl
  · rintro (h | h)
    · exact .inl (UInt8.toNat_inj.1 h)
    · exact .inr (UInt8.toNat_inj.1 h)
theorem idx_bad (s : ByteArray) : ∀ (f pos : Nat), s.size ≤ pos + f → (0 ≤ Lib.idxFuncFrom badR true s f pos ↔ ∃ j, ∃ h : j < s.size, pos ≤ j ∧ badC s[j] = true)
  | 0, pos, hf => by
    constructor
    · intro h; simp [Lib.idxFuncFrom] at h
    · rintro ⟨j, hj, h1, _⟩; omega
  | f + 1, pos, hf => by
    unfold Lib.idxFuncFrom
    by_cases hp : pos < s.size
    · rw [if_pos hp]
      by_cases ha : (s[pos]'hp).toNat < 128
      · rw [decode_ascii s pos hp ha]
        by_cases hb : badC s[pos] = true
        · rw [if_pos (by rw [← bad_ascii]; exact hb)]
          exact ⟨fun _ => ⟨pos, hp, Nat.le_refl _, hb⟩, fun _ => by omega⟩
        · rw [if_neg (by rw [← bad_ascii]; exact hb), idx_bad s f (pos + 1) (by omega)]
          constructor
          · rintro ⟨j, hj, h1, h2⟩; exact ⟨j, hj, by omega, h2⟩
          · rintro ⟨j, hj, h1, h2⟩
            refine ⟨j, hj, ?_, h2⟩
            rcases Nat.eq_or_lt_of_le h1 with e | e
            · subst e; exact (hb h2).elim
            · omega
      · have hd := decode_high s pos hp (by omega)
        rw [if_neg (by
          intro e
          unfold badR at e
          simp only [Bool.or_eq_true, beq_iff_eq] at e
          omega), idx_bad s f _ (by omega)]
        constructor
        · rintro ⟨j, hj, h1, h2⟩; exact ⟨j, hj, by omega, h2⟩
        · rintro ⟨j, hj, h1, h2⟩
          refine ⟨j, hj, ?_, h2⟩
          rcases Nat.lt_or_ge j (pos + (Utf8.decode s pos).2) with e | e
          · exfalso
            rw [bad_ascii] at h2
            unfold badR at h2
            simp only [Bool.or_eq_true, beq_iff_eq] at h2
            rcases Nat.eq_or_lt_of_le h1 with e1 | e1
            · subst e1; omega
            · have hc := decode_cont s pos (j - pos) (by omega) (by omega)
              have ej : pos + (j - pos) = j := by omega
              rw [ej, get_bang s j hj] at hc
              omega
          · exact e
    · rw [if_neg hp]
      constructor
      · intro h; simp at h
      · rintro ⟨j, hj, h1, _⟩; omega
theorem contains_bad (s : ByteArray) : decide (0 ≤ Lib.idxFunc badR true s) = (L s).any badC := by
  rw [Bool.eq_iff_iff, decide_eq_true_eq]
  unfold Lib.idxFunc
  rw [idx_bad s s.size 0 (by omega), List.any_eq_true]
  constructor
  · rintro ⟨j, hj, _, h⟩
    exact ⟨s[j], List.getElem_mem (l := L s) (by rw [len_L]; exact hj), h⟩
  · rintro ⟨c, hc, h⟩
    obtain ⟨j, hj, rfl⟩ := List.getElem_of_mem hc
    exact ⟨j, by rw [len_L] at hj; exact hj, Nat.zero_le _, h⟩
set_option maxHeartbeats 400000 in
theorem bad_any (x : Nat) (w : World) : Calls Tryz.prog 188 #[.int .i32 x] w fun e w' => e = .returned (.bool (badR x)) ∧ w = w' := by
  by_cases h : x = 47
  · subst h
    go_enter Tryz.func188, Tryz.ntmps188
    go_wp2
    go_ret
    exact ⟨rfl, rfl⟩
  · have e1 : ((x : Int) == 47) = false := by simp; omega
    have e2 : badR x = ((x : Int) == 0) := by
      unfold badR
      rw [Bool.eq_iff_iff]
      simp only [Bool.or_eq_true, beq_iff_eq]
      omega
    have E2 := Lib.hid e2
    clear e2
    go_enter Tryz.func188, Tryz.ntmps188
    go_wp2
    go_ret
    refine ⟨?_, rfl⟩
    rw [E2.out]
    rfl
theorem toList_L (s : ByteArray) : s.toList = L s := ByteArray.toList_eq s
set_option maxRecDepth 100000 in
set_option maxHeartbeats 400000 in
theorem name_full (s : ByteArray) (w : World) (h0 : 0 < s.size) (h27 : s.size ≤ 27) (h1 : (s.toList == [46]) = false) (h2 : (s.toList == [46, 46]) = false) (b : Bool) (hb : (L s).any badC = b) :
    Calls Tryz.prog 168 #[.string s] w fun e w' => e = .returned (.int .i64 (if b then 2 else 0)) ∧ Below w.heap.size w w' := by
  have hne := empty_no h0
  have hd : decide (27 < s.size) = false := by simp; omega
  have hd' : decide (27 < (s.size : Int)) = false := by simp; omega
  have hc := Tryz.strings_ContainsFunc 188 #[] (enters_of Tryz.func188 (by kernel_rfl) rfl) badR s w (fun W x _ => (bad_any x W).mono fun e w' h => ⟨h.1, 0, h.2.symm⟩)
  rw [contains_bad, hb] at hc
  have HC := Lib.hid hc
  clear hc hb
  go_enter Tryz.func168, Tryz.ntmps168
  go_wp2_with fail
  refine (HC.out).mono ?_
  rintro e w1 ⟨rfl, b1⟩
  cases b
  · go_wp2
    go_ret
    exact ⟨rfl, b1⟩
  · go_wp2
    go_ret
    exact ⟨rfl, b1⟩
set_option maxRecDepth 100000 in
set_option maxHeartbeats 400000 in
theorem name_long (s : ByteArray) (w : World) (hs : s.size ≤ maxLen) (h : 27 < s.size) :
    Calls Tryz.prog 168 #[.string s] w fun e w' => e = .returned (.int .i64 2) ∧ Below w.heap.size w w' := by
  unfold maxLen at hs
  have hne := empty_no (s := s) (by omega)
  go_enter Tryz.func168, Tryz.ntmps168
  go_wp2
  go_ret
  exact ⟨rfl, Below.refl _ _⟩
set_option maxRecDepth 100000 in
set_option maxHeartbeats 400000 in
theorem name_empty (w : World) :
    Calls Tryz.prog 168 #[.string ⟨#[]⟩] w fun e w' => e = .returned (.int .i64 2) ∧ Below w.heap.size w w' := by
  go_enter Tryz.func168, Tryz.ntmps168
  go_wp2
  go_ret
  exact ⟨rfl, Below.refl _ _⟩
set_option maxRecDepth 100000 in
set_option maxHeartbeats 400000 in
theorem name_dot (w : World) :
    Calls Tryz.prog 168 #[.string ⟨#[46]⟩] w fun e w' => e = .returned (.int .i64 2) ∧ Below w.heap.size w w' := by
  go_enter Tryz.func168, Tryz.ntmps168
  go_wp2
  go_ret
  exact ⟨rfl, Below.refl _ _⟩
set_option maxRecDepth 100000 in
set_option maxHeartbeats 400000 in
theorem name_dots (w : World) :
    Calls Tryz.prog 168 #[.string ⟨#[46, 46]⟩] w fun e w' => e = .returned (.int .i64 2) ∧ Below w.heap.size w w' := by
  go_enter Tryz.func168, Tryz.ntmps168
  go_wp2
  go_ret
  exact ⟨rfl, Below.refl _ _⟩
def nameE (l : List UInt8) : Int := if isName l then 0 else 2
theorem all_not_any (l : List UInt8) : l.all (fun c => !(c == 47) && !(c == 0)) = !(l.any badC) := by
  rw [List.not_any_eq_all_not]
  congr 1
  funext c
  unfold badC
  simp
theorem name_any (s : ByteArray) (w : World) (hs : s.size ≤ maxLen) :
    Calls Tryz.prog 168 #[.string s] w fun e w' => e = .returned (.int .i64 (nameE (L s))) ∧ Below w.heap.size w w' := by
  have hl := len_L s
  by_cases h0 : s.size = 0
  · rw [is_empty h0]; exact name_empty w
  · by_cases h27 : 27 < s.size
    · have e : nameE (L s) = 2 := by
        unfold nameE isName
        have : decide ((L s).length ≤ 27) = false := by simp; omega
        rw [this]; simp
      rw [e]
      exact name_long s w hs h27
    · by_cases h1 : L s = [46]
      · have e : s = ⟨#[46]⟩ := L_inj h1
        rw [e]; exact name_dot w
      · by_cases h2 : L s = [46, 46]
        · have e : s = ⟨#[46, 46]⟩ := L_inj h2
          rw [e]; exact name_dots w
        · have h := name_full s w (by omega) (by omega) (by rw [toList_L]; simpa using h1) (by rw [toList_L]; simpa using h2) _ rfl
          have e : nameE (L s) = (if (L s).any badC then 2 else 0) := by
            unfold nameE isName
            rw [all_not_any]
            have a1 : decide (1 ≤ (L s).length) = true := by simp; omega
            have a2 : decide ((L s).length ≤ 27) = true := by simp; omega
            have a3 : (L s == [46]) = false := by simpa using h1
            have a4 : (L s == [46, 46]) = false := by simpa using h2
            rw [a1, a2, a3, a4]
            cases (L s).any badC <;> rfl
          rw [e]
          exact h
end Go.Proofs.YtpnfkilfgdnogaaGreatDoor.Path
end
section
namespace Go.Proofs.YtpnfkilfgdnogaaGreatDoor.Path
set_option linter.unusedVariables false
open Oct
def fields : List UInt8 → List (List UInt8)
  | [] => [[]]
  | c :: l => if c = 47 then [] :: fields l else match fields l with
    | [] => [[c]]
    | f :: fs => (c :: f) :: fs
def tailL (ns : List (List UInt8)) : List UInt8 := (ns.map (fun n => 47 :: n)).flatten
def noSlash (n : List UInt8) : Prop := ∀ c ∈ n, c ≠ 47
def namesL (l : List UInt8) : List (List UInt8) := if l = [47] then [] else fields (l.drop 1)
theorem isName_noSlash {n : List UInt8} (h : isName n = true) : noSlash n ∧ n ≠ [] ∧ 1 ≤ n.length ∧ n.length ≤ 27 := by
  unfold isName at h
  simp only [Bool.and_eq_true, decide_eq_true_eq, List.all_eq_true] at h
  refine ⟨fun c hc e => ?_, fun e => ?_, h.1.1.1.1, h.1.1.1.2⟩
  · have := (h.2 c hc).1
    rw [e] at this
    simp at this
  · have := h.1.1.1.1
    rw [e] at this
    simp at this
structure Ok (l : List UInt8) : Prop where
  len : l.length ≤ 255
  head : ∃ r, l = 47 :: r
  names : ∀ n ∈ namesL l, isName n = true
  few : (namesL l).length ≤ 8
end Go.Proofs.YtpnfkilfgdnogaaGreatDoor.Path
end
section
namespace Go.Proofs.YtpnfkilfgdnogaaGreatDoor.Dir
set_option linter.unusedVariables false
open Oct Path
abbrev Ent := List UInt8 × Nat
def freeL : List UInt8 := List.replicate 32 0
def rowL (e : Ent) : List UInt8 := numL e.2 4 ++ (UInt8.ofNat e.1.length :: e.1)
def slotL (e : Ent) : List UInt8 := rowL e ++ List.replicate (32 - (rowL e).length) 0
def may (e : Ent) : Bool := decide (e.2 ≠ 0) && isName e.1
def encE (e : Ent) : List UInt8 := if e.2 = 0 then freeL else slotL e
def OkE (e : Ent) : Prop := e = ([], 0) ∨ (may e = true ∧ e.2 < 4294967296)
def lenAt (t : List UInt8) : Nat := (t.getD 4 0).toNat
def entOf (t : List UInt8) : Ent := ((t.drop 5).take (lenAt t), valL (t.take 4))
def readL (t : List UInt8) : Option Ent :=
  if t = freeL then some ([], 0)
  else if 27 < lenAt t then none
  else if may (entOf t) = true ∧ slotL (entOf t) = t then some (entOf t) else none
def entL (t : List UInt8) : Ent := (readL t).getD ([], 1)
def partL (s : List UInt8) (k : Nat) : List UInt8 := (s.drop (32 * k)).take 32
def slotsL (s : List UInt8) : List Ent := (List.range (s.length / 32)).map fun k => entL (partL s k)
theorem name_len {n : List UInt8} (h : isName n = true) : 1 ≤ n.length ∧ n.length ≤ 27 := ⟨(isName_noSlash h).2.2.1, (isName_noSlash h).2.2.2⟩
theorem may_name {e : Ent} (h : may e = true) : e.2 ≠ 0 ∧ isName e.1 = true := by
  simp only [may, Bool.and_eq_true, decide_eq_true_eq] at h
  exact h
theorem len_row (e : Ent) : (rowL e).length = 5 + e.1.length := by simp [rowL, len_numL]; omega
theorem len_slot {e : Ent} (h : may e = true) : (slotL e).length = 32 := by
  have := (name_len (may_name h).2).2
  unfold slotL
  rw [List.length_append, List.length_replicate, len_row]
  omega
theorem len_free : freeL.length = 32 := by simp [freeL]
theorem okE_may {e : Ent} (h : OkE e) (h0 : e.2 ≠ 0) : may e = true ∧ e.2 < 4294967296 := by
  rcases h with rfl | h
  · exact absurd rfl h0
  · exact h
theorem okE_free {e : Ent} (h : OkE e) (h0 : e.2 = 0) : e = ([], 0) := by
  rcases h with h | h
  · exact h
  · exact absurd h0 (may_name h.1).1
theorem len_enc {e : Ent} (h : OkE e) : (encE e).length = 32 := by
  unfold encE
  by_cases h0 : e.2 = 0
  · rw [if_pos h0]; exact len_free
  · rw [if_neg h0]; exact len_slot (okE_may h h0).1
theorem take_slot (e : Ent) : (slotL e).take 4 = numL e.2 4 := by
  unfold slotL rowL
  rw [List.append_assoc, List.take_append_of_le_length (by rw [len_numL]; exact Nat.le_refl _), List.take_of_length_le (by rw [len_numL]; exact Nat.le_refl _)]
theorem drop_slot (e : Ent) : (slotL e).drop 4 = UInt8.ofNat e.1.length :: (e.1 ++ List.replicate (32 - (rowL e).length) 0) := by
  unfold slotL rowL
  rw [List.append_assoc, List.drop_append_of_le_length (by rw [len_numL]; exact Nat.le_refl _), List.drop_of_length_le (by rw [len_numL]; exact Nat.le_refl _)]
  rfl
theorem lenAt_slot {e : Ent} (h : e.1.length ≤ 27) : lenAt (slotL e) = e.1.length := by
  have h1 : (slotL e).getD 4 0 = ((slotL e).drop 4).getD 0 0 := by simp [List.getD_eq_getElem?_getD]
  unfold lenAt
  rw [h1, drop_slot]
  simp [UInt8.toNat_ofNat']
  omega
theorem entOf_slot {e : Ent} (h : e.1.length ≤ 27) (h2 : e.2 < 4294967296) : entOf (slotL e) = e := by
  obtain ⟨n, i⟩ := e
  have hd : (slotL (n, i)).drop 5 = n ++ List.replicate (32 - (rowL (n, i)).length) 0 := by
    have : (slotL (n, i)).drop 5 = ((slotL (n, i)).drop 4).drop 1 := by rw [List.drop_drop]
    rw [this, drop_slot]
    rfl
  unfold entOf
  rw [lenAt_slot h, take_slot, hd, valL_numL]
  simp only [List.take_left']
  rw [Nat.mod_eq_of_lt (by simpa using h2)]
theorem slot_ne_free {e : Ent} (h : e.2 ≠ 0) (h2 : e.2 < 4294967296) : slotL e ≠ freeL := fun he => by
  have h1 : valL ((slotL e).take 4) = e.2 := by rw [take_slot, valL_numL, Nat.mod_eq_of_lt (by simpa using h2)]
  rw [he] at h1
  exact h h1.symm
theorem read_slot {e : Ent} (h : may e = true) (h2 : e.2 < 4294967296) : readL (slotL e) = some e := by
  obtain ⟨m1, m2⟩ := may_name h
  have hn := (name_len m2).2
  unfold readL
  rw [if_neg (slot_ne_free m1 h2), lenAt_slot hn, if_neg (by omega), entOf_slot hn h2, if_pos ⟨h, rfl⟩]
theorem read_free : readL freeL = some ([], 0) := by unfold readL; rw [if_pos rfl]
theorem read_enc {e : Ent} (h : OkE e) : readL (encE e) = some e := by
  unfold encE
  by_cases h0 : e.2 = 0
  · rw [if_pos h0, okE_free h h0]; exact read_free
  · rw [if_neg h0]; exact read_slot (okE_may h h0).1 (okE_may h h0).2
theorem enc_read {t : List UInt8} {e : Ent} (h : readL t = some e) : OkE e ∧ encE e = t := by
  unfold readL at h
  split at h
  · rename_i ht
    simp only [Option.some.injEq] at h
    subst h
    exact ⟨.inl rfl, ht.symm⟩
  · split at h
    · cases h
    · split at h
      · rename_i h1 h2 h3
        simp only [Option.some.injEq] at h
        subst h
        refine ⟨.inr ⟨h3.1, ?_⟩, ?_⟩
        · have := valL_lt (t.take 4)
          have hl : (t.take 4).length ≤ 4 := List.length_take_le _ _
          have : (256 : Nat) ^ (t.take 4).length ≤ 256 ^ 4 := Nat.pow_le_pow_right (by decide) hl
          show valL (t.take 4) < 4294967296
          omega
        · unfold encE
          rw [if_neg (may_name h3.1).1]
          exact h3.2
      · cases h
def encL (es : List Ent) : List UInt8 := es.flatMap encE
theorem encL_cons (e : Ent) (es : List Ent) : encL (e :: es) = encE e ++ encL es := rfl
theorem encL_append (a b : List Ent) : encL (a ++ b) = encL a ++ encL b := List.flatMap_append
theorem len_encL : ∀ {es : List Ent}, (∀ e ∈ es, OkE e) → (encL es).length = 32 * es.length
  | [], _ => rfl
  | e :: es, h => by
    rw [encL_cons, List.length_append, len_enc (h e (by simp)), len_encL (fun x hx => h x (by simp [hx])), List.length_cons]
    omega
theorem part_enc : ∀ {es : List Ent} (h : ∀ e ∈ es, OkE e) (k : Nat) (hk : k < es.length), partL (encL es) k = encE es[k]
  | e :: es, h, 0, _ => by
    unfold partL
    rw [encL_cons, Nat.mul_zero, List.drop_zero, List.take_append_of_le_length (by rw [len_enc (h e (by simp))]; exact Nat.le_refl _), List.take_of_length_le (by rw [len_enc (h e (by simp))]; exact Nat.le_refl _)]
    rfl
  | e :: es, h, k + 1, hk => by
    have he := len_enc (h e (by simp))
    have := part_enc (es := es) (fun x hx => h x (List.mem_cons_of_mem _ hx)) k (by simpa using hk)
    unfold partL at this ⊢
    rw [encL_cons, show 32 * (k + 1) = (encE e).length + 32 * k by omega, List.drop_length_add_append, this]
    rfl
theorem ent_enc {e : Ent} (h : OkE e) : entL (encE e) = e := by unfold entL; rw [read_enc h]; rfl
theorem slots_enc {es : List Ent} (h : ∀ e ∈ es, OkE e) : slotsL (encL es) = es := by
  unfold slotsL
  rw [len_encL h, Nat.mul_div_cancel_left _ (by decide)]
  apply List.ext_getElem (by simp)
  intro k h1 h2
  simp only [List.getElem_map, List.getElem_range]
  rw [part_enc h k h2, ent_enc (h _ (List.getElem_mem _))]
theorem flat_congr {α β : Type} {f g : α → List β} : ∀ {l : List α}, (∀ x ∈ l, f x = g x) → l.flatMap f = l.flatMap g
  | [], _ => rfl
  | x :: l, h => by
    rw [List.flatMap_cons, List.flatMap_cons, h x (by simp), flat_congr (fun y hy => h y (List.mem_cons_of_mem _ hy))]
theorem parts_join : ∀ (n : Nat) (s : List UInt8), s.length = 32 * n → s = (List.range n).flatMap (partL s)
  | 0, s, h => by simpa using h
  | n + 1, s, h => by
    rw [List.range_succ, List.flatMap_append, List.flatMap_singleton]
    have h1 : (s.take (32 * n)).length = 32 * n := by rw [List.length_take]; omega
    have h2 := parts_join n (s.take (32 * n)) h1
    have h3 : ∀ k ∈ List.range n, partL (s.take (32 * n)) k = partL s k := fun k hk => by
      have := List.mem_range.1 hk
      unfold partL
      rw [List.drop_take, List.take_take]
      congr 1
      omega
    rw [flat_congr h3] at h2
    rw [← h2]
    unfold partL
    rw [List.take_of_length_le (l := s.drop (32 * n)) (by rw [List.length_drop]; omega), List.take_append_drop]
theorem enc_slots {s : List UInt8} (h : s.length % 32 = 0) (hb : ∀ e ∈ slotsL s, e ≠ ([], 1)) : (∀ e ∈ slotsL s, OkE e) ∧ encL (slotsL s) = s := by
  have key : ∀ k, k < s.length / 32 → readL (partL s k) = some (entL (partL s k)) := fun k hk => by
    have hm : entL (partL s k) ∈ slotsL s := List.mem_map_of_mem (List.mem_range.2 hk)
    have := hb _ hm
    unfold entL at this ⊢
    cases hr : readL (partL s k) with
    | none => rw [hr] at this; exact absurd rfl this
    | some e => rfl
  refine ⟨fun e he => ?_, ?_⟩
  · obtain ⟨k, hk, rfl⟩ := List.mem_map.1 he
    exact (enc_read (key k (List.mem_range.1 hk))).1
  · have hl : s.length = 32 * (s.length / 32) := by omega
    unfold encL slotsL
    rw [List.flatMap_map]
    refine Eq.trans ?_ (parts_join _ s hl).symm
    apply flat_congr
    intro k hk
    exact (enc_read (key k (List.mem_range.1 hk))).2
end Go.Proofs.YtpnfkilfgdnogaaGreatDoor.Dir
end
section
namespace Go.Proofs.YtpnfkilfgdnogaaGreatDoor.Dir
set_option linter.unusedVariables false
open Oct Path
def live (es : List Ent) : List Ent := es.filter fun e => decide (e.2 ≠ 0)
def names (es : List Ent) : List (List UInt8) := (live es).map Prod.fst
def checkE (s : List UInt8) : Int :=
  if s.length % 64 ≠ 0 ∨ 2304 < s.length then 7 else if ([], 1) ∈ slotsL s then 7 else if (names (slotsL s)).Nodup then 0 else 9
structure Dir (es : List Ent) : Prop where
  ok : ∀ e ∈ es, OkE e
  even : es.length % 2 = 0
  le : es.length ≤ 72
  nodup : (names es).Nodup
theorem okE_ne {e : Ent} (h : OkE e) : e ≠ ([], 1) := fun he => by
  subst he
  rcases h with h | h
  · cases h
  · have := (may_name h.1).2
    exact absurd this (by decide)
theorem check_enc {es : List Ent} (h : Dir es) : checkE (encL es) = 0 := by
  unfold checkE
  rw [slots_enc h.ok, len_encL h.ok, if_neg (by have := h.even; have := h.le; omega), if_neg (fun hm => okE_ne (h.ok _ hm) rfl), if_pos h.nodup]
theorem dir_of {s : List UInt8} (h : checkE s = 0) : Dir (slotsL s) ∧ encL (slotsL s) = s ∧ s.length = 32 * (slotsL s).length := by
  unfold checkE at h
  split at h
  · cases h
  · split at h
    · cases h
    · split at h
      · rename_i h1 h2 h3
        obtain ⟨k1, k2⟩ := enc_slots (s := s) (by omega) (fun e he e1 => h2 (e1 ▸ he))
        have hl : (slotsL s).length = s.length / 32 := by simp [slotsL]
        exact ⟨⟨k1, by omega, by omega, h3⟩, k2, by omega⟩
      · cases h
def hit (n : List UInt8) (e : Ent) : Bool := decide (e.2 ≠ 0 ∧ e.1 = n)
def findK (n : List UInt8) (es : List Ent) : Option Nat := es.findIdx? (hit n)
def freeK (es : List Ent) : Option Nat := es.findIdx? fun e => decide (e.2 = 0)
def inoOf (n : List UInt8) (es : List Ent) : Nat := match findK n es with | some k => (es.getD k ([], 0)).2 | none => 0
theorem find_some {n : List UInt8} {es : List Ent} {k : Nat} (h : findK n es = some k) : ∃ hk : k < es.length, (es[k]'hk).2 ≠ 0 ∧ (es[k]'hk).1 = n := by
  obtain ⟨hk, h1, _⟩ := List.findIdx?_eq_some_iff_getElem.1 h
  have : hit n es[k] = true := h1
  simp only [hit, decide_eq_true_eq] at this
  exact ⟨hk, this⟩
theorem find_none {n : List UInt8} {es : List Ent} (h : findK n es = none) : ∀ e ∈ es, e.2 ≠ 0 → e.1 ≠ n := fun e he h0 h1 => by
  have := List.findIdx?_eq_none_iff.1 h e he
  simp [hit, h0, h1] at this
theorem free_some {es : List Ent} {k : Nat} (h : freeK es = some k) : ∃ hk : k < es.length, (es[k]'hk).2 = 0 := by
  obtain ⟨hk, h1, _⟩ := List.findIdx?_eq_some_iff_getElem.1 h
  exact ⟨hk, by simpa using h1⟩
theorem nodup_inj {es : List Ent} (h : (names es).Nodup) : ∀ {j k : Nat} (hj : j < es.length) (hk : k < es.length), (es[j]'hj).2 ≠ 0 → (es[k]'hk).2 ≠ 0 → (es[j]'hj).1 = (es[k]'hk).1 → j = k := by
  induction es with
  | nil => intro j k hj; simp at hj
  | cons e r ih =>
    have hr : (names r).Nodup := by
      unfold names live at h ⊢
      by_cases h0 : e.2 ≠ 0
      · rw [List.filter_cons_of_pos (by simpa using h0), List.map_cons] at h
        exact (List.nodup_cons.1 h).2
      · rw [List.filter_cons_of_neg (by simpa using h0)] at h
        exact h
    have hd : e.2 ≠ 0 → ∀ x ∈ r, x.2 ≠ 0 → x.1 ≠ e.1 := fun h0 x hx hx0 hxe => by
      unfold names live at h
      rw [List.filter_cons_of_pos (by simpa using h0), List.map_cons] at h
      refine (List.nodup_cons.1 h).1 ?_
      rw [← hxe]
      exact List.mem_map_of_mem (List.mem_filter.2 ⟨hx, by simpa using hx0⟩)
    intro j k hj hk hj0 hk0 hjk
    match j, k with
    | 0, 0 => rfl
    | 0, k + 1 => exact absurd hjk.symm (hd hj0 _ (List.getElem_mem _) hk0)
    | j + 1, 0 => exact absurd hjk (hd hk0 _ (List.getElem_mem _) hj0)
    | j + 1, k + 1 =>
      have := ih hr (by simpa using hj) (by simpa using hk) hj0 hk0 hjk
      omega
theorem find_at {n : List UInt8} {es : List Ent} (h : (names es).Nodup) {k : Nat} (hk : k < es.length) (h0 : (es[k]'hk).2 ≠ 0) (h1 : (es[k]'hk).1 = n) : findK n es = some k := by
  cases hf : findK n es with
  | none => exact absurd h1 (find_none hf _ (List.getElem_mem hk) h0)
  | some j =>
    obtain ⟨hj, j0, j1⟩ := find_some hf
    rw [nodup_inj h hj hk j0 h0 (j1.trans h1.symm)]
theorem mem_names {n : List UInt8} {es : List Ent} : n ∈ names es ↔ ∃ e ∈ es, e.2 ≠ 0 ∧ e.1 = n := by
  unfold names live
  simp only [List.mem_map, List.mem_filter, decide_eq_true_eq]
  constructor
  · rintro ⟨e, ⟨a, b⟩, c⟩; exact ⟨e, a, b, c⟩
  · rintro ⟨e, a, b, c⟩; exact ⟨e, ⟨a, b⟩, c⟩
theorem find_mem {n : List UInt8} {es : List Ent} : (findK n es).isSome = decide (n ∈ names es) := by
  cases hf : findK n es with
  | none =>
    have : ¬ (n ∈ names es) := fun hm => by
      obtain ⟨e, a, b, c⟩ := mem_names.1 hm
      exact find_none hf e a b c
    simp [this]
  | some k =>
    obtain ⟨hk, a, b⟩ := find_some hf
    have : n ∈ names es := mem_names.2 ⟨_, List.getElem_mem hk, a, b⟩
    simp [this]
def putL (s : List UInt8) (k : Nat) (t : List UInt8) : List UInt8 := s.take (32 * k) ++ t ++ s.drop (32 * (k + 1))
theorem put_enc {es : List Ent} (h : ∀ e ∈ es, OkE e) {e : Ent} (he : OkE e) {k : Nat} (hk : k < es.length) : putL (encL es) k (encE e) = encL (es.set k e) := by
  have e1 : es = es.take k ++ es[k] :: es.drop (k + 1) := by rw [List.getElem_cons_drop, List.take_append_drop]
  have l1 : (encL (es.take k)).length = 32 * k := by
    rw [len_encL (fun x hx => h x (List.mem_of_mem_take hx)), List.length_take, Nat.min_eq_left (by omega)]
  have l2 : (encE es[k]).length = 32 := len_enc (h _ (List.getElem_mem hk))
  have e2 : encL es = encL (es.take k) ++ (encE es[k] ++ encL (es.drop (k + 1))) := by
    rw [← encL_cons, ← encL_append, ← e1]
  have e3 : es.set k e = es.take k ++ e :: es.drop (k + 1) := by rw [List.set_eq_take_append_cons_drop, if_pos hk]
  unfold putL
  rw [e3, encL_append, encL_cons, e2]
  rw [List.take_append_of_le_length (by omega), List.take_of_length_le (by omega)]
  rw [show 32 * (k + 1) = (encL (es.take k)).length + 32 by omega, List.drop_length_add_append, List.drop_append_of_le_length (by omega), List.drop_of_length_le (by omega), List.nil_append, List.append_assoc]
def addL (n : List UInt8) (i : Nat) (es : List Ent) : Int × List Ent :=
  if may (n, i) = false then (2, []) else match findK n es with
  | some _ => (9, [])
  | none => match freeK es with
    | some k => (0, es.set k (n, i))
    | none => if 72 ≤ es.length then (4, []) else (0, es ++ [(n, i), ([], 0)])
def delL (n : List UInt8) (es : List Ent) : Int × List Ent :=
  match findK n es with
  | none => (3, [])
  | some k => (0, es.set k ([], 0))
end Go.Proofs.YtpnfkilfgdnogaaGreatDoor.Dir
end
section
namespace Go.Proofs.YtpnfkilfgdnogaaGreatDoor.Dir
set_option linter.unusedVariables false
open Oct Path
theorem find_set {m : List UInt8} : ∀ {es : List Ent} {k : Nat} {e : Ent} (hk : k < es.length) (h1 : hit m (es[k]'hk) = false) (h2 : hit m e = false), findK m (es.set k e) = findK m es
  | x :: r, 0, e, _, h1, h2 => by
    simp only [List.getElem_cons_zero] at h1
    unfold findK
    rw [List.set_cons_zero, List.findIdx?_cons, List.findIdx?_cons, h1, h2]
  | x :: r, k + 1, e, hk, h1, h2 => by
    have := find_set (m := m) (es := r) (k := k) (e := e) (by simpa using hk) (by simpa using h1) h2
    unfold findK at this ⊢
    rw [List.set_cons_succ, List.findIdx?_cons, List.findIdx?_cons, this]
theorem find_hit {m : List UInt8} {es : List Ent} {k : Nat} (h : findK m es = some k) : ∃ hk : k < es.length, hit m (es[k]'hk) = true := by
  obtain ⟨hk, h1, _⟩ := List.findIdx?_eq_some_iff_getElem.1 h
  exact ⟨hk, h1⟩
theorem ino_set {m : List UInt8} {es : List Ent} {k : Nat} {e : Ent} (hk : k < es.length) (h1 : hit m (es[k]'hk) = false) (h2 : hit m e = false) : inoOf m (es.set k e) = inoOf m es := by
  unfold inoOf
  rw [find_set hk h1 h2]
  cases hf : findK m es with
  | none => rfl
  | some j =>
    obtain ⟨hj, hh⟩ := find_hit hf
    have hne : k ≠ j := fun e => by subst e; rw [h1] at hh; cases hh
    simp only [List.getD_eq_getElem?_getD, List.getElem?_set_ne hne]
theorem find_app {m : List UInt8} {es r : List Ent} (h : ∀ e ∈ r, hit m e = false) : findK m (es ++ r) = findK m es := by
  unfold findK
  rw [List.findIdx?_append]
  have : List.findIdx? (hit m) r = none := List.findIdx?_eq_none_iff.2 h
  rw [this]
  cases List.findIdx? (hit m) es <;> rfl
theorem ino_app {m : List UInt8} {es r : List Ent} (h : ∀ e ∈ r, hit m e = false) : inoOf m (es ++ r) = inoOf m es := by
  unfold inoOf
  rw [find_app h]
  cases hf : findK m es with
  | none => rfl
  | some j =>
    obtain ⟨hj, hh⟩ := find_hit hf
    simp only [List.getD_eq_getElem?_getD, List.getElem?_append_left hj]
theorem ino_at {n : List UInt8} {es : List Ent} (h : (names es).Nodup) {k : Nat} (hk : k < es.length) (h0 : (es[k]'hk).2 ≠ 0) (h1 : (es[k]'hk).1 = n) : inoOf n es = (es[k]'hk).2 := by
  unfold inoOf
  rw [find_at h hk h0 h1]
  simp only [List.getD_eq_getElem?_getD, List.getElem?_eq_getElem hk, Option.getD_some]
theorem ino_none {n : List UInt8} {es : List Ent} (h : findK n es = none) : inoOf n es = 0 := by unfold inoOf; rw [h]
theorem ino_some {n : List UInt8} {es : List Ent} {k : Nat} (h : findK n es = some k) : ∃ hk : k < es.length, inoOf n es = (es[k]'hk).2 ∧ inoOf n es ≠ 0 := by
  obtain ⟨hk, h0, _⟩ := find_some h
  have e : inoOf n es = (es[k]'hk).2 := by
    unfold inoOf
    rw [h]
    simp only [List.getD_eq_getElem?_getD, List.getElem?_eq_getElem hk, Option.getD_some]
  exact ⟨hk, e, by rw [e]; exact h0⟩
theorem hit_free (m : List UInt8) {e : Ent} (h : e.2 = 0) : hit m e = false := by simp [hit, h]
theorem hit_other {m : List UInt8} {e : Ent} (h : e.1 ≠ m) : hit m e = false := by simp [hit, h]
theorem split_at {es : List Ent} {k : Nat} (hk : k < es.length) (e : Ent) : es = es.take k ++ es[k] :: es.drop (k + 1) ∧ es.set k e = es.take k ++ e :: es.drop (k + 1) := by
  refine ⟨by rw [List.getElem_cons_drop, List.take_append_drop], ?_⟩
  rw [List.set_eq_take_append_cons_drop, if_pos hk]
theorem names_app (a b : List Ent) : names (a ++ b) = names a ++ names b := by simp [names, live]
theorem names_free {e : Ent} (h : e.2 = 0) (r : List Ent) : names (e :: r) = names r := by simp [names, live, h]
theorem names_cons {e : Ent} (h : e.2 ≠ 0) (r : List Ent) : names (e :: r) = e.1 :: names r := by simp [names, live, h]
theorem count_names (es : List Ent) : (live es).length = (names es).length := by simp [names]
theorem nodup_mid {α : Type} {a b : List α} {x : α} (h : (a ++ b).Nodup) (hx : x ∉ a ++ b) : (a ++ x :: b).Nodup := by
  have p : (a ++ x :: b).Perm (x :: (a ++ b)) := List.perm_middle
  exact p.nodup_iff.2 (List.nodup_cons.2 ⟨hx, h⟩)
theorem add_ok {n : List UInt8} {i : Nat} {es es' : List Ent} (d : Dir es) (hi : i < 4294967296) (h : addL n i es = (0, es')) :
    Dir es' ∧ (live es').length = (live es).length + 1 ∧ inoOf n es = 0 ∧ inoOf n es' = i ∧ i ≠ 0 ∧ (∀ m, m ≠ n → inoOf m es' = inoOf m es ∧ findK m es' = findK m es) ∧ ((∃ k, k < es.length ∧ es' = es.set k (n, i) ∧ freeK es = some k) ∨ (freeK es = none ∧ es' = es ++ [(n, i), ([], 0)])) := by
  unfold addL at h
  by_cases hm : may (n, i) = true
  · rw [if_neg (by simp [hm])] at h
    obtain ⟨h0, hn⟩ := may_name hm
    have okN : OkE (n, i) := .inr ⟨hm, hi⟩
    cases hf : findK n es with
    | some k => rw [hf] at h; simp at h
    | none =>
      rw [hf] at h
      simp only at h
      have hnn : n ∉ names es := fun hc => by
        obtain ⟨e, a, b, c⟩ := mem_names.1 hc
        exact find_none hf e a b c
      cases hq : freeK es with
      | some k =>
        rw [hq] at h
        simp only [Prod.mk.injEq, true_and] at h
        subst h
        obtain ⟨hk, hz⟩ := free_some hq
        obtain ⟨s1, s2⟩ := split_at hk (n, i)
        have e1 : names es = names (es.take k) ++ names (es.drop (k + 1)) := by rw [s1, names_app, names_free hz]; rw [← s1]
        have e2 : names (es.set k (n, i)) = names (es.take k) ++ n :: names (es.drop (k + 1)) := by rw [s2, names_app, names_cons h0]
        have hnd : (names (es.set k (n, i))).Nodup := by
          rw [e2]
          exact nodup_mid (e1 ▸ d.nodup) (e1 ▸ hnn)
        refine ⟨⟨fun e he => ?_, by simpa using d.even, by simpa using d.le, hnd⟩, ?_, ino_none hf, ?_, h0, fun m hmn => ⟨ino_set hk (hit_free m hz) (hit_other (by simpa using Ne.symm hmn)), find_set hk (hit_free m hz) (hit_other (by simpa using Ne.symm hmn))⟩, .inl ⟨k, hk, rfl, rfl⟩⟩
        · rcases List.mem_or_eq_of_mem_set he with h1 | h1
          · exact d.ok e h1
          · rw [h1]; exact okN
        · rw [count_names, count_names, e1, e2]; simp; omega
        · have := ino_at (n := n) hnd (k := k) (by simpa using hk) (by simpa using h0) (by simp)
          simpa using this
      | none =>
        rw [hq] at h
        simp only at h
        split at h
        · simp at h
        · rename_i hl
          simp only [Prod.mk.injEq, true_and] at h
          subst h
          have e2 : names (es ++ [(n, i), ([], 0)]) = names es ++ [n] := by rw [names_app, names_cons h0, names_free rfl]; rfl
          have hnd : (names (es ++ [(n, i), ([], 0)])).Nodup := by
            rw [e2]
            exact nodup_mid (by simpa using d.nodup) (by simpa using hnn)
          have hoth : ∀ m, m ≠ n → ∀ e ∈ [((n, i) : Ent), ([], 0)], hit m e = false := fun m hmn e he => by
            simp only [List.mem_cons, List.not_mem_nil, or_false] at he
            rcases he with rfl | rfl
            · exact hit_other (by simpa using Ne.symm hmn)
            · exact hit_free m rfl
          refine ⟨⟨fun e he => ?_, by have := d.even; simp; omega, by have := d.even; simp; omega, hnd⟩, ?_, ino_none hf, ?_, h0, fun m hmn => ⟨ino_app (hoth m hmn), find_app (hoth m hmn)⟩, .inr ⟨rfl, rfl⟩⟩
          · rcases List.mem_append.1 he with h1 | h1
            · exact d.ok e h1
            · simp only [List.mem_cons, List.not_mem_nil, or_false] at h1
              rcases h1 with rfl | rfl
              · exact okN
              · exact .inl rfl
          · rw [count_names, count_names, e2]; simp
          · have := ino_at (n := n) hnd (k := es.length) (by simp) (by simpa using h0) (by simp)
            simpa using this
  · rw [if_pos (by simpa using hm)] at h
    simp at h
theorem del_ok {n : List UInt8} {es es' : List Ent} (d : Dir es) (h : delL n es = (0, es')) :
    Dir es' ∧ (live es).length = (live es').length + 1 ∧ inoOf n es' = 0 ∧ inoOf n es ≠ 0 ∧ (∀ m, m ≠ n → inoOf m es' = inoOf m es ∧ findK m es' = findK m es) ∧ (∃ k, findK n es = some k ∧ k < es.length ∧ es' = es.set k ([], 0)) := by
  unfold delL at h
  cases hf : findK n es with
  | none => rw [hf] at h; simp at h
  | some k =>
    rw [hf] at h
    simp only [Prod.mk.injEq, true_and] at h
    subst h
    obtain ⟨hk, k0, k1⟩ := find_some hf
    obtain ⟨s1, s2⟩ := split_at hk ([], 0)
    have e1 : names es = names (es.take k) ++ n :: names (es.drop (k + 1)) := by rw [s1, names_app, names_cons k0, k1]; rw [← s1]
    have e2 : names (es.set k ([], 0)) = names (es.take k) ++ names (es.drop (k + 1)) := by rw [s2, names_app, names_free rfl]
    have hp : (n :: (names (es.take k) ++ names (es.drop (k + 1)))).Nodup := by
      have p : (names (es.take k) ++ n :: names (es.drop (k + 1))).Perm (n :: (names (es.take k) ++ names (es.drop (k + 1)))) := List.perm_middle
      exact p.nodup_iff.1 (e1 ▸ d.nodup)
    obtain ⟨hnn, hnd⟩ := List.nodup_cons.1 hp
    refine ⟨⟨fun e he => ?_, by simpa using d.even, by simpa using d.le, by rw [e2]; exact hnd⟩, ?_, ?_, (ino_some hf).2.2, fun m hmn => ⟨ino_set hk (hit_other (by rw [k1]; exact Ne.symm hmn)) (hit_free m rfl), find_set hk (hit_other (by rw [k1]; exact Ne.symm hmn)) (hit_free m rfl)⟩, ⟨k, rfl, hk, rfl⟩⟩
    · rcases List.mem_or_eq_of_mem_set he with h1 | h1
      · exact d.ok e h1
      · rw [h1]; exact .inl rfl
    · rw [count_names, count_names, e1, e2]; simp; omega
    · refine ino_none ?_
      have hq := find_mem (n := n) (es := es.set k ([], 0))
      rw [e2, show decide (n ∈ names (es.take k) ++ names (es.drop (k + 1))) = false by simpa using hnn] at hq
      cases hz : findK n (es.set k ([], 0)) with
      | none => rfl
      | some j => rw [hz] at hq; cases hq
end Go.Proofs.YtpnfkilfgdnogaaGreatDoor.Dir
end
section
namespace Go.Proofs.YtpnfkilfgdnogaaGreatDoor.Oct
set_option linter.unusedVariables false
open Go.RowKit
def padB (s : ByteArray) (n : Nat) : ByteArray := B (L s ++ List.replicate (n - s.size) 0)
theorem repeat_zero : ∀ c : Nat, Lib.repeatL [0] c = List.replicate c (0 : UInt8)
  | 0 => rfl
  | c + 1 => by rw [Lib.repeatL, repeat_zero c]; rfl
theorem pad_join (s : ByteArray) (n : Nat) : s ++ ⟨(List.replicate (n - s.size) (0 : UInt8)).toArray⟩ = padB s n := by
  rw [append_B]; rfl
set_option maxRecDepth 100000 in
set_option maxHeartbeats 400000 in
theorem rpad_ok (s : ByteArray) (n : Nat) (w : World) (hn : n ≤ 65536) (h : s.size ≤ n) :
    Calls Tryz.prog 136 #[.string s, .int .i64 n] w fun e w' => e = .returned (.tuple #[.string (padB s n), .int .i64 0]) ∧ Below w.heap.size w w' := by
  have t1 : decide ((n : Int) < 0) = false := by simp
  have t2 : decide (65536 < (n : Int)) = false := by simp; omega
  have hmk := run_made (n - s.size) (by omega) w
  have e : ((n - s.size : Nat) : Int) = ((n : Int) - (s.size : Int)) := by omega
  rw [e] at hmk
  clear e
  have hback := run_back (w.alloc (.cells (madeCells #[.int .u8 0] (n - s.size)) 5)) w.heap.size (n - s.size) (List.replicate (n - s.size) 0) (fun _ => .int .u8 0) (by rw [List.length_replicate]; exact World.rowIs_made w _ _ _) (fun j hj => by simp)
  rw [List.length_replicate] at hback
  have EJ := Lib.hid (pad_join s n)
  have z : (B (List.replicate (n - s.size) 0)).size ≤ 65536 := by rw [size_B, List.length_replicate]; omega
  have EB := Lib.hid (show B (List.replicate (n - s.size) 0) = ⟨(List.replicate (n - s.size) (0 : UInt8)).toArray⟩ from rfl)
  rw [← EB.out] at EJ
  clear EB
  generalize B (List.replicate (n - s.size) 0) = r at *
  go_enter Tryz.func136, Tryz.ntmps136
  go_wp2
  go_ret2
  refine ⟨?_, (Below.refl _ _).alloc (Nat.le_refl _) _⟩
  rw [← EJ.out]
  rfl
end Go.Proofs.YtpnfkilfgdnogaaGreatDoor.Oct
end
section
namespace Go.Proofs.YtpnfkilfgdnogaaGreatDoor.Dir
set_option linter.unusedVariables false
set_option linter.unusedSimpArgs false
open Go.RowKit Oct Path
def zero32 : Array Value := #[.int .u8 0, .int .u8 0, .int .u8 0, .int .u8 0, .int .u8 0, .int .u8 0, .int .u8 0, .int .u8 0, .int .u8 0, .int .u8 0, .int .u8 0, .int .u8 0, .int .u8 0, .int .u8 0, .int .u8 0, .int .u8 0, .int .u8 0, .int .u8 0, .int .u8 0, .int .u8 0, .int .u8 0, .int .u8 0, .int .u8 0, .int .u8 0, .int .u8 0, .int .u8 0, .int .u8 0, .int .u8 0, .int .u8 0, .int .u8 0, .int .u8 0, .int .u8 0]
set_option maxRecDepth 100000 in
set_option maxHeartbeats 400000 in
theorem free_any (w : World) : Calls Tryz.prog 134 #[] w fun e w' => e = .returned (.string (B freeL)) ∧ Below w.heap.size w w' := by
  go_enter Tryz.func134, Tryz.ntmps134
  go_wp2_with fail
  have hr := Tryz.strings_Repeat ⟨#[0]⟩ 32 w (by omega) (by
    have : (⟨#[0]⟩ : ByteArray).size = 1 := rfl
    rw [this]; omega)
  have e2 : Lib.repeatL (⟨#[0]⟩ : ByteArray).data.toList 32 = freeL := repeat_zero 32
  rw [e2] at hr
  refine hr.mono ?_
  rintro e w1 ⟨rfl, b1⟩
  generalize hf : (⟨freeL.toArray⟩ : ByteArray) = f at *
  have HF := Lib.hid hf
  clear hf hr e2
  go_wp2
  go_ret
  exact ⟨by rw [← HF.out]; rfl, b1⟩
set_option maxRecDepth 100000 in
set_option maxHeartbeats 400000 in
theorem may_any (nm : ByteArray) (i : Nat) (w : World) (hs : nm.size ≤ maxLen) : Calls Tryz.prog 129 #[.agg #[.string nm, .int .u32 i]] w fun e w' => e = .returned (.bool (may (L nm, i))) ∧ Below w.heap.size w w' := by
  by_cases h0 : i = 0
  · subst h0
    go_enter Tryz.func129, Tryz.ntmps129
    go_wp2
    go_ret
    exact ⟨rfl, (Below.refl _ _).alloc (Nat.le_refl _) _⟩
  · have NM := Lib.hid (fun W => name_any nm W hs)
    have t0 : ((i : Int) != 0) = true := by simp; omega
    have t1 : (i != 0) = true := by simp; omega
    have E : Hid (may (L nm, i) = (nameE (L nm) == 0)) := Lib.hid (by
      unfold may nameE
      cases isName (L nm) <;> simp [h0])
    generalize may (L nm, i) = mv at *
    generalize nameE (L nm) = ne at *
    clear h0
    go_enter Tryz.func129, Tryz.ntmps129
    go_wp2_with fail
    refine (NM.out _).mono ?_
    rintro e w1 ⟨rfl, b1⟩
    go_wp2
    go_ret
    refine ⟨?_, ((Below.refl _ w).alloc (Nat.le_refl _) _).trans (b1.mono (by simp))⟩
    rw [E.out]
    rfl
set_option maxRecDepth 100000 in
set_option maxHeartbeats 400000 in
theorem put_any (s t : ByteArray) (k : Nat) (w : World) (hs : s.size ≤ 100000) (ht : t.size ≤ 100000) (hk : 32 * (k + 1) ≤ s.size) : Calls Tryz.prog 132 #[.string s, .int .i64 k, .string t] w fun e w' => e = .returned (.string (B (putL (L s) k (L t)))) ∧ ∃ n, w' = w.drewN n := by
  have E : Hid (s.extract 0 (k * 32) ++ t ++ s.extract ((k + 1) * 32) s.size = B (putL (L s) k (L t))) := Lib.hid (by
    unfold putL
    rw [ex_front, ex_rest, append_B, append_B, L_B, L_B, L_B, Nat.mul_comm k 32, Nat.mul_comm (k + 1) 32])
  generalize B (putL (L s) k (L t)) = res at *
  have w1 : IntKind.i64.wrap ((k : Int) * 32) = (k : Int) * 32 := IntWalk.i64_in _ (by omega)
  have w2 : IntKind.i64.wrap ((k : Int) + 1) = (k : Int) + 1 := IntWalk.i64_in _ (by omega)
  have w3 : IntKind.i64.wrap (((k : Int) + 1) * 32) = ((k : Int) + 1) * 32 := IntWalk.i64_in _ (by omega)
  have a1 : (0 : Int) ≤ (k : Int) * 32 := by omega
  have a2 : (k : Int) * 32 ≤ (s.size : Int) := by omega
  have a3 : (0 : Int) ≤ ((k : Int) + 1) * 32 := by omega
  have a4 : ((k : Int) + 1) * 32 ≤ (s.size : Int) := by omega
  have n1 : ((k : Int) * 32).toNat = k * 32 := by omega
  have n2 : (((k : Int) + 1) * 32).toNat = (k + 1) * 32 := by omega
  have z1 : (s.extract 0 (k * 32)).size ≤ 100000 := by rw [ex_front, size_B, List.length_take, len_L]; omega
  have z2 : (s.extract 0 (k * 32) ++ t).size ≤ 200000 := by rw [append_B, size_B, List.length_append, len_L, len_L]; omega
  have z3 : (s.extract ((k + 1) * 32) s.size).size ≤ 100000 := by rw [ex_rest, size_B, List.length_drop, len_L]; omega
  clear hk
  go_enter Tryz.func132, Tryz.ntmps132
  go_wp2
  go_quiet (fail)
  go_wp2
  go_ret
  exact ⟨by rw [← E.out]; rfl, nq, rfl⟩
set_option maxRecDepth 100000 in
set_option maxHeartbeats 400000 in
theorem slot_any (nm : ByteArray) (i : Nat) (w : World) (hs : nm.size ≤ 27) (hi : i < 4294967296) : Calls Tryz.prog 133 #[.agg #[.string nm, .int .u32 i]] w fun e w' => e = .returned (.string (B (slotL (L nm, i)))) ∧ Below w.heap.size w w' := by
  have NU := Lib.hid (fun W => num_ok i 4 W (by decide) (by simpa using hi))
  have TX := Lib.hid (fun W => text8_ok nm W (by omega))
  go_enter Tryz.func133, Tryz.ntmps133
  go_wp2_with fail
  refine (NU.out _).mono ?_
  rintro e w1 ⟨rfl, b1⟩
  have k0 : w1.cell? ⟨w.heap.size, 0, none⟩ = some (.string nm) := (b1.cell (p := ⟨w.heap.size, 0, none⟩) (by simp; omega)).trans (by go_keep)
  have kA : w1.heap[w.heap.size + 1]? = some (.cells zero32 274 (0, 0)) := (b1.block _ (by simp)).trans (by
    have := heap_alloc_new (w.alloc (.cells #[.string nm, .int .u32 i] 216)) (.cells zero32 274)
    rw [World.size_alloc] at this
    exact this)
  have bb1 : Below w.heap.size w w1 := (((Below.refl _ w).alloc (Nat.le_refl _) _).alloc (by simp) _).trans (b1.mono (by simp; omega))
  clear b1 NU
  go_wp2_with fail
  refine (TX.out _).mono ?_
  rintro e w2 ⟨rfl, b2⟩
  have hl1 : w.heap.size + 1 < w1.heap.size := lt_of_block kA
  have kB : w2.heap[w.heap.size + 1]? = some (.cells zero32 274 (0, 0)) := (b2.block _ hl1).trans kA
  have bb2 : Below w.heap.size w w2 := bb1.trans (b2.mono (by omega))
  clear b2 bb1 kA k0 TX
  have r1 : (B (numL i 4)).size = 4 := by rw [size_B, len_numL]
  have r2 : (B (UInt8.ofNat nm.size :: L nm)).size ≤ 28 := by rw [size_B, List.length_cons, len_L]; omega
  have ER : Hid (L (B (numL i 4) ++ B (UInt8.ofNat nm.size :: L nm)) = rowL (L nm, i)) := Lib.hid (by rw [B_append, L_B]; rfl)
  have hlen : (rowL (L nm, i)).length ≤ 32 := by rw [len_row, len_L]; omega
  have EL : Hid ((slotL (L nm, i)).length = 32) := Lib.hid (by
    unfold slotL
    rw [List.length_append, List.length_replicate]
    omega)
  have ES : Hid (slotL (L nm, i) = rowL (L nm, i) ++ List.replicate (32 - (rowL (L nm, i)).length) 0) := Lib.hid rfl
  generalize hsl : slotL (L nm, i) = sl at *
  have HSL := Lib.hid hsl
  clear hsl
  generalize rowL (L nm, i) = rw_ at *
  generalize B (numL i 4) = q1 at *
  generalize B (UInt8.ofNat nm.size :: L nm) = q2 at *
  have hsz : (q1 ++ q2).size = rw_.length := by rw [← len_L, ER.out]
  have HC := Go.Lib.run_copy_row_string (P := Tryz.prog) w2 52 9 3 5 (w.heap.size + 1) 0 32 32 (q1 ++ q2) zero32 274 Tryz.underlying52 (by kernel_rfl) kB (by omega) (by rw [hsz]; show 0 + _ ≤ 32; omega)
  have EC : (zero32.toList.take 0 ++ Lib.byteCells (q1 ++ q2).data.toList ++ zero32.toList.drop (0 + (q1 ++ q2).size)).toArray = (Lib.byteCells sl).toArray := by
    rw [show (q1 ++ q2).data.toList = L (q1 ++ q2) from rfl, ER.out, hsz, List.take_zero, List.nil_append, Nat.zero_add]
    rw [show zero32.toList = Lib.byteCells (List.replicate 32 0) from rfl, ES.out]
    unfold Lib.byteCells
    rw [← List.map_drop, ← List.map_append, List.drop_replicate]
  rw [EC] at HC
  have HB := run_convert_bytes_back (P := Tryz.prog) (w2.setRow (w.heap.size + 1) (Lib.byteCells sl).toArray) 52 9 5 ⟨w.heap.size + 1, 0, none⟩ 32 sl Tryz.underlying52 Tryz.underlying5 Tryz.underlying9 (fun j hj => by
    have e1 : ((⟨w.heap.size + 1, 0, none⟩ : Addr).add j) = ⟨w.heap.size + 1, j, none⟩ := by unfold Addr.add; simp; omega
    rw [e1, cell_setRow_same _ _ _ _ _ _ _ kB]
    simp [Lib.byteCells, hj])
  rw [EL.out] at HB
  have bb3 : Below w.heap.size w (w2.setRow (w.heap.size + 1) (Lib.byteCells sl).toArray) := below_setRow bb2 (by omega) _
  clear EC kB hl1 bb2 hsz hlen
  go_wp2
  go_ret
  exact ⟨by rw [HSL.out]; rfl, bb3⟩
end Go.Proofs.YtpnfkilfgdnogaaGreatDoor.Dir
end
section
namespace Go.Proofs.YtpnfkilfgdnogaaGreatDoor.Dir
set_option linter.unusedVariables false
set_option linter.unusedSimpArgs false
open Go.RowKit Oct Path
def entV (e : Ent) : Value := .agg #[.string (B e.1), .int .u32 e.2]
def readV (t : List UInt8) : Value := match readL t with
  | some e => .tuple #[entV e, .bool true]
  | none => .tuple #[entV ([], 0), .bool false]
theorem readV_some {t : List UInt8} {e : Ent} (h : readL t = some e) : readV t = .tuple #[.agg #[.string (B e.1), .int .u32 e.2], .bool true] := by unfold readV; rw [h]; rfl
theorem readV_none {t : List UInt8} (h : readL t = none) : readV t = .tuple #[.agg #[.string ⟨#[]⟩, .int .u32 0], .bool false] := by unfold readV; rw [h]; rfl
set_option maxRecDepth 100000 in
set_option maxHeartbeats 1000000 in
theorem read_free_walk (w : World) : Calls Tryz.prog 170 #[.string (B freeL)] w fun e w' => e = .returned (.tuple #[.agg #[.string ⟨#[]⟩, .int .u32 0], .bool true]) ∧ Below w.heap.size w w' := by
  obtain ⟨f, hf⟩ : ∃ f, B freeL = f := ⟨_, rfl⟩
  have FA := Lib.hid (fun W => free_any W)
  rw [hf] at FA
  rw [hf]
  clear hf
  go_enter Tryz.func170, Tryz.ntmps170
  go_wp2_with fail
  refine (FA.out _).mono ?_
  rintro e w1 ⟨rfl, b1⟩
  have hB : SBox w1 w.heap.size 216 #[.string ⟨#[]⟩, .int .u32 0] := (SBox.new w _ _).later b1
  have c0 := hB.cell 0
  have c1 := hB.cell 1
  have f0 := hB.free 0
  have f1 := hB.free 1
  have hl := hB.lt
  have bb : Below w.heap.size w w1 := ((Below.refl _ w).alloc (Nat.le_refl _) _).trans (b1.mono (by simp))
  simp only [List.getElem?_toArray, List.getElem?_cons_zero, List.getElem?_cons_succ] at c0 c1
  have HB := Lib.hid hB
  clear b1 FA hB
  go_wp2
  exact bodyPost_ret (v := .tuple #[.agg #[.string ⟨#[]⟩, .int .u32 0], .bool true]) (by simp [results, Tryz.results170, go_sem, c0, c1]) rfl ⟨rfl, (bb.setCell (p := ⟨w.heap.size, 0, none⟩) (Nat.le_refl _) _).setCell (p := ⟨w.heap.size, 1, none⟩) (Nat.le_refl _) _⟩
set_option maxRecDepth 100000 in
set_option maxHeartbeats 1000000 in
theorem read_long_walk (s : ByteArray) (w : World) (h4 : 4 < s.size) (hs1 : 32 ≤ s.size) (hs2 : s.size ≤ 32) (hf : L s ≠ freeL) (n : Nat) (hn : s[4].toNat = n) (h27 : 27 < n) : Calls Tryz.prog 170 #[.string s] w fun e w' => e = .returned (.tuple #[.agg #[.string ⟨#[]⟩, .int .u32 0], .bool false]) ∧ Below w.heap.size w w' := by
  have n8 : n < 256 := by have := s[4].toNat_lt; omega
  obtain ⟨f, hf2⟩ : ∃ f, B freeL = f := ⟨_, rfl⟩
  have FA := Lib.hid (fun W => free_any W)
  have q1 : (s.toList == f.toList) = false := by
    rw [← hf2, toList_L, toList_L, L_B]
    simpa using hf
  have q2 : decide (s.toList = f.toList) = false := by simpa using q1
  rw [hf2] at FA
  clear hf hf2
  go_enter Tryz.func170, Tryz.ntmps170
  go_wp2_with fail
  refine (FA.out _).mono ?_
  rintro e w1 ⟨rfl, b1⟩
  have hB : SBox w1 w.heap.size 216 #[.string ⟨#[]⟩, .int .u32 0] := (SBox.new w _ _).later b1
  have c0 := hB.cell 0
  have c1 := hB.cell 1
  have f0 := hB.free 0
  have f1 := hB.free 1
  have hl := hB.lt
  have bb : Below w.heap.size w w1 := ((Below.refl _ w).alloc (Nat.le_refl _) _).trans (b1.mono (by simp))
  simp only [List.getElem?_toArray, List.getElem?_cons_zero, List.getElem?_cons_succ] at c0 c1
  clear b1 FA hB
  go_wp2
  exact bodyPost_ret (v := .tuple #[.agg #[.string ⟨#[]⟩, .int .u32 0], .bool false]) (by simp [results, Tryz.results170, go_sem, c0, c1]) rfl ⟨rfl, (bb.setCell (p := ⟨w.heap.size, 0, none⟩) (Nat.le_refl _) _).setCell (p := ⟨w.heap.size, 1, none⟩) (Nat.le_refl _) _⟩
set_option maxRecDepth 100000 in
set_option maxHeartbeats 1000000 in
theorem read_rest_walk (s : ByteArray) (w : World) (h4 : 4 < s.size) (hs1 : 32 ≤ s.size) (hs2 : s.size ≤ 32) (hf : L s ≠ freeL) (n : Nat) (hn : s[4].toNat = n) (h27 : n ≤ 27) (i : Nat) (hi : valL ((L s).take 4) = i) (hi32 : i < 4294967296) (mv sv : Bool) (hmv : may (((L s).drop 5).take n, i) = mv) (hsv : decide (slotL (((L s).drop 5).take n, i) = L s) = sv) :
    Calls Tryz.prog 170 #[.string s] w fun e w' => e = .returned (if mv && sv then .tuple #[.agg #[.string (B (((L s).drop 5).take n)), .int .u32 i], .bool true] else .tuple #[.agg #[.string ⟨#[]⟩, .int .u32 0], .bool false]) ∧ Below w.heap.size w w' := by
  have EX : Hid (s.extract 5 (5 + n) = B (((L s).drop 5).take n)) := Lib.hid (by
    apply L_inj
    show (s.extract 5 (5 + n)).data.toList = _
    rw [ByteArray.data_extract, Array.toList_extract, List.extract_eq_take_drop]
    rw [show 5 + n - 5 = n by omega]
    rfl)
  have E4 : Hid (s.extract 0 4 = B ((L s).take 4)) := Lib.hid (ex_front s 4)
  have GT := Lib.hid (fun W => get_ok (B ((L s).take 4)) W (by rw [size_B, List.length_take]; omega))
  rw [L_B, hi] at GT
  have hnl : (B (((L s).drop 5).take n)).size ≤ 27 := by rw [size_B, List.length_take]; omega
  have MY := Lib.hid (fun W => may_any (B (((L s).drop 5).take n)) i W (by unfold maxLen; omega))
  have SL := Lib.hid (fun W => slot_any (B (((L s).drop 5).take n)) i W hnl hi32)
  rw [L_B, hmv] at MY
  rw [L_B] at SL
  have a1 : (0 : Int) ≤ 5 + (n : Int) := by omega
  have a2 : (5 : Int) ≤ 5 + (n : Int) := by omega
  have a3 : 5 + (n : Int) ≤ (s.size : Int) := by omega
  have a4 : (5 + (n : Int)).toNat = 5 + n := by omega
  have a5 : (4 : Int) ≤ (s.size : Int) := by omega
  have a6 : 4 ≤ s.size := by omega
  have a7 : 5 + n ≤ s.size := by omega
  obtain ⟨sl, hsl⟩ : ∃ x, B (slotL (((L s).drop 5).take n, i)) = x := ⟨_, rfl⟩
  have p1 : (sl.toList == s.toList) = sv := by
    rw [← hsl, toList_L, toList_L, L_B, ← hsv]
    rw [Bool.eq_iff_iff]; simp
  have p2 : decide (sl.toList = s.toList) = sv := by rw [← p1, Bool.eq_iff_iff]; simp
  have p3 : (sl.toList != s.toList) = !sv := by rw [bne, p1]
  rw [hsl] at SL
  generalize hnm : B (((L s).drop 5).take n) = nm at *
  have HNM := Lib.hid hnm
  generalize hx4 : B ((L s).take 4) = x4 at *
  clear hsl hnm hx4 hmv hsv hi
  have n8 : n < 256 := by have := s[4].toNat_lt; omega
  obtain ⟨f, hf2⟩ : ∃ f, B freeL = f := ⟨_, rfl⟩
  have FA := Lib.hid (fun W => free_any W)
  have q1 : (s.toList == f.toList) = false := by
    rw [← hf2, toList_L, toList_L, L_B]
    simpa using hf
  have q2 : decide (s.toList = f.toList) = false := by simpa using q1
  rw [hf2] at FA
  clear hf hf2
  go_enter Tryz.func170, Tryz.ntmps170
  go_wp2_with fail
  refine (FA.out _).mono ?_
  rintro e w1 ⟨rfl, b1⟩
  have hB : SBox w1 w.heap.size 216 #[.string ⟨#[]⟩, .int .u32 0] := (SBox.new w _ _).later b1
  have c0 := hB.cell 0
  have c1 := hB.cell 1
  have f0 := hB.free 0
  have f1 := hB.free 1
  have hl := hB.lt
  have bb : Below w.heap.size w w1 := ((Below.refl _ w).alloc (Nat.le_refl _) _).trans (b1.mono (by simp))
  simp only [List.getElem?_toArray, List.getElem?_cons_zero, List.getElem?_cons_succ] at c0 c1
  clear b1 FA
  go_wp2_with fail
  rw [E4.out]
  refine (GT.out _).mono ?_
  rintro e w2 ⟨rfl, rfl⟩
  go_wp2_with fail
  rw [EX.out]
  have hB2 : SBox ((w1.setCell ⟨w.heap.size, 0, none⟩ (.string nm)).setCell ⟨w.heap.size, 1, none⟩ (.int .u32 i)) w.heap.size 216 #[.string nm, .int .u32 i] := (hB.set 0 (.string nm)).set 1 (.int .u32 i)
  have bb2 : Below w.heap.size w ((w1.setCell ⟨w.heap.size, 0, none⟩ (.string nm)).setCell ⟨w.heap.size, 1, none⟩ (.int .u32 i)) := (bb.setCell (p := ⟨w.heap.size, 0, none⟩) (Nat.le_refl _) _).setCell (p := ⟨w.heap.size, 1, none⟩) (Nat.le_refl _) _
  clear c0 c1 f0 f1 hl hB bb GT
  refine (MY.out _).mono ?_
  rintro e w3 ⟨rfl, b3⟩
  have hB3 : SBox w3 w.heap.size 216 #[.string nm, .int .u32 i] := hB2.later b3
  have bb3 : Below w.heap.size w w3 := bb2.trans (b3.mono (Nat.le_of_lt hB2.lt))
  have c0 := hB3.cell 0
  have c1 := hB3.cell 1
  have f0 := hB3.free 0
  have f1 := hB3.free 1
  have hl := hB3.lt
  simp only [List.getElem?_toArray, List.getElem?_cons_zero, List.getElem?_cons_succ] at c0 c1
  clear b3 hB2 bb2 MY
  cases mv
  · go_wp2
    exact bodyPost_ret (v := .tuple #[.agg #[.string ⟨#[]⟩, .int .u32 0], .bool false]) (by simp [results, Tryz.results170, go_sem, c0, c1]) rfl ⟨rfl, (bb3.setCell (p := ⟨w.heap.size, 0, none⟩) (Nat.le_refl _) _).setCell (p := ⟨w.heap.size, 1, none⟩) (Nat.le_refl _) _⟩
  · go_wp2_with fail
    refine (SL.out _).mono ?_
    rintro e w4 ⟨rfl, b4⟩
    have hB4 : SBox w4 w.heap.size 216 #[.string nm, .int .u32 i] := hB3.later b4
    have bb4 : Below w.heap.size w w4 := bb3.trans (b4.mono (Nat.le_of_lt hB3.lt))
    clear c0 c1 f0 f1 hl hB3 bb3 b4 SL
    have c0 := hB4.cell 0
    have c1 := hB4.cell 1
    have f0 := hB4.free 0
    have f1 := hB4.free 1
    have hl := hB4.lt
    simp only [List.getElem?_toArray, List.getElem?_cons_zero, List.getElem?_cons_succ] at c0 c1
    clear hB4
    cases sv
    · go_wp2
      exact bodyPost_ret (v := .tuple #[.agg #[.string ⟨#[]⟩, .int .u32 0], .bool false]) (by simp [results, Tryz.results170, go_sem, c0, c1]) rfl ⟨rfl, (bb4.setCell (p := ⟨w.heap.size, 0, none⟩) (Nat.le_refl _) _).setCell (p := ⟨w.heap.size, 1, none⟩) (Nat.le_refl _) _⟩
    · go_wp2
      exact bodyPost_ret (v := .tuple #[.agg #[.string nm, .int .u32 i], .bool true]) (by simp [results, Tryz.results170, go_sem, c0, c1]) rfl ⟨rfl, (bb4.setCell (p := ⟨w.heap.size, 0, none⟩) (Nat.le_refl _) _).setCell (p := ⟨w.heap.size, 1, none⟩) (Nat.le_refl _) _⟩
theorem read_any (s : ByteArray) (w : World) (hs : s.size = 32) : Calls Tryz.prog 170 #[.string s] w fun e w' => e = .returned (readV (L s)) ∧ Below w.heap.size w w' := by
  by_cases hf : L s = freeL
  · have e : s = B freeL := L_inj (by rw [hf, L_B])
    rw [e, L_B, readV_some read_free]
    exact read_free_walk w
  · have hn : s[4].toNat = lenAt (L s) := by
      unfold lenAt
      rw [List.getD_eq_getElem?_getD, List.getElem?_eq_getElem (by rw [len_L]; omega)]
      rfl
    by_cases h27 : 27 < lenAt (L s)
    · have e : readL (L s) = none := by unfold readL; rw [if_neg hf, if_pos h27]
      rw [readV_none e]
      exact read_long_walk s w (by omega) (by omega) (by omega) hf _ hn h27
    · have hi : valL ((L s).take 4) < 4294967296 := by
        have h1 := valL_lt ((L s).take 4)
        have hl : ((L s).take 4).length ≤ 4 := List.length_take_le _ _
        have : (256 : Nat) ^ ((L s).take 4).length ≤ 256 ^ 4 := Nat.pow_le_pow_right (by decide) hl
        omega
      refine (read_rest_walk s w (by omega) (by omega) (by omega) hf _ hn (by omega) _ rfl hi _ _ rfl rfl).mono ?_
      rintro e w' ⟨rfl, b⟩
      refine ⟨?_, b⟩
      show Ending.returned (if may (entOf (L s)) && decide (slotL (entOf (L s)) = L s) then .tuple #[.agg #[.string (B (entOf (L s)).1), .int .u32 (entOf (L s)).2], .bool true] else _) = _
      by_cases h : may (entOf (L s)) = true ∧ slotL (entOf (L s)) = L s
      · have e : readL (L s) = some (entOf (L s)) := by unfold readL; rw [if_neg hf, if_neg h27, if_pos h]
        rw [readV_some e, if_pos (by simp [h.1, h.2])]
      · have e : readL (L s) = none := by unfold readL; rw [if_neg hf, if_neg h27, if_neg h]
        rw [readV_none e, if_neg (by simpa using h)]
end Go.Proofs.YtpnfkilfgdnogaaGreatDoor.Dir
end
section
namespace Go.Proofs.YtpnfkilfgdnogaaGreatDoor.Dir
set_option linter.unusedVariables false
set_option linter.unusedSimpArgs false
open Go.RowKit Go.Shelf Oct Path
attribute [local go_sem] Oper.semAt_some
def slotPair (s : List UInt8) (k : Nat) : Nat × Ent := (k, entL (partL s k))
def slotArgs (x : Nat × Ent) : Array Value := #[.int .i64 (x.1 : Int), .agg #[.string (B x.2.1), .int .u32 x.2.2]]
theorem ex_part (s : ByteArray) (k : Nat) : s.extract (k * 32) ((k + 1) * 32) = B (partL (L s) k) := by
  apply L_inj
  show (s.extract (k * 32) ((k + 1) * 32)).data.toList = _
  rw [ByteArray.data_extract, Array.toList_extract, List.extract_eq_take_drop, L_B]
  unfold partL
  rw [show (k + 1) * 32 - k * 32 = 32 by omega, Nat.mul_comm k 32]
  rfl
theorem len_part (s : ByteArray) (k : Nat) (h : k < s.size / 32) : (B (partL (L s) k)).size = 32 := by
  rw [size_B]
  unfold partL
  rw [List.length_take, List.length_drop, len_L]
  omega
theorem readV_ent (t : List UInt8) : ∃ (e : Ent) (b : Bool), readV t = .tuple #[.agg #[.string (B e.1), .int .u32 e.2], .bool b] ∧ (b = true → entL t = e) ∧ (b = false → entL t = ([], 1)) := by
  cases h : readL t with
  | none => exact ⟨([], 0), false, readV_none h, fun h => (by cases h), fun _ => by unfold entL; rw [h]; rfl⟩
  | some e => exact ⟨e, true, readV_some h, fun _ => by unfold entL; rw [h]; rfl, fun h => by cases h⟩
theorem grown_of_below {W W' : World} (h : Below W.heap.size W W') : W.grownBy W' none := ⟨h.os, h.tape, h.output, h.size, fun k hk _ => h.block k hk⟩
theorem pair_ent (s : List UInt8) (k : Nat) {e : Ent} (h : entL (partL s k) = e) : slotPair s k = (k, e) := by unfold slotPair; rw [h]
set_option maxRecDepth 100000 in
set_option maxHeartbeats 1000000 in
theorem slots1_in (n : Nat) (hn : 2 ≤ n) (l Bs : Nat) (s : ByteArray) (hs : s.size ≤ 1099511627776) (J Jx : List Nat → World → Prop)
    (hJ : ∀ pre W W', J pre W → W.grownBy W' none → J pre W')
    (hY : ∀ pre x W, J pre W → pre.length < s.size / 32 → YieldAt Fence.wide (n - 1) Tryz.prog l (slotArgs (slotPair (L s) x)) W fun e W' =>
      (e = .returned (.bool true) ∧ J (pre ++ [x]) W' ∧ KeptBox Bs 9 W W') ∨ (e = .returned (.bool false) ∧ Jx (pre ++ [x]) W'))
    (W : World) (hBs : Boxed W Bs 9 (.string s)) (h0 : J [] W) :
    CallsIn Fence.wide n Tryz.prog 169 #[.func (.yield l) #[] #[], .pointer (some ⟨Bs, 0, none⟩)] W fun e W' => (∃ v, e = .returned v) ∧
      ((∃ ys, ys = List.range (s.size / 32) ∧ J ys W') ∨ (∃ pre, (∃ k, k ≤ s.size / 32 ∧ pre = List.range k) ∧ Jx pre W')) := by
  have hc0 := hBs.cell
  refine callsIn_of_wp Tryz.func169 rfl trivial ?_ rfl
  simp only [Tryz.ntmps169, List.size_toArray, List.length_cons, List.length_nil, Nat.reduceAdd, Nat.reduceSub, Array.replicate_succ, Array.replicate_zero, List.push_toArray, List.append_toArray, List.nil_append, List.cons_append]
  gi_wp2
  gi_loopw [9] (fun i wr => ∃ k : Nat, k ≤ s.size / 32 ∧ i = .int .i64 k ∧ J (List.range k) wr ∧ Boxed wr Bs 9 (.string s))
    (fun i _ => s.size / 32 - (intOf i).toNat)
  case atStart => exact ⟨0, Nat.zero_le _, rfl, h0, hBs⟩
  case round =>
    obtain ⟨k, hk, rfl, hJs, hnx⟩ := hrel
    have hcx := hnx.cell
    by_cases hlt : k < s.size / 32
    · have HR := Lib.hid (fun W => read_any (B (partL (L s) k)) W (len_part s k hlt))
      obtain ⟨e, b, hv, hb1, hb2⟩ := readV_ent (partL (L s) k)
      rw [L_B, hv] at HR
      have EX := Lib.hid (ex_part s k)
      have w1 : IntKind.i64.wrap ((k : Int) * 32) = (k : Int) * 32 := IntWalk.i64_in _ (by omega)
      have w2 : IntKind.i64.wrap ((k : Int) + 1) = (k : Int) + 1 := IntWalk.i64_in _ (by omega)
      have w3 : IntKind.i64.wrap (((k : Int) + 1) * 32) = ((k : Int) + 1) * 32 := IntWalk.i64_in _ (by omega)
      have a1 : (0 : Int) ≤ (k : Int) * 32 := by omega
      have a2 : (k : Int) * 32 ≤ ((k : Int) + 1) * 32 := by omega
      have a4 : ((k : Int) + 1) * 32 ≤ (s.size : Int) := by omega
      have n1 : ((k : Int) * 32).toNat = k * 32 := by omega
      have n2 : (((k : Int) + 1) * 32).toNat = (k + 1) * 32 := by omega
      have hlen : (List.range k).length < s.size / 32 := by rw [List.length_range]; exact hlt
      have HEN2 : Hid (List.range (k + 1) = List.range k ++ [k]) := Lib.hid List.range_succ
      have HEN : Hid (slotPair (L s) k = (k, if b then e else ([], 1))) := Lib.hid (by
        cases b
        · exact pair_ent (L s) k (hb2 rfl)
        · exact pair_ent (L s) k (hb1 rfl))
      have hHY : Hid _ := Lib.hid hY
      have hHJ : Hid _ := Lib.hid hJ
      clear hv hb1 hb2 hY hJ hc0 hBs h0
      cases b
      · have HEN3 : Hid (slotPair (L s) k = (k, (([], 1) : Ent))) := HEN
        gi_wp2_with fail
        refine ⟨trivial, (fun h => by cases h), ?_⟩
        rw [EX.out]
        refine (callsIn_wide.2 (HR.out _)).mono ?_
        rintro q w4 ⟨rfl, b4⟩
        have hnx4 : Boxed w4 Bs 9 (.string s) := (b4.block Bs hnx.lt).trans hnx
        have hlt4 := hnx4.lt
        have hlt5 := hnx.lt
        have hle4 := b4.size
        have g5 : Below wr.heap.size wr (w4.alloc (.cells #[.string ⟨#[]⟩, .int .u32 1] 216)) := b4.alloc hle4 _
        have hnx5 : Hid (Boxed (w4.alloc (.cells #[.string ⟨#[]⟩, .int .u32 1] 216)) Bs 9 (.string s)) := Lib.hid (hnx4.alloc _)
        obtain ⟨fn, tmps, assign, body, hy, hR⟩ := hHY.out _ k _ (hHJ.out _ _ _ hJs (grown_of_below g5)) hlen
        rw [HEN3.out] at hy
        dsimp only [slotArgs] at hy
        rw [show B [] = (⟨#[]⟩ : ByteArray) from rfl, show ((1 : Nat) : Int) = 1 from rfl] at hy
        clear b4 g5 hnx4
        gi_wp2
        refine ⟨(fun h => by cases h), ?_⟩
        refine hR.mono ?_
        rintro q W3 (⟨rfl, hJ3, hk3⟩ | ⟨rfl, hJx3⟩)
        · gi_wp2
          go_roundw
          case rel => exact ⟨k + 1, by omega, by simp, by rw [HEN2.out]; exact hJ3, hk3 _ hnx5.out⟩
          case measure => simp [intOf]; omega
        · gi_wp2
          refine bodyPost_ret (results_none rfl _ _ _) rfl ?_
          exact ⟨⟨_, rfl⟩, .inr ⟨_, ⟨k + 1, by omega, HEN2.out.symm⟩, hJx3⟩⟩
      · have HEN3 : Hid (slotPair (L s) k = (k, e)) := HEN
        gi_wp2_with fail
        refine ⟨trivial, (fun h => by cases h), ?_⟩
        rw [EX.out]
        refine (callsIn_wide.2 (HR.out _)).mono ?_
        rintro q w4 ⟨rfl, b4⟩
        have hnx4 : Boxed w4 Bs 9 (.string s) := (b4.block Bs hnx.lt).trans hnx
        have hlt4 := hnx4.lt
        have hlt5 := hnx.lt
        have hle4 := b4.size
        have g5 : Below wr.heap.size wr (w4.alloc (.cells #[.string (B e.1), .int .u32 e.2] 216)) := b4.alloc hle4 _
        have hnx5 : Hid (Boxed (w4.alloc (.cells #[.string (B e.1), .int .u32 e.2] 216)) Bs 9 (.string s)) := Lib.hid (hnx4.alloc _)
        obtain ⟨fn, tmps, assign, body, hy, hR⟩ := hHY.out _ k _ (hHJ.out _ _ _ hJs (grown_of_below g5)) hlen
        rw [HEN3.out] at hy
        dsimp only [slotArgs] at hy
        clear b4 g5 hnx4
        gi_wp2
        refine ⟨(fun h => by cases h), ?_⟩
        refine hR.mono ?_
        rintro q W3 (⟨rfl, hJ3, hk3⟩ | ⟨rfl, hJx3⟩)
        · gi_wp2
          go_roundw
          case rel => exact ⟨k + 1, by omega, by simp, by rw [HEN2.out]; exact hJ3, hk3 _ hnx5.out⟩
          case measure => simp [intOf]; omega
        · gi_wp2
          refine bodyPost_ret (results_none rfl _ _ _) rfl ?_
          exact ⟨⟨_, rfl⟩, .inr ⟨_, ⟨k + 1, by omega, HEN2.out.symm⟩, hJx3⟩⟩
    · obtain rfl : k = s.size / 32 := by omega
      gi_wp2
      go_end0
      exact ⟨⟨_, rfl⟩, .inl ⟨_, rfl, hJs⟩⟩
end Go.Proofs.YtpnfkilfgdnogaaGreatDoor.Dir
end
section
namespace Go.Proofs.YtpnfkilfgdnogaaGreatDoor.Dir
set_option linter.unusedVariables false
set_option linter.unusedSimpArgs false
open Go.RowKit Go.Shelf Oct Path
attribute [local go_sem] Oper.semAt_some
def oneD (n : Int) : DataW Unit := .agg [.lit (.int .i64 n)]
def oneElem (v : Value) : Option (DataW Unit × List MemPlace) := match v with
  | .agg cs => match cs.toList with
    | [.int .i64 n] => some (oneD n, [])
    | _ => none
  | _ => none
theorem oneElem_mk (n : Int) : oneElem (.agg #[.int .i64 n]) = some (oneD n, []) := rfl
theorem oneElem_inv {v : Value} {n : Int} {ps : List MemPlace} (h : oneElem v = some (oneD n, ps)) : v = .agg #[.int .i64 n] := by
  unfold oneElem at h
  split at h
  · rename_i cs
    split at h
    · rename_i m hm
      simp only [oneD, Option.some.injEq, Prod.mk.injEq, DataW.agg.injEq, List.cons.injEq, DataW.lit.injEq, Lit.int.injEq, true_and, and_true] at h
      obtain ⟨rfl, _⟩ := h
      congr 1
      exact Array.toList_inj.1 hm
    · cases h
  · cases h
def NMap (W : World) (b n : Nat) (S : List (List UInt8)) : Prop :=
  ∃ D : DataW Unit, W.ownsMap Tryz.prog 9 oneElem b n D ∧ ∀ l, D.atKey (.string l) (oneD 0) = if l ∈ S then oneD 1 else oneD 0
theorem NMap.lt {W : World} {b n : Nat} {S : List (List UInt8)} (h : NMap W b n S) : b < W.heap.size := by obtain ⟨D, h1, _⟩ := h; exact h1.lt
theorem NMap.kept {W W' : World} {b n : Nat} {S : List (List UInt8)} {row : Option Nat} (h : NMap W b n S) (hg : W.grownBy W' row) (hne : some b ≠ row) : NMap W' b n S := by
  obtain ⟨D, h1, h2⟩ := h
  exact ⟨D, h1.kept hg hne, h2⟩
theorem NMap.new (W : World) : NMap (W.alloc (.map #[] 0)) W.heap.size 0 [] := ⟨.map [], World.ownsMap_made _ _ _ _, fun l => rfl⟩
theorem NMap.look {W : World} {b n : Nat} {S : List (List UInt8)} (h : NMap W b n S) (s : ByteArray) (hs : s.size ≤ maxLen) :
    (Instr.lookup 268 (.map (some b)) (.string s) false).run Tryz.prog W = .ok (.agg #[.int .i64 (if L s ∈ S then 1 else 0)]) W := by
  obtain ⟨D, h1, h2⟩ := h
  obtain ⟨v, ps, hrun, hv⟩ := h1.lookup (Maps.string_keyed Tryz.underlying9) Tryz.underlying268 (z := .agg #[.int .i64 0]) (by kernel_rfl) (oneElem_mk 0) (WideMaps.keyOf_string_mk Tryz.underlying9 hs)
  rw [show s.data.toList = L s from rfl, h2] at hv
  rw [hrun]
  by_cases hm : L s ∈ S
  · rw [if_pos hm] at hv ⊢
    rw [oneElem_inv hv]
  · rw [if_neg hm] at hv ⊢
    rw [oneElem_inv hv]
theorem NMap.put {W : World} {b n : Nat} {S : List (List UInt8)} (h : NMap W b n S) (hn : n < maxLen) (s : ByteArray) (hs : s.size ≤ maxLen) :
    ∃ W', (Instr.mapUpdate 268 (.map (some b)) (.string s) (.agg #[.int .i64 1])).run Tryz.prog W = .ok () W' ∧ NMap W' b (n + 1) (S ++ [L s]) ∧ W.grownBy W' (some b) := by
  obtain ⟨D, h1, h2⟩ := h
  obtain ⟨W', hrun, r1, r2⟩ := h1.update (Maps.string_keyed Tryz.underlying9) Tryz.underlying268 hn (WideMaps.keyOf_string_mk Tryz.underlying9 hs) (oneElem_mk 1)
  refine ⟨W', hrun, ⟨_, r1, fun l => ?_⟩, r2⟩
  rw [show s.data.toList = L s from rfl]
  by_cases hl : l = L s
  · subst hl
    rw [Maps.atKey_put_same h1.isMap (show WideAt.IsKeyLit (.string (L s)) from trivial), if_pos (by simp)]
  · rw [Maps.atKey_put_other (by simpa using hl), h2]
    by_cases hm : l ∈ S
    · rw [if_pos hm, if_pos (by simp [hm])]
    · rw [if_neg hm, if_neg (by simp [hm, hl])]
theorem slots_any (s : ByteArray) (w : World) : Calls Tryz.prog 131 #[.string s] w fun e w' => e = .returned (.func (.func 169) #[] #[.pointer (some ⟨w.heap.size, 0, none⟩)]) ∧ w.alloc (.cells #[.string s] 9) = w' := by
  go_enter Tryz.func131, Tryz.ntmps131
  go_wp2
  go_ret
  exact ⟨rfl, rfl⟩
theorem slots_stops (n : Nat) (hn : 2 ≤ n) (Bs : Nat) (s : ByteArray) (hs : s.size ≤ 1099511627776) (w : World) (hBs : Boxed w Bs 9 (.string s)) :
    SeqStopsK Fence.wide n Tryz.prog 169 #[.pointer (some ⟨Bs, 0, none⟩)] (fun k => slotArgs (slotPair (L s) k)) (KeptBox Bs 9) (fun ys => ys = List.range (s.size / 32))
      (fun pre => ∃ k, k ≤ s.size / 32 ∧ pre = List.range k) (s.size / 32) w := fun l J Jx W hW hA _ hY h0 =>
  slots1_in n hn l Bs s hs J Jx (fun pre W1 W2 h g => hA pre W1 W2 none h g (fun r e => by cases e)) hY W ((hW.block Bs hBs.lt).trans hBs) h0
def entAt (s : ByteArray) (k : Nat) : Ent := entL (partL (L s) k)
def entsAt (s : ByteArray) (pre : List Nat) : List Ent := pre.map (entAt s)
theorem ents_all (s : ByteArray) : entsAt s (List.range (s.size / 32)) = slotsL (L s) := rfl
theorem entsAt_snoc (s : ByteArray) (pre : List Nat) (k : Nat) : entsAt s (pre ++ [k]) = entsAt s pre ++ [entAt s k] := by simp [entsAt]
theorem ent_len (t : List UInt8) : (entL t).1.length ≤ 27 := by
  unfold entL
  cases h : readL t with
  | none => simp
  | some e =>
    rcases (enc_read h).1 with h1 | h1
    · subst h1; simp
    · exact (name_len (may_name h1.1).2).2
theorem ent_bad {t : List UInt8} (h0 : (entL t).2 ≠ 0) (h1 : (entL t).1 = []) : entL t = ([], 1) := by
  unfold entL at h0 h1 ⊢
  cases h : readL t with
  | none => rfl
  | some e =>
    rw [h] at h0 h1
    rcases (enc_read h).1 with h2 | h2
    · subst h2; exact absurd rfl h0
    · have := (name_len (may_name h2.1).2).1
      simp only [Option.getD_some] at h1
      rw [h1] at this
      simp at this
def bad (e : Ent) : Prop := e.2 ≠ 0 ∧ e.1 = []
def metN (s : ByteArray) (pre : List Nat) : List (List UInt8) := names (entsAt s pre)
def dupN (s : ByteArray) (pre : List Nat) : Bool := !decide (metN s pre).Nodup
theorem metN_free {s : ByteArray} {pre : List Nat} {k : Nat} (h : (entAt s k).2 = 0) : metN s (pre ++ [k]) = metN s pre := by
  unfold metN
  rw [entsAt_snoc, names_app, names_free h]
  simp [names, live]
theorem metN_live {s : ByteArray} {pre : List Nat} {k : Nat} (h : (entAt s k).2 ≠ 0) : metN s (pre ++ [k]) = metN s pre ++ [(entAt s k).1] := by
  unfold metN
  rw [entsAt_snoc, names_app, names_cons h]
  simp [names, live]
theorem dup_step {S : List (List UInt8)} {n : List UInt8} : (!decide (S ++ [n]).Nodup) = ((!decide S.Nodup) || decide (n ∈ S)) := by
  have e : (S ++ [n]).Nodup ↔ S.Nodup ∧ n ∉ S := by
    have p : (S ++ [n]).Perm (n :: S) := List.perm_append_singleton n S
    rw [p.nodup_iff, List.nodup_cons]
    exact And.comm
  by_cases h1 : S.Nodup <;> by_cases h2 : n ∈ S <;> simp [e, h1, h2]
theorem metN_len (s : ByteArray) (pre : List Nat) : (metN s pre).length ≤ pre.length := by
  unfold metN
  rw [← count_names]
  exact Nat.le_trans (List.length_filter_le _ _) (by simp [entsAt])
theorem nmap_own {β : Type} {B b : Nat} (hb : b < B) (f : β → List (List UInt8)) : OwnFrom B (fun s W => NMap W b (f s).length (f s)) := fun s W W' row hs hg hr =>
  hs.kept hg (fun e => by have := (hr b e.symm).1; omega)
theorem size_own {β : Type} {B : Nat} (k : Nat) : OwnFrom B (fun (_ : β) W => k ≤ W.heap.size) := fun _ _ _ _ h hg _ => Nat.le_trans h hg.size
theorem sbox_own {B b : Nat} {t : TypeId} {cs : Array Value} {W W' : World} {row : Option Nat} (h : SBox W b t cs) (hg : W.grownBy W' row) (hr : ∀ r, row = some r → B ≤ r ∧ ∃ o : Obj, W.heap[r]? = some o ∧ o.isCells = false) : SBox W' b t cs :=
  h.kept hg (fun e => by
    obtain ⟨_, o, ho, hc⟩ := hr b e.symm
    rw [show W.heap[b]? = _ from h] at ho
    cases ho
    cases hc)
set_option maxRecDepth 100000 in
set_option maxHeartbeats 4000000 in
theorem check_in (n : Nat) (hn : 4 ≤ n) (s : ByteArray) (w : World) (hs : s.size ≤ 1099511627776) (h64 : s.size % 64 = 0) (hle : s.size ≤ 2304) :
    CallsIn Fence.wide n Tryz.prog 128 #[.string s] w fun e w' => e = .returned (.int .i64 (checkE (L s))) ∧ Below w.heap.size w w' := by
  have t1 : ((s.size : Int) % 64 != 0) = false := by simp; omega
  have t2 : decide ((2304 : Int) < (s.size : Int)) = false := by simp; omega
  have t3 : decide (2304 < s.size) = false := by simp; omega
  have SA := Lib.hid (fun W => slots_any s W)
  refine callsIn_of_wp_marks Tryz.func128 rfl trivial ?_ rfl
  simp only [Tryz.ntmps128, List.size_toArray, List.length_cons, List.length_nil, Nat.reduceAdd, Nat.reduceSub, Array.replicate_succ, Array.replicate_zero, List.push_toArray, List.append_toArray, List.nil_append, List.cons_append]
  have hmm := @run_makeMap Tryz.prog
  gi_wp2_with fail
  refine ⟨trivial, (fun h => by cases h), ?_⟩
  refine (callsIn_wide.2 (SA.out _)).mono ?_
  rintro e w' ⟨rfl, rfl⟩
  clear hmm
  gi_wp2_with fail
  have bR := Boxed.new w 32 (.int .i64 0)
  have bM := NMap.new (w.alloc (.cells #[.int .i64 0] 32))
  have bN := Boxed.new ((w.alloc (.cells #[.int .i64 0] 32)).alloc (.map #[] 0)) 268 (.map (some (w.heap.size + 1)))
  have bT := Boxed.new (((w.alloc (.cells #[.int .i64 0] 32)).alloc (.map #[] 0)).alloc (.cells #[.map (some (w.heap.size + 1))] 268)) 4 (.bool false)
  have bS := Boxed.new ((((w.alloc (.cells #[.int .i64 0] 32)).alloc (.map #[] 0)).alloc (.cells #[.map (some (w.heap.size + 1))] 268)).alloc (.cells #[.bool false] 4)) 9 (.string s)
  have hB0 : Below w.heap.size w (((((w.alloc (.cells #[.int .i64 0] 32)).alloc (.map #[] 0)).alloc (.cells #[.map (some (w.heap.size + 1))] 268)).alloc (.cells #[.bool false] 4)).alloc (.cells #[.string s] 9)) := (((((Below.refl _ w).alloc (Nat.le_refl _) _).alloc (by simp) _).alloc (by simp; omega) _).alloc (by simp; omega) _).alloc (by simp; omega) _
  simp only [World.size_alloc] at bM bN bT bS
  refine wpIn_rangeFunc_ownH rfl (by omega) (gf := 169) (lb := #[.pointer (some ⟨w.heap.size + 1 + 1 + 1 + 1, 0, none⟩)]) rfl trivial (enters_of Tryz.func169 (by kernel_rfl) rfl)
    (slots_stops (n - 1) (by omega) (w.heap.size + 1 + 1 + 1 + 1) s hs _ bS) keptBox_t (keptBox_b (by simp)) (Below.refl _ _) (fun _ => rfl)
    (fun pre W => ((∀ k ∈ pre, ¬ bad (entAt s k)) ∧ (Boxed W w.heap.size 32 (.int .i64 0) ∧ (Boxed W (w.heap.size + 1 + 1) 268 (.map (some (w.heap.size + 1))) ∧ Boxed W (w.heap.size + 1 + 1 + 1) 4 (.bool (dupN s pre))))) ∧ (NMap W (w.heap.size + 1) (metN s pre).length (metN s pre) ∧ (w.heap.size + 1 + 1 + 1 + 1 + 1 ≤ W.heap.size ∧ Below w.heap.size w W)))
    (fun c pre W => ((c = .ret ∧ ∃ k ∈ pre, bad (entAt s k)) ∧ Boxed W w.heap.size 32 (.int .i64 7)) ∧ Below w.heap.size w W)
    (OwnFrom.and (OwnFrom.and (ownFrom_pure _ _) (OwnFrom.and (Own.from (boxed_own _ _ _) _) (OwnFrom.and (Own.from (boxed_own _ _ _) _) (Own.from (boxed_own _ _ _) _)))) (OwnFrom.and (nmap_own (by simp) _) (OwnFrom.and (size_own _) (ownFrom_below (Nat.le_refl _) (by simp; omega)))))
    (fun c => OwnFrom.and (OwnFrom.and (ownFrom_pure _ _) (Own.from (boxed_own _ _ _) _)) (ownFrom_below (Nat.le_refl _) (by simp; omega)))
    ⟨⟨fun p hp => by simp at hp, (((bR.alloc _).alloc _).alloc _).alloc _, (bN.alloc _).alloc _, bT.alloc _⟩, ((bM.kept (World.grownBy_alloc _ _ none) (by simp)).kept (World.grownBy_alloc _ _ none) (by simp)).kept (World.grownBy_alloc _ _ none) (by simp), by simp, hB0⟩
    (fun k a' W => ∃ b, w.heap.size + 1 + 1 + 1 + 1 + 1 ≤ b ∧ SBox W b 216 #[.string (B (entAt s k).1), .int .u32 (entAt s k).2] ∧ a' = { tmps := #[.string s, undef, .pointer (some ⟨w.heap.size, 0, none⟩), .pointer (some ⟨w.heap.size + 1 + 1, 0, none⟩), .pointer (some ⟨w.heap.size + 1 + 1 + 1, 0, none⟩), undef, .pointer (some ⟨b, 0, none⟩), .string s, .int .i64 (s.size : Int), .int .i64 ((s.size : Int) % 64), .bool false, .bool false, .string s, .int .i64 (s.size : Int), .bool false, .bool false, .map (some (w.heap.size + 1)), .string s, .func (.func 169) #[] #[.pointer (some ⟨w.heap.size + 1 + 1 + 1 + 1, 0, none⟩)], .int .i64 (k : Int), .agg #[.string (B (entAt s k).1), .int .u32 (entAt s k).2], undef, undef, undef, undef, undef, undef, undef, undef, undef, undef, undef, undef, undef, undef, undef, undef, undef, undef, undef, undef, undef, undef], defers := [] })
    (fun k a' => fun _ W W' row hs hg hr => by
      obtain ⟨b, h1, h2, h3⟩ := hs
      exact ⟨b, h1, sbox_own h2 hg hr, h3⟩) ?assign ?body ?done ?stop
  case assign =>
    rintro l pre k W K ⟨⟨hp, hR, hN, hT⟩, hM, hz, hB⟩ hK
    rw [show slotPair (L s) k = (k, entAt s k) from rfl]
    dsimp only [slotArgs]
    have HK := Lib.hid hK
    clear hK
    gi_wp2
    exact HK.out _ _ ((KeepsOthers.alloc _ _).from _) (fun v hv => hv.alloc _) ⟨⟨hp, hR.alloc _, hN.alloc _, hT.alloc _⟩, hM.kept (World.grownBy_alloc _ _ none) (by simp), by simp; omega, hB.alloc (by omega) _⟩ ⟨W.heap.size, hz, SBox.new _ _ _, rfl⟩
  case body =>
    rintro l pre k a' W hl hloop ⟨⟨hp, hR, hN, hT⟩, hM, hz, hB⟩ ⟨b, hb, hS, rfl⟩ hlen
    have c0 := hS.cell 0
    have c1 := hS.cell 1
    simp only [List.getElem?_toArray, List.getElem?_cons_zero, List.getElem?_cons_succ] at c0 c1
    have hlt := hS.lt
    have cR := hR.cell
    have fR := hR.frozen
    have cN := hN.cell
    have cT := hT.cell
    have fT := hT.frozen
    have hnl := ent_len (partL (L s) k)
    rw [show entL (partL (L s) k) = entAt s k from rfl] at hnl
    have hml := metN_len s pre
    have hsnoc : ∀ q, ¬ bad (entAt s k) → q ∈ pre ++ [k] → ¬ bad (entAt s q) := fun q hq hm => by
      rcases List.mem_append.1 hm with h1 | h1
      · exact hp q h1
      · simp only [List.mem_cons, List.not_mem_nil, or_false] at h1
        rw [h1]; exact hq
    have HSN := Lib.hid hsnoc
    have HMF : Hid ((entAt s k).2 = 0 → metN s (pre ++ [k]) = metN s pre) := Lib.hid metN_free
    have HML : Hid ((entAt s k).2 ≠ 0 → metN s (pre ++ [k]) = metN s pre ++ [(entAt s k).1]) := Lib.hid metN_live
    have HBD : Hid (bad (entAt s k) ↔ (entAt s k).2 ≠ 0 ∧ (entAt s k).1 = []) := Lib.hid Iff.rfl
    have HP := Lib.hid hp
    clear hl hloop hsnoc hp hS SA bR bM bN bT bS hB0
    obtain ⟨nmL, hnm⟩ : ∃ x, (entAt s k).1 = x := ⟨_, rfl⟩
    obtain ⟨i, hi⟩ : ∃ x, (entAt s k).2 = x := ⟨_, rfl⟩
    rw [hnm] at c0 hnl
    rw [hi] at c1
    rw [hnm, hi]
    have HN := Lib.hid hnm
    have HI := Lib.hid hi
    clear hnm hi
    by_cases h0 : i = 0
    · subst h0
      have hm := HMF.out HI.out
      have hnb : ¬ bad (entAt s k) := fun h => (HBD.out.1 h).1 HI.out
      have E1 := Lib.hid hm
      have E2 : Hid (dupN s (pre ++ [k]) = dupN s pre) := Lib.hid (by unfold dupN; rw [hm])
      have E3 := Lib.hid (fun q hq => HSN.out q hnb hq)
      clear hm hnb
      gi_wp2
      exact ⟨KeepsFrom.refl _ _, KeptBox.refl _ _ _, ⟨⟨E3.out, hR, hN, by rw [E2.out]; exact hT⟩, by rw [E1.out]; exact hM, hz, hB⟩⟩
    · have t0 : ((i : Int) == 0) = false := by simp; omega
      have t0b : (i == 0) = false := by simp; omega
      have HI0 := Lib.hid h0
      clear h0
      by_cases hn : nmL = []
      · subst hn
        have HBB : Hid (bad (entAt s k)) := Lib.hid (HBD.out.2 ⟨by rw [HI.out]; exact HI0.out, HN.out⟩)
        rw [show B [] = (⟨#[]⟩ : ByteArray) from rfl] at c0
        rw [show B [] = (⟨#[]⟩ : ByteArray) from rfl]
        gi_wp2
        exact ⟨(KeepsOthers.setCell _ _ _).from _, ⟨⟨rfl, k, by simp, HBB.out⟩, hR.set _⟩, hB.setCell (p := ⟨w.heap.size, 0, none⟩) (Nat.le_refl _) _⟩
      · have n1 : (B nmL).toList.isEmpty = false := empty_no (by rw [size_B]; exact List.length_pos_iff.2 hn)
        have hnb : ¬ bad (entAt s k) := fun h => hn (HN.out.symm.trans (HBD.out.1 h).2)
        have E3 := Lib.hid (fun q hq => HSN.out q hnb hq)
        have hm := HML.out (by rw [HI.out]; exact HI0.out)
        rw [HN.out] at hm
        have hd : dupN s (pre ++ [k]) = (dupN s pre || decide (nmL ∈ metN s pre)) := by
          unfold dupN
          rw [hm, dup_step]
        have E1 := Lib.hid hm
        have hsz : (B nmL).size ≤ maxLen := by rw [size_B]; unfold maxLen; omega
        have LK := Lib.hid (hM.look (B nmL) hsz)
        rw [L_B] at LK
        obtain ⟨d, hdd⟩ : ∃ d, dupN s pre = d := ⟨_, rfl⟩
        rw [hdd] at hd cT hT
        obtain ⟨d', hdd'⟩ : ∃ d', (d || decide (nmL ∈ metN s pre)) = d' := ⟨_, rfl⟩
        rw [hdd'] at hd
        obtain ⟨W2, hput, hM2, hg2⟩ := (hM.kept (grownBy_setCell' W (w.heap.size + 1 + 1 + 1) (.bool d')) (fun e => by have := Option.some.inj e; omega)).put (by unfold maxLen; omega) (B nmL) hsz
        have E2 := Lib.hid hd
        have hR2 := Lib.hid ((hR.other (B' := w.heap.size + 1 + 1 + 1) (by omega) (.bool d')).kept hg2 (fun e => by have := Option.some.inj e; omega))
        have hN2 := Lib.hid ((hN.other (B' := w.heap.size + 1 + 1 + 1) (by omega) (.bool d')).kept hg2 (fun e => by have := Option.some.inj e; omega))
        have hT2 : Hid (Boxed W2 (w.heap.size + 1 + 1 + 1) 4 (.bool (dupN s (pre ++ [k])))) := Lib.hid (by rw [hd]; exact (hT.set (.bool d')).kept hg2 (fun e => by have := Option.some.inj e; omega))
        have HG2 := Lib.hid hg2
        have hX2 : Hid (KeptBox (w.heap.size + 1 + 1 + 1 + 1) 9 W W2) := Lib.hid (fun v hv => (hv.other (B' := w.heap.size + 1 + 1 + 1) (by omega) (.bool d')).kept hg2 (fun e => by have := Option.some.inj e; omega))
        have hB2 : Hid (Below w.heap.size w W2) := Lib.hid ((hB.setCell (p := ⟨w.heap.size + 1 + 1 + 1, 0, none⟩) (by show w.heap.size ≤ w.heap.size + 1 + 1 + 1; omega) (.bool d')).grown hg2 (by simp; omega) (fun j e => by cases e; omega))
        have hZ2 : Hid (w.heap.size + 1 + 1 + 1 + 1 + 1 ≤ W2.heap.size) := Lib.hid (by have := hg2.size; simp at this; omega)
        have hMM : Hid (NMap W2 (w.heap.size + 1) (metN s (pre ++ [k])).length (metN s (pre ++ [k]))) := Lib.hid (by rw [L_B] at hM2; rw [hm, List.length_append]; exact hM2)
        clear hm hd hnb hdd hM hM2 hg2 hR hN hT hsz hB hz hml hnl hlen hn
        have FIN : Hid _ := Lib.hid (And.intro hX2.out (And.intro (And.intro E3.out (And.intro hR2.out (And.intro hN2.out hT2.out))) (And.intro hMM.out (And.intro hZ2.out hB2.out))))
        have hf1 : ∀ W, (Instr.field 270 (.agg #[.int .i64 1]) 0).run Tryz.prog W = .ok (.int .i64 1) W := fun _ => by kernel_rfl
        have hf0 : ∀ W, (Instr.field 270 (.agg #[.int .i64 0]) 0).run Tryz.prog W = .ok (.int .i64 0) W := fun _ => by kernel_rfl
        by_cases hmem : nmL ∈ metN s pre
        · rw [if_pos hmem] at LK
          have hdt : d' = true := by rw [← hdd']; simp [hmem]
          subst hdt
          have hlk := LK.out
          clear hmem hdd' LK hX2 hB2 hZ2 hMM hR2 hN2 hT2 E3 hf0
          cases d
          · gi_wp2
            exact ⟨((KeepsOthers.setCell W ⟨w.heap.size + 1 + 1 + 1, 0, none⟩ _).from _).trans (KeepsFrom.of_grownBy HG2.out (fun j e => by cases e; simp)), FIN.out⟩
          · gi_wp2
            exact ⟨((KeepsOthers.setCell W ⟨w.heap.size + 1 + 1 + 1, 0, none⟩ _).from _).trans (KeepsFrom.of_grownBy HG2.out (fun j e => by cases e; simp)), FIN.out⟩
        · rw [if_neg hmem] at LK
          have hdt : d' = d := by rw [← hdd']; simp [hmem]
          subst hdt
          have hlk := LK.out
          clear hmem hdd' LK hX2 hB2 hZ2 hMM hR2 hN2 hT2 E3 hf1
          cases d'
          · gi_wp2
            exact ⟨((KeepsOthers.setCell W ⟨w.heap.size + 1 + 1 + 1, 0, none⟩ _).from _).trans (KeepsFrom.of_grownBy HG2.out (fun j e => by cases e; simp)), FIN.out⟩
          · gi_wp2
            exact ⟨((KeepsOthers.setCell W ⟨w.heap.size + 1 + 1 + 1, 0, none⟩ _).from _).trans (KeepsFrom.of_grownBy HG2.out (fun j e => by cases e; simp)), FIN.out⟩
  case done =>
    rintro D ys W hD rfl ⟨⟨hp, hR, hN, hT⟩, hM, hz, hB⟩ hK
    have hT' : Boxed W (w.heap.size + 1 + 1 + 1) 4 (.bool (!decide (names (slotsL (L s))).Nodup)) := hT
    have hnb : ([], 1) ∉ slotsL (L s) := fun hm => by
      rw [← ents_all] at hm
      obtain ⟨k, hk, he⟩ := List.mem_map.1 hm
      exact hp k hk (by rw [he]; exact ⟨by decide, rfl⟩)
    have hE : checkE (L s) = if (!decide (names (slotsL (L s))).Nodup) = true then 9 else 0 := by
      unfold checkE
      rw [if_neg (by rw [len_L]; omega), if_neg hnb]
      by_cases h : (names (slotsL (L s))).Nodup <;> simp [h]
    have HE := Lib.hid hE
    generalize (!decide (names (slotsL (L s))).Nodup) = d at *
    clear hE hnb hT hp
    have cR := hR.cell
    have fR := hR.frozen
    have cT := hT'.cell
    cases d
    · gi_wp2
      have hK' := (KeepsOthers.setCell W ⟨w.heap.size, 0, none⟩ (.int .i64 0)).same D _ hK rfl
      refine ⟨by simp, .inl ⟨_, _, rfl, run_takeDeferred hK', ?_⟩⟩
      have hc5 := cell_kept (hR.set (.int .i64 0)).cell (grownBy_putObj' _ D (.deferred none)) (fun r e => by cases e; exact ⟨_, hK', rfl⟩)
      refine ⟨.int .i64 0, ?_, by rw [HE.out]; rfl, (hB.setCell (p := ⟨w.heap.size, 0, none⟩) (Nat.le_refl _) _).trans (belowK_b (w := w) (Nat.le_refl _) _ D _ _ (by simp at hD; omega) hK' rfl rfl)⟩
      simp [results, Tryz.f128, go_sem, hc5]
    · gi_wp2
      have hK' := (KeepsOthers.setCell W ⟨w.heap.size, 0, none⟩ (.int .i64 9)).same D _ hK rfl
      refine ⟨by simp, .inl ⟨_, _, rfl, run_takeDeferred hK', ?_⟩⟩
      have hc5 := cell_kept (hR.set (.int .i64 9)).cell (grownBy_putObj' _ D (.deferred none)) (fun r e => by cases e; exact ⟨_, hK', rfl⟩)
      refine ⟨.int .i64 9, ?_, by rw [HE.out]; rfl, (hB.setCell (p := ⟨w.heap.size, 0, none⟩) (Nat.le_refl _) _).trans (belowK_b (w := w) (Nat.le_refl _) _ D _ _ (by simp at hD; omega) hK' rfl rfl)⟩
      simp [results, Tryz.f128, go_sem, hc5]
  case stop =>
    rintro D c pre W hD ⟨k, hk, rfl⟩ ⟨⟨⟨rfl, j, hj, hbj⟩, hR⟩, hB⟩ hK
    have hE : checkE (L s) = 7 := by
      unfold checkE
      rw [if_neg (by rw [len_L]; omega), if_pos ?_]
      rw [← ents_all]
      have := ent_bad hbj.1 hbj.2
      refine List.mem_map.2 ⟨j, ?_, this⟩
      have := List.mem_range.1 hj
      exact List.mem_range.2 (by omega)
    have HE := Lib.hid hE
    clear hE hbj
    have cR := hR.cell
    gi_wp2
    refine ⟨by simp, .inl ⟨_, _, rfl, run_takeDeferred hK, ?_⟩⟩
    have hc5 := cell_kept hR.cell (grownBy_putObj' _ D (.deferred none)) (fun r e => by cases e; exact ⟨_, hK, rfl⟩)
    refine ⟨.int .i64 7, ?_, by rw [HE.out], hB.trans (belowK_b (w := w) (Nat.le_refl _) _ D _ _ (by simp at hD; omega) hK rfl rfl)⟩
    simp [results, Tryz.f128, go_sem, hc5]
theorem check_any (s : ByteArray) (w : World) (hs : s.size ≤ maxLen) :
    Calls Tryz.prog 128 #[.string s] w fun e w' => e = .returned (.int .i64 (checkE (L s))) ∧ Below w.heap.size w w' := by
  by_cases h64 : s.size % 64 = 0
  · by_cases hle : s.size ≤ 2304
    · exact callsIn_wide.1 (check_in 4 (Nat.le_refl _) s w (by omega) h64 hle)
    · have hE : checkE (L s) = 7 := by
        unfold checkE
        rw [if_pos (by rw [len_L]; omega)]
      rw [hE]
      unfold maxLen at hs
      have t1 : ((s.size : Int) % 64 != 0) = false := by simp; omega
      have t2 : decide ((2304 : Int) < (s.size : Int)) = true := by simp; omega
      have t3 : decide (2304 < s.size) = true := by simp; omega
      clear hE h64 hle
      refine (callsIn_wide (n := 4)).1 (callsIn_of_wp_marks Tryz.func128 rfl trivial ?_ rfl)
      simp only [Tryz.ntmps128, List.size_toArray, List.length_cons, List.length_nil, Nat.reduceAdd, Nat.reduceSub, Array.replicate_succ, Array.replicate_zero, List.push_toArray, List.append_toArray, List.nil_append, List.cons_append]
      gi_wp2
      refine ⟨.int .i64 7, ?_, rfl, (Below.refl _ _).alloc (Nat.le_refl _) _⟩
      simp [results, Tryz.f128, go_sem]
  · have hE : checkE (L s) = 7 := by
      unfold checkE
      rw [if_pos (by rw [len_L]; omega)]
    rw [hE]
    unfold maxLen at hs
    have t1 : ((s.size : Int) % 64 != 0) = true := by simp; omega
    clear hE h64
    refine (callsIn_wide (n := 4)).1 (callsIn_of_wp_marks Tryz.func128 rfl trivial ?_ rfl)
    simp only [Tryz.ntmps128, List.size_toArray, List.length_cons, List.length_nil, Nat.reduceAdd, Nat.reduceSub, Array.replicate_succ, Array.replicate_zero, List.push_toArray, List.append_toArray, List.nil_append, List.cons_append]
    gi_wp2
    refine ⟨.int .i64 7, ?_, rfl, (Below.refl _ _).alloc (Nat.le_refl _) _⟩
    simp [results, Tryz.f128, go_sem]
end Go.Proofs.YtpnfkilfgdnogaaGreatDoor.Dir
end
