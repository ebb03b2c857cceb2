/- path.Name and the reference's IsName: which texts are names. -/
import Derived.Test.YtfdclifdemajfaaOctetCut
import Derived.Test.YtfdclifdemajfaaShelf
import Derived.Test.YtfdclifdemajfaaRange
import Derived.Laws.RangeAny
import Derived.Laws.RangeString
namespace Go.Proofs.Ytfdclifdemajfaa.Path
set_option linter.unusedVariables false
open Go.RowKit Oct

/-- Which bytes are a name. -/
def isName (l : List UInt8) : Bool := decide (1 ≤ l.length) && decide (l.length ≤ 27) && !(l == [46]) && !(l == [46, 46]) && l.all (fun c => !(c == 47) && !(c == 0))
def badR (r : Nat) : Bool := r == 47 || r == 0
def badC (c : UInt8) : Bool := c == 47 || c == 0

theorem get_bang (s : ByteArray) (i : Nat) (h : i < s.size) : s.get! i = s[i] := by
  simp [ByteArray.get!, getElem!_pos, h]
  rfl
/-- A rune of several bytes has bytes behind its first that are no text's. -/
theorem decode_cont (s : ByteArray) (i k : Nat) (h1 : 1 ≤ k) (h2 : k < (Utf8.decode s i).2) : i + k < s.size ∧ (s.get! (i + k)).toNat / 64 = 2 := by
  have hk : k = 1 ∨ k = 2 ∨ k = 3 ∨ 4 ≤ k := by omega
  simp only [Utf8.decode] at h2
  rcases hk with rfl | rfl | rfl | hk
  all_goals
    repeat' split at h2
    all_goals
      simp only [Bool.and_eq_true, decide_eq_true_eq, beq_iff_eq] at *
      omega

theorem bad_ascii (c : UInt8) : badC c = badR c.toNat := by
  unfold badC badR
  rw [Bool.eq_iff_iff]
  simp only [Bool.or_eq_true, beq_iff_eq]
  constructor
  · rintro (rfl | rfl)
    · exact .inl rfl
    · exact .inr rfl
  · rintro (h | h)
    · exact .inl (UInt8.toNat_inj.1 h)
    · exact .inr (UInt8.toNat_inj.1 h)

theorem idx_bad (s : ByteArray) : ∀ (f pos : Nat), s.size ≤ pos + f → (0 ≤ Lib.idxFuncFrom badR true s f pos ↔ ∃ j, ∃ h : j < s.size, pos ≤ j ∧ badC s[j] = true)
  | 0, pos, hf => by
    constructor
    · intro h; simp [Lib.idxFuncFrom] at h
    · rintro ⟨j, hj, h1, _⟩; omega
  | f + 1, pos, hf => by
    unfold Lib.idxFuncFrom
    by_cases hp : pos < s.size
    · rw [if_pos hp]
      by_cases ha : (s[pos]'hp).toNat < 128
      · rw [decode_ascii s pos hp ha]
        by_cases hb : badC s[pos] = true
        · rw [if_pos (by rw [← bad_ascii]; exact hb)]
          exact ⟨fun _ => ⟨pos, hp, Nat.le_refl _, hb⟩, fun _ => by omega⟩
        · rw [if_neg (by rw [← bad_ascii]; exact hb), idx_bad s f (pos + 1) (by omega)]
          constructor
          · rintro ⟨j, hj, h1, h2⟩; exact ⟨j, hj, by omega, h2⟩
          · rintro ⟨j, hj, h1, h2⟩
            refine ⟨j, hj, ?_, h2⟩
            rcases Nat.eq_or_lt_of_le h1 with e | e
            · subst e; exact (hb h2).elim
            · omega
      · have hd := decode_high s pos hp (by omega)
        rw [if_neg (by
          intro e
          unfold badR at e
          simp only [Bool.or_eq_true, beq_iff_eq] at e
          omega), idx_bad s f _ (by omega)]
        constructor
        · rintro ⟨j, hj, h1, h2⟩; exact ⟨j, hj, by omega, h2⟩
        · rintro ⟨j, hj, h1, h2⟩
          refine ⟨j, hj, ?_, h2⟩
          rcases Nat.lt_or_ge j (pos + (Utf8.decode s pos).2) with e | e
          · exfalso
            rw [bad_ascii] at h2
            unfold badR at h2
            simp only [Bool.or_eq_true, beq_iff_eq] at h2
            rcases Nat.eq_or_lt_of_le h1 with e1 | e1
            · subst e1; omega
            · have hc := decode_cont s pos (j - pos) (by omega) (by omega)
              have ej : pos + (j - pos) = j := by omega
              rw [ej, get_bang s j hj] at hc
              omega
          · exact e
    · rw [if_neg hp]
      constructor
      · intro h; simp at h
      · rintro ⟨j, hj, h1, _⟩; omega

theorem contains_bad (s : ByteArray) : decide (0 ≤ Lib.idxFunc badR true s) = (L s).any badC := by
  rw [Bool.eq_iff_iff, decide_eq_true_eq]
  unfold Lib.idxFunc
  rw [idx_bad s s.size 0 (by omega), List.any_eq_true]
  constructor
  · rintro ⟨j, hj, _, h⟩
    exact ⟨s[j], List.getElem_mem (l := L s) (by rw [len_L]; exact hj), h⟩
  · rintro ⟨c, hc, h⟩
    obtain ⟨j, hj, rfl⟩ := List.getElem_of_mem hc
    exact ⟨j, by rw [len_L] at hj; exact hj, Nat.zero_le _, h⟩

set_option maxHeartbeats 400000 in
theorem bad_any (x : Nat) (w : World) : Calls Try.prog 68 #[.int .i32 x] w fun e w' => e = .returned (.bool (badR x)) ∧ w = w' := by
  by_cases h : x = 47
  · subst h
    go_enter Try.func68, Try.ntmps68
    go_wp2
    go_ret
    exact ⟨rfl, rfl⟩
  · have e1 : ((x : Int) == 47) = false := by simp; omega
    have e2 : badR x = ((x : Int) == 0) := by
      unfold badR
      rw [Bool.eq_iff_iff]
      simp only [Bool.or_eq_true, beq_iff_eq]
      omega
    have E2 := Lib.hid e2
    clear e2
    go_enter Try.func68, Try.ntmps68
    go_wp2
    go_ret
    refine ⟨?_, rfl⟩
    rw [E2.out]
    rfl

theorem toList_L (s : ByteArray) : s.toList = L s := ByteArray.toList_eq s

set_option maxRecDepth 100000 in
set_option maxHeartbeats 400000 in
theorem name_full (s : ByteArray) (w : World) (h0 : 0 < s.size) (h27 : s.size ≤ 27) (h1 : (s.toList == [46]) = false) (h2 : (s.toList == [46, 46]) = false) (b : Bool) (hb : (L s).any badC = b) :
    Calls Try.prog 45 #[.string s] w fun e w' => e = .returned (.int .i64 (if b then 2 else 0)) ∧ Below w.heap.size w w' := by
  have hne := empty_no h0
  have hd : decide (27 < s.size) = false := by simp; omega
  have hd' : decide (27 < (s.size : Int)) = false := by simp; omega
  have hc := Try.strings_ContainsFunc 68 #[] (enters_of Try.func68 (by kernel_rfl) rfl) badR s w (fun W x _ => (bad_any x W).mono fun e w' h => ⟨h.1, 0, h.2.symm⟩)
  rw [contains_bad, hb] at hc
  have HC := Lib.hid hc
  clear hc hb
  go_enter Try.func45, Try.ntmps45
  go_wp2_with fail
  refine (HC.out).mono ?_
  rintro e w1 ⟨rfl, b1⟩
  cases b
  · go_wp2
    go_ret
    exact ⟨rfl, b1⟩
  · go_wp2
    go_ret
    exact ⟨rfl, b1⟩

set_option maxRecDepth 100000 in
set_option maxHeartbeats 400000 in
theorem name_long (s : ByteArray) (w : World) (hs : s.size ≤ maxLen) (h : 27 < s.size) :
    Calls Try.prog 45 #[.string s] w fun e w' => e = .returned (.int .i64 2) ∧ Below w.heap.size w w' := by
  unfold maxLen at hs
  have hne := empty_no (s := s) (by omega)
  go_enter Try.func45, Try.ntmps45
  go_wp2
  go_ret
  exact ⟨rfl, Below.refl _ _⟩
set_option maxRecDepth 100000 in
set_option maxHeartbeats 400000 in
theorem name_empty (w : World) :
    Calls Try.prog 45 #[.string ⟨#[]⟩] w fun e w' => e = .returned (.int .i64 2) ∧ Below w.heap.size w w' := by
  go_enter Try.func45, Try.ntmps45
  go_wp2
  go_ret
  exact ⟨rfl, Below.refl _ _⟩
set_option maxRecDepth 100000 in
set_option maxHeartbeats 400000 in
theorem name_dot (w : World) :
    Calls Try.prog 45 #[.string ⟨#[46]⟩] w fun e w' => e = .returned (.int .i64 2) ∧ Below w.heap.size w w' := by
  go_enter Try.func45, Try.ntmps45
  go_wp2
  go_ret
  exact ⟨rfl, Below.refl _ _⟩
set_option maxRecDepth 100000 in
set_option maxHeartbeats 400000 in
theorem name_dots (w : World) :
    Calls Try.prog 45 #[.string ⟨#[46, 46]⟩] w fun e w' => e = .returned (.int .i64 2) ∧ Below w.heap.size w w' := by
  go_enter Try.func45, Try.ntmps45
  go_wp2
  go_ret
  exact ⟨rfl, Below.refl _ _⟩

def nameE (l : List UInt8) : Int := if isName l then 0 else 2
theorem all_not_any (l : List UInt8) : l.all (fun c => !(c == 47) && !(c == 0)) = !(l.any badC) := by
  rw [List.not_any_eq_all_not]
  congr 1
  funext c
  unfold badC
  simp
/-- path.Name, whatever the text. -/
theorem name_any (s : ByteArray) (w : World) (hs : s.size ≤ maxLen) :
    Calls Try.prog 45 #[.string s] w fun e w' => e = .returned (.int .i64 (nameE (L s))) ∧ Below w.heap.size w w' := by
  have hl := len_L s
  by_cases h0 : s.size = 0
  · rw [is_empty h0]; exact name_empty w
  · by_cases h27 : 27 < s.size
    · have e : nameE (L s) = 2 := by
        unfold nameE isName
        have : decide ((L s).length ≤ 27) = false := by simp; omega
        rw [this]; simp
      rw [e]
      exact name_long s w hs h27
    · by_cases h1 : L s = [46]
      · have e : s = ⟨#[46]⟩ := L_inj h1
        rw [e]; exact name_dot w
      · by_cases h2 : L s = [46, 46]
        · have e : s = ⟨#[46, 46]⟩ := L_inj h2
          rw [e]; exact name_dots w
        · have h := name_full s w (by omega) (by omega) (by rw [toList_L]; simpa using h1) (by rw [toList_L]; simpa using h2) _ rfl
          have e : nameE (L s) = (if (L s).any badC then 2 else 0) := by
            unfold nameE isName
            rw [all_not_any]
            have a1 : decide (1 ≤ (L s).length) = true := by simp; omega
            have a2 : decide ((L s).length ≤ 27) = true := by simp; omega
            have a3 : (L s == [46]) = false := by simpa using h1
            have a4 : (L s == [46, 46]) = false := by simpa using h2
            rw [a1, a2, a3, a4]
            cases (L s).any badC <;> rfl
          rw [e]
          exact h
end Go.Proofs.Ytfdclifdemajfaa.Path
