/- Plain facts on the bits of a text of bytes: what a text with one bit set is, its bits, that it is told by its bits. No program in sight. -/
import Derived.Laws.BitsAllLaws
import Derived.WalkKit
namespace Go.Proofs.YtpnfkilfgdnogaaGreatDoor
theorem len_toList (s : ByteArray) : s.data.toList.length = s.size := rfl
def byteAt (s : ByteArray) (j : Nat) : UInt8 := s.data.toList.getD j 0
def bitB (s : ByteArray) (k : Nat) : Bool := (byteAt s (k / 8)).toNat.testBit (k % 8)
def turnN (b j : Nat) (on : Bool) : Nat := if on then b ||| 2 ^ j else b &&& (255 - 2 ^ j)
def turn8 (b : UInt8) (j : Nat) (on : Bool) : UInt8 := UInt8.ofNat (turnN b.toNat j on)
def setB (s : ByteArray) (k : Nat) (on : Bool) : ByteArray := ⟨(s.data.toList.set (k / 8) (turn8 (byteAt s (k / 8)) (k % 8) on)).toArray⟩
def turnB (b : Int) (k : Nat) (on : Bool) : Int := if on then bits .or .u8 b (2 ^ (k % 8) % 256) else bits .andNot .u8 b (2 ^ (k % 8) % 256)
theorem pow8 : ∀ j : Nat, j < 8 → 2 ^ j < 256 ∧ 0 < 2 ^ j := by decide
theorem turnN_lt (b j : Nat) (on : Bool) (hb : b < 256) (hj : j < 8) : turnN b j on < 256 := by
  have hp := (pow8 j hj).1
  unfold turnN
  cases on
  · exact Nat.lt_of_le_of_lt Nat.and_le_left hb
  · exact Nat.or_lt_two_pow (n := 8) hb hp
theorem not_bit : ∀ j : Nat, j < 8 → ∀ i : Nat, i < 8 → (255 - 2 ^ j).testBit i = !decide (i = j) := by decide
theorem turnN_bit (b j i : Nat) (on : Bool) (hj : j < 8) (hi : i < 8) : (turnN b j on).testBit i = if i = j then on else b.testBit i := by
  unfold turnN
  cases on
  · have h := not_bit j hj i hi
    simp only [Bool.false_eq_true, if_false, Nat.testBit_and, h]
    by_cases e : i = j <;> simp [e]
  · simp only [if_true, Nat.testBit_or, Nat.testBit_two_pow]
    by_cases e : i = j
    · simp [e]
    · have : ¬ j = i := fun h => e h.symm
      simp [e, this]
theorem turnB_eq (b : UInt8) (k : Nat) (on : Bool) : turnB (b.toNat : Int) k on = ((turn8 b (k % 8) on).toNat : Int) := by
  have hj : k % 8 < 8 := Nat.mod_lt _ (by decide)
  have hb : b.toNat < 256 := b.toNat_lt
  have hp := (pow8 (k % 8) hj).1
  have e1 : ((2 : Int) ^ (k % 8) % 256) = ((2 ^ (k % 8) : Nat) : Int) := by
    have : ((2 : Int) ^ (k % 8)) = ((2 ^ (k % 8) : Nat) : Int) := by norm_cast
    rw [this]
    generalize (2 : Nat) ^ (k % 8) = p at hp ⊢
    omega
  have e2 : (turn8 b (k % 8) on).toNat = turnN b.toNat (k % 8) on := by
    unfold turn8
    rw [UInt8.toNat_ofNat']
    exact Nat.mod_eq_of_lt (turnN_lt _ _ _ hb hj)
  rw [e2]
  unfold turnB turnN
  rw [e1]
  cases on
  · simp only [Bool.false_eq_true, if_false]
    exact u8_andNot_nat _ _ hb hp
  · simp only [if_true]
    exact u8_or_nat _ _ hb hp
theorem size_setB (s : ByteArray) (k : Nat) (on : Bool) : (setB s k on).size = s.size := by
  rw [← len_toList, ← len_toList]
  simp [setB]
theorem byteAt_setB (s : ByteArray) (k j : Nat) (on : Bool) (h : k < 8 * s.size) :
    byteAt (setB s k on) j = if j = k / 8 then turn8 (byteAt s (k / 8)) (k % 8) on else byteAt s j := by
  have hk : k / 8 < s.data.toList.length := by
    have := len_toList s
    omega
  unfold byteAt setB
  by_cases e : j = k / 8
  · subst e
    simp only [List.getD_eq_getElem?_getD, if_true]
    rw [List.getElem?_set_self hk]
    rfl
  · simp only [List.getD_eq_getElem?_getD, if_neg e]
    rw [List.getElem?_set_ne (fun h => e h.symm)]
theorem turn8_toNat (b : UInt8) (j : Nat) (on : Bool) (hj : j < 8) : (turn8 b j on).toNat = turnN b.toNat j on := by
  unfold turn8
  rw [UInt8.toNat_ofNat']
  exact Nat.mod_eq_of_lt (turnN_lt _ _ _ b.toNat_lt hj)
theorem bitB_setB (s : ByteArray) (k i : Nat) (on : Bool) (h : k < 8 * s.size) : bitB (setB s k on) i = if i = k then on else bitB s i := by
  have hj : k % 8 < 8 := Nat.mod_lt _ (by decide)
  have hi : i % 8 < 8 := Nat.mod_lt _ (by decide)
  unfold bitB
  rw [byteAt_setB s k _ on h]
  by_cases e : i / 8 = k / 8
  · rw [if_pos e, turn8_toNat _ _ _ hj, turnN_bit _ _ _ _ hj hi, e]
    by_cases e2 : i % 8 = k % 8
    · have : i = k := by omega
      simp [this]
    · have : ¬ i = k := fun h => e2 (by rw [h])
      simp [e2, this]
  · have : ¬ i = k := fun h => e (by rw [h])
    simp [e, this]
theorem byteAt_get (s : ByteArray) (j : Nat) (h : j < s.size) : byteAt s j = s[j] := by
  have l1 := len_toList s
  unfold byteAt
  rw [List.getD_eq_getElem?_getD, List.getElem?_eq_getElem (by omega)]
  rfl
theorem get_bit (b : UInt8) (j : Nat) : (bits BinOp.and IntKind.u8 ((b.toNat : Int) / 2 ^ j) 1 == 1) = b.toNat.testBit j := by
  have hb : b.toNat < 256 := b.toNat_lt
  have e1 : ((b.toNat : Int) / 2 ^ j) = ((b.toNat / 2 ^ j : Nat) : Int) := by
    have : ((2 : Int) ^ j) = ((2 ^ j : Nat) : Int) := by norm_cast
    rw [this]; norm_cast
  have hlt : b.toNat / 2 ^ j < 256 := Nat.lt_of_le_of_lt (Nat.div_le_self _ _) hb
  rw [e1, show (1 : Int) = ((1 : Nat) : Int) from rfl, u8_and_nat _ _ hlt (by decide), nat_mask1, Nat.testBit_eq_decide_div_mod_eq]
  rw [Bool.eq_iff_iff]
  simp only [beq_iff_eq, decide_eq_true_eq]
  omega
end Go.Proofs.YtpnfkilfgdnogaaGreatDoor
