/- Plain facts on numbers as bytes, the lowest first; on padding and bare texts. No program in sight. -/
import Derived.Laws.BitsAllLaws
import Derived.WalkKit
import Derived.IntWalk
namespace Go.Proofs.YtpnfkilfgdnogaaGreatDoor.Oct
def B (l : List UInt8) : ByteArray := ⟨l.toArray⟩
def L (s : ByteArray) : List UInt8 := s.data.toList
theorem L_B (l : List UInt8) : L (B l) = l := rfl
theorem B_L (s : ByteArray) : B (L s) = s := rfl
theorem len_L (s : ByteArray) : (L s).length = s.size := rfl
theorem size_B (l : List UInt8) : (B l).size = l.length := rfl
theorem L_inj {s t : ByteArray} (h : L s = L t) : s = t := by rw [← B_L s, ← B_L t, h]
def valL : List UInt8 → Nat
  | [] => 0
  | b :: l => b.toNat + 256 * valL l
def numL (v n : Nat) : List UInt8 := (List.range n).map fun k => UInt8.ofNat (v / 256 ^ k % 256)
theorem len_numL (v n : Nat) : (numL v n).length = n := by simp [numL]
theorem numL_succ (v n : Nat) : numL v (n + 1) = numL v n ++ [UInt8.ofNat (v / 256 ^ n % 256)] := by simp [numL, List.range_succ]
theorem valL_lt : ∀ l : List UInt8, valL l < 256 ^ l.length
  | [] => by simp [valL]
  | b :: l => by
    have h := valL_lt l
    have hb := b.toNat_lt
    rw [List.length_cons, Nat.pow_succ, valL]
    omega
theorem valL_append : ∀ (l r : List UInt8), valL (l ++ r) = valL l + 256 ^ l.length * valL r
  | [], r => by simp [valL]
  | b :: l, r => by
    rw [List.cons_append, valL, valL, valL_append l r, List.length_cons, Nat.pow_succ, Nat.mul_add, Nat.mul_comm (256 ^ l.length) 256, Nat.mul_assoc]
    omega
theorem valL_snoc (l : List UInt8) (b : UInt8) : valL (l ++ [b]) = valL l + 256 ^ l.length * b.toNat := by rw [valL_append]; simp [valL]
theorem valL_numL (v : Nat) : ∀ n, valL (numL v n) = v % 256 ^ n
  | 0 => by simp [numL, valL, Nat.mod_one]
  | n + 1 => by
    have hb : (UInt8.ofNat (v / 256 ^ n % 256)).toNat = v / 256 ^ n % 256 := by
      rw [UInt8.toNat_ofNat']
      exact Nat.mod_eq_of_lt (Nat.mod_lt _ (by decide))
    rw [numL_succ, valL_snoc, valL_numL v n, len_numL, hb, Nat.pow_succ]
    exact (Nat.mod_mul).symm
theorem valL_take_succ (l : List UInt8) (i : Nat) (h : i < l.length) : valL (l.take (i + 1)) = valL (l.take i) + 256 ^ i * l[i].toNat := by
  have hl : (l.take i).length = i := by simp; omega
  rw [List.take_succ_eq_append_getElem h, valL_snoc, hl]
theorem pow256 (k : Nat) : (256 : Nat) ^ k = 2 ^ (8 * k) := by rw [Nat.pow_mul]
theorem u64_fit (a : Nat) (h : a < 18446744073709551616) : IntKind.u64.wrap (a : Int) = (a : Int) := by
  simp [IntKind.wrap, IntKind.bits, IntKind.signed]; omega
theorem pow_le8 (k : Nat) (h : k ≤ 8) : (256 : Nat) ^ k ≤ 18446744073709551616 := by
  have := Nat.pow_le_pow_right (show 0 < 256 by decide) h
  simpa using this
theorem get_at (s : ByteArray) (k : Nat) (h : k < s.size) : s[k] = (L s)[k]'(by rw [len_L]; exact h) := rfl
theorem or_plain (V b k : Nat) (hV : V < 256 ^ k) (hb : b < 256) (h8 : k < 8) :
    bits BinOp.or IntKind.u64 (V : Int) (IntKind.u64.wrap (IntKind.u64.wrap (b : Int) * 2 ^ (8 * k))) = ((V + 256 ^ k * b : Nat) : Int) := by
  have hp : (256 : Nat) ^ (k + 1) ≤ 18446744073709551616 := pow_le8 _ (by omega)
  rw [Nat.pow_succ] at hp
  have hx : b * 256 ^ k < 18446744073709551616 := by
    have h0 : 0 < (256 : Nat) ^ k := Nat.pow_pos (by decide)
    have : b * 256 ^ k < 256 * 256 ^ k := Nat.mul_lt_mul_of_pos_right hb h0
    omega
  have e1 : IntKind.u64.wrap (IntKind.u64.wrap (b : Int) * 2 ^ (8 * k)) = ((b * 256 ^ k : Nat) : Int) := by
    rw [u64_fit _ (by omega)]
    have : ((b : Int) * 2 ^ (8 * k)) = ((b * 256 ^ k : Nat) : Int) := by rw [pow256]; norm_cast
    rw [this, u64_fit _ hx]
  rw [e1, u64_or_nat _ _ (by omega) hx]
  congr 1
  rw [Nat.or_comm, nat_join (8 * k) _ _ (by rw [pow256]; exact Nat.mul_mod_left _ _) (by rw [← pow256]; exact hV), Nat.add_comm, Nat.mul_comm]
theorem or_step (s : ByteArray) (k : Nat) (h : k < s.size) (h8 : s.size ≤ 8) :
    bits BinOp.or IntKind.u64 (valL ((L s).take k) : Int) (IntKind.u64.wrap (IntKind.u64.wrap (s[k].toNat : Int) * 2 ^ (8 * k))) = (valL ((L s).take (k + 1)) : Int) := by
  have hl : k < (L s).length := by rw [len_L]; exact h
  have hV := valL_lt ((L s).take k)
  have hlen : ((L s).take k).length = k := by simp; omega
  rw [hlen] at hV
  rw [valL_take_succ _ _ hl, ← get_at s k h]
  exact or_plain _ _ _ hV s[k].toNat_lt (by omega)
theorem B_append (a b : List UInt8) : B a ++ B b = B (a ++ b) := by
  unfold B
  rw [ByteArray.mk_append_mk]
theorem append_B (s t : ByteArray) : s ++ t = B (L s ++ L t) := by rw [← B_append, B_L, B_L]
end Go.Proofs.YtpnfkilfgdnogaaGreatDoor.Oct
