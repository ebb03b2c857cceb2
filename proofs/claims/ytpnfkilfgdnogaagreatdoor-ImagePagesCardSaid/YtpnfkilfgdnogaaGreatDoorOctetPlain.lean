/- Plain facts on numbers as bytes, the lowest first; on padding and bare texts. No program in sight. -/
import Derived.Laws.BitsAllLaws
import Derived.WalkKit
import Derived.IntWalk
namespace Go.Proofs.YtpnfkilfgdnogaaGreatDoor.Oct

def B (l : List UInt8) : ByteArray := ⟨l.toArray⟩
def L (s : ByteArray) : List UInt8 := s.data.toList
theorem L_B (l : List UInt8) : L (B l) = l := rfl
theorem B_L (s : ByteArray) : B (L s) = s := rfl
theorem len_L (s : ByteArray) : (L s).length = s.size := rfl
theorem size_B (l : List UInt8) : (B l).size = l.length := rfl
theorem L_inj {s t : ByteArray} (h : L s = L t) : s = t := by rw [← B_L s, ← B_L t, h]

/-- The number of bytes, the lowest first. -/
def valL : List UInt8 → Nat
  | [] => 0
  | b :: l => b.toNat + 256 * valL l
/-- n bytes of a number. -/
def numL (v n : Nat) : List UInt8 := (List.range n).map fun k => UInt8.ofNat (v / 256 ^ k % 256)

theorem len_numL (v n : Nat) : (numL v n).length = n := by simp [numL]
theorem numL_succ (v n : Nat) : numL v (n + 1) = numL v n ++ [UInt8.ofNat (v / 256 ^ n % 256)] := by simp [numL, List.range_succ]
theorem valL_lt : ∀ l : List UInt8, valL l < 256 ^ l.length
  | [] => by simp [valL]
  | b :: l => by
    have h := valL_lt l
    have hb := b.toNat_lt
    rw [List.length_cons, Nat.pow_succ, valL]
    omega
theorem valL_append : ∀ (l r : List UInt8), valL (l ++ r) = valL l + 256 ^ l.length * valL r
  | [], r => by simp [valL]
  | b :: l, r => by
    rw [List.cons_append, valL, valL, valL_append l r, List.length_cons, Nat.pow_succ, Nat.mul_add, Nat.mul_comm (256 ^ l.length) 256, Nat.mul_assoc]
    omega
theorem valL_snoc (l : List UInt8) (b : UInt8) : valL (l ++ [b]) = valL l + 256 ^ l.length * b.toNat := by rw [valL_append]; simp [valL]
theorem valL_numL (v : Nat) : ∀ n, valL (numL v n) = v % 256 ^ n
  | 0 => by simp [numL, valL, Nat.mod_one]
  | n + 1 => by
    have hb : (UInt8.ofNat (v / 256 ^ n % 256)).toNat = v / 256 ^ n % 256 := by
      rw [UInt8.toNat_ofNat']
      exact Nat.mod_eq_of_lt (Nat.mod_lt _ (by decide))
    rw [numL_succ, valL_snoc, valL_numL v n, len_numL, hb, Nat.pow_succ]
    exact (Nat.mod_mul).symm
theorem numL_valL (l : List UInt8) : numL (valL l) l.length = l := by
    apply List.ext_getElem (len_numL _ _)
    intro i h1 h2
    simp only [numL, List.getElem_map, List.getElem_range]
    have e : l = l.take i ++ (l[i] :: l.drop (i + 1)) := by
      rw [← List.drop_eq_getElem_cons h2, List.take_append_drop]
    have hlen : (l.take i).length = i := by simp; omega
    have hv : valL l = valL (l.take i) + 256 ^ i * (l[i].toNat + 256 * valL (l.drop (i + 1))) := by
      conv => lhs; rw [e]
      rw [valL_append, valL, hlen]
    have hlt := valL_lt (l.take i)
    rw [hlen] at hlt
    have hp : 0 < 256 ^ i := Nat.pow_pos (by decide)
    rw [hv, Nat.add_mul_div_left _ _ hp, Nat.div_eq_of_lt hlt, Nat.zero_add, Nat.add_mul_mod_self_left]
    rw [Nat.mod_eq_of_lt l[i].toNat_lt]
    simp
theorem valL_drop (l : List UInt8) (i : Nat) (h : i < l.length) : valL (l.drop i) = l[i].toNat + 256 * valL (l.drop (i + 1)) := by
  rw [List.drop_eq_getElem_cons h, valL]
theorem valL_take_succ (l : List UInt8) (i : Nat) (h : i < l.length) : valL (l.take (i + 1)) = valL (l.take i) + 256 ^ i * l[i].toNat := by
  have hl : (l.take i).length = i := by simp; omega
  rw [List.take_succ_eq_append_getElem h, valL_snoc, hl]

/-- How many bytes there are up to the last that is not nought. -/
def bareN : List UInt8 → Nat
  | [] => 0
  | b :: l => if bareN l = 0 then (if b = 0 then 0 else 1) else bareN l + 1
def bareL (l : List UInt8) : List UInt8 := l.take (bareN l)
theorem bareN_le : ∀ l, bareN l ≤ l.length
  | [] => by simp [bareN]
  | b :: l => by
    have h := bareN_le l
    rw [bareN, List.length_cons]
    split
    · split <;> omega
    · omega
def IsBare (l : List UInt8) (k : Nat) : Prop := k ≤ l.length ∧ (∀ j (h : j < l.length), k ≤ j → l[j] = 0) ∧ (k = 0 ∨ ∃ h : k - 1 < l.length, l[k - 1] ≠ 0)
theorem isBare_bareN : ∀ l, IsBare l (bareN l)
  | [] => ⟨by simp [bareN], by simp, .inl rfl⟩
  | b :: l => by
    obtain ⟨h1, h2, h3⟩ := isBare_bareN l
    refine ⟨bareN_le _, ?_, ?_⟩
    · intro j hj hk
      rw [bareN] at hk
      cases j with
      | zero =>
        by_cases e : bareN l = 0
        · rw [if_pos e] at hk
          by_cases e2 : b = 0
          · simpa using e2
          · rw [if_neg e2] at hk; omega
        · rw [if_neg e] at hk; omega
      | succ j =>
        have : l[j]'(by simpa using hj) = 0 := h2 j _ (by split at hk <;> (try split at hk) <;> omega)
        simpa using this
    · rw [bareN]
      by_cases e : bareN l = 0
      · rw [if_pos e]
        by_cases e2 : b = 0
        · rw [if_pos e2]; exact .inl rfl
        · rw [if_neg e2]; exact .inr ⟨by simp, by simpa using e2⟩
      · rw [if_neg e]
        rcases h3 with h3 | ⟨hl, h3⟩
        · exact (e h3).elim
        · refine .inr ⟨by simp; omega, ?_⟩
          have : bareN l + 1 - 1 = (bareN l - 1) + 1 := by omega
          simp only [this, List.getElem_cons_succ]
          exact h3
theorem isBare_unique {l : List UInt8} {a b : Nat} (ha : IsBare l a) (hb : IsBare l b) : a = b := by
  obtain ⟨a1, a2, a3⟩ := ha
  obtain ⟨b1, b2, b3⟩ := hb
  rcases Nat.lt_trichotomy a b with h | h | h
  · rcases b3 with b3 | ⟨hl, b3⟩
    · omega
    · exact (b3 (a2 _ hl (by omega))).elim
  · exact h
  · rcases a3 with a3 | ⟨hl, a3⟩
    · omega
    · exact (a3 (b2 _ hl (by omega))).elim
theorem bare_pad (l : List UInt8) : bareL l ++ List.replicate (l.length - (bareL l).length) 0 = l := by
  obtain ⟨h1, h2, _⟩ := isBare_bareN l
  have hl : (bareL l).length = bareN l := by simp [bareL]; omega
  rw [hl]
  apply List.ext_getElem
  · simp [hl]; omega
  · intro i h3 h4
    by_cases h : i < bareN l
    · rw [List.getElem_append_left (by omega)]
      simp [bareL]
    · rw [List.getElem_append_right (by omega)]
      simp [h2 i h4 (by omega)]
theorem bareN_pad (l : List UInt8) (m : Nat) : bareN (l ++ List.replicate m 0) = bareN l := by
  obtain ⟨h1, h2, h3⟩ := isBare_bareN l
  refine isBare_unique (isBare_bareN _) ⟨by simp; omega, ?_, ?_⟩
  · intro j hj hk
    by_cases h : j < l.length
    · rw [List.getElem_append_left h]; exact h2 j h hk
    · rw [List.getElem_append_right (by omega)]; simp
  · rcases h3 with h3 | ⟨hl, h3⟩
    · exact .inl h3
    · exact .inr ⟨by simp; omega, by rw [List.getElem_append_left hl]; exact h3⟩
theorem bareL_pad (l : List UInt8) (m : Nat) : bareL (l ++ List.replicate m 0) = bareL l := by
  have h := bareN_le l
  unfold bareL
  rw [bareN_pad, List.take_append_of_le_length h]
theorem bareL_bareL (l : List UInt8) : bareL (bareL l) = bareL l := by
  have h := bareL_pad (bareL l) (l.length - (bareL l).length)
  rw [bare_pad] at h
  exact h.symm

theorem pow256 (k : Nat) : (256 : Nat) ^ k = 2 ^ (8 * k) := by rw [Nat.pow_mul]
theorem u64_fit (a : Nat) (h : a < 18446744073709551616) : IntKind.u64.wrap (a : Int) = (a : Int) := by
  simp [IntKind.wrap, IntKind.bits, IntKind.signed]; omega
theorem pow_le8 (k : Nat) (h : k ≤ 8) : (256 : Nat) ^ k ≤ 18446744073709551616 := by
  have := Nat.pow_le_pow_right (show 0 < 256 by decide) h
  simpa using this
theorem get_at (s : ByteArray) (k : Nat) (h : k < s.size) : s[k] = (L s)[k]'(by rw [len_L]; exact h) := rfl

/-- A round of octet.Get. -/
theorem or_plain (V b k : Nat) (hV : V < 256 ^ k) (hb : b < 256) (h8 : k < 8) :
    bits BinOp.or IntKind.u64 (V : Int) (IntKind.u64.wrap (IntKind.u64.wrap (b : Int) * 2 ^ (8 * k))) = ((V + 256 ^ k * b : Nat) : Int) := by
  have hp : (256 : Nat) ^ (k + 1) ≤ 18446744073709551616 := pow_le8 _ (by omega)
  rw [Nat.pow_succ] at hp
  have hx : b * 256 ^ k < 18446744073709551616 := by
    have h0 : 0 < (256 : Nat) ^ k := Nat.pow_pos (by decide)
    have : b * 256 ^ k < 256 * 256 ^ k := Nat.mul_lt_mul_of_pos_right hb h0
    omega
  have e1 : IntKind.u64.wrap (IntKind.u64.wrap (b : Int) * 2 ^ (8 * k)) = ((b * 256 ^ k : Nat) : Int) := by
    rw [u64_fit _ (by omega)]
    have : ((b : Int) * 2 ^ (8 * k)) = ((b * 256 ^ k : Nat) : Int) := by rw [pow256]; norm_cast
    rw [this, u64_fit _ hx]
  rw [e1, u64_or_nat _ _ (by omega) hx]
  congr 1
  rw [Nat.or_comm, nat_join (8 * k) _ _ (by rw [pow256]; exact Nat.mul_mod_left _ _) (by rw [← pow256]; exact hV), Nat.add_comm, Nat.mul_comm]
theorem or_step (s : ByteArray) (k : Nat) (h : k < s.size) (h8 : s.size ≤ 8) :
    bits BinOp.or IntKind.u64 (valL ((L s).take k) : Int) (IntKind.u64.wrap (IntKind.u64.wrap (s[k].toNat : Int) * 2 ^ (8 * k))) = (valL ((L s).take (k + 1)) : Int) := by
  have hl : k < (L s).length := by rw [len_L]; exact h
  have hV := valL_lt ((L s).take k)
  have hlen : ((L s).take k).length = k := by simp; omega
  rw [hlen] at hV
  rw [valL_take_succ _ _ hl, ← get_at s k h]
  exact or_plain _ _ _ hV s[k].toNat_lt (by omega)

/-- A round of the reference's Value. -/
theorem value_plain (V b : Nat) (hV : V < 72057594037927936) (hb : b < 256) : IntKind.u64.wrap (IntKind.u64.wrap ((V : Int) * 256) + IntKind.u64.wrap (b : Int)) = ((b + 256 * V : Nat) : Int) := by
  have e1 : IntKind.u64.wrap ((V : Int) * 256) = ((V * 256 : Nat) : Int) := by
    have : ((V : Int) * 256) = ((V * 256 : Nat) : Int) := by omega
    rw [this, u64_fit _ (by omega)]
  rw [e1, u64_fit b (by omega)]
  have : (((V * 256 : Nat) : Int) + (b : Int)) = ((V * 256 + b : Nat) : Int) := by omega
  rw [this, u64_fit _ (by omega)]
  congr 1
  omega
theorem value_step (s : ByteArray) (k : Nat) (h0 : 0 < k) (h : k ≤ s.size) (h8 : s.size ≤ 8) (hk : k - 1 < s.size) :
    IntKind.u64.wrap (IntKind.u64.wrap ((valL ((L s).drop k) : Int) * 256) + IntKind.u64.wrap (s[k - 1].toNat : Int)) = (valL ((L s).drop (k - 1)) : Int) := by
  have hl : k - 1 < (L s).length := by rw [len_L]; exact hk
  have hV := valL_lt ((L s).drop k)
  have hz := len_L s
  have hlen : ((L s).drop k).length ≤ 7 := by rw [List.length_drop]; omega
  have hp : (256 : Nat) ^ ((L s).drop k).length ≤ 256 ^ 7 := Nat.pow_le_pow_right (by decide) hlen
  have hV2 : valL ((L s).drop k) < 72057594037927936 := Nat.lt_of_lt_of_le hV (by simpa using hp)
  have e0 : k - 1 + 1 = k := by omega
  have e := valL_drop (L s) (k - 1) hl
  rw [e0, ← get_at s (k - 1) hk] at e
  rw [e]
  exact value_plain _ _ hV2 s[k - 1].toNat_lt

theorem B_append (a b : List UInt8) : B a ++ B b = B (a ++ b) := by
  unfold B
  rw [ByteArray.mk_append_mk]
theorem append_B (s t : ByteArray) : s ++ t = B (L s ++ L t) := by rw [← B_append, B_L, B_L]
/-- A round of the reference's Bytes. -/
theorem quo_step (v k q : Nat) (hv : v < 256 ^ 8) (hq : q = v / 256 ^ k) : IntKind.u64.wrap ((q : Int) / 256) = ((v / 256 ^ (k + 1) : Nat) : Int) := by
  have h1 : q ≤ v := by rw [hq]; exact Nat.div_le_self _ _
  have e : ((q : Int) / 256) = ((q / 256 : Nat) : Int) := by omega
  rw [e, u64_fit _ (by omega), Nat.pow_succ, ← Nat.div_div_eq_div_mul, ← hq]
theorem num_step (v k q : Nat) (hq : q = v / 256 ^ k) : B (numL v k) ++ B [UInt8.ofNat (q % 256)] = B (numL v (k + 1)) := by
  rw [B_append, numL_succ, hq]
end Go.Proofs.YtpnfkilfgdnogaaGreatDoor.Oct
