/- Layer 37: strings.Builder: WriteString, Len. -/
import Derived.Lib.AtoiAll
import Derived.Lib.ItoaMem
import Derived.Lib.Bytealg
import Derived.Test.YtkljcgopikdjjaaGreatDoorM01
import Derived.Deep.RegionHeld3
import Derived.Laws.Rows
import Derived.Maps.OwnSet
import Derived.Maps.OwnOps
import Derived.Maps.Views
import Derived.Maps.RangeWalk
import Derived.Maps.Ext
import Derived.Lib.SlKeysI
import Derived.StringKeys
import Derived.Orders
import Derived.Lib.Hide
import Derived.Test.YtkljcgopikdjjaaGreatDoorM03
import Derived.WalkMore
import Derived.Test.YtkljcgopikdjjaaGreatDoorM02
import Derived.Deep.AppendLies
import Derived.StillTailTactics
import Derived.Lib.AppendStr
import Derived.Lib.AppendIntMem
set_option linter.unusedVariables false
set_option linter.unusedSimpArgs false
set_option maxRecDepth 100000
section
namespace Go.Proofs.YtkljcgopikdjjaaGreatDoor.Tx
open Go
def digB (c : UInt8) : Bool := decide (48 ≤ c.toNat ∧ c.toNat ≤ 57)
theorem dec_dig : ∀ (u : Nat), ∀ c ∈ Lib.decDigits u, digB c = true := by
 intro u
 induction u using Nat.strongRecOn with
 | ind u ih =>
   intro c hc;rw [Lib.decDigits] at hc
   split at hc
   · simp only [List.mem_singleton] at hc
     subst hc
     simp [digB, UInt8.toNat_ofNat']
     omega
   · rw [List.mem_append] at hc
     rcases hc with hc | hc
     · exact ih (u / 10) (by omega) c hc
     · simp only [List.mem_singleton] at hc
       subst hc
       simp [digB, UInt8.toNat_ofNat']
       omega
theorem dec_ne (u : Nat) : Lib.decDigits u ≠ [] := by
 rw [Lib.decDigits]
 split <;> simp
theorem parse_app : ∀ (l m : List UInt8) (acc v : Nat), Lib.parseUint10 acc l = .ok v → Lib.parseUint10 acc (l ++ m) = Lib.parseUint10 v m
 | [], m, acc, v, h => by
   simp only [Lib.parseUint10] at h
   injection h with h
   subst h
   rfl
 | c :: r, m, acc, v, h => by
   simp only [Lib.parseUint10, List.cons_append] at h ⊢
   split at h
   · rename_i h1
     rw [if_pos h1]
     split at h
     · cases h
     · rename_i h2
       rw [if_neg h2]
       split at h
       · cases h
       · rename_i h3
         rw [if_neg h3];exact parse_app r m _ v h
   · cases h
theorem parse_dec (u : Nat) (h : u < 18446744073709551616) : Lib.parseUint10 0 (Lib.decDigits u) = .ok u := by
 induction u using Nat.strongRecOn with
 | ind u ih =>
   rw [Lib.decDigits]
   split
   · rename_i h1
     have e : (UInt8.ofNat (48 + u)).toNat = 48 + u := by simp [UInt8.toNat_ofNat']; omega
     simp only [Lib.parseUint10, e];rw [if_pos (by omega), if_neg (by omega), if_neg (by omega)]
     congr 1
     omega
   · rename_i h1
     rw [parse_app _ _ 0 (u / 10) (ih (u / 10) (by omega) (by omega))];have e : (UInt8.ofNat (48 + u % 10)).toNat = 48 + u % 10 := by simp [UInt8.toNat_ofNat']; omega
     simp only [Lib.parseUint10, e];rw [if_pos (by omega), if_neg (by omega), if_neg (by omega)]
     congr 1
     omega
theorem atoi_itoa (n : Int) (h0 : -9223372036854775808 ≤ n) (h1 : n ≤ 9223372036854775807) : Lib.atoiAll (Lib.itoa n) = .ok n := by
 unfold Lib.itoa
 split
 · rename_i hn
   have hp := parse_dec n.natAbs (by omega);simp only [Lib.atoiAll, Lib.parseMag];have e : (45 : UInt8).toNat = 45 := rfl;simp only [e, or_true, if_true];rw [if_neg (dec_ne _), hp];simp only;rw [if_neg (by simp), if_neg (by omega)]
   congr 1
   omega
 · rename_i hn
   have hp := parse_dec n.toNat (by omega);cases hd : Lib.decDigits n.toNat with
   | nil => exact absurd hd (dec_ne _)
   | cons c r =>
     have hc := dec_dig n.toNat c (by rw [hd]; exact List.mem_cons_self ..);simp only [digB, decide_eq_true_eq] at hc;simp only [Lib.atoiAll];rw [if_neg (by omega)];simp only [Lib.parseMag];rw [if_neg (by simp), ← hd, hp];have e : ¬ c.toNat = 45 := by omega
     simp only [e, not_false_eq_true, true_and, if_false, false_and];rw [if_neg (by omega)]
     congr 1
     omega
def numC (c : UInt8) : Bool := digB c || c == 45
theorem itoa_num (n : Int) : ∀ c ∈ Lib.itoa n, numC c = true := by
 intro c hc;unfold Lib.itoa at hc
 split at hc
 · rw [List.mem_cons] at hc
   rcases hc with rfl | hc
   · rfl
   · simp [numC, dec_dig _ c hc]
 · simp [numC, dec_dig _ c hc]
theorem itoa_ne (n : Int) : Lib.itoa n ≠ [] := by
 unfold Lib.itoa
 split
 · simp
 · exact dec_ne _
def numL (l : List UInt8) : Option Int :=
 match Lib.atoiAll l with
 | .ok v => if Lib.itoa v = l then some v else none
 | _ => none
theorem num_itoa (n : Int) (h0 : -9223372036854775808 ≤ n) (h1 : n ≤ 9223372036854775807) : numL (Lib.itoa n) = some n := by
 unfold numL;rw [atoi_itoa n h0 h1]
 simp
theorem num_some {l : List UInt8} {v : Int} (h : numL l = some v) : Lib.itoa v = l ∧ Lib.atoiAll l = .ok v := by
 unfold numL at h;cases ha : Lib.atoiAll l with
 | ok u =>
   rw [ha] at h;simp only at h
   split at h
   · injection h with h
     subst h;exact ⟨‹_›, rfl⟩
   · cases h
 | _ => rw [ha] at h; cases h
end Go.Proofs.YtkljcgopikdjjaaGreatDoor.Tx
end
section
namespace Go.Proofs.YtkljcgopikdjjaaGreatDoor.Tx
open Go
def stB (c : UInt8) : Bool :=
 decide (97 ≤ c.toNat ∧ c.toNat ≤ 122) || decide (65 ≤ c.toNat ∧ c.toNat ≤ 90) || decide (48 ≤ c.toNat ∧ c.toNat ≤ 57) || (c == 46 || c == 47 || c == 95 || c == 45)
def hexN (n : Nat) : UInt8 := UInt8.ofNat (if n < 10 then 48 + n else 87 + n)
def unhex (c : UInt8) : Option Nat :=
 if 48 ≤ c.toNat ∧ c.toNat ≤ 57 then some (c.toNat - 48) else if 97 ≤ c.toNat ∧ c.toNat ≤ 102 then some (c.toNat - 87) else none
theorem hexN_toNat (n : Nat) (h : n < 16) : (hexN n).toNat = if n < 10 then 48 + n else 87 + n := by
 unfold hexN;rw [UInt8.toNat_ofNat']
 split <;> omega
theorem unhex_hex (n : Nat) (h : n < 16) : unhex (hexN n) = some n := by
 unfold unhex;rw [hexN_toNat n h]
 by_cases h1 : n < 10
 · simp only [if_pos h1]
   rw [if_pos (by omega)]
   congr 1
   omega
 · simp only [if_neg h1]
   rw [if_neg (by omega), if_pos (by omega)]
   congr 1
   omega
theorem hex_unhex {c : UInt8} {n : Nat} (h : unhex c = some n) : hexN n = c ∧ n < 16 := by
 unfold unhex at h
 split at h
 · injection h with h
   refine ⟨?_, by omega⟩
   apply UInt8.toNat_inj.mp
   rw [hexN_toNat n (by omega), if_pos (by omega)];omega
 · split at h
   · injection h with h
     refine ⟨?_, by omega⟩
     apply UInt8.toNat_inj.mp
     rw [hexN_toNat n (by omega), if_neg (by omega)];omega
   · cases h
def tellB (c : UInt8) : List UInt8 := if stB c = true then [c] else [37, hexN (c.toNat / 16), hexN (c.toNat % 16)]
def tellR : List UInt8 → List UInt8
 | [] => []
 | c :: r => tellB c ++ tellR r
def tellL (l : List UInt8) : List UInt8 := if l = [] then [37] else tellR l
theorem tellR_app (a b : List UInt8) : tellR (a ++ b) = tellR a ++ tellR b := by
 induction a with
 | nil => rfl
 | cons c r ih => simp only [List.cons_append, tellR, ih, List.append_assoc]
def hearR : List UInt8 → Option (List UInt8)
 | [] => some []
 | c :: r =>
   if c = 37 then
     match r with
     | a :: b :: r' =>
       match unhex a, unhex b with
       | some x, some y => if stB (UInt8.ofNat (x * 16 + y)) = true then none else (hearR r').map (UInt8.ofNat (x * 16 + y) :: ·)
       | _, _ => none
     | _ => none
   else if stB c = true then (hearR r).map (c :: ·) else none
def hearL (l : List UInt8) : Option (List UInt8) :=
 match hearR l with
 | some (c :: r) => some (c :: r)
 | _ => none
theorem st37 : stB 37 = false := by decide
theorem hear_tellB (c : UInt8) (r : List UInt8) : hearR (tellB c ++ r) = (hearR r).map (c :: ·) := by
 unfold tellB;have hc := c.toNat_lt
 by_cases h : stB c = true
 · rw [if_pos h]
   have h37 : ¬ c = 37 := by rintro rfl; rw [st37] at h; cases h
   rw [List.singleton_append, hearR.eq_def];simp only [if_neg h37, if_pos h]
 · rw [if_neg h]
   simp only [List.cons_append, List.nil_append, hearR, if_true];rw [unhex_hex _ (by omega), unhex_hex _ (by omega)]
   have e : UInt8.ofNat (c.toNat / 16 * 16 + c.toNat % 16) = c := by
     apply UInt8.toNat_inj.mp
     rw [UInt8.toNat_ofNat'];omega
   simp only [e];rw [if_neg h]
theorem hear_tellR (l : List UInt8) : hearR (tellR l) = some l := by
 induction l with
 | nil => rfl
 | cons c r ih => rw [tellR, hear_tellB, ih]; rfl
theorem tell_hearR : ∀ (n : Nat) (l r : List UInt8), l.length ≤ n → hearR l = some r → tellR r = l := by
 intro n
 induction n with
 | zero =>
   intro l r hn h;cases l with
   | nil => simp only [hearR] at h; injection h with h; subst h; rfl
   | cons c t => simp at hn
 | succ n ih =>
   intro l r hn h;cases l with
   | nil => simp only [hearR] at h; injection h with h; subst h; rfl
   | cons c t =>
     rw [hearR.eq_def] at h;simp only at h
     split at h
     · rename_i hc
       split at h
       · rename_i a b r'
         cases hx : unhex a with
         | none => rw [hx] at h; simp at h
         | some x =>
           cases hy : unhex b with
           | none => rw [hx, hy] at h; simp at h
           | some y =>
             rw [hx, hy] at h;simp only at h
             split at h
             · cases h
             · rename_i hs
               rw [Option.map_eq_some_iff] at h;obtain ⟨q, hq, rfl⟩ := h;have := ih r' q (by simp at hn; omega) hq;obtain ⟨e1, l1⟩ := hex_unhex hx;obtain ⟨e2, l2⟩ := hex_unhex hy;rw [tellR, this];unfold tellB;rw [if_neg hs];have e : (UInt8.ofNat (x * 16 + y)).toNat = x * 16 + y := by rw [UInt8.toNat_ofNat']; omega
               rw [e];have e3 : (x * 16 + y) / 16 = x := by omega
               have e4 : (x * 16 + y) % 16 = y := by omega
               rw [e3, e4, e1, e2, hc]
               rfl
       · cases h
     · rename_i hc
       split at h
       · rename_i hs
         rw [Option.map_eq_some_iff] at h;obtain ⟨q, hq, rfl⟩ := h;have := ih t q (by simp at hn; omega) hq;rw [tellR, this];unfold tellB;rw [if_pos hs]
         rfl
       · cases h
theorem hear_tell {l : List UInt8} (h : l ≠ []) : hearL (tellL l) = some l := by
 unfold tellL;rw [if_neg h];unfold hearL;rw [hear_tellR];cases l with
 | nil => exact absurd rfl h
 | cons c r => rfl
theorem tell_hear {l r : List UInt8} (h : hearL l = some r) : tellL r = l ∧ r ≠ [] := by
 unfold hearL at h;cases hr : hearR l with
 | none => rw [hr] at h; cases h
 | some q =>
   rw [hr] at h;cases q with
   | nil => cases h
   | cons c t =>
     simp only [Option.some.injEq] at h;subst h;refine ⟨?_, by simp⟩;unfold tellL;rw [if_neg (by simp)];exact tell_hearR l.length l _ (Nat.le_refl _) hr
def sayB (c : UInt8) : Bool := c != 32 && c != 61 && c != 10
theorem say_hex (n : Nat) (h : n < 16) : sayB (hexN n) = true := by
 have e := hexN_toNat n h
 have ne : ∀ m : UInt8, m.toNat < 48 ∨ m.toNat = 61 → hexN n ≠ m := by
   intro m hm he;rw [he] at e
   split at e <;> omega
 have a := ne 32 (by decide);have b := ne 61 (by decide);have d := ne 10 (by decide)
 simp [sayB, a, b, d]
theorem say_st {c : UInt8} (h : stB c = true) : sayB c = true := by
 have a : c ≠ 32 := by rintro rfl; revert h; decide
 have b : c ≠ 61 := by rintro rfl; revert h; decide
 have d : c ≠ 10 := by rintro rfl; revert h; decide
 simp [sayB, a, b, d]
theorem say_tellB (b : UInt8) : ∀ c ∈ tellB b, sayB c = true := by
 intro c hc;have hb := b.toNat_lt;unfold tellB at hc
 split at hc
 · simp only [List.mem_singleton] at hc; subst hc; exact say_st ‹_›
 · simp only [List.mem_cons, List.not_mem_nil, or_false] at hc
   rcases hc with rfl | rfl | rfl
   · decide
   · exact say_hex _ (by omega)
   · exact say_hex _ (by omega)
theorem say_tellR (l : List UInt8) : ∀ c ∈ tellR l, sayB c = true := by
 induction l with
 | nil => intro c hc; cases hc
 | cons b r ih =>
   intro c hc;rw [tellR, List.mem_append] at hc
   rcases hc with hc | hc
   · exact say_tellB b c hc
   · exact ih c hc
theorem say_tell (l : List UInt8) : ∀ c ∈ tellL l, sayB c = true := by
 unfold tellL
 split
 · decide
 · exact say_tellR l
theorem tellR_ne {l : List UInt8} (h : l ≠ []) : tellR l ≠ [] := by
 cases l with
 | nil => exact absurd rfl h
 | cons c r => rw [tellR]; unfold tellB; split <;> simp
theorem tell_ne (l : List UInt8) : tellL l ≠ [] := by
 unfold tellL
 split
 · simp
 · exact tellR_ne ‹_›
theorem say_num {c : UInt8} (h : numC c = true) : sayB c = true := by
 have a : c ≠ 32 := by rintro rfl; revert h; decide
 have b : c ≠ 61 := by rintro rfl; revert h; decide
 have d : c ≠ 10 := by rintro rfl; revert h; decide
 simp [sayB, a, b, d]
theorem say_itoa (n : Int) : ∀ c ∈ Lib.itoa n, sayB c = true := fun c hc => say_num (itoa_num n c hc)
end Go.Proofs.YtkljcgopikdjjaaGreatDoor.Tx
end
section
namespace Go.Proofs.YtkljcgopikdjjaaGreatDoor.Tx
open Go
structure M where
 k : Nat
 co : Int
 n : Int
 ino : Nat
 d : Nat
 p : List UInt8
 p2 : List UInt8
 fd : Int
 pg : Int
 sz : Nat
 da : List UInt8
 t : List UInt8
 deriving DecidableEq
def M.zero : M := ⟨0, 0, 0, 0, 0, [], [], 0, 0, 0, [], []⟩
structure M.In (x : M) : Prop where
 co0 : -9223372036854775808 ≤ x.co
 co1 : x.co ≤ 9223372036854775807
 n0 : -9223372036854775808 ≤ x.n
 n1 : x.n ≤ 9223372036854775807
 ino : x.ino < 4294967296
 d : x.d < 256
 fd0 : -9223372036854775808 ≤ x.fd
 fd1 : x.fd ≤ 9223372036854775807
 pg0 : -9223372036854775808 ≤ x.pg
 pg1 : x.pg ≤ 9223372036854775807
 sz : x.sz < 4294967296
structure M.Good (x : M) : Prop extends M.In x where
 k : x.k < 7
 d15 : x.d ≤ 15
def cw : Nat → List UInt8
 | 1 => [111, 112, 101, 110] | 2 => [99, 114, 101, 97, 116, 101] | 3 => [114, 101, 97, 100] | 4 => [119, 114, 105, 116, 101] | 5 => [116, 114, 117, 110, 99]
 | 6 => [108, 105, 110, 107] | 7 => [117, 110, 108, 105, 110, 107] | 8 => [114, 101, 110, 97, 109, 101] | 9 => [109, 107, 100, 105, 114] | 10 => [114, 109, 100, 105, 114]
 | 11 => [108, 105, 115, 116] | 12 => [115, 116, 97, 116] | 13 => [99, 108, 111, 115, 101] | 14 => [102, 115, 121, 110, 99] | 15 => [115, 121, 110, 99] | _ => []
def kw : Nat → List UInt8
 | 0 => [97, 100, 100] | 1 => [112, 105, 99, 107] | 2 => [114, 117, 110] | 3 => [102, 105, 110, 105, 115, 104] | 4 => [115, 121, 110, 99] | 5 => [102, 117, 115, 101] | 6 => [99, 114, 97, 115, 104] | _ => []
def nm : Nat → List UInt8
 | 0 => [99, 111, 114, 101] | 1 => [110] | 2 => [105, 110, 111] | 3 => [100, 111] | 4 => [112, 97, 116, 104] | 5 => [116, 111] | 6 => [102, 100] | 7 => [112, 97, 103, 101] | 8 => [115, 105, 122, 101]
 | 9 => [100, 97, 116, 97] | 10 => [116, 101, 120, 116] | _ => []
theorem nm_inj : ∀ i, i < 11 → ∀ j, j < 11 → nm i = nm j → i = j := by decide
theorem kw_inj : ∀ i, i < 7 → ∀ j, j < 7 → kw i = kw j → i = j := by decide
theorem cw_inj : ∀ i, i < 16 → ∀ j, j < 16 → cw i = cw j → i = j := by decide
theorem nm_say : ∀ i, i < 11 → ∀ c ∈ nm i, sayB c = true := by decide
theorem kw_say : ∀ i, i < 7 → ∀ c ∈ kw i, sayB c = true := by decide
theorem cw_say' : ∀ i, i < 16 → ∀ c ∈ cw i, sayB c = true := by decide
theorem cw_over (d : Nat) (h : 15 < d) : cw d = [] := by
 match d, h with
 | d + 16, _ => rfl
theorem cw_say (i : Nat) : ∀ c ∈ cw i, sayB c = true := by
 by_cases h : i < 16
 · exact cw_say' i h
 · rw [cw_over i (by omega)]; intro c hc; cases hc
def numT (v : Int) : List UInt8 := if v = 0 then [] else Lib.itoa v
def strT (l : List UInt8) : List UInt8 := if l = [] then [] else tellL l
def tellF (k : Nat) (x : M) : List UInt8 :=
 match k with
 | 0 => numT x.co | 1 => numT x.n | 2 => numT x.ino | 3 => cw x.d | 4 => strT x.p | 5 => strT x.p2 | 6 => numT x.fd | 7 => numT x.pg | 8 => numT x.sz | 9 => strT x.da | 10 => strT x.t | _ => []
def callF (v : List UInt8) : Nat → Nat
 | 0 => 0
 | d + 1 => if cw (d + 1) = v then d + 1 else callF v d
def callOf (v : List UInt8) : Nat := callF v 15
theorem callF_hit (d : Nat) (h0 : 0 < d) (h : d < 16) : ∀ m, d ≤ m → m < 16 → callF (cw d) m = d := by
 intro m
 induction m with
 | zero => intro h1 h2; omega
 | succ m ih =>
   intro h1 h2;simp only [callF]
   by_cases e : cw (m + 1) = cw d
   · rw [if_pos e]
     exact cw_inj _ h2 _ h e
   · rw [if_neg e]
     refine ih ?_ (by omega)
     by_cases e2 : d = m + 1
     · subst e2; exact absurd rfl e
     · omega
theorem callOf_cw (d : Nat) (h0 : 0 < d) (h : d ≤ 15) : callOf (cw d) = d := callF_hit d h0 (by omega) 15 h (by omega)
theorem callF_some (v : List UInt8) : ∀ m, callF v m ≠ 0 → cw (callF v m) = v ∧ callF v m ≤ m := by
 intro m
 induction m with
 | zero => intro h; exact absurd rfl h
 | succ m ih =>
   intro h;simp only [callF] at h ⊢
   split at h
   · rename_i e; rw [if_pos e]; exact ⟨e, Nat.le_refl _⟩
   · rename_i e
     rw [if_neg e];have := ih h;exact ⟨this.1, by omega⟩
theorem callOf_some {v : List UInt8} (h : callOf v ≠ 0) : cw (callOf v) = v ∧ callOf v ≤ 15 := callF_some v 15 h
theorem cw_pos : ∀ d, d < 16 → 0 < d → cw d ≠ [] := by decide
def numH (v : List UInt8) : Option Int :=
 match numL v with
 | some n => if n = 0 then none else some n
 | none => none
def highH (v : List UInt8) : Option Nat :=
 match numL v with
 | some n => if 0 < n ∧ n < 4294967296 then some n.toNat else none
 | none => none
def callH (d : Nat) (v : List UInt8) : Option Nat :=
 if callOf v ≠ 0 then some (callOf v) else if d ≠ 0 then some d else none
def hearF (k : Nat) (x : M) (v : List UInt8) : Option M :=
 match k with
 | 0 => (numH v).map fun n => { x with co := n }
 | 1 => (numH v).map fun n => { x with n := n }
 | 2 => (highH v).map fun n => { x with ino := n }
 | 3 => (callH x.d v).map fun n => { x with d := n }
 | 4 => (hearL v).map fun n => { x with p := n }
 | 5 => (hearL v).map fun n => { x with p2 := n }
 | 6 => (numH v).map fun n => { x with fd := n }
 | 7 => (numH v).map fun n => { x with pg := n }
 | 8 => (highH v).map fun n => { x with sz := n }
 | 9 => (hearL v).map fun n => { x with da := n }
 | 10 => (hearL v).map fun n => { x with t := n }
 | _ => none
theorem numT_ne {v : Int} (h : numT v ≠ []) : v ≠ 0 ∧ numT v = Lib.itoa v := by
 unfold numT at h ⊢
 split at h
 · exact absurd rfl h
 · rename_i e; rw [if_neg e]; exact ⟨e, rfl⟩
theorem numH_tell {v : Int} (h0 : -9223372036854775808 ≤ v) (h1 : v ≤ 9223372036854775807) (h : numT v ≠ []) : numH (numT v) = some v := by
 obtain ⟨e, e2⟩ := numT_ne h;rw [e2];unfold numH;rw [num_itoa v h0 h1];simp only;rw [if_neg e]
theorem highH_tell {v : Nat} (h0 : v < 4294967296) (h : numT v ≠ []) : highH (numT v) = some v := by
 obtain ⟨e, e2⟩ := numT_ne h;rw [e2];unfold highH;rw [num_itoa v (by omega) (by omega)];simp only;rw [if_pos (by omega)]
 simp
theorem numH_some {v : List UInt8} {n : Int} (h : numH v = some n) : numT n = v ∧ v ≠ [] := by
 unfold numH at h;cases e : numL v with
 | none => rw [e] at h; cases h
 | some m =>
   rw [e] at h;simp only at h
   split at h
   · cases h
   · rename_i e2
     injection h with h
     subst h;have := (num_some e).1;unfold numT;rw [if_neg e2];exact ⟨this, this ▸ itoa_ne _⟩
theorem highH_some {v : List UInt8} {n : Nat} (h : highH v = some n) : numT n = v ∧ v ≠ [] ∧ n < 4294967296 := by
 unfold highH at h;cases e : numL v with
 | none => rw [e] at h; cases h
 | some m =>
   rw [e] at h;simp only at h
   split at h
   · rename_i e2
     injection h with h
     subst h;have := (num_some e).1;unfold numT;have e3 : ((m.toNat : Nat) : Int) = m := by omega
     rw [e3, if_neg (by omega)];exact ⟨this, this ▸ itoa_ne _, by omega⟩
   · cases h
theorem strT_ne {l : List UInt8} (h : strT l ≠ []) : l ≠ [] ∧ strT l = tellL l := by
 unfold strT at h ⊢
 split at h
 · exact absurd rfl h
 · rename_i e; rw [if_neg e]; exact ⟨e, rfl⟩
theorem hear_strT {l : List UInt8} (h : strT l ≠ []) : hearL (strT l) = some l := by
 obtain ⟨e, e2⟩ := strT_ne h;rw [e2];exact hear_tell e
theorem hearL_some {v l : List UInt8} (h : hearL v = some l) : strT l = v ∧ v ≠ [] := by
 obtain ⟨e, e2⟩ := tell_hear h;unfold strT;rw [if_neg e2];exact ⟨e, e ▸ tell_ne _⟩
def M.upto (x : M) (k : Nat) : M :=
 ⟨0, if 0 < k then x.co else 0, if 1 < k then x.n else 0, if 2 < k then x.ino else 0, if 3 < k then x.d else 0, if 4 < k then x.p else [], if 5 < k then x.p2 else [], if 6 < k then x.fd else 0,
   if 7 < k then x.pg else 0, if 8 < k then x.sz else 0, if 9 < k then x.da else [], if 10 < k then x.t else []⟩
theorem upto_zero (x : M) : x.upto 0 = M.zero := rfl
theorem upto_full (x : M) : x.upto 11 = { x with k := 0 } := rfl
theorem hear_upto (x : M) (h : x.In) (h15 : x.d ≤ 15) (k : Nat) (hk : k < 11) (hne : tellF k x ≠ []) : hearF k (x.upto k) (tellF k x) = some (x.upto (k + 1)) := by
 match k, hk with
 | 0, _ => simp only [tellF] at hne ⊢; simp only [hearF]; rw [numH_tell h.co0 h.co1 hne]; rfl
 | 1, _ => simp only [tellF] at hne ⊢; simp only [hearF]; rw [numH_tell h.n0 h.n1 hne]; rfl
 | 2, _ => simp only [tellF] at hne ⊢; simp only [hearF]; rw [highH_tell h.ino hne]; rfl
 | 3, _ =>
   simp only [tellF] at hne ⊢
   have h0 : 0 < x.d := by
     rcases Nat.eq_zero_or_pos x.d with e | e
     · rw [e] at hne; exact absurd rfl hne
     · exact e
   simp only [hearF, callH];rw [callOf_cw x.d h0 h15, if_pos (by omega)]
   rfl
 | 4, _ => simp only [tellF] at hne ⊢; simp only [hearF]; rw [hear_strT hne]; rfl
 | 5, _ => simp only [tellF] at hne ⊢; simp only [hearF]; rw [hear_strT hne]; rfl
 | 6, _ => simp only [tellF] at hne ⊢; simp only [hearF]; rw [numH_tell h.fd0 h.fd1 hne]; rfl
 | 7, _ => simp only [tellF] at hne ⊢; simp only [hearF]; rw [numH_tell h.pg0 h.pg1 hne]; rfl
 | 8, _ => simp only [tellF] at hne ⊢; simp only [hearF]; rw [highH_tell h.sz hne]; rfl
 | 9, _ => simp only [tellF] at hne ⊢; simp only [hearF]; rw [hear_strT hne]; rfl
 | 10, _ => simp only [tellF] at hne ⊢; simp only [hearF]; rw [hear_strT hne]; rfl
theorem numT_nil {v : Int} (h : numT v = []) : v = 0 := by
 unfold numT at h
 split at h
 · assumption
 · exact absurd h (itoa_ne _)
theorem strT_nil {v : List UInt8} (h : strT v = []) : v = [] := by
 unfold strT at h
 split at h
 · assumption
 · exact absurd h (tell_ne _)
theorem upto_skip (x : M) (h15 : x.d ≤ 15) (k : Nat) (hk : k < 11) (hne : tellF k x = []) : x.upto (k + 1) = x.upto k := by
 match k, hk with
 | 0, _ => simp only [tellF] at hne; have := numT_nil hne; simp [M.upto, this]
 | 1, _ => simp only [tellF] at hne; have := numT_nil hne; simp [M.upto, this]
 | 2, _ => simp only [tellF] at hne; have := numT_nil hne; have : x.ino = 0 := by omega
           simp [M.upto, this]
 | 3, _ =>
   simp only [tellF] at hne
   have h0 : x.d = 0 := by
     rcases Nat.eq_zero_or_pos x.d with e | e
     · exact e
     · exact absurd hne (cw_pos x.d (by omega) e)
   simp [M.upto, h0]
 | 4, _ => simp only [tellF] at hne; have := strT_nil hne; simp [M.upto, this]
 | 5, _ => simp only [tellF] at hne; have := strT_nil hne; simp [M.upto, this]
 | 6, _ => simp only [tellF] at hne; have := numT_nil hne; simp [M.upto, this]
 | 7, _ => simp only [tellF] at hne; have := numT_nil hne; simp [M.upto, this]
 | 8, _ => simp only [tellF] at hne; have := numT_nil hne; have : x.sz = 0 := by omega
           simp [M.upto, this]
 | 9, _ => simp only [tellF] at hne; have := strT_nil hne; simp [M.upto, this]
 | 10, _ => simp only [tellF] at hne; have := strT_nil hne; simp [M.upto, this]
theorem hear_tellF {x y : M} {v : List UInt8} {k : Nat} (h : hearF k x v = some y) (h0 : tellF k x = []) (h15 : x.d ≤ 15) : tellF k y = v ∧ v ≠ [] ∧ (∀ j, j ≠ k → tellF j y = tellF j x) ∧ y.k = x.k ∧ y.d ≤ 15 := by
 match k with
 | 0 =>
   simp only [hearF, Option.map_eq_some_iff] at h; obtain ⟨n, hn, rfl⟩ := h;have := numH_some hn;exact ⟨this.1, this.2, fun j hj => by match j with | 0 | 1 | 2 | 3 | 4 | 5 | 6 | 7 | 8 | 9 | 10 => (first | rfl | exact absurd rfl hj) | j + 11 => rfl, rfl, h15⟩
 | 1 =>
   simp only [hearF, Option.map_eq_some_iff] at h; obtain ⟨n, hn, rfl⟩ := h;have := numH_some hn;exact ⟨this.1, this.2, fun j hj => by match j with | 0 | 1 | 2 | 3 | 4 | 5 | 6 | 7 | 8 | 9 | 10 => (first | rfl | exact absurd rfl hj) | j + 11 => rfl, rfl, h15⟩
 | 2 =>
   simp only [hearF, Option.map_eq_some_iff] at h; obtain ⟨n, hn, rfl⟩ := h;have := highH_some hn;exact ⟨this.1, this.2.1, fun j hj => by match j with | 0 | 1 | 2 | 3 | 4 | 5 | 6 | 7 | 8 | 9 | 10 => (first | rfl | exact absurd rfl hj) | j + 11 => rfl, rfl, h15⟩
 | 3 =>
   simp only [hearF, Option.map_eq_some_iff] at h; obtain ⟨n, hn, rfl⟩ := h
   have hd : x.d = 0 := by
     rcases Nat.eq_zero_or_pos x.d with e | e
     · exact e
     · exact absurd h0 (cw_pos x.d (by omega) e)
   unfold callH at hn
   split at hn
   · rename_i hc
     injection hn with hn
     subst hn;have := callOf_some hc;refine ⟨this.1, ?_, fun j hj => by match j with | 0 | 1 | 2 | 3 | 4 | 5 | 6 | 7 | 8 | 9 | 10 => (first | rfl | exact absurd rfl hj) | j + 11 => rfl, rfl, this.2⟩;rw [← this.1];exact cw_pos _ (by omega) (by omega)
   · rw [if_neg (by omega)] at hn
     cases hn
 | 4 =>
   simp only [hearF, Option.map_eq_some_iff] at h; obtain ⟨n, hn, rfl⟩ := h;have := hearL_some hn;exact ⟨this.1, this.2, fun j hj => by match j with | 0 | 1 | 2 | 3 | 4 | 5 | 6 | 7 | 8 | 9 | 10 => (first | rfl | exact absurd rfl hj) | j + 11 => rfl, rfl, h15⟩
 | 5 =>
   simp only [hearF, Option.map_eq_some_iff] at h; obtain ⟨n, hn, rfl⟩ := h;have := hearL_some hn;exact ⟨this.1, this.2, fun j hj => by match j with | 0 | 1 | 2 | 3 | 4 | 5 | 6 | 7 | 8 | 9 | 10 => (first | rfl | exact absurd rfl hj) | j + 11 => rfl, rfl, h15⟩
 | 6 =>
   simp only [hearF, Option.map_eq_some_iff] at h; obtain ⟨n, hn, rfl⟩ := h;have := numH_some hn;exact ⟨this.1, this.2, fun j hj => by match j with | 0 | 1 | 2 | 3 | 4 | 5 | 6 | 7 | 8 | 9 | 10 => (first | rfl | exact absurd rfl hj) | j + 11 => rfl, rfl, h15⟩
 | 7 =>
   simp only [hearF, Option.map_eq_some_iff] at h; obtain ⟨n, hn, rfl⟩ := h;have := numH_some hn;exact ⟨this.1, this.2, fun j hj => by match j with | 0 | 1 | 2 | 3 | 4 | 5 | 6 | 7 | 8 | 9 | 10 => (first | rfl | exact absurd rfl hj) | j + 11 => rfl, rfl, h15⟩
 | 8 =>
   simp only [hearF, Option.map_eq_some_iff] at h; obtain ⟨n, hn, rfl⟩ := h;have := highH_some hn;exact ⟨this.1, this.2.1, fun j hj => by match j with | 0 | 1 | 2 | 3 | 4 | 5 | 6 | 7 | 8 | 9 | 10 => (first | rfl | exact absurd rfl hj) | j + 11 => rfl, rfl, h15⟩
 | 9 =>
   simp only [hearF, Option.map_eq_some_iff] at h; obtain ⟨n, hn, rfl⟩ := h;have := hearL_some hn;exact ⟨this.1, this.2, fun j hj => by match j with | 0 | 1 | 2 | 3 | 4 | 5 | 6 | 7 | 8 | 9 | 10 => (first | rfl | exact absurd rfl hj) | j + 11 => rfl, rfl, h15⟩
 | 10 =>
   simp only [hearF, Option.map_eq_some_iff] at h; obtain ⟨n, hn, rfl⟩ := h;have := hearL_some hn;exact ⟨this.1, this.2, fun j hj => by match j with | 0 | 1 | 2 | 3 | 4 | 5 | 6 | 7 | 8 | 9 | 10 => (first | rfl | exact absurd rfl hj) | j + 11 => rfl, rfl, h15⟩
 | k + 11 => simp only [hearF] at h; cases h
def wordsR (x : M) (k : Nat) : Nat → List (List UInt8)
 | 0 => []
 | r + 1 => if tellF k x = [] then wordsR x (k + 1) r else (nm k ++ 61 :: tellF k x) :: wordsR x (k + 1) r
def lineL (x : M) : List UInt8 := kw x.k ++ ((wordsR x 0 11).map (32 :: ·)).flatten
def cutL : List UInt8 → Option (List UInt8 × List UInt8)
 | [] => none
 | c :: r => if c = 61 then some ([], r) else (cutL r).map fun q => (c :: q.1, q.2)
theorem cutL_some : ∀ {l a b : List UInt8}, cutL l = some (a, b) → l = a ++ 61 :: b := by
 intro l
 induction l with
 | nil => intro a b h; cases h
 | cons c r ih =>
   intro a b h;simp only [cutL] at h
   split at h
   · rename_i e
     simp only [Option.some.injEq, Prod.mk.injEq] at h;obtain ⟨rfl, rfl⟩ := h;rw [e]; rfl
   · rw [Option.map_eq_some_iff] at h
     obtain ⟨⟨p, q⟩, hq, he⟩ := h;simp only [Prod.mk.injEq] at he;obtain ⟨rfl, rfl⟩ := he;rw [ih hq]; rfl
theorem cutL_of (a b : List UInt8) (h : ∀ c ∈ a, c ≠ 61) : cutL (a ++ 61 :: b) = some (a, b) := by
 induction a with
 | nil => simp [cutL]
 | cons c r ih =>
   simp only [List.cons_append, cutL];rw [if_neg (h c (List.mem_cons_self ..)), ih (fun c hc => h c (List.mem_cons_of_mem _ hc))]
   rfl
def findR (a : List UInt8) (k : Nat) : Nat → Option Nat
 | 0 => none
 | r + 1 => if nm k = a then some k else findR a (k + 1) r
def goF : List (List UInt8) → Nat → M → Option M
 | [], _, x => some x
 | w :: ws, k, x =>
   match cutL w with
   | none => none
   | some (a, v) =>
     match findR a k (11 - k) with
     | none => none
     | some j => match hearF j x v with
       | none => none
       | some y => goF ws (j + 1) y
theorem findR_some {a : List UInt8} : ∀ (r k j : Nat), findR a k r = some j → k ≤ j ∧ j < k + r ∧ nm j = a := by
 intro r
 induction r with
 | zero => intro k j h; cases h
 | succ r ih =>
   intro k j h;simp only [findR] at h
   split at h
   · injection h with h; subst h; exact ⟨Nat.le_refl _, by omega, ‹_›⟩
   · have := ih (k + 1) j h
     exact ⟨by omega, by omega, this.2.2⟩
theorem words_skip (x : M) : ∀ (m k r : Nat), k + m + r = 11 → (∀ i, k ≤ i → i < k + m → tellF i x = []) → wordsR x k (m + r) = wordsR x (k + m) r := by
 intro m
 induction m with
 | zero => intro k r h g; simp
 | succ m ih =>
   intro k r h g;have e : m + 1 + r = (m + r) + 1 := by omega
   rw [e, wordsR, if_pos (g k (Nat.le_refl _) (by omega)), ih (k + 1) r (by omega) (fun i h1 h2 => g i (by omega) (by omega))]
   congr 1
   omega
theorem words_none (x : M) (k : Nat) (h : k ≤ 11) (g : ∀ i, k ≤ i → tellF i x = []) : wordsR x k (11 - k) = [] := by
 have := words_skip x (11 - k) k 0 (by omega) (fun i h1 _ => g i h1)
 simpa [wordsR] using this
theorem go_tell : ∀ (ws : List (List UInt8)) (k : Nat) (x y : M), k ≤ 11 → goF ws k x = some y → (∀ i, k ≤ i → tellF i x = []) → x.d ≤ 15 →
   ws = wordsR y k (11 - k) ∧ (∀ i, i < k → tellF i y = tellF i x) ∧ y.k = x.k ∧ y.d ≤ 15 := by
 intro ws
 induction ws with
 | nil =>
   intro k x y hk h g h15;simp only [goF] at h
   injection h with h
   subst h;exact ⟨(words_none x k hk g).symm, fun _ _ => rfl, rfl, h15⟩
 | cons w ws ih =>
   intro k x y hk h g h15;simp only [goF] at h;cases hc : cutL w with
   | none => rw [hc] at h; cases h
   | some q =>
     obtain ⟨a, v⟩ := q;rw [hc] at h;simp only at h;cases hf : findR a k (11 - k) with
     | none => rw [hf] at h; cases h
     | some j =>
       rw [hf] at h;simp only at h;cases hh : hearF j x v with
       | none => rw [hh] at h; cases h
       | some z =>
         rw [hh] at h;simp only at h;obtain ⟨f1, f2, f3⟩ := findR_some _ _ _ hf;obtain ⟨t1, t2, t3, t4, t5⟩ := hear_tellF hh (g j f1) h15;obtain ⟨i1, i2, i3, i4⟩ := ih (j + 1) z y (by omega) h (fun i hi => by rw [t3 i (by omega)]; exact g i (by omega)) t5;have hj : tellF j y = v := by rw [i2 j (by omega)]; exact t1
         refine ⟨?_, fun i hi => ?_, i3.trans t4, i4⟩
         · have e := words_skip y (j - k) k (11 - j) (by omega) (fun i h1 h2 => by rw [i2 i (by omega), t3 i (by omega)]; exact g i h1)
           have e1 : j - k + (11 - j) = 11 - k := by omega
           have e2 : k + (j - k) = j := by omega
           have e3 : 11 - j = (11 - (j + 1)) + 1 := by omega
           rw [e1, e2, e3, wordsR, if_neg (by rw [hj]; exact t2), hj, f3, ← i1, ← cutL_some hc] at e;exact e.symm
         · rw [i2 i (by omega), t3 i (by omega)]
theorem findR_hit : ∀ (r k j : Nat), k ≤ j → j < k + r → k + r ≤ 11 → findR (nm j) k r = some j := by
 intro r
 induction r with
 | zero => intro k j h1 h2; omega
 | succ r ih =>
   intro k j h1 h2 h3;simp only [findR]
   by_cases e : k = j
   · subst e; rw [if_pos rfl]
   · rw [if_neg (fun h => e (nm_inj k (by omega) j (by omega) h))]
     exact ih (k + 1) j (by omega) (by omega) (by omega)
theorem nm_61 (j : Nat) (h : j < 11) : ∀ c ∈ nm j, c ≠ 61 := by
 intro c hc he;have := nm_say j h c hc;subst he
 revert this
 decide
theorem go_words (x : M) (hx : x.In) (h15 : x.d ≤ 15) : ∀ (r k k0 : Nat), k + r = 11 → k0 ≤ k → goF (wordsR x k r) k0 (x.upto k) = some (x.upto 11) := by
 intro r
 induction r with
 | zero =>
   intro k k0 h h0;have : k = 11 := by omega
   subst this
   rfl
 | succ r ih =>
   intro k k0 h h0;rw [wordsR]
   split
   · rename_i e
     rw [← upto_skip x h15 k (by omega) e];exact ih (k + 1) k0 (by omega) (by omega)
   · rename_i e
     simp only [goF];rw [cutL_of _ _ (nm_61 k (by omega))];simp only;rw [findR_hit _ _ _ h0 (by omega) (by omega)];simp only;rw [hear_upto x hx h15 k (by omega) e];exact ih (k + 1) (k + 1) (by omega) (Nat.le_refl _)
def splitB (b : UInt8) : List UInt8 → List (List UInt8)
 | [] => [[]]
 | c :: r => if c = b then [] :: splitB b r else match splitB b r with
   | h :: t => (c :: h) :: t
   | [] => [[c]]
theorem split_ne (b : UInt8) (l : List UInt8) : splitB b l ≠ [] := by
 cases l with
 | nil => simp [splitB]
 | cons c r =>
   simp only [splitB]
   split
   · simp
   · split <;> simp
theorem split_word (b : UInt8) (w r : List UInt8) (h : ∀ c ∈ w, c ≠ b) : splitB b (w ++ b :: r) = w :: splitB b r := by
 induction w with
 | nil => simp [splitB]
 | cons c w ih =>
   simp only [List.cons_append, splitB];rw [if_neg (h c (List.mem_cons_self ..)), ih (fun c hc => h c (List.mem_cons_of_mem _ hc))]
theorem split_last (b : UInt8) (w : List UInt8) (h : ∀ c ∈ w, c ≠ b) : splitB b w = [w] := by
 induction w with
 | nil => rfl
 | cons c w ih =>
   simp only [splitB];rw [if_neg (h c (List.mem_cons_self ..)), ih (fun c hc => h c (List.mem_cons_of_mem _ hc))]
theorem split_join (b : UInt8) (w : List UInt8) (ws : List (List UInt8)) (h : ∀ c ∈ w, c ≠ b) (hs : ∀ v ∈ ws, ∀ c ∈ v, c ≠ b) :
   splitB b (w ++ (ws.map (b :: ·)).flatten) = w :: ws := by
 induction ws generalizing w with
 | nil => simp only [List.map_nil, List.flatten_nil, List.append_nil]; exact split_last b w h
 | cons v ws ih =>
   simp only [List.map_cons, List.flatten_cons, List.cons_append];rw [split_word b w _ h, ih v (hs v (List.mem_cons_self ..)) (fun v hv => hs v (List.mem_cons_of_mem _ hv))]
theorem join_split (b : UInt8) (l : List UInt8) : ∀ w ws, splitB b l = w :: ws → w ++ (ws.map (b :: ·)).flatten = l := by
 induction l with
 | nil => intro w ws h; simp only [splitB, List.cons.injEq] at h; obtain ⟨rfl, rfl⟩ := h; rfl
 | cons c r ih =>
   intro w ws h;simp only [splitB] at h
   split at h
   · rename_i e
     simp only [List.cons.injEq] at h;obtain ⟨rfl, rfl⟩ := h;cases hs : splitB b r with
     | nil => exact absurd hs (split_ne b r)
     | cons v vs =>
       have := ih v vs hs;simp only [List.map_cons, List.flatten_cons, List.nil_append, List.cons_append];rw [this, e]
   · split at h
     · rename_i v vs hs
       simp only [List.cons.injEq] at h;obtain ⟨rfl, rfl⟩ := h;have := ih v vs hs;rw [← this]
       rfl
     · rename_i hs
       exact absurd hs (split_ne b r)
def kwR (a : List UInt8) (k : Nat) : Nat → Option Nat
 | 0 => none
 | r + 1 => if kw k = a then some k else kwR a (k + 1) r
def kwOf (a : List UInt8) : Option Nat := kwR a 0 7
theorem kwR_some {a : List UInt8} : ∀ (r k j : Nat), kwR a k r = some j → k ≤ j ∧ j < k + r ∧ kw j = a := by
 intro r
 induction r with
 | zero => intro k j h; cases h
 | succ r ih =>
   intro k j h;simp only [kwR] at h
   split at h
   · injection h with h; subst h; exact ⟨Nat.le_refl _, by omega, ‹_›⟩
   · have := ih (k + 1) j h
     exact ⟨by omega, by omega, this.2.2⟩
theorem kwR_hit : ∀ (r k j : Nat), k ≤ j → j < k + r → k + r ≤ 7 → kwR (kw j) k r = some j := by
 intro r
 induction r with
 | zero => intro k j h1 h2; omega
 | succ r ih =>
   intro k j h1 h2 h3;simp only [kwR]
   by_cases e : k = j
   · subst e; rw [if_pos rfl]
   · rw [if_neg (fun h => e (kw_inj k (by omega) j (by omega) h))]
     exact ih (k + 1) j (by omega) (by omega) (by omega)
def stepW (ws : List (List UInt8)) : Option M :=
 match ws with
 | [] => none
 | w :: ws => match kwOf w with
   | none => none
   | some k => (goF ws 0 M.zero).map fun x => { x with k := k }
def stepL (may : M → Bool) (l : List UInt8) : Option M :=
 match stepW (splitB 32 l) with
 | some x => if may x = true then some x else none
 | none => none
theorem say_words (x : M) : ∀ (r k : Nat), k + r = 11 → ∀ v ∈ wordsR x k r, ∀ c ∈ v, c ≠ 32 ∧ c ≠ 10 := by
 have hs : ∀ c, sayB c = true → c ≠ 32 ∧ c ≠ 10 := by
   intro c hc
   constructor <;> (rintro rfl; revert hc; decide)
 have hn : ∀ v : Int, ∀ c ∈ numT v, sayB c = true := by
   intro v c hc;unfold numT at hc
   split at hc
   · cases hc
   · exact say_itoa v c hc
 have ht : ∀ l : List UInt8, ∀ c ∈ strT l, sayB c = true := by
   intro v c hc;unfold strT at hc
   split at hc
   · cases hc
   · exact say_tell v c hc
 have hk : ∀ j, ∀ c ∈ tellF j x, sayB c = true := by
   intro j
   match j with
   | 0 | 1 | 2 | 6 | 7 | 8 => exact hn _
   | 3 => exact cw_say _
   | 4 | 5 | 9 | 10 => exact ht _
   | j + 11 => intro c hc; cases hc
 intro r
 induction r with
 | zero => intro k h v hv; cases hv
 | succ r ih =>
   intro k h v hv;rw [wordsR] at hv
   split at hv
   · exact ih (k + 1) (by omega) v hv
   · rw [List.mem_cons] at hv
     rcases hv with rfl | hv
     · intro c hc
       rw [List.mem_append, List.mem_cons] at hc
       rcases hc with hc | rfl | hc
       · exact hs c (nm_say k (by omega) c hc)
       · decide
       · exact hs c (hk k c hc)
     · exact ih (k + 1) (by omega) v hv
theorem kw_ne {k : Nat} (h : k < 7) : ∀ c ∈ kw k, c ≠ 32 ∧ c ≠ 10 := by
 intro c hc;have := kw_say k h c hc
 constructor <;> (rintro rfl; revert this; decide)
theorem step_line (x : M) (h : x.Good) : stepW (splitB 32 (lineL x)) = some x := by
 unfold lineL;rw [split_join 32 _ _ (fun c hc => (kw_ne h.k c hc).1) (fun v hv c hc => (say_words x 11 0 rfl v hv c hc).1)];have e : kwOf (kw x.k) = some x.k := kwR_hit 7 0 x.k (Nat.zero_le _) (by have := h.k; omega) (Nat.le_refl _);simp only [stepW, e];have g := go_words x h.toIn h.d15 11 0 0 rfl (Nat.le_refl _);rw [upto_zero, upto_full] at g;rw [g]
 rfl
theorem line_step (l : List UInt8) (x : M) (h : stepW (splitB 32 l) = some x) : lineL x = l ∧ x.k < 7 ∧ x.d ≤ 15 := by
 cases hs : splitB 32 l with
 | nil => exact absurd hs (split_ne 32 l)
 | cons w ws =>
   rw [hs] at h;simp only [stepW] at h;cases hk : kwOf w with
   | none => rw [hk] at h; cases h
   | some k =>
     rw [hk] at h;simp only [Option.map_eq_some_iff] at h;obtain ⟨y, hy, rfl⟩ := h;obtain ⟨k1, k2, k3⟩ := kwR_some 7 0 k hk
     obtain ⟨g1, g2, g3, g4⟩ := go_tell ws 0 M.zero y (by omega) hy (fun i _ => by match i with | 0 | 1 | 2 | 3 | 4 | 5 | 6 | 7 | 8 | 9 | 10 => rfl
                                                                                                | i + 11 => rfl) (by decide)
     refine ⟨?_, by simp only; omega, g4⟩
     have e : ∀ r k', wordsR { y with k := k } k' r = wordsR y k' r := by
       intro r
       induction r with
       | zero => intro k'; rfl
       | succ r ih =>
         intro k'
         have t : tellF k' { y with k := k } = tellF k' y := by
           match k' with
           | 0 | 1 | 2 | 3 | 4 | 5 | 6 | 7 | 8 | 9 | 10 => rfl
           | j + 11 => rfl
         simp only [wordsR, t, ih]
     unfold lineL;rw [e, ← g1];simp only [k3];exact join_split 32 l w ws hs
end Go.Proofs.YtkljcgopikdjjaaGreatDoor.Tx
end
section
namespace Go.Proofs.YtkljcgopikdjjaaGreatDoor.Tx
open Go
def ne32 (c : UInt8) : Bool := c != 32
def valL (key : List UInt8) : List UInt8 → List UInt8
 | [] => []
 | c :: r => if key.isPrefixOf (c :: r) = true then ((c :: r).drop key.length).takeWhile ne32 else valL key r
def keyL (n : List UInt8) : List UInt8 := 32 :: n ++ [61]
theorem val_skip (n w r : List UInt8) (h : ∀ c ∈ w, c ≠ 32) : valL (keyL n) (w ++ r) = valL (keyL n) r := by
 induction w with
 | nil => rfl
 | cons c w ih =>
   simp only [List.cons_append, valL];rw [if_neg]
   · exact ih (fun c hc => h c (List.mem_cons_of_mem _ hc))
   · have := h c (List.mem_cons_self ..)
     simp only [keyL, List.cons_append, List.isPrefixOf_cons_cons, Bool.and_eq_true, beq_iff_eq];rintro ⟨e, -⟩;exact this e.symm
theorem prefix_key : ∀ (n m r : List UInt8), (∀ c ∈ n, c ≠ 61) → (∀ c ∈ m, c ≠ 61) → ((n ++ [61]).isPrefixOf (m ++ 61 :: r) = true ↔ n = m) := by
 intro n
 induction n with
 | nil =>
   intro m r hn hm;cases m with
   | nil => simp
   | cons c m =>
     have := hm c (List.mem_cons_self ..)
     simp [List.isPrefixOf_cons_cons, Ne.symm this]
 | cons d n ih =>
   intro m r hn hm;cases m with
   | nil =>
     have := hn d (List.mem_cons_self ..)
     simp [List.isPrefixOf_cons_cons, this]
   | cons c m =>
     simp only [List.cons_append, List.isPrefixOf_cons_cons, Bool.and_eq_true, beq_iff_eq, List.cons.injEq];rw [ih m r (fun c hc => hn c (List.mem_cons_of_mem _ hc)) (fun c hc => hm c (List.mem_cons_of_mem _ hc))]
theorem take_say (v r : List UInt8) (hv : ∀ c ∈ v, c ≠ 32) (hr : ∀ c t, r = c :: t → c = 32) : (v ++ r).takeWhile ne32 = v := by
 induction v with
 | nil =>
   cases r with
   | nil => rfl
   | cons c t => have := hr c t rfl; subst this; rfl
 | cons c v ih =>
   have := hv c (List.mem_cons_self ..);simp only [List.cons_append, List.takeWhile_cons];rw [if_pos (by simp [ne32, this]), ih (fun c hc => hv c (List.mem_cons_of_mem _ hc))]
theorem val_piece (n m v r : List UInt8) (hn : ∀ c ∈ n, c ≠ 61) (hm : ∀ c ∈ m, c ≠ 61) (hm2 : ∀ c ∈ m, c ≠ 32) (hv : ∀ c ∈ v, c ≠ 32) (hr : ∀ c t, r = c :: t → c = 32) :
   valL (keyL n) (32 :: (m ++ 61 :: v) ++ r) = if n = m then v else valL (keyL n) r := by
 simp only [List.cons_append, List.append_assoc, valL];have e : (keyL n).isPrefixOf (32 :: (m ++ 61 :: (v ++ r))) = (n ++ [61]).isPrefixOf (m ++ 61 :: (v ++ r)) := by simp [keyL]
 rw [e]
 by_cases h : n = m
 · rw [if_pos ((prefix_key n m _ hn hm).mpr h), if_pos h]
   subst h;have e2 : 32 :: (n ++ 61 :: (v ++ r)) = keyL n ++ (v ++ r) := by simp [keyL]
   rw [e2, List.drop_left];exact take_say v r hv hr
 · rw [if_neg (fun q => h ((prefix_key n m _ hn hm).mp q)), if_neg h]
   have e2 : m ++ 61 :: (v ++ r) = (m ++ 61 :: v) ++ r := by simp
   rw [e2];refine val_skip n _ r fun c hc => ?_;rw [List.mem_append, List.mem_cons] at hc
   rcases hc with hc | rfl | hc
   · exact hm2 c hc
   · decide
   · exact hv c hc
theorem flat32 (ws : List (List UInt8)) : ∀ c t, (ws.map (32 :: ·)).flatten = c :: t → c = 32 := by
 cases ws with
 | nil => intro c t h; cases h
 | cons w ws =>
   intro c t h;simp only [List.map_cons, List.flatten_cons, List.cons_append, List.cons.injEq] at h;exact h.1.symm
theorem tell_32 (x : M) (j : Nat) : ∀ c ∈ tellF j x, c ≠ 32 := by
 by_cases hj : j < 11
 · by_cases he : tellF j x = []
   · rw [he]; intro c hc; cases hc
   · have : (nm j ++ 61 :: tellF j x) ∈ wordsR x j (11 - j) := by
       have e : 11 - j = (11 - (j + 1)) + 1 := by omega
       rw [e, wordsR, if_neg he];exact List.mem_cons_self ..
     intro c hc;exact (say_words x (11 - j) j (by omega) _ this c (by rw [List.mem_append, List.mem_cons]; exact .inr (.inr hc))).1
 · match j, hj with
   | j + 11, _ => intro c hc; cases hc
theorem nm_32 (j : Nat) (h : j < 11) : ∀ c ∈ nm j, c ≠ 32 := by
 intro c hc he;have := nm_say j h c hc;subst he
 revert this
 decide
theorem val_words (x : M) (k : Nat) (hk : k < 11) : ∀ (r j : Nat), j + r = 11 → valL (keyL (nm k)) ((wordsR x j r).map (32 :: ·)).flatten = if j ≤ k then tellF k x else [] := by
 intro r
 induction r with
 | zero =>
   intro j h;rw [if_neg (by omega)]
   rfl
 | succ r ih =>
   intro j h;rw [wordsR];have g := ih (j + 1) (by omega)
   split
   · rename_i e
     rw [g]
     by_cases hj : j = k
     · subst hj; rw [if_neg (by omega), if_pos (Nat.le_refl _), e]
     · by_cases h2 : j ≤ k
       · rw [if_pos h2, if_pos (by omega)]
       · rw [if_neg h2, if_neg (by omega)]
   · rename_i e
     simp only [List.map_cons, List.flatten_cons];rw [val_piece (nm k) (nm j) (tellF j x) _ (nm_61 k hk) (nm_61 j (by omega)) (nm_32 j (by omega)) (tell_32 x j) (flat32 _), g]
     by_cases hj : j = k
     · subst hj; rw [if_pos rfl, if_pos (Nat.le_refl _)]
     · rw [if_neg (fun q => hj (nm_inj k hk j (by omega) q).symm)]
       by_cases h2 : j ≤ k
       · rw [if_pos h2, if_pos (by omega)]
       · rw [if_neg h2, if_neg (by omega)]
theorem val_line (x : M) (k : Nat) (hk : k < 11) (h7 : x.k < 7) : valL (keyL (nm k)) (lineL x) = tellF k x := by
 unfold lineL;rw [val_skip _ _ _ (fun c hc => (kw_ne h7 c hc).1), val_words x k hk 11 0 rfl, if_pos (Nat.zero_le _)]
def unhexR (c : UInt8) : Nat := if 97 ≤ c.toNat ∧ c.toNat ≤ 102 then c.toNat - 87 else if 48 ≤ c.toNat ∧ c.toNat ≤ 57 then c.toNat - 48 else 0
def untextL : List UInt8 → List UInt8
 | [] => []
 | c :: r =>
   if c = 37 then
     match r with
     | a :: b :: r' => UInt8.ofNat (16 * unhexR a + unhexR b) :: untextL r'
     | [a] => if a = 37 then [] else [a]
     | [] => []
   else c :: untextL r
theorem unhexR_hex (n : Nat) (h : n < 16) : unhexR (hexN n) = n := by
 unfold unhexR;rw [hexN_toNat n h]
 by_cases h1 : n < 10
 · simp only [if_pos h1]
   rw [if_neg (by omega), if_pos (by omega)];omega
 · simp only [if_neg h1]
   rw [if_pos (by omega)];omega
theorem untext_tellB (c : UInt8) (r : List UInt8) : untextL (tellB c ++ r) = c :: untextL r := by
 unfold tellB;have hc := c.toNat_lt
 by_cases h : stB c = true
 · rw [if_pos h]
   have h37 : ¬ c = 37 := by rintro rfl; rw [st37] at h; cases h
   rw [List.singleton_append, untextL.eq_def];simp only [if_neg h37]
 · rw [if_neg h]
   simp only [List.cons_append, List.nil_append, untextL, if_true];rw [unhexR_hex _ (by omega), unhexR_hex _ (by omega)]
   have e : UInt8.ofNat (16 * (c.toNat / 16) + c.toNat % 16) = c := by
     apply UInt8.toNat_inj.mp
     rw [UInt8.toNat_ofNat'];omega
   rw [e]
theorem untext_tellR (l : List UInt8) : untextL (tellR l) = l := by
 induction l with
 | nil => rfl
 | cons c r ih => rw [tellR, untext_tellB, ih]
theorem untext_str (l : List UInt8) : untextL (strT l) = l := by
 unfold strT
 split
 · rename_i h; rw [h]; rfl
 · rename_i h
   unfold tellL;rw [if_neg h];exact untext_tellR l
def unnumL (l : List UInt8) : Int :=
 match Lib.atoiAll l with
 | .ok v => v
 | Lib.NumEnd.syntax => 0
 | .range => Lib.atoiSat l
theorem unnum_num (v : Int) (h0 : -9223372036854775808 ≤ v) (h1 : v ≤ 9223372036854775807) : unnumL (numT v) = v := by
 unfold numT
 split
 · rename_i h; rw [h]; rfl
 · unfold unnumL; rw [atoi_itoa v h0 h1]
def valsL (s : List UInt8) : M :=
 ⟨0, unnumL (valL (keyL (nm 0)) s), unnumL (valL (keyL (nm 1)) s), (unnumL (valL (keyL (nm 2)) s) % 4294967296).toNat, callOf (valL (keyL (nm 3)) s), untextL (valL (keyL (nm 4)) s), untextL (valL (keyL (nm 5)) s),
   unnumL (valL (keyL (nm 6)) s), unnumL (valL (keyL (nm 7)) s), (unnumL (valL (keyL (nm 8)) s) % 4294967296).toNat, untextL (valL (keyL (nm 9)) s), untextL (valL (keyL (nm 10)) s)⟩
theorem callOf_any (d : Nat) (h : d ≤ 15) : callOf (cw d) = d := by
 rcases Nat.eq_zero_or_pos d with e | e
 · subst e; decide
 · exact callOf_cw d e h
theorem vals_line (x : M) (h : x.Good) : valsL (lineL x) = { x with k := 0 } := by
 have e := fun k hk => val_line x k hk h.k;unfold valsL;rw [e 0 (by omega), e 1 (by omega), e 2 (by omega), e 3 (by omega), e 4 (by omega), e 5 (by omega), e 6 (by omega), e 7 (by omega), e 8 (by omega), e 9 (by omega), e 10 (by omega)];simp only [tellF];have hi := h.ino;have hz := h.sz
 rw [unnum_num _ h.co0 h.co1, unnum_num _ h.n0 h.n1, unnum_num _ (by omega) (by omega), unnum_num _ h.fd0 h.fd1, unnum_num _ h.pg0 h.pg1, unnum_num _ (by omega) (by omega), callOf_any _ h.d15,
   untext_str, untext_str, untext_str, untext_str]
 obtain ⟨k, co, n, ino, d, p, p2, fd, pg, sz, da, t⟩ := x;simp only [M.mk.injEq, true_and, and_true];simp only at hi hz;omega
def tryR (may : M → Bool) (s : List UInt8) (x : M) (k : Nat) : Nat → Option M
 | 0 => none
 | r + 1 => if may { x with k := k } = true ∧ lineL { x with k := k } = s then some { x with k := k } else tryR may s x (k + 1) r
def refL (may : M → Bool) (s : List UInt8) : Option M := tryR may s (valsL s) 0 7
theorem step_of (may : M → Bool) (hm : ∀ x, may x = true → x.In → x.Good) (x : M) (hx : x.In) (h : may x = true) : stepL may (lineL x) = some x := by
 unfold stepL;rw [step_line x (hm x h hx)];simp only;rw [if_pos h]
theorem of_step (may : M → Bool) {s : List UInt8} {x : M} (h : stepL may s = some x) : may x = true ∧ lineL x = s ∧ x.k < 7 ∧ x.d ≤ 15 := by
 unfold stepL at h;cases hs : stepW (splitB 32 s) with
 | none => rw [hs] at h; cases h
 | some y =>
   rw [hs] at h;simp only at h
   split at h
   · rename_i hy
     injection h with h
     subst h;have := line_step s y hs;exact ⟨hy, this.1, this.2.1, this.2.2⟩
   · cases h
theorem tryR_none (may : M → Bool) (s : List UInt8) (x : M) : ∀ r k, (∀ j, may { x with k := j } = true → lineL { x with k := j } = s → False) → tryR may s x k r = none := by
 intro r
 induction r with
 | zero => intro k h; rfl
 | succ r ih =>
   intro k h;simp only [tryR];rw [if_neg (fun q => h k q.1 q.2)];exact ih (k + 1) h
theorem tryR_hit (may : M → Bool) (s : List UInt8) (x : M) (d : Nat) (hd : may { x with k := d } = true ∧ lineL { x with k := d } = s) (hu : ∀ j, may { x with k := j } = true → lineL { x with k := j } = s → j = d) :
   ∀ r k, k ≤ d → d < k + r → tryR may s x k r = some { x with k := d } := by
 intro r
 induction r with
 | zero => intro k h1 h2; omega
 | succ r ih =>
   intro k h1 h2;simp only [tryR]
   by_cases e : k = d
   · subst e; rw [if_pos hd]
   · rw [if_neg (fun q => e (hu k q.1 q.2))]
     exact ih (k + 1) (by omega) (by omega)
theorem unnum_in (l : List UInt8) (h : ∀ l v, Lib.atoiAll l = .ok v → -9223372036854775808 ≤ v ∧ v ≤ 9223372036854775807) : -9223372036854775808 ≤ unnumL l ∧ unnumL l ≤ 9223372036854775807 := by
 unfold unnumL
 split
 · exact h l _ ‹_›
 · omega
 · unfold Lib.atoiSat; split <;> omega
theorem atoi_in (l : List UInt8) (v : Int) (h : Lib.atoiAll l = .ok v) : -9223372036854775808 ≤ v ∧ v ≤ 9223372036854775807 := by
 cases l with
 | nil => cases h
 | cons c r =>
   simp only [Lib.atoiAll] at h
   split at h
   · cases h
   · cases h
   · rename_i u hu
     split at h
     · cases h
     · split at h
       · cases h
       · injection h with h
         subst h
         split <;> omega
theorem vals_in (s : List UInt8) (k : Nat) : M.In { valsL s with k := k } := by
 have e := fun l => unnum_in l atoi_in
 have c : callOf (valL (keyL (nm 3)) s) < 256 := by
   by_cases h : callOf (valL (keyL (nm 3)) s) = 0
   · omega
   · have := (callOf_some h).2; omega
 have z : ∀ a : Int, (a % 4294967296).toNat < 4294967296 := by intro a; omega
 exact ⟨(e _).1, (e _).2, (e _).1, (e _).2, z _, c, (e _).1, (e _).2, (e _).1, (e _).2, z _⟩
theorem ref_step (may : M → Bool) (hm : ∀ x, may x = true → x.In → x.Good) (s : List UInt8) (hs : ∀ x, stepL may s = some x → x.In) : refL may s = stepL may s := by
 cases h : stepL may s with
 | none =>
   refine tryR_none may s _ 7 0 fun j h1 h2 => ?_;have := step_of may hm _ (vals_in s j) h1;rw [h2, h] at this;cases this
 | some x =>
   obtain ⟨m1, m2, m3, m4⟩ := of_step may h;have hg := hm x m1 (hs x h);have hv : valsL s = { x with k := 0 } := by rw [← m2]; exact vals_line x hg
   have hk : ∀ j, { valsL s with k := j } = ({ x with k := j } : M) := by intro j; rw [hv]
   have := tryR_hit may s (valsL s) x.k (by rw [hk]; exact ⟨m1, m2⟩) (fun j h1 h2 => by
     have q := step_of may hm _ (vals_in s j) h1;rw [h2, h, hk] at q
     injection q with q
     have := congrArg M.k q;exact this.symm) 7 0 (Nat.zero_le _) (by omega)
   unfold refL;rw [this, hk]
end Go.Proofs.YtkljcgopikdjjaaGreatDoor.Tx
end
section
namespace Go.Proofs.YtkljcgopikdjjaaGreatDoor.Tx
open Go
def isB (c : UInt8) : Bool := c == 32
def blankN (l : List UInt8) : Nat := l.countP isB
theorem blank_none {l : List UInt8} (h : ∀ c ∈ l, c ≠ 32) : blankN l = 0 := by
 unfold blankN;rw [List.countP_eq_zero];intro c hc
 simp [isB, h c hc]
theorem blank_words (x : M) : ∀ (r k : Nat), k + r = 11 → blankN ((wordsR x k r).map (32 :: ·)).flatten = (wordsR x k r).length := by
 have : ∀ ws : List (List UInt8), (∀ v ∈ ws, ∀ c ∈ v, c ≠ 32) → blankN (ws.map (32 :: ·)).flatten = ws.length := by
   intro ws
   induction ws with
   | nil => intro _; rfl
   | cons w ws ih =>
     intro h;have e := ih (fun v hv => h v (List.mem_cons_of_mem _ hv));have e2 := blank_none (h w (List.mem_cons_self ..));unfold blankN at e e2 ⊢;simp only [List.map_cons, List.flatten_cons, List.cons_append, List.countP_cons, List.countP_append, e, e2, List.length_cons]
     simp [isB]
 intro r k h;exact this _ fun v hv c hc => (say_words x r k h v hv c hc).1
def hasF (x : M) (k : Nat) : Bool :=
 match k with
 | 0 => x.co != 0 | 1 => x.n != 0 | 2 => x.ino != 0 | 3 => x.d != 0 | 4 => x.p != [] | 5 => x.p2 != [] | 6 => x.fd != 0 | 7 => x.pg != 0 | 8 => x.sz != 0 | 9 => x.da != [] | 10 => x.t != [] | _ => false
def fieldN (x : M) : Nat → Nat
 | 0 => 0
 | k + 1 => if hasF x k = true then fieldN x k + 1 else fieldN x k
theorem numT_has (v : Int) : (numT v = []) ↔ v = 0 := ⟨numT_nil, fun h => by rw [h]; rfl⟩
theorem strT_has (v : List UInt8) : (strT v = []) ↔ v = [] := ⟨strT_nil, fun h => by rw [h]; rfl⟩
theorem hasF_tell (x : M) (h15 : x.d ≤ 15) (k : Nat) (hk : k < 11) : hasF x k = true ↔ tellF k x ≠ [] := by
 match k, hk with
 | 0, _ => simp [hasF, tellF, numT_has]
 | 1, _ => simp [hasF, tellF, numT_has]
 | 2, _ => simp [hasF, tellF, numT_has]
 | 3, _ =>
   simp only [hasF, tellF, bne_iff_ne]
   constructor
   · intro h; exact cw_pos _ (by omega) (by omega)
   · intro h e; rw [e] at h; exact h rfl
 | 4, _ => simp [hasF, tellF, strT_has]
 | 5, _ => simp [hasF, tellF, strT_has]
 | 6, _ => simp [hasF, tellF, numT_has]
 | 7, _ => simp [hasF, tellF, numT_has]
 | 8, _ => simp [hasF, tellF, numT_has]
 | 9, _ => simp [hasF, tellF, strT_has]
 | 10, _ => simp [hasF, tellF, strT_has]
theorem fields_words (x : M) (h15 : x.d ≤ 15) : ∀ (r k : Nat), k + r = 11 → fieldN x k + (wordsR x k r).length = fieldN x 11 := by
 intro r
 induction r with
 | zero => intro k h; have : k = 11 := by omega
           subst this; rfl
 | succ r ih =>
   intro k h;have := ih (k + 1) (by omega);have e := hasF_tell x h15 k (by omega);rw [wordsR];have es : fieldN x (k + 1) = if hasF x k = true then fieldN x k + 1 else fieldN x k := rfl;rw [es] at this
   by_cases hf : tellF k x = []
   · rw [if_pos hf]
     rw [if_neg (fun q => (e.mp q) hf)] at this;exact this
   · rw [if_neg hf]
     rw [if_pos (e.mpr hf)] at this;simp only [List.length_cons];omega
theorem blank_line (x : M) (h : x.Good) : blankN (lineL x) = fieldN x 11 := by
 have e := blank_words x 11 0 rfl;have e2 := fields_words x h.d15 11 0 rfl;have e3 := blank_none (l := kw x.k) (fun c hc => (kw_ne h.k c hc).1);unfold lineL;unfold blankN at e e3 ⊢;rw [List.countP_append, e, e3, ← e2]
 simp [fieldN]
end Go.Proofs.YtkljcgopikdjjaaGreatDoor.Tx
end
section
namespace Go.Proofs.YtkljcgopikdjjaaGreatDoor.Tx
open Go
def lineTo (x : M) : Nat → List UInt8
 | 0 => kw x.k
 | k + 1 => if tellF k x = [] then lineTo x k else lineTo x k ++ (32 :: (nm k ++ 61 :: tellF k x))
theorem lineTo_words (x : M) : ∀ r k, k + r = 11 → lineTo x k ++ ((wordsR x k r).map (32 :: ·)).flatten = lineTo x 11 := by
 intro r
 induction r with
 | zero => intro k h; have : k = 11 := by omega
           subst this; simp [wordsR]
 | succ r ih =>
   intro k h;have e := ih (k + 1) (by omega);have es : lineTo x (k + 1) = if tellF k x = [] then lineTo x k else lineTo x k ++ (32 :: (nm k ++ 61 :: tellF k x)) := rfl;rw [es] at e;rw [wordsR]
   by_cases hf : tellF k x = []
   · rw [if_pos hf] at e ⊢; exact e
   · rw [if_neg hf] at e ⊢
     rw [List.map_cons, List.flatten_cons, ← List.append_assoc];exact e
theorem lineTo_full (x : M) : lineTo x 11 = lineL x := by
 have := lineTo_words x 11 0 rfl;exact this.symm
theorem lineTo_skip (x : M) (k : Nat) (h : tellF k x = []) : lineTo x (k + 1) = lineTo x k := by
 show (if tellF k x = [] then _ else _) = _;rw [if_pos h]
theorem lineTo_next (x : M) (k : Nat) (h : tellF k x ≠ []) : lineTo x (k + 1) = lineTo x k ++ (32 :: (nm k ++ 61 :: tellF k x)) := by
 show (if tellF k x = [] then _ else _) = _;rw [if_neg h]
theorem itoa_len (n : Int) (h0 : -9223372036854775808 ≤ n) (h1 : n ≤ 9223372036854775807) : (Lib.itoa n).length ≤ 25 := by
 unfold Lib.itoa
 have hd : ∀ u : Nat, u < 18446744073709551616 → (Lib.decDigits u).length ≤ 20 := by
   intro u hu;rw [Lib.decDigits_length]
   by_cases h : 1 ≤ u
   · have := Lib.numDigits_eq u h hu; split at this <;> omega
   · have : u = 0 := by omega
     subst this;rw [Lib.nDigits_small (by omega)];omega
 split
 · have := hd n.natAbs (by omega); simp; omega
 · have := hd n.toNat (by omega); omega
theorem numT_len (n : Int) (h0 : -9223372036854775808 ≤ n) (h1 : n ≤ 9223372036854775807) : (numT n).length ≤ 25 := by
 unfold numT
 split
 · simp
 · exact itoa_len n h0 h1
theorem tellR_len (l : List UInt8) : (tellR l).length ≤ 3 * l.length := by
 induction l with
 | nil => simp [tellR]
 | cons c r ih => simp only [tellR, List.length_append, List.length_cons]; unfold tellB; split <;> simp <;> omega
theorem strT_len (l : List UInt8) : (strT l).length ≤ 3 * l.length := by
 unfold strT
 split
 · simp
 · rename_i h; unfold tellL; rw [if_neg h]; exact tellR_len l
theorem cw_len (d : Nat) : (cw d).length ≤ 8 := by
 by_cases h : d < 16
 · exact (show ∀ d, d < 16 → (cw d).length ≤ 8 by decide) d h
 · rw [cw_over d (by omega)]; simp
def M.size (x : M) : Nat := x.p.length + x.p2.length + x.da.length + x.t.length
theorem tellF_len (x : M) (h : x.In) (k : Nat) : (tellF k x).length ≤ 25 + 3 * x.size := by
 have hi := h.ino;have hz := h.sz;unfold M.size
 match k with
 | 0 => have := numT_len x.co h.co0 h.co1; simp only [tellF]; omega
 | 1 => have := numT_len x.n h.n0 h.n1; simp only [tellF]; omega
 | 2 => have := numT_len x.ino (by omega) (by omega); simp only [tellF]; omega
 | 3 => have := cw_len x.d; simp only [tellF]; omega
 | 4 => have := strT_len x.p; simp only [tellF]; omega
 | 5 => have := strT_len x.p2; simp only [tellF]; omega
 | 6 => have := numT_len x.fd h.fd0 h.fd1; simp only [tellF]; omega
 | 7 => have := numT_len x.pg h.pg0 h.pg1; simp only [tellF]; omega
 | 8 => have := numT_len x.sz (by omega) (by omega); simp only [tellF]; omega
 | 9 => have := strT_len x.da; simp only [tellF]; omega
 | 10 => have := strT_len x.t; simp only [tellF]; omega
 | k + 11 => simp [tellF]
theorem nm_len (k : Nat) : (nm k).length ≤ 4 := by
 match k with
 | 0 | 1 | 2 | 3 | 4 | 5 | 6 | 7 | 8 | 9 | 10 => decide
 | k + 11 => simp [nm]
theorem kw_len (k : Nat) : (kw k).length ≤ 6 := by
 match k with
 | 0 | 1 | 2 | 3 | 4 | 5 | 6 => decide
 | k + 7 => simp [kw]
theorem lineTo_len (x : M) (h : x.In) (k : Nat) : (lineTo x k).length ≤ 6 + k * (31 + 3 * x.size) := by
 induction k with
 | zero => have := kw_len x.k; simp only [lineTo]; omega
 | succ k ih =>
   have a := tellF_len x h k;have b := nm_len k;have e : (k + 1) * (31 + 3 * x.size) = k * (31 + 3 * x.size) + (31 + 3 * x.size) := by rw [Nat.add_mul]; omega
   simp only [lineTo]
   split
   · omega
   · simp only [List.length_append, List.length_cons]; omega
end Go.Proofs.YtkljcgopikdjjaaGreatDoor.Tx
end
section
namespace Go.Proofs.YtkljcgopikdjjaaGreatDoor.Tx
open Go
def brkB (b : UInt8) : List UInt8 → List UInt8 × List UInt8 × Bool
 | [] => ([], [], false)
 | c :: r => if c = b then ([], r, true) else (c :: (brkB b r).1, (brkB b r).2.1, (brkB b r).2.2)
theorem brkB_found (b : UInt8) : ∀ l, (brkB b l).2.2 = true → l = (brkB b l).1 ++ b :: (brkB b l).2.1 := by
 intro l
 induction l with
 | nil => intro h; cases h
 | cons c r ih =>
   intro h;simp only [brkB] at h ⊢
   split at h
   · rename_i e; rw [if_pos e, e]; rfl
   · rename_i e
     rw [if_neg e];have := ih h;simp only [List.cons_append];rw [← this]
theorem brkB_not (b : UInt8) : ∀ l, (brkB b l).2.2 = false → (brkB b l).1 = l ∧ (brkB b l).2.1 = [] := by
 intro l
 induction l with
 | nil => intro h; exact ⟨rfl, rfl⟩
 | cons c r ih =>
   intro h;simp only [brkB] at h ⊢
   split at h
   · cases h
   · rename_i e
     rw [if_neg e];have := ih h;simp only;rw [this.1, this.2];exact ⟨rfl, rfl⟩
theorem brkB_index (b : UInt8) : ∀ l, Lib.indexByte l b = if (brkB b l).2.2 = true then ((brkB b l).1.length : Int) else -1 := by
 intro l
 induction l with
 | nil => rfl
 | cons c r ih =>
   simp only [Lib.indexByte, brkB]
   by_cases e : c = b
   · simp [e]
   · simp only [if_neg e]
     by_cases h : (brkB b r).2.2 = true
     · rw [ih]
       simp only [h, if_true]
       simp [e]
     · rw [ih]
       simp [h, e]
theorem brkB_split (b : UInt8) : ∀ l, splitB b l = if (brkB b l).2.2 = true then (brkB b l).1 :: splitB b (brkB b l).2.1 else [(brkB b l).1] := by
 intro l
 induction l with
 | nil => rfl
 | cons c r ih =>
   simp only [splitB, brkB]
   by_cases e : c = b
   · simp [e]
   · simp only [if_neg e]
     rw [ih]
     by_cases h : (brkB b r).2.2 = true
     · simp [h]
     · simp [h]
theorem brkB_cut : ∀ l, cutL l = if (brkB 61 l).2.2 = true then some ((brkB 61 l).1, (brkB 61 l).2.1) else none := by
 intro l
 induction l with
 | nil => rfl
 | cons c r ih =>
   simp only [cutL, brkB]
   by_cases e : c = 61
   · simp [e]
   · simp only [if_neg e]
     rw [ih]
     by_cases h : (brkB 61 r).2.2 = true
     · simp [h]
     · simp [h]
end Go.Proofs.YtkljcgopikdjjaaGreatDoor.Tx
end
section
namespace Go.Proofs.YtkljcgopikdjjaaGreatDoor
open Go.RowKit Go.Shelf
def SBox (W : World) (b : Nat) (t : TypeId) (cs : Array Value) : Prop := W.heap[b]? = some (.cells cs t (0, 0))
theorem SBox.lt {W : World} {b : Nat} {t : TypeId} {cs : Array Value} (h : SBox W b t cs) : b < W.heap.size := (Array.getElem?_eq_some_iff.1 h).1
theorem SBox.cell {W : World} {b : Nat} {t : TypeId} {cs : Array Value} (h : SBox W b t cs) (i : Nat) : W.cell? ⟨b, i, none⟩ = cs[i]? := by
 unfold SBox at h
 simp [World.cell?, h]
theorem SBox.free {W : World} {b : Nat} {t : TypeId} {cs : Array Value} (h : SBox W b t cs) (i : Nat) : W.frozen? ⟨b, i, none⟩ = false := by
 unfold SBox at h
 simp [World.frozen?, h]
theorem SBox.below {W W' : World} {b n : Nat} {t : TypeId} {cs : Array Value} (h : SBox W b t cs) (hn : b < n) (hb : Below n W W') : SBox W' b t cs := (hb.block b hn).trans h
theorem SBox.later {W W' : World} {b : Nat} {t : TypeId} {cs : Array Value} (h : SBox W b t cs) (hb : Below W.heap.size W W') : SBox W' b t cs := h.below h.lt hb
theorem SBox.new (W : World) (t : TypeId) (cs : Array Value) : SBox (W.alloc (.cells cs t)) W.heap.size t cs := World.alloc_heap_new W _
theorem SBox.alloc {W : World} {b : Nat} {t : TypeId} {cs : Array Value} (h : SBox W b t cs) (o : Obj) : SBox (W.alloc o) b t cs := h.later ((Below.refl _ _).alloc (Nat.le_refl _) o)
theorem SBox.other {W : World} {b : Nat} {t : TypeId} {cs : Array Value} (h : SBox W b t cs) {c i : Nat} (v : Value) (hc : b ≠ c) : SBox (W.setCell ⟨c, i, none⟩ v) b t cs := (heap_setCell_other W ⟨c, i, none⟩ b v hc).trans h
theorem SBox.set {W : World} {b : Nat} {t : TypeId} {cs : Array Value} (h : SBox W b t cs) (i : Nat) (v : Value) : SBox (W.setCell ⟨b, i, none⟩ v) b t (cs.setIfInBounds i v) := heap_setCell_same W b i _ _ v h
theorem SBox.drew {W : World} {b : Nat} {t : TypeId} {cs : Array Value} (h : SBox W b t cs) : SBox W.drew b t cs := h
theorem SBox.kept {W W' : World} {row : Option Nat} {b : Nat} {t : TypeId} {cs : Array Value} (h : SBox W b t cs) (hg : W.grownBy W' row) (hne : some b ≠ row) : SBox W' b t cs := (hg.block b h.lt hne).trans h
end Go.Proofs.YtkljcgopikdjjaaGreatDoor
end
section
namespace Go.Proofs.YtkljcgopikdjjaaGreatDoor
open Go.RowKit Go.Shelf Go.Maps
open Go.WideElems (rg)
open Go.ChangeMaps (heap_setBlock_same heap_setBlock_other)
theorem len_le {α : Type} : ∀ (a b : List α), a.Nodup → (∀ x ∈ a, x ∈ b) → a.length ≤ b.length
 | [], _, _, _ => Nat.zero_le _
 | x :: a, b, hn, hs => by
   obtain ⟨h1, h2⟩ := List.nodup_cons.1 hn;obtain ⟨b1, b2, rfl⟩ := List.append_of_mem (hs x (by simp))
   have := len_le a (b1 ++ b2) h2 fun y hy => by
     have h3 := hs y (by simp [hy]);simp only [List.mem_append, List.mem_cons] at h3 ⊢
     rcases h3 with h3 | rfl | h3
     · exact .inl h3
     · exact absurd hy h1
     · exact .inr h3
   simp only [List.length_append, List.length_cons] at this ⊢;omega
def heldR : Value → Option (DataW Value × List MemPlace) := fun v => some (.held v, [])
def VMap (W : World) (kt : TypeId) (b nn : Nat) (f : Lit → Option Value) : Prop :=
 ∃ D : DataW Value, W.ownsMap Tryz.prog kt heldR b nn D ∧ ∀ kl, WideAt.IsKeyLit kl → has D kl = (f kl).isSome ∧ ∀ z, D.atKey kl (.held z) = .held ((f kl).getD z)
section
variable {W W' : World} {kt : TypeId} {b nn : Nat} {f : Lit → Option Value}
theorem VMap.lt (h : VMap W kt b nn f) : b < W.heap.size := by obtain ⟨D, h1, _⟩ := h; exact h1.lt
theorem VMap.kept {row : Option Nat} (h : VMap W kt b nn f) (hg : W.grownBy W' row) (hne : some b ≠ row) : VMap W' kt b nn f := by
 obtain ⟨D, h1, h2⟩ := h;exact ⟨D, h1.kept hg hne, h2⟩
theorem VMap.block (h : VMap W kt b nn f) (hb : W'.heap[b]? = W.heap[b]?) : VMap W' kt b nn f := by
 obtain ⟨D, ⟨es, clock, h1, r⟩, h2⟩ := h;exact ⟨D, ⟨es, clock, hb.trans h1, r⟩, h2⟩
theorem VMap.below {n : Nat} (h : VMap W kt b nn f) (hn : b < n) (hb : Below n W W') : VMap W' kt b nn f := h.block (hb.block b hn)
theorem VMap.later (h : VMap W kt b nn f) (hb : Below W.heap.size W W') : VMap W' kt b nn f := h.below h.lt hb
theorem VMap.alloc (h : VMap W kt b nn f) (o : Obj) : VMap (W.alloc o) kt b nn f := h.later ((Below.refl _ _).alloc (Nat.le_refl _) o)
theorem VMap.drew (h : VMap W kt b nn f) : VMap W.drew kt b nn f := h
theorem VMap.other (h : VMap W kt b nn f) {c i : Nat} (v : Value) (hc : b ≠ c) : VMap (W.setCell ⟨c, i, none⟩ v) kt b nn f := h.block (heap_setCell_other W ⟨c, i, none⟩ b v hc)
theorem VMap.isMap (h : VMap W kt b nn f) : ∃ es clock, W.heap[b]? = some (.map es clock) := by
 obtain ⟨D, ⟨es, clock, h1, _⟩, _⟩ := h;exact ⟨es, clock, h1⟩
theorem VMap.ne (h : VMap W kt b nn f) {c : Nat} {t : TypeId} {cs : Array Value} {fr : Nat × Nat} (hc : W.heap[c]? = some (.cells cs t fr)) : c ≠ b := fun e => by
 obtain ⟨es, clock, h1⟩ := h.isMap;subst e;rw [hc] at h1;cases h1
theorem VMap.new (W : World) (kt : TypeId) : VMap (W.alloc (.map #[] 0)) kt W.heap.size 0 (fun _ => none) := ⟨.map [], World.ownsMap_made _ _ _ _, fun x _ => ⟨rfl, fun z => rfl⟩⟩
theorem VMap.mono (h : VMap W kt b nn f) {n' : Nat} (hn : nn ≤ n') : VMap W kt b n' f := by
 obtain ⟨D, h1, h2⟩ := h;exact ⟨D, h1.mono hn, h2⟩
theorem held_inj {v z : Value} {ps : List MemPlace} (h : heldR v = some (.held z, ps)) : v = z := by
 unfold heldR at h;simp only [Option.some.injEq, Prod.mk.injEq, DataW.held.injEq] at h;exact h.1
theorem VMap.look (h : VMap W kt b nn f) (K : Keyed Tryz.prog kt) {t e : TypeId} (ht : Tryz.prog.underlying t = some (.map kt e)) {z : Value} (hz : (zeroValue e).run Tryz.prog W = .ok z W) {key : Value} {kl : Lit} (hk : keyOf Tryz.prog kt key = some kl) :
   (Instr.lookup t (.map (some b)) key false).run Tryz.prog W = .ok ((f kl).getD z) W := by
 obtain ⟨D, h1, h2⟩ := h;obtain ⟨v, ps, hrun, hv⟩ := h1.lookup K ht hz (zd := .held z) (zp := []) rfl hk;rw [(h2 kl (K.key hk)).2] at hv;rw [hrun, held_inj hv]
theorem VMap.look_ok (h : VMap W kt b nn f) (K : Keyed Tryz.prog kt) {t e : TypeId} (ht : Tryz.prog.underlying t = some (.map kt e)) {z : Value} (hz : (zeroValue e).run Tryz.prog W = .ok z W) {key : Value} {kl : Lit} (hk : keyOf Tryz.prog kt key = some kl) :
   (Instr.lookup t (.map (some b)) key true).run Tryz.prog W = .ok (.tuple #[(f kl).getD z, .bool (f kl).isSome]) W := by
 obtain ⟨D, h1, h2⟩ := h;obtain ⟨v, ps, hrun, hv⟩ := h1.look_ok K ht hz (zd := .held z) (zp := []) rfl hk;rw [(h2 kl (K.key hk)).1] at hrun;rw [(h2 kl (K.key hk)).2] at hv;rw [hrun, held_inj hv]
open Classical in
noncomputable def putV (f : Lit → Option Value) (k : Lit) (v : Value) : Lit → Option Value := fun y => if y = k then some v else f y
open Classical in
noncomputable def delV (f : Lit → Option Value) (k : Lit) : Lit → Option Value := fun y => if y = k then none else f y
theorem VMap.put (h : VMap W kt b nn f) (K : Keyed Tryz.prog kt) {t e : TypeId} (ht : Tryz.prog.underlying t = some (.map kt e)) (hn : nn < maxLen) {key : Value} {kl : Lit} (hk : keyOf Tryz.prog kt key = some kl) (val : Value) :
   ∃ W', (Instr.mapUpdate t (.map (some b)) key val).run Tryz.prog W = .ok () W' ∧ VMap W' kt b (nn + 1) (putV f kl val) ∧ W.mapTurned W' b := by
 obtain ⟨D, h1, h2⟩ := h;obtain ⟨W', hrun, r1, r2⟩ := h1.store K ht hn hk (val := val) (d := .held val) (ps := []) rfl;refine ⟨W', hrun, ⟨_, r1, fun y hy' => ?_⟩, r2⟩;unfold putV
 by_cases hy : y = kl
 · subst hy
   rw [if_pos rfl];exact ⟨Maps.has_put_same h1.isMap hy' _, fun z => Maps.atKey_put_same h1.isMap hy' _ _⟩
 · rw [if_neg hy, Maps.has_put_other hy]
   exact ⟨(h2 y hy').1, fun z => by rw [Maps.atKey_put_other hy]; exact (h2 y hy').2 z⟩
theorem VMap.len (h : VMap W kt b nn f) (K : Keyed Tryz.prog kt) {t e : TypeId} (ht : Tryz.prog.underlying t = some (.map kt e)) (ty : TypeId) :
   ∃ ks : List Lit, ks.Nodup ∧ (∀ k ∈ ks, (f k).isSome ∧ KeysOf Tryz.prog kt k) ∧ (∀ k, KeysOf Tryz.prog kt k → (f k).isSome → k ∈ ks) ∧ ks.length ≤ nn ∧ (Builtin.len_ #[t] ty #[.map (some b)]).run Tryz.prog W = .ok (.int .i64 ks.length) W := by
 obtain ⟨D, h1, h2⟩ := h;have hl := h1.len ht ty;have hsz := h1.size_le;obtain ⟨es, rfl, e1, e2⟩ := h1.entries K;refine ⟨es.map (·.1), List.pairwise_map.2 e1, ?_, ?_, by rw [List.length_map]; exact hsz, ?_⟩
 · intro k hk
   obtain ⟨p, hp, rfl⟩ := List.mem_map.1 hk;have hh : has (.map es) p.1 = true := List.any_eq_true.2 ⟨p, hp, WideAt.sameKey_self (e2 p hp)⟩;rw [(h2 p.1 (e2 p hp)).1] at hh;refine ⟨hh, ?_⟩;obtain ⟨es', clock, _, F, _, hE⟩ := h1;have hE' := DataW.map.inj hE;rw [hE'] at hp;obtain ⟨x, hx, rfl⟩ := List.mem_map.1 (mem_sorted.1 hp);exact Maps.fit_keys F _ (List.mem_map.2 ⟨x, hx, rfl⟩)
 · intro k hk hs
   obtain ⟨v, hv⟩ := hk;rw [← (h2 k (K.key hv)).1] at hs;obtain ⟨p, hp, hpk⟩ := List.any_eq_true.1 hs;exact List.mem_map.2 ⟨p, hp, WideAt.sameKey_eq hpk⟩
 · rw [hl, Maps.size_eq, List.length_map]
theorem VMap.tight (h : VMap W kt b nn f) (K : Keyed Tryz.prog kt) (L : List Lit) (hL : ∀ k, KeysOf Tryz.prog kt k → (f k).isSome → k ∈ L) : VMap W kt b L.length f := by
 obtain ⟨D, h1, h2⟩ := h;have hent := h1.entries K;have ho := h1;obtain ⟨es, clock, hb, F, hs, hD⟩ := ho;obtain ⟨es', he, e1, e2⟩ := hent;refine ⟨D, ⟨es, clock, hb, F, ?_, hD⟩, h2⟩
 have hsz : es.size = es'.length := by
   rw [hD] at he;have := DataW.map.inj he;rw [← this, length_sorted]; simp
 rw [hsz, show es'.length = (es'.map (·.1)).length by simp];refine len_le _ _ (List.pairwise_map.2 e1) ?_;intro k hk;obtain ⟨p, hp, rfl⟩ := List.mem_map.1 hk;have hh : has D p.1 = true := by rw [he]; exact List.any_eq_true.2 ⟨p, hp, WideAt.sameKey_self (e2 p hp)⟩
 rw [(h2 p.1 (e2 p hp)).1] at hh;refine hL _ ?_ hh;rw [hD] at he;rw [← DataW.map.inj he] at hp;obtain ⟨x, hx, rfl⟩ := List.mem_map.1 (mem_sorted.1 hp);exact Maps.fit_keys F _ (List.mem_map.2 ⟨x, hx, rfl⟩)
def VRange (W : World) (kt : TypeId) (b r nn : Nat) (f : Lit → Option Value) (left : Lit → Bool) (cnt : Nat) : Prop :=
 ∃ D : DataW Value, W.ranges Tryz.prog kt heldR b r nn D left cnt ∧ ∀ kl, WideAt.IsKeyLit kl → has D kl = (f kl).isSome ∧ ∀ z, D.atKey kl (.held z) = .held ((f kl).getD z)
variable {r cnt : Nat} {left : Lit → Bool}
theorem VRange.vmap (h : VRange W kt b r nn f left cnt) : VMap W kt b nn f := by
 obtain ⟨D, h1, h2⟩ := h;exact ⟨D, h1.owns, h2⟩
theorem VRange.ne (h : VRange W kt b r nn f left cnt) : r ≠ b := by obtain ⟨D, h1, _⟩ := h; exact h1.ne
theorem VRange.lt (h : VRange W kt b r nn f left cnt) : r < W.heap.size := by obtain ⟨D, h1, _⟩ := h; exact h1.lt
theorem VRange.left_eq (h : VRange W kt b r nn f left cnt) : W.rangeLeft b r = cnt := by obtain ⟨D, h1, _⟩ := h; exact h1.left_eq
theorem VRange.kept {row : Option Nat} (h : VRange W kt b r nn f left cnt) (hg : W.grownBy W' row) (hb' : some b ≠ row) (hr' : some r ≠ row) : VRange W' kt b r nn f left cnt := by
 obtain ⟨D, h1, h2⟩ := h;exact ⟨D, h1.kept hg hb' hr', h2⟩
theorem VMap.range (h : VMap W kt b nn f) (K : Keyed Tryz.prog kt) {t e : TypeId} (ht : Tryz.prog.underlying t = some (.map kt e)) :
   ∃ W' cnt left, (Instr.range t (.map (some b))).run Tryz.prog W = .ok (.pointer (some ⟨W.heap.size, 0, none⟩)) W' ∧ VRange W' kt b W.heap.size nn f left cnt ∧ (∀ k, KeysOf Tryz.prog kt k → left k = (f k).isSome) ∧ W.grownBy W' none ∧ W'.heap.size = W.heap.size + 1 := by
 obtain ⟨D, h1, h2⟩ := h;obtain ⟨W', hr, r1, r2, r3⟩ := h1.range K ht;exact ⟨W', _, _, hr, ⟨D, r1, h2⟩, fun k ⟨v, hv⟩ => (h2 k (K.key hv)).1, r2, r3⟩
theorem VRange.next (h : VRange W kt b r nn f left cnt) (K : Keyed Tryz.prog kt) (ty : TypeId) :
   (cnt = 0 ∧ (∀ kl, left kl = false) ∧ (Instr.next (.pointer (some ⟨r, 0, none⟩)) false ty).run Tryz.prog W = .ok (.tuple #[.bool false]) W) ∨
   ∃ key v kl W' cnt', keyOf Tryz.prog kt key = some kl ∧ left kl = true ∧ f kl = some v ∧ (Instr.next (.pointer (some ⟨r, 0, none⟩)) false ty).run Tryz.prog W = .ok (.tuple #[.bool true, key, v]) W' ∧
     VRange W' kt b r nn f (fun x => left x && !x.sameKey kl) cnt' ∧ cnt' < cnt ∧ W.grownBy W' (some r) ∧ W'.heap.size = W.heap.size ∧ (Instr.entry (.pointer (some ⟨r, 0, none⟩))).run Tryz.prog W' = .ok (.tuple #[key, v]) W' := by
 obtain ⟨D, h1, h2⟩ := h
 rcases h1.next K ty with h | ⟨key, v, kl, y, W', cnt', e1, e2, e3, e4, e5, e6, e7, e8, e9, e10⟩
 · exact .inl h
 · refine .inr ⟨key, v, kl, W', cnt', e1, e2, ?_, e5, ⟨D, e6, h2⟩, e7, e8, e9, e10⟩
   have hk := K.key e1;unfold heldR at e3;obtain rfl := (Option.some.inj e3).symm;have hh : has D kl = true := Maps.has_true_of_atKey (fun z => e4 z);have h3 := h2 kl hk;rw [h3.1] at hh;obtain ⟨u, hu⟩ := Option.isSome_iff_exists.1 hh;have h4 := h3.2 v;rw [e4, hu] at h4;rw [hu, DataW.held.inj h4]; rfl
theorem VRange.drop (h : VRange W kt b r nn f left cnt) (K : Keyed Tryz.prog kt) {t e : TypeId} (ht : Tryz.prog.underlying t = some (.map kt e)) {key : Value} {kl : Lit} (hk : keyOf Tryz.prog kt key = some kl) (ty : TypeId) :
   ∃ W' cnt', (Builtin.delete_ #[t, kt] ty #[.map (some b), key]).run Tryz.prog W = .ok (.tuple #[]) W' ∧ VRange W' kt b r nn (delV f kl) (fun x => left x && !x.sameKey kl) cnt' ∧ cnt' ≤ cnt ∧ W.mapTurned W' b := by
 obtain ⟨D, h1, h2⟩ := h;obtain ⟨W', cnt', hrun, r1, r2, r3⟩ := h1.drop K ht hk ty;refine ⟨W', cnt', hrun, ⟨_, r1, fun y hy' => ?_⟩, r2, r3⟩;unfold delV
 by_cases hy : y = kl
 · subst hy
   rw [if_pos rfl, Maps.has_del_same];exact ⟨rfl, fun z => Maps.atKey_del_same _⟩
 · rw [if_neg hy, Maps.has_del_other hy]
   exact ⟨(h2 y hy').1, fun z => by rw [Maps.atKey_del_other hy]; exact (h2 y hy').2 z⟩
end
end Go.Proofs.YtkljcgopikdjjaaGreatDoor
end
section
namespace Go.Proofs.YtkljcgopikdjjaaGreatDoor
open Go.RowKit Go.Shelf
def slotOf (a : Act) : Option Tmp → Value
 | some t => a.tmps.getD t undef
 | none => undef
def waits (ops : Array Oper) (i j : Nat) : Bool := ((ops[i]?).map fun o => o.after.any fun e => e.on == j && Region.binds .any e).getD false
theorem count_set (L : Array Bool) (i : Nat) (h : L.getD i true = false) : ((L.setIfInBounds i true).toList.filter (!·)).length + 1 = (L.toList.filter (!·)).length := by
 obtain ⟨l⟩ := L
 have hi : i < l.length := by
   refine Classical.byContradiction fun q => ?_
   simp [Array.getD, q] at h
 have he : l[i] = false := by simpa [Array.getD, hi] using h
 simp only [List.setIfInBounds_toArray];clear h
 induction l generalizing i with
 | nil => simp at hi
 | cons x l ih =>
   cases i with
   | zero =>
     simp only [List.getElem_cons_zero] at he;subst he;show ((true :: l).filter (!·)).length + 1 = ((false :: l).filter (!·)).length
     rfl
   | succ i =>
     have h := ih i (by simpa using hi) (by simpa using he);show ((x :: l.set i true).filter (!·)).length + 1 = ((x :: l).filter (!·)).length;cases x
     · show ((l.set i true).filter (!·)).length + 1 + 1 = (l.filter (!·)).length + 1
       omega
     · exact h
def upward (ops : Array Oper) : Bool := (List.range ops.size).all fun i => ((ops[i]?).map fun o => o.after.all fun e => !Region.binds .any e || decide (e.on < i)).getD true
theorem upward_spec {ops : Array Oper} (h : upward ops = true) {i : Nat} {o : Oper} (ho : ops[i]? = some o) {e : Edge} (he : e ∈ o.after) (hb : Region.binds .any e = true) : e.on < i := by
 have hi : i < ops.size := (Array.getElem?_eq_some_iff.1 ho).1;have h1 := List.all_eq_true.1 h i (by simpa using hi);rw [ho] at h1;simp only [Option.map_some, Option.getD_some] at h1;have h2 := Array.all_eq_true'.1 h1 e he;rw [hb] at h2
 simpa using h2
theorem waits_lt {ops : Array Oper} (h : upward ops = true) {i j : Nat} (hw : waits ops i j = true) : j < i ∧ i < ops.size := by
 unfold waits at hw;cases ho : ops[i]? with
 | none => rw [ho] at hw; cases hw
 | some o =>
   rw [ho] at hw;simp only [Option.map_some, Option.getD_some] at hw;obtain ⟨e, he, he2⟩ := Array.any_eq_true'.1 hw;simp only [Bool.and_eq_true, beq_iff_eq] at he2;have := upward_spec h ho he he2.2;exact ⟨by omega, (Array.getElem?_eq_some_iff.1 ho).1⟩
theorem ready_all {ops : Array Oper} (h : upward ops = true) (L : Array Bool) (hL : L.size = ops.size) (hr : Region.ready .any ops L = []) : ∀ j, j < ops.size → L.getD j false = true := by
 intro j
 induction j using Nat.strongRecOn with
 | _ j ih =>
   intro hj;refine Classical.byContradiction fun q => ?_
   have hm : j ∈ Region.ready .any ops L := by
     rw [mem_ready];refine ⟨?_, ops[j], by simp [hj], fun e he hb => ?_⟩
     · have hjL : j < L.size := by omega
       simp only [Array.getD, hjL, dif_pos] at q ⊢
       simpa using q
     · have := upward_spec h (i := j) (o := ops[j]) (by simp [hj]) he hb
       exact ih e.on this (by omega)
   rw [hr] at hm;cases hm
def rowsT (ops : Array Oper) : Nat → List (List Nat)
 | 0 => []
 | n + 1 =>
   let r := rowsT ops n
   r ++ [((List.range n).filter fun j => waits ops n j || (List.range n).any fun k => waits ops n k && (r.getD k []).contains j)]
def waitsT (ops : Array Oper) (i j : Nat) : Bool := ((rowsT ops ops.size).getD i []).contains j
theorem rowsT_len (ops : Array Oper) (n : Nat) : (rowsT ops n).length = n := by
 induction n with
 | zero => rfl
 | succ n ih => simp [rowsT, ih]
theorem rowsT_get (ops : Array Oper) (n m i : Nat) (h : i < n) (hm : n ≤ m) : (rowsT ops m).getD i [] = (rowsT ops n).getD i [] := by
 induction m with
 | zero => omega
 | succ m ih =>
   by_cases e : n = m + 1
   · subst e; rfl
   · have := ih (by omega)
     rw [← this];simp only [rowsT, List.getD_eq_getElem?_getD];rw [List.getElem?_append_left (by rw [rowsT_len]; omega)]
theorem waitsT_closed {ops : Array Oper} (lst : Nat → Bool) (hc : ∀ i j, lst i = true → waits ops i j = true → lst j = true) : ∀ i, i < ops.size → ∀ j, waitsT ops i j = true → lst i = true → lst j = true := by
 intro i
 induction i using Nat.strongRecOn with
 | _ i ih =>
   intro hi j hw hl;unfold waitsT at hw;rw [rowsT_get ops (i + 1) ops.size i (by omega) (by omega)] at hw;simp only [rowsT, List.getD_eq_getElem?_getD] at hw;rw [List.getElem?_append_right (by rw [rowsT_len]; omega), rowsT_len] at hw;simp only [Nat.sub_self, List.getElem?_cons_zero, Option.getD_some, List.contains_eq_mem, decide_eq_true_eq, List.mem_filter, List.mem_range, Bool.or_eq_true, List.any_eq_true, Bool.and_eq_true] at hw;obtain ⟨hj, hw | ⟨k, hk, hw, hm⟩⟩ := hw
   · exact hc i j hl hw
   · refine ih k hk (by omega) j ?_ (hc i k hl hw)
     unfold waitsT;rw [rowsT_get ops i ops.size k hk (by omega), List.getD_eq_getElem?_getD]
     simpa using hm
def apartD (d : Nat → Option Tmp) (n : Nat) : Bool := (List.range n).all fun i => (List.range n).all fun j => i == j || (d i).isNone || d i != d j
theorem apartD_spec {d : Nat → Option Tmp} {n : Nat} (h : apartD d n = true) (i j : Nat) (hi : i < n) (hj : j < n) (hij : i ≠ j) (t : Tmp) (ht : d i = some t) : d j ≠ some t := by
 have h1 := List.all_eq_true.1 (List.all_eq_true.1 h i (by simpa using hi)) j (by simpa using hj);intro e
 simp [hij, ht, e] at h1
theorem wp_region_phi2 {P : Program} {ops : Array Oper} {Q : Exit → Act → World → Prop} {id : Nat} {a0 : Act} {w0 : World} (hm : P.follows .mixedOrders = true)
   (d : Nat → Option Tmp) (A : Act → Prop) (G : (Nat → Bool) → World → Prop) (Gr : Nat → World → World → Prop) (Ψ : Nat → Value → World → Prop)
   (hchk : upward ops = true)
   (hst : ∀ i j v w w', i < ops.size → j < ops.size → i ≠ j → waitsT ops j i = false → Ψ j v w → Gr i w w' → Ψ j v w')
   (hdc : apartD d ops.size = true)
   (hA : ∀ i a v, i < ops.size → A a → A (a.put (d i) v) ∧ ∀ t, d i = some t → t < a.tmps.size)
   (a0A : A a0) (w0G : G (fun _ => false) w0.drew)
   (step : ∀ i a w lst, i < ops.size → A a → lst i = false → (∀ j k, j < ops.size → lst j = true → waitsT ops j k = true → lst k = true) → G lst w → (∀ j, waits ops i j = true → Ψ j (slotOf a (d j)) w) → wpOp P ops Q i (fun a' w' => ∃ v, a' = a.put (d i) v ∧ G (fun j => if j = i then true else lst j) w' ∧ Gr i w w' ∧ Ψ i (if (d i).isSome then v else undef) w') a w)
   (done : ∀ a w lst, (∀ j, j < ops.size → lst j = true) → A a → G lst w → (∀ j, j < ops.size → Ψ j (slotOf a (d j)) w) → Q .normal a w) :
   (Code.region id ops true).wp P Q a0 w0 := by
 refine wp_region_any hm ?_;have hw : ∀ i j, waits ops i j = true → j < ops.size := fun i j h => by have := waits_lt hchk h; omega
 have hall := ready_all hchk;have hd := apartD_spec hdc
 have key : ∀ fuel (L : Array Bool) (a : Act) (w : World), L.size = ops.size → (L.toList.filter (!·)).length ≤ fuel → (∀ i j, L.getD i false = true → waits ops i j = true → L.getD j false = true) → A a → G (fun j => L.getD j false) w → (∀ j, j < ops.size → L.getD j false = true → Ψ j (slotOf a (d j)) w) → wpAny P .any ops Q fuel L a w := by
   intro fuel
   induction fuel with
   | zero =>
     intro L a w hL hc hcl ha hg hp
     have hr : Region.ready .any ops L = [] := by
       rw [List.eq_nil_iff_forall_not_mem];intro i hi;have h1 := (mem_ready.1 hi).1;have := count_set L i h1;omega
     exact ⟨hr, done a w _ (hall L hL hr) ha hg fun j hj => hp j hj (hall L hL hr j hj)⟩
   | succ fuel ih =>
     intro L a w hL hc hcl ha hg hp;refine ⟨fun hr => done a w _ (hall L hL hr) ha hg fun j hj => hp j hj (hall L hL hr j hj), fun i hi => ?_⟩;obtain ⟨h1, o, ho, haft⟩ := mem_ready.1 hi;have hin : i < ops.size := (Array.getElem?_eq_some_iff.1 ho).1;have hiL : i < L.size := by omega
     have hli : L.getD i false = false := by
       simp only [Array.getD, hiL, dif_pos] at h1 ⊢;exact h1
     have hwl : ∀ j, waits ops i j = true → L.getD j false = true := fun j hj => by
       unfold waits at hj;rw [ho] at hj;simp only [Option.map_some, Option.getD_some] at hj;obtain ⟨e, he, he2⟩ := Array.any_eq_true'.1 hj;simp only [Bool.and_eq_true, beq_iff_eq] at he2;rw [← he2.1];exact haft e he he2.2
     have hset : ∀ j, (L.setIfInBounds i true).getD j false = if j = i then true else L.getD j false := fun j => by
       rw [Array.getD_eq_getD_getElem?, Array.getD_eq_getD_getElem?]
       by_cases hji : j = i
       · subst hji
         rw [if_pos rfl, Array.getElem?_setIfInBounds_self_of_lt hiL]; rfl
       · rw [if_neg hji, Array.getElem?_setIfInBounds_ne (Ne.symm hji)]
     refine wpOp_mono ?_ (step i a w _ hin ha hli (fun j k hj h1 h2 => waitsT_closed (fun j => L.getD j false) hcl j hj k h2 h1) hg fun j hj => hp j (hw i j hj) (hwl j hj));rintro a' w' ⟨v, rfl, g', gr, ps⟩;obtain ⟨hA1, hA2⟩ := hA i a v hin ha;refine ih _ _ _ (by simpa using hL) (by have := count_set L i h1; omega) ?_ hA1 (by simpa only [hset] using g') fun j hj hjl => ?_
     · intro k j hk hkj
       rw [hset] at hk ⊢
       by_cases hki : k = i
       · subst hki
         rw [hwl j hkj]
         split <;> rfl
       · rw [if_neg hki] at hk
         rw [hcl k j hk hkj]
         split <;> rfl
     by_cases hji : j = i
     · subst hji
       cases hdi : d j with
       | none => rw [hdi] at ps; exact ps
       | some t =>
         rw [hdi] at ps;have hlt := hA2 t hdi;have e : slotOf (a.put (some t) v) (some t) = v := by simp [slotOf, Act.put, Array.getD, hlt]
         rw [e]; exact ps
     · rw [hset, if_neg hji] at hjl
       have hnw : waitsT ops j i = false := by
         cases hq : waitsT ops j i with
         | false => rfl
         | true =>
           have := waitsT_closed (fun j => L.getD j false) hcl j hj i hq hjl;rw [hli] at this;cases this
       have h2 := hst i j _ _ _ hin hj (Ne.symm hji) hnw (hp j hj hjl) gr
       have e : slotOf (a.put (d i) v) (d j) = slotOf a (d j) := by
         cases hdj : d j with
         | none => rfl
         | some t =>
           cases hdi : d i with
           | none => rfl
           | some u =>
             have hne : u ≠ t := fun q => hd i j hin hj (Ne.symm hji) u hdi (by rw [hdj, q]);simp only [slotOf, Act.put];rw [Array.getD_eq_getD_getElem?, Array.getD_eq_getD_getElem?, Array.getElem?_setIfInBounds_ne hne]
       rw [e]; exact h2
 have h0 : ∀ j, (Array.replicate ops.size false).getD j false = false := fun j => by
   rw [Array.getD_eq_getD_getElem?, Array.getElem?_replicate]
   split <;> rfl
 refine key ops.size _ a0 _ (by simp) (by simp) (fun i j h => by rw [h0] at h; cases h) a0A (by simp only [h0]; exact w0G) fun j hj hjl => ?_;rw [h0] at hjl;cases hjl
theorem wpOp_via {P : Program} {ops : Array Oper} {Q : Exit → Act → World → Prop} {i : Nat} {R : Act → World → Prop} {a : Act} {w : World} (h : ∀ K : Act → World → Prop, (∀ a' w', R a' w' → K a' w') → wpOp P ops Q i K a w) : wpOp P ops Q i R a w := h R fun _ _ h => h
end Go.Proofs.YtkljcgopikdjjaaGreatDoor
end
section
namespace Go.Proofs.YtkljcgopikdjjaaGreatDoor.Tx
open Go.RowKit Go.Shelf Go.Maps Oct
def ptr (b : Nat) : Value := .pointer (some ⟨b, 0, none⟩)
def natF (kd : IntKind) (g : Nat → Option Value) : Lit → Option Value
 | .int k x => if k = kd ∧ 0 ≤ x then g x.toNat else none
 | _ => none
theorem natF_at (kd : IntKind) (g : Nat → Option Value) (x : Nat) : natF kd g (.int kd x) = g x := by simp [natF]
theorem natF_put (kd : IntKind) (g : Nat → Option Value) (x : Nat) (v : Value) : putV (natF kd g) (.int kd x) v = natF kd (fun y => if y = x then some v else g y) := by
 funext k
 unfold putV
 by_cases h : k = .int kd x
 · subst h
   simp [natF]
 · rw [if_neg h]
   cases k with
   | int k z =>
     unfold natF
     dsimp only
     by_cases hz : k = kd ∧ 0 ≤ z
     · rw [if_pos hz, if_pos hz]
       obtain ⟨rfl, hz⟩ := hz;obtain ⟨m, rfl⟩ := Int.eq_ofNat_of_zero_le hz;have : m ≠ x := fun e => h (by rw [e])
       simp [this]
     · rw [if_neg hz, if_neg hz]
   | _ => rfl
structure Tch (O : Nat → Prop) (w w' : World) : Prop where
 os : w'.os = w.os
 tape : w'.tape = w.tape
 output : w'.output = w.output
 size : w.heap.size ≤ w'.heap.size
 block : ∀ b, b < w.heap.size → ¬ O b → w'.heap[b]? = w.heap[b]?
theorem Tch.refl (O : Nat → Prop) (w : World) : Tch O w w := ⟨rfl, rfl, rfl, Nat.le_refl _, fun _ _ _ => rfl⟩
theorem Tch.trans {O : Nat → Prop} {a b c : World} (h : Tch O a b) (k : Tch O b c) : Tch O a c :=
 ⟨k.os.trans h.os, k.tape.trans h.tape, k.output.trans h.output, Nat.le_trans h.size k.size, fun i hi ho => (k.block i (Nat.lt_of_lt_of_le hi h.size) ho).trans (h.block i hi ho)⟩
theorem Tch.mono {O O' : Nat → Prop} {a b : World} (h : Tch O a b) (ho : ∀ i, i < a.heap.size → O i → O' i) : Tch O' a b := ⟨h.os, h.tape, h.output, h.size, fun i hi hn => h.block i hi fun q => hn (ho i hi q)⟩
theorem Tch.of {O : Nat → Prop} {a b : World} (h : Below a.heap.size a b) : Tch O a b := ⟨h.os, h.tape, h.output, h.size, fun i hi _ => h.block i hi⟩
theorem Tch.below {O : Nat → Prop} {a b : World} {n : Nat} (h : Tch O a b) (hn : ∀ i, i < n → i < a.heap.size ∧ ¬ O i) : Below n a b := ⟨h.os, h.tape, h.output, h.size, fun i hi => h.block i (hn i hi).1 (hn i hi).2⟩
theorem Tch.cell {O : Nat → Prop} {w : World} {b i : Nat} {v : Value} (hb : O b) : Tch O w (w.setCell ⟨b, i, none⟩ v) := by
 refine ⟨?_, ?_, ?_, ?_, fun c _ ho => heap_setCell_other w ⟨b, i, none⟩ c v (fun e => ho (by rw [e]; exact hb))⟩
 · have := (Below.refl 0 w).setCell (p := ⟨b, i, none⟩) (Nat.zero_le _) v; exact this.os
 · have := (Below.refl 0 w).setCell (p := ⟨b, i, none⟩) (Nat.zero_le _) v; exact this.tape
 · have := (Below.refl 0 w).setCell (p := ⟨b, i, none⟩) (Nat.zero_le _) v; exact this.output
 · have := (Below.refl 0 w).setCell (p := ⟨b, i, none⟩) (Nat.zero_le _) v; exact this.size
theorem Tch.turned {O : Nat → Prop} {w w' : World} {b : Nat} (h : w.mapTurned w' b) (hb : O b) : Tch O w w' := by
 obtain ⟨es, clock, es', clock', hm, rfl⟩ := h;exact ⟨rfl, rfl, rfl, by simp [Go.ChangeMaps.setBlock], fun c _ ho => Go.ChangeMaps.heap_setBlock_other hm _ (fun e => ho (by rw [e]; exact hb))⟩
theorem Tch.drew {O : Nat → Prop} {w : World} : Tch O w w.drew := ⟨rfl, rfl, rfl, Nat.le_refl _, fun _ _ _ => rfl⟩
theorem kU8 : Keyed Tryz.prog 5 := Maps.int_keyed Tryz.underlying5
theorem key8 {x : Nat} (h : x < 256) : keyOf Tryz.prog 5 (.int .u8 x) = some (.int .u8 x) := Maps.keyOf_int_mk Tryz.underlying5 (by
 simp only [Lit.wf, Bool.and_eq_true, decide_eq_true_eq];exact ⟨by show (0 : Int) ≤ x; omega, by show (x : Int) ≤ 255; omega⟩)
theorem nat_none (kd : IntKind) : (fun _ => none : Lit → Option Value) = natF kd (fun _ => none) := by
 funext k
 cases k <;> simp [natF]
end Go.Proofs.YtkljcgopikdjjaaGreatDoor.Tx
end
section
namespace Go.Proofs.YtkljcgopikdjjaaGreatDoor.Tr
abbrev Nm := List UInt8
structure Nd where
 kind : Nat
 links : Nat
 held : Nat
 up : Nat
 data : Nm
def Nd.no : Nd := ⟨0, 0, 0, 0, []⟩
structure T where
 n : Nat → Nd
 l : Nat → Nm → Nat
structure Rc where
 stamp : Nat
 op : Nat
 dir : Nat
 name : Nm
 ino : Nat
 kind : Nat
 dir2 : Nat
 name2 : Nm
 old : Nat
 size : Nat
 page : Nat
 data : Nm
def setN (f : Nat → Nd) (x : Nat) (v : Nd) : Nat → Nd := fun y => if y = x then v else f y
def setL (f : Nat → Nm → Nat) (d : Nat) (s : Nm) (v : Nat) : Nat → Nm → Nat := fun e t => if e = d ∧ t = s then v else f e t
inductive Bel (S : T) (top : Nat) : Nat → Prop where
 | here : Bel S top top
 | up (d : Nat) : (S.n d).up ≠ 0 → Bel S top (S.n d).up → Bel S top d
def resz (s : Nm) (k : Nat) : Nm := s.take k ++ List.replicate (k - s.length) 0
def wr (s : Nm) (p : Nat) (d : Nm) : Nm :=
 let u := resz s (max s.length (p * 64 + d.length))
 u.take (p * 64) ++ d ++ u.drop (p * 64 + d.length)
def fre (v : Nd) : Nd := if v.held = 0 ∧ v.links = 0 then Nd.no else v
def lose (v : Nd) : Nd := if v.kind = 2 then Nd.no else fre { v with links := v.links - 1 }
def Ok (room : Nat) (r : Rc) (S : T) : Prop :=
 if r.op = 1 then (S.n r.dir).kind = 2 ∧ S.l r.dir r.name = 0 ∧ (S.n r.ino).kind = 0 ∧ 1 ≤ r.ino ∧ r.ino ≤ room
 else if r.op = 2 then (S.n r.dir).kind = 2 ∧ S.l r.dir r.name = 0 ∧ (S.n r.ino).kind = 1 ∧ (S.n r.ino).links < 200
 else if r.op = 3 then (S.n r.dir).kind = 2 ∧ S.l r.dir r.name = r.ino ∧ r.ino ≠ 0 ∧ (S.n r.ino).kind = r.kind ∧ ∀ s, S.l r.ino s = 0
 else if r.op = 4 then (S.n r.dir).kind = 2 ∧ S.l r.dir r.name = r.ino ∧ r.ino ≠ 0 ∧ (S.n r.ino).kind = r.kind ∧ (S.n r.dir2).kind = 2 ∧ S.l r.dir2 r.name2 = r.old ∧ (r.kind = 2 → ¬ Bel S r.ino r.dir2) ∧ (r.old ≠ 0 → r.old ≠ r.ino → (S.n r.old).kind = r.kind ∧ ∀ s, S.l r.old s = 0)
 else if r.op = 5 then (S.n r.ino).kind = 1
 else if r.op = 6 then (S.n r.ino).kind = 1
 else (S.n r.ino).kind = 1 ∧ (S.n r.ino).links = 0 ∧ (S.n r.ino).held ≠ 0
def next (r : Rc) (S : T) : T :=
 if r.op = 1 then ⟨setN S.n r.ino ⟨r.kind, 1, if r.kind = 1 then 1 else 0, if r.kind = 2 then r.dir else 0, []⟩, setL S.l r.dir r.name r.ino⟩
 else if r.op = 2 then ⟨setN S.n r.ino { S.n r.ino with links := (S.n r.ino).links + 1 }, setL S.l r.dir r.name r.ino⟩
 else if r.op = 3 then ⟨setN S.n r.ino (lose (S.n r.ino)), setL S.l r.dir r.name 0⟩
 else if r.op = 4 then
   if r.old = r.ino then S
   else ⟨setN (if r.old = 0 then S.n else setN S.n r.old (lose (S.n r.old))) r.ino (if r.kind = 2 then { S.n r.ino with up := r.dir2 } else S.n r.ino), setL (setL S.l r.dir r.name 0) r.dir2 r.name2 r.ino⟩
 else if r.op = 5 then ⟨setN S.n r.ino { S.n r.ino with data := resz (S.n r.ino).data r.size }, S.l⟩
 else if r.op = 6 then ⟨setN S.n r.ino { S.n r.ino with data := resz (wr (S.n r.ino).data r.page r.data) r.size }, S.l⟩
 else ⟨setN S.n r.ino (fre { S.n r.ino with held := (S.n r.ino).held - 1 }), S.l⟩
def Wi (r : Rc) (x : Nat) : Prop := x = r.ino ∨ r.op = 4 ∧ r.old ≠ 0 ∧ x = r.old
def Ri (r : Rc) (x : Nat) : Prop := (r.op = 1 ∨ r.op = 2 ∨ r.op = 3 ∨ r.op = 4) ∧ x = r.dir ∨ r.op = 4 ∧ x = r.dir2
def We (r : Rc) (d : Nat) (s : Nm) : Prop := (r.op = 1 ∨ r.op = 2 ∨ r.op = 3 ∨ r.op = 4) ∧ d = r.dir ∧ s = r.name ∨ r.op = 4 ∧ d = r.dir2 ∧ s = r.name2
def Mv (r : Rc) : Prop := r.op = 4 ∧ r.kind = 2
structure Apart (a b : Rc) : Prop where
 ww : ∀ x, Wi a x → ¬ Wi b x
 wr : ∀ x, Wi a x → ¬ Ri b x
 rw : ∀ x, Ri a x → ¬ Wi b x
 ee : ∀ d s, We a d s → ¬ We b d s
 mm : Mv a → ¬ Mv b
theorem Apart.symm {a b : Rc} (h : Apart a b) : Apart b a := ⟨fun x p q => h.ww x q p, fun x p q => h.rw x q p, fun x p q => h.wr x q p, fun d s p q => h.ee d s q p, fun p q => h.mm q p⟩
def Cnt (S : T) (x k : Nat) : Prop := ∃ L : List (Nat × Nm), L.Nodup ∧ (∀ d s, (d, s) ∈ L ↔ S.l d s = x) ∧ L.length = k
structure Inv (room : Nat) (S : T) : Prop where
 k2 : ∀ x, (S.n x).kind ≤ 2
 no : ∀ x, (S.n x).kind = 0 → S.n x = Nd.no
 noL : ∀ x s, (S.n x).kind ≠ 2 → S.l x s = 0
 fl : ∀ x, (S.n x).kind = 1 → (S.n x).up = 0
 dr : ∀ x, (S.n x).kind = 2 → (S.n x).held = 0 ∧ (S.n x).links = 1 ∧ (S.n x).data = []
 rng : ∀ x, (S.n x).kind ≠ 0 → 1 ≤ x ∧ x ≤ room
 root : (S.n 1).kind = 2 ∧ (S.n 1).up = 0
 ent : ∀ d s, S.l d s ≠ 0 → (S.n (S.l d s)).kind ≠ 0 ∧ S.l d s ≠ 1
 one : ∀ d s, (S.n (S.l d s)).kind = 2 → (S.n (S.l d s)).up = d
 one2 : ∀ d s t, (S.n (S.l d s)).kind = 2 → S.l d s = S.l d t → s = t
 upd : ∀ x, (S.n x).kind = 2 → x ≠ 1 → (S.n x).up ≠ 0 ∧ ∃ s, S.l (S.n x).up s = x
 hl : ∀ x, (S.n x).kind = 1 → (S.n x).held ≠ 0 ∨ (S.n x).links ≠ 0
 cnt : ∀ x, (S.n x).kind = 1 → Cnt S x (S.n x).links
 acy : ∃ rk : Nat → Nat, ∀ x, (S.n x).up ≠ 0 → rk (S.n x).up < rk x
theorem Cnt.pos {S : T} {x k : Nat} (h : Cnt S x k) {d : Nat} {s : Nm} (hd : S.l d s = x) : k ≠ 0 := by
 obtain ⟨L, _, h2, rfl⟩ := h;exact fun e => by rw [List.length_eq_zero_iff] at e; have := (h2 d s).2 hd; rw [e] at this; cases this
theorem Cnt.add {S : T} {x k : Nat} (h : Cnt S x k) {d : Nat} {s : Nm} {N : Nat → Nd} (hd : S.l d s ≠ x) : Cnt ⟨N, setL S.l d s x⟩ x (k + 1) := by
 obtain ⟨L, h1, h2, rfl⟩ := h;refine ⟨(d, s) :: L, List.nodup_cons.2 ⟨fun hm => hd ((h2 d s).1 hm), h1⟩, fun e t => ?_, rfl⟩;simp only [List.mem_cons, h2, setL, Prod.mk.injEq]
 by_cases he : e = d ∧ t = s
 · simp [he]
 · simp [he]
theorem Cnt.same {S : T} {x k : Nat} (h : Cnt S x k) {d : Nat} {s : Nm} {N : Nat → Nd} {y : Nat} (hd : S.l d s ≠ x) (hy : y ≠ x) : Cnt ⟨N, setL S.l d s y⟩ x k := by
 obtain ⟨L, h1, h2, rfl⟩ := h;refine ⟨L, h1, fun e t => ?_, rfl⟩;rw [h2];simp only [setL]
 by_cases he : e = d ∧ t = s
 · rw [if_pos he, he.1, he.2]; simp [hd, hy]
 · rw [if_neg he]
theorem Cnt.of {S S' : T} {x k : Nat} (h : Cnt S x k) (he : S'.l = S.l) : Cnt S' x k := by
 unfold Cnt at *;rw [he]; exact h
theorem Inv.zero {room : Nat} {S : T} (h : Inv room S) : (S.n 0).kind = 0 := Classical.byContradiction fun q => by have := h.rng 0 q; omega
theorem Bel.mono {A B : T} {top d : Nat} (h : Bel A top d) (he : ∀ x, (A.n x).up ≠ 0 → (B.n x).up = (A.n x).up ∨ x = top) : Bel B top d := by
 induction h with
 | here => exact .here
 | up d h1 _ ih =>
   rcases he d h1 with h2 | h2
   · exact .up d (by rw [h2]; exact h1) (by rw [h2]; exact ih)
   · subst h2; exact .here
def run : List Rc → T → T
 | [], S => S
 | r :: l, S => run l (next r S)
def Cl (m : List (Rc × Bool)) : Prop := m.Pairwise fun x y => x.2 = false → y.2 = true → Apart x.1 y.1
end Go.Proofs.YtkljcgopikdjjaaGreatDoor.Tr
end
section
namespace Go.Proofs.YtkljcgopikdjjaaGreatDoor.Tr
def pageB (s : Nm) (k : Nat) : Nm := (List.range 64).map fun i => s.getD (k * 64 + i) 0
def zero64 : Nm := List.replicate 64 0
end Go.Proofs.YtkljcgopikdjjaaGreatDoor.Tr
end
section
namespace Go.Proofs.YtkljcgopikdjjaaGreatDoor.Tr
open Go.RowKit Go.Shelf
set_option maxHeartbeats 2000000 in
theorem check_any (t b : Nat) (n : Nat) (hn : n ≤ 100) (cap : Nat) (g : Nat → Nat) (lb : Nat → Array Value) (I : Nat → World → Prop) (J : Nat → World → Prop) (w : World) (h0 : I 0 w) (he : ∀ i W, i < n → (callFunc (g i) (lb i)).run Tryz.prog W = .ok (.enter (g i) (lb i)) W)
   (hc : ∀ i W, i < n → I i W → W.cell? ⟨b, i, none⟩ = some (.func (.func (g i)) #[] (lb i)) ∧ b < W.heap.size)
   (hs : ∀ i W, i < n → I i W → Calls Tryz.prog (g i) (lb i) W fun e W' => ∃ k : Nat, e = .returned (.int .i64 k) ∧ (k = 0 ∧ I (i + 1) W' ∨ k ≠ 0 ∧ J k W')) :
   Calls Tryz.prog 447 #[.pointer (some ⟨t, 0, none⟩), .slice (some ⟨b, 0, none⟩) n cap] w fun e w' => ∃ k : Nat, e = .returned (.int .i64 k) ∧ (k = 0 ∧ I n w' ∨ k ≠ 0 ∧ J k w') := by
 have H0 := Lib.hid h0;have HE := Lib.hid he;have HC := Lib.hid hc;have HS := Lib.hid hs;clear h0 hc hs he
 go_enter Tryz.func447, Tryz.ntmps447
 go_wp2_with fail
 go_loopw [12] (fun c wr => ∃ q : Nat, q ≤ n ∧ c = .int .i64 q ∧ I q wr) (fun c _ => n - (intOf c).toNat)
 case atStart => exact ⟨0, by omega, rfl, H0.out⟩
 case round =>
   obtain ⟨q, hq, rfl, hr⟩ := hrel
   by_cases hlt : q < n
   · obtain ⟨x0, xl⟩ := HC.out q _ hlt hr
     have K := Lib.hid (HS.out q _ hlt hr);have E := fun W => HE.out q W hlt;clear hr;go_wp2_with fail;refine Calls.mono K.out ?_;rintro e w7 ⟨k, rfl, h⟩;have H := Lib.hid h;clear h
     by_cases hk : k = 0
     · subst hk
       go_wp2_with fail;go_roundw
       case rel => exact ⟨q + 1, by omega, by go_num, (H.out.resolve_right (fun h => h.1 rfl)).2⟩
       case measure => simp [intOf]; omega
     · have tk : ((k : Int) != 0) = true := by simp; omega
       go_wp2_with fail;go_ret;exact ⟨k, rfl, .inr (H.out.resolve_left (fun h => hk h.1))⟩
   · obtain rfl : q = n := by omega
     have H := Lib.hid hr;clear hr;go_wp2_with fail;go_ret;exact ⟨0, rfl, .inl ⟨rfl, H.out⟩⟩
end Go.Proofs.YtkljcgopikdjjaaGreatDoor.Tr
end
section
namespace Go.Proofs.YtkljcgopikdjjaaGreatDoor.Tr
open Go.RowKit Go.Shelf Go.Maps Oct
def ptr (b : Nat) : Value := .pointer (some ⟨b, 0, none⟩)
def natF (kd : IntKind) (g : Nat → Option Value) : Lit → Option Value
 | .int k x => if k = kd ∧ 0 ≤ x then g x.toNat else none
 | _ => none
def strF (g : Nm → Option Value) : Lit → Option Value
 | .string s => g s
 | _ => none
theorem natF_at (kd : IntKind) (g : Nat → Option Value) (x : Nat) : natF kd g (.int kd x) = g x := by simp [natF]
theorem strF_at (g : Nm → Option Value) (s : Nm) : strF g (.string s) = g s := rfl
theorem natF_put (kd : IntKind) (g : Nat → Option Value) (x : Nat) (v : Value) : putV (natF kd g) (.int kd x) v = natF kd (fun y => if y = x then some v else g y) := by
 funext k
 unfold putV
 by_cases h : k = .int kd x
 · subst h
   simp [natF]
 · rw [if_neg h]
   cases k with
   | int k z =>
     unfold natF
     dsimp only
     by_cases hz : k = kd ∧ 0 ≤ z
     · rw [if_pos hz, if_pos hz]
       obtain ⟨rfl, hz⟩ := hz;obtain ⟨m, rfl⟩ := Int.eq_ofNat_of_zero_le hz;have : m ≠ x := fun e => h (by rw [e])
       simp [this]
     · rw [if_neg hz, if_neg hz]
   | _ => rfl
def entF (l : Nm → Nat) (s : Nm) : Option Value := if l s = 0 then none else some (.int .u32 (l s))
structure PgOk (data : Nm) (g : Nat → Option Nm) : Prop where
 is : ∀ k v, g k = some v → v = pageB data k ∧ k < 36
 no : ∀ k, g k = none → pageB data k = zero64
def byteV (b : UInt8) : Value := .int .u8 b.toNat
def pgF (g : Nat → Option Nm) (k : Nat) : Option Value := (g k).map fun v => .agg (v.map byteV).toArray
structure TL where
 t : Nat
 m : Nat
 P : Nat → Nat
 A : Nat → Nat
 B : Nat → Nat
 O : Nat → Prop
def nodeF (E : TL) (S : T) (x : Nat) : Option Value := if (S.n x).kind = 0 then none else some (ptr (E.P x))
structure TreeAt (W : World) (E : TL) (room q : Nat) (S : T) : Prop where
 top : SBox W E.t 239 #[.int .u32 room, .map (some E.m)]
 map : VMap W 36 E.m 256 (natF .u32 (nodeF E S))
 nd : ∀ x, (S.n x).kind ≠ 0 → SBox W (E.P x) 336 #[.int .u8 (S.n x).kind, .int .i64 (S.n x).links, .int .u32 (S.n x).data.length, .map (some (E.A x)), .map (some (E.B x)), .int .i64 (S.n x).held, .int .u32 (S.n x).up]
 ent : ∀ x, (S.n x).kind ≠ 0 → VMap W 9 (E.A x) q (strF (entF (S.l x)))
 pg : ∀ x, (S.n x).kind ≠ 0 → ∃ g, PgOk (S.n x).data g ∧ VMap W 3 (E.B x) 36 (natF .i64 (pgF g))
 own : E.O E.t ∧ E.O E.m ∧ ∀ x, (S.n x).kind ≠ 0 → E.O (E.P x) ∧ E.O (E.A x) ∧ E.O (E.B x)
 iP : ∀ x y, (S.n x).kind ≠ 0 → (S.n y).kind ≠ 0 → E.P x = E.P y → x = y
 iA : ∀ x y, (S.n x).kind ≠ 0 → (S.n y).kind ≠ 0 → E.A x = E.A y → x = y
 iB : ∀ x y, (S.n x).kind ≠ 0 → (S.n y).kind ≠ 0 → E.B x = E.B y → x = y
 iAB : ∀ x y, (S.n x).kind ≠ 0 → (S.n y).kind ≠ 0 → E.A x ≠ E.B y
 iM : ∀ x, (S.n x).kind ≠ 0 → E.P x ≠ E.t ∧ E.A x ≠ E.m ∧ E.B x ≠ E.m
 rm : room ≤ 256
 q8 : q ≤ 100000
 lk : ∀ x, (S.n x).links ≤ 100000 ∧ (S.n x).held ≤ 100000
 dt : ∀ x, (S.n x).data.length ≤ 2304
structure Tch (O : Nat → Prop) (w w' : World) : Prop where
 os : w'.os = w.os
 tape : w'.tape = w.tape
 output : w'.output = w.output
 size : w.heap.size ≤ w'.heap.size
 block : ∀ b, b < w.heap.size → ¬ O b → w'.heap[b]? = w.heap[b]?
theorem Tch.refl (O : Nat → Prop) (w : World) : Tch O w w := ⟨rfl, rfl, rfl, Nat.le_refl _, fun _ _ _ => rfl⟩
theorem Tch.trans {O : Nat → Prop} {a b c : World} (h : Tch O a b) (k : Tch O b c) : Tch O a c :=
 ⟨k.os.trans h.os, k.tape.trans h.tape, k.output.trans h.output, Nat.le_trans h.size k.size, fun i hi ho => (k.block i (Nat.lt_of_lt_of_le hi h.size) ho).trans (h.block i hi ho)⟩
theorem Tch.mono {O O' : Nat → Prop} {a b : World} (h : Tch O a b) (ho : ∀ i, i < a.heap.size → O i → O' i) : Tch O' a b := ⟨h.os, h.tape, h.output, h.size, fun i hi hn => h.block i hi fun q => hn (ho i hi q)⟩
theorem Tch.of {O : Nat → Prop} {a b : World} (h : Below a.heap.size a b) : Tch O a b := ⟨h.os, h.tape, h.output, h.size, fun i hi _ => h.block i hi⟩
theorem Tch.below {O : Nat → Prop} {a b : World} {n : Nat} (h : Tch O a b) (hn : ∀ i, i < n → i < a.heap.size ∧ ¬ O i) : Below n a b := ⟨h.os, h.tape, h.output, h.size, fun i hi => h.block i (hn i hi).1 (hn i hi).2⟩
theorem Tch.cell {O : Nat → Prop} {w : World} {b i : Nat} {v : Value} (hb : O b) : Tch O w (w.setCell ⟨b, i, none⟩ v) := by
 refine ⟨?_, ?_, ?_, ?_, fun c _ ho => heap_setCell_other w ⟨b, i, none⟩ c v (fun e => ho (by rw [e]; exact hb))⟩
 · have := (Below.refl 0 w).setCell (p := ⟨b, i, none⟩) (Nat.zero_le _) v; exact this.os
 · have := (Below.refl 0 w).setCell (p := ⟨b, i, none⟩) (Nat.zero_le _) v; exact this.tape
 · have := (Below.refl 0 w).setCell (p := ⟨b, i, none⟩) (Nat.zero_le _) v; exact this.output
 · have := (Below.refl 0 w).setCell (p := ⟨b, i, none⟩) (Nat.zero_le _) v; exact this.size
theorem Tch.turned {O : Nat → Prop} {w w' : World} {b : Nat} (h : w.mapTurned w' b) (hb : O b) : Tch O w w' := by
 obtain ⟨es, clock, es', clock', hm, rfl⟩ := h;exact ⟨rfl, rfl, rfl, by simp [Go.ChangeMaps.setBlock], fun c _ ho => Go.ChangeMaps.heap_setBlock_other hm _ (fun e => ho (by rw [e]; exact hb))⟩
theorem Tch.drew {O : Nat → Prop} {w : World} : Tch O w w.drew := ⟨rfl, rfl, rfl, Nat.le_refl _, fun _ _ _ => rfl⟩
variable {W W' : World} {E : TL} {room q : Nat} {S : T}
theorem TreeAt.blocks (h : TreeAt W E room q S) (hb : ∀ b, b < W.heap.size → E.O b → W'.heap[b]? = W.heap[b]?) : TreeAt W' E room q S := by
 have o := h.own;refine { h with top := ?_, map := ?_, nd := ?_, ent := ?_, pg := ?_ }
 · exact (hb _ h.top.lt o.1).trans h.top
 · exact h.map.block (hb _ h.map.lt o.2.1)
 · exact fun x hx => (hb _ (h.nd x hx).lt (o.2.2 x hx).1).trans (h.nd x hx)
 · exact fun x hx => (h.ent x hx).block (hb _ (h.ent x hx).lt (o.2.2 x hx).2.1)
 · exact fun x hx => by
     obtain ⟨g, h1, h2⟩ := h.pg x hx;exact ⟨g, h1, h2.block (hb _ h2.lt (o.2.2 x hx).2.2)⟩
theorem TreeAt.later (h : TreeAt W E room q S) (hb : Below W.heap.size W W') : TreeAt W' E room q S := h.blocks fun b hlt _ => hb.block b hlt
theorem TreeAt.below {n : Nat} (h : TreeAt W E room q S) (hn : ∀ b, b < W.heap.size → E.O b → b < n) (hb : Below n W W') : TreeAt W' E room q S := h.blocks fun b hlt ho => hb.block b (hn b hlt ho)
theorem TreeAt.alloc (h : TreeAt W E room q S) (o : Obj) : TreeAt (W.alloc o) E room q S := h.later ((Below.refl _ _).alloc (Nat.le_refl _) o)
theorem TreeAt.drew (h : TreeAt W E room q S) : TreeAt W.drew E room q S := h.blocks fun _ _ _ => rfl
theorem TreeAt.more (h : TreeAt W E room q S) {q' : Nat} (hq : q ≤ q') (hq' : q' ≤ 100000) : TreeAt W E room q' S := { h with ent := fun x hx => (h.ent x hx).mono hq, q8 := hq' }
theorem kU32 : Keyed Tryz.prog 36 := Maps.int_keyed Tryz.underlying36
theorem kStr : Keyed Tryz.prog 9 := Maps.string_keyed Tryz.underlying9
theorem wf32 {x : Nat} (h : x < 4294967296) : (Lit.int .u32 (x : Int)).wf = true := by
 simp only [Lit.wf, Bool.and_eq_true, decide_eq_true_eq];exact ⟨by show (0 : Int) ≤ x; omega, by show (x : Int) ≤ 4294967295; omega⟩
theorem key32 {x : Nat} (h : x < 4294967296) : keyOf Tryz.prog 36 (.int .u32 x) = some (.int .u32 x) := Maps.keyOf_int_mk Tryz.underlying36 (wf32 h)
theorem keyS {s : ByteArray} (h : s.size ≤ maxLen) : keyOf Tryz.prog 9 (.string s) = some (.string s.data.toList) := WideMaps.keyOf_string_mk Tryz.underlying9 h
theorem TreeAt.look (h : TreeAt W E room q S) {x : Nat} (hx : x < 4294967296) : (Instr.lookup 237 (.map (some E.m)) (.int .u32 x) false).run Tryz.prog W = .ok ((nodeF E S x).getD (.pointer none)) W := by
 have := h.map.look kU32 Tryz.underlying237 (z := .pointer none) (by kernel_rfl) (key32 hx)
 rwa [natF_at] at this
theorem TreeAt.entry (h : TreeAt W E room q S) {x : Nat} (hk : (S.n x).kind ≠ 0) {s : ByteArray} (hs : s.size ≤ maxLen) : (Instr.lookup 333 (.map (some (E.A x))) (.string s) false).run Tryz.prog W = .ok (.int .u32 (S.l x s.data.toList)) W := by
 have := (h.ent x hk).look kStr Tryz.underlying333 (z := .int .u32 0) (by kernel_rfl) (keyS hs);rw [this, strF_at, entF]
 by_cases h0 : S.l x s.data.toList = 0
 · rw [if_pos h0, h0]; rfl
 · rw [if_neg h0]; rfl
end Go.Proofs.YtkljcgopikdjjaaGreatDoor.Tr
end
section
namespace Go.Proofs.YtkljcgopikdjjaaGreatDoor.Tr
open Go.RowKit Go.Shelf Go.Maps Oct
variable {W W' : World} {E : TL} {room q : Nat} {S : T}
theorem setN_same (f : Nat → Nd) (x : Nat) (v : Nd) : setN f x v x = v := by simp [setN]
theorem setN_other (f : Nat → Nd) {x y : Nat} (v : Nd) (h : y ≠ x) : setN f x v y = f y := by simp [setN, h]
theorem turned_block {W W' : World} {b : Nat} (h : W.mapTurned W' b) {c : Nat} (hc : c ≠ b) : W'.heap[c]? = W.heap[c]? := by
 obtain ⟨es, clock, es', clock', hb, rfl⟩ := h;exact Go.ChangeMaps.heap_setBlock_other hb _ hc
end Go.Proofs.YtkljcgopikdjjaaGreatDoor.Tr
end
section
namespace Go.Proofs.YtkljcgopikdjjaaGreatDoor.Tx
open Go.RowKit Go.Shelf Go.Maps Oct
def hasK : Nat → Nat
 | 0 => 9 | 1 => 1 | 2 => 16 | 3 => 2 | 4 => 4 | 5 => 2 | 6 => 16 | _ => 0
def mostK : Nat → Nat
 | 3 => 1000 | 5 => 4095 | _ => 0
def fnK : Nat → Value
 | 0 => .func (.func 103) #[] #[]
  | 1 => .func (.func 104) #[] #[]
  | 2 => .func (.func 105) #[] #[]
  | 3 => .func (.func 106) #[] #[]
  | 4 => .func (.func 107) #[] #[]
  | 5 => .func (.func 108) #[] #[]
  | 6 => .func (.func 109) #[] #[]
 | _ => .nilFunc
def kv (a b : Int) (f : Value) : Value := .agg #[.int .i64 a, .int .i64 b, f]
def k0 : Value := kv 9 0 (.func (.func 103) #[] #[])
def k1 : Value := kv 1 0 (.func (.func 104) #[] #[])
def k2 : Value := kv 16 0 (.func (.func 105) #[] #[])
def k3 : Value := kv 2 1000 (.func (.func 106) #[] #[])
def k4 : Value := kv 4 0 (.func (.func 107) #[] #[])
def k5 : Value := kv 2 4095 (.func (.func 108) #[] #[])
def k6 : Value := kv 16 0 (.func (.func 109) #[] #[])
def kindF (y : Nat) : Option Value := if y = 6 then some k6 else if y = 5 then some k5 else if y = 4 then some k4 else if y = 3 then some k3 else if y = 2 then some k2 else if y = 1 then some k1 else if y = 0 then some k0 else none
theorem kind_at (k : Nat) (h : k < 7) : kindF k = some (kv (hasK k) (mostK k) (fnK k)) := by
 match k, h with
 | 0, _ => rfl
 | 1, _ => rfl
 | 2, _ => rfl
 | 3, _ => rfl
 | 4, _ => rfl
 | 5, _ => rfl
 | 6, _ => rfl
theorem kind_no (k : Nat) (h : ¬ k < 7) : kindF k = none := by
 unfold kindF;rw [if_neg (by omega), if_neg (by omega), if_neg (by omega), if_neg (by omega), if_neg (by omega), if_neg (by omega), if_neg (by omega)]
set_option maxHeartbeats 4000000 in
theorem kinds_any (w : World) : Calls Tryz.prog 64 #[] w fun e w' => ∃ b, e = .returned (.map (some b)) ∧ VMap w' 5 b 7 (natF .u8 kindF) ∧ w.heap.size ≤ b ∧ Below w.heap.size w w' := by
 have hmm := @run_makeMap Tryz.prog;have h0 := VMap.new w 5;rw [nat_none .u8] at h0;have B0 : Tch (fun c => w.heap.size ≤ c) w (w.alloc (.map #[] 0)) := Tch.of ((Below.refl w.heap.size w).alloc (Nat.le_refl _) (.map #[] 0));obtain ⟨w0, hw0⟩ : ∃ w0, w.alloc (.map #[] 0) = w0 := ⟨_, rfl⟩;rw [hw0] at h0 B0;obtain ⟨w1, r1, h1, t1⟩ := h0.put kU8 Tryz.underlying117 (by decide) (show keyOf Tryz.prog 5 (.int .u8 0) = some (.int .u8 0) from key8 (x := 0) (by omega)) k0;change VMap w1 _ _ _ (putV (natF .u8 _) (.int .u8 ((0 : Nat) : Int)) k0) at h1;rw [natF_put] at h1;have B1 := B0.trans (Tch.turned t1 (Nat.le_refl _));obtain ⟨w2, r2, h2, t2⟩ := h1.put kU8 Tryz.underlying117 (by decide) (show keyOf Tryz.prog 5 (.int .u8 1) = some (.int .u8 1) from key8 (x := 1) (by omega)) k1;change VMap w2 _ _ _ (putV (natF .u8 _) (.int .u8 ((1 : Nat) : Int)) k1) at h2;rw [natF_put] at h2;have B2 := B1.trans (Tch.turned t2 (Nat.le_refl _));obtain ⟨w3, r3, h3, t3⟩ := h2.put kU8 Tryz.underlying117 (by decide) (show keyOf Tryz.prog 5 (.int .u8 2) = some (.int .u8 2) from key8 (x := 2) (by omega)) k2;change VMap w3 _ _ _ (putV (natF .u8 _) (.int .u8 ((2 : Nat) : Int)) k2) at h3;rw [natF_put] at h3;have B3 := B2.trans (Tch.turned t3 (Nat.le_refl _));obtain ⟨w4, r4, h4, t4⟩ := h3.put kU8 Tryz.underlying117 (by decide) (show keyOf Tryz.prog 5 (.int .u8 3) = some (.int .u8 3) from key8 (x := 3) (by omega)) k3;change VMap w4 _ _ _ (putV (natF .u8 _) (.int .u8 ((3 : Nat) : Int)) k3) at h4;rw [natF_put] at h4;have B4 := B3.trans (Tch.turned t4 (Nat.le_refl _));obtain ⟨w5, r5, h5, t5⟩ := h4.put kU8 Tryz.underlying117 (by decide) (show keyOf Tryz.prog 5 (.int .u8 4) = some (.int .u8 4) from key8 (x := 4) (by omega)) k4;change VMap w5 _ _ _ (putV (natF .u8 _) (.int .u8 ((4 : Nat) : Int)) k4) at h5;rw [natF_put] at h5;have B5 := B4.trans (Tch.turned t5 (Nat.le_refl _));obtain ⟨w6, r6, h6, t6⟩ := h5.put kU8 Tryz.underlying117 (by decide) (show keyOf Tryz.prog 5 (.int .u8 5) = some (.int .u8 5) from key8 (x := 5) (by omega)) k5;change VMap w6 _ _ _ (putV (natF .u8 _) (.int .u8 ((5 : Nat) : Int)) k5) at h6;rw [natF_put] at h6;have B6 := B5.trans (Tch.turned t6 (Nat.le_refl _));obtain ⟨w7, r7, h7, t7⟩ := h6.put kU8 Tryz.underlying117 (by decide) (show keyOf Tryz.prog 5 (.int .u8 6) = some (.int .u8 6) from key8 (x := 6) (by omega)) k6;change VMap w7 _ _ _ (putV (natF .u8 _) (.int .u8 ((6 : Nat) : Int)) k6) at h7;rw [natF_put] at h7;have B7 := B6.trans (Tch.turned t7 (Nat.le_refl _));have HV := Lib.hid (show VMap w7 5 w.heap.size 7 (natF .u8 kindF) from h7);have BB := Lib.hid (Tch.below B7 fun i hi => ⟨hi, Nat.not_le.2 hi⟩);have HW := Lib.hid hw0;clear h0 h1 h2 h3 h4 h5 h6 h7 t1 t2 t3 t4 t5 t6 t7 B0 B1 B2 B3 B4 B5 B6 B7;unfold k0 k1 k2 k3 k4 k5 k6 kv at *;rw [← HW.out] at r1;clear hw0
 go_enter Tryz.func64, Tryz.ntmps64
 go_wp2_with fail;go_ret;exact ⟨_, rfl, HV.out, Nat.le_refl _, BB.out⟩
end Go.Proofs.YtkljcgopikdjjaaGreatDoor.Tx
end
section
namespace Go.Proofs.YtkljcgopikdjjaaGreatDoor.Tx
set_option maxRecDepth 100000
set_option maxHeartbeats 1000000
open Go.RowKit Go.Shelf Go.Maps Oct
theorem info_u8 : ∃ i, Tryz.prog.info? 5 = some i ∧ i.zero = some (.int .u8 0) ∧ i.size = 1 ∧ i.bytes = 1 := info_parts (by kernel_rfl)
def Bd (z b : Nat) (l : List UInt8) (w : World) : Prop :=
 b < z ∧ z ≤ w.heap.size ∧ ∃ p v, SBox w b 58 #[p, v] ∧ (p = .pointer none ∨ p = ptr b) ∧ w.ownsRow z 5 1 v l.length (Lib.byteCells l)
def OnB (z b : Nat) (k : Nat) : Prop := k = b ∨ z ≤ k
theorem Bd.fresh {z b : Nat} {w : World} (hb : b < z) (hz : z ≤ w.heap.size) (h : SBox w b 58 #[.pointer none, .slice none 0 0]) : Bd z b [] w :=
 ⟨hb, hz, _, _, h, .inl rfl, ⟨rfl, .inl ⟨rfl, rfl⟩⟩⟩
theorem Bd.is {z b : Nat} {l : List UInt8} {w : World} (h : Bd z b l w) : Lib.IsBuilder 58 5 b b (Lib.byteCells l) w := by
 obtain ⟨hb, hz, p, v, h1, hp, h2⟩ := h;have hn : (Lib.byteCells l).length = l.length := Lib.byteCells_length l
 have h3 : w.ownsRow b 5 1 v l.length (Lib.byteCells l) := by
   refine ⟨h2.1, ?_⟩
   rcases h2.2 with h | ⟨g, cap, cur, e, hg, r⟩
   · exact .inl h
   · exact .inr ⟨g, cap, cur, e, by omega, r⟩
 have h4 : v.ownBlock ≠ some b := by
   rcases h2.2 with ⟨rfl, _⟩ | ⟨g, cap, cur, rfl, hg, r⟩
   · simp [Value.ownBlock]
   · simp [Value.ownBlock]; omega
 rw [← hn] at h3
 rcases hp with rfl | rfl
 · exact .inl ⟨Nat.le_refl _, v, h1, h3, h4⟩
 · exact .inr ⟨Nat.le_refl _, v, h1, h3, h4⟩
theorem bd_used (b : Nat) (v : Value) (w : World) (h : SBox w b 58 #[ptr b, v]) :
   Calls Tryz.prog 62 #[ptr b] w fun e w' => e = .returned (.tuple #[]) ∧ w = w' := by
 unfold ptr at h ⊢;obtain ⟨j, hj, hjs⟩ := Option.map_eq_some_iff.1 (show (Tryz.prog.info? 58).map (·.size) = some 2 by kernel_rfl);have hne : ∀ W, (binOp .neq 55 (.pointer (some ⟨b, 0, none⟩)) (.pointer (some ⟨b, 0, none⟩))).run Tryz.prog W = .ok (.bool false) W := fun W => Lib.run_neq_ptr_same W _ Tryz.underlying55 hj;have H0 := h.cell 0;have H1 := h.cell 1;simp only [List.getElem?_toArray, List.getElem?_cons_zero, List.getElem?_cons_succ] at H0 H1;have Hl := h.lt;clear h
 go_enter Tryz.func62, Tryz.ntmps62
 go_wp2
 go_end0;exact ⟨rfl, rfl⟩
theorem bd_first (b : Nat) (v : Value) (w : World) (h : SBox w b 58 #[.pointer none, v]) :
   Calls Tryz.prog 62 #[ptr b] w fun e w' => e = .returned (.tuple #[]) ∧ w' = w.setCell ⟨b, 0, none⟩ (ptr b) := by
 unfold ptr;have hsz : (Tryz.prog.info? 58).map (·.size) = some 2 := by kernel_rfl
 obtain ⟨j, hj, hjs⟩ := Option.map_eq_some_iff.1 hsz;have hlies : liesAt Tryz.prog Tryz.prog.depth 58 (2 / Tryz.prog.cellsOf 58) 0 58 1 = true := by kernel_rfl
 have hsh : w.shape? b = some (58, 2) := by unfold SBox at h; simp [World.shape?, h]
 have H0 := h.cell 0;have H1 := h.cell 1;simp only [List.getElem?_toArray, List.getElem?_cons_zero, List.getElem?_cons_succ] at H0 H1;have Hl := h.lt;have F0 := h.free 0;clear h
 go_enter Tryz.func62, Tryz.ntmps62
 go_wp2
 rw [Lib.run_to_unsafe w ⟨b, 0, none⟩ Tryz.underlying55 Tryz.underlying152 hj (by rw [hjs]; decide) hsh (Nat.zero_lt_succ 1)];simp only [Result.andThen];rw [Oper.upon_value]
 go_wp2
 rw [run_callFunc_extern Tryz.func101 (by kernel_rfl) (by kernel_rfl) (by kernel_rfl) (e := Extern.AbiNoEscape.same) (by kernel_rfl)];rw [Lib.run_noEscape];simp only [Result.andThen];rw [Oper.upon_value]
 go_wp2
 rw [Lib.run_from_unsafe w ⟨b, 0, none⟩ Tryz.underlying152 Tryz.underlying55 hj hsh hlies];simp only [Result.andThen];rw [Oper.upon_value]
 go_wp2
 go_end0;exact ⟨rfl, rfl⟩
theorem bd_check {z b : Nat} {l : List UInt8} {w : World} (h : Bd z b l w) :
   Calls Tryz.prog 62 #[ptr b] w fun e w' => e = .returned (.tuple #[]) ∧ (∃ v, SBox w' b 58 #[ptr b, v] ∧ w'.ownsRow z 5 1 v l.length (Lib.byteCells l)) ∧ Tch (OnB z b) w w' := by
 obtain ⟨hb, hz, p, v, h1, hp, h2⟩ := h
 rcases hp with rfl | rfl
 · refine (bd_first b v w h1).mono ?_
   rintro e w' ⟨rfl, rfl⟩;have h3 := h1.set 0 (ptr b);refine ⟨rfl, ⟨v, h3, ?_⟩, Tch.cell (.inl rfl)⟩;refine ⟨h2.1, ?_⟩
   rcases h2.2 with h | ⟨g, cap, cur, e, hg, hc, r⟩
   · exact .inl h
   · exact .inr ⟨g, cap, cur, e, hg, by rw [heap_setCell_other w ⟨b, 0, none⟩ g _ (by show g ≠ b; omega)]; exact hc, r⟩
 · refine (bd_used b v w h1).mono ?_
   rintro e w' ⟨rfl, rfl⟩;exact ⟨rfl, ⟨v, h1, h2⟩, Tch.refl _ _⟩
theorem bd_own {z b : Nat} {l : List UInt8} {v : Value} {w : World} (h : w.ownsRow z 5 1 v l.length (Lib.byteCells l)) (hbz : b < z) : v.ownBlock ≠ some b := by
 rcases h.2 with ⟨rfl, _⟩ | ⟨g, cap, cur, rfl, hg, r⟩
 · simp [Value.ownBlock]
 · simp [Value.ownBlock]; omega
theorem bd_put {z b : Nat} {l m : List UInt8} {v : Value} {w w1 w2 : World} {g cap : Nat} (hbz : b < z) (hz : z ≤ w.heap.size) (h1 : SBox w b 58 #[ptr b, v]) (hown : w.ownsRow z 5 1 v l.length (Lib.byteCells l))
   (hb : Below w.heap.size w w1) (hg : w1.grownBy w2 v.ownBlock) (h2 : w2.ownsRow z 5 1 (.slice (some ⟨g, 0, none⟩) (l.length + m.length) cap) (l.length + m.length) (Lib.byteCells l ++ Lib.byteCells m)) :
   SBox w2 b 58 #[ptr b, v] ∧ Bd z b (l ++ m) (w2.setCell ⟨b, 1, none⟩ (.slice (some ⟨g, 0, none⟩) (l.length + m.length) cap)) ∧ Tch (OnB z b) w (w2.setCell ⟨b, 1, none⟩ (.slice (some ⟨g, 0, none⟩) (l.length + m.length) cap)) := by
 have hne := bd_own hown hbz;have h3 := (h1.later hb).kept hg (fun e => hne e.symm);have hs1 := hb.size;have hs2 := hg.size;have hs3 := ((Below.refl 0 w2).setCell (p := ⟨b, 1, none⟩) (Nat.zero_le _) (.slice (some ⟨g, 0, none⟩) (l.length + m.length) cap)).size;refine ⟨h3, ⟨hbz, by omega, _, _, h3.set 1 _, .inr rfl, ?_⟩, ?_⟩
 · refine ⟨by simp [Lib.byteCells_length], ?_⟩
   rcases h2.2 with ⟨e, h0⟩ | ⟨g2, cap2, cur, e, hg2, hc, r1, r2, r3, r4⟩
   · cases e
   · cases e
     refine .inr ⟨g, cap, cur, by simp, hg2, ?_, by simpa using r1, r2, r3, ?_⟩
     · rw [heap_setCell_other w2 ⟨b, 1, none⟩ g _ (by show g ≠ b; omega)]; exact hc
     · rw [List.length_append]; rw [Lib.byteCells_append]; exact r4
 · have t2 : Tch (OnB z b) w1 w2 := ⟨hg.os, hg.tape, hg.output, hg.size, fun k hk hn => hg.block k hk fun e => hn (by
     rcases hown.2 with ⟨rfl, _⟩ | ⟨g2, cap2, cur, rfl, hg2, r⟩
     · simp [Value.ownBlock] at e
     · simp only [Value.ownBlock, Option.some.injEq] at e
       exact .inr (by omega))⟩
   exact ((Tch.of hb).trans t2).trans (Tch.cell (.inl rfl))
theorem bd_check2 {z b r : Nat} {l : List UInt8} {m : List UInt8} {w : World} (h : Bd z b l w) (hr : SBox w r 5 (Lib.byteCells m).toArray) (hrb : r ≠ b) :
   Calls Tryz.prog 62 #[ptr b] w fun e w' => e = .returned (.tuple #[]) ∧ (∃ v, SBox w' b 58 #[ptr b, v] ∧ w'.ownsRow z 5 1 v l.length (Lib.byteCells l)) ∧ Tch (OnB z b) w w' ∧ SBox w' r 5 (Lib.byteCells m).toArray := by
 obtain ⟨hb, hz, p, v, h1, hp, h2⟩ := h
 rcases hp with rfl | rfl
 · refine (bd_first b v w h1).mono ?_
   rintro e w' ⟨rfl, rfl⟩;have h3 := h1.set 0 (ptr b);refine ⟨rfl, ⟨v, h3, ?_⟩, Tch.cell (.inl rfl), hr.other _ hrb⟩;refine ⟨h2.1, ?_⟩
   rcases h2.2 with h | ⟨g, cap, cur, e, hg, hc, r⟩
   · exact .inl h
   · exact .inr ⟨g, cap, cur, e, hg, by rw [heap_setCell_other w ⟨b, 0, none⟩ g _ (by show g ≠ b; omega)]; exact hc, r⟩
 · refine (bd_used b v w h1).mono ?_
   rintro e w' ⟨rfl, rfl⟩;exact ⟨rfl, ⟨v, h1, h2⟩, Tch.refl _ _, hr⟩
theorem bd_wbyte {z b : Nat} {l : List UInt8} (c : UInt8) {w : World} (h : Bd z b l w) (hl : l.length ≤ 100000000) :
   Calls Tryz.prog 158 #[ptr b, .int .u8 c.toNat] w fun e w' => e = .returned .nilIface ∧ Bd z b (l ++ [c]) w' ∧ Tch (OnB z b) w w' := by
 obtain ⟨i0, hi, hz0, hz1, hz2⟩ := info_u8;have hbz := h.1;have hzz := h.2.1;have C := Lib.hid (bd_check h);clear h;unfold ptr
 go_enter Tryz.func158, Tryz.ntmps158
 go_wp2_with fail;refine C.out.mono ?_;rintro e w1 ⟨rfl, ⟨v, h1, hown⟩, t1⟩;have hs1 := t1.size;have hS := Lib.hid h1;have H0 := h1.cell 0;have H1 := h1.cell 1;simp only [List.getElem?_toArray, List.getElem?_cons_zero, List.getElem?_cons_succ] at H0 H1;have Hl := h1.lt;unfold ptr at H0;clear h1
 go_wp2_with (at_builtin; refine wpList_append_lies _ rfl _ _ 56 rfl z 5 i0 (.int .u8 0) 1 1 Tryz.underlying56 hi hz0 hz1 hz2 rfl (by decide) _ l.length (Lib.byteCells l) rfl (World.ownsRow.alloc hown _) ⟨w1.heap.size, 0, none⟩ 1 1 [.int .u8 c.toNat] rfl rfl (World.news_of_block (SBox.new w1 _ _)) (by intro u hu; simp at hu; subst hu; rfl) (by decide) (by unfold maxLen; omega) (by omega) (by have := hs1; simp; omega) _ rfl ?_; intro g9 cap9 w9 hown9 hgrow9 hat9 hlt9; obtain ⟨q1, q2, q3⟩ := bd_put (m := [c]) hbz (by omega) hS.out hown ((Below.refl w1.heap.size w1).alloc (Nat.le_refl _) _) hgrow9 hown9; have HR := Lib.hid (And.intro q2 (t1.trans q3)); have K0 := q1.cell 0; have K1 := q1.cell 1; have F1 := q1.free 1; simp only [List.getElem?_toArray, List.getElem?_cons_zero, List.getElem?_cons_succ] at K0 K1; unfold ptr at K0; clear q1 q2 q3)
 go_wp2
 go_ret;exact ⟨rfl, HR.out⟩
theorem bd_write {z b r : Nat} {l m : List UInt8} {w : World} (h : Bd z b l w) (hl : l.length ≤ 100000000) (hm : 0 < m.length) (hm2 : m.length ≤ 1000) (hr : SBox w r 5 (Lib.byteCells m).toArray) (hrb : r ≠ b) :
   Calls Tryz.prog 159 #[ptr b, .slice (some ⟨r, 0, none⟩) m.length m.length] w fun e w' => e = .returned (.tuple #[.int .i64 m.length, .nilIface]) ∧ Bd z b (l ++ m) w' ∧ Tch (OnB z b) w w' := by
 obtain ⟨i0, hi, hz0, hz1, hz2⟩ := info_u8;have hbz := h.1;have hzz := h.2.1;have C := Lib.hid (bd_check2 h hr hrb);clear h;unfold ptr
 go_enter Tryz.func159, Tryz.ntmps159
 go_wp2_with fail;refine C.out.mono ?_;rintro e w1 ⟨rfl, ⟨v, h1, hown⟩, t1, hr1⟩;have hs1 := t1.size;have hS := Lib.hid h1;have H0 := h1.cell 0;have H1 := h1.cell 1;simp only [List.getElem?_toArray, List.getElem?_cons_zero, List.getElem?_cons_succ] at H0 H1;have Hl := h1.lt;unfold ptr at H0;clear h1
 go_wp2_with (at_builtin; refine wpList_append_lies _ rfl _ _ 56 rfl z 5 i0 (.int .u8 0) 1 1 Tryz.underlying56 hi hz0 hz1 hz2 rfl (by decide) _ l.length (Lib.byteCells l) rfl hown ⟨r, 0, none⟩ m.length m.length (Lib.byteCells m) rfl (by simp [Lib.byteCells_length]) (World.news_of_block hr1) (Lib.byteCells_one m) hm (by unfold maxLen; omega) (by omega) (by have := hs1; omega) _ rfl ?_; intro g9 cap9 w9 hown9 hgrow9 hat9 hlt9; obtain ⟨q1, q2, q3⟩ := bd_put (m := m) hbz (by omega) hS.out hown (Below.refl w1.heap.size w1) hgrow9 hown9; have HR := Lib.hid (And.intro q2 (t1.trans q3)); have K0 := q1.cell 0; have K1 := q1.cell 1; have F1 := q1.free 1; simp only [List.getElem?_toArray, List.getElem?_cons_zero, List.getElem?_cons_succ] at K0 K1; unfold ptr at K0; clear q1 q2 q3)
 go_wp2
 go_ret2;exact ⟨rfl, HR.out⟩
theorem bd_string {z b : Nat} {l : List UInt8} {w : World} (h : Bd z b l w) : Calls Tryz.prog 31 #[ptr b] w fun e w' => e = .returned (.string (B l)) ∧ Below b w w' := by
 have hb := h.1;have hz := h.2.1;exact Tryz.Builder_String_any b b l w h.is (by omega)
end Go.Proofs.YtkljcgopikdjjaaGreatDoor.Tx
end
section
namespace Go.Proofs.YtkljcgopikdjjaaGreatDoor.Tx
set_option maxRecDepth 100000
set_option maxHeartbeats 1000000
open Go.RowKit Go.Shelf Go.Maps Oct
theorem idx_st (c : UInt8) : decide (0 ≤ Lib.indexByte [46, 47, 95, 45] c) = (c == 46 || c == 47 || c == 95 || c == 45) := by
 by_cases h1 : c = 46
 · subst h1; decide
 by_cases h2 : c = 47
 · subst h2; decide
 by_cases h3 : c = 95
 · subst h3; decide
 by_cases h4 : c = 45
 · subst h4; decide
 have e : Lib.indexByte [46, 47, 95, 45] c = -1 := by simp [Lib.indexByte, Ne.symm h1, Ne.symm h2, Ne.symm h3, Ne.symm h4, h1, h2, h3, h4]
 simp [e, h1, h2, h3, h4]
theorem stands_any (c : UInt8) (w : World) : Calls Tryz.prog 157 #[.int .u8 c.toNat] w fun e w' => e = .returned (.bool (stB c)) ∧ w = w' := by
 have hc := c.toNat_lt;have C := Lib.hid (fun W => Tryz.strings_IndexByte ⟨#[46, 47, 95, 45]⟩ (c.toNat : Int) W);have e0 : ((c.toNat : Int).toNat).toUInt8 = c := by simp
 have HI := Lib.hid (idx_st c)
 by_cases h1 : 97 ≤ c.toNat ∧ c.toNat ≤ 122
 · have e : stB c = true := by unfold stB; simp [h1]
   have t1 : decide (97 ≤ (c.toNat : Int)) = true := by simp; omega
   have t2 : decide ((c.toNat : Int) ≤ 122) = true := by simp; omega
   rw [e]
   go_enter Tryz.func157, Tryz.ntmps157
   go_wp2_with fail;go_ret;exact ⟨rfl, rfl⟩
 by_cases h2 : 65 ≤ c.toNat ∧ c.toNat ≤ 90
 · have e : stB c = true := by unfold stB; simp [h2]
   have t1 : decide (97 ≤ (c.toNat : Int)) = false := by simp; omega
   have t3 : decide (65 ≤ (c.toNat : Int)) = true := by simp; omega
   have t4 : decide ((c.toNat : Int) ≤ 90) = true := by simp; omega
   rw [e]
   go_enter Tryz.func157, Tryz.ntmps157
   go_wp2_with fail;go_ret;exact ⟨rfl, rfl⟩
 by_cases h3 : 48 ≤ c.toNat ∧ c.toNat ≤ 57
 · have e : stB c = true := by unfold stB; simp [h3]
   have t1 : decide (97 ≤ (c.toNat : Int)) = false := by simp; omega
   have t3 : decide (65 ≤ (c.toNat : Int)) = false := by simp; omega
   have t5 : decide (48 ≤ (c.toNat : Int)) = true := by simp; omega
   have t6 : decide ((c.toNat : Int) ≤ 57) = true := by simp; omega
   rw [e]
   go_enter Tryz.func157, Tryz.ntmps157
   go_wp2_with fail;go_ret;exact ⟨rfl, rfl⟩
 have e : stB c = decide (0 ≤ Lib.indexByte [46, 47, 95, 45] c) := by rw [idx_st]; unfold stB; simp only [h1, h2, h3, decide_false, Bool.false_or]
 rw [e];have HP := Lib.hid h1;have HQ := Lib.hid h2;have HR := Lib.hid h3
 have T : (decide (97 ≤ (c.toNat : Int)) = true → decide ((c.toNat : Int) ≤ 122) = false) ∧ (decide (65 ≤ (c.toNat : Int)) = true → decide ((c.toNat : Int) ≤ 90) = false) ∧ (decide (48 ≤ (c.toNat : Int)) = true → decide ((c.toNat : Int) ≤ 57) = false) := by
   refine ⟨?_, ?_, ?_⟩ <;> simp only [decide_eq_true_eq, decide_eq_false_iff_not] <;> omega
 clear h1 h2 h3 HP HQ HR HI;obtain ⟨T1, T2, T3⟩ := T;cases a1 : decide (97 ≤ (c.toNat : Int)) <;> cases a2 : decide (65 ≤ (c.toNat : Int)) <;> cases a3 : decide (48 ≤ (c.toNat : Int))
 all_goals
   rw [a1] at T1;rw [a2] at T2;rw [a3] at T3;simp only [forall_const, Bool.false_eq_true, false_implies] at T1 T2 T3
   go_enter Tryz.func157, Tryz.ntmps157
   go_wp2_with fail;refine (C.out _).mono ?_;rintro e w' ⟨rfl, rfl⟩;go_wp2_with fail;go_ret;exact ⟨rfl, rfl⟩
theorem cell_same {W W' : World} {b : Nat} (h : W'.heap[b]? = W.heap[b]?) (j : Nat) : W'.cell? ⟨b, j, none⟩ = W.cell? ⟨b, j, none⟩ := by
 simp only [World.cell?, h]
theorem Tch.below' {n : Nat} {l : List UInt8} {w0 w w' : World} (h : Tch (OnB (n + 2) n) w w') (hb : Bd (n + 2) n l w) (h0 : Below n w0 w) : Below n w0 w' :=
 h0.trans (h.below fun i hi => ⟨by have := hb.2.1; omega, by unfold OnB; omega⟩)
theorem and15 : ∀ n : Nat, n < 256 → bits .and .u8 (n : Int) 15 = ((n % 16 : Nat) : Int) := by decide
theorem Bd.alloc {z b : Nat} {l : List UInt8} {w : World} (h : Bd z b l w) (o : Obj) : Bd z b l (w.alloc o) := by
 obtain ⟨hb, hz, p, v, h1, hp, h2⟩ := h;exact ⟨hb, by simp; omega, p, v, h1.alloc o, hp, World.ownsRow.alloc h2 o⟩
theorem dig_nat : ∀ m : Nat, m < 16 → ∀ h : m < (⟨#[48, 49, 50, 51, 52, 53, 54, 55, 56, 57, 97, 98, 99, 100, 101, 102]⟩ : ByteArray).size, (⟨#[48, 49, 50, 51, 52, 53, 54, 55, 56, 57, 97, 98, 99, 100, 101, 102]⟩ : ByteArray)[m] = hexN m := by decide
theorem telling_nil (w : World) : Calls Tryz.prog 123 #[.string ⟨#[]⟩] w fun e w' => e = .returned (.string (B [37])) ∧ w = w' := by
 go_enter Tryz.func123, Tryz.ntmps123
 go_wp2
 go_ret;exact ⟨rfl, rfl⟩
theorem telling_some (s : ByteArray) (w : World) (h0 : 0 < s.size) (hs : s.size ≤ 100000) : Calls Tryz.prog 123 #[.string s] w fun e w' => e = .returned (.string (B (tellR (L s)))) ∧ Below w.heap.size w w' := by
 obtain ⟨W, cap, hconv, hB, hz, hcell, hfr⟩ := bytes_made (P := Tryz.prog) (w.alloc (.cells #[.pointer none, .slice none 0 0] 58)) 9 56 5 s Tryz.underlying9 Tryz.underlying56 Tryz.underlying5;have hbox : SBox W w.heap.size 58 #[.pointer none, .slice none 0 0] := (SBox.new w _ _).below (by simp) hB;have B1 : Below w.heap.size w W := ((Below.refl _ w).alloc (Nat.le_refl _) _).trans (hB.mono (by simp));simp only [World.size_alloc] at hz hcell hconv;have bd0 : Bd (w.heap.size + 2) w.heap.size [] W := Bd.fresh (by omega) (by omega) hbox;have HC := Lib.hid hcell;have HB := Lib.hid B1;have HD := Lib.hid bd0;have q0 : s.toList.isEmpty = false := empty_no h0;clear hB hz hcell hfr hbox B1 bd0
 go_enter Tryz.func123, Tryz.ntmps123
 go_wp2
 clear hconv
 go_loopw [11] (fun i wr => ∃ k : Nat, k ≤ s.size ∧ i = .int .i64 k ∧ Bd (w.heap.size + 2) w.heap.size (tellR ((L s).take k)) wr ∧ wr.heap[w.heap.size + 1]? = W.heap[w.heap.size + 1]? ∧ Below w.heap.size w wr) (fun i _ => s.size - (intOf i).toNat)
 case atStart => exact ⟨0, Nat.zero_le _, rfl, HD.out, rfl, HB.out⟩
 case round =>
   obtain ⟨k, hk, rfl, hb, hr, hB⟩ := hrel
   by_cases hlt : k < s.size
   · have hc := (cell_same hr k).trans (HC.out k hlt)
     have c1 := Lib.hid hb;have hst := Lib.hid (fun W => stands_any s[k] W)
     have hT : tellR ((L s).take (k + 1)) = tellR ((L s).take k) ++ tellB s[k] := by
       have h2 : k < (L s).length := by rw [len_L]; exact hlt
       rw [List.take_succ_eq_append_getElem h2, tellR_app];simp only [tellR, List.append_nil]
       rfl
     have HT := Lib.hid hT;have HR := Lib.hid hr;clear hb hr hT;go_wp2_with fail;refine (hst.out _).mono ?_;rintro e w9 ⟨rfl, rfl⟩
     have hl : (tellR ((L s).take k)).length ≤ 100000000 := by
       have : ∀ l : List UInt8, (tellR l).length ≤ 3 * l.length := by
         intro l
         induction l with
         | nil => simp [tellR]
         | cons c r ih => simp only [tellR, List.length_append, List.length_cons]; unfold tellB; split <;> simp <;> omega
       have := this ((L s).take k);simp only [List.length_take] at this;omega
     by_cases hc2 : stB s[k] = true
     · have HW := Lib.hid (bd_wbyte s[k] c1.out hl)
       rw [hc2];have e1 : tellB s[k] = [s[k]] := by unfold tellB; rw [if_pos hc2]
       rw [e1] at HT;clear hl hst hc2 e1;go_wp2_with fail;refine HW.out.mono ?_;rintro e w9 ⟨rfl, hb9, ht9⟩;have RS := Lib.hid (And.intro hb9 ht9);clear hb9 ht9
       go_wp2
       go_roundw
       case rel => exact ⟨k + 1, by omega, by go_num, by rw [HT.out]; exact RS.out.1, (RS.out.2.block _ (by have := c1.out.2.1; omega) (by unfold OnB; omega)).trans HR.out, RS.out.2.below' c1.out hB⟩
       case measure => simp [intOf]; omega
     · have e1 : tellB s[k] = [37, hexN (s[k].toNat / 16), hexN (s[k].toNat % 16)] := by unfold tellB; rw [if_neg hc2]
       have hc3 : stB s[k] = false := by simpa using hc2
       rw [e1] at HT;rw [hc3];have hlt8 := s[k].toNat_lt;have x1 : 0 ≤ (s[k].toNat : Int) / 16 ∧ (s[k].toNat : Int) / 16 < 16 := by omega
       have x2 : 0 ≤ (s[k].toNat : Int) % 16 ∧ (s[k].toNat : Int) % 16 < 16 := by omega
       have x3 := and15 s[k].toNat (by omega);rw [show ((s[k].toNat % 16 : Nat) : Int) = (s[k].toNat : Int) % 16 from by omega] at x3;clear hst hc2 e1 hc3;go_wp2_with fail
       go_still_tail 6, (by kernel_rfl)
       have d1 := dig_nat (s[k].toNat / 16) (by omega);have d2 := dig_nat (s[k].toNat % 16) (by omega);have d3 : ((s[k].toNat : Int) / 16).toNat = s[k].toNat / 16 := by omega
       have d4 : ((s[k].toNat : Int) % 16).toNat = s[k].toNat % 16 := by omega
       simp only [d3, d4, d1, d2];clear x3;change wpList _ _ _ _ _ wr.drew;have C3 := Lib.hid (show Bd (w.heap.size + 2) w.heap.size (tellR ((L s).take k)) wr.drew from c1.out);have R3 := Lib.hid (show wr.drew.heap[w.heap.size + 1]? = W.heap[w.heap.size + 1]? from HR.out);have B3 := Lib.hid (show Below w.heap.size w wr.drew from hB.drew)
       generalize hexN (s[k].toNat / 16) = a1 at *
       generalize hexN (s[k].toNat % 16) = a2 at *
       generalize wr.drew = w3 at C3 R3 B3 ⊢
       have hs3 := C3.out.2.1;have hs4 := B3.out.size;clear c1 HR hB;have C4 := Lib.hid (C3.out.alloc (.cells (Lib.byteCells [37, a1, a2]).toArray 5));have R4 := Lib.hid ((heap_alloc_old w3 (.cells (Lib.byteCells [37, a1, a2]).toArray 5) (show w.heap.size + 1 < w3.heap.size by omega)).trans R3.out);have B4 := Lib.hid (B3.out.alloc hs4 (.cells (Lib.byteCells [37, a1, a2]).toArray 5));have HW := Lib.hid (bd_write (r := w3.heap.size) (m := [37, a1, a2]) C4.out hl (by simp) (by simp) (SBox.new w3 _ _) (by omega));go_wp2_with fail;refine HW.out.mono ?_;rintro e w9 ⟨rfl, hb9, ht9⟩;have RS := Lib.hid (And.intro hb9 ht9);clear hb9 ht9
       go_wp2
       go_roundw
       case rel => exact ⟨k + 1, by omega, by go_num, by rw [HT.out]; exact RS.out.1, (RS.out.2.block _ (by have := C4.out.2.1; omega) (by unfold OnB; omega)).trans R4.out, RS.out.2.below' C4.out B4.out⟩
       case measure => simp [intOf]; omega
   · obtain rfl : k = s.size := by omega
     have hT : (L s).take s.size = L s := List.take_of_length_le (by rw [len_L]; omega);rw [hT] at hb;have HS := Lib.hid (bd_string hb);have HB2 := Lib.hid hB;clear hb hr hB hT;go_wp2_with fail;refine HS.out.mono ?_;rintro e w9 ⟨rfl, hb9⟩;have HB3 := Lib.hid (HB2.out.trans hb9);clear hb9
     go_wp2
     go_ret;exact ⟨rfl, HB3.out⟩
theorem telling_any (s : ByteArray) (w : World) (hs : s.size ≤ 100000) : Calls Tryz.prog 123 #[.string s] w fun e w' => e = .returned (.string (B (tellL (L s)))) ∧ Below w.heap.size w w' := by
 rcases Nat.eq_zero_or_pos s.size with h | h
 · have e : s = ⟨#[]⟩ := L_inj (List.eq_nil_of_length_eq_zero (by rw [len_L]; omega))
   subst e;refine (telling_nil w).mono ?_;rintro e w' ⟨rfl, rfl⟩;exact ⟨rfl, Below.refl _ _⟩
 · have e : tellL (L s) = tellR (L s) := by
     unfold tellL;rw [if_neg];intro e;have := len_L s;rw [e] at this
     simp at this
     omega
   rw [e];exact telling_some s w h hs
end Go.Proofs.YtkljcgopikdjjaaGreatDoor.Tx
end
section
namespace Go.Proofs.YtkljcgopikdjjaaGreatDoor
open Go.RowKit Go.Shelf
theorem wp_region_phi3 {P : Program} {ops : Array Oper} {Q : Exit → Act → World → Prop} {id : Nat} {a0 : Act} {w0 : World} (hm : P.follows .mixedOrders = true)
   (d : Nat → Option Tmp) (A : Act → Prop) (G : (Nat → Bool) → World → Prop) (Gr : Nat → World → World → Prop) (Ψ : Nat → (Nat → Value) → World → Prop)
   (hchk : upward ops = true)
   (hst : ∀ i j f w w', i < ops.size → j < ops.size → i ≠ j → waitsT ops j i = false → Ψ j f w → Gr i w w' → Ψ j f w')
   (hdep : ∀ j f g w, j < ops.size → (∀ k, k < ops.size → (k = j ∨ waitsT ops j k = true) → f k = g k) → Ψ j f w → Ψ j g w)
   (hdc : apartD d ops.size = true)
   (hA : ∀ i a v, i < ops.size → A a → A (a.put (d i) v) ∧ ∀ t, d i = some t → t < a.tmps.size)
   (a0A : A a0) (w0G : G (fun _ => false) w0.drew)
   (step : ∀ i a w lst, i < ops.size → A a → lst i = false → (∀ j k, j < ops.size → lst j = true → waitsT ops j k = true → lst k = true) → G lst w → (∀ j, waits ops i j = true → Ψ j (fun k => slotOf a (d k)) w) → wpOp P ops Q i (fun a' w' => ∃ v, a' = a.put (d i) v ∧ G (fun j => if j = i then true else lst j) w' ∧ Gr i w w' ∧ Ψ i (fun k => if k = i then (if (d i).isSome then v else undef) else slotOf a (d k)) w') a w)
   (done : ∀ a w lst, (∀ j, j < ops.size → lst j = true) → A a → G lst w → (∀ j, j < ops.size → Ψ j (fun k => slotOf a (d k)) w) → Q .normal a w) :
   (Code.region id ops true).wp P Q a0 w0 := by
 refine wp_region_any hm ?_;have hw : ∀ i j, waits ops i j = true → j < ops.size := fun i j h => by have := waits_lt hchk h; omega
 have hall := ready_all hchk;have hd := apartD_spec hdc
 have key : ∀ fuel (L : Array Bool) (a : Act) (w : World), L.size = ops.size → (L.toList.filter (!·)).length ≤ fuel → (∀ i j, L.getD i false = true → waits ops i j = true → L.getD j false = true) → A a → G (fun j => L.getD j false) w → (∀ j, j < ops.size → L.getD j false = true → Ψ j (fun k => slotOf a (d k)) w) → wpAny P .any ops Q fuel L a w := by
   intro fuel
   induction fuel with
   | zero =>
     intro L a w hL hc hcl ha hg hp
     have hr : Region.ready .any ops L = [] := by
       rw [List.eq_nil_iff_forall_not_mem];intro i hi;have h1 := (mem_ready.1 hi).1;have := count_set L i h1;omega
     exact ⟨hr, done a w _ (hall L hL hr) ha hg fun j hj => hp j hj (hall L hL hr j hj)⟩
   | succ fuel ih =>
     intro L a w hL hc hcl ha hg hp;refine ⟨fun hr => done a w _ (hall L hL hr) ha hg fun j hj => hp j hj (hall L hL hr j hj), fun i hi => ?_⟩;obtain ⟨h1, o, ho, haft⟩ := mem_ready.1 hi;have hin : i < ops.size := (Array.getElem?_eq_some_iff.1 ho).1;have hiL : i < L.size := by omega
     have hli : L.getD i false = false := by
       simp only [Array.getD, hiL, dif_pos] at h1 ⊢;exact h1
     have hwl : ∀ j, waits ops i j = true → L.getD j false = true := fun j hj => by
       unfold waits at hj;rw [ho] at hj;simp only [Option.map_some, Option.getD_some] at hj;obtain ⟨e, he, he2⟩ := Array.any_eq_true'.1 hj;simp only [Bool.and_eq_true, beq_iff_eq] at he2;rw [← he2.1];exact haft e he he2.2
     have hset : ∀ j, (L.setIfInBounds i true).getD j false = if j = i then true else L.getD j false := fun j => by
       rw [Array.getD_eq_getD_getElem?, Array.getD_eq_getD_getElem?]
       by_cases hji : j = i
       · subst hji
         rw [if_pos rfl, Array.getElem?_setIfInBounds_self_of_lt hiL]; rfl
       · rw [if_neg hji, Array.getElem?_setIfInBounds_ne (Ne.symm hji)]
     refine wpOp_mono ?_ (step i a w _ hin ha hli (fun j k hj h1 h2 => waitsT_closed (fun j => L.getD j false) hcl j hj k h2 h1) hg fun j hj => hp j (hw i j hj) (hwl j hj));rintro a' w' ⟨v, rfl, g', gr, ps⟩;obtain ⟨hA1, hA2⟩ := hA i a v hin ha;refine ih _ _ _ (by simpa using hL) (by have := count_set L i h1; omega) ?_ hA1 (by simpa only [hset] using g') fun j hj hjl => ?_
     · intro k j hk hkj
       rw [hset] at hk ⊢
       by_cases hki : k = i
       · subst hki
         rw [hwl j hkj]
         split <;> rfl
       · rw [if_neg hki] at hk
         rw [hcl k j hk hkj]
         split <;> rfl
     have oth : ∀ k, k < ops.size → k ≠ i → slotOf (a.put (d i) v) (d k) = slotOf a (d k) := fun k hk hki => by
       cases hdk : d k with
       | none => rfl
       | some t =>
         cases hdi : d i with
         | none => rfl
         | some u =>
           have hne : u ≠ t := fun q => hd i k hin hk (Ne.symm hki) u hdi (by rw [hdk, q]);simp only [slotOf, Act.put];rw [Array.getD_eq_getD_getElem?, Array.getD_eq_getD_getElem?, Array.getElem?_setIfInBounds_ne hne]
     by_cases hji : j = i
     · subst hji
       refine hdep j _ _ _ hj (fun k hk _ => ?_) ps
       by_cases hkj : k = j
       · subst hkj
         rw [if_pos rfl];cases hdi : d k with
         | none => rfl
         | some t =>
           have hlt := hA2 t hdi;have e : slotOf (a.put (some t) v) (some t) = v := by simp [slotOf, Act.put, Array.getD, hlt]
           rw [e]; rfl
       · rw [if_neg hkj, oth k hk hkj]
     · rw [hset, if_neg hji] at hjl
       have hnw : waitsT ops j i = false := by
         cases hq : waitsT ops j i with
         | false => rfl
         | true =>
           have := waitsT_closed (fun j => L.getD j false) hcl j hj i hq hjl;rw [hli] at this;cases this
       have h2 := hst i j _ _ _ hin hj (Ne.symm hji) hnw (hp j hj hjl) gr;refine hdep j _ _ _ hj (fun k hk hkd => ?_) h2;refine (oth k hk fun e => ?_).symm;subst e
       rcases hkd with rfl | h
       · exact hji rfl
       · rw [hnw] at h; cases h
 have h0 : ∀ j, (Array.replicate ops.size false).getD j false = false := fun j => by
   rw [Array.getD_eq_getD_getElem?, Array.getElem?_replicate]
   split <;> rfl
 refine key ops.size _ a0 _ (by simp) (by simp) (fun i j h => by rw [h0] at h; cases h) a0A (by simp only [h0]; exact w0G) fun j hj hjl => ?_;rw [h0] at hjl;cases hjl
end Go.Proofs.YtkljcgopikdjjaaGreatDoor
end
section
namespace Go.Proofs.YtkljcgopikdjjaaGreatDoor.Tx
set_option maxRecDepth 100000
set_option maxHeartbeats 1000000
open Go.RowKit Go.Shelf Go.Maps Oct
theorem wpList_append_strZ {w : World} {ops : Array Oper} {rest : List Oper} {o : Oper} {a : Act} {Q : Exit → Act → World → Prop} (hgd : o.guard = none) (sl x : Operand) (t u : TypeId)
   (ho : o.op = .call { callee := .builtin .append, args := #[sl, x], argTypes := #[t, u] })
   (base : Nat) (e : TypeId) (i : TypeInfo) (ht : Tryz.prog.underlying t = some (.slice e)) (hu : Tryz.prog.underlying u = some .string) (hi : Tryz.prog.info? e = some i) (hz : i.zero = some (.int .u8 0))
   (hsize : i.size = 1) (hby : i.bytes = 1)
   (v : Value) (n : Nat) (xs : List Value) (hs : a.eval sl = v) (hown : w.ownsRow base e 1 v n xs) (s : ByteArray) (hx : a.eval x = .string s) (hpos : 0 < s.size)
   (h63 : n + s.size ≤ maxLen) (hbytes : n + s.size ≤ 140737488355328) (hbase : base ≤ w.heap.size)
   (h : ∀ g cap w', w'.ownsRow base e 1 (.slice (some ⟨g, 0, none⟩) (n + s.size) cap) (n + s.size) (xs ++ Lib.strCells s) → w.grownBy w' v.ownBlock → wpList Tryz.prog ops Q rest (a.put o.dst (.slice (some ⟨g, 0, none⟩) (n + s.size) cap)) w') : wpList Tryz.prog ops Q (o :: rest) a w := by
 refine Lib.wpList_append_own_string (P := Tryz.prog) w hgd sl x t u ho base e i ht hu hi hz hsize hby v n xs hs hown s hx h63 hbytes hbase ?_;intro v' w' h1 h2 h3
 rcases h1.2 with ⟨rfl, e0⟩ | ⟨g, cap, cur, rfl, r⟩
 · exact absurd (h3.1 rfl).2 (by omega)
 · exact h g cap w' h1 h2
theorem bd_wstr {z b : Nat} {l m : List UInt8} {w : World} (h : Bd z b l w) (hl : l.length ≤ 100000000) (hm : 0 < m.length) (hm2 : m.length ≤ 100000000) :
   Calls Tryz.prog 28 #[ptr b, .string (B m)] w fun e w' => e = .returned (.tuple #[.int .i64 m.length, .nilIface]) ∧ Bd z b (l ++ m) w' ∧ Tch (OnB z b) w w' := by
 obtain ⟨i0, hi, hz0, hz1, hz2⟩ := info_u8;have hbz := h.1;have hzz := h.2.1;have C := Lib.hid (bd_check h);have hmB : (B m).size = m.length := size_B m;clear h;unfold ptr
 go_enter Tryz.func28, Tryz.ntmps28
 go_wp2_with fail;refine C.out.mono ?_;rintro e w1 ⟨rfl, ⟨v, h1, hown⟩, t1⟩;have hs1 := t1.size;have hS := Lib.hid h1;have H0 := h1.cell 0;have H1 := h1.cell 1;simp only [List.getElem?_toArray, List.getElem?_cons_zero, List.getElem?_cons_succ] at H0 H1;have Hl := h1.lt;unfold ptr at H0;clear h1
 go_wp2_with (at_builtin; refine wpList_append_strZ rfl _ _ 56 9 rfl z 5 i0 Tryz.underlying56 Tryz.underlying9 hi hz0 hz1 hz2 _ l.length (Lib.byteCells l) rfl hown (B m) rfl (by omega) (by unfold maxLen; omega) (by omega) (by omega) ?_; intro g9 cap9 w9 hown9 hgrow9; rw [hmB] at hown9; obtain ⟨q1, q2, q3⟩ := bd_put (m := m) hbz (by omega) hS.out hown (Below.refl w1.heap.size w1) hgrow9 hown9; have HR := Lib.hid (And.intro q2 (t1.trans q3)); have K0 := q1.cell 0; have K1 := q1.cell 1; have F1 := q1.free 1; simp only [List.getElem?_toArray, List.getElem?_cons_zero, List.getElem?_cons_succ] at K0 K1; unfold ptr at K0; clear q1 q2 q3)
 go_wp2
 go_ret2;exact ⟨rfl, HR.out⟩
theorem bd_len {z b : Nat} {l : List UInt8} {w : World} (h : Bd z b l w) : Calls Tryz.prog 30 #[ptr b] w fun e w' => e = .returned (.int .i64 l.length) ∧ w = w' := by
 obtain ⟨hb, hz, p, v, h1, hp, h2⟩ := h;have H0 := h1.cell 0;have H1 := h1.cell 1;simp only [List.getElem?_toArray, List.getElem?_cons_zero, List.getElem?_cons_succ] at H0 H1;have Hl := h1.lt;clear h1;unfold ptr;have hn : (Lib.byteCells l).length = l.length := Lib.byteCells_length l
 rcases h2.2 with ⟨rfl, e0⟩ | ⟨g, cap, cur, rfl, r⟩
 · have h0 : l.length = 0 := e0
   rw [h0]
   go_enter Tryz.func30, Tryz.ntmps30
   go_wp2
   go_ret;exact ⟨rfl, rfl⟩
 · go_enter Tryz.func30, Tryz.ntmps30
   go_wp2
   go_ret;exact ⟨rfl, rfl⟩
end Go.Proofs.YtkljcgopikdjjaaGreatDoor.Tx
end
