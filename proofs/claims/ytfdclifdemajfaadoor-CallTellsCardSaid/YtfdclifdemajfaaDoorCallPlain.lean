/- Layer 20, plain: what was put is got, what is got is put. No program in sight. -/
import Derived.Test.YtfdclifdemajfaaDoorCallCheck3
namespace Go.Proofs.YtfdclifdemajfaaDoor.Call
set_option linter.unusedVariables false
open Go.RowKit Oct Path
def C.putTo (x : C) (h : Int) : Nat → List UInt8
  | 0 => [UInt8.ofNat x.d]
  | k + 1 => if hasB h (bitOf k) then x.putTo h k ++ x.put k else x.putTo h k
def getTo (x : C) (h : Int) (l : List UInt8) : Nat → Option (C × List UInt8)
  | 0 => some (x, l)
  | k + 1 => match getTo x h l k with
    | none => none
    | some (y, r) => if hasB h (bitOf k) then y.get k r else some (y, r)
/-- The fields below k that a call has; the others are zero. -/
def C.keep (x : C) (h : Int) (k : Nat) : C :=
  ⟨x.d, if 0 < k ∧ hasB h 1 = true then x.p else ⟨#[]⟩, if 1 < k ∧ hasB h 2 = true then x.p2 else ⟨#[]⟩, if 2 < k ∧ hasB h 4 = true then x.fd else 0, if 3 < k ∧ hasB h 8 = true then x.pg else 0, if 4 < k ∧ hasB h 16 = true then x.sz else 0, if 5 < k ∧ hasB h 32 = true then x.da else ⟨#[]⟩⟩
theorem bare_six (x : C) (h : Int) : x.bareTo h 6 = ⟨x.d, if hasB h 1 = true then ⟨#[]⟩ else x.p, if hasB h 2 = true then ⟨#[]⟩ else x.p2, if hasB h 4 = true then 0 else x.fd, if hasB h 8 = true then 0 else x.pg, if hasB h 16 = true then 0 else x.sz, if hasB h 32 = true then ⟨#[]⟩ else x.da⟩ := by
  obtain ⟨d, p, p2, fd, pg, sz, da⟩ := x
  simp only [C.bareTo, bitOf]
  cases hasB h 1 <;> cases hasB h 2 <;> cases hasB h 4 <;> cases hasB h 8 <;> cases hasB h 16 <;> cases hasB h 32 <;> rfl
theorem bare_keep (x : C) (h : Int) : x.bareTo h 6 = C.zero x.d ↔ x.keep h 6 = x := by
  rw [bare_six]
  obtain ⟨d, p, p2, fd, pg, sz, da⟩ := x
  simp only [C.zero, C.keep, C.mk.injEq, true_and]
  cases hasB h 1 <;> cases hasB h 2 <;> cases hasB h 4 <;> cases hasB h 8 <;> cases hasB h 16 <;> cases hasB h 32 <;> simp [eq_comm]
theorem take_text (l r : List UInt8) (h : l.length ≤ 255) : takeL (textL l ++ r) = some (l, r) := by
  have e : (UInt8.ofNat l.length).toNat = l.length := by simp [UInt8.toNat_ofNat']; omega
  simp only [textL, List.cons_append, takeL, e]
  rw [if_neg (by simp)]
  simp
theorem text_take {l a r : List UInt8} (h : takeL l = some (a, r)) : l = textL a ++ r ∧ a.length ≤ 255 := by
  cases l with
  | nil => simp [takeL] at h
  | cons c t =>
    simp only [takeL] at h
    split at h
    · simp at h
    · rename_i hc
      simp only [Option.some.injEq, Prod.mk.injEq] at h
      obtain ⟨rfl, rfl⟩ := h
      have hl : (t.take c.toNat).length = c.toNat := by rw [List.length_take]; omega
      have := c.toNat_lt
      refine ⟨?_, by omega⟩
      simp only [textL, hl, List.cons_append, List.take_append_drop]
      simp
/-- A call whose fields have bytes. -/
structure C.Fits (x : C) : Prop where
  p : x.p.size ≤ 255
  p2 : x.p2.size ≤ 255
  fd0 : 0 ≤ x.fd
  fd : x.fd ≤ 255
  pg0 : 0 ≤ x.pg
  pg : x.pg ≤ 255
  sz : x.sz < 4294967296
  da : x.da.size ≤ 255
/-- The bytes of the fields below k. -/
def C.putR (x : C) (h : Int) : Nat → List UInt8
  | 0 => []
  | k + 1 => if hasB h (bitOf k) then x.putR h k ++ x.put k else x.putR h k
theorem putTo_R (x : C) (h : Int) : ∀ k, x.putTo h k = UInt8.ofNat x.d :: x.putR h k
  | 0 => rfl
  | k + 1 => by
    simp only [C.putTo, C.putR, putTo_R x h k]
    split <;> simp
theorem byte_back (n : Int) (h0 : 0 ≤ n) (h : n ≤ 255) : ((UInt8.ofNat n.toNat).toNat : Int) = n := by
  rw [UInt8.toNat_ofNat']
  have : n.toNat % 2 ^ 8 = n.toNat := Nat.mod_eq_of_lt (by omega)
  rw [this]
  omega
theorem keep_get (x : C) (h : Int) (m : List UInt8) (f : x.Fits) (k : Nat) (hk : k < 6) (hb : hasB h (bitOf k) = true) : (x.keep h k).get k (x.put k ++ m) = some (x.keep h (k + 1), m) := by
  obtain ⟨f1, f2, f3, f4, f5, f6, f7, f8⟩ := f
  obtain ⟨d, p, p2, fd, pg, sz, da⟩ := x
  simp only at f1 f2 f3 f4 f5 f6 f7 f8
  obtain rfl | rfl | rfl | rfl | rfl | rfl : k = 0 ∨ k = 1 ∨ k = 2 ∨ k = 3 ∨ k = 4 ∨ k = 5 := by omega
  all_goals simp only [bitOf] at hb
  · have e := take_text (L p) m (by rw [len_L]; exact f1)
    simp [C.keep, C.get, C.put, e, hb, B_L]
  · have e := take_text (L p2) m (by rw [len_L]; exact f2)
    simp [C.keep, C.get, C.put, e, hb, B_L]
  · have e := byte_back fd f3 f4
    simp only [C.keep, C.get, C.put, List.cons_append, List.nil_append, e, hb]
    simp
  · have e := byte_back pg f5 f6
    simp only [C.keep, C.get, C.put, List.cons_append, List.nil_append, e, hb]
    simp
  · have e1 : (numL sz 4 ++ m).take 4 = numL sz 4 := by rw [List.take_append_of_le_length (by rw [len_numL]; omega), List.take_of_length_le (by rw [len_numL]; omega)]
    have e2 : (numL sz 4 ++ m).drop 4 = m := by rw [List.drop_append_of_le_length (by rw [len_numL]; omega), List.drop_of_length_le (by rw [len_numL]; omega)]; rfl
    have e3 : valL (numL sz 4) = sz := by rw [valL_numL]; exact Nat.mod_eq_of_lt f7
    simp only [C.keep, C.get, C.put, e1, e2, e3, hb]
    rw [if_neg (by rw [List.length_append, len_numL]; omega)]
    simp
  · have e := take_text (L da) m (by rw [len_L]; exact f8)
    simp [C.keep, C.get, C.put, e, hb, B_L]
theorem keep_no (x : C) (h : Int) (k : Nat) (hk : k < 6) (hb : hasB h (bitOf k) = false) : x.keep h (k + 1) = x.keep h k := by
  obtain rfl | rfl | rfl | rfl | rfl | rfl : k = 0 ∨ k = 1 ∨ k = 2 ∨ k = 3 ∨ k = 4 ∨ k = 5 := by omega
  all_goals
    simp only [bitOf] at hb
    simp [C.keep, hb]
theorem getTo_put (x : C) (h : Int) (f : x.Fits) : ∀ k, k ≤ 6 → ∀ m, getTo (C.zero x.d) h (x.putR h k ++ m) k = some (x.keep h k, m)
  | 0, _, m => by simp [getTo, C.putR, C.keep, C.zero]
  | k + 1, hk, m => by
    cases hb : hasB h (bitOf k) with
    | true =>
      simp only [C.putR, hb, if_true, getTo, List.append_assoc, getTo_put x h f k (by omega)]
      exact keep_get x h m f k (by omega) hb
    | false =>
      have ih := getTo_put x h f k (by omega) m
      simp [C.putR, hb, getTo, ih, keep_no x h k (by omega) hb]
theorem get_back {y z : C} {l r : List UInt8} {k : Nat} (hk : k < 6) (h : y.get k l = some (z, r)) : l = z.put k ++ r ∧ z.d = y.d ∧ ∀ j, j < k → z.put j = y.put j := by
  obtain ⟨d, p, p2, fd, pg, sz, da⟩ := y
  obtain rfl | rfl | rfl | rfl | rfl | rfl : k = 0 ∨ k = 1 ∨ k = 2 ∨ k = 3 ∨ k = 4 ∨ k = 5 := by omega
  · simp only [C.get] at h
    cases ht : takeL l with
    | none => rw [ht] at h; simp at h
    | some t =>
      obtain ⟨a, b⟩ := t
      rw [ht] at h
      simp only [Option.map_some, Option.some.injEq, Prod.mk.injEq] at h
      obtain ⟨rfl, rfl⟩ := h
      exact ⟨by simp only [C.put, L_B]; exact (text_take ht).1, rfl, fun j hj => absurd hj (Nat.not_lt_zero j)⟩
  · simp only [C.get] at h
    cases ht : takeL l with
    | none => rw [ht] at h; simp at h
    | some t =>
      obtain ⟨a, b⟩ := t
      rw [ht] at h
      simp only [Option.map_some, Option.some.injEq, Prod.mk.injEq] at h
      obtain ⟨rfl, rfl⟩ := h
      exact ⟨by simp only [C.put, L_B]; exact (text_take ht).1, rfl, fun j hj => by
        obtain rfl : j = 0 := Nat.lt_one_iff.1 hj
        rfl⟩
  · cases l with
    | nil => simp [C.get] at h
    | cons c t =>
      simp only [C.get, Option.some.injEq, Prod.mk.injEq] at h
      obtain ⟨rfl, rfl⟩ := h
      exact ⟨by simp [C.put], rfl, fun j hj => by
        obtain rfl | rfl : j = 0 ∨ j = 1 := by omega
        all_goals rfl⟩
  · cases l with
    | nil => simp [C.get] at h
    | cons c t =>
      simp only [C.get, Option.some.injEq, Prod.mk.injEq] at h
      obtain ⟨rfl, rfl⟩ := h
      exact ⟨by simp [C.put], rfl, fun j hj => by
        obtain rfl | rfl | rfl : j = 0 ∨ j = 1 ∨ j = 2 := by omega
        all_goals rfl⟩
  · simp only [C.get] at h
    split at h
    · simp at h
    · rename_i hl
      simp only [Option.some.injEq, Prod.mk.injEq] at h
      obtain ⟨rfl, rfl⟩ := h
      have e4 : (l.take 4).length = 4 := by rw [List.length_take]; omega
      have e := numL_valL (l.take 4)
      rw [e4] at e
      exact ⟨by simp only [C.put]; rw [e]; exact (List.take_append_drop 4 l).symm, rfl, fun j hj => by
        obtain rfl | rfl | rfl | rfl : j = 0 ∨ j = 1 ∨ j = 2 ∨ j = 3 := by omega
        all_goals rfl⟩
  · simp only [C.get] at h
    cases ht : takeL l with
    | none => rw [ht] at h; simp at h
    | some t =>
      obtain ⟨a, b⟩ := t
      rw [ht] at h
      simp only [Option.map_some, Option.some.injEq, Prod.mk.injEq] at h
      obtain ⟨rfl, rfl⟩ := h
      exact ⟨by simp only [C.put, L_B]; exact (text_take ht).1, rfl, fun j hj => by
        obtain rfl | rfl | rfl | rfl | rfl : j = 0 ∨ j = 1 ∨ j = 2 ∨ j = 3 ∨ j = 4 := by omega
        all_goals rfl⟩
theorem putR_same {y z : C} (h : Int) : ∀ k, (∀ j, j < k → z.put j = y.put j) → z.putR h k = y.putR h k
  | 0, _ => rfl
  | k + 1, hj => by
    simp only [C.putR]
    rw [putR_same h k (fun j hl => hj j (by omega)), hj k (by omega)]
theorem getTo_back {x : C} {h : Int} {l : List UInt8} : ∀ k, k ≤ 6 → ∀ {y r}, getTo x h l k = some (y, r) → l = y.putR h k ++ r ∧ y.d = x.d
  | 0, _, y, r, hg => by
    simp only [getTo, Option.some.injEq, Prod.mk.injEq] at hg
    obtain ⟨rfl, rfl⟩ := hg
    exact ⟨rfl, rfl⟩
  | k + 1, hk, y, r, hg => by
    simp only [getTo] at hg
    cases ht : getTo x h l k with
    | none => rw [ht] at hg; simp at hg
    | some t =>
      obtain ⟨z, m⟩ := t
      rw [ht] at hg
      simp only at hg
      obtain ⟨e1, e2⟩ := getTo_back k (by omega) ht
      cases hb : hasB h (bitOf k) with
      | true =>
        rw [hb, if_pos rfl] at hg
        obtain ⟨g1, g2, g3⟩ := get_back (by omega) hg
        refine ⟨?_, g2.trans e2⟩
        simp only [C.putR, hb, if_true]
        rw [putR_same h k g3, List.append_assoc, ← g1]
        exact e1
      | false =>
        rw [hb, if_neg (by simp)] at hg
        simp only [Option.some.injEq, Prod.mk.injEq] at hg
        obtain ⟨rfl, rfl⟩ := hg
        refine ⟨?_, e2⟩
        simp only [C.putR, hb]
        exact e1
/-- What Check's yes means. -/
theorem check_yes {x : C} (h : x.checkE = 0) : 1 ≤ x.d ∧ x.d ≤ 15 ∧ x.keep (hasN x.d) 6 = x ∧ x.e1 = 0 ∧ x.e2 = 0 ∧ x.bad = false := by
  unfold C.checkE at h
  split at h
  · exact absurd h (by decide)
  split at h
  · exact absurd h (by decide)
  split at h
  · exact absurd h (by decide)
  rename_i h1 h2 h3
  unfold C.restE at h
  split at h
  · rename_i h4; exact absurd h h4
  split at h
  · rename_i h4; exact absurd h h4
  split at h
  · exact absurd h (by decide)
  rename_i h4 h5 h6
  exact ⟨by omega, by omega, (bare_keep x _).1 (Decidable.not_not.1 h3), Decidable.not_not.1 h4, Decidable.not_not.1 h5, by simpa using h6⟩
theorem check_fits {x : C} (h : x.checkE = 0) : x.Fits := by
  obtain ⟨h1, h2, h3, h4, h5, h6⟩ := check_yes h
  simp only [C.bad, Bool.or_eq_false_iff, decide_eq_false_iff_not] at h6
  obtain ⟨⟨⟨⟨⟨⟨⟨_, a1⟩, a2⟩, a3⟩, a4⟩, _⟩, a5⟩, a6⟩ := h6
  refine ⟨?_, ?_, by omega, by omega, by omega, by omega, by omega, by omega⟩
  · unfold C.e1 at h4
    cases hb : hasB (hasN x.d) 1 with
    | true => rw [hb, if_pos rfl] at h4; exact (splitE_ok h4).1
    | false =>
      have := congrArg C.p h3
      simp only [C.keep, hb] at this
      rw [← this, if_neg (by simp)]
      decide
  · unfold C.e2 at h5
    cases hb : hasB (hasN x.d) 2 with
    | true => rw [hb, if_pos rfl] at h5; exact (splitE_ok h5).1
    | false =>
      have := congrArg C.p2 h3
      simp only [C.keep, hb] at this
      rw [← this, if_neg (by simp)]
      decide
def C.bytes (x : C) : List UInt8 := x.putTo (hasN x.d) 6
/-- Get: a call, and what is left. -/
def getL : List UInt8 → Option (C × List UInt8)
  | [] => none
  | c :: r => match getTo (C.zero c.toNat) (hasN c.toNat) r 6 with
    | none => none
    | some (y, m) => if y.checkE = 0 then some (y, m) else none
theorem get_put {x : C} (h : x.checkE = 0) (m : List UInt8) : getL (x.bytes ++ m) = some (x, m) := by
  obtain ⟨h1, h2, h3, _⟩ := check_yes h
  have ed : (UInt8.ofNat x.d).toNat = x.d := by rw [UInt8.toNat_ofNat']; exact Nat.mod_eq_of_lt (by omega)
  unfold C.bytes
  rw [putTo_R, List.cons_append]
  simp only [getL, ed]
  rw [getTo_put x _ (check_fits h) 6 (by omega), h3]
  simp [h]
theorem put_get {l r : List UInt8} {y : C} (h : getL l = some (y, r)) : y.checkE = 0 ∧ l = y.bytes ++ r := by
  cases l with
  | nil => simp [getL] at h
  | cons c t =>
    simp only [getL] at h
    cases hg : getTo (C.zero c.toNat) (hasN c.toNat) t 6 with
    | none => rw [hg] at h; simp at h
    | some q =>
      obtain ⟨z, m⟩ := q
      rw [hg] at h
      simp only at h
      split at h
      · rename_i hc
        simp only [Option.some.injEq, Prod.mk.injEq] at h
        obtain ⟨h1, h2⟩ := h
        subst h1 h2
        obtain ⟨e1, e2⟩ := getTo_back 6 (by omega) hg
        have e3 : z.d = c.toNat := e2
        refine ⟨hc, ?_⟩
        unfold C.bytes
        rw [putTo_R, e3, List.cons_append, ← e1]
        simp
      · simp at h
theorem bytes_ne (x : C) : 0 < x.bytes.length := by unfold C.bytes; rw [putTo_R]; simp
/-- No call's bytes are the beginning of another one's. -/
theorem apart {x y : C} (hx : x.checkE = 0) (hy : y.checkE = 0) : x.bytes.take (min x.bytes.length y.bytes.length) = y.bytes.take (min x.bytes.length y.bytes.length) ↔ x = y := by
  constructor
  · intro h
    rcases Nat.le_total x.bytes.length y.bytes.length with hl | hl
    · rw [Nat.min_eq_left hl, List.take_of_length_le (Nat.le_refl _)] at h
      have g := get_put hy []
      rw [List.append_nil, ← List.take_append_drop x.bytes.length y.bytes, ← h, get_put hx] at g
      simp only [Option.some.injEq, Prod.mk.injEq] at g
      exact g.1
    · rw [Nat.min_eq_right hl, List.take_of_length_le (Nat.le_refl y.bytes.length)] at h
      have g := get_put hx []
      rw [List.append_nil, ← List.take_append_drop y.bytes.length x.bytes, h, get_put hy] at g
      simp only [Option.some.injEq, Prod.mk.injEq] at g
      exact g.1.symm
  · rintro rfl; rfl
theorem cut_none {x : C} (hx : x.checkE = 0) {m : Nat} (hm : m < x.bytes.length) : getL (x.bytes.take m) = none := by
  cases hg : getL (x.bytes.take m) with
  | none => rfl
  | some q =>
    obtain ⟨y, r⟩ := q
    obtain ⟨e1, e2⟩ := put_get hg
    have g := get_put hx []
    rw [List.append_nil, ← List.take_append_drop m x.bytes, e2, List.append_assoc, get_put e1] at g
    simp only [Option.some.injEq, Prod.mk.injEq, List.append_eq_nil_iff, List.drop_eq_nil_iff] at g
    omega
end Go.Proofs.YtfdclifdemajfaaDoor.Call
