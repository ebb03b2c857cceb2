/- Layer 20, the document's answer: the cutter, told by what is left. -/
import Derived.Test.YtfdclifdemajfaaDoorCallRefN
namespace Go.Proofs.YtfdclifdemajfaaDoor.Call
set_option linter.unusedVariables false
set_option linter.unusedSimpArgs false
open Go.RowKit Oct Path

/-- The cutter has so much left, or something was not there. -/
def CutO (w : World) (b : Nat) (o : Option (List UInt8)) : Prop := ∃ s is, Cut w b s is ∧ s.size ≤ 8192 ∧ (match o with | none => is = false | some l => is = true ∧ s = B l)
theorem CutO.lt {w : World} {b : Nat} {o : Option (List UInt8)} (h : CutO w b o) : b < w.heap.size := by obtain ⟨s, is, hc, _⟩ := h; exact hc.lt
theorem CutO.same {w w' : World} {b : Nat} {o : Option (List UInt8)} (h : CutO w b o) (e : w'.heap[b]? = w.heap[b]?) : CutO w' b o := by
  obtain ⟨s, is, hc, r⟩ := h
  exact ⟨s, is, e.trans hc, r⟩
def n1V : Option (List UInt8) → Nat | some (c :: _) => c.toNat | _ => 0
def n1O : Option (List UInt8) → Option (List UInt8) | some (_ :: r) => some r | _ => none
def n4V (o : Option (List UInt8)) : Nat := match o with | some l => if 4 ≤ l.length then valL (l.take 4) else 0 | none => 0
def n4O (o : Option (List UInt8)) : Option (List UInt8) := match o with | some l => if 4 ≤ l.length then some (l.drop 4) else none | none => none
def txV (o : Option (List UInt8)) : ByteArray := match o with | some l => (match takeL l with | some (a, _) => B a | none => ⟨#[]⟩) | none => ⟨#[]⟩
def txO (o : Option (List UInt8)) : Option (List UInt8) := match o with | some l => (match takeL l with | some (_, r) => some r | none => none) | none => none
theorem n1V_lt (o : Option (List UInt8)) : n1V o < 256 := by unfold n1V; split; exact UInt8.toNat_lt _; decide
theorem n4V_lt (o : Option (List UInt8)) : n4V o < 4294967296 := by
  unfold n4V
  split
  · split
    · rename_i l h
      have := valL_lt (l.take 4)
      rw [List.length_take, Nat.min_eq_left h] at this
      exact this
    · decide
  · decide
theorem num1_any (b : Nat) (o : Option (List UInt8)) (w : World) (h : CutO w b o) : Calls Tryd.prog 26 #[.pointer (some ⟨b, 0, none⟩), .int .i64 1] w fun e w' => e = .returned (.int .u32 (n1V o)) ∧ CutO w' b (n1O o) ∧ Only b w w' := by
  obtain ⟨s, is, hc, hs, ho⟩ := h
  match o, ho with
  | none, ho =>
    subst ho
    refine (num_off b 1 s w hc).mono ?_
    rintro e w' ⟨rfl, rfl⟩
    exact ⟨rfl, ⟨s, false, hc.set1 _, hs, rfl⟩, Only.set _ _ _ _⟩
  | some [], ⟨h1, h2⟩ =>
    subst h1 h2
    refine (num_short b 1 (B []) w hc hs (by decide) (by decide)).mono ?_
    rintro e w' ⟨rfl, rfl⟩
    exact ⟨rfl, ⟨_, false, hc.set1 _, hs, rfl⟩, Only.set _ _ _ _⟩
  | some (c :: r), ⟨h1, h2⟩ =>
    subst h1 h2
    refine (num_ok b 1 (B (c :: r)) w hc hs (by decide) (by rw [size_B]; simp)).mono ?_
    rintro e w' ⟨rfl, rfl⟩
    refine ⟨?_, ⟨_, true, hc.set0 _, ?_, rfl, ?_⟩, Only.set _ _ _ _⟩
    · rw [L_B]; simp [valL, n1V]
    · rw [size_B] at *; rw [L_B]; simp at *; omega
    · rw [L_B]; rfl
theorem num4_any (b : Nat) (o : Option (List UInt8)) (w : World) (h : CutO w b o) : Calls Tryd.prog 26 #[.pointer (some ⟨b, 0, none⟩), .int .i64 4] w fun e w' => e = .returned (.int .u32 (n4V o)) ∧ CutO w' b (n4O o) ∧ Only b w w' := by
  obtain ⟨s, is, hc, hs, ho⟩ := h
  match o, ho with
  | none, ho =>
    subst ho
    refine (num_off b 4 s w hc).mono ?_
    rintro e w' ⟨rfl, rfl⟩
    exact ⟨rfl, ⟨s, false, hc.set1 _, hs, rfl⟩, Only.set _ _ _ _⟩
  | some l, ⟨h1, h2⟩ =>
    subst h1 h2
    by_cases hl : 4 ≤ l.length
    · refine (num_ok b 4 (B l) w hc hs (by decide) hl).mono ?_
      rintro e w' ⟨rfl, rfl⟩
      refine ⟨?_, ⟨_, true, hc.set0 _, ?_, ?_⟩, Only.set _ _ _ _⟩
      · rw [L_B]; simp [n4V, hl]
      · rw [size_B] at *; rw [L_B, List.length_drop]; omega
      · simp [n4O, hl, L_B]
    · refine (num_short b 4 (B l) w hc hs (by decide) (by rw [size_B]; omega)).mono ?_
      rintro e w' ⟨rfl, rfl⟩
      refine ⟨?_, ⟨_, false, hc.set1 _, hs, ?_⟩, Only.set _ _ _ _⟩
      · simp [n4V, hl]
      · simp [n4O, hl]

set_option maxRecDepth 100000 in
set_option maxHeartbeats 1000000 in
theorem txt_off (b : Nat) (s : ByteArray) (is : Bool) (w : World) (hc : Cut w b s is) (hn : ∃ o, CutO w b o ∧ (o = none ∨ o = some [])) : Calls Tryd.prog 27 #[.pointer (some ⟨b, 0, none⟩)] w fun e w' => e = .returned (.string ⟨#[]⟩) ∧ CutO w' b none ∧ Only b w w' := by
  obtain ⟨o, ho, hon⟩ := hn
  have e0 : n1V o = 0 := by rcases hon with rfl | rfl <;> rfl
  have e1 : n1O o = none := by rcases hon with rfl | rfl <;> rfl
  have NM := Lib.hid (num1_any b o w ho)
  rw [e0, e1] at NM
  clear e0 e1 hc hon ho
  go_enter Tryd.func27, Tryd.ntmps27
  go_wp2_with fail
  refine NM.out.mono ?_
  rintro e w1 ⟨rfl, ⟨s1, is1, hc1, hs1, hi⟩, on1⟩
  simp only at hi
  subst hi
  have c1 := hc1.c1
  have c0 := hc1.c0
  have f1 := hc1.free 1
  have HC := Lib.hid hc1
  clear hc1 NM
  go_wp2
  go_ret
  exact ⟨rfl, ⟨s1, false, HC.out.set1 _, hs1, rfl⟩, on1.trans (Only.set _ _ _ _)⟩
set_option maxRecDepth 100000 in
set_option maxHeartbeats 1000000 in
theorem txt_short (b : Nat) (c : UInt8) (r : List UInt8) (w : World) (ho : CutO w b (some (c :: r))) (hl : r.length < c.toNat) : Calls Tryd.prog 27 #[.pointer (some ⟨b, 0, none⟩)] w fun e w' => e = .returned (.string ⟨#[]⟩) ∧ CutO w' b none ∧ Only b w w' := by
  have NM := Lib.hid (num1_any b _ w ho)
  rw [show n1V (some (c :: r)) = c.toNat from rfl, show n1O (some (c :: r)) = some r from rfl] at NM
  have hc8 := c.toNat_lt
  generalize c.toNat = n at *
  have t1 : decide ((r.length : Int) < (n : Int)) = true := by simp; omega
  have t2 : decide (r.length < n) = true := by simp; omega
  have t3 : decide (((B r).size : Int) < (n : Int)) = true := t1
  have t4 : decide ((B r).size < n) = true := t2
  clear ho
  go_enter Tryd.func27, Tryd.ntmps27
  go_wp2_with fail
  refine NM.out.mono ?_
  rintro e w1 ⟨rfl, ⟨s1, is1, hc1, hs1, hi1, hi2⟩, on1⟩
  subst hi1 hi2
  have c1 := hc1.c1
  have c0 := hc1.c0
  have f1 := hc1.free 1
  have HC := Lib.hid hc1
  have hz := hs1
  clear hc1 NM
  go_wp2
  go_ret
  exact ⟨rfl, ⟨_, false, HC.out.set1 _, hs1, rfl⟩, on1.trans (Only.set _ _ _ _)⟩
set_option maxRecDepth 100000 in
set_option maxHeartbeats 1000000 in
theorem txt_ok (b : Nat) (c : UInt8) (r : List UInt8) (w : World) (ho : CutO w b (some (c :: r))) (hl : c.toNat ≤ r.length) : Calls Tryd.prog 27 #[.pointer (some ⟨b, 0, none⟩)] w fun e w' => e = .returned (.string (B (r.take c.toNat))) ∧ CutO w' b (some (r.drop c.toNat)) ∧ Only b w w' := by
  have NM := Lib.hid (num1_any b _ w ho)
  rw [show n1V (some (c :: r)) = c.toNat from rfl, show n1O (some (c :: r)) = some r from rfl] at NM
  have hc8 := c.toNat_lt
  generalize c.toNat = n at *
  have t1 : decide ((r.length : Int) < (n : Int)) = false := by simp; omega
  have t2 : decide (r.length < n) = false := by simp; omega
  have t3 : decide (((B r).size : Int) < (n : Int)) = false := t1
  have t4 : decide ((B r).size < n) = false := t2
  have q1 : (n : Int) ≤ ((B r).size : Int) := by rw [size_B]; omega
  have q2 : n ≤ (B r).size := hl
  have q3 : (0 : Int) ≤ (n : Int) := by omega
  have E1 := Lib.hid (show (B r).extract 0 n = B (r.take n) by rw [ex_front, L_B])
  have E2 := Lib.hid (show (B r).extract n (B r).size = B (r.drop n) by rw [ex_rest, L_B])
  clear ho
  go_enter Tryd.func27, Tryd.ntmps27
  go_wp2_with fail
  refine NM.out.mono ?_
  rintro e w1 ⟨rfl, ⟨s1, is1, hc1, hs1, hi1, hi2⟩, on1⟩
  subst hi1 hi2
  have c1 := hc1.c1
  have c0 := hc1.c0
  have f1 := hc1.free 0
  have HC := Lib.hid hc1
  clear hc1 NM
  go_wp2
  go_ret
  rw [E1.out, E2.out]
  refine ⟨rfl, ⟨_, true, HC.out.set0 _, ?_, rfl, rfl⟩, on1.trans (Only.set _ _ _ _)⟩
  rw [size_B] at *
  rw [List.length_drop]
  omega
theorem txt_any (b : Nat) (o : Option (List UInt8)) (w : World) (h : CutO w b o) : Calls Tryd.prog 27 #[.pointer (some ⟨b, 0, none⟩)] w fun e w' => e = .returned (.string (txV o)) ∧ CutO w' b (txO o) ∧ Only b w w' := by
  have h' := h
  obtain ⟨s, is, hc, hs, ho⟩ := h'
  match o, h with
  | none, h => exact txt_off b s is w hc ⟨none, h, .inl rfl⟩
  | some [], h => exact txt_off b s is w hc ⟨some [], h, .inr rfl⟩
  | some (c :: r), h =>
    by_cases hl : r.length < c.toNat
    · have e1 : txV (some (c :: r)) = ⟨#[]⟩ := by simp [txV, takeL, hl]
      have e2 : txO (some (c :: r)) = none := by simp [txO, takeL, hl]
      rw [e1, e2]
      exact txt_short b c r w h hl
    · have e1 : txV (some (c :: r)) = B (r.take c.toNat) := by simp [txV, takeL, hl]
      have e2 : txO (some (c :: r)) = some (r.drop c.toNat) := by simp [txO, takeL, hl]
      rw [e1, e2]
      exact txt_ok b c r w h (by omega)

end Go.Proofs.YtfdclifdemajfaaDoor.Call
