/- The walks of package bits that range over a function: all, Least, Count: for texts of at most 2^40 bytes. -/
import Derived.Test.YtfdclifdemajfaaDoorBits
import Derived.RangeFuncNested
import Derived.RangeFuncBound
import Derived.RangeFuncCalls
import Derived.RangeFuncLeaves
import Derived.Shelf.Abstract
import Derived.Shelf.RegionOpen
import Derived.OwnWalkIn
import Derived.TacticsInMore
import Derived.LoopNIn
import Derived.LoopIn
import Derived.RegionTactic
namespace Go.Proofs.YtfdclifdemajfaaDoor
open Go.RowKit Go.Shelf

attribute [local go_sem] Oper.semAt_some

/-- What has come when k rounds are over: f 0, .., f (k - 1). -/
def upto {α : Type} (f : Nat → α) (k : Nat) : List α := (List.range k).map f
theorem upto_succ {α : Type} (f : Nat → α) (k : Nat) : upto f (k + 1) = upto f k ++ [f k] := by simp [upto, List.range_succ]
theorem upto_length {α : Type} (f : Nat → α) (k : Nat) : (upto f k).length = k := by simp [upto]

/-- The box B is kept. -/
def KeptBox (B : Nat) (t : TypeId) (W W' : World) : Prop := ∀ v, Boxed W B t v → Boxed W' B t v
theorem KeptBox.refl (B : Nat) (t : TypeId) (W : World) : KeptBox B t W W := fun _ h => h
theorem keptBox_t {B : Nat} {t : TypeId} {X Y Z : World} (h : KeptBox B t X Y) (k : KeptBox B t Y Z) : KeptBox B t X Z := fun v hv => k v (h v hv)
theorem keptBox_b {B : Nat} {t : TypeId} {w : World} (hB : B < w.heap.size) (W : World) (l : Nat) (o o' : Obj) (hl : w.heap.size ≤ l) (_ : W.heap[l]? = some o) (_ : o.isCells = false) (_ : o.isWalk = false) : KeptBox B t W (W.putObj l o') :=
  fun _ hv => hv.kept (grownBy_putObj' W l o') (fun e => by cases e; omega)

def bitPair (s : ByteArray) (k : Nat) : Nat × Bool := (k, bitB s k)

def cntB (n : Int) (l : List (Nat × Bool)) : Nat := (l.filter fun x => x.2 && decide ((x.1 : Int) < n)).length
theorem cntB_snoc (n : Int) (l : List (Nat × Bool)) (x : Nat × Bool) : cntB n (l ++ [x]) = cntB n l + if x.2 && decide ((x.1 : Int) < n) then 1 else 0 := by
  unfold cntB
  rw [List.filter_append]
  by_cases h : (x.2 && decide ((x.1 : Int) < n)) <;> simp [h]
theorem cntB_le (n : Int) (l : List (Nat × Bool)) : cntB n l ≤ l.length := List.length_filter_le _ _
def countB (s : ByteArray) (n : Int) : Nat := cntB n (upto (bitPair s) (8 * s.size))

/-- A scope and a label, under the wide fence. -/
theorem wpIn_scope_w {F : Fence} (HW : Hid (F = Fence.wide)) {n : Nat} {P : Program} {c : Code} {Q : Exit → Act → World → Prop} {a : Act} {w : World} (h : c.wpIn F n P (Exit.noGoto Q) a w) : (Code.scope c).wpIn F n P Q a w := by
  have e := HW.out
  subst e
  exact wpIn_wide.2 (wp_scope_straight (wpIn_wide.1 h))
theorem wpIn_label_w {F : Fence} (HW : Hid (F = Fence.wide)) {n l : Nat} {P : Program} {Q : Exit → Act → World → Prop} {a : Act} {w : World} (h : Q .normal a w) : (Code.label l).wpIn F n P Q a w := by
  have e := HW.out
  subst e
  exact wpIn_wide.2 (wp_label h)
theorem wpIn_plain_w {F : Fence} (HW : Hid (F = Fence.wide)) {n : Nat} {P : Program} {c : Code} {Q : Exit → Act → World → Prop} {a : Act} {w : World} (h : c.wp P Q a w) : c.wpIn F n P Q a w := by
  have e := HW.out
  subst e
  exact wpIn_wide.2 h

def goesOn (m : Int) (on : Bool) (x : Nat × Bool) : Prop := (x.1 : Int) < m ∧ x.2 ≠ on
def Ini (m : Int) (on : Bool) (pre : List (Nat × Bool)) : Prop := ∀ p ∈ pre, goesOn m on p
def Stopped (m : Int) (on : Bool) (c : Code) (pre : List (Nat × Bool)) : Prop := c = .exit 0 ∧ ∃ ini last, pre = ini ++ [last] ∧ (∀ p ∈ ini, goesOn m on p) ∧ ¬ goesOn m on last
def leastL (m : Int) (on : Bool) : List (Nat × Bool) → Nat × Bool
  | [] => (0, false)
  | x :: l => if m ≤ x.1 then (0, false) else if x.2 = on then (x.1, true) else leastL m on l
theorem leastL_skip (m : Int) (on : Bool) : ∀ (ini l : List (Nat × Bool)), (∀ p ∈ ini, goesOn m on p) → leastL m on (ini ++ l) = leastL m on l
  | [], _, _ => rfl
  | x :: ini, l, h => by
    have hx := h x (by simp)
    unfold goesOn at hx
    rw [List.cons_append, leastL, if_neg (by omega), if_neg hx.2]
    exact leastL_skip m on ini l (fun p hp => h p (by simp [hp]))
theorem leastL_stop (m : Int) (on : Bool) (x : Nat × Bool) (l : List (Nat × Bool)) (h : ¬ goesOn m on x) : leastL m on (x :: l) = leastL m on [x] := by
  unfold goesOn at h
  rw [leastL, leastL]
  by_cases h1 : m ≤ x.1
  · rw [if_pos h1, if_pos h1]
  · by_cases h2 : x.2 = on
    · rw [if_neg h1, if_neg h1, if_pos h2, if_pos h2]
    · exact (h ⟨by omega, h2⟩).elim
theorem upto_split {α : Type} (f : Nat → α) {k m : Nat} (h : k ≤ m) : ∃ r, upto f m = upto f k ++ r := by
  refine ⟨(upto f m).drop k, ?_⟩
  have : upto f k = (upto f m).take k := by
    unfold upto
    rw [← List.map_take, List.take_range, Nat.min_eq_left h]
  rw [this, List.take_append_drop]
theorem ini_snoc {m : Int} {on : Bool} {pre : List (Nat × Bool)} {k : Nat} {b : Bool} (h : Ini m on pre) (hk : (k : Int) < m) (hb : ¬ b = on) : Ini m on (pre ++ [(k, b)]) := by
  intro p hp'
  rcases List.mem_append.1 hp' with h1 | h1
  · exact h p h1
  · simp at h1
    subst h1
    exact ⟨hk, hb⟩
def leastB (s : ByteArray) (m : Int) (on : Bool) : Nat × Bool := leastL m on (upto (bitPair s) (8 * s.size))

end Go.Proofs.YtfdclifdemajfaaDoor
