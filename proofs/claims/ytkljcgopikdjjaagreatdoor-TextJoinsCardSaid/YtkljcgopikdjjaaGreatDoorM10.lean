/- Layer 5 (geo): which geometries may be, how many sectors each part has, and where it lies: what each call returns. -/
import Derived.Test.YtkljcgopikdjjaaGreatDoorM07
import Derived.Test.YtkljcgopikdjjaaGreatDoorM03
import Derived.Deep.RegionWith
import Derived.Deep.Cut
import Derived.BigGuard
import Derived.StillTailTactics
import Derived.BigQuiet
import Derived.Deep.RegionLaw
set_option linter.unusedVariables false
set_option linter.unusedSimpArgs false
set_option maxRecDepth 100000
section
namespace Go.Proofs.YtkljcgopikdjjaaGreatDoor.Geo
open Go.RowKit Go.Shelf Oct
def geoV (i b j : Int) : Value := .agg #[.int .i64 i, .int .i64 b, .int .i64 j]
def inR (v a b : Int) : Bool := decide (a ≤ v) && decide (v ≤ b)
def mayG (i b j : Int) : Bool := (inR i 2 256 && inR b 8 1024) && inR j 40 256
theorem in_any (v a b : Int) (w : World) : Calls Tryz.prog 94 #[.int .i64 v, .int .i64 a, .int .i64 b] w fun e w' => e = .returned (.bool (inR v a b)) ∧ w = w' := by
 unfold inR
 go_enter Tryz.func94, Tryz.ntmps94
 by_cases h : a ≤ v
 · have h1 : decide (a ≤ v) = true := by simpa using h
   go_wp2
   go_ret
   simp [h]
 · have h1 : decide (a ≤ v) = false := by simpa using h
   go_wp2
   go_ret
   simp [h]
set_option maxHeartbeats 4000000 in
theorem may_any (i b j : Int) (w : World) : Calls Tryz.prog 49 #[geoV i b j] w fun e w' => e = .returned (.bool (mayG i b j)) ∧ Below w.heap.size w w' := by
 unfold mayG geoV;have I0 := Lib.hid (fun W => in_any i 2 256 W);have I1 := Lib.hid (fun W => in_any b 8 1024 W);have I2 := Lib.hid (fun W => in_any j 40 256 W);have X := SBox.new w 23 #[.int .i64 i, .int .i64 b, .int .i64 j];have X0 := X.cell 0;have X1 := X.cell 1;have X2 := X.cell 2;have hlx := X.lt;simp only [List.getElem?_toArray, List.getElem?_cons_zero, List.getElem?_cons_succ] at X0 X1 X2;clear X;obtain ⟨a0, h0⟩ : ∃ x, inR i 2 256 = x := ⟨_, rfl⟩;obtain ⟨a1, h1⟩ : ∃ x, inR b 8 1024 = x := ⟨_, rfl⟩;obtain ⟨a2, h2⟩ : ∃ x, inR j 40 256 = x := ⟨_, rfl⟩;rw [h0] at I0 ⊢;rw [h1] at I1 ⊢;rw [h2] at I2 ⊢;clear h0 h1 h2;have HB : Hid (Below w.heap.size w (w.alloc (.cells #[.int .i64 i, .int .i64 b, .int .i64 j] 23))) := Lib.hid ((Below.refl _ w).alloc (Nat.le_refl _) _)
 go_enter Tryz.func49, Tryz.ntmps49
 cases a0
 · go_wp2_with fail
   refine (I0.out _).mono ?_;rintro e w1 ⟨rfl, rfl⟩
   go_wp2
   go_ret;exact ⟨rfl, HB.out⟩
 · cases a1
   · go_wp2_with fail
     refine (I0.out _).mono ?_;rintro e w1 ⟨rfl, rfl⟩;go_wp2_with fail;refine (I1.out _).mono ?_;rintro e w1 ⟨rfl, rfl⟩
     go_wp2
     go_ret;exact ⟨rfl, HB.out⟩
   · go_wp2_with fail
     refine (I0.out _).mono ?_;rintro e w1 ⟨rfl, rfl⟩;go_wp2_with fail;refine (I1.out _).mono ?_;rintro e w1 ⟨rfl, rfl⟩;go_wp2_with fail;refine (I2.out _).mono ?_;rintro e w1 ⟨rfl, rfl⟩
     go_wp2
     go_ret;exact ⟨by simp, HB.out⟩
end Go.Proofs.YtkljcgopikdjjaaGreatDoor.Geo
end
