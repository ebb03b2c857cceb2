/- Layer 20, the document's answer: what a call has, its word, what it changes; a text; the cutter. -/
import Derived.Test.YtkljcgopikdjjaaGreatDoorM08
import Derived.Test.YtkljcgopikdjjaaGreatDoorM04
set_option linter.unusedVariables false
set_option linter.unusedSimpArgs false
set_option maxRecDepth 100000
section
namespace Go.Proofs.YtkljcgopikdjjaaGreatDoor.Call
open Go.RowKit Oct Path
def ofV (d : Nat) : Value := .agg #[.bool (hasB (hasN d) 1), .bool (hasB (hasN d) 2), .bool (hasB (hasN d) 4), .bool (hasB (hasN d) 8), .bool (hasB (hasN d) 16), .bool (hasB (hasN d) 32), .bool (hasB (hasN d) 64), .bool (hasB (hasN d) 128)]
theorem ofV0 : ofV 0 = .agg #[.bool false, .bool false, .bool false, .bool false, .bool false, .bool false, .bool false, .bool false] := by
 have h : hasN 0 = 0 := rfl;unfold ofV;rw [h, show hasB 0 1 = false from by decide +kernel, show hasB 0 2 = false from by decide +kernel, show hasB 0 4 = false from by decide +kernel, show hasB 0 8 = false from by decide +kernel, show hasB 0 16 = false from by decide +kernel, show hasB 0 32 = false from by decide +kernel, show hasB 0 64 = false from by decide +kernel, show hasB 0 128 = false from by decide +kernel]
theorem ofV1 : ofV 1 = .agg #[.bool true, .bool false, .bool false, .bool false, .bool false, .bool false, .bool false, .bool false] := by
 have h : hasN 1 = 1 := rfl;unfold ofV;rw [h, show hasB 1 1 = true from by decide +kernel, show hasB 1 2 = false from by decide +kernel, show hasB 1 4 = false from by decide +kernel, show hasB 1 8 = false from by decide +kernel, show hasB 1 16 = false from by decide +kernel, show hasB 1 32 = false from by decide +kernel, show hasB 1 64 = false from by decide +kernel, show hasB 1 128 = false from by decide +kernel]
theorem ofV2 : ofV 2 = .agg #[.bool true, .bool false, .bool false, .bool false, .bool false, .bool false, .bool true, .bool false] := by
 have h : hasN 2 = 65 := rfl;unfold ofV;rw [h, show hasB 65 1 = true from by decide +kernel, show hasB 65 2 = false from by decide +kernel, show hasB 65 4 = false from by decide +kernel, show hasB 65 8 = false from by decide +kernel, show hasB 65 16 = false from by decide +kernel, show hasB 65 32 = false from by decide +kernel, show hasB 65 64 = true from by decide +kernel, show hasB 65 128 = false from by decide +kernel]
theorem ofV3 : ofV 3 = .agg #[.bool false, .bool false, .bool true, .bool true, .bool false, .bool false, .bool false, .bool false] := by
 have h : hasN 3 = 12 := rfl;unfold ofV;rw [h, show hasB 12 1 = false from by decide +kernel, show hasB 12 2 = false from by decide +kernel, show hasB 12 4 = true from by decide +kernel, show hasB 12 8 = true from by decide +kernel, show hasB 12 16 = false from by decide +kernel, show hasB 12 32 = false from by decide +kernel, show hasB 12 64 = false from by decide +kernel, show hasB 12 128 = false from by decide +kernel]
theorem ofV4 : ofV 4 = .agg #[.bool false, .bool false, .bool true, .bool true, .bool false, .bool true, .bool false, .bool false] := by
 have h : hasN 4 = 44 := rfl;unfold ofV;rw [h, show hasB 44 1 = false from by decide +kernel, show hasB 44 2 = false from by decide +kernel, show hasB 44 4 = true from by decide +kernel, show hasB 44 8 = true from by decide +kernel, show hasB 44 16 = false from by decide +kernel, show hasB 44 32 = true from by decide +kernel, show hasB 44 64 = false from by decide +kernel, show hasB 44 128 = false from by decide +kernel]
theorem ofV5 : ofV 5 = .agg #[.bool false, .bool false, .bool true, .bool false, .bool true, .bool false, .bool false, .bool false] := by
 have h : hasN 5 = 20 := rfl;unfold ofV;rw [h, show hasB 20 1 = false from by decide +kernel, show hasB 20 2 = false from by decide +kernel, show hasB 20 4 = true from by decide +kernel, show hasB 20 8 = false from by decide +kernel, show hasB 20 16 = true from by decide +kernel, show hasB 20 32 = false from by decide +kernel, show hasB 20 64 = false from by decide +kernel, show hasB 20 128 = false from by decide +kernel]
theorem ofV6 : ofV 6 = .agg #[.bool true, .bool true, .bool false, .bool false, .bool false, .bool false, .bool false, .bool true] := by
 have h : hasN 6 = 131 := rfl;unfold ofV;rw [h, show hasB 131 1 = true from by decide +kernel, show hasB 131 2 = true from by decide +kernel, show hasB 131 4 = false from by decide +kernel, show hasB 131 8 = false from by decide +kernel, show hasB 131 16 = false from by decide +kernel, show hasB 131 32 = false from by decide +kernel, show hasB 131 64 = false from by decide +kernel, show hasB 131 128 = true from by decide +kernel]
theorem ofV7 : ofV 7 = .agg #[.bool true, .bool false, .bool false, .bool false, .bool false, .bool false, .bool true, .bool false] := by
 have h : hasN 7 = 65 := rfl;unfold ofV;rw [h, show hasB 65 1 = true from by decide +kernel, show hasB 65 2 = false from by decide +kernel, show hasB 65 4 = false from by decide +kernel, show hasB 65 8 = false from by decide +kernel, show hasB 65 16 = false from by decide +kernel, show hasB 65 32 = false from by decide +kernel, show hasB 65 64 = true from by decide +kernel, show hasB 65 128 = false from by decide +kernel]
theorem ofV8 : ofV 8 = .agg #[.bool true, .bool true, .bool false, .bool false, .bool false, .bool false, .bool true, .bool true] := by
 have h : hasN 8 = 195 := rfl;unfold ofV;rw [h, show hasB 195 1 = true from by decide +kernel, show hasB 195 2 = true from by decide +kernel, show hasB 195 4 = false from by decide +kernel, show hasB 195 8 = false from by decide +kernel, show hasB 195 16 = false from by decide +kernel, show hasB 195 32 = false from by decide +kernel, show hasB 195 64 = true from by decide +kernel, show hasB 195 128 = true from by decide +kernel]
theorem ofV9 : ofV 9 = .agg #[.bool true, .bool false, .bool false, .bool false, .bool false, .bool false, .bool true, .bool false] := by
 have h : hasN 9 = 65 := rfl;unfold ofV;rw [h, show hasB 65 1 = true from by decide +kernel, show hasB 65 2 = false from by decide +kernel, show hasB 65 4 = false from by decide +kernel, show hasB 65 8 = false from by decide +kernel, show hasB 65 16 = false from by decide +kernel, show hasB 65 32 = false from by decide +kernel, show hasB 65 64 = true from by decide +kernel, show hasB 65 128 = false from by decide +kernel]
theorem ofV10 : ofV 10 = .agg #[.bool true, .bool false, .bool false, .bool false, .bool false, .bool false, .bool true, .bool false] := by
 have h : hasN 10 = 65 := rfl;unfold ofV;rw [h, show hasB 65 1 = true from by decide +kernel, show hasB 65 2 = false from by decide +kernel, show hasB 65 4 = false from by decide +kernel, show hasB 65 8 = false from by decide +kernel, show hasB 65 16 = false from by decide +kernel, show hasB 65 32 = false from by decide +kernel, show hasB 65 64 = true from by decide +kernel, show hasB 65 128 = false from by decide +kernel]
theorem ofV11 : ofV 11 = .agg #[.bool true, .bool false, .bool false, .bool false, .bool false, .bool false, .bool false, .bool false] := by
 have h : hasN 11 = 1 := rfl;unfold ofV;rw [h, show hasB 1 1 = true from by decide +kernel, show hasB 1 2 = false from by decide +kernel, show hasB 1 4 = false from by decide +kernel, show hasB 1 8 = false from by decide +kernel, show hasB 1 16 = false from by decide +kernel, show hasB 1 32 = false from by decide +kernel, show hasB 1 64 = false from by decide +kernel, show hasB 1 128 = false from by decide +kernel]
theorem ofV12 : ofV 12 = .agg #[.bool true, .bool false, .bool false, .bool false, .bool false, .bool false, .bool false, .bool false] := by
 have h : hasN 12 = 1 := rfl;unfold ofV;rw [h, show hasB 1 1 = true from by decide +kernel, show hasB 1 2 = false from by decide +kernel, show hasB 1 4 = false from by decide +kernel, show hasB 1 8 = false from by decide +kernel, show hasB 1 16 = false from by decide +kernel, show hasB 1 32 = false from by decide +kernel, show hasB 1 64 = false from by decide +kernel, show hasB 1 128 = false from by decide +kernel]
theorem ofV13 : ofV 13 = .agg #[.bool false, .bool false, .bool true, .bool false, .bool false, .bool false, .bool false, .bool false] := by
 have h : hasN 13 = 4 := rfl;unfold ofV;rw [h, show hasB 4 1 = false from by decide +kernel, show hasB 4 2 = false from by decide +kernel, show hasB 4 4 = true from by decide +kernel, show hasB 4 8 = false from by decide +kernel, show hasB 4 16 = false from by decide +kernel, show hasB 4 32 = false from by decide +kernel, show hasB 4 64 = false from by decide +kernel, show hasB 4 128 = false from by decide +kernel]
theorem ofV14 : ofV 14 = .agg #[.bool false, .bool false, .bool true, .bool false, .bool false, .bool false, .bool false, .bool false] := by
 have h : hasN 14 = 4 := rfl;unfold ofV;rw [h, show hasB 4 1 = false from by decide +kernel, show hasB 4 2 = false from by decide +kernel, show hasB 4 4 = true from by decide +kernel, show hasB 4 8 = false from by decide +kernel, show hasB 4 16 = false from by decide +kernel, show hasB 4 32 = false from by decide +kernel, show hasB 4 64 = false from by decide +kernel, show hasB 4 128 = false from by decide +kernel]
theorem ofV15 : ofV 15 = .agg #[.bool false, .bool false, .bool false, .bool false, .bool false, .bool false, .bool false, .bool false] := by
 have h : hasN 15 = 0 := rfl;unfold ofV;rw [h, show hasB 0 1 = false from by decide +kernel, show hasB 0 2 = false from by decide +kernel, show hasB 0 4 = false from by decide +kernel, show hasB 0 8 = false from by decide +kernel, show hasB 0 16 = false from by decide +kernel, show hasB 0 32 = false from by decide +kernel, show hasB 0 64 = false from by decide +kernel, show hasB 0 128 = false from by decide +kernel]
theorem ofV_over (d : Nat) (h : 15 < d) : ofV d = .agg #[.bool false, .bool false, .bool false, .bool false, .bool false, .bool false, .bool false, .bool false] := by
 rw [← ofV0];unfold ofV;rw [has_over d h]
 rfl
set_option maxHeartbeats 2000000 in
theorem rof_any (d : Nat) (w : World) (hd : d < 256) : Calls Tryz.prog 91 #[.int .u8 d] w fun e w' => e = .returned (ofV d) ∧ Below w.heap.size w w' := by
 by_cases h : 15 < d
 · rw [ofV_over d h]
   have t1 : ((d : Int) == 1) = false := by simp; omega
   have t2 : ((d : Int) == 2) = false := by simp; omega
   have t3 : ((d : Int) == 3) = false := by simp; omega
   have t4 : ((d : Int) == 4) = false := by simp; omega
   have t5 : ((d : Int) == 5) = false := by simp; omega
   have t6 : ((d : Int) == 6) = false := by simp; omega
   have t7 : ((d : Int) == 7) = false := by simp; omega
   have t8 : ((d : Int) == 8) = false := by simp; omega
   have t9 : ((d : Int) == 9) = false := by simp; omega
   have t10 : ((d : Int) == 10) = false := by simp; omega
   have t11 : ((d : Int) == 11) = false := by simp; omega
   have t12 : ((d : Int) == 12) = false := by simp; omega
   have t13 : ((d : Int) == 13) = false := by simp; omega
   have t14 : ((d : Int) == 14) = false := by simp; omega
   clear h
   go_enter Tryz.func91, Tryz.ntmps91
   go_wp2
   exact bodyPost_ret (v := .agg #[.bool false, .bool false, .bool false, .bool false, .bool false, .bool false, .bool false, .bool false]) (by simp [results, Tryz.results91, go_sem]) rfl ⟨rfl, (Below.refl _ _).alloc (Nat.le_refl _) _⟩
 · obtain rfl | rfl | rfl | rfl | rfl | rfl | rfl | rfl | rfl | rfl | rfl | rfl | rfl | rfl | rfl | rfl : d = 0 ∨ d = 1 ∨ d = 2 ∨ d = 3 ∨ d = 4 ∨ d = 5 ∨ d = 6 ∨ d = 7 ∨ d = 8 ∨ d = 9 ∨ d = 10 ∨ d = 11 ∨ d = 12 ∨ d = 13 ∨ d = 14 ∨ d = 15 := by omega
   all_goals clear h hd
   · rw [ofV0]
     go_enter Tryz.func91, Tryz.ntmps91
     go_wp2
     exact bodyPost_ret (v := .agg #[.bool false, .bool false, .bool false, .bool false, .bool false, .bool false, .bool false, .bool false]) (by simp [results, Tryz.results91, go_sem]) rfl ⟨rfl, (Below.refl _ _).alloc (Nat.le_refl _) _⟩
   · rw [ofV1]
     go_enter Tryz.func91, Tryz.ntmps91
     go_wp2
     exact bodyPost_ret (v := .agg #[.bool true, .bool false, .bool false, .bool false, .bool false, .bool false, .bool false, .bool false]) (by simp [results, Tryz.results91, go_sem]) rfl ⟨rfl, (Below.refl _ _).alloc (Nat.le_refl _) _⟩
   · rw [ofV2]
     go_enter Tryz.func91, Tryz.ntmps91
     go_wp2
     exact bodyPost_ret (v := .agg #[.bool true, .bool false, .bool false, .bool false, .bool false, .bool false, .bool true, .bool false]) (by simp [results, Tryz.results91, go_sem]) rfl ⟨rfl, (Below.refl _ _).alloc (Nat.le_refl _) _⟩
   · rw [ofV3]
     go_enter Tryz.func91, Tryz.ntmps91
     go_wp2
     exact bodyPost_ret (v := .agg #[.bool false, .bool false, .bool true, .bool true, .bool false, .bool false, .bool false, .bool false]) (by simp [results, Tryz.results91, go_sem]) rfl ⟨rfl, (Below.refl _ _).alloc (Nat.le_refl _) _⟩
   · rw [ofV4]
     go_enter Tryz.func91, Tryz.ntmps91
     go_wp2
     exact bodyPost_ret (v := .agg #[.bool false, .bool false, .bool true, .bool true, .bool false, .bool true, .bool false, .bool false]) (by simp [results, Tryz.results91, go_sem]) rfl ⟨rfl, (Below.refl _ _).alloc (Nat.le_refl _) _⟩
   · rw [ofV5]
     go_enter Tryz.func91, Tryz.ntmps91
     go_wp2
     exact bodyPost_ret (v := .agg #[.bool false, .bool false, .bool true, .bool false, .bool true, .bool false, .bool false, .bool false]) (by simp [results, Tryz.results91, go_sem]) rfl ⟨rfl, (Below.refl _ _).alloc (Nat.le_refl _) _⟩
   · rw [ofV6]
     go_enter Tryz.func91, Tryz.ntmps91
     go_wp2
     exact bodyPost_ret (v := .agg #[.bool true, .bool true, .bool false, .bool false, .bool false, .bool false, .bool false, .bool true]) (by simp [results, Tryz.results91, go_sem]) rfl ⟨rfl, (Below.refl _ _).alloc (Nat.le_refl _) _⟩
   · rw [ofV7]
     go_enter Tryz.func91, Tryz.ntmps91
     go_wp2
     exact bodyPost_ret (v := .agg #[.bool true, .bool false, .bool false, .bool false, .bool false, .bool false, .bool true, .bool false]) (by simp [results, Tryz.results91, go_sem]) rfl ⟨rfl, (Below.refl _ _).alloc (Nat.le_refl _) _⟩
   · rw [ofV8]
     go_enter Tryz.func91, Tryz.ntmps91
     go_wp2
     exact bodyPost_ret (v := .agg #[.bool true, .bool true, .bool false, .bool false, .bool false, .bool false, .bool true, .bool true]) (by simp [results, Tryz.results91, go_sem]) rfl ⟨rfl, (Below.refl _ _).alloc (Nat.le_refl _) _⟩
   · rw [ofV9]
     go_enter Tryz.func91, Tryz.ntmps91
     go_wp2
     exact bodyPost_ret (v := .agg #[.bool true, .bool false, .bool false, .bool false, .bool false, .bool false, .bool true, .bool false]) (by simp [results, Tryz.results91, go_sem]) rfl ⟨rfl, (Below.refl _ _).alloc (Nat.le_refl _) _⟩
   · rw [ofV10]
     go_enter Tryz.func91, Tryz.ntmps91
     go_wp2
     exact bodyPost_ret (v := .agg #[.bool true, .bool false, .bool false, .bool false, .bool false, .bool false, .bool true, .bool false]) (by simp [results, Tryz.results91, go_sem]) rfl ⟨rfl, (Below.refl _ _).alloc (Nat.le_refl _) _⟩
   · rw [ofV11]
     go_enter Tryz.func91, Tryz.ntmps91
     go_wp2
     exact bodyPost_ret (v := .agg #[.bool true, .bool false, .bool false, .bool false, .bool false, .bool false, .bool false, .bool false]) (by simp [results, Tryz.results91, go_sem]) rfl ⟨rfl, (Below.refl _ _).alloc (Nat.le_refl _) _⟩
   · rw [ofV12]
     go_enter Tryz.func91, Tryz.ntmps91
     go_wp2
     exact bodyPost_ret (v := .agg #[.bool true, .bool false, .bool false, .bool false, .bool false, .bool false, .bool false, .bool false]) (by simp [results, Tryz.results91, go_sem]) rfl ⟨rfl, (Below.refl _ _).alloc (Nat.le_refl _) _⟩
   · rw [ofV13]
     go_enter Tryz.func91, Tryz.ntmps91
     go_wp2
     exact bodyPost_ret (v := .agg #[.bool false, .bool false, .bool true, .bool false, .bool false, .bool false, .bool false, .bool false]) (by simp [results, Tryz.results91, go_sem]) rfl ⟨rfl, (Below.refl _ _).alloc (Nat.le_refl _) _⟩
   · rw [ofV14]
     go_enter Tryz.func91, Tryz.ntmps91
     go_wp2
     exact bodyPost_ret (v := .agg #[.bool false, .bool false, .bool true, .bool false, .bool false, .bool false, .bool false, .bool false]) (by simp [results, Tryz.results91, go_sem]) rfl ⟨rfl, (Below.refl _ _).alloc (Nat.le_refl _) _⟩
   · rw [ofV15]
     go_enter Tryz.func91, Tryz.ntmps91
     go_wp2
     exact bodyPost_ret (v := .agg #[.bool false, .bool false, .bool false, .bool false, .bool false, .bool false, .bool false, .bool false]) (by simp [results, Tryz.results91, go_sem]) rfl ⟨rfl, (Below.refl _ _).alloc (Nat.le_refl _) _⟩
set_option maxHeartbeats 2000000 in
theorem rword_any (d : Nat) (w : World) (hd : d < 256) : Calls Tryz.prog 89 #[.int .u8 d] w fun e w' => e = .returned (.string (B (wordN d))) ∧ Below w.heap.size w w' := by
 by_cases h : 15 < d
 · have t0 : decide (16 ≤ (d : Int)) = true := by simp; omega
   rw [word_over d h];clear h
   go_enter Tryz.func89, Tryz.ntmps89
   go_wp2
   go_ret;exact ⟨rfl, (Below.refl _ _).alloc (Nat.le_refl _) _⟩
 · obtain rfl | rfl | rfl | rfl | rfl | rfl | rfl | rfl | rfl | rfl | rfl | rfl | rfl | rfl | rfl | rfl : d = 0 ∨ d = 1 ∨ d = 2 ∨ d = 3 ∨ d = 4 ∨ d = 5 ∨ d = 6 ∨ d = 7 ∨ d = 8 ∨ d = 9 ∨ d = 10 ∨ d = 11 ∨ d = 12 ∨ d = 13 ∨ d = 14 ∨ d = 15 := by omega
   all_goals
     clear h hd
     go_enter Tryz.func89, Tryz.ntmps89
     go_wp2
     go_ret;exact ⟨rfl, (Below.refl _ _).alloc (Nat.le_refl _) _⟩
end Go.Proofs.YtkljcgopikdjjaaGreatDoor.Call
end
