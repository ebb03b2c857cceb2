/- Layer 20, the document's answer: Check, for every call. -/
import Derived.Test.YtfdclifdemajfaaDoorCallRChkA
import Derived.Test.YtfdclifdemajfaaDoorCallRChkI
import Derived.Test.YtfdclifdemajfaaDoorCallRChkB
import Derived.Test.YtfdclifdemajfaaDoorCallRChkC
import Derived.Test.YtfdclifdemajfaaDoorCallRChkD
import Derived.Test.YtfdclifdemajfaaDoorCallRChkE
import Derived.Test.YtfdclifdemajfaaDoorCallRChkF
import Derived.Test.YtfdclifdemajfaaDoorCallRChkG
import Derived.Test.YtfdclifdemajfaaDoorCallRChkH
import Derived.BigGuard
namespace Go.Proofs.YtfdclifdemajfaaDoor.Call
set_option linter.unusedVariables false
set_option linter.unusedSimpArgs false
open Go.RowKit Oct Path
set_option maxRecDepth 100000 in
set_option maxHeartbeats 2000000 in
theorem rcheck_low (x : C) (w : World) (hd : x.d < 256) (h : x.d < 1) : Calls Tryd.prog 12 #[.agg #[.int .u8 x.d, .string x.p, .string x.p2, .int .i64 x.fd, .int .i64 x.pg, .int .u32 x.sz, .string x.da]] w fun e w' => e = .returned (.int .i64 2) ∧ Below w.heap.size w w' := by
  have OF := Lib.hid (fun W => rof_any x.d W hd)
  have t0 : decide ((x.d : Int) < 1) = true := by simp; omega
  unfold ofV at OF
  go_enter Tryd.func12, Tryd.ntmps12
  simp only [List.append_eq, List.cons_append, List.nil_append]
  go_wp2_with fail
  refine (OF.out _).mono ?_
  rintro e w1 ⟨rfl, b1⟩
  have bb : Below w.heap.size w w1 := ((Below.refl _ w).alloc (Nat.le_refl _) _).trans (b1.mono (by simp))
  have hX : Box w1 w.heap.size x := (box_x x w).below (by simp) b1
  have hlt := hX.lt
  have c0 := hX.c0
  clear b1 hX
  go_wp2
  go_ret
  exact ⟨rfl, bb.alloc bb.size _⟩
set_option maxRecDepth 100000 in
set_option maxHeartbeats 2000000 in
theorem rcheck_high (x : C) (w : World) (hd : x.d < 256) (h : 15 < x.d) : Calls Tryd.prog 12 #[.agg #[.int .u8 x.d, .string x.p, .string x.p2, .int .i64 x.fd, .int .i64 x.pg, .int .u32 x.sz, .string x.da]] w fun e w' => e = .returned (.int .i64 2) ∧ Below w.heap.size w w' := by
  have OF := Lib.hid (fun W => rof_any x.d W hd)
  have t0 : decide ((x.d : Int) < 1) = false := by simp; omega
  have t1 : decide (15 < (x.d : Int)) = true := by simp; omega
  unfold ofV at OF
  go_enter Tryd.func12, Tryd.ntmps12
  simp only [List.append_eq, List.cons_append, List.nil_append]
  go_wp2_with fail
  refine (OF.out _).mono ?_
  rintro e w1 ⟨rfl, b1⟩
  have bb : Below w.heap.size w w1 := ((Below.refl _ w).alloc (Nat.le_refl _) _).trans (b1.mono (by simp))
  have hX : Box w1 w.heap.size x := (box_x x w).below (by simp) b1
  have hlt := hX.lt
  have c0 := hX.c0
  clear b1 hX
  go_wp2
  go_ret
  exact ⟨rfl, bb.alloc bb.size _⟩
theorem rcheck_any (x : C) (w : World) (hd : x.d < 256) (hp : x.p.size ≤ maxLen) (hp2 : x.p2.size ≤ maxLen) (hda : x.da.size ≤ maxLen) : Calls Tryd.prog 12 #[.agg #[.int .u8 x.d, .string x.p, .string x.p2, .int .i64 x.fd, .int .i64 x.pg, .int .u32 x.sz, .string x.da]] w fun e w' => e = .returned (.int .i64 x.checkE) ∧ Below w.heap.size w w' := by
  by_cases h1' : x.d < 1
  · rw [show x.checkE = 2 by unfold C.checkE; rw [if_pos h1']]; exact rcheck_low x w hd h1'
  by_cases h2' : 15 < x.d
  · rw [show x.checkE = 2 by unfold C.checkE; rw [if_neg h1', if_pos h2']]; exact rcheck_high x w hd h2'
  have h1 : 1 ≤ x.d := by omega
  have h2 : x.d ≤ 15 := by omega
  obtain hx | hx | hx | hx | hx | hx | hx | hx | hx | hx | hx | hx | hx | hx | hx : x.d = 1 ∨ x.d = 2 ∨ x.d = 3 ∨ x.d = 4 ∨ x.d = 5 ∨ x.d = 6 ∨ x.d = 7 ∨ x.d = 8 ∨ x.d = 9 ∨ x.d = 10 ∨ x.d = 11 ∨ x.d = 12 ∨ x.d = 13 ∨ x.d = 14 ∨ x.d = 15 := by omega
  · have hof : ofV x.d = .agg #[.bool true, .bool false, .bool false, .bool false, .bool false, .bool false, .bool false, .bool false] := by rw [hx]; exact ofV1
    have e := rE_eq x (by omega) (by omega)
    have ev := hof
    rw [hx] at e
    rw [hx] at ev
    simp only [ofV, Value.agg.injEq, Array.mk.injEq, List.cons.injEq, Value.bool.injEq, and_true] at ev
    obtain ⟨e1, e2, e3, e4, e5, e6, e7, e8⟩ := ev
    rw [e1, e2, e3, e4, e5, e6, e7, e8] at e
    rw [e]
    exact rcheck_1 x w hd h1 h2 hp hp2 hda hof
  · have hof : ofV x.d = .agg #[.bool true, .bool false, .bool false, .bool false, .bool false, .bool false, .bool true, .bool false] := by rw [hx]; exact ofV2
    have e := rE_eq x (by omega) (by omega)
    have ev := hof
    rw [hx] at e
    rw [hx] at ev
    simp only [ofV, Value.agg.injEq, Array.mk.injEq, List.cons.injEq, Value.bool.injEq, and_true] at ev
    obtain ⟨e1, e2, e3, e4, e5, e6, e7, e8⟩ := ev
    rw [e1, e2, e3, e4, e5, e6, e7, e8] at e
    rw [e]
    exact rcheck_65 x w hd h1 h2 hp hp2 hda hof
  · have hof : ofV x.d = .agg #[.bool false, .bool false, .bool true, .bool true, .bool false, .bool false, .bool false, .bool false] := by rw [hx]; exact ofV3
    have e := rE_eq x (by omega) (by omega)
    have ev := hof
    rw [hx] at e
    rw [hx] at ev
    simp only [ofV, Value.agg.injEq, Array.mk.injEq, List.cons.injEq, Value.bool.injEq, and_true] at ev
    obtain ⟨e1, e2, e3, e4, e5, e6, e7, e8⟩ := ev
    rw [e1, e2, e3, e4, e5, e6, e7, e8] at e
    rw [e]
    exact rcheck_12 x w hd h1 h2 hp hp2 hda hof
  · have hof : ofV x.d = .agg #[.bool false, .bool false, .bool true, .bool true, .bool false, .bool true, .bool false, .bool false] := by rw [hx]; exact ofV4
    have e := rE_eq x (by omega) (by omega)
    have ev := hof
    rw [hx] at e
    rw [hx] at ev
    simp only [ofV, Value.agg.injEq, Array.mk.injEq, List.cons.injEq, Value.bool.injEq, and_true] at ev
    obtain ⟨e1, e2, e3, e4, e5, e6, e7, e8⟩ := ev
    rw [e1, e2, e3, e4, e5, e6, e7, e8] at e
    rw [e]
    exact rcheck_44 x w hd h1 h2 hp hp2 hda hof
  · have hof : ofV x.d = .agg #[.bool false, .bool false, .bool true, .bool false, .bool true, .bool false, .bool false, .bool false] := by rw [hx]; exact ofV5
    have e := rE_eq x (by omega) (by omega)
    have ev := hof
    rw [hx] at e
    rw [hx] at ev
    simp only [ofV, Value.agg.injEq, Array.mk.injEq, List.cons.injEq, Value.bool.injEq, and_true] at ev
    obtain ⟨e1, e2, e3, e4, e5, e6, e7, e8⟩ := ev
    rw [e1, e2, e3, e4, e5, e6, e7, e8] at e
    rw [e]
    exact rcheck_20 x w hd h1 h2 hp hp2 hda hof
  · have hof : ofV x.d = .agg #[.bool true, .bool true, .bool false, .bool false, .bool false, .bool false, .bool false, .bool true] := by rw [hx]; exact ofV6
    have e := rE_eq x (by omega) (by omega)
    have ev := hof
    rw [hx] at e
    rw [hx] at ev
    simp only [ofV, Value.agg.injEq, Array.mk.injEq, List.cons.injEq, Value.bool.injEq, and_true] at ev
    obtain ⟨e1, e2, e3, e4, e5, e6, e7, e8⟩ := ev
    rw [e1, e2, e3, e4, e5, e6, e7, e8] at e
    rw [e]
    exact rcheck_131 x w hd h1 h2 hp hp2 hda hof
  · have hof : ofV x.d = .agg #[.bool true, .bool false, .bool false, .bool false, .bool false, .bool false, .bool true, .bool false] := by rw [hx]; exact ofV7
    have e := rE_eq x (by omega) (by omega)
    have ev := hof
    rw [hx] at e
    rw [hx] at ev
    simp only [ofV, Value.agg.injEq, Array.mk.injEq, List.cons.injEq, Value.bool.injEq, and_true] at ev
    obtain ⟨e1, e2, e3, e4, e5, e6, e7, e8⟩ := ev
    rw [e1, e2, e3, e4, e5, e6, e7, e8] at e
    rw [e]
    exact rcheck_65 x w hd h1 h2 hp hp2 hda hof
  · have hof : ofV x.d = .agg #[.bool true, .bool true, .bool false, .bool false, .bool false, .bool false, .bool true, .bool true] := by rw [hx]; exact ofV8
    have e := rE_eq x (by omega) (by omega)
    have ev := hof
    rw [hx] at e
    rw [hx] at ev
    simp only [ofV, Value.agg.injEq, Array.mk.injEq, List.cons.injEq, Value.bool.injEq, and_true] at ev
    obtain ⟨e1, e2, e3, e4, e5, e6, e7, e8⟩ := ev
    rw [e1, e2, e3, e4, e5, e6, e7, e8] at e
    rw [e]
    exact rcheck_195 x w hd h1 h2 hp hp2 hda hof
  · have hof : ofV x.d = .agg #[.bool true, .bool false, .bool false, .bool false, .bool false, .bool false, .bool true, .bool false] := by rw [hx]; exact ofV9
    have e := rE_eq x (by omega) (by omega)
    have ev := hof
    rw [hx] at e
    rw [hx] at ev
    simp only [ofV, Value.agg.injEq, Array.mk.injEq, List.cons.injEq, Value.bool.injEq, and_true] at ev
    obtain ⟨e1, e2, e3, e4, e5, e6, e7, e8⟩ := ev
    rw [e1, e2, e3, e4, e5, e6, e7, e8] at e
    rw [e]
    exact rcheck_65 x w hd h1 h2 hp hp2 hda hof
  · have hof : ofV x.d = .agg #[.bool true, .bool false, .bool false, .bool false, .bool false, .bool false, .bool true, .bool false] := by rw [hx]; exact ofV10
    have e := rE_eq x (by omega) (by omega)
    have ev := hof
    rw [hx] at e
    rw [hx] at ev
    simp only [ofV, Value.agg.injEq, Array.mk.injEq, List.cons.injEq, Value.bool.injEq, and_true] at ev
    obtain ⟨e1, e2, e3, e4, e5, e6, e7, e8⟩ := ev
    rw [e1, e2, e3, e4, e5, e6, e7, e8] at e
    rw [e]
    exact rcheck_65 x w hd h1 h2 hp hp2 hda hof
  · have hof : ofV x.d = .agg #[.bool true, .bool false, .bool false, .bool false, .bool false, .bool false, .bool false, .bool false] := by rw [hx]; exact ofV11
    have e := rE_eq x (by omega) (by omega)
    have ev := hof
    rw [hx] at e
    rw [hx] at ev
    simp only [ofV, Value.agg.injEq, Array.mk.injEq, List.cons.injEq, Value.bool.injEq, and_true] at ev
    obtain ⟨e1, e2, e3, e4, e5, e6, e7, e8⟩ := ev
    rw [e1, e2, e3, e4, e5, e6, e7, e8] at e
    rw [e]
    exact rcheck_1 x w hd h1 h2 hp hp2 hda hof
  · have hof : ofV x.d = .agg #[.bool true, .bool false, .bool false, .bool false, .bool false, .bool false, .bool false, .bool false] := by rw [hx]; exact ofV12
    have e := rE_eq x (by omega) (by omega)
    have ev := hof
    rw [hx] at e
    rw [hx] at ev
    simp only [ofV, Value.agg.injEq, Array.mk.injEq, List.cons.injEq, Value.bool.injEq, and_true] at ev
    obtain ⟨e1, e2, e3, e4, e5, e6, e7, e8⟩ := ev
    rw [e1, e2, e3, e4, e5, e6, e7, e8] at e
    rw [e]
    exact rcheck_1 x w hd h1 h2 hp hp2 hda hof
  · have hof : ofV x.d = .agg #[.bool false, .bool false, .bool true, .bool false, .bool false, .bool false, .bool false, .bool false] := by rw [hx]; exact ofV13
    have e := rE_eq x (by omega) (by omega)
    have ev := hof
    rw [hx] at e
    rw [hx] at ev
    simp only [ofV, Value.agg.injEq, Array.mk.injEq, List.cons.injEq, Value.bool.injEq, and_true] at ev
    obtain ⟨e1, e2, e3, e4, e5, e6, e7, e8⟩ := ev
    rw [e1, e2, e3, e4, e5, e6, e7, e8] at e
    rw [e]
    exact rcheck_4 x w hd h1 h2 hp hp2 hda hof
  · have hof : ofV x.d = .agg #[.bool false, .bool false, .bool true, .bool false, .bool false, .bool false, .bool false, .bool false] := by rw [hx]; exact ofV14
    have e := rE_eq x (by omega) (by omega)
    have ev := hof
    rw [hx] at e
    rw [hx] at ev
    simp only [ofV, Value.agg.injEq, Array.mk.injEq, List.cons.injEq, Value.bool.injEq, and_true] at ev
    obtain ⟨e1, e2, e3, e4, e5, e6, e7, e8⟩ := ev
    rw [e1, e2, e3, e4, e5, e6, e7, e8] at e
    rw [e]
    exact rcheck_4 x w hd h1 h2 hp hp2 hda hof
  · have hof : ofV x.d = .agg #[.bool false, .bool false, .bool false, .bool false, .bool false, .bool false, .bool false, .bool false] := by rw [hx]; exact ofV15
    have e := rE_eq x (by omega) (by omega)
    have ev := hof
    rw [hx] at e
    rw [hx] at ev
    simp only [ofV, Value.agg.injEq, Array.mk.injEq, List.cons.injEq, Value.bool.injEq, and_true] at ev
    obtain ⟨e1, e2, e3, e4, e5, e6, e7, e8⟩ := ev
    rw [e1, e2, e3, e4, e5, e6, e7, e8] at e
    rw [e]
    exact rcheck_0 x w hd h1 h2 hp hp2 hda hof
end Go.Proofs.YtfdclifdemajfaaDoor.Call
