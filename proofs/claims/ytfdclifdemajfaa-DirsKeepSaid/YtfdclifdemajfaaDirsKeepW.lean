/- DirsKeep's walk for each script and name. -/
import Derived.Test.YtfdclifdemajfaaDirsKeep
import Derived.Test.YtfdclifdemajfaaDirArgs
namespace Go.Proofs.Ytfdclifdemajfaa.Dir
set_option linter.unusedVariables false
set_option linter.unusedSimpArgs false
open Go.RowKit Go.Shelf Oct Path
set_option maxRecDepth 100000 in
set_option maxHeartbeats 4000000 in
theorem keep_empty (ao : Option Addr) (c : Nat) (nm : ByteArray) (hnm : nm.size ≤ 140737488351232) (w : World) :
    Calls Try.prog 13 #[.slice ao 0 c, .string nm] w fun e w' => e = .returned (.bool true) ∧ Below w.heap.size w w' := by
  by_cases hn : 100 < nm.size
  · have t1 : decide ((100 : Int) < (nm.size : Int)) = true := by simp; omega
    have t2 : decide (100 < nm.size) = true := by simp; omega
    go_enter Try.func13, Try.ntmps13
    try simp only [List.append_eq, List.cons_append, List.nil_append]
    go_wp2_with fail
    refine (long_nil ao c w).mono ?_
    rintro e w' ⟨rfl, rfl⟩
    go_wp2_with fail
    refine (alive10 _).mono ?_
    rintro e w1 ⟨rfl, b1⟩
    go_wp2
    go_ret
    exact ⟨rfl, b1⟩
  · have t1 : decide ((100 : Int) < (nm.size : Int)) = false := by simp; omega
    have t2 : decide (100 < nm.size) = false := by simp; omega
    go_enter Try.func13, Try.ntmps13
    try simp only [List.append_eq, List.cons_append, List.nil_append]
    go_wp2_with fail
    refine (long_nil ao c w).mono ?_
    rintro e w' ⟨rfl, rfl⟩
    go_wp2
    go_loopw [5, 6, 7, 8] (fun t i c k wr => k = .int .i64 0 ∧ wr = w) (fun _ _ _ k _ => 0)
    case atStart => exact ⟨rfl, rfl⟩
    case round =>
      obtain ⟨rfl, rfl⟩ := hrel
      go_wp2_with fail
      refine (alive10 _).mono ?_
      rintro e w1 ⟨rfl, b1⟩
      go_wp2
      go_ret
      exact ⟨rfl, b1⟩
set_option maxRecDepth 100000 in
set_option maxHeartbeats 4000000 in
theorem keep_long (b off c : Nat) (st : List Stp) (nm : ByteArray) (w : World) (hl : st.length ≤ 8796093022208) (hst : ∀ x ∈ st, x.n.size ≤ 140737488351232) (hx : StepsAt w b off st) (hlong : longB st = true) :
    Calls Try.prog 13 #[.slice (some ⟨b, off, none⟩) st.length c, .string nm] w fun e w' => e = .returned (.bool true) ∧ Below w.heap.size w w' := by
  have LG := Lib.hid (long_row b off c st w hl hst hx)
  rw [hlong] at LG
  clear hx hst hlong
  go_enter Try.func13, Try.ntmps13
  try simp only [List.append_eq, List.cons_append, List.nil_append]
  go_wp2_with fail
  refine LG.out.mono ?_
  rintro e w' ⟨rfl, rfl⟩
  go_wp2_with fail
  refine (alive10 _).mono ?_
  rintro e w1 ⟨rfl, b1⟩
  go_wp2
  go_ret
  exact ⟨rfl, b1⟩
set_option maxRecDepth 100000 in
set_option maxHeartbeats 4000000 in
theorem keep_name (b off c : Nat) (st : List Stp) (nm : ByteArray) (w : World) (hl : st.length ≤ 8796093022208) (hst : ∀ x ∈ st, x.n.size ≤ 140737488351232) (hx : StepsAt w b off st) (hlong : longB st = false) (hn : 100 < nm.size) :
    Calls Try.prog 13 #[.slice (some ⟨b, off, none⟩) st.length c, .string nm] w fun e w' => e = .returned (.bool true) ∧ Below w.heap.size w w' := by
  have LG := Lib.hid (long_row b off c st w hl hst hx)
  rw [hlong] at LG
  clear hx hst hlong
  have t1 : decide ((100 : Int) < (nm.size : Int)) = true := by simp; omega
  have t2 : decide (100 < nm.size) = true := by simp; omega
  go_enter Try.func13, Try.ntmps13
  try simp only [List.append_eq, List.cons_append, List.nil_append]
  go_wp2_with fail
  refine LG.out.mono ?_
  rintro e w' ⟨rfl, rfl⟩
  go_wp2_with fail
  refine (alive10 _).mono ?_
  rintro e w1 ⟨rfl, b1⟩
  go_wp2
  go_ret
  exact ⟨rfl, b1⟩
theorem keep_walk (v : Value) (st : List Stp) (nm : ByteArray) (w : World) (hS : StepArg w v st) (hl : st.length ≤ 8796093022208) (hst : ∀ x ∈ st, x.n.size ≤ 140737488351232 ∧ x.i < 4294967296) (hnm : nm.size ≤ 140737488351232) :
    Calls Try.prog 13 #[v, .string nm] w fun e w' => e = .returned (.bool true) ∧ Below w.heap.size w w' := by
  rcases hS with ⟨ao, c, rfl, rfl⟩ | ⟨b, o, c, rfl, hb, hx⟩
  · exact keep_empty ao c nm hnm w
  · cases hlong : longB st with
    | true => exact keep_long b o c st nm w hl (fun x h => (hst x h).1) hx hlong
    | false =>
      by_cases hn : 100 < nm.size
      · exact keep_name b o c st nm w hl (fun x h => (hst x h).1) hx hlong hn
      · obtain ⟨h100, h4⟩ := long_no hlong
        exact keep_loop b o c st nm w h100 (fun x h => ⟨h4 x h, (hst x h).2⟩) (by omega) hx hb hlong
end Go.Proofs.Ytfdclifdemajfaa.Dir
