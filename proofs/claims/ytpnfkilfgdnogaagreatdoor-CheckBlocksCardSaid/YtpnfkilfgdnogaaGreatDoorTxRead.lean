/- Layer 8 (tx): what is read through a transaction: what it has written, or what the device has. -/
import Derived.Test.YtpnfkilfgdnogaaGreatDoorTx
namespace Go.Proofs.YtpnfkilfgdnogaaGreatDoor.Tx
set_option linter.unusedVariables false
set_option linter.unusedSimpArgs false
open Go.RowKit Go.Shelf Go.Maps Oct Dev
section
variable {T : TxB} {b : DevB} {hard : List ByteArray} {k nn : Nat} {f : Wrote}
def readT (f : Wrote) (hard : List ByteArray) (i : Nat) : ByteArray := match f i with
  | some s => s
  | none => hard.getD i ⟨#[]⟩
theorem under_w : Tryz.prog.underlying 137 = some (.map 3 9) := by kernel_rfl
theorem zero_str (w : World) : (zeroValue 9).run Tryz.prog w = .ok (.string ⟨#[]⟩) w := by kernel_rfl
theorem look_tx {w : World} (h : TxAt w T b hard k f nn) (i : Nat) (hi : i ≤ 4096) :
    (Instr.lookup 137 (.map (some T.m)) (.int .i64 (i : Int)) true).run Tryz.prog w = .ok (.tuple #[.string ((f i).getD ⟨#[]⟩), .bool (f i).isSome]) w := by
  obtain ⟨v, ps, hrun, hv⟩ := h.map.look_ok under_w (zero_str w) (strR_mk ⟨#[]⟩) i (wf_nat i (by omega))
  have e1 : ((strF f (i : Int)).getD (.lit (.string (L ⟨#[]⟩)))) = .lit (.string (L ((f i).getD ⟨#[]⟩))) := by
    unfold strF
    cases f i <;> rfl
  have e2 : (strF f (i : Int)).isSome = (f i).isSome := by
    unfold strF
    cases f i <;> rfl
  rw [e1] at hv
  rw [hrun, e2, strR_inv hv]
set_option maxRecDepth 100000 in
theorem read_any (i : Nat) (w : World) (h : TxAt w T b hard k f nn) (hi : i < hard.length) : Calls Tryz.prog 57 #[.pointer (some ⟨T.p, 0, none⟩), .int .i64 i] w fun e w' => e = .returned (.tuple #[.string (readT f hard i), .int .i64 0]) ∧ Below w.heap.size w w' := by
  have hlen := h.dev.len
  have OP := Lib.hid (open_any w h)
  have LN := Lib.hid (len_any w h.dev)
  have RD := Lib.hid (read_hard i w h.dev hi rfl)
  have hlk := look_tx h i (by omega)
  have q0 : decide ((i : Int) < 0) = false := by simp
  have q1 : decide ((hard.length : Int) ≤ (i : Int)) = false := by simp; omega
  have q2 : decide (hard.length ≤ i) = false := by simp; omega
  have hX := h.tx
  have X0 := hX.cell 0
  have X1 := hX.cell 1
  have X2 := hX.cell 2
  have X3 := hX.cell 3
  simp only [List.getElem?_toArray, List.getElem?_cons_zero, List.getElem?_cons_succ] at X0 X1 X2 X3
  have Xl := hX.lt
  clear hX h
  have hgd : hard.getD i ⟨#[]⟩ = hard[i] := by simp [List.getD_eq_getElem?_getD, hi]
  unfold readT
  rw [hgd]
  clear hgd
  generalize hard[i] = hs at *
  cases hf : f i with
  | some s =>
    rw [hf] at hlk
    simp only [Option.getD_some, Option.isSome_some] at hlk
    go_enter Tryz.func57, Tryz.ntmps57
    go_wp2_with fail
    refine OP.out.mono ?_
    rintro e w9 ⟨rfl, rfl⟩
    go_wp2_with fail
    refine LN.out.mono ?_
    rintro e w9 ⟨rfl, rfl⟩
    go_wp2
    go_ret2
    exact ⟨rfl, Below.refl _ _⟩
  | none =>
    rw [hf] at hlk
    simp only [Option.getD_none, Option.isSome_none] at hlk
    go_enter Tryz.func57, Tryz.ntmps57
    go_wp2_with fail
    refine OP.out.mono ?_
    rintro e w9 ⟨rfl, rfl⟩
    go_wp2_with fail
    refine LN.out.mono ?_
    rintro e w9 ⟨rfl, rfl⟩
    go_wp2_with fail
    refine RD.out.mono ?_
    rintro e w1 ⟨rfl, b1⟩
    go_wp2
    go_ret2
    exact ⟨rfl, b1⟩
end
end Go.Proofs.YtpnfkilfgdnogaaGreatDoor.Tx
