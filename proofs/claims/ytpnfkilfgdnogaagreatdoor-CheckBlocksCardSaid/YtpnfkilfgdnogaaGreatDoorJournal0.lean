/- Layer 4 (journal): how many sectors one commit may have (most, Max). -/
import Derived.Test.YtpnfkilfgdnogaaGreatDoorTxRead
namespace Go.Proofs.YtpnfkilfgdnogaaGreatDoor.Jou
set_option linter.unusedVariables false
set_option linter.unusedSimpArgs false
open Go.RowKit Go.Shelf Go.Maps Oct Dev
def mostG (n : Nat) : Nat → Nat → Nat
  | m, 0 => m
  | m, q + 1 => if m + (m + 31) / 32 + 1 ≤ n then mostG n (m + 1) q else m
def mostN (n : Nat) : Nat := mostG n 1 n - 1
theorem mostG_stop {n m q : Nat} (h : ¬ m + (m + 31) / 32 + 1 ≤ n) : mostG n m q = m := by
  cases q with
  | zero => rfl
  | succ q => rw [mostG, if_neg h]
theorem mostG_go {n m q : Nat} (h : m + (m + 31) / 32 + 1 ≤ n) (hq : 1 ≤ q) : mostG n m q = mostG n (m + 1) (q - 1) := by
  cases q with
  | zero => omega
  | succ q => rw [mostG, if_pos h]; rfl
set_option maxRecDepth 100000 in
theorem most_any (n : Nat) (w : World) (hn : n ≤ 4096) : Calls Tryz.prog 118 #[.int .i64 n] w fun e w' => e = .returned (.int .i64 (mostN n)) ∧ w = w' := by
  go_enter Tryz.func118, Tryz.ntmps118
  go_wp2_with fail
  go_loopw [3] (fun c wr => ∃ m : Nat, 1 ≤ m ∧ m ≤ n + 1 ∧ c = .int .i64 m ∧ mostG n 1 n = mostG n m (n - (m - 1)) ∧ wr = w) (fun c _ => n + 2 - (Go.RowKit.intOf c).toNat)
  case atStart => exact ⟨1, Nat.le_refl _, by omega, rfl, by rw [Nat.sub_self, Nat.sub_zero], rfl⟩
  case round =>
    obtain ⟨m, h1, h2, rfl, hg, rfl⟩ := hrel
    by_cases hle : m + (m + 31) / 32 + 1 ≤ n
    · have q0 : (m : Int) + ((m : Int) + 32 - 1) / 32 + 1 ≤ (n : Int) := by omega
      have E := Lib.hid (hg.trans (mostG_go hle (by omega)))
      clear hg
      go_wp2
      exact ⟨⟨m + 1, by omega, by omega, rfl, by rw [E.out]; congr 1; omega, trivial⟩, by simp [Go.RowKit.intOf]; omega⟩
    · have q0 : ¬ (m : Int) + ((m : Int) + 32 - 1) / 32 + 1 ≤ (n : Int) := by omega
      have E := Lib.hid (hg.trans (mostG_stop hle))
      clear hg
      go_wp2
      go_ret
      refine ⟨?_, rfl⟩
      have e1 : (m : Int) - 1 = ((mostN n : Nat) : Int) := by unfold mostN; rw [E.out]; omega
      show Ending.returned (.int .i64 ((m : Int) - 1)) = _
      rw [e1]
def JouAt (W : World) (j : Nat) (b : DevB) (from_ n gen : Nat) : Prop := SBox W j 185 #[.pointer (some ⟨b.p, 0, none⟩), .int .i64 from_, .int .i64 n, .int .u64 gen, .int .i64 0]
set_option maxRecDepth 100000 in
theorem max_any (j : Nat) (b : DevB) (from_ n gen : Nat) (w : World) (h : JouAt w j b from_ n gen) (hn : n ≤ 4096) : Calls Tryz.prog 71 #[.pointer (some ⟨j, 0, none⟩)] w fun e w' => e = .returned (.int .i64 (mostN n)) ∧ w = w' := by
  have MO := Lib.hid (fun W => most_any n W hn)
  unfold JouAt at h
  have X0 := h.cell 0
  have X1 := h.cell 1
  have X2 := h.cell 2
  have X3 := h.cell 3
  have X4 := h.cell 4
  simp only [List.getElem?_toArray, List.getElem?_cons_zero, List.getElem?_cons_succ] at X0 X1 X2 X3 X4
  have Xl := h.lt
  clear h
  go_enter Tryz.func71, Tryz.ntmps71
  go_wp2_with fail
  refine (MO.out _).mono ?_
  rintro e w9 ⟨rfl, rfl⟩
  go_wp2
  go_ret
  exact ⟨rfl, rfl⟩
end Go.Proofs.YtpnfkilfgdnogaaGreatDoor.Jou
