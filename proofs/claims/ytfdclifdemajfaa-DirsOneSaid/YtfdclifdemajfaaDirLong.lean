/- Layer 10: the steps of a script, in memory; long. -/
import Derived.Test.YtfdclifdemajfaaDirAlive
namespace Go.Proofs.Ytfdclifdemajfaa.Dir
set_option linter.unusedVariables false
set_option linter.unusedSimpArgs false
open Go.RowKit Go.Shelf Oct Path
structure Stp where
  d : Int
  n : ByteArray
  i : Nat
def StepsAt (W : World) (b o : Nat) (st : List Stp) : Prop := ∀ j (h : j < st.length), W.cell? ⟨b, o + j * 3, none⟩ = some (.int .i64 (st[j]'h).d) ∧ W.cell? ⟨b, o + j * 3 + 1, none⟩ = some (.string (st[j]'h).n) ∧ W.cell? ⟨b, o + j * 3 + 2, none⟩ = some (.int .u32 (st[j]'h).i)
def sumN (st : List Stp) : Nat := (st.map fun x => x.n.size).sum
theorem sumN_snoc (st : List Stp) (x : Stp) : sumN (st ++ [x]) = sumN st + x.n.size := by simp [sumN]
theorem sumN_le {st : List Stp} {m : Nat} (h : ∀ x ∈ st, x.n.size ≤ m) : sumN st ≤ st.length * m := by
  induction st with
  | nil => simp [sumN]
  | cons x r ih =>
    have h1 := ih (fun y hy => h y (by simp [hy]))
    have h2 := h x (by simp)
    simp only [sumN, List.map_cons, List.sum_cons, List.length_cons, Nat.succ_mul] at h1 ⊢
    omega
theorem mem_sumN {x : Stp} : ∀ {st : List Stp}, x ∈ st → x.n.size ≤ sumN st
  | y :: r, h => by
    simp only [sumN, List.map_cons, List.sum_cons]
    rcases List.mem_cons.1 h with h1 | h1
    · rw [h1]; omega
    · have := mem_sumN h1
      simp only [sumN] at this
      omega
def longB (st : List Stp) : Bool := decide (100 < st.length) || decide (4096 < sumN (st.take 200))
theorem long_no {st : List Stp} (h : longB st = false) : st.length ≤ 100 ∧ ∀ x ∈ st, x.n.size ≤ 4096 := by
  simp only [longB, Bool.or_eq_false_iff, decide_eq_false_iff_not, Nat.not_lt] at h
  refine ⟨h.1, fun x hx => ?_⟩
  have h2 := h.2
  rw [List.take_of_length_le (by omega)] at h2
  have := mem_sumN hx
  omega
set_option maxRecDepth 100000 in
set_option maxHeartbeats 1000000 in
theorem long_row (b o c : Nat) (st : List Stp) (w : World) (hl : st.length ≤ 8796093022208) (hn : ∀ x ∈ st, x.n.size ≤ 140737488351232) (hx : StepsAt w b o st) :
    Calls Try.prog 47 #[.slice (some ⟨b, o, none⟩) st.length c] w fun e w' => e = .returned (.bool (longB st)) ∧ w = w' := by
  have HX := Lib.hid hx
  have HN := Lib.hid hn
  clear hx hn
  go_enter Try.func47, Try.ntmps47
  go_wp2
  go_loop [3, 4] (fun n i => ∃ k : Nat, k ≤ st.length ∧ k ≤ 200 ∧ i = .int .i64 k ∧ n = .int .i64 (sumN (st.take k))) (fun _ i => 200 - (intOf i).toNat)
  case atStart => exact ⟨0, Nat.zero_le _, Nat.zero_le _, rfl, rfl⟩
  case round =>
    obtain ⟨k, hk, hk2, rfl, rfl⟩ := hrel
    by_cases hlt : k < st.length
    · by_cases h200 : k < 200
      · obtain ⟨c0, c1, c2⟩ := HX.out k hlt
        have ht : st.take (k + 1) = st.take k ++ [st[k]] := by rw [List.take_succ_eq_append_getElem hlt]
        have hs : sumN (st.take (k + 1)) = sumN (st.take k) + st[k].n.size := by rw [ht, sumN_snoc]
        have hsn := HN.out st[k] (List.getElem_mem hlt)
        have hss := sumN_le (st := st.take k) (m := 140737488351232) (fun x hx => HN.out x (List.mem_of_mem_take hx))
        have hlk : (st.take k).length ≤ 200 := by rw [List.length_take]; omega
        have hss2 : sumN (st.take k) ≤ 200 * 140737488351232 := Nat.le_trans hss (Nat.mul_le_mul_right _ hlk)
        obtain ⟨x, hx⟩ : ∃ x, st[k] = x := ⟨_, rfl⟩
        rw [hx] at c0 c1 c2 hsn hs
        have HS := Lib.hid hs
        obtain ⟨sn, hsn0⟩ : ∃ m, sumN (st.take k) = m := ⟨_, rfl⟩
        rw [hsn0] at hss2 hs
        have HS2 := Lib.hid hs
        rw [hsn0]
        have q0 : (0 : Int) ≤ (k : Int) := by omega
        have q1 : (k : Int) < (st.length : Int) := by omega
        clear hs hx hss ht hlk hsn0 HS
        go_wp2
        go_round
        case rel => exact ⟨k + 1, by omega, by omega, by go_num, by rw [HS2.out]; go_num⟩
        case measure => simp [intOf]; omega
      · obtain rfl : k = 200 := by omega
        have t1 : decide (100 < (st.length : Int)) = true := by simp; omega
        have t2 : decide (100 < st.length) = true := by simp; omega
        have HF : Hid (longB st = true) := Lib.hid (by simp [longB]; omega)
        go_wp2
        go_ret
        exact ⟨by rw [HF.out]; rfl, rfl⟩
    · obtain rfl : k = st.length := by omega
      rw [List.take_length]
      have HF : Hid (longB st = (decide (100 < st.length) || decide (4096 < sumN st))) := Lib.hid (by unfold longB; rw [List.take_of_length_le hk2])
      generalize sumN st = sn at *
      by_cases h1 : 100 < st.length
      · have t1 : decide (100 < (st.length : Int)) = true := by simp; omega
        go_wp2
        go_ret
        exact ⟨by rw [HF.out]; simp [h1], rfl⟩
      · have t1 : decide (100 < (st.length : Int)) = false := by simp; omega
        go_wp2
        go_ret
        refine ⟨?_, rfl⟩
        rw [HF.out]
        simp [h1]
        omega
theorem long_nil (ao : Option Addr) (c : Nat) (w : World) : Calls Try.prog 47 #[.slice ao 0 c] w fun e w' => e = .returned (.bool false) ∧ w = w' := by
  go_enter Try.func47, Try.ntmps47
  go_wp2
  refine wp_loop_rounds 1 ?_
  rw [rounds_succ]
  go_wp2
  go_ret
  exact ⟨rfl, rfl⟩
end Go.Proofs.Ytfdclifdemajfaa.Dir
