/- Layer 10: the walk of dirs.slots: the entries of a text, one behind the other. -/
import Derived.Test.YtfdclifdemajfaaDirRead
namespace Go.Proofs.Ytfdclifdemajfaa.Dir
set_option linter.unusedVariables false
set_option linter.unusedSimpArgs false
open Go.RowKit Go.Shelf Oct Path
attribute [local go_sem] Oper.semAt_some
def slotPair (s : List UInt8) (k : Nat) : Nat × Ent := (k, entL (partL s k))
def slotArgs (x : Nat × Ent) : Array Value := #[.int .i64 (x.1 : Int), .agg #[.string (B x.2.1), .int .u32 x.2.2]]
theorem slots_upto (s : List UInt8) : (upto (slotPair s) (s.length / 32)).map Prod.snd = slotsL s := by simp [upto, slotsL, slotPair]
theorem ex_part (s : ByteArray) (k : Nat) : s.extract (k * 32) ((k + 1) * 32) = B (partL (L s) k) := by
  apply L_inj
  show (s.extract (k * 32) ((k + 1) * 32)).data.toList = _
  rw [ByteArray.data_extract, Array.toList_extract, List.extract_eq_take_drop, L_B]
  unfold partL
  rw [show (k + 1) * 32 - k * 32 = 32 by omega, Nat.mul_comm k 32]
  rfl
theorem len_part (s : ByteArray) (k : Nat) (h : k < s.size / 32) : (B (partL (L s) k)).size = 32 := by
  rw [size_B]
  unfold partL
  rw [List.length_take, List.length_drop, len_L]
  omega
theorem readV_ent (t : List UInt8) : ∃ (e : Ent) (b : Bool), readV t = .tuple #[.agg #[.string (B e.1), .int .u32 e.2], .bool b] ∧ (b = true → entL t = e) ∧ (b = false → entL t = ([], 1)) := by
  cases h : readL t with
  | none => exact ⟨([], 0), false, readV_none h, fun h => (by cases h), fun _ => by unfold entL; rw [h]; rfl⟩
  | some e => exact ⟨e, true, readV_some h, fun _ => by unfold entL; rw [h]; rfl, fun h => by cases h⟩
theorem grown_of_below {W W' : World} (h : Below W.heap.size W W') : W.grownBy W' none := ⟨h.os, h.tape, h.output, h.size, fun k hk _ => h.block k hk⟩
theorem pair_ent (s : List UInt8) (k : Nat) {e : Ent} (h : entL (partL s k) = e) : slotPair s k = (k, e) := by unfold slotPair; rw [h]
set_option maxRecDepth 100000 in
set_option maxHeartbeats 1000000 in
theorem slots1_in (n : Nat) (hn : 2 ≤ n) (l Bs : Nat) (s : ByteArray) (hs : s.size ≤ 1099511627776) (J Jx : List Nat → World → Prop)
    (hJ : ∀ pre W W', J pre W → W.grownBy W' none → J pre W')
    (hY : ∀ pre x W, J pre W → pre.length < s.size / 32 → YieldAt Fence.wide (n - 1) Try.prog l (slotArgs (slotPair (L s) x)) W fun e W' =>
      (e = .returned (.bool true) ∧ J (pre ++ [x]) W' ∧ KeptBox Bs 9 W W') ∨ (e = .returned (.bool false) ∧ Jx (pre ++ [x]) W'))
    (W : World) (hBs : Boxed W Bs 9 (.string s)) (h0 : J [] W) :
    CallsIn Fence.wide n Try.prog 87 #[.func (.yield l) #[] #[], .pointer (some ⟨Bs, 0, none⟩)] W fun e W' => (∃ v, e = .returned v) ∧
      ((∃ ys, ys = List.range (s.size / 32) ∧ J ys W') ∨ (∃ pre, (∃ k, k ≤ s.size / 32 ∧ pre = List.range k) ∧ Jx pre W')) := by
  have hc0 := hBs.cell
  refine callsIn_of_wp Try.func87 rfl trivial ?_ rfl
  simp only [Try.ntmps87, List.size_toArray, List.length_cons, List.length_nil, Nat.reduceAdd, Nat.reduceSub, Array.replicate_succ, Array.replicate_zero, List.push_toArray, List.append_toArray, List.nil_append, List.cons_append]
  gi_wp2
  gi_loopw [9] (fun i wr => ∃ k : Nat, k ≤ s.size / 32 ∧ i = .int .i64 k ∧ J (List.range k) wr ∧ Boxed wr Bs 9 (.string s))
    (fun i _ => s.size / 32 - (intOf i).toNat)
  case atStart => exact ⟨0, Nat.zero_le _, rfl, h0, hBs⟩
  case round =>
    obtain ⟨k, hk, rfl, hJs, hnx⟩ := hrel
    have hcx := hnx.cell
    by_cases hlt : k < s.size / 32
    · have HR := Lib.hid (fun W => read_any (B (partL (L s) k)) W (len_part s k hlt))
      obtain ⟨e, b, hv, hb1, hb2⟩ := readV_ent (partL (L s) k)
      rw [L_B, hv] at HR
      have EX := Lib.hid (ex_part s k)
      have w1 : IntKind.i64.wrap ((k : Int) * 32) = (k : Int) * 32 := IntWalk.i64_in _ (by omega)
      have w2 : IntKind.i64.wrap ((k : Int) + 1) = (k : Int) + 1 := IntWalk.i64_in _ (by omega)
      have w3 : IntKind.i64.wrap (((k : Int) + 1) * 32) = ((k : Int) + 1) * 32 := IntWalk.i64_in _ (by omega)
      have a1 : (0 : Int) ≤ (k : Int) * 32 := by omega
      have a2 : (k : Int) * 32 ≤ ((k : Int) + 1) * 32 := by omega
      have a4 : ((k : Int) + 1) * 32 ≤ (s.size : Int) := by omega
      have n1 : ((k : Int) * 32).toNat = k * 32 := by omega
      have n2 : (((k : Int) + 1) * 32).toNat = (k + 1) * 32 := by omega
      have hlen : (List.range k).length < s.size / 32 := by rw [List.length_range]; exact hlt
      have HEN2 : Hid (List.range (k + 1) = List.range k ++ [k]) := Lib.hid List.range_succ
      have HEN : Hid (slotPair (L s) k = (k, if b then e else ([], 1))) := Lib.hid (by
        cases b
        · exact pair_ent (L s) k (hb2 rfl)
        · exact pair_ent (L s) k (hb1 rfl))
      have hHY : Hid _ := Lib.hid hY
      have hHJ : Hid _ := Lib.hid hJ
      clear hv hb1 hb2 hY hJ hc0 hBs h0
      cases b
      · have HEN3 : Hid (slotPair (L s) k = (k, (([], 1) : Ent))) := HEN
        gi_wp2_with fail
        refine ⟨trivial, (fun h => by cases h), ?_⟩
        rw [EX.out]
        refine (callsIn_wide.2 (HR.out _)).mono ?_
        rintro q w4 ⟨rfl, b4⟩
        have hnx4 : Boxed w4 Bs 9 (.string s) := (b4.block Bs hnx.lt).trans hnx
        have hlt4 := hnx4.lt
        have hlt5 := hnx.lt
        have hle4 := b4.size
        have g5 : Below wr.heap.size wr (w4.alloc (.cells #[.string ⟨#[]⟩, .int .u32 1] 73)) := b4.alloc hle4 _
        have hnx5 : Hid (Boxed (w4.alloc (.cells #[.string ⟨#[]⟩, .int .u32 1] 73)) Bs 9 (.string s)) := Lib.hid (hnx4.alloc _)
        obtain ⟨fn, tmps, assign, body, hy, hR⟩ := hHY.out _ k _ (hHJ.out _ _ _ hJs (grown_of_below g5)) hlen
        rw [HEN3.out] at hy
        dsimp only [slotArgs] at hy
        rw [show B [] = (⟨#[]⟩ : ByteArray) from rfl, show ((1 : Nat) : Int) = 1 from rfl] at hy
        clear b4 g5 hnx4
        gi_wp2
        refine ⟨(fun h => by cases h), ?_⟩
        refine hR.mono ?_
        rintro q W3 (⟨rfl, hJ3, hk3⟩ | ⟨rfl, hJx3⟩)
        · gi_wp2
          go_roundw
          case rel => exact ⟨k + 1, by omega, by simp, by rw [HEN2.out]; exact hJ3, hk3 _ hnx5.out⟩
          case measure => simp [intOf]; omega
        · gi_wp2
          refine bodyPost_ret (results_none rfl _ _ _) rfl ?_
          exact ⟨⟨_, rfl⟩, .inr ⟨_, ⟨k + 1, by omega, HEN2.out.symm⟩, hJx3⟩⟩
      · have HEN3 : Hid (slotPair (L s) k = (k, e)) := HEN
        gi_wp2_with fail
        refine ⟨trivial, (fun h => by cases h), ?_⟩
        rw [EX.out]
        refine (callsIn_wide.2 (HR.out _)).mono ?_
        rintro q w4 ⟨rfl, b4⟩
        have hnx4 : Boxed w4 Bs 9 (.string s) := (b4.block Bs hnx.lt).trans hnx
        have hlt4 := hnx4.lt
        have hlt5 := hnx.lt
        have hle4 := b4.size
        have g5 : Below wr.heap.size wr (w4.alloc (.cells #[.string (B e.1), .int .u32 e.2] 73)) := b4.alloc hle4 _
        have hnx5 : Hid (Boxed (w4.alloc (.cells #[.string (B e.1), .int .u32 e.2] 73)) Bs 9 (.string s)) := Lib.hid (hnx4.alloc _)
        obtain ⟨fn, tmps, assign, body, hy, hR⟩ := hHY.out _ k _ (hHJ.out _ _ _ hJs (grown_of_below g5)) hlen
        rw [HEN3.out] at hy
        dsimp only [slotArgs] at hy
        clear b4 g5 hnx4
        gi_wp2
        refine ⟨(fun h => by cases h), ?_⟩
        refine hR.mono ?_
        rintro q W3 (⟨rfl, hJ3, hk3⟩ | ⟨rfl, hJx3⟩)
        · gi_wp2
          go_roundw
          case rel => exact ⟨k + 1, by omega, by simp, by rw [HEN2.out]; exact hJ3, hk3 _ hnx5.out⟩
          case measure => simp [intOf]; omega
        · gi_wp2
          refine bodyPost_ret (results_none rfl _ _ _) rfl ?_
          exact ⟨⟨_, rfl⟩, .inr ⟨_, ⟨k + 1, by omega, HEN2.out.symm⟩, hJx3⟩⟩
    · obtain rfl : k = s.size / 32 := by omega
      gi_wp2
      go_end0
      exact ⟨⟨_, rfl⟩, .inl ⟨_, rfl, hJs⟩⟩
end Go.Proofs.Ytfdclifdemajfaa.Dir
