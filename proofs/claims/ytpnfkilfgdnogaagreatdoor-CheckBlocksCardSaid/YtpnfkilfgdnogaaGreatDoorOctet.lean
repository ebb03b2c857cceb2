/- The walks of package octet's Num and Get, and of the reference's. -/
import Derived.Test.YtpnfkilfgdnogaaGreatDoorProg
import Derived.Test.YtpnfkilfgdnogaaGreatDoorOctetPlain
import Derived.WalkKit
import Derived.WalkSpells
import Derived.WalkLawsBesides
import Derived.Lib.Hide
import Derived.Laws.IdiomStrings
import Derived.Deep.OwnRows
import Derived.Laws.MakeOwn
namespace Go.Proofs.YtpnfkilfgdnogaaGreatDoor.Oct
open Go.RowKit
set_option maxHeartbeats 400000 in
theorem get_ok (s : ByteArray) (w : World) (h : s.size ≤ 8) :
    Calls Tryz.prog 51 #[.string s] w fun e w' => e = .returned (.tuple #[.int .u64 (valL (L s)), .int .i64 0]) ∧ w = w' := by
  have hd : decide (8 < s.size) = false := by simp; omega
  have hd' : decide (8 < (s.size : Int)) = false := by simp; omega
  go_enter Tryz.func51, Tryz.ntmps51
  go_wp2
  go_loop [2, 10] (fun v i => ∃ k : Nat, k ≤ s.size ∧ i = .int .i64 k ∧ v = .int .u64 (valL ((L s).take k))) (fun _ i => s.size - (intOf i).toNat)
  case atStart => exact ⟨0, Nat.zero_le _, rfl, rfl⟩
  case round =>
    obtain ⟨k, hk, rfl, rfl⟩ := hrel
    by_cases hlt : k < s.size
    · have HS := Lib.hid (or_step s k hlt h)
      go_wp2
      go_round
      case rel => exact ⟨k + 1, by omega, by go_num, by rw [HS.out]⟩
      case measure => simp [intOf]; omega
    · go_wp2
      go_ret2
      refine ⟨?_, rfl⟩
      rw [List.take_of_length_le (by rw [len_L]; omega)]
      rfl
theorem info_u8 : (Tryz.prog.info? 5).map (fun i => (i.zero, i.size, i.bytes)) = some (some (.int .u8 0), 1, 1) := by kernel_rfl
theorem run_made (n : Nat) (hn : n ≤ 1099511627776) (w : World) : (Instr.makeSlice 52 (.int .i64 (n : Int)) (.int .i64 (n : Int))).run Tryz.prog w =
    .ok (.slice (some ⟨w.heap.size, 0, none⟩) n n) (w.alloc (.cells (madeCells #[.int .u8 0] n) 5)) := by
  obtain ⟨i0, hi, hz0, hz1, hz2⟩ := info_parts info_u8
  have h := run_make (P := Tryz.prog) w 52 5 i0 (.int .u8 0) Tryz.underlying52 hi hz0 .i64 .i64 (n : Int) (n : Int) (by omega) (Int.le_refl _) (by rw [hz2]; omega) (by omega)
  simpa [hz1, Value.cells] using h
theorem run_back (w : World) (b cap : Nat) (l : List UInt8) (f : Nat → Value) (hr : w.rowIs b 5 l.length f) (hf : ∀ j (h : j < l.length), f j = .int .u8 (l[j].toNat : Int)) :
    (convert 52 9 (.slice (some ⟨b, 0, none⟩) l.length cap)).run Tryz.prog w = .ok (.string (B l)) w :=
  run_convert_bytes_back w 52 9 5 ⟨b, 0, none⟩ cap l Tryz.underlying52 Tryz.underlying5 Tryz.underlying9 (fun j hj => by
    have e1 : ((⟨b, 0, none⟩ : Addr).add j) = ⟨b, j, none⟩ := by unfold Addr.add; simp; omega
    rw [e1, hr.cell hj, hf j hj])
def numCell (v k : Nat) (j : Nat) : Value := if j < k then .int .u8 ((v / 256 ^ j % 256 : Nat) : Int) else .int .u8 0
theorem numCell_all (v n j : Nat) (h : j < (numL v n).length) : numCell v n j = .int .u8 ((numL v n)[j].toNat : Int) := by
  have hj : j < n := by rw [len_numL] at h; exact h
  unfold numCell
  rw [if_pos hj]
  simp only [numL, List.getElem_map, List.getElem_range]
  rw [UInt8.toNat_ofNat', Nat.mod_eq_of_lt (Nat.mod_lt _ (by decide))]
theorem byte_of (v k : Nat) : IntKind.u8.wrap ((v : Int) / 2 ^ (8 * k)) = ((v / 256 ^ k % 256 : Nat) : Int) := by
  have e : ((v : Int) / 2 ^ (8 * k)) = ((v / 256 ^ k : Nat) : Int) := by rw [pow256]; norm_cast
  rw [e, IntKind.wrap_u8']
  generalize v / 256 ^ k = x
  omega
theorem num_store {W : World} {b v k n : Nat} (hr : W.rowIs b 5 n (numCell v k)) : (W.setCell ⟨b, k, none⟩ (.int .u8 (IntKind.u8.wrap ((v : Int) / 2 ^ (8 * k))))).rowIs b 5 n (numCell v (k + 1)) :=
  (hr.set k _).congr (fun j _ => by
    unfold numCell
    by_cases e : j = k
    · subst e; rw [if_pos rfl, if_pos (by omega), byte_of]
    · rw [if_neg e]
      by_cases e2 : j < k
      · rw [if_pos e2, if_pos (by omega)]
      · rw [if_neg e2, if_neg (by omega)])
set_option maxHeartbeats 1000000 in
theorem num_ok (v n : Nat) (w : World) (hn : n ≤ 8) (hv : v < 256 ^ n) :
    Calls Tryz.prog 101 #[.int .u64 v, .int .i64 n] w fun e w' => e = .returned (.tuple #[.string (B (numL v n)), .int .i64 0]) ∧ Below w.heap.size w w' := by
  have hmk := fun W => run_made n (by omega) W
  have t1 : decide ((n : Int) < 0) = false := by simp
  have t2 : decide (8 < n) = false := by simp; omega
  have hz : ((v : Int) / 2 ^ (8 * n)) = 0 := by
    have e : ((v : Int) / 2 ^ (8 * n)) = ((v / 256 ^ n : Nat) : Int) := by rw [pow256]; norm_cast
    rw [e, Nat.div_eq_of_lt hv]; rfl
  clear hv
  have t2' : decide (8 < (n : Int)) = false := by simp; omega
  have r0 := World.rowIs_made w (.int .u8 0) n 5
  have R0 := Lib.hid (r0.congr (g := numCell v 0) (fun j _ => by simp [numCell]))
  clear r0
  have B0 := Lib.hid ((Below.refl w.heap.size w).alloc (Nat.le_refl _) (.cells (madeCells #[.int .u8 0] n) 5))
  have t3 : (decide (n < 8) = false ∧ decide ((n : Int) < 8) = false) ∨ (decide (n < 8) = true ∧ decide ((n : Int) < 8) = true) := by simp; omega
  rcases t3 with ⟨t3, t4⟩ | ⟨t3, t4⟩
  all_goals
    go_enter Tryz.func101, Tryz.ntmps101
    go_wp2
    have HZ := Lib.hid hz
    clear hz
    go_loopw [28] (fun i wr => ∃ k : Nat, k ≤ n ∧ i = .int .i64 k ∧ wr.rowIs w.heap.size 5 n (numCell v k) ∧ Below w.heap.size w wr) (fun i _ => n - (intOf i).toNat)
    case atStart => exact ⟨0, Nat.zero_le _, rfl, R0.out, B0.out⟩
    case round =>
      obtain ⟨k, hk, rfl, hr, hB⟩ := hrel
      by_cases hlt : k < n
      · have hc := hr.cell hlt
        have hf := hr.frozen k
        have RS := Lib.hid (num_store hr)
        clear hr
        go_wp2
        go_roundw
        case rel => exact ⟨k + 1, by omega, by go_num, RS.out, hB.setCell (by simp) _⟩
        case measure => simp [intOf]; omega
      · obtain rfl : k = n := by omega
        have hback := run_back wr w.heap.size k (numL v k) _ (by rw [len_numL]; exact hr) (fun j h => numCell_all v k j h)
        rw [len_numL] at hback
        clear hr
        go_wp2
        go_ret2
        exact ⟨rfl, hB⟩
end Go.Proofs.YtpnfkilfgdnogaaGreatDoor.Oct
