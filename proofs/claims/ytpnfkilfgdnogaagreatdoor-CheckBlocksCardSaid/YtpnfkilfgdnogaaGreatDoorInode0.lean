/- Layers 7 and 11, the least functions: zero, Pages, pad, put (a row of numbers, two bytes each). -/
import Derived.Test.YtpnfkilfgdnogaaGreatDoorGeoM
namespace Go.Proofs.YtpnfkilfgdnogaaGreatDoor.Ino
set_option linter.unusedVariables false
set_option linter.unusedSimpArgs false
open Go.RowKit Go.Shelf Oct Geo
theorem zero_any (w : World) : Calls Tryz.prog 69 #[] w fun e w' => e = .returned (.string (B (nil0 64))) ∧ Below w.heap.size w w' := by
  have hmk : (Instr.makeSlice 52 (.int .i64 64) (.int .i64 64)).run Tryz.prog w = .ok (.slice (some ⟨w.heap.size, 0, none⟩) 64 64) (w.alloc (.cells (madeCells #[.int .u8 0] 64) 5)) := run_made 64 (by omega) w
  have hzz := run_zero 64 w
  go_enter Tryz.func69, Tryz.ntmps69
  go_wp2
  go_ret
  exact ⟨rfl, (Below.refl _ _).alloc (Nat.le_refl _) _⟩
def pagesN (s : Nat) : Nat := (s + 63) / 64
theorem pages_any (s : Nat) (w : World) (hs : s < 4294967296) : Calls Tryz.prog 60 #[.int .u32 s] w fun e w' => e = .returned (.int .i64 (pagesN s)) ∧ w = w' := by
  go_enter Tryz.func60, Tryz.ntmps60
  go_wp2
  go_ret
  refine ⟨?_, rfl⟩
  have e1 : ((s : Int) + 64 - 1) / 64 = ((pagesN s : Nat) : Int) := by unfold pagesN; omega
  show Ending.returned (.int .i64 (((s : Int) + 64 - 1) / 64)) = _
  rw [e1]
theorem pad_any (s : ByteArray) (n : Nat) (w : World) (hs : s.size ≤ n) (hn : n ≤ 100000) : Calls Tryz.prog 109 #[.string s, .int .i64 n] w fun e w' => e = .returned (.string (B (L s ++ nil0 (n - s.size)))) ∧ Below w.heap.size w w' := by
  have e1 : (n : Int) - (s.size : Int) = ((n - s.size : Nat) : Int) := by omega
  have hmk := run_made (n - s.size) (by omega) w
  have hzz := run_zero (n - s.size) w
  have hz : s.size + (B (nil0 (n - s.size))).size ≤ 100000 := by rw [size_B, nil0_len]; omega
  have E := Lib.hid (show s ++ B (nil0 (n - s.size)) = B (L s ++ nil0 (n - s.size)) by rw [append_B]; rfl)
  go_enter Tryz.func109, Tryz.ntmps109
  go_wp2
  go_ret
  refine ⟨?_, (Below.refl _ _).alloc (Nat.le_refl _) _⟩
  rw [← E.out]
  rfl
def putL2 (l : List Nat) : List UInt8 := l.flatMap fun v => numL v 2
theorem putL2_len : ∀ l : List Nat, (putL2 l).length = 2 * l.length
  | [] => rfl
  | v :: r => by
    have := putL2_len r
    simp only [putL2, List.flatMap_cons, List.length_append, len_numL, List.length_cons] at this ⊢
    omega
theorem putL2_snoc (l : List Nat) (v : Nat) : putL2 (l ++ [v]) = putL2 l ++ numL v 2 := by simp [putL2]
set_option maxRecDepth 100000 in
set_option maxHeartbeats 1000000 in
theorem put_any (l : List Nat) (b o cap : Nat) (w : World) (hl : l.length ≤ 64) (hv : ∀ v ∈ l, v < 65536) (hb : b < w.heap.size) (hc : ∀ i (h : i < l.length), w.cell? ⟨b, o + i, none⟩ = some (.int .u16 l[i])) :
    Calls Tryz.prog 108 #[.slice (some ⟨b, o, none⟩) l.length cap] w fun e w' => e = .returned (.string (B (putL2 l))) ∧ Below w.heap.size w w' := by
  have HC := Lib.hid hc
  have HV := Lib.hid hv
  clear hc hv
  go_enter Tryz.func108, Tryz.ntmps108
  go_wp2_with fail
  go_loopw [2, 4, 5, 6, 9] (fun s _ _ _ c wr => ∃ m : Nat, m ≤ l.length ∧ c = .int .i64 m ∧ s = .string (B (putL2 (l.take m))) ∧ Below w.heap.size w wr) (fun _ _ _ _ c _ => l.length - (intOf c).toNat)
  case atStart => exact ⟨0, Nat.zero_le _, rfl, rfl, Below.refl _ _⟩
  case round =>
    obtain ⟨m, hm, rfl, rfl, hB⟩ := hrel
    by_cases hlt : m < l.length
    · have q0 : (0 : Int) ≤ m := by omega
      have q1 : (m : Int) < l.length := by omega
      have c1 := (hB.cell (p := ⟨b, o + m, none⟩) hb).trans (HC.out m hlt)
      have hbl : b < wr.heap.size := Nat.lt_of_lt_of_le hb hB.size
      have hvm := HV.out l[m] (List.getElem_mem hlt)
      have NU := Lib.hid (fun W => num_ok l[m] 2 W (by omega) (by omega))
      have hz : (B (putL2 (l.take m))).size + (B (numL l[m] 2)).size ≤ 300 := by rw [size_B, size_B, len_numL, putL2_len, List.length_take]; omega
      have E := Lib.hid (show B (putL2 (l.take m)) ++ B (numL l[m] 2) = B (putL2 (l.take (m + 1))) by rw [append_B, List.take_add_one, List.getElem?_eq_getElem hlt]; rw [show (some l[m]).toList = [l[m]] from rfl, putL2_snoc]; rfl)
      generalize B (putL2 (l.take m)) = s0 at *
      generalize B (numL l[m] 2) = t0 at *
      have HB := Lib.hid hB
      go_wp2_with fail
      refine (NU.out _).mono ?_
      rintro e w1 ⟨rfl, b1⟩
      go_wp2_with fail
      exact ⟨⟨m + 1, by omega, rfl, by rw [E.out], HB.out.trans (b1.mono HB.out.size)⟩, by simp [intOf]; omega⟩
    · obtain rfl : m = l.length := by omega
      go_wp2
      go_ret
      refine ⟨?_, hB⟩
      show Ending.returned (.string (B (putL2 (l.take l.length)))) = _
      rw [List.take_length]
end Go.Proofs.YtpnfkilfgdnogaaGreatDoor.Ino
