/- Layer 20, the document's answer: the cutter. -/
import Derived.Test.YtfdclifdemajfaaDoorCallRef
namespace Go.Proofs.YtfdclifdemajfaaDoor.Call
set_option linter.unusedVariables false
set_option linter.unusedSimpArgs false
open Go.RowKit Oct Path
/-- The cutter in memory: what is left, and whether all that was asked was there. -/
def Cut (w : World) (b : Nat) (s : ByteArray) (is : Bool) : Prop := w.heap[b]? = some (.cells #[.string s, .bool is] 62 (0, 0))
theorem Cut.lt {w : World} {b : Nat} {s : ByteArray} {is : Bool} (h : Cut w b s is) : b < w.heap.size := lt_of_block h
theorem Cut.c0 {w : World} {b : Nat} {s : ByteArray} {is : Bool} (h : Cut w b s is) : w.cell? ⟨b, 0, none⟩ = some (.string s) := by unfold Cut at h; simp [World.cell?, h]
theorem Cut.c1 {w : World} {b : Nat} {s : ByteArray} {is : Bool} (h : Cut w b s is) : w.cell? ⟨b, 1, none⟩ = some (.bool is) := by unfold Cut at h; simp [World.cell?, h]
theorem Cut.free {w : World} {b : Nat} {s : ByteArray} {is : Bool} (h : Cut w b s is) (i : Nat) : w.frozen? ⟨b, i, none⟩ = false := by unfold Cut at h; simp [World.frozen?, h]
theorem Cut.set0 {w : World} {b : Nat} {s : ByteArray} {is : Bool} (h : Cut w b s is) (t : ByteArray) : Cut (w.setCell ⟨b, 0, none⟩ (.string t)) b t is := by unfold Cut; rw [heap_setCell_same w b 0 _ _ _ h]; rfl
theorem Cut.set1 {w : World} {b : Nat} {s : ByteArray} {is : Bool} (h : Cut w b s is) (t : Bool) : Cut (w.setCell ⟨b, 1, none⟩ (.bool t)) b s t := by unfold Cut; rw [heap_setCell_same w b 1 _ _ _ h]; rfl
/-- Only that block has changed. -/
structure Only (b : Nat) (w w' : World) : Prop where
  size : w'.heap.size = w.heap.size
  other : ∀ c, c ≠ b → w'.heap[c]? = w.heap[c]?
  below : Below b w w'
theorem Only.set (w : World) (b i : Nat) (v : Value) : Only b w (w.setCell ⟨b, i, none⟩ v) :=
  ⟨by simp, fun c hc => heap_setCell_other w ⟨b, i, none⟩ c v hc, Below.setCell (p := ⟨b, i, none⟩) (Below.refl b w) (Nat.le_refl b) v⟩
theorem Only.trans {b : Nat} {w w' w'' : World} (h : Only b w w') (g : Only b w' w'') : Only b w w'' :=
  ⟨g.size.trans h.size, fun c hc => (g.other c hc).trans (h.other c hc), h.below.trans g.below⟩
theorem u32_fit (a : Nat) (h : a < 4294967296) : IntKind.u32.wrap (a : Int) = (a : Int) := by
  simp [IntKind.wrap, IntKind.bits, IntKind.signed]; omega
theorem or_plain32 (V b k : Nat) (hV : V < 256 ^ k) (hb : b < 256) (h4 : k < 4) :
    bits BinOp.or IntKind.u32 (V : Int) (IntKind.u32.wrap (IntKind.u32.wrap (b : Int) * 2 ^ (8 * k))) = ((V + 256 ^ k * b : Nat) : Int) := by
  have hp : (256 : Nat) ^ (k + 1) ≤ 4294967296 := Nat.le_trans (Nat.pow_le_pow_right (show 0 < 256 by decide) (show k + 1 ≤ 4 by omega)) (by decide)
  rw [Nat.pow_succ] at hp
  have hx : b * 256 ^ k < 4294967296 := by
    have h0 : 0 < (256 : Nat) ^ k := Nat.pow_pos (by decide)
    have : b * 256 ^ k < 256 * 256 ^ k := Nat.mul_lt_mul_of_pos_right hb h0
    omega
  have e1 : IntKind.u32.wrap (IntKind.u32.wrap (b : Int) * 2 ^ (8 * k)) = ((b * 256 ^ k : Nat) : Int) := by
    rw [u32_fit _ (by omega)]
    have : ((b : Int) * 2 ^ (8 * k)) = ((b * 256 ^ k : Nat) : Int) := by rw [pow256]; norm_cast
    rw [this, u32_fit _ hx]
  rw [e1, u32_or_nat _ _ (by omega) hx]
  congr 1
  rw [Nat.or_comm, nat_join (8 * k) _ _ (by rw [pow256]; exact Nat.mul_mod_left _ _) (by rw [← pow256]; exact hV), Nat.add_comm, Nat.mul_comm]
theorem or_step32 (s : ByteArray) (k : Nat) (h : k < s.size) (h4 : k < 4) :
    bits BinOp.or IntKind.u32 (valL ((L s).take k) : Int) (IntKind.u32.wrap (IntKind.u32.wrap (((s[k]'h).toNat : Nat) : Int) * 2 ^ (8 * k))) = (valL ((L s).take (k + 1)) : Int) := by
  have hl : k < (L s).length := by rw [len_L]; exact h
  have hV := valL_lt ((L s).take k)
  have hlen : ((L s).take k).length = k := by rw [List.length_take]; omega
  rw [hlen] at hV
  have e := valL_take_succ (L s) k hl
  have e2 : (L s)[k]'hl = s[k]'h := rfl
  rw [e2] at e
  rw [e]
  generalize s[k]'h = c at *
  generalize valL ((L s).take k) = V at *
  have hc := c.toNat_lt
  generalize c.toNat = m at *
  exact or_plain32 V m k hV hc h4

set_option maxRecDepth 100000 in
set_option maxHeartbeats 1000000 in
theorem num_off (b n : Nat) (s : ByteArray) (w : World) (hc : Cut w b s false) : Calls Tryd.prog 26 #[.pointer (some ⟨b, 0, none⟩), .int .i64 n] w fun e w' => e = .returned (.int .u32 0) ∧ w' = w.setCell ⟨b, 1, none⟩ (.bool false) := by
  have c0 := hc.c0
  have c1 := hc.c1
  have f1 := hc.free 1
  clear hc
  go_enter Tryd.func26, Tryd.ntmps26
  go_wp2
  go_ret
  exact ⟨rfl, rfl⟩
set_option maxRecDepth 100000 in
set_option maxHeartbeats 1000000 in
theorem num_short (b n : Nat) (s : ByteArray) (w : World) (hc : Cut w b s true) (hs : s.size ≤ 8192) (hn : n ≤ 4) (h : s.size < n) : Calls Tryd.prog 26 #[.pointer (some ⟨b, 0, none⟩), .int .i64 n] w fun e w' => e = .returned (.int .u32 0) ∧ w' = w.setCell ⟨b, 1, none⟩ (.bool false) := by
  have c0 := hc.c0
  have c1 := hc.c1
  have f1 := hc.free 1
  have t1 : decide ((s.size : Int) < (n : Int)) = true := by simp; omega
  have t2 : decide (s.size < n) = true := by simp; omega
  clear hc
  go_enter Tryd.func26, Tryd.ntmps26
  go_wp2
  go_ret
  exact ⟨rfl, rfl⟩
set_option maxRecDepth 100000 in
set_option maxHeartbeats 1000000 in
theorem num_ok (b n : Nat) (s : ByteArray) (w : World) (hc : Cut w b s true) (hs : s.size ≤ 8192) (hn : n ≤ 4) (h : n ≤ s.size) : Calls Tryd.prog 26 #[.pointer (some ⟨b, 0, none⟩), .int .i64 n] w fun e w' => e = .returned (.int .u32 (valL ((L s).take n))) ∧ w' = w.setCell ⟨b, 0, none⟩ (.string (B ((L s).drop n))) := by
  have c0 := hc.c0
  have c1 := hc.c1
  have f1 := hc.free 0
  have t1 : decide ((s.size : Int) < (n : Int)) = false := by simp; omega
  have t2 : decide (s.size < n) = false := by simp; omega
  have E2 := Lib.hid (ex_rest s n)
  clear hc
  go_enter Tryd.func26, Tryd.ntmps26
  go_wp2
  go_loop [5, 6] (fun v i => ∃ k : Nat, k ≤ n ∧ i = .int .i64 k ∧ v = .int .u32 (valL ((L s).take k))) (fun _ i => n - (intOf i).toNat)
  case atStart => exact ⟨0, Nat.zero_le _, rfl, rfl⟩
  case round =>
    obtain ⟨k, hk, rfl, rfl⟩ := hrel
    by_cases hlt : k < n
    · have hks : k < s.size := by omega
      have hs0 := or_step32 s k hks (by omega)
      rw [IntKind.wrap_u32, IntKind.wrap_u32] at hs0
      have HS := Lib.hid hs0
      clear hs0
      go_wp2
      go_round
      case rel => exact ⟨k + 1, by omega, by go_num, by rw [HS.out]⟩
      case measure => simp [intOf]; omega
    · obtain rfl : k = n := by omega
      have q1 : (k : Int) ≤ (s.size : Int) := by omega
      go_wp2
      go_ret
      exact ⟨rfl, by rw [E2.out]⟩

end Go.Proofs.YtfdclifdemajfaaDoor.Call
