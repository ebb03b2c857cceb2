/- Layer 10: the small walks of package dirs: may, slot, free, put. -/
import Derived.Test.YtfdclifdemajfaaDirPlain3
import Derived.Test.YtfdclifdemajfaaOctetPad
import Derived.Lib.BufferWrite
import Derived.Laws.CopyOwn
import Derived.Outline
import Derived.Deep.RegionHeld3
import Derived.Deep.QuietTactic
import Derived.BigQuiet
import Derived.IntWalk
import Derived.Deep.Cut
namespace Go.Proofs.Ytfdclifdemajfaa.Dir
set_option linter.unusedVariables false
set_option linter.unusedSimpArgs false
open Go.RowKit Oct Path
def zero32 : Array Value := #[.int .u8 0, .int .u8 0, .int .u8 0, .int .u8 0, .int .u8 0, .int .u8 0, .int .u8 0, .int .u8 0, .int .u8 0, .int .u8 0, .int .u8 0, .int .u8 0, .int .u8 0, .int .u8 0, .int .u8 0, .int .u8 0, .int .u8 0, .int .u8 0, .int .u8 0, .int .u8 0, .int .u8 0, .int .u8 0, .int .u8 0, .int .u8 0, .int .u8 0, .int .u8 0, .int .u8 0, .int .u8 0, .int .u8 0, .int .u8 0, .int .u8 0, .int .u8 0]
theorem lt_alloc {w : World} {o : Obj} : w.heap.size < (w.alloc o).heap.size := by simp
set_option maxRecDepth 100000 in
set_option maxHeartbeats 400000 in
theorem free_any (w : World) : Calls Try.prog 76 #[] w fun e w' => e = .returned (.string (B freeL)) ∧ Below w.heap.size w w' := by
  go_enter Try.func76, Try.ntmps76
  go_wp2_with fail
  have hr := Try.strings_Repeat ⟨#[0]⟩ 32 w (by omega) (by
    have : (⟨#[0]⟩ : ByteArray).size = 1 := rfl
    rw [this]; omega)
  have e2 : Lib.repeatL (⟨#[0]⟩ : ByteArray).data.toList 32 = freeL := repeat_zero 32
  rw [e2] at hr
  refine hr.mono ?_
  rintro e w1 ⟨rfl, b1⟩
  generalize hf : (⟨freeL.toArray⟩ : ByteArray) = f at *
  have HF := Lib.hid hf
  clear hf hr e2
  go_wp2
  go_ret
  exact ⟨by rw [← HF.out]; rfl, b1⟩
set_option maxRecDepth 100000 in
set_option maxHeartbeats 400000 in
theorem may_any (nm : ByteArray) (i : Nat) (w : World) (hs : nm.size ≤ maxLen) : Calls Try.prog 72 #[.agg #[.string nm, .int .u32 i]] w fun e w' => e = .returned (.bool (may (L nm, i))) ∧ Below w.heap.size w w' := by
  by_cases h0 : i = 0
  · subst h0
    go_enter Try.func72, Try.ntmps72
    go_wp2
    go_ret
    exact ⟨rfl, (Below.refl _ _).alloc (Nat.le_refl _) _⟩
  · have NM := Lib.hid (fun W => name_any nm W hs)
    have t0 : ((i : Int) != 0) = true := by simp; omega
    have t1 : (i != 0) = true := by simp; omega
    have E : Hid (may (L nm, i) = (nameE (L nm) == 0)) := Lib.hid (by
      unfold may nameE
      cases isName (L nm) <;> simp [h0])
    generalize may (L nm, i) = mv at *
    generalize nameE (L nm) = ne at *
    clear h0
    go_enter Try.func72, Try.ntmps72
    go_wp2_with fail
    refine (NM.out _).mono ?_
    rintro e w1 ⟨rfl, b1⟩
    go_wp2
    go_ret
    refine ⟨?_, ((Below.refl _ w).alloc (Nat.le_refl _) _).trans (b1.mono (by simp))⟩
    rw [E.out]
    rfl
set_option maxRecDepth 100000 in
set_option maxHeartbeats 400000 in
theorem put_any (s t : ByteArray) (k : Nat) (w : World) (hs : s.size ≤ 100000) (ht : t.size ≤ 100000) (hk : 32 * (k + 1) ≤ s.size) : Calls Try.prog 74 #[.string s, .int .i64 k, .string t] w fun e w' => e = .returned (.string (B (putL (L s) k (L t)))) ∧ ∃ n, w' = w.drewN n := by
  have E : Hid (s.extract 0 (k * 32) ++ t ++ s.extract ((k + 1) * 32) s.size = B (putL (L s) k (L t))) := Lib.hid (by
    unfold putL
    rw [ex_front, ex_rest, append_B, append_B, L_B, L_B, L_B, Nat.mul_comm k 32, Nat.mul_comm (k + 1) 32])
  generalize B (putL (L s) k (L t)) = res at *
  have w1 : IntKind.i64.wrap ((k : Int) * 32) = (k : Int) * 32 := IntWalk.i64_in _ (by omega)
  have w2 : IntKind.i64.wrap ((k : Int) + 1) = (k : Int) + 1 := IntWalk.i64_in _ (by omega)
  have w3 : IntKind.i64.wrap (((k : Int) + 1) * 32) = ((k : Int) + 1) * 32 := IntWalk.i64_in _ (by omega)
  have a1 : (0 : Int) ≤ (k : Int) * 32 := by omega
  have a2 : (k : Int) * 32 ≤ (s.size : Int) := by omega
  have a3 : (0 : Int) ≤ ((k : Int) + 1) * 32 := by omega
  have a4 : ((k : Int) + 1) * 32 ≤ (s.size : Int) := by omega
  have n1 : ((k : Int) * 32).toNat = k * 32 := by omega
  have n2 : (((k : Int) + 1) * 32).toNat = (k + 1) * 32 := by omega
  have z1 : (s.extract 0 (k * 32)).size ≤ 100000 := by rw [ex_front, size_B, List.length_take, len_L]; omega
  have z2 : (s.extract 0 (k * 32) ++ t).size ≤ 200000 := by rw [append_B, size_B, List.length_append, len_L, len_L]; omega
  have z3 : (s.extract ((k + 1) * 32) s.size).size ≤ 100000 := by rw [ex_rest, size_B, List.length_drop, len_L]; omega
  clear hk
  go_enter Try.func74, Try.ntmps74
  go_wp2
  go_quiet (fail)
  go_wp2
  go_ret
  exact ⟨by rw [← E.out]; rfl, nq, rfl⟩
set_option maxRecDepth 100000 in
set_option maxHeartbeats 400000 in
theorem slot_any (nm : ByteArray) (i : Nat) (w : World) (hs : nm.size ≤ 27) (hi : i < 4294967296) : Calls Try.prog 75 #[.agg #[.string nm, .int .u32 i]] w fun e w' => e = .returned (.string (B (slotL (L nm, i)))) ∧ Below w.heap.size w w' := by
  have NU := Lib.hid (fun W => num_ok i 4 W (by decide) (by simpa using hi))
  have TX := Lib.hid (fun W => text8_ok nm W (by omega))
  go_enter Try.func75, Try.ntmps75
  go_wp2_with fail
  refine (NU.out _).mono ?_
  rintro e w1 ⟨rfl, b1⟩
  have k0 : w1.cell? ⟨w.heap.size, 0, none⟩ = some (.string nm) := (b1.cell (p := ⟨w.heap.size, 0, none⟩) (by simp; omega)).trans (by go_keep)
  have kA : w1.heap[w.heap.size + 1]? = some (.cells zero32 123 (0, 0)) := (b1.block _ (by simp)).trans (by
    have := heap_alloc_new (w.alloc (.cells #[.string nm, .int .u32 i] 73)) (.cells zero32 123)
    rw [World.size_alloc] at this
    exact this)
  have bb1 : Below w.heap.size w w1 := (((Below.refl _ w).alloc (Nat.le_refl _) _).alloc (by simp) _).trans (b1.mono (by simp; omega))
  clear b1 NU
  go_wp2_with fail
  refine (TX.out _).mono ?_
  rintro e w2 ⟨rfl, b2⟩
  have hl1 : w.heap.size + 1 < w1.heap.size := lt_of_block kA
  have kB : w2.heap[w.heap.size + 1]? = some (.cells zero32 123 (0, 0)) := (b2.block _ hl1).trans kA
  have bb2 : Below w.heap.size w w2 := bb1.trans (b2.mono (by omega))
  clear b2 bb1 kA k0 TX
  have r1 : (B (numL i 4)).size = 4 := by rw [size_B, len_numL]
  have r2 : (B (UInt8.ofNat nm.size :: L nm)).size ≤ 28 := by rw [size_B, List.length_cons, len_L]; omega
  have ER : Hid (L (B (numL i 4) ++ B (UInt8.ofNat nm.size :: L nm)) = rowL (L nm, i)) := Lib.hid (by rw [B_append, L_B]; rfl)
  have hlen : (rowL (L nm, i)).length ≤ 32 := by rw [len_row, len_L]; omega
  have EL : Hid ((slotL (L nm, i)).length = 32) := Lib.hid (by
    unfold slotL
    rw [List.length_append, List.length_replicate]
    omega)
  have ES : Hid (slotL (L nm, i) = rowL (L nm, i) ++ List.replicate (32 - (rowL (L nm, i)).length) 0) := Lib.hid rfl
  generalize hsl : slotL (L nm, i) = sl at *
  have HSL := Lib.hid hsl
  clear hsl
  generalize rowL (L nm, i) = rw_ at *
  generalize B (numL i 4) = q1 at *
  generalize B (UInt8.ofNat nm.size :: L nm) = q2 at *
  have hsz : (q1 ++ q2).size = rw_.length := by rw [← len_L, ER.out]
  have HC := Go.Lib.run_copy_row_string (P := Try.prog) w2 80 9 3 5 (w.heap.size + 1) 0 32 32 (q1 ++ q2) zero32 123 Try.underlying80 (by kernel_rfl) kB (by omega) (by rw [hsz]; show 0 + _ ≤ 32; omega)
  have EC : (zero32.toList.take 0 ++ Lib.byteCells (q1 ++ q2).data.toList ++ zero32.toList.drop (0 + (q1 ++ q2).size)).toArray = (Lib.byteCells sl).toArray := by
    rw [show (q1 ++ q2).data.toList = L (q1 ++ q2) from rfl, ER.out, hsz, List.take_zero, List.nil_append, Nat.zero_add]
    rw [show zero32.toList = Lib.byteCells (List.replicate 32 0) from rfl, ES.out]
    unfold Lib.byteCells
    rw [← List.map_drop, ← List.map_append, List.drop_replicate]
  rw [EC] at HC
  have HB := run_convert_bytes_back (P := Try.prog) (w2.setRow (w.heap.size + 1) (Lib.byteCells sl).toArray) 80 9 5 ⟨w.heap.size + 1, 0, none⟩ 32 sl Try.underlying80 Try.underlying5 Try.underlying9 (fun j hj => by
    have e1 : ((⟨w.heap.size + 1, 0, none⟩ : Addr).add j) = ⟨w.heap.size + 1, j, none⟩ := by unfold Addr.add; simp; omega
    rw [e1, cell_setRow_same _ _ _ _ _ _ _ kB]
    simp [Lib.byteCells, hj])
  rw [EL.out] at HB
  have bb3 : Below w.heap.size w (w2.setRow (w.heap.size + 1) (Lib.byteCells sl).toArray) := below_setRow bb2 (by omega) _
  clear EC kB hl1 bb2 hsz hlen
  go_wp2
  go_ret
  exact ⟨by rw [HSL.out]; rfl, bb3⟩
end Go.Proofs.Ytfdclifdemajfaa.Dir
