/- Layer 10: the walk of dirs.read. -/
import Derived.Test.YtfdclifdemajfaaDirs
import Derived.Test.YtfdclifdemajfaaBoxes
namespace Go.Proofs.Ytfdclifdemajfaa.Dir
set_option linter.unusedVariables false
set_option linter.unusedSimpArgs false
open Go.RowKit Oct Path
def entV (e : Ent) : Value := .agg #[.string (B e.1), .int .u32 e.2]
/-- What read gives. -/
def readV (t : List UInt8) : Value := match readL t with
  | some e => .tuple #[entV e, .bool true]
  | none => .tuple #[entV ([], 0), .bool false]
theorem readV_some {t : List UInt8} {e : Ent} (h : readL t = some e) : readV t = .tuple #[.agg #[.string (B e.1), .int .u32 e.2], .bool true] := by unfold readV; rw [h]; rfl
theorem readV_none {t : List UInt8} (h : readL t = none) : readV t = .tuple #[.agg #[.string ⟨#[]⟩, .int .u32 0], .bool false] := by unfold readV; rw [h]; rfl
set_option maxRecDepth 100000 in
set_option maxHeartbeats 1000000 in
theorem read_free_walk (w : World) : Calls Try.prog 88 #[.string (B freeL)] w fun e w' => e = .returned (.tuple #[.agg #[.string ⟨#[]⟩, .int .u32 0], .bool true]) ∧ Below w.heap.size w w' := by
  obtain ⟨f, hf⟩ : ∃ f, B freeL = f := ⟨_, rfl⟩
  have FA := Lib.hid (fun W => free_any W)
  rw [hf] at FA
  rw [hf]
  clear hf
  go_enter Try.func88, Try.ntmps88
  go_wp2_with fail
  refine (FA.out _).mono ?_
  rintro e w1 ⟨rfl, b1⟩
  have hB : SBox w1 w.heap.size 73 #[.string ⟨#[]⟩, .int .u32 0] := (SBox.new w _ _).later b1
  have c0 := hB.cell 0
  have c1 := hB.cell 1
  have f0 := hB.free 0
  have f1 := hB.free 1
  have hl := hB.lt
  have bb : Below w.heap.size w w1 := ((Below.refl _ w).alloc (Nat.le_refl _) _).trans (b1.mono (by simp))
  simp only [List.getElem?_toArray, List.getElem?_cons_zero, List.getElem?_cons_succ] at c0 c1
  have HB := Lib.hid hB
  clear b1 FA hB
  go_wp2
  exact bodyPost_ret (v := .tuple #[.agg #[.string ⟨#[]⟩, .int .u32 0], .bool true]) (by simp [results, Try.results88, go_sem, c0, c1]) rfl ⟨rfl, (bb.setCell (p := ⟨w.heap.size, 0, none⟩) (Nat.le_refl _) _).setCell (p := ⟨w.heap.size, 1, none⟩) (Nat.le_refl _) _⟩
set_option maxRecDepth 100000 in
set_option maxHeartbeats 1000000 in
theorem read_long_walk (s : ByteArray) (w : World) (h4 : 4 < s.size) (hs1 : 32 ≤ s.size) (hs2 : s.size ≤ 32) (hf : L s ≠ freeL) (n : Nat) (hn : s[4].toNat = n) (h27 : 27 < n) : Calls Try.prog 88 #[.string s] w fun e w' => e = .returned (.tuple #[.agg #[.string ⟨#[]⟩, .int .u32 0], .bool false]) ∧ Below w.heap.size w w' := by
  have n8 : n < 256 := by have := s[4].toNat_lt; omega
  obtain ⟨f, hf2⟩ : ∃ f, B freeL = f := ⟨_, rfl⟩
  have FA := Lib.hid (fun W => free_any W)
  have q1 : (s.toList == f.toList) = false := by
    rw [← hf2, toList_L, toList_L, L_B]
    simpa using hf
  have q2 : decide (s.toList = f.toList) = false := by simpa using q1
  rw [hf2] at FA
  clear hf hf2
  go_enter Try.func88, Try.ntmps88
  go_wp2_with fail
  refine (FA.out _).mono ?_
  rintro e w1 ⟨rfl, b1⟩
  have hB : SBox w1 w.heap.size 73 #[.string ⟨#[]⟩, .int .u32 0] := (SBox.new w _ _).later b1
  have c0 := hB.cell 0
  have c1 := hB.cell 1
  have f0 := hB.free 0
  have f1 := hB.free 1
  have hl := hB.lt
  have bb : Below w.heap.size w w1 := ((Below.refl _ w).alloc (Nat.le_refl _) _).trans (b1.mono (by simp))
  simp only [List.getElem?_toArray, List.getElem?_cons_zero, List.getElem?_cons_succ] at c0 c1
  clear b1 FA hB
  go_wp2
  exact bodyPost_ret (v := .tuple #[.agg #[.string ⟨#[]⟩, .int .u32 0], .bool false]) (by simp [results, Try.results88, go_sem, c0, c1]) rfl ⟨rfl, (bb.setCell (p := ⟨w.heap.size, 0, none⟩) (Nat.le_refl _) _).setCell (p := ⟨w.heap.size, 1, none⟩) (Nat.le_refl _) _⟩
set_option maxRecDepth 100000 in
set_option maxHeartbeats 1000000 in
theorem read_rest_walk (s : ByteArray) (w : World) (h4 : 4 < s.size) (hs1 : 32 ≤ s.size) (hs2 : s.size ≤ 32) (hf : L s ≠ freeL) (n : Nat) (hn : s[4].toNat = n) (h27 : n ≤ 27) (i : Nat) (hi : valL ((L s).take 4) = i) (hi32 : i < 4294967296) (mv sv : Bool) (hmv : may (((L s).drop 5).take n, i) = mv) (hsv : decide (slotL (((L s).drop 5).take n, i) = L s) = sv) :
    Calls Try.prog 88 #[.string s] w fun e w' => e = .returned (if mv && sv then .tuple #[.agg #[.string (B (((L s).drop 5).take n)), .int .u32 i], .bool true] else .tuple #[.agg #[.string ⟨#[]⟩, .int .u32 0], .bool false]) ∧ Below w.heap.size w w' := by
  have EX : Hid (s.extract 5 (5 + n) = B (((L s).drop 5).take n)) := Lib.hid (by
    apply L_inj
    show (s.extract 5 (5 + n)).data.toList = _
    rw [ByteArray.data_extract, Array.toList_extract, List.extract_eq_take_drop]
    rw [show 5 + n - 5 = n by omega]
    rfl)
  have E4 : Hid (s.extract 0 4 = B ((L s).take 4)) := Lib.hid (ex_front s 4)
  have GT := Lib.hid (fun W => get_ok (B ((L s).take 4)) W (by rw [size_B, List.length_take]; omega))
  rw [L_B, hi] at GT
  have hnl : (B (((L s).drop 5).take n)).size ≤ 27 := by rw [size_B, List.length_take]; omega
  have MY := Lib.hid (fun W => may_any (B (((L s).drop 5).take n)) i W (by unfold maxLen; omega))
  have SL := Lib.hid (fun W => slot_any (B (((L s).drop 5).take n)) i W hnl hi32)
  rw [L_B, hmv] at MY
  rw [L_B] at SL
  have a1 : (0 : Int) ≤ 5 + (n : Int) := by omega
  have a2 : (5 : Int) ≤ 5 + (n : Int) := by omega
  have a3 : 5 + (n : Int) ≤ (s.size : Int) := by omega
  have a4 : (5 + (n : Int)).toNat = 5 + n := by omega
  have a5 : (4 : Int) ≤ (s.size : Int) := by omega
  have a6 : 4 ≤ s.size := by omega
  have a7 : 5 + n ≤ s.size := by omega
  obtain ⟨sl, hsl⟩ : ∃ x, B (slotL (((L s).drop 5).take n, i)) = x := ⟨_, rfl⟩
  have p1 : (sl.toList == s.toList) = sv := by
    rw [← hsl, toList_L, toList_L, L_B, ← hsv]
    rw [Bool.eq_iff_iff]; simp
  have p2 : decide (sl.toList = s.toList) = sv := by rw [← p1, Bool.eq_iff_iff]; simp
  have p3 : (sl.toList != s.toList) = !sv := by rw [bne, p1]
  rw [hsl] at SL
  generalize hnm : B (((L s).drop 5).take n) = nm at *
  have HNM := Lib.hid hnm
  generalize hx4 : B ((L s).take 4) = x4 at *
  clear hsl hnm hx4 hmv hsv hi
  have n8 : n < 256 := by have := s[4].toNat_lt; omega
  obtain ⟨f, hf2⟩ : ∃ f, B freeL = f := ⟨_, rfl⟩
  have FA := Lib.hid (fun W => free_any W)
  have q1 : (s.toList == f.toList) = false := by
    rw [← hf2, toList_L, toList_L, L_B]
    simpa using hf
  have q2 : decide (s.toList = f.toList) = false := by simpa using q1
  rw [hf2] at FA
  clear hf hf2
  go_enter Try.func88, Try.ntmps88
  go_wp2_with fail
  refine (FA.out _).mono ?_
  rintro e w1 ⟨rfl, b1⟩
  have hB : SBox w1 w.heap.size 73 #[.string ⟨#[]⟩, .int .u32 0] := (SBox.new w _ _).later b1
  have c0 := hB.cell 0
  have c1 := hB.cell 1
  have f0 := hB.free 0
  have f1 := hB.free 1
  have hl := hB.lt
  have bb : Below w.heap.size w w1 := ((Below.refl _ w).alloc (Nat.le_refl _) _).trans (b1.mono (by simp))
  simp only [List.getElem?_toArray, List.getElem?_cons_zero, List.getElem?_cons_succ] at c0 c1
  clear b1 FA
  go_wp2_with fail
  rw [E4.out]
  refine (GT.out _).mono ?_
  rintro e w2 ⟨rfl, rfl⟩
  go_wp2_with fail
  rw [EX.out]
  have hB2 : SBox ((w1.setCell ⟨w.heap.size, 0, none⟩ (.string nm)).setCell ⟨w.heap.size, 1, none⟩ (.int .u32 i)) w.heap.size 73 #[.string nm, .int .u32 i] := (hB.set 0 (.string nm)).set 1 (.int .u32 i)
  have bb2 : Below w.heap.size w ((w1.setCell ⟨w.heap.size, 0, none⟩ (.string nm)).setCell ⟨w.heap.size, 1, none⟩ (.int .u32 i)) := (bb.setCell (p := ⟨w.heap.size, 0, none⟩) (Nat.le_refl _) _).setCell (p := ⟨w.heap.size, 1, none⟩) (Nat.le_refl _) _
  clear c0 c1 f0 f1 hl hB bb GT
  refine (MY.out _).mono ?_
  rintro e w3 ⟨rfl, b3⟩
  have hB3 : SBox w3 w.heap.size 73 #[.string nm, .int .u32 i] := hB2.later b3
  have bb3 : Below w.heap.size w w3 := bb2.trans (b3.mono (Nat.le_of_lt hB2.lt))
  have c0 := hB3.cell 0
  have c1 := hB3.cell 1
  have f0 := hB3.free 0
  have f1 := hB3.free 1
  have hl := hB3.lt
  simp only [List.getElem?_toArray, List.getElem?_cons_zero, List.getElem?_cons_succ] at c0 c1
  clear b3 hB2 bb2 MY
  cases mv
  · go_wp2
    exact bodyPost_ret (v := .tuple #[.agg #[.string ⟨#[]⟩, .int .u32 0], .bool false]) (by simp [results, Try.results88, go_sem, c0, c1]) rfl ⟨rfl, (bb3.setCell (p := ⟨w.heap.size, 0, none⟩) (Nat.le_refl _) _).setCell (p := ⟨w.heap.size, 1, none⟩) (Nat.le_refl _) _⟩
  · go_wp2_with fail
    refine (SL.out _).mono ?_
    rintro e w4 ⟨rfl, b4⟩
    have hB4 : SBox w4 w.heap.size 73 #[.string nm, .int .u32 i] := hB3.later b4
    have bb4 : Below w.heap.size w w4 := bb3.trans (b4.mono (Nat.le_of_lt hB3.lt))
    clear c0 c1 f0 f1 hl hB3 bb3 b4 SL
    have c0 := hB4.cell 0
    have c1 := hB4.cell 1
    have f0 := hB4.free 0
    have f1 := hB4.free 1
    have hl := hB4.lt
    simp only [List.getElem?_toArray, List.getElem?_cons_zero, List.getElem?_cons_succ] at c0 c1
    clear hB4
    cases sv
    · go_wp2
      exact bodyPost_ret (v := .tuple #[.agg #[.string ⟨#[]⟩, .int .u32 0], .bool false]) (by simp [results, Try.results88, go_sem, c0, c1]) rfl ⟨rfl, (bb4.setCell (p := ⟨w.heap.size, 0, none⟩) (Nat.le_refl _) _).setCell (p := ⟨w.heap.size, 1, none⟩) (Nat.le_refl _) _⟩
    · go_wp2
      exact bodyPost_ret (v := .tuple #[.agg #[.string nm, .int .u32 i], .bool true]) (by simp [results, Try.results88, go_sem, c0, c1]) rfl ⟨rfl, (bb4.setCell (p := ⟨w.heap.size, 0, none⟩) (Nat.le_refl _) _).setCell (p := ⟨w.heap.size, 1, none⟩) (Nat.le_refl _) _⟩
/-- dirs.read, of any slot. -/
theorem read_any (s : ByteArray) (w : World) (hs : s.size = 32) : Calls Try.prog 88 #[.string s] w fun e w' => e = .returned (readV (L s)) ∧ Below w.heap.size w w' := by
  by_cases hf : L s = freeL
  · have e : s = B freeL := L_inj (by rw [hf, L_B])
    rw [e, L_B, readV_some read_free]
    exact read_free_walk w
  · have hn : s[4].toNat = lenAt (L s) := by
      unfold lenAt
      rw [List.getD_eq_getElem?_getD, List.getElem?_eq_getElem (by rw [len_L]; omega)]
      rfl
    by_cases h27 : 27 < lenAt (L s)
    · have e : readL (L s) = none := by unfold readL; rw [if_neg hf, if_pos h27]
      rw [readV_none e]
      exact read_long_walk s w (by omega) (by omega) (by omega) hf _ hn h27
    · have hi : valL ((L s).take 4) < 4294967296 := by
        have h1 := valL_lt ((L s).take 4)
        have hl : ((L s).take 4).length ≤ 4 := List.length_take_le _ _
        have : (256 : Nat) ^ ((L s).take 4).length ≤ 256 ^ 4 := Nat.pow_le_pow_right (by decide) hl
        omega
      refine (read_rest_walk s w (by omega) (by omega) (by omega) hf _ hn (by omega) _ rfl hi _ _ rfl rfl).mono ?_
      rintro e w' ⟨rfl, b⟩
      refine ⟨?_, b⟩
      show Ending.returned (if may (entOf (L s)) && decide (slotL (entOf (L s)) = L s) then .tuple #[.agg #[.string (B (entOf (L s)).1), .int .u32 (entOf (L s)).2], .bool true] else _) = _
      by_cases h : may (entOf (L s)) = true ∧ slotL (entOf (L s)) = L s
      · have e : readL (L s) = some (entOf (L s)) := by unfold readL; rw [if_neg hf, if_neg h27, if_pos h]
        rw [readV_some e, if_pos (by simp [h.1, h.2])]
      · have e : readL (L s) = none := by unfold readL; rw [if_neg hf, if_neg h27, if_neg h]
        rw [readV_none e, if_neg (by simpa using h)]
end Go.Proofs.Ytfdclifdemajfaa.Dir
