/- Layer 2 (crc): Sum, Seal and Open: a sealed text is opened, and what is opened is sealed. -/
import Derived.Test.YtpnfkilfgdnogaaGreatDoorCrcMore
namespace Go.Proofs.YtpnfkilfgdnogaaGreatDoor.Crc
set_option linter.unusedVariables false
set_option linter.unusedSimpArgs false
open Go.RowKit Go.Shelf Oct Go.Great
/-- The sum of a text. -/
def sumN (l : List UInt8) : Nat := (bits .xor .u32 IntKind.u32.max (moreC 4294967295 l)).toNat
theorem bits_u32 (op : BinOp) (x y : Int) : 0 ≤ bits op .u32 x y ∧ bits op .u32 x y < 4294967296 := by
  have h := wf_bits op .u32 x y
  simp only [Lit.wf, Bool.and_eq_true, decide_eq_true_eq] at h
  have h1 : 0 ≤ bits op .u32 x y ∧ bits op .u32 x y ≤ 4294967295 := h
  omega
theorem sumN_lt (l : List UInt8) : sumN l < 4294967296 := by
  have := bits_u32 .xor IntKind.u32.max (moreC 4294967295 l)
  unfold sumN
  omega
theorem sumN_eq (l : List UInt8) : bits .xor .u32 IntKind.u32.max (moreC 4294967295 l) = (sumN l : Int) := by
  have := bits_u32 .xor IntKind.u32.max (moreC 4294967295 l)
  unfold sumN
  omega
set_option maxRecDepth 100000 in
theorem sum_one (s : ByteArray) (b cap : Nat) (w : World) (hs : s.size ≤ 1099511627776) (hb : w.cell? ⟨b, 0, none⟩ = some (.string s)) (hbl : b < w.heap.size) :
    Calls Tryz.prog 205 #[.slice (some ⟨b, 0, none⟩) 1 cap] w fun e w' => e = .returned (.int .u32 (sumN (L s))) ∧ Below w.heap.size w w' := by
  have MO := Lib.hid (fun W => more_any 4294967295 s W hs)
  have E := Lib.hid (sumN_eq (L s))
  generalize moreC 4294967295 (L s) = cc at *
  generalize sumN (L s) = sn at *
  go_enter Tryz.func205, Tryz.ntmps205
  go_wp2_with fail
  refine wp_loop_rounds 2 ?_
  rw [rounds_succ]
  go_wp2_with fail
  refine (MO.out _).mono ?_
  rintro e w1 ⟨rfl, b1⟩
  go_wp2_with fail
  rw [rounds_succ]
  go_wp2
  go_ret
  refine ⟨?_, b1⟩
  rw [← E.out]
  rfl
def sealL (l : List UInt8) : List UInt8 := l ++ numL (sumN l) 4
set_option maxRecDepth 100000 in
theorem seal_any (s : ByteArray) (w : World) (hs : s.size ≤ 1073741824) : Calls Tryz.prog 187 #[.string s] w fun e w' => e = .returned (.string (B (sealL (L s)))) ∧ Below w.heap.size w w' := by
  have SU := Lib.hid (fun b cap W hb hl => sum_one s b cap W (by omega) hb hl)
  have NU := Lib.hid (fun W => num_ok (sumN (L s)) 4 W (by omega) (sumN_lt _))
  have hsl := sumN_lt (L s)
  have hE : s ++ B (numL (sumN (L s)) 4) = B (sealL (L s)) := by
    rw [← B_L s, append_B]
    rfl
  have HE := Lib.hid hE
  clear hE
  have hz : s.size + (B (numL (sumN (L s)) 4)).size ≤ 1073741900 := by rw [size_B, len_numL]; omega
  generalize B (sealL (L s)) = sl at *
  generalize sumN (L s) = sn at *
  generalize B (numL sn 4) = t4 at *
  have hV := SBox.new w 9 #[.string s]
  have v0 := hV.cell 0
  simp only [List.getElem?_toArray, List.getElem?_cons_zero] at v0
  have vl := hV.lt
  have SU1 := Lib.hid (SU.out _ 1 _ v0 vl)
  have HB := Lib.hid ((Below.refl _ w).alloc (Nat.le_refl _) (.cells #[.string s] 9))
  clear hV v0 vl SU
  go_enter Tryz.func187, Tryz.ntmps187
  go_wp2_with fail
  refine SU1.out.mono ?_
  rintro e w1 ⟨rfl, b1⟩
  have hB1 := HB.out.trans (b1.mono (by simp))
  clear b1
  go_wp2_with fail
  refine (NU.out _).mono ?_
  rintro e w2 ⟨rfl, b2⟩
  have HB2 := Lib.hid (hB1.trans (b2.mono hB1.size))
  clear hB1 b2
  go_wp2
  go_ret
  refine ⟨?_, HB2.out⟩
  rw [← HE.out]
  rfl
/-- What Open answers. -/
def openL (l : List UInt8) : Option (List UInt8) := if sealL (l.take (l.length - 4)) = l then some (l.take (l.length - 4)) else none
set_option maxRecDepth 100000 in
theorem open_any (s : ByteArray) (w : World) (h4 : 4 ≤ s.size) (hs : s.size ≤ 1073741824) :
    Calls Tryz.prog 182 #[.string s] w fun e w' => e = .returned (match openL (L s) with | some t => .tuple #[.string (B t), .int .i64 0] | none => .tuple #[.string ⟨#[]⟩, .int .i64 7]) ∧ Below w.heap.size w w' := by
  have hx : s.extract 0 (s.size - 4) = B ((L s).take ((L s).length - 4)) := by
    rw [len_L, ← B_L (s.extract 0 (s.size - 4))]
    congr 1
    show (s.extract 0 (s.size - 4)).data.toList = _
    rw [ByteArray.data_extract]
    simp only [Array.toList_extract, List.extract_eq_take_drop, List.drop_zero, Nat.sub_zero]
    rfl
  unfold openL
  obtain ⟨t, ht⟩ : ∃ x, (L s).take ((L s).length - 4) = x := ⟨_, rfl⟩
  rw [ht] at hx ⊢
  have htl : (B t).size ≤ 1073741824 := by rw [size_B, ← ht, List.length_take, len_L]; omega
  have SE := Lib.hid (fun W => seal_any (B t) W htl)
  rw [L_B] at SE
  have g0 : decide ((s.size : Int) < 4) = false := by simp; omega
  have g1 : (s.size : Int) - 4 = ((s.size - 4 : Nat) : Int) := by omega
  have g2 : s.size - 4 ≤ s.size := by omega
  by_cases hq : sealL t = L s
  · rw [if_pos hq]
    have u1 : ((B (sealL t)).toList != s.toList) = false := by rw [hq, B_L]; simp
    have u3 : ((B (sealL t)).toList == s.toList) = true := by rw [hq, B_L]; simp
    have u2 : decide ((B (sealL t)).toList = s.toList) = true := by rw [hq, B_L]; simp
    clear hq
    generalize B (sealL t) = st at *
    obtain ⟨bt, hbt⟩ : ∃ x, B t = x := ⟨_, rfl⟩
    rw [hbt] at SE hx htl
    have HBT := Lib.hid hbt
    clear hbt
    go_enter Tryz.func182, Tryz.ntmps182
    go_wp2_with fail
    refine (SE.out _).mono ?_
    rintro e w1 ⟨rfl, b1⟩
    go_wp2
    go_ret2
    have hbt := HBT.out
    subst hbt
    exact ⟨rfl, b1⟩
  · rw [if_neg hq]
    have hq2 : (B (sealL t)).toList ≠ s.toList := fun e => hq (by
      rw [ByteArray.toList_eq, ByteArray.toList_eq] at e
      exact e)
    have u1 : ((B (sealL t)).toList != s.toList) = true := by simpa using hq2
    have u3 : ((B (sealL t)).toList == s.toList) = false := by simpa using hq2
    have u2 : decide ((B (sealL t)).toList = s.toList) = false := by simpa using hq2
    clear hq hq2
    generalize B (sealL t) = st at *
    obtain ⟨bt, hbt⟩ : ∃ x, B t = x := ⟨_, rfl⟩
    rw [hbt] at SE hx htl
    have HBT := Lib.hid hbt
    clear hbt
    go_enter Tryz.func182, Tryz.ntmps182
    go_wp2_with fail
    refine (SE.out _).mono ?_
    rintro e w1 ⟨rfl, b1⟩
    go_wp2
    go_ret2
    have hbt := HBT.out
    subst hbt
    exact ⟨rfl, b1⟩
end Go.Proofs.YtpnfkilfgdnogaaGreatDoor.Crc
