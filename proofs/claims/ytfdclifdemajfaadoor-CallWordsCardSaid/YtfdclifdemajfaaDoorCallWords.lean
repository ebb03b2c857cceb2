/- The law CallWords: unlike calls have unlike words; what changes something has one. The walk. -/
import Derived.Test.YtfdclifdemajfaaDoorCallAlive
namespace Go.Proofs.YtfdclifdemajfaaDoor.Call
set_option linter.unusedVariables false
set_option linter.unusedSimpArgs false
open Go.RowKit Oct Path
theorem word_nil (d : Nat) : wordN d = [] ↔ d = 0 ∨ 15 < d := by
  by_cases h : 15 < d
  · simp [word_over d h, h]
  · obtain rfl | rfl | rfl | rfl | rfl | rfl | rfl | rfl | rfl | rfl | rfl | rfl | rfl | rfl | rfl | rfl : d = 0 ∨ d = 1 ∨ d = 2 ∨ d = 3 ∨ d = 4 ∨ d = 5 ∨ d = 6 ∨ d = 7 ∨ d = 8 ∨ d = 9 ∨ d = 10 ∨ d = 11 ∨ d = 12 ∨ d = 13 ∨ d = 14 ∨ d = 15 := by omega
    all_goals simp [wordN]
theorem word_table : ∀ a, a < 16 → ∀ b, b < 16 → wordN a = wordN b → a = b := by decide
theorem word_eq {a b : Nat} (h : wordN a = wordN b) : a = b ∨ wordN a = [] ∧ wordN b = [] := by
  by_cases ha : wordN a = []
  · exact .inr ⟨ha, by rw [← h]; exact ha⟩
  · have hb : wordN b ≠ [] := fun e => ha (h.trans e)
    have h1 : ¬ (a = 0 ∨ 15 < a) := fun e => ha ((word_nil a).2 e)
    have h2 : ¬ (b = 0 ∨ 15 < b) := fun e => hb ((word_nil b).2 e)
    exact .inl (word_table a (by omega) b (by omega) h)
theorem change_word {a : Nat} (h : changes a = true) : wordN a ≠ [] := fun e => by
  have := (word_nil a).1 e
  simp [changes] at h
  omega
theorem nilB : B [] = (⟨#[]⟩ : ByteArray) := rfl
def cntW (k : Nat) : Nat := min (k - 1) 15
def WordsRel (n i : Value) : Prop := ∃ k : Nat, k ≤ 256 ∧ i = .int .i64 k ∧ n = .int .i64 (cntW k)

set_option maxRecDepth 100000 in
set_option maxHeartbeats 2000000 in
theorem words_walk (a b : Nat) (w : World) (hk : Kinds w) (ha : a < 256) (hb : b < 256) : Calls Tryd.prog 6 #[.int .u8 a, .int .u8 b] w fun e w' => e = .returned (.bool true) ∧ Below w.heap.size w w' := by
  have HK := Lib.hid hk
  have WD := Lib.hid (fun d hd => word_any d w hk hd)
  have CH := Lib.hid (changes_any a w ha)
  have EQ := Lib.hid (@word_eq a b)
  have CW := Lib.hid (@change_word a)
  clear hk
  go_enter Tryd.func6, Tryd.ntmps6
  go_wp2
  go_loop [5, 6] (fun n i => WordsRel n i) (fun _ i => 256 - (intOf i).toNat)
  case atStart => exact ⟨0, by omega, rfl, rfl⟩
  case round =>
    obtain ⟨k, hk6, rfl, rfl⟩ := hrel
    have hcn : cntW k ≤ 15 := by unfold cntW; omega
    by_cases hlt : k < 256
    · have hw : IntKind.u8.wrap (k : Int) = (k : Int) := by simp [IntKind.wrap, IntKind.bits, IntKind.signed]; omega
      by_cases hz : 1 ≤ k ∧ k ≤ 15
      · have hne : wordN k ≠ [] := fun e => by have := (word_nil k).1 e; omega
        have t1 : (B (wordN k)).toList.isEmpty = false := empty_no (by rw [size_B]; exact List.length_pos_iff.2 hne)
        have HN : Hid (cntW (k + 1) = cntW k + 1) := Lib.hid (by unfold cntW; omega)
        have WK := Lib.hid (WD.out k hlt)
        generalize B (wordN k) = sk at *
        clear hne hz
        go_wp2_with fail
        refine WK.out.mono ?_
        rintro e w1 ⟨rfl, rfl⟩
        go_wp2
        go_round
        case rel => exact ⟨k + 1, by omega, by go_num, by rw [HN.out]; go_num⟩
        case measure => simp [intOf]; omega
      · have hne : wordN k = [] := (word_nil k).2 (by omega)
        have HN : Hid (cntW (k + 1) = cntW k) := Lib.hid (by unfold cntW; omega)
        have WK := Lib.hid (WD.out k hlt)
        rw [hne, nilB] at WK
        clear hne hz
        go_wp2_with fail
        refine WK.out.mono ?_
        rintro e w1 ⟨rfl, rfl⟩
        go_wp2
        exact ⟨⟨k + 1, by omega, by go_num, by rw [HN.out]⟩, by simp [intOf]; omega⟩
    · obtain rfl : k = 256 := by omega
      rw [show ((cntW 256 : Nat) : Int) = 15 from rfl, show ((256 : Nat) : Int) = 256 from rfl]
      have WA := Lib.hid (WD.out a ha)
      have WB := Lib.hid (WD.out b hb)
      clear hlt hk6 hcn WD
      by_cases hab : a = b
      · subst hab
        have i1 : ((a : Int) == (a : Int)) = true := by simp
        by_cases hz : wordN a = []
        · have hc : changes a = false := by
            cases hq : changes a with
            | false => rfl
            | true => exact absurd hz (CW.out hq)
          rw [hz, nilB] at WA WB
          rw [hc] at CH
          clear hz hc EQ CW WB
          go_wp2_with (first | (go_at_call 16; refine WA.out.mono ?_; rintro e w1 ⟨rfl, rfl⟩) | (go_at_call 14; refine CH.out.mono ?_; rintro e w1 ⟨rfl, rfl⟩) | (go_at_call 8; refine (alive20 _ HK.out).mono ?_; rintro e w2 ⟨rfl, b2⟩))
          go_ret
          exact ⟨rfl, b2⟩
        · have t1 : (B (wordN a)).toList.isEmpty = false := empty_no (by rw [size_B]; exact List.length_pos_iff.2 hz)
          obtain ⟨ca, hca⟩ : ∃ c, changes a = c := ⟨_, rfl⟩
          rw [hca] at CH
          generalize B (wordN a) = sa at *
          clear hz hca EQ CW WB
          cases ca
          all_goals
            go_wp2_with (first | (go_at_call 16; refine WA.out.mono ?_; rintro e w1 ⟨rfl, rfl⟩) | (go_at_call 14; refine CH.out.mono ?_; rintro e w1 ⟨rfl, rfl⟩) | (go_at_call 8; refine (alive20 _ HK.out).mono ?_; rintro e w2 ⟨rfl, b2⟩))
            go_ret
            exact ⟨rfl, b2⟩
      · have i1 : ((a : Int) == (b : Int)) = false := by simp; omega
        have i2 : decide (a = b) = false := by simpa using hab
        have i3 : (a == b) = false := by simpa using hab
        have i4 : ¬ ((a : Int) = (b : Int)) := by omega
        by_cases hz : wordN a = []
        · have hc : changes a = false := by
            cases hq : changes a with
            | false => rfl
            | true => exact absurd hz (CW.out hq)
          rw [hz, nilB] at WA
          rw [hc] at CH
          by_cases hy : wordN b = []
          · rw [hy, nilB] at WB
            clear hz hy hc EQ CW
            go_wp2_with (first | (go_at_call 16; ((with_reducible refine WA.out.mono ?_); rintro e w1 ⟨rfl, rfl⟩)) | (go_at_call 16; ((with_reducible refine WB.out.mono ?_); rintro e w1 ⟨rfl, rfl⟩)) | (go_at_call 14; refine CH.out.mono ?_; rintro e w1 ⟨rfl, rfl⟩) | (go_at_call 8; refine (alive20 _ HK.out).mono ?_; rintro e w2 ⟨rfl, b2⟩))
            go_ret
            exact ⟨rfl, b2⟩
          · have t1 : (B (wordN b)).toList.isEmpty = false := empty_no (by rw [size_B]; exact List.length_pos_iff.2 hy)
            have t2 : ((⟨#[]⟩ : ByteArray).toList == (B (wordN b)).toList) = false := by rw [← nilB, toList_L, toList_L, L_B, L_B]; simpa using Ne.symm hy
            have t3 : decide ((⟨#[]⟩ : ByteArray).toList = (B (wordN b)).toList) = false := by rw [← nilB, toList_L, toList_L, L_B, L_B]; simpa using Ne.symm hy
            have t4 : ¬ ([] = (B (wordN b)).toList) := by rw [toList_L, L_B]; exact Ne.symm hy
            have t5 : ¬ ((B (wordN b)).toList = []) := by rw [toList_L, L_B]; exact hy
            generalize B (wordN b) = sb at *
            clear hz hy hc EQ CW
            go_wp2_with (first | (go_at_call 16; ((with_reducible refine WA.out.mono ?_); rintro e w1 ⟨rfl, rfl⟩)) | (go_at_call 16; ((with_reducible refine WB.out.mono ?_); rintro e w1 ⟨rfl, rfl⟩)) | (go_at_call 14; refine CH.out.mono ?_; rintro e w1 ⟨rfl, rfl⟩) | (go_at_call 8; refine (alive20 _ HK.out).mono ?_; rintro e w2 ⟨rfl, b2⟩))
            go_ret
            exact ⟨rfl, b2⟩
        · have hne : wordN a ≠ wordN b := fun e => by
            rcases EQ.out e with h | h
            · exact hab h
            · exact hz h.1
          have t1 : (B (wordN a)).toList.isEmpty = false := empty_no (by rw [size_B]; exact List.length_pos_iff.2 hz)
          have t2 : ((B (wordN a)).toList == (B (wordN b)).toList) = false := by rw [toList_L, toList_L, L_B, L_B]; simpa using hne
          have t3 : decide ((B (wordN a)).toList = (B (wordN b)).toList) = false := by rw [toList_L, toList_L, L_B, L_B]; simpa using hne
          obtain ⟨ca, hca⟩ : ∃ c, changes a = c := ⟨_, rfl⟩
          rw [hca] at CH
          generalize B (wordN a) = sa at *
          generalize B (wordN b) = sb at *
          clear hz hca EQ CW hne
          cases ca
          all_goals
            go_wp2_with (first | (go_at_call 16; ((with_reducible refine WA.out.mono ?_); rintro e w1 ⟨rfl, rfl⟩)) | (go_at_call 16; ((with_reducible refine WB.out.mono ?_); rintro e w1 ⟨rfl, rfl⟩)) | (go_at_call 14; refine CH.out.mono ?_; rintro e w1 ⟨rfl, rfl⟩) | (go_at_call 8; refine (alive20 _ HK.out).mono ?_; rintro e w2 ⟨rfl, b2⟩))
            go_ret
            exact ⟨rfl, b2⟩

end Go.Proofs.YtfdclifdemajfaaDoor.Call
