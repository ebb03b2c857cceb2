/- Layer 10: the walks of dirs.Del, Set and Trim. -/
import Derived.Test.YtfdclifdemajfaaDirFind
namespace Go.Proofs.Ytfdclifdemajfaa.Dir
set_option linter.unusedVariables false
set_option linter.unusedSimpArgs false
open Go.RowKit Go.Shelf Oct Path
def delR (s n : List UInt8) : List UInt8 × Nat × Int :=
  if checkE s = 0 then (if (findR s n).2.2 = true then (putL s (findR s n).2.1 freeL, (findR s n).1, 0) else ([], 0, 3)) else ([], 0, checkE s)
def setR (s n : List UInt8) (i : Nat) : List UInt8 × Int :=
  if checkE s = 0 then (if i = 0 then ([], 2) else if (findR s n).2.2 = true then (putL s (findR s n).2.1 (slotL (n, i)), 0) else ([], 3)) else ([], checkE s)
theorem findR_is {s n : List UInt8} (h : (findR s n).2.2 = true) : checkE s = 0 ∧ s.length ≤ 2304 ∧ findK n (slotsL s) = some (findR s n).2.1 ∧ 32 * ((findR s n).2.1 + 1) ≤ s.length ∧ isName n = true ∧ (findR s n).1 = inoOf n (slotsL s) := by
  unfold findR at h ⊢
  by_cases hc : checkE s = 0
  · rw [if_pos hc] at h ⊢
    obtain ⟨d1, d2, d3⟩ := dir_of hc
    cases hf : findK n (slotsL s) with
    | none => rw [hf] at h; simp at h
    | some k =>
      obtain ⟨hk, k0, k1⟩ := find_some hf
      have hle := d1.le
      refine ⟨hc, by omega, rfl, by simp only; omega, ?_, ?_⟩
      · have := (may_name (okE_may (d1.ok _ (List.getElem_mem hk)) k0).1).2
        rw [k1] at this
        exact this
      · unfold inoOf
        rw [hf]
  · rw [if_neg hc] at h
    simp at h
theorem findR_no {s n : List UInt8} (hc : checkE s = 0) (h : (findR s n).2.2 = false) : findK n (slotsL s) = none := by
  unfold findR at h
  rw [if_pos hc] at h
  cases hf : findK n (slotsL s) with
  | none => rfl
  | some k => rw [hf] at h; simp at h
set_option maxRecDepth 100000 in
set_option maxHeartbeats 1000000 in
theorem del_any (s nm : ByteArray) (w : World) (hs : s.size ≤ maxLen) (hnm : nm.size ≤ maxLen) :
    Calls Try.prog 50 #[.string s, .string nm] w fun e w' => e = .returned (.tuple #[.string (B (delR (L s) (L nm)).1), .int .u32 (delR (L s) (L nm)).2.1, .int .i64 (delR (L s) (L nm)).2.2]) ∧ Below w.heap.size w w' := by
  have CK := Lib.hid (fun W => check_any s W hs)
  have FD := Lib.hid (fun W => find_any s nm W hs hnm)
  by_cases hc : checkE (L s) = 0
  · have e0 : delR (L s) (L nm) = (if (findR (L s) (L nm)).2.2 = true then (putL (L s) (findR (L s) (L nm)).2.1 freeL, (findR (L s) (L nm)).1, 0) else ([], 0, 3)) := by unfold delR; rw [if_pos hc]
    rw [hc] at CK
    cases hq : (findR (L s) (L nm)).2.2 with
    | false =>
      rw [hq] at e0
      rw [e0, if_neg (by simp)]
      rw [hq] at FD
      generalize (findR (L s) (L nm)).1 = fi at *
      generalize (findR (L s) (L nm)).2.1 = fk at *
      clear e0 hc hq hs hnm
      go_enter Try.func50, Try.ntmps50
      go_wp2_with fail
      refine (CK.out _).mono ?_
      rintro e w1 ⟨rfl, b1⟩
      go_wp2_with fail
      refine (FD.out _).mono ?_
      rintro e w2 ⟨rfl, b2⟩
      go_wp2
      go_ret3
      exact ⟨rfl, b1.trans (b2.mono b1.size)⟩
    | true =>
      obtain ⟨x1, hle, x3, hk, x5, x6⟩ := findR_is hq
      clear x1 x3 x5 x6
      rw [hq] at e0
      rw [e0, if_pos rfl]
      rw [hq] at FD
      rw [len_L] at hle hk
      have FR := Lib.hid (fun W => free_any W)
      have PT := Lib.hid (fun W => put_any s (B freeL) (findR (L s) (L nm)).2.1 W (by omega) (by rw [size_B, len_free]; omega) hk)
      rw [L_B] at PT
      generalize (findR (L s) (L nm)).1 = fi at *
      generalize (findR (L s) (L nm)).2.1 = fk at *
      generalize B (putL (L s) fk freeL) = res at *
      generalize B freeL = fr at *
      clear e0 hc hq hs hnm hle hk
      go_enter Try.func50, Try.ntmps50
      go_wp2_with fail
      refine (CK.out _).mono ?_
      rintro e w1 ⟨rfl, b1⟩
      go_wp2_with fail
      refine (FD.out _).mono ?_
      rintro e w2 ⟨rfl, b2⟩
      go_wp2_with fail
      refine (FR.out _).mono ?_
      rintro e w3 ⟨rfl, b3⟩
      go_wp2_with fail
      refine (PT.out _).mono ?_
      rintro e w4 ⟨rfl, n4, rfl⟩
      go_wp2
      go_ret3
      exact ⟨rfl, (b1.trans ((b2.trans (b3.mono b2.size)).mono b1.size)).trans (Oct.below_drewN _ _ _)⟩
  · have e0 : delR (L s) (L nm) = ([], 0, checkE (L s)) := by unfold delR; rw [if_neg hc]
    rw [e0]
    have q1 : (checkE (L s) != 0) = true := by simpa using hc
    have q2 : (checkE (L s) == 0) = false := by simpa using hc
    generalize checkE (L s) = ce at *
    clear e0 hc hs hnm FD
    go_enter Try.func50, Try.ntmps50
    go_wp2_with fail
    refine (CK.out _).mono ?_
    rintro e w1 ⟨rfl, b1⟩
    go_wp2
    go_ret3
    exact ⟨rfl, b1⟩
set_option maxRecDepth 100000 in
set_option maxHeartbeats 1000000 in
theorem set_any (s nm : ByteArray) (i : Nat) (w : World) (hs : s.size ≤ maxLen) (hnm : nm.size ≤ maxLen) (hi : i < 4294967296) :
    Calls Try.prog 51 #[.string s, .string nm, .int .u32 i] w fun e w' => e = .returned (.tuple #[.string (B (setR (L s) (L nm) i).1), .int .i64 (setR (L s) (L nm) i).2]) ∧ Below w.heap.size w w' := by
  have CK := Lib.hid (fun W => check_any s W hs)
  have FD := Lib.hid (fun W => find_any s nm W hs hnm)
  by_cases hc : checkE (L s) = 0
  · have e0 : setR (L s) (L nm) i = (if i = 0 then ([], 2) else if (findR (L s) (L nm)).2.2 = true then (putL (L s) (findR (L s) (L nm)).2.1 (slotL (L nm, i)), 0) else ([], 3)) := by unfold setR; rw [if_pos hc]
    rw [hc] at CK
    by_cases hi0 : i = 0
    · subst hi0
      rw [e0, if_pos rfl]
      generalize (findR (L s) (L nm)).1 = fi at *
      generalize (findR (L s) (L nm)).2.1 = fk at *
      generalize (findR (L s) (L nm)).2.2 = fb at *
      clear e0 hc hs hnm hi
      go_enter Try.func51, Try.ntmps51
      go_wp2_with fail
      refine (CK.out _).mono ?_
      rintro e w1 ⟨rfl, b1⟩
      go_wp2_with fail
      refine (FD.out _).mono ?_
      rintro e w2 ⟨rfl, b2⟩
      go_wp2
      go_ret2
      exact ⟨rfl, b1.trans (b2.mono b1.size)⟩
    · rw [if_neg hi0] at e0
      have t0 : ((i : Int) == 0) = false := by simp; omega
      have t1 : (i == 0) = false := by simp; omega
      cases hq : (findR (L s) (L nm)).2.2 with
      | false =>
        rw [hq] at e0
        rw [e0, if_neg (by simp)]
        rw [hq] at FD
        generalize (findR (L s) (L nm)).1 = fi at *
        generalize (findR (L s) (L nm)).2.1 = fk at *
        clear e0 hc hq hs hnm hi0
        go_enter Try.func51, Try.ntmps51
        go_wp2_with fail
        refine (CK.out _).mono ?_
        rintro e w1 ⟨rfl, b1⟩
        go_wp2_with fail
        refine (FD.out _).mono ?_
        rintro e w2 ⟨rfl, b2⟩
        go_wp2
        go_ret2
        exact ⟨rfl, b1.trans (b2.mono b1.size)⟩
      | true =>
        obtain ⟨x1, hle, x3, hk, hn, x6⟩ := findR_is hq
        clear x1 x3 x6
        rw [hq] at e0
        rw [e0, if_pos rfl]
        rw [hq] at FD
        rw [len_L] at hle hk
        have hn27 := (name_len hn).2
        rw [len_L] at hn27
        have SL := Lib.hid (fun W => slot_any nm i W hn27 hi)
        have hm : may (L nm, i) = true := by simp [may, hi0, hn]
        have PT := Lib.hid (fun W => put_any s (B (slotL (L nm, i))) (findR (L s) (L nm)).2.1 W (by omega) (by rw [size_B, len_slot hm]; omega) hk)
        rw [L_B] at PT
        generalize (findR (L s) (L nm)).1 = fi at *
        generalize (findR (L s) (L nm)).2.1 = fk at *
        generalize B (putL (L s) fk (slotL (L nm, i))) = res at *
        generalize B (slotL (L nm, i)) = sl at *
        clear e0 hc hq hs hnm hle hk hn hm hi0
        go_enter Try.func51, Try.ntmps51
        go_wp2_with fail
        refine (CK.out _).mono ?_
        rintro e w1 ⟨rfl, b1⟩
        go_wp2_with fail
        refine (FD.out _).mono ?_
        rintro e w2 ⟨rfl, b2⟩
        go_wp2_with fail
        refine (SL.out _).mono ?_
        rintro e w3 ⟨rfl, b3⟩
        go_wp2_with fail
        refine (PT.out _).mono ?_
        rintro e w4 ⟨rfl, n4, rfl⟩
        go_wp2
        go_ret2
        exact ⟨rfl, (b1.trans ((b2.trans (b3.mono b2.size)).mono b1.size)).trans (Oct.below_drewN _ _ _)⟩
  · have e0 : setR (L s) (L nm) i = ([], checkE (L s)) := by unfold setR; rw [if_neg hc]
    rw [e0]
    have q1 : (checkE (L s) != 0) = true := by simpa using hc
    have q2 : (checkE (L s) == 0) = false := by simpa using hc
    generalize checkE (L s) = ce at *
    clear e0 hc hs hnm FD
    go_enter Try.func51, Try.ntmps51
    go_wp2_with fail
    refine (CK.out _).mono ?_
    rintro e w1 ⟨rfl, b1⟩
    go_wp2
    go_ret2
    exact ⟨rfl, b1⟩
end Go.Proofs.Ytfdclifdemajfaa.Dir
