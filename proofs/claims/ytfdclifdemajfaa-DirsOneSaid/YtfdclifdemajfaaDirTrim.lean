/- Layer 10: the walk of dirs.Trim. -/
import Derived.Test.YtfdclifdemajfaaDirOps
import Derived.Test.YtfdclifdemajfaaOctetSplit
namespace Go.Proofs.Ytfdclifdemajfaa.Dir
set_option linter.unusedVariables false
set_option linter.unusedSimpArgs false
open Go.RowKit Go.Shelf Oct Path
theorem bare_nil_iff (l : List UInt8) : bareL l = [] ↔ l = List.replicate l.length 0 := by
  constructor
  · intro h
    have := bare_pad l
    rw [h, List.nil_append] at this
    simpa using this.symm
  · intro h
    have h2 := bareL_pad [] l.length
    rw [List.nil_append, ← h] at h2
    exact h2
def pairFree (es : List Ent) (m : Nat) : Bool := decide ((es.getD (2 * m) ([], 0)).2 = 0 ∧ (es.getD (2 * m + 1) ([], 0)).2 = 0)
theorem trimJ_yes {es : List Ent} {m : Nat} (h : pairFree es m = true) : trimJ es (m + 1) = trimJ es m := by
  rw [trimJ, if_pos (by simpa [pairFree] using h)]
theorem trimJ_no {es : List Ent} {m : Nat} (h : pairFree es m = false) : trimJ es (m + 1) = m + 1 := by
  rw [trimJ, if_neg (by simpa [pairFree] using h)]
theorem take_pair {es : List Ent} {m : Nat} (h : 2 * m + 2 ≤ es.length) : es.take (2 * (m + 1)) = es.take (2 * m) ++ [es.getD (2 * m) ([], 0), es.getD (2 * m + 1) ([], 0)] := by
  have e1 : es.take (2 * m + 1) = es.take (2 * m) ++ [es.getD (2 * m) ([], 0)] := by
    rw [List.take_succ_eq_append_getElem (by omega)]
    simp [List.getD_eq_getElem?_getD, List.getElem?_eq_getElem (show 2 * m < es.length by omega)]
  have e2 : es.take (2 * m + 1 + 1) = es.take (2 * m + 1) ++ [es.getD (2 * m + 1) ([], 0)] := by
    rw [List.take_succ_eq_append_getElem (by omega)]
    simp [List.getD_eq_getElem?_getD, List.getElem?_eq_getElem (show 2 * m + 1 < es.length by omega)]
  rw [show 2 * (m + 1) = 2 * m + 1 + 1 by omega, e2, e1, List.append_assoc]
  rfl
theorem enc_pair {es : List Ent} (d : Dir es) {m : Nat} (h : 2 * m + 2 ≤ es.length) :
    (encL (es.take (2 * (m + 1)))).length = 64 * (m + 1) ∧ (encL (es.take (2 * (m + 1)))).take (64 * m) = encL (es.take (2 * m)) ∧ (bareL ((encL (es.take (2 * (m + 1)))).drop (64 * m)) = [] ↔ pairFree es m = true) := by
  have ok : ∀ j, OkE (es.getD j ([], 0)) := fun j => by
    rw [List.getD_eq_getElem?_getD]
    by_cases hj : j < es.length
    · rw [List.getElem?_eq_getElem hj]; exact d.ok _ (List.getElem_mem hj)
    · rw [List.getElem?_eq_none (by omega)]; exact .inl rfl
  have l1 : (encL (es.take (2 * m))).length = 64 * m := by
    rw [len_encL (fun x hx => d.ok x (List.mem_of_mem_take hx)), List.length_take]; omega
  have e1 : encL (es.take (2 * (m + 1))) = encL (es.take (2 * m)) ++ (encE (es.getD (2 * m) ([], 0)) ++ encE (es.getD (2 * m + 1) ([], 0))) := by
    rw [take_pair h, encL_append]
    simp [encL]
  have a1 := len_enc (ok (2 * m))
  have a2 := len_enc (ok (2 * m + 1))
  refine ⟨?_, ?_, ?_⟩
  · rw [e1, List.length_append, List.length_append]; omega
  · rw [e1, List.take_append_of_le_length (by omega), List.take_of_length_le (by omega)]
  · rw [e1, List.drop_append_of_le_length (by omega), List.drop_of_length_le (by omega), List.nil_append, bare_nil_iff]
    have free_of : ∀ {e : Ent}, OkE e → (encE e = List.replicate 32 0 ↔ e.2 = 0) := fun {e} he => by
      constructor
      · intro hr
        by_cases h0 : e.2 = 0
        · exact h0
        · unfold encE at hr
          rw [if_neg h0] at hr
          exact absurd hr (slot_ne_free h0 (okE_may he h0).2)
      · intro h0
        unfold encE
        rw [if_pos h0]
        rfl
    have hl : (encE (es.getD (2 * m) ([], 0)) ++ encE (es.getD (2 * m + 1) ([], 0))).length = 32 + 32 := by rw [List.length_append, a1, a2]
    rw [hl, ← List.replicate_append_replicate]
    have hi : (encE (es.getD (2 * m) ([], 0)) ++ encE (es.getD (2 * m + 1) ([], 0)) = List.replicate 32 0 ++ List.replicate 32 0) ↔ encE (es.getD (2 * m) ([], 0)) = List.replicate 32 0 ∧ encE (es.getD (2 * m + 1) ([], 0)) = List.replicate 32 0 := by
      constructor
      · intro hh
        exact List.append_inj hh (by rw [a1]; simp)
      · rintro ⟨p, q⟩; rw [p, q]
    rw [hi, free_of (ok _), free_of (ok _)]
    simp [pairFree]
def trimR (s : List UInt8) : List UInt8 × Int := if checkE s = 0 then (encL (trimL (slotsL s)), 0) else ([], checkE s)
set_option maxRecDepth 100000 in
set_option maxHeartbeats 1000000 in
theorem trim_yes (s : ByteArray) (es : List Ent) (hes : slotsL (L s) = es) (w : World) (hc : checkE (L s) = 0) :
    Calls Try.prog 55 #[.string s] w fun e w' => e = .returned (.tuple #[.string (B (encL (trimL es))), .int .i64 0]) ∧ Below w.heap.size w w' := by
  obtain ⟨d, d2, d3⟩ := dir_of hc
  rw [hes] at d d2 d3
  have hle := d.le
  have hev := d.even
  rw [len_L] at d3
  have CK := Lib.hid (fun W => check_any s W (by unfold maxLen; omega))
  rw [hc] at CK
  have hsB : B (encL (es.take (2 * (es.length / 2)))) = s := by
    rw [show 2 * (es.length / 2) = es.length by omega, List.take_length, d2, B_L]
  have HS := Lib.hid hsB
  have HD := Lib.hid d
  clear hc d2 hsB hes d d3
  go_enter Try.func55, Try.ntmps55
  go_wp2_with fail
  refine (CK.out _).mono ?_
  rintro e w1 ⟨rfl, b1⟩
  go_wp2
  go_loopw [0] (fun t wr => ∃ j : Nat, j ≤ es.length / 2 ∧ trimJ es j = trimJ es (es.length / 2) ∧ t = .string (B (encL (es.take (2 * j)))) ∧ Below w.heap.size w wr) (fun t _ => strLen t)
  case atStart => exact ⟨es.length / 2, Nat.le_refl _, rfl, by rw [HS.out], b1⟩
  case round =>
    obtain ⟨j, hj, hjt, rfl, hB⟩ := hrel
    cases j with
    | zero =>
      have HF : Hid (B (encL (trimL es)) = ⟨#[]⟩) := Lib.hid (by unfold trimL; rw [← hjt]; rfl)
      have hz : B (encL (es.take (2 * 0))) = ⟨#[]⟩ := rfl
      rw [hz]
      clear hjt hz
      go_wp2
      go_ret2
      exact ⟨by rw [HF.out]; rfl, hB⟩
    | succ m =>
      obtain ⟨e1, e2, e3⟩ := enc_pair HD.out (m := m) (by omega)
      have HJ := Lib.hid hjt
      obtain ⟨sv, hsv⟩ : ∃ x, B (encL (es.take (2 * (m + 1)))) = x := ⟨_, rfl⟩
      have hsz : sv.size = 64 * (m + 1) := by rw [← hsv, size_B, e1]
      have hLv : L sv = encL (es.take (2 * (m + 1))) := by rw [← hsv, L_B]
      rw [← hLv] at e2 e3
      have EX1 : Hid (sv.extract (sv.size - 64) sv.size = B ((L sv).drop (64 * m))) := Lib.hid (by rw [ex_rest, show sv.size - 64 = 64 * m by omega])
      have EX2 : Hid (sv.extract 0 (sv.size - 64) = B (encL (es.take (2 * m)))) := Lib.hid (by rw [ex_front, show sv.size - 64 = 64 * m by omega, e2])
      have BR := Lib.hid (fun W => bare_ok (B ((L sv).drop (64 * m))) W (by rw [size_B, List.length_drop, len_L]; unfold maxLen; omega))
      rw [L_B] at BR
      have n1 : sv.toList.isEmpty = false := empty_no (by omega)
      have a1 : (64 : Int) ≤ (sv.size : Int) := by omega
      have a2 : (0 : Int) ≤ (sv.size : Int) - 64 := by omega
      have a3 : (sv.size : Int) - 64 ≤ (sv.size : Int) := by omega
      have a4 : ((sv.size : Int) - 64).toNat = sv.size - 64 := by omega
      have a5 : (sv.size : Int) ≤ 4608 := by omega
      have hmj : m + 1 ≤ es.length / 2 := hj
      have HSV := Lib.hid hsv
      have HSZ := Lib.hid hsz
      rw [hsv]
      by_cases hp : pairFree es m = true
      · rw [e3.2 hp, show B [] = (⟨#[]⟩ : ByteArray) from rfl] at BR
        have HT : Hid (trimJ es m = trimJ es (es.length / 2)) := Lib.hid (by rw [← HJ.out, trimJ_yes hp])
        clear hp e1 e2 e3 hjt hsv hsz hLv
        go_wp2_with fail
        rw [EX1.out]
        refine (BR.out _).mono ?_
        rintro e w2 ⟨rfl, rfl⟩
        go_wp2
        go_roundw
        case rel => exact ⟨m, by omega, HT.out, by rw [EX2.out], hB⟩
        case measure =>
          show strLen (.string _) < strLen (.string _)
          simp only [strLen]
          rw [EX2.out, size_B, len_encL (fun x hx => HD.out.ok x (List.mem_of_mem_take hx)), List.length_take]
          have := HSZ.out
          omega
      · have hpf : pairFree es m = false := by simpa using hp
        have HF : Hid (B (encL (trimL es)) = sv) := Lib.hid (by unfold trimL; rw [← HJ.out, trimJ_no hpf]; exact HSV.out)
        have hne : bareL ((L sv).drop (64 * m)) ≠ [] := fun h => hp (e3.1 h)
        have n2 : (B (bareL ((L sv).drop (64 * m)))).toList.isEmpty = false := empty_no (by rw [size_B]; exact List.length_pos_iff.2 hne)
        have n3 : ¬ ((B (bareL ((L sv).drop (64 * m)))).toList = []) := by rw [toList_L, L_B]; exact hne
        generalize B (bareL ((L sv).drop (64 * m))) = bt at *
        clear hp hpf e1 e2 e3 hjt hsv hsz hLv hne
        go_wp2_with fail
        rw [EX1.out]
        refine (BR.out _).mono ?_
        rintro e w2 ⟨rfl, rfl⟩
        go_wp2
        go_ret2
        exact ⟨by rw [HF.out]; rfl, hB⟩
/-- dirs.Trim, of any text. -/
theorem trim_any (s : ByteArray) (w : World) (hs : s.size ≤ maxLen) :
    Calls Try.prog 55 #[.string s] w fun e w' => e = .returned (.tuple #[.string (B (trimR (L s)).1), .int .i64 (trimR (L s)).2]) ∧ Below w.heap.size w w' := by
  by_cases hc : checkE (L s) = 0
  · have e0 : trimR (L s) = (encL (trimL (slotsL (L s))), 0) := by unfold trimR; rw [if_pos hc]
    rw [e0]
    exact trim_yes s _ rfl w hc
  · have e0 : trimR (L s) = ([], checkE (L s)) := by unfold trimR; rw [if_neg hc]
    have CK := Lib.hid (fun W => check_any s W hs)
    rw [e0]
    have q1 : (checkE (L s) != 0) = true := by simpa using hc
    have q2 : (checkE (L s) == 0) = false := by simpa using hc
    generalize checkE (L s) = ce at *
    clear e0 hc hs
    go_enter Try.func55, Try.ntmps55
    go_wp2_with fail
    refine (CK.out _).mono ?_
    rintro e w1 ⟨rfl, b1⟩
    go_wp2
    go_ret2
    exact ⟨rfl, b1⟩
end Go.Proofs.Ytfdclifdemajfaa.Dir
