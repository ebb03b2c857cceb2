/- Layer 10, plain: what the code makes of a directory's bytes, by its entries. -/
import Derived.Test.YtfdclifdemajfaaDirLong
namespace Go.Proofs.Ytfdclifdemajfaa.Dir
set_option linter.unusedVariables false
open Oct Path
def resL (r : Int × List Ent) : List UInt8 × Int := (if r.1 = 0 then encL r.2 else [], r.1)
theorem findR_enc {es : List Ent} (d : Dir es) (n : List UInt8) : (findR (encL es) n).1 = inoOf n es ∧ (findR (encL es) n).2.2 = decide (inoOf n es ≠ 0) ∧ findK n es = (if (findR (encL es) n).2.2 = true then some (findR (encL es) n).2.1 else none) := by
  unfold findR
  rw [if_pos (check_enc d), slots_enc d.ok]
  cases hf : findK n es with
  | none =>
    have := ino_none hf
    simp [this]
  | some k =>
    obtain ⟨hk, h1, h2⟩ := ino_some hf
    simp only [h1]
    refine ⟨?_, ?_, by simp⟩
    · simp [List.getD_eq_getElem?_getD, List.getElem?_eq_getElem hk]
    · rw [h1] at h2
      simp [h2]
theorem addR_enc {es : List Ent} (d : Dir es) (n : List UInt8) (i : Nat) (hi : i < 4294967296) : addR (encL es) n i = resL (addL n i es) := by
  unfold addR addL resL
  rw [if_pos (check_enc d), slots_enc d.ok, len_encL d.ok]
  obtain ⟨f1, f2, f3⟩ := findR_enc d n
  cases hm : may (n, i) with
  | false => simp
  | true =>
    have okN : OkE (n, i) := .inr ⟨hm, hi⟩
    have hen : slotL (n, i) = encE (n, i) := by unfold encE; rw [if_neg (may_name hm).1]
    simp only [if_true]
    rw [f3]
    cases hq : (findR (encL es) n).2.2 with
    | true => simp
    | false =>
      simp only [Bool.false_eq_true, if_false]
      cases hk : freeK es with
      | some k =>
        obtain ⟨hk1, hk2⟩ := free_some hk
        have hp := put_enc d.ok okN hk1
        rw [hen]
        simp [hp]
      | none =>
        by_cases hf : 72 ≤ es.length
        · rw [if_pos (by omega), if_pos hf]; simp
        · rw [if_neg (by omega), if_neg hf]
          have h2 : encL (es ++ [((n, i) : Ent), ([], 0)]) = encL es ++ encE (n, i) ++ freeL := by
            rw [encL_append, List.append_assoc]
            congr 1
          rw [hen, ← h2]
          simp
theorem setR_enc {es : List Ent} (d : Dir es) (n : List UInt8) (i : Nat) (hi : i < 4294967296) : setR (encL es) n i = resL (setL n i es) := by
  unfold setR setL resL
  rw [if_pos (check_enc d)]
  obtain ⟨f1, f2, f3⟩ := findR_enc d n
  by_cases h0 : i = 0
  · rw [if_pos h0, if_pos h0]; simp
  · rw [if_neg h0, if_neg h0, f3]
    cases hq : (findR (encL es) n).2.2 with
    | false => simp
    | true =>
      rw [hq] at f3
      simp only [if_true] at f3 ⊢
      obtain ⟨hk, k0, k1⟩ := find_some f3
      have hn := (may_name (okE_may (d.ok _ (List.getElem_mem hk)) k0).1).2
      rw [k1] at hn
      have hm : may (n, i) = true := by simp [may, h0, hn]
      have hen : slotL (n, i) = encE (n, i) := by unfold encE; rw [if_neg h0]
      rw [hen, put_enc d.ok (.inr ⟨hm, hi⟩) hk]
theorem delR_enc {es : List Ent} (d : Dir es) (n : List UInt8) : delR (encL es) n = ((resL (delL n es)).1, (if (delL n es).1 = 0 then inoOf n es else 0), (delL n es).1) := by
  unfold delR delL resL
  rw [if_pos (check_enc d)]
  obtain ⟨f1, f2, f3⟩ := findR_enc d n
  rw [f3]
  cases hq : (findR (encL es) n).2.2 with
  | false => simp
  | true =>
    rw [hq] at f3
    simp only [if_true] at f3 ⊢
    obtain ⟨hk, k0, k1⟩ := find_some f3
    rw [show freeL = encE ([], 0) from rfl, put_enc d.ok (.inl rfl) hk, f1]
theorem trimR_enc {es : List Ent} (d : Dir es) : trimR (encL es) = (encL (trimL es), 0) := by
  unfold trimR
  rw [if_pos (check_enc d), slots_enc d.ok]
theorem listL_enc {es : List Ent} (d : Dir es) : listL (encL es) = live es := by
  unfold listL
  rw [if_pos (check_enc d), slots_enc d.ok]
theorem size_enc {es : List Ent} (d : Dir es) : (B (encL es)).size ≤ 2304 := by
  rw [size_B, len_encL d.ok]
  have := d.le
  omega
theorem dir_nil : Dir [] := ⟨fun e he => by simp at he, rfl, by decide, by simp [names, live]⟩
end Go.Proofs.Ytfdclifdemajfaa.Dir
