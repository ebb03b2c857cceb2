/- Layer 10, plain: what Add, Set, Del and Trim do to a directory's entries. No program in sight. -/
import Derived.Test.YtfdclifdemajfaaDirPlain2
namespace Go.Proofs.Ytfdclifdemajfaa.Dir
set_option linter.unusedVariables false
open Oct Path
theorem find_set {m : List UInt8} : ∀ {es : List Ent} {k : Nat} {e : Ent} (hk : k < es.length) (h1 : hit m (es[k]'hk) = false) (h2 : hit m e = false), findK m (es.set k e) = findK m es
  | x :: r, 0, e, _, h1, h2 => by
    simp only [List.getElem_cons_zero] at h1
    unfold findK
    rw [List.set_cons_zero, List.findIdx?_cons, List.findIdx?_cons, h1, h2]
  | x :: r, k + 1, e, hk, h1, h2 => by
    have := find_set (m := m) (es := r) (k := k) (e := e) (by simpa using hk) (by simpa using h1) h2
    unfold findK at this ⊢
    rw [List.set_cons_succ, List.findIdx?_cons, List.findIdx?_cons, this]
theorem find_hit {m : List UInt8} {es : List Ent} {k : Nat} (h : findK m es = some k) : ∃ hk : k < es.length, hit m (es[k]'hk) = true := by
  obtain ⟨hk, h1, _⟩ := List.findIdx?_eq_some_iff_getElem.1 h
  exact ⟨hk, h1⟩
theorem ino_set {m : List UInt8} {es : List Ent} {k : Nat} {e : Ent} (hk : k < es.length) (h1 : hit m (es[k]'hk) = false) (h2 : hit m e = false) : inoOf m (es.set k e) = inoOf m es := by
  unfold inoOf
  rw [find_set hk h1 h2]
  cases hf : findK m es with
  | none => rfl
  | some j =>
    obtain ⟨hj, hh⟩ := find_hit hf
    have hne : k ≠ j := fun e => by subst e; rw [h1] at hh; cases hh
    simp only [List.getD_eq_getElem?_getD, List.getElem?_set_ne hne]
theorem find_app {m : List UInt8} {es r : List Ent} (h : ∀ e ∈ r, hit m e = false) : findK m (es ++ r) = findK m es := by
  unfold findK
  rw [List.findIdx?_append]
  have : List.findIdx? (hit m) r = none := List.findIdx?_eq_none_iff.2 h
  rw [this]
  cases List.findIdx? (hit m) es <;> rfl
theorem ino_app {m : List UInt8} {es r : List Ent} (h : ∀ e ∈ r, hit m e = false) : inoOf m (es ++ r) = inoOf m es := by
  unfold inoOf
  rw [find_app h]
  cases hf : findK m es with
  | none => rfl
  | some j =>
    obtain ⟨hj, hh⟩ := find_hit hf
    simp only [List.getD_eq_getElem?_getD, List.getElem?_append_left hj]
theorem ino_at {n : List UInt8} {es : List Ent} (h : (names es).Nodup) {k : Nat} (hk : k < es.length) (h0 : (es[k]'hk).2 ≠ 0) (h1 : (es[k]'hk).1 = n) : inoOf n es = (es[k]'hk).2 := by
  unfold inoOf
  rw [find_at h hk h0 h1]
  simp only [List.getD_eq_getElem?_getD, List.getElem?_eq_getElem hk, Option.getD_some]
theorem ino_none {n : List UInt8} {es : List Ent} (h : findK n es = none) : inoOf n es = 0 := by unfold inoOf; rw [h]
theorem ino_some {n : List UInt8} {es : List Ent} {k : Nat} (h : findK n es = some k) : ∃ hk : k < es.length, inoOf n es = (es[k]'hk).2 ∧ inoOf n es ≠ 0 := by
  obtain ⟨hk, h0, _⟩ := find_some h
  have e : inoOf n es = (es[k]'hk).2 := by
    unfold inoOf
    rw [h]
    simp only [List.getD_eq_getElem?_getD, List.getElem?_eq_getElem hk, Option.getD_some]
  exact ⟨hk, e, by rw [e]; exact h0⟩
theorem ino_is (n : List UInt8) (es : List Ent) : (findK n es).isSome = decide (inoOf n es ≠ 0) := by
  cases hf : findK n es with
  | none => rw [ino_none hf]; rfl
  | some k =>
    obtain ⟨_, _, h⟩ := ino_some hf
    simp [h]
theorem hit_free (m : List UInt8) {e : Ent} (h : e.2 = 0) : hit m e = false := by simp [hit, h]
theorem hit_other {m : List UInt8} {e : Ent} (h : e.1 ≠ m) : hit m e = false := by simp [hit, h]

theorem split_at {es : List Ent} {k : Nat} (hk : k < es.length) (e : Ent) : es = es.take k ++ es[k] :: es.drop (k + 1) ∧ es.set k e = es.take k ++ e :: es.drop (k + 1) := by
  refine ⟨by rw [List.getElem_cons_drop, List.take_append_drop], ?_⟩
  rw [List.set_eq_take_append_cons_drop, if_pos hk]
theorem names_app (a b : List Ent) : names (a ++ b) = names a ++ names b := by simp [names, live]
theorem names_free {e : Ent} (h : e.2 = 0) (r : List Ent) : names (e :: r) = names r := by simp [names, live, h]
theorem names_cons {e : Ent} (h : e.2 ≠ 0) (r : List Ent) : names (e :: r) = e.1 :: names r := by simp [names, live, h]
theorem count_names (es : List Ent) : (live es).length = (names es).length := by simp [names]
theorem nodup_mid {α : Type} {a b : List α} {x : α} (h : (a ++ b).Nodup) (hx : x ∉ a ++ b) : (a ++ x :: b).Nodup := by
  have p : (a ++ x :: b).Perm (x :: (a ++ b)) := List.perm_middle
  exact p.nodup_iff.2 (List.nodup_cons.2 ⟨hx, h⟩)

/-- What an Add that is done makes. -/
theorem add_ok {n : List UInt8} {i : Nat} {es es' : List Ent} (d : Dir es) (hi : i < 4294967296) (h : addL n i es = (0, es')) :
    Dir es' ∧ (live es').length = (live es).length + 1 ∧ inoOf n es = 0 ∧ inoOf n es' = i ∧ i ≠ 0 ∧ (∀ m, m ≠ n → inoOf m es' = inoOf m es ∧ findK m es' = findK m es) ∧ ((∃ k, k < es.length ∧ es' = es.set k (n, i) ∧ freeK es = some k) ∨ (freeK es = none ∧ es' = es ++ [(n, i), ([], 0)])) := by
  unfold addL at h
  by_cases hm : may (n, i) = true
  · rw [if_neg (by simp [hm])] at h
    obtain ⟨h0, hn⟩ := may_name hm
    have okN : OkE (n, i) := .inr ⟨hm, hi⟩
    cases hf : findK n es with
    | some k => rw [hf] at h; simp at h
    | none =>
      rw [hf] at h
      simp only at h
      have hnn : n ∉ names es := fun hc => by
        obtain ⟨e, a, b, c⟩ := mem_names.1 hc
        exact find_none hf e a b c
      cases hq : freeK es with
      | some k =>
        rw [hq] at h
        simp only [Prod.mk.injEq, true_and] at h
        subst h
        obtain ⟨hk, hz⟩ := free_some hq
        obtain ⟨s1, s2⟩ := split_at hk (n, i)
        have e1 : names es = names (es.take k) ++ names (es.drop (k + 1)) := by rw [s1, names_app, names_free hz]; rw [← s1]
        have e2 : names (es.set k (n, i)) = names (es.take k) ++ n :: names (es.drop (k + 1)) := by rw [s2, names_app, names_cons h0]
        have hnd : (names (es.set k (n, i))).Nodup := by
          rw [e2]
          exact nodup_mid (e1 ▸ d.nodup) (e1 ▸ hnn)
        refine ⟨⟨fun e he => ?_, by simpa using d.even, by simpa using d.le, hnd⟩, ?_, ino_none hf, ?_, h0, fun m hmn => ⟨ino_set hk (hit_free m hz) (hit_other (by simpa using Ne.symm hmn)), find_set hk (hit_free m hz) (hit_other (by simpa using Ne.symm hmn))⟩, .inl ⟨k, hk, rfl, rfl⟩⟩
        · rcases List.mem_or_eq_of_mem_set he with h1 | h1
          · exact d.ok e h1
          · rw [h1]; exact okN
        · rw [count_names, count_names, e1, e2]; simp; omega
        · have := ino_at (n := n) hnd (k := k) (by simpa using hk) (by simpa using h0) (by simp)
          simpa using this
      | none =>
        rw [hq] at h
        simp only at h
        split at h
        · simp at h
        · rename_i hl
          simp only [Prod.mk.injEq, true_and] at h
          subst h
          have e2 : names (es ++ [(n, i), ([], 0)]) = names es ++ [n] := by rw [names_app, names_cons h0, names_free rfl]; rfl
          have hnd : (names (es ++ [(n, i), ([], 0)])).Nodup := by
            rw [e2]
            exact nodup_mid (by simpa using d.nodup) (by simpa using hnn)
          have hoth : ∀ m, m ≠ n → ∀ e ∈ [((n, i) : Ent), ([], 0)], hit m e = false := fun m hmn e he => by
            simp only [List.mem_cons, List.not_mem_nil, or_false] at he
            rcases he with rfl | rfl
            · exact hit_other (by simpa using Ne.symm hmn)
            · exact hit_free m rfl
          refine ⟨⟨fun e he => ?_, by have := d.even; simp; omega, by have := d.even; simp; omega, hnd⟩, ?_, ino_none hf, ?_, h0, fun m hmn => ⟨ino_app (hoth m hmn), find_app (hoth m hmn)⟩, .inr ⟨rfl, rfl⟩⟩
          · rcases List.mem_append.1 he with h1 | h1
            · exact d.ok e h1
            · simp only [List.mem_cons, List.not_mem_nil, or_false] at h1
              rcases h1 with rfl | rfl
              · exact okN
              · exact .inl rfl
          · rw [count_names, count_names, e2]; simp
          · have := ino_at (n := n) hnd (k := es.length) (by simp) (by simpa using h0) (by simp)
            simpa using this
  · rw [if_pos (by simpa using hm)] at h
    simp at h
/-- What a Set that is done makes. -/
theorem set_ok {n : List UInt8} {i : Nat} {es es' : List Ent} (d : Dir es) (hi : i < 4294967296) (h : setL n i es = (0, es')) :
    Dir es' ∧ (live es').length = (live es).length ∧ inoOf n es' = i ∧ i ≠ 0 ∧ (∀ m, m ≠ n → inoOf m es' = inoOf m es ∧ findK m es' = findK m es) ∧ findK n es' = findK n es ∧ (∃ k, findK n es = some k ∧ k < es.length ∧ es' = es.set k (n, i) ∧ may (n, i) = true) := by
  unfold setL at h
  by_cases h0 : i = 0
  · rw [if_pos h0] at h; simp at h
  · rw [if_neg h0] at h
    cases hf : findK n es with
    | none => rw [hf] at h; simp at h
    | some k =>
      rw [hf] at h
      simp only [Prod.mk.injEq, true_and] at h
      subst h
      obtain ⟨hk, k0, k1⟩ := find_some hf
      have hm : may (n, i) = true := by
        have := (may_name (okE_may (d.ok _ (List.getElem_mem hk)) k0).1).2
        rw [k1] at this
        simp [may, h0, this]
      obtain ⟨s1, s2⟩ := split_at hk (n, i)
      have e1 : names es = names (es.take k) ++ n :: names (es.drop (k + 1)) := by rw [s1, names_app, names_cons k0, k1]; rw [← s1]
      have e2 : names (es.set k (n, i)) = names (es.take k) ++ n :: names (es.drop (k + 1)) := by rw [s2, names_app, names_cons h0]
      have hnd : (names (es.set k (n, i))).Nodup := by rw [e2, ← e1]; exact d.nodup
      refine ⟨⟨fun e he => ?_, by simpa using d.even, by simpa using d.le, hnd⟩, ?_, ?_, h0, fun m hmn => ⟨ino_set hk (hit_other (by rw [k1]; exact Ne.symm hmn)) (hit_other (by simpa using Ne.symm hmn)), find_set hk (hit_other (by rw [k1]; exact Ne.symm hmn)) (hit_other (by simpa using Ne.symm hmn))⟩, ?_, ⟨k, rfl, hk, rfl, hm⟩⟩
      · rcases List.mem_or_eq_of_mem_set he with h1 | h1
        · exact d.ok e h1
        · rw [h1]; exact .inr ⟨hm, hi⟩
      · rw [count_names, count_names, e1, e2]
      · have := ino_at (n := n) hnd (k := k) (by simpa using hk) (by simpa using h0) (by simp)
        simpa using this
      · exact find_at hnd (by simpa using hk) (by simpa using h0) (by simp)
/-- What a Del that is done makes. -/
theorem del_ok {n : List UInt8} {es es' : List Ent} (d : Dir es) (h : delL n es = (0, es')) :
    Dir es' ∧ (live es).length = (live es').length + 1 ∧ inoOf n es' = 0 ∧ inoOf n es ≠ 0 ∧ (∀ m, m ≠ n → inoOf m es' = inoOf m es ∧ findK m es' = findK m es) ∧ (∃ k, findK n es = some k ∧ k < es.length ∧ es' = es.set k ([], 0)) := by
  unfold delL at h
  cases hf : findK n es with
  | none => rw [hf] at h; simp at h
  | some k =>
    rw [hf] at h
    simp only [Prod.mk.injEq, true_and] at h
    subst h
    obtain ⟨hk, k0, k1⟩ := find_some hf
    obtain ⟨s1, s2⟩ := split_at hk ([], 0)
    have e1 : names es = names (es.take k) ++ n :: names (es.drop (k + 1)) := by rw [s1, names_app, names_cons k0, k1]; rw [← s1]
    have e2 : names (es.set k ([], 0)) = names (es.take k) ++ names (es.drop (k + 1)) := by rw [s2, names_app, names_free rfl]
    have hp : (n :: (names (es.take k) ++ names (es.drop (k + 1)))).Nodup := by
      have p : (names (es.take k) ++ n :: names (es.drop (k + 1))).Perm (n :: (names (es.take k) ++ names (es.drop (k + 1)))) := List.perm_middle
      exact p.nodup_iff.1 (e1 ▸ d.nodup)
    obtain ⟨hnn, hnd⟩ := List.nodup_cons.1 hp
    refine ⟨⟨fun e he => ?_, by simpa using d.even, by simpa using d.le, by rw [e2]; exact hnd⟩, ?_, ?_, (ino_some hf).2.2, fun m hmn => ⟨ino_set hk (hit_other (by rw [k1]; exact Ne.symm hmn)) (hit_free m rfl), find_set hk (hit_other (by rw [k1]; exact Ne.symm hmn)) (hit_free m rfl)⟩, ⟨k, rfl, hk, rfl⟩⟩
    · rcases List.mem_or_eq_of_mem_set he with h1 | h1
      · exact d.ok e h1
      · rw [h1]; exact .inl rfl
    · rw [count_names, count_names, e1, e2]; simp; omega
    · refine ino_none ?_
      have hq := find_mem (n := n) (es := es.set k ([], 0))
      rw [e2, show decide (n ∈ names (es.take k) ++ names (es.drop (k + 1))) = false by simpa using hnn] at hq
      cases hz : findK n (es.set k ([], 0)) with
      | none => rfl
      | some j => rw [hz] at hq; cases hq

/-- How many sectors are left of j when the free ones at the end are cut. -/
def trimJ (es : List Ent) : Nat → Nat
  | 0 => 0
  | j + 1 => if (es.getD (2 * j) ([], 0)).2 = 0 ∧ (es.getD (2 * j + 1) ([], 0)).2 = 0 then trimJ es j else j + 1
def trimL (es : List Ent) : List Ent := es.take (2 * trimJ es (es.length / 2))
theorem trimJ_le (es : List Ent) : ∀ j, trimJ es j ≤ j
  | 0 => Nat.le_refl _
  | j + 1 => by
    unfold trimJ
    split
    · exact Nat.le_succ_of_le (trimJ_le es j)
    · exact Nat.le_refl _
theorem trimJ_free (es : List Ent) : ∀ j i, 2 * trimJ es j ≤ i → i < 2 * j → (es.getD i ([], 0)).2 = 0
  | 0, i, _, h => by omega
  | j + 1, i, h1, h2 => by
    unfold trimJ at h1
    split at h1
    · rename_i hz
      by_cases hi : i < 2 * j
      · exact trimJ_free es j i h1 hi
      · obtain rfl | rfl : i = 2 * j ∨ i = 2 * j + 1 := by omega
        · exact hz.1
        · exact hz.2
    · omega
theorem trim_split {es : List Ent} (d : Dir es) : es = trimL es ++ es.drop (2 * trimJ es (es.length / 2)) ∧ ∀ e ∈ es.drop (2 * trimJ es (es.length / 2)), e.2 = 0 := by
  refine ⟨(List.take_append_drop _ _).symm, fun e he => ?_⟩
  obtain ⟨i, hi, rfl⟩ := List.getElem_of_mem he
  rw [List.length_drop] at hi
  have := trimJ_free es (es.length / 2) (2 * trimJ es (es.length / 2) + i) (by omega) (by have := d.even; omega)
  rw [List.getElem_drop]
  rw [List.getD_eq_getElem?_getD, List.getElem?_eq_getElem (by omega)] at this
  exact this
theorem names_all_free {r : List Ent} (h : ∀ e ∈ r, e.2 = 0) : names r = [] := by
  unfold names live
  rw [List.filter_eq_nil_iff.2 (fun e he => by simp [h e he])]
  rfl
theorem trim_ok {es : List Ent} (d : Dir es) : Dir (trimL es) ∧ (live (trimL es)).length = (live es).length ∧ ∀ m, inoOf m (trimL es) = inoOf m es := by
  obtain ⟨hs, hf⟩ := trim_split d
  have hle := trimJ_le es (es.length / 2)
  have e1 : names es = names (trimL es) := by
    conv => lhs; rw [hs]
    rw [names_app, names_all_free hf, List.append_nil]
  have hl : (trimL es).length = 2 * trimJ es (es.length / 2) := by
    unfold trimL
    rw [List.length_take]
    have := d.even
    omega
  refine ⟨⟨fun e he => d.ok e (List.mem_of_mem_take he), by omega, by have := d.le; omega, e1 ▸ d.nodup⟩, by rw [count_names, count_names, e1], fun m => ?_⟩
  conv => rhs; rw [hs]
  rw [ino_app (fun e he => hit_free m (hf e he))]
end Go.Proofs.Ytfdclifdemajfaa.Dir
