/- Plain laws of paths: who lies under whom; what is split is joined again, and the other way round. No program in sight. -/
import Derived.Test.YtfdclifdemajfaaDoorPathUnder
namespace Go.Proofs.YtfdclifdemajfaaDoor.Path
set_option linter.unusedVariables false
open Oct

theorem fields_append : ∀ x r : List UInt8, fields (x ++ 47 :: r) = fields x ++ fields r
  | [], r => by simp [fields]
  | c :: x, r => by
    rw [List.cons_append, fields, fields, fields_append x r]
    by_cases h : c = 47
    · rw [if_pos h, if_pos h]; rfl
    · rw [if_neg h, if_neg h]
      cases hf : fields x with
      | nil => exact (fields_ne x hf).elim
      | cons f fs => rfl
theorem names_cons {l x : List UInt8} (h : l = 47 :: x) (hx : x ≠ []) : namesL l = fields x := by
  unfold namesL
  rw [if_neg (by rw [h]; simpa using hx), h]
  rfl
theorem names_nil_iff {l x : List UInt8} (h : l = 47 :: x) : namesL l = [] ↔ x = [] := by
  constructor
  · intro e
    by_cases hx : x = []
    · exact hx
    · rw [names_cons h hx] at e
      exact (fields_ne x e).elim
  · rintro rfl
    unfold namesL
    rw [if_pos h]

theorem under_iff (a b : List UInt8) : underB a b = true ↔ Ok a ∧ Ok b ∧ namesL a <+: namesL b := by
  unfold underB
  simp only [Bool.and_eq_true, Bool.or_eq_true, decide_eq_true_eq]
  constructor
  · rintro ⟨⟨h1, h2⟩, h3⟩
    have o1 := splitE_ok h1
    have o2 := splitE_ok h2
    refine ⟨o1, o2, ?_⟩
    rcases h3 with (h3 | h3) | h3
    · rw [h3]; exact List.nil_prefix
    · rw [h3]; exact List.prefix_refl _
    · obtain ⟨x, hx⟩ := o1.head
      rw [List.isPrefixOf_iff_prefix] at h3
      obtain ⟨r, hr⟩ := h3
      have hb : b = 47 :: (x ++ 47 :: r) := by rw [← hr, hx]; simp
      by_cases he : x = []
      · rw [(names_nil_iff hx).2 he]; exact List.nil_prefix
      · rw [names_cons hx he, names_cons hb (by simp), fields_append]
        exact List.prefix_append _ _
  · rintro ⟨o1, o2, t, ht⟩
    refine ⟨⟨ok_splitE o1, ok_splitE o2⟩, ?_⟩
    obtain ⟨x, hx⟩ := o1.head
    obtain ⟨y, hy⟩ := o2.head
    have pa := path_names a x hx
    have pb := path_names b y hy
    by_cases h0 : namesL a = []
    · exact .inl (.inl h0)
    · cases t with
      | nil =>
        rw [List.append_nil] at ht
        exact .inl (.inr (by rw [← pa, ← pb, ht]))
      | cons n t =>
        right
        rw [List.isPrefixOf_iff_prefix]
        have e1 : a = tailL (namesL a) := by
          conv => lhs; rw [← pa]
          unfold pathL
          rw [if_neg h0]
        have e2 : b = tailL (namesL a) ++ tailL (n :: t) := by
          conv => lhs; rw [← pb, ← ht]
          unfold pathL
          rw [if_neg (by simp), tailL_append]
        rw [e2, tailL_cons, ← e1]
        exact ⟨n ++ tailL t, by simp⟩

theorem under_self (a : List UInt8) : underB a a = decide (splitE a = 0) := by
  unfold underB
  simp
theorem root_ok : Ok [47] := ⟨by simp, ⟨[], rfl⟩, fun n hn => by simp [namesL] at hn, by simp [namesL]⟩
theorem under_root (a : List UInt8) : underB [47] a = decide (splitE a = 0) := by
  rw [Bool.eq_iff_iff, under_iff, decide_eq_true_eq]
  constructor
  · exact fun h => ok_splitE h.2.1
  · exact fun h => ⟨root_ok, splitE_ok h, by simp [namesL]⟩
theorem under_both {a b : List UInt8} (h1 : underB a b = true) (h2 : underB b a = true) : a = b := by
  obtain ⟨o1, o2, p1⟩ := (under_iff a b).1 h1
  obtain ⟨_, _, p2⟩ := (under_iff b a).1 h2
  obtain ⟨x, hx⟩ := o1.head
  obtain ⟨y, hy⟩ := o2.head
  have e := p1.eq_of_length (Nat.le_antisymm p1.length_le p2.length_le)
  rw [← path_names a x hx, ← path_names b y hy, e]
theorem under_trans {a b c : List UInt8} (h1 : underB a b = true) (h2 : underB b c = true) : underB a c = true := by
  obtain ⟨o1, o2, p1⟩ := (under_iff a b).1 h1
  obtain ⟨_, o3, p2⟩ := (under_iff b c).1 h2
  exact (under_iff a c).2 ⟨o1, o3, p1.trans p2⟩

theorem tail_mono {p q : List (List UInt8)} (h : p <+: q) : (tailL p).length ≤ (tailL q).length := by
  obtain ⟨t, rfl⟩ := h
  rw [tailL_append, List.length_append]
  omega
theorem path_mono {p q : List (List UInt8)} (h : p <+: q) (hq : q ≠ []) : (pathL p).length ≤ (pathL q).length := by
  have hm := tail_mono h
  unfold pathL
  rw [if_neg hq]
  by_cases hp : p = []
  · rw [if_pos hp]
    cases q with
    | nil => exact (hq rfl).elim
    | cons n q => rw [tailL_cons]; simp
  · rw [if_neg hp]; exact hm
theorem joinE_zero {ns : List (List UInt8)} (h : joinE ns = 0) : AllNames ns ∧ ns.length ≤ 8 ∧ (pathL ns).length ≤ 255 := by
  unfold joinE at h
  by_cases h1 : ns.all isName = false
  · rw [if_pos h1] at h; omega
  · rw [if_neg h1] at h
    by_cases h2 : 8 < ns.length ∨ 255 < (pathL ns).length
    · rw [if_pos h2] at h; omega
    · have : ns.all isName = true := by simpa using h1
      exact ⟨fun n hn => List.all_eq_true.1 this n hn, by omega, by omega⟩
theorem joinE_of {ns : List (List UInt8)} (h1 : AllNames ns) (h2 : ns.length ≤ 8) (h3 : (pathL ns).length ≤ 255) : joinE ns = 0 := by
  rw [joinE_names h1, if_neg (by omega)]
theorem ok_path {ns : List (List UInt8)} (h : joinE ns = 0) : Ok (pathL ns) ∧ namesL (pathL ns) = ns := by
  obtain ⟨h1, h2, h3⟩ := joinE_zero h
  have e := names_path ns h1
  exact ⟨⟨h3, pathL_head ns, by rw [e]; exact h1, by rw [e]; exact h2⟩, e⟩
theorem join_names {l : List UInt8} (h : Ok l) : joinE (namesL l) = 0 ∧ pathL (namesL l) = l := by
  obtain ⟨x, hx⟩ := h.head
  have e := path_names l x hx
  exact ⟨joinE_of h.names h.few (by rw [e]; exact h.len), e⟩
theorem joinS_ok {ns : List (List UInt8)} (h : joinE ns = 0) : joinS ns = pathL ns := by unfold joinS; rw [if_pos h]
theorem join_prefix {p q : List (List UInt8)} (h : p <+: q) (hq : q ≠ []) (hj : joinE q = 0) : joinE p = 0 := by
  obtain ⟨h1, h2, h3⟩ := joinE_zero hj
  exact joinE_of (fun n hn => h1 n (h.subset hn)) (Nat.le_trans h.length_le h2) (Nat.le_trans (path_mono h hq) h3)

theorem parE_ok {l : List UInt8} (h : parE l = 0) : Ok l ∧ namesL l ≠ [] := by
  unfold parE at h
  by_cases h1 : splitE l = 0
  · rw [if_pos h1] at h
    by_cases h2 : namesL l = []
    · rw [if_pos h2] at h; omega
    · exact ⟨splitE_ok h1, h2⟩
  · rw [if_neg h1] at h
    exact (h1 h).elim
theorem par_parts {l : List UInt8} (h : parE l = 0) : parD l ++ [parN l] = namesL l ∧ parD l <+: namesL l := by
  obtain ⟨_, h2⟩ := parE_ok h
  have e : parD l ++ [parN l] = namesL l := by
    unfold parD parN
    rw [if_pos h, if_pos h]
    cases hn : namesL l with
    | nil => exact (h2 hn).elim
    | cons n ns =>
      have e : (n :: ns).getLastD [] = (n :: ns).getLast (List.cons_ne_nil n ns) := by rw [List.getLastD_eq_getLast?, List.getLast?_eq_some_getLast (List.cons_ne_nil n ns)]; rfl
      rw [e, List.dropLast_concat_getLast]
  exact ⟨e, by rw [← e]; exact List.prefix_append _ _⟩
/-- The parent's path: it is joined; the path lies under it, and not it under the path. -/
theorem parent_law {l : List UInt8} (h : parE l = 0) : joinE (parD l) = 0 ∧ joinE (parD l ++ [parN l]) = 0 ∧ joinS (parD l ++ [parN l]) = l ∧ underB (joinS (parD l)) l = true ∧ underB l (joinS (parD l)) = false := by
  obtain ⟨ho, hne⟩ := parE_ok h
  obtain ⟨e, hp⟩ := par_parts h
  obtain ⟨j1, j2⟩ := join_names ho
  have j3 := join_prefix hp hne j1
  obtain ⟨o2, n2⟩ := ok_path j3
  refine ⟨j3, by rw [e]; exact j1, by rw [e, joinS_ok j1]; exact j2, ?_, ?_⟩
  · rw [joinS_ok j3]
    exact (under_iff _ _).2 ⟨o2, ho, by rw [n2]; exact hp⟩
  · rw [joinS_ok j3, Bool.eq_false_iff]
    intro hc
    have := ((under_iff _ _).1 hc).2.2.length_le
    rw [n2, ← e, List.length_append] at this
    simp at this
    omega
end Go.Proofs.YtfdclifdemajfaaDoor.Path
