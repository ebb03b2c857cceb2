/- Plain facts on paths as bytes: fields between slashes, names, joined paths, who lies under whom. No program in sight. -/
import Derived.Test.YtfdclifdemajfaaPathName
namespace Go.Proofs.Ytfdclifdemajfaa.Path
set_option linter.unusedVariables false
open Oct

/-- Up to the first slash; what is behind it; whether there is one. -/
def brk : List UInt8 → List UInt8 × List UInt8 × Bool
  | [] => ([], [], false)
  | c :: l => if c = 47 then ([], l, true) else (c :: (brk l).1, (brk l).2.1, (brk l).2.2)
def fields : List UInt8 → List (List UInt8)
  | [] => [[]]
  | c :: l => if c = 47 then [] :: fields l else match fields l with
    | [] => [[c]]
    | f :: fs => (c :: f) :: fs
theorem fields_ne (l : List UInt8) : fields l ≠ [] := by
  cases l with
  | nil => simp [fields]
  | cons c l =>
    rw [fields]
    split
    · simp
    · split <;> simp
theorem fields_brk : ∀ l : List UInt8, fields l = (brk l).1 :: (if (brk l).2.2 then fields (brk l).2.1 else [])
  | [] => rfl
  | c :: l => by
    rw [fields, brk]
    by_cases h : c = 47
    · rw [if_pos h, if_pos h]; rfl
    · rw [if_neg h, if_neg h, fields_brk l]
theorem brk_found : ∀ l : List UInt8, (brk l).2.2 = true → l = (brk l).1 ++ 47 :: (brk l).2.1
  | [], h => by simp [brk] at h
  | c :: l, h => by
    rw [brk] at h ⊢
    by_cases e : c = 47
    · rw [if_pos e]; simp [e]
    · rw [if_neg e] at h ⊢
      have := brk_found l h
      simp only [List.cons_append, List.cons.injEq, true_and]
      exact this
theorem brk_not : ∀ l : List UInt8, (brk l).2.2 = false → (brk l).1 = l ∧ (brk l).2.1 = []
  | [], _ => ⟨rfl, rfl⟩
  | c :: l, h => by
    rw [brk] at h ⊢
    by_cases e : c = 47
    · rw [if_pos e] at h; simp at h
    · rw [if_neg e] at h ⊢
      have := brk_not l h
      exact ⟨by simp [this.1], this.2⟩
theorem brk_index : ∀ l : List UInt8, Lib.indexByte l 47 = if (brk l).2.2 then ((brk l).1.length : Int) else -1
  | [] => rfl
  | c :: l => by
    rw [Lib.indexByte, brk]
    by_cases e : c = 47
    · rw [if_pos e]; simp [e]
    · have e2 : (c == 47) = false := by simpa using e
      rw [if_neg e, e2, brk_index l]
      simp only [Bool.false_eq_true, if_false]
      by_cases h : (brk l).2.2 = true
      · rw [h]
        have : ((((brk l).1.length : Nat) : Int) == -1) = false := by simp
        simp only [if_true, this, Bool.false_eq_true, if_false, List.length_cons]
        omega
      · have h' : (brk l).2.2 = false := by simpa using h
        rw [h']
        simp
theorem brk_len (l : List UInt8) : (brk l).1.length + (brk l).2.1.length ≤ l.length ∧ ((brk l).2.2 = true → (brk l).2.1.length < l.length) := by
  by_cases h : (brk l).2.2 = true
  · have e := congrArg List.length (brk_found l h)
    rw [List.length_append, List.length_cons] at e
    exact ⟨by omega, fun _ => by omega⟩
  · have h' : (brk l).2.2 = false := by simpa using h
    have e := brk_not l h'
    rw [e.1, e.2]
    exact ⟨by simp, fun hh => (h hh).elim⟩
theorem fields_len : ∀ l : List UInt8, (fields l).length ≤ l.length + 1
  | [] => by simp [fields]
  | c :: l => by
    have h := fields_len l
    rw [fields]
    split
    · simp only [List.length_cons]; omega
    · split
      · simp
      · rename_i f fs e
        rw [e] at h
        simp only [List.length_cons] at h ⊢
        omega

theorem fields_each : ∀ (l : List UInt8), ∀ f ∈ fields l, f.length ≤ l.length
  | [], f, h => by simp [fields] at h; simp [h]
  | c :: l, f, h => by
    have ih := fields_each l
    rw [fields] at h
    split at h
    · rcases List.mem_cons.1 h with e | e
      · subst e; simp
      · have := ih f e; simp; omega
    · split at h
      · rcases List.mem_cons.1 h with e | e
        · subst e; simp
        · simp at e
      · rename_i g gs e2
        rcases List.mem_cons.1 h with e | e
        · subst e
          have := ih g (by rw [e2]; simp)
          simp; omega
        · have := ih f (by rw [e2]; simp [e]); simp; omega

/-- A slash ahead of each. -/
def tailL (ns : List (List UInt8)) : List UInt8 := (ns.map (fun n => 47 :: n)).flatten
def pathL (ns : List (List UInt8)) : List UInt8 := if ns = [] then [47] else tailL ns
theorem tailL_cons (n : List UInt8) (ns : List (List UInt8)) : tailL (n :: ns) = 47 :: n ++ tailL ns := rfl
theorem tailL_append (a b : List (List UInt8)) : tailL (a ++ b) = tailL a ++ tailL b := by unfold tailL; rw [List.map_append, List.flatten_append]
theorem tail_fields : ∀ l : List UInt8, tailL (fields l) = 47 :: l
  | [] => rfl
  | c :: l => by
    have h := tail_fields l
    rw [fields]
    by_cases e : c = 47
    · rw [if_pos e, tailL_cons, h, e]; rfl
    · rw [if_neg e]
      split
      · rename_i e2; exact (fields_ne l e2).elim
      · rename_i f fs e2
        rw [e2, tailL_cons] at h
        rw [tailL_cons]
        simp only [List.cons_append, List.cons.injEq, true_and] at h ⊢
        exact h
def noSlash (n : List UInt8) : Prop := ∀ c ∈ n, c ≠ 47
theorem fields_no : ∀ n : List UInt8, noSlash n → fields n = [n]
  | [], _ => rfl
  | c :: n, h => by
    rw [fields, if_neg (h c (by simp)), fields_no n (fun d hd => h d (by simp [hd]))]
theorem fields_app : ∀ (n r : List UInt8), noSlash n → fields (n ++ 47 :: r) = n :: fields r
  | [], r, _ => by simp [fields]
  | c :: n, r, h => by
    rw [List.cons_append, fields, if_neg (h c (by simp)), fields_app n r (fun d hd => h d (by simp [hd]))]
theorem fields_tail : ∀ (ns : List (List UInt8)), ns ≠ [] → (∀ n ∈ ns, noSlash n) → fields ((tailL ns).drop 1) = ns
  | [], h, _ => (h rfl).elim
  | [n], _, h => by
    show fields (n ++ []) = [n]
    rw [List.append_nil]
    exact fields_no n (h n (by simp))
  | n :: m :: ns, _, h => by
    have e : (tailL (n :: m :: ns)).drop 1 = n ++ 47 :: (tailL (m :: ns)).drop 1 := rfl
    rw [e, fields_app n _ (h n (by simp)), fields_tail (m :: ns) (by simp) (fun k hk => h k (by simp [hk]))]

/-- The names of a text that begins with a slash. -/
def namesL (l : List UInt8) : List (List UInt8) := if l = [47] then [] else fields (l.drop 1)
theorem isName_noSlash {n : List UInt8} (h : isName n = true) : noSlash n ∧ n ≠ [] ∧ 1 ≤ n.length ∧ n.length ≤ 27 := by
  unfold isName at h
  simp only [Bool.and_eq_true, decide_eq_true_eq, List.all_eq_true] at h
  refine ⟨fun c hc e => ?_, fun e => ?_, h.1.1.1.1, h.1.1.1.2⟩
  · have := (h.2 c hc).1
    rw [e] at this
    simp at this
  · have := h.1.1.1.1
    rw [e] at this
    simp at this
theorem tailL_len2 (n : List UInt8) (ns : List (List UInt8)) (h : n ≠ []) : tailL (n :: ns) ≠ [47] := by
  cases n with
  | nil => exact (h rfl).elim
  | cons c n => rw [tailL_cons]; simp
theorem names_path (ns : List (List UInt8)) (h : ∀ n ∈ ns, isName n = true) : namesL (pathL ns) = ns := by
  unfold namesL pathL
  cases ns with
  | nil => rfl
  | cons n ns =>
    rw [if_neg (List.cons_ne_nil n ns), if_neg (tailL_len2 n ns (isName_noSlash (h n (by simp))).2.1)]
    exact fields_tail _ (List.cons_ne_nil n ns) (fun k hk => (isName_noSlash (h k hk)).1)
theorem path_names (l : List UInt8) (r : List UInt8) (hl : l = 47 :: r) : pathL (namesL l) = l := by
  unfold namesL pathL
  by_cases h : l = [47]
  · rw [if_pos h, if_pos rfl, h]
  · rw [if_neg h, if_neg (fields_ne _), tail_fields, hl]
    rfl
theorem pathL_head (ns : List (List UInt8)) : ∃ r, pathL ns = 47 :: r := by
  unfold pathL
  cases ns with
  | nil => exact ⟨[], rfl⟩
  | cons n ns => exact ⟨n ++ tailL ns, by rw [if_neg (List.cons_ne_nil n ns), tailL_cons]; rfl⟩

/-- What Split answers. -/
def headSlash (l : List UInt8) : Bool := match l with | c :: _ => c == 47 | [] => false
def splitE (l : List UInt8) : Int :=
  if 255 < l.length then 5 else if headSlash l = false then 7 else if (namesL l).all isName = false then 2 else if 8 < (namesL l).length then 5 else 0
def splitN (l : List UInt8) : List (List UInt8) := if splitE l = 0 then namesL l else []
structure Ok (l : List UInt8) : Prop where
  len : l.length ≤ 255
  head : ∃ r, l = 47 :: r
  names : ∀ n ∈ namesL l, isName n = true
  few : (namesL l).length ≤ 8
theorem splitE_ok {l : List UInt8} (h : splitE l = 0) : Ok l := by
  unfold splitE at h
  by_cases h1 : 255 < l.length
  · rw [if_pos h1] at h; omega
  · rw [if_neg h1] at h
    by_cases h2 : headSlash l = false
    · rw [if_pos h2] at h; omega
    · rw [if_neg h2] at h
      by_cases h3 : (namesL l).all isName = false
      · rw [if_pos h3] at h; omega
      · rw [if_neg h3] at h
        by_cases h4 : 8 < (namesL l).length
        · rw [if_pos h4] at h; omega
        · refine ⟨by omega, ?_, ?_, by omega⟩
          · cases l with
            | nil => simp [headSlash] at h2
            | cons c r => exact ⟨r, by simp [headSlash] at h2; rw [h2]⟩
          · have : (namesL l).all isName = true := by simpa using h3
            exact fun n hn => List.all_eq_true.1 this n hn
theorem ok_splitE {l : List UInt8} (h : Ok l) : splitE l = 0 := by
  obtain ⟨h1, ⟨r, hr⟩, h3, h4⟩ := h
  unfold splitE
  have h5 : headSlash l = true := by rw [hr]; rfl
  have h6 : (namesL l).all isName = true := List.all_eq_true.2 h3
  rw [if_neg (by omega), if_neg (by rw [h5]; simp), if_neg (by rw [h6]; simp), if_neg (by omega)]
theorem names_each (l : List UInt8) : ∀ f ∈ namesL l, f.length ≤ l.length := by
  unfold namesL
  intro f h
  split at h
  · simp at h
  · have := fields_each _ f h
    rw [List.length_drop] at this
    omega
theorem prefix_mem {α : Type} {pre l : List α} {x : α} (h : pre ++ [x] <+: l) : x ∈ l ∧ pre.length < l.length := by
  obtain ⟨t, rfl⟩ := h
  refine ⟨by simp, ?_⟩
  simp only [List.length_append, List.length_singleton]
  omega
end Go.Proofs.Ytfdclifdemajfaa.Path
