/- The walks of path.Split (every text), Join, Parent, Under. -/
import Derived.Test.YtfdclifdemajfaaDoorPathSplit2
import Derived.Lib.Join
namespace Go.Proofs.YtfdclifdemajfaaDoor.Path
set_option linter.unusedVariables false
open Go.RowKit Oct

set_option maxRecDepth 100000 in
set_option maxHeartbeats 400000 in
theorem split_long (s : ByteArray) (w : World) (hs : s.size ≤ maxLen) (h : 255 < s.size) :
    Calls Tryd.prog 23 #[.string s] w (SplitRes (L s) w) := by
  unfold maxLen at hs
  have HE : Hid (splitE (L s) = 5) := Lib.hid (by unfold splitE; rw [if_pos (by rw [len_L]; exact h)])
  go_enter Tryd.func23, Tryd.ntmps23
  go_wp2
  refine bodyPost_ret (v := .tuple #[.slice none 0 0, .int .i64 5]) (by simp [results, Tryd.results23, go_sem]) rfl ⟨_, by rw [HE.out], .inl ⟨rfl, ?_⟩, ?_⟩
  · unfold splitN; rw [HE.out]; rfl
  · exact ((Below.refl _ w).alloc (Nat.le_refl _) _).alloc (by simp) _

set_option maxRecDepth 100000 in
set_option maxHeartbeats 400000 in
theorem split_form (s : ByteArray) (w : World) (h : s.size ≤ 255) (hh : headSlash (L s) = false) :
    Calls Tryd.prog 23 #[.string s] w (SplitRes (L s) w) := by
  have HE : Hid (splitE (L s) = 7) := Lib.hid (by unfold splitE; rw [if_neg (by rw [len_L]; omega), if_pos hh])
  have hd : decide (255 < s.size) = false := by simp; omega
  have hd' : decide (255 < (s.size : Int)) = false := by simp; omega
  have C1 := Lib.hid (fun W => (Tryd.strings_HasPrefix s ⟨#[47]⟩ W))
  have hp : Lib.hasPrefix s.data.toList (⟨#[47]⟩ : ByteArray).data.toList = false := by
    have e : s.data.toList = L s := rfl
    rw [e]
    cases hL : L s with
    | nil => rfl
    | cons c l =>
      rw [hL] at hh
      unfold Lib.hasPrefix
      simp only [headSlash] at hh
      simp [List.isPrefixOf] 
      intro e2
      rw [← e2] at hh
      simp at hh
  have HP := Lib.hid hp
  clear hp hh
  go_enter Tryd.func23, Tryd.ntmps23
  go_wp2_with fail
  refine (C1.out _).mono ?_
  rintro e w' ⟨rfl, rfl⟩
  rw [HP.out]
  go_wp2
  refine bodyPost_ret (v := .tuple #[.slice none 0 0, .int .i64 7]) (by simp [results, Tryd.results23, go_sem]) rfl ⟨_, by rw [HE.out], .inl ⟨rfl, ?_⟩, ?_⟩
  · unfold splitN; rw [HE.out]; rfl
  · exact ((Below.refl _ w).alloc (Nat.le_refl _) _).alloc (by simp) _

/-- path.Split, whatever the text. -/
theorem split_any (s : ByteArray) (w : World) (hs : s.size ≤ maxLen) : Calls Tryd.prog 23 #[.string s] w (SplitRes (L s) w) := by
  by_cases h : 255 < s.size
  · exact split_long s w hs h
  · cases hh : headSlash (L s) with
    | false => exact split_form s w (by omega) hh
    | true =>
      have : ∃ r, L s = 47 :: r := by
        cases hL : L s with
        | nil => rw [hL] at hh; simp [headSlash] at hh
        | cons c r => rw [hL] at hh; simp [headSlash] at hh; exact ⟨r, by rw [hh]⟩
      obtain ⟨r, hr⟩ := this
      exact callsIn_wide.1 (split_main_in Fence.wide 4 (Lib.hid rfl) rfl (Nat.le_refl _) s r (Lib.hid hr) (by omega) w)

/-- What Join answers. -/
def joinE (ns : List (List UInt8)) : Int := if ns.all isName = false then 2 else if 8 < ns.length ∨ 255 < (pathL ns).length then 5 else 0
def joinS (ns : List (List UInt8)) : List UInt8 := if joinE ns = 0 then pathL ns else []
theorem join_path (ns : List (List UInt8)) : 47 :: Lib.join ns [47] = pathL ns := by
  unfold pathL
  cases ns with
  | nil => rfl
  | cons n ns =>
    rw [if_neg (List.cons_ne_nil n ns), Lib.join_cons, tailL_cons]
    rfl
theorem tail_len : ∀ ns : List (List UInt8), (∀ n ∈ ns, n.length ≤ 27) → (tailL ns).length ≤ 28 * ns.length
  | [], _ => by simp [tailL]
  | n :: ns, h => by
    have h1 := h n (by simp)
    have h2 := tail_len ns (fun m hm => h m (by simp [hm]))
    rw [tailL_cons, List.length_append, List.length_cons, List.length_cons]
    omega
theorem path_len (ns : List (List UInt8)) (h : AllNames ns) : (pathL ns).length ≤ 28 * ns.length + 1 := by
  unfold pathL
  split
  · simp
  · have := tail_len ns (fun n hn => (isName_noSlash (h n hn)).2.2.2)
    omega
theorem joinE_bad {ns : List (List UInt8)} {x : List UInt8} (hx : x ∈ ns) (h : isName x = false) : joinE ns = 2 := by
  have h6 : ns.all isName = false := by
    rw [Bool.eq_false_iff]
    intro e
    have := List.all_eq_true.1 e x hx
    rw [h] at this
    simp at this
  unfold joinE
  rw [if_pos h6]
theorem joinE_names {ns : List (List UInt8)} (h : AllNames ns) : joinE ns = if 8 < ns.length ∨ 255 < (pathL ns).length then 5 else 0 := by
  have h6 : ns.all isName = true := List.all_eq_true.2 h
  unfold joinE
  rw [if_neg (by rw [h6]; simp)]
def jres (ns : List (List UInt8)) : Value := .tuple #[.string (B (joinS ns)), .int .i64 (joinE ns)]

end Go.Proofs.YtfdclifdemajfaaDoor.Path
