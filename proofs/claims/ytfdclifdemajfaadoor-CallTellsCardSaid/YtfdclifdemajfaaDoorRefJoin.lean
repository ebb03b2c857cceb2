/- The reference's Join of layer 17. -/
import Derived.Test.YtfdclifdemajfaaDoorRefName
namespace Go.Proofs.YtfdclifdemajfaaDoor.Path
open Go.RowKit
open Oct
set_option linter.unusedVariables false

theorem tail_nil {ns : List (List UInt8)} (h : tailL ns = []) : ns = [] := by
  cases ns with
  | nil => rfl
  | cons n r => rw [tailL_cons] at h; simp at h
theorem jres_bad {ns : List (List UInt8)} {x : List UInt8} (hx : x ∈ ns) (h : isName x = false) : jres ns = .tuple #[.string ⟨#[]⟩, .int .i64 2] := by
  unfold jres joinS
  rw [joinE_bad hx h]; rfl
theorem jres_five {ns : List (List UInt8)} (h : AllNames ns) (h2 : 8 < ns.length ∨ 255 < (tailL ns).length) : jres ns = .tuple #[.string ⟨#[]⟩, .int .i64 5] := by
  have e : joinE ns = 5 := by
    rw [joinE_names h, if_pos]
    rcases h2 with h2 | h2
    · exact .inl h2
    · refine .inr ?_
      unfold pathL
      split
      · rename_i e; rw [e] at h2; simp [tailL] at h2
      · exact h2
  unfold jres joinS
  rw [e]; rfl
theorem jres_ok {ns : List (List UInt8)} (h : AllNames ns) (h1 : ns.length ≤ 8) (h2 : (tailL ns).length ≤ 255) : jres ns = .tuple #[.string (B (pathL ns)), .int .i64 0] := by
  have e : joinE ns = 0 := by
    rw [joinE_names h, if_neg]
    rintro (h3 | h3)
    · omega
    · unfold pathL at h3
      split at h3
      · simp at h3
      · omega
  unfold jres joinS
  rw [if_pos e, e]

theorem tail_snoc (ps : List ByteArray) (k : Nat) (h : k < ps.length) (t : ByteArray) (ht : L t = tailL ((ps.take k).map L)) : L (t ++ ⟨#[47]⟩ ++ ps[k]) = tailL ((ps.take (k + 1)).map L) := by
  rw [List.take_succ_eq_append_getElem h, List.map_append, tailL_append, ← ht]
  show (t ++ ⟨#[47]⟩ ++ ps[k]).data.toList = _
  simp [tailL, L]

end Go.Proofs.YtfdclifdemajfaaDoor.Path
