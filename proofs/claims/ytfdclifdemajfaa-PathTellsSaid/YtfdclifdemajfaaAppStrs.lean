/- append([]string(nil), l...) for a row of texts that is nil, empty or neither: one law. -/
import Derived.Test.YtfdclifdemajfaaStrArgs
import Derived.Laws.AppendOwnNone
namespace Go.Proofs.Ytfdclifdemajfaa.Path
open Go.ChangeShapes Go.WideShapes Go.ChangeAt Go.RowKit
open Oct
set_option linter.unusedVariables false

/-- The texts that two appends have made. -/
theorem strs_two {w : World} {base : Nat} {v : Value} {ps : List ByteArray} {x : ByteArray} {k : Nat} (hk : k = ps.length + 1) (h : w.ownsRow base 9 1 v k (ps.map Value.string ++ [.string x])) (hl : ps.length ≤ 1000) : Strs w v (ps ++ [x]) := by
  subst hk
  exact strs_own (own_snoc h) (by simp; omega)
theorem news_of {w : World} {b off : Nat} {ps : List ByteArray} (hx : ∀ j (h : j < ps.length), w.cell? ⟨b, off + j, none⟩ = some (.string ps[j])) : ∀ j u, (ps.map Value.string)[j]? = some u → w.cell? ((⟨b, off, none⟩ : Addr).add j) = some u := fun j u hj => by
  obtain ⟨h1, rfl⟩ := List.getElem?_eq_some_iff.1 hj
  rw [List.length_map] at h1
  have e1 : ((⟨b, off, none⟩ : Addr).add j) = ⟨b, off + j, none⟩ := by unfold Addr.add; split <;> simp_all
  rw [e1, hx j h1, List.getElem_map]
theorem one_cell (ps : List ByteArray) : ∀ u ∈ ps.map Value.string, u.oneCell' = true := fun u hu => by
  obtain ⟨p, _, rfl⟩ := List.mem_map.1 hu
  rfl

theorem wpList_append_strs {w : World} {ops : Array Oper} {rest : List Oper} {o : Oper} {a : Act} {Q : Exit → Act → World → Prop} (hgd : o.guard = none) (x : Operand)
    (ho : o.op = .call { callee := .builtin .append, args := #[.const (.slice none 0 0), x], argTypes := #[40, 40] })
    (v : Value) (ps : List ByteArray) (hx : a.eval x = v) (hS : Strs w v ps) (hn : ps.length ≤ 1000)
    (h : ∀ v' w', w'.ownsRow w.heap.size 9 1 v' ps.length (ps.map Value.string) → Below w.heap.size w w' → wpList Try.prog ops Q rest (a.put o.dst v') w') : wpList Try.prog ops Q (o :: rest) a w := by
  obtain ⟨i0, hi, hz0, hz1, hz2⟩ := info_parts info_str
  rcases hS with ⟨rfl, rfl⟩ | ⟨b, off, cap, rfl, hl, hb, hc⟩ | ⟨ad, cap, rfl, rfl⟩
  · refine wpList_append_own_none hgd (.const (.slice none 0 0)) x 40 ho w.heap.size 9 i0 1 Try.underlying40 hi _ 0 [] rfl (World.ownsRow_nil _ _ _ _) hx ?_
    exact h _ _ (World.ownsRow_nil _ _ _ _) (Below.refl _ _)
  · refine wpList_append_own _ hgd (.const (.slice none 0 0)) x 40 ho w.heap.size 9 i0 (.string ⟨#[]⟩) 1 16 Try.underlying40 hi hz0 hz1 hz2 rfl (by decide) _ 0 [] rfl (World.ownsRow_nil _ _ _ _) ⟨b, off, none⟩ ps.length cap (ps.map Value.string) hx (by simp) (news_of hc) (one_cell ps) (by unfold maxLen; omega) (by omega) (by simp) ?_
    intro va wa howna hgrowa _
    exact h _ _ (by simpa using howna) ((Below.refl _ w).grown hgrowa (Nat.le_refl _) (fun k e => by cases e))
  · refine wpList_append_own _ hgd (.const (.slice none 0 0)) x 40 ho w.heap.size 9 i0 (.string ⟨#[]⟩) 1 16 Try.underlying40 hi hz0 hz1 hz2 rfl (by decide) _ 0 [] rfl (World.ownsRow_nil _ _ _ _) ad 0 cap [] hx (by simp) (fun j u hj => by simp at hj) (fun u hu => by simp at hu) (by unfold maxLen; omega) (by omega) (by simp) ?_
    intro va wa howna hgrowa _
    exact h _ _ (by simpa using howna) ((Below.refl _ w).grown hgrowa (Nat.le_refl _) (fun k e => by cases e))
end Go.Proofs.Ytfdclifdemajfaa.Path
