/- append([]Step(nil), l...) for a script that is nil, empty or neither; what a row of steps holds. -/
import Derived.Test.YtfdclifdemajfaaDirArgs
import Derived.Laws.AppendOwnNone
namespace Go.Proofs.Ytfdclifdemajfaa.Dir
open Go.ChangeShapes Go.WideShapes Go.ChangeAt Go.RowKit
open Oct
set_option linter.unusedVariables false
theorem info_step : (Try.prog.info? 62).map (fun i => (i.zero, i.size, i.bytes)) = some (some (.agg #[.int .i64 0, .string ⟨#[]⟩, .int .u32 0]), 3, 32) := by kernel_rfl
def cellsS : List Stp → List Value
  | [] => []
  | x :: r => .int .i64 x.d :: .string x.n :: .int .u32 x.i :: cellsS r
theorem cellsS_len : ∀ st : List Stp, (cellsS st).length = st.length * 3
  | [] => rfl
  | x :: r => by simp [cellsS, cellsS_len r]; omega
theorem cellsS_snoc (x : Stp) : ∀ st : List Stp, cellsS (st ++ [x]) = cellsS st ++ [.int .i64 x.d, .string x.n, .int .u32 x.i]
  | [] => rfl
  | y :: r => by simp [cellsS, cellsS_snoc x r]
theorem cellsS_one : ∀ st : List Stp, ∀ u ∈ cellsS st, u.oneCell' = true
  | [], u, h => by simp [cellsS] at h
  | x :: r, u, h => by
    simp only [cellsS, List.mem_cons] at h
    rcases h with rfl | rfl | rfl | h
    · rfl
    · rfl
    · rfl
    · exact cellsS_one r u h
theorem cellsS_get : ∀ (st : List Stp) (j : Nat) (h : j < st.length), (cellsS st)[j * 3]? = some (.int .i64 (st[j]'h).d) ∧ (cellsS st)[j * 3 + 1]? = some (.string (st[j]'h).n) ∧ (cellsS st)[j * 3 + 2]? = some (.int .u32 (st[j]'h).i)
  | x :: r, 0, _ => ⟨rfl, rfl, rfl⟩
  | x :: r, j + 1, h => by
    have := cellsS_get r j (by simpa using h)
    have e : (j + 1) * 3 = j * 3 + 3 := by omega
    rw [e]
    simpa [cellsS, List.getElem?_cons_succ] using this
theorem news_steps {w : World} {b off : Nat} {st : List Stp} (hx : StepsAt w b off st) : ∀ j u, (cellsS st)[j]? = some u → w.cell? ((⟨b, off, none⟩ : Addr).add j) = some u := fun j u hj => by
  obtain ⟨h1, _⟩ := List.getElem?_eq_some_iff.1 hj
  rw [cellsS_len] at h1
  have e1 : ((⟨b, off, none⟩ : Addr).add j) = ⟨b, off + j, none⟩ := by unfold Addr.add; split <;> simp_all
  have hq : j / 3 < st.length := by omega
  obtain ⟨g0, g1, g2⟩ := cellsS_get st (j / 3) hq
  obtain ⟨x0, x1, x2⟩ := hx (j / 3) hq
  rw [e1]
  have h3 : j = j / 3 * 3 ∨ j = j / 3 * 3 + 1 ∨ j = j / 3 * 3 + 2 := by omega
  rcases h3 with h | h | h
  · have h' : off + j = off + j / 3 * 3 := by omega
    rw [h', x0, ← hj, ← g0, ← h]
  · have h' : off + j = off + j / 3 * 3 + 1 := by omega
    rw [h', x1, ← hj, ← g1, ← h]
  · have h' : off + j = off + j / 3 * 3 + 2 := by omega
    rw [h', x2, ← hj, ← g2, ← h]
theorem steps_own {w : World} {base : Nat} {v : Value} {st : List Stp} (h : w.ownsRow base 62 3 v st.length (cellsS st)) : StepArg w v st := by
  have h0 := h
  rcases h.2 with ⟨e, e0⟩ | ⟨g, cap, cur, rfl, hb, hg, hcap, _⟩
  · exact .inl ⟨e, List.eq_nil_of_length_eq_zero e0⟩
  · refine .inr (.inr ⟨g, 0, cap, rfl, (Array.getElem?_eq_some_iff.1 hg).1, fun j hj => ?_⟩)
    have hc : ∀ k, k < st.length * 3 → w.cell? ⟨g, k, none⟩ = (cellsS st)[k]? := fun k hk => World.ownsRow.cellAt h0 k (by omega)
    obtain ⟨g0, g1, g2⟩ := cellsS_get st j hj
    rw [Nat.zero_add, hc _ (by omega), hc _ (by omega), hc _ (by omega)]
    exact ⟨g0, g1, g2⟩
theorem wpList_append_steps {w : World} {ops : Array Oper} {rest : List Oper} {o : Oper} {a : Act} {Q : Exit → Act → World → Prop} (hgd : o.guard = none) (x : Operand)
    (ho : o.op = .call { callee := .builtin .append, args := #[.const (.slice none 0 0), x], argTypes := #[59, 59] })
    (v : Value) (st : List Stp) (hx : a.eval x = v) (hS : StepArg w v st) (hn : st.length * 32 ≤ 140737488355328)
    (h : ∀ v' w', w'.ownsRow w.heap.size 62 3 v' st.length (cellsS st) → Below w.heap.size w w' → wpList Try.prog ops Q rest (a.put o.dst v') w') : wpList Try.prog ops Q (o :: rest) a w := by
  obtain ⟨i0, hi, hz0, hz1, hz2⟩ := info_parts info_step
  rcases hS with ⟨rfl, rfl⟩ | ⟨ad, cap, rfl, rfl⟩ | ⟨b, off, cap, rfl, hb, hc⟩
  · refine wpList_append_own_none hgd (.const (.slice none 0 0)) x 59 ho w.heap.size 62 i0 3 Try.underlying59 hi _ 0 [] rfl (World.ownsRow_nil _ _ _ _) hx ?_
    exact h _ _ (World.ownsRow_nil _ _ _ _) (Below.refl _ _)
  · refine wpList_append_own _ hgd (.const (.slice none 0 0)) x 59 ho w.heap.size 62 i0 (.agg #[.int .i64 0, .string ⟨#[]⟩, .int .u32 0]) 3 32 Try.underlying59 hi hz0 hz1 hz2 rfl (by decide) _ 0 [] rfl (World.ownsRow_nil _ _ _ _) ad 0 cap [] hx (by simp) (fun j u hj => by simp at hj) (fun u hu => by simp at hu) (by unfold maxLen; omega) (by omega) (by simp) ?_
    intro va wa howna hgrowa _
    exact h _ _ (by simpa [cellsS] using howna) ((Below.refl _ w).grown hgrowa (Nat.le_refl _) (fun k e => by cases e))
  · refine wpList_append_own _ hgd (.const (.slice none 0 0)) x 59 ho w.heap.size 62 i0 (.agg #[.int .i64 0, .string ⟨#[]⟩, .int .u32 0]) 3 32 Try.underlying59 hi hz0 hz1 hz2 rfl (by decide) _ 0 [] rfl (World.ownsRow_nil _ _ _ _) ⟨b, off, none⟩ st.length cap (cellsS st) hx (cellsS_len st) (news_steps hc) (cellsS_one st) (by unfold maxLen; omega) (by omega) (by simp) ?_
    intro va wa howna hgrowa _
    exact h _ _ (by simpa using howna) ((Below.refl _ w).grown hgrowa (Nat.le_refl _) (fun k e => by cases e))
/-- The same at the operation, and at a step of a region that draws. -/
theorem wp_append_steps {w : World} {o : Oper} {a : Act} {K : Act → World → Prop} {Q : Exit → Act → World → Prop} (x : Operand)
    (ho : o.op = .call { callee := .builtin .append, args := #[.const (.slice none 0 0), x], argTypes := #[59, 59] })
    (v : Value) (st : List Stp) (hx : a.eval x = v) (hS : StepArg w v st) (hn : st.length * 32 ≤ 140737488355328)
    (h : ∀ v' w', w'.ownsRow w.heap.size 62 3 v' st.length (cellsS st) → Below w.heap.size w w' → K (a.put o.dst v') w') : o.wp Try.prog a w K Q := by
  obtain ⟨i0, hi, hz0, hz1, hz2⟩ := info_parts info_step
  rcases hS with ⟨rfl, rfl⟩ | ⟨ad, cap, rfl, rfl⟩ | ⟨b, off, cap, rfl, hb, hc⟩
  · have hrun := run_append_owned_none (P := Try.prog) (w := w) w.heap.size 59 o.type 62 i0 3 Try.underlying59 hi (.slice none 0 0) 0 [] (World.ownsRow_nil _ _ _ _)
    have hs : a.eval (.const (.slice none 0 0)) = .slice none 0 0 := rfl
    unfold Oper.wp
    simp [execOp, ho, resolve, invoke, builtin, hs, hx, hrun, Result.andThen]
    exact h _ _ (World.ownsRow_nil _ _ _ _) (Below.refl _ _)
  · refine wp_append_own w (.const (.slice none 0 0)) x 59 ho w.heap.size 62 i0 (.agg #[.int .i64 0, .string ⟨#[]⟩, .int .u32 0]) 3 32 Try.underlying59 hi hz0 hz1 hz2 rfl (by decide) _ 0 [] rfl (World.ownsRow_nil _ _ _ _) ad 0 cap [] hx (by simp) (fun j u hj => by simp at hj) (fun u hu => by simp at hu) (by unfold maxLen; omega) (by omega) (by simp) ?_
    intro va wa howna hgrowa _
    exact h _ _ (by simpa [cellsS] using howna) ((Below.refl _ w).grown hgrowa (Nat.le_refl _) (fun k e => by cases e))
  · refine wp_append_own w (.const (.slice none 0 0)) x 59 ho w.heap.size 62 i0 (.agg #[.int .i64 0, .string ⟨#[]⟩, .int .u32 0]) 3 32 Try.underlying59 hi hz0 hz1 hz2 rfl (by decide) _ 0 [] rfl (World.ownsRow_nil _ _ _ _) ⟨b, off, none⟩ st.length cap (cellsS st) hx (cellsS_len st) (news_steps hc) (cellsS_one st) (by unfold maxLen; omega) (by omega) (by simp) ?_
    intro va wa howna hgrowa _
    exact h _ _ (by simpa using howna) ((Below.refl _ w).grown hgrowa (Nat.le_refl _) (fun k e => by cases e))
theorem step_append_steps {w : World} {ops : Array Oper} {o : Oper} {a : Act} {K : Act → World → Prop} {Q : Exit → Act → World → Prop} {E : Prop} (hgd : o.guard = none) (x : Operand)
    (ho : o.op = .call { callee := .builtin .append, args := #[.const (.slice none 0 0), x], argTypes := #[59, 59] })
    (v : Value) (st : List Stp) (hx : a.eval x = v) (hS : StepArg w v st) (hn : st.length * 32 ≤ 140737488355328)
    (h : ∀ v' w', w'.ownsRow w.heap.size 62 3 v' st.length (cellsS st) → Below w.heap.size w w' → K (a.put o.dst v') w') :
    if Region.wanted o (yielded ops a.tmps) = true then Oper.wp Try.prog o a w K Q else E := by
  have hw : Region.wanted o (yielded ops a.tmps) = true := by simp [Region.wanted, hgd]
  rw [if_pos hw]
  exact wp_append_steps x ho v st hx hS hn h
end Go.Proofs.Ytfdclifdemajfaa.Dir
