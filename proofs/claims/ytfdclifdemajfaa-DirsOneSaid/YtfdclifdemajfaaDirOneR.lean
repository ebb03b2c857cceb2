/- Layer 10: what one step leaves: the shape that DirsOne asks of it. -/
import Derived.Test.YtfdclifdemajfaaDirOneP
import Derived.Test.YtfdclifdemajfaaDirList
namespace Go.Proofs.Ytfdclifdemajfaa.Dir
set_option linter.unusedVariables false
open Go.RowKit Go.Shelf Oct Path
def StepOk (n : List UInt8) (es es' : List Ent) : Prop :=
  Dir es' ∧ (∀ m, m ≠ n → inoOf m es' = inoOf m es ∧ findK m es' = findK m es) ∧ ((∃ k e, es' = es.set k e) ∨ ∃ e f, es' = es ++ [e, f])
theorem stepOk_add {n : List UInt8} {i : Nat} {es es' : List Ent} (d : Dir es) (hi : i < 4294967296) (h : addL n i es = (0, es')) : StepOk n es es' := by
  obtain ⟨d1, _, _, _, _, ho, hs⟩ := add_ok d hi h
  refine ⟨d1, ho, ?_⟩
  rcases hs with ⟨k, _, hk, _⟩ | ⟨_, hk⟩
  · exact .inl ⟨k, _, hk⟩
  · exact .inr ⟨_, _, hk⟩
theorem stepOk_set {n : List UInt8} {i : Nat} {es es' : List Ent} (d : Dir es) (hi : i < 4294967296) (h : setL n i es = (0, es')) : StepOk n es es' ∧ ∃ k e, es' = es.set k e := by
  obtain ⟨d1, _, _, _, ho, _, k, _, _, hk, _⟩ := set_ok d hi h
  exact ⟨⟨d1, ho, .inl ⟨k, _, hk⟩⟩, k, _, hk⟩
theorem stepOk_del {n : List UInt8} {es es' : List Ent} (d : Dir es) (h : delL n es = (0, es')) : StepOk n es es' ∧ ∃ k e, es' = es.set k e := by
  obtain ⟨d1, _, _, _, ho, k, _, _, hk⟩ := del_ok d h
  exact ⟨⟨d1, ho, .inl ⟨k, _, hk⟩⟩, k, _, hk⟩
/-- One entry set: as long, and one sector at most. -/
theorem one_sector {es : List Ent} (d : Dir es) {k : Nat} {e : Ent} (d' : Dir (es.set k e)) :
    (B (encL es)).size = (B (encL (es.set k e))).size ∧ secN (B (encL es)) (B (encL (es.set k e))) ((B (encL es)).size / 64) ≤ 1 := by
  refine ⟨by rw [size_B, size_B, len_encL d.ok, len_encL d'.ok, List.length_set], ?_⟩
  have := sec_set d.ok k e d'.ok ((B (encL es)).size / 64)
  split at this <;> omega
/-- Two entries behind: the old text lies ahead. -/
theorem one_behind {es : List Ent} (d : Dir es) {e f : Ent} (d' : Dir (es ++ [e, f])) :
    (B (encL (es ++ [e, f]))).size = (B (encL es)).size + 64 ∧ (B (encL (es ++ [e, f]))).extract 0 (B (encL es)).size = B (encL es) := by
  have hl : (B (encL (es ++ [e, f]))).size = (B (encL es)).size + 64 := by
    rw [size_B, size_B, len_encL d.ok, len_encL d'.ok, List.length_append]
    simp
    omega
  refine ⟨hl, ?_⟩
  rw [ex_front, L_B, encL_append, size_B, List.take_left]
/-- A name that the step leaves alone: found alike in both. -/
theorem find_both {n : List UInt8} {es es' : List Ent} (d : Dir es) (h : StepOk n es es') {e : Ent} (he : e ∈ live es) (hn : e.1 ≠ n) :
    ∃ kk : Nat, findR (encL es) e.1 = (e.2, kk, true) ∧ findR (encL es') e.1 = (e.2, kk, true) := by
  obtain ⟨d1, ho, _⟩ := h
  obtain ⟨h1, h2⟩ := ho _ hn
  obtain ⟨i1, i2⟩ := live_ino d he
  obtain ⟨a1, a2, a3⟩ := findR_enc d e.1
  obtain ⟨b1, b2, b3⟩ := findR_enc d1 e.1
  rw [h1] at b1 b2
  rw [h2] at b3
  rw [i1] at a1 a2 b1 b2
  have e1 : (findR (encL es) e.1).2.2 = true := by rw [a2]; simpa using i2
  have e2 : (findR (encL es') e.1).2.2 = true := by rw [b2]; simpa using i2
  rw [if_pos e1] at a3
  rw [if_pos e2] at b3
  have e3 := Option.some.inj (a3.symm.trans b3)
  refine ⟨(findR (encL es) e.1).2.1, ?_, ?_⟩
  · exact Prod.ext a1 (Prod.ext rfl e1)
  · exact Prod.ext b1 (Prod.ext e3.symm e2)
theorem entRow_get : ∀ (es : List Ent) (j : Nat) (h : j < es.length), (entCells es)[j * 2]? = some (.string (B (es[j]'h).1)) ∧ (entCells es)[j * 2 + 1]? = some (.int .u32 (es[j]'h).2)
  | x :: r, 0, _ => ⟨rfl, rfl⟩
  | x :: r, j + 1, h => by
    have := entRow_get r j (by simpa using h)
    have e : (j + 1) * 2 = j * 2 + 2 := by omega
    have e2 : entCells (x :: r) = .string (B x.1) :: .int .u32 x.2 :: entCells r := rfl
    rw [e, e2]
    simpa [List.getElem?_cons_succ] using this
/-- A row of entries that List handed back, cell by cell. -/
theorem ents_at {w : World} {base g n cap : Nat} {es : List Ent} (hn : n = es.length) (h : w.ownsRow base 73 2 (.slice (some ⟨g, 0, none⟩) n cap) n (entCells es)) (j : Nat) (hj : j < es.length) :
    w.cell? ⟨g, j * 2, none⟩ = some (.string (B (es[j]'hj).1)) ∧ w.cell? ⟨g, j * 2 + 1, none⟩ = some (.int .u32 (es[j]'hj).2) := by
  have hc : ∀ k, k < es.length * 2 → w.cell? ⟨g, k, none⟩ = (entCells es)[k]? := fun k hk => World.ownsRow.cellAt h k (by omega)
  obtain ⟨g0, g1⟩ := entRow_get es j hj
  rw [hc _ (by omega), hc _ (by omega)]
  exact ⟨g0, g1⟩
end Go.Proofs.Ytfdclifdemajfaa.Dir
