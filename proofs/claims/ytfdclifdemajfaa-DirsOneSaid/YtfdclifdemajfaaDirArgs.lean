/- Layer 10: a script that came in, opened. -/
import Derived.Test.YtfdclifdemajfaaDirLong
import Derived.WalkKit
import Derived.ProofKit
import Derived.Deep.Slices
import Derived.Deep.Fields
import Derived.Deep.Strs
import Derived.ChangeSame
import Derived.SizedLaws
namespace Go.Proofs.Ytfdclifdemajfaa.Dir
open Go.ChangeShapes Go.WideShapes Go.Deep Go.RowKit Go.ChangeAt
open Oct
set_option linter.unusedVariables false
theorem mem_weightsAll {H : Type} {P : Program} {e : TypeId} {x : DataW H} {k : Nat} : ∀ {es : List (DataW H)}, x ∈ es → k ∈ x.weights P e → k ∈ DataW.weightsAll P e es
  | y :: r, h, hk => by
    show k ∈ DataW.weights P e y ++ DataW.weightsAll P e r
    rcases List.mem_cons.1 h with h1 | h1
    · subst h1; exact List.mem_append_left _ hk
    · exact List.mem_append_right _ (mem_weightsAll h1 hk)
def stepD {H : Type} (x : Stp) : DataW H := .agg [.lit (.int .i64 x.d), .lit (.string (L x.n)), .lit (.int .u32 x.i)]
theorem cells_step : Try.prog.cellsOf 62 = 3 := by kernel_rfl
theorem bytes_step : Try.prog.bytesOf 62 = 32 := by kernel_rfl
theorem wf_rng {k : IntKind} {n : Int} (h : (Lit.int k n).wf = true) : k.min ≤ n ∧ n ≤ k.max := by
  simp only [Lit.wf, Bool.and_eq_true, decide_eq_true_eq] at h
  exact h
theorem trod_one3 {H : Type} {enc : TypeId × Value → H} {P : Program} {w : World} {base fuel : Nat} {spare : Nat → Bool} {held : Bool} {t : TypeId} {f0 f1 f2 : Field} {c0 c1 c2 : Value} {x : DataW H × List MemPlace} (hs : P.underlying t = some (.struct #[f0, f1, f2])) (hone : oneCellFields P #[f0, f1, f2] = true) (h : DataW.trod enc P w base spare held fuel t [c0, c1, c2] = some x) :
    ∃ y0 y1 y2 n, x = (.agg [y0.1, y1.1, y2.1], y0.2 ++ (y1.2 ++ y2.2)) ∧ DataW.trod enc P w base spare held n f0.type [c0] = some y0 ∧ DataW.trod enc P w base spare held n f1.type [c1] = some y1 ∧ DataW.trod enc P w base spare held n f2.type [c2] = some y2 := by
  obtain ⟨y0, y1, y2, n, hx, _, t0, t1, t2⟩ := trod_struct3 hs h
  obtain ⟨o0, k0⟩ := hone_of hone 0 f0 rfl
  obtain ⟨o1, k1⟩ := hone_of hone 1 f1 rfl
  obtain ⟨o2, k2⟩ := hone_of hone 2 f2 rfl
  exact ⟨y0, y1, y2, n, hx, by simpa [o0, k0] using t0, by simpa [o1, k1] using t1, by simpa [o2, k2] using t2⟩
/-- A script that came in. -/
def StepArg (W : World) (v : Value) (st : List Stp) : Prop :=
  (v = .slice none 0 0 ∧ st = []) ∨ (∃ ad c, v = .slice (some ad) 0 c ∧ st = []) ∨ ∃ b o c, v = .slice (some ⟨b, o, none⟩) st.length c ∧ b < W.heap.size ∧ StepsAt W b o st
theorem block_of_cell {W : World} {a : Addr} {v : Value} (h : W.cell? a = some v) : a.block < W.heap.size ∧ a.spot = none := by
  unfold World.cell? at h
  split at h
  · rename_i hh
    refine ⟨(Array.getElem?_eq_some_iff.1 hh).1, ?_⟩
    cases hs : a.spot with
    | none => rfl
    | some z => simp [hs] at h
  · cases h
theorem open_steps {H : Type} {enc : TypeId × Value → H} {W : World} {p : List MemPlace} {d : DataW H} {ds : List (DataW H)} {ts : List TypeId} {j : Nat} {a : Option Addr} {len cap : Nat}
    (h : DataW.Trod enc Try.prog W 0 (fun _ => true) true 59 (.slice a len cap) d p)
    (hsz : (DataW.weightsEach Try.prog ts ds).all (· ≤ reachBytes) = true) (ht : ts[j]? = some 59) (hd : ds[j]? = some d) :
    ∃ st, StepArg W (.slice a len cap) st ∧ st.length ≤ 8796093022208 ∧ ∀ x ∈ st, x.n.size ≤ 140737488351232 ∧ x.i < 4294967296 := by
  obtain ⟨fuel, hf⟩ := h
  rcases open_slice Try.underlying59 hf with ⟨hcs, _⟩ | ⟨x, l, c, m, n, D, Pl, hcs, hb, hl, hm, hmm, hx, hi⟩
  · simp [Value.cells] at hcs
    obtain ⟨rfl, rfl, rfl⟩ := hcs
    exact ⟨[], .inl ⟨rfl, rfl⟩, by simp, by simp⟩
  · simp [Value.cells] at hcs
    obtain ⟨rfl, rfl, rfl⟩ := hcs
    simp only [if_true] at hmm
    subst hmm
    have key : ∀ i, ∃ s : Stp, i < len → (W.cell? (x.add (i * 3)) = some (.int .i64 s.d) ∧ W.cell? (x.add (i * 3 + 1)) = some (.string s.n) ∧ W.cell? (x.add (i * 3 + 2)) = some (.int .u32 s.i)) ∧ D i = stepD s ∧ s.i < 4294967296 := fun i => by
      by_cases hil : i < len
      · obtain ⟨cs', hc, ht'⟩ := hi i (by omega)
        rw [cells_step] at hc
        obtain ⟨_, hcl, hat⟩ := World.cells?_some hc
        match cs', hcl with
        | [c0, c1, c2], _ =>
          obtain ⟨y0, y1, y2, n', hy, t0, t1, t2⟩ := trod_one3 Try.underlying62 (by kernel_rfl) ht'
          obtain ⟨n0, e0, rfl, w0⟩ := DataW.trod_int Try.underlying3 t0
          obtain ⟨s1, e1, rfl, w1⟩ := DataW.trod_string Try.underlying9 t1
          obtain ⟨n2, e2, rfl, w2⟩ := DataW.trod_int Try.underlying60 t2
          simp only [List.cons.injEq, and_true] at e0 e1 e2
          subst e0 e1 e2
          have r2 : 0 ≤ n2 ∧ n2 ≤ 4294967295 := wf_rng w2
          obtain ⟨m2, rfl⟩ := Int.eq_ofNat_of_zero_le r2.1
          have a0 := hat 0 (by omega)
          have a1 := hat 1 (by omega)
          have a2 := hat 2 (by omega)
          rw [Go.Deep.add_add] at a0 a1 a2
          refine ⟨⟨n0, s1, m2⟩, fun _ => ⟨⟨?_, ?_, ?_⟩, ?_, ?_⟩⟩
          · simpa using a0
          · simpa using a1
          · simpa using a2
          · exact (Prod.mk.inj hy).1
          · simp only; omega
      · exact ⟨⟨0, ⟨#[]⟩, 0⟩, fun h => absurd h hil⟩
    obtain ⟨f, hF⟩ := Classical.axiomOfChoice key
    obtain ⟨rfl, _⟩ := Prod.mk.inj hx
    have hn := sized_slice hsz ht hd Try.underlying59
    rw [bytes_step] at hn
    simp only [List.length_map, List.length_range, reachBytes] at hn
    have hel : ((List.range len).map f).length = len := by simp
    refine ⟨(List.range len).map f, ?_, by rw [hel]; omega, ?_⟩
    · by_cases h0 : len = 0
      · subst h0
        exact .inr (.inl ⟨x, _, rfl, rfl⟩)
      · right; right
        have c0 := (hF 0 (by omega)).1.1
        obtain ⟨b, off, spot⟩ := x
        have e0 : (⟨b, off, spot⟩ : Addr).add (0 * 3) = ⟨b, off, spot⟩ := by rw [Nat.zero_mul]; unfold Addr.add; rw [if_pos rfl]
        rw [e0] at c0
        have hb2 := block_of_cell c0
        obtain ⟨hb1, hs⟩ := hb2
        simp only at hb1 hs
        subst hs
        refine ⟨b, off, _, by rw [hel], hb1, fun q hq => ?_⟩
        rw [hel] at hq
        have hq2 := (hF q hq).1
        have ea : ∀ k, (⟨b, off, none⟩ : Addr).add k = ⟨b, off + k, none⟩ := fun k => by unfold Addr.add; split <;> simp_all
        rw [ea, ea, ea] at hq2
        simp only [List.getElem_map, List.getElem_range, Nat.add_assoc] at hq2 ⊢
        exact hq2
    · intro y hy
      obtain ⟨q, hq, rfl⟩ := List.mem_map.1 hy
      obtain ⟨_, hD, h32⟩ := hF q (List.mem_range.1 hq)
      refine ⟨?_, h32⟩
      have hw : (f q).n.size ∈ (stepD (H := H) (f q)).weights Try.prog 62 := by
        simp only [stepD, DataW.weights, Try.underlying62]
        simp [len_L, DataW.weights, DataW.weightsEach]
      rw [← hD] at hw
      have hmem : (f q).n.size ∈ (DataW.slice (List.map D (List.range len)) (List.map (fun j => D (len + j)) (List.range (m - len)))).weights Try.prog 59 := by
        simp only [DataW.weights, Try.underlying59]
        exact List.mem_cons_of_mem _ (List.mem_append_left _ (mem_weightsAll (List.mem_map_of_mem hq) hw))
      have := List.all_eq_true.1 hsz _ (DataW.weights_mem_each ht hd _ hmem)
      have := of_decide_eq_true this
      simpa [reachBytes] using this
end Go.Proofs.Ytfdclifdemajfaa.Dir
