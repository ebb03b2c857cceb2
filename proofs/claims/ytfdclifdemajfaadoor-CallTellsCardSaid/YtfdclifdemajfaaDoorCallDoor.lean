/- Layer 20: what the row's list of variables gives; a call that came in, opened; a world for the witness. -/
import Derived.Test.YtfdclifdemajfaaDoorCards
import Derived.Test.YtfdclifdemajfaaDoorTie
import Derived.Test.YtfdclifdemajfaaDoorCallAlive
import Derived.WalkKit
import Derived.ProofKit
import Derived.OpenShut
import Derived.ShutString
import Derived.ChangeOld
import Derived.Below
import Derived.SizedLaws
import Derived.Deep.DeepHandedRow
import Derived.Lib.LaidTab
import Derived.Lib.SmallJoins
namespace Go.Proofs.YtfdclifdemajfaaDoor.Call
open Go.Joins Go.ChangeShapes Go.WideShapes Go.ChangeAt Go.RowKit Go.Deep
open Oct
set_option linter.unusedVariables false
section
variable {H : Type} {enc : TypeId × Value → H} {P : Program} {w : World} {base : Nat} {spare : Nat → Bool} {held : Bool}

theorem open_agg7 {r : Reach} {b0 : Nat} {t : TypeId} {f0 f1 f2 f3 f4 f5 f6 : Field} {v : Value} {d : DataW H} {p : List MemPlace} (hs : P.underlying t = some (.struct #[f0, f1, f2, f3, f4, f5, f6])) (hone : oneCellFields P #[f0, f1, f2, f3, f4, f5, f6] = true) (hC : P.cellsOf t = 7)
    (hv : Value.okWide P w r b0 t v) (h : DataW.Trod enc P w base spare held t v d p) :
    ∃ (v0 v1 v2 v3 v4 v5 v6 : Value) (y0 y1 y2 y3 y4 y5 y6 : DataW H × List MemPlace) (n : Nat), v = .agg #[v0, v1, v2, v3, v4, v5, v6] ∧ d = .agg [y0.1, y1.1, y2.1, y3.1, y4.1, y5.1, y6.1] ∧ p = y0.2 ++ (y1.2 ++ (y2.2 ++ (y3.2 ++ (y4.2 ++ (y5.2 ++ y6.2))))) ∧
      DataW.trod enc P w base spare held n f0.type [v0] = some y0 ∧ DataW.trod enc P w base spare held n f1.type [v1] = some y1 ∧ DataW.trod enc P w base spare held n f2.type [v2] = some y2 ∧ DataW.trod enc P w base spare held n f3.type [v3] = some y3 ∧ DataW.trod enc P w base spare held n f4.type [v4] = some y4 ∧ DataW.trod enc P w base spare held n f5.type [v5] = some y5 ∧ DataW.trod enc P w base spare held n f6.type [v6] = some y6 := by
  obtain ⟨cs, rfl, hsz⟩ := okWide_struct hs hv
  obtain ⟨l⟩ := cs
  match l, hsz.trans hC with
  | [c0, c1, c2, c3, c4, c5, c6], _ =>
    obtain ⟨fuel, hf⟩ := h
    obtain ⟨xs, n, _, hx, _, hlen, hg⟩ := DataW.trod_struct hs hf
    obtain ⟨o0, k0⟩ := hone_of hone 0 f0 rfl
    obtain ⟨o1, k1⟩ := hone_of hone 1 f1 rfl
    obtain ⟨o2, k2⟩ := hone_of hone 2 f2 rfl
    obtain ⟨o3, k3⟩ := hone_of hone 3 f3 rfl
    obtain ⟨o4, k4⟩ := hone_of hone 4 f4 rfl
    obtain ⟨o5, k5⟩ := hone_of hone 5 f5 rfl
    obtain ⟨o6, k6⟩ := hone_of hone 6 f6 rfl
    match xs, hlen with
    | [y0, y1, y2, y3, y4, y5, y6], _ =>
      simp only [Prod.mk.injEq] at hx
      exact ⟨c0, c1, c2, c3, c4, c5, c6, y0, y1, y2, y3, y4, y5, y6, n, rfl, by simpa using hx.1, by simpa using hx.2, by simpa [Value.cells, o0, k0] using hg 0 f0 rfl, by simpa [Value.cells, o1, k1] using hg 1 f1 rfl, by simpa [Value.cells, o2, k2] using hg 2 f2 rfl, by simpa [Value.cells, o3, k3] using hg 3 f3 rfl, by simpa [Value.cells, o4, k4] using hg 4 f4 rfl, by simpa [Value.cells, o5, k5] using hg 5 f5 rfl, by simpa [Value.cells, o6, k6] using hg 6 f6 rfl⟩
end

theorem cells_call : Tryd.prog.cellsOf 24 = 7 := by kernel_rfl
theorem wf_range {k : IntKind} {n : Int} (h : (Lit.int k n).wf = true) : k.min ≤ n ∧ n ≤ k.max := by
  simp only [Lit.wf, Bool.and_eq_true, decide_eq_true_eq] at h
  exact h
def C.datum {H : Type} (x : C) : DataW H := .agg [.lit (.int .u8 x.d), .lit (.string (L x.p)), .lit (.string (L x.p2)), .lit (.int .i64 x.fd), .lit (.int .i64 x.pg), .lit (.int .u32 x.sz), .lit (.string (L x.da))]
/-- A call that came in. -/
theorem open_call {H : Type} {enc : TypeId × Value → H} {W : World} {r : Reach} {b0 base : Nat} {spare : Nat → Bool} {held : Bool} {v : Value} {d : DataW H} {p : List MemPlace}
    (hv : Value.okWide Tryd.prog W r b0 24 v) (h : DataW.Trod enc Tryd.prog W base spare held 24 v d p) :
    ∃ x : C, v = .agg #[.int .u8 x.d, .string x.p, .string x.p2, .int .i64 x.fd, .int .i64 x.pg, .int .u32 x.sz, .string x.da] ∧ x.d < 256 ∧ d = x.datum ∧ p = [] := by
  obtain ⟨v0, v1, v2, v3, v4, v5, v6, y0, y1, y2, y3, y4, y5, y6, n, rfl, rfl, rfl, t0, t1, t2, t3, t4, t5, t6⟩ := open_agg7 Tryd.underlying24 (by kernel_rfl) cells_call hv h
  obtain ⟨n0, e0, rfl, w0⟩ := DataW.trod_int Tryd.underlying5 t0
  obtain ⟨s1, e1, rfl, w1⟩ := DataW.trod_string Tryd.underlying9 t1
  obtain ⟨s2, e2, rfl, w2⟩ := DataW.trod_string Tryd.underlying9 t2
  obtain ⟨n3, e3, rfl, w3⟩ := DataW.trod_int Tryd.underlying3 t3
  obtain ⟨n4, e4, rfl, w4⟩ := DataW.trod_int Tryd.underlying3 t4
  obtain ⟨n5, e5, rfl, w5⟩ := DataW.trod_int Tryd.underlying22 t5
  obtain ⟨s6, e6, rfl, w6⟩ := DataW.trod_string Tryd.underlying9 t6
  simp only [List.cons.injEq, and_true] at e0 e1 e2 e3 e4 e5 e6
  subst e0 e1 e2 e3 e4 e5 e6
  have r0 := wf_range w0
  have r5 := wf_range w5
  have r0' : 0 ≤ n0 ∧ n0 ≤ 255 := r0
  have r5' : 0 ≤ n5 ∧ n5 ≤ 4294967295 := r5
  obtain ⟨m0, rfl⟩ := Int.eq_ofNat_of_zero_le r0'.1
  obtain ⟨m5, rfl⟩ := Int.eq_ofNat_of_zero_le r5'.1
  exact ⟨⟨m0, s1, s2, n3, n4, m5, s6⟩, rfl, by simp only; omega, rfl, rfl⟩
/-- Each text of a call that came in is no longer than the reach. -/
theorem sized_call {H : Type} {ts : List TypeId} {ds : List (DataW H)} (h : (DataW.weightsEach Tryd.prog ts ds).all (· ≤ reachBytes) = true) {j : Nat} {x : C} (ht : ts[j]? = some 24) (hd : ds[j]? = some x.datum) :
    x.p.size ≤ 140737488351232 ∧ x.p2.size ≤ 140737488351232 ∧ x.da.size ≤ 140737488351232 := by
  have hm : ∀ n ∈ [x.p.size, x.p2.size, x.da.size], n ∈ (x.datum : DataW H).weights Tryd.prog 24 := fun n hn => by
    simp only [C.datum, DataW.weights, Tryd.underlying24]
    simpa [len_L, DataW.weights, DataW.weightsEach] using hn
  have hq : ∀ n ∈ [x.p.size, x.p2.size, x.da.size], n ≤ 140737488351232 := fun n hn => by
    have := List.all_eq_true.1 h _ (DataW.weights_mem_each ht hd n (hm n hn))
    have := of_decide_eq_true this
    simpa [reachBytes] using this
  exact ⟨hq _ (by simp), hq _ (by simp), hq _ (by simp)⟩

theorem own : ownKnob Tryd.prog.godebug = none := by kernel_rfl
theorem laidOut : laidOutB Tryd.prog = true := by kernel_rfl
theorem gKinds : Tryd.prog.globalNamed "lunette/call.kinds" = some 0 := by kernel_rfl
theorem gKindsType : (Tryd.prog.globals[0]?).map (·.type) = some 67 := by kernel_rfl
theorem cellsTab : Tryd.prog.cellsOf 67 = 32 := by kernel_rfl
theorem cellsKind : Tryd.prog.cellsOf 66 = 2 := by kernel_rfl
theorem cellsStr : Tryd.prog.cellsOf 9 = 1 := by kernel_rfl
theorem cellsInt : Tryd.prog.cellsOf 3 = 1 := by kernel_rfl
def kindD {H : Type} (d : Nat) : DataW H := .agg [.lit (.string (wordN d)), .lit (.int .i64 (hasN d))]
theorem laid_is {H : Type} : (Rows.laid_lunette_call_kinds : DataW H) = .agg ((List.range 16).map kindD) := rfl
theorem cells_of_kinds {H : Type} {enc : TypeId × Value → H} {W : World} {base : Nat} {sp : Nat → Bool} {held : Bool} {fuel : Nat} {cs : List Value} {p : List MemPlace}
    (h : DataW.trod enc Tryd.prog W base sp held fuel 67 cs = some (Rows.laid_lunette_call_kinds, p)) (d : Nat) (hd : d < 16) : cs[d * 2]? = some (.string (B (wordN d))) ∧ cs[d * 2 + 1]? = some (.int .i64 (hasN d)) := by
  rw [laid_is] at h
  cases fuel with
  | zero => simp [DataW.trod] at h
  | succ fuel =>
    simp only [DataW.trod, Tryd.underlying67, cellsKind, cellsTab] at h
    split at h
    · rename_i hl
      obtain ⟨xs, hm, hx⟩ := Option.map_eq_some_iff.1 h
      have hxs : xs.map (·.1) = (List.range 16).map (kindD (H := H)) := by
        have := congrArg Prod.fst hx
        simpa using this
      obtain ⟨b, hb, hf⟩ := Lib.mapM_at hm d d (by simp [hd])
      have hbd : b.1 = kindD d := by
        have h2 : (xs.map (·.1))[d]? = some b.1 := by simp [hb]
        rw [hxs] at h2
        simp [hd] at h2
        exact h2.symm
      obtain ⟨y0, y1, n, rfl, _, t0, t1⟩ := trod_struct2 Tryd.underlying66 hf
      simp only [cellsStr, cellsInt] at t0 t1
      obtain ⟨s, e0, rfl, _⟩ := DataW.trod_string Tryd.underlying9 t0
      obtain ⟨z, e1, rfl, _⟩ := DataW.trod_int Tryd.underlying3 t1
      simp only [kindD, DataW.agg.injEq, List.cons.injEq, DataW.lit.injEq, Lit.string.injEq, Lit.int.injEq, true_and, and_true] at hbd
      obtain ⟨hs, rfl⟩ := hbd
      have es : s = B (wordN d) := L_inj (by rw [L_B]; exact hs)
      subst es
      constructor
      · have := congrArg (·[0]?) e0
        simpa [List.getElem?_take, List.getElem?_drop] using this
      · have := congrArg (·[0]?) e1
        simpa [List.getElem?_take, List.getElem?_drop] using this
    · cases h
/-- What the row's list gives: the table of calls. -/
theorem kinds_of {W : World} (h : laidMetH Tryd.prog [("lunette/call.kinds", Rows.laid_lunette_call_kinds)] W) : Kinds W := by
  have h' : laidMet Tryd.prog [("lunette/call.kinds", Rows.laid_lunette_call_kinds)] W := h
  obtain ⟨ps, ⟨g', t', cs, fuel, p, q, hg', ht', hvar, hd, _, _⟩, _⟩ := h'
  obtain rfl := Option.some.inj (gKinds.symm.trans hg')
  obtain rfl := Option.some.inj (gKindsType.symm.trans ht')
  have hc := fun i => World.var?_cell gKinds hvar i
  have key : ∀ d, d < 16 → W.cell? ⟨0, d * 2, none⟩ = some (.string (B (wordN d))) ∧ W.cell? ⟨0, d * 2 + 1, none⟩ = some (.int .i64 (hasN d)) := fun d hd16 => by
    obtain ⟨k1, k2⟩ := cells_of_kinds hd d hd16
    rw [hc, hc]
    exact ⟨by simpa using k1, by simpa using k2⟩
  exact ⟨World.block_lt_of_cell? _ _ (key 0 (by decide)).1, key⟩
/-- A world for the witness: the table holds what its initialiser lays. -/
noncomputable def laidWorld (os : Os) : World :=
  { World.holding Tryd.prog os ⟨#[], #[], []⟩ with heap := (World.holding Tryd.prog os ⟨#[], #[], []⟩).heap.modify 0 fun
      | .cells _ t frozen => .cells #[.string ⟨#[]⟩, .int .i64 0, .string ⟨#[111, 112, 101, 110]⟩, .int .i64 1, .string ⟨#[99, 114, 101, 97, 116, 101]⟩, .int .i64 65, .string ⟨#[114, 101, 97, 100]⟩, .int .i64 12, .string ⟨#[119, 114, 105, 116, 101]⟩, .int .i64 44, .string ⟨#[116, 114, 117, 110, 99]⟩, .int .i64 20, .string ⟨#[108, 105, 110, 107]⟩, .int .i64 131, .string ⟨#[117, 110, 108, 105, 110, 107]⟩, .int .i64 65, .string ⟨#[114, 101, 110, 97, 109, 101]⟩, .int .i64 195, .string ⟨#[109, 107, 100, 105, 114]⟩, .int .i64 65, .string ⟨#[114, 109, 100, 105, 114]⟩, .int .i64 65, .string ⟨#[108, 105, 115, 116]⟩, .int .i64 1, .string ⟨#[115, 116, 97, 116]⟩, .int .i64 1, .string ⟨#[99, 108, 111, 115, 101]⟩, .int .i64 4, .string ⟨#[102, 115, 121, 110, 99]⟩, .int .i64 4, .string ⟨#[115, 121, 110, 99]⟩, .int .i64 0] t frozen
      | o => o }
end Go.Proofs.YtfdclifdemajfaaDoor.Call
