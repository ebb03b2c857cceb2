import Derived.Test.YtfdclifdemajfaaRows
import Derived.Test.YtfdclifdemajfaaDirsOne
import Derived.WalkKit
import Derived.ProofKit
import Derived.OpenShut
import Derived.ShutString
import Derived.ChangeOld
import Derived.Below
import Derived.SizedLaws
namespace Go.Proofs.Ytfdclifdemajfaa.dirsOne
open Go.ChangeShapes Go.WideShapes Go.ChangeAt Go.RowKit
open Go.ChangeMaps (open_string shut_string)
open Go.Deep
set_option linter.unusedVariables false

open Dir Oct
theorem open_agg3 {H : Type} {enc : TypeId × Value → H} {P : Program} {w : World} {base : Nat} {spare : Nat → Bool} {held : Bool} {r : Reach} {b0 : Nat} {t : TypeId} {f0 f1 f2 : Field} {v : Value} {d : DataW H} {p : List MemPlace} (hs : P.underlying t = some (.struct #[f0, f1, f2])) (hone : oneCellFields P #[f0, f1, f2] = true) (hC : P.cellsOf t = 3)
    (hv : Value.okWide P w r b0 t v) (h : DataW.Trod enc P w base spare held t v d p) :
    ∃ (v0 v1 v2 : Value) (y0 y1 y2 : DataW H × List MemPlace) (n : Nat), v = .agg #[v0, v1, v2] ∧ d = .agg [y0.1, y1.1, y2.1] ∧
      DataW.trod enc P w base spare held n f0.type [v0] = some y0 ∧ DataW.trod enc P w base spare held n f1.type [v1] = some y1 ∧ DataW.trod enc P w base spare held n f2.type [v2] = some y2 := by
  obtain ⟨cs, rfl, hsz⟩ := okWide_struct hs hv
  obtain ⟨l⟩ := cs
  match l, hsz.trans hC with
  | [c0, c1, c2], _ =>
    obtain ⟨fuel, hf⟩ := h
    obtain ⟨y0, y1, y2, n, hx, t0, t1, t2⟩ := trod_one3 hs hone hf
    exact ⟨c0, c1, c2, y0, y1, y2, n, rfl, (Prod.mk.inj hx).1, t0, t1, t2⟩
set_option maxRecDepth 100000 in
theorem open_step {H : Type} {enc : TypeId × Value → H} {W : World} {r : Reach} {b0 base : Nat} {spare : Nat → Bool} {held : Bool} {v : Value} {d : DataW H} {p : List MemPlace}
    (hv : Value.okWide Try.prog W r b0 62 v) (h : DataW.Trod enc Try.prog W base spare held 62 v d p) :
    ∃ x : Stp, v = stepV x ∧ d = stepD x ∧ x.i < 4294967296 := by
  obtain ⟨v0, v1, v2, y0, y1, y2, n, rfl, rfl, t0, t1, t2⟩ := open_agg3 Try.underlying62 (by kernel_rfl) cells_step hv h
  obtain ⟨n0, e0, rfl, w0⟩ := DataW.trod_int Try.underlying3 t0
  obtain ⟨s1, e1, rfl, w1⟩ := DataW.trod_string Try.underlying9 t1
  obtain ⟨n2, e2, rfl, w2⟩ := DataW.trod_int Try.underlying60 t2
  simp only [List.cons.injEq, and_true] at e0 e1 e2
  subst e0 e1 e2
  have r2 : 0 ≤ n2 ∧ n2 ≤ 4294967295 := wf_rng w2
  obtain ⟨m2, rfl⟩ := Int.eq_ofNat_of_zero_le r2.1
  exact ⟨⟨n0, s1, m2⟩, rfl, rfl, by simp only; omega⟩
theorem sized_step {H : Type} {ts : List TypeId} {ds : List (DataW H)} (h : (DataW.weightsEach Try.prog ts ds).all (· ≤ reachBytes) = true) {j : Nat} {x : Stp} (ht : ts[j]? = some 62) (hd : ds[j]? = some (stepD x)) : x.n.size ≤ 140737488351232 := by
  have hw : x.n.size ∈ (stepD (H := H) x).weights Try.prog 62 := by
    simp only [stepD, DataW.weights, Try.underlying62]
    simp [len_L, DataW.weights, DataW.weightsEach]
  have := List.all_eq_true.1 h _ (DataW.weights_mem_each ht hd _ hw)
  have := of_decide_eq_true this
  simpa [reachBytes] using this
theorem steps_bytes {H : Type} {enc : TypeId × Value → H} {W : World} {p : List MemPlace} {d : DataW H} {ds : List (DataW H)} {ts : List TypeId} {j : Nat} {a : Option Addr} {len cap : Nat} {st : List Stp}
    (h : DataW.Trod enc Try.prog W 0 (fun _ => true) true 59 (.slice a len cap) d p)
    (hsz : (DataW.weightsEach Try.prog ts ds).all (· ≤ reachBytes) = true) (ht : ts[j]? = some 59) (hd : ds[j]? = some d) (hS : StepArg W (.slice a len cap) st) : st.length * 32 ≤ 140737488351232 := by
  have hl : st.length = len := by
    rcases hS with ⟨e, rfl⟩ | ⟨ad, c, e, rfl⟩ | ⟨b, o, c, e, _⟩
    · simp at e; simp [e.2.1]
    · simp at e; simp [e.2.1]
    · simp at e; exact e.2.1.symm
  rw [hl]
  obtain ⟨fuel, hf⟩ := h
  rcases open_slice Try.underlying59 hf with ⟨hcs, _⟩ | ⟨x, l, c, m, n, D, Pl, hcs, hb, hl, hm, hmm, hx, hi⟩
  · simp [Value.cells] at hcs
    omega
  · simp [Value.cells] at hcs
    obtain ⟨rfl, rfl, rfl⟩ := hcs
    obtain ⟨rfl, _⟩ := Prod.mk.inj hx
    have hn := sized_slice hsz ht hd Try.underlying59
    rw [bytes_step] at hn
    simp only [List.length_map, List.length_range, reachBytes] at hn
    omega

theorem own : ownKnob Try.prog.godebug = none := by kernel_rfl
theorem laidOut : laidOutB Try.prog = true := by kernel_rfl
set_option maxRecDepth 100000 in
theorem lifted (os : Os) (started : os.Started) (H : Type) (enc : TypeId × Value → H) :
    ReturnsInHanded {} Try.checked os 12 .any (Rows.dirsOneSpec.pre6 enc Try.prog Try.f12 Rows.dirsOneRow.domain false) (Rows.dirsOneSpec.post enc Try.prog Try.f12 false true false false) := by
  refine returnsInHanded_of_change_sized (C := Try.checked) own started (by kernel_rfl) Try.func12
    (ChangeSpec.witness6 (enc := enc) (C := Try.checked) false ⟨#[], #[.slice none 0 0, .agg #[.int .i64 0, .string ByteArray.empty, .int .u32 0]], []⟩ 8 (by kernel_rfl) (by kernel_rfl) (by kernel_rfl) (by kernel_rfl)) ?_
  intro W base args ds gs before hval0 hW hcnd hsz0 _
  have hval : ∀ (j : Nat) t v, Try.f12.params[j]? = some t → args[j]? = some v → Value.okWide Try.prog W .any base t v := hval0
  have hW' := hW
  obtain ⟨p, q, hA0, hV, rfl, hfz, hnd⟩ := hW
  have hA : DataW.TrodAll enc Try.prog W 0 (fun _ => true) true Try.f12.params.toList args.toList ds p := hA0
  have hsz : (DataW.weightsEach Try.prog (Try.f12.params.toList ++ Rows.dirsOneSpec.plain.varTypes Try.prog) (ds ++ gs)).all (· ≤ reachBytes) = true := hsz0
  rw [Try.params12] at hA hval hsz
  obtain ⟨v0, vs0, d0, ds0, p0, q0, hargs, rfl, rfl, h0, r0⟩ := trodAll_cons hA
  obtain ⟨v1, vs1, d1, ds1, p1, q1, rfl, rfl, rfl, h1, r1⟩ := trodAll_cons r0
  obtain ⟨rfl, rfl, rfl⟩ := trodAll_nil r1
  obtain rfl : args = #[v0, v1] := by cases args; simp_all
  obtain ⟨rfl, rfl⟩ := trodVars_none hV
  obtain ⟨a0, len0, cap0, rfl⟩ := okWide_slice Try.underlying59 (hval 0 59 v0 rfl rfl)
  have k0 := h0
  have lt0 : ∀ x ∈ p0, x.block < W.heap.size := by obtain ⟨m, hm⟩ := k0; exact DataW.trod_lt m _ _ _ hm
  obtain ⟨l0, s0, y0, z0⟩ := open_steps h0 hsz (j := 0) rfl rfl
  have k1 := h1
  have lt1 : ∀ x ∈ p1, x.block < W.heap.size := by obtain ⟨m, hm⟩ := k1; exact DataW.trod_lt m _ _ _ hm
  obtain ⟨x1, rfl, rfl, w1⟩ := open_step (hval 1 62 v1 rfl rfl) h1
  have n1 := sized_step hsz (j := 1) (x := x1) rfl rfl
  clear hA0 hval0
  simp only [List.append_nil] at hW'
  refine (one_walk _ l0 x1 W s0 (steps_bytes k0 hsz (j := 0) rfl rfl s0) z0 n1 w1).mono fun e W' ⟨he, bel⟩ => ?_
  subst he
  exact ⟨_, rfl, _, _, _, [], _, [], hW', trodAll_mk1 (shut_bool Try.underlying4 _), (trodAll_cons_mk (Below.trod laidOut (by kernel_rfl) (of_decide_eq_true (by kernel_rfl)) k0 bel lt0) (trodAll_cons_mk (Below.trod laidOut (by kernel_rfl) (of_decide_eq_true (by kernel_rfl)) k1 bel lt1) trodAll_mk0)), rfl, bel.frame _, fun h => by cases h⟩

theorem over : Rows.dirsOneRow.holds Try.pinned (OpenSpec.ofChange Rows.dirsOneSpec) :=
  OpenClaim.holds_of_wide 12 Try.f12 rfl rfl rfl rfl rfl rfl rfl ⟨rfl, rfl, rfl, rfl, rfl⟩ rfl rfl rfl rfl rfl (by kernel_rfl) Try.func12 (by kernel_rfl)
    (of_decide_eq_true (by kernel_rfl)) (by unfold Func.isWrapper; first | (rw [if_pos (by decide +kernel)]; kernel_rfl) | (rw [if_neg (by decide +kernel)]; exact ⟨rfl, rfl⟩))
    (fun os started H enc _ => lifted os started H enc)

theorem proved : Rows.DirsOneSaid := over

end Go.Proofs.Ytfdclifdemajfaa.dirsOne
