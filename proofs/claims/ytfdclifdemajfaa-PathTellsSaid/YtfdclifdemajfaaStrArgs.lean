/- A []string argument, opened: Strs, and each text's size. -/
import Derived.Test.YtfdclifdemajfaaPathSame
import Derived.SliceStrings
import Derived.WalkKit
import Derived.ProofKit
import Derived.Below
import Derived.SizedLaws
import Derived.OpenShut
import Derived.ShutString
import Derived.ChangeOld
namespace Go.Proofs.Ytfdclifdemajfaa.Path
open Go.ChangeShapes Go.WideShapes Go.ChangeAt Go.RowKit
open Oct
set_option linter.unusedVariables false

theorem weights_strs {H : Type} {P : Program} {e : TypeId} : ∀ (ss : List ByteArray), DataW.weightsAll (H := H) P e (strs ss) = ss.map ByteArray.size
  | [] => rfl
  | s :: r => by
    show DataW.weights P e (.lit (.string s.data.toList)) ++ DataW.weightsAll P e (strs r) = _
    rw [weights_strs r]
    rfl

theorem sized_strs {H : Type} {P : Program} {ts : List TypeId} {ds : List (DataW H)} (h : (DataW.weightsEach P ts ds).all (· ≤ reachBytes) = true) {j : Nat} {t e : TypeId} {es sp : List ByteArray} (ht : ts[j]? = some t) (hd : ds[j]? = some (.slice (strs es) (strs sp))) (hu : P.underlying t = some (.slice e)) : ∀ s ∈ es, s.size ≤ 140737488351232 := fun s hs => by
  have hm : s.size ∈ (DataW.slice (strs es) (strs sp) : DataW H).weights P t := by
    simp only [DataW.weights, hu, weights_strs]
    exact List.mem_cons_of_mem _ (List.mem_append_left _ (List.mem_map_of_mem hs))
  have := List.all_eq_true.1 h _ (DataW.weights_mem_each ht hd s.size hm)
  have := of_decide_eq_true this
  simpa [reachBytes] using this

theorem bytes_str : Try.prog.bytesOf 9 = 16 := by kernel_rfl

/-- A []string that came in. -/
theorem open_strs {H : Type} {enc : TypeId × Value → H} {W : World} {p : List MemPlace} {d : DataW H} {ds : List (DataW H)} {ts : List TypeId} {j : Nat} {a : Option Addr} {len cap : Nat}
    (h : DataW.Trod enc Try.prog W 0 (fun _ => true) true 40 (.slice a len cap) d p)
    (hsz : (DataW.weightsEach Try.prog ts ds).all (· ≤ reachBytes) = true) (ht : ts[j]? = some 40) (hd : ds[j]? = some d) :
    ∃ ps, Strs W (.slice a len cap) ps ∧ ∀ q ∈ ps, q.size ≤ 140737488351232 := by
  obtain ⟨fuel, hf⟩ := h
  rcases open_strings Try.underlying40 Try.underlying9 (by kernel_rfl) hf with ⟨hcs, _⟩ | ⟨x, l, c, ss, hcs, _, hl, hm, hz, hx, hcell, hw⟩
  · simp [Value.cells] at hcs
    obtain ⟨rfl, rfl, rfl⟩ := hcs
    exact ⟨[], .inl ⟨rfl, rfl⟩, by simp⟩
  · simp [Value.cells] at hcs
    obtain ⟨rfl, rfl, rfl⟩ := hcs
    obtain ⟨rfl, _⟩ := Prod.mk.inj hx
    simp at hz
    have hn := sized_slice hsz ht hd Try.underlying40
    rw [bytes_str] at hn
    simp only [strs, List.length_map, List.length_take, List.length_drop, hz, reachBytes] at hn
    have hlen : (ss.take len).length = len := by rw [List.length_take, hz]; omega
    refine ⟨ss.take len, ?_, sized_strs hsz ht hd Try.underlying40⟩
    by_cases h0 : len = 0
    · subst h0
      exact .inr (.inr ⟨x, cap, rfl, rfl⟩)
    · right; left
      have hc0 := hcell 0 (by omega)
      obtain ⟨b, off, spot⟩ := x
      have hb : b < W.heap.size ∧ spot = none := by
        unfold World.cell? Addr.add at hc0
        rw [if_pos rfl] at hc0
        simp only at hc0
        split at hc0
        · rename_i hh
          refine ⟨(Array.getElem?_eq_some_iff.1 hh).1, ?_⟩
          cases spot with
          | none => rfl
          | some z => simp at hc0
        · cases hc0
      obtain ⟨hb1, rfl⟩ := hb
      refine ⟨b, off, cap, by rw [hlen], ⟨by rw [hlen]; omega, by rw [hlen]; exact hl⟩, hb1, fun j hj => ?_⟩
      rw [hlen] at hj
      have := hcell j (by omega)
      have e1 : ((⟨b, off, none⟩ : Addr).add j) = ⟨b, off + j, none⟩ := by unfold Addr.add; split <;> simp_all
      rw [e1] at this
      rw [this, List.getElem_take, List.getD_eq_getElem?_getD, List.getElem?_eq_getElem (by omega)]
      rfl
end Go.Proofs.Ytfdclifdemajfaa.Path
