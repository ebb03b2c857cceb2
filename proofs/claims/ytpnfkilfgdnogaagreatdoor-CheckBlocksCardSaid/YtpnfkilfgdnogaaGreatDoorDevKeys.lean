/- The keys of a map keyed by ints, sorted, as a row of the call's own: what slices.Sorted(maps.Keys(m)) hands back. -/
import Derived.Test.YtpnfkilfgdnogaaGreatDoorDevNew
import Derived.Test.YtpnfkilfgdnogaaGreatDoorIter
import Derived.CallsIn
namespace Go.Proofs.YtpnfkilfgdnogaaGreatDoor.Dev
set_option linter.unusedVariables false
open Go.RowKit Go.Shelf Go.Maps Go.Sort
theorem sortsInt (m : Nat) : AnyZI.SortsIn Tryz.prog Tryz.sortedInt_ren Fence.wide m :=
  ⟨fun blk off cap ss W hH hblk hsz => callsIn_wide.2 (AnyM.slices_Sort_int Tryz.sortInt blk off cap ss W hH hblk hsz),
   fun p cap W => callsIn_wide.2 (AnyM.slices_Sort_int_none Tryz.sortInt p cap W)⟩
theorem keysDev_in (mb : Option Nat) (W : World) : CallsIn Fence.wide 5 Tryz.prog 175 #[.map mb] W fun e w' => e = .returned (.func (.func 191) #[] #[.pointer (some ⟨W.heap.size, 0, none⟩)]) ∧ w' = W.alloc (.cells #[.map mb] 105) :=
  AnyZI.keys_in Tryz.keysDev Fence.wide 5 trivial rfl mb W
def KeysOf (f : Int → Option (DataW Unit)) (ss : List Int) : Prop := ss.Nodup ∧ ∀ x, x ∈ ss ↔ (f x).isSome = true
theorem keysOf_mem {W : World} {R : ElemR} {b nn : Nat} {D : DataW Unit} {f : Int → Option (DataW Unit)} (hown : W.ownsMap Tryz.prog 3 R b nn D) (hf : ∀ x : Int, has D (.int .i64 x) = (f x).isSome) {ss : List Int} (hp : ss.Perm (intKeys D)) : KeysOf f ss := by
  obtain ⟨es, hD, hpw, _⟩ := hown.entries (Maps.int_keyed Tryz.underlying3)
  obtain ⟨es', hD', hko⟩ := hown.keysOf
  obtain rfl : es = es' := by rw [hD] at hD'; simpa using hD'
  subst hD
  have hk : ∀ p ∈ es, ∃ x, p.1 = .int .i64 x := fun p hp => by
    obtain ⟨v, hv⟩ := hko p hp
    obtain ⟨x, _, hx, _⟩ := Maps.keyOf_i64 Tryz.underlying3 hv
    exact ⟨x, hx⟩
  have e1 : intKeys (DataW.map es) = es.map (fun p => Go.intOf p.1) := rfl
  rw [e1] at hp
  refine ⟨hp.nodup_iff.2 ?_, fun x => ?_⟩
  · refine List.pairwise_map.2 (hpw.imp_of_mem fun {p q} hp' hq' hne e => hne ?_)
    obtain ⟨a, ha⟩ := hk p hp'
    obtain ⟨c, hc⟩ := hk q hq'
    rw [ha, hc] at e ⊢
    exact congrArg _ e
  · rw [hp.mem_iff, ← hf x, has_eq, List.any_eq_true, List.mem_map]
    constructor
    · rintro ⟨p, hp', rfl⟩
      obtain ⟨a, ha⟩ := hk p hp'
      exact ⟨p, hp', by rw [ha]; simp [Lit.sameKey, Go.intOf]⟩
    · rintro ⟨p, hp', hs⟩
      obtain ⟨a, ha⟩ := hk p hp'
      rw [ha] at hs
      exact ⟨p, hp', by rw [ha]; simpa [Lit.sameKey, Go.intOf] using hs⟩
theorem sortedDev_in {R : ElemR} (b nn : Nat) (f : Int → Option (DataW Unit)) (w : World) (h : IMap w R b nn f) (hnn : nn ≤ 1099511627776) :
    CallsIn Fence.wide 5 Tryz.prog 119 #[.func (.func 191) #[] #[.pointer (some ⟨w.heap.size, 0, none⟩)]] (w.alloc (.cells #[.map (some b)] 105)) fun e w' => ∃ (v : Value) (ss : List Int), e = .returned v ∧ KeysOf f ss ∧
      w'.ownsRow (w.alloc (.cells #[.map (some b)] 105)).heap.size 3 1 v ss.length (ss.map encZ) ∧ Below (w.alloc (.cells #[.map (some b)] 105)).heap.size (w.alloc (.cells #[.map (some b)] 105)) w' := by
  obtain ⟨D, hown, hf⟩ := h
  have hbl := hown.lt
  have hsz := hown.size_le
  have hseq : SeqGives Fence.wide 2 Tryz.prog 191 #[.pointer (some ⟨w.heap.size, 0, none⟩)] encZ (fun ss => ss.Perm (intKeys D)) (Maps.size D) (w.alloc (.cells #[.map (some b)] 105)) :=
    AnyZI.keys_gives (ρ := Tryz.keysDev_ren) { Tryz.keysDev with } Fence.wide _ trivial rfl (by omega) w.heap.size b nn D _ (by simp) (by simp) (by
      obtain ⟨es, clock, hb, Ft, hs, hD⟩ := hown
      exact ⟨es, clock, (Below.heap_alloc _ _ b hbl).trans hb, Ft, hs, hD⟩)
  have cS := AnyZI.sorted_in Tryz.sortedInt Fence.wide 5 trivial trivial trivial trivial rfl (by omega) (sortsInt _) (enters_of Tryz.func161 (by kernel_rfl) rfl) 191 #[.pointer (some ⟨w.heap.size, 0, none⟩)] trivial (enters_of Tryz.func191 (by kernel_rfl) rfl) _ _ (by unfold maxLen; omega) (by omega) _ hseq
  refine CallsIn.mono cS ?_
  rintro e w' ⟨v, ss, rfl, hp, hrow, _, hb⟩
  refine ⟨v, ss.mergeSort (fun x y => decide (x ≤ y)), rfl, keysOf_mem hown (fun x => (hf x).1) ((List.mergeSort_perm _ _).trans hp), ?_, hb⟩
  rw [List.length_mergeSort]
  exact hrow
end Go.Proofs.YtpnfkilfgdnogaaGreatDoor.Dev
