/- A map whose keys are ints, as a function: how it is read, what a store, a deletion and a new map leave. General; for whatever element type, by how an element reads. -/
import Derived.Test.YtpnfkilfgdnogaaGreatDoorBoxes
import Derived.Maps.OwnSet
import Derived.Maps.OwnOps
import Derived.Maps.Views
import Derived.Lib.SlKeysI
namespace Go.Proofs.YtpnfkilfgdnogaaGreatDoor
set_option linter.unusedVariables false
open Go.RowKit Go.Shelf Go.Maps
abbrev ElemR := Value → Option (DataW Unit × List MemPlace)
def IMap (W : World) (R : ElemR) (b nn : Nat) (f : Int → Option (DataW Unit)) : Prop :=
  ∃ D, W.ownsMap Tryz.prog 3 R b nn D ∧ ∀ x : Int, has D (.int .i64 x) = (f x).isSome ∧ ∀ z, D.atKey (.int .i64 x) z = (f x).getD z
section
variable {W W' : World} {R : ElemR} {b nn : Nat} {f : Int → Option (DataW Unit)}
theorem IMap.lt (h : IMap W R b nn f) : b < W.heap.size := by obtain ⟨D, h1, _⟩ := h; exact h1.lt
theorem IMap.kept {row : Option Nat} (h : IMap W R b nn f) (hg : W.grownBy W' row) (hne : some b ≠ row) : IMap W' R b nn f := by
  obtain ⟨D, h1, h2⟩ := h
  exact ⟨D, h1.kept hg hne, h2⟩
theorem IMap.block (h : IMap W R b nn f) (hb : W'.heap[b]? = W.heap[b]?) : IMap W' R b nn f := by
  obtain ⟨D, ⟨es, clock, h1, r⟩, h2⟩ := h
  exact ⟨D, ⟨es, clock, hb.trans h1, r⟩, h2⟩
theorem IMap.below {n : Nat} (h : IMap W R b nn f) (hn : b < n) (hb : Below n W W') : IMap W' R b nn f := h.block (hb.block b hn)
theorem IMap.later (h : IMap W R b nn f) (hb : Below W.heap.size W W') : IMap W' R b nn f := h.below h.lt hb
theorem IMap.alloc (h : IMap W R b nn f) (o : Obj) : IMap (W.alloc o) R b nn f := h.later ((Below.refl _ _).alloc (Nat.le_refl _) o)
theorem IMap.drew (h : IMap W R b nn f) : IMap W.drew R b nn f := h
theorem IMap.other (h : IMap W R b nn f) {c i : Nat} (v : Value) (hc : b ≠ c) : IMap (W.setCell ⟨c, i, none⟩ v) R b nn f := h.block (heap_setCell_other W ⟨c, i, none⟩ b v hc)
theorem IMap.isMap (h : IMap W R b nn f) : ∃ es clock, W.heap[b]? = some (.map es clock) := by
  obtain ⟨D, ⟨es, clock, h1, _⟩, _⟩ := h
  exact ⟨es, clock, h1⟩
theorem IMap.ne (h : IMap W R b nn f) {c : Nat} {t : TypeId} {cs : Array Value} {fr : Nat × Nat} (hc : W.heap[c]? = some (.cells cs t fr)) : c ≠ b := fun e => by
  obtain ⟨es, clock, h1⟩ := h.isMap
  subst e
  rw [hc] at h1
  cases h1
theorem IMap.new (W : World) (R : ElemR) : IMap (W.alloc (.map #[] 0)) R W.heap.size 0 (fun _ => none) := ⟨.map [], World.ownsMap_made _ _ _ _, fun x => ⟨rfl, fun z => rfl⟩⟩
theorem IMap.mono (h : IMap W R b nn f) {n' : Nat} (hn : nn ≤ n') : IMap W R b n' f := by
  obtain ⟨D, h1, h2⟩ := h
  exact ⟨D, h1.mono hn, h2⟩
theorem IMap.look_ok (h : IMap W R b nn f) {t e : TypeId} (ht : Tryz.prog.underlying t = some (.map 3 e)) {z : Value} (hz : (zeroValue e).run Tryz.prog W = .ok z W) {zd : DataW Unit} {zp : List MemPlace} (hzd : R z = some (zd, zp))
    (x : Int) (hx : (Lit.int .i64 x).wf = true) : ∃ v ps, (Instr.lookup t (.map (some b)) (.int .i64 x) true).run Tryz.prog W = .ok (.tuple #[v, .bool (f x).isSome]) W ∧ R v = some ((f x).getD zd, ps) := by
  obtain ⟨D, h1, h2⟩ := h
  obtain ⟨v, ps, hrun, hv⟩ := h1.look_ok (Maps.int_keyed Tryz.underlying3) ht hz hzd (Maps.keyOf_int_mk Tryz.underlying3 hx)
  rw [(h2 x).1] at hrun
  rw [(h2 x).2] at hv
  exact ⟨v, ps, hrun, hv⟩
theorem IMap.look (h : IMap W R b nn f) {t e : TypeId} (ht : Tryz.prog.underlying t = some (.map 3 e)) {z : Value} (hz : (zeroValue e).run Tryz.prog W = .ok z W) {zd : DataW Unit} {zp : List MemPlace} (hzd : R z = some (zd, zp))
    (x : Int) (hx : (Lit.int .i64 x).wf = true) : ∃ v ps, (Instr.lookup t (.map (some b)) (.int .i64 x) false).run Tryz.prog W = .ok v W ∧ R v = some ((f x).getD zd, ps) := by
  obtain ⟨D, h1, h2⟩ := h
  obtain ⟨v, ps, hrun, hv⟩ := h1.lookup (Maps.int_keyed Tryz.underlying3) ht hz hzd (Maps.keyOf_int_mk Tryz.underlying3 hx)
  rw [(h2 x).2] at hv
  exact ⟨v, ps, hrun, hv⟩
def putF (f : Int → Option (DataW Unit)) (x : Int) (d : DataW Unit) : Int → Option (DataW Unit) := fun y => if y = x then some d else f y
def delF (f : Int → Option (DataW Unit)) (x : Int) : Int → Option (DataW Unit) := fun y => if y = x then none else f y
theorem lit_ne {x y : Int} (h : y ≠ x) : (Lit.int .i64 y) ≠ .int .i64 x := fun e => h (by cases e; rfl)
theorem IMap.put (h : IMap W R b nn f) {t e : TypeId} (ht : Tryz.prog.underlying t = some (.map 3 e)) (hn : nn < maxLen) (x : Int) (hx : (Lit.int .i64 x).wf = true) {val : Value} {d : DataW Unit} {ps : List MemPlace} (hv : R val = some (d, ps)) :
    ∃ W', (Instr.mapUpdate t (.map (some b)) (.int .i64 x) val).run Tryz.prog W = .ok () W' ∧ IMap W' R b (nn + 1) (putF f x d) ∧ W.mapTurned W' b := by
  obtain ⟨D, h1, h2⟩ := h
  obtain ⟨W', hrun, r1, r2⟩ := h1.store (Maps.int_keyed Tryz.underlying3) ht hn (Maps.keyOf_int_mk Tryz.underlying3 hx) hv
  refine ⟨W', hrun, ⟨_, r1, fun y => ?_⟩, r2⟩
  unfold putF
  by_cases hy : y = x
  · subst hy
    rw [if_pos rfl]
    exact ⟨Maps.has_put_same h1.isMap (show WideAt.IsKeyLit (.int .i64 y) from trivial) _, fun z => Maps.atKey_put_same h1.isMap (show WideAt.IsKeyLit (.int .i64 y) from trivial) _ _⟩
  · rw [if_neg hy, Maps.has_put_other (lit_ne hy)]
    exact ⟨(h2 y).1, fun z => by rw [Maps.atKey_put_other (lit_ne hy)]; exact (h2 y).2 z⟩
theorem IMap.del (h : IMap W R b nn f) {t e : TypeId} (ht : Tryz.prog.underlying t = some (.map 3 e)) (x : Int) (hx : (Lit.int .i64 x).wf = true) (ty : TypeId) :
    ∃ W', (Builtin.delete_ #[t, 3] ty #[.map (some b), .int .i64 x]).run Tryz.prog W = .ok (.tuple #[]) W' ∧ IMap W' R b nn (delF f x) ∧ W.mapTurned W' b := by
  obtain ⟨D, h1, h2⟩ := h
  obtain ⟨W', hrun, r1, r2⟩ := h1.drop (Maps.int_keyed Tryz.underlying3) ht (Maps.keyOf_int_mk Tryz.underlying3 hx) ty
  refine ⟨W', hrun, ⟨_, r1, fun y => ?_⟩, r2⟩
  unfold delF
  by_cases hy : y = x
  · subst hy
    rw [if_pos rfl, Maps.has_del_same]
    exact ⟨rfl, fun z => Maps.atKey_del_same z⟩
  · rw [if_neg hy, Maps.has_del_other (lit_ne hy)]
    exact ⟨(h2 y).1, fun z => by rw [Maps.atKey_del_other (lit_ne hy)]; exact (h2 y).2 z⟩
end
end Go.Proofs.YtpnfkilfgdnogaaGreatDoor
