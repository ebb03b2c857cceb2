/- What check.Check finds, plain: faults as lists; how often each was met. -/
import Derived.Test.YtpnfkilfgdnogaaGreatDoorIMaps
import Derived.Maps.OwnSet
import Derived.Maps.OwnOps
import Derived.Maps.Views
import Derived.Lib.SlKeysI
import Derived.Test.YtpnfkilfgdnogaaGreatDoorDirList
import Derived.Test.YtpnfkilfgdnogaaGreatDoorBmM
section
namespace Go.Proofs.YtpnfkilfgdnogaaGreatDoor
set_option linter.unusedVariables false
open Go.RowKit Go.Shelf Go.Maps
def KMap (kt : TypeId) (kd : IntKind) (W : World) (R : ElemR) (b nn : Nat) (f : Int → Option (DataW Unit)) : Prop :=
  ∃ D, W.ownsMap Tryz.prog kt R b nn D ∧ ∀ x : Int, has D (.int kd x) = (f x).isSome ∧ ∀ z, D.atKey (.int kd x) z = (f x).getD z
section
variable {kt : TypeId} {kd : IntKind} {W W' : World} {R : ElemR} {b nn : Nat} {f : Int → Option (DataW Unit)}
theorem KMap.lt (h : KMap kt kd W R b nn f) : b < W.heap.size := by obtain ⟨D, h1, _⟩ := h; exact h1.lt
theorem KMap.kept {row : Option Nat} (h : KMap kt kd W R b nn f) (hg : W.grownBy W' row) (hne : some b ≠ row) : KMap kt kd W' R b nn f := by
  obtain ⟨D, h1, h2⟩ := h
  exact ⟨D, h1.kept hg hne, h2⟩
theorem KMap.block (h : KMap kt kd W R b nn f) (hb : W'.heap[b]? = W.heap[b]?) : KMap kt kd W' R b nn f := by
  obtain ⟨D, ⟨es, clock, h1, r⟩, h2⟩ := h
  exact ⟨D, ⟨es, clock, hb.trans h1, r⟩, h2⟩
theorem KMap.below {n : Nat} (h : KMap kt kd W R b nn f) (hn : b < n) (hb : Below n W W') : KMap kt kd W' R b nn f := h.block (hb.block b hn)
theorem KMap.later (h : KMap kt kd W R b nn f) (hb : Below W.heap.size W W') : KMap kt kd W' R b nn f := h.below h.lt hb
theorem KMap.alloc (h : KMap kt kd W R b nn f) (o : Obj) : KMap kt kd (W.alloc o) R b nn f := h.later ((Below.refl _ _).alloc (Nat.le_refl _) o)
theorem KMap.drew (h : KMap kt kd W R b nn f) : KMap kt kd W.drew R b nn f := h
theorem KMap.other (h : KMap kt kd W R b nn f) {c i : Nat} (v : Value) (hc : b ≠ c) : KMap kt kd (W.setCell ⟨c, i, none⟩ v) R b nn f := h.block (heap_setCell_other W ⟨c, i, none⟩ b v hc)
theorem KMap.isMap (h : KMap kt kd W R b nn f) : ∃ es clock, W.heap[b]? = some (.map es clock) := by
  obtain ⟨D, ⟨es, clock, h1, _⟩, _⟩ := h
  exact ⟨es, clock, h1⟩
theorem KMap.ne (h : KMap kt kd W R b nn f) {c : Nat} {t : TypeId} {cs : Array Value} {fr : Nat × Nat} (hc : W.heap[c]? = some (.cells cs t fr)) : c ≠ b := fun e => by
  obtain ⟨es, clock, h1⟩ := h.isMap
  subst e
  rw [hc] at h1
  cases h1
theorem KMap.new (kt : TypeId) (kd : IntKind) (W : World) (R : ElemR) : KMap kt kd (W.alloc (.map #[] 0)) R W.heap.size 0 (fun _ => none) := ⟨.map [], World.ownsMap_made _ _ _ _, fun x => ⟨rfl, fun z => rfl⟩⟩
theorem KMap.mono (h : KMap kt kd W R b nn f) {n' : Nat} (hn : nn ≤ n') : KMap kt kd W R b n' f := by
  obtain ⟨D, h1, h2⟩ := h
  exact ⟨D, h1.mono hn, h2⟩
theorem KMap.look_ok (hk : Tryz.prog.underlying kt = some (.int kd)) (h : KMap kt kd W R b nn f) {t e : TypeId} (ht : Tryz.prog.underlying t = some (.map kt e)) {z : Value} (hz : (zeroValue e).run Tryz.prog W = .ok z W) {zd : DataW Unit} {zp : List MemPlace} (hzd : R z = some (zd, zp))
    (x : Int) (hx : (Lit.int kd x).wf = true) : ∃ v ps, (Instr.lookup t (.map (some b)) (.int kd x) true).run Tryz.prog W = .ok (.tuple #[v, .bool (f x).isSome]) W ∧ R v = some ((f x).getD zd, ps) := by
  obtain ⟨D, h1, h2⟩ := h
  obtain ⟨v, ps, hrun, hv⟩ := h1.look_ok (Maps.int_keyed hk) ht hz hzd (Maps.keyOf_int_mk hk hx)
  rw [(h2 x).1] at hrun
  rw [(h2 x).2] at hv
  exact ⟨v, ps, hrun, hv⟩
theorem KMap.look (hk : Tryz.prog.underlying kt = some (.int kd)) (h : KMap kt kd W R b nn f) {t e : TypeId} (ht : Tryz.prog.underlying t = some (.map kt e)) {z : Value} (hz : (zeroValue e).run Tryz.prog W = .ok z W) {zd : DataW Unit} {zp : List MemPlace} (hzd : R z = some (zd, zp))
    (x : Int) (hx : (Lit.int kd x).wf = true) : ∃ v ps, (Instr.lookup t (.map (some b)) (.int kd x) false).run Tryz.prog W = .ok v W ∧ R v = some ((f x).getD zd, ps) := by
  obtain ⟨D, h1, h2⟩ := h
  obtain ⟨v, ps, hrun, hv⟩ := h1.lookup (Maps.int_keyed hk) ht hz hzd (Maps.keyOf_int_mk hk hx)
  rw [(h2 x).2] at hv
  exact ⟨v, ps, hrun, hv⟩
def putK (f : Int → Option (DataW Unit)) (x : Int) (d : DataW Unit) : Int → Option (DataW Unit) := fun y => if y = x then some d else f y
theorem litK_ne {kd : IntKind} {x y : Int} (h : y ≠ x) : (Lit.int kd y) ≠ .int kd x := fun e => h (by cases e; rfl)
theorem KMap.put (hk : Tryz.prog.underlying kt = some (.int kd)) (h : KMap kt kd W R b nn f) {t e : TypeId} (ht : Tryz.prog.underlying t = some (.map kt e)) (hn : nn < maxLen) (x : Int) (hx : (Lit.int kd x).wf = true) {val : Value} {d : DataW Unit} {ps : List MemPlace} (hv : R val = some (d, ps)) :
    ∃ W', (Instr.mapUpdate t (.map (some b)) (.int kd x) val).run Tryz.prog W = .ok () W' ∧ KMap kt kd W' R b (nn + 1) (putK f x d) ∧ W.mapTurned W' b := by
  obtain ⟨D, h1, h2⟩ := h
  obtain ⟨W', hrun, r1, r2⟩ := h1.store (Maps.int_keyed hk) ht hn (Maps.keyOf_int_mk hk hx) hv
  refine ⟨W', hrun, ⟨_, r1, fun y => ?_⟩, r2⟩
  unfold putK
  by_cases hy : y = x
  · subst hy
    rw [if_pos rfl]
    exact ⟨Maps.has_put_same h1.isMap (show WideAt.IsKeyLit (.int kd y) from trivial) _, fun z => Maps.atKey_put_same h1.isMap (show WideAt.IsKeyLit (.int kd y) from trivial) _ _⟩
  · rw [if_neg hy, Maps.has_put_other (litK_ne hy)]
    exact ⟨(h2 y).1, fun z => by rw [Maps.atKey_put_other (litK_ne hy)]; exact (h2 y).2 z⟩
end
end Go.Proofs.YtpnfkilfgdnogaaGreatDoor
end
section
namespace Go.Proofs.YtpnfkilfgdnogaaGreatDoor.Ck
set_option linter.unusedVariables false
open Go.RowKit Go.Shelf Go.Maps
def metD (n k : Int) : DataW Unit := .agg [.lit (.int .i64 n), .lit (.int .u32 k)]
def metR : ElemR := fun v => match v with
  | .agg cs => match cs.toList with
    | [.int .i64 n, .int .u32 k] => some (metD n k, [])
    | _ => none
  | _ => none
theorem metR_mk (n k : Int) : metR (.agg #[.int .i64 n, .int .u32 k]) = some (metD n k, []) := rfl
theorem metR_inv {v : Value} {n k : Int} {ps : List MemPlace} (h : metR v = some (metD n k, ps)) : v = .agg #[.int .i64 n, .int .u32 k] := by
  unfold metR at h
  split at h
  · rename_i cs
    split at h
    · rename_i a b hl
      simp only [metD, Option.some.injEq, Prod.mk.injEq, DataW.agg.injEq, List.cons.injEq, DataW.lit.injEq, Lit.int.injEq, true_and, and_true] at h
      obtain ⟨⟨rfl, rfl⟩, _⟩ := h
      congr 1
      exact Array.toList_inj.1 hl
    · cases h
  · cases h
def MMap (kt : TypeId) (kd : IntKind) (W : World) (b nn : Nat) (g : Int → Int × Int) : Prop :=
  ∃ f, KMap kt kd W metR b nn f ∧ ∀ x, (f x).getD (metD 0 0) = metD (g x).1 (g x).2
section
variable {kt : TypeId} {kd : IntKind} {W W' : World} {b nn : Nat} {g : Int → Int × Int}
theorem MMap.lt (h : MMap kt kd W b nn g) : b < W.heap.size := by obtain ⟨f, h1, _⟩ := h; exact h1.lt
theorem MMap.kept {row : Option Nat} (h : MMap kt kd W b nn g) (hg : W.grownBy W' row) (hne : some b ≠ row) : MMap kt kd W' b nn g := by
  obtain ⟨f, h1, h2⟩ := h
  exact ⟨f, h1.kept hg hne, h2⟩
theorem MMap.block (h : MMap kt kd W b nn g) (hb : W'.heap[b]? = W.heap[b]?) : MMap kt kd W' b nn g := by
  obtain ⟨f, h1, h2⟩ := h
  exact ⟨f, h1.block hb, h2⟩
theorem MMap.later (h : MMap kt kd W b nn g) (hb : Below W.heap.size W W') : MMap kt kd W' b nn g := h.block (hb.block b h.lt)
theorem MMap.alloc (h : MMap kt kd W b nn g) (o : Obj) : MMap kt kd (W.alloc o) b nn g := h.later ((Below.refl _ _).alloc (Nat.le_refl _) o)
theorem MMap.mono (h : MMap kt kd W b nn g) {n' : Nat} (hn : nn ≤ n') : MMap kt kd W b n' g := by
  obtain ⟨f, h1, h2⟩ := h
  exact ⟨f, h1.mono hn, h2⟩
theorem MMap.new (kt : TypeId) (kd : IntKind) (W : World) : MMap kt kd (W.alloc (.map #[] 0)) W.heap.size 0 (fun _ => (0, 0)) := ⟨_, KMap.new kt kd W metR, fun _ => rfl⟩
theorem MMap.isMap (h : MMap kt kd W b nn g) : ∃ es clock, W.heap[b]? = some (.map es clock) := by
  obtain ⟨f, h1, h2⟩ := h
  exact h1.isMap
theorem MMap.look (hk : Tryz.prog.underlying kt = some (.int kd)) {t e : TypeId} (ht : Tryz.prog.underlying t = some (.map kt e)) (hz : (zeroValue e).run Tryz.prog W = .ok (.agg #[.int .i64 0, .int .u32 0]) W) (h : MMap kt kd W b nn g) (x : Int) (hx : (Lit.int kd x).wf = true) :
    (Instr.lookup t (.map (some b)) (.int kd x) false).run Tryz.prog W = .ok (.agg #[.int .i64 (g x).1, .int .u32 (g x).2]) W := by
  obtain ⟨f, h1, h2⟩ := h
  obtain ⟨v, ps, hrun, hv⟩ := h1.look hk ht hz (metR_mk 0 0) x hx
  rw [h2] at hv
  rw [hrun, metR_inv hv]
def putM (g : Int → Int × Int) (x n k : Int) : Int → Int × Int := fun y => if y = x then (n, k) else g y
theorem MMap.put (hk : Tryz.prog.underlying kt = some (.int kd)) {t e : TypeId} (ht : Tryz.prog.underlying t = some (.map kt e)) (h : MMap kt kd W b nn g) (hn : nn < maxLen) (x : Int) (hx : (Lit.int kd x).wf = true) (n k : Int) :
    ∃ W', (Instr.mapUpdate t (.map (some b)) (.int kd x) (.agg #[.int .i64 n, .int .u32 k])).run Tryz.prog W = .ok () W' ∧ MMap kt kd W' b (nn + 1) (putM g x n k) ∧ W.mapTurned W' b := by
  obtain ⟨f, h1, h2⟩ := h
  obtain ⟨W', hrun, r1, r2⟩ := h1.put hk ht hn x hx (metR_mk n k)
  refine ⟨W', hrun, ⟨_, r1, fun y => ?_⟩, r2⟩
  unfold putK putM
  by_cases hy : y = x
  · rw [if_pos hy, if_pos hy]
    rfl
  · rw [if_neg hy, if_neg hy]
    exact h2 y
end
theorem under_u16 : Tryz.prog.underlying 39 = some (.int .u16) := by kernel_rfl
theorem under_u32 : Tryz.prog.underlying 40 = some (.int .u32) := by kernel_rfl
theorem under_met : Tryz.prog.underlying 157 = some (.map 40 231) := by kernel_rfl
theorem under_blk : Tryz.prog.underlying 158 = some (.map 39 231) := by kernel_rfl
theorem zero_met (w : World) : (zeroValue 231).run Tryz.prog w = .ok (.agg #[.int .i64 0, .int .u32 0]) w := by kernel_rfl
end Go.Proofs.YtpnfkilfgdnogaaGreatDoor.Ck
end
section
namespace Go.Proofs.YtpnfkilfgdnogaaGreatDoor.Ck
set_option linter.unusedVariables false
open Go.RowKit Go.Shelf Go.Maps
def yesD (t : Bool) : DataW Unit := .agg [.lit (.bool t)]
def yesR : ElemR := fun v => match v with
  | .agg cs => match cs.toList with
    | [.bool t] => some (yesD t, [])
    | _ => none
  | _ => none
theorem yesR_mk (t : Bool) : yesR (.agg #[.bool t]) = some (yesD t, []) := rfl
theorem yesR_inv {v : Value} {t : Bool} {ps : List MemPlace} (h : yesR v = some (yesD t, ps)) : v = .agg #[.bool t] := by
  unfold yesR at h
  split at h
  · rename_i cs
    split at h
    · rename_i a hl
      simp only [yesD, Option.some.injEq, Prod.mk.injEq, DataW.agg.injEq, List.cons.injEq, DataW.lit.injEq, Lit.bool.injEq, and_true] at h
      obtain ⟨rfl, _⟩ := h
      congr 1
      exact Array.toList_inj.1 hl
    · cases h
  · cases h
def YMap (W : World) (b nn : Nat) (g : Int → Bool) : Prop :=
  ∃ f, KMap 40 .u32 W yesR b nn f ∧ ∀ x, (f x).getD (yesD false) = yesD (g x)
section
variable {W W' : World} {b nn : Nat} {g : Int → Bool}
theorem YMap.lt (h : YMap W b nn g) : b < W.heap.size := by obtain ⟨f, h1, _⟩ := h; exact h1.lt
theorem YMap.kept {row : Option Nat} (h : YMap W b nn g) (hg : W.grownBy W' row) (hne : some b ≠ row) : YMap W' b nn g := by
  obtain ⟨f, h1, h2⟩ := h
  exact ⟨f, h1.kept hg hne, h2⟩
theorem YMap.block (h : YMap W b nn g) (hb : W'.heap[b]? = W.heap[b]?) : YMap W' b nn g := by
  obtain ⟨f, h1, h2⟩ := h
  exact ⟨f, h1.block hb, h2⟩
theorem YMap.later (h : YMap W b nn g) (hb : Below W.heap.size W W') : YMap W' b nn g := h.block (hb.block b h.lt)
theorem YMap.alloc (h : YMap W b nn g) (o : Obj) : YMap (W.alloc o) b nn g := h.later ((Below.refl _ _).alloc (Nat.le_refl _) o)
theorem YMap.mono (h : YMap W b nn g) {n' : Nat} (hn : nn ≤ n') : YMap W b n' g := by
  obtain ⟨f, h1, h2⟩ := h
  exact ⟨f, h1.mono hn, h2⟩
theorem YMap.new (W : World) : YMap (W.alloc (.map #[] 0)) W.heap.size 0 (fun _ => false) := ⟨_, KMap.new 40 .u32 W yesR, fun _ => rfl⟩
theorem YMap.isMap (h : YMap W b nn g) : ∃ es clock, W.heap[b]? = some (.map es clock) := by
  obtain ⟨f, h1, h2⟩ := h
  exact h1.isMap
theorem under_yes : Tryz.prog.underlying 232 = some (.map 40 235) := by kernel_rfl
theorem zero_yes (w : World) : (zeroValue 235).run Tryz.prog w = .ok (.agg #[.bool false]) w := by kernel_rfl
theorem YMap.look (h : YMap W b nn g) (x : Int) (hx : (Lit.int .u32 x).wf = true) :
    (Instr.lookup 232 (.map (some b)) (.int .u32 x) false).run Tryz.prog W = .ok (.agg #[.bool (g x)]) W := by
  obtain ⟨f, h1, h2⟩ := h
  obtain ⟨v, ps, hrun, hv⟩ := h1.look under_u32 under_yes (zero_yes W) (yesR_mk false) x hx
  rw [h2] at hv
  rw [hrun, yesR_inv hv]
theorem YMap.put (h : YMap W b nn g) (hn : nn < maxLen) (x : Int) (hx : (Lit.int .u32 x).wf = true) :
    ∃ W', (Instr.mapUpdate 232 (.map (some b)) (.int .u32 x) (.agg #[.bool true])).run Tryz.prog W = .ok () W' ∧ YMap W' b (nn + 1) (fun y => if y = x then true else g y) ∧ W.mapTurned W' b := by
  obtain ⟨f, h1, h2⟩ := h
  obtain ⟨W', hrun, r1, r2⟩ := h1.put under_u32 under_yes hn x hx (yesR_mk true)
  refine ⟨W', hrun, ⟨_, r1, fun y => ?_⟩, r2⟩
  unfold putK
  by_cases hy : y = x
  · rw [if_pos hy]
    show yesD true = yesD (if y = x then true else g y)
    rw [if_pos hy]
  · rw [if_neg hy]
    show _ = yesD (if y = x then true else g y)
    rw [if_neg hy]
    exact h2 y
end
end Go.Proofs.YtpnfkilfgdnogaaGreatDoor.Ck
end
section
namespace Go.Proofs.YtpnfkilfgdnogaaGreatDoor.Img
set_option linter.unusedVariables false
set_option linter.unusedSimpArgs false
open Go.RowKit Go.Shelf Go.Maps Oct Dev Jou Tx Geo Ino Bm Dir Ck
def seenC (t : Bool) (x : InoT) (vb ve : Value) (bad odd : Bool) : List Value := [.bool t, .int .u8 x.kind, .int .u16 x.links, .int .u32 x.size, .int .u16 x.d0, .int .u16 x.d1, .int .u16 x.d2, .int .u16 x.d3, .int .u16 x.ind, vb, ve, .bool bad, .bool odd]
def seenV (t : Bool) (x : InoT) (vb ve : Value) (bad odd : Bool) : Value := .agg #[.bool t, .int .u8 x.kind, .int .u16 x.links, .int .u32 x.size, .int .u16 x.d0, .int .u16 x.d1, .int .u16 x.d2, .int .u16 x.d3, .int .u16 x.ind, vb, ve, .bool bad, .bool odd]
def fillS (W : World) (n : Nat) (v0 v1 v2 v3 v4 v5 v6 v7 v8 v9 v10 v11 v12 : Value) : World := ((((((((((((W.setCell ⟨n, 0, none⟩ v0).setCell ⟨n, 1, none⟩ v1).setCell ⟨n, 2, none⟩ v2).setCell ⟨n, 3, none⟩ v3).setCell ⟨n, 4, none⟩ v4).setCell ⟨n, 5, none⟩ v5).setCell ⟨n, 6, none⟩ v6).setCell ⟨n, 7, none⟩ v7).setCell ⟨n, 8, none⟩ v8).setCell ⟨n, 9, none⟩ v9).setCell ⟨n, 10, none⟩ v10).setCell ⟨n, 11, none⟩ v11).setCell ⟨n, 12, none⟩ v12
theorem fill13 {W : World} {n : Nat} {t : TypeId} {a0 a1 a2 a3 a4 a5 a6 a7 a8 a9 a10 a11 a12 : Value} (h : SBox W n t #[a0, a1, a2, a3, a4, a5, a6, a7, a8, a9, a10, a11, a12]) (v0 v1 v2 v3 v4 v5 v6 v7 v8 v9 v10 v11 v12 : Value) : SBox (fillS W n v0 v1 v2 v3 v4 v5 v6 v7 v8 v9 v10 v11 v12) n t #[v0, v1, v2, v3, v4, v5, v6, v7, v8, v9, v10, v11, v12] := by
  have h0 := ((((((((((((h.set 0 v0).set 1 v1).set 2 v2).set 3 v3).set 4 v4).set 5 v5).set 6 v6).set 7 v7).set 8 v8).set 9 v9).set 10 v10).set 11 v11).set 12 v12
  simp only [List.setIfInBounds_toArray, List.set_cons_zero, List.set_cons_succ] at h0
  exact h0
theorem fillS_below {w W : World} {b n : Nat} {v0 v1 v2 v3 v4 v5 v6 v7 v8 v9 v10 v11 v12 : Value} (h : Below b w W) (hn : b ≤ n) : Below b w (fillS W n v0 v1 v2 v3 v4 v5 v6 v7 v8 v9 v10 v11 v12) := by
  unfold fillS
  repeat (refine Below.setCell ?_ hn _)
  exact h
theorem fillS_own {W : World} {base m size n : Nat} {e : TypeId} {v v0 v1 v2 v3 v4 v5 v6 v7 v8 v9 v10 v11 v12 : Value} {xs : List Value} (ho : W.ownsRow base e size v m xs) (hb : n < base) : (fillS W n v0 v1 v2 v3 v4 v5 v6 v7 v8 v9 v10 v11 v12).ownsRow base e size v m xs := by
  have k : ∀ (X : World) (i : Nat) (u : Value), X.ownsRow base e size v m xs → (X.setCell ⟨n, i, none⟩ u).ownsRow base e size v m xs := fun X i u h => ownsRow_setCell_below h (a := ⟨n, i, none⟩) hb u
  unfold fillS
  exact k _ _ _ (k _ _ _ (k _ _ _ (k _ _ _ (k _ _ _ (k _ _ _ (k _ _ _ (k _ _ _ (k _ _ _ (k _ _ _ (k _ _ _ (k _ _ _ (k _ _ _ (ho)))))))))))))
def OwnE (B : Nat) (es : List Ent) (v : Value) (W : World) : Prop := W.ownsRow B 216 2 v es.length (entCells es)
structure Sn where
  t : Bool
  x : InoT
  vb : Value
  ve : Value
  bad : Bool
  bs : List Nat
  es : List Ent
def Sn.cells (s : Sn) : List Value := seenC s.t s.x s.vb s.ve s.bad false
def Sn.val (s : Sn) : Value := seenV s.t s.x s.vb s.ve s.bad false
def noSn : Sn := ⟨false, noIno, .slice none 0 0, .slice none 0 0, false, [], []⟩
def snCells (l : List Sn) : List Value := l.flatMap Sn.cells
theorem snCells_get : ∀ (l : List Sn) (k : Nat) (h : k < l.length) (j : Nat) (hj : j < 13), (snCells l)[k * 13 + j]? = (l[k]'h).cells[j]?
  | s :: r, 0, h, j, hj => by
    show (s.cells ++ snCells r)[0 * 13 + j]? = s.cells[j]?
    rw [List.getElem?_append_left (by show 0 * 13 + j < 13; omega)]
    congr 1
    omega
  | s :: r, k + 1, h, j, hj => by
    show (s.cells ++ snCells r)[(k + 1) * 13 + j]? = (r[k]'(by simpa using h)).cells[j]?
    rw [← snCells_get r k (by simpa using h) j hj, List.getElem?_append_right (by show 13 ≤ (k + 1) * 13 + j; omega)]
    congr 1
    show (k + 1) * 13 + j - 13 = k * 13 + j
    omega
theorem snCells_snoc (l : List Sn) (s : Sn) : snCells (l ++ [s]) = snCells l ++ s.cells := by simp [snCells]
def snAt (l : List Sn) (n : Nat) : Sn := if n = 0 then noSn else l.getD (n - 1) noSn
theorem snAt_get (l : List Sn) (k : Nat) (h : k < l.length) : snAt l (k + 1) = l[k] := by
  unfold snAt
  rw [if_neg (by omega), Nat.add_sub_cancel]
  simp [List.getD, h]
theorem snAt_no (l : List Sn) (n : Nat) (h : l.length < n) : snAt l n = noSn := by
  unfold snAt
  rw [if_neg (by omega)]
  simp [List.getD, show ¬ n - 1 < l.length by omega]
def AllIs (W : World) (B : Nat) (l : List Sn) (v : Value) : Prop := W.ownsRow B 164 13 v l.length (snCells l) ∧ ∀ s ∈ l, OwnL B s.bs s.vb W ∧ OwnE B s.es s.ve W
def IsMap (W : World) (c : Nat) : Prop := ∃ es cl, W.heap[c]? = some (.map es cl)
theorem row_tch {W W' : World} {B n size : Nat} {e : TypeId} {v : Value} {xs : List Value} {S : Nat → Prop} (h : W.ownsRow B e size v n xs) (t : Tch S W W') (hS : ∀ c, S c → IsMap W c) : W'.ownsRow B e size v n xs := by
  refine ⟨h.1, ?_⟩
  rcases h.2 with h1 | ⟨g, cap, cur, e1, hb, hg, r⟩
  · exact .inl h1
  · refine .inr ⟨g, cap, cur, e1, hb, (t.block g (Array.getElem?_eq_some_iff.1 hg).1 (fun q => ?_)).trans hg, r⟩
    obtain ⟨es, cl, hm⟩ := hS g q
    rw [hg] at hm
    cases hm
theorem sbox_tch {W W' : World} {b : Nat} {t : TypeId} {cs : Array Value} {S : Nat → Prop} (h : SBox W b t cs) (g : Tch S W W') (hS : ∀ c, S c → IsMap W c) : SBox W' b t cs :=
  (g.block b h.lt (fun q => by
    obtain ⟨es, cl, hm⟩ := hS b q
    unfold SBox at h
    rw [h] at hm
    cases hm)).trans h
theorem row_later {W W' : World} {B n size : Nat} {e : TypeId} {v : Value} {xs : List Value} (h : W.ownsRow B e size v n xs) (hb : Below W.heap.size W W') : W'.ownsRow B e size v n xs :=
  row_tch (S := fun _ => False) h (Tch.of_below hb) (fun _ q => q.elim)
theorem AllIs.tch {W W' : World} {B : Nat} {l : List Sn} {v : Value} {S : Nat → Prop} (h : AllIs W B l v) (t : Tch S W W') (hS : ∀ c, S c → IsMap W c) : AllIs W' B l v :=
  ⟨row_tch h.1 t hS, fun s hs => ⟨row_tch (h.2 s hs).1 t hS, row_tch (h.2 s hs).2 t hS⟩⟩
theorem AllIs.later {W W' : World} {B : Nat} {l : List Sn} {v : Value} (h : AllIs W B l v) (hb : Below W.heap.size W W') : AllIs W' B l v := h.tch (S := fun _ => False) (Tch.of_below hb) (fun _ q => q.elim)
structure CkAt (W : World) (C M gi bl gj : Nat) (v : Value) (mm bm : Nat) (l : List Sn) : Prop where
  box : SBox W C 161 #[.pointer (some ⟨M, 0, none⟩), .int .i64 gi, .int .i64 bl, .int .i64 gj, v, .map (some mm), .map (some bm)]
  all : AllIs W 0 l v
theorem CkAt.tch {W W' : World} {C M gi bl gj mm bm : Nat} {v : Value} {l : List Sn} {S : Nat → Prop} (h : CkAt W C M gi bl gj v mm bm l) (t : Tch S W W') (hS : ∀ c, S c → IsMap W c) : CkAt W' C M gi bl gj v mm bm l := ⟨sbox_tch h.box t hS, h.all.tch t hS⟩
theorem CkAt.later {W W' : World} {C M gi bl gj mm bm : Nat} {v : Value} {l : List Sn} (h : CkAt W C M gi bl gj v mm bm l) (hb : Below W.heap.size W W') : CkAt W' C M gi bl gj v mm bm l := ⟨h.box.later hb, h.all.later hb⟩
theorem row_cell {W : World} {B n size : Nat} {e : TypeId} {v : Value} {xs : List Value} (h : W.ownsRow B e size v n xs) (hn : 0 < n) : ∃ g cap, v = .slice (some ⟨g, 0, none⟩) n cap ∧ g < W.heap.size ∧ ∀ j u, xs[j]? = some u → W.cell? ⟨g, j, none⟩ = some u := by
  rcases h.2 with ⟨_, h0⟩ | ⟨g, cap, cur, rfl, hb, hg, _, _, _, ht⟩
  · omega
  · refine ⟨g, cap, rfl, (Array.getElem?_eq_some_iff.1 hg).1, fun j u hu => ?_⟩
    rw [cell_of_row W g j cur e (0, 0) hg]
    rw [← ht, List.getElem?_take] at hu
    split at hu
    · simpa using hu
    · cases hu
theorem row_slice {W : World} {B n size : Nat} {e : TypeId} {v : Value} {xs : List Value} (h : W.ownsRow B e size v n xs) : ∃ ao cap, v = .slice ao n cap := by
  rcases h.2 with ⟨rfl, h0⟩ | ⟨g, cap, cur, rfl, _⟩
  · exact ⟨none, 0, by rw [h0]⟩
  · exact ⟨_, _, rfl⟩
theorem AllIs.cell {W : World} {B : Nat} {l : List Sn} {v : Value} (h : AllIs W B l v) {k : Nat} (hk : k < l.length) : ∃ g cap, v = .slice (some ⟨g, 0, none⟩) l.length cap ∧ g < W.heap.size ∧ ∀ j u, j < 13 → (l[k]'hk).cells[j]? = some u → W.cell? ⟨g, k * 13 + j, none⟩ = some u := by
  obtain ⟨g, cap, e, hg, hc⟩ := row_cell h.1 (by omega)
  exact ⟨g, cap, e, hg, fun j u hj hu => hc _ u (by rw [snCells_get l k hk j hj]; exact hu)⟩
def fltCells (fs : List (Nat × Nat × Nat)) : List Value := fs.flatMap fun f => [.int .u8 f.1, .int .u32 f.2.1, .int .i64 f.2.2]
def OwnF (B : Nat) (fs : List (Nat × Nat × Nat)) (v : Value) (W : World) : Prop := W.ownsRow B 83 3 v fs.length (fltCells fs)
theorem fltCells_snoc (fs : List (Nat × Nat × Nat)) (f : Nat × Nat × Nat) : fltCells (fs ++ [f]) = fltCells fs ++ [.int .u8 f.1, .int .u32 f.2.1, .int .i64 f.2.2] := by simp [fltCells]
theorem fltCells_app (a b : List (Nat × Nat × Nat)) : fltCells (a ++ b) = fltCells a ++ fltCells b := by simp [fltCells]
theorem info_flt : (Tryz.prog.info? 83).map (fun i => (i.zero, i.size, i.bytes)) = some (some (.agg #[.int .u8 0, .int .u32 0, .int .i64 0]), 3, 16) := by kernel_rfl
theorem info_seen : (Tryz.prog.info? 164).map (fun i => (i.zero, i.size, i.bytes)) = some (some (.agg #[.bool false, .int .u8 0, .int .u16 0, .int .u32 0, .int .u16 0, .int .u16 0, .int .u16 0, .int .u16 0, .int .u16 0, .slice none 0 0, .slice none 0 0, .bool false, .bool false]), 13, 80) := by kernel_rfl
end Go.Proofs.YtpnfkilfgdnogaaGreatDoor.Img
end
section
namespace Go.Proofs.YtpnfkilfgdnogaaGreatDoor.Img
set_option linter.unusedVariables false
open Go.RowKit Go.Shelf Go.Maps Oct Dev Jou Tx Geo Ino Bm Dir
theorem ret13 {P : Program} {fn : Func} {R : Ending → World → Prop} {a : Act} {W : World} {n : Nat} {t : TypeId} {a0 a1 a2 a3 a4 a5 a6 a7 a8 a9 a10 a11 a12 v0 v1 v2 v3 v4 v5 v6 v7 v8 v9 v10 v11 v12 : Value} (h : SBox W n t #[a0, a1, a2, a3, a4, a5, a6, a7, a8, a9, a10, a11, a12])
    (hr : ∀ Wf : World, Wf.cell? ⟨n, 0, none⟩ = some v0 → Wf.cell? ⟨n, 1, none⟩ = some v1 → Wf.cell? ⟨n, 2, none⟩ = some v2 → Wf.cell? ⟨n, 3, none⟩ = some v3 → Wf.cell? ⟨n, 4, none⟩ = some v4 → Wf.cell? ⟨n, 5, none⟩ = some v5 → Wf.cell? ⟨n, 6, none⟩ = some v6 → Wf.cell? ⟨n, 7, none⟩ = some v7 → Wf.cell? ⟨n, 8, none⟩ = some v8 → Wf.cell? ⟨n, 9, none⟩ = some v9 → Wf.cell? ⟨n, 10, none⟩ = some v10 → Wf.cell? ⟨n, 11, none⟩ = some v11 → Wf.cell? ⟨n, 12, none⟩ = some v12 → (results fn a.tmps).run P Wf = .ok (.agg #[v0, v1, v2, v3, v4, v5, v6, v7, v8, v9, v10, v11, v12]) Wf) (hd : a.defers = []) (hR : R (.returned (.agg #[v0, v1, v2, v3, v4, v5, v6, v7, v8, v9, v10, v11, v12])) (fillS W n v0 v1 v2 v3 v4 v5 v6 v7 v8 v9 v10 v11 v12)) : bodyPost P fn R .ret a (fillS W n v0 v1 v2 v3 v4 v5 v6 v7 v8 v9 v10 v11 v12) := by
  have h9 := fill13 h v0 v1 v2 v3 v4 v5 v6 v7 v8 v9 v10 v11 v12
  have k0 := h9.cell 0
  have k1 := h9.cell 1
  have k2 := h9.cell 2
  have k3 := h9.cell 3
  have k4 := h9.cell 4
  have k5 := h9.cell 5
  have k6 := h9.cell 6
  have k7 := h9.cell 7
  have k8 := h9.cell 8
  have k9 := h9.cell 9
  have k10 := h9.cell 10
  have k11 := h9.cell 11
  have k12 := h9.cell 12
  simp only [List.getElem?_toArray, List.getElem?_cons_zero, List.getElem?_cons_succ] at k0 k1 k2 k3 k4 k5 k6 k7 k8 k9 k10 k11 k12
  exact bodyPost_ret (hr _ k0 k1 k2 k3 k4 k5 k6 k7 k8 k9 k10 k11 k12) hd hR
theorem ret13d {P : Program} {fn : Func} {R : Ending → World → Prop} {a : Act} {W : World} {n : Nat} {t : TypeId} {a0 a1 a2 a3 a4 a5 a6 a7 a8 a9 a10 a11 a12 v0 v1 v2 v3 v4 v5 v6 v7 v8 v9 v10 v11 v12 : Value} (h : SBox W n t #[a0, a1, a2, a3, a4, a5, a6, a7, a8, a9, a10, a11, a12])
    (hr : ∀ Wf : World, Wf.cell? ⟨n, 0, none⟩ = some v0 → Wf.cell? ⟨n, 1, none⟩ = some v1 → Wf.cell? ⟨n, 2, none⟩ = some v2 → Wf.cell? ⟨n, 3, none⟩ = some v3 → Wf.cell? ⟨n, 4, none⟩ = some v4 → Wf.cell? ⟨n, 5, none⟩ = some v5 → Wf.cell? ⟨n, 6, none⟩ = some v6 → Wf.cell? ⟨n, 7, none⟩ = some v7 → Wf.cell? ⟨n, 8, none⟩ = some v8 → Wf.cell? ⟨n, 9, none⟩ = some v9 → Wf.cell? ⟨n, 10, none⟩ = some v10 → Wf.cell? ⟨n, 11, none⟩ = some v11 → Wf.cell? ⟨n, 12, none⟩ = some v12 → (results fn a.tmps).run P Wf = .ok (.agg #[v0, v1, v2, v3, v4, v5, v6, v7, v8, v9, v10, v11, v12]) Wf) (hd : a.defers = []) (hR : R (.returned (.agg #[v0, v1, v2, v3, v4, v5, v6, v7, v8, v9, v10, v11, v12])) (fillS W n v0 v1 v2 v3 v4 v5 v6 v7 v8 v9 v10 v11 v12).drew) : bodyPost P fn R .ret a (fillS W n v0 v1 v2 v3 v4 v5 v6 v7 v8 v9 v10 v11 v12).drew := by
  have h9 := SBox.drew (fill13 h v0 v1 v2 v3 v4 v5 v6 v7 v8 v9 v10 v11 v12)
  have k0 := h9.cell 0
  have k1 := h9.cell 1
  have k2 := h9.cell 2
  have k3 := h9.cell 3
  have k4 := h9.cell 4
  have k5 := h9.cell 5
  have k6 := h9.cell 6
  have k7 := h9.cell 7
  have k8 := h9.cell 8
  have k9 := h9.cell 9
  have k10 := h9.cell 10
  have k11 := h9.cell 11
  have k12 := h9.cell 12
  simp only [List.getElem?_toArray, List.getElem?_cons_zero, List.getElem?_cons_succ] at k0 k1 k2 k3 k4 k5 k6 k7 k8 k9 k10 k11 k12
  exact bodyPost_ret (hr _ k0 k1 k2 k3 k4 k5 k6 k7 k8 k9 k10 k11 k12) hd hR
end Go.Proofs.YtpnfkilfgdnogaaGreatDoor.Img
end
section
namespace Go.Proofs.YtpnfkilfgdnogaaGreatDoor.Img
set_option linter.unusedVariables false
set_option linter.unusedSimpArgs false
open Go.RowKit Go.Shelf Go.Maps Oct Dev Jou Tx Geo Ino Bm Dir Ck
set_option maxRecDepth 100000 in
set_option maxHeartbeats 1000000 in
theorem of_is (C M gi bl gj mm bm n : Nat) (v : Value) (l : List Sn) (w : World) (h : CkAt w C M gi bl gj v mm bm l) (hn : n < 4294967296) (hl : l.length ≤ 100) :
    Calls Tryz.prog 138 #[.pointer (some ⟨C, 0, none⟩), .int .u32 n] w fun e w' => e = .returned (snAt l n).val ∧ Below w.heap.size w w' := by
  have hC := h.box
  have e0 : (snAt l 0).val = .agg #[.bool false, .int .u8 0, .int .u16 0, .int .u32 0, .int .u16 0, .int .u16 0, .int .u16 0, .int .u16 0, .int .u16 0, .slice none 0 0, .slice none 0 0, .bool false, .bool false] := rfl
  have e1 : noSn.val = .agg #[.bool false, .int .u8 0, .int .u16 0, .int .u32 0, .int .u16 0, .int .u16 0, .int .u16 0, .int .u16 0, .int .u16 0, .slice none 0 0, .slice none 0 0, .bool false, .bool false] := rfl
  obtain ⟨ao, cap, rfl⟩ := row_slice h.all.1
  have HA := Lib.hid h.all
  have HZ := Lib.hid (SBox.new w 164 #[.bool false, .int .u8 0, .int .u16 0, .int .u32 0, .int .u16 0, .int .u16 0, .int .u16 0, .int .u16 0, .int .u16 0, .slice none 0 0, .slice none 0 0, .bool false, .bool false])
  have HB := Lib.hid ((Below.refl _ w).alloc (Nat.le_refl _) (.cells #[.bool false, .int .u8 0, .int .u16 0, .int .u32 0, .int .u16 0, .int .u16 0, .int .u16 0, .int .u16 0, .int .u16 0, .slice none 0 0, .slice none 0 0, .bool false, .bool false] 164))
  have hC := hC.alloc (.cells #[.bool false, .int .u8 0, .int .u16 0, .int .u32 0, .int .u16 0, .int .u16 0, .int .u16 0, .int .u16 0, .int .u16 0, .slice none 0 0, .slice none 0 0, .bool false, .bool false] 164)
  have hZ := HZ.out
  have C0 := hC.cell 0
  have C1 := hC.cell 1
  have C2 := hC.cell 2
  have C3 := hC.cell 3
  have C4 := hC.cell 4
  have C5 := hC.cell 5
  have C6 := hC.cell 6
  simp only [List.getElem?_toArray, List.getElem?_cons_zero, List.getElem?_cons_succ] at C0 C1 C2 C3 C4 C5 C6
  have Cl := hC.lt
  have Z0 := hZ.cell 0
  have Z1 := hZ.cell 1
  have Z2 := hZ.cell 2
  have Z3 := hZ.cell 3
  have Z4 := hZ.cell 4
  have Z5 := hZ.cell 5
  have Z6 := hZ.cell 6
  have Z7 := hZ.cell 7
  have Z8 := hZ.cell 8
  have Z9 := hZ.cell 9
  have Z10 := hZ.cell 10
  have Z11 := hZ.cell 11
  have Z12 := hZ.cell 12
  simp only [List.getElem?_toArray, List.getElem?_cons_zero, List.getElem?_cons_succ] at Z0 Z1 Z2 Z3 Z4 Z5 Z6 Z7 Z8 Z9 Z10 Z11 Z12
  have Zl := hZ.lt
  have J0 := hZ.free 0
  have J1 := hZ.free 1
  have J2 := hZ.free 2
  have J3 := hZ.free 3
  have J4 := hZ.free 4
  have J5 := hZ.free 5
  have J6 := hZ.free 6
  have J7 := hZ.free 7
  have J8 := hZ.free 8
  have J9 := hZ.free 9
  have J10 := hZ.free 10
  have J11 := hZ.free 11
  have J12 := hZ.free 12
  clear hC hZ h
  by_cases h1 : n < 1
  · obtain rfl : n = 0 := by omega
    rw [e0]
    clear e0 e1
    go_enter Tryz.func138, Tryz.ntmps138
    go_wp2
    exact bodyPost_ret (v := .agg #[.bool false, .int .u8 0, .int .u16 0, .int .u32 0, .int .u16 0, .int .u16 0, .int .u16 0, .int .u16 0, .int .u16 0, .slice none 0 0, .slice none 0 0, .bool false, .bool false]) (by simp [results, Tryz.results138, go_sem, Z0, Z1, Z2, Z3, Z4, Z5, Z6, Z7, Z8, Z9, Z10, Z11, Z12]) rfl ⟨rfl, HB.out⟩
  · by_cases h2 : l.length < n
    · have q1 : ¬ (n : Int) < 1 := by omega
      have q2 : (n : Int) > l.length := by omega
      have hsn := snAt_no l n h2
      rw [hsn, e1]
      clear e0 e1
      clear hsn
      go_enter Tryz.func138, Tryz.ntmps138
      go_wp2
      exact bodyPost_ret (v := .agg #[.bool false, .int .u8 0, .int .u16 0, .int .u32 0, .int .u16 0, .int .u16 0, .int .u16 0, .int .u16 0, .int .u16 0, .slice none 0 0, .slice none 0 0, .bool false, .bool false]) (by simp [results, Tryz.results138, go_sem, Z0, Z1, Z2, Z3, Z4, Z5, Z6, Z7, Z8, Z9, Z10, Z11, Z12]) rfl ⟨rfl, HB.out⟩
    · obtain ⟨m, rfl⟩ : ∃ m, n = m + 1 := ⟨n - 1, by omega⟩
      have hk : m < l.length := by omega
      have q1 : ¬ ((m : Int) + 1 < 1) := by omega
      have q2 : ¬ ((l.length : Int) < (m : Int) + 1) := by omega
      have q3 : (m : Int) < l.length := by omega
      have q4 : (0 : Int) ≤ m := by omega
      obtain ⟨g, cap2, e, hg, hc⟩ := (HA.out.later HB.out).cell hk
      cases e
      rw [snAt_get l m hk]
      obtain ⟨ab, cb, hvb⟩ := row_slice (HA.out.2 l[m] (List.getElem_mem hk)).1
      obtain ⟨ae, ce, hve⟩ := row_slice (HA.out.2 l[m] (List.getElem_mem hk)).2
      clear e0 e1
      generalize l[m] = s at *
      obtain ⟨t, ⟨x0, x1, x2, x3, x4, x5, x6, x7⟩, vb, ve, bad, bs, es⟩ := s
      simp only at hvb hve
      subst hvb hve
      have S0 := hc 0 _ (by decide) rfl
      have S1 := hc 1 _ (by decide) rfl
      have S2 := hc 2 _ (by decide) rfl
      have S3 := hc 3 _ (by decide) rfl
      have S4 := hc 4 _ (by decide) rfl
      have S5 := hc 5 _ (by decide) rfl
      have S6 := hc 6 _ (by decide) rfl
      have S7 := hc 7 _ (by decide) rfl
      have S8 := hc 8 _ (by decide) rfl
      have S9 := hc 9 _ (by decide) rfl
      have S10 := hc 10 _ (by decide) rfl
      have S11 := hc 11 _ (by decide) rfl
      have S12 := hc 12 _ (by decide) rfl
      simp only [Nat.add_zero, Nat.zero_mul, Nat.zero_add] at S0 S1 S2 S3 S4 S5 S6 S7 S8 S9 S10 S11 S12
      unfold Sn.val seenV
      dsimp only
      clear hc Z0 Z1 Z2 Z3 Z4 Z5 Z6 Z7 Z8 Z9 Z10 Z11 Z12
      go_enter Tryz.func138, Tryz.ntmps138
      go_wp2
      have hW := SBox.new w 164 #[.bool t, .int .u8 x0, .int .u16 x1, .int .u32 x2, .int .u16 x3, .int .u16 x4, .int .u16 x5, .int .u16 x6, .int .u16 x7, .slice ab bs.length cb, .slice ae es.length ce, .bool bad, .bool false]
      have K0 := hW.cell 0
      have K1 := hW.cell 1
      have K2 := hW.cell 2
      have K3 := hW.cell 3
      have K4 := hW.cell 4
      have K5 := hW.cell 5
      have K6 := hW.cell 6
      have K7 := hW.cell 7
      have K8 := hW.cell 8
      have K9 := hW.cell 9
      have K10 := hW.cell 10
      have K11 := hW.cell 11
      have K12 := hW.cell 12
      simp only [List.getElem?_toArray, List.getElem?_cons_zero, List.getElem?_cons_succ] at K0 K1 K2 K3 K4 K5 K6 K7 K8 K9 K10 K11 K12
      have Kl := hW.lt
      exact bodyPost_ret (v := .agg #[.bool t, .int .u8 x0, .int .u16 x1, .int .u32 x2, .int .u16 x3, .int .u16 x4, .int .u16 x5, .int .u16 x6, .int .u16 x7, .slice ab bs.length cb, .slice ae es.length ce, .bool bad, .bool false]) (by simp [results, Tryz.results138, go_sem, K0, K1, K2, K3, K4, K5, K6, K7, K8, K9, K10, K11, K12]) rfl ⟨rfl, (Below.refl _ w).alloc (Nat.le_refl _) _⟩
end Go.Proofs.YtpnfkilfgdnogaaGreatDoor.Img
end
section
namespace Go.Proofs.YtpnfkilfgdnogaaGreatDoor.Img
set_option linter.unusedVariables false
set_option linter.unusedSimpArgs false
open Go.RowKit Go.Shelf Go.Maps Oct Dev Jou Tx Geo Ino Bm Dir
abbrev Flt := Nat × Nat × Nat
def upTo (f : Nat → List Flt) : Nat → List Flt
  | 0 => []
  | n + 1 => upTo f n ++ f n
theorem upTo_nil {f : Nat → List Flt} : ∀ n, (∀ k, k < n → f k = []) → upTo f n = []
  | 0, _ => rfl
  | n + 1, h => by
    have e : upTo f (n + 1) = upTo f n ++ f n := rfl
    rw [e, upTo_nil n (fun k hk => h k (by omega)), h n (by omega)]
    rfl
theorem upTo_one {f : Nat → List Flt} {m : Nat} {x : List Flt} : ∀ n, m < n → (∀ k, k < n → k ≠ m → f k = []) → f m = x → upTo f n = x
  | n + 1, hm, h, hx => by
    have e : upTo f (n + 1) = upTo f n ++ f n := rfl
    rw [e]
    by_cases q : m = n
    · subst q
      rw [upTo_nil m (fun k hk => h k (by omega) (by omega)), hx, List.nil_append]
    · rw [upTo_one n (by omega) (fun k hk => h k (by omega)) hx, h n (by omega) (fun e => q e.symm), List.append_nil]
theorem upTo_congr {f g : Nat → List Flt} : ∀ n, (∀ k, k < n → f k = g k) → upTo f n = upTo g n
  | 0, _ => rfl
  | n + 1, h => by
    have e : upTo f (n + 1) = upTo f n ++ f n := rfl
    have e2 : upTo g (n + 1) = upTo g n ++ g n := rfl
    rw [e, e2, upTo_congr n (fun k hk => h k (by omega)), h n (by omega)]
theorem mem_upTo {f : Nat → List Flt} {x : Flt} : ∀ n, x ∈ upTo f n ↔ ∃ k, k < n ∧ x ∈ f k
  | 0 => by simp [upTo]
  | n + 1 => by
    have e : upTo f (n + 1) = upTo f n ++ f n := rfl
    rw [e, List.mem_append, mem_upTo n]
    constructor
    · rintro (⟨k, h1, h2⟩ | h)
      · exact ⟨k, by omega, h2⟩
      · exact ⟨n, by omega, h⟩
    · rintro ⟨k, h1, h2⟩
      by_cases q : k = n
      · subst q; exact .inr h2
      · exact .inl ⟨k, by omega, h2⟩
theorem upTo_len {f : Nat → List Flt} {m : Nat} : ∀ n, (∀ k, k < n → (f k).length ≤ m) → (upTo f n).length ≤ n * m
  | 0, _ => by simp [upTo]
  | n + 1, h => by
    have e : upTo f (n + 1) = upTo f n ++ f n := rfl
    rw [e, List.length_append, Nat.succ_mul]
    have := upTo_len n (fun k hk => h k (by omega))
    have := h n (by omega)
    omega
def pairsL (L : Nat → List Nat) : Nat → List (Nat × Nat)
  | 0 => []
  | n + 1 => pairsL L n ++ (L (n + 1)).map fun b => (b, n + 1)
theorem pairs_snd (L : Nat → List Nat) : ∀ n, ∀ p ∈ pairsL L n, 1 ≤ p.2
  | 0, p, h => by cases h
  | n + 1, p, h => by
    have e : pairsL L (n + 1) = pairsL L n ++ (L (n + 1)).map fun b => (b, n + 1) := rfl
    rw [e] at h
    rcases List.mem_append.1 h with h | h
    · exact pairs_snd L n p h
    · obtain ⟨b, _, rfl⟩ := List.mem_map.1 h
      exact Nat.succ_le_succ (Nat.zero_le _)
def cntP (l : List (Nat × Nat)) (b : Nat) : Nat := (l.filter fun p => decide (p.1 = b)).length
def fstP (l : List (Nat × Nat)) (b : Nat) : Nat := ((l.filter fun p => decide (p.1 = b)).head?.map Prod.snd).getD 0
theorem cntP_snoc (l : List (Nat × Nat)) (b k c : Nat) : cntP (l ++ [(b, k)]) c = if c = b then cntP l b + 1 else cntP l c := by
  unfold cntP
  rw [List.filter_append, List.length_append]
  by_cases h : c = b
  · subst h
    simp
  · rw [if_neg h]
    simp [show ¬ b = c from fun e => h e.symm]
theorem fstP_snoc (l : List (Nat × Nat)) (b k c : Nat) : fstP (l ++ [(b, k)]) c = if c = b then (if cntP l b = 0 then k else fstP l b) else fstP l c := by
  unfold fstP cntP
  rw [List.filter_append]
  by_cases h : c = b
  · subst h
    rw [if_pos rfl]
    by_cases h0 : (l.filter fun p => decide (p.1 = c)).length = 0
    · rw [if_pos h0, List.eq_nil_of_length_eq_zero h0]
      simp
    · rw [if_neg h0]
      obtain ⟨a, r, e⟩ := List.exists_cons_of_length_pos (Nat.pos_of_ne_zero h0)
      rw [e]
      rfl
  · rw [if_neg h]
    simp [show ¬ b = c from fun e => h e.symm]
theorem cntP_flat {l : List (Nat × Nat)} {b : Nat} (h : (l.map Prod.fst).Nodup) : cntP l b = if b ∈ l.map Prod.fst then 1 else 0 := by
  induction l with
  | nil => simp [cntP]
  | cons p r ih =>
    rw [List.map_cons, List.nodup_cons] at h
    have := ih h.2
    unfold cntP at this ⊢
    by_cases e : p.1 = b
    · subst e
      rw [if_neg h.1] at this
      rw [if_pos (by simp), List.filter_cons_of_pos (by simp), List.length_cons, this]
    · rw [List.filter_cons_of_neg (by simpa using e), this]
      simp only [List.map_cons, List.mem_cons, show ¬ b = p.1 from fun q => e q.symm, false_or]
theorem fstP_no {l : List (Nat × Nat)} {b : Nat} (h : b ∉ l.map Prod.fst) : fstP l b = 0 := by
  unfold fstP
  rw [List.filter_eq_nil_iff.2 (fun p hp hb => h (List.mem_map.2 ⟨p, hp, by simpa using hb⟩))]
  rfl
theorem fstP_yes {l : List (Nat × Nat)} {b : Nat} (h : b ∈ l.map Prod.fst) (h1 : ∀ p ∈ l, 1 ≤ p.2) : 1 ≤ fstP l b := by
  obtain ⟨p, hp, rfl⟩ := List.mem_map.1 h
  unfold fstP
  cases e : l.filter fun q => decide (q.1 = p.1) with
  | nil => exact absurd (List.filter_eq_nil_iff.1 e p hp) (by simp)
  | cons a r => exact h1 a ((List.mem_filter.1 (show a ∈ l.filter (fun q => decide (q.1 = p.1)) by rw [e]; exact List.mem_cons_self ..)).1)
def inoN (es : List Ent) (n : Nat) : Nat := (es.filter fun e => decide (e.2 = n)).length
def metB (l : List Sn) (k : Nat) : List (Nat × Nat) := pairsL (fun m => (snAt l m).bs) k
def metE (l : List Sn) : Nat → List Nat
  | 0 => []
  | k + 1 => metE l k ++ (snAt l (k + 1)).es.map Prod.snd
theorem metE_succ (l : List Sn) (k : Nat) (h : k < l.length) : metE l (k + 1) = metE l k ++ (l[k]'h).es.map Prod.snd := by
  have e : metE l (k + 1) = metE l k ++ (snAt l (k + 1)).es.map Prod.snd := rfl
  rw [e, snAt_get l k h]
theorem metB_succ (l : List Sn) (k : Nat) (h : k < l.length) : metB l (k + 1) = metB l k ++ (l[k]'h).bs.map fun b => (b, k + 1) := by
  have e : metB l (k + 1) = metB l k ++ (snAt l (k + 1)).bs.map fun b => (b, k + 1) := rfl
  rw [e, snAt_get l k h]
def entS (l : List Sn) (k : Nat) (es : List Ent) (q : Nat) : List Flt := if (es.getD q ([], 0)).2 < 2 ∨ (snAt l (es.getD q ([], 0)).2).t = false then [(4, k + 1, q)] else []
def inoS (l : List Sn) (k : Nat) : List Flt := (if (snAt l (k + 1)).bad = true then [(2, k + 1, 0)] else []) ++ upTo (entS l k (snAt l (k + 1)).es) (snAt l (k + 1)).es.length
theorem cnt_map (es : List Ent) (n : Nat) : (es.map Prod.snd).count n = inoN es n := by
  unfold inoN
  induction es with
  | nil => rfl
  | cons e r ih =>
    rw [List.map_cons, List.count_cons, ih]
    by_cases h : e.2 = n
    · rw [List.filter_cons_of_pos (by simpa using h), if_pos (by simpa using h), List.length_cons]
    · rw [List.filter_cons_of_neg (by simpa using h), if_neg (by simpa using h), Nat.add_zero]
def ownF (bt : Nat → Bool) (P : List (Nat × Nat)) (k : Nat) : List Flt := if (bt (k + 1) = true ∧ cntP P (k + 1) ≠ 1) ∨ (bt (k + 1) = false ∧ 0 < cntP P (k + 1)) then [(7, fstP P (k + 1), k + 1)] else []
def LnkS (l : List Sn) : Prop := ∀ k, k < l.length → (snAt l (k + 1)).t = true → ((snAt l (k + 1)).x.kind = 1 ∧ (snAt l (k + 1)).x.links = (metE l l.length).count (k + 1) ∧ (snAt l (k + 1)).x.links < 65536) ∨ (k = 0 ∧ (snAt l 1).x.links = 1 ∧ (snAt l 1).x.kind = 2)
def ckS (l : List Sn) (bl : Nat) (bt : Nat → Bool) : List Flt := upTo (inoS l) l.length ++ upTo (ownF bt (metB l l.length)) bl
theorem wf_u32 (x : Nat) (h : x < 4294967296) : (Lit.int .u32 (x : Int)).wf = true := by
  simp only [Lit.wf, Bool.and_eq_true, decide_eq_true_eq]
  exact ⟨by show (0 : Int) ≤ x; omega, by show (x : Int) ≤ 4294967295; omega⟩
theorem wf_u16 (x : Nat) (h : x < 65536) : (Lit.int .u16 (x : Int)).wf = true := by
  simp only [Lit.wf, Bool.and_eq_true, decide_eq_true_eq]
  exact ⟨by show (0 : Int) ≤ x; omega, by show (x : Int) ≤ 65535; omega⟩
end Go.Proofs.YtpnfkilfgdnogaaGreatDoor.Img
end
