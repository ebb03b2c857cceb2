/- Layer 9 (bmap): what Cut takes, plain; a number put behind the row of those that were taken. -/
import Derived.Test.YtpnfkilfgdnogaaGreatDoorBmapI
import Derived.Below
import Derived.RangeFuncOwn
namespace Go.Proofs.YtpnfkilfgdnogaaGreatDoor.Bm
set_option linter.unusedVariables false
set_option linter.unusedSimpArgs false
open Go.RowKit Go.Shelf Go.Maps Oct Dev Jou Tx Geo Ino Img
def dirL (x : InoT) : List Nat := [x.d0, x.d1, x.d2, x.d3]
/-- An inode, whose pages from p on have no block. -/
def cutDir (x : InoT) (p : Nat) : InoT :=
  { x with d0 := if p ≤ 0 then 0 else x.d0, d1 := if p ≤ 1 then 0 else x.d1, d2 := if p ≤ 2 then 0 else x.d2, d3 := if p ≤ 3 then 0 else x.d3 }
def cutVs (vs : List Nat) (p : Nat) : List Nat := vs.mapIdx fun k v => if p ≤ k + 4 then 0 else v
def freeD (x : InoT) (p : Nat) : List Nat := (nzs (dirL x) p (4 - p)).map fun k => (dirL x).getD k 0
def freeV (vs : List Nat) (p : Nat) : List Nat := (nzs vs (p - 4) (32 - (p - 4))).map fun k => vs.getD k 0
theorem cutDir_cells (x : InoT) (p : Nat) : zeroA x.cells 3 p (4 - p) = (cutDir x p).cells := by
  match p with
  | 0 => rfl
  | 1 => rfl
  | 2 => rfl
  | 3 => rfl
  | p + 4 =>
    have e : 4 - (p + 4) = 0 := by omega
    rw [e]
    unfold cutDir InoT.cells zeroA
    simp only
    rw [if_neg (by omega), if_neg (by omega), if_neg (by omega), if_neg (by omega)]
theorem cutVs_len (vs : List Nat) (p : Nat) : (cutVs vs p).length = vs.length := by simp [cutVs]
theorem cutVs_get {vs : List Nat} {p k : Nat} (h : k < vs.length) : (cutVs vs p)[k]'(by rw [cutVs_len]; exact h) = if p ≤ k + 4 then 0 else vs[k] := by
  simp [cutVs]
theorem cutVs_row {W : World} {g p : Nat} {vs : List Nat} {cs : Array Value} (hl : vs.length = 32) (hc : ∀ i (h : i < vs.length), cs[i]? = some (.int .u16 vs[i])) (h : SBox W g 39 (zeroA cs 0 (p - 4) (32 - (p - 4)))) : Row16 W g (cutVs vs p) := by
  refine ⟨_, h, fun i hi => ?_⟩
  rw [cutVs_len] at hi
  have hs : i < cs.size := (Array.getElem?_eq_some_iff.1 (hc i hi)).1
  rw [zeroA_get, cutVs_get hi]
  by_cases hp : p ≤ i + 4
  · rw [if_pos hp, if_pos (by omega)]
    rfl
  · rw [if_neg hp, if_neg (by omega)]
    exact hc i hi
/-- The row of those that were taken. -/
def HeldF (FB B : Nat) (fr : List Nat) (W : World) : Prop := ∃ v, SBox W FB 87 #[v] ∧ W.ownsRow B 39 1 v fr.length (fr.map u16V)
theorem own_cells {W : World} {base n o : Nat} {t : TypeId} {v : Value} {xs : List Value} (h : W.ownsRow base t 1 v n xs) (ho : v.ownBlock = some o) : base ≤ o ∧ ∃ cur, SBox W o t cur := by
  rcases h.2 with ⟨rfl, _⟩ | ⟨g, cap, cur, rfl, hb, hg, _⟩
  · cases ho
  · simp only [Value.ownBlock, Option.some.injEq] at ho
    subst ho
    exact ⟨hb, cur, hg⟩
theorem HeldF.own {B0 FB B : Nat} {fr : List Nat} {W W' : World} {row : Option Nat} (h : HeldF FB B fr W) (hg : W.grownBy W' row) (hr : ∀ r, row = some r → B0 ≤ r ∧ ∃ o : Obj, W.heap[r]? = some o ∧ o.isCells = false) : HeldF FB B fr W' := by
  obtain ⟨v, h1, h2⟩ := h
  refine ⟨v, h1.kept hg (fun e => ?_), h2.kept hg ?_⟩
  · obtain ⟨_, o, ho, hc⟩ := hr FB e.symm
    rw [show W.heap[FB]? = _ from h1] at ho
    cases ho
    cases hc
  · rcases h2.2 with ⟨rfl, _⟩ | ⟨g, cap, cur, rfl, _, hgb, _⟩
    · exact .inl rfl
    · refine .inr (fun e => ?_)
      obtain ⟨_, o, ho, hc⟩ := hr g e.symm
      rw [hgb] at ho
      cases ho
      cases hc
theorem HeldF.tch {FB B b : Nat} {fr : List Nat} {W W' : World} (h : HeldF FB B fr W) (hT : Tch (fun c => c = b) W W') (h1 : FB ≠ b) (h2 : b < B) : HeldF FB B fr W' := by
  obtain ⟨v, h3, h4⟩ := h
  refine ⟨v, (hT.block _ h3.lt h1).trans h3, h4.1, ?_⟩
  rcases h4.2 with h5 | ⟨g, cap, cur, rfl, hb, hgb, h6⟩
  · exact .inl h5
  · exact .inr ⟨g, cap, cur, rfl, hb, (hT.block g (Array.getElem?_eq_some_iff.1 hgb).1 (by omega)).trans hgb, h6⟩
/-- One number more: what is left, block by block. -/
structure AppF (FB B : Nat) (fr : List Nat) (v : Value) (W W3 : World) : Prop where
  held : HeldF FB B fr W3
  tch : Tch (fun c => c = FB ∨ some c = v.ownBlock) W W3
  keeps : ∀ bb, KeepsFrom bb W W3
theorem app_held {W W2 : World} {FB B b : Nat} {v v' : Value} {fr : List Nat} (hv : SBox W FB 87 #[v]) (hrow : W.ownsRow B 39 1 v fr.length (fr.map u16V)) (hFB : FB < B)
    (hg : (W.alloc (.cells #[.int .u16 b] 39)).grownBy W2 v.ownBlock) (ho : W2.ownsRow B 39 1 v' (fr.length + 1) (fr.map u16V ++ [.int .u16 b])) :
    SBox W2 FB 87 #[v] ∧ AppF FB B (fr ++ [b]) v W (W2.setCell ⟨FB, 0, none⟩ v') := by
  have hne : some FB ≠ v.ownBlock := fun e => by have := (own_cells hrow e.symm).1; omega
  have h2 : SBox W2 FB 87 #[v] := (hv.alloc _).kept hg hne
  have T1 : Tch (fun c => c = FB ∨ some c = v.ownBlock) W W2 := (Tch.of_below ((Below.refl _ W).alloc (Nat.le_refl _) _)).trans (Tch.grown hg (fun r e => .inr e.symm))
  refine ⟨h2, ⟨⟨v', h2.set 0 v', ?_⟩, T1.trans (Tch.set _ (.inl rfl)), fun bb => ?_⟩⟩
  · rw [List.length_append, List.map_append]
    exact ownsRow_setCell_below ho (a := ⟨FB, 0, none⟩) hFB _
  · refine KeepsFrom.trans (Y := W2) ⟨T1.size, fun k o _ hk hc => (T1.block k (Array.getElem?_eq_some_iff.1 hk).1 ?_).trans hk⟩ ((KeepsOthers.setCell _ _ _).from _)
    rintro (rfl | e)
    · rw [show W.heap[k]? = _ from hv] at hk
      cases hk
      cases hc
    · obtain ⟨_, cur, hcur⟩ := own_cells hrow e.symm
      rw [show W.heap[k]? = _ from hcur] at hk
      cases hk
      cases hc
theorem AppF.keep {FB B : Nat} {fr fr0 : List Nat} {v : Value} {W W3 : World} (h : AppF FB B fr v W W3) (hrow : W.ownsRow B 39 1 v fr0.length (fr0.map u16V)) {c : Nat} {t : TypeId} {cs : Array Value} (hs : SBox W c t cs) (hc : c ≠ FB) (hb : c < B ∨ t ≠ 39) : SBox W3 c t cs := by
  refine (h.tch.block c hs.lt ?_).trans hs
  rintro (e | e)
  · exact hc e
  · obtain ⟨h1, cur, hcur⟩ := own_cells hrow e.symm
    rcases hb with hb | hb
    · omega
    · have h2 : W.heap[c]? = _ := hcur
      rw [show W.heap[c]? = _ from hs] at h2
      cases h2
      exact hb rfl
theorem AppF.kp {FB B : Nat} {fr fr0 : List Nat} {v : Value} {W W3 : World} {b fB lB : Nat} {t : TypeId} (h : AppF FB B fr v W W3) (hrow : W.ownsRow B 39 1 v fr0.length (fr0.map u16V)) (h1 : b ≠ FB) (h2 : b < B) (h3 : fB ≠ FB) (h4 : lB ≠ FB) : KpS (keepT b t fB lB) W W3 := by
  rintro c u cs (⟨rfl, rfl⟩ | ⟨rfl, rfl⟩ | ⟨rfl, rfl⟩) hs
  · exact h.keep hrow hs h1 (.inl h2)
  · exact h.keep hrow hs h3 (.inr (by decide))
  · exact h.keep hrow hs h4 (.inr (by decide))
theorem kpS_put {b fB lB : Nat} {t : TypeId} (W : World) (l : Nat) (o o' : Obj) (hl : W.heap[l]? = some o) (ho : o.isCells = false) : KpS (keepT b t fB lB) W (W.putObj l o') := fun c u cs _ hs =>
  (World.putObj_heap_other (fun e => by subst e; rw [show W.heap[_]? = _ from hs] at hl; cases hl; cases ho)).trans hs
theorem sbox_put {W : World} {l c : Nat} {o o' : Obj} {t : TypeId} {cs : Array Value} (hl : W.heap[l]? = some o) (ho : o.isCells = false) (hs : SBox W c t cs) : SBox (W.putObj l o') c t cs :=
  (World.putObj_heap_other (fun e => by subst e; rw [show W.heap[_]? = _ from hs] at hl; cases hl; cases ho)).trans hs
theorem tch_keeps {W W' : World} {b n : Nat} (h : Tch (fun c => c = b) W W') (hb : b < n) : KeepsFrom n W W' := ⟨h.size, fun c o hc ho _ => (h.block c (Array.getElem?_eq_some_iff.1 ho).1 (by omega)).trans ho⟩
theorem sbox_own2 {B b : Nat} {t : TypeId} {cs : Array Value} {W W' : World} {row : Option Nat} (h : SBox W b t cs) (hg : W.grownBy W' row) (hr : ∀ r, row = some r → B ≤ r ∧ ∃ o : Obj, W.heap[r]? = some o ∧ o.isCells = false) : SBox W' b t cs :=
  h.kept hg (fun e => by
    obtain ⟨_, o, ho, hc⟩ := hr b e.symm
    rw [show W.heap[b]? = _ from h] at ho
    cases ho
    cases hc)
theorem dev_via {w V W : World} {b : DevB} {hard hard0 : List ByteArray} {k k0 : Nat} (h0 : DevAt w b hard0 (fun _ => none) k0) (h : DevAt V b hard (fun _ => none) k) (hb : Below w.heap.size V W) : DevAt W b hard (fun _ => none) k := by
  obtain ⟨⟨cap0, _, g1⟩, g2, g3, _, _, _⟩ := h0
  obtain ⟨⟨cap, c1, h1⟩, h2, h3, h4, h5, h6⟩ := h
  exact ⟨⟨cap, c1, (hb.block _ g1.lt).trans h1⟩, h2.block (hb.block _ g2.lt), h3.block (hb.block _ g3.lt), (fun x e hx => by cases hx), h5, (fun x e hx => by cases hx)⟩
theorem own_put {W : World} {base n size l : Nat} {o o' : Obj} {e : TypeId} {v : Value} {xs : List Value} (h : W.ownsRow base e size v n xs) (hl : W.heap[l]? = some o) (ho : o.isCells = false) : (W.putObj l o').ownsRow base e size v n xs := by
  refine ⟨h.1, ?_⟩
  rcases h.2 with h5 | ⟨g, cap, cur, rfl, hb, hgb, h6⟩
  · exact .inl h5
  · exact .inr ⟨g, cap, cur, rfl, hb, (World.putObj_heap_other (fun e => by subst e; rw [hgb] at hl; cases hl; cases ho)).trans hgb, h6⟩
/-- What is old by the time of w is not touched: the image shows what it showed. -/
theorem IS.via {w V W : World} {E : Im} {D D0 : Secs} {Z Z0 : Nat → Prop} (h0 : IS w E D0 Z0) (h : IS V E D Z) (hb : Below w.heap.size V W) : IS W E D Z := by
  obtain ⟨f0, n0, g1, _⟩ := h0
  obtain ⟨f, nn, h1, h2⟩ := h
  refine ⟨f, nn, ⟨(hb.block _ g1.img.lt).trans h1.img, ⟨⟨(hb.block _ g1.tj.tx.tx.lt).trans h1.tj.tx.tx, h1.tj.tx.map.block (hb.block _ g1.tj.tx.map.lt), dev_via g1.tj.tx.dev h1.tj.tx.dev hb⟩, (hb.block _ (SBox.lt g1.tj.jou)).trans h1.tj.jou, h1.tj.ne⟩, h1.len, h1.sec⟩, h2⟩
theorem tch_via {S : Nat → Prop} {w V W : World} (h : Tch S w V) (hb : Below w.heap.size V W) : Tch S w W := ⟨hb.os.trans h.os, hb.tape.trans h.tape, hb.output.trans h.output, Nat.le_trans h.size hb.size, fun c hc hs => (hb.block c hc).trans (h.block c hc hs)⟩
theorem Wr.via {w V W : World} {E : Im} {D D0 : Secs} {Z Z0 : Nat → Prop} (h0 : IS w E D0 Z0) (h : Wr E D Z w V) (hb : Below w.heap.size V W) : Wr E D Z w W := ⟨IS.via h0 h.1 hb, tch_via h.2 hb⟩
theorem Fu.via {w V W : World} {E : Im} {Q : Prop} (h : Fu E Q w V) (hb : Below w.heap.size V W) : Fu E Q w W := ⟨h.1, tch_via h.2 hb⟩
theorem Wr.same {w W : World} {E : Im} {D : Secs} {Z : Nat → Prop} (h0 : IS w E D Z) (hb : Below w.heap.size w W) : Wr E D Z w W := ⟨h0.later hb, Tch.of_below hb⟩
theorem fillI_heap {W : World} {n c : Nat} {v0 v1 v2 v3 v4 v5 v6 v7 : Value} (h : c ≠ n) : (fillI W n v0 v1 v2 v3 v4 v5 v6 v7).heap[c]? = W.heap[c]? := by
  have k : ∀ (X : World) (i : Nat) (v : Value), (X.setCell ⟨n, i, none⟩ v).heap[c]? = X.heap[c]? := fun X i v => heap_setCell_other X ⟨n, i, none⟩ c v h
  unfold fillI
  rw [k, k, k, k, k, k, k, k]
theorem drew_set {X W : World} {FB c : Nat} {vF : Value} (h : X.setCell ⟨FB, 0, none⟩ vF = W ∨ (X.setCell ⟨FB, 0, none⟩ vF).drew = W) (hc : c ≠ FB) : W.heap[c]? = X.heap[c]? := by
  rcases h with rfl | rfl <;> exact heap_setCell_other X ⟨FB, 0, none⟩ c vF hc
theorem drew_same {X W : World} {FB : Nat} {u vF : Value} {t : TypeId} (h : X.setCell ⟨FB, 0, none⟩ vF = W ∨ (X.setCell ⟨FB, 0, none⟩ vF).drew = W) (hF : SBox X FB t #[u]) : SBox W FB t #[vF] := by
  rcases h with rfl | rfl
  · exact hF.set 0 vF
  · exact SBox.drew (hF.set 0 vF)
theorem drew_below {X W V : World} {n FB : Nat} {vF : Value} (h : X.setCell ⟨FB, 0, none⟩ vF = W ∨ (X.setCell ⟨FB, 0, none⟩ vF).drew = W) (hb : Below n V X) (hn : n ≤ FB) : Below n V W := by
  rcases h with rfl | rfl
  · exact hb.setCell (p := ⟨FB, 0, none⟩) hn vF
  · exact (hb.setCell (p := ⟨FB, 0, none⟩) hn vF).drew
theorem drew_own {X W : World} {base n size FB : Nat} {e : TypeId} {v vF : Value} {xs : List Value} (h : X.setCell ⟨FB, 0, none⟩ vF = W ∨ (X.setCell ⟨FB, 0, none⟩ vF).drew = W) (ho : X.ownsRow base e size v n xs) (hb : FB < base) : W.ownsRow base e size v n xs := by
  rcases h with rfl | rfl <;> exact ownsRow_setCell_below ho (a := ⟨FB, 0, none⟩) hb vF
theorem fillI_own {W : World} {base m size n : Nat} {e : TypeId} {v v0 v1 v2 v3 v4 v5 v6 v7 : Value} {xs : List Value} (ho : W.ownsRow base e size v m xs) (hb : n < base) : (fillI W n v0 v1 v2 v3 v4 v5 v6 v7).ownsRow base e size v m xs := by
  have k : ∀ (X : World) (i : Nat) (u : Value), X.ownsRow base e size v m xs → (X.setCell ⟨n, i, none⟩ u).ownsRow base e size v m xs := fun X i u h => ownsRow_setCell_below h (a := ⟨n, i, none⟩) hb u
  unfold fillI
  exact k _ _ _ (k _ _ _ (k _ _ _ (k _ _ _ (k _ _ _ (k _ _ _ (k _ _ _ (k _ _ _ ho)))))))
/-- The end of Cut: the results are stored, what was deferred is taken. -/
theorem cut_tail {n Y FB DD DD2 B : Nat} {V : World} {a0 a1 a2 a3 a4 a5 a6 a7 u vF v0 v1 v2 v3 v4 v5 v6 v7 : Value} {fr : List Nat} (hY : SBox V Y 43 #[a0, a1, a2, a3, a4, a5, a6, a7]) (hF : SBox V FB 87 #[u]) (hYF : Y ≠ FB)
    (h1 : V.heap[DD]? = some (.deferred (some []))) (h2 : V.heap[DD2]? = some (.deferred (some []))) (hne : DD ≠ DD2) (hn : n ≤ Y ∧ n ≤ FB ∧ n ≤ DD ∧ n ≤ DD2) (hrow : V.ownsRow B 39 1 vF fr.length (fr.map u16V)) (hB : FB < B ∧ Y < B) (W : World) (hW : (fillI V Y v0 v1 v2 v3 v4 v5 v6 v7).setCell ⟨FB, 0, none⟩ vF = W ∨ ((fillI V Y v0 v1 v2 v3 v4 v5 v6 v7).setCell ⟨FB, 0, none⟩ vF).drew = W) :
    W.heap[DD2]? = some (.deferred (some [])) ∧ (W.putObj DD2 (.deferred none)).heap[DD]? = some (.deferred (some [])) ∧
      SBox ((W.putObj DD2 (.deferred none)).putObj DD (.deferred none)) Y 43 #[v0, v1, v2, v3, v4, v5, v6, v7] ∧ SBox ((W.putObj DD2 (.deferred none)).putObj DD (.deferred none)) FB 87 #[vF] ∧
      ((W.putObj DD2 (.deferred none)).putObj DD (.deferred none)).ownsRow B 39 1 vF fr.length (fr.map u16V) ∧ Below n V ((W.putObj DD2 (.deferred none)).putObj DD (.deferred none)) := by
  have d1 : DD ≠ Y ∧ DD ≠ FB := ⟨(fun e => by rw [e, show V.heap[Y]? = _ from hY] at h1; cases h1), (fun e => by rw [e, show V.heap[FB]? = _ from hF] at h1; cases h1)⟩
  have d2 : DD2 ≠ Y ∧ DD2 ≠ FB := ⟨(fun e => by rw [e, show V.heap[Y]? = _ from hY] at h2; cases h2), (fun e => by rw [e, show V.heap[FB]? = _ from hF] at h2; cases h2)⟩
  have kb : ∀ c, c ≠ Y → c ≠ FB → W.heap[c]? = V.heap[c]? := fun c c1 c2 => by
    have e1 : (fillI V Y v0 v1 v2 v3 v4 v5 v6 v7).heap[c]? = V.heap[c]? := fillI_heap c1
    exact (drew_set hW c2).trans e1
  have w2 : W.heap[DD2]? = some (.deferred (some [])) := (kb _ d2.1 d2.2).trans h2
  have w1 : W.heap[DD]? = some (.deferred (some [])) := (kb _ d1.1 d1.2).trans h1
  have p1 : (W.putObj DD2 (.deferred none)).heap[DD]? = some (.deferred (some [])) := (World.putObj_heap_other hne).trans w1
  have sY : SBox W Y 43 #[v0, v1, v2, v3, v4, v5, v6, v7] := (drew_set hW hYF).trans (fill8 hY v0 v1 v2 v3 v4 v5 v6 v7)
  have sF : SBox W FB 87 #[vF] := drew_same hW (fillI_other hF hYF)
  have bW : Below n V W := drew_below hW (fillI_below (Below.refl n V) hn.1) hn.2.1
  have rW : W.ownsRow B 39 1 vF fr.length (fr.map u16V) := drew_own hW (fillI_own hrow hB.2) hB.1
  have hr2 := own_put rW w2 rfl (o' := .deferred none)
  have s2 := fun {c : Nat} {t : TypeId} {cs : Array Value} (h : SBox W c t cs) => sbox_put (o' := .deferred none) w2 rfl h
  have s1 := fun {c : Nat} {t : TypeId} {cs : Array Value} (h : SBox (W.putObj DD2 (.deferred none)) c t cs) => sbox_put (o' := .deferred none) p1 rfl h
  refine ⟨w2, p1, s1 (s2 sY), s1 (s2 sF), own_put hr2 p1 rfl, ?_⟩
  have q1 : Below n W (W.putObj DD2 (.deferred none)) := ⟨rfl, rfl, rfl, by simp, fun k hk => World.putObj_heap_other (by omega)⟩
  have q2 : Below n (W.putObj DD2 (.deferred none)) ((W.putObj DD2 (.deferred none)).putObj DD (.deferred none)) := ⟨rfl, rfl, rfl, by simp, fun k hk => World.putObj_heap_other (by omega)⟩
  exact (bW.trans q1).trans q2
theorem own_mono {W : World} {b b' size n : Nat} {e : TypeId} {v : Value} {xs : List Value} (h : W.ownsRow b e size v n xs) (hb : b' ≤ b) : W.ownsRow b' e size v n xs := by
  refine ⟨h.1, ?_⟩
  rcases h.2 with h5 | ⟨g, cap, cur, rfl, h6, h7⟩
  · exact .inl h5
  · exact .inr ⟨g, cap, cur, rfl, Nat.le_trans hb h6, h7⟩
theorem own_tch {W W' : World} {base size n b : Nat} {e : TypeId} {v : Value} {xs : List Value} (h : W.ownsRow base e size v n xs) (hT : Tch (fun c => c = b) W W') (hb : b < base) : W'.ownsRow base e size v n xs := by
  refine ⟨h.1, ?_⟩
  rcases h.2 with h5 | ⟨g, cap, cur, rfl, h6, h7, h8⟩
  · exact .inl h5
  · exact .inr ⟨g, cap, cur, rfl, h6, (hT.block g (Array.getElem?_eq_some_iff.1 h7).1 (by omega)).trans h7, h8⟩
theorem freeV_zero (p : Nat) : freeV (List.replicate 32 0) p = [] := by
  have h : nzs (List.replicate 32 0) (p - 4) (32 - (p - 4)) = [] := by
    unfold nzs
    refine List.filter_eq_nil_iff.2 (fun k _ => ?_)
    rw [List.getD_eq_getElem?_getD, List.getElem?_replicate]
    split <;> simp
  unfold freeV
  rw [h]
  rfl
theorem nzs_len (l : List Nat) (a m : Nat) : (nzs l a m).length ≤ m := by
  have h := List.length_filter_le (fun k => l.getD k 0 != 0) (List.range' a m)
  rw [List.length_range'] at h
  exact h
end Go.Proofs.YtpnfkilfgdnogaaGreatDoor.Bm
