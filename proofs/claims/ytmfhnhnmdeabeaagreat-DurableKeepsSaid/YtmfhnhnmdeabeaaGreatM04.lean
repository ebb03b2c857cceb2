/- Layer 18 (tree): Look's own closure, and its check. -/
import Derived.Test.YtmfhnhnmdeabeaaGreatM03
import Derived.BigRegion
set_option linter.unusedVariables false
set_option linter.unusedSimpArgs false
set_option maxRecDepth 100000
section
namespace Go.Proofs.YtmfhnhnmdeabeaaGreat.Tr
open Go.RowKit Go.Shelf Go.Maps Oct
variable {W W' : World} {E : TL} {room q : Nat} {S : T}
theorem setN_same (f : Nat → Nd) (x : Nat) (v : Nd) : setN f x v x = v := by simp [setN]
theorem setN_other (f : Nat → Nd) {x y : Nat} (v : Nd) (h : y ≠ x) : setN f x v y = f y := by simp [setN, h]
theorem kind_set {S : T} {x : Nat} {v : Nd} (hk : v.kind = (S.n x).kind) (y : Nat) : (setN S.n x v y).kind = (S.n y).kind := by
 by_cases h : y = x
 · subst h; rw [setN_same, hk]
 · rw [setN_other _ _ h]
theorem TreeAt.node (h : TreeAt W E room q S) {x : Nat} (hx : (S.n x).kind ≠ 0) (v : Nd) (hk : v.kind = (S.n x).kind) (hd : v.data = (S.n x).data)
   (hnew : SBox W' (E.P x) 101 #[.int .u8 v.kind, .int .i64 v.links, .int .u32 v.data.length, .map (some (E.A x)), .map (some (E.B x)), .int .i64 v.held, .int .u32 v.up])
   (hoth : ∀ b, b ≠ E.P x → b < W.heap.size → W'.heap[b]? = W.heap[b]?) (hl : v.links ≤ 100000 ∧ v.held ≤ 100000) : TreeAt W' E room q ⟨setN S.n x v, S.l⟩ := by
 have hks := kind_set hk
 have o := h.own
 have hP := h.nd x hx
 have nA : ∀ y, (S.n y).kind ≠ 0 → E.A y ≠ E.P x := fun y hy e => (h.ent y hy).ne hP e.symm
 have nM : E.m ≠ E.P x := fun e => h.map.ne hP e.symm
 refine { top := ?_, map := ?_, nd := ?_, ent := ?_, pg := ?_, own := ?_, iP := ?_, iA := ?_, iB := ?_, iAB := ?_, iM := ?_, rm := h.rm, q8 := h.q8, lk := ?_, dt := ?_ }
 · exact (hoth _ (fun e => (h.iM x hx).1 e.symm) h.top.lt).trans h.top
 · have e : nodeF E ⟨setN S.n x v, S.l⟩ = nodeF E S := by funext y; simp only [nodeF, hks]
   rw [e]
   exact h.map.block (hoth _ nM h.map.lt)
 · intro y hy
   simp only at hy ⊢
   rw [hks] at hy
   by_cases e : y = x
   · subst e
     rw [setN_same]
     exact hnew
   · rw [setN_other _ _ e]
     exact (hoth _ (fun q => e (h.iP y x hy hx q)) (h.nd y hy).lt).trans (h.nd y hy)
 · intro y hy
   simp only at hy ⊢
   rw [hks] at hy
   exact (h.ent y hy).block (hoth _ (nA y hy) (h.ent y hy).lt)
 · intro y hy
   simp only at hy ⊢
   rw [hks] at hy
   obtain ⟨g, g1, g2⟩ := h.pg y hy
   have nB : E.B y ≠ E.P x := fun e => g2.ne hP e.symm
   refine ⟨g, ?_, g2.block (hoth _ nB g2.lt)⟩
   by_cases e : y = x
   · subst e; rw [setN_same, hd]; exact g1
   · rw [setN_other _ _ e]; exact g1
 · exact ⟨o.1, o.2.1, fun y hy => o.2.2 y (by rw [← hks]; exact hy)⟩
 · exact fun a b ha hb => h.iP a b (by rw [← hks]; exact ha) (by rw [← hks]; exact hb)
 · exact fun a b ha hb => h.iA a b (by rw [← hks]; exact ha) (by rw [← hks]; exact hb)
 · exact fun a b ha hb => h.iB a b (by rw [← hks]; exact ha) (by rw [← hks]; exact hb)
 · exact fun a b ha hb => h.iAB a b (by rw [← hks]; exact ha) (by rw [← hks]; exact hb)
 · exact fun a ha => h.iM a (by rw [← hks]; exact ha)
 · intro y
   by_cases e : y = x
   · subst e; simp only [setN_same]; exact hl
   · simp only [setN_other _ _ e]; exact h.lk y
 · intro y
   by_cases e : y = x
   · subst e; simp only [setN_same, hd]; exact h.dt y
   · simp only [setN_other _ _ e]; exact h.dt y
theorem turned_block {W W' : World} {b : Nat} (h : W.mapTurned W' b) {c : Nat} (hc : c ≠ b) : W'.heap[c]? = W.heap[c]? := by
 obtain ⟨es, clock, es', clock', hb, rfl⟩ := h
 exact Go.ChangeMaps.heap_setBlock_other hb _ hc
theorem turned_size {W W' : World} {b : Nat} (h : W.mapTurned W' b) : W'.heap.size = W.heap.size := by
 obtain ⟨es, clock, es', clock', hb, rfl⟩ := h
 simp [Go.ChangeMaps.setBlock]
theorem TreeAt.entSet (h : TreeAt W E room q S) (hq : q < 100000) {d : Nat} (hd : (S.n d).kind ≠ 0) (s : ByteArray) (hs : s.size ≤ maxLen) (v : Nat) (hv : v ≠ 0) :
   ∃ W', (Instr.mapUpdate 98 (.map (some (E.A d))) (.string s) (.int .u32 v)).run Tryz.prog W = .ok () W' ∧ TreeAt W' E room (q + 1) ⟨S.n, setL S.l d (L s) v⟩ ∧ W.mapTurned W' (E.A d) := by
 obtain ⟨W', hrun, h1, h2⟩ := (h.ent d hd).put kStr Tryz.underlying98 (by unfold maxLen; omega) (keyS hs) (.int .u32 v)
 refine ⟨W', hrun, ?_, h2⟩
 have o := h.own
 have hlt := (h.ent d hd).lt
 obtain ⟨es, clk, hmap⟩ := (h.ent d hd).isMap
 have nP : ∀ y, (S.n y).kind ≠ 0 → E.P y ≠ E.A d := fun y hy e => by have := h.nd y hy; unfold SBox at this; rw [e, hmap] at this; cases this
 refine { top := ?_, map := ?_, nd := ?_, ent := ?_, pg := ?_, own := o, iP := h.iP, iA := h.iA, iB := h.iB, iAB := h.iAB, iM := h.iM, rm := h.rm, q8 := by omega, lk := h.lk, dt := h.dt }
 · refine (turned_block h2 fun e => ?_).trans h.top
   have := h.top; unfold SBox at this; rw [e, hmap] at this; cases this
 · exact h.map.block (turned_block h2 fun e => (h.iM d hd).2.1 e.symm)
 · exact fun y hy => (turned_block h2 (nP y hy)).trans (h.nd y hy)
 · intro y hy
   by_cases e : y = d
   · subst e
     rw [strF_put] at h1
     have ee : (fun t => if t = s.data.toList then some (Value.int .u32 v) else entF (S.l y) t) = entF (setL S.l y (L s) v y) := by
       funext t
       show (if t = L s then some (Value.int .u32 v) else entF (S.l y) t) = _
       simp only [entF, setL, true_and]
       by_cases ht : t = L s
       · simp only [ht, if_true, hv, if_false]
       · simp only [ht, if_false]
     rw [ee] at h1
     exact h1
   · have ee : setL S.l d (L s) v y = S.l y := by funext t; simp [setL, e]
     simp only [ee]
     exact ((h.ent y hy).mono (by omega)).block (turned_block h2 fun q => e (h.iA y d hy hd q))
 · intro y hy
   obtain ⟨g, g1, g2⟩ := h.pg y hy
   exact ⟨g, g1, g2.block (turned_block h2 fun q => h.iAB d y hd hy q.symm)⟩
theorem TreeAt.entDel (h : TreeAt W E room q S) {d : Nat} (hd : (S.n d).kind ≠ 0) (s : ByteArray) (hs : s.size ≤ maxLen) (ty : TypeId) :
   ∃ W', (Builtin.delete_ #[98, 9] ty #[.map (some (E.A d)), .string s]).run Tryz.prog W = .ok (.tuple #[]) W' ∧ TreeAt W' E room q ⟨S.n, setL S.l d (L s) 0⟩ ∧ W.mapTurned W' (E.A d) := by
 obtain ⟨W', hrun, h1, h2⟩ := (h.ent d hd).del kStr Tryz.underlying98 (keyS hs) ty
 refine ⟨W', hrun, ?_, h2⟩
 have o := h.own
 obtain ⟨es, clk, hmap⟩ := (h.ent d hd).isMap
 have nP : ∀ y, (S.n y).kind ≠ 0 → E.P y ≠ E.A d := fun y hy e => by have := h.nd y hy; unfold SBox at this; rw [e, hmap] at this; cases this
 refine { top := ?_, map := ?_, nd := ?_, ent := ?_, pg := ?_, own := o, iP := h.iP, iA := h.iA, iB := h.iB, iAB := h.iAB, iM := h.iM, rm := h.rm, q8 := h.q8, lk := h.lk, dt := h.dt }
 · refine (turned_block h2 fun e => ?_).trans h.top
   have := h.top; unfold SBox at this; rw [e, hmap] at this; cases this
 · exact h.map.block (turned_block h2 fun e => (h.iM d hd).2.1 e.symm)
 · exact fun y hy => (turned_block h2 (nP y hy)).trans (h.nd y hy)
 · intro y hy
   by_cases e : y = d
   · subst e
     rw [strF_del] at h1
     have ee : (fun t => if t = s.data.toList then none else entF (S.l y) t) = entF (setL S.l y (L s) 0 y) := by
       funext t
       show (if t = L s then none else entF (S.l y) t) = _
       simp only [entF, setL, true_and]
       by_cases ht : t = L s
       · simp only [ht, if_true]
       · simp only [ht, if_false]
     rw [ee] at h1
     exact h1
   · have ee : setL S.l d (L s) 0 y = S.l y := by funext t; simp [setL, e]
     simp only [ee]
     exact (h.ent y hy).block (turned_block h2 fun q => e (h.iA y d hy hd q))
 · intro y hy
   obtain ⟨g, g1, g2⟩ := h.pg y hy
   exact ⟨g, g1, g2.block (turned_block h2 fun q => h.iAB d y hd hy q.symm)⟩
theorem TreeAt.gone (h : TreeAt W E room q S) {x : Nat} (hx : x < 4294967296) (ty : TypeId) :
   ∃ W', (Builtin.delete_ #[51, 37] ty #[.map (some E.m), .int .u32 x]).run Tryz.prog W = .ok (.tuple #[]) W' ∧ TreeAt W' E room q ⟨setN S.n x Nd.no, S.l⟩ ∧ W.mapTurned W' E.m := by
 obtain ⟨W', hrun, h1, h2⟩ := h.map.del kU32 Tryz.underlying51 (key32 hx) ty
 refine ⟨W', hrun, ?_, h2⟩
 have o := h.own
 obtain ⟨es, clk, hmap⟩ := h.map.isMap
 have hk : ∀ y, (setN S.n x Nd.no y).kind ≠ 0 → y ≠ x ∧ (S.n y).kind ≠ 0 := fun y hy => by
   by_cases e : y = x
   · subst e; rw [setN_same] at hy; exact absurd rfl hy
   · rw [setN_other _ _ e] at hy; exact ⟨e, hy⟩
 refine { top := ?_, map := ?_, nd := ?_, ent := ?_, pg := ?_, own := ⟨o.1, o.2.1, fun y hy => o.2.2 y (hk y hy).2⟩, iP := fun a b ha hb => h.iP a b (hk a ha).2 (hk b hb).2, iA := fun a b ha hb => h.iA a b (hk a ha).2 (hk b hb).2, iB := fun a b ha hb => h.iB a b (hk a ha).2 (hk b hb).2, iAB := fun a b ha hb => h.iAB a b (hk a ha).2 (hk b hb).2, iM := fun a ha => h.iM a (hk a ha).2, rm := h.rm, q8 := h.q8, lk := ?_, dt := ?_ }
 · refine (turned_block h2 fun e => ?_).trans h.top
   have := h.top; unfold SBox at this; rw [e, hmap] at this; cases this
 · rw [natF_del] at h1
   have ee : (fun y => if y = x then none else nodeF E S y) = nodeF E ⟨setN S.n x Nd.no, S.l⟩ := by
     funext y
     simp only [nodeF]
     by_cases e : y = x
     · subst e; simp [setN, Nd.no]
     · simp [setN, e]
   rw [ee] at h1
   exact h1
 · intro y hy
   obtain ⟨e, hy'⟩ := hk y hy
   simp only [setN_other _ _ e]
   refine (turned_block h2 fun q => ?_).trans (h.nd y hy')
   have := h.nd y hy'; unfold SBox at this; rw [q, hmap] at this; cases this
 · intro y hy
   obtain ⟨e, hy'⟩ := hk y hy
   exact (h.ent y hy').block (turned_block h2 (h.iM y hy').2.1)
 · intro y hy
   obtain ⟨e, hy'⟩ := hk y hy
   obtain ⟨g, g1, g2⟩ := h.pg y hy'
   simp only [setN_other _ _ e]
   exact ⟨g, g1, g2.block (turned_block h2 (h.iM y hy').2.2)⟩
 · intro y
   by_cases e : y = x
   · subst e; simp only [setN_same]; exact ⟨by decide, by decide⟩
   · simp only [setN_other _ _ e]; exact h.lk y
 · intro y
   by_cases e : y = x
   · subst e; simp only [setN_same]; decide
   · simp only [setN_other _ _ e]; exact h.dt y
end Go.Proofs.YtmfhnhnmdeabeaaGreat.Tr
end
section
namespace Go.Proofs.YtmfhnhnmdeabeaaGreat.Tr
open Go.RowKit Go.Shelf Go.Maps Oct Path
variable {W : World} {E : TL} {room q : Nat} {S : T}
def gain (v : Nd) (d : Nat) : Nd := if v.kind = 2 then { v with up := d } else { v with links := v.links + 1 }
set_option maxHeartbeats 4000000 in
theorem enter_any (hT : TreeAt W E room q S) (hq : q < 100000) (dir ino : Nat) (s : ByteArray) (hs : s.size ≤ maxLen) (hd : dir < 4294967296) (hi : ino < 4294967296) (kd : (S.n dir).kind ≠ 0) (ki : (S.n ino).kind ≠ 0) (hi0 : ino ≠ 0) (hlk : (S.n ino).links < 100000) :
   Calls Tryz.prog 150 #[.pointer (some ⟨E.t, 0, none⟩), .int .u32 dir, .string s, .int .u32 ino] W fun e w' => e = .returned (.tuple #[]) ∧ TreeAt w' E room (q + 1) ⟨setN S.n ino (gain (S.n ino) dir), setL S.l dir (L s) ino⟩ ∧ Tch E.O W w' := by
 obtain ⟨W1, hput, hT1, hm⟩ := hT.entSet hq kd s hs ino hi0
 have o := hT.own
 have T1 : Hid (Tch E.O W W1) := Lib.hid (Tch.turned hm (o.2.2 dir kd).2.1)
 have LK := hT.look_is hd kd
 have hY := hT.top
 have Y0 := hY.cell 0
 have Y1 := hY.cell 1
 simp only [List.getElem?_toArray, List.getElem?_cons_zero, List.getElem?_cons_succ] at Y0 Y1
 have Yl := hY.lt
 have hZ := hT.nd dir kd
 have Z0 := hZ.cell 0
 have Z1 := hZ.cell 1
 have Z2 := hZ.cell 2
 have Z3 := hZ.cell 3
 have Z4 := hZ.cell 4
 have Z5 := hZ.cell 5
 have Z6 := hZ.cell 6
 simp only [List.getElem?_toArray, List.getElem?_cons_zero, List.getElem?_cons_succ] at Z0 Z1 Z2 Z3 Z4 Z5 Z6
 have Zl := hZ.lt
 have LK1 := hT1.look_is hi ki
 have hU := hT1.top
 have U0 := hU.cell 0
 have U1 := hU.cell 1
 simp only [List.getElem?_toArray, List.getElem?_cons_zero, List.getElem?_cons_succ] at U0 U1
 have Ul := hU.lt
 have hV := hT1.nd ino ki
 have HV := Lib.hid hV
 have V0 := hV.cell 0
 have V1 := hV.cell 1
 have V2 := hV.cell 2
 have V3 := hV.cell 3
 have V4 := hV.cell 4
 have V5 := hV.cell 5
 have V6 := hV.cell 6
 simp only [List.getElem?_toArray, List.getElem?_cons_zero, List.getElem?_cons_succ] at V0 V1 V2 V3 V4 V5 V6
 have Vl := hV.lt
 have hF := hV.free
 have F1 := hF 1
 have F6 := hF 6
 have D := Lib.hid (hT1.dir ki)
 have HT1 := Lib.hid hT1
 have OP := Lib.hid (o.2.2 ino ki).1
 have KI := Lib.hid ki
 have HL := Lib.hid (hT1.lk ino)
 have HK := Lib.hid hlk
 clear hY hZ hU hV hF hm hT hT1 o kd
 simp only at *
 by_cases h2 : (S.n ino).kind = 2
 · have FIN : Hid (TreeAt (W1.setCell ⟨E.P ino, 6, none⟩ (.int .u32 dir)) E room (q + 1) ⟨setN S.n ino (gain (S.n ino) dir), setL S.l dir (L s) ino⟩) := Lib.hid (HT1.out.node KI.out _ (by unfold gain; rw [if_pos h2]) (by unfold gain; rw [if_pos h2])
     (by
       have := HV.out.set 6 (.int .u32 dir)
       unfold gain
       rw [if_pos h2]
       simpa using this) (fun b hb _ => heap_setCell_other W1 ⟨E.P ino, 6, none⟩ b _ hb) (by unfold gain; rw [if_pos h2]; exact HL.out))
   have tb : ((S.n ino).kind == 2) = true := by simp [h2]
   rw [tb] at D
   clear tb h2 HV HL KI ki hlk
   go_enter Tryz.func150, Tryz.ntmps150
   go_wp2_with fail
   refine Calls.mono D.out ?_
   rintro e w8 ⟨rfl, rfl⟩
   go_wp2_with fail
   go_end0
   exact ⟨rfl, FIN.out, T1.out.trans (Tch.cell OP.out)⟩
 · have FIN : Hid (TreeAt (W1.setCell ⟨E.P ino, 1, none⟩ (.int .i64 (((S.n ino).links + 1 : Nat) : Int))) E room (q + 1) ⟨setN S.n ino (gain (S.n ino) dir), setL S.l dir (L s) ino⟩) := Lib.hid (HT1.out.node KI.out _ (by unfold gain; rw [if_neg h2]) (by unfold gain; rw [if_neg h2])
     (by
       have := HV.out.set 1 (.int .i64 (((S.n ino).links + 1 : Nat) : Int))
       unfold gain
       rw [if_neg h2]
       simpa using this) (fun b hb _ => heap_setCell_other W1 ⟨E.P ino, 1, none⟩ b _ hb) (by unfold gain; rw [if_neg h2]; exact ⟨HK.out, HL.out.2⟩))
   have tb : ((S.n ino).kind == 2) = false := by simp [h2]
   rw [tb] at D
   clear tb h2 HV HL KI ki
   obtain ⟨l, hl⟩ : ∃ l, (S.n ino).links = l := ⟨_, rfl⟩
   rw [hl] at V1 hlk FIN
   rw [Int.natCast_add] at FIN
   clear hl HK
   go_enter Tryz.func150, Tryz.ntmps150
   go_wp2_with fail
   refine Calls.mono D.out ?_
   rintro e w8 ⟨rfl, rfl⟩
   go_wp2_with fail
   go_end0
   exact ⟨rfl, FIN.out, T1.out.trans (Tch.cell OP.out)⟩
def loss (v : Nd) : Nd := if v.kind = 2 then { v with up := 0 } else { v with links := v.links - 1 }
theorem loss_kind (v : Nd) : (loss v).kind = v.kind := by unfold loss; split <;> rfl
theorem loss_data (v : Nd) : (loss v).data = v.data := by unfold loss; split <;> rfl
set_option maxHeartbeats 4000000 in
theorem leave_any (hT : TreeAt W E room q S) (dir ino : Nat) (s : ByteArray) (hs : s.size ≤ maxLen) (hd : dir < 4294967296) (hi : ino < 4294967296) (kd : (S.n dir).kind ≠ 0) (ki : (S.n ino).kind ≠ 0) (hl : S.l dir (L s) = ino) (hlk : (S.n ino).kind ≠ 2 → (S.n ino).links ≠ 0) :
   Calls Tryz.prog 157 #[.pointer (some ⟨E.t, 0, none⟩), .int .u32 dir, .string s] W fun e w' => e = .returned (.tuple #[]) ∧ TreeAt w' E room q ⟨setN S.n ino (loss (S.n ino)), setL S.l dir (L s) 0⟩ ∧ Tch E.O W w' := by
 have o := hT.own
 have OP := (o.2.2 ino ki).1
 have HO := (o.2.2 dir kd).2.1
 have HL := hT.lk ino
 have HT := Lib.hid hT
 have HKI := Lib.hid ki
 have HKD := Lib.hid kd
 have HLK := Lib.hid hlk
 have OP' := Lib.hid OP
 have HO' := Lib.hid HO
 have HL' := Lib.hid HL
 have LKd := fun n => (hT.drewN n).look_is hd kd
 have LKi := fun n => (hT.drewN n).look_is hi ki
 have EN := fun n => (hT.drewN n).entry kd hs
 have HE := Lib.hid hl
 simp only [show s.data.toList = L s from rfl, hl] at EN
 have hY := hT.top
 have Y0 := hY.cell 0
 have Y1 := hY.cell 1
 simp only [List.getElem?_toArray, List.getElem?_cons_zero, List.getElem?_cons_succ] at Y0 Y1
 have Yl := hY.lt
 have hZ := hT.nd dir kd
 have Z0 := hZ.cell 0
 have Z1 := hZ.cell 1
 have Z2 := hZ.cell 2
 have Z3 := hZ.cell 3
 have Z4 := hZ.cell 4
 have Z5 := hZ.cell 5
 have Z6 := hZ.cell 6
 simp only [List.getElem?_toArray, List.getElem?_cons_zero, List.getElem?_cons_succ] at Z0 Z1 Z2 Z3 Z4 Z5 Z6
 have Zl := hZ.lt
 clear hY hZ o kd ki hlk OP HO HL hT hl
 go_enter Tryz.func157, Tryz.ntmps157
 go_wp2_with fail
 go_quiet (fail)
 have HTq := Lib.hid (HT.out.drewN nq)
 have T0 : Hid (Tch E.O W (W.drewN nq)) := Lib.hid (Tch.of below_n)
 clear LKd LKi EN Y0 Y1 Yl Z0 Z1 Z2 Z3 Z4 Z5 Z6 Zl
 generalize W.drewN nq = Wq at *
 have ki := HKI.out
 have kd := HKD.out
 have hV := HTq.out.nd ino ki
 have HV := Lib.hid hV
 have V0 := hV.cell 0
 have V1 := hV.cell 1
 have V2 := hV.cell 2
 have V3 := hV.cell 3
 have V4 := hV.cell 4
 have V5 := hV.cell 5
 have V6 := hV.cell 6
 simp only [List.getElem?_toArray, List.getElem?_cons_zero, List.getElem?_cons_succ] at V0 V1 V2 V3 V4 V5 V6
 have Vl := hV.lt
 have hF := hV.free
 have F1 := hF 1
 have F6 := hF 6
 have D := Lib.hid (HTq.out.dir ki)
 have HO := HO'.out
 have OP := OP'.out
 clear hV hF HT
 by_cases h2 : (S.n ino).kind = 2
 · have tb : ((S.n ino).kind == 2) = true := by simp [h2]
   rw [tb] at D
   have hT1 : TreeAt (Wq.setCell ⟨E.P ino, 6, none⟩ (.int .u32 0)) E room q ⟨setN S.n ino (loss (S.n ino)), S.l⟩ := HTq.out.node ki _ (loss_kind _) (loss_data _)
     (by
       have := HV.out.set 6 (.int .u32 0)
       unfold loss
       rw [if_pos h2]
       simpa using this) (fun b hb _ => heap_setCell_other Wq ⟨E.P ino, 6, none⟩ b _ hb) (by unfold loss; rw [if_pos h2]; exact HL'.out)
   obtain ⟨W2, hdel, hT2, hm⟩ := hT1.entDel (d := dir) (by show (setN S.n ino (loss (S.n ino)) dir).kind ≠ 0; rw [kind_set (loss_kind _)]; exact kd) s hs 0
   have FIN := Lib.hid hT2
   have TQ : Hid (Tch E.O W W2) := Lib.hid ((T0.out.trans (Tch.cell OP)).trans (Tch.turned hm HO))
   have LK2 := hT1.look_is hd (by show (setN S.n ino (loss (S.n ino)) dir).kind ≠ 0; rw [kind_set (loss_kind _)]; exact kd)
   have hU := hT1.top
   have U0 := hU.cell 0
   have U1 := hU.cell 1
   simp only [List.getElem?_toArray, List.getElem?_cons_zero, List.getElem?_cons_succ] at U0 U1
   have Ul := hU.lt
   have hZ2 := hT1.nd dir (by show (setN S.n ino (loss (S.n ino)) dir).kind ≠ 0; rw [kind_set (loss_kind _)]; exact kd)
   have Z0 := hZ2.cell 0
   have Z1 := hZ2.cell 1
   have Z2 := hZ2.cell 2
   have Z3 := hZ2.cell 3
   have Z4 := hZ2.cell 4
   have Z5 := hZ2.cell 5
   have Z6 := hZ2.cell 6
   simp only [List.getElem?_toArray, List.getElem?_cons_zero, List.getElem?_cons_succ] at Z0 Z1 Z2 Z3 Z4 Z5 Z6
   have Zl := hZ2.lt
   clear hU hZ2 hT1 hT2 hm HV HTq T0 HO OP kd
   clear tb h2 HKI HKD HLK HE HL' HO' OP' ki
   go_wp2_with fail
   refine Calls.mono D.out ?_
   rintro e w8 ⟨rfl, rfl⟩
   go_wp2_with fail
   go_end0
   exact ⟨rfl, FIN.out, TQ.out⟩
 · have tb : ((S.n ino).kind == 2) = false := by simp [h2]
   rw [tb] at D
   have hlk0 := HLK.out h2
   have hT1 : TreeAt (Wq.setCell ⟨E.P ino, 1, none⟩ (.int .i64 (((S.n ino).links - 1 : Nat) : Int))) E room q ⟨setN S.n ino (loss (S.n ino)), S.l⟩ := HTq.out.node ki _ (loss_kind _) (loss_data _)
     (by
       have := HV.out.set 1 (.int .i64 (((S.n ino).links - 1 : Nat) : Int))
       unfold loss
       rw [if_neg h2]
       simpa using this) (fun b hb _ => heap_setCell_other Wq ⟨E.P ino, 1, none⟩ b _ hb) (by unfold loss; rw [if_neg h2]; exact ⟨by have := HL'.out.1; show (S.n ino).links - 1 ≤ 100000; omega, HL'.out.2⟩)
   obtain ⟨W2, hdel, hT2, hm⟩ := hT1.entDel (d := dir) (by show (setN S.n ino (loss (S.n ino)) dir).kind ≠ 0; rw [kind_set (loss_kind _)]; exact kd) s hs 0
   have FIN := Lib.hid hT2
   have TQ : Hid (Tch E.O W W2) := Lib.hid ((T0.out.trans (Tch.cell OP)).trans (Tch.turned hm HO))
   have LK2 := hT1.look_is hd (by show (setN S.n ino (loss (S.n ino)) dir).kind ≠ 0; rw [kind_set (loss_kind _)]; exact kd)
   have hU := hT1.top
   have U0 := hU.cell 0
   have U1 := hU.cell 1
   simp only [List.getElem?_toArray, List.getElem?_cons_zero, List.getElem?_cons_succ] at U0 U1
   have Ul := hU.lt
   have hZ2 := hT1.nd dir (by show (setN S.n ino (loss (S.n ino)) dir).kind ≠ 0; rw [kind_set (loss_kind _)]; exact kd)
   have Z0 := hZ2.cell 0
   have Z1 := hZ2.cell 1
   have Z2 := hZ2.cell 2
   have Z3 := hZ2.cell 3
   have Z4 := hZ2.cell 4
   have Z5 := hZ2.cell 5
   have Z6 := hZ2.cell 6
   simp only [List.getElem?_toArray, List.getElem?_cons_zero, List.getElem?_cons_succ] at Z0 Z1 Z2 Z3 Z4 Z5 Z6
   have Zl := hZ2.lt
   clear hU hZ2 hT1 hT2 hm HV HTq T0 HO OP kd
   clear tb h2 HKI HKD HLK HE HO' OP' ki
   have hl2 := HL'.out.1
   clear HL'
   obtain ⟨l, hl⟩ : ∃ l, (S.n ino).links = l := ⟨_, rfl⟩
   rw [hl] at V1 hlk0 hl2 hdel LK2 U0 U1 Ul Z0 Z1 Z2 Z3 Z4 Z5 Z6 Zl
   rw [show (((l - 1 : Nat)) : Int) = (l : Int) - 1 by omega] at hdel LK2 U0 U1 Ul Z0 Z1 Z2 Z3 Z4 Z5 Z6 Zl
   clear hl
   go_wp2_with fail
   refine Calls.mono D.out ?_
   rintro e w8 ⟨rfl, rfl⟩
   go_wp2_with fail
   go_end0
   exact ⟨rfl, FIN.out, TQ.out⟩
end Go.Proofs.YtmfhnhnmdeabeaaGreat.Tr
end
section
namespace Go.Proofs.YtmfhnhnmdeabeaaGreat.Tr
open Go.RowKit Go.Shelf Go.Maps Oct Path
variable {W : World} {E : TL} {room q : Nat} {S : T}
def freeB (x : Nat) (v : Nd) : Bool := x != 1 && v.held == 0 && (if v.kind = 2 then v.up == 0 else v.links == 0)
def freeS (S : T) (x : Nat) : T := if freeB x (S.n x) then ⟨setN S.n x Nd.no, S.l⟩ else S
set_option maxHeartbeats 4000000 in
theorem free_any (hT : TreeAt W E room q S) (ino : Nat) (hi : ino < 4294967296) (ki : (S.n ino).kind ≠ 0) :
   Calls Tryz.prog 66 #[.pointer (some ⟨E.t, 0, none⟩), .int .u32 ino] W fun e w' => e = .returned (.tuple #[]) ∧ TreeAt w' E room q (freeS S ino) ∧ Tch E.O W w' := by
 obtain ⟨W2, hdel, hT2, hm⟩ := hT.gone hi 0
 have FIN := Lib.hid hT2
 have TQ : Hid (Tch E.O W W2) := Lib.hid (Tch.turned hm hT.own.2.1)
 have HT := Lib.hid hT
 have LK := hT.look_is hi ki
 have hY := hT.top
 have Y0 := hY.cell 0
 have Y1 := hY.cell 1
 simp only [List.getElem?_toArray, List.getElem?_cons_zero, List.getElem?_cons_succ] at Y0 Y1
 have Yl := hY.lt
 have hV := hT.nd ino ki
 have V0 := hV.cell 0
 have V1 := hV.cell 1
 have V2 := hV.cell 2
 have V3 := hV.cell 3
 have V4 := hV.cell 4
 have V5 := hV.cell 5
 have V6 := hV.cell 6
 simp only [List.getElem?_toArray, List.getElem?_cons_zero, List.getElem?_cons_succ] at V0 V1 V2 V3 V4 V5 V6
 have Vl := hV.lt
 have D := Lib.hid (hT.dir ki)
 clear hT2 hm hT hY hV ki
 unfold freeS freeB
 by_cases h1 : ino = 1
 · have b1 : (ino != 1) = false := by simp [h1]
   have t1 : ((ino : Int) != 1) = false := by simp; omega
   simp only [b1, Bool.false_and, Bool.false_eq_true, if_false]
   clear hdel FIN TQ b1 h1
   go_enter Tryz.func66, Tryz.ntmps66
   go_wp2_with fail
   go_end0
   exact ⟨rfl, HT.out, Tch.refl _ _⟩
 · have t1 : ((ino : Int) != 1) = true := by simp; omega
   have b1 : (ino != 1) = true := by simpa using h1
   rw [b1, Bool.true_and]
   clear b1 h1
   obtain ⟨hl, hh⟩ : ∃ hl, (S.n ino).held = hl := ⟨_, rfl⟩
   rw [hh] at V5 ⊢
   clear hh
   by_cases h2 : hl = 0
   · subst h2
     simp only [beq_self_eq_true, Bool.true_and]
     by_cases h3 : (S.n ino).kind = 2
     · rw [if_pos h3]
       have b3 : ((S.n ino).kind == 2) = true := by simp [h3]
       rw [b3] at D
       clear b3 h3
       obtain ⟨u, hu⟩ : ∃ u, (S.n ino).up = u := ⟨_, rfl⟩
       rw [hu] at V6 ⊢
       clear hu
       by_cases h4 : u = 0
       · subst h4
         simp only [beq_self_eq_true, if_true]
         go_enter Tryz.func66, Tryz.ntmps66
         go_wp2_with fail
         refine Calls.mono D.out ?_
         rintro e w8 ⟨rfl, rfl⟩
         go_wp2_with fail
         go_end0
         exact ⟨rfl, FIN.out, TQ.out⟩
       · have t4 : ((u : Int) == 0) = false := by simp; omega
         have b4 : (u == 0) = false := by simpa using h4
         simp only [b4, Bool.false_eq_true, if_false]
         clear hdel FIN TQ b4 h4
         go_enter Tryz.func66, Tryz.ntmps66
         go_wp2_with fail
         refine Calls.mono D.out ?_
         rintro e w8 ⟨rfl, rfl⟩
         go_wp2_with fail
         refine Calls.mono D.out ?_
         rintro e w8 ⟨rfl, rfl⟩
         go_wp2_with fail
         go_end0
         exact ⟨rfl, HT.out, Tch.refl _ _⟩
     · rw [if_neg h3]
       have b3 : ((S.n ino).kind == 2) = false := by simp [h3]
       rw [b3] at D
       clear b3 h3
       obtain ⟨u, hu⟩ : ∃ u, (S.n ino).links = u := ⟨_, rfl⟩
       rw [hu] at V1 ⊢
       clear hu
       by_cases h4 : u = 0
       · subst h4
         simp only [beq_self_eq_true, if_true]
         go_enter Tryz.func66, Tryz.ntmps66
         go_wp2_with fail
         refine Calls.mono D.out ?_
         rintro e w8 ⟨rfl, rfl⟩
         go_wp2_with fail
         refine Calls.mono D.out ?_
         rintro e w8 ⟨rfl, rfl⟩
         go_wp2_with fail
         go_end0
         exact ⟨rfl, FIN.out, TQ.out⟩
       · have t4 : ((u : Int) == 0) = false := by simp; omega
         have b4 : (u == 0) = false := by simpa using h4
         simp only [b4, Bool.false_eq_true, if_false]
         clear hdel FIN TQ b4 h4
         go_enter Tryz.func66, Tryz.ntmps66
         go_wp2_with fail
         refine Calls.mono D.out ?_
         rintro e w8 ⟨rfl, rfl⟩
         go_wp2_with fail
         refine Calls.mono D.out ?_
         rintro e w8 ⟨rfl, rfl⟩
         go_wp2_with fail
         go_end0
         exact ⟨rfl, HT.out, Tch.refl _ _⟩
   · have t2 : ((hl : Int) == 0) = false := by simp; omega
     have b2 : (hl == 0) = false := by simpa using h2
     simp only [b2, Bool.false_and, Bool.false_eq_true, if_false]
     clear hdel FIN TQ b2 h2
     go_enter Tryz.func66, Tryz.ntmps66
     go_wp2_with fail
     go_end0
     exact ⟨rfl, HT.out, Tch.refl _ _⟩
end Go.Proofs.YtmfhnhnmdeabeaaGreat.Tr
end
section
namespace Go.Proofs.YtmfhnhnmdeabeaaGreat.Tr
open Go.RowKit Go.Shelf Go.Maps Oct Path
def StayN (n : Nat) (w w' : World) : Prop := w.heap.size ≤ w'.heap.size ∧ ∀ b, n ≤ b → b < w.heap.size → w'.heap[b]? = w.heap[b]?
theorem StayN.refl (n : Nat) (w : World) : StayN n w w := ⟨Nat.le_refl _, fun _ _ _ => rfl⟩
theorem StayN.of {n : Nat} {w w' : World} (h : Below w.heap.size w w') : StayN n w w' := ⟨h.size, fun b _ hb => h.block b hb⟩
theorem stay_box {n : Nat} {W W' : World} {b : Nat} {t : TypeId} {cs : Array Value} (h : SBox W b t cs) (hn : n ≤ b) (hs : StayN n W W') : SBox W' b t cs := (hs.2 b hn h.lt).trans h
theorem stay_if {n i c : Nat} {w1 w2 : World} (hs : if i = c then StayN n w1 w2 else Below w1.heap.size w1 w2) : StayN n w1 w2 := by
 split at hs
 · exact hs
 · exact StayN.of hs
theorem wpOp_at {P : Program} {ops : Array Oper} {Q : Exit → Act → World → Prop} {i : Nat} {o : Oper} {K : Act → World → Prop} {a : Act} {w : World} (ho : ops[i]? = some o) (hg : o.guard = none) (h : o.wp P a w K Q) : wpOp P ops Q i K a w := by
 unfold wpOp
 rw [ho]
 have : Region.wanted o (yielded ops a.tmps) = true := by unfold Region.wanted; rw [hg]
 simp only [this, if_true]
 exact .inl h
def SlAt (n : Nat) (t : TypeId) (cs : Array Value) (v : Value) (w : World) : Prop := ∃ b, v = .slice (some ⟨b, 0, none⟩) cs.size cs.size ∧ n ≤ b ∧ SBox w b t cs
theorem SlAt.stay {n : Nat} {t : TypeId} {cs : Array Value} {v : Value} {w w' : World} (h : SlAt n t cs v w) (hs : StayN n w w') : SlAt n t cs v w' := by
 obtain ⟨b, h1, h2, h3⟩ := h
 exact ⟨b, h1, h2, stay_box h3 h2 hs⟩
def NamesAt (n : Nat) (ss : List ByteArray) (v : Value) (w : World) : Prop := ∃ p b, v = .func (.func 86) #[] #[.pointer (some ⟨p, 0, none⟩)] ∧ n ≤ p ∧ n ≤ b ∧
 SBox w p 75 #[.slice (some ⟨b, 0, none⟩) ss.length ss.length] ∧ SBox w b 9 (ss.map .string).toArray
theorem NamesAt.stay {n : Nat} {ss : List ByteArray} {v : Value} {w w' : World} (h : NamesAt n ss v w) (hs : StayN n w w') : NamesAt n ss v w' := by
 obtain ⟨p, b, h1, h2, h3, h4, h5⟩ := h
 exact ⟨p, b, h1, h2, h3, stay_box h4 h2 hs, stay_box h5 h3 hs⟩
def InosAt (f : FuncId) (n t : Nat) (xs : List Nat) (v : Value) (w : World) : Prop := ∃ l p b, v = .func (.func f) #[] #[.pointer (some ⟨l, 0, none⟩), .pointer (some ⟨p, 0, none⟩)] ∧ n ≤ l ∧ n ≤ p ∧ n ≤ b ∧
 SBox w l 63 #[.slice (some ⟨b, 0, none⟩) xs.length xs.length] ∧ SBox w p 27 #[.pointer (some ⟨t, 0, none⟩)] ∧ SBox w b 37 (xs.map fun x => .int .u32 (x : Nat)).toArray
theorem InosAt.stay {f : FuncId} {n t : Nat} {xs : List Nat} {v : Value} {w w' : World} (h : InosAt f n t xs v w) (hs : StayN n w w') : InosAt f n t xs v w' := by
 obtain ⟨l, p, b, h1, h2, h3, h4, h5, h6, h7⟩ := h
 exact ⟨l, p, b, h1, h2, h3, h4, stay_box h5 h2 hs, stay_box h6 h3 hs, stay_box h7 h4 hs⟩
theorem names_at {n : Nat} {ss : List ByteArray} {v : Value} {w : World} (h : SlAt n 9 (ss.map Value.string).toArray v w) (hn : n ≤ w.heap.size) :
   Calls Tryz.prog 47 #[v] w fun e w' => ∃ u, e = .returned u ∧ NamesAt n ss u w' ∧ Below w.heap.size w w' := by
 obtain ⟨b, rfl, h2, h3⟩ := h
 refine (names_mk _ _ _ w).mono ?_
 rintro e w' ⟨rfl, rfl⟩
 exact ⟨_, rfl, ⟨w.heap.size, b, rfl, hn, h2, by simpa using SBox.new w _ _, h3.alloc _⟩, (Below.refl _ _).alloc (Nat.le_refl _) _⟩
theorem there_at {n t : Nat} {xs : List Nat} {v : Value} {w : World} (h : SlAt n 37 (xs.map fun x => Value.int .u32 (x : Nat)).toArray v w) (hn : n ≤ w.heap.size) :
   Calls Tryz.prog 48 #[.pointer (some ⟨t, 0, none⟩), v] w fun e w' => ∃ u, e = .returned u ∧ InosAt 90 n t xs u w' ∧ Below w.heap.size w w' := by
 obtain ⟨b, rfl, h2, h3⟩ := h
 refine (there_mk _ _ _ _ w).mono ?_
 rintro e w' ⟨rfl, rfl⟩
 exact ⟨_, rfl, ⟨w.heap.size + 1, w.heap.size, b, rfl, by omega, hn, h2, by simpa using SBox.new (w.alloc _) _ _, (SBox.new w _ _).alloc _, (h3.alloc _).alloc _⟩, ((Below.refl _ _).alloc (Nat.le_refl _) _).alloc (by simp) _⟩
theorem dirs_at {n t : Nat} {xs : List Nat} {v : Value} {w : World} (h : SlAt n 37 (xs.map fun x => Value.int .u32 (x : Nat)).toArray v w) (hn : n ≤ w.heap.size) :
   Calls Tryz.prog 49 #[.pointer (some ⟨t, 0, none⟩), v] w fun e w' => ∃ u, e = .returned u ∧ InosAt 93 n t xs u w' ∧ Below w.heap.size w w' := by
 obtain ⟨b, rfl, h2, h3⟩ := h
 refine (dirs_mk _ _ _ _ w).mono ?_
 rintro e w' ⟨rfl, rfl⟩
 exact ⟨_, rfl, ⟨w.heap.size + 1, w.heap.size, b, rfl, by omega, hn, h2, by simpa using SBox.new (w.alloc _) _ _, (SBox.new w _ _).alloc _, (h3.alloc _).alloc _⟩, ((Below.refl _ _).alloc (Nat.le_refl _) _).alloc (by simp) _⟩
theorem NamesAt.call {n : Nat} {ss : List ByteArray} {v : Value} {w : World} (h : NamesAt n ss v w) (hs : ∀ s ∈ ss, s.size ≤ maxLen) (hl : ss.length ≤ 100) :
   ∃ p, v = .func (.func 86) #[] #[.pointer (some ⟨p, 0, none⟩)] ∧ Calls Tryz.prog 86 #[.pointer (some ⟨p, 0, none⟩)] w fun e w' => e = .returned (.int .i64 (errB (ss.any fun s => !isName (L s)) 2 : Nat)) ∧ Below w.heap.size w w' := by
 obtain ⟨p, b, h1, h2, h3, h4, h5⟩ := h
 refine ⟨p, h1, (names1_any p b ss.length ss.length (fun i => ss.getD i ⟨#[]⟩) w hl h4 h5.lt ?_ ?_).mono ?_⟩
 · intro i hi
   rw [h5.cell i]
   simp [hi]
 · intro i hi
   refine hs _ ?_
   simp [hi]
 · rintro e w' ⟨rfl, hb⟩
   refine ⟨?_, hb⟩
   have e1 : anyP ss.length (fun i => !isName (L (ss.getD i ⟨#[]⟩))) = ss.any fun s => !isName (L s) := by
     unfold anyP
     rw [Bool.eq_iff_iff, List.any_eq_true, List.any_eq_true]
     constructor
     · rintro ⟨i, hi, hp⟩
       have hi' : i < ss.length := by simpa using hi
       exact ⟨ss[i], List.getElem_mem hi', by simpa [hi'] using hp⟩
     · rintro ⟨s, hs, hp⟩
       obtain ⟨i, hi, rfl⟩ := List.getElem_of_mem hs
       exact ⟨i, by simpa using hi, by simpa [hi] using hp⟩
   rw [e1]
   rfl
variable {E : TL} {room q : Nat} {S : T}
theorem any_get {α : Type} (l : List α) (f : α → Bool) (d : α) : anyP l.length (fun i => f (l.getD i d)) = l.any f := by
 unfold anyP
 rw [Bool.eq_iff_iff, List.any_eq_true, List.any_eq_true]
 constructor
 · rintro ⟨i, hi, hp⟩
   have hi' : i < l.length := by simpa using hi
   exact ⟨l[i], List.getElem_mem hi', by simpa [hi'] using hp⟩
 · rintro ⟨s, hs, hp⟩
   obtain ⟨i, hi, rfl⟩ := List.getElem_of_mem hs
   exact ⟨i, by simpa using hi, by simpa [hi] using hp⟩
theorem there_call {n : Nat} {xs : List Nat} {v : Value} {w : World} (h : InosAt 90 n E.t xs v w) (hT : TreeAt w E room q S) (hs : ∀ x ∈ xs, x < 4294967296) (hl : xs.length ≤ 100) :
   ∃ l p, v = .func (.func 90) #[] #[.pointer (some ⟨l, 0, none⟩), .pointer (some ⟨p, 0, none⟩)] ∧ Calls Tryz.prog 90 #[.pointer (some ⟨l, 0, none⟩), .pointer (some ⟨p, 0, none⟩)] w fun e w' => e = .returned (.int .i64 (errB (xs.any fun x => (S.n x).kind == 0) 3 : Nat)) ∧ Below w.heap.size w w' := by
 obtain ⟨l, p, b, h1, h2, h3, h4, h5, h6, h7⟩ := h
 refine ⟨l, p, h1, (there1_any l p b xs.length xs.length (fun i => xs.getD i 0) w hl hT h5 h6 h7.lt ?_ ?_).mono ?_⟩
 · intro i hi
   rw [h7.cell i]
   simp [hi]
 · intro i hi
   refine hs _ ?_
   simp [hi]
 · rintro e w' ⟨rfl, hb⟩
   exact ⟨by rw [any_get xs (fun x => (S.n x).kind == 0) 0]; rfl, hb⟩
theorem dirs_call {n : Nat} {xs : List Nat} {v : Value} {w : World} (h : InosAt 93 n E.t xs v w) (hT : TreeAt w E room q S) (hs : ∀ x ∈ xs, x < 4294967296) (hl : xs.length ≤ 100) (hk : (xs.any fun x => (S.n x).kind == 0) = false) :
   ∃ l p, v = .func (.func 93) #[] #[.pointer (some ⟨l, 0, none⟩), .pointer (some ⟨p, 0, none⟩)] ∧ Calls Tryz.prog 93 #[.pointer (some ⟨l, 0, none⟩), .pointer (some ⟨p, 0, none⟩)] w fun e w' => e = .returned (.int .i64 (errB (xs.any fun x => !((S.n x).kind == 2)) 180 : Nat)) ∧ Below w.heap.size w w' := by
 obtain ⟨l, p, b, h1, h2, h3, h4, h5, h6, h7⟩ := h
 refine ⟨l, p, h1, (dirs1_any l p b xs.length xs.length (fun i => xs.getD i 0) w hl hT h5 h6 h7.lt ?_ ?_ ?_).mono ?_⟩
 · intro i hi
   rw [h7.cell i]
   simp [hi]
 · intro i hi
   refine hs _ ?_
   simp [hi]
 · intro i hi
   rw [List.any_eq_false] at hk
   have := hk (xs.getD i 0) (by simp [hi])
   simpa using this
 · rintro e w' ⟨rfl, hb⟩
   exact ⟨by rw [any_get xs (fun x => !((S.n x).kind == 2)) 0]; rfl, hb⟩
end Go.Proofs.YtmfhnhnmdeabeaaGreat.Tr
end
section
namespace Go.Proofs.YtmfhnhnmdeabeaaGreat.Tr
open Go.RowKit Go.Shelf Go.Maps Oct Path
variable {E : TL} {room q : Nat} {S : T}
def firstE : List Nat → Nat
 | [] => 0
 | e :: l => if e = 0 then firstE l else e
theorem firstE_all : ∀ (es : List Nat), (∀ e ∈ es, e = 0) → firstE es = 0
 | [], _ => rfl
 | e :: l, h => by unfold firstE; rw [if_pos (h e (by simp))]; exact firstE_all l fun x hx => h x (by simp [hx])
theorem firstE_at : ∀ (es : List Nat) (i : Nat), es.getD i 0 ≠ 0 → (∀ j < i, es.getD j 0 = 0) → firstE es = es.getD i 0
 | [], i, h, _ => absurd rfl h
 | e :: l, 0, h, _ => by unfold firstE; rw [if_neg (by simpa using h)]; rfl
 | e :: l, i + 1, h, hj => by
   unfold firstE
   rw [if_pos (by simpa using hj 0 (by omega))]
   have := firstE_at l i (by simpa using h) fun j hji => by simpa using hj (j + 1) (by omega)
   simpa using this
theorem check_pure (t b cap : Nat) (g : Nat → Nat) (lb : Nat → Array Value) (es : List Nat) (hn : es.length ≤ 100) (cs : Array Value) (w : World) (hb : SBox w b 93 cs) (hcs : ∀ i, i < es.length → cs[i]? = some (.func (.func (g i)) #[] (lb i)))
   (he : ∀ i W, i < es.length → (callFunc (g i) (lb i)).run Tryz.prog W = .ok (.enter (g i) (lb i)) W)
   (hs : ∀ i W, i < es.length → Below w.heap.size w W → (∀ j < i, es.getD j 0 = 0) → Calls Tryz.prog (g i) (lb i) W fun e W' => e = .returned (.int .i64 (es.getD i 0 : Nat)) ∧ Below W.heap.size W W') :
   Calls Tryz.prog 46 #[.pointer (some ⟨t, 0, none⟩), .slice (some ⟨b, 0, none⟩) es.length cap] w fun e w' => e = .returned (.int .i64 (firstE es : Nat)) ∧ Below w.heap.size w w' := by
 refine (check_any t b es.length hn cap g lb (fun i W => Below w.heap.size w W ∧ ∀ j < i, es.getD j 0 = 0) (fun k W => Below w.heap.size w W ∧ k = firstE es) w ⟨Below.refl _ _, fun j hj => absurd hj (Nat.not_lt_zero _)⟩ he ?_ ?_).mono ?_
 · rintro i W hi ⟨hB, _⟩
   have h := hb.later hB
   exact ⟨by rw [h.cell i]; exact hcs i hi, h.lt⟩
 · rintro i W hi ⟨hB, hz⟩
   refine (hs i W hi hB hz).mono ?_
   rintro e W' ⟨rfl, hB'⟩
   refine ⟨_, rfl, ?_⟩
   by_cases h0 : es.getD i 0 = 0
   · exact .inl ⟨h0, hB.trans (hB'.mono hB.size), fun j hj => (Nat.lt_succ_iff_lt_or_eq.1 hj).elim (hz j) fun e => by rw [e]; exact h0⟩
   · exact .inr ⟨h0, hB.trans (hB'.mono hB.size), (firstE_at es i h0 hz).symm⟩
 · rintro e w' ⟨k, rfl, ⟨rfl, hB, hz⟩ | ⟨_, hB, rfl⟩⟩
   · refine ⟨?_, hB⟩
     rw [firstE_all es fun x hx => by
       obtain ⟨i, hi, rfl⟩ := List.getElem_of_mem hx
       simpa [hi] using hz i hi]
   · exact ⟨rfl, hB⟩
end Go.Proofs.YtmfhnhnmdeabeaaGreat.Tr
end
section
namespace Go.Proofs.YtmfhnhnmdeabeaaGreat.Tr
open Go.RowKit Go.Shelf Go.Maps Oct Path
variable {E : TL} {room q : Nat} {S : T}
def fileE (S : T) (x : Nat) : Nat := firstE [errB ((S.n x).kind == 0) 3, errB ((S.n x).kind == 2) 181]
theorem check_file (t b x : Nat) (w : World) (hT : TreeAt w E room q S) (hx : x < 4294967296) (l p b0 a c : Nat) (hb : SBox w b 93 #[.func (.func 90) #[] #[.pointer (some ⟨l, 0, none⟩), .pointer (some ⟨p, 0, none⟩)], .func (.func 116) #[] #[.pointer (some ⟨a, 0, none⟩), .pointer (some ⟨c, 0, none⟩)]])
   (h1 : SBox w l 63 #[.slice (some ⟨b0, 0, none⟩) 1 1]) (h2 : SBox w p 27 #[.pointer (some ⟨E.t, 0, none⟩)]) (h3 : SBox w b0 37 #[.int .u32 x]) (h4 : SBox w a 27 #[.pointer (some ⟨E.t, 0, none⟩)]) (h5 : SBox w c 37 #[.int .u32 x]) :
   Calls Tryz.prog 46 #[.pointer (some ⟨t, 0, none⟩), .slice (some ⟨b, 0, none⟩) 2 2] w fun e w' => e = .returned (.int .i64 (fileE S x : Nat)) ∧ Below w.heap.size w w' := by
 refine check_pure t b 2 (fun | 0 => 90 | _ => 116) (fun | 0 => #[.pointer (some ⟨l, 0, none⟩), .pointer (some ⟨p, 0, none⟩)] | _ => #[.pointer (some ⟨a, 0, none⟩), .pointer (some ⟨c, 0, none⟩)])
   [errB ((S.n x).kind == 0) 3, errB ((S.n x).kind == 2) 181] (by simp) _ w hb ?_ ?_ ?_
 · intro i hi
   match i, hi with
   | 0, _ => rfl
   | 1, _ => rfl
   | i + 2, hi => exact absurd hi (by simp)
 · intro i W hi
   match i, hi with
   | 0, _ => exact enters_of Tryz.func90 (by kernel_rfl) rfl _ W
   | 1, _ => exact enters_of Tryz.func116 (by kernel_rfl) rfl _ W
   | i + 2, hi => exact absurd hi (by simp)
 · intro i W hi hB hz
   match i, hi with
   | 0, _ =>
     obtain ⟨l', p', e, hc⟩ := there_call (n := 0) (w := W) (xs := [x]) ⟨l, p, b0, rfl, Nat.zero_le _, Nat.zero_le _, Nat.zero_le _, h1.later hB, h2.later hB, h3.later hB⟩ (hT.later hB) (by simpa using hx) (by simp)
     cases e
     refine hc.mono ?_
     rintro e w2 ⟨rfl, hb2⟩
     exact ⟨by simp, hb2⟩
   | 1, _ =>
     have hk : (S.n x).kind ≠ 0 := fun e => by have := hz 0 (by omega); simp [errB, e] at this
     exact file1_any a c x hx hk W (hT.later hB) (h4.later hB) (h5.later hB)
   | i + 2, hi => exact absurd hi (by simp)
def holdS (S : T) (x : Nat) : T := if fileE S x = 0 then ⟨setN S.n x { S.n x with held := (S.n x).held + 1 }, S.l⟩ else S
theorem fileE_ok {S : T} {x : Nat} (h : fileE S x = 0) : (S.n x).kind ≠ 0 ∧ (S.n x).kind ≠ 2 := by
 unfold fileE firstE errB at h
 constructor <;> intro e <;> simp [e, firstE] at h
set_option maxHeartbeats 4000000 in
theorem hold_any (w : World) (hT : TreeAt w E room q S) (x : Nat) (hx : x < 4294967296) (hh : (S.n x).held < 100000) :
   Calls Tryz.prog 60 #[.pointer (some ⟨E.t, 0, none⟩), .int .u32 x] w fun e w' => e = .returned (.int .i64 (fileE S x : Nat)) ∧ TreeAt w' E room q (holdS S x) ∧ Tch E.O w w' := by
 have HT := Lib.hid hT
 have HH := Lib.hid hh
 clear hT hh
 go_enter Tryz.func60, Tryz.ntmps60
 go_wp2_with fail
 refine Calls.mono (there_at (n := 0) (t := E.t) (xs := [x]) ⟨w.heap.size, rfl, Nat.zero_le _, SBox.new w _ _⟩ (Nat.zero_le _)) ?_
 rintro e w2 ⟨u, rfl, ⟨l, p, b0, rfl, _, _, _, h1, h2, h3⟩, hb2⟩
 have B2 := Lib.hid (((Below.refl _ w).alloc (Nat.le_refl _) (.cells #[.int .u32 x] 37)).trans (hb2.mono (by simp)))
 have HI := Lib.hid (And.intro h1 (And.intro h2 h3))
 clear h1 h2 h3 hb2
 go_wp2_with fail
 refine Calls.mono (file_mk _ _ w2) ?_
 rintro e w3 ⟨rfl, rfl⟩
 go_wp2_with fail
 have hal := (((Below.refl _ w2).alloc (Nat.le_refl _) (.cells #[.pointer (some ⟨E.t, 0, none⟩)] 27)).alloc (by simp) (.cells #[.int .u32 x] 37)).alloc (by simp; omega) (.cells #[.func (.func 90) #[] #[.pointer (some ⟨l, 0, none⟩), .pointer (some ⟨p, 0, none⟩)], .func (.func 116) #[] #[.pointer (some ⟨w2.heap.size, 0, none⟩), .pointer (some ⟨w2.heap.size + 1, 0, none⟩)]] 93)
 have hT3 := (HT.out.later B2.out).later hal
 refine Calls.mono (check_file E.t (w2.heap.size + 1 + 1) x _ hT3 hx l p b0 w2.heap.size (w2.heap.size + 1) (by simpa using SBox.new ((w2.alloc _).alloc _) _ _) (HI.out.1.later hal) (HI.out.2.1.later hal) (HI.out.2.2.later hal) (((SBox.new w2 _ _).alloc _).alloc _) (by simpa using (SBox.new (w2.alloc _) _ _).alloc _)) ?_
 rintro e w4 ⟨rfl, hb4⟩
 have HT4 := Lib.hid (hT3.later hb4)
 have B4 : Hid (Below w.heap.size w w4) := Lib.hid ((B2.out.trans (hal.mono B2.out.size)).trans (hb4.mono (Nat.le_trans B2.out.size hal.size)))
 clear hb4 hT3 hal HT B2 HI
 by_cases h0 : fileE S x = 0
 · have H0 := Lib.hid h0
   obtain ⟨k0, k2⟩ := fileE_ok h0
   have LK := HT4.out.look_is hx k0
   have hY := HT4.out.top
   have Y0 := hY.cell 0
   have Y1 := hY.cell 1
   simp only [List.getElem?_toArray, List.getElem?_cons_zero, List.getElem?_cons_succ] at Y0 Y1
   have Yl := hY.lt
   have hV := HT4.out.nd x k0
   have HV := Lib.hid hV
   have V0 := hV.cell 0
   have V1 := hV.cell 1
   have V2 := hV.cell 2
   have V3 := hV.cell 3
   have V4 := hV.cell 4
   have V5 := hV.cell 5
   have V6 := hV.cell 6
   simp only [List.getElem?_toArray, List.getElem?_cons_zero, List.getElem?_cons_succ] at V0 V1 V2 V3 V4 V5 V6
   have Vl := hV.lt
   have F5 := hV.free 5
   have FIN : Hid (TreeAt (w4.setCell ⟨E.P x, 5, none⟩ (.int .i64 (((S.n x).held : Int) + 1))) E room q ⟨setN S.n x { S.n x with held := (S.n x).held + 1 }, S.l⟩) := Lib.hid (HT4.out.node k0 _ rfl rfl (by
       have := HV.out.set 5 (.int .i64 (((S.n x).held : Int) + 1))
       simpa using this) (fun b hb _ => heap_setCell_other w4 ⟨E.P x, 5, none⟩ b _ hb) ⟨(HT4.out.lk x).1, HH.out⟩)
   have OP := Lib.hid (HT4.out.own.2.2 x k0).1
   have hh := HH.out
   rw [h0]
   clear hY hV HV HT4 k0 k2 h0 HH
   go_wp2_with fail
   go_ret
   exact ⟨by rw [H0.out]; rfl, by unfold holdS; rw [if_pos H0.out]; exact FIN.out, (Tch.of B4.out).trans (Tch.cell OP.out)⟩
 · have t0 : ((fileE S x : Int) == 0) = false := by simp; omega
   have H0 := Lib.hid h0
   clear h0
   go_wp2_with fail
   go_ret
   exact ⟨rfl, by unfold holdS; rw [if_neg H0.out]; exact HT4.out, Tch.of B4.out⟩
end Go.Proofs.YtmfhnhnmdeabeaaGreat.Tr
end
section
namespace Go.Proofs.YtmfhnhnmdeabeaaGreat.Tr
open Go.RowKit Go.Shelf Go.Maps Oct Path
variable {E : TL} {room q : Nat} {S : T}
def LookC (n : Nat) : Value := .func (.func 50) #[] #[.pointer (some ⟨n, 0, none⟩), .pointer (some ⟨n + 1, 0, none⟩), .pointer (some ⟨n + 1 + 1, 0, none⟩), .pointer (some ⟨n + 1 + 1 + 1, 0, none⟩)]
def LookBase (wz : World) (t dir : Nat) (s : ByteArray) (W : World) : Prop := Below wz.heap.size wz W ∧ wz.heap.size + 4 ≤ W.heap.size ∧ SBox W wz.heap.size 27 #[.pointer (some ⟨t, 0, none⟩)] ∧ SBox W (wz.heap.size + 1) 37 #[.int .u32 dir] ∧ SBox W (wz.heap.size + 1 + 1) 9 #[.string s]
def lookE (S : T) (dir : Nat) (s : Nm) : Nat := if isName s = false then 2 else if (S.n dir).kind = 0 then 3 else if (S.n dir).kind ≠ 2 then 180 else if S.l dir s = 0 then 3 else 0
def lookI (S : T) (dir : Nat) (s : Nm) : Nat := if lookE S dir s = 0 then S.l dir s else 0
def LookR (S : T) (dir : Nat) (s : ByteArray) (b : Nat) (v : Value) (W : World) : Prop := v = .int .i64 (lookE S dir (L s) : Nat) ∧ SBox W b 37 #[.int .u32 (lookI S dir (L s) : Nat)]
set_option maxHeartbeats 2000000 in
theorem look1_any (n dir : Nat) (s : ByteArray) (w : World) (hT : TreeAt w E room q S) (ha : SBox w n 27 #[.pointer (some ⟨E.t, 0, none⟩)]) (hb : SBox w (n + 1) 37 #[.int .u32 dir]) (hc : SBox w (n + 1 + 1) 9 #[.string s]) (z : Nat) (h6 : SBox w (n + 1 + 1 + 1) 37 #[.int .u32 z])
   (hs : s.size ≤ maxLen) (hx : dir < 4294967296) (hk : (S.n dir).kind ≠ 0) :
   Calls Tryz.prog 50 #[.pointer (some ⟨n, 0, none⟩), .pointer (some ⟨n + 1, 0, none⟩), .pointer (some ⟨n + 1 + 1, 0, none⟩), .pointer (some ⟨n + 1 + 1 + 1, 0, none⟩)] w fun e w' => e = .returned (.int .i64 (errB (S.l dir (L s) == 0) 3 : Nat)) ∧ SBox w' (n + 1 + 1 + 1) 37 #[.int .u32 (S.l dir (L s) : Nat)] ∧ Below (n + 1 + 1 + 1) w w' ∧ StayN (n + 1 + 1 + 1 + 1) w w' := by
 have A0 := ha.cell 0
 have B0 := hb.cell 0
 have C0 := hc.cell 0
 have D0 := h6.cell 0
 simp only [List.getElem?_toArray, List.getElem?_cons_zero] at A0 B0 C0 D0
 have F0 := h6.free 0
 have Al := ha.lt
 have Bl := hb.lt
 have Cl := hc.lt
 have Dl := h6.lt
 have H6 := Lib.hid h6
 have hY := hT.top
 have Y0 := hY.cell 0
 have Y1 := hY.cell 1
 simp only [List.getElem?_toArray, List.getElem?_cons_zero, List.getElem?_cons_succ] at Y0 Y1
 have Yl := hY.lt
 have LK := hT.drew.look_is hx hk
 have EN := hT.drew.entry hk hs
 have hZ := hT.nd dir hk
 have Z0 := hZ.cell 0
 have Z1 := hZ.cell 1
 have Z2 := hZ.cell 2
 have Z3 := hZ.cell 3
 have Z4 := hZ.cell 4
 have Z5 := hZ.cell 5
 have Z6 := hZ.cell 6
 simp only [List.getElem?_toArray, List.getElem?_cons_zero, List.getElem?_cons_succ] at Z0 Z1 Z2 Z3 Z4 Z5 Z6
 have Zl := hZ.lt
 simp only [show s.data.toList = L s from rfl] at EN
 clear hZ hk ha hb hc h6 hY hT
 generalize S.l dir (L s) = y at EN ⊢
 have K1' : Hid (SBox (w.setCell ⟨n + 1 + 1 + 1, 0, none⟩ (.int .u32 y)).drew (n + 1 + 1 + 1) 37 #[.int .u32 y]) := Lib.hid (H6.out.set 0 _).drew
 have K2' : Hid (Below (n + 1 + 1 + 1) w (w.setCell ⟨n + 1 + 1 + 1, 0, none⟩ (.int .u32 y)).drew) := Lib.hid ((Below.refl _ w).setCell (p := ⟨n + 1 + 1 + 1, 0, none⟩) (Nat.le_refl _) _).drew
 have K3' : Hid (StayN (n + 1 + 1 + 1 + 1) w (w.setCell ⟨n + 1 + 1 + 1, 0, none⟩ (.int .u32 y)).drew) := Lib.hid ⟨by simp, fun b hb _ => heap_setCell_other w ⟨n + 1 + 1 + 1, 0, none⟩ b _ (by show b ≠ n + 1 + 1 + 1; omega)⟩
 by_cases h0 : y = 0
 · subst h0
   go_enter Tryz.func50, Tryz.ntmps50
   go_wp2_with fail
   go_region
   go_wp2_with fail
   refine (as_yes 3 _).mono ?_
   rintro e w8 ⟨rfl, rfl⟩
   go_wp2_with fail
   go_ret
   exact ⟨rfl, K1'.out, K2'.out, K3'.out⟩
 · have t1 : ((y : Int) == 0) = false := by simp; omega
   have t2 : (y == 0) = false := by simp; omega
   rw [t2]
   clear h0 t2
   go_enter Tryz.func50, Tryz.ntmps50
   go_wp2_with fail
   go_region
   go_wp2_with fail
   refine (as_no 3 _).mono ?_
   rintro e w8 ⟨rfl, rfl⟩
   go_wp2_with fail
   go_ret
   exact ⟨rfl, K1'.out, K2'.out, K3'.out⟩
theorem base_later {wz : World} {t dir : Nat} {s : ByteArray} {W W' : World} (h : LookBase wz t dir s W) (hb : Below W.heap.size W W') : LookBase wz t dir s W' := by
 obtain ⟨a, b, c, d, e⟩ := h
 have := hb.size
 exact ⟨a.trans (hb.mono a.size), by omega, c.later hb, d.later hb, e.later hb⟩
set_option maxHeartbeats 2000000 in
theorem look_check (dir : Nat) (s : ByteArray) (wz w1 : World) (hT : TreeAt wz E room q S) (hs : s.size ≤ maxLen) (hd : dir < 4294967296) (hB : LookBase wz E.t dir s w1) (h6 : SBox w1 (wz.heap.size + 1 + 1 + 1) 37 #[.int .u32 0])
   (b : Nat) (v11 v15 v19 : Value) (hb : SBox w1 b 93 #[v11, v15, v19, LookC wz.heap.size]) (hbn : wz.heap.size + 1 + 1 + 1 + 1 ≤ b)
   (e11 : NamesAt (wz.heap.size + 1 + 1 + 1 + 1) [s] v11 w1) (e15 : InosAt 90 (wz.heap.size + 1 + 1 + 1 + 1) E.t [dir] v15 w1) (e19 : InosAt 93 (wz.heap.size + 1 + 1 + 1 + 1) E.t [dir] v19 w1) :
   Calls Tryz.prog 46 #[.pointer (some ⟨E.t, 0, none⟩), .slice (some ⟨b, 0, none⟩) 4 4] w1 fun e w2 => ∃ u, e = .returned u ∧ LookR S dir s (wz.heap.size + 1 + 1 + 1) u w2 ∧ LookBase wz E.t dir s w2 ∧ StayN (wz.heap.size + 1 + 1 + 1 + 1) w1 w2 := by
 obtain ⟨p1, b1, rfl, a1⟩ := e11
 obtain ⟨l2, p2, b2, rfl, a2⟩ := e15
 obtain ⟨l3, p3, b3, rfl, a3⟩ := e19
 refine (check_any E.t b 4 (by omega) 4
   (fun | 0 => 86 | 1 => 90 | 2 => 93 | _ => 50)
   (fun | 0 => #[.pointer (some ⟨p1, 0, none⟩)] | 1 => #[.pointer (some ⟨l2, 0, none⟩), .pointer (some ⟨p2, 0, none⟩)] | 2 => #[.pointer (some ⟨l3, 0, none⟩), .pointer (some ⟨p3, 0, none⟩)] | _ => #[.pointer (some ⟨wz.heap.size, 0, none⟩), .pointer (some ⟨wz.heap.size + 1, 0, none⟩), .pointer (some ⟨wz.heap.size + 1 + 1, 0, none⟩), .pointer (some ⟨wz.heap.size + 1 + 1 + 1, 0, none⟩)])
   (fun i W => LookBase wz E.t dir s W ∧ StayN (wz.heap.size + 1 + 1 + 1 + 1) w1 W ∧ SBox W (wz.heap.size + 1 + 1 + 1) 37 #[.int .u32 (if i = 4 then S.l dir (L s) else 0 : Nat)] ∧ (1 ≤ i → isName (L s) = true) ∧ (2 ≤ i → (S.n dir).kind ≠ 0) ∧ (3 ≤ i → (S.n dir).kind = 2) ∧ (4 ≤ i → S.l dir (L s) ≠ 0))
   (fun k W => LookBase wz E.t dir s W ∧ StayN (wz.heap.size + 1 + 1 + 1 + 1) w1 W ∧ k = lookE S dir (L s) ∧ SBox W (wz.heap.size + 1 + 1 + 1) 37 #[.int .u32 0])
   w1 ⟨hB, StayN.refl _ _, h6, fun h => absurd h (by omega), fun h => absurd h (by omega), fun h => absurd h (by omega), fun h => absurd h (by omega)⟩ ?_ ?_ ?_).mono ?_
 · intro i W hi
   match i, hi with
   | 0, _ => exact enters_of Tryz.func86 (by kernel_rfl) rfl _ W
   | 1, _ => exact enters_of Tryz.func90 (by kernel_rfl) rfl _ W
   | 2, _ => exact enters_of Tryz.func93 (by kernel_rfl) rfl _ W
   | 3, _ => exact enters_of Tryz.func50 (by kernel_rfl) rfl _ W
   | i + 4, hi => exact absurd hi (by omega)
 · rintro i W hi ⟨_, hst, _⟩
   have hb' := stay_box hb hbn hst
   refine ⟨?_, hb'.lt⟩
   rw [hb'.cell i]
   match i, hi with
   | 0, _ => rfl
   | 1, _ => rfl
   | 2, _ => rfl
   | 3, _ => rfl
   | i + 4, hi => exact absurd hi (by omega)
 · rintro i W hi ⟨hW, hst, h6', g1, g2, g3, g4⟩
   have hTW := hT.later hW.1
   match i, hi with
   | 0, _ =>
     obtain ⟨p', e, hc⟩ := NamesAt.call (w := W) (NamesAt.stay ⟨p1, b1, rfl, a1⟩ hst) (by simpa using hs) (by simp)
     cases e
     refine hc.mono ?_
     rintro e w2 ⟨rfl, hbw⟩
     have hst2 : StayN (wz.heap.size + 1 + 1 + 1 + 1) w1 w2 := ⟨Nat.le_trans hst.1 hbw.size, fun b h1 h2 => (hbw.block b (Nat.lt_of_lt_of_le h2 hst.1)).trans (hst.2 b h1 h2)⟩
     refine ⟨_, rfl, ?_⟩
     cases hn : isName (L s)
     · refine .inr ⟨by simp [errB, hn], base_later hW hbw, hst2, by simp [errB, hn, lookE], h6'.later hbw⟩
     · exact .inl ⟨by simp [errB, hn], base_later hW hbw, hst2, h6'.later hbw, fun _ => rfl, fun h => absurd h (by omega), fun h => absurd h (by omega), fun h => absurd h (by omega)⟩
   | 1, _ =>
     obtain ⟨l', p', e, hc⟩ := there_call (w := W) (InosAt.stay ⟨l2, p2, b2, rfl, a2⟩ hst) hTW (by simpa using hd) (by simp)
     cases e
     refine hc.mono ?_
     rintro e w2 ⟨rfl, hbw⟩
     have hst2 : StayN (wz.heap.size + 1 + 1 + 1 + 1) w1 w2 := ⟨Nat.le_trans hst.1 hbw.size, fun b h1 h2 => (hbw.block b (Nat.lt_of_lt_of_le h2 hst.1)).trans (hst.2 b h1 h2)⟩
     refine ⟨_, rfl, ?_⟩
     have gn := g1 (by omega)
     by_cases hk : (S.n dir).kind = 0
     · refine .inr ⟨by simp [errB, hk], base_later hW hbw, hst2, by simp [errB, hk, gn, lookE], h6'.later hbw⟩
     · exact .inl ⟨by simp [errB, hk], base_later hW hbw, hst2, h6'.later hbw, fun _ => gn, fun _ => hk, fun h => absurd h (by omega), fun h => absurd h (by omega)⟩
   | 2, _ =>
     have gn := g1 (by omega)
     have gk := g2 (by omega)
     obtain ⟨l', p', e, hc⟩ := dirs_call (w := W) (InosAt.stay ⟨l3, p3, b3, rfl, a3⟩ hst) hTW (by simpa using hd) (by simp) (by simpa using gk)
     cases e
     refine hc.mono ?_
     rintro e w2 ⟨rfl, hbw⟩
     have hst2 : StayN (wz.heap.size + 1 + 1 + 1 + 1) w1 w2 := ⟨Nat.le_trans hst.1 hbw.size, fun b h1 h2 => (hbw.block b (Nat.lt_of_lt_of_le h2 hst.1)).trans (hst.2 b h1 h2)⟩
     refine ⟨_, rfl, ?_⟩
     by_cases hk : (S.n dir).kind = 2
     · exact .inl ⟨by simp [errB, hk], base_later hW hbw, hst2, h6'.later hbw, fun _ => gn, fun _ => gk, fun _ => hk, fun h => absurd h (by omega)⟩
     · refine .inr ⟨by simp [errB, hk], base_later hW hbw, hst2, by simp [errB, hk, gn, gk, lookE], h6'.later hbw⟩
   | 3, _ =>
     have gn := g1 (by omega)
     have gk := g2 (by omega)
     have gd := g3 (by omega)
     obtain ⟨c1, c2, c3, c4, c5⟩ := hW
     refine (look1_any wz.heap.size dir s W hTW c3 c4 c5 0 h6' hs hd gk).mono ?_
     rintro e w2 ⟨rfl, k1, k2, k3⟩
     have hst2 : StayN (wz.heap.size + 1 + 1 + 1 + 1) w1 w2 := ⟨Nat.le_trans hst.1 k3.1, fun b h1 h2 => (k3.2 b h1 (Nat.lt_of_lt_of_le h2 hst.1)).trans (hst.2 b h1 h2)⟩
     have hW2 : LookBase wz E.t dir s w2 := by
       have := k3.1
       exact ⟨c1.trans (k2.mono (by omega)), by omega, c3.below (by omega) k2, c4.below (by omega) k2, c5.below (by omega) k2⟩
     refine ⟨_, rfl, ?_⟩
     by_cases hl : S.l dir (L s) = 0
     · rw [hl] at k1
       exact .inr ⟨by simp [errB, hl], hW2, hst2, by simp [errB, hl, gn, gd, lookE], k1⟩
     · exact .inl ⟨by simp [errB, hl], hW2, hst2, by simpa using k1, fun _ => gn, fun _ => gk, fun _ => gd, fun _ => hl⟩
   | i + 4, hi => exact absurd hi (by omega)
 · rintro e w2 ⟨k, rfl, ⟨rfl, h⟩ | ⟨hk, h⟩⟩
   · obtain ⟨hW, hst, h6', g1, g2, g3, g4⟩ := h
     have gn := g1 (by omega)
     have gd := g3 (by omega)
     have gl := g4 (by omega)
     have he : lookE S dir (L s) = 0 := by simp [lookE, gn, gd, gl]
     exact ⟨_, rfl, ⟨by rw [he], by rw [lookI, if_pos he]; simpa using h6'⟩, hW, hst⟩
   · obtain ⟨hW, hst, rfl, h6'⟩ := h
     exact ⟨_, rfl, ⟨rfl, by rw [lookI, if_neg hk]; exact h6'⟩, hW, hst⟩
end Go.Proofs.YtmfhnhnmdeabeaaGreat.Tr
end
