/- Layer 32 (durable): held and Play, on the root. -/
import Derived.Test.YtmfhnhnmdeabeaaGreatM32
import Derived.Test.YtmfhnhnmdeabeaaGreatM03
import Derived.Deep.AppendLies
import Derived.Test.YtmfhnhnmdeabeaaGreatM23
set_option linter.unusedVariables false
set_option linter.unusedSimpArgs false
set_option maxRecDepth 100000
section
namespace Go.Proofs.YtmfhnhnmdeabeaaGreat.Re
open Go.RowKit Go.Shelf Go.Maps Oct Path Tr
attribute [local go_sem] Oper.semAt_some
theorem hangs_any (p : Option Addr) (n cap b : Nat) (w : World) : Calls Tryz.prog 23 #[.slice p n cap, .map (some b)] w fun e w' => e = .returned (.func (.func 57) #[] #[.pointer (some ⟨w.heap.size, 0, none⟩), .pointer (some ⟨w.heap.size + 1, 0, none⟩)]) ∧ (w.alloc (.cells #[.slice p n cap] 22)).alloc (.cells #[.map (some b)] 56) = w' := by
 go_enter Tryz.func23, Tryz.ntmps23
 go_wp2_with fail
 go_ret
 exact ⟨rfl, rfl⟩
def StV (W : World) (p : Option Addr) (st : List Nat) : Prop := st ≠ [] → ∃ g o, p = some ⟨g, o, none⟩ ∧ g < W.heap.size ∧ ∀ (j x : Nat), st[j]? = some x → W.cell? ⟨g, o + j, none⟩ = some (.int .u64 x)
theorem StV.later {W W' : World} {p : Option Addr} {st : List Nat} (h : StV W p st) (hb : Below W.heap.size W W') : StV W' p st := fun hn => by
 obtain ⟨g, o, a, b, c⟩ := h hn
 refine ⟨g, o, a, Nat.lt_of_lt_of_le b hb.size, fun j x hj => ?_⟩
 rw [← c j x hj]
 unfold World.cell?
 rw [hb.block g b]
theorem contains_any (st : List Nat) (p : Option Addr) (c x : Nat) (w : World) (hS : StV w p st) (hl : st.length ≤ 1000) :
   Calls Tryz.prog 22 #[.slice p st.length c, .int .u64 x] w fun e w' => e = .returned (.bool (st.contains x)) ∧ w' = w := by
 by_cases hn : st = []
 · subst hn
   have := AnyE.slices_Contains_empty (P := Tryz.prog) (ρ := Tryz.layCT_ren) Tryz.layCT p c (.int .u64 x) w
   exact this
 · obtain ⟨g, o, rfl, hg, hc⟩ := hS hn
   have := AnyE.slices_Contains (P := Tryz.prog) (ρ := Tryz.layCT_ren) Tryz.layCT (Value.int .u64) _ (EqlAt.int _ _ _) g o st.length c (st.map fun k : Nat => (k : Int)) (x : Int) w (by simp) (by omega) (fun j hj => by
     have hj' : j < st.length := by simpa using hj
     rw [hc j st[j] (List.getElem?_eq_getElem hj')]
     simp [hj'])
   refine Calls.mono this ?_
   rintro e w' ⟨rfl, rfl⟩
   refine ⟨?_, rfl⟩
   have e1 : (List.map (fun k : Nat => (k : Int)) st).take st.length = List.map (fun k : Nat => (k : Int)) st := List.take_of_length_le (by simp)
   rw [e1]
   congr 2
   rw [List.any_map, List.contains_eq_any_beq]
   congr 1
   funext y
   simp only [Function.comp]
   by_cases h : x = y
   · subst h; simp
   · have h2 : ¬ (x : Int) = y := by omega
     rw [beq_false_of_ne h, beq_false_of_ne h2]
def c1F (st : List Nat) (xs : List Rc) (i : Nat) : Nat → Nat := fun j => if j < i ∧ (xs[j]?).any (fun x => st.contains x.stamp) = true then 1 else 0
theorem c1F_zero (st : List Nat) (xs : List Rc) : c1F st xs 0 = fun _ => 0 := by funext j; simp [c1F]
theorem c1F_yes {st : List Nat} {xs : List Rc} {i : Nat} {x : Rc} (hx : xs[i]? = some x) (h : st.contains x.stamp = true) : (fun j => if j = i then c1F st xs i i + 1 else c1F st xs i j) = c1F st xs (i + 1) := by
 funext j
 unfold c1F
 by_cases hj : j = i
 · subst hj; simp [hx]; simpa using h
 · rw [if_neg hj]
   by_cases h2 : j < i
   · simp [h2, show j < i + 1 by omega]
   · simp [h2, show ¬ j < i + 1 by omega]
theorem c1F_no {st : List Nat} {xs : List Rc} {i : Nat} {x : Rc} (hx : xs[i]? = some x) (h : st.contains x.stamp = false) : c1F st xs i = c1F st xs (i + 1) := by
 funext j
 unfold c1F
 by_cases hj : j = i
 · subst hj; simp [hx]; simpa using h
 · by_cases h2 : j < i
   · simp [h2, show j < i + 1 by omega]
   · simp [h2, show ¬ j < i + 1 by omega]
theorem c1F_inv (st : List Nat) (xs : List Rc) : CInv st xs xs.length (c1F st xs xs.length) := by
 refine ⟨fun j => ?_, fun j => by unfold c1F; split <;> omega⟩
 unfold c1F
 constructor
 · intro h
   by_cases hc : j < xs.length ∧ (xs[j]?).any (fun x => st.contains x.stamp) = true
   · obtain ⟨x, hx⟩ : ∃ x, xs[j]? = some x := ⟨_, List.getElem?_eq_getElem hc.1⟩
     refine ⟨x, hx, .inl ?_⟩
     have := hc.2
     rw [hx] at this
     simpa using this
   · rw [if_neg hc] at h; exact absurd rfl h
 · rintro ⟨x, hx, h | ⟨m, y, hm, hy, _⟩⟩
   · rw [if_pos ⟨(List.getElem?_eq_some_iff.1 hx).1, by rw [hx]; simpa using h⟩]; decide
   · have := (List.getElem?_eq_some_iff.1 hy).1; omega
structure KI (wz W2 : World) (xs : List Rc) (p : Option Addr) (g o cap : Nat) (pre : List Nat) (W : World) (v : Value) : Prop where
 out : SBox W (wz.heap.size + 1) 22 #[v]
 l : SBox W wz.heap.size 22 #[.slice p xs.length cap]
 row : W.ownsRow W2.heap.size 39 12 v (pre.filterMap fun i => xs[i]?).length ((pre.filterMap fun i => xs[i]?).flatMap encR)
 src : xs ≠ [] → RowR W g o xs
 be : Below wz.heap.size wz W
 sz : W2.heap.size ≤ W.heap.size
theorem KI.own {wz W2 : World} {xs : List Rc} {p : Option Addr} {g o cap : Nat} (hg : g < wz.heap.size) (hs : wz.heap.size + 2 ≤ W2.heap.size) : OwnFrom W2.heap.size (fun pre W => ∃ v, KI wz W2 xs p g o cap pre W v) := by
 rintro pre W W' row ⟨v, h⟩ hgr hr
 have ne : ∀ c, c < W2.heap.size → some c ≠ row := fun c hc e => by have := (hr c e.symm).1; omega
 refine ⟨v, (hgr.block _ h.out.lt (ne _ (by omega))).trans h.out, (hgr.block _ h.l.lt (ne _ (by omega))).trans h.l, h.row.kept hgr ?_, fun hn => (h.src hn).blocks (hgr.block g (h.src hn).lt (ne _ (by omega))), h.be.grown hgr (by have := h.sz; omega) (fun k e => by have := (hr k e).1; omega), Nat.le_trans h.sz hgr.size⟩
 rcases h.row.2 with ⟨rfl, _⟩ | ⟨g2, cp, cur, rfl, hb, hg2, _⟩
 · exact .inl rfl
 · refine .inr fun e => ?_
   have e2 : row = some g2 := e.symm
   obtain ⟨_, o2, ho, hc⟩ := hr g2 e2
   rw [hg2] at ho
   cases ho
   cases hc
theorem KI.step {wz W2 : World} {xs : List Rc} {p : Option Addr} {g o cap mb : Nat} {pre : List Nat} {X Y : World} (hb : wz.heap.size + 1 < mb) (hb2 : mb < W2.heap.size) (hg : g < wz.heap.size) {v : Value} (h : KI wz W2 xs p g o cap pre X v) (ht : Tch (fun c => c = mb) X Y) : KI wz W2 xs p g o cap pre Y v :=
 ⟨Tch.box ht h.out (by omega), Tch.box ht h.l (by omega), h.row.kept (row := some mb) ⟨ht.os, ht.tape, ht.output, ht.size, fun c hc hn => ht.block c hc (fun e => hn (by rw [e]))⟩ (by
   rcases h.row.2 with ⟨rfl, _⟩ | ⟨g2, cp, cur, rfl, hb3, _⟩
   · exact .inl rfl
   · exact .inr (fun e => by have e2 : some g2 = some mb := e; cases e2; omega)), fun hn => (h.src hn).blocks (ht.block g (h.src hn).lt (by omega)), h.be.trans (ht.below fun i hi => ⟨by have := h.be.size; omega, by omega⟩), Nat.le_trans h.sz ht.size⟩
theorem row_cells {W : World} {base : Nat} {e : TypeId} {size : Nat} {v : Value} {n : Nat} {xs : List Value} (h : W.ownsRow base e size v n xs) {c : Nat} (hc : v.ownBlock = some c) : base ≤ c ∧ ∃ ob : Obj, W.heap[c]? = some ob ∧ ob.isCells = true := by
 rcases h.2 with ⟨rfl, _⟩ | ⟨g2, cp, cur, rfl, hb, hg2, _⟩
 · cases hc
 · have e2 : some g2 = some c := hc
   cases e2
   exact ⟨hb, _, hg2, rfl⟩
theorem row_tch {W W' : World} {base : Nat} {e : TypeId} {size : Nat} {v : Value} {n : Nat} {xs : List Value} {b : Nat} (h : W.ownsRow base e size v n xs) (hb : b < base) (ht : Tch (fun c => c = b) W W') : W'.ownsRow base e size v n xs :=
 h.kept (row := some b) ⟨ht.os, ht.tape, ht.output, ht.size, fun c hc hn => ht.block c hc (fun q => hn (by rw [q]))⟩ (by
   cases ho : v.ownBlock with
   | none => exact .inl rfl
   | some c => exact .inr (fun q => by cases q; have := (row_cells h ho).1; omega))
theorem info_R : (Tryz.prog.info? 39).map (fun i => (i.zero, i.size, i.bytes)) = some (some (.agg #[.int .u64 0, .int .u8 0, .int .u32 0, .string ⟨#[]⟩, .int .u32 0, .int .u8 0, .int .u32 0, .string ⟨#[]⟩, .int .u32 0, .int .u32 0, .int .i64 0, .string ⟨#[]⟩]), 12, 96) := by kernel_rfl
theorem _root_.Go.World.ownsRow.setCell_lower {W : World} {base : Nat} {e : TypeId} {size : Nat} {v : Value} {n : Nat} {xs : List Value} (h : W.ownsRow base e size v n xs) {a : Addr} (ha : v.ownBlock ≠ some a.block) (u : Value) : (W.setCell a u).ownsRow base e size v n xs :=
 h.kept (row := some a.block) ⟨rfl, rfl, rfl, by simp [World.setCell], fun c _ hn => heap_setCell_other W a c u (fun e => hn (by rw [e]))⟩ (.inr ha)
theorem KI.app {wz W2 : World} {xs : List Rc} {p : Option Addr} {g o cap x lB : Nat} {pre : List Nat} {W W3 : World} {v v2 : Value} {y : Rc} (hK : KI wz W2 xs p g o cap pre W v) (hx : xs[x]? = some y) (h1 : (W.alloc (.cells (recC y) 39)).grownBy W3 v.ownBlock)
   (h2 : W3.ownsRow W2.heap.size 39 12 v2 ((pre.filterMap fun i => xs[i]?).length + 1) ((pre.filterMap fun i => xs[i]?).flatMap encR ++ encR y)) (hg : g < wz.heap.size) (hl : wz.heap.size + 2 < lB) (hl2 : lB + 1 < W2.heap.size) :
   KI wz W2 xs p g o cap (pre ++ [x]) (W3.setCell ⟨wz.heap.size + 1, 0, none⟩ v2) v2 ∧ KeepsFrom W2.heap.size W (W3.setCell ⟨wz.heap.size + 1, 0, none⟩ v2) ∧ KpH xs g lB (lB + 1) (wz.heap.size + 1 + 1) W (W3.setCell ⟨wz.heap.size + 1, 0, none⟩ v2) := by
 have hz := hK.sz
 have hal := (Below.refl _ W).alloc (Nat.le_refl _) (.cells (recC y) 39)
 have old : ∀ c, c < W2.heap.size → c ≠ wz.heap.size + 1 → (W3.setCell ⟨wz.heap.size + 1, 0, none⟩ v2).heap[c]? = W.heap[c]? := fun c hc hn => by
   rw [heap_setCell_other W3 ⟨wz.heap.size + 1, 0, none⟩ c v2 hn, h1.block c (by simp; omega) (fun e => by have := (row_cells hK.row e.symm).1; omega), hal.block c (by omega)]
 have ht : Tch (fun c => c = wz.heap.size + 1 ∨ W2.heap.size ≤ c) W (W3.setCell ⟨wz.heap.size + 1, 0, none⟩ v2) :=
   ((Tch.of hal).trans (⟨h1.os, h1.tape, h1.output, h1.size, fun c hc hn => h1.block c hc (fun e => hn (.inr (row_cells hK.row e.symm).1))⟩)).trans (Tch.cell (.inl rfl))
 have out3 : SBox W3 (wz.heap.size + 1) 22 #[v] := (h1.block _ (by have := hK.out.lt; simp; omega) (fun e => by have := (row_cells hK.row e.symm).1; omega)).trans (hK.out.alloc _)
 refine ⟨⟨out3.set 0 _, (old _ (by omega) (by omega)).trans hK.l, ?_, fun hn => (hK.src hn).blocks (old g (by omega) (by omega)), hK.be.trans (ht.below fun i hi => ⟨by have := hK.be.size; omega, by omega⟩), Nat.le_trans hz ht.size⟩, ⟨ht.size, fun k ob hk ho hc => ?_⟩, fun c hc => ?_⟩
 · have := h2.setCell_below (a := ⟨wz.heap.size + 1, 0, none⟩) (by show wz.heap.size + 1 < W2.heap.size; omega) v2
   simpa [List.filterMap_append, hx, List.flatMap_append] using this
 · rw [heap_setCell_other W3 ⟨wz.heap.size + 1, 0, none⟩ k v2 (by show k ≠ wz.heap.size + 1; omega)]
   have hkl := (Array.getElem?_eq_some_iff.1 ho).1
   rw [h1.block k (by simp; omega) (fun e => by
     obtain ⟨_, o2, h3, h4⟩ := row_cells hK.row e.symm
     rw [ho] at h3
     cases h3
     rw [hc] at h4
     cases h4), hal.block k hkl, ho]
 · rcases hc with ⟨_, rfl⟩ | rfl | rfl | rfl
   all_goals exact old _ (by omega) (by omega)
theorem downK_mem {st : List Nat} {xs : List Rc} {x : Nat} (h : x ∈ downK st xs 0) : x < xs.length := by
 unfold downK at h
 simp at h
 exact h.1
set_option maxHeartbeats 8000000 in
theorem kept_ok (xs : List Rc) (hm : ∀ r ∈ xs, May r) (hlen : xs.length ≤ 100) (st : List Nat) (hst : st.length ≤ 1000) (p ps : Option Addr) (g o cap cs : Nat) (hcap : xs.length ≤ cap) (wz : World) (hg : g < wz.heap.size) (hR : xs ≠ [] → p = some ⟨g, o, none⟩ ∧ RowR wz g o xs) (hS : StV wz ps st) :
   Calls Tryz.prog 8 #[.slice p xs.length cap, .slice ps st.length cs] wz fun e w' => ∃ v, e = .returned v ∧ w'.ownsRow wz.heap.size 39 12 v (keptL (maskK st xs)).length ((keptL (maskK st xs)).flatMap encR) ∧ Below wz.heap.size wz w' := by
 have hmm := @run_makeMap Tryz.prog
 have HM := Lib.hid hm
 have HR := Lib.hid hR
 have HS := Lib.hid hS
 have CO := Lib.hid (fun x W (h : StV W ps st) => callsIn_wide (n := 4 - 1) |>.2 (contains_any st ps cs x W h hst))
 have HA := Lib.hid (fun b W => callsIn_wide (n := 4 - 1) |>.2 (hangs_any p xs.length cap b W))
 have B0 := (Below.refl _ wz).alloc (Nat.le_refl _) (.cells #[.slice p xs.length cap] 22)
 have BL := Lib.hid ((SBox.new wz 22 #[.slice p xs.length cap]).alloc (.cells #[.slice none 0 0] 22) |>.alloc (.map #[] 0))
 have BO := Lib.hid ((show SBox ((wz.alloc (.cells #[.slice p xs.length cap] 22)).alloc (.cells #[.slice none 0 0] 22)) (wz.heap.size + 1) 22 #[.slice none 0 0] from by simpa using SBox.new (wz.alloc (.cells #[.slice p xs.length cap] 22)) 22 #[.slice none 0 0]).alloc (.map #[] 0))
 have BB := Lib.hid ((B0.alloc B0.size (.cells #[.slice none 0 0] 22)).alloc (by simp; omega) (.map #[] 0))
 have MP := Lib.hid (VMap.new ((wz.alloc (.cells #[.slice p xs.length cap] 22)).alloc (.cells #[.slice none 0 0] 22)) 3)
 clear hm hR hS B0
 refine (callsIn_wide (n := 4)).1 ?_
 refine callsIn_of_wp_marks Tryz.func8 rfl trivial ?_ rfl
 simp only [Tryz.ntmps8, List.size_toArray, List.length_cons, List.length_nil, Nat.reduceAdd, Nat.reduceSub, Array.replicate_succ, Array.replicate_zero, List.push_toArray, List.append_toArray, List.nil_append, List.cons_append]
 gi_wp2_with fail
 gi_loopw [12] (fun s12 wr => ∃ i : Nat, i ≤ xs.length ∧ s12 = .int .i64 i ∧ SBox wr (wz.heap.size + 1) 22 #[.slice none 0 0] ∧ SBox wr wz.heap.size 22 #[.slice p xs.length cap] ∧ VMap wr 3 (wz.heap.size + 2) 100 (cntF (c1F st xs i)) ∧ Below wz.heap.size wz wr) (fun s12 _ => xs.length - (intOf s12).toNat)
 case atStart =>
   refine ⟨0, Nat.zero_le _, rfl, BO.out, BL.out, ?_, BB.out⟩
   have h := MP.out
   rw [nat_none .i64] at h
   rw [c1F_zero]
   have h2 := h.mono (n' := 100) (by omega)
   simp only [World.size_alloc] at h2
   exact h2
 case round =>
   obtain ⟨i, hi, rfl, hO, hL, hMp, hB⟩ := hrel
   have O1 := Lib.hid hO
   have L1 := Lib.hid hL
   have M1 := Lib.hid hMp
   have B1 := Lib.hid hB
   clear hO hMp hB
   have X0 := hL.cell 0
   simp only [List.getElem?_toArray, List.getElem?_cons_zero, List.getElem?_cons_succ] at X0
   have Xl := hL.lt
   clear hL
   rcases Nat.lt_or_ge i xs.length with hlt | hge
   · have hn : xs ≠ [] := fun e => by rw [e] at hlt; simp at hlt
     obtain ⟨rfl, hR1⟩ := HR.out hn
     obtain ⟨x, hx⟩ : ∃ x, xs[i]? = some x := ⟨_, List.getElem?_eq_getElem hlt⟩
     obtain ⟨c0, c1, c2, c3, c4, c5, c6, c7, c8, c9, c10, c11⟩ := (hR1.blocks (B1.out.block g hg)).cells hx
     have hgl := (hR1.blocks (B1.out.block g hg)).lt
     have HX := Lib.hid hx
     clear hn hR1 hx
     gi_wp2_with fail
     have hal := (Below.refl _ wr).alloc (Nat.le_refl _) (.cells #[.int .u64 x.stamp, .int .u8 x.op, .int .u32 x.dir, .string (B x.name), .int .u32 x.ino, .int .u8 x.kind, .int .u32 x.dir2, .string (B x.name2), .int .u32 x.old, .int .u32 x.size, .int .i64 x.page, .string (B x.data)] 39)
     refine ⟨trivial, (CO.out x.stamp _ (HS.out.later ((B1.out.trans (hal.mono B1.out.size))))).mono ?_⟩
     rintro e w9 ⟨rfl, rfl⟩
     have O2 := Lib.hid (O1.out.later hal)
     have L2 := Lib.hid (L1.out.later hal)
     have M2 := Lib.hid (M1.out.later hal)
     have B2 := Lib.hid (B1.out.trans (hal.mono B1.out.size))
     clear hal c0 c1 c2 c3 c4 c5 c6 c7 c8 c9 c10 c11 hgl X0 Xl
     generalize (wr.alloc (.cells #[.int .u64 x.stamp, .int .u8 x.op, .int .u32 x.dir, .string (B x.name), .int .u32 x.ino, .int .u8 x.kind, .int .u32 x.dir2, .string (B x.name2), .int .u32 x.old, .int .u32 x.size, .int .i64 x.page, .string (B x.data)] 39)) = wA at *
     cases hc : st.contains x.stamp
     · have NC := Lib.hid (c1F_no HX.out hc)
       clear hc
       gi_wp2_with fail
       go_roundw
       case rel => exact ⟨i + 1, by omega, by go_num, O2.out, L2.out, by rw [← NC.out]; exact M2.out, B2.out⟩
       case measure => first | (simp [intOf]; done) | (simp [intOf]; omega)
     · have NC := Lib.hid (c1F_yes HX.out hc)
       clear hc
       have LK := cnt_look M2.out (show i < 1000000 by omega)
       have cb : c1F st xs i i ≤ 1 := by unfold c1F; split <;> omega
       obtain ⟨W4, PU, hM4, hT4⟩ := cnt_put M2.out (fun q hq => by
         unfold c1F at hq
         by_cases hm : q < i ∧ (xs[q]?).any (fun x => st.contains x.stamp) = true
         · omega
         · rw [if_neg hm] at hq; exact absurd rfl hq) (show i < 100 by omega)
       rw [NC.out] at hM4
       generalize c1F st xs i i = ci at *
       have T4 := Lib.hid (show Tch (fun c => c = wz.heap.size + 2) wA W4 from Tch.turned hT4 rfl)
       have M4 := Lib.hid hM4
       clear hM4 hT4
       gi_wp2_with fail
       go_roundw
       case rel => exact ⟨i + 1, by omega, by go_num, Tch.box T4.out O2.out (by omega), Tch.box T4.out L2.out (by omega), M4.out, B2.out.trans (T4.out.below fun q hq => ⟨by have := B2.out.size; omega, by omega⟩)⟩
       case measure => first | (simp [intOf]; done) | (simp [intOf]; omega)
   · have e : i = xs.length := by omega
     subst e
     gi_wp2_with fail
     refine ⟨trivial, (HA.out _ _).mono ?_⟩
     rintro e w9 ⟨rfl, rfl⟩
     gi_wp2_with fail
     have hal := ((Below.refl _ wr).alloc (Nat.le_refl _) (.cells #[.slice p xs.length cap] 22)).alloc (by simp) (.cells #[.map (some (wz.heap.size + 1 + 1))] 56)
     have lwr := B1.out.size
     have lm := M1.out.lt
     have B2 := Lib.hid (B1.out.trans (hal.mono B1.out.size))
     have M2 := Lib.hid (show VMap _ 3 (wz.heap.size + 1 + 1) 100 (cntF (c1F st xs xs.length)) from M1.out.later hal)
     have H2 : Hid (HSt ((wr.alloc (.cells #[.slice p xs.length cap] 22)).alloc (.cells #[.map (some (wz.heap.size + 1 + 1))] 56)) xs p g o cap wr.heap.size (wr.heap.size + 1) (wz.heap.size + 1 + 1)) := Lib.hid ⟨(SBox.new wr _ _).alloc _, by simpa using SBox.new (wr.alloc (.cells #[.slice p xs.length cap] 22)) 56 #[.map (some (wz.heap.size + 1 + 1))], fun hn => ⟨(HR.out hn).1, (HR.out hn).2.blocks (B2.out.block g hg), by omega⟩, by omega, by omega⟩
     have K2 : Hid (KI wz ((wr.alloc (.cells #[.slice p xs.length cap] 22)).alloc (.cells #[.map (some (wz.heap.size + 1 + 1))] 56)) xs p g o cap [] ((wr.alloc (.cells #[.slice p xs.length cap] 22)).alloc (.cells #[.map (some (wz.heap.size + 1 + 1))] 56)) (.slice none 0 0)) := Lib.hid ⟨O1.out.later hal, L1.out.later hal, World.ownsRow_nil _ _ _ _, fun hn => (HR.out hn).2.blocks (B2.out.block g hg), B2.out, Nat.le_refl _⟩
     have hsz := hal.size
     clear hal O1 L1 M1 B1 X0 Xl CO HA
     generalize (wr.alloc (.cells #[.slice p xs.length cap] 22)).alloc (.cells #[.map (some (wz.heap.size + 1 + 1))] 56) = W2 at *
     refine wpIn_rangeFunc_rel rfl (by omega) (gf := 57) (lb := #[.pointer (some ⟨wr.heap.size, 0, none⟩), .pointer (some ⟨wr.heap.size + 1, 0, none⟩)]) rfl trivial (enters_of Tryz.func57 (by kernel_rfl) rfl)
       (hangs_seq (4 - 1) (by omega) st xs HM.out hlen p g o cap wr.heap.size (wr.heap.size + 1) (wz.heap.size + 1 + 1) hcap _ W2 H2.out M2.out (c1F_inv st xs))
       (fun X Y h => ⟨h.size, fun c o hc ho _ => (h.block c (Array.getElem?_eq_some_iff.1 ho).1 (by omega)).trans ho⟩)
       (fun {X Y Z} h k c hc => (k c hc).trans (h c hc))
       (fun W l o o' hl _ _ _ c hc => World.putObj_heap_other (fun e => by
         have h1 := H2.out.l.lt
         have h2 := H2.out.w.lt
         have h3 := M2.out.lt
         rcases hc with ⟨hn, rfl⟩ | rfl | rfl | rfl
         · have h4 := (H2.out.row hn).2.1.lt; omega
         · omega
         · omega
         · omega))
       (Below.refl _ _) (fun _ => rfl)
       (fun pre W => ∃ v, KI wz W2 xs p g o cap pre W v) (fun _ _ _ => False) (KI.own hg (by omega)) (fun _ _ _ _ _ hs _ _ => hs)
       (fun s X Y ⟨v, h⟩ hr => ⟨v, KI.step (by omega) M2.out.lt hg h hr⟩) (fun _ _ _ _ h _ => h)
       ⟨_, K2.out⟩
       (fun x => { tmps := #[.slice p xs.length cap, .slice ps st.length cs, .pointer (some ⟨wz.heap.size, 0, none⟩), undef, .pointer (some ⟨wz.heap.size + 1, 0, none⟩), .map (some (wz.heap.size + 1 + 1)), u6, u7, .int .i64 x, .map (some (wz.heap.size + 1 + 1)), .slice p xs.length cap, .int .i64 xs.length, .int .i64 xs.length, .bool false, u14, u15, u16, u17, u18, u19, u20, u21, u22, u23, u24, u25, .slice p xs.length cap, .map (some (wz.heap.size + 1 + 1)), .func (.func 57) #[] #[.pointer (some ⟨wr.heap.size, 0, none⟩), .pointer (some ⟨wr.heap.size + 1, 0, none⟩)], .int .i64 x, undef, undef, undef, undef, undef, undef, undef, undef, undef, undef], defers := [] }) ?assign ?body ?fin ?stop
     case assign =>
       intro l x W K hK
       gi_wp2
       exact hK
     case body =>
       rintro l pre x W ⟨v, hK⟩ ⟨post, hpost⟩
       have hxl : x < xs.length := downK_mem (st := st) (by rw [hpost]; simp)
       have hn : xs ≠ [] := fun e => by rw [e] at hxl; simp at hxl
       obtain rfl := (HR.out hn).1
       obtain ⟨y, hy⟩ : ∃ y, xs[x]? = some y := ⟨_, List.getElem?_eq_getElem hxl⟩
       have hKd : KI wz W2 xs (some ⟨g, o, none⟩) g o cap pre W.drew v := ⟨hK.out, hK.l, hK.row, fun hn => (hK.src hn).blocks rfl, hK.be.trans (Below.refl _ _).drew, hK.sz⟩
       have hz := hK.sz
       have hw1 := H2.out.w.lt
       have hlen2 : (pre.filterMap fun i => xs[i]?).length ≤ 100 := by
         have h1 : pre.length ≤ xs.length := by
           have h2 := congrArg List.length hpost
           have h3 : (downK st xs 0).length ≤ xs.length := by
             unfold downK
             rw [List.length_reverse]
             exact Nat.le_trans (List.length_filter_le _ _) (by simp)
           simp at h2
           omega
         exact Nat.le_trans (List.length_filterMap_le _ _) (by omega)
       obtain ⟨i0, hI0, hz0, hz1, hz2⟩ := info_parts info_R
       refine wpIn_block ?_
       refine wpIn_region_phi (by rintro ⟨_, _, h⟩; exact h) (by kernel_rfl) (by kernel_rfl) (fun | 0 => some 30 | 1 => some 31 | 2 => some 32 | 3 => some 33 | 4 => some 34 | 5 => some 35 | 6 => some 36 | 7 => none | _ => none) (fun a => ∃ x30 x31 x32 x33 x34 x35 x36 : Value, a = ⟨#[.slice (some ⟨g, o, none⟩) xs.length cap, .slice ps st.length cs, .pointer (some ⟨wz.heap.size, 0, none⟩), undef, .pointer (some ⟨wz.heap.size + 1, 0, none⟩), .map (some (wz.heap.size + 1 + 1)), u6, u7, .int .i64 x, .map (some (wz.heap.size + 1 + 1)), .slice (some ⟨g, o, none⟩) xs.length cap, .int .i64 xs.length, .int .i64 xs.length, .bool false, u14, u15, u16, u17, u18, u19, u20, u21, u22, u23, u24, u25, .slice (some ⟨g, o, none⟩) xs.length cap, .map (some (wz.heap.size + 1 + 1)), .func (.func 57) #[] #[.pointer (some ⟨wr.heap.size, 0, none⟩), .pointer (some ⟨wr.heap.size + 1, 0, none⟩)], .int .i64 x, x30, x31, x32, x33, x34, x35, x36, undef, undef, undef], []⟩) (fun lst V => (lst 5 = false → V = W.drew) ∧ (lst 5 = true → lst 6 = false → V = W.drew.alloc (.cells (recC y) 39)) ∧ (lst 6 = true → lst 7 = false → (W.drew.alloc (.cells (recC y) 39)).grownBy V v.ownBlock) ∧ (lst 7 = true → ∃ v2, KI wz W2 xs (some ⟨g, o, none⟩) g o cap (pre ++ [x]) V v2 ∧ KeepsFrom W2.heap.size W.drew V ∧ KpH xs g wr.heap.size (wr.heap.size + 1) (wz.heap.size + 1 + 1) W.drew V)) (fun i w1 w2 => i = 7 → Tch (fun c => c = wz.heap.size + 1) w1 w2) (fun | 0 => (fun v0 w => v0 = v) | 1 => (fun v0 w => v0 = Value.slice (some ⟨g, o, none⟩) xs.length cap) | 2 => (fun v0 w => v0 = Value.int .i64 x) | 3 => (fun v0 w => v0 = Value.pointer (some ⟨g, o + x * 12, none⟩)) | 4 => (fun v0 w => v0 = Value.agg #[.int .u64 y.stamp, .int .u8 y.op, .int .u32 y.dir, .string (B y.name), .int .u32 y.ino, .int .u8 y.kind, .int .u32 y.dir2, .string (B y.name2), .int .u32 y.old, .int .u32 y.size, .int .i64 y.page, .string (B y.data)]) | 5 => (fun v0 w => v0 = Value.slice (some ⟨W.heap.size, 0, none⟩) 1 1) | 6 => (fun v0 w => ∃ g2 cap2, v0 = Value.slice (some ⟨g2, 0, none⟩) ((pre.filterMap fun i => xs[i]?).length + 1) cap2 ∧ w.ownsRow W2.heap.size 39 12 v0 ((pre.filterMap fun i => xs[i]?).length + 1) ((pre.filterMap fun i => xs[i]?).flatMap encR ++ encR y)) | 7 => (fun v w => True) | _ => (fun _ _ => True)) (by kernel_rfl) ?stb (by kernel_rfl) ?AA ⟨_, _, _, _, _, _, _, rfl⟩ ?G0 ?step ?done
       case stb =>
         intro i j v w1 w2 hi hj hij hw hp hs
         have hi : i < 8 := hi
         match j, hp with
         | 0, hp | 1, hp | 2, hp | 3, hp | 4, hp | 5, hp => exact hp
         | 6, hp =>
           by_cases h7 : i = 7
           · obtain ⟨a1, a2, a3, a4⟩ := hp
             exact ⟨a1, a2, a3, row_tch a4 (by omega) (hs h7)⟩
           · exact absurd (hw.symm.trans (waits_all (by kernel_rfl) (by omega))) (by decide)
         | 7, hp =>
           exact trivial
         | j + 8, _ => exact trivial
       case AA =>
         rintro i a v hi ⟨_, _, _, _, _, _, _, rfl⟩
         match i, hi with
         | 0, _ | 1, _ | 2, _ | 3, _ | 4, _ | 5, _ | 6, _ | 7, _ => exact ⟨⟨_, _, _, _, _, _, _, rfl⟩, fun t h => by cases h <;> exact of_decide_eq_true rfl⟩
         | i + 8, hi => exact absurd hi (by simp)
       case G0 => exact ⟨fun _ => rfl, (fun q => by cases q), (fun q => by cases q), (fun q => by cases q)⟩
       case step =>
         rintro i a w1 lst hi ⟨x30, x31, x32, x33, x34, x35, x36, rfl⟩ hl hcl hwl hG hp
         refine wpOp_via (fun K hK2 => ?_)
         match i, hi with
         | 0, _ =>
           obtain ⟨g1, g2, g3, g4⟩ := hG
           have n6 : lst 6 = false := by
             cases h : lst 6 with
             | false => rfl
             | true => exact absurd (hcl 6 0 (by show 6 < 8; decide) h (by kernel_rfl)) (by rw [hl]; decide)
           have n7 : lst 7 = false := by
             cases h : lst 7 with
             | false => rfl
             | true => exact absurd (hcl 7 0 (by show 7 < 8; decide) h (by kernel_rfl)) (by rw [hl]; decide)
           cases h5 : lst 5 with
           | false =>
             obtain rfl := g1 h5
             have k0 := hK.out.cell 0
             simp only [List.getElem?_toArray, List.getElem?_cons_zero] at k0
             have kl := hK.out.lt
             refine wpOp_at (by rfl) rfl ?_
             go_simp
             exact hK2 _ _ ⟨_, rfl, ⟨fun _ => rfl, fun q => absurd (show lst 5 = true by simpa using q) (by rw [h5]; decide), fun q => absurd (show lst 6 = true by simpa using q) (by rw [n6]; decide), fun q => absurd (show lst 7 = true by simpa using q) (by rw [n7]; decide)⟩, (fun q => absurd q (by decide)), rfl⟩
           | true =>
             have e9 := g2 h5 n6
             have k9 : SBox w1 (wz.heap.size + 1) 22 #[v] := by rw [e9]; exact hK.out.alloc _
             have E9 := Lib.hid e9
             clear e9 g1 g2 g3 g4
             have k0 : w1.cell? ⟨wz.heap.size + 1, 0, none⟩ = some v := k9.cell 0
             have kl := k9.lt
             refine wpOp_at (by rfl) rfl ?_
             go_simp
             exact hK2 _ _ ⟨_, rfl, ⟨fun q => absurd (show lst 5 = false by simpa using q) (by rw [h5]; decide), fun _ _ => E9.out, fun q => absurd (show lst 6 = true by simpa using q) (by rw [n6]; decide), fun q => absurd (show lst 7 = true by simpa using q) (by rw [n7]; decide)⟩, (fun q => absurd q (by decide)), rfl⟩
         | 1, _ =>
           obtain ⟨g1, g2, g3, g4⟩ := hG
           have n5 : lst 5 = false := by
             cases h : lst 5 with
             | false => rfl
             | true => exact absurd (hcl 5 1 (by show 5 < 8; decide) h (by kernel_rfl)) (by rw [hl]; decide)
           have n6 : lst 6 = false := by
             cases h : lst 6 with
             | false => rfl
             | true => exact absurd (hcl 6 1 (by show 6 < 8; decide) h (by kernel_rfl)) (by rw [hl]; decide)
           have n7 : lst 7 = false := by
             cases h : lst 7 with
             | false => rfl
             | true => exact absurd (hcl 7 1 (by show 7 < 8; decide) h (by kernel_rfl)) (by rw [hl]; decide)
           obtain rfl := g1 n5
           have k0 := hK.l.cell 0
           simp only [List.getElem?_toArray, List.getElem?_cons_zero] at k0
           have kl := hK.l.lt
           refine wpOp_at (by rfl) rfl ?_
           go_simp
           exact hK2 _ _ ⟨_, rfl, ⟨fun _ => rfl, fun q => absurd (show lst 5 = true by simpa using q) (by rw [n5]; decide), fun q => absurd (show lst 6 = true by simpa using q) (by rw [n6]; decide), fun q => absurd (show lst 7 = true by simpa using q) (by rw [n7]; decide)⟩, (fun q => absurd q (by decide)), rfl⟩
         | 2, _ =>
           obtain ⟨g1, g2, g3, g4⟩ := hG
           have n5 : lst 5 = false := by
             cases h : lst 5 with
             | false => rfl
             | true => exact absurd (hcl 5 2 (by show 5 < 8; decide) h (by kernel_rfl)) (by rw [hl]; decide)
           have n6 : lst 6 = false := by
             cases h : lst 6 with
             | false => rfl
             | true => exact absurd (hcl 6 2 (by show 6 < 8; decide) h (by kernel_rfl)) (by rw [hl]; decide)
           have n7 : lst 7 = false := by
             cases h : lst 7 with
             | false => rfl
             | true => exact absurd (hcl 7 2 (by show 7 < 8; decide) h (by kernel_rfl)) (by rw [hl]; decide)
           obtain rfl := g1 n5
           refine wpOp_at (by rfl) rfl ?_
           go_simp
           exact hK2 _ _ ⟨_, rfl, ⟨fun _ => rfl, fun q => absurd (show lst 5 = true by simpa using q) (by rw [n5]; decide), fun q => absurd (show lst 6 = true by simpa using q) (by rw [n6]; decide), fun q => absurd (show lst 7 = true by simpa using q) (by rw [n7]; decide)⟩, (fun q => absurd q (by decide)), rfl⟩
         | 3, _ =>
           obtain ⟨g1, g2, g3, g4⟩ := hG
           have n5 : lst 5 = false := by
             cases h : lst 5 with
             | false => rfl
             | true => exact absurd (hcl 5 3 (by show 5 < 8; decide) h (by kernel_rfl)) (by rw [hl]; decide)
           have n6 : lst 6 = false := by
             cases h : lst 6 with
             | false => rfl
             | true => exact absurd (hcl 6 3 (by show 6 < 8; decide) h (by kernel_rfl)) (by rw [hl]; decide)
           have n7 : lst 7 = false := by
             cases h : lst 7 with
             | false => rfl
             | true => exact absurd (hcl 7 3 (by show 7 < 8; decide) h (by kernel_rfl)) (by rw [hl]; decide)
           obtain rfl := g1 n5
           obtain rfl : x31 = _ := hp 1 (by kernel_rfl)
           obtain rfl : x32 = _ := hp 2 (by kernel_rfl)
           refine wpOp_at (by rfl) rfl ?_
           go_simp
           exact hK2 _ _ ⟨_, rfl, ⟨fun _ => rfl, fun q => absurd (show lst 5 = true by simpa using q) (by rw [n5]; decide), fun q => absurd (show lst 6 = true by simpa using q) (by rw [n6]; decide), fun q => absurd (show lst 7 = true by simpa using q) (by rw [n7]; decide)⟩, (fun q => absurd q (by decide)), rfl⟩
         | 4, _ =>
           obtain ⟨g1, g2, g3, g4⟩ := hG
           have n5 : lst 5 = false := by
             cases h : lst 5 with
             | false => rfl
             | true => exact absurd (hcl 5 4 (by show 5 < 8; decide) h (by kernel_rfl)) (by rw [hl]; decide)
           have n6 : lst 6 = false := by
             cases h : lst 6 with
             | false => rfl
             | true => exact absurd (hcl 6 4 (by show 6 < 8; decide) h (by kernel_rfl)) (by rw [hl]; decide)
           have n7 : lst 7 = false := by
             cases h : lst 7 with
             | false => rfl
             | true => exact absurd (hcl 7 4 (by show 7 < 8; decide) h (by kernel_rfl)) (by rw [hl]; decide)
           obtain rfl := g1 n5
           obtain rfl : x33 = _ := hp 3 (by kernel_rfl)
           obtain ⟨c0, c1, c2, c3, c4, c5, c6, c7, c8, c9, c10, c11⟩ := (hK.src hn).cells hy
           have cl := (hK.src hn).lt
           refine wpOp_at (by rfl) rfl ?_
           go_simp
           exact hK2 _ _ ⟨_, rfl, ⟨fun _ => rfl, fun q => absurd (show lst 5 = true by simpa using q) (by rw [n5]; decide), fun q => absurd (show lst 6 = true by simpa using q) (by rw [n6]; decide), fun q => absurd (show lst 7 = true by simpa using q) (by rw [n7]; decide)⟩, (fun q => absurd q (by decide)), rfl⟩
         | 5, _ =>
           obtain ⟨g1, g2, g3, g4⟩ := hG
           have n5 := hl
           have n6 : lst 6 = false := by
             cases h : lst 6 with
             | false => rfl
             | true => exact absurd (hcl 6 5 (by show 6 < 8; decide) h (by kernel_rfl)) (by rw [hl]; decide)
           have n7 : lst 7 = false := by
             cases h : lst 7 with
             | false => rfl
             | true => exact absurd (hcl 7 5 (by show 7 < 8; decide) h (by kernel_rfl)) (by rw [hl]; decide)
           obtain rfl := g1 n5
           obtain rfl : x34 = _ := hp 4 (by kernel_rfl)
           refine wpOp_at (by rfl) rfl ?_
           go_simp
           exact hK2 _ _ ⟨_, rfl, ⟨fun q => absurd q (by simp), fun _ _ => rfl, fun q => absurd (show lst 6 = true by simpa using q) (by rw [n6]; decide), fun q => absurd (show lst 7 = true by simpa using q) (by rw [n7]; decide)⟩, (fun q => absurd q (by decide)), rfl⟩
         | 6, _ =>
           obtain ⟨g1, g2, g3, g4⟩ := hG
           have n6 := hl
           have n7 : lst 7 = false := by
             cases h : lst 7 with
             | false => rfl
             | true => exact absurd (hcl 7 6 (by show 7 < 8; decide) h (by kernel_rfl)) (by rw [hl]; decide)
           have y5 : lst 5 = true := hwl 5 (by kernel_rfl)
           obtain rfl := g2 y5 n6
           obtain rfl : x30 = _ := hp 0 (by kernel_rfl)
           obtain rfl : x35 = _ := hp 5 (by kernel_rfl)
           refine wpOp_at (by rfl) rfl ?_
           refine wp_append_lies _ _ _ 22 rfl W2.heap.size 39 i0 (.agg #[.int .u64 0, .int .u8 0, .int .u32 0, .string ⟨#[]⟩, .int .u32 0, .int .u8 0, .int .u32 0, .string ⟨#[]⟩, .int .u32 0, .int .u32 0, .int .i64 0, .string ⟨#[]⟩]) 12 96 Tryz.underlying22 hI0 hz0 hz1 hz2 rfl (by decide) _ (pre.filterMap fun i => xs[i]?).length ((pre.filterMap fun i => xs[i]?).flatMap encR) rfl ((hK.row).alloc _) ⟨W.heap.size, 0, none⟩ 1 1 (encR y) rfl rfl (news_box (SBox.new W.drew 39 (recC y))) (by intro u hu; simp [encR, recC] at hu; rcases hu with rfl | rfl | rfl | rfl | rfl | rfl | rfl | rfl | rfl | rfl | rfl | rfl <;> rfl) (by decide) (by unfold maxLen; omega) (by omega) (by have := hK.sz; simp; omega) _ rfl ?_
           intro q2 cap2 V2 hown hgrow _ _
           exact hK2 _ _ ⟨_, rfl, ⟨fun q => absurd (show lst 5 = false by simpa using q) (by rw [y5]; decide), fun _ q => absurd q (by simp), fun _ _ => hgrow, fun q => absurd (show lst 7 = true by simpa using q) (by rw [n7]; decide)⟩, (fun q => absurd q (by decide)), q2, cap2, rfl, hown⟩
         | 7, _ =>
           obtain ⟨g1, g2, g3, g4⟩ := hG
           have n7 := hl
           have y6 : lst 6 = true := hwl 6 (by kernel_rfl)
           have y5of : lst 5 = true := hcl 6 5 (by show 6 < 8; decide) y6 (by kernel_rfl)
           obtain ⟨q2, cap2, e36, hown⟩ := hp 6 (by kernel_rfl)
           change x36 = _ at e36
           subst e36
           have hgr := g3 y6 n7
           have kO := (hgr.block _ (by have := hK.out.lt; simp; omega) (fun e => by have := (row_cells hK.row e.symm).1; omega)).trans (hK.out.alloc (.cells (recC y) 39))
           have k0 : w1.cell? ⟨wz.heap.size + 1, 0, none⟩ = some v := (SBox.cell kO 0)
           have kl := SBox.lt kO
           have kf := SBox.free kO 0
           refine wpOp_at (by rfl) rfl ?_
           go_simp
           exact hK2 _ _ ⟨undef, rfl, ⟨fun q => absurd (show lst 5 = false by simpa using q) (by rw [y5of]; decide), fun _ q => absurd (show lst 6 = false by simpa using q) (by rw [y6]; decide), fun _ q => absurd q (by simp), fun _ => ⟨_, KI.app (W := W.drew) hKd hy hgr hown hg (by omega) (by omega)⟩⟩, (fun _ => Tch.cell rfl), trivial⟩
         | i + 8, hi => exact absurd hi (by simp)
       case done =>
         rintro a V lst hl ⟨x30, x31, x32, x33, x34, x35, x36, rfl⟩ ⟨g1, g2, g3, g4⟩ hp
         obtain ⟨v2, k1, k2, k3⟩ := g4 (hl 7 (by show 7 < 8; decide))
         exact ⟨⟨k2.size, k2.same⟩, fun c hc => k3 c hc, v2, k1⟩
     case fin =>
       rintro D ys W hD hS ⟨v, hK⟩ hDf
       subst hS
       obtain ⟨p9, n9, c9, rfl⟩ : ∃ p9 n9 c9, v = Value.slice p9 n9 c9 := by
         rcases hK.row.2 with ⟨rfl, _⟩ | ⟨g2, cp, cur, rfl, _⟩
         · exact ⟨_, _, _, rfl⟩
         · exact ⟨_, _, _, rfl⟩
       have KK := Lib.hid hK
       have hX := hK.out
       have X0 := hX.cell 0
       simp only [List.getElem?_toArray, List.getElem?_cons_zero, List.getElem?_cons_succ] at X0
       have Xl := hX.lt
       clear hX hK
       have RV := Lib.hid (callsIn_wide (n := 4 - 1) |>.2 (reverse_any W2.heap.size (.slice p9 n9 c9) ((downK st xs 0).filterMap fun i => xs[i]?) W KK.out.row (by
         have h3 : (downK st xs 0).length ≤ xs.length := by
           unfold downK
           rw [List.length_reverse]
           exact Nat.le_trans (List.length_filter_le _ _) (by simp)
         have := List.length_filterMap_le (fun i => xs[i]?) (downK st xs 0)
         omega)))
       rw [downK_rows, List.reverse_reverse, List.length_reverse] at RV
       have RC := Lib.hid (fun c (e : (Value.slice p9 n9 c9).ownBlock = some c) => row_cells KK.out.row e)
       gi_wp2_with fail
       refine ⟨trivial, RV.out.mono ?_⟩
       rintro e w9 ⟨rfl, h1, h2⟩
       have hO9 : SBox w9 (wz.heap.size + 1) 22 #[.slice p9 n9 c9] := Tch.box h2 KK.out.out (fun e => by have := (RC.out _ e).1; omega)
       have hD9 : w9.heap[D]? = some (.deferred (some [])) := (h2.block D (Array.getElem?_eq_some_iff.1 hDf).1 (fun e => by
         obtain ⟨_, ob, k1, k2⟩ := RC.out _ e
         rw [hDf] at k1
         cases k1
         cases k2)).trans hDf
       have R9 := Lib.hid (row_lower h1 (show wz.heap.size ≤ W2.heap.size by omega))
       have B9 := Lib.hid (KK.out.be.trans (h2.below fun i hi => ⟨by have := KK.out.be.size; omega, fun e => by have := (RC.out _ e).1; omega⟩))
       have H9 := Lib.hid hO9
       have f9 := hO9.free 0
       have D9 := Lib.hid hD9
       clear X0 Xl
       have X0 := hO9.cell 0
       simp only [List.getElem?_toArray, List.getElem?_cons_zero, List.getElem?_cons_succ] at X0
       have Xl := hO9.lt
       clear h1 h2 hO9 hD9 RV
       gi_wp2_with fail
       have hDn : D ≠ wz.heap.size + 1 := by omega
       have hDV : (w9.setCell ⟨wz.heap.size + 1, 0, none⟩ (.slice p9 n9 c9)).heap[D]? = some (.deferred (some [])) := (heap_setCell_other w9 ⟨wz.heap.size + 1, 0, none⟩ D _ hDn).trans D9.out
       have hDl : wz.heap.size ≤ D := by omega
       have S9 : SBox ((w9.setCell ⟨wz.heap.size + 1, 0, none⟩ (.slice p9 n9 c9)).putObj D (.deferred none)) (wz.heap.size + 1) 22 #[.slice p9 n9 c9] := (World.putObj_heap_other (by omega)).trans (H9.out.set 0 (.slice p9 n9 c9))
       have k9 := S9.cell 0
       simp only [List.getElem?_toArray, List.getElem?_cons_zero] at k9
       have G9 := Lib.hid (grownBy_putObj' (w9.setCell ⟨wz.heap.size + 1, 0, none⟩ (.slice p9 n9 c9)) D (.deferred none))
       have N9 := Lib.hid (show (Value.slice p9 n9 c9).ownBlock ≠ some D from fun e => by
         obtain ⟨_, ob, k1, k2⟩ := RC.out _ e
         rw [hDf] at k1
         cases k1
         cases k2)
       refine ⟨by simp, .inl ⟨_, _, rfl, run_takeDeferred hDV, ?_⟩⟩
       refine ⟨.slice p9 n9 c9, ?_, _, rfl, (R9.out.setCell_lower (a := ⟨wz.heap.size + 1, 0, none⟩) (fun e => by have h7 : W2.heap.size ≤ wz.heap.size + 1 := (RC.out _ e).1; omega) _).kept G9.out (.inr N9.out), (B9.out.setCell (p := ⟨wz.heap.size + 1, 0, none⟩) (by show wz.heap.size ≤ wz.heap.size + 1; omega) _).grown G9.out (by have := B9.out.size; simp; omega) (fun k e => by cases e; omega)⟩
       simp [results, Tryz.results8, Tryz.f8, go_sem, k9]
     case stop =>
       rintro D q pre W _ _ h _
       exact h.elim
end Go.Proofs.YtmfhnhnmdeabeaaGreat.Re
end
section
namespace Go.Proofs.YtmfhnhnmdeabeaaGreat.Re
open Go.RowKit Go.Shelf Go.Maps Oct Path Tr
variable {E : TL} {room q : Nat}
def RowU (W : World) (base : Nat) (p : Option Addr) (ys : List Nat) : Prop := ∀ (i y : Nat), ys[i]? = some y → ∃ g2, p = some ⟨g2, 0, none⟩ ∧ base ≤ g2 ∧ g2 < W.heap.size ∧ W.cell? ⟨g2, i, none⟩ = some (.int .u32 y)
theorem RowU.of {W : World} {base : Nat} {v : Value} {ys : List Nat} (h : W.ownsRow base 37 1 v ys.length (ys.map enc32)) : ∃ p cap, v = .slice p ys.length cap ∧ RowU W base p ys := by
 rcases Nat.eq_zero_or_pos ys.length with h0 | h0
 · rcases h.2 with ⟨rfl, _⟩ | ⟨g, cap, cur, rfl, _⟩
   · exact ⟨none, 0, by rw [h0], fun i y hy => by rw [List.eq_nil_of_length_eq_zero h0] at hy; cases hy⟩
   · exact ⟨_, cap, rfl, fun i y hy => by rw [List.eq_nil_of_length_eq_zero h0] at hy; cases hy⟩
 · obtain ⟨g, cap, rfl, h1, h2⟩ := h.form h0
   refine ⟨_, cap, rfl, fun i y hy => ⟨g, rfl, h1, h2, ?_⟩⟩
   have hi := (List.getElem?_eq_some_iff.1 hy).1
   rw [h.cellAt i (by omega)]
   simp [hy, enc32]
theorem RowU.tch {W W' : World} {base : Nat} {p : Option Addr} {ys : List Nat} {O : Nat → Prop} (h : RowU W base p ys) (hO : ∀ c, O c → c < base) (ht : Tch O W W') : RowU W' base p ys := fun i y hy => by
 obtain ⟨g2, a, c, d, e⟩ := h i y hy
 refine ⟨g2, a, c, Nat.lt_of_lt_of_le d ht.size, ?_⟩
 rw [← e]
 unfold World.cell?
 rw [ht.block g2 d (fun q => by have := hO _ q; omega)]
theorem RowU.later {W W' : World} {base : Nat} {p : Option Addr} {ys : List Nat} (h : RowU W base p ys) (hb : Below W.heap.size W W') : RowU W' base p ys := fun i y hy => by
 obtain ⟨g2, a, c, d, e⟩ := h i y hy
 refine ⟨g2, a, c, Nat.lt_of_lt_of_le d hb.size, ?_⟩
 rw [← e]
 unfold World.cell?
 rw [hb.block g2 d]
theorem inos_root : inos rootT = [1] := by decide +kernel
theorem inv_root (h : 2 ≤ room) : Inv room rootT := by
 have hn : ∀ x, x ≠ 1 → rootT.n x = Nd.no := fun x hx => by simp [rootT, setN, hx]
 have h1 : rootT.n 1 = ⟨2, 1, 0, 0, []⟩ := rfl
 have hk : ∀ x, (rootT.n x).kind ≠ 0 → x = 1 := fun x hx => Classical.byContradiction fun e => hx (by rw [hn x e]; rfl)
 have hl : ∀ d s, rootT.l d s = 0 := fun _ _ => rfl
 refine { k2 := fun x => ?_, no := fun x hx => ?_, noL := fun _ _ _ => rfl, fl := fun x hx => ?_, dr := fun x hx => ?_, rng := fun x hx => ?_, root := ⟨rfl, rfl⟩, ent := fun d s h => absurd rfl h, one := fun d s h => ?_, one2 := fun d s t h => ?_, upd := fun x hx h => ?_, hl := fun x hx => ?_, cnt := fun x hx => ?_, acy := ⟨fun _ => 0, fun x hx => ?_⟩ }
 · by_cases e : x = 1
   · subst e; rw [h1]; decide
   · rw [hn x e]; decide
 · by_cases e : x = 1
   · subst e; rw [h1] at hx; cases hx
   · exact hn x e
 · rw [hk x (by rw [hx]; decide), h1] at hx; cases hx
 · have e := hk x (by rw [hx]; decide); subst e; exact ⟨rfl, rfl, rfl⟩
 · have e := hk x hx; omega
 · rw [hl, hn 0 (by decide)] at h; cases h
 · rw [hl, hn 0 (by decide)] at h; cases h
 · exact absurd (hk x (by rw [hx]; decide)) h
 · rw [hk x (by rw [hx]; decide), h1] at hx; cases hx
 · rw [hk x (by rw [hx]; decide), h1] at hx; cases hx
 · by_cases e : x = 1
   · subst e; exact absurd rfl hx
   · rw [hn x e] at hx; exact absurd rfl hx
set_option maxHeartbeats 4000000 in
theorem held_root (wz : World) (hT : TreeAt wz E room q rootT) (h2 : 2 ≤ room) :
   Calls Tryz.prog 25 #[.pointer (some ⟨E.t, 0, none⟩)] wz fun e w' => ∃ E', e = .returned (.pointer (some ⟨E'.t, 0, none⟩)) ∧ TreeAt w' E' room q rootT ∧ (∀ c, E'.O c → wz.heap.size ≤ c ∧ c < w'.heap.size) ∧ Below wz.heap.size wz w' := by
 have CP := Lib.hid (copy_any wz hT (inv_root h2))
 have IV := Lib.hid (inv_root h2)
 clear hT
 go_enter Tryz.func25, Tryz.ntmps25
 go_wp2_with fail
 refine Calls.mono CP.out ?_
 rintro e w1 ⟨E1, rfl, hT1, hO1, hb1⟩
 have AL := Lib.hid (all_any w1 hT1 IV.out)
 have T1 := Lib.hid hT1
 have O1 := Lib.hid hO1
 have B1 := Lib.hid hb1
 clear hT1 hO1 hb1 CP
 go_wp2_with fail
 refine Calls.mono AL.out ?_
 rintro e w2 ⟨v, rfl, hr, hb2⟩
 rw [inos_root] at hr
 obtain ⟨p, cap, rfl, hU⟩ := RowU.of (ys := [1]) hr
 obtain ⟨g, rfl, hg1, hg2, c0⟩ := hU 0 1 rfl
 have T2 := Lib.hid (T1.out.later hb2)
 have B2 := Lib.hid (B1.out.trans (hb2.mono B1.out.size))
 have HO := Lib.hid (hold_any w2 T2.out 1 (by decide) (by show (0 : Nat) < 100000; decide))
 rw [show fileE rootT 1 = 181 by decide +kernel, show holdS rootT 1 = rootT by unfold holdS; rw [if_neg (by decide +kernel)]] at HO
 clear hr hU hb2 AL T1 B1
 simp only [List.length_cons, List.length_nil, Nat.zero_add]
 go_wp2_with fail
 refine wp_loop_rounds 2 ?_
 rw [rounds_succ]
 go_wp2_with fail
 refine Calls.mono HO.out ?_
 rintro e w3 ⟨rfl, h3, t3⟩
 have T3 := Lib.hid h3
 have C3 := Lib.hid t3
 clear h3 t3 c0
 go_wp2_with fail
 rw [rounds_succ]
 go_wp2_with fail
 go_ret
 refine ⟨tightL E1 rootT, rfl, T3.out.tight, fun c hc => ⟨O1.out c (T3.out.tight_sub hc).1, (T3.out.tight_sub hc).2⟩, B2.out.trans (C3.out.below fun i hi => ⟨by have := B2.out.size; omega, fun e => by have := O1.out i e; omega⟩)⟩
def dropAll (S : T) (l : List Nat) : T := l.foldl dropS S
def ridT (S : T) : T := dropAll S (inos S)
theorem dropAll_snoc (S : T) (l : List Nat) (x : Nat) : dropAll S (l ++ [x]) = dropS (dropAll S l) x := by simp [dropAll]
theorem inv_drop {S : T} (hI : Inv room S) (x : Nat) : Inv room (dropS S x) := by
 by_cases h0 : dropE S x = 0
 · obtain ⟨h1, h2⟩ := dropE_ok h0
   have hk := hI.k2 x
   have h3 : (S.n x).kind = 1 := by
     by_cases h : (S.n x).kind = 2
     · exact absurd (hI.dr x h).1 h2
     · omega
   rw [drop_fre hI h3 h2]
   exact inv_held hI h3 _
 · unfold dropS
   rw [if_neg h0]
   exact hI
theorem inv_dropAll {S : T} (hI : Inv room S) (l : List Nat) : Inv room (dropAll S l) := by
 induction l generalizing S with
 | nil => exact hI
 | cons x l ih => exact ih (inv_drop hI x)
theorem take_snoc {α : Type} {l : List α} {i : Nat} {x : α} (h : l[i]? = some x) : l.take (i + 1) = l.take i ++ [x] := by rw [List.take_add_one, h]; rfl
theorem plays_at {S : T} {xs : List Rc} (hI : Inv room S) (hp : Plays room xs S) {i : Nat} {x : Rc} (hx : xs[i]? = some x) : Ok room x (run (xs.take i) S) ∧ run (xs.take (i + 1)) S = next x (run (xs.take i) S) ∧ Inv room (run (xs.take i) S) := by
 have hl := (List.getElem?_eq_some_iff.1 hx).1
 have e : xs = xs.take i ++ x :: xs.drop (i + 1) := by rw [← drop_cons hx, List.take_append_drop]
 have hp2 := hp
 rw [e, plays_append] at hp2
 refine ⟨hp2.2.2.1, ?_, inv_run hI hp2.1⟩
 rw [take_snoc hx, run_append]
 rfl
theorem inos_lt {S : T} {x : Nat} (h : x ∈ inos S) : x ≤ 256 := by
 unfold inos at h
 simp at h
 omega
set_option maxHeartbeats 8000000 in
theorem durPlay_ok (wz : World) (hT : TreeAt wz E room 0 rootT) (h2 : 2 ≤ room) (xs : List Rc) (hp : Plays room xs rootT) (hm : ∀ r ∈ xs, May r) (hlen : xs.length ≤ 100) (p : Option Addr) (g o cap : Nat) (hR : xs ≠ [] → p = some ⟨g, o, none⟩ ∧ RowR wz g o xs) :
   Calls Tryz.prog 9 #[.pointer (some ⟨E.t, 0, none⟩), .slice p xs.length cap] wz fun e w' => ∃ E' q', e = .returned (.tuple #[.pointer (some ⟨E'.t, 0, none⟩), .int .i64 0]) ∧ TreeAt w' E' room q' (ridT (run xs rootT)) ∧ (∀ c, E'.O c → wz.heap.size ≤ c ∧ c < w'.heap.size) ∧ Below wz.heap.size wz w' := by
 have HE := Lib.hid (held_root wz hT h2)
 have HP := Lib.hid hp
 have HM := Lib.hid hm
 have HR := Lib.hid hR
 have IV := Lib.hid (inv_root h2)
 clear hT hp hm hR
 obtain ⟨n, hn⟩ : ∃ n, xs.length = n := ⟨_, rfl⟩
 rw [hn] at hlen ⊢
 have HN := Lib.hid hn
 clear hn
 go_enter Tryz.func9, Tryz.ntmps9
 go_wp2_with fail
 refine Calls.mono HE.out ?_
 rintro e w1 ⟨E1, rfl, hT1, hO1, hb1⟩
 have T1 := Lib.hid hT1
 have O1 := Lib.hid hO1
 have B1 := Lib.hid hb1
 obtain ⟨t0, ht0⟩ : ∃ t0, E1.t = t0 := ⟨_, rfl⟩
 rw [ht0]
 have HT0 := Lib.hid ht0
 clear hT1 hO1 hb1 HE ht0
 go_wp2_with fail
 go_loopw [18] (fun s18 wr => ∃ (i : Nat) (E' : TL) (q' : Nat), s18 = .int .i64 i ∧ i ≤ n ∧ TreeAt wr E' room q' (run (xs.take i) rootT) ∧ E'.t = t0 ∧ (∀ c, E'.O c → wz.heap.size ≤ c ∧ c < wr.heap.size) ∧ q' ≤ i ∧ Below wz.heap.size wz wr) (fun s18 _ => n - (intOf s18).toNat)
 case atStart => exact ⟨0, E1, 0, rfl, Nat.zero_le _, T1.out, HT0.out, O1.out, Nat.le_refl _, B1.out⟩
 case round =>
   obtain ⟨i, E2, q2, rfl, hi, hT2, ht2, hO2, hq2, hB2⟩ := hrel
   have T2 := Lib.hid hT2
   have O2 := Lib.hid hO2
   have B2 := Lib.hid hB2
   have Q2 := Lib.hid hq2
   have E2t := Lib.hid ht2
   clear hT2 hO2 hB2 hq2 ht2
   rcases Nat.lt_or_ge i n with hlt | hge
   · have hlx : i < xs.length := by have := HN.out; omega
     have hne : xs ≠ [] := fun e => by rw [e] at hlx; simp at hlx
     obtain ⟨rfl, hR1⟩ := HR.out hne
     obtain ⟨x, hx⟩ : ∃ x, xs[i]? = some x := ⟨_, List.getElem?_eq_getElem hlx⟩
     have hR2 := hR1.blocks (B2.out.block g hR1.lt)
     obtain ⟨c0, c1, c2, c3, c4, c5, c6, c7, c8, c9, c10, c11⟩ := hR2.cells hx
     have hgl := hR2.lt
     have PA := Lib.hid (plays_at IV.out HP.out hx)
     have hal := (Below.refl _ wr).alloc (Nat.le_refl _) (.cells #[.int .u64 x.stamp, .int .u8 x.op, .int .u32 x.dir, .string (B x.name), .int .u32 x.ino, .int .u8 x.kind, .int .u32 x.dir2, .string (B x.name2), .int .u32 x.old, .int .u32 x.size, .int .i64 x.page, .string (B x.data)] 39)
     have PK := Lib.hid (play_ok (wr.alloc (.cells #[.int .u64 x.stamp, .int .u8 x.op, .int .u32 x.dir, .string (B x.name), .int .u32 x.ino, .int .u8 x.kind, .int .u32 x.dir2, .string (B x.name2), .int .u32 x.old, .int .u32 x.size, .int .i64 x.page, .string (B x.data)] 39)) (T2.out.later hal) (fun c hc => Nat.lt_of_lt_of_le (O2.out c hc).2 hal.size) PA.out.2.2 (by have := Q2.out; omega) x (HM.out x (List.mem_of_getElem? hx)) PA.out.1)
     have AL := Lib.hid hal
     rw [E2t.out] at PK
     unfold recV recC at PK
     clear hne hR1 hR2 hx hlx hal
     go_wp2_with fail
     refine Calls.mono PK.out ?_
     rintro e w3 ⟨rfl, hpl⟩
     obtain ⟨E3, p3⟩ := hpl
     have P3 := Lib.hid p3
     clear p3 c0 c1 c2 c3 c4 c5 c6 c7 c8 c9 c10 c11 hgl PK
     go_wp2_with fail
     go_roundw
     case rel =>
       refine ⟨i + 1, E3, q2 + 1, by go_num, by omega, by rw [PA.out.2.1]; exact P3.out.at_, P3.out.t.trans E2t.out, fun c hc => ⟨?_, P3.out.lt c hc⟩, by have := Q2.out; omega, ?_⟩
       · rcases P3.out.new c hc with h | h
         · exact (O2.out c h).1
         · have := AL.out.size; have := B2.out.size; omega
       · have h1 := B2.out.trans (AL.out.mono B2.out.size)
         exact h1.trans (P3.out.tch.below fun k hk => ⟨by have := h1.size; omega, fun e => by have := (O2.out k e).1; omega⟩)
     case measure => first | (simp [intOf]; done) | (simp [intOf]; omega)
   · have e : i = n := by omega
     subst e
     have hrun : xs.take i = xs := by rw [← HN.out]; exact List.take_length
     have T3 := T2.out
     rw [hrun] at T3
     have IR := Lib.hid (inv_run IV.out HP.out)
     obtain ⟨S, hS⟩ : ∃ S, run xs rootT = S := ⟨_, rfl⟩
     rw [hS] at T3 IR
     have AL := Lib.hid (all_any wr T3 IR.out)
     rw [E2t.out] at AL
     have T4 := Lib.hid T3
     have HS := Lib.hid hS
     clear T3 hrun T2 hS
     go_wp2_with fail
     refine Calls.mono AL.out ?_
     rintro e w2 ⟨v, rfl, hr, hb2⟩
     obtain ⟨p3, cap3, rfl, hU⟩ := RowU.of hr
     have ML := Lib.hid (fun x (h : x ∈ inos S) => inos_lt h)
     have RD : Hid (ridT S = dropAll S (inos S)) := Lib.hid rfl
     obtain ⟨ys, hys⟩ : ∃ ys, inos S = ys := ⟨_, rfl⟩
     rw [hys] at hU ML RD ⊢
     have U2 := Lib.hid hU
     have T5 := Lib.hid (T4.out.later hb2)
     have B3 := Lib.hid (B2.out.trans (hb2.mono B2.out.size))
     have YL : ys.length ≤ 257 := by
       rw [← hys]
       unfold inos
       exact Nat.le_trans (List.length_filter_le _ _) (by simp)
     have SZ := Lib.hid hb2.size
     clear hr hU hb2 AL T4 hys
     go_wp2_with fail
     go_loopw [32] (fun s32 wq => ∃ k : Nat, s32 = .int .i64 k ∧ k ≤ ys.length ∧ TreeAt wq E2 room q2 (dropAll S (ys.take k)) ∧ RowU wq wr.heap.size p3 ys ∧ Tch E2.O w2 wq) (fun s32 _ => ys.length - (intOf s32).toNat)
     case atStart => exact ⟨0, rfl, Nat.zero_le _, T5.out, U2.out, Tch.refl _ _⟩
     case round =>
       obtain ⟨k, rfl, hk, hT6, hU6, hC6⟩ := hrel
       have T6 := Lib.hid hT6
       have U6 := Lib.hid hU6
       have C6 := Lib.hid hC6
       clear hT6 hU6 hC6
       rcases Nat.lt_or_ge k ys.length with hlt | hge
       · obtain ⟨y, hy⟩ : ∃ y, ys[k]? = some y := ⟨_, List.getElem?_eq_getElem hlt⟩
         obtain ⟨g2, rfl, hgb, hgl, hc⟩ := U6.out k y hy
         have DR := Lib.hid (drop_any _ T6.out y (by have := ML.out y (List.mem_of_getElem? hy); omega))
         rw [E2t.out] at DR
         have HY := Lib.hid (take_snoc hy)
         clear hy
         go_wp2_with fail
         refine Calls.mono DR.out ?_
         rintro e w7 ⟨rfl, h7, t7⟩
         have T7 := Lib.hid h7
         have C7 := Lib.hid t7
         clear h7 t7 DR hc hgl
         go_wp2_with fail
         go_roundw
         case rel => exact ⟨k + 1, by go_num, by omega, by rw [HY.out, dropAll_snoc]; exact T7.out, U6.out.tch (fun c hc => (O2.out c hc).2) C7.out, C6.out.trans C7.out⟩
         case measure => first | (simp [intOf]; done) | (simp [intOf]; omega)
       · have e : k = ys.length := by omega
         subst e
         have T8 := T6.out
         rw [List.take_length] at T8
         have T9 := Lib.hid T8
         clear T8 T6
         go_wp2_with fail
         go_ret2
         have B9 := B3.out.trans (C6.out.below fun k hk => ⟨by have := B3.out.size; omega, fun e => by have := (O2.out k e).1; omega⟩)
         exact ⟨E2, q2, by rw [E2t.out]; rfl, by rw [HS.out, RD.out]; exact T9.out, fun c hc => ⟨(O2.out c hc).1, Nat.lt_of_lt_of_le (O2.out c hc).2 (Nat.le_trans SZ.out C6.out.size)⟩, B9⟩
end Go.Proofs.YtmfhnhnmdeabeaaGreat.Re
end
