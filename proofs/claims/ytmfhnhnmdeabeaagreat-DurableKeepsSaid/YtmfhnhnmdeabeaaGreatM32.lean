/- Layer 32 (durable): slices.Reverse of a row of records that the call has built. -/
import Derived.Test.YtmfhnhnmdeabeaaGreatM26
import Derived.Test.YtmfhnhnmdeabeaaGreatM25
import Derived.Deep.DeepMust
import Derived.Deep.AppendLies
import Derived.Test.YtmfhnhnmdeabeaaGreatM02
set_option linter.unusedVariables false
set_option linter.unusedSimpArgs false
set_option maxRecDepth 100000
section
namespace Go.Proofs.YtmfhnhnmdeabeaaGreat.Re
open Go.RowKit Go.Shelf Go.Maps Oct Path Tr
structure RowR (W : World) (g o : Nat) (xs : List Rc) : Prop where
 at_ : ∀ i x, xs[i]? = some x → ∀ j c, (recC x)[j]? = some c → W.cell? ⟨g, o + i * 12 + j, none⟩ = some c
 lt : g < W.heap.size
theorem RowR.blocks {W W' : World} {g o : Nat} {xs : List Rc} (h : RowR W g o xs) (hb : W'.heap[g]? = W.heap[g]?) : RowR W' g o xs := by
 have hl : g < W'.heap.size := by
   rcases Nat.lt_or_ge g W'.heap.size with q | q
   · exact q
   · rw [Array.getElem?_eq_none q] at hb
     have := h.lt
     rw [Array.getElem?_eq_getElem this] at hb
     cases hb
 refine ⟨fun i x hx j c hc => ?_, hl⟩
 rw [← h.at_ i x hx j c hc]
 unfold World.cell?
 rw [hb]
theorem RowR.later {W W' : World} {g o : Nat} {xs : List Rc} (h : RowR W g o xs) (hb : Below W.heap.size W W') : RowR W' g o xs := h.blocks (hb.block g h.lt)
theorem RowR.take {W : World} {g o : Nat} {xs : List Rc} (h : RowR W g o xs) (k : Nat) : RowR W g o (xs.take k) := by
 refine ⟨fun i x hx => h.at_ i x ?_, h.lt⟩
 rw [List.getElem?_take] at hx
 split at hx
 · exact hx
 · cases hx
def encR (r : Rc) : List Value := (recC r).toList
theorem RowR.of {W : World} {base g cap : Nat} {xs : List Rc} (h : W.ownsRow base 39 12 (.slice (some ⟨g, 0, none⟩) xs.length cap) xs.length (xs.flatMap encR)) (hg : g < W.heap.size) : RowR W g 0 xs := by
 refine ⟨fun i x hx j c hc => ?_, hg⟩
 have hi : i < xs.length := (List.getElem?_eq_some_iff.1 hx).1
 have hj : j < 12 := by have := (Array.getElem?_eq_some_iff.1 hc).1; simpa [recC] using this
 have h3 := h.cellAt (i * 12 + j) (by omega)
 rw [Nat.zero_add, h3, flat_at encR 12 (fun _ => rfl) xs i j hj, hx]
 simpa [encR] using hc
structure Cells12 (W : World) (g o : Nat) (x : Rc) : Prop where
 c0 : W.cell? ⟨g, o, none⟩ = some (.int .u64 x.stamp)
 c1 : W.cell? ⟨g, o + 1, none⟩ = some (.int .u8 x.op)
 c2 : W.cell? ⟨g, o + 2, none⟩ = some (.int .u32 x.dir)
 c3 : W.cell? ⟨g, o + 3, none⟩ = some (.string (B x.name))
 c4 : W.cell? ⟨g, o + 4, none⟩ = some (.int .u32 x.ino)
 c5 : W.cell? ⟨g, o + 5, none⟩ = some (.int .u8 x.kind)
 c6 : W.cell? ⟨g, o + 6, none⟩ = some (.int .u32 x.dir2)
 c7 : W.cell? ⟨g, o + 7, none⟩ = some (.string (B x.name2))
 c8 : W.cell? ⟨g, o + 8, none⟩ = some (.int .u32 x.old)
 c9 : W.cell? ⟨g, o + 9, none⟩ = some (.int .u32 x.size)
 c10 : W.cell? ⟨g, o + 10, none⟩ = some (.int .i64 x.page)
 c11 : W.cell? ⟨g, o + 11, none⟩ = some (.string (B x.data))
theorem RowR.cells {W : World} {g o : Nat} {xs : List Rc} (h : RowR W g o xs) {i : Nat} {x : Rc} (hx : xs[i]? = some x) : Cells12 W g (o + i * 12) x :=
 ⟨h.at_ i x hx 0 _ rfl, h.at_ i x hx 1 _ rfl, h.at_ i x hx 2 _ rfl, h.at_ i x hx 3 _ rfl, h.at_ i x hx 4 _ rfl, h.at_ i x hx 5 _ rfl, h.at_ i x hx 6 _ rfl, h.at_ i x hx 7 _ rfl, h.at_ i x hx 8 _ rfl, h.at_ i x hx 9 _ rfl, h.at_ i x hx 10 _ rfl, h.at_ i x hx 11 _ rfl⟩
theorem info_I : (Tryz.prog.info? 3).map (fun i => (i.zero, i.size, i.bytes)) = some (some (.int .i64 0), 1, 8) := by kernel_rfl
def encI (k : Nat) : Value := .int .i64 k
def onL (xs : List Rc) (y : Rc) (k : Nat) : List Nat := (List.range k).filter fun i => (xs[i]?).any fun x => meet x y
theorem onL_succ {xs : List Rc} {y x : Rc} {i : Nat} (hx : xs[i]? = some x) : onL xs y (i + 1) = onL xs y i ++ (if meet x y then [i] else []) := by
 unfold onL
 rw [List.range_succ, List.filter_append]
 congr 1
 simp only [List.filter_cons, List.filter_nil, hx, Option.any_some]
theorem onL_len (xs : List Rc) (y : Rc) (k : Nat) : (onL xs y k).length ≤ k := by
 unfold onL
 exact Nat.le_trans (List.length_filter_le _ _) (by simp)
set_option maxHeartbeats 8000000 in
theorem on_ok (xs : List Rc) (hm : ∀ r ∈ xs, May r) (g o cap k : Nat) (y : Rc) (hy : xs[k]? = some y) (hcap : xs.length ≤ cap) (hlen : xs.length ≤ 100) (wz : World) (hR : RowR wz g o xs) :
   Calls Tryz.prog 58 #[.slice (some ⟨g, o, none⟩) xs.length cap, .int .i64 k] wz fun e w' => ∃ v, e = .returned v ∧ w'.ownsRow wz.heap.size 3 1 v (onL xs y k).length ((onL xs y k).map encI) ∧ Below wz.heap.size wz w' := by
 have hk : k < xs.length := (List.getElem?_eq_some_iff.1 hy).1
 have HM := Lib.hid hm
 have HY := Lib.hid hy
 have HR := Lib.hid hR
 obtain ⟨i0, hi, hz0, hz1, hz2⟩ := info_parts info_I
 clear hm hR hy
 obtain ⟨n, hn⟩ : ∃ n, xs.length = n := ⟨_, rfl⟩
 rw [hn] at hk hcap hlen ⊢
 have HN := Lib.hid hn
 clear hn
 have MM := Lib.hid (fun (x : Rc) (hx : x ∈ xs) W => meet_ok x y (HM.out x hx) (HM.out y (List.mem_of_getElem? HY.out)) W)
 unfold recV recC at MM
 have z1 : decide ((k : Int) < 0) = false := by simp
 have z2 : decide (n ≤ k) = false := by simp; omega
 have z3 : decide ((n : Int) ≤ k) = false := by simp; omega
 go_enter Tryz.func58, Tryz.ntmps58
 go_wp2_with fail
 go_loopw [4, 19] (fun s4 s19 wr => ∃ i : Nat, i ≤ k ∧ s19 = .int .i64 i ∧ wr.ownsRow wz.heap.size 3 1 s4 (onL xs y i).length ((onL xs y i).map encI) ∧ Below wz.heap.size wz wr) (fun _ s19 _ => k - (intOf s19).toNat)
 case atStart => exact ⟨0, Nat.zero_le _, rfl, World.ownsRow_nil _ _ _ _, Below.refl _ _⟩
 case round =>
   obtain ⟨i, hik, rfl, hO, hB⟩ := hrel
   have OO := Lib.hid hO
   have BB := Lib.hid hB
   have R1 := Lib.hid (HR.out.blocks (hB.block g HR.out.lt))
   clear hO hB
   rcases Nat.lt_or_ge i k with hlt | hge
   · have hin : i < xs.length := by have := HN.out; omega
     obtain ⟨x, hx⟩ : ∃ x, xs[i]? = some x := ⟨_, List.getElem?_eq_getElem hin⟩
     obtain ⟨c0, c1, c2, c3, c4, c5, c6, c7, c8, c9, c10, c11⟩ := R1.out.cells hx
     have hgl := R1.out.lt
     have HX := Lib.hid hx
     clear hx hin
     go_wp2_with fail
     refine wp_region_phi (by kernel_rfl) (fun | 0 => some 24 | 1 => some 25 | 2 => some 26 | 3 => some 27 | 4 => some 28 | 5 => some 29 | _ => none) (fun a => ∃ x24 x25 x26 x27 x28 x29 : Value, a = ⟨#[Value.slice (some { block := g, off := o }) n cap, Value.int IntKind.i64 ↑k, undef, undef, u4, Value.int IntKind.i64 ↑i, Value.pointer (some { block := wr.heap.size, off := 0 }), Value.int IntKind.i64 ↑k, Value.bool false, Value.bool false, Value.int IntKind.i64 ↑k, Value.slice (some { block := g, off := o }) n cap, Value.int IntKind.i64 ↑n, Value.bool false, Value.bool false, Value.slice (some { block := g, off := o }) n cap, Value.int IntKind.i64 ↑k, Value.slice (some { block := g, off := o }) k cap, Value.int IntKind.i64 ↑k, Value.int IntKind.i64 ↑i, Value.bool true, Value.int IntKind.i64 ↑i, Value.pointer (some { block := g, off := o + i * 12 }), Value.agg #[Value.int IntKind.u64 ↑x.stamp, Value.int IntKind.u8 ↑x.op, Value.int IntKind.u32 ↑x.dir, Value.string (B x.name), Value.int IntKind.u32 ↑x.ino, Value.int IntKind.u8 ↑x.kind, Value.int IntKind.u32 ↑x.dir2, Value.string (B x.name2), Value.int IntKind.u32 ↑x.old, Value.int IntKind.u32 ↑x.size, Value.int IntKind.i64 ↑x.page, Value.string (B x.data)], x24, x25, x26, x27, x28, x29, u30, u31, u32, u33, u34, undef], []⟩) (fun _ W => Below (wr.alloc (.cells (recC x) 39)).heap.size (wr.alloc (.cells (recC x) 39)) W) (fun _ _ _ => True) (fun | 0 => (fun v w => v = .agg #[.int .u64 x.stamp, .int .u8 x.op, .int .u32 x.dir, .string (B x.name), .int .u32 x.ino, .int .u8 x.kind, .int .u32 x.dir2, .string (B x.name2), .int .u32 x.old, .int .u32 x.size, .int .i64 x.page, .string (B x.data)]) | 1 => (fun v w => v = .slice (some ⟨g, o, none⟩) n cap) | 2 => (fun v w => v = .int .i64 k) | 3 => (fun v w => v = .pointer (some ⟨g, o + k * 12, none⟩)) | 4 => (fun v w => v = .agg #[.int .u64 y.stamp, .int .u8 y.op, .int .u32 y.dir, .string (B y.name), .int .u32 y.ino, .int .u8 y.kind, .int .u32 y.dir2, .string (B y.name2), .int .u32 y.old, .int .u32 y.size, .int .i64 y.page, .string (B y.data)]) | 5 => (fun v w => v = .bool (meet x y)) | _ => (fun _ _ => True)) (by kernel_rfl) ?st (by kernel_rfl) ?AA ⟨_, _, _, _, _, _, rfl⟩ ?G0 ?step ?done
     case st =>
       intro i j v w1 w2 hi hj hij hw hp hs
       have hi : i < 6 := hi
       match j, hp with
       | 0, hp | 1, hp | 2, hp | 3, hp | 4, hp | 5, hp => exact hp
       | j + 6, _ => exact trivial
     case AA =>
       rintro i a v hi ⟨_, _, _, _, _, _, rfl⟩
       match i, hi with
       | 0, _ | 1, _ | 2, _ | 3, _ | 4, _ | 5, _ => exact ⟨⟨_, _, _, _, _, _, rfl⟩, fun t h => by cases h <;> exact of_decide_eq_true rfl⟩
       | i + 6, hi => exact absurd hi (by simp)
     case G0 => exact (Below.refl _ _).drew
     case step =>
       rintro i a w1 lst hi ⟨x24, x25, x26, x27, x28, x29, rfl⟩ hl hG hp
       refine wpOp_via (fun K hK => ?_)
       match i, hi with
       | 0, _ =>
         have hX := (SBox.new wr 39 (recC x)).later hG
         unfold recC at hX
         have V0 := hX.cell 0
         have V1 := hX.cell 1
         have V2 := hX.cell 2
         have V3 := hX.cell 3
         have V4 := hX.cell 4
         have V5 := hX.cell 5
         have V6 := hX.cell 6
         have V7 := hX.cell 7
         have V8 := hX.cell 8
         have V9 := hX.cell 9
         have V10 := hX.cell 10
         have V11 := hX.cell 11
         simp only [List.getElem?_toArray, List.getElem?_cons_zero, List.getElem?_cons_succ] at V0 V1 V2 V3 V4 V5 V6 V7 V8 V9 V10 V11
         have Vl := hX.lt
         clear hX
         refine wpOp_at (by rfl) rfl ?_
         go_simp
         exact hK _ _ ⟨_, rfl, hG, trivial, rfl⟩
       | 1, _ =>
         refine wpOp_at (by rfl) rfl ?_
         go_simp
         exact hK _ _ ⟨_, rfl, hG, trivial, rfl⟩
       | 2, _ =>
         refine wpOp_at (by rfl) rfl ?_
         go_simp
         exact hK _ _ ⟨_, rfl, hG, trivial, rfl⟩
       | 3, _ =>
         obtain rfl : x25 = _ := hp 1 (by kernel_rfl)
         obtain rfl : x26 = _ := hp 2 (by kernel_rfl)
         refine wpOp_at (by rfl) rfl ?_
         go_simp
         exact hK _ _ ⟨_, rfl, hG, trivial, rfl⟩
       | 4, _ =>
         obtain rfl : x27 = _ := hp 3 (by kernel_rfl)
         have hY := ((R1.out.later ((Below.refl _ wr).alloc (Nat.le_refl _) (.cells (recC x) 39))).later hG).cells HY.out
         obtain ⟨d0, d1, d2, d3, d4, d5, d6, d7, d8, d9, d10, d11⟩ := hY
         have hgl2 := ((R1.out.later ((Below.refl _ wr).alloc (Nat.le_refl _) (.cells (recC x) 39))).later hG).lt
         refine wpOp_at (by rfl) rfl ?_
         go_simp
         exact hK _ _ ⟨_, rfl, hG, trivial, rfl⟩
       | 5, _ =>
         obtain rfl : x24 = _ := hp 0 (by kernel_rfl)
         obtain rfl : x28 = _ := hp 4 (by kernel_rfl)
         refine wpOp_at (by rfl) rfl ?_
         go_simp
         refine Calls.mono (MM.out x (List.mem_of_getElem? HX.out) _) ?_
         rintro e w2 ⟨rfl, h2⟩
         exact hK _ _ ⟨_, rfl, hG.trans (h2.mono hG.size), trivial, rfl⟩
       | i + 6, hi => exact absurd hi (by simp)
     case done =>
       rintro a w2 lst hl ⟨x24, x25, x26, x27, x28, x29, rfl⟩ hG hp
       obtain rfl : x29 = _ := hp 5 (by decide)
       clear hp
       have B2 := Lib.hid (BB.out.trans (((Below.refl _ wr).alloc (Nat.le_refl _) (.cells (recC x) 39)).trans (hG.mono (by simp))|>.mono BB.out.size))
       have O2 := Lib.hid (own_later hG (OO.out.alloc (.cells (recC x) 39)))
       have ON := Lib.hid (onL_succ (y := y) HX.out)
       have LN := onL_len xs y i
       clear hG c0 c1 c2 c3 c4 c5 c6 c7 c8 c9 c10 c11 hgl
       cases hmt : meet x y
       · rw [hmt] at ON
         clear hmt
         go_wp2_with fail
         go_roundw
         case rel => exact ⟨i + 1, by omega, by go_num, by rw [ON.out]; simpa using O2.out, B2.out⟩
         case measure => simp [intOf]; omega
       · rw [hmt] at ON
         clear hmt
         go_wp2_with (at_builtin; go_must (refine wpList_append_lies _ rfl _ _ 66 rfl wz.heap.size 3 i0 (.int .i64 0) 1 8 Tryz.underlying66 hi hz0 hz1 hz2 rfl (by decide) _ _ _ rfl (O2.out.alloc _) ⟨w2.heap.size, 0, none⟩ 1 1 [.int .i64 i] rfl rfl (news_box (SBox.new w2 3 #[.int .i64 i])) (by intro u hu; simp at hu; subst hu; rfl) (by decide) (by unfold maxLen; omega) (by omega) (by have := B2.out.size; simp; omega) _ rfl ?_; intro g2 cap2 W2 hown hgrow _ _; have O3 := Lib.hid hown; have B3 := Lib.hid ((B2.out.alloc B2.out.size (.cells #[.int .i64 i] 3)).grown hgrow (by have := B2.out.size; simp; omega) (fun q e => (OO.out.lt q e).1)); clear hown hgrow))
         go_roundw
         case rel => exact ⟨i + 1, by omega, by go_num, by rw [ON.out]; simpa [encI] using O3.out, B3.out⟩
         case measure => simp [intOf]; omega
   · have e : i = k := by omega
     subst e
     go_wp2_with fail
     go_ret
     exact ⟨_, rfl, OO.out, BB.out⟩
end Go.Proofs.YtmfhnhnmdeabeaaGreat.Re
end
section
namespace Go.Proofs.YtmfhnhnmdeabeaaGreat.Re
open Go.RowKit Go.Shelf Go.Maps Oct Path Tr
def keptB (st : List Nat) (xs : List Rc) (m : Nat) : Bool := ((maskK st xs)[m]?).any (·.2)
theorem maskK_drop (st : List Nat) (xs : List Rc) (k : Nat) : (maskK st xs).drop k = maskK st (xs.drop k) := by
 induction xs generalizing k with
 | nil => simp [maskK]
 | cons x xs ih =>
   cases k with
   | zero => rfl
   | succ k => simpa [maskK] using ih k
theorem maskK_at {st : List Nat} {xs : List Rc} {m : Nat} {e : Rc × Bool} (h : (maskK st xs)[m]? = some e) : xs[m]? = some e.1 ∧ keptB st xs m = e.2 := by
 refine ⟨?_, by unfold keptB; rw [h]; rfl⟩
 have := congrArg (·[m]?) (maskK_map st xs)
 simp only [List.getElem?_map, h, Option.map_some] at this
 exact this.symm
theorem maskK_some {st : List Nat} {xs : List Rc} {m : Nat} {y : Rc} (h : xs[m]? = some y) : (maskK st xs)[m]? = some (y, keptB st xs m) := by
 have hl : m < (maskK st xs).length := by
   have h1 := congrArg List.length (maskK_map st xs)
   simp only [List.length_map] at h1
   have := (List.getElem?_eq_some_iff.1 h).1
   omega
 obtain ⟨h2, h3⟩ := maskK_at (List.getElem?_eq_getElem hl)
 rw [List.getElem?_eq_getElem hl, h3]
 rw [h] at h2
 cases h2
 rfl
theorem drop_cons {α : Type} {xs : List α} {k : Nat} {x : α} (h : xs[k]? = some x) : xs.drop k = x :: xs.drop (k + 1) := by
 obtain ⟨hl, e⟩ := List.getElem?_eq_some_iff.1 h
 rw [List.drop_eq_getElem_cons hl, e]
theorem kept_iff {st : List Nat} {xs : List Rc} {k : Nat} {x : Rc} (hx : xs[k]? = some x) : keptB st xs k = true ↔ st.contains x.stamp = true ∨ ∃ m y, k < m ∧ xs[m]? = some y ∧ keptB st xs m = true ∧ meet x y = true := by
 have h1 : (maskK st xs)[k]? = some (x, st.contains x.stamp || (maskK st (xs.drop (k + 1))).any fun y => y.2 && meet x y.1) := by
   have : (maskK st xs)[k]? = ((maskK st xs).drop k)[0]? := by simp
   rw [this, maskK_drop, drop_cons hx]
   rfl
 have h2 := (maskK_at h1).2
 rw [h2]
 simp only [Bool.or_eq_true]
 refine or_congr Iff.rfl ?_
 rw [← maskK_drop, List.any_eq_true]
 constructor
 · rintro ⟨e, he, hb⟩
   obtain ⟨i, hi⟩ := List.getElem?_of_mem he
   rw [List.getElem?_drop] at hi
   obtain ⟨a, b⟩ := maskK_at hi
   simp only [Bool.and_eq_true] at hb
   exact ⟨_, e.1, by omega, a, by rw [b]; exact hb.1, hb.2⟩
 · rintro ⟨m, y, hm, hy, hk, hme⟩
   refine ⟨(y, keptB st xs m), ?_, by simp [hk, hme]⟩
   have := maskK_some (st := st) hy
   refine List.mem_of_getElem? (i := m - (k + 1)) ?_
   rw [List.getElem?_drop, show k + 1 + (m - (k + 1)) = m by omega]
   exact this
theorem mem_onL {xs : List Rc} {y : Rc} {k j : Nat} : j ∈ onL xs y k ↔ j < k ∧ ∃ x, xs[j]? = some x ∧ meet x y = true := by
 unfold onL
 rw [List.mem_filter, List.mem_range]
 refine and_congr Iff.rfl ?_
 cases xs[j]? with
 | none => simp
 | some x => simp
theorem onL_nodup (xs : List Rc) (y : Rc) (k : Nat) : (onL xs y k).Nodup := (List.nodup_range).filter _
structure CInv (st : List Nat) (xs : List Rc) (k1 : Nat) (c : Nat → Nat) : Prop where
 iff : ∀ j, c j ≠ 0 ↔ ∃ x, xs[j]? = some x ∧ (st.contains x.stamp = true ∨ ∃ m y, k1 ≤ m ∧ xs[m]? = some y ∧ keptB st xs m = true ∧ j < m ∧ meet x y = true)
 le : ∀ j, c j + k1 ≤ 1 + xs.length
theorem CInv.kept {st : List Nat} {xs : List Rc} {k : Nat} {c : Nat → Nat} (h : CInv st xs (k + 1) c) {x : Rc} (hx : xs[k]? = some x) : c k ≠ 0 ↔ keptB st xs k = true := by
 rw [h.iff, kept_iff hx]
 constructor
 · rintro ⟨x', hx', h1⟩
   rw [hx] at hx'
   cases hx'
   rcases h1 with h1 | ⟨m, y, a, b, c, d, e⟩
   · exact .inl h1
   · exact .inr ⟨m, y, by omega, b, c, e⟩
 · rintro (h1 | ⟨m, y, a, b, c, e⟩)
   · exact ⟨x, hx, .inl h1⟩
   · exact ⟨x, hx, .inr ⟨m, y, by omega, b, c, by omega, e⟩⟩
theorem CInv.skip {st : List Nat} {xs : List Rc} {k : Nat} {c : Nat → Nat} (h : CInv st xs (k + 1) c) (hk : keptB st xs k = false) : CInv st xs k c := by
 refine ⟨fun j => ?_, fun j => by have := h.le j; omega⟩
 rw [h.iff]
 constructor
 · rintro ⟨x, hx, h1 | ⟨m, y, a, b⟩⟩
   · exact ⟨x, hx, .inl h1⟩
   · exact ⟨x, hx, .inr ⟨m, y, by omega, b⟩⟩
 · rintro ⟨x, hx, h1 | ⟨m, y, a, b, c, d⟩⟩
   · exact ⟨x, hx, .inl h1⟩
   · have : m ≠ k := fun e => by rw [e, hk] at c; cases c
     exact ⟨x, hx, .inr ⟨m, y, by omega, b, c, d⟩⟩
def addC (c : Nat → Nat) (l : List Nat) : Nat → Nat := fun j => c j + if j ∈ l then 1 else 0
theorem CInv.step {st : List Nat} {xs : List Rc} {k : Nat} {c : Nat → Nat} (h : CInv st xs (k + 1) c) (hk : keptB st xs k = true) {y : Rc} (hy : xs[k]? = some y) : CInv st xs k (addC c (onL xs y k)) := by
 refine ⟨fun j => ?_, fun j => by have := h.le j; unfold addC; split <;> omega⟩
 have e : addC c (onL xs y k) j ≠ 0 ↔ c j ≠ 0 ∨ j ∈ onL xs y k := by
   unfold addC
   by_cases hj : j ∈ onL xs y k <;> simp [hj]
 rw [e, h.iff, mem_onL]
 constructor
 · rintro (⟨x, hx, h1 | ⟨m, z, a, b⟩⟩ | ⟨hj, x, hx, hm⟩)
   · exact ⟨x, hx, .inl h1⟩
   · exact ⟨x, hx, .inr ⟨m, z, by omega, b⟩⟩
   · exact ⟨x, hx, .inr ⟨k, y, Nat.le_refl _, hy, hk, hj, hm⟩⟩
 · rintro ⟨x, hx, h1 | ⟨m, z, a, b, c, d, f⟩⟩
   · exact .inl ⟨x, hx, .inl h1⟩
   · by_cases e : m = k
     · subst e
       rw [hy] at b
       cases b
       exact .inr ⟨d, x, hx, f⟩
     · exact .inl ⟨x, hx, .inr ⟨m, z, by omega, b, c, d, f⟩⟩
def downK (st : List Nat) (xs : List Rc) (k : Nat) : List Nat := (((List.range xs.length).drop k).filter (keptB st xs)).reverse
theorem downK_end (st : List Nat) (xs : List Rc) : downK st xs xs.length = [] := by
 unfold downK
 rw [List.drop_of_length_le (by simp)]
 rfl
theorem downK_step (st : List Nat) {xs : List Rc} {k : Nat} (h : k < xs.length) : downK st xs k = downK st xs (k + 1) ++ (if keptB st xs k then [k] else []) := by
 unfold downK
 rw [drop_cons (xs := List.range xs.length) (k := k) (x := k) (by simp [h]), List.filter_cons]
 split <;> simp
theorem downK_pre (st : List Nat) (xs : List Rc) : ∀ k, k ≤ xs.length → ∃ post, downK st xs 0 = downK st xs k ++ post
 | 0, _ => ⟨[], by simp⟩
 | k + 1, h => by
   obtain ⟨post, e⟩ := downK_pre st xs k (by omega)
   exact ⟨_, by rw [e, downK_step st (by omega), List.append_assoc]⟩
theorem kept_filter (m : List (Rc × Bool)) : ((List.range m.length).filter fun i => (m[i]?).any (·.2)).filterMap (fun i => (m.map (·.1))[i]?) = keptL m := by
 induction m with
 | nil => rfl
 | cons e m ih =>
   obtain ⟨x, b⟩ := e
   rw [List.length_cons, List.range_succ_eq_map, List.filter_cons]
   have e2 : ((List.map Nat.succ (List.range m.length)).filter fun i => (((x, b) :: m)[i]?).any (·.2)).filterMap (fun i => ((((x, b) :: m).map (·.1))[i]?)) = keptL m := by
     rw [List.filter_map, List.filterMap_map, ← ih]
     rfl
   cases b
   · simpa [keptL] using e2
   · simp only [List.getElem?_cons_zero, Option.any_some, if_true, List.filterMap_cons, List.map_cons]
     rw [← List.map_cons (f := Prod.fst) (a := (x, true)), e2]
     rfl
theorem downK_rows (st : List Nat) (xs : List Rc) : (downK st xs 0).filterMap (fun i => xs[i]?) = (keptL (maskK st xs)).reverse := by
 have h := kept_filter (maskK st xs)
 rw [maskK_map] at h
 have hl : (maskK st xs).length = xs.length := by
   have h1 := congrArg List.length (maskK_map st xs)
   simpa using h1
 rw [hl] at h
 unfold downK
 rw [List.drop_zero, List.filterMap_reverse, ← h]
 rfl
end Go.Proofs.YtmfhnhnmdeabeaaGreat.Re
end
section
namespace Go.Proofs.YtmfhnhnmdeabeaaGreat.Re
open Go.RowKit Go.Shelf Go.Maps Oct Path Tr
attribute [local go_sem] Oper.semAt_some
def cntF (c : Nat → Nat) : Lit → Option Value := natF .i64 (fun j => if c j = 0 then none else some (.int .i64 (c j)))
theorem keyI {x : Nat} (h : x < 1000000) : keyOf Tryz.prog 3 (.int .i64 x) = some (.int .i64 x) := Maps.keyOf_int_mk Tryz.underlying3 (by
 simp only [Lit.wf, Bool.and_eq_true, decide_eq_true_eq]
 exact ⟨by show (-9223372036854775808 : Int) ≤ x; omega, by show (x : Int) ≤ 9223372036854775807; omega⟩)
theorem zero_int (W : World) : (zeroValue 3).run Tryz.prog W = .ok (.int .i64 0) W := by kernel_rfl
theorem cnt_look {W : World} {b : Nat} {c : Nat → Nat} (h : VMap W 3 b 100 (cntF c)) {x : Nat} (hx : x < 1000000) : (Instr.lookup 56 (.map (some b)) (.int .i64 x) false).run Tryz.prog W = .ok (.int .i64 (c x)) W := by
 rw [h.look kInt Tryz.underlying56 (zero_int W) (keyI hx)]
 unfold cntF
 rw [natF_at]
 by_cases h0 : c x = 0
 · rw [if_pos h0, h0]; rfl
 · rw [if_neg h0]; rfl
theorem cnt_put {W : World} {b : Nat} {c : Nat → Nat} (h : VMap W 3 b 100 (cntF c)) (hc : ∀ j, c j ≠ 0 → j < 100) {x : Nat} (hx : x < 100) :
   ∃ W', (Instr.mapUpdate 56 (.map (some b)) (.int .i64 x) (.int .i64 ((c x : Int) + 1))).run Tryz.prog W = .ok () W' ∧ VMap W' 3 b 100 (cntF fun j => if j = x then c x + 1 else c j) ∧ W.mapTurned W' b := by
 obtain ⟨W', hrun, h1, h2⟩ := h.put kInt Tryz.underlying56 (by decide) (keyI (show x < 1000000 by omega)) (.int .i64 ((c x : Int) + 1))
 refine ⟨W', hrun, ?_, h2⟩
 unfold cntF at h1
 rw [natF_put] at h1
 have e : (fun y => if y = x then some (Value.int .i64 ((c x : Int) + 1)) else if c y = 0 then none else some (Value.int .i64 (c y))) = fun j => if (if j = x then c x + 1 else c j) = 0 then none else some (Value.int .i64 ((if j = x then c x + 1 else c j : Nat) : Int)) := by
   funext y
   by_cases hy : y = x
   · subst hy; simp
   · simp [hy]
 rw [e] at h1
 have := h1.tight kInt ((List.range 100).map fun i : Nat => Lit.int .i64 (i : Int)) (fun k _ hs => by
   unfold natF at hs
   cases k with
   | int kk z =>
     simp only at hs
     split at hs
     · rename_i hz
       obtain ⟨rfl, hz⟩ := hz
       obtain ⟨m, rfl⟩ := Int.eq_ofNat_of_zero_le hz
       simp only [Int.toNat_natCast] at hs
       refine List.mem_map.2 ⟨m, ?_, rfl⟩
       rw [List.mem_range]
       by_cases hm : m = x
       · omega
       · rw [if_neg hm] at hs
         by_cases h0 : c m = 0
         · rw [if_pos h0] at hs; cases hs
         · exact hc m h0
     · cases hs
   | _ => cases hs)
 rw [List.length_map, List.length_range] at this
 exact this
structure HSt (W : World) (xs : List Rc) (p : Option Addr) (g o cap lB wB mb : Nat) : Prop where
 l : SBox W lB 22 #[.slice p xs.length cap]
 w : SBox W wB 56 #[.map (some mb)]
 row : xs ≠ [] → p = some ⟨g, o, none⟩ ∧ RowR W g o xs ∧ mb ≠ g
 ne : mb ≠ lB ∧ mb ≠ wB
def KpH (xs : List Rc) (g lB wB mb : Nat) (X Y : World) : Prop := ∀ c, (xs ≠ [] ∧ c = g ∨ c = lB ∨ c = wB ∨ c = mb) → Y.heap[c]? = X.heap[c]?
theorem HSt.kp {X Y : World} {xs : List Rc} {p : Option Addr} {g o cap lB wB mb : Nat} (h : HSt X xs p g o cap lB wB mb) (hk : KpH xs g lB wB mb X Y) : HSt Y xs p g o cap lB wB mb :=
 ⟨(hk lB (.inr (.inl rfl))).trans h.l, (hk wB (.inr (.inr (.inl rfl)))).trans h.w, fun hn => ⟨(h.row hn).1, (h.row hn).2.1.blocks (hk g (.inl ⟨hn, rfl⟩)), (h.row hn).2.2⟩, h.ne⟩
theorem HSt.tch {X Y : World} {xs : List Rc} {p : Option Addr} {g o cap lB wB mb : Nat} (h : HSt X xs p g o cap lB wB mb) (ht : Tch (fun c => c = mb) X Y) : HSt Y xs p g o cap lB wB mb :=
 ⟨Tch.box ht h.l (fun e => h.ne.1 e.symm), Tch.box ht h.w (fun e => h.ne.2 e.symm), fun hn => ⟨(h.row hn).1, (h.row hn).2.1.blocks (ht.block g (h.row hn).2.1.lt (fun e => (h.row hn).2.2 e.symm)), (h.row hn).2.2⟩, h.ne⟩
def RowI (W : World) (base : Nat) (p : Option Addr) (ys : List Nat) : Prop := ∀ (i y : Nat), ys[i]? = some y → ∃ g2, p = some ⟨g2, 0, none⟩ ∧ base ≤ g2 ∧ g2 < W.heap.size ∧ W.cell? ⟨g2, i, none⟩ = some (.int .i64 y)
theorem RowI.of {W : World} {base : Nat} {v : Value} {ys : List Nat} (h : W.ownsRow base 3 1 v ys.length (ys.map encI)) : ∃ p cap, v = .slice p ys.length cap ∧ RowI W base p ys := by
 rcases Nat.eq_zero_or_pos ys.length with h0 | h0
 · rcases h.2 with ⟨rfl, _⟩ | ⟨g, cap, cur, rfl, _⟩
   · exact ⟨none, 0, by rw [h0], fun i y hy => by rw [List.eq_nil_of_length_eq_zero h0] at hy; cases hy⟩
   · exact ⟨_, cap, rfl, fun i y hy => by rw [List.eq_nil_of_length_eq_zero h0] at hy; cases hy⟩
 · obtain ⟨g, cap, rfl, h1, h2⟩ := h.form h0
   refine ⟨_, cap, rfl, fun i y hy => ⟨g, rfl, h1, h2, ?_⟩⟩
   have hi := (List.getElem?_eq_some_iff.1 hy).1
   rw [h.cellAt i (by omega)]
   simp [hy, encI]
theorem RowI.tch {W W' : World} {base : Nat} {p : Option Addr} {ys : List Nat} {b : Nat} (h : RowI W base p ys) (hb : b < base) (ht : Tch (fun c => c = b) W W') : RowI W' base p ys := fun i y hy => by
 obtain ⟨g2, a, c, d, e⟩ := h i y hy
 refine ⟨g2, a, c, Nat.lt_of_lt_of_le d ht.size, ?_⟩
 rw [← e]
 unfold World.cell?
 rw [ht.block g2 d (by omega)]
theorem addC_nil (c : Nat → Nat) : addC c [] = c := by funext j; simp [addC]
theorem addC_snoc (c : Nat → Nat) {ys : List Nat} (hn : ys.Nodup) {i y : Nat} (hy : ys[i]? = some y) : (fun j => if j = y then addC c (ys.take i) y + 1 else addC c (ys.take i) j) = addC c (ys.take (i + 1)) := by
 have hnew : y ∉ ys.take i := fun hm => by
   have h1 : (ys.take (i + 1)).Nodup := hn.sublist (List.take_sublist _ _)
   rw [List.take_add_one, hy] at h1
   exact (List.nodup_append.1 h1).2.2 _ hm _ (by simp) rfl
 funext j
 unfold addC
 rw [List.take_add_one, hy]
 simp only [Option.toList_some, List.mem_append, List.mem_singleton]
 by_cases hj : j = y
 · subst hj
   simp [hnew]
 · simp [hj]
set_option maxHeartbeats 8000000 in
theorem hangs_seq (n : Nat) (hn : 1 ≤ n) (st : List Nat) (xs : List Rc) (hm : ∀ r ∈ xs, May r) (hlen : xs.length ≤ 100) (p0 : Option Addr) (g o cap lB wB mb : Nat) (hcap : xs.length ≤ cap) (c0 : Nat → Nat) (w : World) (hH : HSt w xs p0 g o cap lB wB mb) (hM : VMap w 3 mb 100 (cntF c0)) (hC : CInv st xs xs.length c0) :
   SeqRel Fence.wide n Tryz.prog 57 #[.pointer (some ⟨lB, 0, none⟩), .pointer (some ⟨wB, 0, none⟩)] (fun x : Nat => #[.int .i64 x]) (Tch fun c => c = mb) (KpH xs g lB wB mb) (fun ys => ys = downK st xs 0) (fun _ => True) (fun pre x => ∃ post, downK st xs 0 = pre ++ x :: post) w := by
 intro l J Jx W hW hJ hJx hY h0
 have H0 := Lib.hid (hH.kp fun c hc => hW.block c (by
   rcases hc with ⟨hn, rfl⟩ | rfl | rfl | rfl
   · exact (hH.row hn).2.1.lt
   · exact hH.l.lt
   · exact hH.w.lt
   · exact hM.lt))
 have M0 := Lib.hid (hM.later hW)
 have C0 := Lib.hid hC
 have ON := Lib.hid (fun k y hy W hR => callsIn_wide (n := n - 1) |>.2 (on_ok xs hm g o cap k y hy hcap hlen W hR))
 clear hm hH hM hC
 have hX := H0.out.l
 have X0 := hX.cell 0
 simp only [List.getElem?_toArray, List.getElem?_cons_zero, List.getElem?_cons_succ] at X0
 have Xl := hX.lt
 clear hX
 refine callsIn_of_wp Tryz.func57 rfl trivial ?_ rfl
 simp only [Tryz.ntmps57, List.size_toArray, List.length_cons, List.length_nil, Nat.reduceAdd, Nat.reduceSub, Array.replicate_succ, Array.replicate_zero, List.push_toArray, List.append_toArray, List.nil_append, List.cons_append]
 gi_wp2_with fail
 gi_loopw [4] (fun s4 wr => ∃ (k1 : Nat) (z : Int) (c : Nat → Nat), s4 = .int .i64 z ∧ z = (k1 : Int) - 1 ∧ k1 ≤ xs.length ∧ J (downK st xs k1) wr ∧ HSt wr xs p0 g o cap lB wB mb ∧ VMap wr 3 mb 100 (cntF c) ∧ CInv st xs k1 c) (fun s4 _ => (intOf s4 + 1).toNat)
 case atStart => exact ⟨xs.length, _, c0, rfl, rfl, Nat.le_refl _, by rw [downK_end]; exact h0, H0.out, M0.out, C0.out⟩
 case round =>
   obtain ⟨k1, z, c, rfl, hz, hk1, hJ1, hH1, hM1, hC1⟩ := hrel
   have J1 := Lib.hid hJ1
   have H1 := Lib.hid hH1
   have M1 := Lib.hid hM1
   have C1 := Lib.hid hC1
   clear hJ1 hH1 hM1 hC1
   cases k1 with
   | zero =>
     have e : z = -1 := by omega
     subst e
     clear hz
     gi_wp2
     go_end0
     exact ⟨⟨_, rfl⟩, .inl ⟨_, rfl, J1.out⟩⟩
   | succ k =>
     have e : z = (k : Int) := by omega
     subst e
     clear hz
     obtain ⟨y, hy⟩ : ∃ y, xs[k]? = some y := ⟨_, List.getElem?_eq_getElem (by omega)⟩
     have KI := Lib.hid (C1.out.kept hy)
     have HY := Lib.hid hy
     have hX := H1.out.l
     have hZ := H1.out.w
     have X0 := hX.cell 0
     simp only [List.getElem?_toArray, List.getElem?_cons_zero, List.getElem?_cons_succ] at X0
     have Xl := hX.lt
     have Z0 := hZ.cell 0
     simp only [List.getElem?_toArray, List.getElem?_cons_zero, List.getElem?_cons_succ] at Z0
     have Zl := hZ.lt
     clear hX hZ hy
     have NN := Lib.hid (show xs ≠ [] from fun e => by rw [e] at hk1; simp at hk1)
     obtain rfl : p0 = some ⟨g, o, none⟩ := (H1.out.row NN.out).1
     have LK := cnt_look M1.out (show k < 1000000 by omega)
     by_cases hk : c k = 0
     · rw [hk] at LK
       have NK : keptB st xs k = false := by
         cases h : keptB st xs k with
         | false => rfl
         | true => exact absurd hk (KI.out.2 h)
       have NK2 := Lib.hid NK
       clear hk NK
       gi_wp2
       go_roundw
       case rel => exact ⟨k, _, c, rfl, by omega, by omega, by rw [downK_step st (show k < xs.length by omega), NK2.out]; simpa using J1.out, H1.out, M1.out, C1.out.skip NK2.out⟩
       case measure => first | (simp [intOf]; done) | (simp [intOf]; omega)
     · have YK := Lib.hid (KI.out.1 hk)
       have t1 : ((c k : Int) == 0) = false := by simp; omega
       have t2 : decide ((c k : Int) = 0) = false := by simp; omega
       clear hk
       gi_wp2_with fail
       refine ⟨trivial, (ON.out k y HY.out _ (H1.out.row NN.out).2.1).mono ?_⟩
       rintro e w2 ⟨v, rfl, hr, hb⟩
       obtain ⟨p, cp, rfl, hRI⟩ := RowI.of hr
       have R2 := Lib.hid hRI
       have J2 := Lib.hid (hJ _ _ _ J1.out (Tch.of hb))
       have H2 := Lib.hid (H1.out.tch (Tch.of hb))
       have M2 := Lib.hid (M1.out.later hb)
       have MB := Lib.hid M1.out.lt
       have ND := Lib.hid (onL_nodup xs y k)
       have LE := onL_len xs y k
       have LT := Lib.hid (fun j (hj : j ∈ onL xs y k) => (mem_onL.1 hj).1)
       have CS := Lib.hid (C1.out.step YK.out HY.out)
       have CD := Lib.hid (show ∀ j, c j ≠ 0 → j < 100 from fun j hj => by
         obtain ⟨x, hx, _⟩ := (C1.out.iff j).1 hj
         have := (List.getElem?_eq_some_iff.1 hx).1
         omega)
       have CL := Lib.hid C1.out.le
       have WB := Lib.hid (show wr.heap.size = wr.heap.size from rfl)
       clear hr hRI hb J1 H1 M1 C1 LK X0 Xl Z0 Zl t1 t2 KI
       generalize onL xs y k = ys at *
       generalize wr.heap.size = base at *
       gi_wp2_with fail
       gi_loopw [22] (fun s22 wq => ∃ i : Nat, s22 = .int .i64 i ∧ i ≤ ys.length ∧ J (downK st xs (k + 1)) wq ∧ HSt wq xs (some ⟨g, o, none⟩) g o cap lB wB mb ∧ VMap wq 3 mb 100 (cntF (addC c (ys.take i))) ∧ RowI wq base p ys) (fun s22 _ => ys.length - (intOf s22).toNat)
       case atStart => exact ⟨0, rfl, Nat.zero_le _, J2.out, H2.out, by rw [List.take_zero, addC_nil]; exact M2.out, R2.out⟩
       case round =>
         obtain ⟨i, rfl, hi, hJ3, hH3, hM3, hR3⟩ := hrel
         have J3 := Lib.hid hJ3
         have H3 := Lib.hid hH3
         have M3 := Lib.hid hM3
         have R3 := Lib.hid hR3
         have hX := H3.out.l
         have hZ := H3.out.w
         have X0 := hX.cell 0
         simp only [List.getElem?_toArray, List.getElem?_cons_zero, List.getElem?_cons_succ] at X0
         have Xl := hX.lt
         have Z0 := hZ.cell 0
         simp only [List.getElem?_toArray, List.getElem?_cons_zero, List.getElem?_cons_succ] at Z0
         have Zl := hZ.lt
         clear hX hZ hJ3 hH3 hM3 hR3
         rcases Nat.lt_or_ge i ys.length with hlt | hge
         · obtain ⟨j, hj⟩ : ∃ j, ys[i]? = some j := ⟨_, List.getElem?_eq_getElem hlt⟩
           obtain ⟨g2, rfl, hgb, hgl, hc⟩ := R3.out i j hj
           have hjk := LT.out j (List.mem_of_getElem? hj)
           have LK := cnt_look M3.out (show j < 1000000 by omega)
           obtain ⟨W4, PU, hM4, hT4⟩ := cnt_put M3.out (fun q hq => by
             unfold addC at hq
             by_cases hm : q ∈ ys.take i
             · have := LT.out q (List.mem_of_mem_take hm); omega
             · rw [if_neg hm] at hq; exact CD.out q (by omega)) (show j < 100 by omega)
           rw [addC_snoc c ND.out hj] at hM4
           have cb : addC c (ys.take i) j ≤ 200 := by
             have := CL.out j
             unfold addC
             split <;> omega
           generalize addC c (ys.take i) j = cj at *
           have T4 := Lib.hid (show Tch (fun c => c = mb) _ W4 from Tch.turned hT4 rfl)
           have M4 := Lib.hid hM4
           clear hM4 hT4 hj
           gi_wp2
           go_roundw
           case rel => exact ⟨i + 1, by go_num, by omega, hJ _ _ _ J3.out T4.out, H3.out.tch T4.out, M4.out, R3.out.tch MB.out T4.out⟩
           case measure => first | (simp [intOf]; done) | (simp [intOf]; omega)
         · have e : i = ys.length := by omega
           subst e
           have M5 := M3.out
           rw [List.take_length] at M5
           have M6 := Lib.hid M5
           clear M5 M3
           obtain ⟨fn, tmps, assign, body, hy, hR⟩ := hY _ k wr J3.out (by
             obtain ⟨post, e⟩ := downK_pre st xs k (by omega)
             rw [downK_step st (show k < xs.length by omega), YK.out] at e
             exact ⟨post, by rw [e]; simp⟩)
           gi_wp2
           refine hR.mono ?_
           rintro e W3 (⟨rfl, hJ3, hk3⟩ | ⟨rfl, hJx3⟩)
           · have K3 := Lib.hid hk3
             have J4 := Lib.hid hJ3
             clear hJ3 hk3
             gi_wp2
             go_roundw
             case rel => exact ⟨k, _, _, rfl, by omega, by omega, by rw [downK_step st (show k < xs.length by omega), YK.out]; exact J4.out, H3.out.kp K3.out, M6.out.block (K3.out mb (.inr (.inr (.inr rfl)))), CS.out⟩
             case measure => first | (simp [intOf]; done) | (simp [intOf]; omega)
           · gi_wp2
             refine bodyPost_ret (results_none rfl _ _ _) rfl ?_
             exact ⟨⟨_, rfl⟩, .inr ⟨_, trivial, hJx3⟩⟩
end Go.Proofs.YtmfhnhnmdeabeaaGreat.Re
end
section
namespace Go.Proofs.YtmfhnhnmdeabeaaGreat.Re
open Go.RowKit Go.Shelf Go.Maps Oct Path Tr
instance rcInh : Inhabited Rc := ⟨⟨0, 0, 0, [], 0, 0, 0, [], 0, 0, 0, []⟩⟩
theorem fmR_len (es : List Rc) : (es.flatMap encR).length = es.length * 12 := by
 induction es with
 | nil => rfl
 | cons x es ih => rw [List.flatMap_cons, List.length_append, ih, List.length_cons]; simp only [encR, recC, List.length_cons, List.length_nil]; omega
theorem flatR_list (es : List Rc) : (Go.Sort.flatK encR 12 es.toArray).toList = es.flatMap encR := by
 apply List.ext_getElem (by rw [fmR_len]; simp)
 intro t h1 h2
 have h3 : t < es.length * 12 := by rw [fmR_len] at h2; exact h2
 have h4 := Go.Sort.get_flatK encR 12 es.toArray t (by simpa using h3)
 have h5 := flat_at encR 12 (fun _ => rfl) es (t / 12) (t % 12) (Nat.mod_lt _ (by decide))
 have h6 : t / 12 < es.length := by omega
 rw [show t / 12 * 12 + t % 12 = t by omega, List.getElem?_eq_getElem h2, List.getElem?_eq_getElem h6] at h5
 simp only [Option.bind_some] at h5
 have h7 : t < (Go.Sort.flatK encR 12 es.toArray).size := by simpa using h3
 rw [getElem!_pos _ t h7] at h4
 simp only [Array.getElem_toList]
 rw [h4]
 have h9 : es.toArray[t / 12]! = es[t / 12] := by simp [h6]
 rw [h9]
 obtain ⟨r, hr⟩ : ∃ r : Rc, es[t / 12] = r := ⟨_, rfl⟩
 rw [hr] at h5 ⊢
 have hm : t % 12 < (encR r).length := Nat.mod_lt _ (by decide)
 rw [List.getElem?_eq_getElem hm] at h5
 rw [getElem!_pos (encR r) (t % 12) hm, Option.some.inj h5]
theorem holdsR {w : World} {g : Nat} {cur : Array Value} {e : TypeId} {es : List Rc} (hb : w.heap[g]? = some (.cells cur e (0, 0))) (ht : cur.toList.take (es.length * 12) = es.flatMap encR) : Go.Sort.HoldsK encR 12 w g 0 es.toArray := by
 intro j hj
 have hj' : j < es.length * 12 := by simpa using hj
 refine ⟨?_, by simp [World.frozen?, hb]⟩
 have h1 : (cur.toList.take (es.length * 12))[j]? = (es.flatMap encR)[j]? := by rw [ht]
 rw [List.getElem?_take_of_lt hj', ← flatR_list] at h1
 simp only [World.cell?, hb, Nat.zero_add]
 simp only [Option.isSome_none, Bool.false_eq_true, if_false]
 rw [← Array.getElem?_toList, h1, Array.getElem?_toList, Array.getElem?_eq_getElem hj, getElem!_pos _ j hj]
 rfl
theorem heapR {w : World} {g n : Nat} {cur : Array Value} {e : TypeId} {fr : Nat × Nat} (F : Array Value) (hb : w.heap[g]? = some (.cells cur e fr)) :
   (Go.Sort.putRow id (Go.Sort.ahead w n) g 0 F).heap[g]? = some (.cells (Go.Sort.putCells id 0 F cur) e fr) := by
 have hg : g < w.heap.size := (Array.getElem?_eq_some_iff.1 hb).1
 simp [Go.Sort.putRow, Go.Sort.mapBlock, Go.Sort.ahead, Array.getElem?_modify, hb, Go.Sort.onCells]
theorem tchR {w : World} {g n : Nat} (F : Array Value) : Tch (fun c => c = g) w (Go.Sort.putRow id (Go.Sort.ahead w n) g 0 F) := by
 refine ⟨rfl, rfl, rfl, by simp, fun k hk hne => ?_⟩
 have : g ≠ k := fun e => hne e.symm
 simp [Go.Sort.putRow, Go.Sort.mapBlock, Go.Sort.ahead, Array.getElem?_modify, this]
theorem reverse_any (base : Nat) (v : Value) (es : List Rc) (w : World) (hO : w.ownsRow base 39 12 v es.length (es.flatMap encR)) (hsz : es.length < 4611686018427387904) :
   Calls Tryz.prog 24 #[v] w fun e w' => e = .returned (.tuple #[]) ∧ w'.ownsRow base 39 12 v es.length (es.reverse.flatMap encR) ∧ Tch (fun c => v.ownBlock = some c) w w' := by
 obtain ⟨hlen, ⟨rfl, h0⟩ | ⟨g, cap, cur, rfl, hbase, hb, h1, h2, h3, h4⟩⟩ := hO
 · have hcon := AnyQ.slices_Reverse_empty (P := Tryz.prog) (ρ := Tryz.layRV_ren) Tryz.layRV none 0 w
   refine Calls.mono hcon ?_
   rintro e w' ⟨rfl, rfl⟩
   have e0 : es = [] := List.eq_nil_of_length_eq_zero h0
   subst e0
   exact ⟨rfl, ⟨by simp, .inl ⟨rfl, rfl⟩⟩, Tch.refl _ _⟩
 · have hcon := AnyQ.slices_Reverse (P := Tryz.prog) (ρ := Tryz.layRV_ren) Tryz.layRV 12 Tryz.isAgg39 Tryz.sizeOf39 encR (fun _ => rfl) (fun x v hv => by simp [encR, recC] at hv; rcases hv with rfl | rfl | rfl | rfl | rfl | rfl | rfl | rfl | rfl | rfl | rfl | rfl <;> rfl) g 0 cap es.toArray w (holdsR hb h4) (by simp; omega)
   refine Calls.mono hcon ?_
   rintro e w' ⟨rfl, n, rfl⟩
   have hF : (Go.Sort.flatK encR 12 es.toArray.reverse).toList = es.reverse.flatMap encR := by have := flatR_list es.reverse; simpa using this
   have hFs : (Go.Sort.flatK encR 12 es.toArray.reverse).size = es.length * 12 := by simp
   refine ⟨rfl, ⟨by rw [fmR_len]; simp, .inr ⟨g, cap, _, rfl, hbase, heapR _ hb, h1, h2, by simp [Go.Sort.putCells, h3], ?_⟩⟩, (tchR _).mono fun i _ e => by rw [e]; rfl⟩
   rw [show es.length * 12 = (Go.Sort.flatK encR 12 es.toArray.reverse).size by simp, take_row _ _ (by rw [hFs, h3]; omega), hF]
end Go.Proofs.YtmfhnhnmdeabeaaGreat.Re
end
