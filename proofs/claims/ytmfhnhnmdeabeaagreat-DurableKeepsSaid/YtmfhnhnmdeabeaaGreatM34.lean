/- Layer 32 (durable): States's put: a text is put to a row once. -/
import Derived.Test.YtmfhnhnmdeabeaaGreatM33
set_option linter.unusedVariables false
set_option linter.unusedSimpArgs false
set_option maxRecDepth 100000
section
namespace Go.Proofs.YtmfhnhnmdeabeaaGreat.Re
open Go.RowKit Go.Shelf Go.Maps Oct Path Tr
variable {EA EB : TL} {room qA qB : Nat} {S : T}
theorem drewN_below {w : World} {n q : Nat} : Below n w (w.drewN q) := ⟨rfl, rfl, rfl, Nat.le_refl _, fun _ _ => rfl⟩
theorem allEq_refl {α : Type} [Inhabited α] (f : α → α → Bool) (h : ∀ x, f x x = true) : ∀ xs : List α, Lib.allEq f xs xs = true
 | [] => rfl
 | x :: xs => by simp [Lib.allEq, h, allEq_refl f h xs]
theorem allEq_ne : ∀ (xs ys : List Int), xs ≠ ys → Lib.allEq (fun x y : Int => x == y) xs ys = false
 | [], [], h => absurd rfl h
 | [], _ :: _, _ => rfl
 | _ :: _, [], _ => rfl
 | x :: xs, y :: ys, h => by
   simp only [Lib.allEq, Bool.and_eq_false_iff]
   by_cases e : x = y
   · right
     exact allEq_ne xs ys fun q => h (by rw [e, q])
   · left
     simpa using e
theorem equ_any (ys zs : List Nat) (p1 p2 : Option Addr) (c1 c2 b1 b2 : Nat) (w : World) (h1 : RowU w b1 p1 ys) (h2 : RowU w b2 p2 zs) (n1 : ys ≠ []) (n2 : zs ≠ []) (l1 : ys.length ≤ 1000) (l2 : zs.length ≤ 1000) :
   Calls Tryz.prog 52 #[.slice p1 ys.length c1, .slice p2 zs.length c2] w fun e w' => e = .returned (.bool (decide (ys = zs))) ∧ Below w.heap.size w w' := by
 obtain ⟨y, hy⟩ : ∃ y, ys[0]? = some y := by cases ys with | nil => exact absurd rfl n1 | cons y _ => exact ⟨y, rfl⟩
 obtain ⟨z, hz⟩ : ∃ z, zs[0]? = some z := by cases zs with | nil => exact absurd rfl n2 | cons z _ => exact ⟨z, rfl⟩
 obtain ⟨g1, rfl, _⟩ := h1 0 y hy
 obtain ⟨g2, rfl, _⟩ := h2 0 z hz
 have key : ∀ (g : Nat) (b : Nat) (l : List Nat), RowU w b (some ⟨g, 0, none⟩) l → ∀ j, j < (l.map fun k : Nat => (k : Int)).length → w.cell? ⟨g, 0 + j, none⟩ = some (Value.int .u32 (l.map fun k : Nat => (k : Int))[j]!) := fun g b l h j hj => by
   have hj' : j < l.length := by simpa using hj
   obtain ⟨g', e, _, _, hc⟩ := h j l[j] (List.getElem?_eq_getElem hj')
   cases e
   rw [Nat.zero_add, hc]
   simp [hj']
 have := AnyE.slices_Equal (P := Tryz.prog) (ρ := Tryz.layEU_ren) Tryz.layEU (Value.int .u32) _ (NeqAt.int _ _ _) g1 0 ys.length c1 g2 0 zs.length c2 (ys.map fun k : Nat => (k : Int)) (zs.map fun k : Nat => (k : Int)) w (by simp) (by simp) (by omega) (by omega) (key g1 b1 ys h1) (key g2 b2 zs h2)
 refine Calls.mono this ?_
 rintro e w' ⟨rfl, q, rfl⟩
 refine ⟨?_, drewN_below⟩
 rw [List.take_of_length_le (by simp), List.take_of_length_le (by simp)]
 by_cases h : ys = zs
 · subst h
   rw [allEq_refl _ (fun x => by simp)]
   simp
 · rw [allEq_ne _ _ (fun e => h ((List.map_inj_right (fun a b h => by omega)).1 e))]
   simp [h]
theorem eqe_nil (p1 p2 : Option Addr) (c1 c2 : Nat) (w : World) : Calls Tryz.prog 97 #[.slice p1 0 c1, .slice p2 0 c2] w fun e w' => e = .returned (.bool true) ∧ Below w.heap.size w w' := by
 go_enter Tryz.func97, Tryz.ntmps97
 go_wp2_with fail
 refine wp_loop_rounds 1 ?_
 rw [rounds_succ]
 go_wp2_with fail
 go_ret
 exact ⟨rfl, Below.refl _ _⟩
theorem neq_ent : NeqAt Tryz.prog 147 (fun x : Ent => .agg (encE x).toArray) (fun x y => x.1.toList == y.1.toList && x.2 == y.2) := by
 refine ⟨fun x y w => ?_, GuardAt.agg (fun x : Ent => (encE x).toArray) (by kernel_rfl)⟩
 simp only [encE]
 simp [go_sem]
 by_cases h1 : x.1.toList = y.1.toList
 · by_cases h2 : x.2 = y.2
   · simp [h1, h2]
   · have h3 : ¬ (x.2 : Int) = y.2 := by omega
     simp [h1, h2, h3]
 · simp [h1]
theorem eqe_same (es : List Ent) (v1 v2 : Value) (b1 b2 : Nat) (w : World) (h1 : w.ownsRow b1 147 2 v1 es.length (es.flatMap encE)) (h2 : w.ownsRow b2 147 2 v2 es.length (es.flatMap encE)) (hl : es.length ≤ 9223372036854775807) :
   Calls Tryz.prog 97 #[v1, v2] w fun e w' => e = .returned (.bool true) ∧ Below w.heap.size w w' := by
 rcases Nat.eq_zero_or_pos es.length with h0 | h0
 · have f : ∀ {b : Nat} {v : Value}, w.ownsRow b 147 2 v es.length (es.flatMap encE) → ∃ p c, v = .slice p 0 c := fun {b v} h => by
     rcases h.2 with ⟨rfl, _⟩ | ⟨g, cap, cur, rfl, _⟩
     · exact ⟨_, _, rfl⟩
     · exact ⟨_, _, by rw [h0]⟩
   obtain ⟨p1, c1, rfl⟩ := f h1
   obtain ⟨p2, c2, rfl⟩ := f h2
   exact eqe_nil p1 p2 c1 c2 w
 · obtain ⟨g1, c1, rfl, _⟩ := h1.form h0
   obtain ⟨g2, c2, rfl, _⟩ := h2.form h0
   have key : ∀ {g b c : Nat}, w.ownsRow b 147 2 (.slice (some ⟨g, 0, none⟩) es.length c) es.length (es.flatMap encE) → ∀ j, j < es.length → ∀ i v, (encE es[j]!)[i]? = some v → w.cell? ⟨g, 0 + j * 2 + i, none⟩ = some v := fun {g b c} h j hj i v hv => by
     have hi : i < 2 := by have := (List.getElem?_eq_some_iff.1 hv).1; simpa [encE] using this
     have h3 := h.cellAt (j * 2 + i) (by omega)
     rw [Nat.zero_add, h3, flat_at encE 2 (fun _ => rfl) es j i hi, List.getElem?_eq_getElem hj]
     rw [getElem!_pos es j hj] at hv
     exact hv
   have := AnyQ.slices_Equal (P := Tryz.prog) (ρ := Tryz.layEE_ren) Tryz.layEE 2 Tryz.isAgg147 Tryz.sizeOf147 encE (fun _ => rfl) _ neq_ent g1 0 es.length c1 g2 0 es.length c2 es es w (Nat.le_refl _) (Nat.le_refl _) (by omega) (by omega) (key h1) (key h2)
   refine Calls.mono this ?_
   rintro e w' ⟨rfl, q, rfl⟩
   exact ⟨by rw [allEq_refl _ (fun x => by simp)], drewN_below⟩
set_option maxHeartbeats 4000000 in
theorem stats_same (wz : World) (hA : TreeAt wz EA room qA S) (hB : TreeAt wz EB room qB S) (x : Nat) (hx : x < 4294967296) (hk : (S.n x).kind ≠ 0) :
   Calls Tryz.prog 53 #[.pointer (some ⟨EA.t, 0, none⟩), .pointer (some ⟨EB.t, 0, none⟩), .int .u32 x] wz fun e w' => e = .returned (.bool true) ∧ Below wz.heap.size wz w' := by
 have SA := Lib.hid (stat_any wz hA x hx)
 have HB := Lib.hid hB
 have e1 : statV S x = .agg #[.int .u32 x, .int .u8 (S.n x).kind, .int .i64 (S.n x).links, .int .u32 (S.n x).data.length] := by
   unfold statV
   rw [if_neg hk]
 have e2 : errB ((S.n x).kind == 0) 3 = 0 := by simp [errB, hk]
 rw [e1, e2] at SA
 have SB := Lib.hid (fun (W : World) (h : TreeAt W EB room qB S) => stat_any W h x hx)
 rw [e1, e2] at SB
 clear hA hB hk e1 e2
 go_enter Tryz.func53, Tryz.ntmps53
 go_wp2_with fail
 refine Calls.mono SA.out ?_
 rintro e w1 ⟨rfl, hb⟩
 have B1 := Lib.hid hb
 clear hb SA
 go_wp2_with fail
 have hal := (Below.refl _ w1).alloc (Nat.le_refl _) (.cells #[.int .u32 x, .int .u8 (S.n x).kind, .int .i64 (S.n x).links, .int .u32 (S.n x).data.length] 69)
 have B2 := Lib.hid (B1.out.trans (hal.mono B1.out.size))
 have SB2 := Lib.hid (SB.out _ (HB.out.later B2.out))
 have X1 := Lib.hid (SBox.new w1 69 #[.int .u32 x, .int .u8 (S.n x).kind, .int .i64 (S.n x).links, .int .u32 (S.n x).data.length])
 clear SB hal
 refine Calls.mono SB2.out ?_
 rintro e w2 ⟨rfl, hb⟩
 have hX := X1.out.later hb
 have X0 := hX.cell 0
 have X1 := hX.cell 1
 have X2 := hX.cell 2
 have X3 := hX.cell 3
 simp only [List.getElem?_toArray, List.getElem?_cons_zero, List.getElem?_cons_succ] at X0 X1 X2 X3
 have Xl := hX.lt
 have B3 := Lib.hid (B2.out.trans (hb.mono B2.out.size))
 clear hX hb SB2
 go_wp2_with fail
 go_ret
 exact ⟨rfl, B3.out.alloc B3.out.size _⟩
set_option maxHeartbeats 4000000 in
theorem lists_same (wz : World) (hA : TreeAt wz EA room qA S) (hB : TreeAt wz EB room qB S) (hI : Inv room S) (x : Nat) (hx : x < 4294967296) :
   Calls Tryz.prog 54 #[.pointer (some ⟨EA.t, 0, none⟩), .pointer (some ⟨EB.t, 0, none⟩), .int .u32 x] wz fun e w' => e = .returned (.bool true) ∧ Below wz.heap.size wz w' := by
 have SA := Lib.hid (list_any wz hA hI x hx)
 have HB := Lib.hid hB
 have SB := Lib.hid (fun (W : World) (h : TreeAt W EB room qB S) => list_any W h hI x hx)
 clear hA hB
 go_enter Tryz.func54, Tryz.ntmps54
 go_wp2_with fail
 refine Calls.mono SA.out ?_
 rintro e w1 ⟨v1, es1, er1, rfl, hL1, hr1, hb⟩
 have B1 := Lib.hid hb
 have L1 := Lib.hid hL1
 have R1 := Lib.hid hr1
 clear hb SA hL1 hr1
 go_wp2_with fail
 refine Calls.mono (SB.out _ (HB.out.later B1.out)) ?_
 rintro e w2 ⟨v2, es2, er2, rfl, hL2, hr2, hb⟩
 have e12 : es2 = es1 := Listing.eq hL2 L1.out
 subst e12
 have EQ := Lib.hid (eqe_same es2 v1 v2 _ _ w2 (own_later hb R1.out) hr2 (by
   rcases hr2.2 with ⟨_, h0⟩ | ⟨g, cap, cur, _, _, _, h1, h2, _⟩
   · omega
   · unfold maxLen at h2; omega))
 have B2 := Lib.hid (B1.out.trans (hb.mono B1.out.size))
 clear hb hL2 hr2 SB
 go_wp2_with fail
 refine Calls.mono EQ.out ?_
 rintro e w3 ⟨rfl, hb⟩
 have B3 := Lib.hid (B2.out.trans (hb.mono B2.out.size))
 clear hb
 go_wp2_with fail
 go_ret
 exact ⟨rfl, B3.out⟩
def pagesN (n : Nat) : Nat := (n + 63) / 64
theorem pages_any (s : Nat) (w : World) (hs : s < 4294967296) : Calls Tryz.prog 98 #[.int .u32 s] w fun e w' => e = .returned (.int .i64 (pagesN s)) ∧ w = w' := by
 go_enter Tryz.func98, Tryz.ntmps98
 go_wp2
 go_ret
 refine ⟨?_, rfl⟩
 have e1 : ((s : Int) + 64 - 1) / 64 = ((pagesN s : Nat) : Int) := by unfold pagesN; omega
 show Ending.returned (.int .i64 (((s : Int) + 64 - 1) / 64)) = _
 rw [e1]
set_option maxHeartbeats 4000000 in
theorem pages_same (wz : World) (hA : TreeAt wz EA room qA S) (hB : TreeAt wz EB room qB S) (x : Nat) (hx : x < 4294967296) (hk : (S.n x).kind ≠ 0) :
   Calls Tryz.prog 55 #[.pointer (some ⟨EA.t, 0, none⟩), .pointer (some ⟨EB.t, 0, none⟩), .int .u32 x] wz fun e w' => e = .returned (.bool true) ∧ Below wz.heap.size wz w' := by
 have SA := Lib.hid (stat_any wz hA x hx)
 have HA := Lib.hid hA
 have HB := Lib.hid hB
 have e1 : statV S x = .agg #[.int .u32 x, .int .u8 (S.n x).kind, .int .i64 (S.n x).links, .int .u32 (S.n x).data.length] := by
   unfold statV
   rw [if_neg hk]
 have e2 : errB ((S.n x).kind == 0) 3 = 0 := by simp [errB, hk]
 rw [e1, e2] at SA
 have hdl := hA.dt x
 have RA := Lib.hid (fun (W : World) (h : TreeAt W EA room qA S) (k : Int) => read_any W h x k hx)
 have RB := Lib.hid (fun (W : World) (h : TreeAt W EB room qB S) (k : Int) => read_any W h x k hx)
 clear hA hB hk e1 e2
 obtain ⟨m, hm⟩ : ∃ m, (S.n x).data.length = m := ⟨_, rfl⟩
 rw [hm] at SA hdl
 have PG := Lib.hid (fun W => pages_any m W (by omega))
 have hpn : pagesN m ≤ 36 := by unfold pagesN; omega
 generalize pagesN m = pn at *
 clear hm
 go_enter Tryz.func55, Tryz.ntmps55
 go_wp2_with fail
 refine Calls.mono SA.out ?_
 rintro e w1 ⟨rfl, hb⟩
 have B1 := Lib.hid hb
 clear hb SA
 go_wp2_with fail
 refine Calls.mono (PG.out _) ?_
 rintro e w9 ⟨rfl, rfl⟩
 have hal := (Below.refl _ w1).alloc (Nat.le_refl _) (.cells #[.int .u32 x, .int .u8 (S.n x).kind, .int .i64 (S.n x).links, .int .u32 m] 69)
 have B2 := Lib.hid (B1.out.trans (hal.mono B1.out.size))
 clear hal
 go_wp2_with fail
 go_loopw [23] (fun s23 wr => ∃ k : Nat, s23 = .int .i64 k ∧ k ≤ pn ∧ Below wz.heap.size wz wr) (fun s23 _ => pn - (intOf s23).toNat)
 case atStart => exact ⟨0, rfl, Nat.zero_le _, B2.out⟩
 case round =>
   obtain ⟨k, rfl, hk, hB3⟩ := hrel
   have B3 := Lib.hid hB3
   clear hB3
   rcases Nat.lt_or_ge k pn with hlt | hge
   · have RA2 := Lib.hid (RA.out _ (HA.out.later B3.out) k)
     obtain ⟨t, ht⟩ : ∃ t, readS S x k = t := ⟨_, rfl⟩
     obtain ⟨er, her⟩ : ∃ er, readE S x k = er := ⟨_, rfl⟩
     rw [ht, her] at RA2
     go_wp2_with fail
     refine Calls.mono RA2.out ?_
     rintro e w3 ⟨rfl, hb⟩
     have B4 := Lib.hid (B3.out.trans (hb.mono B3.out.size))
     clear hb RA2
     have RB2 := Lib.hid (RB.out _ (HB.out.later B4.out) k)
     rw [ht, her] at RB2
     clear ht her
     go_wp2_with fail
     refine Calls.mono RB2.out ?_
     rintro e w4 ⟨rfl, hb⟩
     have B5 := Lib.hid (B4.out.trans (hb.mono B4.out.size))
     clear hb RB2
     go_wp2_with fail
     go_roundw
     case rel => exact ⟨k + 1, by go_num, by omega, B5.out⟩
     case measure => first | (simp [intOf]; done) | (simp [intOf]; omega)
   · have e : k = pn := by omega
     subst e
     go_wp2_with fail
     go_ret
     exact ⟨rfl, B3.out⟩
theorem inos_ne (hI : Inv room S) : inos S ≠ [] := fun e => by
 have h : (1 : Nat) ∈ inos S := by
   unfold inos
   rw [List.mem_filter, List.mem_range]
   exact ⟨by decide, by rw [hI.root.1]; decide⟩
 rw [e] at h
 cases h
theorem inos_len (S : T) : (inos S).length ≤ 257 := by
 unfold inos
 exact Nat.le_trans (List.length_filter_le _ _) (by simp)
theorem inos_kind {S : T} {x : Nat} (h : x ∈ inos S) : (S.n x).kind ≠ 0 := by
 unfold inos at h
 rw [List.mem_filter] at h
 simpa using h.2
set_option maxHeartbeats 4000000 in
theorem alike_ne {SA SB : T} (wz : World) (hA : TreeAt wz EA room qA SA) (hB : TreeAt wz EB room qB SB) (hIA : Inv room SA) (hIB : Inv room SB) (hne : inos SA ≠ inos SB) :
   Calls Tryz.prog 20 #[.pointer (some ⟨EA.t, 0, none⟩), .pointer (some ⟨EB.t, 0, none⟩)] wz fun e w' => e = .returned (.bool false) ∧ Below wz.heap.size wz w' := by
 have AA := Lib.hid (all_any wz hA hIA)
 have HB := Lib.hid hB
 have AB := Lib.hid (fun (W : World) (h : TreeAt W EB room qB SB) => all_any W h hIB)
 have N1 := Lib.hid (inos_ne hIA)
 have N2 := Lib.hid (inos_ne hIB)
 have L1 := Lib.hid (inos_len SA)
 have L2 := Lib.hid (inos_len SB)
 have NE := Lib.hid hne
 generalize inos SA = ya at *
 generalize inos SB = yb at *
 clear hA hB hne hIA hIB
 go_enter Tryz.func20, Tryz.ntmps20
 go_wp2_with fail
 refine Calls.mono AA.out ?_
 rintro e w1 ⟨v, rfl, hr, hb⟩
 obtain ⟨p1, c1, rfl, hU1⟩ := RowU.of hr
 have U1 := Lib.hid hU1
 have B1 := Lib.hid hb
 clear hr hU1 hb AA
 go_wp2_with fail
 refine Calls.mono (AB.out _ (HB.out.later B1.out)) ?_
 rintro e w2 ⟨v, rfl, hr, hb⟩
 obtain ⟨p2, c2, rfl, hU2⟩ := RowU.of hr
 have EQ := Lib.hid (equ_any ya yb p1 p2 c1 c2 _ _ w2 (U1.out.later hb) hU2 N1.out N2.out (by have := L1.out; omega) (by have := L2.out; omega))
 rw [decide_eq_false NE.out] at EQ
 have B2 := Lib.hid (B1.out.trans (hb.mono B1.out.size))
 clear hr hU2 hb AB
 go_wp2_with fail
 refine Calls.mono EQ.out ?_
 rintro e w3 ⟨rfl, hb⟩
 have B3 := Lib.hid (B2.out.trans (hb.mono B2.out.size))
 clear hb
 go_wp2_with fail
 go_ret
 exact ⟨rfl, B3.out⟩
set_option maxHeartbeats 8000000 in
theorem alike_same (wz : World) (hA : TreeAt wz EA room qA S) (hB : TreeAt wz EB room qB S) (hI : Inv room S) :
   Calls Tryz.prog 20 #[.pointer (some ⟨EA.t, 0, none⟩), .pointer (some ⟨EB.t, 0, none⟩)] wz fun e w' => e = .returned (.bool true) ∧ Below wz.heap.size wz w' := by
 have AA := Lib.hid (fun (W : World) (h : TreeAt W EA room qA S) => all_any W h hI)
 have HA := Lib.hid hA
 have HB := Lib.hid hB
 have AB := Lib.hid (fun (W : World) (h : TreeAt W EB room qB S) => all_any W h hI)
 have N1 := Lib.hid (inos_ne hI)
 have L1 := Lib.hid (inos_len S)
 have C1 := Lib.hid (fun x (h : x ∈ inos S) (W : World) (h1 : TreeAt W EA room qA S) (h2 : TreeAt W EB room qB S) => stats_same W h1 h2 x (by have := inos_lt h; omega) (inos_kind h))
 have C2 := Lib.hid (fun x (h : x ∈ inos S) (W : World) (h1 : TreeAt W EA room qA S) (h2 : TreeAt W EB room qB S) => lists_same W h1 h2 hI x (by have := inos_lt h; omega))
 have C3 := Lib.hid (fun x (h : x ∈ inos S) (W : World) (h1 : TreeAt W EA room qA S) (h2 : TreeAt W EB room qB S) => pages_same W h1 h2 x (by have := inos_lt h; omega) (inos_kind h))
 generalize inos S = ys at *
 clear hA hB hI
 go_enter Tryz.func20, Tryz.ntmps20
 go_wp2_with fail
 refine Calls.mono (AA.out _ HA.out) ?_
 rintro e w1 ⟨v, rfl, hr, hb⟩
 obtain ⟨p1, c1, rfl, hU1⟩ := RowU.of hr
 have U1 := Lib.hid hU1
 have B1 := Lib.hid hb
 clear hr hU1 hb
 go_wp2_with fail
 refine Calls.mono (AB.out _ (HB.out.later B1.out)) ?_
 rintro e w2 ⟨v, rfl, hr, hb⟩
 obtain ⟨p2, c2, rfl, hU2⟩ := RowU.of hr
 have EQ := Lib.hid (equ_any ys ys p1 p2 c1 c2 _ _ w2 (U1.out.later hb) hU2 N1.out N1.out (by have := L1.out; omega) (by have := L1.out; omega))
 rw [decide_eq_true rfl] at EQ
 have B2 := Lib.hid (B1.out.trans (hb.mono B1.out.size))
 clear hr hU2 hb AB
 go_wp2_with fail
 refine Calls.mono EQ.out ?_
 rintro e w3 ⟨rfl, hb⟩
 have B3 := Lib.hid (B2.out.trans (hb.mono B2.out.size))
 clear hb
 go_wp2_with fail
 refine Calls.mono (AA.out _ (HA.out.later B3.out)) ?_
 rintro e w4 ⟨v, rfl, hr, hb⟩
 obtain ⟨p4, c4, rfl, hU4⟩ := RowU.of hr
 have U4 := Lib.hid hU4
 have B4 := Lib.hid (B3.out.trans (hb.mono B3.out.size))
 have hl := L1.out
 obtain ⟨base, hbase⟩ : ∃ base, w3.heap.size = base := ⟨_, rfl⟩
 rw [hbase] at U4
 clear hr hU4 hb AA U1 hbase
 go_wp2_with fail
 go_loopw [26] (fun s26 wr => ∃ i : Nat, s26 = .int .i64 i ∧ i ≤ ys.length ∧ Below wz.heap.size wz wr ∧ RowU wr base p4 ys) (fun s26 _ => ys.length - (intOf s26).toNat)
 case atStart => exact ⟨0, rfl, Nat.zero_le _, B4.out, U4.out⟩
 case round =>
   obtain ⟨i, rfl, hi, hB5, hU5⟩ := hrel
   have B5 := Lib.hid hB5
   have U5 := Lib.hid hU5
   clear hB5 hU5
   rcases Nat.lt_or_ge i ys.length with hlt | hge
   · obtain ⟨y, hy⟩ : ∃ y, ys[i]? = some y := ⟨_, List.getElem?_eq_getElem hlt⟩
     obtain ⟨g2, rfl, hgb, hgl, hc⟩ := U5.out i y hy
     have HY := Lib.hid (List.mem_of_getElem? hy)
     clear hy
     go_wp2_with fail
     refine wp_loop_rounds 4 ?_
     rw [rounds_succ]
     go_wp2_with fail
     have hal := (Below.refl _ wr).alloc (Nat.le_refl _) (.cells #[.func (.func 53) #[] #[], .func (.func 54) #[] #[], .func (.func 55) #[] #[]] 104)
     have X0 := Lib.hid (SBox.new wr 104 #[.func (.func 53) #[] #[], .func (.func 54) #[] #[], .func (.func 55) #[] #[]])
     have B6 := Lib.hid (B5.out.trans (hal.mono B5.out.size))
     have U6 := Lib.hid (U5.out.later hal)
     clear hal hc hgl
     refine Calls.mono (C1.out y HY.out _ (HA.out.later B6.out) (HB.out.later B6.out)) ?_
     rintro e w6 ⟨rfl, hb⟩
     have B7 := Lib.hid (B6.out.trans (hb.mono B6.out.size))
     have X1 := Lib.hid (X0.out.later hb)
     have U7 := Lib.hid (U6.out.later hb)
     have hX := X1.out
     have K0 := hX.cell 0
     have K1 := hX.cell 1
     have K2 := hX.cell 2
     simp only [List.getElem?_toArray, List.getElem?_cons_zero, List.getElem?_cons_succ] at K0 K1 K2
     have Kl := hX.lt
     clear hX hb
     go_wp2_with fail
     rw [rounds_succ]
     go_wp2_with fail
     refine Calls.mono (C2.out y HY.out _ (HA.out.later B7.out) (HB.out.later B7.out)) ?_
     rintro e w7 ⟨rfl, hb⟩
     have B8 := Lib.hid (B7.out.trans (hb.mono B7.out.size))
     have X2 := Lib.hid (X1.out.later hb)
     have U8 := Lib.hid (U7.out.later hb)
     have hX := X2.out
     clear K0 K1 K2 Kl
     have K0 := hX.cell 0
     have K1 := hX.cell 1
     have K2 := hX.cell 2
     simp only [List.getElem?_toArray, List.getElem?_cons_zero, List.getElem?_cons_succ] at K0 K1 K2
     have Kl := hX.lt
     clear hX hb
     go_wp2_with fail
     rw [rounds_succ]
     go_wp2_with fail
     refine Calls.mono (C3.out y HY.out _ (HA.out.later B8.out) (HB.out.later B8.out)) ?_
     rintro e w8 ⟨rfl, hb⟩
     have B9 := Lib.hid (B8.out.trans (hb.mono B8.out.size))
     have X3 := Lib.hid (X2.out.later hb)
     have U9 := Lib.hid (U8.out.later hb)
     have hX := X3.out
     clear K0 K1 K2 Kl
     have K0 := hX.cell 0
     have K1 := hX.cell 1
     have K2 := hX.cell 2
     simp only [List.getElem?_toArray, List.getElem?_cons_zero, List.getElem?_cons_succ] at K0 K1 K2
     have Kl := hX.lt
     clear hX hb
     go_wp2_with fail
     rw [rounds_succ]
     go_wp2_with fail
     go_roundw
     case rel => exact ⟨i + 1, by go_num, by omega, B9.out, U9.out⟩
     case measure => first | (simp [intOf]; done) | (simp [intOf]; omega)
   · have e : i = ys.length := by omega
     subst e
     go_wp2_with fail
     go_ret
     exact ⟨rfl, B5.out⟩
end Go.Proofs.YtmfhnhnmdeabeaaGreat.Re
end
section
namespace Go.Proofs.YtmfhnhnmdeabeaaGreat.Re
open Go.RowKit Go.Shelf Go.Maps Oct Path Tr
variable {E EB : TL} {room qB : Nat}
def LV (W : World) (p : Option Addr) (g o : Nat) (xs : List Rc) : Prop := xs ≠ [] → p = some ⟨g, o, none⟩ ∧ RowR W g o xs
theorem LV.later {W W' : World} {p : Option Addr} {g o : Nat} {xs : List Rc} (h : LV W p g o xs) (hb : Below W.heap.size W W') : LV W' p g o xs := fun hn => ⟨(h hn).1, (h hn).2.later hb⟩
theorem LV.below {W W' : World} {n : Nat} {p : Option Addr} {g o : Nat} {xs : List Rc} (h : LV W p g o xs) (hg : g < n) (hb : Below n W W') : LV W' p g o xs := fun hn => ⟨(h hn).1, (h hn).2.blocks (hb.block g hg)⟩
theorem LV.own {W : World} {base : Nat} {v : Value} {xs : List Rc} (h : W.ownsRow base 39 12 v xs.length (xs.flatMap encR)) : ∃ p cap g, v = .slice p xs.length cap ∧ xs.length ≤ cap ∧ LV W p g 0 xs ∧ g < W.heap.size + 1 := by
 rcases h.2 with ⟨rfl, h0⟩ | ⟨g, cap, cur, rfl, h1, h2, h3, h4, _⟩
 · exact ⟨none, 0, 0, by rw [h0], by omega, fun hn => absurd (List.eq_nil_of_length_eq_zero h0) hn, by omega⟩
 · have hg := (Array.getElem?_eq_some_iff.1 h2).1
   exact ⟨_, cap, g, rfl, h3, fun hn => ⟨rfl, RowR.of h hg⟩, by omega⟩
theorem kept_all {S : T} {xs : List Rc} (hI : Inv room S) (hp : Plays room xs S) (st : List Nat) : Plays room (keptL (maskK st xs)) S := by
 have h1 : Plays room ((maskK st xs).map (·.1)) S := by rw [maskK_map]; exact hp
 exact (kept_plays hI h1 (cl_of (fun x hx => plays_may h1 x.1 (List.mem_map.2 ⟨x, hx, rfl⟩)) (maskK_cl st xs))).1
theorem kept_sub {st : List Nat} {xs : List Rc} {r : Rc} (h : r ∈ keptL (maskK st xs)) : r ∈ xs := by
 unfold keptL at h
 obtain ⟨x, hx, rfl⟩ := List.mem_map.1 h
 rw [← maskK_map st xs]
 exact List.mem_map.2 ⟨x, (List.mem_filter.1 hx).1, rfl⟩
theorem kept_len (st : List Nat) (xs : List Rc) : (keptL (maskK st xs)).length ≤ xs.length := by
 have h1 := congrArg List.length (maskK_map st xs)
 rw [List.length_map] at h1
 unfold keptL
 rw [List.length_map, ← h1]
 exact List.length_filter_le _ _
set_option maxHeartbeats 4000000 in
theorem explains_ok (wz : World) (hT : TreeAt wz E room 0 rootT) (h2 : 2 ≤ room) (xs : List Rc) (hp : Plays room xs rootT) (hm : ∀ r ∈ xs, May r) (hlen : xs.length ≤ 100) (st : List Nat) (hst : st.length ≤ 1000) (p ps : Option Addr) (g o cap cs : Nat) (hcap : xs.length ≤ cap) (hg : g < wz.heap.size) (hR : LV wz p g o xs) (hS : StV wz ps st)
   (hB : TreeAt wz EB room qB (ridT (run (keptL (maskK st xs)) rootT))) :
   Calls Tryz.prog 12 #[.pointer (some ⟨E.t, 0, none⟩), .pointer (some ⟨EB.t, 0, none⟩), .slice p xs.length cap, .slice ps st.length cs] wz fun e w' => e = .returned (.bool true) ∧ Below wz.heap.size wz w' := by
 have KO := Lib.hid (kept_ok xs hm hlen st hst p ps g o cap cs hcap wz hg hR hS)
 have KP := Lib.hid (kept_all (inv_root h2) hp st)
 have KL := Lib.hid (kept_len st xs)
 have KM := Lib.hid (fun r (h : r ∈ keptL (maskK st xs)) => hm r (kept_sub h))
 have HT := Lib.hid hT
 have HB := Lib.hid hB
 have IV := Lib.hid (inv_root h2)
 clear hp hm hR hS hT hB
 generalize keptL (maskK st xs) = ks at *
 generalize xs.length = n at *
 go_enter Tryz.func12, Tryz.ntmps12
 go_wp2_with fail
 refine Calls.mono KO.out ?_
 rintro e w1 ⟨v, rfl, hr, hb⟩
 obtain ⟨p1, c1, g1, rfl, hc1, hL, _⟩ := LV.own hr
 have B1 := Lib.hid hb
 have PL := Lib.hid (durPlay_ok w1 (HT.out.later hb) h2 ks KP.out KM.out (by have := KL.out; omega) p1 g1 0 c1 hL)
 clear hr hL hb KO
 go_wp2_with fail
 refine Calls.mono PL.out ?_
 rintro e w2 ⟨E2, q2, rfl, hT2, hO2, hb⟩
 have B2 := Lib.hid (B1.out.trans (hb.mono B1.out.size))
 have AL := Lib.hid (alike_same w2 hT2 (HB.out.later B2.out) (inv_dropAll (inv_run IV.out KP.out) _))
 clear hT2 hO2 hb PL
 go_wp2_with fail
 refine Calls.mono AL.out ?_
 rintro e w3 ⟨rfl, hb⟩
 have B3 := Lib.hid (B2.out.trans (hb.mono B2.out.size))
 clear hb
 go_wp2_with fail
 go_ret
 exact ⟨rfl, B3.out⟩
theorem plays_take {S : T} {xs : List Rc} (hp : Plays room xs S) (n : Nat) : Plays room (xs.take n) S := by
 have h := hp
 rw [← List.take_append_drop n xs, plays_append] at h
 exact h.1
set_option maxHeartbeats 4000000 in
theorem prefix_ok (wz : World) (hT : TreeAt wz E room 0 rootT) (h2 : 2 ≤ room) (xs : List Rc) (hp : Plays room xs rootT) (hm : ∀ r ∈ xs, May r) (hlen : xs.length ≤ 100) (g o cap : Nat) (hcap : xs.length ≤ cap) (hR : RowR wz g o xs)
   (hB : TreeAt wz EB room qB (ridT (run xs rootT))) (hne : ∀ i, i < xs.length → inos (ridT (run (xs.take i) rootT)) ≠ inos (ridT (run xs rootT))) :
   Calls Tryz.prog 19 #[.pointer (some ⟨E.t, 0, none⟩), .pointer (some ⟨EB.t, 0, none⟩), .slice (some ⟨g, o, none⟩) xs.length cap] wz fun e w' => e = .returned (.tuple #[.int .i64 xs.length, .bool true]) ∧ Below wz.heap.size wz w' := by
 have HT := Lib.hid hT
 have HB := Lib.hid hB
 have IV := Lib.hid (inv_root h2)
 have NE := Lib.hid hne
 have HP := Lib.hid hp
 have HR := Lib.hid hR
 have PL := Lib.hid (fun i (hi : i ≤ xs.length) W (h : TreeAt W E room 0 rootT) (h3 : RowR W g o xs) => durPlay_ok W h h2 (xs.take i) (plays_take hp i) (fun r hr => hm r (List.mem_of_mem_take hr)) (by rw [List.length_take]; omega) (some ⟨g, o, none⟩) g o cap (fun _ => ⟨rfl, h3.take i⟩))
 clear hT hB hne hp hm hR
 obtain ⟨n, hn⟩ : ∃ n, xs.length = n := ⟨_, rfl⟩
 rw [hn] at hlen hcap PL NE ⊢
 have HN := Lib.hid hn
 clear hn
 go_enter Tryz.func19, Tryz.ntmps19
 go_wp2_with fail
 go_loopw [13] (fun s13 wr => ∃ i : Nat, s13 = .int .i64 i ∧ i ≤ n ∧ Below wz.heap.size wz wr) (fun s13 _ => n - (intOf s13).toNat)
 case atStart => exact ⟨0, rfl, Nat.zero_le _, Below.refl _ _⟩
 case round =>
   obtain ⟨i, rfl, hi, hB3⟩ := hrel
   have B3 := Lib.hid hB3
   clear hB3
   have PK := Lib.hid (PL.out i hi _ (HT.out.later B3.out) (HR.out.blocks (B3.out.block g HR.out.lt)))
   rw [List.length_take, Nat.min_eq_left (by rw [HN.out]; exact hi)] at PK
   have IR := Lib.hid (inv_dropAll (inv_run IV.out (plays_take HP.out i)) (inos (run (xs.take i) rootT)))
   have IR2 := Lib.hid (inv_dropAll (inv_run IV.out HP.out) (inos (run xs rootT)))
   go_wp2_with fail
   refine Calls.mono PK.out ?_
   rintro e w2 ⟨E2, q2, rfl, hT2, hO2, hb⟩
   have B4 := Lib.hid (B3.out.trans (hb.mono B3.out.size))
   have T2 := Lib.hid hT2
   clear hT2 hO2 hb PK
   rcases Nat.lt_or_ge i n with hlt | hge
   · have AL := Lib.hid (alike_ne w2 T2.out (HB.out.later B4.out) IR.out IR2.out (NE.out i hlt))
     go_wp2_with fail
     refine Calls.mono AL.out ?_
     rintro e w3 ⟨rfl, hb⟩
     have B5 := Lib.hid (B4.out.trans (hb.mono B4.out.size))
     clear hb AL
     go_wp2_with fail
     go_roundw
     case rel => exact ⟨i + 1, by go_num, by omega, B5.out⟩
     case measure => first | (simp [intOf]; done) | (simp [intOf]; omega)
   · have e : i = n := by omega
     subst e
     have T3 := T2.out
     rw [show xs.take i = xs by rw [← HN.out]; exact List.take_length] at T3
     have AL := Lib.hid (alike_same w2 T3 (HB.out.later B4.out) IR2.out)
     clear T3
     go_wp2_with fail
     refine Calls.mono AL.out ?_
     rintro e w3 ⟨rfl, hb⟩
     have B5 := Lib.hid (B4.out.trans (hb.mono B4.out.size))
     clear hb AL
     go_wp2_with fail
     go_ret2
     exact ⟨rfl, B5.out⟩
end Go.Proofs.YtmfhnhnmdeabeaaGreat.Re
end
section
namespace Go.Proofs.YtmfhnhnmdeabeaaGreat.Re
open Go.RowKit Go.Shelf Go.Maps Oct Path Tr
def strV (s : Nm) : Value := .string (B s)
def cS (c : Nm → Nat) (s : Nm) : Option Value := if c s = 0 then none else some (.int .i64 (c s))
theorem info_S : (Tryz.prog.info? 9).map (fun i => (i.zero, i.size, i.bytes)) = some (some (.string ⟨#[]⟩), 1, 16) := by kernel_rfl
structure Puts (W : World) (mB oB mb base nn : Nat) (c : Nm → Nat) (ss : List Nm) (p : Option Addr) (cap : Nat) : Prop where
 m : SBox W mB 129 #[.map (some mb)]
 o : SBox W oB 75 #[.slice p ss.length cap]
 map : VMap W 9 mb nn (strF (cS c))
 row : W.ownsRow base 9 1 (.slice p ss.length cap) ss.length (ss.map strV)
 mem : ∀ s, c s ≠ 0 → s ∈ ss
 le : ∀ s, c s ≤ nn
 len : ss.length ≤ nn
 lo : mB < base ∧ oB < base ∧ mb < base ∧ base ≤ W.heap.size ∧ mB ≠ oB
theorem look_cS {W : World} {mb nn : Nat} {c : Nm → Nat} (h : VMap W 9 mb nn (strF (cS c))) (s : ByteArray) (hs : s.size ≤ maxLen) : (Instr.lookup 129 (.map (some mb)) (.string s) false).run Tryz.prog W = .ok (.int .i64 (c (L s))) W := by
 rw [h.look kStr Tryz.underlying129 (zero_int W) (keyS hs)]
 show Result.ok ((cS c (L s)).getD _) W = _
 unfold cS
 by_cases h0 : c (L s) = 0
 · rw [if_pos h0, h0]; rfl
 · rw [if_neg h0]; rfl
theorem put_cS {W : World} {mb nn : Nat} {c : Nm → Nat} (h : VMap W 9 mb nn (strF (cS c))) (s : ByteArray) (hs : s.size ≤ maxLen) (hn : nn ≤ 1000) :
   ∃ W', (Instr.mapUpdate 129 (.map (some mb)) (.string s) (.int .i64 ((c (L s) : Int) + 1))).run Tryz.prog W = .ok () W' ∧ VMap W' 9 mb (nn + 1) (strF (cS fun t => if t = L s then c (L s) + 1 else c t)) ∧ W.mapTurned W' mb := by
 obtain ⟨W', hrun, h1, h2⟩ := h.put kStr Tryz.underlying129 (by unfold maxLen; omega) (keyS hs) (.int .i64 ((c (L s) : Int) + 1))
 refine ⟨W', hrun, ?_, h2⟩
 rw [strF_put] at h1
 have e : (fun t => if t = s.data.toList then some (Value.int .i64 ((c (L s) : Int) + 1)) else cS c t) = cS fun t => if t = L s then c (L s) + 1 else c t := by
   funext t
   show (if t = L s then _ else _) = _
   unfold cS
   by_cases ht : t = L s
   · simp [ht]
   · simp [ht]
 rw [e] at h1
 exact h1
set_option maxHeartbeats 4000000 in
theorem put_ok (s : Nm) (hs : s.length ≤ 64) (mB oB mb base nn : Nat) (c : Nm → Nat) (ss : List Nm) (p : Option Addr) (cap : Nat) (wz : World) (h : Puts wz mB oB mb base nn c ss p cap) (hn : nn ≤ 1000) :
   Calls Tryz.prog 70 #[.string (B s), .pointer (some ⟨mB, 0, none⟩), .pointer (some ⟨oB, 0, none⟩)] wz fun e w' => e = .returned (.tuple #[]) ∧ ∃ c' ss' p' cap', Puts w' mB oB mb base (nn + 1) c' ss' p' cap' ∧ s ∈ ss' ∧ (∀ t ∈ ss, t ∈ ss') ∧ Tch (fun x => x = mb ∨ x = oB ∨ (Value.slice p ss.length cap).ownBlock = some x) wz w' ∧ (∀ x, (Value.slice p' ss'.length cap').ownBlock = some x → (Value.slice p ss.length cap).ownBlock = some x ∨ wz.heap.size ≤ x) := by
 have HP := Lib.hid h
 have hz : (B s).size ≤ maxLen := by rw [size_B]; unfold maxLen; omega
 have hX := h.m
 have hY := h.o
 have X0 := hX.cell 0
 simp only [List.getElem?_toArray, List.getElem?_cons_zero, List.getElem?_cons_succ] at X0
 have Xl := hX.lt
 have Y0 := hY.cell 0
 simp only [List.getElem?_toArray, List.getElem?_cons_zero, List.getElem?_cons_succ] at Y0
 have Yl := hY.lt
 have LK := look_cS h.map (B s) hz
 obtain ⟨W1, PU, hM1, hT1⟩ := put_cS h.map (B s) hz hn
 rw [L_B] at LK PU hM1
 have hcs := h.le s
 have hX1 : SBox W1 mB 129 #[.map (some mb)] := (turned_block hT1 (fun e => by
   have := h.map.ne h.m; exact this e)).trans h.m
 have hY1 : SBox W1 oB 75 #[.slice p ss.length cap] := (turned_block hT1 (fun e => by
   have := h.map.ne h.o; exact this e)).trans h.o
 have LK1 := look_cS hM1 (B s) hz
 rw [L_B, if_pos rfl] at LK1
 have M1 := Lib.hid hM1
 have T1 := Lib.hid (show Tch (fun x => x = mb) wz W1 from Tch.turned hT1 rfl)
 have R1 := Lib.hid (row_tch h.row h.lo.2.2.1 T1.out)
 have X1 := Lib.hid hX1
 have Y1 := Lib.hid hY1
 clear hX hY hM1 hT1 h
 have U0 := hX1.cell 0
 simp only [List.getElem?_toArray, List.getElem?_cons_zero, List.getElem?_cons_succ] at U0
 have Ul := hX1.lt
 have V0 := hY1.cell 0
 simp only [List.getElem?_toArray, List.getElem?_cons_zero, List.getElem?_cons_succ] at V0
 have Vl := hY1.lt
 have Vf := hY1.free 0
 clear hX1 hY1
 obtain ⟨k, hk⟩ : ∃ k, c s = k := ⟨_, rfl⟩
 rw [hk] at LK PU LK1 hcs
 have HK := Lib.hid hk
 obtain ⟨i0, hi, hz0, hz1, hz2⟩ := info_parts info_S
 clear hk
 rw [show ((k + 1 : Nat) : Int) = (k : Int) + 1 by omega] at LK1
 by_cases h0 : k = 0
 · subst h0
   rw [show ((0 : Nat) : Int) + 1 = 1 from rfl] at PU LK1
   rw [show ((0 : Nat) : Int) = 0 from rfl] at LK
   have SZ := Lib.hid (show base ≤ W1.heap.size by have := T1.out.size; have := HP.out.lo.2.2.2.1; omega)
   have hl := HP.out.len
   have lo := HP.out.lo
   have OWN := Lib.hid (fun x (e : (Value.slice p ss.length cap).ownBlock = some x) => (row_cells HP.out.row e).1)
   go_enter Tryz.func70, Tryz.ntmps70
   go_wp2_with (at_builtin; go_must (refine wpList_append_lies _ rfl _ _ 75 rfl base 9 i0 (.string ⟨#[]⟩) 1 16 Tryz.underlying75 hi hz0 hz1 hz2 rfl (by decide) _ _ _ rfl (R1.out.alloc _) ⟨W1.heap.size, 0, none⟩ 1 1 [.string (B s)] rfl rfl (news_box (SBox.new W1 9 #[.string (B s)])) (by intro u hu; simp at hu; subst hu; rfl) (by decide) (by unfold maxLen; omega) (by omega) (by have := SZ.out; simp; omega) _ rfl ?_; intro g2 cap2 W2 hown hgrow hat hlt; have O2 := Lib.hid hown; have G2 := Lib.hid hgrow; have AT := Lib.hid hat; have kO : SBox W2 oB 75 #[.slice p ss.length cap] := (hgrow.block oB (by have := Y1.out.lt; simp; omega) (fun e => by have := OWN.out _ e.symm; omega)).trans (Y1.out.alloc _); have KO := Lib.hid kO; have K0 : W2.cell? ⟨oB, 0, none⟩ = some (.slice p ss.length cap) := kO.cell 0; have Kl := kO.lt; have Kf := kO.free 0; clear hown hgrow hat kO))
   go_end0
   have TA := (Below.refl _ W1).alloc (Nat.le_refl _) (.cells #[.string (B s)] 9)
   have T2 : Tch (fun x => x = mb ∨ x = oB ∨ (Value.slice p ss.length cap).ownBlock = some x) wz (W2.setCell ⟨oB, 0, none⟩ (.slice (some ⟨g2, 0, none⟩) (ss.length + 1) cap2)) :=
     (((T1.out.mono fun _ _ e => .inl e).trans (Tch.of TA)).trans ⟨G2.out.os, G2.out.tape, G2.out.output, G2.out.size, fun b hb hn => G2.out.block b hb (fun e => hn (.inr (.inr e.symm)))⟩).trans (Tch.cell (.inr (.inl rfl)))
   have mW2 : VMap (W2.setCell ⟨oB, 0, none⟩ (.slice (some ⟨g2, 0, none⟩) (ss.length + 1) cap2)) 9 mb (nn + 1) (strF (cS fun t => if t = s then c s + 1 else c t)) := by
     have h1 := M1.out
     rw [HK.out] at *
     refine (h1.alloc (.cells #[.string (B s)] 9)).block ?_
     rw [heap_setCell_other W2 ⟨oB, 0, none⟩ mb _ (by have := h1.ne Y1.out; exact fun e => this e.symm)]
     exact G2.out.block mb (by have := h1.lt; simp; omega) (fun e => by have := OWN.out _ e.symm; omega)
   refine ⟨rfl, _, ss ++ [s], some ⟨g2, 0, none⟩, cap2, ⟨?_, ?_, mW2, ?_, ?_, ?_, ?_, lo.1, lo.2.1, lo.2.2.1, Nat.le_trans lo.2.2.2.1 T2.size, lo.2.2.2.2⟩, by simp, fun t ht => List.mem_append_left _ ht, T2, ?_⟩
   · refine (heap_setCell_other W2 ⟨oB, 0, none⟩ mB _ (by exact lo.2.2.2.2)).trans ?_
     exact (G2.out.block mB (by have := X1.out.lt; simp; omega) (fun e => by have := OWN.out _ e.symm; omega)).trans (X1.out.alloc _)
   · have := KO.out.set 0 (.slice (some ⟨g2, 0, none⟩) (ss.length + 1) cap2)
     simpa using this
   · have := O2.out.setCell_below (a := ⟨oB, 0, none⟩) (by exact lo.2.1) (.slice (some ⟨g2, 0, none⟩) (ss.length + 1) cap2)
     simpa [strV] using this
   · intro t ht
     by_cases e : t = s
     · subst e; simp
     · rw [if_neg e] at ht
       exact List.mem_append_left _ (HP.out.mem t ht)
   · intro t
     by_cases e : t = s
     · rw [if_pos e, HK.out]; omega
     · rw [if_neg e]; have := HP.out.le t; omega
   · simp; exact HP.out.len
   · intro x hx
     have e2 : some g2 = some x := hx
     cases e2
     rcases AT.out with h | h
     · exact .inl h
     · exact .inr (by rw [h]; have := T1.out.size; simp; omega)
 · have t1 : ((k : Int) + 1 == 1) = false := by simp; omega
   have t2 : decide ((k : Int) + 1 = 1) = false := by simp; omega
   have t3 : decide (k = 0) = false := by simpa using h0
   have N0 := Lib.hid h0
   go_enter Tryz.func70, Tryz.ntmps70
   go_wp2_with fail
   go_end0
   have lo := HP.out.lo
   refine ⟨rfl, _, ss, p, cap, ⟨X1.out, Y1.out, M1.out, R1.out, ?_, ?_, by have := HP.out.len; omega, lo.1, lo.2.1, lo.2.2.1, Nat.le_trans lo.2.2.2.1 T1.out.size, lo.2.2.2.2⟩, HP.out.mem s (by rw [HK.out]; exact N0.out), fun t ht => ht, T1.out.mono fun _ _ e => .inl e, fun x hx => .inl hx⟩
   · intro t ht
     by_cases e : t = s
     · rw [e]; exact HP.out.mem s (by rw [HK.out]; exact N0.out)
     · rw [if_neg e] at ht; exact HP.out.mem t ht
   · intro t
     by_cases e : t = s
     · rw [if_pos e]; have := HP.out.le s; omega
     · rw [if_neg e]; have := HP.out.le t; omega
end Go.Proofs.YtmfhnhnmdeabeaaGreat.Re
end
