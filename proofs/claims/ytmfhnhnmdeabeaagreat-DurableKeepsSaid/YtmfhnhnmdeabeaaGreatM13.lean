/- slices.Sort at numbers of 32 bits: insertionSortOrdered. -/
import Derived.Test.YtmfhnhnmdeabeaaGreatM12
import Derived.Test.YtmfhnhnmdeabeaaGreatM02
import Derived.RangeFuncGives
import Derived.RangeFuncKeeps
import Derived.RangeFuncSeq
import Derived.OwnWalkIn
import Derived.TacticsInMore
import Derived.RegionIn
import Derived.LoopNIn
import Derived.LoopIn
import Derived.Sort.MapsRangeIn
import Derived.RangeFuncFrom
import Derived.Maps.AppendAt
import Derived.Laws.IdiomMaps
import Derived.BigRegion
import Derived.BigQuiet
import Derived.Deep.Quiet
import Derived.Deep.QuietTactic
import Derived.Sort.AssemblyPlain
set_option linter.unusedVariables false
set_option linter.unusedSimpArgs false
set_option maxRecDepth 100000
section
namespace Go.Proofs.YtmfhnhnmdeabeaaGreat.Tr
open Go.RowKit Go.Shelf Go.Maps Oct Path
attribute [local go_sem] Oper.semAt_some
theorem keys_any (m : Nat) (w : World) : Calls Tryz.prog 64 #[.map (some m)] w fun e w' => e = .returned (.func (.func 114) #[] #[.pointer (some ⟨w.heap.size, 0, none⟩)]) ∧ w.alloc (.cells #[.map (some m)] 51) = w' := by
 go_enter Tryz.func64, Tryz.ntmps64
 go_wp2
 go_ret
 exact ⟨rfl, rfl⟩
theorem range_walks {W W' : World} {kt : TypeId} {b r nn : Nat} {f : Lit → Option Value} {left : Lit → Bool} {cnt : Nat} (h : VRange W kt b r nn f left cnt) (hk : KeepsWalks W W') : VRange W' kt b r nn f left cnt := by
 obtain ⟨D, h1, h2⟩ := h
 exact ⟨D, h1.of_walks hk, h2⟩
theorem range_walk {W : World} {kt : TypeId} {b r nn : Nat} {f : Lit → Option Value} {left : Lit → Bool} {cnt : Nat} (h : VRange W kt b r nn f left cnt) : ∃ o : Obj, W.heap[r]? = some o ∧ o.isWalk = true := by
 obtain ⟨D, h1, h2⟩ := h
 exact h1.iter_walk
theorem few {ss : List Nat} (hn : ss.Nodup) (hr : ∀ x ∈ ss, 1 ≤ x ∧ x ≤ 256) : ss.length ≤ 256 := by
 have := len_le ss ((List.range 256).map (· + 1)) hn fun x hx => by
   have := hr x hx
   exact List.mem_map.2 ⟨x - 1, by simp; omega, by omega⟩
 simpa using this
set_option maxHeartbeats 1000000 in
theorem keys_seq (n : Nat) (hn : 1 ≤ n) {b nn Bm : Nat} {g : Nat → Option Value} (w : World) (hX : SBox w Bm 51 #[.map (some b)]) (hm : VMap w 37 b nn (natF .u32 g)) (hr : ∀ x, (g x).isSome = true → 1 ≤ x ∧ x ≤ 256) :
   SeqStopsK Fence.wide n Tryz.prog 114 #[.pointer (some ⟨Bm, 0, none⟩)] (fun x : Nat => #[.int .u32 x]) KeepsWalks (fun ss => ss.Nodup ∧ ∀ x, x ∈ ss ↔ (g x).isSome = true) (fun _ => True) 256 w := by
 intro l J Jx W hW hJ hJx hY h0
 have hmW := hm.later hW
 have hXW := hX.later hW
 have X0 := hXW.cell 0
 simp only [List.getElem?_toArray, List.getElem?_cons_zero] at X0
 have Xl := hXW.lt
 have HJ := Lib.hid hJ
 have HY := Lib.hid hY
 have HR := Lib.hid hr
 obtain ⟨w0, cnt0, left0, hrun, hR0, hl0, hg0, hs0⟩ := hmW.range kU32 Tryz.underlying51
 have R0 := Lib.hid hR0
 have L0 := Lib.hid hl0
 have J0 := Lib.hid (hJ [] W w0 none h0 hg0 (fun r e => by cases e))
 clear hmW hXW hX hm hR0 hl0 hg0 hs0 hJ hY h0 hr
 refine callsIn_of_wp Tryz.func114 rfl trivial ?_ rfl
 simp only [Tryz.ntmps114, List.size_toArray, List.length_cons, List.length_nil, Nat.reduceAdd, Nat.reduceSub, Array.replicate_succ, Array.replicate_zero, List.push_toArray, List.append_toArray, List.nil_append, List.cons_append]
 gi_wp2
 clear hrun X0 Xl
 gi_loopw [3] (fun _ wr => ∃ (left : Lit → Bool) (cnt : Nat) (ss : List Nat), VRange wr 37 b W.heap.size nn (natF .u32 g) left cnt ∧ (ss.Nodup ∧ ∀ x : Nat, x ∈ ss ↔ (g x).isSome = true ∧ left (.int .u32 (x : Int)) = false) ∧ J ss wr)
   (fun _ wr => wr.rangeLeft b W.heap.size)
 case atStart =>
   refine ⟨left0, cnt0, [], R0.out, ⟨List.nodup_nil, fun x => ⟨fun h => (by cases h), fun ⟨h1, h2⟩ => ?_⟩⟩, J0.out⟩
   have hx := HR.out x h1
   have h3 := L0.out (.int .u32 (x : Int)) ⟨.int .u32 x, key32 (by omega)⟩
   rw [natF_at, h1, h2] at h3
   cases h3
 case round =>
   obtain ⟨left, cnt, ss, hrg, hC, hJs⟩ := hrel
   have RR := Lib.hid hrg
   have CC := Lib.hid hC
   rcases hrg.next kU32 0 with ⟨rfl, hlf, hrun⟩ | ⟨key, v, kl, w2, cnt2, hkey, hlk, hf, hrun, hR2, hlt, hg2, hs2, hen⟩
   · have LF := Lib.hid hlf
     have JS := Lib.hid hJs
     clear hlf hJs hrg hC
     gi_wp2
     go_end0
     exact ⟨⟨_, rfl⟩, .inl ⟨ss, ⟨CC.out.1, fun x => (CC.out.2 x).trans ⟨fun h => h.1, fun h => ⟨h, LF.out _⟩⟩⟩, JS.out⟩⟩
   · obtain ⟨z, rfl, rfl, hwf⟩ := Maps.keyOf_int_inv Tryz.underlying37 hkey
     obtain ⟨x, ex, hgx⟩ := natF_some (show (natF .u32 g (.int .u32 z)).isSome = true by rw [hf]; rfl)
     obtain rfl : z = (x : Int) := by cases ex; rfl
     have hnew : x ∉ ss := fun h => by have := ((CC.out.2 x).1 h).2; rw [hlk] at this; cases this
     have hlen : ss.length < 256 := by
       have := few (ss := ss ++ [x]) (List.nodup_append.2 ⟨CC.out.1, by simp, fun a ha c hc => by simp at hc; subst hc; intro e; subst e; exact hnew ha⟩) (fun y hy => by
         rcases List.mem_append.1 hy with h | h
         · exact HR.out y ((CC.out.2 y).1 h).1
         · simp at h; subst h; exact HR.out y hgx)
       simp at this
       omega
     have J2 := Lib.hid (HJ.out ss wr w2 (some W.heap.size) hJs hg2 (fun r e => by cases e; exact ⟨Nat.le_refl _, range_walk hrg⟩))
     have GX := Lib.hid hgx
     have NW := Lib.hid hnew
     have R2 := Lib.hid hR2
     have CN := Lib.hid hlt
     obtain ⟨fn, tmps, assign, body, hy, hR⟩ := HY.out ss x w2 J2.out hlen
     clear hs2 hg2 hR2 hlt hJs hgx hnew hrg hC hf hkey hlk hwf hlen
     gi_wp2
     refine hR.mono ?_
     rintro e W3 (⟨rfl, hJ3, hk3⟩ | ⟨rfl, hJx3⟩)
     · have J3 := Lib.hid hJ3
       have R3 := Lib.hid (range_walks R2.out hk3)
       clear hJ3 hk3
       gi_wp2
       go_roundw
       case rel =>
         refine ⟨_, cnt2, ss ++ [x], R3.out, ⟨List.nodup_append.2 ⟨CC.out.1, by simp, fun a ha c hc => by simp at hc; subst hc; intro e; subst e; exact NW.out ha⟩, fun y => ?_⟩, J3.out⟩
         simp only [List.mem_append, List.mem_singleton, CC.out.2, same_u32, Bool.and_eq_false_iff, Bool.not_eq_false', decide_eq_true_eq]
         by_cases e : y = x
         · subst e; simp [GX.out]
         · simp [e]
       case measure => rw [R3.out.left_eq, RR.out.left_eq]; exact CN.out
     · have J3 := Lib.hid hJx3
       clear hJx3
       gi_wp2
       refine bodyPost_ret (results_none rfl _ _ _) rfl ?_
       exact ⟨⟨_, rfl⟩, .inr ⟨_, trivial, J3.out⟩⟩
end Go.Proofs.YtmfhnhnmdeabeaaGreat.Tr
end
section
namespace Go.Proofs.YtmfhnhnmdeabeaaGreat.Tr
open Go.RowKit Go.Shelf Go.Maps Oct Path
attribute [local go_sem] Oper.semAt_some
def enc32 (x : Nat) : Value := .int .u32 x
theorem info_u32 : (Tryz.prog.info? 37).map (fun i => (i.zero, i.size, i.bytes)) = some (some (.int .u32 0), 1, 4) := by kernel_rfl
theorem _root_.Go.World.ownsRow.setCell_below {base n size : Nat} {e : TypeId} {v : Value} {xs : List Value} {W : World} (h : W.ownsRow base e size v n xs) {a : Addr} (ha : a.block < base) (u : Value) : (W.setCell a u).ownsRow base e size v n xs :=
 h.kept (row := some a.block) ⟨by have := (Below.refl 0 W).setCell (p := a) (Nat.zero_le _) u; exact this.os, by have := (Below.refl 0 W).setCell (p := a) (Nat.zero_le _) u; exact this.tape, by have := (Below.refl 0 W).setCell (p := a) (Nat.zero_le _) u; exact this.output, by simp, fun i _ hi => heap_setCell_other W a i u (by simpa using hi)⟩ (by
   rcases h.2 with ⟨rfl, _⟩ | ⟨g, cap, cur, rfl, hg, _⟩
   · exact .inl rfl
   · exact .inr (by simp [Value.ownBlock]; omega))
theorem sbox_kept {B b : Nat} {t : TypeId} {cs : Array Value} {W W' : World} {row : Option Nat} (h : SBox W b t cs) (hg : W.grownBy W' row) (hr : ∀ r, row = some r → B ≤ r ∧ ∃ o : Obj, W.heap[r]? = some o ∧ o.isCells = false) : SBox W' b t cs := by
 refine h.kept hg fun e => ?_
 obtain ⟨_, o, ho, hc⟩ := hr b e.symm
 unfold SBox at h
 rw [h] at ho
 cases ho
 cases hc
theorem row_kept {B base n size : Nat} {e : TypeId} {v : Value} {xs : List Value} {W W' : World} {row : Option Nat} (h : W.ownsRow base e size v n xs) (hg : W.grownBy W' row) (hr : ∀ r, row = some r → B ≤ r ∧ ∃ o : Obj, W.heap[r]? = some o ∧ o.isCells = false) : W'.ownsRow base e size v n xs := by
 refine h.kept hg ?_
 rcases h.2 with ⟨rfl, _⟩ | ⟨g, cap, cur, rfl, _, hgb, _⟩
 · exact .inl rfl
 · refine .inr (fun e => ?_)
   obtain ⟨_, o, ho, hc⟩ := hr g e.symm
   rw [hgb] at ho
   cases ho
   cases hc
def Held32 (bl base : Nat) (ss : List Nat) (W : World) : Prop := ∃ v, SBox W bl 63 #[v] ∧ W.ownsRow base 37 1 v ss.length (ss.map enc32)
set_option maxHeartbeats 4000000 in
theorem appendSeq_in (n : Nat) (hn : 2 ≤ n) (g : Nat) (lb : Array Value) (eg : ∀ args w, (callFunc g args).run Tryz.prog w = .ok (.enter g args) w) (S : List Nat → Prop) (w : World)
   (hseq : SeqStopsK Fence.wide (n - 1) Tryz.prog g lb (fun x : Nat => #[.int .u32 x]) KeepsWalks S (fun _ => True) 256 w) :
   CallsIn Fence.wide n Tryz.prog 139 #[.slice none 0 0, .func (.func g) #[] lb] w fun e w' => ∃ (v : Value) (ss : List Nat), e = .returned v ∧ S ss ∧ w'.ownsRow w.heap.size 37 1 v ss.length (ss.map enc32) ∧ Below w.heap.size w w' := by
 have HS := Lib.hid hseq
 clear hseq
 refine callsIn_of_wp_marks Tryz.func139 rfl trivial ?_ rfl
 simp only [Tryz.ntmps139, List.size_toArray, List.length_cons, List.length_nil, Nat.reduceAdd, Nat.reduceSub, Array.replicate_succ, Array.replicate_zero, List.push_toArray, List.append_toArray, List.nil_append, List.cons_append]
 gi_wp2
 obtain ⟨i0, hi, hz0, hz1, hz2⟩ := info_parts info_u32
 have hB0 : Below w.heap.size w (w.alloc (.cells #[.slice none 0 0] 63)) := (Below.refl _ w).alloc (Nat.le_refl _) _
 refine wpIn_rangeFunc_ownF rfl (by omega) (gf := g) (lb := lb) rfl trivial eg HS.out (fun h k => h.trans k) (fun W l o o' _ h _ hw => KeepsWalks.putObj o' h hw) hB0 (fun _ => rfl)
   (fun pre W => Held32 w.heap.size (w.heap.size + 1) pre W ∧ (w.heap.size + 1 ≤ W.heap.size ∧ Below w.heap.size w W))
   (fun c pre W => False)
   (fun pre W W' row hs hg hr => by
     obtain ⟨⟨v, h1, h2⟩, h3, h4⟩ := hs
     exact ⟨⟨v, sbox_kept h1 hg hr, row_kept h2 hg hr⟩, Nat.le_trans h3 hg.size, h4.grown hg h4.size (fun k e => by have := (hr k e).1; simp at this; omega)⟩)
   (fun c _ _ _ _ hs _ _ => hs)
   ⟨⟨_, SBox.new w _ _, World.ownsRow_nil _ _ _ _⟩, by simp, hB0⟩
   ?a1 ?assign ?body ?done ?stop
 case assign =>
   intro l x W K hK
   have HK := Lib.hid hK
   clear hK
   gi_wp2
   exact HK.out
 case body =>
   rintro l pre x W ⟨⟨v, hv, hrow⟩, hz, hB⟩ hlen
   have c0 := hv.cell 0
   simp only [List.getElem?_toArray, List.getElem?_cons_zero, List.getElem?_cons_succ] at c0
   have f0 := hv.free 0
   have hlt := hv.lt
   have hvl : ∀ g, v.ownBlock = some g → w.heap.size + 1 ≤ g := fun g e => (hrow.lt g e).1
   have HVL := Lib.hid hvl
   have HV := Lib.hid hv
   clear hvl hv
   gi_wp2_with (gi_at_builtin; refine wpListIn_append_own _ rfl _ _ 63 rfl (w.heap.size + 1) 37 i0 (.int .u32 0) 1 4 Tryz.underlying63 hi hz0 hz1 hz2 rfl (by decide) _ _ _ rfl (hrow.alloc _) ⟨W.heap.size, 0, none⟩ 1 1 [enc32 x] rfl rfl ?c1 ?c2 (by unfold maxLen; omega) (by omega) (by simp; omega) ?_)
   case c1 =>
     intro j u hu
     have e : ((⟨W.heap.size, 0, none⟩ : Addr).add j) = ⟨W.heap.size, j, none⟩ := by unfold Addr.add; simp; omega
     have h := (SBox.new W 37 #[.int .u32 (x : Int)]).cell j
     rw [e]
     refine h.trans ?_
     simpa [enc32] using hu
   case c2 =>
     intro u hu
     simp only [List.mem_cons, List.not_mem_nil, or_false] at hu
     subst hu
     rfl
   intro v' W2 hown2 hgrow2 _
   obtain ⟨g', cap', rfl, hg'⟩ : ∃ g' cap', v' = .slice (some ⟨g', 0, none⟩) (pre.length + 1) cap' ∧ w.heap.size + 1 ≤ g' := by
     rcases hown2.2 with ⟨_, e0⟩ | ⟨g', cap', cur', rfl, hg, _⟩
     · omega
     · exact ⟨g', cap', rfl, hg⟩
   have hne : ∀ x, x < w.heap.size + 1 → some x ≠ v.ownBlock := fun x hx e => by have := HVL.out _ e.symm; omega
   have hv2 : SBox W2 w.heap.size 63 #[v] := (HV.out.alloc _).kept hgrow2 (hne _ (by omega))
   have C2 := hv2.cell 0
   simp only [List.getElem?_toArray, List.getElem?_cons_zero, List.getElem?_cons_succ] at C2
   have F2 := hv2.free 0
   have L2 := hv2.lt
   have hk2 : KeepsOthers W W2 := by
     refine ⟨Nat.le_trans (by simp) hgrow2.size, fun q o hk ho => ?_⟩
     have hk4 : (W.alloc (.cells #[.int .u32 (x : Int)] 37)).heap[q]? = some o := (Below.heap_alloc _ _ _ (Array.getElem?_eq_some_iff.1 hk).1).trans hk
     refine (hgrow2.block q (Array.getElem?_eq_some_iff.1 hk4).1 (fun e => ?_)).trans hk4
     rcases hrow.2 with ⟨rfl, _⟩ | ⟨g, cap, cur, rfl, _, hgb, _⟩
     · simp [Value.ownBlock] at e
     · simp only [Value.ownBlock, Option.some.injEq] at e
       subst e
       rw [hgb] at hk
       cases hk
       cases ho
   have hB2 : Below w.heap.size w W2 := (hB.alloc hB.size _).grown hgrow2 (by have := hB.size; simp; omega) (fun k e => by have := HVL.out _ e; omega)
   have HV2 := Lib.hid hv2
   have OW := Lib.hid hown2
   have KO := Lib.hid hk2
   have BB := Lib.hid hB2
   have SZ := Lib.hid (show w.heap.size + 1 ≤ W2.heap.size from Nat.le_trans hz (Nat.le_trans (by simp) hgrow2.size))
   clear hv2 hown2 hgrow2 hB hB2 hk2 c0 f0 hlt HVL HV hne hrow
   gi_wp2
   have KO2 := KO.out.trans (KeepsOthers.setCell W2 ⟨w.heap.size, 0, none⟩ (.slice (some ⟨g', 0, none⟩) (pre.length + 1) cap'))
   refine ⟨KO2, KO2.walks, ⟨_, by simpa using HV2.out.set 0 (.slice (some ⟨g', 0, none⟩) (pre.length + 1) cap'), ?_⟩, Nat.le_trans SZ.out (KeepsWalks.setCell W2 _ _).size, BB.out.setCell (p := ⟨w.heap.size, 0, none⟩) (Nat.le_refl _) _⟩
   have h := OW.out.setCell_below (a := ⟨w.heap.size, 0, none⟩) (by show w.heap.size < w.heap.size + 1; omega) (.slice (some ⟨g', 0, none⟩) (pre.length + 1) cap')
   simpa [enc32] using h
 case done =>
   rintro D ss W hD hS ⟨⟨v, hv, hrow⟩, hz, hB⟩ hK
   have c0 := hv.cell 0
   simp only [List.getElem?_toArray, List.getElem?_cons_zero, List.getElem?_cons_succ] at c0
   have f0 := hv.free 0
   have hlt := hv.lt
   have HS2 := Lib.hid hS
   have HR := Lib.hid hrow
   have HB := Lib.hid hB
   have HK := Lib.hid hK
   have HD := Lib.hid hD
   clear hv hS hrow hB hK hD HS
   gi_wp2
   refine ⟨by simp, .inl ⟨_, _, rfl, run_takeDeferred HK.out, ?_⟩⟩
   refine ⟨v, by simp [results, Tryz.f139, go_sem], v, ss, rfl, HS2.out, ?_, HB.out.trans (belowK_b (w := w) (Nat.le_refl _) _ D _ _ (by have := HD.out; simp at this; omega) HK.out rfl rfl)⟩
   have h := row_kept (B := 0) HR.out (grownBy_putObj' _ D (.deferred none)) (fun r e => by cases e; exact ⟨Nat.zero_le _, _, HK.out, rfl⟩)
   refine ⟨h.1, ?_⟩
   rcases h.2 with h1 | ⟨g2, cap, cur, e1, hg, r⟩
   · exact .inl h1
   · exact .inr ⟨g2, cap, cur, e1, by omega, r⟩
 case stop =>
   intro D c pre W _ _ h
   exact absurd h id
set_option maxHeartbeats 1000000 in
theorem collect_in (n : Nat) (hn : 3 ≤ n) (g : Nat) (lb : Array Value) (eg : ∀ args w, (callFunc g args).run Tryz.prog w = .ok (.enter g args) w) (S : List Nat → Prop) (w : World)
   (hseq : SeqStopsK Fence.wide (n - 1 - 1) Tryz.prog g lb (fun x : Nat => #[.int .u32 x]) KeepsWalks S (fun _ => True) 256 w) :
   CallsIn Fence.wide n Tryz.prog 112 #[.func (.func g) #[] lb] w fun e w' => ∃ (v : Value) (ss : List Nat), e = .returned v ∧ S ss ∧ w'.ownsRow w.heap.size 37 1 v ss.length (ss.map enc32) ∧ Below w.heap.size w w' := by
 have AP := Lib.hid (appendSeq_in (n - 1) (by omega) g lb eg S w hseq)
 clear hseq
 refine callsIn_of_wp Tryz.func112 rfl trivial ?_ rfl
 simp only [Tryz.ntmps112, List.size_toArray, List.length_cons, List.length_nil, Nat.reduceAdd, Nat.reduceSub, Array.replicate_succ, Array.replicate_zero, List.push_toArray, List.append_toArray, List.nil_append, List.cons_append]
 gi_wp2_with fail
 refine ⟨trivial, (fun h => by cases h), ?_⟩
 refine AP.out.mono ?_
 rintro e w2 ⟨v, ss, rfl, h⟩
 have H := Lib.hid h
 clear h
 gi_wp2
 go_ret
 exact ⟨v, ss, rfl, H.out⟩
end Go.Proofs.YtmfhnhnmdeabeaaGreat.Tr
end
section
namespace Go.Proofs.YtmfhnhnmdeabeaaGreat.So
open Go.RowKit Go.Shelf Tr
def ltN (x y : Nat) : Bool := decide (x < y)
theorem swo : Sort.SWO ltN := ⟨fun x => by simp [ltN], fun x y z h1 h2 => by simp [ltN] at *; omega, fun x y z h1 h2 => by simp [ltN] at *; omega⟩
theorem nan_any (x : Nat) (w : World) : Calls Tryz.prog 187 #[.int .u32 x] w fun e w' => e = .returned (.bool false) ∧ w = w' := by
 go_enter Tryz.func187, Tryz.ntmps187
 go_wp2
 go_ret
 exact ⟨rfl, rfl⟩
theorem less_any (x y : Nat) (w : World) : Calls Tryz.prog 166 #[.int .u32 x, .int .u32 y] w fun e w' => e = .returned (.bool (ltN x y)) ∧ w = w' := by
 have e : ltN x y = decide (x < y) := rfl
 rw [e]
 clear e
 go_enter Tryz.func166, Tryz.ntmps166
 go_wp2_with fail
 refine (nan_any x w).mono ?_
 rintro e w9 ⟨rfl, rfl⟩
 go_wp2
 go_ret
 exact ⟨rfl, rfl⟩
def RowAt (w : World) (g : Nat) (tl : List Value) (d : Array Nat) : Prop := SBox w g 37 (d.toList.map enc32 ++ tl).toArray
theorem RowAt.cell {w : World} {g : Nat} {tl : List Value} {d : Array Nat} (h : RowAt w g tl d) {i : Nat} (hi : i < d.size) : w.cell? ⟨g, i, none⟩ = some (.int .u32 (d[i]! : Nat)) := by
 rw [SBox.cell h i]
 have h2 : d[i]! = d[i] := by simp [hi]
 rw [h2]
 simp [List.getElem?_append_left, hi, enc32]
theorem RowAt.free {w : World} {g : Nat} {tl : List Value} {d : Array Nat} (h : RowAt w g tl d) (i : Nat) : w.frozen? ⟨g, i, none⟩ = false := SBox.free h i
theorem RowAt.drewN {w : World} {g : Nat} {tl : List Value} {d : Array Nat} (h : RowAt w g tl d) (n : Nat) : RowAt (w.drewN n) g tl d := h
theorem RowAt.drew {w : World} {g : Nat} {tl : List Value} {d : Array Nat} (h : RowAt w g tl d) : RowAt w.drew g tl d := h
theorem RowAt.lt {w : World} {g : Nat} {tl : List Value} {d : Array Nat} (h : RowAt w g tl d) : g < w.heap.size := SBox.lt h
theorem RowAt.set {w : World} {g : Nat} {tl : List Value} {d : Array Nat} (h : RowAt w g tl d) {i : Nat} (hi : i < d.size) (x : Nat) : RowAt (w.setCell ⟨g, i, none⟩ (.int .u32 x)) g tl (d.setIfInBounds i x) := by
 have := SBox.set h i (.int .u32 x)
 unfold RowAt
 have e : ((d.toList.map enc32 ++ tl).toArray.setIfInBounds i (.int .u32 x)) = ((d.setIfInBounds i x).toList.map enc32 ++ tl).toArray := by
   simp [List.set_append, hi, List.map_set, enc32]
 rw [e] at this
 exact this
theorem RowAt.swap {w : World} {g : Nat} {tl : List Value} {d : Array Nat} (h : RowAt w g tl d) {i j : Nat} (hi : i < d.size) (hj : j < d.size) : RowAt ((w.setCell ⟨g, i, none⟩ (.int .u32 (d[j]! : Nat))).setCell ⟨g, j, none⟩ (.int .u32 (d[i]! : Nat))) g tl (Sort.swp d i j) :=
 (h.set hi _).set (by simpa using hj) _
def One (g : Nat) : World → World → Prop := Tch (fun c => c = g)
theorem One.swap {w : World} {g i j : Nat} {u v : Value} : One g w ((w.setCell ⟨g, i, none⟩ u).setCell ⟨g, j, none⟩ v) := Tch.trans (O := fun c => c = g) (Tch.cell rfl) (Tch.cell rfl)
theorem One.drewN {w : World} {g : Nat} (n : Nat) : One g w (w.drewN n) := Tch.of (below_drewN' (Below.refl _ w) n)
theorem size_swp (d : Array Nat) (i j : Nat) : (Sort.swp d i j).size = d.size := by simp [Sort.swp]
end Go.Proofs.YtmfhnhnmdeabeaaGreat.So
end
section
namespace Go.Proofs.YtmfhnhnmdeabeaaGreat.So
open Go.RowKit Go.Shelf Tr
theorem ins_end {lt : Nat → Nat → Bool} {a j : Nat} {d : Array Nat} (h : (decide (j > a) && lt d[j]! d[j - 1]!) = false) : Sort.insInner lt a j d = d := by
 cases j with
 | zero => rfl
 | succ j =>
   unfold Sort.insInner
   simp only [Nat.add_sub_cancel] at h
   rw [if_neg (by rw [h]; decide)]
theorem ins_more {lt : Nat → Nat → Bool} {a j : Nat} {d : Array Nat} (h1 : a < j) (h2 : lt d[j]! d[j - 1]! = true) : Sort.insInner lt a j d = Sort.insInner lt a (j - 1) (Sort.swp d j (j - 1)) := by
 cases j with
 | zero => omega
 | succ j =>
   simp only [Nat.add_sub_cancel] at h2 ⊢
   rw [Sort.insInner, if_pos (by simp [h2]; omega)]
theorem outer_more {lt : Nat → Nat → Bool} {a b i : Nat} {d : Array Nat} (h : i < b) : Sort.insOuter lt a b i d = Sort.insOuter lt a b (i + 1) (Sort.insInner lt a i d) := by
 conv => lhs; unfold Sort.insOuter
 rw [if_pos h]
theorem outer_end {lt : Nat → Nat → Bool} {a b i : Nat} {d : Array Nat} (h : ¬ i < b) : Sort.insOuter lt a b i d = d := by
 unfold Sort.insOuter
 rw [if_neg h]
theorem ins_size (lt : Nat → Nat → Bool) (a : Nat) : ∀ (j : Nat) (d : Array Nat), (Sort.insInner lt a j d).size = d.size
 | 0, d => rfl
 | j + 1, d => by
   unfold Sort.insInner
   split
   · rw [ins_size lt a j, size_swp]
   · rfl
set_option maxHeartbeats 8000000 in
theorem ins_any (g n cap a b : Nat) (tl : List Value) (d : Array Nat) (w : World) (hR : RowAt w g tl d) (hn : d.size = n) (hn2 : n ≤ 256) (hab : a ≤ b) (hb : b ≤ n) :
   Calls Tryz.prog 160 #[.slice (some ⟨g, 0, none⟩) n cap, .int .i64 a, .int .i64 b] w fun e w' => e = .returned (.tuple #[]) ∧ RowAt w' g tl (Sort.insertionSort ltN d a b) ∧ One g w w' := by
 have HR := Lib.hid hR
 have HN := Lib.hid hn
 clear hR hn
 go_enter Tryz.func160, Tryz.ntmps160
 go_wp2_with fail
 go_loopw [6] (fun s6 wr => ∃ (i : Nat) (dk : Array Nat), s6 = .int .i64 i ∧ i ≤ b + 1 ∧ a + 1 ≤ i ∧ dk.size = n ∧ RowAt wr g tl dk ∧ One g w wr ∧ Sort.insOuter ltN a b i dk = Sort.insertionSort ltN d a b) (fun s6 _ => b + 1 - (intOf s6).toNat)
 case atStart => exact ⟨a + 1, d, by simp, by omega, Nat.le_refl _, HN.out, HR.out, Tch.refl _ _, rfl⟩
 case round =>
   obtain ⟨i, dk, rfl, hi, hai, hds, hRk, hOk, heq⟩ := hrel
   have RK := Lib.hid hRk
   have OK := Lib.hid hOk
   have DS := Lib.hid hds
   have EQ := Lib.hid heq
   clear hRk hOk hds heq
   by_cases h1 : i < b
   · have t1 : (i : Int) < b := by omega
     go_wp2_with fail
     go_loopw [7] (fun s7 wq => ∃ (j : Nat) (dj : Array Nat), s7 = .int .i64 j ∧ j ≤ i ∧ a ≤ j ∧ dj.size = n ∧ RowAt wq g tl dj ∧ One g w wq ∧ Sort.insInner ltN a j dj = Sort.insInner ltN a i dk) (fun s7 _ => (intOf s7).toNat)
     case atStart => exact ⟨i, dk, rfl, Nat.le_refl _, by omega, DS.out, RK.out, OK.out, rfl⟩
     case round =>
       obtain ⟨j, dj, rfl, hj, haj, hdj, hRj, hOj, heqj⟩ := hrel
       have OJ := Lib.hid hOj
       have RJ := Lib.hid hRj
       have DJ := Lib.hid hdj
       have EJ := Lib.hid heqj
       clear hOj heqj
       by_cases h2 : a < j
       · have t2 : (a : Int) < j := by omega
         have c1 := fun k => (hRj.drewN k).cell (i := j) (by omega)
         have c0 := fun k => (hRj.drewN k).cell (i := j - 1) (by omega)
         have q0 : (0 : Int) ≤ j := by omega
         have q1 : (j : Int) < n := by omega
         have e1 : ((j : Int) - 1) = ((j - 1 : Nat) : Int) := by omega
         have hl := hRj.lt
         obtain ⟨x, hx⟩ : ∃ x, dj[j]! = x := ⟨_, rfl⟩
         obtain ⟨y, hy⟩ : ∃ y, dj[j - 1]! = y := ⟨_, rfl⟩
         rw [hx] at c1
         rw [hy] at c0
         have XY := Lib.hid (And.intro hx hy)
         clear hx hy hRj hdj
         go_wp2_with fail
         go_quiet ((go_at_call 166; exact Calls.quiet_of_same (turn (less_any x y _))))
         rcases hxy : ltN x y with _ | _
         · have H2 := Lib.hid hxy
           clear hxy
           go_wp2_with fail
           go_roundw
           case rel => exact ⟨i + 1, Sort.insInner ltN a j dj, by simp, by omega, by omega, by rw [EJ.out]; exact (ins_size _ _ _ _).trans DS.out, by rw [ins_end (by rw [XY.out.1, XY.out.2, H2.out]; simp)]; exact RJ.out.drewN _, Tch.trans OJ.out (One.drewN _), by rw [EJ.out, ← outer_more (by omega)]; exact EQ.out⟩
           case measure => simp [intOf]; omega
         · have H2 := Lib.hid hxy
           clear hxy
           obtain ⟨nq', hnq⟩ : ∃ nq', nq' = nq := ⟨_, rfl⟩
           have f1 := fun k => (RJ.out.drewN k).free j
           have f0 := fun k => (RJ.out.drewN k).free (j - 1)
           clear hnq
           go_wp2_with fail
           go_region
           go_wp2_with fail
           go_roundw
           case rel =>
             have h := (RJ.out.drewN nq).drew.swap (i := j) (j := j - 1) (by have := DJ.out; omega) (by have := DJ.out; omega)
             rw [XY.out.1, XY.out.2] at h
             exact ⟨j - 1, Sort.swp dj j (j - 1), by first | rfl | (simp; omega), by omega, by omega, by rw [size_swp]; exact DJ.out, h, Tch.trans OJ.out (Tch.trans (One.drewN _) (Tch.trans Tch.drew One.swap)), by rw [← ins_more (by omega) (by rw [XY.out.1, XY.out.2]; exact H2.out)]; exact EJ.out⟩
           case measure => simp [intOf]; omega
       · obtain rfl : j = a := by omega
         have t2 : ¬ (j : Int) < j := by omega
         clear hRj hdj h2
         go_wp2_with fail
         go_quiet (fail)
         go_wp2_with fail
         go_roundw
         case rel => exact ⟨i + 1, Sort.insInner ltN j j dj, by simp, by omega, by omega, by rw [EJ.out]; exact (ins_size _ _ _ _).trans DS.out, by rw [ins_end (by simp)]; exact RJ.out.drewN _, Tch.trans OJ.out (One.drewN _), by rw [EJ.out, ← outer_more (by omega)]; exact EQ.out⟩
         case measure => simp [intOf]; omega
   · have t1 : ¬ (i : Int) < b := by omega
     have B1 := Lib.hid h1
     clear h1
     go_wp2_with fail
     go_end0
     exact ⟨rfl, by rw [← EQ.out, outer_end B1.out]; exact RK.out, OK.out⟩
end Go.Proofs.YtmfhnhnmdeabeaaGreat.So
end
