/- Layer 10: the walk of dirs.List. -/
import Derived.Test.YtpnfkilfgdnogaaGreatDoorDirN
namespace Go.Proofs.YtpnfkilfgdnogaaGreatDoor.Dir
set_option linter.unusedVariables false
set_option linter.unusedSimpArgs false
open Go.RowKit Go.Shelf Oct Path
attribute [local go_sem] Oper.semAt_some
def entCells (es : List Ent) : List Value := es.flatMap fun e => [.string (B e.1), .int .u32 e.2]
theorem entCells_snoc (es : List Ent) (e : Ent) : entCells (es ++ [e]) = entCells es ++ [.string (B e.1), .int .u32 e.2] := by simp [entCells]
theorem info_ent : (Tryz.prog.info? 216).map (fun i => (i.zero, i.size, i.bytes)) = some (some (.agg #[.string ⟨#[]⟩, .int .u32 0]), 2, 24) := by kernel_rfl
def ListRes (es : List Ent) (w : World) (e : Ending) (w' : World) : Prop :=
  ∃ v, e = .returned v ∧ w'.ownsRow w.heap.size 216 2 v es.length (entCells es) ∧ Below w.heap.size w w'
def listL (s : List UInt8) : List Ent := if checkE s = 0 then live (slotsL s) else []
def liveN (s : ByteArray) (pre : List Nat) : List Ent := live (entsAt s pre)
theorem liveN_free {s : ByteArray} {pre : List Nat} {k : Nat} (h : (entAt s k).2 = 0) : liveN s (pre ++ [k]) = liveN s pre := by
  unfold liveN
  rw [entsAt_snoc]
  simp [live, h]
theorem liveN_live {s : ByteArray} {pre : List Nat} {k : Nat} (h : (entAt s k).2 ≠ 0) : liveN s (pre ++ [k]) = liveN s pre ++ [entAt s k] := by
  unfold liveN
  rw [entsAt_snoc]
  simp [live, h]
theorem liveN_len (s : ByteArray) (pre : List Nat) : (liveN s pre).length ≤ pre.length := by
  unfold liveN live
  exact Nat.le_trans (List.length_filter_le _ _) (by simp [entsAt])
theorem row_own1 {B base n size : Nat} {e : TypeId} {v : Value} {xs : List Value} {W W' : World} {row : Option Nat} (h : W.ownsRow base e size v n xs) (hg : W.grownBy W' row) (hr : ∀ r, row = some r → B ≤ r ∧ ∃ o : Obj, W.heap[r]? = some o ∧ o.isCells = false) : W'.ownsRow base e size v n xs := by
  refine h.kept hg ?_
  rcases h.2 with ⟨rfl, _⟩ | ⟨g, cap, cur, rfl, _, hgb, _⟩
  · exact .inl rfl
  · refine .inr (fun e => ?_)
    obtain ⟨_, o, ho, hc⟩ := hr g e.symm
    rw [hgb] at ho
    cases ho
    cases hc
theorem row_base {b0 base n size : Nat} {e : TypeId} {v : Value} {xs : List Value} {W : World} (h : W.ownsRow base e size v n xs) (hb : b0 ≤ base) : W.ownsRow b0 e size v n xs := by
  refine ⟨h.1, ?_⟩
  rcases h.2 with h1 | ⟨g, cap, cur, e1, hg, r⟩
  · exact .inl h1
  · exact .inr ⟨g, cap, cur, e1, Nat.le_trans hb hg, r⟩
def HeldE (bl base : Nat) (es : List Ent) (W : World) : Prop := ∃ v, Boxed W bl 162 v ∧ W.ownsRow base 216 2 v es.length (entCells es)
set_option maxRecDepth 100000 in
set_option maxHeartbeats 4000000 in
theorem list_in (n : Nat) (hn : 4 ≤ n) (s : ByteArray) (w : World) (hs : s.size ≤ maxLen) (hce : checkE (L s) = 0) :
    CallsIn Fence.wide n Tryz.prog 137 #[.string s] w (ListRes (live (slotsL (L s))) w) := by
  have CK := Lib.hid (fun W => check_any s W hs)
  have SA := Lib.hid (fun W => slots_any s W)
  rw [hce] at CK
  have hle := (dir_of hce).1.le
  have hz3 := (dir_of hce).2.2
  rw [len_L] at hz3
  have hsz : s.size ≤ 2304 := by omega
  clear hce hle hz3 hs
  refine callsIn_of_wp_marks Tryz.func137 rfl trivial ?_ rfl
  simp only [Tryz.ntmps137, List.size_toArray, List.length_cons, List.length_nil, Nat.reduceAdd, Nat.reduceSub, Array.replicate_succ, Array.replicate_zero, List.push_toArray, List.append_toArray, List.nil_append, List.cons_append]
  gi_wp2_with fail
  refine ⟨trivial, (fun h => by cases h), ?_⟩
  refine (callsIn_wide.2 (CK.out _)).mono ?_
  rintro e w5 ⟨rfl, b5⟩
  have kO : Boxed w5 w.heap.size 162 (.slice none 0 0) := (b5.block _ (by simp)).trans (Boxed.new w _ _)
  have hB5 : Below w.heap.size w w5 := ((Below.refl _ w).alloc (Nat.le_refl _) _).trans (b5.mono (by simp))
  have hl5 := kO.lt
  clear b5
  gi_wp2_with fail
  refine ⟨trivial, (fun h => by cases h), ?_⟩
  refine (callsIn_wide.2 (SA.out _)).mono ?_
  rintro e w' ⟨rfl, rfl⟩
  gi_wp2_with fail
  obtain ⟨i0, hi, hz0, hz1, hz2⟩ := info_parts info_ent
  have bS := Boxed.new w5 9 (.string s)
  refine wpIn_rangeFunc_ownH rfl (by omega) (gf := 169) (lb := #[.pointer (some ⟨w5.heap.size, 0, none⟩)]) rfl trivial (enters_of Tryz.func169 (by kernel_rfl) rfl)
    (slots_stops (n - 1) (by omega) w5.heap.size s (by omega) _ bS) keptBox_t (keptBox_b (by simp)) (Below.refl _ _) (fun _ => rfl)
    (fun pre W => HeldE w.heap.size (w5.heap.size + 1) (liveN s pre) W ∧ (w5.heap.size + 1 ≤ W.heap.size ∧ Below w.heap.size w W))
    (fun c pre W => False)
    (OwnFrom.and (fun pre W W' row hs hg hr => by
      obtain ⟨v, h1, h2⟩ := hs
      exact ⟨v, boxed_own1 h1 hg hr, row_own1 h2 hg hr⟩) (OwnFrom.and (size_own _) (ownFrom_below (Nat.le_refl _) (by simp; omega))))
    (fun c _ _ _ _ hs _ _ => hs)
    ⟨⟨_, kO.alloc _, World.ownsRow_nil _ _ _ _⟩, by simp, hB5.alloc (by omega) _⟩
    (fun k a' W => ∃ b, w5.heap.size + 1 ≤ b ∧ SBox W b 216 #[.string (B (entAt s k).1), .int .u32 (entAt s k).2] ∧ a' = { tmps := #[.string s, undef, .pointer (some ⟨w.heap.size, 0, none⟩), undef, .pointer (some ⟨b, 0, none⟩), .string s, .int .i64 0, .bool false, .string s, .func (.func 169) #[] #[.pointer (some ⟨w5.heap.size, 0, none⟩)], .int .i64 (k : Int), .agg #[.string (B (entAt s k).1), .int .u32 (entAt s k).2], undef, undef, undef, undef, undef, undef, undef, undef], defers := [] })
    (fun k a' => fun _ W W' row hs hg hr => by
      obtain ⟨b, h1, h2, h3⟩ := hs
      exact ⟨b, h1, sbox_own h2 hg hr, h3⟩) ?assign ?body ?done ?stop
  case assign =>
    rintro l pre k W K ⟨⟨v, hv, hrow⟩, hz, hB⟩ hK
    rw [show slotPair (L s) k = (k, entAt s k) from rfl]
    dsimp only [slotArgs]
    have HK := Lib.hid hK
    clear hK
    gi_wp2
    exact HK.out _ _ ((KeepsOthers.alloc _ _).from _) (fun v hv => hv.alloc _) ⟨⟨v, hv.alloc _, hrow.alloc _⟩, by simp; omega, hB.alloc (by omega) _⟩ ⟨W.heap.size, hz, SBox.new _ _ _, rfl⟩
  case body =>
    rintro l pre k a' W hl hloop ⟨⟨v, hv, hrow⟩, hz, hB⟩ ⟨b, hb, hS, rfl⟩ hlen
    have c0 := hS.cell 0
    have c1 := hS.cell 1
    simp only [List.getElem?_toArray, List.getElem?_cons_zero, List.getElem?_cons_succ] at c0 c1
    have hlt := hS.lt
    have cv := hv.cell
    have fv := hv.frozen
    have hml := liveN_len s pre
    have hnl := ent_len (partL (L s) k)
    have HLF : Hid ((entAt s k).2 = 0 → liveN s (pre ++ [k]) = liveN s pre) := Lib.hid liveN_free
    have HLL : Hid ((entAt s k).2 ≠ 0 → liveN s (pre ++ [k]) = liveN s pre ++ [entAt s k]) := Lib.hid liveN_live
    clear hl hloop bS kO hB5 CK SA hnl
    obtain ⟨ek, hek⟩ : ∃ x, entAt s k = x := ⟨_, rfl⟩
    rw [hek] at c0 c1 HLF HLL
    rw [hek]
    clear hek
    obtain ⟨nmL, i⟩ := ek
    simp only at c0 c1 HLF HLL ⊢
    by_cases h0 : i = 0
    · subst h0
      have E1 := Lib.hid (HLF.out rfl)
      gi_wp2
      exact ⟨KeepsFrom.refl _ _, KeptBox.refl _ _ _, ⟨by rw [E1.out]; exact ⟨v, hv, hrow⟩, hz, hB⟩⟩
    · have t0 : ((i : Int) != 0) = true := by simp; omega
      have t1 : (i != 0) = true := by simp; omega
      have E1 := Lib.hid (HLL.out h0)
      have hvl : ∀ g, v.ownBlock = some g → w5.heap.size + 1 ≤ g := fun g e => (hrow.lt g e).1
      have HVL := Lib.hid hvl
      clear h0 hvl
      gi_wp2_with (gi_at_builtin; refine wpListIn_append_own _ rfl _ _ 162 rfl (w5.heap.size + 1) 216 i0 (.agg #[.string ⟨#[]⟩, .int .u32 0]) 2 24 Tryz.underlying162 hi hz0 hz1 hz2 rfl (by decide) _ _ _ rfl (hrow.alloc _) ⟨W.heap.size, 0, none⟩ 1 1 [.string (B nmL), .int .u32 i] rfl rfl ?c1 ?c2 (by unfold maxLen; omega) (by omega) (by simp; omega) ?_)
      case c1 =>
        intro j u hu
        have e : ((⟨W.heap.size, 0, none⟩ : Addr).add j) = ⟨W.heap.size, j, none⟩ := by unfold Addr.add; simp; omega
        rw [e, (SBox.new W 216 #[.string (B nmL), .int .u32 i]).cell j]
        simpa using hu
      case c2 =>
        intro u hu
        simp only [List.mem_cons, List.not_mem_nil, or_false] at hu
        rcases hu with rfl | rfl <;> rfl
      intro v' W2 hown2 hgrow2 _
      obtain ⟨g', cap', rfl, hg'⟩ : ∃ g' cap', v' = .slice (some ⟨g', 0, none⟩) ((liveN s pre).length + 1) cap' ∧ w5.heap.size + 1 ≤ g' := by
        rcases hown2.2 with ⟨_, e0⟩ | ⟨g', cap', cur', rfl, hg, _⟩
        · omega
        · exact ⟨g', cap', rfl, hg⟩
      have hne : ∀ x, x < w5.heap.size + 1 → some x ≠ v.ownBlock := fun x hx e => by have := HVL.out _ e.symm; omega
      have hv2 : Boxed W2 w.heap.size 162 v := (hv.alloc _).kept hgrow2 (hne _ (by omega))
      have c3 := hv2.cell
      have f3 := hv2.frozen
      have hB2 : Below w.heap.size w W2 := (hB.alloc hB.size _).grown hgrow2 (by have := hB.size; simp; omega) (fun k e => by have := HVL.out _ e; omega)
      have hbx2 : KeptBox w5.heap.size 9 W W2 := fun u hu => (hu.alloc _).kept hgrow2 (hne _ (by omega))
      have hk2 : ∀ bb, KeepsFrom bb W W2 := by
        intro bb
        refine ⟨Nat.le_trans (by simp) hgrow2.size, fun q o hk0 hk ho => ?_⟩
        have hk4 : (W.alloc (.cells #[.string (B nmL), .int .u32 i] 216)).heap[q]? = some o := (Below.heap_alloc _ _ _ (Array.getElem?_eq_some_iff.1 hk).1).trans hk
        refine (hgrow2.block q (Array.getElem?_eq_some_iff.1 hk4).1 (fun e => ?_)).trans hk4
        rcases hrow.2 with ⟨rfl, _⟩ | ⟨g, cap, cur, rfl, _, hgb, _⟩
        · simp [Value.ownBlock] at e
        · simp only [Value.ownBlock, Option.some.injEq] at e
          subst e
          rw [hgb] at hk
          cases hk
          cases ho
      have hsz2 : w5.heap.size + 1 ≤ W2.heap.size := Nat.le_trans hz (Nat.le_trans (by simp) hgrow2.size)
      have HG2 := Lib.hid hgrow2
      have HO2 := Lib.hid hown2
      have HK2 := Lib.hid hk2
      have HX2 := Lib.hid hbx2
      have HB2 := Lib.hid hB2
      have HV2 := Lib.hid hv2
      have HR := Lib.hid hrow
      have hlt2 := hv2.lt
      clear hgrow2 hown2 hne hv2 hB2 hbx2 hk2 hv hrow hB cv fv hg'
      gi_wp2
      refine ⟨(HK2.out _).trans ((KeepsOthers.setCell _ _ _).from _), fun u hu => (HX2.out u hu).other (by omega) _, ⟨⟨_, HV2.out.set _, ?_⟩, Nat.le_trans hsz2 (KeepsWalks.setCell W2 _ _).size, HB2.out.setCell (p := ⟨w.heap.size, 0, none⟩) (Nat.le_refl _) _⟩⟩
      rw [E1.out, entCells_snoc, List.length_append]
      exact ownsRow_setCell_below HO2.out (a := ⟨w.heap.size, 0, none⟩) (by show w.heap.size < w5.heap.size + 1; omega) _
  case done =>
    rintro D ys W hD rfl ⟨⟨v, hv, hrow⟩, hz, hB⟩ hK
    have hl : liveN s (List.range (s.size / 32)) = live (slotsL (L s)) := by unfold liveN; rw [ents_all]
    rw [hl] at hrow
    obtain ⟨ao, cap, hva⟩ : ∃ ao cap, v = .slice ao (live (slotsL (L s))).length cap := by
      rcases hrow.2 with ⟨rfl, e0⟩ | ⟨g, cap, cur, rfl, _⟩
      · exact ⟨none, 0, by rw [e0]⟩
      · exact ⟨_, _, rfl⟩
    subst hva
    have hbase : ∀ g, Value.ownBlock (.slice ao (live (slotsL (L s))).length cap) = some g → w5.heap.size + 1 ≤ g := fun g e => (hrow.lt g e).1
    have cv := hv.cell
    have fv := hv.frozen
    have HRW := Lib.hid hrow
    have HBS := Lib.hid hbase
    clear hrow hl hbase bS kO hB5 CK SA
    generalize hml : (live (slotsL (L s))).length = ml at *
    have HML := Lib.hid hml
    clear hml
    gi_wp2
    have hK2 := (KeepsOthers.setCell W ⟨w.heap.size, 0, none⟩ (.slice ao ml cap)).same D _ hK rfl
    refine ⟨by simp, .inl ⟨_, _, rfl, run_takeDeferred hK2, ?_⟩⟩
    have c5 := cell_kept (hv.set (.slice ao ml cap)).cell (grownBy_putObj' _ D (.deferred none)) (fun r e => by cases e; exact ⟨_, hK2, rfl⟩)
    have hB6 : Below w.heap.size w (W.setCell ⟨w.heap.size, 0, none⟩ (.slice ao ml cap)) := hB.setCell (p := ⟨w.heap.size, 0, none⟩) (Nat.le_refl _) _
    refine ⟨.slice ao ml cap, ?_, _, rfl, ?_, hB6.trans (belowK_b (w := w) (Nat.le_refl _) _ D _ _ (by simp at hD; omega) hK2 rfl rfl)⟩
    · simp [results, Tryz.f137, go_sem, c5]
    · rw [HML.out]
      have h1 := ownsRow_setCell_below HRW.out (a := ⟨w.heap.size, 0, none⟩) (by show w.heap.size < w5.heap.size + 1; omega) (.slice ao ml cap)
      exact row_base (row_own1 (B := 0) h1 (grownBy_putObj' _ D (.deferred none)) (fun r e => by cases e; exact ⟨Nat.zero_le _, _, hK2, rfl⟩)) (by omega)
  case stop =>
    rintro D c pre W _ _ h _
    exact h.elim
set_option maxRecDepth 100000 in
set_option maxHeartbeats 1000000 in
theorem list_no (n : Nat) (hn : 4 ≤ n) (s : ByteArray) (w : World) (hs : s.size ≤ maxLen) (ce : Int) (hce : checkE (L s) = ce) (h0 : ce ≠ 0) :
    CallsIn Fence.wide n Tryz.prog 137 #[.string s] w (ListRes [] w) := by
  have CK := Lib.hid (fun W => check_any s W hs)
  rw [hce] at CK
  have q1 : (ce != 0) = true := by simpa using h0
  have q2 : (ce == 0) = false := by simpa using h0
  clear h0 hce hs
  refine callsIn_of_wp_marks Tryz.func137 rfl trivial ?_ rfl
  simp only [Tryz.ntmps137, List.size_toArray, List.length_cons, List.length_nil, Nat.reduceAdd, Nat.reduceSub, Array.replicate_succ, Array.replicate_zero, List.push_toArray, List.append_toArray, List.nil_append, List.cons_append]
  gi_wp2_with fail
  refine ⟨trivial, (fun h => by cases h), ?_⟩
  refine (callsIn_wide.2 (CK.out _)).mono ?_
  rintro e w5 ⟨rfl, b5⟩
  have kO : Boxed w5 w.heap.size 162 (.slice none 0 0) := (b5.block _ (by simp)).trans (Boxed.new w _ _)
  have hB5 : Below w.heap.size w w5 := ((Below.refl _ w).alloc (Nat.le_refl _) _).trans (b5.mono (by simp))
  have cO := kO.cell
  have fO := kO.frozen
  have hl5 := kO.lt
  clear b5
  gi_wp2
  have c5 := (kO.set (.slice none 0 0)).cell
  refine ⟨.slice none 0 0, ?_, _, rfl, World.ownsRow_nil _ _ _ _, hB5.setCell (p := ⟨w.heap.size, 0, none⟩) (Nat.le_refl _) _⟩
  simp [results, Tryz.f137, go_sem, c5]
theorem list_any (s : ByteArray) (w : World) (hs : s.size ≤ maxLen) :
    Calls Tryz.prog 137 #[.string s] w (ListRes (listL (L s)) w) := by
  by_cases hce : checkE (L s) = 0
  · have e : listL (L s) = live (slotsL (L s)) := by unfold listL; rw [if_pos hce]
    rw [e]
    exact (callsIn_wide (n := 4)).1 (list_in 4 (Nat.le_refl _) s w hs hce)
  · have e : listL (L s) = [] := by unfold listL; rw [if_neg hce]
    rw [e]
    exact (callsIn_wide (n := 4)).1 (list_no 4 (Nat.le_refl _) s w hs _ rfl hce)
end Go.Proofs.YtpnfkilfgdnogaaGreatDoor.Dir
