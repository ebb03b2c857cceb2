/- The walk of path.Split. -/
import Derived.Test.YtfdclifdemajfaaDoorPathSplit
import Derived.Test.YtfdclifdemajfaaDoorOctetSplit
import Derived.Maps.AppendAt
namespace Go.Proofs.YtfdclifdemajfaaDoor.Path
set_option linter.unusedVariables false
open Go.RowKit Go.Shelf Oct
attribute [local go_sem] Oper.semAt_some

/-- What Split hands back. -/
def SplitRes (l : List UInt8) (w : World) (e : Ending) (w' : World) : Prop :=
  ∃ v, e = .returned (.tuple #[v, .int .i64 (splitE l)]) ∧ Strs w' v ((splitN l).map B) ∧ Below w.heap.size w w'

def strV (x : List UInt8) : Value := .string (B x)
def AllNames (pre : List (List UInt8)) : Prop := ∀ x ∈ pre, isName x = true
/-- The box that holds the names that have come. -/
def Held (bl base : Nat) (pre : List (List UInt8)) (W : World) : Prop := ∃ v, Boxed W bl 50 v ∧ W.ownsRow base 9 1 v pre.length (pre.map strV) ∧ True
theorem held_own (bl base : Nat) : Own (Held bl base) := holdsRow_own base bl 50 9 1 (fun pre : List (List UInt8) => pre.length) (fun pre : List (List UInt8) => pre.map strV) (fun _ _ => True)
theorem Held.turns {bl base Bs : Nat} {t : TypeId} {pre : List (List UInt8)} {X Y : World} (h : Held bl base pre X) (ht : TurnsBox Bs t X Y) (h1 : bl ≠ Bs) (h2 : Bs < base) : Held bl base pre Y := by
  obtain ⟨v, hv, hr, _⟩ := h
  refine ⟨v, ht.box hv h1, hr.kept ht.1 ?_, trivial⟩
  cases ho : v.ownBlock with
  | none => exact .inl rfl
  | some g =>
    refine .inr fun e => ?_
    have := (hr.lt g ho).1
    cases e
    omega
/-- How Split's loop is left early: by a text that is no name. -/
def BadEnd (c : Code) (pre : List (List UInt8)) : Prop := c = .ret ∧ ∃ x ∈ pre, isName x = false

theorem nameE_ok {x : List UInt8} (h : isName x = true) : nameE x = 0 := by unfold nameE; rw [if_pos h]
theorem nameE_no {x : List UInt8} (h : isName x = false) : nameE x = 2 := by unfold nameE; rw [if_neg (by rw [h]; simp)]

theorem splitE_bad {l r : List UInt8} {x : List UInt8} (h1 : l.length ≤ 255) (h2 : l = 47 :: r) (hx : x ∈ namesL l) (h : isName x = false) : splitE l = 2 := by
  unfold splitE
  have h5 : headSlash l = true := by rw [h2]; rfl
  have h6 : (namesL l).all isName = false := by
    rw [Bool.eq_false_iff]
    intro e
    have := List.all_eq_true.1 e x hx
    rw [h] at this
    simp at this
  rw [if_neg (by omega), if_neg (by rw [h5]; simp), if_pos h6]
theorem splitE_many {l r : List UInt8} (h1 : l.length ≤ 255) (h2 : l = 47 :: r) (hn : AllNames (namesL l)) (h : 8 < (namesL l).length) : splitE l = 5 := by
  unfold splitE
  have h5 : headSlash l = true := by rw [h2]; rfl
  have h6 : (namesL l).all isName = true := List.all_eq_true.2 hn
  rw [if_neg (by omega), if_neg (by rw [h5]; simp), if_neg (by rw [h6]; simp), if_pos h]
theorem map_strV (ps : List (List UInt8)) : ps.map strV = (ps.map B).map Value.string := by rw [List.map_map]; rfl

set_option maxRecDepth 100000 in
set_option maxHeartbeats 2000000 in
theorem split_main_in (F : Fence) (n : Nat) (HW : Hid (F = Fence.wide)) (hro : F.round = none) (hn : 4 ≤ n) (s : ByteArray) (r : List UInt8) (hl : Hid (L s = 47 :: r)) (h255 : s.size ≤ 255) (w : World) :
    CallsIn F n Tryd.prog 23 #[.string s] w (SplitRes (L s) w) := by
  have h1 : 1 ≤ n := by omega
  have hd : decide (255 < s.size) = false := by simp; omega
  have hd' : decide (255 < (s.size : Int)) = false := by simp; omega
  have C1 := Lib.hid (fun W => (Tryd.strings_HasPrefix s ⟨#[47]⟩ W))
  have hp : Lib.hasPrefix s.data.toList (⟨#[47]⟩ : ByteArray).data.toList = true := by
    have e : s.data.toList = 47 :: r := hl.out
    rw [e]; rfl
  have HP := Lib.hid hp
  clear hp
  refine callsIn_of_wp_marks Tryd.func23 rfl (fn_w HW _) ?_ hro
  simp only [Tryd.ntmps23, List.size_toArray, List.length_cons, List.length_nil, Nat.reduceAdd, Nat.reduceSub, Array.replicate_succ, Array.replicate_zero, List.push_toArray, List.append_toArray, List.nil_append, List.cons_append]
  gi_wp2_with fail
  refine ⟨fn_w HW _, ?_⟩
  refine (callsIn_w HW (C1.out _)).mono ?_
  rintro e w' ⟨rfl, rfl⟩
  rw [HP.out]
  gi_wp2_with fail
  refine ⟨fn_w HW _, ?_⟩
  refine (each_in F (n - 1) (fn_w HW _) hro _ _).mono ?_
  rintro e w' ⟨rfl, rfl⟩
  gi_wp2_with fail
  obtain ⟨i0, hi, hz0, hz1, hz2⟩ := info_parts info_str
  have bL := Boxed.new w 50 (.slice none 0 0)
  have bE := Boxed.new (w.alloc (.cells #[.slice none 0 0] 50)) 27 (.int .i64 0)
  have bS := Boxed.new ((w.alloc (.cells #[.slice none 0 0] 50)).alloc (.cells #[.int .i64 0] 27)) 9 (.string s)
  simp only [World.size_alloc] at bE bS
  have hB0 : Below w.heap.size w (((w.alloc (.cells #[.slice none 0 0] 50)).alloc (.cells #[.int .i64 0] 27)).alloc (.cells #[.string s] 9)) := (((Below.refl _ w).alloc (Nat.le_refl _) _).alloc (by simp) _).alloc (by simp; omega) _
  have hb255 : (namesL (L s)).length ≤ 256 := by
    unfold namesL
    split
    · simp
    · have h1 := fields_len ((L s).drop 1)
      rw [List.length_drop, len_L] at h1
      omega
  refine wpIn_rangeFunc_rel hro h1 (gf := 57) (lb := #[.pointer (some ⟨w.heap.size + 1 + 1, 0, none⟩)]) rfl (fn_w HW _) (enters_of Tryd.func57 (by kernel_rfl) rfl)
    (each_stops F (n - 1) HW hro (by omega) (w.heap.size + 1 + 1) (L s) r hl.out (by rw [len_L]; omega) _ bS) (fun X Y h => h.keeps _) keptBox_t (keptBox_b (by simp)) (Below.refl _ _) (fun _ => rfl)
    (fun pre W => (AllNames pre ∧ Held w.heap.size (w.heap.size + 1 + 1 + 1) pre W ∧ Boxed W (w.heap.size + 1) 27 (.int .i64 0) ∧ w.heap.size + 1 + 1 + 1 ≤ W.heap.size) ∧ Below w.heap.size w W)
    (fun c pre W => (BadEnd c pre ∧ Boxed W w.heap.size 50 (.slice none 0 0) ∧ Boxed W (w.heap.size + 1) 27 (.int .i64 2)) ∧ Below w.heap.size w W)
    (OwnFrom.and (OwnFrom.and (ownFrom_pure _ _) (OwnFrom.and (Own.from (held_own _ _) _) (OwnFrom.and (Own.from (boxed_own _ _ _) _) (fun _ _ _ _ hs hg _ => Nat.le_trans hs hg.size)))) (ownFrom_below (Nat.le_refl _) (by simp; omega)))
    (fun c => OwnFrom.and (OwnFrom.and (ownFrom_pure _ _) (OwnFrom.and (Own.from (boxed_own _ _ _) _) (Own.from (boxed_own _ _ _) _))) (ownFrom_below (Nat.le_refl _) (by simp; omega)))
    (fun pre X Y h t => ⟨⟨h.1.1, h.1.2.1.turns t (by omega) (by omega), t.box h.1.2.2.1 (by omega), Nat.le_trans h.1.2.2.2 t.1.size⟩, t.below h.2 (by omega) (Nat.le_refl _)⟩)
    (fun c pre X Y h t => ⟨⟨h.1.1, t.box h.1.2.1 (by omega), t.box h.1.2.2 (by omega)⟩, t.below h.2 (by omega) (Nat.le_refl _)⟩)
    ⟨⟨fun x hx => by simp at hx, ⟨_, (bL.alloc _).alloc _, World.ownsRow_nil _ _ _ _, trivial⟩, bE.alloc _, by simp⟩, hB0⟩
    (fun x => { tmps := #[.string s, undef, .pointer (some ⟨w.heap.size, 0, none⟩), .pointer (some ⟨w.heap.size + 1, 0, none⟩), .string (B x), undef, .bool false, .string s, .int .i64 s.size, .bool false, .bool false, .string s, .bool true, .bool false, .string s, .func (.func 57) #[] #[.pointer (some ⟨w.heap.size + 1 + 1, 0, none⟩)], .string (B x), undef, undef, undef, undef, undef, undef, undef, undef, undef, undef, undef, undef, undef], defers := [] }) ?assign ?body ?done ?stop
  case assign =>
    intro l x W K hK
    gi_wp2
    exact hK
  case body =>
    rintro l pre x W ⟨⟨hN, hH, hE, hS⟩, hB⟩ hlen
    obtain ⟨hmem, hlen2⟩ := prefix_mem hlen
    have hxl := names_each (L s) x hmem
    rw [len_L] at hxl
    have NX : Hid (∀ W', Calls Tryd.prog 54 #[.string (B x)] W' fun e w' => e = .returned (.int .i64 (nameE x)) ∧ Below W'.heap.size W' w') := Lib.hid (fun W' => name_any (B x) W' (by rw [size_B]; unfold maxLen; omega))
    obtain ⟨v, hv, hrow, _⟩ := hH
    gi_wp2_with fail
    refine ⟨fn_w HW _, fun _ => by omega, ?_⟩
    refine (CallsIn.inRound l (callsIn_w HW (NX.out _))).mono ?_
    rintro e W1 ⟨rfl, b1⟩
    have hv1 : Boxed W1 w.heap.size 50 v := (b1.block _ hv.lt).trans hv
    have hE1 : Boxed W1 (w.heap.size + 1) 27 (.int .i64 0) := (b1.block _ hE.lt).trans hE
    have hg1 : W.grownBy W1 none := ⟨b1.os, b1.tape, b1.output, b1.size, fun k hk _ => b1.block k hk⟩
    have hrow1 : W1.ownsRow (w.heap.size + 1 + 1 + 1) 9 1 v pre.length (pre.map strV) := hrow.kept hg1 (by
      cases v.ownBlock with
      | none => exact .inl rfl
      | some g => exact .inr (by simp))
    have hB1 : Below w.heap.size w W1 := hB.trans (b1.mono hB.size)
    have hk1 : ∀ b, KeepsFrom b W W1 := fun b => ⟨b1.size, fun k o _ hk _ => (b1.block k (Array.getElem?_eq_some_iff.1 hk).1).trans hk⟩
    have hbx1 : KeptBox (w.heap.size + 1 + 1) 9 W W1 := fun u hu => (b1.block _ hu.lt).trans hu
    have hsz : w.heap.size + 1 + 1 + 1 ≤ W1.heap.size := Nat.le_trans hS b1.size
    have c1 := hv1.cell
    have f1 := hv1.frozen
    have c2 := hE1.cell
    have f2 := hE1.frozen
    by_cases hx : isName x = true
    · rw [nameE_ok hx]
      have hN2 : AllNames (pre ++ [x]) := fun y hy => by
        rcases List.mem_append.1 hy with h | h
        · exact hN y h
        · simp at h; subst h; exact hx
      have HN2 := Lib.hid hN2
      clear hN2
      gi_wp2_with (gi_at_builtin; refine wpListIn_append_own _ rfl _ _ 50 rfl (w.heap.size + 1 + 1 + 1) 9 i0 (.string ⟨#[]⟩) 1 16 Tryd.underlying50 hi hz0 hz1 hz2 rfl (by decide) _ _ _ rfl (hrow1.alloc _) ⟨W1.heap.size, 0, none⟩ 1 1 [.string (B x)] rfl rfl (cell_one_new _ _ _) (by simp [Value.oneCell']) (by unfold maxLen; omega) (by omega) (by simp; omega) ?_; intro v' W2 hown2 hgrow2 _; obtain ⟨g', cap', rfl⟩ := ownsRow_succ hown2; have hv2 : Boxed W2 w.heap.size 50 v := (hv1.alloc _).kept hgrow2 (fun e => by have := (hrow1.lt _ e.symm).1; omega); have c3 := hv2.cell; have f3 := hv2.frozen)
      have hgrow3 : (W1.alloc (.cells #[.string (B x)] 9)).grownBy W2 v.ownBlock := hgrow2
      clear hgrow2
      have hE2 : Boxed W2 (w.heap.size + 1) 27 (.int .i64 0) := (hE1.alloc _).kept hgrow3 (fun e => by have := (hrow1.lt _ e.symm).1; omega)
      have hB2 : Below w.heap.size w W2 := (hB1.alloc hB1.size _).grown hgrow3 (by have := hB1.size; simp; omega) (fun k e => by have := (hrow1.lt _ e).1; omega)
      have hbx2 : KeptBox (w.heap.size + 1 + 1) 9 W W2 := fun u hu => ((hbx1 u hu).alloc _).kept hgrow3 (fun e => by have := (hrow1.lt _ e.symm).1; omega)
      have hk2 : ∀ b, KeepsFrom b W W2 := by
        intro b
        refine ⟨Nat.le_trans b1.size (Nat.le_trans (by simp) hgrow3.size), fun k o hk0 hk ho => ?_⟩
        have hk3 := (hk1 b).same k o hk0 hk ho
        have hk4 : (W1.alloc (.cells #[.string (B x)] 9)).heap[k]? = some o := (Below.heap_alloc _ _ _ (Array.getElem?_eq_some_iff.1 hk3).1).trans hk3
        refine (hgrow3.block k (Array.getElem?_eq_some_iff.1 hk4).1 (fun e => ?_)).trans hk4
        rcases hrow1.2 with ⟨rfl, _⟩ | ⟨g, cap, cur, rfl, _, hgb, _⟩
        · simp [Value.ownBlock] at e
        · simp only [Value.ownBlock, Option.some.injEq] at e
          subst e
          rw [hgb] at hk3
          cases hk3
          cases ho
      have hsz2 : w.heap.size + 1 + 1 + 1 ≤ W2.heap.size := Nat.le_trans hsz (Nat.le_trans (by simp) hgrow3.size)
      refine ⟨?_, ?_, ⟨HN2.out, ⟨_, hv2.set _, ?_, trivial⟩, hE2.other (by omega) _, ?_⟩, hB2.setCell (p := ⟨w.heap.size, 0, none⟩) (Nat.le_refl _) _⟩
      · exact (hk2 _).trans ((KeepsOthers.setCell _ _ _).from _)
      · exact fun u hu => (hbx2 u hu).other (by omega) _
      · have := ownsRow_setCell_below hown2 (a := ⟨w.heap.size, 0, none⟩) (by simp; omega) (.slice (some ⟨g', 0, none⟩) (pre.length + 1) cap')
        simpa [strV] using this
      · exact Nat.le_trans hsz2 (KeepsWalks.setCell W2 _ _).size
    · have hx' : isName x = false := by simpa using hx
      rw [nameE_no hx']
      gi_wp2
      refine ⟨(hk1 _).trans (((KeepsOthers.setCell _ _ _).trans (KeepsOthers.setCell _ _ _)).from _), ⟨⟨rfl, x, by simp, hx'⟩, (hv1.set _).other (by omega) _, (hE1.other (by omega) _).set _⟩, (hB1.setCell (p := ⟨w.heap.size, 0, none⟩) (Nat.le_refl _) _).setCell (p := ⟨w.heap.size + 1, 0, none⟩) (by simp) _⟩
  case done =>
    rintro D ys W hD rfl ⟨⟨hN, hH, hE, hS⟩, hB⟩ hK
    obtain ⟨v, hv, hrow, _⟩ := hH
    obtain ⟨ao, cap, hva⟩ : ∃ ao cap, v = .slice ao (namesL (L s)).length cap := by
      rcases hrow.2 with ⟨rfl, e0⟩ | ⟨g, cap, cur, rfl, _⟩
      · exact ⟨none, 0, by rw [e0]⟩
      · exact ⟨_, _, rfl⟩
    subst hva
    have c1 := hv.cell
    have f1 := hv.frozen
    have c2 := hE.cell
    have f2 := hE.frozen
    have hlen := len_L s
    by_cases h8 : 8 < (namesL (L s)).length
    · have HE := Lib.hid (splitE_many (by omega) hl.out hN h8)
      have t8 : decide (8 < ((namesL (L s)).length : Int)) = true := by simp; omega
      gi_wp2
      have hL2 := (hv.set (.slice none 0 0)).other (B' := w.heap.size + 1) (by omega) (.int .i64 5)
      have hE2 := (hE.other (B' := w.heap.size) (by omega) (.slice none 0 0)).set (.int .i64 5)
      have hB2 := (hB.setCell (p := ⟨w.heap.size, 0, none⟩) (Nat.le_refl _) (.slice none 0 0)).setCell (p := ⟨w.heap.size + 1, 0, none⟩) (by simp) (.int .i64 5)
      have hK2 := ((KeepsOthers.setCell W ⟨w.heap.size, 0, none⟩ (.slice none 0 0)).trans (KeepsOthers.setCell _ ⟨w.heap.size + 1, 0, none⟩ (.int .i64 5))).same D _ hK rfl
      refine ⟨by simp, .inl ⟨_, _, rfl, run_takeDeferred hK2, ?_⟩⟩
      have c5 := cell_kept hL2.cell (grownBy_putObj' _ D (.deferred none)) (fun r e => by cases e; exact ⟨_, hK2, rfl⟩)
      have c6 := cell_kept hE2.cell (grownBy_putObj' _ D (.deferred none)) (fun r e => by cases e; exact ⟨_, hK2, rfl⟩)
      refine ⟨.tuple #[.slice none 0 0, .int .i64 5], ?_, _, by rw [HE.out], ?_, hB2.trans (belowK_b (w := w) (Nat.le_refl _) _ D _ _ (by simp at hD; omega) hK2 rfl rfl)⟩
      · simp [results, Tryd.f23, go_sem, c5, c6]
      · refine .inl ⟨rfl, ?_⟩
        unfold splitN
        rw [HE.out]
        rfl
    · have HE := Lib.hid (ok_splitE (l := L s) ⟨by omega, ⟨r, hl.out⟩, hN, by omega⟩)
      have t8 : decide (8 < ((namesL (L s)).length : Int)) = false := by simp; omega
      gi_wp2
      have hL2 := (hv.set (.slice ao (namesL (L s)).length cap)).other (B' := w.heap.size + 1) (by omega) (.int .i64 0)
      have hE2 := (hE.other (B' := w.heap.size) (by omega) (.slice ao (namesL (L s)).length cap)).set (.int .i64 0)
      have hB2 := (hB.setCell (p := ⟨w.heap.size, 0, none⟩) (Nat.le_refl _) (.slice ao (namesL (L s)).length cap)).setCell (p := ⟨w.heap.size + 1, 0, none⟩) (by simp) (.int .i64 0)
      have hK2 := ((KeepsOthers.setCell W ⟨w.heap.size, 0, none⟩ (.slice ao (namesL (L s)).length cap)).trans (KeepsOthers.setCell _ ⟨w.heap.size + 1, 0, none⟩ (.int .i64 0))).same D _ hK rfl
      have hr2 := ownsRow_setCell_below (ownsRow_setCell_below hrow (a := ⟨w.heap.size, 0, none⟩) (by simp; omega) (.slice ao (namesL (L s)).length cap)) (a := ⟨w.heap.size + 1, 0, none⟩) (by simp) (.int .i64 0)
      have hr3 := ownsRow_putObj hr2 (.deferred none) hK2 rfl
      refine ⟨by simp, .inl ⟨_, _, rfl, run_takeDeferred hK2, ?_⟩⟩
      have c5 := cell_kept hL2.cell (grownBy_putObj' _ D (.deferred none)) (fun r e => by cases e; exact ⟨_, hK2, rfl⟩)
      have c6 := cell_kept hE2.cell (grownBy_putObj' _ D (.deferred none)) (fun r e => by cases e; exact ⟨_, hK2, rfl⟩)
      refine ⟨.tuple #[.slice ao (namesL (L s)).length cap, .int .i64 0], ?_, _, by rw [HE.out], ?_, hB2.trans (belowK_b (w := w) (Nat.le_refl _) _ D _ _ (by simp at hD; omega) hK2 rfl rfl)⟩
      · simp [results, Tryd.f23, go_sem, c5, c6]
      · unfold splitN
        rw [HE.out, if_pos rfl]
        rw [map_strV] at hr3
        exact strs_own (by rw [List.length_map]; exact hr3) (by rw [List.length_map]; omega)
  case stop =>
    rintro D c pre W hD hpre ⟨⟨⟨rfl, x, hx, hxn⟩, hL, hE⟩, hB⟩ hK
    have hlen := len_L s
    have HE := Lib.hid (splitE_bad (by omega) hl.out (List.IsPrefix.subset hpre hx) hxn)
    have c1 := hL.cell
    have c2 := hE.cell
    gi_wp2
    have hL2 := hL
    have hE2 := hE
    have hK2 := hK
    have hB2 := hB
    refine ⟨by simp, .inl ⟨_, _, rfl, run_takeDeferred hK2, ?_⟩⟩
    have c5 := cell_kept hL2.cell (grownBy_putObj' _ D (.deferred none)) (fun r e => by cases e; exact ⟨_, hK2, rfl⟩)
    have c6 := cell_kept hE2.cell (grownBy_putObj' _ D (.deferred none)) (fun r e => by cases e; exact ⟨_, hK2, rfl⟩)
    refine ⟨.tuple #[.slice none 0 0, .int .i64 2], ?_, _, by rw [HE.out], ?_, hB2.trans (belowK_b (w := w) (Nat.le_refl _) _ D _ _ (by simp at hD; omega) hK2 rfl rfl)⟩
    · simp [results, Tryd.f23, go_sem, c5, c6]
    · refine .inl ⟨rfl, ?_⟩
      unfold splitN
      rw [HE.out]
      rfl
end Go.Proofs.YtfdclifdemajfaaDoor.Path
