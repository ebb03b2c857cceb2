/- Layer 10: the walk of dirs.Find. -/
import Derived.Test.YtfdclifdemajfaaDirCheck
namespace Go.Proofs.Ytfdclifdemajfaa.Dir
set_option linter.unusedVariables false
set_option linter.unusedSimpArgs false
open Go.RowKit Go.Shelf Oct Path
attribute [local go_sem] Oper.semAt_some
/-- What Find gives. -/
def findR (s n : List UInt8) : Nat × Nat × Bool := if checkE s = 0 then (match findK n (slotsL s) with | some k => (((slotsL s).getD k ([], 0)).2, k, true) | none => (0, 0, false)) else (0, 0, false)
theorem find_none_of {s : ByteArray} {n : List UInt8} (h : ∀ k ∈ List.range (s.size / 32), hit n (entAt s k) = false) : findK n (slotsL (L s)) = none := by
  refine List.findIdx?_eq_none_iff.2 (fun e he => ?_)
  rw [← ents_all] at he
  obtain ⟨k, hk, rfl⟩ := List.mem_map.1 he
  exact h k hk
theorem find_some_of {s : ByteArray} {n : List UInt8} {k : Nat} (hk : k < s.size / 32) (hh : hit n (entAt s k) = true) (h : ∀ j, j < k → hit n (entAt s j) = false) : findK n (slotsL (L s)) = some k ∧ ((slotsL (L s)).getD k ([], 0)) = entAt s k := by
  have hl : (slotsL (L s)).length = s.size / 32 := by rw [← ents_all]; simp [entsAt]
  have hg : ∀ j (hj : j < (slotsL (L s)).length), (slotsL (L s))[j] = entAt s j := fun j hj => by simp [← ents_all, entsAt]
  refine ⟨List.findIdx?_eq_some_iff_getElem.2 ⟨by omega, by rw [hg]; exact hh, fun j hj => ?_⟩, ?_⟩
  · rw [hg, h j hj]; simp
  · rw [List.getD_eq_getElem?_getD, List.getElem?_eq_getElem (by omega), hg]; rfl
theorem boxed_own1 {B b : Nat} {t : TypeId} {v : Value} {W W' : World} {row : Option Nat} (h : Boxed W b t v) (hg : W.grownBy W' row) (hr : ∀ r, row = some r → B ≤ r ∧ ∃ o : Obj, W.heap[r]? = some o ∧ o.isCells = false) : Boxed W' b t v :=
  sbox_own (cs := #[v]) h hg hr
theorem range_last {k : Nat} {ini : List Nat} {j : Nat} (h : List.range k = ini ++ [j]) : k = j + 1 ∧ ini = List.range j := by
  cases k with
  | zero => simp at h
  | succ m =>
    rw [List.range_succ] at h
    obtain ⟨h1, h2⟩ := List.append_inj' h rfl
    simp only [List.cons.injEq, and_true] at h2
    subst h2
    exact ⟨rfl, h1.symm⟩
set_option maxRecDepth 100000 in
set_option maxHeartbeats 4000000 in
theorem find_in (n : Nat) (hn : 4 ≤ n) (s nm : ByteArray) (w : World) (hs : s.size ≤ 1099511627776) (hce : checkE (L s) = 0) (hnm : nm.size ≤ maxLen) :
    CallsIn Fence.wide n Try.prog 54 #[.string s, .string nm] w fun e w' => e = .returned (.tuple #[.int .u32 (findR (L s) (L nm)).1, .int .i64 (findR (L s) (L nm)).2.1, .bool (findR (L s) (L nm)).2.2]) ∧ Below w.heap.size w w' := by
  have SA := Lib.hid (fun W => slots_any s W)
  have CK := Lib.hid (fun W => check_any s W (by unfold maxLen; omega))
  rw [hce] at CK
  have HCE := Lib.hid hce
  clear hce
  refine callsIn_of_wp_marks Try.func54 rfl trivial ?_ rfl
  simp only [Try.ntmps54, List.size_toArray, List.length_cons, List.length_nil, Nat.reduceAdd, Nat.reduceSub, Array.replicate_succ, Array.replicate_zero, List.push_toArray, List.append_toArray, List.nil_append, List.cons_append]
  gi_wp2_with fail
  refine wpIn_scope_w (Lib.hid rfl) ?_
  gi_wp2_with fail
  refine ⟨trivial, (fun h => by cases h), ?_⟩
  refine (callsIn_wide.2 (CK.out _)).mono ?_
  rintro e w5 ⟨rfl, b5⟩
  have bN := Boxed.new w 9 (.string nm)
  have bI := Boxed.new (w.alloc (.cells #[.string nm] 9)) 60 (.int .u32 0)
  have bA := Boxed.new ((w.alloc (.cells #[.string nm] 9)).alloc (.cells #[.int .u32 0] 60)) 3 (.int .i64 0)
  have bB := Boxed.new (((w.alloc (.cells #[.string nm] 9)).alloc (.cells #[.int .u32 0] 60)).alloc (.cells #[.int .i64 0] 3)) 4 (.bool false)
  have hB0 : Below w.heap.size w ((((w.alloc (.cells #[.string nm] 9)).alloc (.cells #[.int .u32 0] 60)).alloc (.cells #[.int .i64 0] 3)).alloc (.cells #[.bool false] 4)) := ((((Below.refl _ w).alloc (Nat.le_refl _) _).alloc (by simp) _).alloc (by simp; omega) _).alloc (by simp; omega) _
  have kN : Boxed w5 w.heap.size 9 (.string nm) := (b5.block _ (by simp; omega)).trans (((bN.alloc _).alloc _).alloc _)
  have kI : Boxed w5 (w.heap.size + 1) 60 (.int .u32 0) := (b5.block _ (by simp)).trans (by rw [World.size_alloc] at bI; exact (bI.alloc _).alloc _)
  have kA : Boxed w5 (w.heap.size + 1 + 1) 3 (.int .i64 0) := (b5.block _ (by simp)).trans (by rw [World.size_alloc, World.size_alloc] at bA; exact bA.alloc _)
  have kB : Boxed w5 (w.heap.size + 1 + 1 + 1) 4 (.bool false) := (b5.block _ (by simp)).trans (by rw [World.size_alloc, World.size_alloc, World.size_alloc] at bB; exact bB)
  have hB5 : Below w.heap.size w w5 := hB0.trans (b5.mono (by simp; omega))
  have hz5 : w.heap.size + 1 + 1 + 1 < w5.heap.size := kB.lt
  clear b5 bN bI bA bB hB0
  gi_wp2
  refine wpIn_label_w (Lib.hid rfl) ?_
  gi_wp2_with fail
  refine ⟨trivial, (fun h => by cases h), ?_⟩
  refine (callsIn_wide.2 (SA.out _)).mono ?_
  rintro e w' ⟨rfl, rfl⟩
  gi_wp2_with fail
  have bS := Boxed.new w5 9 (.string s)
  refine wpIn_rangeFunc_ownH rfl (by omega) (gf := 87) (lb := #[.pointer (some ⟨w5.heap.size, 0, none⟩)]) rfl trivial (enters_of Try.func87 (by kernel_rfl) rfl)
    (slots_stops (n - 1) (by omega) w5.heap.size s hs _ bS) keptBox_t (keptBox_b (by simp)) (Below.refl _ _) (fun _ => rfl)
    (fun pre W => ((∀ k ∈ pre, hit (L nm) (entAt s k) = false) ∧ (Boxed W w.heap.size 9 (.string nm) ∧ (Boxed W (w.heap.size + 1) 60 (.int .u32 0) ∧ (Boxed W (w.heap.size + 1 + 1) 3 (.int .i64 0) ∧ Boxed W (w.heap.size + 1 + 1 + 1) 4 (.bool false))))) ∧ (w5.heap.size + 1 ≤ W.heap.size ∧ Below w.heap.size w W))
    (fun c pre W => ((c = .exit 0 ∧ ∃ ini k, pre = ini ++ [k] ∧ (∀ j ∈ ini, hit (L nm) (entAt s j) = false) ∧ hit (L nm) (entAt s k) = true) ∧ (∃ k, pre.getLast? = some k ∧ Boxed W (w.heap.size + 1) 60 (.int .u32 (entAt s k).2) ∧ Boxed W (w.heap.size + 1 + 1) 3 (.int .i64 (k : Int)) ∧ Boxed W (w.heap.size + 1 + 1 + 1) 4 (.bool true))) ∧ Below w.heap.size w W)
    (OwnFrom.and (OwnFrom.and (ownFrom_pure _ _) (OwnFrom.and (Own.from (boxed_own _ _ _) _) (OwnFrom.and (Own.from (boxed_own _ _ _) _) (OwnFrom.and (Own.from (boxed_own _ _ _) _) (Own.from (boxed_own _ _ _) _))))) (OwnFrom.and (size_own _) (ownFrom_below (Nat.le_refl _) (by simp; omega))))
    (fun c => OwnFrom.and (OwnFrom.and (ownFrom_pure _ _) (fun pre W W' row hs hg hr => by
      obtain ⟨k, h1, h2, h3, h4⟩ := hs
      exact ⟨k, h1, boxed_own1 h2 hg hr, boxed_own1 h3 hg hr, boxed_own1 h4 hg hr⟩)) (ownFrom_below (Nat.le_refl _) (by simp; omega)))
    ⟨⟨fun p hp => by simp at hp, kN.alloc _, kI.alloc _, kA.alloc _, kB.alloc _⟩, by simp, hB5.alloc (by omega) _⟩
    (fun k a' W => ∃ b, w5.heap.size + 1 ≤ b ∧ SBox W b 73 #[.string (B (entAt s k).1), .int .u32 (entAt s k).2] ∧ a' = { tmps := #[.string s, .string nm, undef, .pointer (some ⟨w.heap.size, 0, none⟩), .pointer (some ⟨w.heap.size + 1, 0, none⟩), .pointer (some ⟨w.heap.size + 1 + 1, 0, none⟩), .pointer (some ⟨w.heap.size + 1 + 1 + 1, 0, none⟩), .int .i64 (k : Int), .pointer (some ⟨b, 0, none⟩), .string s, .int .i64 0, .bool false, .string s, .func (.func 87) #[] #[.pointer (some ⟨w5.heap.size, 0, none⟩)], .int .i64 (k : Int), .agg #[.string (B (entAt s k).1), .int .u32 (entAt s k).2], undef, undef, undef, undef, undef, undef, undef, undef, undef, undef, undef, undef, undef, undef, undef], defers := [] })
    (fun k a' => fun _ W W' row hs hg hr => by
      obtain ⟨b, h1, h2, h3⟩ := hs
      exact ⟨b, h1, sbox_own h2 hg hr, h3⟩) ?assign ?body ?done ?stop
  case assign =>
    rintro l pre k W K ⟨⟨hp, hN, hI, hA, hT⟩, hz, hB⟩ hK
    rw [show slotPair (L s) k = (k, entAt s k) from rfl]
    dsimp only [slotArgs]
    have HK := Lib.hid hK
    clear hK
    gi_wp2
    exact HK.out _ _ ((KeepsOthers.alloc _ _).from _) (fun v hv => hv.alloc _) ⟨⟨hp, hN.alloc _, hI.alloc _, hA.alloc _, hT.alloc _⟩, by simp; omega, hB.alloc (by omega) _⟩ ⟨W.heap.size, hz, SBox.new _ _ _, rfl⟩
  case body =>
    rintro l pre k a' W hl hloop ⟨⟨hp, hN, hI, hA, hT⟩, hz, hB⟩ ⟨b, hb, hS, rfl⟩ hlen
    have c0 := hS.cell 0
    have c1 := hS.cell 1
    simp only [List.getElem?_toArray, List.getElem?_cons_zero, List.getElem?_cons_succ] at c0 c1
    have hlt := hS.lt
    have cN := hN.cell
    have cI := hI.cell
    have fI := hI.frozen
    have cA := hA.cell
    have fA := hA.frozen
    have cT := hT.cell
    have fT := hT.frozen
    have HSN : Hid (hit (L nm) (entAt s k) = false → ∀ q ∈ pre ++ [k], hit (L nm) (entAt s q) = false) := Lib.hid (fun hk q hq => by
      rcases List.mem_append.1 hq with h1 | h1
      · exact hp q h1
      · simp only [List.mem_cons, List.not_mem_nil, or_false] at h1
        rw [h1]; exact hk)
    have HHT : Hid (hit (L nm) (entAt s k) = decide ((entAt s k).2 ≠ 0 ∧ (entAt s k).1 = L nm)) := Lib.hid rfl
    have HP := Lib.hid hp
    clear hl hloop hp hS SA CK hlen bS kN kI kA kB hB5
    obtain ⟨nmL, hnm⟩ : ∃ x, (entAt s k).1 = x := ⟨_, rfl⟩
    obtain ⟨i, hi⟩ : ∃ x, (entAt s k).2 = x := ⟨_, rfl⟩
    rw [hnm] at c0
    rw [hi] at c1
    rw [hnm, hi]
    have HNM := Lib.hid hnm
    have HI := Lib.hid hi
    clear hnm hi
    by_cases h0 : i = 0
    · subst h0
      have E3 := Lib.hid (HSN.out (by rw [HHT.out, HI.out]; simp))
      gi_wp2
      exact ⟨KeepsFrom.refl _ _, KeptBox.refl _ _ _, ⟨⟨E3.out, hN, hI, hA, hT⟩, hz, hB⟩⟩
    · have t0 : ((i : Int) != 0) = true := by simp; omega
      have t0b : (i != 0) = true := by simp; omega
      have HI0 := Lib.hid h0
      clear h0
      by_cases hn : nmL = L nm
      · have q1 : ((B nmL).toList == nm.toList) = true := by rw [toList_L, toList_L, L_B, hn]; simp
        have q2 : decide ((B nmL).toList = nm.toList) = true := by simpa using q1
        have HH : Hid (hit (L nm) (entAt s k) = true) := Lib.hid (by rw [HHT.out, HI.out, HNM.out]; simp [HI0.out, hn])
        clear hn
        gi_wp2
        refine ⟨(((KeepsOthers.setCell _ _ _).trans (KeepsOthers.setCell _ _ _)).trans (KeepsOthers.setCell _ _ _)).from _, ⟨⟨rfl, pre, k, rfl, HP.out, HH.out⟩, k, by simp, ?_, ?_, ?_⟩, ?_⟩
        · rw [HI.out]; exact ((hI.set _).other (by omega) _).other (by omega) _
        · exact ((hA.other (by omega) _).set _).other (by omega) _
        · exact ((hT.other (by omega) _).other (by omega) _).set _
        · exact ((hB.setCell (p := ⟨w.heap.size + 1, 0, none⟩) (by simp) _).setCell (p := ⟨w.heap.size + 1 + 1, 0, none⟩) (by simp; omega) _).setCell (p := ⟨w.heap.size + 1 + 1 + 1, 0, none⟩) (by simp; omega) _
      · have q1 : ((B nmL).toList == nm.toList) = false := by rw [toList_L, toList_L, L_B]; simpa using hn
        have q2 : decide ((B nmL).toList = nm.toList) = false := by simpa using q1
        have E3 := Lib.hid (HSN.out (by rw [HHT.out, HI.out, HNM.out]; simp [hn]))
        clear hn
        gi_wp2
        exact ⟨KeepsFrom.refl _ _, KeptBox.refl _ _ _, ⟨⟨E3.out, hN, hI, hA, hT⟩, hz, hB⟩⟩
  case done =>
    rintro D ys W hD rfl ⟨⟨hp, hN, hI, hA, hT⟩, hz, hB⟩ hK
    have eL : findR (L s) (L nm) = (0, 0, false) := by unfold findR; rw [if_pos HCE.out, find_none_of hp]
    have HE := Lib.hid eL
    clear eL hp
    gi_wp2
    have cI := hI.cell
    have fI := hI.frozen
    have cA := hA.cell
    have fA := hA.frozen
    have cT := hT.cell
    have fT := hT.frozen
    refine wpIn_plain_w (Lib.hid rfl) ?_
    go_region
    gi_wp2
    have hI2 : Boxed (((W.setCell ⟨w.heap.size + 1, 0, none⟩ (.int .u32 0)).setCell ⟨w.heap.size + 1 + 1, 0, none⟩ (.int .i64 0)).setCell ⟨w.heap.size + 1 + 1 + 1, 0, none⟩ (.bool false)).drew (w.heap.size + 1) 60 (.int .u32 0) := ((hI.set _).other (by omega) _).other (by omega) _
    have hA2 : Boxed (((W.setCell ⟨w.heap.size + 1, 0, none⟩ (.int .u32 0)).setCell ⟨w.heap.size + 1 + 1, 0, none⟩ (.int .i64 0)).setCell ⟨w.heap.size + 1 + 1 + 1, 0, none⟩ (.bool false)).drew (w.heap.size + 1 + 1) 3 (.int .i64 0) := ((hA.other (by omega) _).set _).other (by omega) _
    have hT2 : Boxed (((W.setCell ⟨w.heap.size + 1, 0, none⟩ (.int .u32 0)).setCell ⟨w.heap.size + 1 + 1, 0, none⟩ (.int .i64 0)).setCell ⟨w.heap.size + 1 + 1 + 1, 0, none⟩ (.bool false)).drew (w.heap.size + 1 + 1 + 1) 4 (.bool false) := ((hT.other (by omega) _).other (by omega) _).set _
    have hB2 : Below w.heap.size w (((W.setCell ⟨w.heap.size + 1, 0, none⟩ (.int .u32 0)).setCell ⟨w.heap.size + 1 + 1, 0, none⟩ (.int .i64 0)).setCell ⟨w.heap.size + 1 + 1 + 1, 0, none⟩ (.bool false)).drew := (((hB.setCell (p := ⟨w.heap.size + 1, 0, none⟩) (by simp) _).setCell (p := ⟨w.heap.size + 1 + 1, 0, none⟩) (by simp; omega) _).setCell (p := ⟨w.heap.size + 1 + 1 + 1, 0, none⟩) (by simp; omega) _).drew
    have hK2 : (((W.setCell ⟨w.heap.size + 1, 0, none⟩ (.int .u32 0)).setCell ⟨w.heap.size + 1 + 1, 0, none⟩ (.int .i64 0)).setCell ⟨w.heap.size + 1 + 1 + 1, 0, none⟩ (.bool false)).drew.heap[D]? = some (.deferred (some [])) := (((KeepsOthers.setCell W ⟨w.heap.size + 1, 0, none⟩ (.int .u32 0)).trans (KeepsOthers.setCell _ ⟨w.heap.size + 1 + 1, 0, none⟩ (.int .i64 0))).trans (KeepsOthers.setCell _ ⟨w.heap.size + 1 + 1 + 1, 0, none⟩ (.bool false))).same D _ hK rfl
    refine ⟨by simp, .inl ⟨_, _, rfl, run_takeDeferred hK2, ?_⟩⟩
    have c5 := cell_kept hI2.cell (grownBy_putObj' _ D (.deferred none)) (fun r e => by cases e; exact ⟨_, hK2, rfl⟩)
    have c6 := cell_kept hA2.cell (grownBy_putObj' _ D (.deferred none)) (fun r e => by cases e; exact ⟨_, hK2, rfl⟩)
    have c7 := cell_kept hT2.cell (grownBy_putObj' _ D (.deferred none)) (fun r e => by cases e; exact ⟨_, hK2, rfl⟩)
    refine ⟨.tuple #[.int .u32 0, .int .i64 0, .bool false], ?_, (by rw [HE.out]; try rfl), hB2.trans (belowK_b (w := w) (Nat.le_refl _) _ D _ _ (by simp at hD; omega) hK2 rfl rfl)⟩
    simp [results, Try.f54, go_sem, c5, c6, c7]
  case stop =>
    rintro D c pre W hD ⟨m, hm, rfl⟩ ⟨⟨⟨rfl, ini, k, e1, e2, e3⟩, k2, hk2, hI, hA, hT⟩, hB⟩ hK
    obtain ⟨rfl, rfl⟩ := range_last e1
    obtain rfl : k2 = k := by rw [e1] at hk2; simpa using hk2.symm
    have hf := find_some_of (s := s) (n := L nm) (k := k2) (by omega) e3 (fun j hj => e2 j (List.mem_range.2 hj))
    have eL : findR (L s) (L nm) = ((entAt s k2).2, k2, true) := by unfold findR; rw [if_pos HCE.out, hf.1]; simp only [hf.2]
    have HE := Lib.hid eL
    clear eL hf e1 e2 e3 hk2
    generalize (entAt s k2).2 = i at *
    gi_wp2
    have cI := hI.cell
    have fI := hI.frozen
    have cA := hA.cell
    have fA := hA.frozen
    have cT := hT.cell
    have fT := hT.frozen
    refine wpIn_plain_w (Lib.hid rfl) ?_
    go_region
    gi_wp2
    have hI2 : Boxed (((W.setCell ⟨w.heap.size + 1, 0, none⟩ (.int .u32 i)).setCell ⟨w.heap.size + 1 + 1, 0, none⟩ (.int .i64 (k2 : Int))).setCell ⟨w.heap.size + 1 + 1 + 1, 0, none⟩ (.bool true)).drew (w.heap.size + 1) 60 (.int .u32 i) := ((hI.set _).other (by omega) _).other (by omega) _
    have hA2 : Boxed (((W.setCell ⟨w.heap.size + 1, 0, none⟩ (.int .u32 i)).setCell ⟨w.heap.size + 1 + 1, 0, none⟩ (.int .i64 (k2 : Int))).setCell ⟨w.heap.size + 1 + 1 + 1, 0, none⟩ (.bool true)).drew (w.heap.size + 1 + 1) 3 (.int .i64 (k2 : Int)) := ((hA.other (by omega) _).set _).other (by omega) _
    have hT2 : Boxed (((W.setCell ⟨w.heap.size + 1, 0, none⟩ (.int .u32 i)).setCell ⟨w.heap.size + 1 + 1, 0, none⟩ (.int .i64 (k2 : Int))).setCell ⟨w.heap.size + 1 + 1 + 1, 0, none⟩ (.bool true)).drew (w.heap.size + 1 + 1 + 1) 4 (.bool true) := ((hT.other (by omega) _).other (by omega) _).set _
    have hB2 : Below w.heap.size w (((W.setCell ⟨w.heap.size + 1, 0, none⟩ (.int .u32 i)).setCell ⟨w.heap.size + 1 + 1, 0, none⟩ (.int .i64 (k2 : Int))).setCell ⟨w.heap.size + 1 + 1 + 1, 0, none⟩ (.bool true)).drew := (((hB.setCell (p := ⟨w.heap.size + 1, 0, none⟩) (by simp) _).setCell (p := ⟨w.heap.size + 1 + 1, 0, none⟩) (by simp; omega) _).setCell (p := ⟨w.heap.size + 1 + 1 + 1, 0, none⟩) (by simp; omega) _).drew
    have hK2 : (((W.setCell ⟨w.heap.size + 1, 0, none⟩ (.int .u32 i)).setCell ⟨w.heap.size + 1 + 1, 0, none⟩ (.int .i64 (k2 : Int))).setCell ⟨w.heap.size + 1 + 1 + 1, 0, none⟩ (.bool true)).drew.heap[D]? = some (.deferred (some [])) := (((KeepsOthers.setCell W ⟨w.heap.size + 1, 0, none⟩ (.int .u32 i)).trans (KeepsOthers.setCell _ ⟨w.heap.size + 1 + 1, 0, none⟩ (.int .i64 (k2 : Int)))).trans (KeepsOthers.setCell _ ⟨w.heap.size + 1 + 1 + 1, 0, none⟩ (.bool true))).same D _ hK rfl
    refine ⟨by simp, .inl ⟨_, _, rfl, run_takeDeferred hK2, ?_⟩⟩
    have c5 := cell_kept hI2.cell (grownBy_putObj' _ D (.deferred none)) (fun r e => by cases e; exact ⟨_, hK2, rfl⟩)
    have c6 := cell_kept hA2.cell (grownBy_putObj' _ D (.deferred none)) (fun r e => by cases e; exact ⟨_, hK2, rfl⟩)
    have c7 := cell_kept hT2.cell (grownBy_putObj' _ D (.deferred none)) (fun r e => by cases e; exact ⟨_, hK2, rfl⟩)
    refine ⟨.tuple #[.int .u32 i, .int .i64 (k2 : Int), .bool true], ?_, (by rw [HE.out]; try rfl), hB2.trans (belowK_b (w := w) (Nat.le_refl _) _ D _ _ (by simp at hD; omega) hK2 rfl rfl)⟩
    simp [results, Try.f54, go_sem, c5, c6, c7]
set_option maxRecDepth 100000 in
set_option maxHeartbeats 1000000 in
theorem find_no (n : Nat) (hn : 4 ≤ n) (s nm : ByteArray) (w : World) (hs : s.size ≤ maxLen) (ce : Int) (hce : checkE (L s) = ce) (h0 : ce ≠ 0) :
    CallsIn Fence.wide n Try.prog 54 #[.string s, .string nm] w fun e w' => e = .returned (.tuple #[.int .u32 0, .int .i64 0, .bool false]) ∧ Below w.heap.size w w' := by
  have CK := Lib.hid (fun W => check_any s W hs)
  rw [hce] at CK
  have q1 : (ce != 0) = true := by simpa using h0
  have q2 : (ce == 0) = false := by simpa using h0
  clear h0 hce hs
  refine callsIn_of_wp_marks Try.func54 rfl trivial ?_ rfl
  simp only [Try.ntmps54, List.size_toArray, List.length_cons, List.length_nil, Nat.reduceAdd, Nat.reduceSub, Array.replicate_succ, Array.replicate_zero, List.push_toArray, List.append_toArray, List.nil_append, List.cons_append]
  gi_wp2_with fail
  refine wpIn_scope_w (Lib.hid rfl) ?_
  gi_wp2_with fail
  refine ⟨trivial, (fun h => by cases h), ?_⟩
  refine (callsIn_wide.2 (CK.out _)).mono ?_
  rintro e w5 ⟨rfl, b5⟩
  have bI := Boxed.new (w.alloc (.cells #[.string nm] 9)) 60 (.int .u32 0)
  have bA := Boxed.new ((w.alloc (.cells #[.string nm] 9)).alloc (.cells #[.int .u32 0] 60)) 3 (.int .i64 0)
  have bB := Boxed.new (((w.alloc (.cells #[.string nm] 9)).alloc (.cells #[.int .u32 0] 60)).alloc (.cells #[.int .i64 0] 3)) 4 (.bool false)
  have hB0 : Below w.heap.size w ((((w.alloc (.cells #[.string nm] 9)).alloc (.cells #[.int .u32 0] 60)).alloc (.cells #[.int .i64 0] 3)).alloc (.cells #[.bool false] 4)) := ((((Below.refl _ w).alloc (Nat.le_refl _) _).alloc (by simp) _).alloc (by simp; omega) _).alloc (by simp; omega) _
  have kI : Boxed w5 (w.heap.size + 1) 60 (.int .u32 0) := (b5.block _ (by simp)).trans (by rw [World.size_alloc] at bI; exact (bI.alloc _).alloc _)
  have kA : Boxed w5 (w.heap.size + 1 + 1) 3 (.int .i64 0) := (b5.block _ (by simp)).trans (by rw [World.size_alloc, World.size_alloc] at bA; exact bA.alloc _)
  have kB : Boxed w5 (w.heap.size + 1 + 1 + 1) 4 (.bool false) := (b5.block _ (by simp)).trans (by rw [World.size_alloc, World.size_alloc, World.size_alloc] at bB; exact bB)
  have hB5 : Below w.heap.size w w5 := hB0.trans (b5.mono (by simp; omega))
  have cI := kI.cell
  have fI := kI.frozen
  have cA := kA.cell
  have fA := kA.frozen
  have cT := kB.cell
  have fT := kB.frozen
  have hlt := kB.lt
  clear b5 bI bA bB hB0
  gi_wp2
  rw [Exit.noGoto_ret]
  have hI2 : Boxed (((w5.setCell ⟨w.heap.size + 1, 0, none⟩ (.int .u32 0)).setCell ⟨w.heap.size + 1 + 1, 0, none⟩ (.int .i64 0)).setCell ⟨w.heap.size + 1 + 1 + 1, 0, none⟩ (.bool false)) (w.heap.size + 1) 60 (.int .u32 0) := ((kI.set _).other (by omega) _).other (by omega) _
  have hA2 : Boxed (((w5.setCell ⟨w.heap.size + 1, 0, none⟩ (.int .u32 0)).setCell ⟨w.heap.size + 1 + 1, 0, none⟩ (.int .i64 0)).setCell ⟨w.heap.size + 1 + 1 + 1, 0, none⟩ (.bool false)) (w.heap.size + 1 + 1) 3 (.int .i64 0) := ((kA.other (by omega) _).set _).other (by omega) _
  have hT2 : Boxed (((w5.setCell ⟨w.heap.size + 1, 0, none⟩ (.int .u32 0)).setCell ⟨w.heap.size + 1 + 1, 0, none⟩ (.int .i64 0)).setCell ⟨w.heap.size + 1 + 1 + 1, 0, none⟩ (.bool false)) (w.heap.size + 1 + 1 + 1) 4 (.bool false) := ((kB.other (by omega) _).other (by omega) _).set _
  have c5 := hI2.cell
  have c6 := hA2.cell
  have c7 := hT2.cell
  refine ⟨.tuple #[.int .u32 0, .int .i64 0, .bool false], ?_, rfl, ((hB5.setCell (p := ⟨w.heap.size + 1, 0, none⟩) (by simp) _).setCell (p := ⟨w.heap.size + 1 + 1, 0, none⟩) (by simp; omega) _).setCell (p := ⟨w.heap.size + 1 + 1 + 1, 0, none⟩) (by simp; omega) _⟩
  simp [results, Try.f54, go_sem, c5, c6, c7]
/-- dirs.Find, of any text. -/
theorem find_any (s nm : ByteArray) (w : World) (hs : s.size ≤ maxLen) (hnm : nm.size ≤ maxLen) :
    Calls Try.prog 54 #[.string s, .string nm] w fun e w' => e = .returned (.tuple #[.int .u32 (findR (L s) (L nm)).1, .int .i64 (findR (L s) (L nm)).2.1, .bool (findR (L s) (L nm)).2.2]) ∧ Below w.heap.size w w' := by
  by_cases hce : checkE (L s) = 0
  · have := (dir_of hce).1.le
    have h2 := (dir_of hce).2.2
    rw [len_L] at h2
    exact (callsIn_wide (n := 4)).1 (find_in 4 (Nat.le_refl _) s nm w (by omega) hce hnm)
  · have hE : findR (L s) (L nm) = (0, 0, false) := by unfold findR; rw [if_neg hce]
    rw [hE]
    exact (callsIn_wide (n := 4)).1 (find_no 4 (Nat.le_refl _) s nm w hs _ rfl hce)
end Go.Proofs.Ytfdclifdemajfaa.Dir
