/- Layer 10, plain, for layer 11: what Add and Del make of a directory's bytes, by its entries. -/
import Derived.Test.YtpnfkilfgdnogaaGreatDoorDirM
import Derived.Stop.RegionWithIn
section
namespace Go.Proofs.YtpnfkilfgdnogaaGreatDoor.Dir
set_option linter.unusedVariables false
set_option linter.unusedSimpArgs false
open Go.RowKit Go.Shelf Oct Path
attribute [local go_sem] Oper.semAt_some
def findR (s n : List UInt8) : Nat × Nat × Bool := if checkE s = 0 then (match findK n (slotsL s) with | some k => (((slotsL s).getD k ([], 0)).2, k, true) | none => (0, 0, false)) else (0, 0, false)
theorem find_none_of {s : ByteArray} {n : List UInt8} (h : ∀ k ∈ List.range (s.size / 32), hit n (entAt s k) = false) : findK n (slotsL (L s)) = none := by
  refine List.findIdx?_eq_none_iff.2 (fun e he => ?_)
  rw [← ents_all] at he
  obtain ⟨k, hk, rfl⟩ := List.mem_map.1 he
  exact h k hk
theorem find_some_of {s : ByteArray} {n : List UInt8} {k : Nat} (hk : k < s.size / 32) (hh : hit n (entAt s k) = true) (h : ∀ j, j < k → hit n (entAt s j) = false) : findK n (slotsL (L s)) = some k ∧ ((slotsL (L s)).getD k ([], 0)) = entAt s k := by
  have hl : (slotsL (L s)).length = s.size / 32 := by rw [← ents_all]; simp [entsAt]
  have hg : ∀ j (hj : j < (slotsL (L s)).length), (slotsL (L s))[j] = entAt s j := fun j hj => by simp [← ents_all, entsAt]
  refine ⟨List.findIdx?_eq_some_iff_getElem.2 ⟨by omega, by rw [hg]; exact hh, fun j hj => ?_⟩, ?_⟩
  · rw [hg, h j hj]; simp
  · rw [List.getD_eq_getElem?_getD, List.getElem?_eq_getElem (by omega), hg]; rfl
theorem boxed_own1 {B b : Nat} {t : TypeId} {v : Value} {W W' : World} {row : Option Nat} (h : Boxed W b t v) (hg : W.grownBy W' row) (hr : ∀ r, row = some r → B ≤ r ∧ ∃ o : Obj, W.heap[r]? = some o ∧ o.isCells = false) : Boxed W' b t v :=
  sbox_own (cs := #[v]) h hg hr
theorem range_last {k : Nat} {ini : List Nat} {j : Nat} (h : List.range k = ini ++ [j]) : k = j + 1 ∧ ini = List.range j := by
  cases k with
  | zero => simp at h
  | succ m =>
    rw [List.range_succ] at h
    obtain ⟨h1, h2⟩ := List.append_inj' h rfl
    simp only [List.cons.injEq, and_true] at h2
    subst h2
    exact ⟨rfl, h1.symm⟩
set_option maxRecDepth 100000 in
set_option maxHeartbeats 4000000 in
theorem find_in (n : Nat) (hn : 4 ≤ n) (s nm : ByteArray) (w : World) (hs : s.size ≤ 1099511627776) (hce : checkE (L s) = 0) (hnm : nm.size ≤ maxLen) :
    CallsIn Fence.wide n Tryz.prog 130 #[.string s, .string nm] w fun e w' => e = .returned (.tuple #[.int .u32 (findR (L s) (L nm)).1, .int .i64 (findR (L s) (L nm)).2.1, .bool (findR (L s) (L nm)).2.2]) ∧ Below w.heap.size w w' := by
  have SA := Lib.hid (fun W => slots_any s W)
  have CK := Lib.hid (fun W => check_any s W (by unfold maxLen; omega))
  rw [hce] at CK
  have HCE := Lib.hid hce
  clear hce
  refine callsIn_of_wp_marks Tryz.func130 rfl trivial ?_ rfl
  simp only [Tryz.ntmps130, List.size_toArray, List.length_cons, List.length_nil, Nat.reduceAdd, Nat.reduceSub, Array.replicate_succ, Array.replicate_zero, List.push_toArray, List.append_toArray, List.nil_append, List.cons_append]
  gi_wp2_with fail
  refine wpIn_scope_w (Lib.hid rfl) ?_
  gi_wp2_with fail
  refine ⟨trivial, (fun h => by cases h), ?_⟩
  refine (callsIn_wide.2 (CK.out _)).mono ?_
  rintro e w5 ⟨rfl, b5⟩
  have bN := Boxed.new w 9 (.string nm)
  have bI := Boxed.new (w.alloc (.cells #[.string nm] 9)) 40 (.int .u32 0)
  have bA := Boxed.new ((w.alloc (.cells #[.string nm] 9)).alloc (.cells #[.int .u32 0] 40)) 3 (.int .i64 0)
  have bB := Boxed.new (((w.alloc (.cells #[.string nm] 9)).alloc (.cells #[.int .u32 0] 40)).alloc (.cells #[.int .i64 0] 3)) 4 (.bool false)
  have hB0 : Below w.heap.size w ((((w.alloc (.cells #[.string nm] 9)).alloc (.cells #[.int .u32 0] 40)).alloc (.cells #[.int .i64 0] 3)).alloc (.cells #[.bool false] 4)) := ((((Below.refl _ w).alloc (Nat.le_refl _) _).alloc (by simp) _).alloc (by simp; omega) _).alloc (by simp; omega) _
  have kN : Boxed w5 w.heap.size 9 (.string nm) := (b5.block _ (by simp; omega)).trans (((bN.alloc _).alloc _).alloc _)
  have kI : Boxed w5 (w.heap.size + 1) 40 (.int .u32 0) := (b5.block _ (by simp)).trans (by rw [World.size_alloc] at bI; exact (bI.alloc _).alloc _)
  have kA : Boxed w5 (w.heap.size + 1 + 1) 3 (.int .i64 0) := (b5.block _ (by simp)).trans (by rw [World.size_alloc, World.size_alloc] at bA; exact bA.alloc _)
  have kB : Boxed w5 (w.heap.size + 1 + 1 + 1) 4 (.bool false) := (b5.block _ (by simp)).trans (by rw [World.size_alloc, World.size_alloc, World.size_alloc] at bB; exact bB)
  have hB5 : Below w.heap.size w w5 := hB0.trans (b5.mono (by simp; omega))
  have hz5 : w.heap.size + 1 + 1 + 1 < w5.heap.size := kB.lt
  clear b5 bN bI bA bB hB0
  gi_wp2
  refine wpIn_label_w (Lib.hid rfl) ?_
  gi_wp2_with fail
  refine ⟨trivial, (fun h => by cases h), ?_⟩
  refine (callsIn_wide.2 (SA.out _)).mono ?_
  rintro e w' ⟨rfl, rfl⟩
  gi_wp2_with fail
  have bS := Boxed.new w5 9 (.string s)
  refine wpIn_rangeFunc_ownH rfl (by omega) (gf := 169) (lb := #[.pointer (some ⟨w5.heap.size, 0, none⟩)]) rfl trivial (enters_of Tryz.func169 (by kernel_rfl) rfl)
    (slots_stops (n - 1) (by omega) w5.heap.size s hs _ bS) keptBox_t (keptBox_b (by simp)) (Below.refl _ _) (fun _ => rfl)
    (fun pre W => ((∀ k ∈ pre, hit (L nm) (entAt s k) = false) ∧ (Boxed W w.heap.size 9 (.string nm) ∧ (Boxed W (w.heap.size + 1) 40 (.int .u32 0) ∧ (Boxed W (w.heap.size + 1 + 1) 3 (.int .i64 0) ∧ Boxed W (w.heap.size + 1 + 1 + 1) 4 (.bool false))))) ∧ (w5.heap.size + 1 ≤ W.heap.size ∧ Below w.heap.size w W))
    (fun c pre W => ((c = .exit 0 ∧ ∃ ini k, pre = ini ++ [k] ∧ (∀ j ∈ ini, hit (L nm) (entAt s j) = false) ∧ hit (L nm) (entAt s k) = true) ∧ (∃ k, pre.getLast? = some k ∧ Boxed W (w.heap.size + 1) 40 (.int .u32 (entAt s k).2) ∧ Boxed W (w.heap.size + 1 + 1) 3 (.int .i64 (k : Int)) ∧ Boxed W (w.heap.size + 1 + 1 + 1) 4 (.bool true))) ∧ Below w.heap.size w W)
    (OwnFrom.and (OwnFrom.and (ownFrom_pure _ _) (OwnFrom.and (Own.from (boxed_own _ _ _) _) (OwnFrom.and (Own.from (boxed_own _ _ _) _) (OwnFrom.and (Own.from (boxed_own _ _ _) _) (Own.from (boxed_own _ _ _) _))))) (OwnFrom.and (size_own _) (ownFrom_below (Nat.le_refl _) (by simp; omega))))
    (fun c => OwnFrom.and (OwnFrom.and (ownFrom_pure _ _) (fun pre W W' row hs hg hr => by
      obtain ⟨k, h1, h2, h3, h4⟩ := hs
      exact ⟨k, h1, boxed_own1 h2 hg hr, boxed_own1 h3 hg hr, boxed_own1 h4 hg hr⟩)) (ownFrom_below (Nat.le_refl _) (by simp; omega)))
    ⟨⟨fun p hp => by simp at hp, kN.alloc _, kI.alloc _, kA.alloc _, kB.alloc _⟩, by simp, hB5.alloc (by omega) _⟩
    (fun k a' W => ∃ b, w5.heap.size + 1 ≤ b ∧ SBox W b 216 #[.string (B (entAt s k).1), .int .u32 (entAt s k).2] ∧ a' = { tmps := #[.string s, .string nm, undef, .pointer (some ⟨w.heap.size, 0, none⟩), .pointer (some ⟨w.heap.size + 1, 0, none⟩), .pointer (some ⟨w.heap.size + 1 + 1, 0, none⟩), .pointer (some ⟨w.heap.size + 1 + 1 + 1, 0, none⟩), .int .i64 (k : Int), .pointer (some ⟨b, 0, none⟩), .string s, .int .i64 0, .bool false, .string s, .func (.func 169) #[] #[.pointer (some ⟨w5.heap.size, 0, none⟩)], .int .i64 (k : Int), .agg #[.string (B (entAt s k).1), .int .u32 (entAt s k).2], undef, undef, undef, undef, undef, undef, undef, undef, undef, undef, undef, undef, undef, undef, undef], defers := [] })
    (fun k a' => fun _ W W' row hs hg hr => by
      obtain ⟨b, h1, h2, h3⟩ := hs
      exact ⟨b, h1, sbox_own h2 hg hr, h3⟩) ?assign ?body ?done ?stop
  case assign =>
    rintro l pre k W K ⟨⟨hp, hN, hI, hA, hT⟩, hz, hB⟩ hK
    rw [show slotPair (L s) k = (k, entAt s k) from rfl]
    dsimp only [slotArgs]
    have HK := Lib.hid hK
    clear hK
    gi_wp2
    exact HK.out _ _ ((KeepsOthers.alloc _ _).from _) (fun v hv => hv.alloc _) ⟨⟨hp, hN.alloc _, hI.alloc _, hA.alloc _, hT.alloc _⟩, by simp; omega, hB.alloc (by omega) _⟩ ⟨W.heap.size, hz, SBox.new _ _ _, rfl⟩
  case body =>
    rintro l pre k a' W hl hloop ⟨⟨hp, hN, hI, hA, hT⟩, hz, hB⟩ ⟨b, hb, hS, rfl⟩ hlen
    have c0 := hS.cell 0
    have c1 := hS.cell 1
    simp only [List.getElem?_toArray, List.getElem?_cons_zero, List.getElem?_cons_succ] at c0 c1
    have hlt := hS.lt
    have cN := hN.cell
    have cI := hI.cell
    have fI := hI.frozen
    have cA := hA.cell
    have fA := hA.frozen
    have cT := hT.cell
    have fT := hT.frozen
    have HSN : Hid (hit (L nm) (entAt s k) = false → ∀ q ∈ pre ++ [k], hit (L nm) (entAt s q) = false) := Lib.hid (fun hk q hq => by
      rcases List.mem_append.1 hq with h1 | h1
      · exact hp q h1
      · simp only [List.mem_cons, List.not_mem_nil, or_false] at h1
        rw [h1]; exact hk)
    have HHT : Hid (hit (L nm) (entAt s k) = decide ((entAt s k).2 ≠ 0 ∧ (entAt s k).1 = L nm)) := Lib.hid rfl
    have HP := Lib.hid hp
    clear hl hloop hp hS SA CK hlen bS kN kI kA kB hB5
    obtain ⟨nmL, hnm⟩ : ∃ x, (entAt s k).1 = x := ⟨_, rfl⟩
    obtain ⟨i, hi⟩ : ∃ x, (entAt s k).2 = x := ⟨_, rfl⟩
    rw [hnm] at c0
    rw [hi] at c1
    rw [hnm, hi]
    have HNM := Lib.hid hnm
    have HI := Lib.hid hi
    clear hnm hi
    by_cases h0 : i = 0
    · subst h0
      have E3 := Lib.hid (HSN.out (by rw [HHT.out, HI.out]; simp))
      gi_wp2
      exact ⟨KeepsFrom.refl _ _, KeptBox.refl _ _ _, ⟨⟨E3.out, hN, hI, hA, hT⟩, hz, hB⟩⟩
    · have t0 : ((i : Int) != 0) = true := by simp; omega
      have t0b : (i != 0) = true := by simp; omega
      have HI0 := Lib.hid h0
      clear h0
      by_cases hn : nmL = L nm
      · have q1 : ((B nmL).toList == nm.toList) = true := by rw [toList_L, toList_L, L_B, hn]; simp
        have q2 : decide ((B nmL).toList = nm.toList) = true := by simpa using q1
        have HH : Hid (hit (L nm) (entAt s k) = true) := Lib.hid (by rw [HHT.out, HI.out, HNM.out]; simp [HI0.out, hn])
        clear hn
        gi_wp2
        refine ⟨(((KeepsOthers.setCell _ _ _).trans (KeepsOthers.setCell _ _ _)).trans (KeepsOthers.setCell _ _ _)).from _, ⟨⟨rfl, pre, k, rfl, HP.out, HH.out⟩, k, by simp, ?_, ?_, ?_⟩, ?_⟩
        · rw [HI.out]; exact ((hI.set _).other (by omega) _).other (by omega) _
        · exact ((hA.other (by omega) _).set _).other (by omega) _
        · exact ((hT.other (by omega) _).other (by omega) _).set _
        · exact ((hB.setCell (p := ⟨w.heap.size + 1, 0, none⟩) (by simp) _).setCell (p := ⟨w.heap.size + 1 + 1, 0, none⟩) (by simp; omega) _).setCell (p := ⟨w.heap.size + 1 + 1 + 1, 0, none⟩) (by simp; omega) _
      · have q1 : ((B nmL).toList == nm.toList) = false := by rw [toList_L, toList_L, L_B]; simpa using hn
        have q2 : decide ((B nmL).toList = nm.toList) = false := by simpa using q1
        have E3 := Lib.hid (HSN.out (by rw [HHT.out, HI.out, HNM.out]; simp [hn]))
        clear hn
        gi_wp2
        exact ⟨KeepsFrom.refl _ _, KeptBox.refl _ _ _, ⟨⟨E3.out, hN, hI, hA, hT⟩, hz, hB⟩⟩
  case done =>
    rintro D ys W hD rfl ⟨⟨hp, hN, hI, hA, hT⟩, hz, hB⟩ hK
    have eL : findR (L s) (L nm) = (0, 0, false) := by unfold findR; rw [if_pos HCE.out, find_none_of hp]
    have HE := Lib.hid eL
    clear eL hp
    gi_wp2
    have cI := hI.cell
    have fI := hI.frozen
    have cA := hA.cell
    have fA := hA.frozen
    have cT := hT.cell
    have fT := hT.frozen
    refine wpIn_plain_w (Lib.hid rfl) ?_
    go_region
    gi_wp2
    have hI2 : Boxed (((W.setCell ⟨w.heap.size + 1, 0, none⟩ (.int .u32 0)).setCell ⟨w.heap.size + 1 + 1, 0, none⟩ (.int .i64 0)).setCell ⟨w.heap.size + 1 + 1 + 1, 0, none⟩ (.bool false)).drew (w.heap.size + 1) 40 (.int .u32 0) := ((hI.set _).other (by omega) _).other (by omega) _
    have hA2 : Boxed (((W.setCell ⟨w.heap.size + 1, 0, none⟩ (.int .u32 0)).setCell ⟨w.heap.size + 1 + 1, 0, none⟩ (.int .i64 0)).setCell ⟨w.heap.size + 1 + 1 + 1, 0, none⟩ (.bool false)).drew (w.heap.size + 1 + 1) 3 (.int .i64 0) := ((hA.other (by omega) _).set _).other (by omega) _
    have hT2 : Boxed (((W.setCell ⟨w.heap.size + 1, 0, none⟩ (.int .u32 0)).setCell ⟨w.heap.size + 1 + 1, 0, none⟩ (.int .i64 0)).setCell ⟨w.heap.size + 1 + 1 + 1, 0, none⟩ (.bool false)).drew (w.heap.size + 1 + 1 + 1) 4 (.bool false) := ((hT.other (by omega) _).other (by omega) _).set _
    have hB2 : Below w.heap.size w (((W.setCell ⟨w.heap.size + 1, 0, none⟩ (.int .u32 0)).setCell ⟨w.heap.size + 1 + 1, 0, none⟩ (.int .i64 0)).setCell ⟨w.heap.size + 1 + 1 + 1, 0, none⟩ (.bool false)).drew := (((hB.setCell (p := ⟨w.heap.size + 1, 0, none⟩) (by simp) _).setCell (p := ⟨w.heap.size + 1 + 1, 0, none⟩) (by simp; omega) _).setCell (p := ⟨w.heap.size + 1 + 1 + 1, 0, none⟩) (by simp; omega) _).drew
    have hK2 : (((W.setCell ⟨w.heap.size + 1, 0, none⟩ (.int .u32 0)).setCell ⟨w.heap.size + 1 + 1, 0, none⟩ (.int .i64 0)).setCell ⟨w.heap.size + 1 + 1 + 1, 0, none⟩ (.bool false)).drew.heap[D]? = some (.deferred (some [])) := (((KeepsOthers.setCell W ⟨w.heap.size + 1, 0, none⟩ (.int .u32 0)).trans (KeepsOthers.setCell _ ⟨w.heap.size + 1 + 1, 0, none⟩ (.int .i64 0))).trans (KeepsOthers.setCell _ ⟨w.heap.size + 1 + 1 + 1, 0, none⟩ (.bool false))).same D _ hK rfl
    refine ⟨by simp, .inl ⟨_, _, rfl, run_takeDeferred hK2, ?_⟩⟩
    have c5 := cell_kept hI2.cell (grownBy_putObj' _ D (.deferred none)) (fun r e => by cases e; exact ⟨_, hK2, rfl⟩)
    have c6 := cell_kept hA2.cell (grownBy_putObj' _ D (.deferred none)) (fun r e => by cases e; exact ⟨_, hK2, rfl⟩)
    have c7 := cell_kept hT2.cell (grownBy_putObj' _ D (.deferred none)) (fun r e => by cases e; exact ⟨_, hK2, rfl⟩)
    refine ⟨.tuple #[.int .u32 0, .int .i64 0, .bool false], ?_, (by rw [HE.out]; try rfl), hB2.trans (belowK_b (w := w) (Nat.le_refl _) _ D _ _ (by simp at hD; omega) hK2 rfl rfl)⟩
    simp [results, Tryz.f130, go_sem, c5, c6, c7]
  case stop =>
    rintro D c pre W hD ⟨m, hm, rfl⟩ ⟨⟨⟨rfl, ini, k, e1, e2, e3⟩, k2, hk2, hI, hA, hT⟩, hB⟩ hK
    obtain ⟨rfl, rfl⟩ := range_last e1
    obtain rfl : k2 = k := by rw [e1] at hk2; simpa using hk2.symm
    have hf := find_some_of (s := s) (n := L nm) (k := k2) (by omega) e3 (fun j hj => e2 j (List.mem_range.2 hj))
    have eL : findR (L s) (L nm) = ((entAt s k2).2, k2, true) := by unfold findR; rw [if_pos HCE.out, hf.1]; simp only [hf.2]
    have HE := Lib.hid eL
    clear eL hf e1 e2 e3 hk2
    generalize (entAt s k2).2 = i at *
    gi_wp2
    have cI := hI.cell
    have fI := hI.frozen
    have cA := hA.cell
    have fA := hA.frozen
    have cT := hT.cell
    have fT := hT.frozen
    refine wpIn_plain_w (Lib.hid rfl) ?_
    go_region
    gi_wp2
    have hI2 : Boxed (((W.setCell ⟨w.heap.size + 1, 0, none⟩ (.int .u32 i)).setCell ⟨w.heap.size + 1 + 1, 0, none⟩ (.int .i64 (k2 : Int))).setCell ⟨w.heap.size + 1 + 1 + 1, 0, none⟩ (.bool true)).drew (w.heap.size + 1) 40 (.int .u32 i) := ((hI.set _).other (by omega) _).other (by omega) _
    have hA2 : Boxed (((W.setCell ⟨w.heap.size + 1, 0, none⟩ (.int .u32 i)).setCell ⟨w.heap.size + 1 + 1, 0, none⟩ (.int .i64 (k2 : Int))).setCell ⟨w.heap.size + 1 + 1 + 1, 0, none⟩ (.bool true)).drew (w.heap.size + 1 + 1) 3 (.int .i64 (k2 : Int)) := ((hA.other (by omega) _).set _).other (by omega) _
    have hT2 : Boxed (((W.setCell ⟨w.heap.size + 1, 0, none⟩ (.int .u32 i)).setCell ⟨w.heap.size + 1 + 1, 0, none⟩ (.int .i64 (k2 : Int))).setCell ⟨w.heap.size + 1 + 1 + 1, 0, none⟩ (.bool true)).drew (w.heap.size + 1 + 1 + 1) 4 (.bool true) := ((hT.other (by omega) _).other (by omega) _).set _
    have hB2 : Below w.heap.size w (((W.setCell ⟨w.heap.size + 1, 0, none⟩ (.int .u32 i)).setCell ⟨w.heap.size + 1 + 1, 0, none⟩ (.int .i64 (k2 : Int))).setCell ⟨w.heap.size + 1 + 1 + 1, 0, none⟩ (.bool true)).drew := (((hB.setCell (p := ⟨w.heap.size + 1, 0, none⟩) (by simp) _).setCell (p := ⟨w.heap.size + 1 + 1, 0, none⟩) (by simp; omega) _).setCell (p := ⟨w.heap.size + 1 + 1 + 1, 0, none⟩) (by simp; omega) _).drew
    have hK2 : (((W.setCell ⟨w.heap.size + 1, 0, none⟩ (.int .u32 i)).setCell ⟨w.heap.size + 1 + 1, 0, none⟩ (.int .i64 (k2 : Int))).setCell ⟨w.heap.size + 1 + 1 + 1, 0, none⟩ (.bool true)).drew.heap[D]? = some (.deferred (some [])) := (((KeepsOthers.setCell W ⟨w.heap.size + 1, 0, none⟩ (.int .u32 i)).trans (KeepsOthers.setCell _ ⟨w.heap.size + 1 + 1, 0, none⟩ (.int .i64 (k2 : Int)))).trans (KeepsOthers.setCell _ ⟨w.heap.size + 1 + 1 + 1, 0, none⟩ (.bool true))).same D _ hK rfl
    refine ⟨by simp, .inl ⟨_, _, rfl, run_takeDeferred hK2, ?_⟩⟩
    have c5 := cell_kept hI2.cell (grownBy_putObj' _ D (.deferred none)) (fun r e => by cases e; exact ⟨_, hK2, rfl⟩)
    have c6 := cell_kept hA2.cell (grownBy_putObj' _ D (.deferred none)) (fun r e => by cases e; exact ⟨_, hK2, rfl⟩)
    have c7 := cell_kept hT2.cell (grownBy_putObj' _ D (.deferred none)) (fun r e => by cases e; exact ⟨_, hK2, rfl⟩)
    refine ⟨.tuple #[.int .u32 i, .int .i64 (k2 : Int), .bool true], ?_, (by rw [HE.out]; try rfl), hB2.trans (belowK_b (w := w) (Nat.le_refl _) _ D _ _ (by simp at hD; omega) hK2 rfl rfl)⟩
    simp [results, Tryz.f130, go_sem, c5, c6, c7]
set_option maxRecDepth 100000 in
set_option maxHeartbeats 1000000 in
theorem find_no (n : Nat) (hn : 4 ≤ n) (s nm : ByteArray) (w : World) (hs : s.size ≤ maxLen) (ce : Int) (hce : checkE (L s) = ce) (h0 : ce ≠ 0) :
    CallsIn Fence.wide n Tryz.prog 130 #[.string s, .string nm] w fun e w' => e = .returned (.tuple #[.int .u32 0, .int .i64 0, .bool false]) ∧ Below w.heap.size w w' := by
  have CK := Lib.hid (fun W => check_any s W hs)
  rw [hce] at CK
  have q1 : (ce != 0) = true := by simpa using h0
  have q2 : (ce == 0) = false := by simpa using h0
  clear h0 hce hs
  refine callsIn_of_wp_marks Tryz.func130 rfl trivial ?_ rfl
  simp only [Tryz.ntmps130, List.size_toArray, List.length_cons, List.length_nil, Nat.reduceAdd, Nat.reduceSub, Array.replicate_succ, Array.replicate_zero, List.push_toArray, List.append_toArray, List.nil_append, List.cons_append]
  gi_wp2_with fail
  refine wpIn_scope_w (Lib.hid rfl) ?_
  gi_wp2_with fail
  refine ⟨trivial, (fun h => by cases h), ?_⟩
  refine (callsIn_wide.2 (CK.out _)).mono ?_
  rintro e w5 ⟨rfl, b5⟩
  have bI := Boxed.new (w.alloc (.cells #[.string nm] 9)) 40 (.int .u32 0)
  have bA := Boxed.new ((w.alloc (.cells #[.string nm] 9)).alloc (.cells #[.int .u32 0] 40)) 3 (.int .i64 0)
  have bB := Boxed.new (((w.alloc (.cells #[.string nm] 9)).alloc (.cells #[.int .u32 0] 40)).alloc (.cells #[.int .i64 0] 3)) 4 (.bool false)
  have hB0 : Below w.heap.size w ((((w.alloc (.cells #[.string nm] 9)).alloc (.cells #[.int .u32 0] 40)).alloc (.cells #[.int .i64 0] 3)).alloc (.cells #[.bool false] 4)) := ((((Below.refl _ w).alloc (Nat.le_refl _) _).alloc (by simp) _).alloc (by simp; omega) _).alloc (by simp; omega) _
  have kI : Boxed w5 (w.heap.size + 1) 40 (.int .u32 0) := (b5.block _ (by simp)).trans (by rw [World.size_alloc] at bI; exact (bI.alloc _).alloc _)
  have kA : Boxed w5 (w.heap.size + 1 + 1) 3 (.int .i64 0) := (b5.block _ (by simp)).trans (by rw [World.size_alloc, World.size_alloc] at bA; exact bA.alloc _)
  have kB : Boxed w5 (w.heap.size + 1 + 1 + 1) 4 (.bool false) := (b5.block _ (by simp)).trans (by rw [World.size_alloc, World.size_alloc, World.size_alloc] at bB; exact bB)
  have hB5 : Below w.heap.size w w5 := hB0.trans (b5.mono (by simp; omega))
  have cI := kI.cell
  have fI := kI.frozen
  have cA := kA.cell
  have fA := kA.frozen
  have cT := kB.cell
  have fT := kB.frozen
  have hlt := kB.lt
  clear b5 bI bA bB hB0
  gi_wp2
  rw [Exit.noGoto_ret]
  have hI2 : Boxed (((w5.setCell ⟨w.heap.size + 1, 0, none⟩ (.int .u32 0)).setCell ⟨w.heap.size + 1 + 1, 0, none⟩ (.int .i64 0)).setCell ⟨w.heap.size + 1 + 1 + 1, 0, none⟩ (.bool false)) (w.heap.size + 1) 40 (.int .u32 0) := ((kI.set _).other (by omega) _).other (by omega) _
  have hA2 : Boxed (((w5.setCell ⟨w.heap.size + 1, 0, none⟩ (.int .u32 0)).setCell ⟨w.heap.size + 1 + 1, 0, none⟩ (.int .i64 0)).setCell ⟨w.heap.size + 1 + 1 + 1, 0, none⟩ (.bool false)) (w.heap.size + 1 + 1) 3 (.int .i64 0) := ((kA.other (by omega) _).set _).other (by omega) _
  have hT2 : Boxed (((w5.setCell ⟨w.heap.size + 1, 0, none⟩ (.int .u32 0)).setCell ⟨w.heap.size + 1 + 1, 0, none⟩ (.int .i64 0)).setCell ⟨w.heap.size + 1 + 1 + 1, 0, none⟩ (.bool false)) (w.heap.size + 1 + 1 + 1) 4 (.bool false) := ((kB.other (by omega) _).other (by omega) _).set _
  have c5 := hI2.cell
  have c6 := hA2.cell
  have c7 := hT2.cell
  refine ⟨.tuple #[.int .u32 0, .int .i64 0, .bool false], ?_, rfl, ((hB5.setCell (p := ⟨w.heap.size + 1, 0, none⟩) (by simp) _).setCell (p := ⟨w.heap.size + 1 + 1, 0, none⟩) (by simp; omega) _).setCell (p := ⟨w.heap.size + 1 + 1 + 1, 0, none⟩) (by simp; omega) _⟩
  simp [results, Tryz.f130, go_sem, c5, c6, c7]
theorem find_any (s nm : ByteArray) (w : World) (hs : s.size ≤ maxLen) (hnm : nm.size ≤ maxLen) :
    Calls Tryz.prog 130 #[.string s, .string nm] w fun e w' => e = .returned (.tuple #[.int .u32 (findR (L s) (L nm)).1, .int .i64 (findR (L s) (L nm)).2.1, .bool (findR (L s) (L nm)).2.2]) ∧ Below w.heap.size w w' := by
  by_cases hce : checkE (L s) = 0
  · have := (dir_of hce).1.le
    have h2 := (dir_of hce).2.2
    rw [len_L] at h2
    exact (callsIn_wide (n := 4)).1 (find_in 4 (Nat.le_refl _) s nm w (by omega) hce hnm)
  · have hE : findR (L s) (L nm) = (0, 0, false) := by unfold findR; rw [if_neg hce]
    rw [hE]
    exact (callsIn_wide (n := 4)).1 (find_no 4 (Nat.le_refl _) s nm w hs _ rfl hce)
end Go.Proofs.YtpnfkilfgdnogaaGreatDoor.Dir
end
section
namespace Go.Proofs.YtpnfkilfgdnogaaGreatDoor.Dir
set_option linter.unusedVariables false
set_option linter.unusedSimpArgs false
open Go.RowKit Go.Shelf Oct Path
def delR (s n : List UInt8) : List UInt8 × Nat × Int :=
  if checkE s = 0 then (if (findR s n).2.2 = true then (putL s (findR s n).2.1 freeL, (findR s n).1, 0) else ([], 0, 3)) else ([], 0, checkE s)
theorem findR_is {s n : List UInt8} (h : (findR s n).2.2 = true) : checkE s = 0 ∧ s.length ≤ 2304 ∧ findK n (slotsL s) = some (findR s n).2.1 ∧ 32 * ((findR s n).2.1 + 1) ≤ s.length ∧ isName n = true ∧ (findR s n).1 = inoOf n (slotsL s) := by
  unfold findR at h ⊢
  by_cases hc : checkE s = 0
  · rw [if_pos hc] at h ⊢
    obtain ⟨d1, d2, d3⟩ := dir_of hc
    cases hf : findK n (slotsL s) with
    | none => rw [hf] at h; simp at h
    | some k =>
      obtain ⟨hk, k0, k1⟩ := find_some hf
      have hle := d1.le
      refine ⟨hc, by omega, rfl, by simp only; omega, ?_, ?_⟩
      · have := (may_name (okE_may (d1.ok _ (List.getElem_mem hk)) k0).1).2
        rw [k1] at this
        exact this
      · unfold inoOf
        rw [hf]
  · rw [if_neg hc] at h
    simp at h
set_option maxRecDepth 100000 in
set_option maxHeartbeats 1000000 in
theorem del_any (s nm : ByteArray) (w : World) (hs : s.size ≤ maxLen) (hnm : nm.size ≤ maxLen) :
    Calls Tryz.prog 79 #[.string s, .string nm] w fun e w' => e = .returned (.tuple #[.string (B (delR (L s) (L nm)).1), .int .u32 (delR (L s) (L nm)).2.1, .int .i64 (delR (L s) (L nm)).2.2]) ∧ Below w.heap.size w w' := by
  have CK := Lib.hid (fun W => check_any s W hs)
  have FD := Lib.hid (fun W => find_any s nm W hs hnm)
  by_cases hc : checkE (L s) = 0
  · have e0 : delR (L s) (L nm) = (if (findR (L s) (L nm)).2.2 = true then (putL (L s) (findR (L s) (L nm)).2.1 freeL, (findR (L s) (L nm)).1, 0) else ([], 0, 3)) := by unfold delR; rw [if_pos hc]
    rw [hc] at CK
    cases hq : (findR (L s) (L nm)).2.2 with
    | false =>
      rw [hq] at e0
      rw [e0, if_neg (by simp)]
      rw [hq] at FD
      generalize (findR (L s) (L nm)).1 = fi at *
      generalize (findR (L s) (L nm)).2.1 = fk at *
      clear e0 hc hq hs hnm
      go_enter Tryz.func79, Tryz.ntmps79
      go_wp2_with fail
      refine (CK.out _).mono ?_
      rintro e w1 ⟨rfl, b1⟩
      go_wp2_with fail
      refine (FD.out _).mono ?_
      rintro e w2 ⟨rfl, b2⟩
      go_wp2
      go_ret3
      exact ⟨rfl, b1.trans (b2.mono b1.size)⟩
    | true =>
      obtain ⟨x1, hle, x3, hk, x5, x6⟩ := findR_is hq
      clear x1 x3 x5 x6
      rw [hq] at e0
      rw [e0, if_pos rfl]
      rw [hq] at FD
      rw [len_L] at hle hk
      have FR := Lib.hid (fun W => free_any W)
      have PT := Lib.hid (fun W => put_any s (B freeL) (findR (L s) (L nm)).2.1 W (by omega) (by rw [size_B, len_free]; omega) hk)
      rw [L_B] at PT
      generalize (findR (L s) (L nm)).1 = fi at *
      generalize (findR (L s) (L nm)).2.1 = fk at *
      generalize B (putL (L s) fk freeL) = res at *
      generalize B freeL = fr at *
      clear e0 hc hq hs hnm hle hk
      go_enter Tryz.func79, Tryz.ntmps79
      go_wp2_with fail
      refine (CK.out _).mono ?_
      rintro e w1 ⟨rfl, b1⟩
      go_wp2_with fail
      refine (FD.out _).mono ?_
      rintro e w2 ⟨rfl, b2⟩
      go_wp2_with fail
      refine (FR.out _).mono ?_
      rintro e w3 ⟨rfl, b3⟩
      go_wp2_with fail
      refine (PT.out _).mono ?_
      rintro e w4 ⟨rfl, n4, rfl⟩
      go_wp2
      go_ret3
      exact ⟨rfl, (b1.trans ((b2.trans (b3.mono b2.size)).mono b1.size)).trans (Oct.below_drewN _ _ _)⟩
  · have e0 : delR (L s) (L nm) = ([], 0, checkE (L s)) := by unfold delR; rw [if_neg hc]
    rw [e0]
    have q1 : (checkE (L s) != 0) = true := by simpa using hc
    have q2 : (checkE (L s) == 0) = false := by simpa using hc
    generalize checkE (L s) = ce at *
    clear e0 hc hs hnm FD
    go_enter Tryz.func79, Tryz.ntmps79
    go_wp2_with fail
    refine (CK.out _).mono ?_
    rintro e w1 ⟨rfl, b1⟩
    go_wp2
    go_ret3
    exact ⟨rfl, b1⟩
end Go.Proofs.YtpnfkilfgdnogaaGreatDoor.Dir
end
section
namespace Go.Proofs.YtpnfkilfgdnogaaGreatDoor.Dir
set_option linter.unusedVariables false
set_option linter.unusedSimpArgs false
open Go.RowKit Go.Shelf Oct Path
theorem below_drew (w : World) (n : Nat) : Below n w w.drew := ⟨rfl, rfl, rfl, Nat.le_refl _, fun _ _ => rfl⟩
attribute [local go_sem] Oper.semAt_some
def addR (s n : List UInt8) (i : Nat) : List UInt8 × Int :=
  if checkE s = 0 then (if may (n, i) = true then (if (findR s n).2.2 = true then ([], 9) else match freeK (slotsL s) with
    | some k => (putL s k (slotL (n, i)), 0)
    | none => if 2304 ≤ s.length then ([], 4) else (s ++ slotL (n, i) ++ freeL, 0)) else ([], 2)) else ([], checkE s)
theorem not_any (e : Int) (w : World) : Calls Tryz.prog 127 #[.int .i64 e] w fun q w' => q = .returned (.tuple #[.string ⟨#[]⟩, .int .i64 e]) ∧ w = w' := by
  go_enter Tryz.func127, Tryz.ntmps127
  go_wp2
  go_ret2
  exact ⟨rfl, rfl⟩
theorem free_bound {s : ByteArray} {k : Nat} (h : (entAt s k).2 = 0) : k < s.size / 32 := by
  by_cases hk : k < s.size / 32
  · exact hk
  · exfalso
    have hl : (partL (L s) k).length < 32 := by
      unfold partL
      rw [List.length_take, List.length_drop, len_L]
      omega
    unfold entAt entL at h
    cases hr : readL (partL (L s) k) with
    | none => rw [hr] at h; simp at h
    | some e =>
      obtain ⟨h1, h2⟩ := enc_read hr
      have := len_enc h1
      rw [h2] at this
      omega
theorem freeK_none_of {s : ByteArray} (h : ∀ k ∈ List.range (s.size / 32), (entAt s k).2 ≠ 0) : freeK (slotsL (L s)) = none := by
  refine List.findIdx?_eq_none_iff.2 (fun e he => ?_)
  rw [← ents_all] at he
  obtain ⟨k, hk, rfl⟩ := List.mem_map.1 he
  simpa using h k hk
theorem freeK_some_of {s : ByteArray} {k : Nat} (hh : (entAt s k).2 = 0) (h : ∀ j, j < k → (entAt s j).2 ≠ 0) : freeK (slotsL (L s)) = some k := by
  have hk := free_bound hh
  have hl : (slotsL (L s)).length = s.size / 32 := by rw [← ents_all]; simp [entsAt]
  have hg : ∀ j (hj : j < (slotsL (L s)).length), (slotsL (L s))[j] = entAt s j := fun j hj => by simp [← ents_all, entsAt]
  refine List.findIdx?_eq_some_iff_getElem.2 ⟨by omega, by rw [hg]; simpa using hh, fun j hj => ?_⟩
  rw [hg]
  simpa using h j hj
structure AS (w W : World) (s nm : ByteArray) (i : Nat) : Prop where
  bS : Boxed W w.heap.size 9 (.string s)
  rS : Boxed W (w.heap.size + 1) 9 (.string ⟨#[]⟩)
  rE : Boxed W (w.heap.size + 1 + 1) 32 (.int .i64 0)
  y : SBox W (w.heap.size + 1 + 1 + 1) 216 #[.string nm, .int .u32 i]
  bel : Below w.heap.size w W
theorem AS.lt {w W : World} {s nm : ByteArray} {i : Nat} (h : AS w W s nm i) : w.heap.size + 1 + 1 + 1 < W.heap.size := h.y.lt
theorem AS.later {w W W' : World} {s nm : ByteArray} {i : Nat} (h : AS w W s nm i) (b : Below W.heap.size W W') : AS w W' s nm i :=
  ⟨(b.block _ h.bS.lt).trans h.bS, (b.block _ h.rS.lt).trans h.rS, (b.block _ h.rE.lt).trans h.rE, h.y.later b, h.bel.trans (b.mono (by have := h.lt; omega))⟩
theorem AS.start (w : World) (s nm : ByteArray) (i : Nat) : AS w ((((w.alloc (.cells #[.string s] 9)).alloc (.cells #[.string ⟨#[]⟩] 9)).alloc (.cells #[.int .i64 0] 32)).alloc (.cells #[.string nm, .int .u32 i] 216)) s nm i := by
  have h1 := Boxed.new w 9 (.string s)
  have h2 := Boxed.new (w.alloc (.cells #[.string s] 9)) 9 (.string ⟨#[]⟩)
  have h3 := Boxed.new ((w.alloc (.cells #[.string s] 9)).alloc (.cells #[.string ⟨#[]⟩] 9)) 32 (.int .i64 0)
  have h4 := SBox.new (((w.alloc (.cells #[.string s] 9)).alloc (.cells #[.string ⟨#[]⟩] 9)).alloc (.cells #[.int .i64 0] 32)) 216 #[.string nm, .int .u32 i]
  simp only [World.size_alloc] at h2 h3 h4
  exact ⟨((h1.alloc _).alloc _).alloc _, (h2.alloc _).alloc _, h3.alloc _, h4, ((((Below.refl _ w).alloc (Nat.le_refl _) _).alloc (by simp) _).alloc (by simp; omega) _).alloc (by simp; omega) _⟩
theorem as_own {β : Type} {B : Nat} {w : World} {s nm : ByteArray} {i : Nat} (hB : w.heap.size ≤ B) : OwnFrom B (fun (_ : β) W => AS w W s nm i) := fun _ W W' row h hg hr =>
  ⟨boxed_own1 h.bS hg hr, boxed_own1 h.rS hg hr, boxed_own1 h.rE hg hr, sbox_own h.y hg hr, h.bel.grown hg h.bel.size (fun k e => by have := (hr k e).1; omega)⟩
def AB (w W W1 : World) (s nm : ByteArray) (i : Nat) : Prop := AS w W1 s nm i ∧ Below W.heap.size W W1
theorem AB.later {w W W1 W2 : World} {s nm : ByteArray} {i : Nat} (h : AB w W W1 s nm i) (b : Below W1.heap.size W1 W2) : AB w W W2 s nm i := ⟨h.1.later b, h.2.trans (b.mono h.2.size)⟩
theorem AB.keeps {w W W1 : World} {s nm : ByteArray} {i : Nat} (h : AB w W W1 s nm i) : KeepsOthers W W1 := KeepsOthers.of_grownBy (grown_of_below h.2) (fun j o e => by cases e)
theorem AS.fin {w W : World} {s nm : ByteArray} {i : Nat} (h : AS w W s nm i) (r : ByteArray) (e : Int) :
    Boxed ((W.setCell ⟨w.heap.size + 1, 0, none⟩ (.string r)).setCell ⟨w.heap.size + 1 + 1, 0, none⟩ (.int .i64 e)) (w.heap.size + 1) 9 (.string r) ∧
    Boxed ((W.setCell ⟨w.heap.size + 1, 0, none⟩ (.string r)).setCell ⟨w.heap.size + 1 + 1, 0, none⟩ (.int .i64 e)) (w.heap.size + 1 + 1) 32 (.int .i64 e) ∧
    Below w.heap.size w ((W.setCell ⟨w.heap.size + 1, 0, none⟩ (.string r)).setCell ⟨w.heap.size + 1 + 1, 0, none⟩ (.int .i64 e)) :=
  ⟨(h.rS.set _).other (by omega) _, (h.rE.other (by omega) _).set _, (h.bel.setCell (p := ⟨w.heap.size + 1, 0, none⟩) (by show w.heap.size ≤ w.heap.size + 1; omega) _).setCell (p := ⟨w.heap.size + 1 + 1, 0, none⟩) (by show w.heap.size ≤ w.heap.size + 1 + 1; omega) _⟩
set_option maxRecDepth 100000 in
set_option maxHeartbeats 4000000 in
theorem add_ce (n : Nat) (hn : 4 ≤ n) (s nm : ByteArray) (i : Nat) (w : World) (hs : s.size ≤ maxLen) (hnm : nm.size ≤ maxLen) (ce : Int) (hce : checkE (L s) = ce) (h0 : ce ≠ 0) : CallsIn Fence.wide n Tryz.prog 77 #[.string s, .string nm, .int .u32 i] w fun q w' => q = .returned (.tuple #[.string ⟨#[]⟩, .int .i64 ce]) ∧ Below w.heap.size w w' := by
  have CK := Lib.hid (fun W => check_any s W hs)
  have NA := Lib.hid (fun W => not_any ce W)
  rw [hce] at CK
  have q1 : (ce != 0) = true := by simpa using h0
  have q2 : (ce == 0) = false := by simpa using h0
  clear h0 hce hs
  refine callsIn_of_wp_marks Tryz.func77 rfl trivial ?_ rfl
  simp only [Tryz.ntmps77, List.size_toArray, List.length_cons, List.length_nil, Nat.reduceAdd, Nat.reduceSub, Array.replicate_succ, Array.replicate_zero, List.push_toArray, List.append_toArray, List.nil_append, List.cons_append]
  gi_wp2_with fail
  refine ⟨trivial, (fun h => by cases h), ?_⟩
  refine (callsIn_wide.2 (CK.out _)).mono ?_
  rintro e w5 ⟨rfl, b5⟩
  have g5 := (AS.start w s nm i).later b5
  clear b5
  have pas := g5.bS.cell
  have par := g5.rS.cell
  have parf := g5.rS.frozen
  have pae := g5.rE.cell
  have paef := g5.rE.frozen
  have pay0 := g5.y.cell 0
  have pay1 := g5.y.cell 1
  have pal := g5.lt
  simp only [List.getElem?_toArray, List.getElem?_cons_zero, List.getElem?_cons_succ] at pay0 pay1
  gi_wp2_with fail
  refine ⟨trivial, (fun h => by cases h), ?_⟩
  refine (callsIn_wide.2 (NA.out _)).mono ?_
  rintro e w6 ⟨rfl, rfl⟩
  gi_wp2
  obtain ⟨f1, f2, f3⟩ := g5.fin ⟨#[]⟩ ce
  have c5 := f1.cell
  have c6 := f2.cell
  refine ⟨.tuple #[.string ⟨#[]⟩, .int .i64 ce], ?_, rfl, f3⟩
  simp [results, Tryz.f77, go_sem, c5, c6]
set_option maxRecDepth 100000 in
set_option maxHeartbeats 4000000 in
theorem add_may (n : Nat) (hn : 4 ≤ n) (s nm : ByteArray) (i : Nat) (w : World) (hs : s.size ≤ maxLen) (hnm : nm.size ≤ maxLen) (hce : checkE (L s) = 0) (hm : may (L nm, i) = false) : CallsIn Fence.wide n Tryz.prog 77 #[.string s, .string nm, .int .u32 i] w fun q w' => q = .returned (.tuple #[.string ⟨#[]⟩, .int .i64 2]) ∧ Below w.heap.size w w' := by
  have CK := Lib.hid (fun W => check_any s W hs)
  rw [hce] at CK
  have MY := Lib.hid (fun W => may_any nm i W hnm)
  rw [hm] at MY
  have NA := Lib.hid (fun W => not_any 2 W)
  clear hce hs hm
  refine callsIn_of_wp_marks Tryz.func77 rfl trivial ?_ rfl
  simp only [Tryz.ntmps77, List.size_toArray, List.length_cons, List.length_nil, Nat.reduceAdd, Nat.reduceSub, Array.replicate_succ, Array.replicate_zero, List.push_toArray, List.append_toArray, List.nil_append, List.cons_append]
  gi_wp2_with fail
  refine ⟨trivial, (fun h => by cases h), ?_⟩
  refine (callsIn_wide.2 (CK.out _)).mono ?_
  rintro e w5 ⟨rfl, b5⟩
  have g5 := (AS.start w s nm i).later b5
  clear b5
  have pas := g5.bS.cell
  have par := g5.rS.cell
  have parf := g5.rS.frozen
  have pae := g5.rE.cell
  have paef := g5.rE.frozen
  have pay0 := g5.y.cell 0
  have pay1 := g5.y.cell 1
  have pal := g5.lt
  simp only [List.getElem?_toArray, List.getElem?_cons_zero, List.getElem?_cons_succ] at pay0 pay1
  gi_wp2_with fail
  refine ⟨trivial, (fun h => by cases h), ?_⟩
  refine (callsIn_wide.2 (MY.out _)).mono ?_
  rintro e w6 ⟨rfl, b6⟩
  have g6 := g5.later b6
  clear pas par parf pae paef pay0 pay1 pal
  clear b6 g5
  have pbs := g6.bS.cell
  have pbr := g6.rS.cell
  have pbrf := g6.rS.frozen
  have pbe := g6.rE.cell
  have pbef := g6.rE.frozen
  have pby0 := g6.y.cell 0
  have pby1 := g6.y.cell 1
  have pbl := g6.lt
  simp only [List.getElem?_toArray, List.getElem?_cons_zero, List.getElem?_cons_succ] at pby0 pby1
  gi_wp2_with fail
  refine ⟨trivial, (fun h => by cases h), ?_⟩
  refine (callsIn_wide.2 (NA.out _)).mono ?_
  rintro e w7 ⟨rfl, rfl⟩
  gi_wp2
  obtain ⟨f1, f2, f3⟩ := g6.fin ⟨#[]⟩ 2
  have c5 := f1.cell
  have c6 := f2.cell
  refine ⟨.tuple #[.string ⟨#[]⟩, .int .i64 2], ?_, rfl, f3⟩
  simp [results, Tryz.f77, go_sem, c5, c6]
set_option maxRecDepth 100000 in
set_option maxHeartbeats 4000000 in
theorem add_have (n : Nat) (hn : 4 ≤ n) (s nm : ByteArray) (i : Nat) (w : World) (hs : s.size ≤ maxLen) (hnm : nm.size ≤ maxLen) (hce : checkE (L s) = 0) (hm : may (L nm, i) = true) (hq : (findR (L s) (L nm)).2.2 = true) : CallsIn Fence.wide n Tryz.prog 77 #[.string s, .string nm, .int .u32 i] w fun q w' => q = .returned (.tuple #[.string ⟨#[]⟩, .int .i64 9]) ∧ Below w.heap.size w w' := by
  have CK := Lib.hid (fun W => check_any s W hs)
  rw [hce] at CK
  have MY := Lib.hid (fun W => may_any nm i W hnm)
  rw [hm] at MY
  have NA := Lib.hid (fun W => not_any 9 W)
  have FD := Lib.hid (fun W => find_any s nm W hs hnm)
  rw [hq] at FD
  generalize (findR (L s) (L nm)).1 = fi at *
  generalize (findR (L s) (L nm)).2.1 = fk at *
  clear hce hs hm hq
  refine callsIn_of_wp_marks Tryz.func77 rfl trivial ?_ rfl
  simp only [Tryz.ntmps77, List.size_toArray, List.length_cons, List.length_nil, Nat.reduceAdd, Nat.reduceSub, Array.replicate_succ, Array.replicate_zero, List.push_toArray, List.append_toArray, List.nil_append, List.cons_append]
  gi_wp2_with fail
  refine ⟨trivial, (fun h => by cases h), ?_⟩
  refine (callsIn_wide.2 (CK.out _)).mono ?_
  rintro e w5 ⟨rfl, b5⟩
  have g5 := (AS.start w s nm i).later b5
  clear b5
  have pas := g5.bS.cell
  have par := g5.rS.cell
  have parf := g5.rS.frozen
  have pae := g5.rE.cell
  have paef := g5.rE.frozen
  have pay0 := g5.y.cell 0
  have pay1 := g5.y.cell 1
  have pal := g5.lt
  simp only [List.getElem?_toArray, List.getElem?_cons_zero, List.getElem?_cons_succ] at pay0 pay1
  gi_wp2_with fail
  refine ⟨trivial, (fun h => by cases h), ?_⟩
  refine (callsIn_wide.2 (MY.out _)).mono ?_
  rintro e w6 ⟨rfl, b6⟩
  have g6 := g5.later b6
  clear pas par parf pae paef pay0 pay1 pal
  clear b6 g5
  have pbs := g6.bS.cell
  have pbr := g6.rS.cell
  have pbrf := g6.rS.frozen
  have pbe := g6.rE.cell
  have pbef := g6.rE.frozen
  have pby0 := g6.y.cell 0
  have pby1 := g6.y.cell 1
  have pbl := g6.lt
  simp only [List.getElem?_toArray, List.getElem?_cons_zero, List.getElem?_cons_succ] at pby0 pby1
  gi_wp2_with fail
  refine ⟨trivial, (fun h => by cases h), ?_⟩
  refine (callsIn_wide.2 (FD.out _)).mono ?_
  rintro e w7 ⟨rfl, b7⟩
  have g7 := g6.later b7
  clear pbs pbr pbrf pbe pbef pby0 pby1 pbl
  clear b7 g6
  have pcs := g7.bS.cell
  have pcr := g7.rS.cell
  have pcrf := g7.rS.frozen
  have pce := g7.rE.cell
  have pcef := g7.rE.frozen
  have pcy0 := g7.y.cell 0
  have pcy1 := g7.y.cell 1
  have pcl := g7.lt
  simp only [List.getElem?_toArray, List.getElem?_cons_zero, List.getElem?_cons_succ] at pcy0 pcy1
  gi_wp2_with fail
  refine ⟨trivial, (fun h => by cases h), ?_⟩
  refine (callsIn_wide.2 (NA.out _)).mono ?_
  rintro e w8 ⟨rfl, rfl⟩
  gi_wp2
  obtain ⟨f1, f2, f3⟩ := g7.fin ⟨#[]⟩ 9
  have c5 := f1.cell
  have c6 := f2.cell
  refine ⟨.tuple #[.string ⟨#[]⟩, .int .i64 9], ?_, rfl, f3⟩
  simp [results, Tryz.f77, go_sem, c5, c6]
set_option maxRecDepth 100000 in
set_option maxHeartbeats 4000000 in
theorem add_main (n : Nat) (hn : 4 ≤ n) (s nm : ByteArray) (i : Nat) (w : World) (hs : s.size ≤ maxLen) (hnm : nm.size ≤ maxLen) (hce : checkE (L s) = 0) (hm : may (L nm, i) = true) (hi32 : i < 4294967296) (hq : (findR (L s) (L nm)).2.2 = false) (r : List UInt8 × Int) (hr : addR (L s) (L nm) i = r) : CallsIn Fence.wide n Tryz.prog 77 #[.string s, .string nm, .int .u32 i] w fun q w' => q = .returned (.tuple #[.string (B r.1), .int .i64 r.2]) ∧ Below w.heap.size w w' := by
  have CK := Lib.hid (fun W => check_any s W hs)
  rw [hce] at CK
  have MY := Lib.hid (fun W => may_any nm i W hnm)
  rw [hm] at MY
  have FD := Lib.hid (fun W => find_any s nm W hs hnm)
  rw [hq] at FD
  obtain ⟨d1, d2, d3⟩ := dir_of hce
  have hle := d1.le
  rw [len_L] at d3
  have hsz : s.size ≤ 2304 := by omega
  have hnm27 : nm.size ≤ 27 := by have := (name_len (may_name hm).2).2; rw [len_L] at this; exact this
  have SA := Lib.hid (fun W => slots_any s W)
  have SL := Lib.hid (fun W => slot_any nm i W hnm27 hi32)
  have FR := Lib.hid (fun W => free_any W)
  have hslz : (B (slotL (L nm, i))).size = 32 := by rw [size_B, len_slot hm]
  have HR : Hid (r = (match freeK (slotsL (L s)) with | some k => (putL (L s) k (slotL (L nm, i)), 0) | none => if 2304 ≤ (L s).length then ([], 4) else (L s ++ slotL (L nm, i) ++ freeL, 0))) := Lib.hid (by
    rw [← hr]
    unfold addR
    rw [if_pos hce, if_pos hm, if_neg (by rw [hq]; simp)])
  generalize (findR (L s) (L nm)).1 = fi at *
  generalize (findR (L s) (L nm)).2.1 = fk at *
  clear hce hm hq d1 d2 d3 hle hr
  refine callsIn_of_wp_marks Tryz.func77 rfl trivial ?_ rfl
  simp only [Tryz.ntmps77, List.size_toArray, List.length_cons, List.length_nil, Nat.reduceAdd, Nat.reduceSub, Array.replicate_succ, Array.replicate_zero, List.push_toArray, List.append_toArray, List.nil_append, List.cons_append]
  gi_wp2_with fail
  refine ⟨trivial, (fun h => by cases h), ?_⟩
  refine (callsIn_wide.2 (CK.out _)).mono ?_
  rintro e w5 ⟨rfl, b5⟩
  have g5 := (AS.start w s nm i).later b5
  clear b5
  have pas := g5.bS.cell
  have par := g5.rS.cell
  have parf := g5.rS.frozen
  have pae := g5.rE.cell
  have paef := g5.rE.frozen
  have pay0 := g5.y.cell 0
  have pay1 := g5.y.cell 1
  have pal := g5.lt
  simp only [List.getElem?_toArray, List.getElem?_cons_zero, List.getElem?_cons_succ] at pay0 pay1
  gi_wp2_with fail
  refine ⟨trivial, (fun h => by cases h), ?_⟩
  refine (callsIn_wide.2 (MY.out _)).mono ?_
  rintro e w6 ⟨rfl, b6⟩
  have g6 := g5.later b6
  clear pas par parf pae paef pay0 pay1 pal
  clear b6 g5
  have pbs := g6.bS.cell
  have pbr := g6.rS.cell
  have pbrf := g6.rS.frozen
  have pbe := g6.rE.cell
  have pbef := g6.rE.frozen
  have pby0 := g6.y.cell 0
  have pby1 := g6.y.cell 1
  have pbl := g6.lt
  simp only [List.getElem?_toArray, List.getElem?_cons_zero, List.getElem?_cons_succ] at pby0 pby1
  gi_wp2_with fail
  refine ⟨trivial, (fun h => by cases h), ?_⟩
  refine (callsIn_wide.2 (FD.out _)).mono ?_
  rintro e w7 ⟨rfl, b7⟩
  have g7 := g6.later b7
  clear pbs pbr pbrf pbe pbef pby0 pby1 pbl
  clear b7 g6
  have pcs := g7.bS.cell
  have pcr := g7.rS.cell
  have pcrf := g7.rS.frozen
  have pce := g7.rE.cell
  have pcef := g7.rE.frozen
  have pcy0 := g7.y.cell 0
  have pcy1 := g7.y.cell 1
  have pcl := g7.lt
  simp only [List.getElem?_toArray, List.getElem?_cons_zero, List.getElem?_cons_succ] at pcy0 pcy1
  gi_wp2_with fail
  refine ⟨trivial, (fun h => by cases h), ?_⟩
  refine (callsIn_wide.2 (SA.out _)).mono ?_
  rintro e w8 ⟨rfl, rfl⟩
  gi_wp2_with fail
  have bS := Boxed.new w7 9 (.string s)
  have G7 := Lib.hid g7
  have hl7 := g7.lt
  clear pcs pcr pcrf pce pcef pcy0 pcy1 pcl
  clear g7
  refine wpIn_rangeFunc_ownH rfl (by omega) (gf := 169) (lb := #[.pointer (some ⟨w7.heap.size, 0, none⟩)]) rfl trivial (enters_of Tryz.func169 (by kernel_rfl) rfl)
    (slots_stops (n - 1) (by omega) w7.heap.size s (by omega) _ bS) keptBox_t (keptBox_b (by simp)) (Below.refl _ _) (fun _ => rfl)
    (fun pre W => (∀ k ∈ pre, (entAt s k).2 ≠ 0) ∧ (AS w W s nm i ∧ w7.heap.size + 1 ≤ W.heap.size))
    (fun c pre W => (c = .ret ∧ ∃ ini k, pre = ini ++ [k] ∧ (∀ j ∈ ini, (entAt s j).2 ≠ 0) ∧ (entAt s k).2 = 0) ∧ ((∃ k, pre.getLast? = some k ∧ Boxed W (w.heap.size + 1) 9 (.string (B (putL (L s) k (slotL (L nm, i))))) ∧ Boxed W (w.heap.size + 1 + 1) 32 (.int .i64 0)) ∧ Below w.heap.size w W))
    (OwnFrom.and (ownFrom_pure _ _) (OwnFrom.and (as_own (by simp; omega)) (size_own _)))
    (fun c => OwnFrom.and (ownFrom_pure _ _) (OwnFrom.and (fun pre W W' row hs hg hr => by
      obtain ⟨k, h1, h2, h3⟩ := hs
      exact ⟨k, h1, boxed_own1 h2 hg hr, boxed_own1 h3 hg hr⟩) (ownFrom_below (Nat.le_refl _) (by simp; omega))))
    ⟨fun p hp => by simp at hp, G7.out.later ((Below.refl _ _).alloc (Nat.le_refl _) _), by simp⟩
    (fun k a' W => ∃ b, w7.heap.size + 1 ≤ b ∧ SBox W b 216 #[.string (B (entAt s k).1), .int .u32 (entAt s k).2] ∧ a' = { tmps := #[.string s, .string nm, .int .u32 i, .pointer (some ⟨w.heap.size, 0, none⟩), undef, undef, .pointer (some ⟨w.heap.size + 1, 0, none⟩), .pointer (some ⟨w.heap.size + 1 + 1, 0, none⟩), .func (.func 127) #[] #[], .pointer (some ⟨w.heap.size + 1 + 1 + 1, 0, none⟩), .int .i64 0, .int .u32 fi, .int .i64 fk, .bool false, .int .i64 (k : Int), .pointer (some ⟨b, 0, none⟩), .string nm, .int .u32 i, .agg #[.string nm, .int .u32 i], .string s, .int .i64 0, .int .i64 0, .bool false, undef, undef, undef, undef, undef, .agg #[.string nm, .int .u32 i], .bool true, .bool false, undef, undef, undef, undef, .tuple #[.int .u32 fi, .int .i64 fk, .bool false], .string s, .string nm, .tuple #[.int .u32 fi, .int .i64 fk, .bool false], .int .u32 fi, .int .i64 fk, .bool false, .bool false, undef, undef, undef, undef, .string s, .func (.func 169) #[] #[.pointer (some ⟨w7.heap.size, 0, none⟩)], .int .i64 (k : Int), .agg #[.string (B (entAt s k).1), .int .u32 (entAt s k).2], undef, undef, undef, undef, undef, undef, undef, undef, undef, undef, undef, undef, undef, undef, undef, undef, undef, undef, undef, undef, undef], defers := [] })
    (fun k a' => fun _ W W' row hs hg hr => by
      obtain ⟨b, h1, h2, h3⟩ := hs
      exact ⟨b, h1, sbox_own h2 hg hr, h3⟩) ?assign ?body ?done ?stop
  case assign =>
    rintro l pre k W K ⟨hp, hA, hz⟩ hK
    rw [show slotPair (L s) k = (k, entAt s k) from rfl]
    dsimp only [slotArgs]
    have HK := Lib.hid hK
    clear hK
    gi_wp2
    exact HK.out _ _ ((KeepsOthers.alloc _ _).from _) (fun v hv => hv.alloc _) ⟨hp, hA.later ((Below.refl _ _).alloc (Nat.le_refl _) _), by simp; omega⟩ ⟨W.heap.size, hz, SBox.new _ _ _, rfl⟩
  case body =>
    rintro l pre k a' W hl hloop ⟨hp, hA, hz⟩ ⟨b, hb, hS, rfl⟩ hlen
    have c0 := hS.cell 0
    have c1 := hS.cell 1
    simp only [List.getElem?_toArray, List.getElem?_cons_zero, List.getElem?_cons_succ] at c0 c1
    have hlt := hS.lt
    have HFB : Hid ((entAt s k).2 = 0 → k < s.size / 32) := Lib.hid free_bound
    have HSN : Hid ((entAt s k).2 ≠ 0 → ∀ q ∈ pre ++ [k], (entAt s q).2 ≠ 0) := Lib.hid (fun hk q hq => by
      rcases List.mem_append.1 hq with h1 | h1
      · exact hp q h1
      · simp only [List.mem_cons, List.not_mem_nil, or_false] at h1
        rw [h1]; exact hk)
    have HP := Lib.hid hp
    clear hl hloop hp hlen bS CK MY FD SA
    obtain ⟨nmL, hnmL⟩ : ∃ x, (entAt s k).1 = x := ⟨_, rfl⟩
    obtain ⟨j, hj⟩ : ∃ x, (entAt s k).2 = x := ⟨_, rfl⟩
    rw [hnmL] at c0
    rw [hj] at c1
    rw [hnmL, hj]
    have HJ := Lib.hid hj
    clear hj hnmL
    by_cases h0 : j = 0
    · subst h0
      have hkb := HFB.out HJ.out
      have PT := Lib.hid (fun V => put_any s (B (slotL (L nm, i))) k V (by omega) (by omega) (by omega))
      rw [L_B] at PT
      obtain ⟨res, hres⟩ : ∃ x, B (putL (L s) k (slotL (L nm, i))) = x := ⟨_, rfl⟩
      obtain ⟨sl, hsl⟩ : ∃ x, B (slotL (L nm, i)) = x := ⟨_, rfl⟩
      rw [hres, hsl] at PT
      rw [hsl] at SL
      have HRES := Lib.hid hres
      have gD := hA.later (below_drew W W.heap.size)
      clear hres hsl hkb
      have dl := gD.lt
      have pds := gD.bS.cell
      have pdr := gD.rS.cell
      have pdrf := gD.rS.frozen
      have pde := gD.rE.cell
      have pdef := gD.rE.frozen
      have pdy0 := gD.y.cell 0
      have pdy1 := gD.y.cell 1
      have pdl := gD.lt
      simp only [List.getElem?_toArray, List.getElem?_cons_zero, List.getElem?_cons_succ] at pdy0 pdy1
      gi_wp2_with fail
      gi_region_with (first | (refine ⟨trivial, (fun h => by cases h), ?_⟩; refine (CallsIn.inRound l (callsIn_wide.2 (SL.out _))).mono ?_; rintro e w9 ⟨rfl, b9⟩; have g9 := gD.later b9; have hbw := (below_drew W W.heap.size).trans b9; have pes := g9.bS.cell; have per := g9.rS.cell; have perf := g9.rS.frozen; have pee := g9.rE.cell; have peef := g9.rE.frozen; have pey0 := g9.y.cell 0; have pey1 := g9.y.cell 1; have pel := g9.lt; simp only [List.getElem?_toArray, List.getElem?_cons_zero, List.getElem?_cons_succ] at pey0 pey1; clear b9) | (refine ⟨trivial, (fun h => by cases h), ?_⟩; refine (CallsIn.inRound l (callsIn_wide.2 (PT.out _))).mono ?_; rintro e w10 ⟨rfl, n10, rfl⟩; have g10 := g9.later (Oct.below_drewN w9 n10 _); have pfs := g10.bS.cell; have pfr := g10.rS.cell; have pfrf := g10.rS.frozen; have pfe := g10.rE.cell; have pfef := g10.rE.frozen; have pfy0 := g10.y.cell 0; have pfy1 := g10.y.cell 1; have pfl := g10.lt; simp only [List.getElem?_toArray, List.getElem?_cons_zero, List.getElem?_cons_succ] at pfy0 pfy1))
      all_goals
        obtain ⟨f1, f2, f3⟩ := g10.fin res 0
        have HF1 := Lib.hid f1
        have HF2 := Lib.hid f2
        have HF3 := Lib.hid f3
        have HKF := Lib.hid ((KeepsOthers.of_grownBy (grown_of_below (hbw.trans (Oct.below_drewN w9 n10 _))) (fun j o e => by cases e)).trans ((KeepsOthers.setCell _ ⟨w.heap.size + 1, 0, none⟩ (.string res)).trans (KeepsOthers.setCell _ ⟨w.heap.size + 1 + 1, 0, none⟩ (.int .i64 0))))
        clear f1 f2 f3 hbw g10 g9 gD hA
        gi_wp2
        exact ⟨HKF.out.from _, ⟨⟨rfl, pre, k, rfl, HP.out, HJ.out⟩, ⟨k, by simp, by rw [HRES.out]; exact HF1.out, HF2.out⟩, HF3.out⟩⟩
    · have t0 : ((j : Int) == 0) = false := by simp; omega
      have t1 : (j == 0) = false := by simp; omega
      have E3 := Lib.hid (HSN.out (by rw [HJ.out]; exact h0))
      clear h0
      gi_wp2
      exact ⟨KeepsFrom.refl _ _, KeptBox.refl _ _ _, ⟨E3.out, hA, hz⟩⟩
  case done =>
    rintro D ys W hD rfl ⟨hp, hA, hz⟩ hK
    have hrf := freeK_none_of hp
    have hR2 := HR.out
    rw [hrf] at hR2
    have HR2 := Lib.hid hR2
    have HK := Lib.hid hK
    clear hp hrf hR2 CK MY FD SA bS hK
    have pgs := hA.bS.cell
    have pgr := hA.rS.cell
    have pgrf := hA.rS.frozen
    have pge := hA.rE.cell
    have pgef := hA.rE.frozen
    have pgy0 := hA.y.cell 0
    have pgy1 := hA.y.cell 1
    have pgl := hA.lt
    simp only [List.getElem?_toArray, List.getElem?_cons_zero, List.getElem?_cons_succ] at pgy0 pgy1
    by_cases hfull : 2304 ≤ s.size
    · have t0 : decide ((2304 : Int) ≤ (s.size : Int)) = true := by simp; omega
      have t1 : decide (2304 ≤ s.size) = true := by simp; omega
      have NA := Lib.hid (fun V => not_any 4 V)
      have HR3 : Hid (r = ([], 4)) := Lib.hid (by rw [HR2.out, if_pos (show 2304 ≤ (L s).length from hfull)])
      clear hfull
      gi_wp2_with fail
      refine ⟨trivial, (fun h => by cases h), ?_⟩
      refine (callsIn_wide.2 (NA.out _)).mono ?_
      rintro e w9 ⟨rfl, rfl⟩
      obtain ⟨f1, f2, f3⟩ := hA.fin ⟨#[]⟩ 4
      have HF1 := Lib.hid f1
      have HF2 := Lib.hid f2
      have HF3 := Lib.hid f3
      clear f1 f2 f3 hA
      gi_wp2
      have hK2 := ((KeepsOthers.setCell W ⟨w.heap.size + 1, 0, none⟩ (.string ⟨#[]⟩)).trans (KeepsOthers.setCell _ ⟨w.heap.size + 1 + 1, 0, none⟩ (.int .i64 4))).same D _ HK.out rfl
      refine ⟨by simp, .inl ⟨_, _, rfl, run_takeDeferred hK2, ?_⟩⟩
      have c5 := cell_kept HF1.out.cell (grownBy_putObj' _ D (.deferred none)) (fun r e => by cases e; exact ⟨_, hK2, rfl⟩)
      have c6 := cell_kept HF2.out.cell (grownBy_putObj' _ D (.deferred none)) (fun r e => by cases e; exact ⟨_, hK2, rfl⟩)
      refine ⟨.tuple #[.string ⟨#[]⟩, .int .i64 4], ?_, by rw [HR3.out]; rfl, HF3.out.trans (belowK_b (w := w) (Nat.le_refl _) _ D _ _ (by simp at hD; omega) hK2 rfl rfl)⟩
      simp [results, Tryz.f77, go_sem, c5, c6]
    · have t0 : decide ((2304 : Int) ≤ (s.size : Int)) = false := by simp; omega
      have t1 : decide (2304 ≤ s.size) = false := by simp; omega
      obtain ⟨sl, hsl⟩ : ∃ x, B (slotL (L nm, i)) = x := ⟨_, rfl⟩
      obtain ⟨fr, hfr⟩ : ∃ x, B freeL = x := ⟨_, rfl⟩
      have hfz : fr.size = 32 := by rw [← hfr, size_B, len_free]
      have HR3 : Hid (r = (L (s ++ sl ++ fr), 0)) := Lib.hid (by
        rw [HR2.out, if_neg (show ¬ 2304 ≤ (L s).length from hfull), ← hsl, ← hfr, append_B, append_B, L_B, L_B, L_B, L_B])
      rw [hsl] at SL hslz
      rw [hfr] at FR
      have z1 : s.size + sl.size ≤ 3000 := by omega
      have z2 : (s ++ sl).size ≤ 3000 := by rw [append_B, size_B, List.length_append, len_L, len_L]; omega
      have z3 : fr.size ≤ 40 := by omega
      have z4 : sl.size ≤ 40 := by omega
      have gD := hA.later (below_drew W W.heap.size)
      clear hfull hsl hfr hfz hslz
      have pds := gD.bS.cell
      have pdr := gD.rS.cell
      have pdrf := gD.rS.frozen
      have pde := gD.rE.cell
      have pdef := gD.rE.frozen
      have pdy0 := gD.y.cell 0
      have pdy1 := gD.y.cell 1
      have pdl := gD.lt
      simp only [List.getElem?_toArray, List.getElem?_cons_zero, List.getElem?_cons_succ] at pdy0 pdy1
      gi_wp2_with fail
      have ab0 : AB w W W.drew s nm i := ⟨gD, below_drew W _⟩
      gi_region_with (first | (refine ⟨trivial, (fun h => by cases h), ?_⟩; refine (callsIn_wide.2 (SL.out _)).mono ?_; rintro e w9 ⟨rfl, b9⟩; have ab1 := AB.later (w := w) (W := W) (s := s) (nm := nm) (i := i) (by assumption) b9; have pjs := ab1.1.bS.cell; have pjr := ab1.1.rS.cell; have pjrf := ab1.1.rS.frozen; have pje := ab1.1.rE.cell; have pjef := ab1.1.rE.frozen; have pjy0 := ab1.1.y.cell 0; have pjy1 := ab1.1.y.cell 1; have pjl := ab1.1.lt; simp only [List.getElem?_toArray, List.getElem?_cons_zero, List.getElem?_cons_succ] at pjy0 pjy1; clear b9) | (refine ⟨trivial, (fun h => by cases h), ?_⟩; refine (callsIn_wide.2 (FR.out _)).mono ?_; rintro e w9 ⟨rfl, b9⟩; have ab2 := AB.later (w := w) (W := W) (s := s) (nm := nm) (i := i) (by assumption) b9; have pks := ab2.1.bS.cell; have pkr := ab2.1.rS.cell; have pkrf := ab2.1.rS.frozen; have pke := ab2.1.rE.cell; have pkef := ab2.1.rE.frozen; have pky0 := ab2.1.y.cell 0; have pky1 := ab2.1.y.cell 1; have pkl := ab2.1.lt; simp only [List.getElem?_toArray, List.getElem?_cons_zero, List.getElem?_cons_succ] at pky0 pky1; clear b9))
      all_goals
        first
        | (obtain ⟨f1, f2, f3⟩ := ab1.1.fin (s ++ sl ++ fr) 0
           have hkf := ab1.keeps.trans ((KeepsOthers.setCell _ ⟨w.heap.size + 1, 0, none⟩ (.string (s ++ sl ++ fr))).trans (KeepsOthers.setCell _ ⟨w.heap.size + 1 + 1, 0, none⟩ (.int .i64 0)))
           have HF1 := Lib.hid f1
           have HF2 := Lib.hid f2
           have HF3 := Lib.hid f3
           have HKF := Lib.hid hkf
           clear f1 f2 f3 hkf ab0 ab1 ab2
           gi_wp2
           have hK2 := HKF.out.same D _ HK.out rfl
           refine ⟨by simp, .inl ⟨_, _, rfl, run_takeDeferred hK2, ?_⟩⟩
           have c5 := cell_kept HF1.out.cell (grownBy_putObj' _ D (.deferred none)) (fun r e => by cases e; exact ⟨_, hK2, rfl⟩)
           have c6 := cell_kept HF2.out.cell (grownBy_putObj' _ D (.deferred none)) (fun r e => by cases e; exact ⟨_, hK2, rfl⟩)
           refine ⟨.tuple #[.string (s ++ sl ++ fr), .int .i64 0], ?_, by rw [HR3.out]; rfl, HF3.out.trans (belowK_b (w := w) (Nat.le_refl _) _ D _ _ (by simp at hD; omega) hK2 rfl rfl)⟩
           simp [results, Tryz.f77, go_sem, c5, c6])
        | (obtain ⟨f1, f2, f3⟩ := ab2.1.fin (s ++ sl ++ fr) 0
           have hkf := ab2.keeps.trans ((KeepsOthers.setCell _ ⟨w.heap.size + 1, 0, none⟩ (.string (s ++ sl ++ fr))).trans (KeepsOthers.setCell _ ⟨w.heap.size + 1 + 1, 0, none⟩ (.int .i64 0)))
           have HF1 := Lib.hid f1
           have HF2 := Lib.hid f2
           have HF3 := Lib.hid f3
           have HKF := Lib.hid hkf
           clear f1 f2 f3 hkf ab0 ab1 ab2
           gi_wp2
           have hK2 := HKF.out.same D _ HK.out rfl
           refine ⟨by simp, .inl ⟨_, _, rfl, run_takeDeferred hK2, ?_⟩⟩
           have c5 := cell_kept HF1.out.cell (grownBy_putObj' _ D (.deferred none)) (fun r e => by cases e; exact ⟨_, hK2, rfl⟩)
           have c6 := cell_kept HF2.out.cell (grownBy_putObj' _ D (.deferred none)) (fun r e => by cases e; exact ⟨_, hK2, rfl⟩)
           refine ⟨.tuple #[.string (s ++ sl ++ fr), .int .i64 0], ?_, by rw [HR3.out]; rfl, HF3.out.trans (belowK_b (w := w) (Nat.le_refl _) _ D _ _ (by simp at hD; omega) hK2 rfl rfl)⟩
           simp [results, Tryz.f77, go_sem, c5, c6])
  case stop =>
    rintro D c pre W hD ⟨m, hm, rfl⟩ ⟨⟨rfl, ini, k, e1, e2, e3⟩, ⟨k2, hk2, hS, hE⟩, hB⟩ hK
    obtain ⟨rfl, rfl⟩ := range_last e1
    obtain rfl : k2 = k := by rw [e1] at hk2; simpa using hk2.symm
    have hf := freeK_some_of (s := s) (k := k2) e3 (fun j hj => e2 j (List.mem_range.2 hj))
    have HR3 : Hid (r = (putL (L s) k2 (slotL (L nm, i)), 0)) := Lib.hid (by rw [HR.out, hf])
    obtain ⟨res, hres⟩ : ∃ x, B (putL (L s) k2 (slotL (L nm, i))) = x := ⟨_, rfl⟩
    rw [hres] at hS
    have HRES := Lib.hid hres
    clear hf e1 e2 e3 hk2 hres
    have cS := hS.cell
    have cE := hE.cell
    gi_wp2
    refine ⟨by simp, .inl ⟨_, _, rfl, run_takeDeferred hK, ?_⟩⟩
    have c5 := cell_kept hS.cell (grownBy_putObj' _ D (.deferred none)) (fun r e => by cases e; exact ⟨_, hK, rfl⟩)
    have c6 := cell_kept hE.cell (grownBy_putObj' _ D (.deferred none)) (fun r e => by cases e; exact ⟨_, hK, rfl⟩)
    refine ⟨.tuple #[.string res, .int .i64 0], ?_, by rw [HR3.out, ← HRES.out], hB.trans (belowK_b (w := w) (Nat.le_refl _) _ D _ _ (by simp at hD; omega) hK rfl rfl)⟩
    simp [results, Tryz.f77, go_sem, c5, c6]
theorem add_any (s nm : ByteArray) (i : Nat) (w : World) (hs : s.size ≤ maxLen) (hnm : nm.size ≤ maxLen) (hi : i < 4294967296) :
    Calls Tryz.prog 77 #[.string s, .string nm, .int .u32 i] w fun q w' => q = .returned (.tuple #[.string (B (addR (L s) (L nm) i).1), .int .i64 (addR (L s) (L nm) i).2]) ∧ Below w.heap.size w w' := by
  by_cases hce : checkE (L s) = 0
  · cases hm : may (L nm, i) with
    | false =>
      have e : addR (L s) (L nm) i = ([], 2) := by unfold addR; rw [if_pos hce, if_neg (by rw [hm]; simp)]
      rw [e]
      exact (callsIn_wide (n := 4)).1 (add_may 4 (Nat.le_refl _) s nm i w hs hnm hce hm)
    | true =>
      cases hq : (findR (L s) (L nm)).2.2 with
      | true =>
        have e : addR (L s) (L nm) i = ([], 9) := by unfold addR; rw [if_pos hce, if_pos hm, if_pos hq]
        rw [e]
        exact (callsIn_wide (n := 4)).1 (add_have 4 (Nat.le_refl _) s nm i w hs hnm hce hm hq)
      | false => exact (callsIn_wide (n := 4)).1 (add_main 4 (Nat.le_refl _) s nm i w hs hnm hce hm hi hq _ rfl)
  · have e : addR (L s) (L nm) i = ([], checkE (L s)) := by unfold addR; rw [if_neg hce]
    rw [e]
    exact (callsIn_wide (n := 4)).1 (add_ce 4 (Nat.le_refl _) s nm i w hs hnm _ rfl hce)
end Go.Proofs.YtpnfkilfgdnogaaGreatDoor.Dir
end
section
namespace Go.Proofs.YtpnfkilfgdnogaaGreatDoor.Dir
set_option linter.unusedVariables false
open Oct Path
def resL (r : Int × List Ent) : List UInt8 × Int := (if r.1 = 0 then encL r.2 else [], r.1)
theorem findR_enc {es : List Ent} (d : Dir es) (n : List UInt8) : (findR (encL es) n).1 = inoOf n es ∧ (findR (encL es) n).2.2 = decide (inoOf n es ≠ 0) ∧ findK n es = (if (findR (encL es) n).2.2 = true then some (findR (encL es) n).2.1 else none) := by
  unfold findR
  rw [if_pos (check_enc d), slots_enc d.ok]
  cases hf : findK n es with
  | none =>
    have := ino_none hf
    simp [this]
  | some k =>
    obtain ⟨hk, h1, h2⟩ := ino_some hf
    simp only [h1]
    refine ⟨?_, ?_, by simp⟩
    · simp [List.getD_eq_getElem?_getD, List.getElem?_eq_getElem hk]
    · rw [h1] at h2
      simp [h2]
theorem addR_enc {es : List Ent} (d : Dir es) (n : List UInt8) (i : Nat) (hi : i < 4294967296) : addR (encL es) n i = resL (addL n i es) := by
  unfold addR addL resL
  rw [if_pos (check_enc d), slots_enc d.ok, len_encL d.ok]
  obtain ⟨f1, f2, f3⟩ := findR_enc d n
  cases hm : may (n, i) with
  | false => simp
  | true =>
    have okN : OkE (n, i) := .inr ⟨hm, hi⟩
    have hen : slotL (n, i) = encE (n, i) := by unfold encE; rw [if_neg (may_name hm).1]
    simp only [if_true]
    rw [f3]
    cases hq : (findR (encL es) n).2.2 with
    | true => simp
    | false =>
      simp only [Bool.false_eq_true, if_false]
      cases hk : freeK es with
      | some k =>
        obtain ⟨hk1, hk2⟩ := free_some hk
        have hp := put_enc d.ok okN hk1
        rw [hen]
        simp [hp]
      | none =>
        by_cases hf : 72 ≤ es.length
        · rw [if_pos (by omega), if_pos hf]; simp
        · rw [if_neg (by omega), if_neg hf]
          have h2 : encL (es ++ [((n, i) : Ent), ([], 0)]) = encL es ++ encE (n, i) ++ freeL := by
            rw [encL_append, List.append_assoc]
            congr 1
          rw [hen, ← h2]
          simp
theorem delR_enc {es : List Ent} (d : Dir es) (n : List UInt8) : delR (encL es) n = ((resL (delL n es)).1, (if (delL n es).1 = 0 then inoOf n es else 0), (delL n es).1) := by
  unfold delR delL resL
  rw [if_pos (check_enc d)]
  obtain ⟨f1, f2, f3⟩ := findR_enc d n
  rw [f3]
  cases hq : (findR (encL es) n).2.2 with
  | false => simp
  | true =>
    rw [hq] at f3
    simp only [if_true] at f3 ⊢
    obtain ⟨hk, k0, k1⟩ := find_some f3
    rw [show freeL = encE ([], 0) from rfl, put_enc d.ok (.inl rfl) hk, f1]
theorem enc_size {es : List Ent} (d : Dir es) : (B (encL es)).size % 64 = 0 ∧ (B (encL es)).size ≤ 2304 := by
  rw [size_B, len_encL d.ok]
  have h1 := d.le
  have h2 := d.even
  omega
end Go.Proofs.YtpnfkilfgdnogaaGreatDoor.Dir
end
