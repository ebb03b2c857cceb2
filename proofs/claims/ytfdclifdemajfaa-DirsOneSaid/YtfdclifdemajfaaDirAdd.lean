/- Layer 10: the walk of dirs.Add. -/
import Derived.Test.YtfdclifdemajfaaDirOps
import Derived.Stop.RegionWithIn
namespace Go.Proofs.Ytfdclifdemajfaa.Dir
set_option linter.unusedVariables false
set_option linter.unusedSimpArgs false
open Go.RowKit Go.Shelf Oct Path
theorem below_drew (w : World) (n : Nat) : Below n w w.drew := ⟨rfl, rfl, rfl, Nat.le_refl _, fun _ _ => rfl⟩
attribute [local go_sem] Oper.semAt_some
def addR (s n : List UInt8) (i : Nat) : List UInt8 × Int :=
  if checkE s = 0 then (if may (n, i) = true then (if (findR s n).2.2 = true then ([], 9) else match freeK (slotsL s) with
    | some k => (putL s k (slotL (n, i)), 0)
    | none => if 2304 ≤ s.length then ([], 4) else (s ++ slotL (n, i) ++ freeL, 0)) else ([], 2)) else ([], checkE s)
theorem not_any (e : Int) (w : World) : Calls Try.prog 71 #[.int .i64 e] w fun q w' => q = .returned (.tuple #[.string ⟨#[]⟩, .int .i64 e]) ∧ w = w' := by
  go_enter Try.func71, Try.ntmps71
  go_wp2
  go_ret2
  exact ⟨rfl, rfl⟩
theorem free_bound {s : ByteArray} {k : Nat} (h : (entAt s k).2 = 0) : k < s.size / 32 := by
  by_cases hk : k < s.size / 32
  · exact hk
  · exfalso
    have hl : (partL (L s) k).length < 32 := by
      unfold partL
      rw [List.length_take, List.length_drop, len_L]
      omega
    unfold entAt entL at h
    cases hr : readL (partL (L s) k) with
    | none => rw [hr] at h; simp at h
    | some e =>
      obtain ⟨h1, h2⟩ := enc_read hr
      have := len_enc h1
      rw [h2] at this
      omega
theorem freeK_none_of {s : ByteArray} (h : ∀ k ∈ List.range (s.size / 32), (entAt s k).2 ≠ 0) : freeK (slotsL (L s)) = none := by
  refine List.findIdx?_eq_none_iff.2 (fun e he => ?_)
  rw [← ents_all] at he
  obtain ⟨k, hk, rfl⟩ := List.mem_map.1 he
  simpa using h k hk
theorem freeK_some_of {s : ByteArray} {k : Nat} (hh : (entAt s k).2 = 0) (h : ∀ j, j < k → (entAt s j).2 ≠ 0) : freeK (slotsL (L s)) = some k := by
  have hk := free_bound hh
  have hl : (slotsL (L s)).length = s.size / 32 := by rw [← ents_all]; simp [entsAt]
  have hg : ∀ j (hj : j < (slotsL (L s)).length), (slotsL (L s))[j] = entAt s j := fun j hj => by simp [← ents_all, entsAt]
  refine List.findIdx?_eq_some_iff_getElem.2 ⟨by omega, by rw [hg]; simpa using hh, fun j hj => ?_⟩
  rw [hg]
  simpa using h j hj
/-- What lies in memory as Add goes on. -/
structure AS (w W : World) (s nm : ByteArray) (i : Nat) : Prop where
  bS : Boxed W w.heap.size 9 (.string s)
  rS : Boxed W (w.heap.size + 1) 9 (.string ⟨#[]⟩)
  rE : Boxed W (w.heap.size + 1 + 1) 24 (.int .i64 0)
  y : SBox W (w.heap.size + 1 + 1 + 1) 73 #[.string nm, .int .u32 i]
  bel : Below w.heap.size w W
theorem AS.lt {w W : World} {s nm : ByteArray} {i : Nat} (h : AS w W s nm i) : w.heap.size + 1 + 1 + 1 < W.heap.size := h.y.lt
theorem AS.later {w W W' : World} {s nm : ByteArray} {i : Nat} (h : AS w W s nm i) (b : Below W.heap.size W W') : AS w W' s nm i :=
  ⟨(b.block _ h.bS.lt).trans h.bS, (b.block _ h.rS.lt).trans h.rS, (b.block _ h.rE.lt).trans h.rE, h.y.later b, h.bel.trans (b.mono (by have := h.lt; omega))⟩
theorem AS.start (w : World) (s nm : ByteArray) (i : Nat) : AS w ((((w.alloc (.cells #[.string s] 9)).alloc (.cells #[.string ⟨#[]⟩] 9)).alloc (.cells #[.int .i64 0] 24)).alloc (.cells #[.string nm, .int .u32 i] 73)) s nm i := by
  have h1 := Boxed.new w 9 (.string s)
  have h2 := Boxed.new (w.alloc (.cells #[.string s] 9)) 9 (.string ⟨#[]⟩)
  have h3 := Boxed.new ((w.alloc (.cells #[.string s] 9)).alloc (.cells #[.string ⟨#[]⟩] 9)) 24 (.int .i64 0)
  have h4 := SBox.new (((w.alloc (.cells #[.string s] 9)).alloc (.cells #[.string ⟨#[]⟩] 9)).alloc (.cells #[.int .i64 0] 24)) 73 #[.string nm, .int .u32 i]
  simp only [World.size_alloc] at h2 h3 h4
  exact ⟨((h1.alloc _).alloc _).alloc _, (h2.alloc _).alloc _, h3.alloc _, h4, ((((Below.refl _ w).alloc (Nat.le_refl _) _).alloc (by simp) _).alloc (by simp; omega) _).alloc (by simp; omega) _⟩
theorem as_own {β : Type} {B : Nat} {w : World} {s nm : ByteArray} {i : Nat} (hB : w.heap.size ≤ B) : OwnFrom B (fun (_ : β) W => AS w W s nm i) := fun _ W W' row h hg hr =>
  ⟨boxed_own1 h.bS hg hr, boxed_own1 h.rS hg hr, boxed_own1 h.rE hg hr, sbox_own h.y hg hr, h.bel.grown hg h.bel.size (fun k e => by have := (hr k e).1; omega)⟩
/-- .., and that nothing that was there before W has changed since. -/
def AB (w W W1 : World) (s nm : ByteArray) (i : Nat) : Prop := AS w W1 s nm i ∧ Below W.heap.size W W1
theorem AB.later {w W W1 W2 : World} {s nm : ByteArray} {i : Nat} (h : AB w W W1 s nm i) (b : Below W1.heap.size W1 W2) : AB w W W2 s nm i := ⟨h.1.later b, h.2.trans (b.mono h.2.size)⟩
theorem AB.keeps {w W W1 : World} {s nm : ByteArray} {i : Nat} (h : AB w W W1 s nm i) : KeepsOthers W W1 := KeepsOthers.of_grownBy (grown_of_below h.2) (fun j o e => by cases e)
/-- The two results, stored. -/
theorem AS.fin {w W : World} {s nm : ByteArray} {i : Nat} (h : AS w W s nm i) (r : ByteArray) (e : Int) :
    Boxed ((W.setCell ⟨w.heap.size + 1, 0, none⟩ (.string r)).setCell ⟨w.heap.size + 1 + 1, 0, none⟩ (.int .i64 e)) (w.heap.size + 1) 9 (.string r) ∧
    Boxed ((W.setCell ⟨w.heap.size + 1, 0, none⟩ (.string r)).setCell ⟨w.heap.size + 1 + 1, 0, none⟩ (.int .i64 e)) (w.heap.size + 1 + 1) 24 (.int .i64 e) ∧
    Below w.heap.size w ((W.setCell ⟨w.heap.size + 1, 0, none⟩ (.string r)).setCell ⟨w.heap.size + 1 + 1, 0, none⟩ (.int .i64 e)) :=
  ⟨(h.rS.set _).other (by omega) _, (h.rE.other (by omega) _).set _, (h.bel.setCell (p := ⟨w.heap.size + 1, 0, none⟩) (by show w.heap.size ≤ w.heap.size + 1; omega) _).setCell (p := ⟨w.heap.size + 1 + 1, 0, none⟩) (by show w.heap.size ≤ w.heap.size + 1 + 1; omega) _⟩
theorem AS.fin2 {w W : World} {s nm : ByteArray} {i : Nat} (h : AS w W s nm i) (r : ByteArray) (e : Int) :
    Boxed ((W.setCell ⟨w.heap.size + 1 + 1, 0, none⟩ (.int .i64 e)).setCell ⟨w.heap.size + 1, 0, none⟩ (.string r)) (w.heap.size + 1) 9 (.string r) ∧
    Boxed ((W.setCell ⟨w.heap.size + 1 + 1, 0, none⟩ (.int .i64 e)).setCell ⟨w.heap.size + 1, 0, none⟩ (.string r)) (w.heap.size + 1 + 1) 24 (.int .i64 e) ∧
    Below w.heap.size w ((W.setCell ⟨w.heap.size + 1 + 1, 0, none⟩ (.int .i64 e)).setCell ⟨w.heap.size + 1, 0, none⟩ (.string r)) :=
  ⟨(h.rS.other (by omega) _).set _, (h.rE.set _).other (by omega) _, (h.bel.setCell (p := ⟨w.heap.size + 1 + 1, 0, none⟩) (by show w.heap.size ≤ w.heap.size + 1 + 1; omega) _).setCell (p := ⟨w.heap.size + 1, 0, none⟩) (by show w.heap.size ≤ w.heap.size + 1; omega) _⟩
set_option maxRecDepth 100000 in
set_option maxHeartbeats 4000000 in
theorem add_ce (n : Nat) (hn : 4 ≤ n) (s nm : ByteArray) (i : Nat) (w : World) (hs : s.size ≤ maxLen) (hnm : nm.size ≤ maxLen) (ce : Int) (hce : checkE (L s) = ce) (h0 : ce ≠ 0) : CallsIn Fence.wide n Try.prog 49 #[.string s, .string nm, .int .u32 i] w fun q w' => q = .returned (.tuple #[.string ⟨#[]⟩, .int .i64 ce]) ∧ Below w.heap.size w w' := by
  have CK := Lib.hid (fun W => check_any s W hs)
  have NA := Lib.hid (fun W => not_any ce W)
  rw [hce] at CK
  have q1 : (ce != 0) = true := by simpa using h0
  have q2 : (ce == 0) = false := by simpa using h0
  clear h0 hce hs
  refine callsIn_of_wp_marks Try.func49 rfl trivial ?_ rfl
  simp only [Try.ntmps49, List.size_toArray, List.length_cons, List.length_nil, Nat.reduceAdd, Nat.reduceSub, Array.replicate_succ, Array.replicate_zero, List.push_toArray, List.append_toArray, List.nil_append, List.cons_append]
  gi_wp2_with fail
  refine ⟨trivial, (fun h => by cases h), ?_⟩
  refine (callsIn_wide.2 (CK.out _)).mono ?_
  rintro e w5 ⟨rfl, b5⟩
  have g5 := (AS.start w s nm i).later b5
  clear b5
  have pas := g5.bS.cell
  have par := g5.rS.cell
  have parf := g5.rS.frozen
  have pae := g5.rE.cell
  have paef := g5.rE.frozen
  have pay0 := g5.y.cell 0
  have pay1 := g5.y.cell 1
  have pal := g5.lt
  simp only [List.getElem?_toArray, List.getElem?_cons_zero, List.getElem?_cons_succ] at pay0 pay1
  gi_wp2_with fail
  refine ⟨trivial, (fun h => by cases h), ?_⟩
  refine (callsIn_wide.2 (NA.out _)).mono ?_
  rintro e w6 ⟨rfl, rfl⟩
  gi_wp2
  obtain ⟨f1, f2, f3⟩ := g5.fin ⟨#[]⟩ ce
  have c5 := f1.cell
  have c6 := f2.cell
  refine ⟨.tuple #[.string ⟨#[]⟩, .int .i64 ce], ?_, rfl, f3⟩
  simp [results, Try.f49, go_sem, c5, c6]

set_option maxRecDepth 100000 in
set_option maxHeartbeats 4000000 in
theorem add_may (n : Nat) (hn : 4 ≤ n) (s nm : ByteArray) (i : Nat) (w : World) (hs : s.size ≤ maxLen) (hnm : nm.size ≤ maxLen) (hce : checkE (L s) = 0) (hm : may (L nm, i) = false) : CallsIn Fence.wide n Try.prog 49 #[.string s, .string nm, .int .u32 i] w fun q w' => q = .returned (.tuple #[.string ⟨#[]⟩, .int .i64 2]) ∧ Below w.heap.size w w' := by
  have CK := Lib.hid (fun W => check_any s W hs)
  rw [hce] at CK
  have MY := Lib.hid (fun W => may_any nm i W hnm)
  rw [hm] at MY
  have NA := Lib.hid (fun W => not_any 2 W)
  clear hce hs hm
  refine callsIn_of_wp_marks Try.func49 rfl trivial ?_ rfl
  simp only [Try.ntmps49, List.size_toArray, List.length_cons, List.length_nil, Nat.reduceAdd, Nat.reduceSub, Array.replicate_succ, Array.replicate_zero, List.push_toArray, List.append_toArray, List.nil_append, List.cons_append]
  gi_wp2_with fail
  refine ⟨trivial, (fun h => by cases h), ?_⟩
  refine (callsIn_wide.2 (CK.out _)).mono ?_
  rintro e w5 ⟨rfl, b5⟩
  have g5 := (AS.start w s nm i).later b5
  clear b5
  have pas := g5.bS.cell
  have par := g5.rS.cell
  have parf := g5.rS.frozen
  have pae := g5.rE.cell
  have paef := g5.rE.frozen
  have pay0 := g5.y.cell 0
  have pay1 := g5.y.cell 1
  have pal := g5.lt
  simp only [List.getElem?_toArray, List.getElem?_cons_zero, List.getElem?_cons_succ] at pay0 pay1
  gi_wp2_with fail
  refine ⟨trivial, (fun h => by cases h), ?_⟩
  refine (callsIn_wide.2 (MY.out _)).mono ?_
  rintro e w6 ⟨rfl, b6⟩
  have g6 := g5.later b6
  clear pas par parf pae paef pay0 pay1 pal
  clear b6 g5
  have pbs := g6.bS.cell
  have pbr := g6.rS.cell
  have pbrf := g6.rS.frozen
  have pbe := g6.rE.cell
  have pbef := g6.rE.frozen
  have pby0 := g6.y.cell 0
  have pby1 := g6.y.cell 1
  have pbl := g6.lt
  simp only [List.getElem?_toArray, List.getElem?_cons_zero, List.getElem?_cons_succ] at pby0 pby1
  gi_wp2_with fail
  refine ⟨trivial, (fun h => by cases h), ?_⟩
  refine (callsIn_wide.2 (NA.out _)).mono ?_
  rintro e w7 ⟨rfl, rfl⟩
  gi_wp2
  obtain ⟨f1, f2, f3⟩ := g6.fin ⟨#[]⟩ 2
  have c5 := f1.cell
  have c6 := f2.cell
  refine ⟨.tuple #[.string ⟨#[]⟩, .int .i64 2], ?_, rfl, f3⟩
  simp [results, Try.f49, go_sem, c5, c6]

set_option maxRecDepth 100000 in
set_option maxHeartbeats 4000000 in
theorem add_have (n : Nat) (hn : 4 ≤ n) (s nm : ByteArray) (i : Nat) (w : World) (hs : s.size ≤ maxLen) (hnm : nm.size ≤ maxLen) (hce : checkE (L s) = 0) (hm : may (L nm, i) = true) (hq : (findR (L s) (L nm)).2.2 = true) : CallsIn Fence.wide n Try.prog 49 #[.string s, .string nm, .int .u32 i] w fun q w' => q = .returned (.tuple #[.string ⟨#[]⟩, .int .i64 9]) ∧ Below w.heap.size w w' := by
  have CK := Lib.hid (fun W => check_any s W hs)
  rw [hce] at CK
  have MY := Lib.hid (fun W => may_any nm i W hnm)
  rw [hm] at MY
  have NA := Lib.hid (fun W => not_any 9 W)
  have FD := Lib.hid (fun W => find_any s nm W hs hnm)
  rw [hq] at FD
  generalize (findR (L s) (L nm)).1 = fi at *
  generalize (findR (L s) (L nm)).2.1 = fk at *
  clear hce hs hm hq
  refine callsIn_of_wp_marks Try.func49 rfl trivial ?_ rfl
  simp only [Try.ntmps49, List.size_toArray, List.length_cons, List.length_nil, Nat.reduceAdd, Nat.reduceSub, Array.replicate_succ, Array.replicate_zero, List.push_toArray, List.append_toArray, List.nil_append, List.cons_append]
  gi_wp2_with fail
  refine ⟨trivial, (fun h => by cases h), ?_⟩
  refine (callsIn_wide.2 (CK.out _)).mono ?_
  rintro e w5 ⟨rfl, b5⟩
  have g5 := (AS.start w s nm i).later b5
  clear b5
  have pas := g5.bS.cell
  have par := g5.rS.cell
  have parf := g5.rS.frozen
  have pae := g5.rE.cell
  have paef := g5.rE.frozen
  have pay0 := g5.y.cell 0
  have pay1 := g5.y.cell 1
  have pal := g5.lt
  simp only [List.getElem?_toArray, List.getElem?_cons_zero, List.getElem?_cons_succ] at pay0 pay1
  gi_wp2_with fail
  refine ⟨trivial, (fun h => by cases h), ?_⟩
  refine (callsIn_wide.2 (MY.out _)).mono ?_
  rintro e w6 ⟨rfl, b6⟩
  have g6 := g5.later b6
  clear pas par parf pae paef pay0 pay1 pal
  clear b6 g5
  have pbs := g6.bS.cell
  have pbr := g6.rS.cell
  have pbrf := g6.rS.frozen
  have pbe := g6.rE.cell
  have pbef := g6.rE.frozen
  have pby0 := g6.y.cell 0
  have pby1 := g6.y.cell 1
  have pbl := g6.lt
  simp only [List.getElem?_toArray, List.getElem?_cons_zero, List.getElem?_cons_succ] at pby0 pby1
  gi_wp2_with fail
  refine ⟨trivial, (fun h => by cases h), ?_⟩
  refine (callsIn_wide.2 (FD.out _)).mono ?_
  rintro e w7 ⟨rfl, b7⟩
  have g7 := g6.later b7
  clear pbs pbr pbrf pbe pbef pby0 pby1 pbl
  clear b7 g6
  have pcs := g7.bS.cell
  have pcr := g7.rS.cell
  have pcrf := g7.rS.frozen
  have pce := g7.rE.cell
  have pcef := g7.rE.frozen
  have pcy0 := g7.y.cell 0
  have pcy1 := g7.y.cell 1
  have pcl := g7.lt
  simp only [List.getElem?_toArray, List.getElem?_cons_zero, List.getElem?_cons_succ] at pcy0 pcy1
  gi_wp2_with fail
  refine ⟨trivial, (fun h => by cases h), ?_⟩
  refine (callsIn_wide.2 (NA.out _)).mono ?_
  rintro e w8 ⟨rfl, rfl⟩
  gi_wp2
  obtain ⟨f1, f2, f3⟩ := g7.fin ⟨#[]⟩ 9
  have c5 := f1.cell
  have c6 := f2.cell
  refine ⟨.tuple #[.string ⟨#[]⟩, .int .i64 9], ?_, rfl, f3⟩
  simp [results, Try.f49, go_sem, c5, c6]

set_option maxRecDepth 100000 in
set_option maxHeartbeats 4000000 in
theorem add_main (n : Nat) (hn : 4 ≤ n) (s nm : ByteArray) (i : Nat) (w : World) (hs : s.size ≤ maxLen) (hnm : nm.size ≤ maxLen) (hce : checkE (L s) = 0) (hm : may (L nm, i) = true) (hi32 : i < 4294967296) (hq : (findR (L s) (L nm)).2.2 = false) (r : List UInt8 × Int) (hr : addR (L s) (L nm) i = r) : CallsIn Fence.wide n Try.prog 49 #[.string s, .string nm, .int .u32 i] w fun q w' => q = .returned (.tuple #[.string (B r.1), .int .i64 r.2]) ∧ Below w.heap.size w w' := by
  have CK := Lib.hid (fun W => check_any s W hs)
  rw [hce] at CK
  have MY := Lib.hid (fun W => may_any nm i W hnm)
  rw [hm] at MY
  have FD := Lib.hid (fun W => find_any s nm W hs hnm)
  rw [hq] at FD
  obtain ⟨d1, d2, d3⟩ := dir_of hce
  have hle := d1.le
  rw [len_L] at d3
  have hsz : s.size ≤ 2304 := by omega
  have hnm27 : nm.size ≤ 27 := by have := (name_len (may_name hm).2).2; rw [len_L] at this; exact this
  have SA := Lib.hid (fun W => slots_any s W)
  have SL := Lib.hid (fun W => slot_any nm i W hnm27 hi32)
  have FR := Lib.hid (fun W => free_any W)
  have hslz : (B (slotL (L nm, i))).size = 32 := by rw [size_B, len_slot hm]
  have HR : Hid (r = (match freeK (slotsL (L s)) with | some k => (putL (L s) k (slotL (L nm, i)), 0) | none => if 2304 ≤ (L s).length then ([], 4) else (L s ++ slotL (L nm, i) ++ freeL, 0))) := Lib.hid (by
    rw [← hr]
    unfold addR
    rw [if_pos hce, if_pos hm, if_neg (by rw [hq]; simp)])
  generalize (findR (L s) (L nm)).1 = fi at *
  generalize (findR (L s) (L nm)).2.1 = fk at *
  clear hce hm hq d1 d2 d3 hle hr
  refine callsIn_of_wp_marks Try.func49 rfl trivial ?_ rfl
  simp only [Try.ntmps49, List.size_toArray, List.length_cons, List.length_nil, Nat.reduceAdd, Nat.reduceSub, Array.replicate_succ, Array.replicate_zero, List.push_toArray, List.append_toArray, List.nil_append, List.cons_append]
  gi_wp2_with fail
  refine ⟨trivial, (fun h => by cases h), ?_⟩
  refine (callsIn_wide.2 (CK.out _)).mono ?_
  rintro e w5 ⟨rfl, b5⟩
  have g5 := (AS.start w s nm i).later b5
  clear b5
  have pas := g5.bS.cell
  have par := g5.rS.cell
  have parf := g5.rS.frozen
  have pae := g5.rE.cell
  have paef := g5.rE.frozen
  have pay0 := g5.y.cell 0
  have pay1 := g5.y.cell 1
  have pal := g5.lt
  simp only [List.getElem?_toArray, List.getElem?_cons_zero, List.getElem?_cons_succ] at pay0 pay1
  gi_wp2_with fail
  refine ⟨trivial, (fun h => by cases h), ?_⟩
  refine (callsIn_wide.2 (MY.out _)).mono ?_
  rintro e w6 ⟨rfl, b6⟩
  have g6 := g5.later b6
  clear pas par parf pae paef pay0 pay1 pal
  clear b6 g5
  have pbs := g6.bS.cell
  have pbr := g6.rS.cell
  have pbrf := g6.rS.frozen
  have pbe := g6.rE.cell
  have pbef := g6.rE.frozen
  have pby0 := g6.y.cell 0
  have pby1 := g6.y.cell 1
  have pbl := g6.lt
  simp only [List.getElem?_toArray, List.getElem?_cons_zero, List.getElem?_cons_succ] at pby0 pby1
  gi_wp2_with fail
  refine ⟨trivial, (fun h => by cases h), ?_⟩
  refine (callsIn_wide.2 (FD.out _)).mono ?_
  rintro e w7 ⟨rfl, b7⟩
  have g7 := g6.later b7
  clear pbs pbr pbrf pbe pbef pby0 pby1 pbl
  clear b7 g6
  have pcs := g7.bS.cell
  have pcr := g7.rS.cell
  have pcrf := g7.rS.frozen
  have pce := g7.rE.cell
  have pcef := g7.rE.frozen
  have pcy0 := g7.y.cell 0
  have pcy1 := g7.y.cell 1
  have pcl := g7.lt
  simp only [List.getElem?_toArray, List.getElem?_cons_zero, List.getElem?_cons_succ] at pcy0 pcy1
  gi_wp2_with fail
  refine ⟨trivial, (fun h => by cases h), ?_⟩
  refine (callsIn_wide.2 (SA.out _)).mono ?_
  rintro e w8 ⟨rfl, rfl⟩
  gi_wp2_with fail
  have bS := Boxed.new w7 9 (.string s)
  have G7 := Lib.hid g7
  have hl7 := g7.lt
  clear pcs pcr pcrf pce pcef pcy0 pcy1 pcl
  clear g7
  refine wpIn_rangeFunc_ownH rfl (by omega) (gf := 87) (lb := #[.pointer (some ⟨w7.heap.size, 0, none⟩)]) rfl trivial (enters_of Try.func87 (by kernel_rfl) rfl)
    (slots_stops (n - 1) (by omega) w7.heap.size s (by omega) _ bS) keptBox_t (keptBox_b (by simp)) (Below.refl _ _) (fun _ => rfl)
    (fun pre W => (∀ k ∈ pre, (entAt s k).2 ≠ 0) ∧ (AS w W s nm i ∧ w7.heap.size + 1 ≤ W.heap.size))
    (fun c pre W => (c = .ret ∧ ∃ ini k, pre = ini ++ [k] ∧ (∀ j ∈ ini, (entAt s j).2 ≠ 0) ∧ (entAt s k).2 = 0) ∧ ((∃ k, pre.getLast? = some k ∧ Boxed W (w.heap.size + 1) 9 (.string (B (putL (L s) k (slotL (L nm, i))))) ∧ Boxed W (w.heap.size + 1 + 1) 24 (.int .i64 0)) ∧ Below w.heap.size w W))
    (OwnFrom.and (ownFrom_pure _ _) (OwnFrom.and (as_own (by simp; omega)) (size_own _)))
    (fun c => OwnFrom.and (ownFrom_pure _ _) (OwnFrom.and (fun pre W W' row hs hg hr => by
      obtain ⟨k, h1, h2, h3⟩ := hs
      exact ⟨k, h1, boxed_own1 h2 hg hr, boxed_own1 h3 hg hr⟩) (ownFrom_below (Nat.le_refl _) (by simp; omega))))
    ⟨fun p hp => by simp at hp, G7.out.later ((Below.refl _ _).alloc (Nat.le_refl _) _), by simp⟩
    (fun k a' W => ∃ b, w7.heap.size + 1 ≤ b ∧ SBox W b 73 #[.string (B (entAt s k).1), .int .u32 (entAt s k).2] ∧ a' = { tmps := #[.string s, .string nm, .int .u32 i, .pointer (some ⟨w.heap.size, 0, none⟩), undef, undef, .pointer (some ⟨w.heap.size + 1, 0, none⟩), .pointer (some ⟨w.heap.size + 1 + 1, 0, none⟩), .func (.func 71) #[] #[], .pointer (some ⟨w.heap.size + 1 + 1 + 1, 0, none⟩), .int .i64 0, .int .u32 fi, .int .i64 fk, .bool false, .int .i64 (k : Int), .pointer (some ⟨b, 0, none⟩), .string nm, .int .u32 i, .agg #[.string nm, .int .u32 i], .string s, .int .i64 0, .int .i64 0, .bool false, undef, undef, undef, undef, undef, .agg #[.string nm, .int .u32 i], .bool true, .bool false, undef, undef, undef, undef, .tuple #[.int .u32 fi, .int .i64 fk, .bool false], .string s, .string nm, .tuple #[.int .u32 fi, .int .i64 fk, .bool false], .int .u32 fi, .int .i64 fk, .bool false, .bool false, undef, undef, undef, undef, .string s, .func (.func 87) #[] #[.pointer (some ⟨w7.heap.size, 0, none⟩)], .int .i64 (k : Int), .agg #[.string (B (entAt s k).1), .int .u32 (entAt s k).2], undef, undef, undef, undef, undef, undef, undef, undef, undef, undef, undef, undef, undef, undef, undef, undef, undef, undef, undef, undef, undef], defers := [] })
    (fun k a' => fun _ W W' row hs hg hr => by
      obtain ⟨b, h1, h2, h3⟩ := hs
      exact ⟨b, h1, sbox_own h2 hg hr, h3⟩) ?assign ?body ?done ?stop
  case assign =>
    rintro l pre k W K ⟨hp, hA, hz⟩ hK
    rw [show slotPair (L s) k = (k, entAt s k) from rfl]
    dsimp only [slotArgs]
    have HK := Lib.hid hK
    clear hK
    gi_wp2
    exact HK.out _ _ ((KeepsOthers.alloc _ _).from _) (fun v hv => hv.alloc _) ⟨hp, hA.later ((Below.refl _ _).alloc (Nat.le_refl _) _), by simp; omega⟩ ⟨W.heap.size, hz, SBox.new _ _ _, rfl⟩
  case body =>
    rintro l pre k a' W hl hloop ⟨hp, hA, hz⟩ ⟨b, hb, hS, rfl⟩ hlen
    have c0 := hS.cell 0
    have c1 := hS.cell 1
    simp only [List.getElem?_toArray, List.getElem?_cons_zero, List.getElem?_cons_succ] at c0 c1
    have hlt := hS.lt
    have HFB : Hid ((entAt s k).2 = 0 → k < s.size / 32) := Lib.hid free_bound
    have HSN : Hid ((entAt s k).2 ≠ 0 → ∀ q ∈ pre ++ [k], (entAt s q).2 ≠ 0) := Lib.hid (fun hk q hq => by
      rcases List.mem_append.1 hq with h1 | h1
      · exact hp q h1
      · simp only [List.mem_cons, List.not_mem_nil, or_false] at h1
        rw [h1]; exact hk)
    have HP := Lib.hid hp
    clear hl hloop hp hlen bS CK MY FD SA
    obtain ⟨nmL, hnmL⟩ : ∃ x, (entAt s k).1 = x := ⟨_, rfl⟩
    obtain ⟨j, hj⟩ : ∃ x, (entAt s k).2 = x := ⟨_, rfl⟩
    rw [hnmL] at c0
    rw [hj] at c1
    rw [hnmL, hj]
    have HJ := Lib.hid hj
    clear hj hnmL
    by_cases h0 : j = 0
    · subst h0
      have hkb := HFB.out HJ.out
      have PT := Lib.hid (fun V => put_any s (B (slotL (L nm, i))) k V (by omega) (by omega) (by omega))
      rw [L_B] at PT
      obtain ⟨res, hres⟩ : ∃ x, B (putL (L s) k (slotL (L nm, i))) = x := ⟨_, rfl⟩
      obtain ⟨sl, hsl⟩ : ∃ x, B (slotL (L nm, i)) = x := ⟨_, rfl⟩
      rw [hres, hsl] at PT
      rw [hsl] at SL
      have HRES := Lib.hid hres
      have gD := hA.later (below_drew W W.heap.size)
      clear hres hsl hkb
      have dl := gD.lt
      have pds := gD.bS.cell
      have pdr := gD.rS.cell
      have pdrf := gD.rS.frozen
      have pde := gD.rE.cell
      have pdef := gD.rE.frozen
      have pdy0 := gD.y.cell 0
      have pdy1 := gD.y.cell 1
      have pdl := gD.lt
      simp only [List.getElem?_toArray, List.getElem?_cons_zero, List.getElem?_cons_succ] at pdy0 pdy1
      gi_wp2_with fail
      gi_region_with (first | (refine ⟨trivial, (fun h => by cases h), ?_⟩; refine (CallsIn.inRound l (callsIn_wide.2 (SL.out _))).mono ?_; rintro e w9 ⟨rfl, b9⟩; have g9 := gD.later b9; have hbw := (below_drew W W.heap.size).trans b9; have pes := g9.bS.cell; have per := g9.rS.cell; have perf := g9.rS.frozen; have pee := g9.rE.cell; have peef := g9.rE.frozen; have pey0 := g9.y.cell 0; have pey1 := g9.y.cell 1; have pel := g9.lt; simp only [List.getElem?_toArray, List.getElem?_cons_zero, List.getElem?_cons_succ] at pey0 pey1; clear b9) | (refine ⟨trivial, (fun h => by cases h), ?_⟩; refine (CallsIn.inRound l (callsIn_wide.2 (PT.out _))).mono ?_; rintro e w10 ⟨rfl, n10, rfl⟩; have g10 := g9.later (Oct.below_drewN w9 n10 _); have pfs := g10.bS.cell; have pfr := g10.rS.cell; have pfrf := g10.rS.frozen; have pfe := g10.rE.cell; have pfef := g10.rE.frozen; have pfy0 := g10.y.cell 0; have pfy1 := g10.y.cell 1; have pfl := g10.lt; simp only [List.getElem?_toArray, List.getElem?_cons_zero, List.getElem?_cons_succ] at pfy0 pfy1))
      all_goals
        obtain ⟨f1, f2, f3⟩ := g10.fin res 0
        have HF1 := Lib.hid f1
        have HF2 := Lib.hid f2
        have HF3 := Lib.hid f3
        have HKF := Lib.hid ((KeepsOthers.of_grownBy (grown_of_below (hbw.trans (Oct.below_drewN w9 n10 _))) (fun j o e => by cases e)).trans ((KeepsOthers.setCell _ ⟨w.heap.size + 1, 0, none⟩ (.string res)).trans (KeepsOthers.setCell _ ⟨w.heap.size + 1 + 1, 0, none⟩ (.int .i64 0))))
        clear f1 f2 f3 hbw g10 g9 gD hA
        gi_wp2
        exact ⟨HKF.out.from _, ⟨⟨rfl, pre, k, rfl, HP.out, HJ.out⟩, ⟨k, by simp, by rw [HRES.out]; exact HF1.out, HF2.out⟩, HF3.out⟩⟩
    · have t0 : ((j : Int) == 0) = false := by simp; omega
      have t1 : (j == 0) = false := by simp; omega
      have E3 := Lib.hid (HSN.out (by rw [HJ.out]; exact h0))
      clear h0
      gi_wp2
      exact ⟨KeepsFrom.refl _ _, KeptBox.refl _ _ _, ⟨E3.out, hA, hz⟩⟩
  case done =>
    rintro D ys W hD rfl ⟨hp, hA, hz⟩ hK
    have hrf := freeK_none_of hp
    have hR2 := HR.out
    rw [hrf] at hR2
    have HR2 := Lib.hid hR2
    have HK := Lib.hid hK
    clear hp hrf hR2 CK MY FD SA bS hK
    have pgs := hA.bS.cell
    have pgr := hA.rS.cell
    have pgrf := hA.rS.frozen
    have pge := hA.rE.cell
    have pgef := hA.rE.frozen
    have pgy0 := hA.y.cell 0
    have pgy1 := hA.y.cell 1
    have pgl := hA.lt
    simp only [List.getElem?_toArray, List.getElem?_cons_zero, List.getElem?_cons_succ] at pgy0 pgy1
    by_cases hfull : 2304 ≤ s.size
    · have t0 : decide ((2304 : Int) ≤ (s.size : Int)) = true := by simp; omega
      have t1 : decide (2304 ≤ s.size) = true := by simp; omega
      have NA := Lib.hid (fun V => not_any 4 V)
      have HR3 : Hid (r = ([], 4)) := Lib.hid (by rw [HR2.out, if_pos (show 2304 ≤ (L s).length from hfull)])
      clear hfull
      gi_wp2_with fail
      refine ⟨trivial, (fun h => by cases h), ?_⟩
      refine (callsIn_wide.2 (NA.out _)).mono ?_
      rintro e w9 ⟨rfl, rfl⟩
      obtain ⟨f1, f2, f3⟩ := hA.fin ⟨#[]⟩ 4
      have HF1 := Lib.hid f1
      have HF2 := Lib.hid f2
      have HF3 := Lib.hid f3
      clear f1 f2 f3 hA
      gi_wp2
      have hK2 := ((KeepsOthers.setCell W ⟨w.heap.size + 1, 0, none⟩ (.string ⟨#[]⟩)).trans (KeepsOthers.setCell _ ⟨w.heap.size + 1 + 1, 0, none⟩ (.int .i64 4))).same D _ HK.out rfl
      refine ⟨by simp, .inl ⟨_, _, rfl, run_takeDeferred hK2, ?_⟩⟩
      have c5 := cell_kept HF1.out.cell (grownBy_putObj' _ D (.deferred none)) (fun r e => by cases e; exact ⟨_, hK2, rfl⟩)
      have c6 := cell_kept HF2.out.cell (grownBy_putObj' _ D (.deferred none)) (fun r e => by cases e; exact ⟨_, hK2, rfl⟩)
      refine ⟨.tuple #[.string ⟨#[]⟩, .int .i64 4], ?_, by rw [HR3.out]; rfl, HF3.out.trans (belowK_b (w := w) (Nat.le_refl _) _ D _ _ (by simp at hD; omega) hK2 rfl rfl)⟩
      simp [results, Try.f49, go_sem, c5, c6]
    · have t0 : decide ((2304 : Int) ≤ (s.size : Int)) = false := by simp; omega
      have t1 : decide (2304 ≤ s.size) = false := by simp; omega
      obtain ⟨sl, hsl⟩ : ∃ x, B (slotL (L nm, i)) = x := ⟨_, rfl⟩
      obtain ⟨fr, hfr⟩ : ∃ x, B freeL = x := ⟨_, rfl⟩
      have hfz : fr.size = 32 := by rw [← hfr, size_B, len_free]
      have HR3 : Hid (r = (L (s ++ sl ++ fr), 0)) := Lib.hid (by
        rw [HR2.out, if_neg (show ¬ 2304 ≤ (L s).length from hfull), ← hsl, ← hfr, append_B, append_B, L_B, L_B, L_B, L_B])
      rw [hsl] at SL hslz
      rw [hfr] at FR
      have z1 : s.size + sl.size ≤ 3000 := by omega
      have z2 : (s ++ sl).size ≤ 3000 := by rw [append_B, size_B, List.length_append, len_L, len_L]; omega
      have z3 : fr.size ≤ 40 := by omega
      have z4 : sl.size ≤ 40 := by omega
      have gD := hA.later (below_drew W W.heap.size)
      clear hfull hsl hfr hfz hslz
      have pds := gD.bS.cell
      have pdr := gD.rS.cell
      have pdrf := gD.rS.frozen
      have pde := gD.rE.cell
      have pdef := gD.rE.frozen
      have pdy0 := gD.y.cell 0
      have pdy1 := gD.y.cell 1
      have pdl := gD.lt
      simp only [List.getElem?_toArray, List.getElem?_cons_zero, List.getElem?_cons_succ] at pdy0 pdy1
      gi_wp2_with fail
      have ab0 : AB w W W.drew s nm i := ⟨gD, below_drew W _⟩
      gi_region_with (first | (refine ⟨trivial, (fun h => by cases h), ?_⟩; refine (callsIn_wide.2 (SL.out _)).mono ?_; rintro e w9 ⟨rfl, b9⟩; have ab1 := AB.later (w := w) (W := W) (s := s) (nm := nm) (i := i) (by assumption) b9; have pjs := ab1.1.bS.cell; have pjr := ab1.1.rS.cell; have pjrf := ab1.1.rS.frozen; have pje := ab1.1.rE.cell; have pjef := ab1.1.rE.frozen; have pjy0 := ab1.1.y.cell 0; have pjy1 := ab1.1.y.cell 1; have pjl := ab1.1.lt; simp only [List.getElem?_toArray, List.getElem?_cons_zero, List.getElem?_cons_succ] at pjy0 pjy1; clear b9) | (refine ⟨trivial, (fun h => by cases h), ?_⟩; refine (callsIn_wide.2 (FR.out _)).mono ?_; rintro e w9 ⟨rfl, b9⟩; have ab2 := AB.later (w := w) (W := W) (s := s) (nm := nm) (i := i) (by assumption) b9; have pks := ab2.1.bS.cell; have pkr := ab2.1.rS.cell; have pkrf := ab2.1.rS.frozen; have pke := ab2.1.rE.cell; have pkef := ab2.1.rE.frozen; have pky0 := ab2.1.y.cell 0; have pky1 := ab2.1.y.cell 1; have pkl := ab2.1.lt; simp only [List.getElem?_toArray, List.getElem?_cons_zero, List.getElem?_cons_succ] at pky0 pky1; clear b9))
      all_goals
        first
        | (obtain ⟨f1, f2, f3⟩ := ab1.1.fin (s ++ sl ++ fr) 0
           have hkf := ab1.keeps.trans ((KeepsOthers.setCell _ ⟨w.heap.size + 1, 0, none⟩ (.string (s ++ sl ++ fr))).trans (KeepsOthers.setCell _ ⟨w.heap.size + 1 + 1, 0, none⟩ (.int .i64 0)))
           have HF1 := Lib.hid f1
           have HF2 := Lib.hid f2
           have HF3 := Lib.hid f3
           have HKF := Lib.hid hkf
           clear f1 f2 f3 hkf ab0 ab1 ab2
           gi_wp2
           have hK2 := HKF.out.same D _ HK.out rfl
           refine ⟨by simp, .inl ⟨_, _, rfl, run_takeDeferred hK2, ?_⟩⟩
           have c5 := cell_kept HF1.out.cell (grownBy_putObj' _ D (.deferred none)) (fun r e => by cases e; exact ⟨_, hK2, rfl⟩)
           have c6 := cell_kept HF2.out.cell (grownBy_putObj' _ D (.deferred none)) (fun r e => by cases e; exact ⟨_, hK2, rfl⟩)
           refine ⟨.tuple #[.string (s ++ sl ++ fr), .int .i64 0], ?_, by rw [HR3.out]; rfl, HF3.out.trans (belowK_b (w := w) (Nat.le_refl _) _ D _ _ (by simp at hD; omega) hK2 rfl rfl)⟩
           simp [results, Try.f49, go_sem, c5, c6])
        | (obtain ⟨f1, f2, f3⟩ := ab2.1.fin (s ++ sl ++ fr) 0
           have hkf := ab2.keeps.trans ((KeepsOthers.setCell _ ⟨w.heap.size + 1, 0, none⟩ (.string (s ++ sl ++ fr))).trans (KeepsOthers.setCell _ ⟨w.heap.size + 1 + 1, 0, none⟩ (.int .i64 0)))
           have HF1 := Lib.hid f1
           have HF2 := Lib.hid f2
           have HF3 := Lib.hid f3
           have HKF := Lib.hid hkf
           clear f1 f2 f3 hkf ab0 ab1 ab2
           gi_wp2
           have hK2 := HKF.out.same D _ HK.out rfl
           refine ⟨by simp, .inl ⟨_, _, rfl, run_takeDeferred hK2, ?_⟩⟩
           have c5 := cell_kept HF1.out.cell (grownBy_putObj' _ D (.deferred none)) (fun r e => by cases e; exact ⟨_, hK2, rfl⟩)
           have c6 := cell_kept HF2.out.cell (grownBy_putObj' _ D (.deferred none)) (fun r e => by cases e; exact ⟨_, hK2, rfl⟩)
           refine ⟨.tuple #[.string (s ++ sl ++ fr), .int .i64 0], ?_, by rw [HR3.out]; rfl, HF3.out.trans (belowK_b (w := w) (Nat.le_refl _) _ D _ _ (by simp at hD; omega) hK2 rfl rfl)⟩
           simp [results, Try.f49, go_sem, c5, c6])
  case stop =>
    rintro D c pre W hD ⟨m, hm, rfl⟩ ⟨⟨rfl, ini, k, e1, e2, e3⟩, ⟨k2, hk2, hS, hE⟩, hB⟩ hK
    obtain ⟨rfl, rfl⟩ := range_last e1
    obtain rfl : k2 = k := by rw [e1] at hk2; simpa using hk2.symm
    have hf := freeK_some_of (s := s) (k := k2) e3 (fun j hj => e2 j (List.mem_range.2 hj))
    have HR3 : Hid (r = (putL (L s) k2 (slotL (L nm, i)), 0)) := Lib.hid (by rw [HR.out, hf])
    obtain ⟨res, hres⟩ : ∃ x, B (putL (L s) k2 (slotL (L nm, i))) = x := ⟨_, rfl⟩
    rw [hres] at hS
    have HRES := Lib.hid hres
    clear hf e1 e2 e3 hk2 hres
    have cS := hS.cell
    have cE := hE.cell
    gi_wp2
    refine ⟨by simp, .inl ⟨_, _, rfl, run_takeDeferred hK, ?_⟩⟩
    have c5 := cell_kept hS.cell (grownBy_putObj' _ D (.deferred none)) (fun r e => by cases e; exact ⟨_, hK, rfl⟩)
    have c6 := cell_kept hE.cell (grownBy_putObj' _ D (.deferred none)) (fun r e => by cases e; exact ⟨_, hK, rfl⟩)
    refine ⟨.tuple #[.string res, .int .i64 0], ?_, by rw [HR3.out, ← HRES.out], hB.trans (belowK_b (w := w) (Nat.le_refl _) _ D _ _ (by simp at hD; omega) hK rfl rfl)⟩
    simp [results, Try.f49, go_sem, c5, c6]

/-- dirs.Add, of any text. -/
theorem add_any (s nm : ByteArray) (i : Nat) (w : World) (hs : s.size ≤ maxLen) (hnm : nm.size ≤ maxLen) (hi : i < 4294967296) :
    Calls Try.prog 49 #[.string s, .string nm, .int .u32 i] w fun q w' => q = .returned (.tuple #[.string (B (addR (L s) (L nm) i).1), .int .i64 (addR (L s) (L nm) i).2]) ∧ Below w.heap.size w w' := by
  by_cases hce : checkE (L s) = 0
  · cases hm : may (L nm, i) with
    | false =>
      have e : addR (L s) (L nm) i = ([], 2) := by unfold addR; rw [if_pos hce, if_neg (by rw [hm]; simp)]
      rw [e]
      exact (callsIn_wide (n := 4)).1 (add_may 4 (Nat.le_refl _) s nm i w hs hnm hce hm)
    | true =>
      cases hq : (findR (L s) (L nm)).2.2 with
      | true =>
        have e : addR (L s) (L nm) i = ([], 9) := by unfold addR; rw [if_pos hce, if_pos hm, if_pos hq]
        rw [e]
        exact (callsIn_wide (n := 4)).1 (add_have 4 (Nat.le_refl _) s nm i w hs hnm hce hm hq)
      | false => exact (callsIn_wide (n := 4)).1 (add_main 4 (Nat.le_refl _) s nm i w hs hnm hce hm hi hq _ rfl)
  · have e : addR (L s) (L nm) i = ([], checkE (L s)) := by unfold addR; rw [if_neg hce]
    rw [e]
    exact (callsIn_wide (n := 4)).1 (add_ce 4 (Nat.le_refl _) s nm i w hs hnm _ rfl hce)
end Go.Proofs.Ytfdclifdemajfaa.Dir
