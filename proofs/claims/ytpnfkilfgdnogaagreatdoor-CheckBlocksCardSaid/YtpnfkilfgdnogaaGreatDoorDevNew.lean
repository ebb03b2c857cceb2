/- Layer 3 (dev): a new device: all its sectors are noughts, no write waits. -/
import Derived.Test.YtpnfkilfgdnogaaGreatDoorDevKeep
import Derived.Test.YtpnfkilfgdnogaaGreatDoorShelf
import Derived.Test.YtpnfkilfgdnogaaGreatDoorOctetPlain
import Derived.Deep.RegionLaw
namespace Go.Proofs.YtpnfkilfgdnogaaGreatDoor.Dev
set_option linter.unusedVariables false
set_option linter.unusedSimpArgs false
open Go.RowKit Go.Shelf Go.Maps Oct
def zeroS : ByteArray := B (List.replicate 64 0)
theorem repeat_zero (w : World) : Calls Tryz.prog 98 #[.string ⟨#[0]⟩, .int .i64 64] w fun e w' => e = .returned (.string zeroS) ∧ Below w.heap.size w w' := by
  have h := Tryz.strings_Repeat ⟨#[0]⟩ 64 w (by decide) (by decide)
  rw [show (⟨(Lib.repeatL (⟨#[0]⟩ : ByteArray).data.toList 64).toArray⟩ : ByteArray) = zeroS from by kernel_rfl] at h
  exact h
theorem ownsRow_later {W W' : World} {base : Nat} {e : TypeId} {sz : Nat} {v : Value} {n : Nat} {xs : List Value} (h : W.ownsRow base e sz v n xs) (hb : Below W.heap.size W W') : W'.ownsRow base e sz v n xs := by
  obtain ⟨h0, h1⟩ := h
  refine ⟨h0, ?_⟩
  rcases h1 with h1 | ⟨g, cap, cur, rfl, hbs, hg, r⟩
  · exact .inl h1
  · exact .inr ⟨g, cap, cur, rfl, hbs, (hb.block g (Array.getElem?_eq_some_iff.1 hg).1).trans hg, r⟩
theorem ownsRow_ne {W : World} {base : Nat} {e t : TypeId} {sz : Nat} {v : Value} {n p : Nat} {xs : List Value} {cs : Array Value} (h : W.ownsRow base e sz v n xs) (hX : SBox W p t cs) (ht : e ≠ t) : some p ≠ v.ownBlock := fun q => by
  rcases h.2 with ⟨rfl, _⟩ | ⟨g, cap, cur, rfl, hbs, hg, r⟩
  · cases q
  · have e2 : p = g := Option.some.inj q
    subst e2
    rw [show W.heap[p]? = _ from hX] at hg
    simp only [Option.some.injEq, Obj.cells.injEq] at hg
    exact ht hg.2.1.symm
theorem strRow_of {W : World} {base : Nat} {v : Value} {n : Nat} {l : List ByteArray} (hn : 0 < n) (h : W.ownsRow base 9 1 v n (l.map .string)) : ∃ g cap, v = .slice (some ⟨g, 0, none⟩) n cap ∧ n ≤ cap ∧ base ≤ g ∧ StrRow W g l := by
  obtain ⟨h0, h1⟩ := h
  rcases h1 with ⟨_, rfl⟩ | ⟨g, cap, cur, rfl, hbs, hg, hnc, _, hcs, ht⟩
  · omega
  · refine ⟨g, cap, rfl, hnc, hbs, cur, hg, fun i hi => ?_⟩
    have hl : l.length = n := by simpa using h0
    have h2 : (cur.toList.take (n * 1))[i]? = some (.string l[i]) := by rw [ht]; simp [hi]
    rw [List.getElem?_take] at h2
    rw [if_pos (by omega)] at h2
    simpa using h2
def newCells (m : Nat) (v : Value) : Array Value := #[.bool false, .int .i64 0, .bool false, v, .map (some m), .int .u64 0]
def NewRel (n : Nat) (w : World) (c : Value) (wr : World) : Prop :=
  ∃ (m : Nat) (v : Value), m ≤ n ∧ c = .int .i64 m ∧ SBox wr (w.heap.size + 1) 107 (newCells w.heap.size v) ∧ wr.ownsRow (w.heap.size + 2) 9 1 v m ((List.replicate m zeroS).map .string) ∧ IMap wr rowElem w.heap.size 0 (fun _ => none) ∧ Below w.heap.size w wr
theorem ownsRow_other {W : World} {base : Nat} {e : TypeId} {sz : Nat} {v : Value} {n c i : Nat} {xs : List Value} (h : W.ownsRow base e sz v n xs) (u : Value) (hc : c < base) : (W.setCell ⟨c, i, none⟩ u).ownsRow base e sz v n xs := by
  obtain ⟨h0, h1⟩ := h
  refine ⟨h0, ?_⟩
  rcases h1 with h1 | ⟨g, cap, cur, rfl, hbs, hg, r⟩
  · exact .inl h1
  · exact .inr ⟨g, cap, cur, rfl, hbs, (heap_setCell_other W ⟨c, i, none⟩ g u (fun e => by have e2 : g = c := e; omega)).trans hg, r⟩
theorem new_step {n m g cap : Nat} {v : Value} {w wr w9 w1 : World} (hlt : m < n) (hX1 : SBox w1 (w.heap.size + 1) 107 (newCells w.heap.size v))
    (hown1 : w1.ownsRow (w.heap.size + 2) 9 1 (.slice (some ⟨g, 0, none⟩) (m + 1) cap) (m + 1) ((List.replicate m zeroS).map .string ++ [.string zeroS]))
    (hI : IMap wr rowElem w.heap.size 0 (fun _ => none)) (hB : Below w.heap.size w w9) (b9 : Below wr.drew.heap.size wr.drew w9) (hgrow : (w9.alloc (.cells #[.string zeroS] 9)).grownBy w1 v.ownBlock)
    (hgb : ∀ r, v.ownBlock = some r → w.heap.size + 2 ≤ r) : NewRel n w (.int .i64 ((m : Int) + 1)) (w1.setCell ⟨w.heap.size + 1, 3, none⟩ (.slice (some ⟨g, 0, none⟩) (m + 1) cap)) := by
  refine ⟨m + 1, .slice (some ⟨g, 0, none⟩) (m + 1) cap, by omega, rfl, ?_, ?_, ?_, ?_⟩
  · unfold newCells at hX1 ⊢
    exact SBox.set hX1 3 _
  · rw [List.replicate_succ', List.map_append]
    exact ownsRow_other hown1 _ (by omega)
  · exact (((hI.drew.later b9).alloc _).kept hgrow (fun e => by have := hgb _ e.symm; omega)).other _ (by omega)
  · exact ((hB.alloc hB.size _).grown hgrow (by have := hB.size; simp; omega) (fun j e => by have := hgb _ e; omega)).setCell (by simp) _
theorem new_end {n : Nat} {v : Value} {w wr : World} (hn : n ≤ 4096) (h8 : 8 ≤ n) (hX : SBox wr (w.heap.size + 1) 107 (newCells w.heap.size v)) (hown : wr.ownsRow (w.heap.size + 2) 9 1 v n ((List.replicate n zeroS).map .string))
    (hI : IMap wr rowElem w.heap.size 0 (fun _ => none)) : ∃ g, w.heap.size ≤ g ∧ DevAt wr ⟨w.heap.size + 1, g, w.heap.size⟩ (List.replicate n zeroS) (fun _ => none) 0 := by
  obtain ⟨g, cap, rfl, hnc, hge, hrow⟩ := strRow_of (by omega) hown
  refine ⟨g, by omega, ⟨⟨cap, by simpa using hnc, ?_⟩, hrow, hI, (fun x e hx => by cases hx), (by simpa using hn), (fun x e hx => by cases hx)⟩⟩
  unfold devCells
  rw [List.length_replicate]
  exact hX
set_option maxRecDepth 100000 in
set_option maxHeartbeats 2000000 in
theorem new_any (n : Nat) (w : World) (h8 : 8 ≤ n) (hn : n ≤ 4096) :
    Calls Tryz.prog 46 #[.int .i64 n] w fun e w' => ∃ b : DevB, e = .returned (.tuple #[.pointer (some ⟨b.p, 0, none⟩), .int .i64 0]) ∧ DevAt w' b (List.replicate n zeroS) (fun _ => none) 0 ∧ w.heap.size ≤ b.p ∧ w.heap.size ≤ b.g ∧ w.heap.size ≤ b.m ∧ Below w.heap.size w w' := by
  have t1 : decide ((n : Int) < 8) = false := by simp; omega
  have t2 : decide ((4096 : Int) < n) = false := by simp; omega
  have t3 : decide (4096 < n) = false := by simp; omega
  have hmm := @run_makeMap Tryz.prog
  obtain ⟨i0, hi0, hz0, hz1, hz2⟩ := info_parts info_str
  go_enter Tryz.func46, Tryz.ntmps46
  go_wp2_with fail
  clear hmm
  go_loopw [15] (fun c wr => NewRel n w c wr) (fun c _ => n - (intOf c).toNat)
  case atStart =>
    refine ⟨0, .slice none 0 0, Nat.zero_le _, rfl, ?_, ⟨rfl, .inl ⟨rfl, rfl⟩⟩, (IMap.new w rowElem).alloc _, ((Below.refl _ _).alloc (Nat.le_refl _) _).alloc (by simp) _⟩
    have h := SBox.new (w.alloc (.map #[] 0)) 107 (newCells w.heap.size (.slice none 0 0))
    rw [World.size_alloc] at h
    exact h
  case round =>
    obtain ⟨m, v, hm, rfl, hX, hown, hI, hB⟩ := hrel
    by_cases hlt : m < n
    · have q0 : (m : Int) < n := by omega
      have hne := ownsRow_ne hown hX (by decide)
      have hgb : ∀ r, v.ownBlock = some r → w.heap.size + 2 ≤ r := fun r e => (hown.lt _ e).1
      have HX := Lib.hid hX
      have HOWN := Lib.hid hown
      have HI := Lib.hid hI
      have HB := Lib.hid hB
      unfold newCells at hX
      have X0 := hX.cell 0
      have X1 := hX.cell 1
      have X2 := hX.cell 2
      have X3 := hX.cell 3
      have X4 := hX.cell 4
      have X5 := hX.cell 5
      simp only [List.getElem?_toArray, List.getElem?_cons_zero, List.getElem?_cons_succ] at X0 X1 X2 X3 X4 X5
      have Xl := hX.lt
      clear hX hown hI hB
      go_wp2_with fail
      go_region_law (first | (refine step_append_lies _ rfl (.tmp 21) (.tmp 23) 104 rfl (w.heap.size + 2) 9 i0 (.string ⟨#[]⟩) 1 16 Tryz.underlying104 hi0 hz0 hz1 hz2 rfl (by decide) v m _ rfl HOA.out ⟨w9.heap.size, 0, none⟩ 1 1 [.string zeroS] rfl rfl ?q1 ?q2 (by decide) ?q3 ?q4 ?q5 _ rfl ?_; (case q1 => exact World.news_of_block (SBox.new w9 9 #[.string zeroS])); (case q2 => (intro u hu; simp at hu; subst hu; rfl)); (case q3 => (unfold maxLen; omega)); (case q4 => omega); (case q5 => (have := HB9.out.size; have := xal; simp at this ⊢; omega)); intro g cap w1 hown1 hgrow hat hlt9; have HX1 := Lib.hid (SBox.kept XA.out hgrow hne); have y3 := HX1.out.cell 3; have fy := HX1.out.free 3; have yl := HX1.out.lt; simp only [newCells, List.getElem?_toArray, List.getElem?_cons_zero, List.getElem?_cons_succ] at y3) | (go_simp; refine (repeat_zero _).mono ?_; rintro e w9 ⟨rfl, b9⟩; have HB99 := Lib.hid b9; have HX9 := Lib.hid (SBox.later (SBox.drew HX.out) b9); have HB9 := Lib.hid (HB.out.drew.trans (b9.mono HB.out.size)); have XA := Lib.hid (HX9.out.alloc (.cells #[.string zeroS] 9)); have HOA := Lib.hid (ownsRow_later (ownsRow_later (show wr.drew.ownsRow (w.heap.size + 2) 9 1 v m _ from HOWN.out) b9) ((Below.refl _ _).alloc (Nat.le_refl _) (.cells #[.string zeroS] 9))); have x9 := HX9.out.cell 3; have xl := HX9.out.lt; have xa := XA.out.cell 3; have xal := XA.out.lt; simp only [newCells, List.getElem?_toArray, List.getElem?_cons_zero, List.getElem?_cons_succ] at x9 xa))
      all_goals (go_wp2_with fail; exact ⟨new_step hlt HX1.out hown1 HI.out HB9.out HB99.out hgrow hgb, by simp [intOf]; omega⟩)
    · obtain rfl : m = n := by omega
      obtain ⟨g, hg, hD⟩ := new_end hn h8 hX hown hI
      have HD := Lib.hid hD
      have HB := Lib.hid hB
      clear hD hX hown hI hB
      go_wp2
      go_ret2
      exact ⟨⟨w.heap.size + 1, g, w.heap.size⟩, rfl, HD.out, by simp, hg, Nat.le_refl _, HB.out⟩
end Go.Proofs.YtpnfkilfgdnogaaGreatDoor.Dev
