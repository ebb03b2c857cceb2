/- Layer 11: what the row's list of variables gives; a geometry that came in, opened; a world for the witness. -/
import Derived.Test.YtpnfkilfgdnogaaGreatDoorBitsIter
import Derived.Test.YtpnfkilfgdnogaaGreatDoorBitsFill
import Derived.Test.YtpnfkilfgdnogaaGreatDoorOctetPlain
import Derived.Test.YtpnfkilfgdnogaaGreatDoorImgA
import Derived.Test.YtpnfkilfgdnogaaGreatDoorImgB
import Derived.Test.YtpnfkilfgdnogaaGreatDoorCards
import Derived.Test.YtpnfkilfgdnogaaGreatDoorTie
import Derived.WalkKit
import Derived.ProofKit
import Derived.OpenShut
import Derived.ShutString
import Derived.ChangeOld
import Derived.Below
import Derived.SizedLaws
import Derived.Deep.DeepHandedRow
import Derived.Lib.LaidTab
import Derived.Lib.SmallJoins
import Derived.Laws.IdiomArrays

/- Layer 6 (bits), plain: how many are on below n; the least that is off. -/
section
namespace Go.Proofs.YtpnfkilfgdnogaaGreatDoor
set_option linter.unusedVariables false
set_option linter.unusedSimpArgs false
def cntT (s : ByteArray) (n : Nat) : Nat := ((List.range n).filter fun k => bitB s k).length
theorem countB_cnt (s : ByteArray) (n : Nat) (h : n ≤ 8 * s.size) : countB s (n : Int) = cntT s n := by
  obtain ⟨r, hr⟩ : ∃ r, 8 * s.size = n + r := ⟨8 * s.size - n, by omega⟩
  unfold countB cntB upto cntT
  rw [List.filter_map, List.length_map, hr, List.range_add, List.filter_append, List.length_append]
  have h2 : (((List.range r).map (n + ·)).filter ((fun x : Nat × Bool => x.2 && decide ((x.1 : Int) < n)) ∘ bitPair s)) = [] := by
    refine List.filter_eq_nil_iff.2 (fun k hk => ?_)
    obtain ⟨j, _, rfl⟩ := List.mem_map.1 hk
    have e : decide (((n + j : Nat) : Int) < n) = false := decide_eq_false (by omega)
    intro hc
    have hc2 : (bitB s (n + j) && decide (((n + j : Nat) : Int) < n)) = true := hc
    rw [e, Bool.and_false] at hc2
    cases hc2
  rw [h2, List.length_nil, Nat.add_zero]
  congr 1
  refine List.filter_congr (fun k hk => ?_)
  have hk := List.mem_range.1 hk
  simp [bitPair, hk]
theorem cntT_congr {s t : ByteArray} {n : Nat} (h : ∀ k, k < n → bitB s k = bitB t k) : cntT s n = cntT t n := by
  unfold cntT
  congr 1
  exact List.filter_congr (fun k hk => h k (List.mem_range.1 hk))
theorem cntT_of {s : ByteArray} {n : Nat} (f : Nat → Bool) (h : ∀ k, k < n → bitB s k = f k) : cntT s n = ((List.range n).filter f).length := by
  unfold cntT
  congr 1
  exact List.filter_congr (fun k hk => h k (List.mem_range.1 hk))
theorem leastB_of {s : ByteArray} {m k : Nat} (hm : k < m) (hk : k < 8 * s.size) (h0 : ∀ j, j < k → bitB s j = true) (h1 : bitB s k = false) : leastB s (m : Int) false = (k, true) := by
  unfold leastB
  obtain ⟨r, hr⟩ : ∃ r, 8 * s.size = k + (r + 1) := ⟨8 * s.size - k - 1, by omega⟩
  have hsp : upto (bitPair s) (8 * s.size) = upto (bitPair s) k ++ (bitPair s k :: (List.range r).map fun j => bitPair s (k + (j + 1))) := by
    unfold upto
    rw [hr, List.range_add, List.map_append]
    congr 1
    rw [List.map_map, List.range_succ_eq_map, List.map_cons, List.map_map]
    rfl
  have hng : ¬ goesOn (m : Int) false (bitPair s k) := fun h => h.2 h1
  rw [hsp, leastL_skip, leastL_stop _ _ _ _ hng]
  · unfold leastL
    simp [bitPair, h1, hm]
  · intro p hp
    unfold upto at hp
    obtain ⟨j, hj, rfl⟩ := List.mem_map.1 hp
    have hj := List.mem_range.1 hj
    exact ⟨by simp [bitPair]; omega, by simp [bitPair, h0 j hj]⟩
theorem bit_zero (n k : Nat) : bitB (Oct.B (List.replicate n 0)) k = false := by
  unfold bitB byteAt
  have h : (Oct.B (List.replicate n 0)).data.toList.getD (k / 8) 0 = 0 := by
    show (List.replicate n (0 : UInt8)).toArray.toList.getD (k / 8) 0 = 0
    rw [List.toList_toArray, List.getD_eq_getElem?_getD, List.getElem?_replicate]
    split <;> rfl
  rw [h]
  simp
end Go.Proofs.YtpnfkilfgdnogaaGreatDoor
end

/- Layer 11's law: the chapter's examples, plain: what each step leaves of the disk. -/
section
namespace Go.Proofs.YtpnfkilfgdnogaaGreatDoor.Img
set_option linter.unusedVariables false
set_option linter.unusedSimpArgs false
open Go.RowKit Go.Shelf Go.Maps Oct Dev Jou Tx Geo Ino Bm
def zs32 : List Nat := List.replicate 32 0
def xF : InoT := ⟨1, 1, 0, 0, 0, 0, 0, 0⟩
def x65 : InoT := ⟨1, 1, 65, 0, 0, 0, 0, 0⟩
def y65 : InoT := ⟨1, 1, 65, 0, 1, 0, 0, 0⟩
theorem okRow_zero (n : Nat) (l : List Nat) (h : ∀ v ∈ l, v = 0) : okRow n l := fun k v hk hv => absurd (h v (List.mem_of_getElem? hk)) hv
theorem xF_ok : xF.Ok := .inr ⟨.inl rfl, by decide, by decide, (fun h => by cases h), okRow_zero _ _ (by decide), by decide⟩
theorem x65_ok : x65.Ok := .inr ⟨.inl rfl, by decide, by decide, (fun h => by cases h), okRow_zero _ _ (by decide), by decide⟩
theorem y65_ok : y65.Ok := by
  refine .inr ⟨.inl rfl, by decide, by decide, (fun h => by cases h), ?_, by decide⟩
  intro k v hk hv
  match k, hk with
  | 0, hk | 2, hk | 3, hk | 4, hk => cases hk; exact absurd rfl hv
  | 1, hk =>
    cases hk
    refine ⟨by decide, fun j hj => ?_⟩
    obtain rfl : j = 0 := by omega
    decide
theorem rootT_ok : rootT.Ok := .inr ⟨.inr rfl, by decide, by decide, fun _ => rfl, okRow_zero _ _ (by decide), by decide⟩
theorem bit_two (k : Nat) : bitB twoS k = decide (k < 2) := by
  have hz : zS.size = 64 := zS_size
  unfold twoS fillN fillN fillN
  rw [bitB_setB _ _ _ _ (by rw [size_setB, hz]; omega), bitB_setB _ _ _ _ (by rw [hz]; omega)]
  have h0 : bitB zS k = false := bit_zero 64 k
  rw [h0]
  by_cases h1 : k = 0 + 1
  · subst h1; rfl
  · by_cases h2 : k = 0 + 0
    · subst h2; rfl
    · rw [if_neg h1, if_neg h2]
      simp; omega
theorem bit_one (k : Nat) : bitB oneS k = decide (k < 1) := by
  have hz : zS.size = 64 := zS_size
  unfold oneS fillN fillN
  rw [bitB_setB _ _ _ _ (by rw [hz]; omega)]
  have h0 : bitB zS k = false := bit_zero 64 k
  rw [h0]
  by_cases h2 : k = 0 + 0
  · subst h2; rfl
  · rw [if_neg h2]
    simp; omega
theorem indIs_zero (E : Im) (D : Secs) : IndIs E D 0 zs32 := ⟨rfl, fun v hv => by rw [List.eq_of_mem_replicate hv]; omega, fun _ => rfl, fun h => absurd rfl h⟩
theorem cutFree_none {x : InoT} (p : Nat) (h : x.d0 = 0 ∧ x.d1 = 0 ∧ x.d2 = 0 ∧ x.d3 = 0 ∧ x.ind = 0) : cutFree x zs32 p = [] := by
  obtain ⟨h0, h1, h2, h3, h4⟩ := h
  have hd : freeD x p = [] := by
    unfold freeD dirL
    rw [h0, h1, h2, h3]
    have e : nzs [0, 0, 0, 0] p (4 - p) = [] := by
      unfold nzs
      refine List.filter_eq_nil_iff.2 (fun k _ => ?_)
      match k with
      | 0 | 1 | 2 | 3 => decide
      | n + 4 => simp
    rw [e]
    rfl
  unfold cutFree
  rw [hd, show freeV zs32 p = [] from freeV_zero p, if_neg (fun h => h.1 h4)]
  rfl
theorem cutDir_none {x : InoT} (p : Nat) (h : x.d0 = 0 ∧ x.d1 = 0 ∧ x.d2 = 0 ∧ x.d3 = 0) : cutDir x p = x := by
  obtain ⟨k, l, s, d0, d1, d2, d3, i⟩ := x
  obtain ⟨h0, h1, h2, h3⟩ := h
  simp only at h0 h1 h2 h3
  subst h0 h1 h2 h3
  simp [cutDir]
section
variable {E : Im}
/-- A disk, on which an inode without blocks is resized. -/
theorem rsz_none (D : Secs) (n s : Nat) {x : InoT} (h : x.d0 = 0 ∧ x.d1 = 0 ∧ x.d2 = 0 ∧ x.d3 = 0 ∧ x.ind = 0) : rszD E D n x zs32 s = setIno E D n (sized x s) ∧ cutEnd x (pagesN s) = x ∧ rszB (sized (cutEnd x (pagesN s)) s) (cutV x zs32 (pagesN s)) s = 0 := by
  have hc : cutEnd x (pagesN s) = x := by
    unfold cutEnd
    rw [if_neg (fun g => g.1 h.2.2.2.2)]
    exact cutDir_none _ ⟨h.1, h.2.1, h.2.2.1, h.2.2.2.1⟩
  have hv : cutV x zs32 (pagesN s) = zs32 := by
    unfold cutV
    rw [if_neg (fun g => g.1 h.2.2.2.2)]
    apply List.ext_getElem (by rw [cutVs_len])
    intro k h1 h2
    rw [cutVs_get (by rw [cutVs_len] at h1; exact h1)]
    split
    · exact (List.eq_of_mem_replicate (List.getElem_mem h2)).symm
    · rfl
  have hp : ∀ k, pageB (sized x s) zs32 k = 0 := fun k => by
    obtain ⟨xk, l, xs, d0, d1, d2, d3, i⟩ := x
    obtain ⟨h0, h1, h2, h3, h4⟩ := h
    simp only at h0 h1 h2 h3 h4
    subst h0 h1 h2 h3 h4
    unfold pageB allB sized
    rw [List.getD_eq_getElem?_getD]
    cases he : (0 :: 0 :: 0 :: 0 :: zs32 : List Nat)[k]? with
    | none => rfl
    | some u =>
      have hm := List.mem_of_getElem? he
      simp only [List.mem_cons] at hm
      rcases hm with rfl | rfl | rfl | rfl | hm
      · rfl
      · rfl
      · rfl
      · rfl
      · rw [List.eq_of_mem_replicate hm]; rfl
  have hr : rszB (sized (cutEnd x (pagesN s)) s) (cutV x zs32 (pagesN s)) s = 0 := by
    unfold rszB
    split
    · rfl
    · rw [hc, hv]
      exact hp _
  refine ⟨?_, hc, hr⟩
  unfold rszD
  rw [hr, hc, cutFree_none _ h]
  unfold blankD
  rw [if_pos rfl]
  unfold cutSec
  rw [if_neg (fun g => g.1 h.2.2.2.2), if_pos (show freeV zs32 (pagesN s) = [] from freeV_zero _)]
  rfl
end
end Go.Proofs.YtpnfkilfgdnogaaGreatDoor.Img
end

/- Layer 11's law: the chapter's examples (alive), walked. -/
section
namespace Go.Proofs.YtpnfkilfgdnogaaGreatDoor.Img
set_option linter.unusedVariables false
set_option linter.unusedSimpArgs false
open Go.RowKit Go.Shelf Go.Maps Oct Dev Jou Tx Geo Ino Bm
theorem format_nil (i bl j : Int) (w : World) : Calls Tryz.prog 45 #[.pointer none, .agg #[.int .i64 i, .int .i64 bl, .int .i64 j]] w fun e w' => e = .returned (.int .i64 1) ∧ Below w.heap.size w w' := by
  go_enter Tryz.func45, Tryz.ntmps45
  go_wp2
  go_ret
  exact ⟨rfl, (Below.refl _ _).alloc (Nat.le_refl _) _⟩
theorem left_eq (s : ByteArray) (N c : Nat) (h : N + 1 ≤ 8 * s.size) (hc : cntT s (N + 1) = c) : ((N : Int) + 1 - (countB s ((N : Int) + 1) : Nat)) = (N : Int) + 1 - c := by
  rw [← hc, ← countB_cnt s (N + 1) h]
  rfl
section
variable {E : Im}
/-- The disks of the examples. -/
def dk1 (E : Im) : Secs := upd (fmtS 8 16 40) (fr E 2) (setB (fmtS 8 16 40 (fr E 2)) 2 true)
def dk2 (E : Im) : Secs := setIno E (dk1 E) 2 xF
def dk3 (E : Im) : Secs := setIno E (dk2 E) 2 x65
def dk4 (E : Im) (s : ByteArray) (n : Nat) : Secs := upd (setIno E (blkD E (dk3 E) 1) 2 y65) (dq E 1) (cutS s n)
theorem fmt_parts : fmtS 8 16 40 41 = twoS ∧ fmtS 8 16 40 42 = oneS ∧ fmtS 8 16 40 43 = rootS := by
  refine ⟨?_, ?_, ?_⟩
  · unfold fmtS
    rw [if_neg (by decide), if_neg (by decide), if_pos (by decide)]
  · unfold fmtS
    rw [if_neg (by decide), if_pos (by decide)]
  · unfold fmtS
    rw [if_pos (by decide)]
structure Ex (E : Im) : Prop where
  small : Small E
  ei : E.i = 8
  eb : E.bl = 16
  ej : E.j = 40
theorem Ex.at_ (h : Ex E) : fr E 2 = 41 ∧ fr E 3 = 42 ∧ tq E 2 = 43 ∧ dq E 1 = 47 := by
  have hv := h.small.vals
  have h1 := h.ei
  have h2 := h.eb
  have h3 := h.ej
  unfold tq dq
  omega
theorem Ex.full (h : Ex E) : FullE E (fun q => q = 41 ∨ q = 42 ∨ q = 43 ∨ q = 47) → False := fun hf => hf.no [41, 42, 43, 47] (fun q hq => by simpa using hq) (by rw [h.ej]; decide)
theorem Ex.d1 (h : Ex E) : dk1 E 41 = setB twoS 2 true ∧ dk1 E 42 = oneS := by
  obtain ⟨a, b, c, d⟩ := h.at_
  unfold dk1
  rw [a]
  refine ⟨?_, ?_⟩
  · rw [upd_same, fmt_parts.1]
  · rw [upd_ne _ _ (by omega), fmt_parts.2.1]
theorem Ex.d3 (h : Ex E) : dk3 E 41 = setB twoS 2 true ∧ dk3 E 42 = oneS := by
  obtain ⟨a, b, c, d⟩ := h.at_
  unfold dk3 dk2
  rw [setIno_q (by omega), setIno_q (by omega), setIno_q (by omega), setIno_q (by omega)]
  exact h.d1
theorem Ex.d4 (h : Ex E) (s : ByteArray) (n : Nat) : dk4 E s n 41 = setB twoS 2 true ∧ dk4 E s n 42 = setB oneS 1 true := by
  obtain ⟨a, b, c, d⟩ := h.at_
  unfold dk4
  rw [upd_ne _ _ (by omega), upd_ne _ _ (by omega), setIno_q (by omega), setIno_q (by omega)]
  unfold blkD
  rw [upd_ne _ _ (by omega), upd_ne _ _ (by omega), b, upd_ne _ _ (by omega), upd_same, h.d3.1, h.d3.2]
  exact ⟨rfl, rfl⟩
theorem sz_three : (setB twoS 2 true).size = 64 := by rw [size_setB]; exact twoS_size
theorem bit_three (k : Nat) : bitB (setB twoS 2 true) k = decide (k < 3) := by
  rw [bitB_setB _ _ _ _ (by rw [twoS_size]; omega), bit_two]
  by_cases h : k = 2
  · subst h; rfl
  · rw [if_neg h]
    simp; omega
theorem bit_two' (k : Nat) : bitB (setB oneS 1 true) k = decide (k < 2) := by
  rw [bitB_setB _ _ _ _ (by rw [oneS_size]; omega), bit_one]
  by_cases h : k = 1
  · subst h; rfl
  · rw [if_neg h]
    simp; omega
theorem cutFree_y : cutFree y65 zs32 0 = [1] := by
  unfold cutFree
  rw [show freeV zs32 0 = [] from freeV_zero 0, if_neg (fun h => h.1 rfl)]
  rfl
end
end Go.Proofs.YtpnfkilfgdnogaaGreatDoor.Img
end

/- Layer 11's law: alive, walked. -/
section
namespace Go.Proofs.YtpnfkilfgdnogaaGreatDoor.Img
set_option linter.unusedVariables false
set_option linter.unusedSimpArgs false
open Go.RowKit Go.Shelf Go.Maps Oct Dev Jou Tx Geo Ino Bm
def exZ (q : Nat) : Prop := q = 41 ∨ q = 42 ∨ q = 43 ∨ q = 47
section
variable {E : Im} {w : World}
theorem ex_free0 (x : Ex E) (h : IS w E (fmtS 8 16 40) exZ) : Calls Tryz.prog 14 #[.pointer (some ⟨E.M, 0, none⟩)] w fun e w' => e = .returned (.tuple #[.int .i64 7, .int .i64 16, .int .i64 0]) ∧ Below w.heap.size w w' := by
  have F := free_is w x.small h
  obtain ⟨a, b, c, d⟩ := x.at_
  rw [a, b, x.ei, x.eb, fmt_parts.1, fmt_parts.2.1, left_eq twoS 8 2 (by rw [twoS_size]; omega) (by rw [cntT_of (fun k => decide (k < 2)) (fun k _ => bit_two k)]; decide), left_eq oneS 16 1 (by rw [oneS_size]; omega) (by rw [cntT_of (fun k => decide (k < 1)) (fun k _ => bit_one k)]; decide)] at F
  exact F
theorem ex_free4 (x : Ex E) (s : ByteArray) (n : Nat) (h : IS w E (dk4 E s n) exZ) : Calls Tryz.prog 14 #[.pointer (some ⟨E.M, 0, none⟩)] w fun e w' => e = .returned (.tuple #[.int .i64 6, .int .i64 15, .int .i64 0]) ∧ Below w.heap.size w w' := by
  have F := free_is w x.small h
  obtain ⟨a, b, c, d⟩ := x.at_
  rw [a, b, x.ei, x.eb, (x.d4 s n).1, (x.d4 s n).2, left_eq (setB twoS 2 true) 8 3 (by rw [sz_three]; omega) (by rw [cntT_of (fun k => decide (k < 3)) (fun k _ => bit_three k)]; decide), left_eq (setB oneS 1 true) 16 2 (by rw [size_setB, oneS_size]; omega) (by rw [cntT_of (fun k => decide (k < 2)) (fun k _ => bit_two' k)]; decide)] at F
  exact F
theorem ex_take (x : Ex E) (h : IS w E (fmtS 8 16 40) exZ) : Calls Tryz.prog 19 #[.pointer (some ⟨E.M, 0, none⟩), .int .u32 2] w fun e w' => e = .returned (.int .i64 0) ∧ Wr E (dk1 E) exZ w w' := by
  obtain ⟨a, b, c, d⟩ := x.at_
  refine (take_is (Q := False) 2 w x.small h (by omega) (by rw [x.ei]; omega) (by rw [a, fmt_parts.1, bit_two]; decide) (by rw [a]; exact .inl rfl) x.full).mono ?_
  rintro e w' (⟨rfl, g⟩ | ⟨rfl, g⟩)
  · exact ⟨rfl, g⟩
  · exact g.1.1.elim
theorem ex_have (x : Ex E) (s : ByteArray) (n : Nat) (h : IS w E (dk4 E s n) exZ) : Calls Tryz.prog 19 #[.pointer (some ⟨E.M, 0, none⟩), .int .u32 2] w fun e w' => e = .returned (.int .i64 9) ∧ Below w.heap.size w w' := by
  obtain ⟨a, b, c, d⟩ := x.at_
  exact take_have 2 w x.small h (by omega) (by rw [x.ei]; omega) (by rw [a, (x.d4 s n).1, bit_three]; decide)
theorem ex_set (x : Ex E) (h : IS w E (dk1 E) exZ) : Calls Tryz.prog 20 #[.pointer (some ⟨E.M, 0, none⟩), .int .u32 2, .agg #[.int .u8 1, .int .u16 1, .int .u32 0, .int .u16 0, .int .u16 0, .int .u16 0, .int .u16 0, .int .u16 0]] w fun e w' => e = .returned (.int .i64 0) ∧ Wr E (dk2 E) exZ w w' := by
  obtain ⟨a, b, c, d⟩ := x.at_
  refine (setInode_is (Q := False) 2 xF w x.small h (by omega) (by rw [x.ei]; omega) xF_ok (by rw [c]; exact .inr (.inr (.inl rfl))) x.full).mono ?_
  rintro e w' (⟨rfl, g⟩ | ⟨rfl, g⟩)
  · exact ⟨rfl, g⟩
  · exact g.1.1.elim
theorem ex_resize (x : Ex E) (h : IS w E (dk2 E) exZ) : Calls Tryz.prog 22 #[.pointer (some ⟨E.M, 0, none⟩), .int .u32 2, .int .u32 65] w fun e w' => e = .returned (.int .i64 0) ∧ Wr E (dk3 E) exZ w w' := by
  obtain ⟨a, b, c, d⟩ := x.at_
  obtain ⟨r1, r2, r3⟩ := rsz_none (E := E) (dk2 E) 2 65 (x := xF) ⟨rfl, rfl, rfl, rfl, rfl⟩
  have hl := h.len
  have h64 : ((dk1 E) (tq E 2)).size = 64 := by
    have := h.sec (tq_lt x.small hl (n := 2) (by omega) (by rw [x.ei]; omega))
    unfold dk2 setIno at this
    rw [upd_same] at this
    rw [c]
    unfold dk1
    rw [upd_ne _ _ (by omega), fmt_parts.2.2]
    exact rootS_size
  have hcf := cutFree_none (x := xF) (pagesN 65) ⟨rfl, rfl, rfl, rfl, rfl⟩
  have R := resize_is (Q := False) 2 65 xF zs32 w x.small h (by omega) (by rw [x.ei]; omega) (setIno_same h64) xF_ok (by decide) ⟨Nat.zero_le _, Nat.zero_le _, Nat.zero_le _, Nat.zero_le _, Nat.zero_le _⟩ (indIs_zero E _) (by omega) (fun h => by cases h) (fun k hk => by rw [hcf] at hk; exact absurd hk (Nat.not_lt_zero _)) (by rw [r2]; exact x65_ok) (by rw [r2]; exact ⟨Nat.zero_le _, Nat.zero_le _, Nat.zero_le _, Nat.zero_le _, Nat.zero_le _⟩)
    (by
      rw [r2]
      have hv : cutV xF zs32 (pagesN 65) = zs32 := by
        unfold cutV
        rw [if_neg (fun g => g.1 rfl)]
        apply List.ext_getElem (by rw [cutVs_len])
        intro k h1 h2
        rw [cutVs_get (by rw [cutVs_len] at h1; exact h1)]
        split
        · exact (List.eq_of_mem_replicate (List.getElem_mem h2)).symm
        · rfl
      rw [hv]
      exact indIs_zero E _)
    (by rw [b]; exact .inr (.inl rfl)) (by rw [c]; exact .inr (.inr (.inl rfl))) (fun q h1 h2 h3 => by
      rcases h3 with rfl | rfl
      · exact absurd h1 (by decide)
      · rw [r3] at h1; omega) x.full
  rw [r1] at R
  refine R.mono ?_
  rintro e w' (⟨rfl, g⟩ | ⟨rfl, g⟩)
  · exact ⟨rfl, g⟩
  · exact g.1.1.elim
theorem ex_page (x : Ex E) (s : ByteArray) (hs : s.size = 64) (h : IS w E (dk3 E) exZ) : Calls Tryz.prog 23 #[.pointer (some ⟨E.M, 0, none⟩), .int .u32 2, .int .i64 1, .string s] w fun e w' => e = .returned (.int .i64 0) ∧ Wr E (dk4 E s 1) exZ w w' := by
  obtain ⟨a, b, c, d⟩ := x.at_
  have hl := h.len
  have h64 : ((dk2 E) (tq E 2)).size = 64 := by
    unfold dk2 setIno
    rw [upd_same]
    rw [patchS_size]
    · rw [c]
      unfold dk1
      rw [upd_ne _ _ (by omega), fmt_parts.2.2]
      exact rootS_size
    · rw [inoB_size, c]
      unfold dk1
      rw [upd_ne _ _ (by omega), fmt_parts.2.2, rootS_size]
      decide
  refine (setPage_is (Q := False) (D' := blkD E (dk3 E) 1) 2 1 1 x65 y65 s w x.small h (by omega) (by rw [x.ei]; omega) (setIno_same h64) x65_ok (by decide) (by decide) hs y65_ok (by omega) (by rw [x.eb]; omega) (by rw [c]; exact .inr (.inr (.inl rfl))) (by rw [d]; exact .inr (.inr (.inr rfl))) x.full (fun W hW => ?_)).mono ?_
  · exact home_lo 1 1 x65 zs32 W x.small hW ⟨Nat.zero_le _, Nat.zero_le _, Nat.zero_le _, Nat.zero_le _, Nat.zero_le _⟩ (indIs_zero E _) (by omega) rfl (by
      have heb := x.eb
      rw [b, x.d3.2]
      exact leastB_of (by omega) (by rw [oneS_size]; omega) (fun j hj => by rw [bit_one]; simpa using hj) (by rw [bit_one]; rfl)) (by omega) (by rw [x.eb]; omega) (by rw [b]; exact .inr (.inl rfl)) (by rw [d]; exact .inr (.inr (.inr rfl))) x.full
  · rintro e w' (⟨rfl, g⟩ | ⟨rfl, g⟩)
    · exact ⟨rfl, g⟩
    · exact g.1.1.elim
theorem ex_blocks (x : Ex E) (s : ByteArray) (n : Nat) (h : IS w E (dk4 E s n) exZ) : Calls Tryz.prog 43 #[.pointer (some ⟨E.M, 0, none⟩), .int .u32 2] w fun e w' => ∃ v, e = .returned (.tuple #[v, .int .i64 0]) ∧ OwnL w.heap.size [1] v w' ∧ Below w.heap.size w w' := by
  obtain ⟨a, b, c, d⟩ := x.at_
  have h64 : (blkD E (dk3 E) 1 (tq E 2)).size = 64 := by
    unfold blkD dk3 dk2 setIno
    rw [upd_ne _ _ (by omega), upd_ne _ _ (by omega), upd_same, patchS_size]
    · rw [upd_same, patchS_size]
      · rw [c]
        unfold dk1
        rw [upd_ne _ _ (by omega), fmt_parts.2.2]
        exact rootS_size
      · rw [inoB_size, c]
        unfold dk1
        rw [upd_ne _ _ (by omega), fmt_parts.2.2, rootS_size]
        decide
    · rw [inoB_size, upd_same, patchS_size]
      · rw [c]
        unfold dk1
        rw [upd_ne _ _ (by omega), fmt_parts.2.2, rootS_size]
        decide
      · rw [inoB_size, c]
        unfold dk1
        rw [upd_ne _ _ (by omega), fmt_parts.2.2, rootS_size]
        decide
  have hx : InoIs E (dk4 E s n) 2 y65 := (setIno_same h64).upd (by omega)
  have B := blocks_is 2 y65 zs32 w x.small h (by omega) (by rw [x.ei]; omega) hx y65_ok ⟨Nat.zero_le _, by rw [x.eb]; decide, Nat.zero_le _, Nat.zero_le _, Nat.zero_le _⟩ (indIs_zero E _)
  rw [cutFree_y] at B
  exact B
end
set_option maxRecDepth 100000 in
set_option maxHeartbeats 8000000 in
theorem alive11 (w : World) (hR : RootAt w) : Calls Tryz.prog 10 #[] w fun e w' => e = .returned (.bool true) ∧ Below w.heap.size w w' := by
  have SM := Lib.hid (fun W => small_any W)
  have DK : Hid (∀ W, RootAt W → Calls Tryz.prog 11 #[.agg #[.int .i64 8, .int .i64 16, .int .i64 40]] W fun e w' => ∃ E : Im, e = .returned (.tuple #[.pointer (some ⟨E.b.p, 0, none⟩), .pointer (some ⟨E.T.j, 0, none⟩), .pointer (some ⟨E.T.p, 0, none⟩), .pointer (some ⟨E.M, 0, none⟩)]) ∧ DiskAt W E 8 16 40 w') := Lib.hid (fun W h => disk_any 8 16 40 W (by decide) (by omega) (by omega) (by omega) h)
  have FU : Hid (∀ W, Calls Tryz.prog 24 #[.string ⟨#[120]⟩] W fun e w' => e = .returned (.string (B (fullL ⟨#[120]⟩))) ∧ Below W.heap.size W w') := Lib.hid (fun W => full_any ⟨#[120]⟩ W (by decide))
  have hfz : (B (fullL ⟨#[120]⟩)).size = 64 := by rw [size_B, fullL_len]
  have FL := Lib.hid (fun W => file_any W)
  have SA : Hid (∀ u v W, SlIs W [1] u → SlIs W [1] v → Calls Tryz.prog 44 #[u, v] W fun e w' => e = .returned (.bool true) ∧ Below W.heap.size W w') := Lib.hid (fun u v W ha hb => same_any [1] [1] u v W ha hb (by decide) (by decide))
  have FN := Lib.hid (fun W => format_nil 8 16 40 W)
  have HR := Lib.hid hR
  clear hR
  go_enter Tryz.func10, Tryz.ntmps10
  go_wp2_with fail
  refine (SM.out _).mono ?_
  rintro e w1 ⟨rfl, b1⟩
  have B1 := Lib.hid b1
  clear b1
  go_wp2_with fail
  refine (DK.out _ (HR.out.later B1.out)).mono ?_
  rintro e w2 ⟨E, rfl, hD⟩
  have x : Ex E := ⟨hD.small, hD.ei, hD.eb, hD.ej⟩
  have X := Lib.hid x
  have B2 := Lib.hid (B1.out.trans (hD.bel.mono B1.out.size))
  have hTm : w.heap.size ≤ E.T.m := Nat.le_trans B1.out.size hD.own
  have I2 := Lib.hid (hD.is.mono (Z' := exZ) (fun q h => h.elim))
  clear hD x DK
  go_wp2_with fail
  refine (ex_free0 X.out I2.out).mono ?_
  rintro e w3 ⟨rfl, b3⟩
  have W3 := Lib.hid (Wr.same I2.out b3)
  clear b3
  go_wp2_with fail
  refine (ex_take X.out W3.out.1).mono ?_
  rintro e w4 ⟨rfl, g⟩
  have W4 := Lib.hid (g.then_ W3.out)
  clear g W3
  go_wp2_with fail
  refine (FL.out _).mono ?_
  rintro e w5 ⟨rfl, b5⟩
  have W5 := Lib.hid (W4.out.post b5)
  clear b5 W4
  go_wp2_with fail
  refine (ex_set X.out W5.out.1).mono ?_
  rintro e w6 ⟨rfl, g⟩
  have W6 := Lib.hid (g.then_ W5.out)
  clear g W5
  go_wp2_with fail
  refine (ex_resize X.out W6.out.1).mono ?_
  rintro e w7 ⟨rfl, g⟩
  have W7 := Lib.hid (g.then_ W6.out)
  clear g W6
  go_wp2_with fail
  refine (FU.out _).mono ?_
  rintro e w8 ⟨rfl, b8⟩
  have W8 := Lib.hid (W7.out.post b8)
  clear b8 W7
  generalize B (fullL ⟨#[120]⟩) = s64 at *
  go_wp2_with fail
  refine (ex_page X.out s64 hfz W8.out.1).mono ?_
  rintro e w9 ⟨rfl, g⟩
  have W9 := Lib.hid (g.then_ W8.out)
  clear g W8
  go_wp2_with fail
  refine (ex_blocks X.out s64 1 W9.out.1).mono ?_
  rintro e wA ⟨v, rfl, ho, bA⟩
  have WA := Lib.hid (W9.out.post bA)
  have hsl := SlIs.of_own ho
  clear bA W9 ho
  go_wp2_with fail
  refine (ex_free4 X.out s64 1 WA.out.1).mono ?_
  rintro e wB ⟨rfl, bB⟩
  have WB := Lib.hid (WA.out.post bB)
  have HS := Lib.hid (hsl.later bB)
  clear bB WA hsl
  have bC := (Below.refl wB.heap.size wB).alloc (Nat.le_refl _) (.cells #[.int .u16 1] 39)
  have WC := Lib.hid (WB.out.post bC)
  have HS2 := Lib.hid (HS.out.later bC)
  have HS3 : Hid (SlIs (wB.alloc (.cells #[.int .u16 1] 39)) [1] (.slice (some ⟨wB.heap.size, 0, none⟩) 1 1)) := Lib.hid (.inr ⟨wB.heap.size, 1, rfl, #[.int .u16 1], SBox.new _ _ _, fun i hi => by
    have : i = 0 := by simp at hi; exact hi
    subst this
    rfl⟩)
  clear bC
  go_wp2_with fail
  refine (SA.out _ _ _ HS2.out HS3.out).mono ?_
  rintro e wD ⟨rfl, bD⟩
  have WD := Lib.hid (WC.out.post bD)
  clear bD WC
  go_wp2_with fail
  refine (ex_have X.out s64 1 WD.out.1).mono ?_
  rintro e wE ⟨rfl, bE⟩
  have WE := Lib.hid (WD.out.post bE)
  clear bE WD
  go_wp2_with fail
  refine (SM.out _).mono ?_
  rintro e wF ⟨rfl, bF⟩
  have WF := Lib.hid (WE.out.post bF)
  clear bF WE
  go_wp2_with fail
  refine (FN.out _).mono ?_
  rintro e wG ⟨rfl, bG⟩
  have WG := Lib.hid (WF.out.post bG)
  clear bG WF
  go_wp2
  go_ret
  exact ⟨rfl, WG.out.2.below (fun c hc => by rw [hc]; exact hTm) B2.out B2.out.size⟩
end Go.Proofs.YtpnfkilfgdnogaaGreatDoor.Img
end

/- ImageFormat, walked: of every geometry the law answers true, and touches nothing old. -/
section
namespace Go.Proofs.YtpnfkilfgdnogaaGreatDoor.Img
set_option linter.unusedVariables false
set_option linter.unusedSimpArgs false
open Go.RowKit Go.Shelf Go.Maps Oct Dev Jou Tx Geo Ino Bm
theorem filter_lt (c r : Nat) : ((List.range (c + r)).filter fun k => decide (k < c)).length = c := by
  rw [List.range_add, List.filter_append, List.length_append]
  have h1 : (List.range c).filter (fun k => decide (k < c)) = List.range c := List.filter_eq_self.2 (fun k hk => by simpa using hk)
  have h2 : ((List.range r).map (c + ·)).filter (fun k => decide (k < c)) = [] := by
    refine List.filter_eq_nil_iff.2 (fun k hk => ?_)
    obtain ⟨j, _, rfl⟩ := List.mem_map.1 hk
    simp
  rw [h1, h2]
  simp
theorem root_is (E : Im) (i bl j : Nat) (h : tq E 1 = fromG i bl j 4) : InoIs E (fmtS i bl j) 1 rootT := by
  unfold InoIs
  rw [h]
  have e : fmtS i bl j (fromG i bl j 4) = rootS := by unfold fmtS; rw [if_pos rfl]
  rw [e]
  show rootS.extract 0 32 = inoB rootT
  unfold rootS
  have hz := inoB_size rootT
  apply L_inj
  rw [ext_B, append_B]
  simp only [L_B, List.drop_zero, Nat.sub_zero]
  rw [List.take_append_of_le_length (by rw [len_L]; omega), List.take_of_length_le (by rw [len_L]; omega)]
theorem fmt_at (E : Im) (i bl j : Nat) (hs : Small E) (ei : E.i = i) (eb : E.bl = bl) (ej : E.j = j) : fmtS i bl j (fr E 2) = twoS ∧ fmtS i bl j (fr E 3) = oneS ∧ tq E 1 = fromG i bl j 4 := by
  have hv := hs.vals
  have h2 : fr E 2 = fromG i bl j 2 := by unfold fr; rw [ei, eb, ej]
  have h3 : fr E 3 = fromG i bl j 3 := by unfold fr; rw [ei, eb, ej]
  have h4 : fr E 4 = fromG i bl j 4 := by unfold fr; rw [ei, eb, ej]
  refine ⟨?_, ?_, ?_⟩
  · unfold fmtS
    rw [if_neg (by omega), if_neg (by omega), if_pos (by omega)]
  · unfold fmtS
    rw [if_neg (by omega), if_pos (by omega)]
  · unfold tq
    omega
theorem free_fmt (E : Im) (i bl j : Nat) (w : World) (hs : Small E) (ei : E.i = i) (eb : E.bl = bl) (ej : E.j = j) {Z : Nat → Prop} (h : IS w E (fmtS i bl j) Z) :
    Calls Tryz.prog 14 #[.pointer (some ⟨E.M, 0, none⟩)] w fun e w' => e = .returned (.tuple #[.int .i64 ((i : Int) - 1), .int .i64 bl, .int .i64 0]) ∧ Below w.heap.size w w' := by
  have hi := hs.hi
  have hb := hs.hb
  have hv := hs.vals
  obtain ⟨a, b, _⟩ := fmt_at E i bl j hs ei eb ej
  have F := free_is w hs h
  have c2 : cntT twoS (i + 1) = 2 := by
    rw [cntT_of (fun k => decide (k < 2)) (fun k _ => bit_two k)]
    obtain ⟨r, hr⟩ : ∃ r, i + 1 = 2 + r := ⟨i - 1, by omega⟩
    rw [hr]
    exact filter_lt 2 r
  have c1 : cntT oneS (bl + 1) = 1 := by
    rw [cntT_of (fun k => decide (k < 1)) (fun k _ => bit_one k)]
    obtain ⟨r, hr⟩ : ∃ r, bl + 1 = 1 + r := ⟨bl, by omega⟩
    rw [hr]
    exact filter_lt 1 r
  rw [a, b, ei, eb, left_eq twoS i 2 (by rw [twoS_size]; omega) c2, left_eq oneS bl 1 (by rw [oneS_size]; omega) c1] at F
  have e1 : (i : Int) + 1 - ((2 : Nat) : Int) = (i : Int) - 1 := by omega
  have e2 : (bl : Int) + 1 - ((1 : Nat) : Int) = bl := by omega
  rw [e1, e2] at F
  exact F
set_option maxRecDepth 100000 in
set_option maxHeartbeats 8000000 in
theorem format_small (i bl j : Nat) (w : World) (hm : mayG i bl j = true) (hi : i ≤ 30) (hb : bl ≤ 60) (hj : j ≤ 60) (hR : RootAt w) : Calls Tryz.prog 3 #[geoV i bl j] w fun e w' => e = .returned (.bool true) ∧ Below w.heap.size w w' := by
  have MY := Lib.hid (fun W => may_any i bl j W)
  rw [hm] at MY
  have LG := Lib.hid (fun W => large_any i bl j W)
  rw [decide_eq_false (by omega)] at LG
  have DK := Lib.hid (fun W h => disk_any i bl j W hm hi hb hj h)
  have RS := Lib.hid (fun W => read_super i bl j W hm)
  have MR := Lib.hid (fun W => mayRef_any i bl j W hm)
  have AL := Lib.hid (fun W h => alive11 W h)
  have HR := Lib.hid hR
  have hEQ : ∀ W : World, (binOp .eql 43 (.agg #[.int .u8 2, .int .u16 1, .int .u32 0, .int .u16 0, .int .u16 0, .int .u16 0, .int .u16 0, .int .u16 0]) (.agg #[.int .u8 2, .int .u16 1, .int .u32 0, .int .u16 0, .int .u16 0, .int .u16 0, .int .u16 0, .int .u16 0])).run Tryz.prog W = .ok (.bool true) W := fun W => by kernel_rfl
  have hE4 : ∀ W : World, (Op.equalIn 9999 41 (.agg #[.int .u16 0, .int .u16 0, .int .u16 0, .int .u16 0]) (.agg #[.int .u16 0, .int .u16 0, .int .u16 0, .int .u16 0])).run Tryz.prog W = .ok true W := fun W => by kernel_rfl
  have hv : 2 ≤ i ∧ 8 ≤ bl ∧ 40 ≤ j := by simp [mayG, inR] at hm; omega
  obtain ⟨v1, v2, v3⟩ := hv
  unfold geoV at *
  clear hR
  have HB0 := Lib.hid ((Below.refl _ w).alloc (Nat.le_refl _) (.cells #[.int .i64 i, .int .i64 bl, .int .i64 j] 23))
  have HG0 := Lib.hid (SBox.new w 23 #[.int .i64 i, .int .i64 bl, .int .i64 j])
  go_enter Tryz.func3, Tryz.ntmps3
  go_wp2_with fail
  refine (MY.out _).mono ?_
  rintro e w1 ⟨rfl, b1⟩
  have HG1 := Lib.hid (HG0.out.later b1)
  have B1 := Lib.hid (HB0.out.trans (b1.mono HB0.out.size))
  have hX := HG1.out
  clear b1
  have X0 := hX.cell 0
  have X1 := hX.cell 1
  have X2 := hX.cell 2
  simp only [List.getElem?_toArray, List.getElem?_cons_zero, List.getElem?_cons_succ] at X0 X1 X2
  have Xl := hX.lt
  clear hX
  go_wp2_with fail
  refine (LG.out _).mono ?_
  rintro e w2 ⟨rfl, b2⟩
  have HG2 := Lib.hid (HG1.out.later b2)
  have B2 := Lib.hid (B1.out.trans (b2.mono B1.out.size))
  have hX := HG2.out
  clear b2 X0 X1 X2 Xl
  have X0 := hX.cell 0
  have X1 := hX.cell 1
  have X2 := hX.cell 2
  simp only [List.getElem?_toArray, List.getElem?_cons_zero, List.getElem?_cons_succ] at X0 X1 X2
  have Xl := hX.lt
  clear hX
  go_wp2_with fail
  refine (DK.out _ (HR.out.later B2.out)).mono ?_
  rintro e w3 ⟨E, rfl, hD⟩
  have HG3 := Lib.hid (HG2.out.later hD.bel)
  have B3 := Lib.hid (B2.out.trans (hD.bel.mono B2.out.size))
  have HD := Lib.hid hD
  have hlt : 0 < E.hard.length := by
    rw [hD.hard, fmtL_len]
    unfold szL
    simp
    omega
  have DU := durable_any 0 w3 hD.dev hlt
  have h0 : E.hard[0] = B (superL i bl j) := by
    have h1 : E.hard[0]? = some (B (superL i bl j)) := by
      rw [hD.hard]
      unfold fmtL
      rw [List.getElem?_map, List.getElem?_range (by unfold szL; simp; omega)]
      show some (fmtS i bl j 0) = _
      unfold fmtS
      have hp : 0 < fromG i bl j 2 ∧ 0 < fromG i bl j 3 ∧ 0 < fromG i bl j 4 := by unfold fromG szL; simp; omega
      rw [if_neg (by omega), if_neg (by omega), if_neg (by omega), if_pos rfl]
    rw [List.getElem?_eq_getElem hlt] at h1
    exact Option.some.inj h1
  rw [h0] at DU
  have DU := Lib.hid DU
  clear hD h0 hlt X0 X1 X2 Xl
  go_wp2_with fail
  refine DU.out.mono ?_
  rintro e w4 ⟨rfl, rfl⟩
  have hx := root_is E i bl j (fmt_at E i bl j HD.out.small HD.out.ei HD.out.eb HD.out.ej).2.2
  have FR := Lib.hid (fun W h => free_fmt E i bl j W HD.out.small HD.out.ei HD.out.eb HD.out.ej (Z := fun _ => False) h)
  have hi1 : 1 ≤ E.i := by rw [HD.out.ei]; omega
  have IN : Hid (∀ W, IS W E (fmtS i bl j) (fun _ => False) → Calls Tryz.prog 15 #[.pointer (some ⟨E.M, 0, none⟩), .int .u32 1] W fun e w' => e = .returned (.tuple #[.agg #[.int .u8 2, .int .u16 1, .int .u32 0, .int .u16 0, .int .u16 0, .int .u16 0, .int .u16 0, .int .u16 0], .int .i64 0]) ∧ Below W.heap.size W w') := Lib.hid (fun W h => inode_is 1 rootT W HD.out.small h (by omega) hi1 hx rootT_ok)
  have TX : Hid (∀ W, IS W E (fmtS i bl j) (fun _ => False) → Calls Tryz.prog 16 #[.pointer (some ⟨E.M, 0, none⟩), .int .u32 1] W fun e w' => e = .returned (.tuple #[.string ⟨#[]⟩, .int .i64 0]) ∧ Below W.heap.size W w') := Lib.hid (fun W h => text_is 1 rootT zs32 W HD.out.small h (by omega) hi1 hx rootT_ok rfl ⟨Nat.zero_le _, Nat.zero_le _, Nat.zero_le _, Nat.zero_le _, Nat.zero_le _⟩ (indIs_zero E _))
  have I3 := Lib.hid HD.out.is
  clear hx hi1 DK DU
  go_wp2_with fail
  refine (RS.out _).mono ?_
  rintro e w5 ⟨rfl, b5⟩
  have bA := b5.alloc b5.size (.cells #[.int .i64 i, .int .i64 bl, .int .i64 j] 23)
  have HH5 := Lib.hid (SBox.new w5 23 #[.int .i64 i, .int .i64 bl, .int .i64 j])
  have HG5 := Lib.hid (HG3.out.later bA)
  have I5 := Lib.hid (I3.out.later bA)
  have B5 := Lib.hid (B3.out.trans (bA.mono B3.out.size))
  clear b5 bA
  go_wp2_with fail
  refine (FR.out _ I5.out).mono ?_
  rintro e w6 ⟨rfl, b6⟩
  have HH6 := Lib.hid (HH5.out.later b6)
  have HG6 := Lib.hid (HG5.out.later b6)
  have I6 := Lib.hid (I5.out.later b6)
  have B6 := Lib.hid (B5.out.trans (b6.mono B5.out.size))
  clear b6
  go_wp2_with fail
  refine (IN.out _ I6.out).mono ?_
  rintro e w7 ⟨rfl, b7⟩
  have bA := b7.alloc b7.size (.cells #[.int .u8 2, .int .u16 1, .int .u32 0, .int .u16 0, .int .u16 0, .int .u16 0, .int .u16 0, .int .u16 0] 43)
  have HX7 := Lib.hid (SBox.new w7 43 #[.int .u8 2, .int .u16 1, .int .u32 0, .int .u16 0, .int .u16 0, .int .u16 0, .int .u16 0, .int .u16 0])
  have HH7 := Lib.hid (HH6.out.later bA)
  have HG7 := Lib.hid (HG6.out.later bA)
  have I7 := Lib.hid (I6.out.later bA)
  have B7 := Lib.hid (B6.out.trans (bA.mono B6.out.size))
  clear b7 bA
  go_wp2_with fail
  refine (TX.out _ I7.out).mono ?_
  rintro e w8 ⟨rfl, b8⟩
  have hX := HX7.out.later b8
  have hH := HH7.out.later b8
  have hG := HG7.out.later b8
  have B8 := Lib.hid (B7.out.trans (b8.mono B7.out.size))
  clear b8
  have X0 := hX.cell 0
  have X1 := hX.cell 1
  have X2 := hX.cell 2
  have X3 := hX.cell 3
  have X4 := hX.cell 4
  have X5 := hX.cell 5
  have X6 := hX.cell 6
  have X7 := hX.cell 7
  simp only [List.getElem?_toArray, List.getElem?_cons_zero, List.getElem?_cons_succ] at X0 X1 X2 X3 X4 X5 X6 X7
  have Xl := hX.lt
  have H0 := hH.cell 0
  have H1 := hH.cell 1
  have H2 := hH.cell 2
  simp only [List.getElem?_toArray, List.getElem?_cons_zero, List.getElem?_cons_succ] at H0 H1 H2
  have Hl := hH.lt
  have G0 := hG.cell 0
  have G1 := hG.cell 1
  have G2 := hG.cell 2
  simp only [List.getElem?_toArray, List.getElem?_cons_zero, List.getElem?_cons_succ] at G0 G1 G2
  have Gl := hG.lt
  clear hX hH hG
  go_wp2_with fail
  refine (MR.out _).mono ?_
  rintro e w9 ⟨rfl, b9⟩
  have B9 := Lib.hid (B8.out.trans (b9.mono B8.out.size))
  clear b9
  go_wp2_with fail
  refine (AL.out _ (HR.out.later B9.out)).mono ?_
  rintro e wA ⟨rfl, bA⟩
  have BA := Lib.hid (B9.out.trans (bA.mono B9.out.size))
  clear bA
  go_wp2
  go_ret
  exact ⟨rfl, BA.out⟩
end Go.Proofs.YtpnfkilfgdnogaaGreatDoor.Img
end

/- ImageFormat, of any geometry whatever: the law answers true. -/
section
namespace Go.Proofs.YtpnfkilfgdnogaaGreatDoor.Img
set_option linter.unusedVariables false
set_option linter.unusedSimpArgs false
open Go.RowKit Go.Shelf Go.Maps Oct Dev Jou Tx Geo Ino Bm
set_option maxRecDepth 100000 in
set_option maxHeartbeats 8000000 in
theorem imageFormat_any (i bl j : Int) (w : World) (hR : RootAt w) : Calls Tryz.prog 3 #[geoV i bl j] w fun e w' => e = .returned (.bool true) ∧ Below w.heap.size w w' := by
  have MY := Lib.hid (fun W => may_any i bl j W)
  have LG := Lib.hid (fun W => large_any i bl j W)
  have AL := Lib.hid (fun W h => alive11 W h)
  have HR := Lib.hid hR
  have HB0 := Lib.hid ((Below.refl _ w).alloc (Nat.le_refl _) (.cells #[.int .i64 i, .int .i64 bl, .int .i64 j] 23))
  have HG0 := Lib.hid (SBox.new w 23 #[.int .i64 i, .int .i64 bl, .int .i64 j])
  by_cases hm : mayG i bl j = true
  · by_cases hl : 60 < bl ∨ 30 < i ∨ 60 < j
    · rw [hm] at MY
      rw [decide_eq_true hl] at LG
      clear hR hl hm
      unfold geoV at *
      go_enter Tryz.func3, Tryz.ntmps3
      go_wp2_with fail
      refine (MY.out _).mono ?_
      rintro e w1 ⟨rfl, b1⟩
      have HG1 := Lib.hid (HG0.out.later b1)
      have B1 := Lib.hid (HB0.out.trans (b1.mono HB0.out.size))
      have hX := HG1.out
      clear b1
      have X0 := hX.cell 0
      have X1 := hX.cell 1
      have X2 := hX.cell 2
      simp only [List.getElem?_toArray, List.getElem?_cons_zero, List.getElem?_cons_succ] at X0 X1 X2
      have Xl := hX.lt
      clear hX
      go_wp2_with fail
      refine (LG.out _).mono ?_
      rintro e w2 ⟨rfl, b2⟩
      have B2 := Lib.hid (B1.out.trans (b2.mono B1.out.size))
      clear b2
      go_wp2_with fail
      refine (AL.out _ (HR.out.later B2.out)).mono ?_
      rintro e w3 ⟨rfl, b3⟩
      have B3 := Lib.hid (B2.out.trans (b3.mono B2.out.size))
      clear b3
      go_wp2
      go_ret
      exact ⟨rfl, B3.out⟩
    · have hk : 2 ≤ i ∧ 8 ≤ bl ∧ 40 ≤ j := by simp [mayG, inR] at hm; omega
      obtain ⟨v1, v2, v3⟩ := hk
      obtain ⟨i', rfl⟩ := Int.eq_ofNat_of_zero_le (show 0 ≤ i by omega)
      obtain ⟨b', rfl⟩ := Int.eq_ofNat_of_zero_le (show 0 ≤ bl by omega)
      obtain ⟨j', rfl⟩ := Int.eq_ofNat_of_zero_le (show 0 ≤ j by omega)
      exact format_small i' b' j' w hm (by omega) (by omega) (by omega) hR
  · have hf : mayG i bl j = false := by simpa using hm
    rw [hf] at MY
    clear hR hm hf
    unfold geoV at *
    go_enter Tryz.func3, Tryz.ntmps3
    go_wp2_with fail
    refine (MY.out _).mono ?_
    rintro e w1 ⟨rfl, b1⟩
    have B1 := Lib.hid (HB0.out.trans (b1.mono HB0.out.size))
    clear b1
    go_wp2_with fail
    refine (AL.out _ (HR.out.later B1.out)).mono ?_
    rintro e w3 ⟨rfl, b3⟩
    have B3 := Lib.hid (B1.out.trans (b3.mono B1.out.size))
    clear b3
    go_wp2
    go_ret
    exact ⟨rfl, B3.out⟩
end Go.Proofs.YtpnfkilfgdnogaaGreatDoor.Img
end

/- Layer 11: what the row's list of variables gives; a geometry that came in, opened; a world for the witness. -/
section
namespace Go.Proofs.YtpnfkilfgdnogaaGreatDoor.Img
open Go.Joins Go.ChangeShapes Go.WideShapes Go.ChangeAt Go.RowKit Go.Deep
open Oct Geo
set_option linter.unusedVariables false
set_option linter.unusedSimpArgs false
theorem trod_one3 {H : Type} {enc : TypeId × Value → H} {P : Program} {w : World} {base fuel : Nat} {spare : Nat → Bool} {held : Bool} {t : TypeId} {f0 f1 f2 : Field} {c0 c1 c2 : Value} {x : DataW H × List MemPlace} (hs : P.underlying t = some (.struct #[f0, f1, f2])) (hone : oneCellFields P #[f0, f1, f2] = true) (h : DataW.trod enc P w base spare held fuel t [c0, c1, c2] = some x) :
    ∃ y0 y1 y2 n, x = (.agg [y0.1, y1.1, y2.1], y0.2 ++ (y1.2 ++ y2.2)) ∧ DataW.trod enc P w base spare held n f0.type [c0] = some y0 ∧ DataW.trod enc P w base spare held n f1.type [c1] = some y1 ∧ DataW.trod enc P w base spare held n f2.type [c2] = some y2 := by
  obtain ⟨y0, y1, y2, n, hx, _, t0, t1, t2⟩ := trod_struct3 hs h
  obtain ⟨o0, k0⟩ := hone_of hone 0 f0 rfl
  obtain ⟨o1, k1⟩ := hone_of hone 1 f1 rfl
  obtain ⟨o2, k2⟩ := hone_of hone 2 f2 rfl
  exact ⟨y0, y1, y2, n, hx, by simpa [o0, k0] using t0, by simpa [o1, k1] using t1, by simpa [o2, k2] using t2⟩
set_option maxRecDepth 100000 in
/-- A geometry that came in. -/
theorem open_geo {H : Type} {enc : TypeId × Value → H} {W : World} {r : Reach} {b0 base : Nat} {spare : Nat → Bool} {held : Bool} {v : Value} {d : DataW H} {p : List MemPlace}
    (hv : Value.okWide Tryz.prog W r b0 23 v) (h : DataW.Trod enc Tryz.prog W base spare held 23 v d p) : ∃ i b j : Int, v = geoV i b j := by
  obtain ⟨cs, rfl, hsz⟩ := okWide_struct Tryz.underlying23 hv
  obtain ⟨l⟩ := cs
  have hC : Tryz.prog.cellsOf 23 = 3 := by kernel_rfl
  match l, hsz.trans hC with
  | [c0, c1, c2], _ =>
    obtain ⟨fuel, hf⟩ := h
    obtain ⟨y0, y1, y2, n, hx, t0, t1, t2⟩ := trod_one3 Tryz.underlying23 (by kernel_rfl) hf
    obtain ⟨n0, e0, rfl, w0⟩ := DataW.trod_int Tryz.underlying3 t0
    obtain ⟨n1, e1, rfl, w1⟩ := DataW.trod_int Tryz.underlying3 t1
    obtain ⟨n2, e2, rfl, w2⟩ := DataW.trod_int Tryz.underlying3 t2
    simp only [List.cons.injEq, and_true] at e0 e1 e2
    subst e0 e1 e2
    exact ⟨n0, n1, n2, rfl⟩
theorem own : ownKnob Tryz.prog.godebug = none := by kernel_rfl
theorem laidOut : laidOutB Tryz.prog = true := by kernel_rfl
theorem gRoot : Tryz.prog.globalNamed "lunette/image.root" = some 0 := by kernel_rfl
theorem gRootType : (Tryz.prog.globals[0]?).map (·.type) = some 43 := by kernel_rfl
theorem cells_inode : Tryz.prog.cellsOf 43 = 8 := by kernel_rfl
theorem lit_of {H : Type} {enc : TypeId × Value → H} {W : World} {base : Nat} {sp : Nat → Bool} {held : Bool} {fuel : Nat} {t : TypeId} {k : IntKind} {n : Int} {cs : List Value} {x : DataW H × List MemPlace}
    (ht : Tryz.prog.underlying t = some (.int k)) (h : DataW.trod enc Tryz.prog W base sp held fuel t cs = some x) (hx : x.1 = .lit (.int k n)) : cs = [.int k n] := by
  obtain ⟨m, rfl, rfl, _⟩ := DataW.trod_int ht h
  simp only [DataW.lit.injEq, Lit.int.injEq, true_and] at hx
  rw [hx]
set_option maxRecDepth 100000 in
theorem cells_of_root {H : Type} {enc : TypeId × Value → H} {W : World} {base : Nat} {sp : Nat → Bool} {held : Bool} {fuel : Nat} {cs : List Value} {p : List MemPlace}
    (h : DataW.trod enc Tryz.prog W base sp held fuel 43 cs = some (Rows.laid_lunette_image_root, p)) : cs = [.int .u8 2, .int .u16 1, .int .u32 0, .int .u16 0, .int .u16 0, .int .u16 0, .int .u16 0, .int .u16 0] := by
  obtain ⟨xs, n, _, hx, hl, hxl, hg⟩ := DataW.trod_struct Tryz.underlying43 h
  have hl := hl.trans cells_inode
  match cs, hl with
  | [c0, c1, c2, c3, c4, c5, c6, c7], _ =>
    match xs, hxl with
    | [y0, y1, y2, y3, y4], _ =>
      have hd := congrArg Prod.fst hx
      simp only [Rows.laid_lunette_image_root, List.map_cons, List.map_nil, DataW.agg.injEq, List.cons.injEq, and_true] at hd
      obtain ⟨d0, d1, d2, d3, d4⟩ := hd
      have g0 : [c0] = [.int .u8 2] := lit_of Tryz.underlying5 (hg 0 _ rfl) d0.symm
      have g1 : [c1] = [.int .u16 1] := lit_of Tryz.underlying39 (hg 1 _ rfl) d1.symm
      have g2 : [c2] = [.int .u32 0] := lit_of Tryz.underlying40 (hg 2 _ rfl) d2.symm
      have g4 : [c7] = [.int .u16 0] := lit_of Tryz.underlying39 (hg 4 _ rfl) d4.symm
      have h3 : DataW.trod enc Tryz.prog W base sp held n 41 [c3, c4, c5, c6] = some y3 := hg 3 _ rfl
      obtain ⟨z0, z1, z2, z3, m, rfl, t0, t1, t2, t3⟩ := trod_array4 Tryz.underlying41 (by kernel_rfl) h3
      simp only [DataW.agg.injEq, List.cons.injEq, and_true] at d3
      obtain ⟨b0, b1, b2, b3⟩ := d3
      have a0 := lit_of Tryz.underlying39 t0 b0.symm
      have a1 := lit_of Tryz.underlying39 t1 b1.symm
      have a2 := lit_of Tryz.underlying39 t2 b2.symm
      have a3 := lit_of Tryz.underlying39 t3 b3.symm
      simp only [List.cons.injEq, and_true] at g0 g1 g2 g4 a0 a1 a2 a3
      rw [g0, g1, g2, g4, a0, a1, a2, a3]
/-- What the row's list gives: the root's inode. -/
theorem root_of {W : World} (h : laidMetH Tryz.prog [("lunette/image.root", Rows.laid_lunette_image_root)] W) : RootAt W := by
  have h' : laidMet Tryz.prog [("lunette/image.root", Rows.laid_lunette_image_root)] W := h
  obtain ⟨ps, ⟨g', t', cs, fuel, p, q, hg', ht', hvar, hd, _, _⟩, _⟩ := h'
  obtain rfl := Option.some.inj (gRoot.symm.trans hg')
  obtain rfl := Option.some.inj (gRootType.symm.trans ht')
  have hc := fun i => World.var?_cell gRoot hvar i
  obtain ⟨l⟩ := cs
  have hcs := cells_of_root hd
  have hcs : l = _ := hcs
  subst hcs
  refine ⟨Nat.lt_of_le_of_lt (Nat.zero_le _) (World.block_lt_of_cell? _ _ (hc 0)), hc 0, hc 1, hc 2, hc 3, hc 4, hc 5, hc 6, hc 7⟩
/-- A world for the witness: the variable holds what its initialiser lays. -/
noncomputable def laidWorld (os : Os) : World :=
  { World.holding Tryz.prog os ⟨#[], #[], []⟩ with heap := (World.holding Tryz.prog os ⟨#[], #[], []⟩).heap.modify 0 fun
      | .cells _ t frozen => .cells #[.int .u8 2, .int .u16 1, .int .u32 0, .int .u16 0, .int .u16 0, .int .u16 0, .int .u16 0, .int .u16 0] t frozen
      | o => o }
end Go.Proofs.YtpnfkilfgdnogaaGreatDoor.Img
end
