/- The walks of octet.Split and of the reference's Split and Same. -/
import Derived.Test.YtpnfkilfgdnogaaGreatDoorOctetCut
import Derived.Deep.AppendLies
import Derived.Deep.RegionLaw
namespace Go.Proofs.YtpnfkilfgdnogaaGreatDoor.Oct
set_option linter.unusedVariables false
open Go.RowKit

/-- A text in parts of n bytes. -/
def chunksF (n : Nat) : Nat → List UInt8 → List (List UInt8)
  | 0, _ => []
  | f + 1, l => if l.length = 0 then [] else l.take n :: chunksF n f (l.drop n)
def chunks (n : Nat) (l : List UInt8) : List (List UInt8) := chunksF n l.length l
theorem chunksF_fuel (n : Nat) (hn : 1 ≤ n) : ∀ (f g : Nat) (l : List UInt8), l.length ≤ f → l.length ≤ g → chunksF n f l = chunksF n g l
  | 0, 0, _, _, _ => rfl
  | 0, g + 1, l, h1, _ => by
    have : l.length = 0 := by omega
    simp [chunksF, this]
  | f + 1, 0, l, _, h2 => by
    have : l.length = 0 := by omega
    simp [chunksF, this]
  | f + 1, g + 1, l, h1, h2 => by
    rw [chunksF, chunksF]
    by_cases h : l.length = 0
    · rw [if_pos h, if_pos h]
    · rw [if_neg h, if_neg h, chunksF_fuel n hn f g (l.drop n) (by rw [List.length_drop]; omega) (by rw [List.length_drop]; omega)]
theorem chunks_nil (n : Nat) : chunks n [] = [] := rfl
theorem chunks_cons (n : Nat) (hn : 1 ≤ n) (l : List UInt8) (h : l.length ≠ 0) : chunks n l = l.take n :: chunks n (l.drop n) := by
  unfold chunks
  rw [← chunksF_fuel n hn (l.length - 1 + 1) l.length l (by omega) (by omega), chunksF, if_neg h, chunksF_fuel n hn (l.length - 1) (l.drop n).length (l.drop n) (by rw [List.length_drop]; omega) (Nat.le_refl _)]

/-- What the loop holds: the parts, and the rest. -/
def SplitAt (s : ByteArray) (n : Nat) (ps : List ByteArray) (t : ByteArray) : Prop := ps.map L ++ chunks n (L t) = chunks n (L s) ∧ ps.length + t.size ≤ s.size
theorem splitAt_start (s : ByteArray) (n : Nat) : SplitAt s n [] s := ⟨rfl, by simp⟩
theorem splitAt_step {s t : ByteArray} {n : Nat} {ps : List ByteArray} (hn : 1 ≤ n) (h : SplitAt s n ps t) (h0 : 0 < t.size) (k : Nat) (hk : k = min n t.size) : SplitAt s n (ps ++ [t.extract 0 k]) (t.extract k t.size) := by
  have hl := len_L t
  have e1 : (L t).take k = (L t).take n := by
    rw [hk]
    rcases Nat.le_total n t.size with h1 | h1
    · rw [Nat.min_eq_left h1]
    · rw [Nat.min_eq_right h1, List.take_of_length_le (by omega), List.take_of_length_le (by omega)]
  have e2 : (L t).drop k = (L t).drop n := by
    rw [hk]
    rcases Nat.le_total n t.size with h1 | h1
    · rw [Nat.min_eq_left h1]
    · rw [Nat.min_eq_right h1, List.drop_of_length_le (by omega), List.drop_of_length_le (by omega)]
  refine ⟨?_, ?_⟩
  · rw [← h.1, chunks_cons n hn (L t) (by omega), List.map_append, List.append_assoc, ex_rest, ex_front, L_B, e2]
    simp only [List.map_cons, List.map_nil, List.singleton_append, L_B, e1]
  · have h2 := h.2
    rw [ex_rest, size_B, List.length_drop, List.length_append, len_L]
    simp only [List.length_singleton]
    omega
theorem splitAt_end {s : ByteArray} {n : Nat} {ps : List ByteArray} (h : SplitAt s n ps ⟨#[]⟩) : ps = (chunks n (L s)).map B := by
  have e := h.1
  have : L ⟨#[]⟩ = [] := rfl
  rw [this, chunks_nil, List.append_nil] at e
  rw [← e, List.map_map]
  have : (B ∘ L) = id := by funext x; rfl
  rw [this, List.map_id]

/-- The slice value v reads as the texts ps. -/
def Strs (w : World) (v : Value) (ps : List ByteArray) : Prop :=
  (v = .slice none 0 0 ∧ ps = []) ∨ (∃ b off cap, v = .slice (some ⟨b, off, none⟩) ps.length cap ∧ (ps.length ≤ 8796093022208 ∧ ps.length ≤ cap) ∧ b < w.heap.size ∧ ∀ j (h : j < ps.length), w.cell? ⟨b, off + j, none⟩ = some (.string ps[j])) ∨ ∃ a cap, v = .slice (some a) 0 cap ∧ ps = []
theorem Strs.below {w w' : World} {v : Value} {ps : List ByteArray} (h : Strs w v ps) (hb : Below w.heap.size w w') : Strs w' v ps := by
  rcases h with h | ⟨b, off, cap, e, hl, hlt, hc⟩ | h
  · exact .inl h
  · exact .inr (.inl ⟨b, off, cap, e, hl, Nat.lt_of_lt_of_le hlt hb.size, fun j hj => (hb.cell (p := ⟨b, off + j, none⟩) hlt).trans (hc j hj)⟩)
  · exact .inr (.inr h)
/-- Empty, or a row. -/
theorem strs_cases {w : World} {v : Value} {ps : List ByteArray} (h : Strs w v ps) : (∃ ao c, v = .slice ao 0 c ∧ ps = []) ∨ ∃ b off cap, v = .slice (some ⟨b, off, none⟩) ps.length cap ∧ (ps.length ≤ 8796093022208 ∧ ps.length ≤ cap) ∧ b < w.heap.size ∧ ∀ j (h : j < ps.length), w.cell? ⟨b, off + j, none⟩ = some (.string ps[j]) := by
  rcases h with h | h | ⟨a, cap, h⟩
  · exact .inl ⟨none, 0, h⟩
  · exact .inr h
  · exact .inl ⟨some a, cap, h⟩
theorem strs_own {w : World} {base : Nat} {v : Value} {ps : List ByteArray} (h : w.ownsRow base 9 1 v ps.length (ps.map Value.string)) (hl : ps.length ≤ 8796093022208) : Strs w v ps := by
  have h0 := h
  rcases h.2 with ⟨e, e0⟩ | ⟨g, cap, cur, rfl, hb, hg, hcap, _⟩
  · exact .inl ⟨e, List.eq_nil_of_length_eq_zero e0⟩
  · refine .inr (.inl ⟨g, 0, cap, rfl, ⟨hl, hcap⟩, (Array.getElem?_eq_some_iff.1 hg).1, fun j hj => ?_⟩)
    have := World.ownsRow.cellAt h0 j (by omega)
    rw [Nat.zero_add, this]
    simp [hj]

theorem info_str : (Tryz.prog.info? 9).map (fun i => (i.zero, i.size, i.bytes)) = some (some (.string ⟨#[]⟩), 1, 16) := by kernel_rfl

set_option maxRecDepth 100000 in
set_option maxHeartbeats 400000 in
theorem split_arg (s : ByteArray) (n : Int) (w : World) (h : n < 1) :
    Calls Tryz.prog 166 #[.string s, .int .i64 n] w fun e w' => e = .returned (.tuple #[.slice none 0 0, .int .i64 2]) ∧ w = w' := by
  go_enter Tryz.func166, Tryz.ntmps166
  go_wp2
  go_ret2
  exact ⟨rfl, rfl⟩

def strLen : Value → Nat
  | .string t => t.size
  | _ => 0
theorem own_snoc {w : World} {base : Nat} {v : Value} {ps : List ByteArray} {x : ByteArray} (h : w.ownsRow base 9 1 v (ps.length + 1) (ps.map Value.string ++ [.string x])) : w.ownsRow base 9 1 v (ps ++ [x]).length ((ps ++ [x]).map Value.string) := by
  simpa using h

theorem ex_all (t : ByteArray) : t.extract 0 t.size = t := by rw [ex_front, List.take_of_length_le (by rw [len_L]; exact Nat.le_refl _), B_L]
theorem ex_none (t : ByteArray) : t.extract t.size t.size = ByteArray.empty := by rw [ex_rest, List.drop_of_length_le (by rw [len_L]; exact Nat.le_refl _)]; rfl

def SplitPost (s : ByteArray) (n : Nat) (w : World) (e : Ending) (w' : World) : Prop :=
  ∃ v, e = .returned (.tuple #[v, .int .i64 0]) ∧ Strs w' v ((chunks n (L s)).map B) ∧ Below w.heap.size w w'

set_option maxRecDepth 100000 in
set_option maxHeartbeats 1000000 in
theorem split_ok (s : ByteArray) (n : Nat) (w : World) (hs : s.size ≤ 16384) (hn : 1 ≤ n) (hn2 : n ≤ 9223372036854775807) :
    Calls Tryz.prog 166 #[.string s, .int .i64 n] w (SplitPost s n w) := by
  obtain ⟨i0, hi, hz0, hz1, hz2⟩ := info_parts info_str
  have h1 : decide ((n : Int) < 1) = false := by simp; omega
  have h1' : decide (n < 1) = false := by simp; omega
  go_enter Tryz.func166, Tryz.ntmps166
  go_wp2
  go_loopw [0, 4] (fun a v wr => ∃ (t : ByteArray) (ps : List ByteArray), a = .string t ∧ wr.ownsRow w.heap.size 9 1 v ps.length (ps.map Value.string) ∧ SplitAt s n ps t ∧ Below w.heap.size w wr) (fun a _ _ => strLen a)
  case atStart => exact ⟨s, [], rfl, World.ownsRow_nil _ _ _ _, splitAt_start s n, Below.refl _ _⟩
  case round =>
    obtain ⟨t, ps, rfl, hown, hsp, hB⟩ := hrel
    by_cases h0 : 0 < t.size
    · have hne := empty_no h0
      have hle := hsp.2
      by_cases hmin : n ≤ t.size
      · have HS := Lib.hid (splitAt_step hn hsp h0 n (by omega))
        clear hsp
        have q1 : (0 : Int) ≤ (n : Int) := by omega
        have q2 : (n : Int) ≤ (t.size : Int) := by omega
        have z : strLen (.string (t.extract n t.size)) < strLen (.string t) := by
          show (t.extract n t.size).size < t.size
          rw [ex_rest, size_B, List.length_drop, len_L]; omega
        have HZ := Lib.hid z
        clear z
        go_wp2
        go_region_law ((refine step_append_lies _ rfl _ _ 104 rfl w.heap.size 9 i0 (.string ⟨#[]⟩) 1 16 Tryz.underlying104 hi hz0 hz1 hz2 rfl (by decide) _ ps.length (ps.map Value.string) rfl ((hown.alloc _).drew) ⟨wr.heap.size, 0, none⟩ 1 1 [.string (t.extract 0 n)] rfl rfl (cell_one_new _ _ _) (by simp [Value.oneCell']) (by decide) (by unfold maxLen; omega) (by omega) (by have := hB.size; simp; omega) _ rfl ?_; intro g cap w1 hown1 hgrow hat hlt))
        have hB1 : Below w.heap.size w w1 := Below.grown (hB.alloc hB.size (.cells #[.string (t.extract 0 n)] 9)).drew hgrow (by have := hB.size; simp; omega) (fun k e => (hown.lt k e).1)
        go_wp2
        go_roundw
        case rel => ((repeat apply Exists.intro); exact ⟨⟨_, _, rfl, own_snoc hown1, HS.out, hB1⟩, rfl⟩)
        case measure => exact HZ.out
      · have HS := Lib.hid (splitAt_step hn hsp h0 t.size (by omega))
        clear hsp
        have q1 : (0 : Int) ≤ (t.size : Int) := by omega
        have q2 : (t.size : Int) ≤ (t.size : Int) := by omega
        have z : strLen (.string (t.extract t.size t.size)) < strLen (.string t) := by
          show (t.extract t.size t.size).size < t.size
          rw [ex_rest, size_B, List.length_drop, len_L]; omega
        have HZ := Lib.hid z
        clear z
        have x1 := ex_all t
        have x2 := ex_none t
        rw [x1, x2] at HS
        rw [x2] at HZ
        clear x1 x2
        go_wp2
        go_region_law ((refine step_append_lies _ rfl _ _ 104 rfl w.heap.size 9 i0 (.string ⟨#[]⟩) 1 16 Tryz.underlying104 hi hz0 hz1 hz2 rfl (by decide) _ ps.length (ps.map Value.string) rfl ((hown.alloc _).drew) ⟨wr.heap.size, 0, none⟩ 1 1 [.string t] rfl rfl (cell_one_new _ _ _) (by simp [Value.oneCell']) (by decide) (by unfold maxLen; omega) (by omega) (by have := hB.size; simp; omega) _ rfl ?_; intro g cap w1 hown1 hgrow hat hlt))
        have hB1 : Below w.heap.size w w1 := Below.grown (hB.alloc hB.size (.cells #[.string t] 9)).drew hgrow (by have := hB.size; simp; omega) (fun k e => (hown.lt k e).1)
        go_wp2
        go_roundw
        case rel => ((repeat apply Exists.intro); exact ⟨⟨_, _, rfl, own_snoc hown1, HS.out, hB1⟩, rfl⟩)
        case measure => exact HZ.out
    · have e := is_empty (s := t) (by omega)
      subst e
      have HE := Lib.hid (splitAt_end hsp)
      have hle := hsp.2
      clear hsp
      go_wp2
      go_ret2
      refine ⟨_, rfl, ?_, hB⟩
      rw [← HE.out]
      exact strs_own hown (by have := hs; omega)

end Go.Proofs.YtpnfkilfgdnogaaGreatDoor.Oct
