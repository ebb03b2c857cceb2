/- Proves Rows.OctetPartsSaid: for every text and number the law OctetParts returns true and its arguments read as before. No further conditions. -/
import Derived.Test.YtfdclifdemajfaaRows
import Derived.Test.YtfdclifdemajfaaOctetAlive
import Derived.WalkKit
import Derived.ProofKit
import Derived.OpenShut
import Derived.ShutString
import Derived.ChangeOld
import Derived.Below
import Derived.SizedLaws
namespace Go.Proofs.Ytfdclifdemajfaa.octetParts
open Go.ChangeShapes Go.WideShapes Go.ChangeAt Go.RowKit
open Go.ChangeMaps (open_string shut_string)
set_option linter.unusedVariables false

open Oct

theorem chunksF_flat (n : Nat) (hn : 1 ≤ n) : ∀ (f : Nat) (l : List UInt8), l.length ≤ f → (chunksF n f l).flatten = l
  | 0, l, h => by
    have : l = [] := List.eq_nil_of_length_eq_zero (by omega)
    subst this; rfl
  | f + 1, l, h => by
    rw [chunksF]
    by_cases h0 : l.length = 0
    · rw [if_pos h0, List.eq_nil_of_length_eq_zero h0]; rfl
    · rw [if_neg h0, List.flatten_cons, chunksF_flat n hn f (l.drop n) (by rw [List.length_drop]; omega), List.take_append_drop]
theorem chunks_flat (n : Nat) (hn : 1 ≤ n) (l : List UInt8) : (chunks n l).flatten = l := chunksF_flat n hn _ l (Nat.le_refl _)
def Well (n : Nat) (cs : List (List UInt8)) : Prop := ∀ j (h : j < cs.length), 0 < cs[j].length ∧ cs[j].length ≤ n ∧ (j + 1 < cs.length → cs[j].length = n)
theorem chunksF_well (n : Nat) (hn : 1 ≤ n) : ∀ (f : Nat) (l : List UInt8), Well n (chunksF n f l)
  | 0, l => fun j h => by simp [chunksF] at h
  | f + 1, l => by
    rw [chunksF]
    by_cases h0 : l.length = 0
    · rw [if_pos h0]; exact fun j h => by simp at h
    · rw [if_neg h0]
      intro j h
      cases j with
      | zero =>
        simp only [List.getElem_cons_zero, List.length_take]
        refine ⟨by omega, by omega, fun h1 => ?_⟩
        have h2 : 0 < (chunksF n f (l.drop n)).length := by simpa using h1
        have h3 : (l.drop n).length ≠ 0 := by
          intro e
          have e2 : l.drop n = [] := List.eq_nil_of_length_eq_zero e
          rw [e2] at h2
          cases f with
          | zero => simp [chunksF] at h2
          | succ f => simp [chunksF] at h2
        rw [List.length_drop] at h3
        omega
      | succ j =>
        have := chunksF_well n hn f (l.drop n) j (by simpa using h)
        simpa using this
theorem chunks_well (n : Nat) (hn : 1 ≤ n) (l : List UInt8) : Well n (chunks n l) := chunksF_well n hn _ l
theorem chunks_len (n : Nat) (hn : 1 ≤ n) (l : List UInt8) : (chunks n l).length ≤ l.length := by
  have h1 := chunks_flat n hn l
  have h2 := chunks_well n hn l
  have h3 : ∀ cs : List (List UInt8), (∀ c ∈ cs, 0 < c.length) → cs.length ≤ cs.flatten.length := by
    intro cs
    induction cs with
    | nil => intro _; simp
    | cons c cs ih =>
      intro h
      have a := h c (by simp)
      have b := ih (fun d hd => h d (by simp [hd]))
      simp only [List.length_cons, List.flatten_cons, List.length_append]
      omega
  have h4 := h3 (chunks n l) (fun c hc => by
    obtain ⟨j, hj, rfl⟩ := List.getElem_of_mem hc
    exact (h2 j hj).1)
  rw [h1] at h4
  exact h4
theorem flat_take_succ (cs : List (List UInt8)) (k : Nat) (h : k < cs.length) : (cs.take (k + 1)).flatten = (cs.take k).flatten ++ cs[k] := by
  rw [List.take_succ_eq_append_getElem h, List.flatten_append]; simp
theorem flat_take_le (cs : List (List UInt8)) (k : Nat) : (cs.take k).flatten.length ≤ cs.flatten.length := by
  have : cs.flatten = (cs.take k).flatten ++ (cs.drop k).flatten := by rw [← List.flatten_append, List.take_append_drop]
  rw [this, List.length_append]; omega

set_option maxRecDepth 100000 in
set_option maxHeartbeats 1000000 in
theorem walk_big (s : ByteArray) (n : Int) (hs : s.size ≤ maxLen) (h : 8192 < s.size) (w : World) :
    Calls Try.prog 6 #[.string s, .int .i64 n] w fun e w' => e = .returned (.bool true) ∧ Below w.heap.size w w' := by
  unfold maxLen at hs
  go_enter Try.func6, Try.ntmps6
  go_wp2_with fail
  refine (alive01 _).mono ?_
  rintro e w1 ⟨rfl, b1⟩
  go_wp2
  go_ret
  exact ⟨rfl, b1⟩

set_option maxRecDepth 100000 in
set_option maxHeartbeats 1000000 in
theorem walk_neg (s : ByteArray) (n : Int) (hn : n < 0) (hs : s.size ≤ 8192) (w : World) :
    Calls Try.prog 6 #[.string s, .int .i64 n] w fun e w' => e = .returned (.bool true) ∧ Below w.heap.size w w' := by
  have t0 : decide (8192 < (s.size : Int)) = false := by simp; omega
  have t0' : decide (8192 < s.size) = false := by simp; omega
  go_enter Try.func6, Try.ntmps6
  go_wp2_with fail
  refine (cut_neg s n _ hn).mono ?_
  rintro e _ ⟨rfl, rfl⟩
  go_wp2_with fail
  refine (rcut_neg s n _ hn).mono ?_
  rintro e _ ⟨rfl, rfl⟩
  go_wp2_with fail
  refine (split_arg s n _ (by omega)).mono ?_
  rintro e _ ⟨rfl, rfl⟩
  go_wp2_with fail
  refine (rsplit_arg s n _ (by omega)).mono ?_
  rintro e _ ⟨rfl, rfl⟩
  go_wp2_with fail
  refine (same_nil none none 0 0 _).mono ?_
  rintro e w1 ⟨rfl, b1⟩
  go_wp2_with fail
  refine (alive01 _).mono ?_
  rintro e w2 ⟨rfl, b2⟩
  go_wp2
  go_ret
  exact ⟨rfl, b1.trans (b2.mono b1.size)⟩

theorem cut_join (s : ByteArray) (n : Nat) : B ((L s).take n) ++ B ((L s).drop n) = s := by rw [B_append, List.take_append_drop, B_L]
theorem cut_sizes (s : ByteArray) (n : Nat) : (B ((L s).take n)).size + (B ((L s).drop n)).size ≤ s.size := by
  rw [size_B, size_B, ← List.length_append, List.take_append_drop, len_L]; exact Nat.le_refl _

set_option maxRecDepth 100000 in
set_option maxHeartbeats 1000000 in
theorem walk_zero (s : ByteArray) (hs : s.size ≤ 8192) (w : World) :
    Calls Try.prog 6 #[.string s, .int .i64 0] w fun e w' => e = .returned (.bool true) ∧ Below w.heap.size w w' := by
  have t0 : decide (8192 < (s.size : Int)) = false := by simp; omega
  have t0' : decide (8192 < s.size) = false := by simp; omega
  have c1 := fun W => cut_ok s 0 W (by unfold maxLen; omega) (Nat.zero_le _)
  have c2 := fun W => rcut_ok s 0 W (by unfold maxLen; omega) (Nat.zero_le _)
  have hj := cut_join s 0
  have hz := cut_sizes s 0
  generalize B ((L s).take 0) = a at *
  generalize B ((L s).drop 0) = b at *
  have C1 := Lib.hid c1
  have C2 := Lib.hid c2
  clear c1 c2
  go_enter Try.func6, Try.ntmps6
  go_wp2_with fail
  refine (C1.out _).mono ?_
  rintro e w1 ⟨rfl, b1⟩
  go_wp2_with fail
  refine (C2.out _).mono ?_
  rintro e w2 ⟨rfl, b2⟩
  go_wp2_with fail
  refine (split_arg s 0 _ (by omega)).mono ?_
  rintro e _ ⟨rfl, rfl⟩
  go_wp2_with fail
  refine (rsplit_arg s 0 _ (by omega)).mono ?_
  rintro e _ ⟨rfl, rfl⟩
  go_wp2_with fail
  refine (same_nil none none 0 0 _).mono ?_
  rintro e w3 ⟨rfl, b3⟩
  go_wp2_with fail
  refine (alive01 _).mono ?_
  rintro e w4 ⟨rfl, b4⟩
  go_wp2
  go_ret
  exact ⟨rfl, b1.trans ((b2.trans ((b3.trans (b4.mono b3.size)).mono b2.size)).mono b1.size)⟩


set_option maxRecDepth 100000 in
set_option maxHeartbeats 2000000 in
theorem walkKin (s : ByteArray) (n : Nat) (h0 : 0 < s.size) (hn : 1 ≤ n) (hn2 : n ≤ 9223372036854775807) (hle : n ≤ s.size) (hs : s.size ≤ 8192) (w : World) :
    Calls Try.prog 6 #[.string s, .int .i64 n] w fun e w' => e = .returned (.bool true) ∧ Below w.heap.size w w' := by
  have t0 : decide (8192 < (s.size : Int)) = false := by simp; omega
  have t0' : decide (8192 < s.size) = false := by simp; omega
  have c1 := fun W => cut_ok s n W (by unfold maxLen; omega) hle
  have c2 := fun W => rcut_ok s n W (by unfold maxLen; omega) hle
  have hj := cut_join s n
  have hz := cut_sizes s n
  generalize B ((L s).take n) = a at *
  generalize B ((L s).drop n) = b at *
  have C1 := Lib.hid c1
  have C2 := Lib.hid c2
  have HJ := Lib.hid hj
  clear c1 c2 hj
  have HF := Lib.hid (chunks_flat n hn (L s))
  have HW := Lib.hid (chunks_well n hn (L s))
  have hl0 := chunks_len n hn (L s)
  rw [len_L] at hl0
  have S1 := Lib.hid (fun W => split_ok s n W (by omega) hn hn2)
  have S2 := Lib.hid (fun W => rsplit_ok s n W (by omega) hn hn2)
  go_enter Try.func6, Try.ntmps6
  go_wp2_with fail
  refine (C1.out _).mono ?_
  rintro e w1 ⟨rfl, b1⟩
  go_wp2_with fail
  refine (C2.out _).mono ?_
  rintro e w2 ⟨rfl, b2⟩
  have b12 := b1.trans (b2.mono b1.size)
  clear b1 b2
  go_wp2_with fail
  refine (S1.out _).mono ?_
  rintro e w3 ⟨v, rfl, hv, b3⟩
  go_wp2_with fail
  refine (S2.out _).mono ?_
  rintro e w4 ⟨v2, rfl, hv2, b4⟩
  have hv4 := hv.below b4
  go_wp2_with fail
  refine (same_ok _ _ _ _ hv4 hv2).mono ?_
  rintro e w5 ⟨rfl, b5⟩
  have hv5 := hv4.below b5
  have bb : Below w.heap.size w w5 := b12.trans ((b3.trans ((b4.trans (b5.mono b4.size)).mono b3.size)).mono b12.size)
  clear b12 b3 b4 b5 hv hv2 hv4 S1 S2
  generalize hcs : chunks n (L s) = cs at *
  have HC := Lib.hid hcs
  clear hcs
  have hpos : 0 < cs.length := by
    rcases Nat.eq_zero_or_pos cs.length with h | h
    · have e1 : cs = [] := List.eq_nil_of_length_eq_zero h
      have := HF.out
      rw [e1] at this
      have e2 := len_L s
      rw [← this] at e2
      simp at e2
      omega
    · exact h
  rcases hv5 with ⟨rfl, e0⟩ | ⟨x, ox, c, rfl, hl, hxb, hx⟩
  · rw [List.map_eq_nil_iff] at e0
    rw [e0] at hpos
    simp at hpos
  · rw [List.length_map] at hl
    have HX := Lib.hid hx
    clear hx
    rw [List.length_map]
    go_wp2_with fail
    go_loop [15, 16] (fun t i => ∃ k : Nat, k ≤ cs.length ∧ i = .int .i64 k ∧ t = .string (B (cs.take k).flatten)) (fun _ i => cs.length - (intOf i).toNat)
    case atStart => exact ⟨0, Nat.zero_le _, rfl, rfl⟩
    case round =>
      obtain ⟨k, hk, rfl, rfl⟩ := hrel
      by_cases hlt : k < cs.length
      · have cx := HX.out k (by rw [List.length_map]; exact hlt)
        rw [List.getElem_map] at cx
        have hw := HW.out k hlt
        have zb : (B cs[k]).size = cs[k].length := size_B _
        have EJ := Lib.hid (show B (cs.take k).flatten ++ B cs[k] = B (cs.take (k + 1)).flatten by rw [B_append, flat_take_succ cs k hlt])
        have zt : (B (cs.take k).flatten).size ≤ s.size := by
          rw [size_B]
          have := flat_take_le cs k
          rw [HF.out, len_L] at this
          exact this
        obtain ⟨p, hp⟩ : ∃ p, B cs[k] = p := ⟨_, rfl⟩
        rw [hp] at cx zb EJ
        have p1 : 0 < p.size := by omega
        have p2 : decide ((n : Int) < (p.size : Int)) = false := by simp; omega
        have p2' : decide (n < p.size) = false := by simp; omega
        have p4 : p.size ≤ n := by omega
        have pe := empty_no p1
        have zp : p.size ≤ s.size := by
          have h1 := flat_take_le cs (k + 1)
          rw [HF.out, len_L, flat_take_succ cs k hlt, List.length_append] at h1
          omega
        have ztp : (B (cs.take k).flatten).size + p.size ≤ 8192 := by
          have h1 := flat_take_le cs (k + 1)
          rw [HF.out, len_L, flat_take_succ cs k hlt, List.length_append] at h1
          rw [size_B]
          omega
        have p3 : (decide ((k : Int) + 1 < (cs.length : Int)) = true ∧ decide (k + 1 < cs.length) = true ∧ ((p.size : Int) != (n : Int)) = false) ∨ (decide ((k : Int) + 1 < (cs.length : Int)) = false ∧ decide (k + 1 < cs.length) = false) := by
          by_cases h1 : k + 1 < cs.length
          · have := hw.2.2 h1
            refine .inl ⟨by simp; omega, by simp; omega, by simp; omega⟩
          · refine .inr ⟨by simp; omega, by simp; omega⟩
        clear hw zb hp
        generalize B (cs.take k).flatten = tt at *
        rcases p3 with ⟨p5, p6, p7⟩ | ⟨p5, p6⟩
        all_goals
          go_wp2
          go_round
          case rel => exact ⟨k + 1, by omega, by go_num, by rw [EJ.out]⟩
          case measure => simp [intOf]; omega
      · have ET := Lib.hid (show B (cs.take k).flatten = s by rw [List.take_of_length_le (by omega), HF.out, B_L])
        rw [ET.out]
        have hj := HJ.out
        go_wp2_with fail
        refine (alive01 _).mono ?_
        rintro e w6 ⟨rfl, b6⟩
        go_wp2
        go_ret
        exact ⟨rfl, bb.trans (b6.mono bb.size)⟩


set_option maxRecDepth 100000 in
set_option maxHeartbeats 2000000 in
theorem walkKover (s : ByteArray) (n : Nat) (h0 : 0 < s.size) (hn : 1 ≤ n) (hn2 : n ≤ 9223372036854775807) (hle : s.size < n) (hs : s.size ≤ 8192) (w : World) :
    Calls Try.prog 6 #[.string s, .int .i64 n] w fun e w' => e = .returned (.bool true) ∧ Below w.heap.size w w' := by
  have t0 : decide (8192 < (s.size : Int)) = false := by simp; omega
  have t0' : decide (8192 < s.size) = false := by simp; omega
  have HF := Lib.hid (chunks_flat n hn (L s))
  have HW := Lib.hid (chunks_well n hn (L s))
  have hl0 := chunks_len n hn (L s)
  rw [len_L] at hl0
  have S1 := Lib.hid (fun W => split_ok s n W (by omega) hn hn2)
  have S2 := Lib.hid (fun W => rsplit_ok s n W (by omega) hn hn2)
  go_enter Try.func6, Try.ntmps6
  go_wp2_with fail
  refine (cut_big s n _ (by unfold maxLen; omega) (by omega)).mono ?_
  rintro e _ ⟨rfl, rfl⟩
  go_wp2_with fail
  refine (rcut_big s n _ (by unfold maxLen; omega) (by omega)).mono ?_
  rintro e _ ⟨rfl, rfl⟩
  obtain ⟨w2, hw2⟩ : ∃ w2, w2 = w := ⟨_, rfl⟩
  have b12 : Below w.heap.size w w2 := by rw [hw2]; exact Below.refl _ _
  rw [← hw2]
  clear hw2
  go_wp2_with fail
  refine (S1.out _).mono ?_
  rintro e w3 ⟨v, rfl, hv, b3⟩
  go_wp2_with fail
  refine (S2.out _).mono ?_
  rintro e w4 ⟨v2, rfl, hv2, b4⟩
  have hv4 := hv.below b4
  go_wp2_with fail
  refine (same_ok _ _ _ _ hv4 hv2).mono ?_
  rintro e w5 ⟨rfl, b5⟩
  have hv5 := hv4.below b5
  have bb : Below w.heap.size w w5 := b12.trans ((b3.trans ((b4.trans (b5.mono b4.size)).mono b3.size)).mono b12.size)
  clear b12 b3 b4 b5 hv hv2 hv4 S1 S2
  generalize hcs : chunks n (L s) = cs at *
  have HC := Lib.hid hcs
  clear hcs
  have hpos : 0 < cs.length := by
    rcases Nat.eq_zero_or_pos cs.length with h | h
    · have e1 : cs = [] := List.eq_nil_of_length_eq_zero h
      have := HF.out
      rw [e1] at this
      have e2 := len_L s
      rw [← this] at e2
      simp at e2
      omega
    · exact h
  rcases hv5 with ⟨rfl, e0⟩ | ⟨x, ox, c, rfl, hl, hxb, hx⟩
  · rw [List.map_eq_nil_iff] at e0
    rw [e0] at hpos
    simp at hpos
  · rw [List.length_map] at hl
    have HX := Lib.hid hx
    clear hx
    rw [List.length_map]
    go_wp2_with fail
    go_loop [15, 16] (fun t i => ∃ k : Nat, k ≤ cs.length ∧ i = .int .i64 k ∧ t = .string (B (cs.take k).flatten)) (fun _ i => cs.length - (intOf i).toNat)
    case atStart => exact ⟨0, Nat.zero_le _, rfl, rfl⟩
    case round =>
      obtain ⟨k, hk, rfl, rfl⟩ := hrel
      by_cases hlt : k < cs.length
      · have cx := HX.out k (by rw [List.length_map]; exact hlt)
        rw [List.getElem_map] at cx
        have hw := HW.out k hlt
        have zb : (B cs[k]).size = cs[k].length := size_B _
        have EJ := Lib.hid (show B (cs.take k).flatten ++ B cs[k] = B (cs.take (k + 1)).flatten by rw [B_append, flat_take_succ cs k hlt])
        have zt : (B (cs.take k).flatten).size ≤ s.size := by
          rw [size_B]
          have := flat_take_le cs k
          rw [HF.out, len_L] at this
          exact this
        obtain ⟨p, hp⟩ : ∃ p, B cs[k] = p := ⟨_, rfl⟩
        rw [hp] at cx zb EJ
        have p1 : 0 < p.size := by omega
        have p2 : decide ((n : Int) < (p.size : Int)) = false := by simp; omega
        have p2' : decide (n < p.size) = false := by simp; omega
        have p4 : p.size ≤ n := by omega
        have pe := empty_no p1
        have zp : p.size ≤ s.size := by
          have h1 := flat_take_le cs (k + 1)
          rw [HF.out, len_L, flat_take_succ cs k hlt, List.length_append] at h1
          omega
        have ztp : (B (cs.take k).flatten).size + p.size ≤ 8192 := by
          have h1 := flat_take_le cs (k + 1)
          rw [HF.out, len_L, flat_take_succ cs k hlt, List.length_append] at h1
          rw [size_B]
          omega
        have p3 : (decide ((k : Int) + 1 < (cs.length : Int)) = true ∧ decide (k + 1 < cs.length) = true ∧ ((p.size : Int) != (n : Int)) = false) ∨ (decide ((k : Int) + 1 < (cs.length : Int)) = false ∧ decide (k + 1 < cs.length) = false) := by
          by_cases h1 : k + 1 < cs.length
          · have := hw.2.2 h1
            refine .inl ⟨by simp; omega, by simp; omega, by simp; omega⟩
          · refine .inr ⟨by simp; omega, by simp; omega⟩
        clear hw zb hp
        generalize B (cs.take k).flatten = tt at *
        rcases p3 with ⟨p5, p6, p7⟩ | ⟨p5, p6⟩
        all_goals
          go_wp2
          go_round
          case rel => exact ⟨k + 1, by omega, by go_num, by rw [EJ.out]⟩
          case measure => simp [intOf]; omega
      · have ET := Lib.hid (show B (cs.take k).flatten = s by rw [List.take_of_length_le (by omega), HF.out, B_L])
        rw [ET.out]
        go_wp2_with fail
        refine (alive01 _).mono ?_
        rintro e w6 ⟨rfl, b6⟩
        go_wp2
        go_ret
        exact ⟨rfl, bb.trans (b6.mono bb.size)⟩


set_option maxRecDepth 100000 in
set_option maxHeartbeats 1000000 in
theorem walk_empty (n : Nat) (hn : 1 ≤ n) (hn2 : n ≤ 9223372036854775807) (w : World) :
    Calls Try.prog 6 #[.string ⟨#[]⟩, .int .i64 n] w fun e w' => e = .returned (.bool true) ∧ Below w.heap.size w w' := by
  have S1 := Lib.hid (fun W => split_ok ⟨#[]⟩ n W (by decide) hn hn2)
  have S2 := Lib.hid (fun W => rsplit_ok ⟨#[]⟩ n W (by decide) hn hn2)
  go_enter Try.func6, Try.ntmps6
  go_wp2_with fail
  refine (cut_big ⟨#[]⟩ n _ (by decide) (by show (0 : Int) < n; omega)).mono ?_
  rintro e _ ⟨rfl, rfl⟩
  go_wp2_with fail
  refine (rcut_big ⟨#[]⟩ n _ (by decide) (by show (0 : Int) < n; omega)).mono ?_
  rintro e _ ⟨rfl, rfl⟩
  go_wp2_with fail
  refine (S1.out _).mono ?_
  rintro e w3 ⟨v, rfl, hv, b3⟩
  go_wp2_with fail
  refine (S2.out _).mono ?_
  rintro e w4 ⟨v2, rfl, hv2, b4⟩
  have hv4 := hv.below b4
  go_wp2_with fail
  refine (same_ok _ _ _ _ hv4 hv2).mono ?_
  rintro e w5 ⟨rfl, b5⟩
  have bb : Below w.heap.size w w5 := b3.trans ((b4.trans (b5.mono b4.size)).mono b3.size)
  clear b3 b4 b5 hv2 hv4 S1 S2
  obtain ⟨ao, cap, hva⟩ : ∃ ao cap, v = .slice ao 0 cap := by
    rcases hv with ⟨rfl, _⟩ | ⟨x, ox, c, rfl, _⟩
    · exact ⟨_, _, rfl⟩
    · exact ⟨_, _, rfl⟩
  clear hv
  rw [hva]
  clear hva
  go_wp2_with fail
  go_loop [15, 16] (fun t i => t = .string ⟨#[]⟩ ∧ i = .int .i64 0) (fun _ _ => 0)
  case atStart => exact ⟨rfl, rfl⟩
  case round =>
    obtain ⟨rfl, rfl⟩ := hrel
    go_wp2_with fail
    refine (alive01 _).mono ?_
    rintro e w6 ⟨rfl, b6⟩
    go_wp2
    go_ret
    exact ⟨rfl, bb.trans (b6.mono bb.size)⟩

theorem walk (a0 : ByteArray) (a1 : Int) (w0 : a0.size ≤ maxLen) (w1 : (Lit.int .i64 a1).wf = true) (w : World) :
    Calls Try.prog 6 #[.string a0, .int .i64 a1] w fun e w' => e = .returned (.bool true) ∧ Below w.heap.size w w' := by
  have hb := bounds_i64 w1
  by_cases h : 8192 < a0.size
  · exact walk_big a0 a1 w0 h w
  · by_cases h2 : a1 < 0
    · exact walk_neg a0 a1 h2 (by omega) w
    · obtain ⟨n, rfl⟩ := Int.eq_ofNat_of_zero_le (show 0 ≤ a1 by omega)
      by_cases h3 : n = 0
      · subst h3
        exact walk_zero a0 (by omega) w
      · by_cases h4 : a0.size = 0
        · rw [is_empty h4]
          exact walk_empty n (by omega) (by omega) w
        · by_cases h5 : n ≤ a0.size
          · exact walkKin a0 n (by omega) (by omega) (by omega) h5 (by omega) w
          · exact walkKover a0 n (by omega) (by omega) (by omega) (by omega) (by omega) w

theorem own : ownKnob Try.prog.godebug = none := by kernel_rfl
set_option maxRecDepth 100000 in
theorem lifted (os : Os) (started : os.Started) (H : Type) (enc : TypeId × Value → H) :
    ReturnsInHanded {} Try.checked os 6 .any (Rows.octetPartsSpec.pre6 enc Try.prog Try.f6 Rows.octetPartsRow.domain false) (Rows.octetPartsSpec.post enc Try.prog Try.f6 false true false false) := by
  refine returnsInHanded_of_change (C := Try.checked) own started (by kernel_rfl) Try.func6
    (ChangeSpec.witness6 (enc := enc) (C := Try.checked) false ⟨#[], #[.string ByteArray.empty, .int .i64 0], []⟩ 8 (by kernel_rfl) (by kernel_rfl) (by kernel_rfl) (by kernel_rfl)) ?_
  intro W base args ds gs before hval0 hW hcnd _
  have hval : ∀ (j : Nat) t v, Try.f6.params[j]? = some t → args[j]? = some v → Value.okWide Try.prog W .any base t v := hval0
  have hW' := hW
  obtain ⟨p, q, hA0, hV, rfl, hfz, hnd⟩ := hW
  have hA : DataW.TrodAll enc Try.prog W 0 (fun _ => true) true Try.f6.params.toList args.toList ds p := hA0
  rw [Try.params6] at hA hval
  obtain ⟨v0, vs0, d0, ds0, p0, q0, hargs, rfl, rfl, h0, r0⟩ := trodAll_cons hA
  obtain ⟨v1, vs1, d1, ds1, p1, q1, rfl, rfl, rfl, h1, r1⟩ := trodAll_cons r0
  obtain ⟨rfl, rfl, rfl⟩ := trodAll_nil r1
  obtain rfl : args = #[v0, v1] := by cases args; simp_all
  obtain ⟨rfl, rfl⟩ := trodVars_none hV
  obtain ⟨a0, rfl, rfl, rfl, w0⟩ := open_string Try.underlying9 (hval 0 9 v0 rfl rfl) h0
  obtain ⟨a1, rfl, rfl, rfl, w1⟩ := open_int Try.underlying3 (hval 1 3 v1 rfl rfl) h1
  clear hA0 hval0
  simp only [List.append_nil] at hW'
  refine (walk a0 a1 w0 w1 W).mono fun e W' ⟨he, bel⟩ => ?_
  subst he
  exact ⟨_, rfl, _, _, _, [], _, [], hW', trodAll_mk1 (shut_bool Try.underlying4 _), (trodAll_cons_mk (shut_string Try.underlying9 w0) (trodAll_cons_mk (shut_int Try.underlying3 w1) trodAll_mk0)), rfl, bel.frame _, fun h => by cases h⟩

theorem over : Rows.octetPartsRow.holds Try.pinned (OpenSpec.ofChange Rows.octetPartsSpec) :=
  OpenClaim.holds_of_wide 6 Try.f6 rfl rfl rfl rfl rfl rfl rfl ⟨rfl, rfl, rfl, rfl, rfl⟩ rfl rfl rfl rfl rfl (by kernel_rfl) Try.func6 (by kernel_rfl)
    (of_decide_eq_true (by kernel_rfl)) (by unfold Func.isWrapper; first | (rw [if_pos (by decide +kernel)]; kernel_rfl) | (rw [if_neg (by decide +kernel)]; exact ⟨rfl, rfl⟩))
    (fun os started H enc _ => lifted os started H enc)

theorem proved : Rows.OctetPartsSaid := over

end Go.Proofs.Ytfdclifdemajfaa.octetParts
