/- The law DirsKeep: what was added is found, and listed, till it is deleted, with the inode that was set last. The walk. -/
import Derived.Test.YtfdclifdemajfaaDirKeepP
import Derived.BigGuard
namespace Go.Proofs.Ytfdclifdemajfaa.Dir
set_option linter.unusedVariables false
set_option linter.unusedSimpArgs false
open Go.RowKit Go.Shelf Oct Path
/-- What holds at the head of a round. -/
def KeepRel (nm : ByteArray) (w : World) (len : Nat) (t i c k : Value) (wr : World) : Prop :=
  ∃ (m : Nat) (es : List Ent), m ≤ len ∧ Dir es ∧ t = .string (B (encL es)) ∧ i = .int .u32 (inoOf (L nm) es) ∧ c = .int .i64 ((live es).length : Int) ∧ k = .int .i64 (m : Int) ∧ Below w.heap.size w wr
theorem live_le {es : List Ent} (d : Dir es) : (live es).length ≤ 72 := Nat.le_trans (List.length_filter_le _ _) d.le
theorem ino_lt {es : List Ent} (d : Dir es) (n : List UInt8) : inoOf n es < 4294967296 := by
  cases hf : findK n es with
  | none => rw [ino_none hf]; decide
  | some k =>
    obtain ⟨hk, h1, h2⟩ := ino_some hf
    rw [h1] at h2 ⊢
    exact (okE_may (d.ok _ (List.getElem_mem hk)) h2).2
/-- What comes of a directory that is looked at. -/
theorem look_find {es : List Ent} (d : Dir es) (nm : ByteArray) (hnm : nm.size ≤ maxLen) (j : Nat) (hj : inoOf (L nm) es = j) :
    ∃ kk : Nat, ∀ W, Calls Try.prog 54 #[.string (B (encL es)), .string nm] W fun e w' => e = .returned (.tuple #[.int .u32 j, .int .i64 kk, .bool ((j : Int) != 0)]) ∧ Below W.heap.size W w' := by
  have hs := size_enc d
  obtain ⟨f1, f2, f3⟩ := findR_enc d (L nm)
  refine ⟨(findR (encL es) (L nm)).2.1, fun W => ?_⟩
  have h := find_any (B (encL es)) nm W (by unfold maxLen; omega) hnm
  rw [L_B, f1, f2, hj] at h
  rw [show decide (j ≠ 0) = ((j : Int) != 0) by rw [Bool.eq_iff_iff]; simp] at h
  exact h
theorem look_check {es : List Ent} (d : Dir es) (W : World) : Calls Try.prog 56 #[.string (B (encL es))] W fun e w' => e = .returned (.int .i64 0) ∧ Below W.heap.size W w' := by
  have hs := size_enc d
  have h := check_any (B (encL es)) W (by unfold maxLen; omega)
  rw [L_B, check_enc d] at h
  exact h
theorem look_list {es : List Ent} (d : Dir es) (c : Nat) (hc : (live es).length = c) (W : World) : Calls Try.prog 53 #[.string (B (encL es))] W fun e w' => ∃ ao cap, e = .returned (.slice ao c cap) ∧ Below W.heap.size W w' := by
  have hs := size_enc d
  have h := list_any (B (encL es)) W (by unfold maxLen; omega)
  rw [L_B, listL_enc d] at h
  refine h.mono ?_
  rintro e w' ⟨v, rfl, hrow, b⟩
  rcases hrow.2 with ⟨rfl, e0⟩ | ⟨g, cap, cur, rfl, _⟩
  · exact ⟨none, 0, by rw [← hc, e0], b⟩
  · exact ⟨_, _, by rw [hc], b⟩
theorem do_add {es : List Ent} (d : Dir es) (n : ByteArray) (i : Nat) (hn : n.size ≤ maxLen) (hi : i < 4294967296) (W : World) : Calls Try.prog 49 #[.string (B (encL es)), .string n, .int .u32 i] W fun e w' => e = .returned (.tuple #[.string (B (resL (addL (L n) i es)).1), .int .i64 (addL (L n) i es).1]) ∧ Below W.heap.size W w' := by
  have hs := size_enc d
  have h := add_any (B (encL es)) n i W (by unfold maxLen; omega) hn hi
  rw [L_B, addR_enc d (L n) i hi] at h
  exact h
theorem do_set {es : List Ent} (d : Dir es) (n : ByteArray) (i : Nat) (hn : n.size ≤ maxLen) (hi : i < 4294967296) (W : World) : Calls Try.prog 51 #[.string (B (encL es)), .string n, .int .u32 i] W fun e w' => e = .returned (.tuple #[.string (B (resL (setL (L n) i es)).1), .int .i64 (setL (L n) i es).1]) ∧ Below W.heap.size W w' := by
  have hs := size_enc d
  have h := set_any (B (encL es)) n i W (by unfold maxLen; omega) hn hi
  rw [L_B, setR_enc d (L n) i hi] at h
  exact h
theorem do_del {es : List Ent} (d : Dir es) (n : ByteArray) (hn : n.size ≤ maxLen) (W : World) : Calls Try.prog 50 #[.string (B (encL es)), .string n] W fun e w' => e = .returned (.tuple #[.string (B (resL (delL (L n) es)).1), .int .u32 ((if (delL (L n) es).1 = 0 then inoOf (L n) es else 0 : Nat) : Int), .int .i64 (delL (L n) es).1]) ∧ Below W.heap.size W w' := by
  have hs := size_enc d
  have h := del_any (B (encL es)) n W (by unfold maxLen; omega) hn
  rw [L_B, delR_enc d (L n)] at h
  exact h
theorem do_trim {es : List Ent} (d : Dir es) (W : World) : Calls Try.prog 55 #[.string (B (encL es))] W fun e w' => e = .returned (.tuple #[.string (B (encL (trimL es))), .int .i64 0]) ∧ Below W.heap.size W w' := by
  have hs := size_enc d
  have h := trim_any (B (encL es)) W (by unfold maxLen; omega)
  rw [L_B, trimR_enc d] at h
  exact h

set_option maxRecDepth 100000 in
set_option maxHeartbeats 40000000 in
theorem keep_loop (b off c : Nat) (st : List Stp) (nm : ByteArray) (w : World) (hl : st.length ≤ 100) (hst : ∀ x ∈ st, x.n.size ≤ 4096 ∧ x.i < 4294967296) (hnm : nm.size ≤ 100) (hx : StepsAt w b off st) (hb : b < w.heap.size) (hlong : longB st = false) :
    Calls Try.prog 13 #[.slice (some ⟨b, off, none⟩) st.length c, .string nm] w fun e w' => e = .returned (.bool true) ∧ Below w.heap.size w w' := by
  have HX := Lib.hid hx
  have HST := Lib.hid hst
  have LG := Lib.hid (long_row b off c st w (by omega) (fun x hx => by have := (hst x hx).1; omega) hx)
  rw [hlong] at LG
  have t1 : decide ((100 : Int) < (nm.size : Int)) = false := by simp; omega
  have t2 : decide (100 < nm.size) = false := by simp; omega
  clear hx hst hlong
  go_enter Try.func13, Try.ntmps13
  try simp only [List.append_eq, List.cons_append, List.nil_append]
  go_wp2_with fail
  refine LG.out.mono ?_
  rintro e w' ⟨rfl, rfl⟩
  go_wp2
  go_loopw [5, 6, 7, 8] (fun t i c k wr => KeepRel nm w st.length t i c k wr) (fun _ _ _ k _ => st.length - (intOf k).toNat)
  case atStart => exact ⟨0, [], Nat.zero_le _, dir_nil, rfl, rfl, rfl, rfl, Below.refl _ _⟩
  case round =>
    obtain ⟨m, es, hm, D, rfl, rfl, rfl, rfl, hB⟩ := hrel
    by_cases hlt : m < st.length
    · obtain ⟨s0, s1, s2⟩ := HX.out m hlt
      obtain ⟨hn, hi⟩ := HST.out st[m] (List.getElem_mem hlt)
      obtain ⟨x, hx⟩ : ∃ x, st[m] = x := ⟨_, rfl⟩
      rw [hx] at s0 s1 s2 hn hi
      clear hx
      obtain ⟨d, n, i⟩ := x
      simp only at s0 s1 s2 hn hi
      have c0 := (hB.cell (p := ⟨b, off + m * 3, none⟩) hb).trans s0
      have c1 := (hB.cell (p := ⟨b, off + m * 3 + 1, none⟩) hb).trans s1
      have c2 := (hB.cell (p := ⟨b, off + m * 3 + 2, none⟩) hb).trans s2
      have q0 : (0 : Int) ≤ (m : Int) := by omega
      have q1 : (m : Int) < (st.length : Int) := by omega
      have hbr : b < wr.heap.size := Nat.lt_of_lt_of_le hb hB.size
      clear s0 s1 s2 LG
      by_cases heq : nm = n
      · subst heq
        by_cases h0 : d = 0
        · subst h0
          obtain ⟨er, es1, hop⟩ : ∃ er es1, addL (L nm) i es = (er, es1) := ⟨_, _, rfl⟩
          by_cases her : er = 0
          · subst her
            have OP := Lib.hid (do_add D nm i (by unfold maxLen; omega) hi)
            rw [hop, show resL (0, es1) = (encL es1, 0) by simp [resL]] at OP
            obtain ⟨D1, hc1, hz0, hi1, hi0, hoth, hx9⟩ := add_ok D hi hop
            clear hx9
            obtain ⟨kk, hfd⟩ := look_find D1 nm (by unfold maxLen; omega) (i) hi1
            have FD := Lib.hid hfd
            clear hfd
            have CK := Lib.hid (look_check D1)
            have LS := Lib.hid (look_list D1 ((live es).length + 1) hc1)
            have HREL : Hid (∀ W9, Below w.heap.size w W9 → KeepRel nm w st.length (.string (B (encL es1))) (.int .u32 ((i : Nat) : Int)) (.int .i64 (((live es).length + 1 : Nat) : Int)) (.int .i64 ((m + 1 : Nat) : Int)) W9) := Lib.hid (fun W9 h9 => ⟨m + 1, es1, by omega, D1, rfl, by rw [hi1], by rw [hc1], rfl, h9⟩)
            have hcl : (live es).length ≤ 72 := live_le D
            clear D1 hc1 hz0 hi1 hi0 hoth hop
            obtain ⟨t1, ht1⟩ : ∃ x, B (encL es1) = x := ⟨_, rfl⟩
            rw [ht1] at FD CK LS HREL OP
            clear ht1
            obtain ⟨t0, ht0⟩ : ∃ x, B (encL es) = x := ⟨_, rfl⟩
            rw [ht0] at OP
            rw [ht0]
            clear ht0
            generalize (live es).length = cn at *
            generalize inoOf (L nm) es = jn at *
            skip
            go_wp2_with fail
            refine (OP.out _).mono ?_
            rintro e w1 ⟨rfl, b1⟩
            have hX := (SBox.new wr 62 #[.int .i64 0, .string nm, .int .u32 i]).later b1
            have hB1 : Below w.heap.size w w1 := (hB.alloc hB.size _).trans (b1.mono (by have := hB.size; simp; omega))
            clear b1
            have d0 := hX.cell 0
            have d1 := hX.cell 1
            have d2 := hX.cell 2
            have dl := hX.lt
            simp only [List.getElem?_toArray, List.getElem?_cons_zero, List.getElem?_cons_succ] at d0 d1 d2
            clear hX
            go_wp2_with fail
            refine (FD.out _).mono ?_
            rintro e w2 ⟨rfl, b2⟩
            have hB2 : Below w.heap.size w w2 := hB1.trans (b2.mono (by have := hB1.size; simp; omega))
            clear b2
            go_wp2_with fail
            refine (CK.out _).mono ?_
            rintro e w3 ⟨rfl, b3⟩
            have hB3 : Below w.heap.size w w3 := hB2.trans (b3.mono hB2.size)
            clear b3 hB2
            go_wp2_with fail
            refine (LS.out _).mono ?_
            rintro e w4 ⟨ao, cap, rfl, b4⟩
            have hB4 : Below w.heap.size w w4 := hB3.trans (b4.mono hB3.size)
            clear b4 hB3
            go_wp2
            exact ⟨HREL.out _ hB4, by simp [intOf]; omega⟩
          · skip
            have OP := Lib.hid (do_add D nm i (by unfold maxLen; omega) hi)
            rw [hop, show resL (er, es1) = ([], er) by simp [resL, her]] at OP
            have r1 : (er != 0) = true := by simpa using her
            have r2 : (er == 0) = false := by simpa using her
            rw [show B [] = (⟨#[]⟩ : ByteArray) from rfl] at OP
            clear hop her
            have HREL : Hid (∀ W9, Below w.heap.size w W9 → KeepRel nm w st.length (.string (B (encL es))) (.int .u32 ((inoOf (L nm) es : Nat) : Int)) (.int .i64 (((live es).length : Nat) : Int)) (.int .i64 ((m + 1 : Nat) : Int)) W9) := Lib.hid (fun W9 h9 => ⟨m + 1, es, by omega, D, rfl, rfl, rfl, rfl, h9⟩)
            obtain ⟨t0, ht0⟩ : ∃ x, B (encL es) = x := ⟨_, rfl⟩
            rw [ht0] at OP HREL
            rw [ht0]
            clear ht0
            generalize (live es).length = cn at *
            generalize inoOf (L nm) es = jn at *
            go_wp2_with fail
            refine (OP.out _).mono ?_
            rintro e w1 ⟨rfl, b1⟩
            have hX := (SBox.new wr 62 #[.int .i64 0, .string nm, .int .u32 i]).later b1
            have hB1 : Below w.heap.size w w1 := (hB.alloc hB.size _).trans (b1.mono (by have := hB.size; simp; omega))
            clear b1
            have d0 := hX.cell 0
            have d1 := hX.cell 1
            have d2 := hX.cell 2
            have dl := hX.lt
            simp only [List.getElem?_toArray, List.getElem?_cons_zero, List.getElem?_cons_succ] at d0 d1 d2
            clear hX
            go_wp2
            exact ⟨HREL.out _ hB1, by simp [intOf]; omega⟩
        have k0 : (d == 0) = false := by simpa using h0
        by_cases h1 : d = 1
        · subst h1
          obtain ⟨er, es1, hop⟩ : ∃ er es1, setL (L nm) i es = (er, es1) := ⟨_, _, rfl⟩
          by_cases her : er = 0
          · subst her
            have OP := Lib.hid (do_set D nm i (by unfold maxLen; omega) hi)
            rw [hop, show resL (0, es1) = (encL es1, 0) by simp [resL]] at OP
            obtain ⟨D1, hc1, hi1, hi0, hoth, hf1, hx9⟩ := set_ok D hi hop
            clear hx9 hf1
            obtain ⟨kk, hfd⟩ := look_find D1 nm (by unfold maxLen; omega) (i) hi1
            have FD := Lib.hid hfd
            clear hfd
            have CK := Lib.hid (look_check D1)
            have LS := Lib.hid (look_list D1 ((live es).length) hc1)
            have HREL : Hid (∀ W9, Below w.heap.size w W9 → KeepRel nm w st.length (.string (B (encL es1))) (.int .u32 ((i : Nat) : Int)) (.int .i64 (((live es).length : Nat) : Int)) (.int .i64 ((m + 1 : Nat) : Int)) W9) := Lib.hid (fun W9 h9 => ⟨m + 1, es1, by omega, D1, rfl, by rw [hi1], by rw [hc1], rfl, h9⟩)
            have hcl : (live es).length ≤ 72 := live_le D
            clear D1 hc1 hi1 hi0 hoth hop
            obtain ⟨t1, ht1⟩ : ∃ x, B (encL es1) = x := ⟨_, rfl⟩
            rw [ht1] at FD CK LS HREL OP
            clear ht1
            obtain ⟨t0, ht0⟩ : ∃ x, B (encL es) = x := ⟨_, rfl⟩
            rw [ht0] at OP
            rw [ht0]
            clear ht0
            generalize (live es).length = cn at *
            generalize inoOf (L nm) es = jn at *
            skip
            go_wp2_with fail
            refine (OP.out _).mono ?_
            rintro e w1 ⟨rfl, b1⟩
            have hX := (SBox.new wr 62 #[.int .i64 1, .string nm, .int .u32 i]).later b1
            have hB1 : Below w.heap.size w w1 := (hB.alloc hB.size _).trans (b1.mono (by have := hB.size; simp; omega))
            clear b1
            have d0 := hX.cell 0
            have d1 := hX.cell 1
            have d2 := hX.cell 2
            have dl := hX.lt
            simp only [List.getElem?_toArray, List.getElem?_cons_zero, List.getElem?_cons_succ] at d0 d1 d2
            clear hX
            go_wp2_with fail
            refine (FD.out _).mono ?_
            rintro e w2 ⟨rfl, b2⟩
            have hB2 : Below w.heap.size w w2 := hB1.trans (b2.mono (by have := hB1.size; simp; omega))
            clear b2
            go_wp2_with fail
            refine (CK.out _).mono ?_
            rintro e w3 ⟨rfl, b3⟩
            have hB3 : Below w.heap.size w w3 := hB2.trans (b3.mono hB2.size)
            clear b3 hB2
            go_wp2_with fail
            refine (LS.out _).mono ?_
            rintro e w4 ⟨ao, cap, rfl, b4⟩
            have hB4 : Below w.heap.size w w4 := hB3.trans (b4.mono hB3.size)
            clear b4 hB3
            go_wp2
            exact ⟨HREL.out _ hB4, by simp [intOf]; omega⟩
          · skip
            have OP := Lib.hid (do_set D nm i (by unfold maxLen; omega) hi)
            rw [hop, show resL (er, es1) = ([], er) by simp [resL, her]] at OP
            have r1 : (er != 0) = true := by simpa using her
            have r2 : (er == 0) = false := by simpa using her
            rw [show B [] = (⟨#[]⟩ : ByteArray) from rfl] at OP
            clear hop her
            have HREL : Hid (∀ W9, Below w.heap.size w W9 → KeepRel nm w st.length (.string (B (encL es))) (.int .u32 ((inoOf (L nm) es : Nat) : Int)) (.int .i64 (((live es).length : Nat) : Int)) (.int .i64 ((m + 1 : Nat) : Int)) W9) := Lib.hid (fun W9 h9 => ⟨m + 1, es, by omega, D, rfl, rfl, rfl, rfl, h9⟩)
            obtain ⟨t0, ht0⟩ : ∃ x, B (encL es) = x := ⟨_, rfl⟩
            rw [ht0] at OP HREL
            rw [ht0]
            clear ht0
            generalize (live es).length = cn at *
            generalize inoOf (L nm) es = jn at *
            go_wp2_with fail
            refine (OP.out _).mono ?_
            rintro e w1 ⟨rfl, b1⟩
            have hX := (SBox.new wr 62 #[.int .i64 1, .string nm, .int .u32 i]).later b1
            have hB1 : Below w.heap.size w w1 := (hB.alloc hB.size _).trans (b1.mono (by have := hB.size; simp; omega))
            clear b1
            have d0 := hX.cell 0
            have d1 := hX.cell 1
            have d2 := hX.cell 2
            have dl := hX.lt
            simp only [List.getElem?_toArray, List.getElem?_cons_zero, List.getElem?_cons_succ] at d0 d1 d2
            clear hX
            go_wp2
            exact ⟨HREL.out _ hB1, by simp [intOf]; omega⟩
        have k1 : (d == 1) = false := by simpa using h1
        by_cases h2 : d = 2
        · subst h2
          obtain ⟨er, es1, hop⟩ : ∃ er es1, delL (L nm) es = (er, es1) := ⟨_, _, rfl⟩
          by_cases her : er = 0
          · subst her
            have OP := Lib.hid (do_del D nm (by unfold maxLen; omega))
            rw [hop, show resL (0, es1) = (encL es1, 0) by simp [resL]] at OP
            rw [if_pos rfl] at OP
            obtain ⟨D1, hc1, hi1, hi0, hoth, hx9⟩ := del_ok D hop
            clear hx9
            obtain ⟨kk, hfd⟩ := look_find D1 nm (by unfold maxLen; omega) (0) hi1
            have FD := Lib.hid hfd
            clear hfd
            have CK := Lib.hid (look_check D1)
            obtain ⟨c1n, hc1n⟩ : ∃ x, (live es1).length = x := ⟨_, rfl⟩
            have LS := Lib.hid (look_list D1 c1n hc1n)
            rw [hc1n] at hc1
            have HREL : Hid (∀ W9, Below w.heap.size w W9 → KeepRel nm w st.length (.string (B (encL es1))) (.int .u32 ((0 : Nat) : Int)) (.int .i64 ((c1n : Nat) : Int)) (.int .i64 ((m + 1 : Nat) : Int)) W9) := Lib.hid (fun W9 h9 => ⟨m + 1, es1, by omega, D1, rfl, by rw [hi1], by rw [hc1n], rfl, h9⟩)
            have hcl : c1n ≤ 72 := by rw [← hc1n]; exact live_le D1
            clear D1 hi1 hi0 hoth hop hc1n
            rw [hc1]
            obtain ⟨t1, ht1⟩ : ∃ x, B (encL es1) = x := ⟨_, rfl⟩
            rw [ht1] at FD CK LS HREL OP
            clear ht1
            obtain ⟨t0, ht0⟩ : ∃ x, B (encL es) = x := ⟨_, rfl⟩
            rw [ht0] at OP
            rw [ht0]
            clear ht0
            generalize inoOf (L nm) es = jn at *
            go_wp2_with fail
            refine (OP.out _).mono ?_
            rintro e w1 ⟨rfl, b1⟩
            have hX := (SBox.new wr 62 #[.int .i64 2, .string nm, .int .u32 i]).later b1
            have hB1 : Below w.heap.size w w1 := (hB.alloc hB.size _).trans (b1.mono (by have := hB.size; simp; omega))
            clear b1
            have d0 := hX.cell 0
            have d1 := hX.cell 1
            have d2 := hX.cell 2
            have dl := hX.lt
            simp only [List.getElem?_toArray, List.getElem?_cons_zero, List.getElem?_cons_succ] at d0 d1 d2
            clear hX
            go_wp2_with fail
            refine (FD.out _).mono ?_
            rintro e w2 ⟨rfl, b2⟩
            have hB2 : Below w.heap.size w w2 := hB1.trans (b2.mono (by have := hB1.size; simp; omega))
            clear b2
            go_wp2_with fail
            refine (CK.out _).mono ?_
            rintro e w3 ⟨rfl, b3⟩
            have hB3 : Below w.heap.size w w3 := hB2.trans (b3.mono hB2.size)
            clear b3 hB2
            go_wp2_with fail
            refine (LS.out _).mono ?_
            rintro e w4 ⟨ao, cap, rfl, b4⟩
            have hB4 : Below w.heap.size w w4 := hB3.trans (b4.mono hB3.size)
            clear b4 hB3
            go_wp2
            exact ⟨HREL.out _ hB4, by simp [intOf]; omega⟩
          · skip
            have OP := Lib.hid (do_del D nm (by unfold maxLen; omega))
            rw [hop, show resL (er, es1) = ([], er) by simp [resL, her]] at OP
            rw [if_neg her] at OP
            have r1 : (er != 0) = true := by simpa using her
            have r2 : (er == 0) = false := by simpa using her
            rw [show B [] = (⟨#[]⟩ : ByteArray) from rfl] at OP
            clear hop her
            have HREL : Hid (∀ W9, Below w.heap.size w W9 → KeepRel nm w st.length (.string (B (encL es))) (.int .u32 ((inoOf (L nm) es : Nat) : Int)) (.int .i64 (((live es).length : Nat) : Int)) (.int .i64 ((m + 1 : Nat) : Int)) W9) := Lib.hid (fun W9 h9 => ⟨m + 1, es, by omega, D, rfl, rfl, rfl, rfl, h9⟩)
            obtain ⟨t0, ht0⟩ : ∃ x, B (encL es) = x := ⟨_, rfl⟩
            rw [ht0] at OP HREL
            rw [ht0]
            clear ht0
            generalize (live es).length = cn at *
            generalize inoOf (L nm) es = jn at *
            go_wp2_with fail
            refine (OP.out _).mono ?_
            rintro e w1 ⟨rfl, b1⟩
            have hX := (SBox.new wr 62 #[.int .i64 2, .string nm, .int .u32 i]).later b1
            have hB1 : Below w.heap.size w w1 := (hB.alloc hB.size _).trans (b1.mono (by have := hB.size; simp; omega))
            clear b1
            have d0 := hX.cell 0
            have d1 := hX.cell 1
            have d2 := hX.cell 2
            have dl := hX.lt
            simp only [List.getElem?_toArray, List.getElem?_cons_zero, List.getElem?_cons_succ] at d0 d1 d2
            clear hX
            go_wp2
            exact ⟨HREL.out _ hB1, by simp [intOf]; omega⟩
        have k2 : (d == 2) = false := by simpa using h2
        by_cases h3 : d = 3
        · subst h3
          have OP := Lib.hid (do_trim D)
          obtain ⟨D1, hc1, hoth⟩ := trim_ok D
          obtain ⟨es1, hes1⟩ : ∃ x, trimL es = x := ⟨_, rfl⟩
          rw [hes1] at OP D1 hc1 hoth
          clear hes1
          obtain ⟨kk, hfd⟩ := look_find D1 nm (by unfold maxLen; omega) (inoOf (L nm) es) (hoth _)
          have FD := Lib.hid hfd
          clear hfd
          have CK := Lib.hid (look_check D1)
          have LS := Lib.hid (look_list D1 ((live es).length) hc1)
          have HREL : Hid (∀ W9, Below w.heap.size w W9 → KeepRel nm w st.length (.string (B (encL es1))) (.int .u32 ((inoOf (L nm) es : Nat) : Int)) (.int .i64 (((live es).length : Nat) : Int)) (.int .i64 ((m + 1 : Nat) : Int)) W9) := Lib.hid (fun W9 h9 => ⟨m + 1, es1, by omega, D1, rfl, by rw [(hoth _)], by rw [hc1], rfl, h9⟩)
          have hcl : (live es).length ≤ 72 := live_le D
          clear D1 hc1 hoth
          obtain ⟨t1, ht1⟩ : ∃ x, B (encL es1) = x := ⟨_, rfl⟩
          rw [ht1] at FD CK LS HREL OP
          clear ht1
          obtain ⟨t0, ht0⟩ : ∃ x, B (encL es) = x := ⟨_, rfl⟩
          rw [ht0] at OP
          rw [ht0]
          clear ht0
          generalize (live es).length = cn at *
          generalize inoOf (L nm) es = jn at *
          skip
          go_wp2_with fail
          refine (OP.out _).mono ?_
          rintro e w1 ⟨rfl, b1⟩
          have hX := (SBox.new wr 62 #[.int .i64 3, .string nm, .int .u32 i]).later b1
          have hB1 : Below w.heap.size w w1 := (hB.alloc hB.size _).trans (b1.mono (by have := hB.size; simp; omega))
          clear b1
          have d0 := hX.cell 0
          have d1 := hX.cell 1
          have d2 := hX.cell 2
          have dl := hX.lt
          simp only [List.getElem?_toArray, List.getElem?_cons_zero, List.getElem?_cons_succ] at d0 d1 d2
          clear hX
          go_wp2_with fail
          refine (FD.out _).mono ?_
          rintro e w2 ⟨rfl, b2⟩
          have hB2 : Below w.heap.size w w2 := hB1.trans (b2.mono (by have := hB1.size; simp; omega))
          clear b2
          go_wp2_with fail
          refine (CK.out _).mono ?_
          rintro e w3 ⟨rfl, b3⟩
          have hB3 : Below w.heap.size w w3 := hB2.trans (b3.mono hB2.size)
          clear b3 hB2
          go_wp2_with fail
          refine (LS.out _).mono ?_
          rintro e w4 ⟨ao, cap, rfl, b4⟩
          have hB4 : Below w.heap.size w w4 := hB3.trans (b4.mono hB3.size)
          clear b4 hB3
          go_wp2
          exact ⟨HREL.out _ hB4, by simp [intOf]; omega⟩
        have k3 : (d == 3) = false := by simpa using h3
        have k5 : (d != 3) = true := by simpa using h3
        by_cases hneg : d < 0
        · have k6 : decide (0 ≤ d) = false := by simp; omega
          skip
          obtain ⟨kk, hfd⟩ := look_find D nm (by unfold maxLen; omega) (inoOf (L nm) es) rfl
          have FD := Lib.hid hfd
          clear hfd
          have CK := Lib.hid (look_check D)
          have LS := Lib.hid (look_list D ((live es).length) rfl)
          have HREL : Hid (∀ W9, Below w.heap.size w W9 → KeepRel nm w st.length (.string (B (encL es))) (.int .u32 ((inoOf (L nm) es : Nat) : Int)) (.int .i64 (((live es).length : Nat) : Int)) (.int .i64 ((m + 1 : Nat) : Int)) W9) := Lib.hid (fun W9 h9 => ⟨m + 1, es, by omega, D, rfl, by rw [show inoOf (L nm) es = inoOf (L nm) es from rfl], by rw [show (live es).length = (live es).length from rfl], rfl, h9⟩)
          have hcl : (live es).length ≤ 72 := live_le D
          skip
          obtain ⟨t1, ht1⟩ : ∃ x, B (encL es) = x := ⟨_, rfl⟩
          rw [ht1] at FD CK LS HREL
          rw [ht1]
          clear ht1
          generalize (live es).length = cn at *
          generalize inoOf (L nm) es = jn at *
          skip
          go_wp2_with fail
          refine (FD.out _).mono ?_
          rintro e w2 ⟨rfl, b2⟩
          have hB2 : Below w.heap.size w w2 := (hB.alloc hB.size _).trans (b2.mono (by have := hB.size; simp; omega))
          clear b2
          go_wp2_with fail
          refine (CK.out _).mono ?_
          rintro e w3 ⟨rfl, b3⟩
          have hB3 : Below w.heap.size w w3 := hB2.trans (b3.mono hB2.size)
          clear b3 hB2
          go_wp2_with fail
          refine (LS.out _).mono ?_
          rintro e w4 ⟨ao, cap, rfl, b4⟩
          have hB4 : Below w.heap.size w w4 := hB3.trans (b4.mono hB3.size)
          clear b4 hB3
          go_wp2
          exact ⟨HREL.out _ hB4, by simp [intOf]; omega⟩
        · have k6 : decide (0 ≤ d) = true := by simp; omega
          have k7 : decide (d < 3) = false := by simp; omega
          skip
          obtain ⟨kk, hfd⟩ := look_find D nm (by unfold maxLen; omega) (inoOf (L nm) es) rfl
          have FD := Lib.hid hfd
          clear hfd
          have CK := Lib.hid (look_check D)
          have LS := Lib.hid (look_list D ((live es).length) rfl)
          have HREL : Hid (∀ W9, Below w.heap.size w W9 → KeepRel nm w st.length (.string (B (encL es))) (.int .u32 ((inoOf (L nm) es : Nat) : Int)) (.int .i64 (((live es).length : Nat) : Int)) (.int .i64 ((m + 1 : Nat) : Int)) W9) := Lib.hid (fun W9 h9 => ⟨m + 1, es, by omega, D, rfl, by rw [show inoOf (L nm) es = inoOf (L nm) es from rfl], by rw [show (live es).length = (live es).length from rfl], rfl, h9⟩)
          have hcl : (live es).length ≤ 72 := live_le D
          skip
          obtain ⟨t1, ht1⟩ : ∃ x, B (encL es) = x := ⟨_, rfl⟩
          rw [ht1] at FD CK LS HREL
          rw [ht1]
          clear ht1
          generalize (live es).length = cn at *
          generalize inoOf (L nm) es = jn at *
          skip
          go_wp2_with fail
          refine (FD.out _).mono ?_
          rintro e w2 ⟨rfl, b2⟩
          have hB2 : Below w.heap.size w w2 := (hB.alloc hB.size _).trans (b2.mono (by have := hB.size; simp; omega))
          clear b2
          go_wp2_with fail
          refine (CK.out _).mono ?_
          rintro e w3 ⟨rfl, b3⟩
          have hB3 : Below w.heap.size w w3 := hB2.trans (b3.mono hB2.size)
          clear b3 hB2
          go_wp2_with fail
          refine (LS.out _).mono ?_
          rintro e w4 ⟨ao, cap, rfl, b4⟩
          have hB4 : Below w.heap.size w w4 := hB3.trans (b4.mono hB3.size)
          clear b4 hB3
          go_wp2
          exact ⟨HREL.out _ hB4, by simp [intOf]; omega⟩
      · have hne2 : L nm ≠ L n := fun e => heq (L_inj e)
        have u1 : (n.toList == nm.toList) = false := by rw [toList_L, toList_L]; simpa using Ne.symm hne2
        have u2 : decide (n.toList = nm.toList) = false := by simpa using u1
        clear heq
        by_cases h0 : d = 0
        · subst h0
          obtain ⟨er, es1, hop⟩ : ∃ er es1, addL (L n) i es = (er, es1) := ⟨_, _, rfl⟩
          by_cases her : er = 0
          · subst her
            have OP := Lib.hid (do_add D n i (by unfold maxLen; omega) hi)
            rw [hop, show resL (0, es1) = (encL es1, 0) by simp [resL]] at OP
            obtain ⟨D1, hc1, hz0, hi1, hi0, hoth, hx9⟩ := add_ok D hi hop
            clear hx9
            obtain ⟨kk, hfd⟩ := look_find D1 nm (by unfold maxLen; omega) (inoOf (L nm) es) (hoth _ hne2).1
            have FD := Lib.hid hfd
            clear hfd
            have CK := Lib.hid (look_check D1)
            have LS := Lib.hid (look_list D1 ((live es).length + 1) hc1)
            have HREL : Hid (∀ W9, Below w.heap.size w W9 → KeepRel nm w st.length (.string (B (encL es1))) (.int .u32 ((inoOf (L nm) es : Nat) : Int)) (.int .i64 (((live es).length + 1 : Nat) : Int)) (.int .i64 ((m + 1 : Nat) : Int)) W9) := Lib.hid (fun W9 h9 => ⟨m + 1, es1, by omega, D1, rfl, by rw [(hoth _ hne2).1], by rw [hc1], rfl, h9⟩)
            have hcl : (live es).length ≤ 72 := live_le D
            clear D1 hc1 hz0 hi1 hi0 hoth hop
            obtain ⟨t1, ht1⟩ : ∃ x, B (encL es1) = x := ⟨_, rfl⟩
            rw [ht1] at FD CK LS HREL OP
            clear ht1
            obtain ⟨t0, ht0⟩ : ∃ x, B (encL es) = x := ⟨_, rfl⟩
            rw [ht0] at OP
            rw [ht0]
            clear ht0
            generalize (live es).length = cn at *
            generalize inoOf (L nm) es = jn at *
            skip
            go_wp2_with fail
            refine (OP.out _).mono ?_
            rintro e w1 ⟨rfl, b1⟩
            have hX := (SBox.new wr 62 #[.int .i64 0, .string n, .int .u32 i]).later b1
            have hB1 : Below w.heap.size w w1 := (hB.alloc hB.size _).trans (b1.mono (by have := hB.size; simp; omega))
            clear b1
            have d0 := hX.cell 0
            have d1 := hX.cell 1
            have d2 := hX.cell 2
            have dl := hX.lt
            simp only [List.getElem?_toArray, List.getElem?_cons_zero, List.getElem?_cons_succ] at d0 d1 d2
            clear hX
            go_wp2_with fail
            refine (FD.out _).mono ?_
            rintro e w2 ⟨rfl, b2⟩
            have hB2 : Below w.heap.size w w2 := hB1.trans (b2.mono (by have := hB1.size; simp; omega))
            clear b2
            go_wp2_with fail
            refine (CK.out _).mono ?_
            rintro e w3 ⟨rfl, b3⟩
            have hB3 : Below w.heap.size w w3 := hB2.trans (b3.mono hB2.size)
            clear b3 hB2
            go_wp2_with fail
            refine (LS.out _).mono ?_
            rintro e w4 ⟨ao, cap, rfl, b4⟩
            have hB4 : Below w.heap.size w w4 := hB3.trans (b4.mono hB3.size)
            clear b4 hB3
            go_wp2
            exact ⟨HREL.out _ hB4, by simp [intOf]; omega⟩
          · skip
            have OP := Lib.hid (do_add D n i (by unfold maxLen; omega) hi)
            rw [hop, show resL (er, es1) = ([], er) by simp [resL, her]] at OP
            have r1 : (er != 0) = true := by simpa using her
            have r2 : (er == 0) = false := by simpa using her
            rw [show B [] = (⟨#[]⟩ : ByteArray) from rfl] at OP
            clear hop her
            have HREL : Hid (∀ W9, Below w.heap.size w W9 → KeepRel nm w st.length (.string (B (encL es))) (.int .u32 ((inoOf (L nm) es : Nat) : Int)) (.int .i64 (((live es).length : Nat) : Int)) (.int .i64 ((m + 1 : Nat) : Int)) W9) := Lib.hid (fun W9 h9 => ⟨m + 1, es, by omega, D, rfl, rfl, rfl, rfl, h9⟩)
            obtain ⟨t0, ht0⟩ : ∃ x, B (encL es) = x := ⟨_, rfl⟩
            rw [ht0] at OP HREL
            rw [ht0]
            clear ht0
            generalize (live es).length = cn at *
            generalize inoOf (L nm) es = jn at *
            go_wp2_with fail
            refine (OP.out _).mono ?_
            rintro e w1 ⟨rfl, b1⟩
            have hX := (SBox.new wr 62 #[.int .i64 0, .string n, .int .u32 i]).later b1
            have hB1 : Below w.heap.size w w1 := (hB.alloc hB.size _).trans (b1.mono (by have := hB.size; simp; omega))
            clear b1
            have d0 := hX.cell 0
            have d1 := hX.cell 1
            have d2 := hX.cell 2
            have dl := hX.lt
            simp only [List.getElem?_toArray, List.getElem?_cons_zero, List.getElem?_cons_succ] at d0 d1 d2
            clear hX
            go_wp2
            exact ⟨HREL.out _ hB1, by simp [intOf]; omega⟩
        have k0 : (d == 0) = false := by simpa using h0
        by_cases h1 : d = 1
        · subst h1
          obtain ⟨er, es1, hop⟩ : ∃ er es1, setL (L n) i es = (er, es1) := ⟨_, _, rfl⟩
          by_cases her : er = 0
          · subst her
            have OP := Lib.hid (do_set D n i (by unfold maxLen; omega) hi)
            rw [hop, show resL (0, es1) = (encL es1, 0) by simp [resL]] at OP
            obtain ⟨D1, hc1, hi1, hi0, hoth, hf1, hx9⟩ := set_ok D hi hop
            clear hx9 hf1
            obtain ⟨kk, hfd⟩ := look_find D1 nm (by unfold maxLen; omega) (inoOf (L nm) es) (hoth _ hne2).1
            have FD := Lib.hid hfd
            clear hfd
            have CK := Lib.hid (look_check D1)
            have LS := Lib.hid (look_list D1 ((live es).length) hc1)
            have HREL : Hid (∀ W9, Below w.heap.size w W9 → KeepRel nm w st.length (.string (B (encL es1))) (.int .u32 ((inoOf (L nm) es : Nat) : Int)) (.int .i64 (((live es).length : Nat) : Int)) (.int .i64 ((m + 1 : Nat) : Int)) W9) := Lib.hid (fun W9 h9 => ⟨m + 1, es1, by omega, D1, rfl, by rw [(hoth _ hne2).1], by rw [hc1], rfl, h9⟩)
            have hcl : (live es).length ≤ 72 := live_le D
            clear D1 hc1 hi1 hi0 hoth hop
            obtain ⟨t1, ht1⟩ : ∃ x, B (encL es1) = x := ⟨_, rfl⟩
            rw [ht1] at FD CK LS HREL OP
            clear ht1
            obtain ⟨t0, ht0⟩ : ∃ x, B (encL es) = x := ⟨_, rfl⟩
            rw [ht0] at OP
            rw [ht0]
            clear ht0
            generalize (live es).length = cn at *
            generalize inoOf (L nm) es = jn at *
            skip
            go_wp2_with fail
            refine (OP.out _).mono ?_
            rintro e w1 ⟨rfl, b1⟩
            have hX := (SBox.new wr 62 #[.int .i64 1, .string n, .int .u32 i]).later b1
            have hB1 : Below w.heap.size w w1 := (hB.alloc hB.size _).trans (b1.mono (by have := hB.size; simp; omega))
            clear b1
            have d0 := hX.cell 0
            have d1 := hX.cell 1
            have d2 := hX.cell 2
            have dl := hX.lt
            simp only [List.getElem?_toArray, List.getElem?_cons_zero, List.getElem?_cons_succ] at d0 d1 d2
            clear hX
            go_wp2_with fail
            refine (FD.out _).mono ?_
            rintro e w2 ⟨rfl, b2⟩
            have hB2 : Below w.heap.size w w2 := hB1.trans (b2.mono (by have := hB1.size; simp; omega))
            clear b2
            go_wp2_with fail
            refine (CK.out _).mono ?_
            rintro e w3 ⟨rfl, b3⟩
            have hB3 : Below w.heap.size w w3 := hB2.trans (b3.mono hB2.size)
            clear b3 hB2
            go_wp2_with fail
            refine (LS.out _).mono ?_
            rintro e w4 ⟨ao, cap, rfl, b4⟩
            have hB4 : Below w.heap.size w w4 := hB3.trans (b4.mono hB3.size)
            clear b4 hB3
            go_wp2
            exact ⟨HREL.out _ hB4, by simp [intOf]; omega⟩
          · skip
            have OP := Lib.hid (do_set D n i (by unfold maxLen; omega) hi)
            rw [hop, show resL (er, es1) = ([], er) by simp [resL, her]] at OP
            have r1 : (er != 0) = true := by simpa using her
            have r2 : (er == 0) = false := by simpa using her
            rw [show B [] = (⟨#[]⟩ : ByteArray) from rfl] at OP
            clear hop her
            have HREL : Hid (∀ W9, Below w.heap.size w W9 → KeepRel nm w st.length (.string (B (encL es))) (.int .u32 ((inoOf (L nm) es : Nat) : Int)) (.int .i64 (((live es).length : Nat) : Int)) (.int .i64 ((m + 1 : Nat) : Int)) W9) := Lib.hid (fun W9 h9 => ⟨m + 1, es, by omega, D, rfl, rfl, rfl, rfl, h9⟩)
            obtain ⟨t0, ht0⟩ : ∃ x, B (encL es) = x := ⟨_, rfl⟩
            rw [ht0] at OP HREL
            rw [ht0]
            clear ht0
            generalize (live es).length = cn at *
            generalize inoOf (L nm) es = jn at *
            go_wp2_with fail
            refine (OP.out _).mono ?_
            rintro e w1 ⟨rfl, b1⟩
            have hX := (SBox.new wr 62 #[.int .i64 1, .string n, .int .u32 i]).later b1
            have hB1 : Below w.heap.size w w1 := (hB.alloc hB.size _).trans (b1.mono (by have := hB.size; simp; omega))
            clear b1
            have d0 := hX.cell 0
            have d1 := hX.cell 1
            have d2 := hX.cell 2
            have dl := hX.lt
            simp only [List.getElem?_toArray, List.getElem?_cons_zero, List.getElem?_cons_succ] at d0 d1 d2
            clear hX
            go_wp2
            exact ⟨HREL.out _ hB1, by simp [intOf]; omega⟩
        have k1 : (d == 1) = false := by simpa using h1
        by_cases h2 : d = 2
        · subst h2
          obtain ⟨er, es1, hop⟩ : ∃ er es1, delL (L n) es = (er, es1) := ⟨_, _, rfl⟩
          by_cases her : er = 0
          · subst her
            have OP := Lib.hid (do_del D n (by unfold maxLen; omega))
            rw [hop, show resL (0, es1) = (encL es1, 0) by simp [resL]] at OP
            rw [if_pos rfl] at OP
            obtain ⟨D1, hc1, hi1, hi0, hoth, hx9⟩ := del_ok D hop
            clear hx9
            obtain ⟨kk, hfd⟩ := look_find D1 nm (by unfold maxLen; omega) (inoOf (L nm) es) (hoth _ hne2).1
            have FD := Lib.hid hfd
            clear hfd
            have CK := Lib.hid (look_check D1)
            obtain ⟨c1n, hc1n⟩ : ∃ x, (live es1).length = x := ⟨_, rfl⟩
            have LS := Lib.hid (look_list D1 c1n hc1n)
            rw [hc1n] at hc1
            have HREL : Hid (∀ W9, Below w.heap.size w W9 → KeepRel nm w st.length (.string (B (encL es1))) (.int .u32 ((inoOf (L nm) es : Nat) : Int)) (.int .i64 ((c1n : Nat) : Int)) (.int .i64 ((m + 1 : Nat) : Int)) W9) := Lib.hid (fun W9 h9 => ⟨m + 1, es1, by omega, D1, rfl, by rw [(hoth _ hne2).1], by rw [hc1n], rfl, h9⟩)
            have hcl : c1n ≤ 72 := by rw [← hc1n]; exact live_le D1
            clear D1 hi1 hi0 hoth hop hc1n
            rw [hc1]
            obtain ⟨t1, ht1⟩ : ∃ x, B (encL es1) = x := ⟨_, rfl⟩
            rw [ht1] at FD CK LS HREL OP
            clear ht1
            obtain ⟨t0, ht0⟩ : ∃ x, B (encL es) = x := ⟨_, rfl⟩
            rw [ht0] at OP
            rw [ht0]
            clear ht0
            generalize inoOf (L nm) es = jn at *
            go_wp2_with fail
            refine (OP.out _).mono ?_
            rintro e w1 ⟨rfl, b1⟩
            have hX := (SBox.new wr 62 #[.int .i64 2, .string n, .int .u32 i]).later b1
            have hB1 : Below w.heap.size w w1 := (hB.alloc hB.size _).trans (b1.mono (by have := hB.size; simp; omega))
            clear b1
            have d0 := hX.cell 0
            have d1 := hX.cell 1
            have d2 := hX.cell 2
            have dl := hX.lt
            simp only [List.getElem?_toArray, List.getElem?_cons_zero, List.getElem?_cons_succ] at d0 d1 d2
            clear hX
            go_wp2_with fail
            refine (FD.out _).mono ?_
            rintro e w2 ⟨rfl, b2⟩
            have hB2 : Below w.heap.size w w2 := hB1.trans (b2.mono (by have := hB1.size; simp; omega))
            clear b2
            go_wp2_with fail
            refine (CK.out _).mono ?_
            rintro e w3 ⟨rfl, b3⟩
            have hB3 : Below w.heap.size w w3 := hB2.trans (b3.mono hB2.size)
            clear b3 hB2
            go_wp2_with fail
            refine (LS.out _).mono ?_
            rintro e w4 ⟨ao, cap, rfl, b4⟩
            have hB4 : Below w.heap.size w w4 := hB3.trans (b4.mono hB3.size)
            clear b4 hB3
            go_wp2
            exact ⟨HREL.out _ hB4, by simp [intOf]; omega⟩
          · skip
            have OP := Lib.hid (do_del D n (by unfold maxLen; omega))
            rw [hop, show resL (er, es1) = ([], er) by simp [resL, her]] at OP
            rw [if_neg her] at OP
            have r1 : (er != 0) = true := by simpa using her
            have r2 : (er == 0) = false := by simpa using her
            rw [show B [] = (⟨#[]⟩ : ByteArray) from rfl] at OP
            clear hop her
            have HREL : Hid (∀ W9, Below w.heap.size w W9 → KeepRel nm w st.length (.string (B (encL es))) (.int .u32 ((inoOf (L nm) es : Nat) : Int)) (.int .i64 (((live es).length : Nat) : Int)) (.int .i64 ((m + 1 : Nat) : Int)) W9) := Lib.hid (fun W9 h9 => ⟨m + 1, es, by omega, D, rfl, rfl, rfl, rfl, h9⟩)
            obtain ⟨t0, ht0⟩ : ∃ x, B (encL es) = x := ⟨_, rfl⟩
            rw [ht0] at OP HREL
            rw [ht0]
            clear ht0
            generalize (live es).length = cn at *
            generalize inoOf (L nm) es = jn at *
            go_wp2_with fail
            refine (OP.out _).mono ?_
            rintro e w1 ⟨rfl, b1⟩
            have hX := (SBox.new wr 62 #[.int .i64 2, .string n, .int .u32 i]).later b1
            have hB1 : Below w.heap.size w w1 := (hB.alloc hB.size _).trans (b1.mono (by have := hB.size; simp; omega))
            clear b1
            have d0 := hX.cell 0
            have d1 := hX.cell 1
            have d2 := hX.cell 2
            have dl := hX.lt
            simp only [List.getElem?_toArray, List.getElem?_cons_zero, List.getElem?_cons_succ] at d0 d1 d2
            clear hX
            go_wp2
            exact ⟨HREL.out _ hB1, by simp [intOf]; omega⟩
        have k2 : (d == 2) = false := by simpa using h2
        by_cases h3 : d = 3
        · subst h3
          have OP := Lib.hid (do_trim D)
          obtain ⟨D1, hc1, hoth⟩ := trim_ok D
          obtain ⟨es1, hes1⟩ : ∃ x, trimL es = x := ⟨_, rfl⟩
          rw [hes1] at OP D1 hc1 hoth
          clear hes1
          obtain ⟨kk, hfd⟩ := look_find D1 nm (by unfold maxLen; omega) (inoOf (L nm) es) (hoth _)
          have FD := Lib.hid hfd
          clear hfd
          have CK := Lib.hid (look_check D1)
          have LS := Lib.hid (look_list D1 ((live es).length) hc1)
          have HREL : Hid (∀ W9, Below w.heap.size w W9 → KeepRel nm w st.length (.string (B (encL es1))) (.int .u32 ((inoOf (L nm) es : Nat) : Int)) (.int .i64 (((live es).length : Nat) : Int)) (.int .i64 ((m + 1 : Nat) : Int)) W9) := Lib.hid (fun W9 h9 => ⟨m + 1, es1, by omega, D1, rfl, by rw [(hoth _)], by rw [hc1], rfl, h9⟩)
          have hcl : (live es).length ≤ 72 := live_le D
          clear D1 hc1 hoth
          obtain ⟨t1, ht1⟩ : ∃ x, B (encL es1) = x := ⟨_, rfl⟩
          rw [ht1] at FD CK LS HREL OP
          clear ht1
          obtain ⟨t0, ht0⟩ : ∃ x, B (encL es) = x := ⟨_, rfl⟩
          rw [ht0] at OP
          rw [ht0]
          clear ht0
          generalize (live es).length = cn at *
          generalize inoOf (L nm) es = jn at *
          skip
          go_wp2_with fail
          refine (OP.out _).mono ?_
          rintro e w1 ⟨rfl, b1⟩
          have hX := (SBox.new wr 62 #[.int .i64 3, .string n, .int .u32 i]).later b1
          have hB1 : Below w.heap.size w w1 := (hB.alloc hB.size _).trans (b1.mono (by have := hB.size; simp; omega))
          clear b1
          have d0 := hX.cell 0
          have d1 := hX.cell 1
          have d2 := hX.cell 2
          have dl := hX.lt
          simp only [List.getElem?_toArray, List.getElem?_cons_zero, List.getElem?_cons_succ] at d0 d1 d2
          clear hX
          go_wp2_with fail
          refine (FD.out _).mono ?_
          rintro e w2 ⟨rfl, b2⟩
          have hB2 : Below w.heap.size w w2 := hB1.trans (b2.mono (by have := hB1.size; simp; omega))
          clear b2
          go_wp2_with fail
          refine (CK.out _).mono ?_
          rintro e w3 ⟨rfl, b3⟩
          have hB3 : Below w.heap.size w w3 := hB2.trans (b3.mono hB2.size)
          clear b3 hB2
          go_wp2_with fail
          refine (LS.out _).mono ?_
          rintro e w4 ⟨ao, cap, rfl, b4⟩
          have hB4 : Below w.heap.size w w4 := hB3.trans (b4.mono hB3.size)
          clear b4 hB3
          go_wp2
          exact ⟨HREL.out _ hB4, by simp [intOf]; omega⟩
        have k3 : (d == 3) = false := by simpa using h3
        skip
        obtain ⟨kk, hfd⟩ := look_find D nm (by unfold maxLen; omega) (inoOf (L nm) es) rfl
        have FD := Lib.hid hfd
        clear hfd
        have CK := Lib.hid (look_check D)
        have LS := Lib.hid (look_list D ((live es).length) rfl)
        have HREL : Hid (∀ W9, Below w.heap.size w W9 → KeepRel nm w st.length (.string (B (encL es))) (.int .u32 ((inoOf (L nm) es : Nat) : Int)) (.int .i64 (((live es).length : Nat) : Int)) (.int .i64 ((m + 1 : Nat) : Int)) W9) := Lib.hid (fun W9 h9 => ⟨m + 1, es, by omega, D, rfl, by rw [show inoOf (L nm) es = inoOf (L nm) es from rfl], by rw [show (live es).length = (live es).length from rfl], rfl, h9⟩)
        have hcl : (live es).length ≤ 72 := live_le D
        skip
        obtain ⟨t1, ht1⟩ : ∃ x, B (encL es) = x := ⟨_, rfl⟩
        rw [ht1] at FD CK LS HREL
        rw [ht1]
        clear ht1
        generalize (live es).length = cn at *
        generalize inoOf (L nm) es = jn at *
        skip
        go_wp2_with fail
        refine (FD.out _).mono ?_
        rintro e w2 ⟨rfl, b2⟩
        have hB2 : Below w.heap.size w w2 := (hB.alloc hB.size _).trans (b2.mono (by have := hB.size; simp; omega))
        clear b2
        go_wp2_with fail
        refine (CK.out _).mono ?_
        rintro e w3 ⟨rfl, b3⟩
        have hB3 : Below w.heap.size w w3 := hB2.trans (b3.mono hB2.size)
        clear b3 hB2
        go_wp2_with fail
        refine (LS.out _).mono ?_
        rintro e w4 ⟨ao, cap, rfl, b4⟩
        have hB4 : Below w.heap.size w w4 := hB3.trans (b4.mono hB3.size)
        clear b4 hB3
        go_wp2
        exact ⟨HREL.out _ hB4, by simp [intOf]; omega⟩
    · go_wp2_with fail
      refine (alive10 _).mono ?_
      rintro e w1 ⟨rfl, b1⟩
      go_wp2
      go_ret
      exact ⟨rfl, hB.trans (b1.mono hB.size)⟩
end Go.Proofs.Ytfdclifdemajfaa.Dir
