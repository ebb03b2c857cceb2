/- The law DirsOne: each of Add, Set and Del changes one sector at most, but that Add may put one more behind; no other entry changes its slot. The walk, for every script and step whose texts and numbers are within their bounds. -/
import Derived.Test.YtfdclifdemajfaaAppSteps
import Derived.Deep.AppendLies
import Derived.Deep.CutRange
import Derived.Deep.CutBlock
import Derived.Deep.RegionLaw
import Derived.Deep.RegionHeld3
import Derived.Test.YtfdclifdemajfaaDirsKeep
import Derived.Test.YtfdclifdemajfaaDirOneR
namespace Go.Proofs.Ytfdclifdemajfaa.Dir
set_option linter.unusedVariables false
set_option linter.unusedSimpArgs false
open Go.RowKit Go.Shelf Oct Path
theorem StepArg.below {W W' : World} {v : Value} {st : List Stp} (h : StepArg W v st) (b : Below W.heap.size W W') : StepArg W' v st := by
  rcases h with h | h | ⟨k, o, c, rfl, hb, hx⟩
  · exact .inl h
  · exact .inr (.inl h)
  · refine .inr (.inr ⟨k, o, c, rfl, Nat.lt_of_lt_of_le hb b.size, fun j hj => ?_⟩)
    obtain ⟨x0, x1, x2⟩ := hx j hj
    exact ⟨(b.cell (p := ⟨k, o + j * 3, none⟩) hb).trans x0, (b.cell (p := ⟨k, o + j * 3 + 1, none⟩) hb).trans x1, (b.cell (p := ⟨k, o + j * 3 + 2, none⟩) hb).trans x2⟩
theorem steps_at {w : World} {base g n cap : Nat} {st : List Stp} (hn : n = st.length) (h : w.ownsRow base 62 3 (.slice (some ⟨g, 0, none⟩) n cap) n (cellsS st)) : StepsAt w g 0 st := fun j hj => by
  have hc : ∀ k, k < st.length * 3 → w.cell? ⟨g, k, none⟩ = (cellsS st)[k]? := fun k hk => World.ownsRow.cellAt h k (by omega)
  obtain ⟨g0, g1, g2⟩ := cellsS_get st j hj
  rw [Nat.zero_add, hc _ (by omega), hc _ (by omega), hc _ (by omega)]
  exact ⟨g0, g1, g2⟩
def stepV (x : Stp) : Value := .agg #[.int .i64 x.d, .string x.n, .int .u32 x.i]
def OneRel (len : Nat) (w : World) (d : Int) (n : ByteArray) (i : Nat) (s k : Value) (wr : World) : Prop :=
  ∃ (m : Nat) (es : List Ent), m ≤ len ∧ Dir es ∧ s = .string (B (encL es)) ∧ k = .int .i64 (m : Int) ∧ SBox wr w.heap.size 62 #[.int .i64 d, .string n, .int .u32 i] ∧ Below w.heap.size w wr
/-- The two ways in which a text may have changed. -/
theorem one_ways {n : List UInt8} {es es1 : List Ent} {d : Int} (D : Dir es) (h : StepOk n es es1) (hd : d = 0 ∨ ∃ k e, es1 = es.set k e) :
    ∃ bl : Bool, bl = true ∧ d = 0 ∧ (B (encL es1)).size = (B (encL es)).size + 64 ∧ (B (encL es1)).extract 0 (B (encL es)).size = B (encL es) ∨ bl = false ∧ (B (encL es)).size = (B (encL es1)).size ∧ secN (B (encL es)) (B (encL es1)) ((B (encL es)).size / 64) ≤ 1 := by
  have d1 := h.1
  rcases hd with hd | ⟨k, e, rfl⟩
  · rcases h.2.2 with ⟨k, e, rfl⟩ | ⟨e, f, rfl⟩
    · exact ⟨false, .inr ⟨rfl, one_sector D d1⟩⟩
    · exact ⟨true, .inl ⟨rfl, hd, one_behind D d1⟩⟩
  · exact ⟨false, .inr ⟨rfl, one_sector D d1⟩⟩
/-- What List hands back, and what Find says of each of its names in both texts. -/
theorem one_finds {n : ByteArray} {es es1 : List Ent} (D : Dir es) (h : StepOk (L n) es es1) (j : Nat) (hj : j < (live es).length) :
    ∃ (kk k1 i1 : Nat) (b1 : Bool), (B (live es)[j].1 ≠ n → k1 = kk ∧ i1 = (live es)[j].2 ∧ b1 = true) ∧
      (∀ W, Calls Try.prog 54 #[.string (B (encL es)), .string (B (live es)[j].1)] W fun e w' => e = .returned (.tuple #[.int .u32 (live es)[j].2, .int .i64 kk, .bool true]) ∧ Below W.heap.size W w') ∧
      ∀ W, Calls Try.prog 54 #[.string (B (encL es1)), .string (B (live es)[j].1)] W fun e w' => e = .returned (.tuple #[.int .u32 i1, .int .i64 k1, .bool b1]) ∧ Below W.heap.size W w' := by
  have hm := List.getElem_mem hj
  obtain ⟨x, hx⟩ : ∃ x, (live es)[j] = x := ⟨_, rfl⟩
  rw [hx] at hm ⊢
  clear hx
  have hs := size_enc D
  have hs1 := size_enc h.1
  have h2 : x ∈ es ∧ x.2 ≠ 0 := by simpa [live] using hm
  have hnm : (B x.1).size ≤ maxLen := by
    have := (name_len (may_name (okE_may (D.ok x h2.1) h2.2).1).2).2
    rw [size_B]
    unfold maxLen
    omega
  obtain ⟨i1, i2⟩ := live_ino D hm
  obtain ⟨a1, a2, a3⟩ := findR_enc D x.1
  refine ⟨(findR (encL es) x.1).2.1, (findR (encL es1) x.1).2.1, (findR (encL es1) x.1).1, (findR (encL es1) x.1).2.2, fun hn => ?_, fun W => ?_, fun W => ?_⟩
  · have hn2 : x.1 ≠ L n := fun e => hn (by rw [e]; exact B_L n)
    obtain ⟨kk, f1, f2⟩ := find_both D h hm hn2
    rw [f1, f2]
    exact ⟨rfl, rfl, rfl⟩
  · have q := find_any (B (encL es)) (B x.1) W (by unfold maxLen; omega) hnm
    rw [L_B, L_B, a1, a2, i1] at q
    rw [show decide (x.2 ≠ 0) = true by simpa using i2] at q
    exact q
  · have q := find_any (B (encL es1)) (B x.1) W (by unfold maxLen; omega) hnm
    rw [L_B, L_B] at q
    exact q
theorem hs2_next {wr W W' : World} {b o1 o2 : Nat} {v1 v2 : Option Value} (hb : b < wr.heap.size) (h : Below wr.heap.size wr W ∧ W.cell? ⟨b, o1, none⟩ = v1 ∧ W.cell? ⟨b, o2, none⟩ = v2) (b9 : Below W.heap.size W W') : Below wr.heap.size wr W' ∧ W'.cell? ⟨b, o1, none⟩ = v1 ∧ W'.cell? ⟨b, o2, none⟩ = v2 := by
  have hs := h.1.size
  refine ⟨h.1.trans (b9.mono hs), (b9.cell (p := ⟨b, o1, none⟩) (Nat.lt_of_lt_of_le hb hs)).trans h.2.1, (b9.cell (p := ⟨b, o2, none⟩) (Nat.lt_of_lt_of_le hb hs)).trans h.2.2⟩
set_option maxRecDepth 100000 in
set_option maxHeartbeats 4000000 in
theorem one_walk (v : Value) (st : List Stp) (x : Stp) (w : World) (hS : StepArg w v st) (hl : st.length * 32 ≤ 140737488351232) (hst : ∀ y ∈ st, y.n.size ≤ 140737488351232 ∧ y.i < 4294967296) (hxn : x.n.size ≤ 140737488351232) (hxi : x.i < 4294967296) :
    Calls Try.prog 12 #[v, stepV x] w fun e w' => e = .returned (.bool true) ∧ Below w.heap.size w w' := by
  obtain ⟨d, n, i⟩ := x
  unfold stepV
  have LG : Hid (∀ W g cap, StepsAt W g 0 (st ++ [⟨d, n, i⟩]) → Calls Try.prog 47 #[.slice (some ⟨g, 0, none⟩) (st.length + 1) cap] W fun e w' => e = .returned (.bool (longB (st ++ [⟨d, n, i⟩]))) ∧ W = w') := Lib.hid (fun W g cap hx => by
    have h := long_row g 0 cap (st ++ [⟨d, n, i⟩]) W (by simp; omega) (fun y hy => by
      rcases List.mem_append.1 hy with h | h
      · exact (hst y h).1
      · rw [List.mem_singleton.1 h]; exact hxn) hx
    rw [List.length_append] at h
    exact h)
  obtain ⟨lb, hlb⟩ : ∃ b, longB (st ++ [⟨d, n, i⟩]) = b := ⟨_, rfl⟩
  rw [hlb] at LG
  have LN : Hid (lb = false → st.length ≤ 99 ∧ (∀ y ∈ st, y.n.size ≤ 4096) ∧ n.size ≤ 4096) := Lib.hid (fun e => by
    obtain ⟨l1, l2⟩ := long_no (hlb.trans e)
    refine ⟨by simp at l1; omega, fun y hy => l2 y (by simp [hy]), ?_⟩
    exact l2 ⟨d, n, i⟩ (by simp))
  clear hlb
  have HS := Lib.hid hS
  have HL := Lib.hid hl
  clear hS hl
  go_enter Try.func12, Try.ntmps12
  try simp only [List.append_eq, List.cons_append, List.nil_append]
  go_upto_region 1 with fail
  go_cut [3, 25] from 20 (fun q s wx => q = .pointer (some ⟨w.heap.size, 0, none⟩) ∧ s = .bool lb ∧ SBox wx w.heap.size 62 #[.int .i64 d, .string n, .int .u32 i] ∧ Below w.heap.size w wx)
  case rest =>
    as_aux_lemma =>
      obtain ⟨rfl, rfl, hX, hB⟩ := hcut
      cases lb
      · go_upto_block 0 with fail
        go_cut [5, 6, 7, 8] from 20 (fun s k t e wx => (∃ es, Dir es ∧ s = .string (B (encL es))) ∧ SBox wx w.heap.size 62 #[.int .i64 d, .string n, .int .u32 i] ∧ Below w.heap.size w wx)
        case first =>
          as_aux_lemma =>
            obtain ⟨l1, l2, l3⟩ := LN.out rfl
            rcases HS.out with ⟨rfl, rfl⟩ | ⟨ad, c, rfl, rfl⟩ | ⟨b, o, c, rfl, hb, hx⟩
            · go_wp2_with fail
              refine wp_loop_rounds 1 ?_
              rw [rounds_succ]
              go_wp2
              go_meet
              case rel => exact ⟨⟨[], dir_nil, rfl⟩, hX, hB⟩
            · go_wp2_with fail
              refine wp_loop_rounds 1 ?_
              rw [rounds_succ]
              go_wp2
              go_meet
              case rel => exact ⟨⟨[], dir_nil, rfl⟩, hX, hB⟩
            · have HX := Lib.hid hx
              have HST := Lib.hid hst
              clear hx hst
              go_wp2_with fail
              go_loopw [5, 6, 7, 8] (fun s k t e wr => OneRel st.length w d n i s k wr) (fun _ k _ _ _ => st.length - (intOf k).toNat)
              case atStart => exact ⟨0, [], Nat.zero_le _, dir_nil, rfl, rfl, hX, hB⟩
              case round =>
                as_aux_lemma =>
                  obtain ⟨m, es, hm, D, rfl, rfl, hXr, hBr⟩ := hrel
                  by_cases hlt : m < st.length
                  · obtain ⟨s0, s1, s2⟩ := HX.out m hlt
                    have hn2 := l2 st[m] (List.getElem_mem hlt)
                    have hi2 := (HST.out st[m] (List.getElem_mem hlt)).2
                    obtain ⟨x, hx⟩ : ∃ x, st[m] = x := ⟨_, rfl⟩
                    rw [hx] at s0 s1 s2 hn2 hi2
                    clear hx
                    obtain ⟨d2, n2, i2⟩ := x
                    simp only at s0 s1 s2 hn2 hi2
                    have c0 := (hBr.cell (p := ⟨b, o + m * 3, none⟩) hb).trans s0
                    have c1 := (hBr.cell (p := ⟨b, o + m * 3 + 1, none⟩) hb).trans s1
                    have c2 := (hBr.cell (p := ⟨b, o + m * 3 + 2, none⟩) hb).trans s2
                    have q0 : (0 : Int) ≤ (m : Int) := by omega
                    have q1 : (m : Int) < (st.length : Int) := by omega
                    have hbr : b < wr.heap.size := Nat.lt_of_lt_of_le hb hBr.size
                    clear s0 s1 s2
                    by_cases h0 : d2 = 0
                    · subst h0
                      obtain ⟨er, es1, hop⟩ : ∃ er es1, addL (L n2) i2 es = (er, es1) := ⟨_, _, rfl⟩
                      have OP := Lib.hid (do_add D n2 i2 (by unfold maxLen; omega) hi2)
                      by_cases her : er = 0
                      · subst her
                        rw [hop, show resL (0, es1) = (encL es1, 0) by simp [resL]] at OP
                        skip
                        have d1 := (stepOk_add D hi2 hop).1
                        have HREL : Hid (∀ W9, Below wr.heap.size wr W9 → OneRel st.length w d n i (.string (B (encL es1))) (.int .i64 ((m + 1 : Nat) : Int)) W9) := Lib.hid (fun W9 h9 => ⟨m + 1, es1, by omega, d1, rfl, rfl, SBox.below hXr hXr.lt h9, hBr.trans (h9.mono hBr.size)⟩)
                        clear hop
                        obtain ⟨t1, ht1⟩ : ∃ x, B (encL es1) = x := ⟨_, rfl⟩
                        rw [ht1] at HREL OP
                        clear ht1
                        obtain ⟨t0, ht0⟩ : ∃ x, B (encL es) = x := ⟨_, rfl⟩
                        rw [ht0] at OP
                        rw [ht0]
                        clear ht0
                        simp only at OP
                        go_wp2_with fail
                        go_region_held3 (fun W => Below wr.heap.size wr W ∧ W.cell? ⟨b, o + m * 3 + 1, none⟩ = some (.string n2) ∧ W.cell? ⟨b, o + m * 3 + 2, none⟩ = some (.int .u32 i2))
                          (first | exact hs2_next hbr (by assumption) b9 | exact ⟨(Below.refl _ _).drew, c1, c2⟩ | exact ⟨Below.refl _ _, c1, c2⟩)
                          (first | (go_at_call 49; refine (OP.out _).mono ?_; rintro e w9 ⟨rfl, b9⟩))
                        rename_i hS
                        have bS := hS.1
                        go_wp2
                        exact ⟨HREL.out _ bS, by simp [intOf]; omega⟩

                      · rw [hop, show resL (er, es1) = ([], er) by simp [resL, her]] at OP
                        skip
                        rw [show B [] = (⟨#[]⟩ : ByteArray) from rfl] at OP
                        have r1 : (er != 0) = true := by simpa using her
                        have r2 : (er == 0) = false := by simpa using her
                        have HREL : Hid (∀ W9, Below wr.heap.size wr W9 → OneRel st.length w d n i (.string (B (encL es))) (.int .i64 ((m + 1 : Nat) : Int)) W9) := Lib.hid (fun W9 h9 => ⟨m + 1, es, by omega, D, rfl, rfl, SBox.below hXr hXr.lt h9, hBr.trans (h9.mono hBr.size)⟩)
                        clear hop
                        obtain ⟨t0, ht0⟩ : ∃ x, B (encL es) = x := ⟨_, rfl⟩
                        rw [ht0] at OP HREL
                        rw [ht0]
                        clear ht0
                        simp only at OP
                        go_wp2_with fail
                        go_region_held3 (fun W => Below wr.heap.size wr W ∧ W.cell? ⟨b, o + m * 3 + 1, none⟩ = some (.string n2) ∧ W.cell? ⟨b, o + m * 3 + 2, none⟩ = some (.int .u32 i2))
                          (first | exact hs2_next hbr (by assumption) b9 | exact ⟨(Below.refl _ _).drew, c1, c2⟩ | exact ⟨Below.refl _ _, c1, c2⟩)
                          (first | (go_at_call 49; refine (OP.out _).mono ?_; rintro e w9 ⟨rfl, b9⟩))
                        rename_i hS
                        have bS := hS.1
                        go_wp2
                        exact ⟨HREL.out _ bS, by simp [intOf]; omega⟩

                    have k0 : (d2 == 0) = false := by simpa using h0
                    by_cases h2 : d2 = 2
                    · subst h2
                      obtain ⟨er, es1, hop⟩ : ∃ er es1, delL (L n2) es = (er, es1) := ⟨_, _, rfl⟩
                      have OP := Lib.hid (do_del D n2 (by unfold maxLen; omega))
                      by_cases her : er = 0
                      · subst her
                        rw [hop, show resL (0, es1) = (encL es1, 0) by simp [resL]] at OP
                        rw [if_pos rfl] at OP
                        have d1 := (stepOk_del D hop).1.1
                        have HREL : Hid (∀ W9, Below wr.heap.size wr W9 → OneRel st.length w d n i (.string (B (encL es1))) (.int .i64 ((m + 1 : Nat) : Int)) W9) := Lib.hid (fun W9 h9 => ⟨m + 1, es1, by omega, d1, rfl, rfl, SBox.below hXr hXr.lt h9, hBr.trans (h9.mono hBr.size)⟩)
                        clear hop
                        obtain ⟨t1, ht1⟩ : ∃ x, B (encL es1) = x := ⟨_, rfl⟩
                        rw [ht1] at HREL OP
                        clear ht1
                        obtain ⟨t0, ht0⟩ : ∃ x, B (encL es) = x := ⟨_, rfl⟩
                        rw [ht0] at OP
                        rw [ht0]
                        clear ht0
                        simp only at OP
                        go_wp2_with fail
                        refine (OP.out _).mono ?_
                        rintro e w1 ⟨rfl, b1⟩
                        go_wp2
                        exact ⟨HREL.out _ b1, by simp [intOf]; omega⟩

                      · rw [hop, show resL (er, es1) = ([], er) by simp [resL, her]] at OP
                        rw [if_neg her] at OP
                        rw [show B [] = (⟨#[]⟩ : ByteArray) from rfl] at OP
                        have r1 : (er != 0) = true := by simpa using her
                        have r2 : (er == 0) = false := by simpa using her
                        have HREL : Hid (∀ W9, Below wr.heap.size wr W9 → OneRel st.length w d n i (.string (B (encL es))) (.int .i64 ((m + 1 : Nat) : Int)) W9) := Lib.hid (fun W9 h9 => ⟨m + 1, es, by omega, D, rfl, rfl, SBox.below hXr hXr.lt h9, hBr.trans (h9.mono hBr.size)⟩)
                        clear hop
                        obtain ⟨t0, ht0⟩ : ∃ x, B (encL es) = x := ⟨_, rfl⟩
                        rw [ht0] at OP HREL
                        rw [ht0]
                        clear ht0
                        simp only at OP
                        go_wp2_with fail
                        refine (OP.out _).mono ?_
                        rintro e w1 ⟨rfl, b1⟩
                        go_wp2
                        exact ⟨HREL.out _ b1, by simp [intOf]; omega⟩

                    have k2 : (d2 == 2) = false := by simpa using h2
                    have HREL : Hid (∀ W9, Below wr.heap.size wr W9 → OneRel st.length w d n i (.string (B (encL es))) (.int .i64 ((m + 1 : Nat) : Int)) W9) := Lib.hid (fun W9 h9 => ⟨m + 1, es, by omega, D, rfl, rfl, SBox.below hXr hXr.lt h9, hBr.trans (h9.mono hBr.size)⟩)
                    obtain ⟨t0, ht0⟩ : ∃ x, B (encL es) = x := ⟨_, rfl⟩
                    rw [ht0] at HREL
                    rw [ht0]
                    clear ht0
                    go_wp2
                    exact ⟨HREL.out _ (Below.refl _ _), by simp [intOf]; omega⟩
                  · go_wp2
                    go_meet
                    case rel => exact ⟨⟨es, D, rfl⟩, hXr, hBr⟩
        case rest =>
          as_aux_lemma =>
            obtain ⟨⟨es, D, rfl⟩, hX, hB⟩ := hcut
            have X0 := hX.cell 0
            have X1 := hX.cell 1
            have X2 := hX.cell 2
            simp only [List.getElem?_toArray, List.getElem?_cons_zero, List.getElem?_cons_succ] at X0 X1 X2
            have hlx := hX.lt
            obtain ⟨l1, l2, l3⟩ := LN.out rfl
            clear l1 l2
            obtain ⟨t0, ht0⟩ : ∃ x, B (encL es) = x := ⟨_, rfl⟩
            rw [ht0]
            have HT0 := Lib.hid ht0
            clear ht0
            go_upto_block 3 with fail
            go_cut [9, 10] from 74 (fun t e wx => (∃ (er : Int) (es1 : List Ent), e = .int .i64 er ∧ (er ≠ 0 ∧ t = .string ⟨#[]⟩ ∨ er = 0 ∧ t = .string (B (encL es1)) ∧ StepOk (L n) es es1 ∧ (d = 0 ∨ ∃ k e, es1 = es.set k e))) ∧ Below w.heap.size w wx ∧ SBox wx w.heap.size 62 #[.int .i64 d, .string n, .int .u32 i])
            case first =>
              as_aux_lemma =>
                by_cases h0 : d = 0
                · subst h0
                  obtain ⟨er, es1, hop⟩ : ∃ er es1, addL (L n) i es = (er, es1) := ⟨_, _, rfl⟩
                  have OP := Lib.hid (do_add D n i (by unfold maxLen; omega) hxi)
                  have HREL : Hid (∀ W9, Below wc.heap.size wc W9 → Below w.heap.size w W9 ∧ SBox W9 w.heap.size 62 #[.int .i64 (0 : Int), .string n, .int .u32 i]) := Lib.hid (fun W9 h9 => ⟨hB.trans (h9.mono hB.size), SBox.below hX hX.lt h9⟩)
                  by_cases her : er = 0
                  · subst her
                    rw [hop, show resL (0, es1) = (encL es1, 0) by simp [resL]] at OP
                    skip
                    have HS1 := Lib.hid (show StepOk (L n) es es1 ∧ ((0 : Int) = 0 ∨ ∃ k e, es1 = es.set k e) from ⟨stepOk_add D hxi hop, .inl rfl⟩)
                    clear hop hX hB
                    simp only at OP
                    rw [HT0.out] at OP
                    obtain ⟨t1, ht1⟩ : ∃ x, B (encL es1) = x := ⟨_, rfl⟩
                    rw [ht1] at OP
                    go_wp2_with fail
                    refine (OP.out _).mono ?_
                    rintro e w1 ⟨rfl, b1⟩
                    go_wp2
                    go_meet
                    case rel => exact ⟨⟨0, es1, rfl, .inr ⟨rfl, by rw [ht1], HS1.out⟩⟩, HREL.out _ b1⟩
                  · rw [hop, show resL (er, es1) = ([], er) by simp [resL, her]] at OP
                    skip
                    rw [show B [] = (⟨#[]⟩ : ByteArray) from rfl] at OP
                    clear hop hX hB
                    simp only at OP
                    rw [HT0.out] at OP
                    go_wp2_with fail
                    refine (OP.out _).mono ?_
                    rintro e w1 ⟨rfl, b1⟩
                    go_wp2
                    go_meet
                    case rel => exact ⟨⟨er, es1, rfl, .inl ⟨her, rfl⟩⟩, HREL.out _ b1⟩

                have k0 : (d == 0) = false := by simpa using h0
                by_cases h1 : d = 1
                · subst h1
                  obtain ⟨er, es1, hop⟩ : ∃ er es1, setL (L n) i es = (er, es1) := ⟨_, _, rfl⟩
                  have OP := Lib.hid (do_set D n i (by unfold maxLen; omega) hxi)
                  have HREL : Hid (∀ W9, Below wc.heap.size wc W9 → Below w.heap.size w W9 ∧ SBox W9 w.heap.size 62 #[.int .i64 (1 : Int), .string n, .int .u32 i]) := Lib.hid (fun W9 h9 => ⟨hB.trans (h9.mono hB.size), SBox.below hX hX.lt h9⟩)
                  by_cases her : er = 0
                  · subst her
                    rw [hop, show resL (0, es1) = (encL es1, 0) by simp [resL]] at OP
                    skip
                    have HS1 := Lib.hid (show StepOk (L n) es es1 ∧ ((1 : Int) = 0 ∨ ∃ k e, es1 = es.set k e) from ⟨(stepOk_set D hxi hop).1, .inr (stepOk_set D hxi hop).2⟩)
                    clear hop hX hB
                    simp only at OP
                    rw [HT0.out] at OP
                    obtain ⟨t1, ht1⟩ : ∃ x, B (encL es1) = x := ⟨_, rfl⟩
                    rw [ht1] at OP
                    go_wp2_with fail
                    refine (OP.out _).mono ?_
                    rintro e w1 ⟨rfl, b1⟩
                    go_wp2
                    go_meet
                    case rel => exact ⟨⟨0, es1, rfl, .inr ⟨rfl, by rw [ht1], HS1.out⟩⟩, HREL.out _ b1⟩
                  · rw [hop, show resL (er, es1) = ([], er) by simp [resL, her]] at OP
                    skip
                    rw [show B [] = (⟨#[]⟩ : ByteArray) from rfl] at OP
                    clear hop hX hB
                    simp only at OP
                    rw [HT0.out] at OP
                    go_wp2_with fail
                    refine (OP.out _).mono ?_
                    rintro e w1 ⟨rfl, b1⟩
                    go_wp2
                    go_meet
                    case rel => exact ⟨⟨er, es1, rfl, .inl ⟨her, rfl⟩⟩, HREL.out _ b1⟩

                have k1 : (d == 1) = false := by simpa using h1
                obtain ⟨er, es1, hop⟩ : ∃ er es1, delL (L n) es = (er, es1) := ⟨_, _, rfl⟩
                have OP := Lib.hid (do_del D n (by unfold maxLen; omega))
                have HREL : Hid (∀ W9, Below wc.heap.size wc W9 → Below w.heap.size w W9 ∧ SBox W9 w.heap.size 62 #[.int .i64 d, .string n, .int .u32 i]) := Lib.hid (fun W9 h9 => ⟨hB.trans (h9.mono hB.size), SBox.below hX hX.lt h9⟩)
                by_cases her : er = 0
                · subst her
                  rw [hop, show resL (0, es1) = (encL es1, 0) by simp [resL]] at OP
                  rw [if_pos rfl] at OP
                  have HS1 := Lib.hid (show StepOk (L n) es es1 ∧ (d = 0 ∨ ∃ k e, es1 = es.set k e) from ⟨(stepOk_del D hop).1, .inr (stepOk_del D hop).2⟩)
                  clear hop hX hB
                  simp only at OP
                  rw [HT0.out] at OP
                  obtain ⟨t1, ht1⟩ : ∃ x, B (encL es1) = x := ⟨_, rfl⟩
                  rw [ht1] at OP
                  go_wp2_with fail
                  refine (OP.out _).mono ?_
                  rintro e w1 ⟨rfl, b1⟩
                  go_wp2
                  go_meet
                  case rel => exact ⟨⟨0, es1, rfl, .inr ⟨rfl, by rw [ht1], HS1.out⟩⟩, HREL.out _ b1⟩
                · rw [hop, show resL (er, es1) = ([], er) by simp [resL, her]] at OP
                  rw [if_neg her] at OP
                  rw [show B [] = (⟨#[]⟩ : ByteArray) from rfl] at OP
                  clear hop hX hB
                  simp only at OP
                  rw [HT0.out] at OP
                  go_wp2_with fail
                  refine (OP.out _).mono ?_
                  rintro e w1 ⟨rfl, b1⟩
                  go_wp2
                  go_meet
                  case rel => exact ⟨⟨er, es1, rfl, .inl ⟨her, rfl⟩⟩, HREL.out _ b1⟩

            case rest =>
              as_aux_lemma =>
                clear X0 X1 X2 hlx hX hB
                obtain ⟨⟨er, es1, rfl, hway⟩, hB, hX⟩ := hcut
                have X0 := hX.cell 0
                have X1 := hX.cell 1
                simp only [List.getElem?_toArray, List.getElem?_cons_zero, List.getElem?_cons_succ] at X0 X1
                have hlx := hX.lt
                rcases hway with ⟨her, rfl⟩ | ⟨rfl, rfl, hok, hdd⟩
                · have r1 : (er != 0) = true := by simpa using her
                  go_wp2_with fail
                  refine (alive10 _).mono ?_
                  rintro e w1 ⟨rfl, b1⟩
                  go_wp2
                  go_ret
                  exact ⟨rfl, hB.trans (b1.mono hB.size)⟩
                · obtain ⟨bl, hbl⟩ := one_ways D hok hdd
                  have hs := size_enc D
                  have hs1 := size_enc hok.1
                  have LS : Hid (∀ W, Calls Try.prog 53 #[.string (B (encL es))] W (ListRes (live es) W)) := Lib.hid (fun W => by
                    have h := list_any (B (encL es)) W (by unfold maxLen; omega)
                    rw [L_B, listL_enc D] at h
                    exact h)
                  have FD := Lib.hid (fun j hj => one_finds D hok j hj)
                  have hlen : (live es).length ≤ 72 := live_le D
                  clear hok hdd D
                  rw [HT0.out] at hbl hs LS FD
                  obtain ⟨t1, ht1⟩ : ∃ x, B (encL es1) = x := ⟨_, rfl⟩
                  rw [ht1] at hbl hs1 FD ⊢
                  clear ht1 HT0
                  generalize live es = le at *
                  go_upto_region 24 with fail
                  go_cut [121] from 111 (fun s wx => s = .bool bl ∧ wx = wc)
                  case first =>
                    as_aux_lemma =>
                      rcases hbl with ⟨rfl, rfl, hz, hx⟩ | ⟨rfl, hz, hx⟩
                      · have z1 : ((t1.size : Int) == (t0.size : Int) + 64) = true := by rw [hz]; simp
                        go_wp2_with fail
                        go_meet
                        case rel => exact ⟨rfl, rfl⟩
                      · have z1 : ((t1.size : Int) == (t0.size : Int) + 64) = false := by simp; omega
                        clear hz
                        by_cases h0 : d = 0
                        · subst h0
                          go_wp2_with fail
                          go_meet
                          case rel => exact ⟨rfl, rfl⟩
                        · have k0 : (d == 0) = false := by simpa using h0
                          go_wp2_with fail
                          go_meet
                          case rel => exact ⟨rfl, rfl⟩
                  case rest =>
                    as_aux_lemma =>
                      obtain ⟨rfl, rfl⟩ := hcut
                      go_upto_if 121 with fail
                      go_cut [11] from 122 (fun s wx => Below w.heap.size w wx ∧ SBox wx w.heap.size 62 #[.int .i64 d, .string n, .int .u32 i])
                      case first =>
                        as_aux_lemma =>
                          rcases hbl with ⟨rfl, rfl, hz, hx⟩ | ⟨rfl, hz, hx⟩
                          · have z2 : t0.size ≤ t1.size := by omega
                            clear hz
                            go_wp2_with fail
                            go_meet
                            case rel => exact ⟨hB, hX⟩
                          · have SC := Lib.hid (fun W => sectors_row t0 t1 W hz (by omega))
                            generalize secN t0 t1 (t0.size / 64) = sn at *
                            have z1 : decide ((sn : Int) < 0) = false := by simp
                            have z2 : decide ((1 : Int) < (sn : Int)) = false := by simp; omega
                            go_wp2_with fail
                            refine (SC.out _).mono ?_
                            rintro e w1 ⟨rfl, b1⟩
                            go_wp2_with fail
                            go_meet
                            case rel => exact ⟨hB.trans (b1.mono hB.size), SBox.below hX hX.lt b1⟩
                      case rest =>
                        as_aux_lemma =>
                          clear X0 X1 hlx hX hB hbl
                          obtain ⟨hB, hX⟩ := hcut
                          go_wp2_with fail
                          refine (LS.out _).mono ?_
                          rintro e w1 ⟨v1, rfl, hrow, b1⟩
                          have HB1 : Hid (∀ W9, Below w1.heap.size w1 W9 → Below w.heap.size w W9) := Lib.hid (fun W9 h9 => (hB.trans (b1.mono hB.size)).trans (h9.mono (Nat.le_trans hB.size b1.size)))
                          have hX1 := SBox.below hX hX.lt b1
                          clear hB hX b1
                          rcases hrow.2 with ⟨rfl, e0⟩ | ⟨g, cap, cur, rfl, _⟩
                          · go_wp2_with fail
                            refine wp_loop_rounds 1 ?_
                            rw [rounds_succ]
                            go_wp2_with fail
                            refine (alive10 _).mono ?_
                            rintro e w2 ⟨rfl, b2⟩
                            go_wp2
                            go_ret
                            exact ⟨rfl, HB1.out _ b2⟩
                          · have EA := Lib.hid (ents_at rfl hrow)
                            have hg : g < w1.heap.size := (hrow.lt _ rfl).2
                            have HX1 := Lib.hid hX1
                            clear hrow hX1
                            go_wp2_with fail
                            go_loopw [13, 14, 15, 16, 17, 18, 19] (fun k _ _ _ _ _ _ wr => ∃ m : Nat, m ≤ le.length ∧ k = .int .i64 (m : Int) ∧ Below w1.heap.size w1 wr) (fun k _ _ _ _ _ _ _ => le.length - (intOf k).toNat)
                            case atStart => exact ⟨0, Nat.zero_le _, rfl, Below.refl _ _⟩
                            case round =>
                              as_aux_lemma =>
                                obtain ⟨m, hm, rfl, hBr⟩ := hrel
                                by_cases hlt : m < le.length
                                · obtain ⟨e1, e2⟩ := EA.out m hlt
                                  obtain ⟨kk, k1, i1, b1, hne, F0, F1⟩ := FD.out m hlt
                                  obtain ⟨x, hx⟩ : ∃ x, le[m] = x := ⟨_, rfl⟩
                                  rw [hx] at e1 e2 hne F0 F1
                                  clear hx
                                  obtain ⟨nb, ni⟩ := x
                                  obtain ⟨nm, hnm⟩ : ∃ y, B nb = y := ⟨_, rfl⟩
                                  simp only at e1 e2 hne F0 F1
                                  rw [hnm] at e1 hne F0 F1
                                  clear hnm
                                  have HF0 := Lib.hid F0
                                  have HF1 := Lib.hid F1
                                  clear F0 F1
                                  have q0 : (0 : Int) ≤ (m : Int) := by omega
                                  have q1 : (m : Int) < (le.length : Int) := by omega
                                  have c0 := (hBr.cell (p := ⟨g, m * 2, none⟩) hg).trans e1
                                  have hgr : g < wr.heap.size := Nat.lt_of_lt_of_le hg hBr.size
                                  go_wp2_with fail
                                  refine (HF0.out _).mono ?_
                                  rintro e w2 ⟨rfl, b2⟩
                                  have c2 := (b2.cell (p := ⟨g, m * 2, none⟩) hgr).trans c0
                                  have hB2 := hBr.trans (b2.mono hBr.size)
                                  have hgr2 : g < w2.heap.size := Nat.lt_of_lt_of_le hg hB2.size
                                  clear c0 hBr b2 hgr
                                  go_wp2_with fail
                                  refine (HF1.out _).mono ?_
                                  rintro e w3 ⟨rfl, b3⟩
                                  have hB3 := hB2.trans (b3.mono hB2.size)
                                  have hX3 := SBox.below HX1.out HX1.out.lt hB3
                                  have X1 := hX3.cell 1
                                  simp only [List.getElem?_toArray, List.getElem?_cons_zero, List.getElem?_cons_succ] at X1
                                  have hlx := hX3.lt
                                  have c3 := (hB3.cell (p := ⟨g, m * 2, none⟩) hg).trans e1
                                  have c4 := (hB3.cell (p := ⟨g, m * 2 + 1, none⟩) hg).trans e2
                                  have hgr3 : g < w3.heap.size := Nat.lt_of_lt_of_le hg hB3.size
                                  clear c2 hB2 b3 hgr2 hX3 e1 e2
                                  by_cases hn : nm = n
                                  · subst hn
                                    clear hne
                                    go_wp2_with fail
                                    go_quiet (fail)
                                    go_wp2
                                    exact ⟨⟨m + 1, by omega, rfl, hB3.trans (Oct.below_drewN _ _ _)⟩, by simp [intOf]; omega⟩
                                  · obtain ⟨rfl, rfl, rfl⟩ := hne hn
                                    clear hne
                                    have hne2 : L nm ≠ L n := fun e => hn (L_inj e)
                                    have u1 : (nm.toList != n.toList) = true := by rw [toList_L, toList_L]; simpa using hne2
                                    have u2 : decide (nm.toList = n.toList) = false := by rw [toList_L, toList_L]; simpa using hne2
                                    have u3 : (nm.toList == n.toList) = false := by rw [toList_L, toList_L]; simpa using hne2
                                    go_wp2_with fail
                                    go_quiet (fail)
                                    go_wp2
                                    exact ⟨⟨m + 1, by omega, rfl, hB3.trans (Oct.below_drewN _ _ _)⟩, by simp [intOf]; omega⟩
                                · go_wp2_with fail
                                  refine (alive10 _).mono ?_
                                  rintro e w2 ⟨rfl, b2⟩
                                  go_wp2
                                  go_ret
                                  exact ⟨rfl, HB1.out _ (hBr.trans (b2.mono hBr.size))⟩
      · go_wp2_with fail
        refine (alive10 _).mono ?_
        rintro e w1 ⟨rfl, b1⟩
        go_wp2
        go_ret
        exact ⟨rfl, hB.trans (b1.mono hB.size)⟩
  obtain ⟨i0, hi0, hz0, hz1, hz2⟩ := info_parts info_step
  go_region_law (first | (refine step_append_steps rfl (.tmp 20) rfl _ st rfl (HS.out.below (by first | exact (Below.refl _ _).alloc (Nat.le_refl _) _ | exact ((Below.refl _ _).alloc (Nat.le_refl _) _).drew | exact ((Below.refl _ _).alloc (Nat.le_refl _) _).trans (Oct.below_drewN _ _ _))) (by have := HL.out; omega) ?_; intro vo wo howno bo; have hX : SBox wo w.heap.size 62 #[.int .i64 d, .string n, .int .u32 i] := SBox.below (by first | exact SBox.new _ _ _ | exact SBox.drew (SBox.new _ _ _) | exact SBox.alloc (SBox.new _ _ _) _ | exact SBox.alloc (SBox.drew (SBox.new _ _ _)) _) (by simp) bo; have X0 := hX.cell 0; have X1 := hX.cell 1; have X2 := hX.cell 2; simp only [List.getElem?_toArray, List.getElem?_cons_zero, List.getElem?_cons_succ] at X0 X1 X2) | (refine step_append_lies _ rfl (.tmp 21) (.tmp 23) 59 rfl _ 62 i0 (.agg #[.int .i64 0, .string ⟨#[]⟩, .int .u32 0]) 3 32 Try.underlying59 hi0 hz0 hz1 hz2 rfl (by decide) _ st.length (cellsS st) rfl (howno.alloc _) ⟨wo.heap.size, 0, none⟩ 1 1 [.int .i64 d, .string n, .int .u32 i] rfl rfl ?q1 ?q2 (by decide) ?q3 ?q4 ?q5 _ rfl ?_; (case q1 => exact World.news_of_block (SBox.new wo 62 #[.int .i64 d, .string n, .int .u32 i])); (case q2 => (intro u hu; simp at hu; rcases hu with rfl | rfl | rfl <;> rfl)); (case q3 => (have := HL.out; unfold maxLen; omega)); (case q4 => (have := HL.out; omega)); (case q5 => (have := bo.size; simp at this ⊢; omega)); intro g cap w1 hown1 hgrow hat hlt) | (refine step_append_lies _ rfl (.tmp 21) (.tmp 23) 59 rfl _ 62 i0 (.agg #[.int .i64 0, .string ⟨#[]⟩, .int .u32 0]) 3 32 Try.underlying59 hi0 hz0 hz1 hz2 rfl (by decide) _ st.length (cellsS st) rfl howno ⟨w.heap.size + 1, 0, none⟩ 1 1 [.int .i64 d, .string n, .int .u32 i] rfl rfl ?q1 ?q2 (by decide) ?q3 ?q4 ?q5 _ rfl ?_; (case q1 => exact World.news_of_block hY); (case q2 => (intro u hu; simp at hu; rcases hu with rfl | rfl | rfl <;> rfl)); (case q3 => (have := HL.out; unfold maxLen; omega)); (case q4 => (have := HL.out; omega)); (case q5 => (have := bo.size; simp at this ⊢; omega)); intro g cap w1 hown1 hgrow hat hlt) | (go_simp; refine (LG.out w1 g cap (steps_at (n := st.length + 1) (st := st ++ [⟨d, n, i⟩]) (by simp) (by rw [cellsS_snoc]; exact hown1))).mono ?_; rintro e w2 ⟨rfl, rfl⟩) | (refine step_append_steps rfl (.tmp 20) rfl _ st rfl ?qS (by have := HL.out; omega) ?_; (case qS => (first | exact HS.out.below ((((Below.refl _ _).alloc (Nat.le_refl _) _).drew).alloc (by simp) _) | exact HS.out.below ((((Below.refl _ _).alloc (Nat.le_refl _) _).alloc (by simp) _).drew) | exact HS.out.below (((((Below.refl _ _).alloc (Nat.le_refl _) _).drew).alloc (by simp) _).drew))); intro vo wo howno bo; have hX : SBox wo w.heap.size 62 #[.int .i64 d, .string n, .int .u32 i] := SBox.below (by first | exact SBox.new _ _ _ | exact SBox.drew (SBox.new _ _ _) | exact SBox.alloc (SBox.new _ _ _) _ | exact SBox.alloc (SBox.drew (SBox.new _ _ _)) _) (by simp; omega) bo; have X0 := hX.cell 0; have X1 := hX.cell 1; have X2 := hX.cell 2; simp only [List.getElem?_toArray, List.getElem?_cons_zero, List.getElem?_cons_succ] at X0 X1 X2; have hY : SBox wo (w.heap.size + 1) 62 #[.int .i64 d, .string n, .int .u32 i] := SBox.below (by have e := SBox.new ((w.alloc (.cells #[.int .i64 d, .string n, .int .u32 i] 62)).drew) 62 #[.int .i64 d, .string n, .int .u32 i]; rw [show ((w.alloc (.cells #[.int .i64 d, .string n, .int .u32 i] 62)).drew).heap.size = w.heap.size + 1 by simp] at e; exact e) (by simp) bo))
  all_goals (go_wp2_with fail; go_meet)
  all_goals (have hb0 : Below w.heap.size w wo := (by first | exact (((Below.refl _ w).alloc (Nat.le_refl _) _).drew).trans (bo.mono (by simp)) | exact (((Below.refl _ w).alloc (Nat.le_refl _) _).alloc (by simp) _).drew.trans (bo.mono (by simp; omega))))
  all_goals (have hne : some w.heap.size ≠ vo.ownBlock := fun e => by (have h9 := (howno.lt _ e.symm).1; simp at h9; omega))
  all_goals (have hge : ∀ k, vo.ownBlock = some k → w.heap.size ≤ k := fun k e => by (have h9 := (howno.lt _ e).1; simp at h9; omega))
  all_goals refine ⟨rfl, rfl, ?_, ?_⟩
  all_goals first | exact SBox.kept (hX.alloc _) hgrow hne | exact SBox.kept hX hgrow hne | exact Below.grown (hb0.alloc hb0.size _) hgrow (by have := hb0.size; simp; omega) hge | exact Below.grown hb0 hgrow hb0.size hge
end Go.Proofs.Ytfdclifdemajfaa.Dir
