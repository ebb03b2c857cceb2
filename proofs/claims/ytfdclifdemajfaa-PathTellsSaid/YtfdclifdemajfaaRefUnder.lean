/- The reference's Under of layer 17. -/
import Derived.Test.YtfdclifdemajfaaRefSplit
namespace Go.Proofs.Ytfdclifdemajfaa.Path
open Go.RowKit
open Oct
set_option linter.unusedVariables false

theorem under_names {a b : List UInt8} (ha : splitE a = 0) (hb : splitE b = 0) : (underB a b = true ↔ splitN a <+: splitN b) := by
  rw [under_iff]
  unfold splitN
  rw [if_pos ha, if_pos hb]
  exact ⟨fun h => h.2.2, fun h => ⟨splitE_ok ha, splitE_ok hb, h⟩⟩
theorem under_bad {a b : List UInt8} (h : splitE a ≠ 0 ∨ splitE b ≠ 0) : underB a b = false := by
  cases hu : underB a b with
  | false => rfl
  | true =>
    obtain ⟨h1, h2, _⟩ := (under_iff a b).1 hu
    rcases h with h | h
    · exact absurd (ok_splitE h1) h
    · exact absurd (ok_splitE h2) h
theorem few_names {l : List UInt8} (h : splitE l = 0) : (splitN l).length ≤ 8 := by
  unfold splitN
  rw [if_pos h]
  exact (splitE_ok h).few

set_option maxRecDepth 100000 in
set_option maxHeartbeats 2000000 in
theorem ru_any (a b : ByteArray) (w : World) (ha : a.size ≤ maxLen) (hb : b.size ≤ maxLen) :
    Calls Try.prog 44 #[.string a, .string b] w fun e w' => e = .returned (.bool (underB (L a) (L b))) ∧ Below w.heap.size w w' := by
  have SA := Lib.hid (fun W => rs_any a W ha)
  have SB := Lib.hid (fun W => rs_any b W hb)
  clear ha hb
  obtain ⟨u, hu⟩ : ∃ u, u = underB (L a) (L b) := ⟨_, rfl⟩
  rw [← hu]
  have HU := Lib.hid hu
  clear hu
  go_enter Try.func44, Try.ntmps44
  go_wp2_with fail
  refine (SA.out _).mono ?_
  rintro e w1 ⟨v1, rfl, s1, b1⟩
  have S1 := Lib.hid s1
  clear s1
  go_wp2_with fail
  refine (SB.out _).mono ?_
  rintro e w2 ⟨v2, rfl, s2, b2⟩
  have T1 := Lib.hid (S1.out.below b2)
  have T2 := Lib.hid s2
  have bX := b1.trans (b2.mono b1.size)
  clear s2 b1 b2 S1
  by_cases he : splitE (L a) = 0
  · by_cases hf : splitE (L b) = 0
    · have HI := Lib.hid (under_names he hf)
      have l1 := few_names he
      have l2 := few_names hf
      rw [he, hf]
      clear he hf
      obtain ⟨P, hP⟩ : ∃ P, P = (splitN (L a)).map B := ⟨_, rfl⟩
      obtain ⟨Q, hQ⟩ : ∃ Q, Q = (splitN (L b)).map B := ⟨_, rfl⟩
      have HPQ : Hid (u = true ↔ P <+: Q) := Lib.hid (by
        rw [HU.out, HI.out, hP, hQ]
        constructor
        · rintro ⟨t, ht⟩
          exact ⟨t.map B, by rw [← ht, List.map_append]⟩
        · rintro ⟨t, ht⟩
          have := congrArg (List.map L) ht
          rw [List.map_append, List.map_map, List.map_map] at this
          exact ⟨t.map L, by simpa [Function.comp_def, L_B] using this⟩)
      have n1 : P.length ≤ 8 := by rw [hP, List.length_map]; exact l1
      have n2 : Q.length ≤ 8 := by rw [hQ, List.length_map]; exact l2
      rw [← hP] at T1
      rw [← hQ] at T2
      clear hP hQ l1 l2 HI
      by_cases hle : P.length ≤ Q.length
      · have d1 : decide ((Q.length : Int) < (P.length : Int)) = false := decide_eq_false (by omega)
        have d1' : decide (Q.length < P.length) = false := decide_eq_false (by omega)
        by_cases hp0 : P = []
        · subst hp0
          have HT : Hid (u = true) := Lib.hid (HPQ.out.2 List.nil_prefix)
          obtain ⟨ao, c1, rfl⟩ := strs_form T1.out
          obtain ⟨bo, cap, rfl⟩ := strs_form T2.out
          have d2 : decide ((Q.length : Int) < 0) = false := decide_eq_false (by omega)
          go_wp2
          go_loop [9] (fun i => i = .int .i64 0) (fun _ => 0)
          case atStart => rfl
          case round =>
            obtain rfl := hrel
            go_wp2
            go_ret
            exact ⟨by rw [HT.out]; rfl, bX⟩
        · have hpl : 0 < P.length := List.length_pos_iff.2 hp0
          rcases strs_cases T1.out with ⟨_, _, _, e0⟩ | ⟨x, ox, cx, rfl, _, _, hx⟩
          · exact absurd e0 hp0
          rcases strs_cases T2.out with ⟨_, _, _, e0⟩ | ⟨y, oy, cy, rfl, _, _, hy⟩
          · rw [e0] at hle; simp at hle; exact absurd hle hp0
          have HX := Lib.hid hx
          have HY := Lib.hid hy
          clear hx hy hp0 T1 T2
          go_wp2
          go_loopw [9] (fun i wr => ∃ k m : Nat, k ≤ P.length ∧ i = .int .i64 k ∧ wr = w2.drewN m ∧ Hid (P.take k = Q.take k)) (fun i _ => P.length - (intOf i).toNat)
          case atStart => exact ⟨0, 0, Nat.zero_le _, rfl, rfl, Lib.hid rfl⟩
          case round =>
            obtain ⟨k, m, hk, rfl, rfl, HT⟩ := hrel
            by_cases hlt : k < P.length
            · have k2 : k < Q.length := by omega
              have c1 := HX.out k hlt
              have c2 := HY.out k k2
              have q0 : (0 : Int) ≤ (k : Int) := by omega
              have q1 : (k : Int) < (P.length : Int) := by omega
              have q1' : (k : Int) < (Q.length : Int) := by omega
              by_cases he : P[k] = Q[k]
              · have HT2 : Hid (P.take (k + 1) = Q.take (k + 1)) := Lib.hid (by rw [List.take_succ_eq_append_getElem hlt, List.take_succ_eq_append_getElem k2, HT.out, he])
                rw [he] at c1
                clear he
                generalize Q[k] = p at *
                have q2 : (p.toList == p.toList) = true := by simp
                go_wp2
                go_quiet (fail)
                go_wp2
                exact ⟨⟨k + 1, m + nq, by omega, by go_num, rfl, HT2⟩, by simp [intOf]; omega⟩
              · have HF : Hid (u = false) := Lib.hid (by
                  cases hu : u with
                  | false => rfl
                  | true =>
                    obtain ⟨t, ht⟩ := HPQ.out.1 hu
                    exact absurd (by simp only [← ht]; rw [List.getElem_append_left hlt]) he)
                have q2 : (P[k].toList == Q[k].toList) = false := by
                  rw [toList_L, toList_L]
                  simp only [beq_eq_false_iff_ne, ne_eq]
                  exact fun e => he (L_inj e)
                clear he
                generalize P[k] = p at *
                generalize Q[k] = q at *
                go_wp2
                go_quiet (fail)
                go_wp2
                go_ret
                exact ⟨by rw [HF.out]; rfl, bX.trans (((Oct.below_drewN _ m _).trans (Oct.below_drewN _ _ _)).mono bX.size)⟩
            · have HF : Hid (u = true) := Lib.hid (HPQ.out.2 (by
                have := HT.out
                rw [List.take_of_length_le (by omega)] at this
                rw [this]; exact List.take_prefix _ _))
              go_wp2
              go_ret
              exact ⟨by rw [HF.out]; rfl, bX.trans ((Oct.below_drewN _ _ _).mono bX.size)⟩
      · have HF : Hid (u = false) := Lib.hid (by
          cases hu : u with
          | false => rfl
          | true => exact absurd ((HPQ.out.1 hu).length_le) hle)
        have d1 : decide ((Q.length : Int) < (P.length : Int)) = true := decide_eq_true (by omega)
        obtain ⟨ao, c1, rfl⟩ := strs_form T1.out
        obtain ⟨bo, c2, rfl⟩ := strs_form T2.out
        go_wp2
        go_ret
        exact ⟨by rw [HF.out]; rfl, bX⟩
    · have HF : Hid (u = false) := Lib.hid (by rw [HU.out]; exact under_bad (.inr hf))
      have tf : (splitE (L b) != 0) = true := by simpa using hf
      rw [he]
      clear he hf
      go_wp2
      go_ret
      exact ⟨by rw [HF.out]; rfl, bX⟩
  · have HF : Hid (u = false) := Lib.hid (by rw [HU.out]; exact under_bad (.inl he))
    have te : (splitE (L a) != 0) = true := by simpa using he
    clear he
    go_wp2
    go_ret
    exact ⟨by rw [HF.out]; rfl, bX⟩
end Go.Proofs.Ytfdclifdemajfaa.Path
