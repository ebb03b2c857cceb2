/- The reference's Split of layer 17. -/
import Derived.Test.YtfdclifdemajfaaDoorRefJoin
namespace Go.Proofs.YtfdclifdemajfaaDoor.Path
open Go.RowKit
open Oct
set_option linter.unusedVariables false

theorem L_extract (s : ByteArray) (a b : Nat) : L (s.extract a b) = ((L s).drop a).take (b - a) := by
  show (s.extract a b).data.toList = _
  simp [ByteArray.data_extract, L]
theorem drop_at (s : ByteArray) (k : Nat) (h : k < s.size) : (L s).drop k = s[k] :: (L s).drop (k + 1) := by
  have h2 : k < (L s).length := by rw [len_L]; exact h
  exact List.drop_eq_getElem_cons h2
theorem drop_cut (s : ByteArray) (f k : Nat) (h : f ≤ k) : (L s).drop f = L (s.extract f k) ++ (L s).drop k := by
  rw [L_extract]
  have := List.take_append_drop (k - f) ((L s).drop f)
  rw [List.drop_drop, show f + (k - f) = k by omega] at this
  exact this.symm

/-- How far the reference's Split has come: byte k, this field's first byte f, the fields behind it. -/
structure Mid (s : ByteArray) (k f : Nat) (ps : List ByteArray) : Prop where
  le : f ≤ k
  one : 1 ≤ k
  top : k ≤ s.size
  no : noSlash (L (s.extract f k))
  are : ps.map L ++ fields ((L s).drop f) = namesL (L s)
theorem mid_start {s : ByteArray} {r : List UInt8} (h : L s = 47 :: r) (hr : r ≠ []) : Mid s 1 1 [] := by
  have hl := len_L s
  rw [h] at hl
  simp at hl
  refine ⟨Nat.le_refl _, Nat.le_refl _, by omega, ?_, ?_⟩
  · intro c hc; rw [L_extract] at hc; simp at hc
  · unfold namesL
    rw [h, if_neg (by simpa using hr)]
    rfl
theorem mid_next {s : ByteArray} {k f : Nat} {ps : List ByteArray} (h : Mid s k f ps) (hk : k < s.size) (hc : s[k] ≠ 47) : Mid s (k + 1) f ps := by
  refine ⟨by have := h.le; omega, by omega, by omega, ?_, h.are⟩
  have e : L (s.extract f (k + 1)) = L (s.extract f k) ++ [s[k]] := by
    have e1 := drop_cut s f k h.le
    have e2 := drop_cut s f (k + 1) (by have := h.le; omega)
    rw [e1, drop_at s k hk] at e2
    have e3 : (L (s.extract f k) ++ [s[k]]) ++ (L s).drop (k + 1) = L (s.extract f (k + 1)) ++ (L s).drop (k + 1) := by rw [← e2]; simp
    exact (List.append_cancel_right e3).symm
  intro c hm
  rw [e] at hm
  rcases List.mem_append.1 hm with hm | hm
  · exact h.no c hm
  · simp at hm; rw [hm]; exact hc
theorem mid_cut {s : ByteArray} {k f : Nat} {ps : List ByteArray} (h : Mid s k f ps) (hk : k < s.size) (hc : s[k] = 47) : Mid s (k + 1) (k + 1) (ps ++ [s.extract f k]) := by
  refine ⟨Nat.le_refl _, by omega, by omega, ?_, ?_⟩
  · intro c hc; rw [L_extract] at hc; simp at hc
  · have e := h.are
    rw [drop_cut s f k h.le, drop_at s k hk, hc, fields_app _ _ h.no] at e
    rw [← e]
    simp
theorem mid_last {s : ByteArray} {f : Nat} {ps : List ByteArray} (h : Mid s s.size f ps) : (ps ++ [s.extract f s.size]).map L = namesL (L s) := by
  have e := h.are
  rw [drop_cut s f s.size h.le, List.drop_of_length_le (by rw [len_L]; exact Nat.le_refl _), List.append_nil, fields_no _ h.no] at e
  rw [← e]
  simp
theorem mid_len {s : ByteArray} {k f : Nat} {ps : List ByteArray} (h : Mid s k f ps) : ps.length ≤ s.size + 1 := by
  have e := congrArg List.length h.are
  have h2 : (namesL (L s)).length ≤ s.size + 1 := by
    unfold namesL
    split
    · simp
    · have := fields_len ((L s).drop 1)
      rw [List.length_drop, len_L] at this
      omega
  simp at e
  omega

theorem split_none {l : List UInt8} {w : World} {x : Int} (he : splitE l = x) (hx : x ≠ 0) {w' : World} (hb : Below w.heap.size w w') : SplitRes l w (.returned (.tuple #[.slice none 0 0, .int .i64 x])) w' :=
  ⟨_, by rw [he], .inl ⟨rfl, by unfold splitN; rw [if_neg (by rw [he]; exact hx)]; rfl⟩, hb⟩

set_option maxRecDepth 100000 in
set_option maxHeartbeats 400000 in
theorem rs_long (s : ByteArray) (w : World) (hs : s.size ≤ maxLen) (h : 255 < s.size) :
    Calls Tryd.prog 25 #[.string s] w (SplitRes (L s) w) := by
  unfold maxLen at hs
  have d : decide (255 < (s.size : Int)) = true := decide_eq_true (by omega)
  have HE : Hid (splitE (L s) = 5) := Lib.hid (by unfold splitE; rw [if_pos (by rw [len_L]; omega)])
  go_enter Tryd.func25, Tryd.ntmps25
  go_wp2
  go_ret2
  exact split_none HE.out (by decide) (Below.refl _ _)

set_option maxRecDepth 100000 in
set_option maxHeartbeats 400000 in
theorem rs_form (s : ByteArray) (w : World) (h : s.size ≤ 255) (hh : headSlash (L s) = false) :
    Calls Tryd.prog 25 #[.string s] w (SplitRes (L s) w) := by
  have d : decide (255 < (s.size : Int)) = false := decide_eq_false (by omega)
  have d' : decide (255 < s.size) = false := decide_eq_false (by omega)
  have HE : Hid (splitE (L s) = 7) := Lib.hid (by unfold splitE; rw [if_neg (by rw [len_L]; omega), if_pos hh])
  by_cases h0 : s.size = 0
  · have e := is_empty h0
    subst e
    clear hh
    go_enter Tryd.func25, Tryd.ntmps25
    go_wp2
    go_ret2
    exact split_none HE.out (by decide) (Below.refl _ _)
  · have hlt : 0 < s.size := by omega
    have hc : s[0] ≠ 47 := fun e => by
      have := drop_at s 0 hlt
      rw [List.drop_zero] at this
      rw [this, e] at hh
      simp [headSlash] at hh
    have q1 : ((s[0].toNat : Int) == 47) = false := by
      simp only [beq_eq_false_iff_ne, ne_eq]
      exact fun e => hc (UInt8.toNat_inj.1 (by simpa using Int.ofNat.inj e))
    have q2 : ((s[0].toNat : Int) != 47) = true := by simp only [bne, q1]; rfl
    have z0 : ((s.size : Int) == 0) = false := by simp only [beq_eq_false_iff_ne, ne_eq]; omega
    clear hh hc
    go_enter Tryd.func25, Tryd.ntmps25
    go_wp2
    go_ret2
    exact split_none HE.out (by decide) (Below.refl _ _)

set_option maxRecDepth 100000 in
set_option maxHeartbeats 400000 in
theorem rs_root (w : World) : Calls Tryd.prog 25 #[.string ⟨#[47]⟩] w (SplitRes (L ⟨#[47]⟩) w) := by
  go_enter Tryd.func25, Tryd.ntmps25
  go_wp2
  go_loop [4, 5, 6] (fun l f i => l = .slice none 0 0 ∧ f = .int .i64 1 ∧ i = .int .i64 1) (fun _ _ _ => 0)
  case atStart => exact ⟨rfl, rfl, rfl⟩
  case round =>
    obtain ⟨rfl, rfl, rfl⟩ := hrel
    go_wp2
    go_loop [7] (fun i => i = .int .i64 0) (fun _ => 0)
    case atStart => rfl
    case round =>
      obtain rfl := hrel
      go_wp2
      go_ret2
      exact ⟨_, rfl, .inl ⟨rfl, rfl⟩, Below.refl _ _⟩

theorem names_of_map {s : ByteArray} {ps : List ByteArray} (h : ps.map L = namesL (L s)) : ps = (namesL (L s)).map B := by
  rw [← h, List.map_map]; exact (List.map_id _).symm

set_option maxRecDepth 100000 in
set_option maxHeartbeats 2000000 in
theorem rs_main (s : ByteArray) (r : List UInt8) (w : World) (h : s.size ≤ 255) (HL : Hid (L s = 47 :: r)) (hr : Hid (r ≠ [])) :
    Calls Tryd.prog 25 #[.string s] w (SplitRes (L s) w) := by
  obtain ⟨i0, hi, hz0, hz1, hz2⟩ := info_parts info_str
  have d : decide (255 < (s.size : Int)) = false := decide_eq_false (by omega)
  have d' : decide (255 < s.size) = false := decide_eq_false (by omega)
  have hlt0 : 0 < s.size := by rw [← len_L, HL.out]; simp
  have hc : s[0] = 47 := by
    have := drop_at s 0 hlt0
    rw [List.drop_zero, HL.out] at this
    exact (List.cons.inj this).1.symm
  have q1 : ((s[0].toNat : Int) == 47) = true := by rw [hc]; rfl
  have q2 : ((s[0].toNat : Int) != 47) = false := by simp only [bne, q1]; rfl
  have z0 : ((s.size : Int) == 0) = false := by simp only [beq_eq_false_iff_ne, ne_eq]; omega
  have r0 : (s.toList == [47]) = false := by
    rw [toList_L, HL.out]
    simpa using hr.out
  have r1 : (s.toList != [47]) = true := by simp only [bne, r0]; rfl
  have HM := Lib.hid (mid_start HL.out hr.out)
  clear hc
  go_enter Tryd.func25, Tryd.ntmps25
  go_wp2
  clear q1 q2 z0 d d'
  go_loopw [4, 5, 6] (fun v f i wr => ∃ (k fr : Nat) (ps : List ByteArray), wr.ownsRow w.heap.size 9 1 v ps.length (ps.map Value.string) ∧ f = .int .i64 fr ∧ i = .int .i64 k ∧ Below w.heap.size w wr ∧ ps.length ≤ 257 ∧ ((k ≤ s.size ∧ fr ≤ k ∧ Hid (Mid s k fr ps)) ∨ (k = s.size + 1 ∧ Hid (ps.map L = namesL (L s))))) (fun _ _ i _ => s.size + 1 - (intOf i).toNat)
  case atStart => exact ⟨1, 1, [], World.ownsRow_nil _ _ _ _, rfl, rfl, Below.refl _ _, by simp, .inl ⟨hlt0, Nat.le_refl _, HM⟩⟩
  case round =>
    obtain ⟨k, fr, ps, hown, rfl, rfl, hB, hl, hst⟩ := hrel
    rcases hst with ⟨hk, hf, HS⟩ | ⟨hk1, HN⟩
    · have t1 : decide ((k : Int) ≤ (s.size : Int)) = true := decide_eq_true (by omega)
      have p1 : (0 : Int) ≤ (fr : Int) := by omega
      have p2 : (fr : Int) ≤ (k : Int) := by omega
      have p3 : (k : Int) ≤ (s.size : Int) := by omega
      have hml := mid_len HS.out
      by_cases hks : k = s.size
      · subst hks
        have HE := Lib.hid (mid_last HS.out)
        have t2 : ((s.size : Int) == (s.size : Int)) = true := by simp
        go_wp2_with (at_builtin; refine wpList_append_lies _ rfl (.tmp 39) (.tmp 44) 50 rfl w.heap.size 9 i0 (.string ⟨#[]⟩) 1 16 Tryd.underlying50 hi hz0 hz1 hz2 rfl (by decide) _ ps.length (ps.map Value.string) rfl (hown.alloc _) ⟨wr.heap.size, 0, none⟩ 1 1 [.string (s.extract fr s.size)] rfl rfl (cell_one_new _ _ _) (by simp [Value.oneCell']) (by decide) (by unfold maxLen; omega) (by omega) (by have := hB.size; simp; omega) _ rfl ?_; intro g cap w1 hown1 hgrow hat hlx)
        have hB1 : Below w.heap.size w w1 := Below.grown (hB.alloc hB.size (.cells #[.string (s.extract fr s.size)] 9)) hgrow (by have := hB.size; simp; omega) (fun k e => (hown.lt k e).1)
        go_roundw
        case rel => first | exact ⟨s.size + 1, s.size + 1, _, own_snoc hown1, by go_num, by go_num, hB1, by simp; omega, .inr ⟨rfl, HE⟩⟩ | ((repeat apply Exists.intro); exact ⟨⟨s.size + 1, s.size + 1, _, own_snoc hown1, by go_num, by go_num, hB1, by simp; omega, .inr ⟨rfl, HE⟩⟩, rfl⟩)
        case measure => simp [intOf] <;> omega
      · have hlt : k < s.size := by omega
        have t2 : ((k : Int) == (s.size : Int)) = false := by simp only [beq_eq_false_iff_ne, ne_eq]; omega
        by_cases hc : s[k] = 47
        · have HE := Lib.hid (mid_cut HS.out hlt hc)
          have q1 : ((s[k].toNat : Int) == 47) = true := by rw [hc]; rfl
          clear hc
          go_wp2_with (at_builtin; refine wpList_append_lies _ rfl (.tmp 39) (.tmp 44) 50 rfl w.heap.size 9 i0 (.string ⟨#[]⟩) 1 16 Tryd.underlying50 hi hz0 hz1 hz2 rfl (by decide) _ ps.length (ps.map Value.string) rfl (hown.alloc _) ⟨wr.heap.size, 0, none⟩ 1 1 [.string (s.extract fr k)] rfl rfl (cell_one_new _ _ _) (by simp [Value.oneCell']) (by decide) (by unfold maxLen; omega) (by omega) (by have := hB.size; simp; omega) _ rfl ?_; intro g cap w1 hown1 hgrow hat hlx)
          have hB1 : Below w.heap.size w w1 := Below.grown (hB.alloc hB.size (.cells #[.string (s.extract fr k)] 9)) hgrow (by have := hB.size; simp; omega) (fun k e => (hown.lt k e).1)
          go_roundw
          case rel => first | exact ⟨k + 1, k + 1, _, own_snoc hown1, by go_num, by go_num, hB1, by simp; omega, .inl ⟨hlt, Nat.le_refl _, HE⟩⟩ | ((repeat apply Exists.intro); exact ⟨⟨k + 1, k + 1, _, own_snoc hown1, by go_num, by go_num, hB1, by simp; omega, .inl ⟨hlt, Nat.le_refl _, HE⟩⟩, rfl⟩)
          case measure => simp [intOf] <;> omega
        · have HE := Lib.hid (mid_next HS.out hlt hc)
          have q1 : ((s[k].toNat : Int) == 47) = false := by
            simp only [beq_eq_false_iff_ne, ne_eq]
            exact fun e => hc (UInt8.toNat_inj.1 (by simpa using Int.ofNat.inj e))
          clear hc
          go_wp2
          go_roundw
          case rel => exact ⟨k + 1, fr, ps, hown, rfl, by go_num, hB, hl, .inl ⟨hlt, by omega, HE⟩⟩
          case measure => simp [intOf] <;> omega
    · have t1 : decide ((k : Int) ≤ (s.size : Int)) = false := decide_eq_false (by omega)
      have t1' : decide (k ≤ s.size) = false := decide_eq_false (by omega)
      clear hk1
      have HP := Lib.hid (names_of_map HN.out)
      have HST := Lib.hid (strs_own hown (by omega))
      obtain ⟨u, hu⟩ : ∃ u, u = splitE (L s) := ⟨_, rfl⟩
      have HU := Lib.hid hu
      clear hu
      rcases strs_cases HST.out with ⟨ao, c, rfl, e0⟩ | ⟨g, og, cg, rfl, hlg, hgb, hgx⟩
      · have HZ : Hid (splitE (L s) = 0 ∧ splitN (L s) = []) := Lib.hid (by
          have n0 : namesL (L s) = [] := by rw [← HN.out, e0]; rfl
          have z : splitE (L s) = 0 := ok_splitE ⟨by rw [len_L]; exact h, ⟨r, HL.out⟩, by rw [n0]; simp, by rw [n0]; simp⟩
          exact ⟨z, by unfold splitN; rw [if_pos z, n0]⟩)
        have HE0 := Lib.hid e0
        clear e0
        go_wp2
        go_loop [7] (fun i => i = .int .i64 0) (fun _ => 0)
        case atStart => rfl
        case round =>
          obtain rfl := hrel
          go_wp2
          go_ret2
          exact ⟨_, by rw [HZ.out.1]; rfl, by rw [HZ.out.2]; have hs1 := HST.out; rw [HE0.out] at hs1; exact hs1, hB⟩
      · have HGX := Lib.hid hgx
        clear hgx
        go_wp2
        go_loop [7] (fun i => ∃ j : Nat, j ≤ ps.length ∧ i = .int .i64 j ∧ Hid (AllNames ((ps.take j).map L))) (fun i => ps.length - (intOf i).toNat)
        case atStart => exact ⟨0, Nat.zero_le _, rfl, Lib.hid (fun x hx => by simp at hx)⟩
        case round =>
          obtain ⟨j, hj, rfl, HA⟩ := hrel
          by_cases hlt : j < ps.length
          · have c1 := HGX.out j hlt
            have hmem : L ps[j] ∈ namesL (L s) := by rw [← HN.out]; exact List.mem_map_of_mem (List.getElem_mem hlt)
            have hsz := names_each _ _ hmem
            rw [len_L, len_L] at hsz
            have RN := Lib.hid (rname_any ps[j] wr (by unfold maxLen; omega))
            cases hb : isName (L ps[j]) with
            | false =>
              have HE := Lib.hid (splitE_bad (by rw [len_L]; exact h) HL.out hmem hb)
              rw [hb] at RN
              clear hb hmem
              generalize ps[j] = p at *
              go_wp2_with fail
              refine RN.out.mono ?_
              rintro e w' ⟨rfl, rfl⟩
              go_wp2
              go_ret2
              exact split_none HE.out (by decide) hB
            | true =>
              have HB : Hid (AllNames ((ps.take (j + 1)).map L)) := Lib.hid (by
                intro x hx
                rw [List.take_succ_eq_append_getElem hlt, List.map_append] at hx
                rcases List.mem_append.1 hx with hx | hx
                · exact HA.out x hx
                · simp at hx; rw [hx]; exact hb)
              rw [hb] at RN
              clear hb hmem
              generalize ps[j] = p at *
              go_wp2_with fail
              refine RN.out.mono ?_
              rintro e w' ⟨rfl, rfl⟩
              go_wp2
              go_round
              case rel => exact ⟨j + 1, by omega, by go_num, HB⟩
              case measure => simp [intOf] <;> omega
          · have ek : ps.take j = ps := List.take_of_length_le (by omega)
            rw [ek, HN.out] at HA
            clear ek
            have hnl : (namesL (L s)).length = ps.length := by rw [← HN.out, List.length_map]
            by_cases h8 : 8 < ps.length
            · have HE := Lib.hid (splitE_many (by rw [len_L]; exact h) HL.out HA.out (by omega))
              have d1 : decide (8 < (ps.length : Int)) = true := decide_eq_true (by omega)
              clear hnl
              go_wp2
              go_ret2
              exact split_none HE.out (by decide) hB
            · have HE : Hid (splitE (L s) = 0) := Lib.hid (ok_splitE ⟨by rw [len_L]; exact h, ⟨r, HL.out⟩, HA.out, by omega⟩)
              have HN2 : Hid ((splitN (L s)).map B = ps) := Lib.hid (by unfold splitN; rw [if_pos HE.out]; exact HP.out.symm)
              have d1 : decide (8 < (ps.length : Int)) = false := decide_eq_false (by omega)
              have d1' : decide (8 < ps.length) = false := decide_eq_false (by omega)
              clear hnl
              go_wp2
              go_ret2
              exact ⟨_, by rw [HE.out]; rfl, by rw [HN2.out]; exact HST.out, hB⟩

/-- The reference's Split, whatever the text. -/
theorem rs_any (s : ByteArray) (w : World) (hs : s.size ≤ maxLen) : Calls Tryd.prog 25 #[.string s] w (SplitRes (L s) w) := by
  by_cases h : 255 < s.size
  · exact rs_long s w hs h
  · cases hh : headSlash (L s) with
    | false => exact rs_form s w (by omega) hh
    | true =>
      cases hL : L s with
      | nil => rw [hL] at hh; cases hh
      | cons c r =>
        rw [hL] at hh
        have e : c = 47 := by simpa [headSlash] using hh
        subst e
        rw [← hL]
        by_cases hr : r = []
        · subst hr
          have e : s = ⟨#[47]⟩ := L_inj hL
          rw [e]
          exact rs_root w
        · exact rs_main s r w (by omega) (Lib.hid hL) (Lib.hid hr)
end Go.Proofs.YtfdclifdemajfaaDoor.Path
