/- The walks of the reference's Same of layer 17, of the laws' Long, and of their alive. -/
import Derived.Test.YtfdclifdemajfaaPathUnder
import Derived.Test.YtfdclifdemajfaaOctetAlive
namespace Go.Proofs.Ytfdclifdemajfaa.Path
set_option linter.unusedVariables false
open Go.RowKit Oct

set_option maxRecDepth 100000 in
set_option maxHeartbeats 400000 in
theorem same17_len (a b : Option Addr) (m n c d : Nat) (w : World) (hm : m ≤ 8796093022208) (hn : n ≤ 8796093022208) (h : m ≠ n) :
    Calls Try.prog 42 #[.slice a m c, .slice b n d] w fun e w' => e = .returned (.bool false) ∧ Below w.heap.size w w' := by
  have t : ((m : Int) != (n : Int)) = true := by simp; omega
  go_enter Try.func42, Try.ntmps42
  go_wp2
  go_ret
  exact ⟨rfl, Below.refl _ _⟩

set_option maxRecDepth 100000 in
set_option maxHeartbeats 400000 in
theorem same17_nil (a b : Option Addr) (c d : Nat) (w : World) :
    Calls Try.prog 42 #[.slice a 0 c, .slice b 0 d] w fun e w' => e = .returned (.bool true) ∧ Below w.heap.size w w' := by
  go_enter Try.func42, Try.ntmps42
  go_wp2
  go_loop [5] (fun i => i = .int .i64 0) (fun _ => 0)
  case atStart => rfl
  case round =>
    obtain rfl := hrel
    go_wp2
    go_ret
    exact ⟨rfl, Below.refl _ _⟩

set_option maxRecDepth 100000 in
set_option maxHeartbeats 400000 in
theorem same17_row (x y ox oy c d n : Nat) (ps qs : List ByteArray) (hp : ps.length = n) (hq : qs.length = n) (hl : n ≤ 8796093022208) (w : World) (hx : ∀ j (h : j < ps.length), w.cell? ⟨x, ox + j, none⟩ = some (.string ps[j])) (hy : ∀ j (h : j < qs.length), w.cell? ⟨y, oy + j, none⟩ = some (.string qs[j])) :
    Calls Try.prog 42 #[.slice (some ⟨x, ox, none⟩) n c, .slice (some ⟨y, oy, none⟩) n d] w fun e w' => e = .returned (.bool (decide (ps = qs))) ∧ Below w.heap.size w w' := by
  have HX := Lib.hid hx
  have HY := Lib.hid hy
  have HP := Lib.hid hp
  have HQ := Lib.hid hq
  clear hx hy hp hq
  obtain ⟨u, hu⟩ : ∃ u, u = decide (ps = qs) := ⟨_, rfl⟩
  rw [← hu]
  have HU := Lib.hid hu
  clear hu
  go_enter Try.func42, Try.ntmps42
  go_wp2
  go_loopw [5] (fun i wr => ∃ k m : Nat, k ≤ n ∧ i = .int .i64 k ∧ wr = w.drewN m ∧ Hid (ps.take k = qs.take k)) (fun i _ => n - (intOf i).toNat)
  case atStart => exact ⟨0, 0, Nat.zero_le _, rfl, rfl, Lib.hid rfl⟩
  case round =>
    obtain ⟨k, m, hk, rfl, rfl, HT⟩ := hrel
    by_cases hlt : k < n
    · have k1 : k < ps.length := by rw [HP.out]; exact hlt
      have k2 : k < qs.length := by rw [HQ.out]; exact hlt
      have c1 := HX.out k k1
      have c2 := HY.out k k2
      have q0 : (0 : Int) ≤ (k : Int) := by omega
      have q1 : (k : Int) < (n : Int) := by omega
      by_cases he : ps[k] = qs[k]
      · have HT2 : Hid (ps.take (k + 1) = qs.take (k + 1)) := Lib.hid (by rw [List.take_succ_eq_append_getElem k1, List.take_succ_eq_append_getElem k2, HT.out, he])
        rw [he] at c1
        clear he
        generalize qs[k] = p at *
        have q2 : (p.toList == p.toList) = true := by simp
        clear k1 k2
        go_wp2
        go_quiet (fail)
        go_wp2
        exact ⟨⟨k + 1, m + nq, by omega, by go_num, rfl, HT2⟩, by simp [intOf]; omega⟩
      · have HF : Hid (u = false) := Lib.hid (by
          rw [HU.out]
          simp only [decide_eq_false_iff_not]
          intro e
          subst e
          exact he rfl)
        have q2 : (ps[k].toList == qs[k].toList) = false := by
          rw [toList_L, toList_L]
          simp only [beq_eq_false_iff_ne, ne_eq]
          exact fun e => he (L_inj e)
        clear he
        generalize ps[k] = p at *
        generalize qs[k] = q at *
        clear k1 k2
        go_wp2
        go_quiet (fail)
        go_wp2
        go_ret
        exact ⟨by rw [HF.out]; rfl, (Oct.below_drewN _ m _).trans (Oct.below_drewN _ _ _)⟩
    · have HF : Hid (u = true) := Lib.hid (by
        rw [HU.out]
        have := HT.out
        rw [List.take_of_length_le (by rw [HP.out]; omega), List.take_of_length_le (by rw [HQ.out]; omega)] at this
        simpa using this)
      go_wp2
      go_ret
      exact ⟨by rw [HF.out]; rfl, Oct.below_drewN _ _ _⟩

theorem strs_len {w : World} {v : Value} {ps : List ByteArray} (h : Strs w v ps) : ps.length ≤ 8796093022208 := by
  rcases strs_cases h with ⟨_, _, _, rfl⟩ | ⟨_, _, _, _, h, _⟩
  · simp
  · exact h.1

theorem same17_any (va vb : Value) (ps qs : List ByteArray) (w : World) (ha : Strs w va ps) (hb : Strs w vb qs) :
    Calls Try.prog 42 #[va, vb] w fun e w' => e = .returned (.bool (decide (ps = qs))) ∧ Below w.heap.size w w' := by
  have l1 := strs_len ha
  have l2 := strs_len hb
  by_cases hl : ps.length = qs.length
  · rcases strs_cases ha with ⟨_, _, rfl, rfl⟩ | ⟨x, ox, c, rfl, h1, _, hx⟩
    · have e : qs = [] := List.eq_nil_of_length_eq_zero (by rw [← hl]; rfl)
      subst e
      obtain ⟨ao, cap, rfl⟩ := strs_form hb
      exact same17_nil _ _ _ _ w
    · rcases strs_cases hb with ⟨_, _, rfl, rfl⟩ | ⟨y, oy, d, rfl, _, _, hy⟩
      · have e : ps = [] := List.eq_nil_of_length_eq_zero (by rw [hl]; rfl)
        subst e
        exact same17_nil _ _ _ _ w
      · rw [← hl]
        exact same17_row x y ox oy c d ps.length ps qs rfl hl.symm h1.1 w hx hy
  · obtain ⟨ao, cap, rfl⟩ := strs_form ha
    obtain ⟨bo, cap2, rfl⟩ := strs_form hb
    have e : decide (ps = qs) = false := by
      simp only [decide_eq_false_iff_not]
      exact fun e => hl (by rw [e])
    rw [e]
    exact same17_len ao bo _ _ cap cap2 w l1 l2 hl

/-- The bytes of the first hundred. -/
def sumTo (ps : List ByteArray) (k : Nat) : Nat := ((ps.take k).map ByteArray.size).sum
def longB (ps : List ByteArray) : Bool := decide (60 < ps.length) || decide (4096 < sumTo ps 100)
theorem sumTo_succ (ps : List ByteArray) (k : Nat) (h : k < ps.length) : sumTo ps (k + 1) = sumTo ps k + ps[k].size := by
  unfold sumTo
  rw [List.take_succ_eq_append_getElem h, List.map_append, List.sum_append]
  simp
theorem sumTo_le (ps : List ByteArray) (b : Nat) (hb : ∀ p ∈ ps, p.size ≤ b) : ∀ k, sumTo ps k ≤ k * b
  | 0 => by simp [sumTo]
  | k + 1 => by
    have ih := sumTo_le ps b hb k
    by_cases h : k < ps.length
    · rw [sumTo_succ ps k h, Nat.succ_mul]
      have := hb _ (List.getElem_mem h)
      omega
    · have e : sumTo ps (k + 1) = sumTo ps k := by unfold sumTo; rw [List.take_of_length_le (by omega), List.take_of_length_le (by omega)]
      rw [e, Nat.succ_mul]
      omega
theorem sumTo_over (ps : List ByteArray) (k : Nat) (h : ps.length ≤ k) : sumTo ps k = sumTo ps ps.length := by
  unfold sumTo; rw [List.take_of_length_le h, List.take_of_length_le (Nat.le_refl _)]
theorem sum_mem : ∀ (l : List ByteArray) (p : ByteArray), p ∈ l → p.size ≤ (l.map ByteArray.size).sum
  | a :: l, p, h => by
    rcases List.mem_cons.1 h with e | e
    · subst e; simp
    · have := sum_mem l p e; simp; omega
theorem long_facts {ps : List ByteArray} (h : longB ps = false) : ps.length ≤ 60 ∧ ∀ p ∈ ps, p.size ≤ 4096 := by
  unfold longB at h
  simp only [Bool.or_eq_false_iff, decide_eq_false_iff_not] at h
  refine ⟨by omega, fun p hp => ?_⟩
  have h1 := sum_mem ps p hp
  have h2 : sumTo ps 100 = (ps.map ByteArray.size).sum := by
    unfold sumTo
    rw [List.take_of_length_le (by omega)]
  omega

set_option maxRecDepth 100000 in
set_option maxHeartbeats 400000 in
theorem long_nil (a : Option Addr) (c : Nat) (w : World) : Calls Try.prog 35 #[.slice a 0 c] w fun e w' => e = .returned (.bool false) ∧ w = w' := by
  go_enter Try.func35, Try.ntmps35
  go_wp2
  go_loop [3, 4] (fun n i => n = .int .i64 0 ∧ i = .int .i64 0) (fun _ _ => 0)
  case atStart => exact ⟨rfl, rfl⟩
  case round =>
    obtain ⟨rfl, rfl⟩ := hrel
    go_wp2
    go_ret
    exact ⟨rfl, rfl⟩

set_option maxRecDepth 100000 in
set_option maxHeartbeats 1000000 in
theorem long_row (b off cap : Nat) (ps : List ByteArray) (w : World) (hl : ps.length ≤ 1099511627776000) (hz : ∀ p ∈ ps, p.size ≤ 140737488351232)
    (hx : ∀ j (h : j < ps.length), w.cell? ⟨b, off + j, none⟩ = some (.string ps[j])) :
    Calls Try.prog 35 #[.slice (some ⟨b, off, none⟩) ps.length cap] w fun e w' => e = .returned (.bool (longB ps)) ∧ w = w' := by
  have HX := Lib.hid hx
  have HZ := Lib.hid hz
  clear hx hz
  obtain ⟨u, hu⟩ : ∃ u, u = longB ps := ⟨_, rfl⟩
  rw [← hu]
  have HU := Lib.hid hu
  clear hu
  go_enter Try.func35, Try.ntmps35
  go_wp2
  go_loop [3, 4] (fun s i => ∃ k : Nat, k ≤ ps.length ∧ k ≤ 100 ∧ i = .int .i64 k ∧ s = .int .i64 (sumTo ps k)) (fun _ i => ps.length - (intOf i).toNat)
  case atStart => exact ⟨0, Nat.zero_le _, Nat.zero_le _, rfl, rfl⟩
  case round =>
    obtain ⟨k, hk, hk2, rfl, rfl⟩ := hrel
    have hs := sumTo_le ps 140737488351232 HZ.out k
    have hs2 : k * 140737488351232 ≤ 100 * 140737488351232 := Nat.mul_le_mul_right _ hk2
    have hs3 : sumTo ps k ≤ 14073748835123200 := by omega
    clear hs hs2
    by_cases hlt : k < ps.length ∧ k < 100
    · obtain ⟨h1, h2⟩ := hlt
      have c1 := HX.out k h1
      have hp := HZ.out _ (List.getElem_mem h1)
      have ES := Lib.hid (sumTo_succ ps k h1)
      generalize ps[k] = p at *
      have d1 : decide (k < ps.length) = true := by simpa using h1
      have d2 : decide ((k : Int) < 100) = true := by simp; omega
      go_wp2
      go_round
      case rel => exact ⟨k + 1, by omega, by omega, by go_num, by rw [ES.out]; go_num⟩
      case measure => simp [intOf]; omega
    · have EU : Hid (u = (decide (60 < (ps.length : Int)) || decide (4096 < (sumTo ps k : Int)))) := Lib.hid (by
        rw [HU.out]
        unfold longB
        by_cases h60 : 60 < ps.length
        · have a1 : decide (60 < ps.length) = true := by simpa using h60
          have a2 : decide (60 < (ps.length : Int)) = true := by simp; omega
          rw [a1, a2]; rfl
        · have a1 : decide (60 < ps.length) = false := by simpa using h60
          have a2 : decide (60 < (ps.length : Int)) = false := by simp; omega
          have e : k = ps.length := by omega
          rw [a1, a2, e, sumTo_over ps 100 (by omega)]
          simp only [Bool.false_or, decide_eq_decide]
          omega)
      have hd : (decide (k < ps.length) = false ∧ decide ((k : Int) < (ps.length : Int)) = false) ∨ (decide (k < ps.length) = true ∧ decide ((k : Int) < (ps.length : Int)) = true ∧ decide ((k : Int) < 100) = false) := by
        by_cases h : k < ps.length
        · exact .inr ⟨by simp; omega, by simp; omega, by simp; omega⟩
        · exact .inl ⟨by simp; omega, by simp; omega⟩
      have h6 : (decide (60 < (ps.length : Int)) = true ∧ u = true) ∨ (decide (60 < (ps.length : Int)) = false ∧ ∃ z, decide (4096 < (sumTo ps k : Int)) = z ∧ u = z) := by
        rw [EU.out]
        cases decide (60 < (ps.length : Int)) with
        | true => exact .inl ⟨rfl, rfl⟩
        | false => exact .inr ⟨rfl, _, rfl, by simp⟩
      clear hlt
      rcases h6 with ⟨t1, hu⟩ | ⟨t1, z, t2, hu⟩
      · have H := Lib.hid hu
        clear hu
        rcases hd with ⟨d1, d2⟩ | ⟨d1, d2, d3⟩
        all_goals
          go_wp2
          go_ret
          exact ⟨by rw [H.out]; rfl, rfl⟩
      · have H := Lib.hid hu
        clear hu
        rcases hd with ⟨d1, d2⟩ | ⟨d1, d2, d3⟩
        all_goals
          go_wp2
          go_ret
          exact ⟨by rw [H.out]; rfl, rfl⟩

theorem long_any (v : Value) (ps : List ByteArray) (w : World) (h : Strs w v ps) (hz : ∀ p ∈ ps, p.size ≤ 140737488351232) :
    Calls Try.prog 35 #[v] w fun e w' => e = .returned (.bool (longB ps)) ∧ w = w' := by
  rcases strs_cases h with ⟨_, _, rfl, rfl⟩ | ⟨b, off, cap, rfl, ⟨hl, hcap⟩, hb, hx⟩
  · exact long_nil _ _ w
  · exact long_row b off cap ps w (by omega) hz hx

theorem ex_split (a : ByteArray) (w : World) (ns : List (List UInt8)) (e : Int) (ha : a.size ≤ maxLen) (h1 : splitE (L a) = e) (h2 : splitN (L a) = ns) :
    Calls Try.prog 37 #[.string a] w fun x w' => ∃ v, x = .returned (.tuple #[v, .int .i64 e]) ∧ Strs w' v (ns.map B) ∧ Below w.heap.size w w' := by
  have h := split_any a w ha
  subst h1 h2
  exact h
theorem ex_parent (a : ByteArray) (w : World) (ds : List (List UInt8)) (n : List UInt8) (ha : a.size ≤ maxLen) (h1 : parE (L a) = 0) (h2 : parD (L a) = ds) (h3 : parN (L a) = n) :
    Calls Try.prog 41 #[.string a] w fun x w' => ∃ v, x = .returned (.tuple #[v, .string (B n), .int .i64 0]) ∧ Strs w' v (ds.map B) ∧ Below w.heap.size w w' := by
  have h := parent_any a w ha
  subst h2 h3
  unfold ParentRes at h
  rw [h1] at h
  exact h
theorem ex_under (a b : ByteArray) (u : Bool) (w : World) (ha : a.size ≤ 1000) (hb : b.size ≤ 1000) (h : underB (L a) (L b) = u) :
    Calls Try.prog 43 #[.string a, .string b] w fun e w' => e = .returned (.bool u) ∧ Below w.heap.size w w' := by
  have := under_any a b w (by omega) (by omega)
  rw [h] at this
  exact this

set_option maxRecDepth 100000 in
set_option maxHeartbeats 1000000 in
theorem alive17 (w : World) : Calls Try.prog 36 #[] w fun e w' => e = .returned (.bool true) ∧ Below w.heap.size w w' := by
  go_enter Try.func36, Try.ntmps36
  go_wp2_with fail
  refine (ex_split ⟨#[47, 97, 47, 98]⟩ _ [[97], [98]] 0 (by decide) (by decide +kernel) (by decide +kernel)).mono ?_
  rintro e w1 ⟨v1, rfl, s1, b1⟩
  go_wp2_with fail
  refine (ex_split ⟨#[47]⟩ _ [] 0 (by decide) (by decide +kernel) (by decide +kernel)).mono ?_
  rintro e w2 ⟨v2, rfl, s2, b2⟩
  go_wp2_with fail
  refine (ex_split ⟨#[47, 47, 97]⟩ _ [] 2 (by decide) (by decide +kernel) (by decide +kernel)).mono ?_
  rintro e w3 ⟨v3, rfl, s3, b3⟩
  go_wp2_with fail
  refine (ex_split ⟨#[97]⟩ _ [] 7 (by decide) (by decide +kernel) (by decide +kernel)).mono ?_
  rintro e w4 ⟨v4, rfl, s4, b4⟩
  go_wp2_with fail
  refine (ex_parent ⟨#[47, 97, 47, 98]⟩ _ [[97]] [98] (by decide) (by decide +kernel) (by decide +kernel) (by decide +kernel)).mono ?_
  rintro e w5 ⟨v5, rfl, s5, b5⟩
  rw [show B [98] = ⟨#[98]⟩ from rfl]
  have t1 := Lib.hid (((((s1.below b2).below b3).below b4).below b5))
  obtain ⟨ao, cap, hv2⟩ := strs_form s2
  simp only [List.map_nil, List.length_nil] at hv2
  rw [hv2]
  have T5 := Lib.hid s5
  have bb : Below w.heap.size w w5 := b1.trans ((b2.trans ((b3.trans ((b4.trans (b5.mono b4.size)).mono b3.size)).mono b2.size)).mono b1.size)
  clear hv2 s1 s2 s3 s4 s5 b1 b2 b3 b4 b5
  go_wp2_with fail
  refine (same17_any _ _ _ _ _ (t1.out.below ((Below.refl _ _).alloc (Nat.le_refl _) _)) (strs_built w5 [⟨#[97]⟩, ⟨#[98]⟩] (by decide))).mono ?_
  rintro e w6 ⟨rfl, b6⟩
  rw [show decide (List.map B [[97], [98]] = [⟨#[97]⟩, ⟨#[98]⟩]) = true from by decide +kernel]
  have b56 : Below w5.heap.size w5 w6 := ((Below.refl _ w5).alloc (Nat.le_refl _) _).trans (b6.mono (by simp))
  have T6 := Lib.hid (T5.out.below b56)
  clear b6
  go_wp2_with fail
  refine (same17_any _ _ _ _ _ (T6.out.below ((Below.refl _ _).alloc (Nat.le_refl _) _)) (strs_built w6 [⟨#[97]⟩] (by decide))).mono ?_
  rintro e w7 ⟨rfl, b7⟩
  rw [show decide (List.map B [[97]] = [⟨#[97]⟩]) = true from by decide +kernel]
  have b67 : Below w6.heap.size w6 w7 := ((Below.refl _ w6).alloc (Nat.le_refl _) _).trans (b7.mono (by simp))
  clear b7
  go_wp2_with fail
  refine (ex_under ⟨#[47, 97]⟩ ⟨#[47, 97, 47, 98]⟩ true _ (by decide) (by decide) (by decide +kernel)).mono ?_
  rintro e w8 ⟨rfl, b8⟩
  go_wp2_with fail
  refine (ex_under ⟨#[47, 97, 47, 98]⟩ ⟨#[47, 97]⟩ false _ (by decide) (by decide) (by decide +kernel)).mono ?_
  rintro e w9 ⟨rfl, b9⟩
  go_wp2
  go_ret
  exact ⟨rfl, bb.trans ((b56.trans ((b67.trans ((b8.trans (b9.mono b8.size)).mono b67.size)).mono b56.size)).mono bb.size)⟩
end Go.Proofs.Ytfdclifdemajfaa.Path
