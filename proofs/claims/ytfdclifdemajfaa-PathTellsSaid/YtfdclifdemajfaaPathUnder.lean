/- The walks of path.Parent and path.Under. -/
import Derived.Test.YtfdclifdemajfaaPathJoin
namespace Go.Proofs.Ytfdclifdemajfaa.Path
set_option linter.unusedVariables false
open Go.RowKit Oct

theorem strs_form {w : World} {v : Value} {ps : List ByteArray} (h : Strs w v ps) : ∃ ao cap, v = .slice ao ps.length cap := by
  rcases strs_cases h with ⟨ao, c, rfl, rfl⟩ | ⟨b, off, cap, rfl, _⟩
  · exact ⟨ao, c, rfl⟩
  · exact ⟨_, _, rfl⟩

def underB (a b : List UInt8) : Bool := decide (splitE a = 0) && decide (splitE b = 0) && (decide (namesL a = []) || decide (a = b) || (a ++ [47]).isPrefixOf b)

set_option maxRecDepth 100000 in
set_option maxHeartbeats 1000000 in
theorem under_any (a b : ByteArray) (w : World) (ha : a.size ≤ 1099511627776) (hb : b.size ≤ 1099511627776) :
    Calls Try.prog 43 #[.string a, .string b] w fun e w' => e = .returned (.bool (underB (L a) (L b))) ∧ Below w.heap.size w w' := by
  have S1 := Lib.hid (fun W => split_any a W (by unfold maxLen; omega))
  have S2 := Lib.hid (fun W => split_any b W (by unfold maxLen; omega))
  obtain ⟨u, hu⟩ : ∃ u, u = underB (L a) (L b) := ⟨_, rfl⟩
  rw [← hu]
  have HU := Lib.hid hu
  clear hu
  have C := Lib.hid (fun W => Try.strings_HasPrefix b (a ++ ⟨#[47]⟩) W)
  have HC := Lib.hid (show (a ++ ⟨#[47]⟩ : ByteArray).data.toList = L a ++ [47] by
    have : a ++ ⟨#[47]⟩ = B (L a ++ [47]) := by rw [append_B]; rfl
    rw [this]; rfl)
  have hsz : a.size + (⟨#[47]⟩ : ByteArray).size ≤ 9223372036854775807 := by
    have : (⟨#[47]⟩ : ByteArray).size = 1 := rfl
    rw [this]; omega
  have t0 : (a.toList == b.toList) = decide (L a = L b) := by
    rw [toList_L, toList_L]
    rw [Bool.eq_iff_iff]
    simp
  have T0 := Lib.hid t0
  clear t0
  go_enter Try.func43, Try.ntmps43
  go_wp2_with fail
  refine (S1.out _).mono ?_
  rintro e w1 ⟨v, rfl, hv, b1⟩
  go_wp2_with fail
  refine (S2.out _).mono ?_
  rintro e w2 ⟨v2, rfl, hv2, b2⟩
  have bb := b1.trans (b2.mono b1.size)
  obtain ⟨ao, cap, hva⟩ := strs_form hv
  rw [List.length_map] at hva
  rw [hva]
  clear hva hv hv2 b1 b2
  by_cases h1 : splitE (L a) = 0
  · by_cases h2 : splitE (L b) = 0
    · have e1 : splitN (L a) = namesL (L a) := by unfold splitN; rw [if_pos h1]
      rw [h1, h2, e1]
      have H1 := Lib.hid h1
      have H2 := Lib.hid h2
      clear h1 h2 e1
      by_cases h3 : namesL (L a) = []
      · have h4 : (namesL (L a)).length = 0 := by rw [h3]; rfl
        rw [h4]
        have E : Hid (u = true) := Lib.hid (by rw [HU.out]; unfold underB; simp [H1.out, H2.out, h3])
        clear h3 h4
        go_wp2
        go_ret
        exact ⟨by rw [E.out]; rfl, bb⟩
      · have h4 : (((namesL (L a)).length : Int) == 0) = false := by
          simp
          exact h3
        by_cases h5 : L a = L b
        · have t1 : (a.toList == b.toList) = true := by rw [T0.out]; simpa using h5
          have E : Hid (u = true) := Lib.hid (by rw [HU.out]; unfold underB; simp [H2.out, h5])
          clear h3 h5
          go_wp2
          go_ret
          exact ⟨by rw [E.out]; rfl, bb⟩
        · have t1 : (a.toList == b.toList) = false := by rw [T0.out]; simpa using h5
          have E : Hid (u = (L a ++ [47]).isPrefixOf (L b)) := Lib.hid (by rw [HU.out]; unfold underB; simp [H1.out, H2.out, h3, h5])
          clear h3 h5
          go_wp2_with fail
          refine (C.out _).mono ?_
          rintro e w' ⟨rfl, rfl⟩
          have e5 : Lib.hasPrefix b.data.toList (a ++ ⟨#[47]⟩ : ByteArray).data.toList = u := by rw [HC.out, E.out]; rfl
          rw [e5]
          clear e5
          go_wp2
          go_ret
          exact ⟨rfl, bb⟩
    · have t1 : (splitE (L b) == 0) = false := by simpa using h2
      rw [h1]
      have E : Hid (u = false) := Lib.hid (by rw [HU.out]; unfold underB; simp [h2])
      clear h1 h2
      go_wp2
      go_ret
      exact ⟨by rw [E.out]; rfl, bb⟩
  · have t1 : (splitE (L a) == 0) = false := by simpa using h1
    have E : Hid (u = false) := Lib.hid (by rw [HU.out]; unfold underB; simp [h1])
    clear h1
    go_wp2
    go_ret
    exact ⟨by rw [E.out]; rfl, bb⟩

/-- What Parent answers. -/
def parE (l : List UInt8) : Int := if splitE l = 0 then (if namesL l = [] then 2 else 0) else splitE l
def parD (l : List UInt8) : List (List UInt8) := if parE l = 0 then (namesL l).dropLast else []
def parN (l : List UInt8) : List UInt8 := if parE l = 0 then (namesL l).getLastD [] else []
def ParentRes (l : List UInt8) (w : World) (e : Ending) (w' : World) : Prop :=
  ∃ v, e = .returned (.tuple #[v, .string (B (parN l)), .int .i64 (parE l)]) ∧ Strs w' v ((parD l).map B) ∧ Below w.heap.size w w'

set_option maxRecDepth 100000 in
set_option maxHeartbeats 1000000 in
theorem parent_any (s : ByteArray) (w : World) (hs : s.size ≤ maxLen) :
    Calls Try.prog 41 #[.string s] w (ParentRes (L s) w) := by
  have S1 := Lib.hid (fun W => split_any s W hs)
  go_enter Try.func41, Try.ntmps41
  go_wp2_with fail
  refine (S1.out _).mono ?_
  rintro e w1 ⟨v, rfl, hv, b1⟩
  by_cases h1 : splitE (L s) = 0
  · have e1 : splitN (L s) = namesL (L s) := by unfold splitN; rw [if_pos h1]
    rw [e1] at hv
    rw [h1]
    by_cases h3 : namesL (L s) = []
    · rw [h3] at hv
      have EP : Hid (parE (L s) = 2) := Lib.hid (by unfold parE; rw [if_pos h1, if_pos h3])
      obtain ⟨ao, cap, hva⟩ := strs_form hv
      simp only [List.map_nil, List.length_nil] at hva
      rw [hva]
      clear hva hv h1 h3 e1
      go_wp2
      go_ret3
      refine ⟨_, ?_, .inl ⟨rfl, ?_⟩, b1⟩
      · unfold parN
        rw [EP.out]
        rfl
      · unfold parD
        rw [EP.out]
        rfl
    · have EP : Hid (parE (L s) = 0) := Lib.hid (by unfold parE; rw [if_pos h1, if_neg h3])
      have hpos : 0 < (namesL (L s)).length := by
        rcases Nat.eq_zero_or_pos (namesL (L s)).length with h | h
        · exact (h3 (List.eq_nil_of_length_eq_zero h)).elim
        · exact h
      generalize hns : namesL (L s) = ns at *
      have HNS := Lib.hid hns
      clear hns h1 e1 h3
      rcases strs_cases hv with ⟨_, _, _, e0⟩ | ⟨b, off, cap, rfl, ⟨hl, hcap⟩, hb, hx⟩
      · rw [List.map_eq_nil_iff] at e0
        rw [e0] at hpos
        simp at hpos
      · rw [List.length_map] at hl hcap
        rw [List.length_map]
        have hc := hx (ns.length - 1) (by rw [List.length_map]; omega)
        rw [List.getElem_map] at hc
        have HX := Lib.hid hx
        clear hx
        have q0 : (0 : Int) ≤ (ns.length : Int) - 1 := by omega
        have q1 : ((ns.length : Int) - 1).toNat = ns.length - 1 := by omega
        have q2 : (ns.length : Int) - 1 < (ns.length : Int) := by omega
        have q3 : (ns.length : Int) - 1 ≤ (cap : Int) := by omega
        obtain ⟨p, hp⟩ : ∃ p, B ns[ns.length - 1] = p := ⟨_, rfl⟩
        rw [hp] at hc
        have HP := Lib.hid hp
        clear hp
        have q4 : decide ((ns.length : Int) - 1 < 0) = false := by simp; omega
        go_wp2
        go_quiet (fail)
        go_wp2
        go_ret3
        have ed : (parD (L s)).map B = (ns.map B).take (ns.length - 1) := by
          unfold parD
          rw [EP.out, if_pos rfl, HNS.out, List.dropLast_eq_take, List.map_take]
        have en : B (parN (L s)) = p := by
          unfold parN
          rw [EP.out, if_pos rfl, HNS.out, ← HP.out]
          congr 1
          rw [List.getLastD_eq_getLast?, List.getLast?_eq_getElem?, List.getElem?_eq_getElem (by omega)]
          rfl
        have ln : ((ns.map B).take (ns.length - 1)).length = ns.length - 1 := by rw [List.length_take, List.length_map]; omega
        refine ⟨.slice (some ⟨b, off, none⟩) (ns.length - 1) cap, ?_, ?_, b1.trans (Oct.below_drewN _ _ _)⟩
        · rw [en, EP.out]
          rfl
        · rw [ed]
          refine .inr (.inl ⟨b, off, cap, by rw [ln], ⟨by omega, by omega⟩, hb, fun j hj => ?_⟩)
          have := HX.out j (by rw [List.length_map]; omega)
          rw [List.getElem_take]
          exact this
  · have EP : Hid (parE (L s) = splitE (L s)) := Lib.hid (by unfold parE; rw [if_neg h1])
    have EP2 : Hid (¬ parE (L s) = 0) := Lib.hid (by rw [EP.out]; exact h1)
    have t1 : (splitE (L s) != 0) = true := by simpa using h1
    obtain ⟨ao, cap, hva⟩ := strs_form hv
    rw [hva]
    clear hva hv h1
    go_wp2
    go_ret3
    refine ⟨_, ?_, .inl ⟨rfl, ?_⟩, b1⟩
    · unfold parN
      rw [if_neg EP2.out, EP.out]
      rfl
    · unfold parD
      rw [if_neg EP2.out]
      rfl
end Go.Proofs.Ytfdclifdemajfaa.Path
