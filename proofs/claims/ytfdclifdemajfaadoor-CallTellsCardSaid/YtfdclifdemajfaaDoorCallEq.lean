/- Layer 20: two calls compared; the closure of Check. -/
import Derived.Test.YtfdclifdemajfaaDoorCallBare
import Derived.Test.YtfdclifdemajfaaDoorPathUnder
import Derived.LaidEql
namespace Go.Proofs.YtfdclifdemajfaaDoor.Call
set_option linter.unusedVariables false
open Go.RowKit Oct Path

instance : DecidableEq C := fun x y =>
  if h : x.d = y.d ∧ L x.p = L y.p ∧ L x.p2 = L y.p2 ∧ x.fd = y.fd ∧ x.pg = y.pg ∧ x.sz = y.sz ∧ L x.da = L y.da then
    .isTrue (by
      obtain ⟨d, p, p2, fd, pg, sz, da⟩ := x
      obtain ⟨d', p', p2', fd', pg', sz', da'⟩ := y
      obtain ⟨h1, h2, h3, h4, h5, h6, h7⟩ := h
      simp only at h1 h2 h3 h4 h5 h6 h7
      rw [h1, L_inj h2, L_inj h3, h4, h5, h6, L_inj h7])
  else .isFalse (fun e => h (by subst e; exact ⟨rfl, rfl, rfl, rfl, rfl, rfl, rfl⟩))
theorem C.eq_iff (x y : C) : x = y ↔ x.d = y.d ∧ L x.p = L y.p ∧ L x.p2 = L y.p2 ∧ x.fd = y.fd ∧ x.pg = y.pg ∧ x.sz = y.sz ∧ L x.da = L y.da :=
  ⟨fun e => by subst e; exact ⟨rfl, rfl, rfl, rfl, rfl, rfl, rfl⟩, fun h => by
      obtain ⟨d, p, p2, fd, pg, sz, da⟩ := x
      obtain ⟨d', p', p2', fd', pg', sz', da'⟩ := y
      obtain ⟨h1, h2, h3, h4, h5, h6, h7⟩ := h
      simp only at h1 h2 h3 h4 h5 h6 h7
      rw [h1, L_inj h2, L_inj h3, h4, h5, h6, L_inj h7]⟩

set_option maxRecDepth 100000 in
theorem run_eqC (x y : C) (w : World) : (binOp .eql 24 (.agg #[.int .u8 x.d, .string x.p, .string x.p2, .int .i64 x.fd, .int .i64 x.pg, .int .u32 x.sz, .string x.da]) (.agg #[.int .u8 y.d, .string y.p, .string y.p2, .int .i64 y.fd, .int .i64 y.pg, .int .u32 y.sz, .string y.da])).run Tryd.prog w = .ok (.bool (decide (x = y))) w := by
  simp only [C.eq_iff]
  simp [go_sem, toList_L]
  by_cases h1 : x.d = y.d
  · by_cases h2 : L x.p = L y.p
    · by_cases h3 : L x.p2 = L y.p2
      · by_cases h4 : x.fd = y.fd
        · by_cases h5 : x.pg = y.pg
          · by_cases h6 : x.sz = y.sz
            · by_cases h7 : L x.da = L y.da <;> simp [h1, h2, h3, h4, h5, h6, h7]
            · simp [h1, h2, h3, h4, h5, h6]; omega
          · simp [h1, h2, h3, h4, h5]
        · simp [h1, h2, h3, h4]
      · simp [h1, h2, h3]
    · simp [h1, h2]
  · simp [h1]; omega
set_option maxRecDepth 100000 in
theorem run_neC (x y : C) (w : World) : (binOp .neq 24 (.agg #[.int .u8 x.d, .string x.p, .string x.p2, .int .i64 x.fd, .int .i64 x.pg, .int .u32 x.sz, .string x.da]) (.agg #[.int .u8 y.d, .string y.p, .string y.p2, .int .i64 y.fd, .int .i64 y.pg, .int .u32 y.sz, .string y.da])).run Tryd.prog w = .ok (.bool (!decide (x = y))) w := by
  simp only [C.eq_iff]
  simp [go_sem, toList_L]
  by_cases h1 : x.d = y.d
  · by_cases h2 : L x.p = L y.p
    · by_cases h3 : L x.p2 = L y.p2
      · by_cases h4 : x.fd = y.fd
        · by_cases h5 : x.pg = y.pg
          · by_cases h6 : x.sz = y.sz
            · by_cases h7 : L x.da = L y.da <;> simp [h1, h2, h3, h4, h5, h6, h7]
            · simp [h1, h2, h3, h4, h5, h6]; omega
          · simp [h1, h2, h3, h4, h5]
        · simp [h1, h2, h3, h4]
      · simp [h1, h2, h3]
    · simp [h1, h2]
  · simp [h1]; omega

set_option maxRecDepth 100000 in
set_option maxHeartbeats 400000 in
theorem at_no (s : ByteArray) (bit named h : Int) (bh br : Nat) (w : World) (t : (bits .and .i64 h bit == 0) = true) (ch : w.cell? ⟨bh, 0, none⟩ = some (.int .i64 h)) :
    Calls Tryd.prog 22 #[.string s, .int .i64 bit, .int .i64 named, .pointer (some ⟨bh, 0, none⟩), .pointer (some ⟨br, 0, none⟩)] w fun e w' => e = .returned (.int .i64 0) ∧ w = w' := by
  go_enter Tryd.func22, Tryd.ntmps22
  go_wp2
  go_ret
  exact ⟨rfl, rfl⟩
/-- What the closure of Check comes to. -/
def AtPost (l : List UInt8) (r : Bool) (br : Nat) (w : World) (e : Ending) (w' : World) : Prop :=
  e = .returned (.int .i64 (splitE l)) ∧ ∃ w1, Below w.heap.size w w1 ∧ w' = w1.setCell ⟨br, 0, none⟩ (.bool r)
set_option maxRecDepth 100000 in
set_option maxHeartbeats 400000 in
theorem at_yes (s : ByteArray) (bit named h : Int) (root nb : Bool) (bh br : Nat) (w : World) (hs : s.size ≤ maxLen) (t : (bits .and .i64 h bit == 0) = false) (tn : (bits .and .i64 h named != 0) = nb)
    (ch : w.cell? ⟨bh, 0, none⟩ = some (.int .i64 h)) (cr : w.cell? ⟨br, 0, none⟩ = some (.bool root)) (fr : w.frozen? ⟨br, 0, none⟩ = false) (lh : bh < w.heap.size) (lr : br < w.heap.size) :
    Calls Tryd.prog 22 #[.string s, .int .i64 bit, .int .i64 named, .pointer (some ⟨bh, 0, none⟩), .pointer (some ⟨br, 0, none⟩)] w (AtPost (L s) (root || (nb && decide (splitN (L s) = []))) br w) := by
  have SA := Lib.hid (split_any s w hs)
  clear hs
  obtain ⟨n, hn⟩ : ∃ n : Nat, ((splitN (L s)).map B).length = n := ⟨_, rfl⟩
  have e2 : decide (splitN (L s) = []) = ((n : Int) == 0) := by
    rw [← hn]
    cases splitN (L s) <;> simp
    omega
  rw [e2]
  have HN := Lib.hid hn
  obtain ⟨z, hz⟩ : ∃ z, ((n : Int) == 0) = z := ⟨_, rfl⟩
  clear hn e2
  go_enter Tryd.func22, Tryd.ntmps22
  go_wp2_with fail
  refine SA.out.mono ?_
  rintro e w1 ⟨v, rfl, hv, b1⟩
  have c1 : w1.cell? ⟨bh, 0, none⟩ = some (.int .i64 h) := (b1.cell (p := ⟨bh, 0, none⟩) lh).trans ch
  have c2 : w1.cell? ⟨br, 0, none⟩ = some (.bool root) := (b1.cell (p := ⟨br, 0, none⟩) lr).trans cr
  have c3 : w1.frozen? ⟨br, 0, none⟩ = false := (b1.frozen (p := ⟨br, 0, none⟩) lr).trans fr
  obtain ⟨ao, cap, rfl⟩ := strs_form hv
  rw [HN.out]
  have B1 := Lib.hid b1
  clear hv b1 ch cr fr
  cases root <;> cases nb <;> cases z
  all_goals
    go_wp2
    go_ret
    refine ⟨rfl, w1, B1.out, ?_⟩
    first | rfl | (rw [hz]; rfl)
end Go.Proofs.YtfdclifdemajfaaDoor.Call
