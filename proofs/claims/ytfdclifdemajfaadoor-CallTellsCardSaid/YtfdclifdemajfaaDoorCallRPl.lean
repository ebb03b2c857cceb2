/- Layer 20, the document's answer: Check. -/
import Derived.Test.YtfdclifdemajfaaDoorCallRef
import Derived.Deep.Cut
namespace Go.Proofs.YtfdclifdemajfaaDoor.Call
set_option linter.unusedVariables false
set_option linter.unusedSimpArgs false
open Go.RowKit Oct Path
/-- The reference's Check, told plainly, by what a call has. -/
def rBad (h32 : Bool) (x : C) : Bool := decide (x.fd < 0 ∨ 15 < x.fd ∨ x.pg < 0 ∨ 36 ≤ x.pg ∨ (h32 = true ∧ (x.da.size < 1 ∨ 64 < x.da.size)) ∨ 2304 < x.sz)
def rE (h1 h2 h4 h8 h16 h32 h64 h128 : Bool) (x : C) : Int :=
  if (h1 = false ∧ x.p ≠ ⟨#[]⟩) ∨ (h2 = false ∧ x.p2 ≠ ⟨#[]⟩) ∨ (h4 = false ∧ x.fd ≠ 0) ∨ (h8 = false ∧ x.pg ≠ 0) ∨ (h16 = false ∧ x.sz ≠ 0) ∨ (h32 = false ∧ x.da ≠ ⟨#[]⟩) then 2
  else if h1 = true ∧ splitE (L x.p) ≠ 0 then splitE (L x.p)
  else if h1 = true ∧ h64 = true ∧ splitN (L x.p) = [] ∧ h2 = false then 2
  else if h2 = true ∧ splitE (L x.p2) ≠ 0 then splitE (L x.p2)
  else if h2 = true ∧ ((h64 = true ∧ x.p = ⟨#[47]⟩) ∨ (h128 = true ∧ x.p2 = ⟨#[47]⟩)) then 2
  else if rBad h32 x = true then 2 else 0
theorem root_iff {p : ByteArray} (h : splitE (L p) = 0) : splitN (L p) = [] ↔ p = ⟨#[47]⟩ := by
  unfold splitN
  rw [if_pos h]
  obtain ⟨r, hr⟩ := (splitE_ok h).head
  rw [names_nil_iff hr]
  constructor
  · intro e
    apply L_inj
    rw [hr, e]
    rfl
  · intro e
    rw [e] at hr
    have : [47] = 47 :: r := hr
    simpa using this.symm
theorem slash_ok : splitE (L (⟨#[47]⟩ : ByteArray)) = 0 := by decide +kernel
theorem bits_of : ∀ d, d < 16 → (hasB (hasN d) 128 = true → hasB (hasN d) 2 = true) ∧ (hasB (hasN d) 2 = true → hasB (hasN d) 1 = true) ∧ (hasB (hasN d) 64 = true → hasB (hasN d) 1 = true) := by decide +kernel
theorem keep_iff (x : C) (h : Int) : x.keep h 6 = x ↔ (hasB h 1 = false → x.p = ⟨#[]⟩) ∧ (hasB h 2 = false → x.p2 = ⟨#[]⟩) ∧ (hasB h 4 = false → x.fd = 0) ∧ (hasB h 8 = false → x.pg = 0) ∧ (hasB h 16 = false → x.sz = 0) ∧ (hasB h 32 = false → x.da = ⟨#[]⟩) := by
  obtain ⟨d, p, p2, fd, pg, sz, da⟩ := x
  simp only [C.keep, C.mk.injEq, true_and]
  cases hasB h 1 <;> cases hasB h 2 <;> cases hasB h 4 <;> cases hasB h 8 <;> cases hasB h 16 <;> cases hasB h 32 <;> simp [eq_comm]
theorem rE_eq (x : C) (h1 : 1 ≤ x.d) (h2 : x.d ≤ 15) : x.checkE = rE (hasB (hasN x.d) 1) (hasB (hasN x.d) 2) (hasB (hasN x.d) 4) (hasB (hasN x.d) 8) (hasB (hasN x.d) 16) (hasB (hasN x.d) 32) (hasB (hasN x.d) 64) (hasB (hasN x.d) 128) x := by
  obtain ⟨b1, b2, b3⟩ := bits_of x.d (by omega)
  unfold C.checkE rE
  rw [if_neg (by omega), if_neg (by omega)]
  have hk := (bare_keep x (hasN x.d)).trans (keep_iff x (hasN x.d))
  by_cases hb : x.bareTo (hasN x.d) 6 = C.zero x.d
  · obtain ⟨k1, k2, k3, k4, k5, k6⟩ := hk.1 hb
    rw [if_neg (by simpa using hb)]
    rw [if_neg (by rintro (⟨a, b⟩ | ⟨a, b⟩ | ⟨a, b⟩ | ⟨a, b⟩ | ⟨a, b⟩ | ⟨a, b⟩); exact b (k1 a); exact b (k2 a); exact b (k3 a); exact b (k4 a); exact b (k5 a); exact b (k6 a))]
    unfold C.restE C.e1 C.e2
    clear hk hb
    have hd : hasB (hasN x.d) 32 = false → x.da.size = 0 := fun e => by rw [k6 e]; rfl
    have hbad : x.bad = (x.root || rBad (hasB (hasN x.d) 32) x) := by
      unfold C.bad rBad
      generalize x.root = rt
      rw [Bool.eq_iff_iff]
      cases hq : hasB (hasN x.d) 32 with
      | true =>
        simp only [Bool.or_eq_true, Bool.true_and, decide_eq_true_eq, true_and]
        generalize (rt = true) = RT
        by_cases hrt : RT
        · simp only [hrt, true_or]
        · simp only [hrt, false_or]; omega
      | false =>
        have hz := hd hq
        simp only [Bool.or_eq_true, Bool.false_and, Bool.false_eq_true, decide_eq_true_eq, false_and, or_false, false_or]
        generalize (rt = true) = RT
        by_cases hrt : RT
        · simp only [hrt, true_or]
        · simp only [hrt, false_or]; omega
    rw [hbad]
    unfold C.root
    generalize hasB (hasN x.d) 1 = g1 at *
    generalize hasB (hasN x.d) 2 = g2 at *
    generalize hasB (hasN x.d) 64 = g64 at *
    generalize hasB (hasN x.d) 128 = g128 at *
    generalize rBad (hasB (hasN x.d) 32) x = Q at *
    by_cases s1 : splitE (L x.p) = 0
    · have r1 := root_iff s1
      by_cases s2 : splitE (L x.p2) = 0
      · have r2 := root_iff s2
        by_cases q1 : x.p = ⟨#[47]⟩ <;> by_cases q2 : x.p2 = ⟨#[47]⟩ <;> cases Q <;> cases g1 <;> cases g2 <;> cases g64 <;> cases g128 <;> simp_all
      · by_cases q1 : x.p = ⟨#[47]⟩ <;> cases Q <;> cases g1 <;> cases g2 <;> cases g64 <;> cases g128 <;> simp_all
    · by_cases s2 : splitE (L x.p2) = 0
      · have r2 := root_iff s2
        by_cases q2 : x.p2 = ⟨#[47]⟩ <;> cases Q <;> cases g1 <;> cases g2 <;> cases g64 <;> cases g128 <;> simp_all
      · cases Q <;> cases g1 <;> cases g2 <;> cases g64 <;> cases g128 <;> simp_all
  · rw [if_pos hb, if_pos ?_]
    have hn := fun e => hb (hk.2 e)
    by_cases a1 : hasB (hasN x.d) 1 = false ∧ x.p ≠ ⟨#[]⟩
    · exact .inl a1
    by_cases a2 : hasB (hasN x.d) 2 = false ∧ x.p2 ≠ ⟨#[]⟩
    · exact .inr (.inl a2)
    by_cases a3 : hasB (hasN x.d) 4 = false ∧ x.fd ≠ 0
    · exact .inr (.inr (.inl a3))
    by_cases a4 : hasB (hasN x.d) 8 = false ∧ x.pg ≠ 0
    · exact .inr (.inr (.inr (.inl a4)))
    by_cases a5 : hasB (hasN x.d) 16 = false ∧ x.sz ≠ 0
    · exact .inr (.inr (.inr (.inr (.inl a5))))
    by_cases a6 : hasB (hasN x.d) 32 = false ∧ x.da ≠ ⟨#[]⟩
    · exact .inr (.inr (.inr (.inr (.inr a6))))
    exact absurd ⟨fun e => Classical.byContradiction fun z => a1 ⟨e, z⟩, fun e => Classical.byContradiction fun z => a2 ⟨e, z⟩, fun e => Classical.byContradiction fun z => a3 ⟨e, z⟩, fun e => Classical.byContradiction fun z => a4 ⟨e, z⟩, fun e => Classical.byContradiction fun z => a5 ⟨e, z⟩, fun e => Classical.byContradiction fun z => a6 ⟨e, z⟩⟩ hn

/-- What lies in memory as Check goes on. -/
structure KS (w wj : World) (bh : Nat) (hv : Array Value) (x : C) : Prop where
  xb : Box wj w.heap.size x
  hb : wj.heap[bh]? = some (.cells hv 58 (0, 0))
  l : w.heap.size < bh
  bel : Below w.heap.size w wj
theorem KS.lt {w wj : World} {bh : Nat} {hv : Array Value} {x : C} (g : KS w wj bh hv x) : bh < wj.heap.size := lt_of_block g.hb
theorem KS.h {w wj : World} {bh : Nat} {hv : Array Value} {x : C} (g : KS w wj bh hv x) (i : Nat) : wj.cell? ⟨bh, i, none⟩ = hv[i]? := by
  have := g.hb; simp [World.cell?, this]
theorem KS.later {w wj wk : World} {bh : Nat} {hv : Array Value} {x : C} (g : KS w wj bh hv x) (h : Below wj.heap.size wj wk) : KS w wk bh hv x :=
  ⟨g.xb.below g.xb.lt h, (h.block _ g.lt).trans g.hb, g.l, g.bel.trans (h.mono g.bel.size)⟩
theorem box_x (x : C) (w : World) : Box (w.alloc (.cells #[.int .u8 x.d, .string x.p, .string x.p2, .int .i64 x.fd, .int .i64 x.pg, .int .u32 x.sz, .string x.da] 24)) w.heap.size x := heap_alloc_new w _
theorem rs_len (s : ByteArray) (hs : s.size ≤ maxLen) (n : Nat) (hn : ((splitN (L s)).map B).length = n) (E : Int) (hE : splitE (L s) = E) (W : World) :
    Calls Tryd.prog 25 #[.string s] W fun e w' => ∃ ao cap, e = .returned (.tuple #[.slice ao n cap, .int .i64 E]) ∧ Below W.heap.size W w' := by
  refine (rs_any s W hs).mono ?_
  rintro e w' ⟨v, rfl, hv, b⟩
  obtain ⟨ao, cap, rfl⟩ := strs_form hv
  rw [hn, hE]
  exact ⟨ao, cap, rfl, b⟩

end Go.Proofs.YtfdclifdemajfaaDoor.Call
