/- Layer 11: what the row's list of variables gives; a geometry that came in, opened; a world for the witness. -/
import Derived.Test.YtpnfkilfgdnogaaGreatDoorBitsIter
import Derived.Test.YtpnfkilfgdnogaaGreatDoorBitsFill
import Derived.Test.YtpnfkilfgdnogaaGreatDoorOctetPlain
import Derived.Test.YtpnfkilfgdnogaaGreatDoorImgA
import Derived.Test.YtpnfkilfgdnogaaGreatDoorImgB
import Derived.Test.YtpnfkilfgdnogaaGreatDoorCards
import Derived.Test.YtpnfkilfgdnogaaGreatDoorTie
import Derived.WalkKit
import Derived.ProofKit
import Derived.OpenShut
import Derived.ShutString
import Derived.ChangeOld
import Derived.Below
import Derived.SizedLaws
import Derived.Deep.DeepHandedRow
import Derived.Lib.LaidTab
import Derived.Lib.SmallJoins
import Derived.Laws.IdiomArrays
section
namespace Go.Proofs.YtpnfkilfgdnogaaGreatDoor
set_option linter.unusedVariables false
set_option linter.unusedSimpArgs false
def cntT (s : ByteArray) (n : Nat) : Nat := ((List.range n).filter fun k => bitB s k).length
theorem countB_cnt (s : ByteArray) (n : Nat) (h : n ≤ 8 * s.size) : countB s (n : Int) = cntT s n := by
  obtain ⟨r, hr⟩ : ∃ r, 8 * s.size = n + r := ⟨8 * s.size - n, by omega⟩
  unfold countB cntB upto cntT
  rw [List.filter_map, List.length_map, hr, List.range_add, List.filter_append, List.length_append]
  have h2 : (((List.range r).map (n + ·)).filter ((fun x : Nat × Bool => x.2 && decide ((x.1 : Int) < n)) ∘ bitPair s)) = [] := by
    refine List.filter_eq_nil_iff.2 (fun k hk => ?_)
    obtain ⟨j, _, rfl⟩ := List.mem_map.1 hk
    have e : decide (((n + j : Nat) : Int) < n) = false := decide_eq_false (by omega)
    intro hc
    have hc2 : (bitB s (n + j) && decide (((n + j : Nat) : Int) < n)) = true := hc
    rw [e, Bool.and_false] at hc2
    cases hc2
  rw [h2, List.length_nil, Nat.add_zero]
  congr 1
  refine List.filter_congr (fun k hk => ?_)
  have hk := List.mem_range.1 hk
  simp [bitPair, hk]
theorem leastB_of {s : ByteArray} {m k : Nat} (hm : k < m) (hk : k < 8 * s.size) (h0 : ∀ j, j < k → bitB s j = true) (h1 : bitB s k = false) : leastB s (m : Int) false = (k, true) := by
  unfold leastB
  obtain ⟨r, hr⟩ : ∃ r, 8 * s.size = k + (r + 1) := ⟨8 * s.size - k - 1, by omega⟩
  have hsp : upto (bitPair s) (8 * s.size) = upto (bitPair s) k ++ (bitPair s k :: (List.range r).map fun j => bitPair s (k + (j + 1))) := by
    unfold upto
    rw [hr, List.range_add, List.map_append]
    congr 1
    rw [List.map_map, List.range_succ_eq_map, List.map_cons, List.map_map]
    rfl
  have hng : ¬ goesOn (m : Int) false (bitPair s k) := fun h => h.2 h1
  rw [hsp, leastL_skip, leastL_stop _ _ _ _ hng]
  · unfold leastL
    simp [bitPair, h1, hm]
  · intro p hp
    unfold upto at hp
    obtain ⟨j, hj, rfl⟩ := List.mem_map.1 hp
    have hj := List.mem_range.1 hj
    exact ⟨by simp [bitPair]; omega, by simp [bitPair, h0 j hj]⟩
theorem bit_zero (n k : Nat) : bitB (Oct.B (List.replicate n 0)) k = false := by
  unfold bitB byteAt
  have h : (Oct.B (List.replicate n 0)).data.toList.getD (k / 8) 0 = 0 := by
    show (List.replicate n (0 : UInt8)).toArray.toList.getD (k / 8) 0 = 0
    rw [List.toList_toArray, List.getD_eq_getElem?_getD, List.getElem?_replicate]
    split <;> rfl
  rw [h]
  simp
end Go.Proofs.YtpnfkilfgdnogaaGreatDoor
end
section
namespace Go.Proofs.YtpnfkilfgdnogaaGreatDoor.Img
set_option linter.unusedVariables false
set_option linter.unusedSimpArgs false
open Go.RowKit Go.Shelf Go.Maps Oct Dev Jou Tx Geo Ino Bm
def zs32 : List Nat := List.replicate 32 0
def xF : InoT := ⟨1, 1, 0, 0, 0, 0, 0, 0⟩
def x65 : InoT := ⟨1, 1, 65, 0, 0, 0, 0, 0⟩
def y65 : InoT := ⟨1, 1, 65, 0, 1, 0, 0, 0⟩
theorem okRow_zero (n : Nat) (l : List Nat) (h : ∀ v ∈ l, v = 0) : okRow n l := fun k v hk hv => absurd (h v (List.mem_of_getElem? hk)) hv
theorem xF_ok : xF.Ok := .inr ⟨.inl rfl, by decide, by decide, (fun h => by cases h), okRow_zero _ _ (by decide), by decide⟩
theorem rootT_ok : rootT.Ok := .inr ⟨.inr rfl, by decide, by decide, fun _ => rfl, okRow_zero _ _ (by decide), by decide⟩
theorem bit_two (k : Nat) : bitB twoS k = decide (k < 2) := by
  have hz : zS.size = 64 := zS_size
  unfold twoS fillN fillN fillN
  rw [bitB_setB _ _ _ _ (by rw [size_setB, hz]; omega), bitB_setB _ _ _ _ (by rw [hz]; omega)]
  have h0 : bitB zS k = false := bit_zero 64 k
  rw [h0]
  by_cases h1 : k = 0 + 1
  · subst h1; rfl
  · by_cases h2 : k = 0 + 0
    · subst h2; rfl
    · rw [if_neg h1, if_neg h2]
      simp; omega
theorem bit_one (k : Nat) : bitB oneS k = decide (k < 1) := by
  have hz : zS.size = 64 := zS_size
  unfold oneS fillN fillN
  rw [bitB_setB _ _ _ _ (by rw [hz]; omega)]
  have h0 : bitB zS k = false := bit_zero 64 k
  rw [h0]
  by_cases h2 : k = 0 + 0
  · subst h2; rfl
  · rw [if_neg h2]
    simp; omega
theorem indIs_zero (E : Im) (D : Secs) : IndIs E D 0 zs32 := ⟨rfl, fun v hv => by rw [List.eq_of_mem_replicate hv]; omega, fun _ => rfl, fun h => absurd rfl h⟩
section
variable {E : Im}
end
end Go.Proofs.YtpnfkilfgdnogaaGreatDoor.Img
end
section
namespace Go.Proofs.YtpnfkilfgdnogaaGreatDoor.Img
set_option linter.unusedVariables false
set_option linter.unusedSimpArgs false
open Go.RowKit Go.Shelf Go.Maps Oct Dev Jou Tx Geo Ino Bm
section
variable {E : Im}
def dk1 (E : Im) : Secs := upd (fmtS 8 16 40) (fr E 2) (setB (fmtS 8 16 40 (fr E 2)) 2 true)
def dk2 (E : Im) : Secs := setIno E (dk1 E) 2 xF
def dk3 (E : Im) : Secs := setIno E (dk2 E) 2 x65
def dk4 (E : Im) (s : ByteArray) (n : Nat) : Secs := upd (setIno E (blkD E (dk3 E) 1) 2 y65) (dq E 1) (cutS s n)
theorem fmt_parts : fmtS 8 16 40 41 = twoS ∧ fmtS 8 16 40 42 = oneS ∧ fmtS 8 16 40 43 = rootS := by
  refine ⟨?_, ?_, ?_⟩
  · unfold fmtS
    rw [if_neg (by decide), if_neg (by decide), if_pos (by decide)]
  · unfold fmtS
    rw [if_neg (by decide), if_pos (by decide)]
  · unfold fmtS
    rw [if_pos (by decide)]
structure Ex (E : Im) : Prop where
  small : Small E
  ei : E.i = 8
  eb : E.bl = 16
  ej : E.j = 40
theorem Ex.at_ (h : Ex E) : fr E 2 = 41 ∧ fr E 3 = 42 ∧ tq E 2 = 43 ∧ dq E 1 = 47 := by
  have hv := h.small.vals
  have h1 := h.ei
  have h2 := h.eb
  have h3 := h.ej
  unfold tq dq
  omega
theorem Ex.full (h : Ex E) : FullE E (fun q => q = 41 ∨ q = 42 ∨ q = 43 ∨ q = 47) → False := fun hf => hf.no [41, 42, 43, 47] (fun q hq => by simpa using hq) (by rw [h.ej]; decide)
theorem Ex.d1 (h : Ex E) : dk1 E 41 = setB twoS 2 true ∧ dk1 E 42 = oneS := by
  obtain ⟨a, b, c, d⟩ := h.at_
  unfold dk1
  rw [a]
  refine ⟨?_, ?_⟩
  · rw [upd_same, fmt_parts.1]
  · rw [upd_ne _ _ (by omega), fmt_parts.2.1]
theorem Ex.d3 (h : Ex E) : dk3 E 41 = setB twoS 2 true ∧ dk3 E 42 = oneS := by
  obtain ⟨a, b, c, d⟩ := h.at_
  unfold dk3 dk2
  rw [setIno_q (by omega), setIno_q (by omega), setIno_q (by omega), setIno_q (by omega)]
  exact h.d1
theorem Ex.d4 (h : Ex E) (s : ByteArray) (n : Nat) : dk4 E s n 41 = setB twoS 2 true ∧ dk4 E s n 42 = setB oneS 1 true := by
  obtain ⟨a, b, c, d⟩ := h.at_
  unfold dk4
  rw [upd_ne _ _ (by omega), upd_ne _ _ (by omega), setIno_q (by omega), setIno_q (by omega)]
  unfold blkD
  rw [upd_ne _ _ (by omega), upd_ne _ _ (by omega), b, upd_ne _ _ (by omega), upd_same, h.d3.1, h.d3.2]
  exact ⟨rfl, rfl⟩
end
end Go.Proofs.YtpnfkilfgdnogaaGreatDoor.Img
end
section
namespace Go.Proofs.YtpnfkilfgdnogaaGreatDoor.Img
set_option linter.unusedVariables false
set_option linter.unusedSimpArgs false
open Go.RowKit Go.Shelf Go.Maps Oct Dev Jou Tx Geo Ino Bm
section
variable {E : Im} {w : World}
end
end Go.Proofs.YtpnfkilfgdnogaaGreatDoor.Img
end
section
namespace Go.Proofs.YtpnfkilfgdnogaaGreatDoor.Img
set_option linter.unusedVariables false
set_option linter.unusedSimpArgs false
open Go.RowKit Go.Shelf Go.Maps Oct Dev Jou Tx Geo Ino Bm
theorem root_is (E : Im) (i bl j : Nat) (h : tq E 1 = fromG i bl j 4) : InoIs E (fmtS i bl j) 1 rootT := by
  unfold InoIs
  rw [h]
  have e : fmtS i bl j (fromG i bl j 4) = rootS := by unfold fmtS; rw [if_pos rfl]
  rw [e]
  show rootS.extract 0 32 = inoB rootT
  unfold rootS
  have hz := inoB_size rootT
  apply L_inj
  rw [ext_B, append_B]
  simp only [L_B, List.drop_zero, Nat.sub_zero]
  rw [List.take_append_of_le_length (by rw [len_L]; omega), List.take_of_length_le (by rw [len_L]; omega)]
theorem fmt_at (E : Im) (i bl j : Nat) (hs : Small E) (ei : E.i = i) (eb : E.bl = bl) (ej : E.j = j) : fmtS i bl j (fr E 2) = twoS ∧ fmtS i bl j (fr E 3) = oneS ∧ tq E 1 = fromG i bl j 4 := by
  have hv := hs.vals
  have h2 : fr E 2 = fromG i bl j 2 := by unfold fr; rw [ei, eb, ej]
  have h3 : fr E 3 = fromG i bl j 3 := by unfold fr; rw [ei, eb, ej]
  have h4 : fr E 4 = fromG i bl j 4 := by unfold fr; rw [ei, eb, ej]
  refine ⟨?_, ?_, ?_⟩
  · unfold fmtS
    rw [if_neg (by omega), if_neg (by omega), if_pos (by omega)]
  · unfold fmtS
    rw [if_neg (by omega), if_pos (by omega)]
  · unfold tq
    omega
end Go.Proofs.YtpnfkilfgdnogaaGreatDoor.Img
end
section
namespace Go.Proofs.YtpnfkilfgdnogaaGreatDoor.Img
set_option linter.unusedVariables false
set_option linter.unusedSimpArgs false
open Go.RowKit Go.Shelf Go.Maps Oct Dev Jou Tx Geo Ino Bm
end Go.Proofs.YtpnfkilfgdnogaaGreatDoor.Img
end
section
namespace Go.Proofs.YtpnfkilfgdnogaaGreatDoor.Img
open Go.Joins Go.ChangeShapes Go.WideShapes Go.ChangeAt Go.RowKit Go.Deep
open Oct Geo
set_option linter.unusedVariables false
set_option linter.unusedSimpArgs false
theorem trod_one3 {H : Type} {enc : TypeId × Value → H} {P : Program} {w : World} {base fuel : Nat} {spare : Nat → Bool} {held : Bool} {t : TypeId} {f0 f1 f2 : Field} {c0 c1 c2 : Value} {x : DataW H × List MemPlace} (hs : P.underlying t = some (.struct #[f0, f1, f2])) (hone : oneCellFields P #[f0, f1, f2] = true) (h : DataW.trod enc P w base spare held fuel t [c0, c1, c2] = some x) :
    ∃ y0 y1 y2 n, x = (.agg [y0.1, y1.1, y2.1], y0.2 ++ (y1.2 ++ y2.2)) ∧ DataW.trod enc P w base spare held n f0.type [c0] = some y0 ∧ DataW.trod enc P w base spare held n f1.type [c1] = some y1 ∧ DataW.trod enc P w base spare held n f2.type [c2] = some y2 := by
  obtain ⟨y0, y1, y2, n, hx, _, t0, t1, t2⟩ := trod_struct3 hs h
  obtain ⟨o0, k0⟩ := hone_of hone 0 f0 rfl
  obtain ⟨o1, k1⟩ := hone_of hone 1 f1 rfl
  obtain ⟨o2, k2⟩ := hone_of hone 2 f2 rfl
  exact ⟨y0, y1, y2, n, hx, by simpa [o0, k0] using t0, by simpa [o1, k1] using t1, by simpa [o2, k2] using t2⟩
set_option maxRecDepth 100000 in
theorem open_geo {H : Type} {enc : TypeId × Value → H} {W : World} {r : Reach} {b0 base : Nat} {spare : Nat → Bool} {held : Bool} {v : Value} {d : DataW H} {p : List MemPlace}
    (hv : Value.okWide Tryz.prog W r b0 23 v) (h : DataW.Trod enc Tryz.prog W base spare held 23 v d p) : ∃ i b j : Int, v = geoV i b j := by
  obtain ⟨cs, rfl, hsz⟩ := okWide_struct Tryz.underlying23 hv
  obtain ⟨l⟩ := cs
  have hC : Tryz.prog.cellsOf 23 = 3 := by kernel_rfl
  match l, hsz.trans hC with
  | [c0, c1, c2], _ =>
    obtain ⟨fuel, hf⟩ := h
    obtain ⟨y0, y1, y2, n, hx, t0, t1, t2⟩ := trod_one3 Tryz.underlying23 (by kernel_rfl) hf
    obtain ⟨n0, e0, rfl, w0⟩ := DataW.trod_int Tryz.underlying3 t0
    obtain ⟨n1, e1, rfl, w1⟩ := DataW.trod_int Tryz.underlying3 t1
    obtain ⟨n2, e2, rfl, w2⟩ := DataW.trod_int Tryz.underlying3 t2
    simp only [List.cons.injEq, and_true] at e0 e1 e2
    subst e0 e1 e2
    exact ⟨n0, n1, n2, rfl⟩
theorem own : ownKnob Tryz.prog.godebug = none := by kernel_rfl
theorem laidOut : laidOutB Tryz.prog = true := by kernel_rfl
theorem gRoot : Tryz.prog.globalNamed "lunette/image.root" = some 0 := by kernel_rfl
theorem gRootType : (Tryz.prog.globals[0]?).map (·.type) = some 43 := by kernel_rfl
theorem cells_inode : Tryz.prog.cellsOf 43 = 8 := by kernel_rfl
theorem lit_of {H : Type} {enc : TypeId × Value → H} {W : World} {base : Nat} {sp : Nat → Bool} {held : Bool} {fuel : Nat} {t : TypeId} {k : IntKind} {n : Int} {cs : List Value} {x : DataW H × List MemPlace}
    (ht : Tryz.prog.underlying t = some (.int k)) (h : DataW.trod enc Tryz.prog W base sp held fuel t cs = some x) (hx : x.1 = .lit (.int k n)) : cs = [.int k n] := by
  obtain ⟨m, rfl, rfl, _⟩ := DataW.trod_int ht h
  simp only [DataW.lit.injEq, Lit.int.injEq, true_and] at hx
  rw [hx]
set_option maxRecDepth 100000 in
theorem cells_of_root {H : Type} {enc : TypeId × Value → H} {W : World} {base : Nat} {sp : Nat → Bool} {held : Bool} {fuel : Nat} {cs : List Value} {p : List MemPlace}
    (h : DataW.trod enc Tryz.prog W base sp held fuel 43 cs = some (Rows.laid_lunette_image_root, p)) : cs = [.int .u8 2, .int .u16 1, .int .u32 0, .int .u16 0, .int .u16 0, .int .u16 0, .int .u16 0, .int .u16 0] := by
  obtain ⟨xs, n, _, hx, hl, hxl, hg⟩ := DataW.trod_struct Tryz.underlying43 h
  have hl := hl.trans cells_inode
  match cs, hl with
  | [c0, c1, c2, c3, c4, c5, c6, c7], _ =>
    match xs, hxl with
    | [y0, y1, y2, y3, y4], _ =>
      have hd := congrArg Prod.fst hx
      simp only [Rows.laid_lunette_image_root, List.map_cons, List.map_nil, DataW.agg.injEq, List.cons.injEq, and_true] at hd
      obtain ⟨d0, d1, d2, d3, d4⟩ := hd
      have g0 : [c0] = [.int .u8 2] := lit_of Tryz.underlying5 (hg 0 _ rfl) d0.symm
      have g1 : [c1] = [.int .u16 1] := lit_of Tryz.underlying39 (hg 1 _ rfl) d1.symm
      have g2 : [c2] = [.int .u32 0] := lit_of Tryz.underlying40 (hg 2 _ rfl) d2.symm
      have g4 : [c7] = [.int .u16 0] := lit_of Tryz.underlying39 (hg 4 _ rfl) d4.symm
      have h3 : DataW.trod enc Tryz.prog W base sp held n 41 [c3, c4, c5, c6] = some y3 := hg 3 _ rfl
      obtain ⟨z0, z1, z2, z3, m, rfl, t0, t1, t2, t3⟩ := trod_array4 Tryz.underlying41 (by kernel_rfl) h3
      simp only [DataW.agg.injEq, List.cons.injEq, and_true] at d3
      obtain ⟨b0, b1, b2, b3⟩ := d3
      have a0 := lit_of Tryz.underlying39 t0 b0.symm
      have a1 := lit_of Tryz.underlying39 t1 b1.symm
      have a2 := lit_of Tryz.underlying39 t2 b2.symm
      have a3 := lit_of Tryz.underlying39 t3 b3.symm
      simp only [List.cons.injEq, and_true] at g0 g1 g2 g4 a0 a1 a2 a3
      rw [g0, g1, g2, g4, a0, a1, a2, a3]
theorem root_of {W : World} (h : laidMetH Tryz.prog [("lunette/image.root", Rows.laid_lunette_image_root)] W) : RootAt W := by
  have h' : laidMet Tryz.prog [("lunette/image.root", Rows.laid_lunette_image_root)] W := h
  obtain ⟨ps, ⟨g', t', cs, fuel, p, q, hg', ht', hvar, hd, _, _⟩, _⟩ := h'
  obtain rfl := Option.some.inj (gRoot.symm.trans hg')
  obtain rfl := Option.some.inj (gRootType.symm.trans ht')
  have hc := fun i => World.var?_cell gRoot hvar i
  obtain ⟨l⟩ := cs
  have hcs := cells_of_root hd
  have hcs : l = _ := hcs
  subst hcs
  refine ⟨Nat.lt_of_le_of_lt (Nat.zero_le _) (World.block_lt_of_cell? _ _ (hc 0)), hc 0, hc 1, hc 2, hc 3, hc 4, hc 5, hc 6, hc 7⟩
noncomputable def laidWorld (os : Os) : World :=
  { World.holding Tryz.prog os ⟨#[], #[], []⟩ with heap := (World.holding Tryz.prog os ⟨#[], #[], []⟩).heap.modify 0 fun
      | .cells _ t frozen => .cells #[.int .u8 2, .int .u16 1, .int .u32 0, .int .u16 0, .int .u16 0, .int .u16 0, .int .u16 0, .int .u16 0] t frozen
      | o => o }
end Go.Proofs.YtpnfkilfgdnogaaGreatDoor.Img
end
