/- Layer 11's law ImagePages, plain: what SetPage and Resize make of each page. -/
import Derived.Test.YtpnfkilfgdnogaaGreatDoorImgE
import Derived.Test.YtpnfkilfgdnogaaGreatDoorImgD
import Derived.Test.YtpnfkilfgdnogaaGreatDoorDirN
import Derived.Test.YtpnfkilfgdnogaaGreatDoorBmM
import Derived.Test.YtpnfkilfgdnogaaGreatDoorImgC
import Derived.Test.YtpnfkilfgdnogaaGreatDoorInoM
import Derived.Laws.IdiomArrays
import Derived.WalkKit
import Derived.ProofKit
import Derived.Deep.Slices
import Derived.Deep.Fields
import Derived.Deep.Strs
import Derived.ChangeSame
import Derived.SizedLaws
import Derived.Deep.Cut
import Derived.Deep.CutBlock
import Derived.Deep.CutRange
import Derived.Deep.RegionLawGrows

/- Layer 11 (image): SetPage of a page that there is, over the owners. -/
section
namespace Go.Proofs.YtpnfkilfgdnogaaGreatDoor.Img
set_option linter.unusedVariables false
set_option linter.unusedSimpArgs false
open Go.RowKit Go.Shelf Go.Maps Oct Dev Jou Tx Geo Ino Bm
/-- The least block that is free, and whether there is one. -/
def lst (E : Im) (D : Secs) : Nat × Bool := leastB (D (fr E 3)) (E.bl + 1 : Nat) false
/-- With an indirect block that is new. -/
def newD (E : Im) (D : Secs) : Secs := upd (blkD E D (lst E D).1) (dq E (lst E D).1) (tellS [])
/-- What SetPage leaves. -/
def SP (E : Im) (D : Secs) (n : Nat) (x : InoT) (v : List Nat) (p : Nat) (s : ByteArray) (D' : Secs) (y : InoT) (us : List Nat) : Prop :=
  (pageB x v p ≠ 0 ∧ D' = upd (setIno E D n x) (dq E (pageB x v p)) s ∧ y = x ∧ us = v) ∨
  (∃ b, p < 4 ∧ pageB x v p = 0 ∧ 1 ≤ b ∧ b ≤ E.bl ∧ bitB (D (fr E 3)) b = false ∧ (setDir x p b).Ok ∧ D' = upd (setIno E (blkD E D b) n (setDir x p b)) (dq E b) s ∧ y = setDir x p b ∧ us = v) ∨
  (∃ b, 4 ≤ p ∧ x.ind ≠ 0 ∧ pageB x v p = 0 ∧ 1 ≤ b ∧ b ≤ E.bl ∧ bitB (D (fr E 3)) b = false ∧ D' = upd (setIno E (upd (blkD E D b) (dq E x.ind) (tellS (v.set (p - 4) b))) n x) (dq E b) s ∧ y = x ∧ us = v.set (p - 4) b) ∨
  (∃ d b, 4 ≤ p ∧ x.ind = 0 ∧ 1 ≤ d ∧ d ≤ E.bl ∧ bitB (D (fr E 3)) d = false ∧ 1 ≤ b ∧ b ≤ E.bl ∧ bitB ((upd (blkD E D d) (dq E d) (tellS [])) (fr E 3)) b = false ∧ ({ x with ind := d } : InoT).Ok ∧ D' = upd (setIno E (upd (blkD E (upd (blkD E D d) (dq E d) (tellS [])) b) (dq E d) (tellS ((List.replicate 32 0).set (p - 4) b))) n { x with ind := d }) (dq E b) s ∧ y = { x with ind := d } ∧ us = (List.replicate 32 0).set (p - 4) b)
theorem setDir_row {x : InoT} {p b : Nat} (hp : p < 4) : (setDir x p b).row = x.row.set p b := by
  match p, hp with
  | 0, _ => rfl
  | 1, _ => rfl
  | 2, _ => rfl
  | 3, _ => rfl
theorem setDir_same {x : InoT} {p b : Nat} (hp : p < 4) : (setDir x p b).kind = x.kind ∧ (setDir x p b).links = x.links ∧ (setDir x p b).size = x.size := by
  match p, hp with
  | 0, _ => exact ⟨rfl, rfl, rfl⟩
  | 1, _ => exact ⟨rfl, rfl, rfl⟩
  | 2, _ => exact ⟨rfl, rfl, rfl⟩
  | 3, _ => exact ⟨rfl, rfl, rfl⟩
/-- One block more may be. -/
theorem used_set {x y : InoT} {p b : Nat} (h : x.Used) (e1 : y.kind = x.kind) (e2 : y.links = x.links) (e3 : y.size = x.size) (er : y.row = x.row.set p b) (hp : p * 64 < x.size) (hb : b ∉ x.row) (hlt : b < 65536) : y.Ok := by
  refine .inr ⟨by rw [e1]; exact h.kind, by rw [e2]; exact h.links, by rw [e3]; exact h.size, by rw [e1, e3]; exact h.dir, ?_, ?_⟩
  · rw [e3, er]
    refine okRow_set h.row ?_ hb
    unfold pagesN
    omega
  · intro v hv
    rw [er] at hv
    rcases List.mem_or_eq_of_mem_set hv with q | q
    · exact h.lt v q
    · rw [q]
      exact hlt
theorem row_mem {x : InoT} {b : Nat} (h : b ∈ x.row) : b ∈ dirL x ∨ b = x.ind := by
  unfold InoT.row at h
  unfold dirL
  simp only [List.mem_cons, List.not_mem_nil, or_false] at h ⊢
  omega
section
variable {E : Im} {D : Secs} {ino : Nat → InoT} {vs : Nat → List Nat}
theorem Owns.notRow (h : Owns E D ino vs) {n b : Nat} (h1 : 1 ≤ n) (hn : n ≤ E.i) (hb1 : 1 ≤ b) (hb2 : b ≤ E.bl) (hbit : bitB (D (fr E 3)) b = false) : b ∉ (ino n).row := fun hm => by
  refine h.free b hb1 hb2 hbit n h1 hn ((mem_blks (h.ind n h1 hn).len b).2 ⟨by omega, ?_⟩)
  rcases row_mem hm with q | q
  · exact .inl q
  · exact .inr (.inr q)
theorem SP.owns {n p : Nat} {s : ByteArray} {D' : Secs} {y : InoT} {us : List Nat} (h : Owns E D ino vs) (hs : Small E) (h1 : 1 ≤ n) (hn : n ≤ E.i) (hsz : (D (tq E n)).size = 64) (hs3 : (D (fr E 3)).size = 64) (hp : p < 36) (g : SP E D n (ino n) (vs n) p s D' y us) : Owns E D' (put_ ino n y) (put_ vs n us) := by
  rcases g with ⟨g1, rfl, rfl, rfl⟩ | ⟨b, g1, g2, g3, g4, g5, g6, rfl, rfl, rfl⟩ | ⟨b, g1, g2, g3, g4, g5, g6, rfl, rfl, rfl⟩ | ⟨d, b, g1, g2, g3, g4, g5, g6, g7, g8, g9, rfl, rfl, rfl⟩
  · exact h.have_ hs n p s h1 hn hsz g1
  · exact h.lo hs n p b s h1 hn hsz hs3 g1 g2 g3 g4 g5 g6
  · exact h.hi hs n p b s _ rfl h1 hn hsz hs3 g1 hp g2 g3 g4 g5 g6
  · exact h.new hs n p d b s _ _ rfl rfl h1 hn hsz hs3 g1 hp g2 g3 g4 g5 g6 g7 g8 g9
theorem SP.same {n p : Nat} {x : InoT} {v : List Nat} {s : ByteArray} {D' : Secs} {y : InoT} {us : List Nat} (g : SP E D n x v p s D' y us) : y.kind = x.kind ∧ y.links = x.links ∧ y.size = x.size := by
  rcases g with ⟨g1, rfl, rfl, rfl⟩ | ⟨b, g1, g2, g3, g4, g5, g6, rfl, rfl, rfl⟩ | ⟨b, g1, g2, g3, g4, g5, g6, rfl, rfl, rfl⟩ | ⟨d, b, g1, g2, g3, g4, g5, g6, g7, g8, g9, rfl, rfl, rfl⟩
  · exact ⟨rfl, rfl, rfl⟩
  · exact setDir_same g1
  · exact ⟨rfl, rfl, rfl⟩
  · exact ⟨rfl, rfl, rfl⟩
end
section
variable {E : Im} {D : Secs} {Z : Nat → Prop} {Q : Prop} {ino : Nat → InoT} {vs : Nat → List Nat}
theorem Owns.least (h : Owns E D ino vs) {b : Nat} (hL : leastB (D (fr E 3)) (E.bl + 1 : Nat) false = (b, true)) : 1 ≤ b ∧ b ≤ E.bl ∧ bitB (D (fr E 3)) b = false := by
  obtain ⟨a, c⟩ := leastB_get hL
  have hz := h.zero
  refine ⟨?_, by omega, c⟩
  rcases Nat.eq_zero_or_pos b with q | q
  · rw [q, hz] at c
    cases c
  · exact q
theorem setPage_cases (n p : Nat) (s : ByteArray) (w : World) (hs : Small E) (h : IS w E D Z) (o : Owns E D ino vs) (h1 : 1 ≤ n) (hn : n ≤ E.i) (hk : (ino n).kind ≠ 0) (hp : p * 64 < (ino n).size) (h64 : s.size = 64)
    (hz3 : Z (fr E 3)) (hzt : Z (tq E n)) (hz : ∀ b, 1 ≤ b → b ≤ E.bl → (b = pageB (ino n) (vs n) p ∨ b = (ino n).ind ∨ b = (lst E D).1 ∨ b = (lst E (newD E D)).1) → Z (dq E b)) (hQ : FullE E Z → Q) (hN : ((lst E D).2 = false ∨ (lst E (newD E D)).2 = false) → Q) :
    Calls Tryz.prog 23 #[.pointer (some ⟨E.M, 0, none⟩), .int .u32 n, .int .i64 p, .string s] w (Out (.int .i64 0) (.int .i64 4) (fun W => ∃ D' y us, SP E D n (ino n) (vs n) p (cutS s (min 64 ((ino n).size - p * 64))) D' y us ∧ Wr E D' Z w W) (Fu E Q w)) := by
  have hok := o.ok n h1 hn
  have hu : (ino n).Used := hok.resolve_left (fun e => hk (by rw [e]; rfl))
  have hp36 : p < 36 := by have := hu.size; omega
  have hv := o.ind n h1 hn
  have hi := o.ing n h1 hn
  have hbl := hs.hb
  have hl := hs.may
  have hs3 : (D (fr E 3)).size = 64 := h.sec (fr_lt hs h (.inr rfl))
  have hb8 : 1 ≤ E.bl := by simp [mayG, inR] at hl; omega
  have main : ∀ (b : Nat) (y : InoT) (D1 : Secs) (us : List Nat), y.Ok → 1 ≤ b → b ≤ E.bl → Z (dq E b) → SP E D n (ino n) (vs n) p (cutS s (min 64 ((ino n).size - p * 64))) (upd (setIno E D1 n y) (dq E b) (cutS s (min 64 ((ino n).size - p * 64)))) y us →
      (∀ W, IS W E D Z → Calls Tryz.prog 67 #[.pointer (some ⟨E.M, 0, none⟩), (ino n).val, .int .i64 p] W (HomePost E D1 Z Q y b W)) →
      Calls Tryz.prog 23 #[.pointer (some ⟨E.M, 0, none⟩), .int .u32 n, .int .i64 p, .string s] w (Out (.int .i64 0) (.int .i64 4) (fun W => ∃ D' y us, SP E D n (ino n) (vs n) p (cutS s (min 64 ((ino n).size - p * 64))) D' y us ∧ Wr E D' Z w W) (Fu E Q w)) := by
    intro b y D1 us hy hb1 hb2 hzb hsp HM
    refine (setPage_is n p b (ino n) y s w hs h h1 hn (o.is n h1 hn) hok hk hp h64 hy hb1 hb2 hzt hzb hQ HM).mono ?_
    rintro e W (⟨rfl, g⟩ | g)
    · exact .inl ⟨rfl, _, y, us, hsp, g⟩
    · exact .inr g
  have none_ : (∀ W, IS W E D (fun _ => True) → Calls Tryz.prog 67 #[.pointer (some ⟨E.M, 0, none⟩), (ino n).val, .int .i64 p] W (fun e w' => (∃ v u : Value, e = .returned (.tuple #[v, u, .int .i64 4]) ∧ ∃ z : InoT, v = z.val) ∧ Fu E True W w')) → Q →
      Calls Tryz.prog 23 #[.pointer (some ⟨E.M, 0, none⟩), .int .u32 n, .int .i64 p, .string s] w (Out (.int .i64 0) (.int .i64 4) (fun W => ∃ D' y us, SP E D n (ino n) (vs n) p (cutS s (min 64 ((ino n).size - p * 64))) D' y us ∧ Wr E D' Z w W) (Fu E Q w)) := by
    intro HN q
    have hT : IS w E D (fun _ => True) := h.mono (fun _ _ => trivial)
    refine (setPage_is (Z := fun _ => True) (Q := Q) (D' := fun _ => ⟨#[]⟩) n p 1 (ino n) (ino n) s w hs hT h1 hn (o.is n h1 hn) hok hk hp h64 hok (Nat.le_refl 1) hb8 trivial trivial (fun _ => q) (fun W hW => (HN W hW).mono (fun e w' g => .inr ⟨g.1, ⟨q, g.2.1.2⟩, g.2.2⟩))).mono ?_
    rintro e W (⟨rfl, g⟩ | g)
    · have e3 := g.1.sec (fr_lt hs g.1 (.inr rfl))
      rw [upd_ne _ _ (q_dq3 hs (Nat.le_refl 1)).symm, setIno_q (q_tq3 hs n).symm] at e3
      exact absurd e3 (by decide)
    · exact .inr g
  by_cases hpb : pageB (ino n) (vs n) p = 0
  · by_cases h4 : p < 4
    · obtain ⟨b, r, hL⟩ : ∃ b r, lst E D = (b, r) := ⟨_, _, rfl⟩
      cases r with
      | true =>
        obtain ⟨b1, b2, b3⟩ := o.least hL
        have hy : (setDir (ino n) p b).Ok := used_set hu (setDir_same h4).1 (setDir_same h4).2.1 (setDir_same h4).2.2 (setDir_row h4) hp (o.notRow h1 hn b1 b2 b3) (by omega)
        exact main b (setDir (ino n) p b) (blkD E D b) (vs n) hy b1 b2 (hz b b1 b2 (.inr (.inr (.inl (by rw [hL]))))) (.inr (.inl ⟨b, h4, hpb, b1, b2, b3, hy, rfl, rfl, rfl⟩))
          (fun W hW => home_lo p b (ino n) (vs n) W hs hW hi hv h4 hpb hL b1 b2 hz3 (hz b b1 b2 (.inr (.inr (.inl (by rw [hL]))))) hQ)
      | false =>
        have hL2 : (lst E D).2 = false := by rw [hL]
        exact none_ (fun W hW => (home_none p (ino n) (vs n) W hs hW hi hv hp36 (.inl h4) hpb hL2).mono (fun e w' g => ⟨g.1, Fu.of_below trivial g.2⟩)) (hN (.inl hL2))
    · by_cases h0 : (ino n).ind = 0
      · obtain ⟨d, r, hL⟩ : ∃ b r, lst E D = (b, r) := ⟨_, _, rfl⟩
        cases r with
        | true =>
          obtain ⟨d1, d2, d3⟩ := o.least hL
          have hnd : newD E D = upd (blkD E D d) (dq E d) (tellS []) := by unfold newD; rw [hL]
          have h32 : (upd (blkD E D d) (dq E d) (tellS [])) (fr E 3) = setB (D (fr E 3)) d true := by rw [upd_ne _ _ (q_dq3 hs d1).symm, blkD_fr hs d1]
          have hk3 : ∀ k, bitB ((upd (blkD E D d) (dq E d) (tellS [])) (fr E 3)) k = if k = d then true else bitB (D (fr E 3)) k := fun k => by rw [h32]; exact bitB_setB _ _ _ _ (by omega)
          have hv1 : IndIs E (upd (blkD E D d) (dq E d) (tellS [])) d (List.replicate 32 0) := ⟨List.length_replicate .., fun v hv => by rw [List.eq_of_mem_replicate hv]; exact Nat.zero_le _, fun _ => rfl, fun _ => by rw [upd_same]; exact tellS_nil⟩
          obtain ⟨b, r, hL2⟩ : ∃ b r, lst E (newD E D) = (b, r) := ⟨_, _, rfl⟩
          have hzd := hz d d1 d2 (.inr (.inr (.inl (by rw [hL]))))
          cases r with
          | true =>
            have hzb : 1 ≤ b → b ≤ E.bl → Z (dq E b) := fun b1 b2 => hz b b1 b2 (.inr (.inr (.inr (by rw [hL2]))))
            rw [hnd] at hL2
            obtain ⟨b2, b3⟩ := leastB_get hL2
            have b1 : 1 ≤ b := by
              rcases Nat.eq_zero_or_pos b with q | q
              · rw [q, hk3, if_neg (by omega), o.zero] at b3
                cases b3
              · exact q
            have hbd : b ≠ d := fun e => by
              rw [hk3, if_pos e] at b3
              cases b3
            have hy : ({ ino n with ind := d } : InoT).Ok := used_set (b := d) hu rfl rfl rfl (p := 4) rfl (by omega) (o.notRow h1 hn d1 d2 d3) (by omega)
            have hv2 : IndIs E (blkD E (upd (blkD E D d) (dq E d) (tellS [])) b) d (List.replicate 32 0) := ind_frame hv1 (fun _ => blkD_ne hs (q_dq3 hs d1) (fun e => hbd (dq_inj hs d1 b1 e).symm))
            exact main b { ino n with ind := d } _ _ hy b1 (by omega) (hzb b1 (by omega)) (.inr (.inr (.inr ⟨d, b, by omega, h0, d1, d2, d3, b1, by omega, b3, hy, rfl, rfl, rfl⟩)))
              (fun W hW => home_new p d b (ino n) W _ hs hW hi h0 (by omega) hp36 hL d1 d2 rfl hv1 hv2 hL2 b1 (by omega) hz3 hzd (hzb b1 (by omega)) hQ)
          | false =>
            have hq := hN (.inr (by rw [hL2]))
            rw [hnd] at hL2
            have hL3 : (leastB ((upd (blkD E D d) (dq E d) (tellS [])) (fr E 3)) (E.bl + 1 : Nat) false).2 = false := by
              show (lst E (upd (blkD E D d) (dq E d) (tellS []))).2 = false
              rw [hL2]
            exact none_ (fun W hW => home_new_none (Z := fun _ => True) p d (ino n) W _ hs hW hi h0 (by omega) hp36 hL d1 d2 rfl hv1 hL3 trivial trivial) hq
        | false =>
          have hL2 : (lst E D).2 = false := by rw [hL]
          exact none_ (fun W hW => (home_none0 p (ino n) W hs hW hp36 (by omega) h0 hL2).mono (fun e w' g => ⟨g.1, Fu.of_below trivial g.2⟩)) (hN (.inl hL2))
      · obtain ⟨b, r, hL⟩ : ∃ b r, lst E D = (b, r) := ⟨_, _, rfl⟩
        cases r with
        | true =>
          obtain ⟨b1, b2, b3⟩ := o.least hL
          have hv2 : IndIs E (blkD E D b) (ino n).ind (vs n) := ind_frame hv (fun k => blkD_ne hs (q_dq3 hs (by omega)) (fun e => o.freeInd b b1 b2 b3 n h1 hn (dq_inj hs (by omega) b1 e)))
          have hzn : Z (dq E (ino n).ind) := hz _ (by omega) hi.2.2.2.2 (.inr (.inl rfl))
          have hzb := hz b b1 b2 (.inr (.inr (.inl (by rw [hL]))))
          exact main b (ino n) _ _ hok b1 b2 hzb (.inr (.inr (.inl ⟨b, by omega, h0, hpb, b1, b2, b3, rfl, rfl, rfl⟩)))
            (fun W hW => home_hi p b (ino n) (vs n) W hs hW hi hv hv2 (by omega) hp36 (by omega) hzn hpb hL b1 b2 hz3 hzb hQ)
        | false =>
          have hL2 : (lst E D).2 = false := by rw [hL]
          exact none_ (fun W hW => (home_none p (ino n) (vs n) W hs hW hi hv hp36 (.inr h0) hpb hL2).mono (fun e w' g => ⟨g.1, Fu.of_below trivial g.2⟩)) (hN (.inl hL2))
  · have hm : pageB (ino n) (vs n) p ∈ blks (ino n) (vs n) := (mem_blks hv.len _).2 ⟨hpb, (pageB_mem hpb).elim .inl (fun q => .inr (.inl q))⟩
    have hle := o.blk_le h1 hn hm
    have h04 : p < 4 ∨ (ino n).ind ≠ 0 := by
      rcases Nat.lt_or_ge p 4 with q | q
      · exact .inl q
      · refine .inr (fun e => hpb ?_)
        obtain ⟨hq, hv4⟩ := pageB_hi (x := ino n) (vs := vs n) q hv.len hp36
        have hmem : (vs n)[p - 4] ∈ vs n := List.getElem_mem hq
        have hz0 : ∀ v, v ∈ vs n → v = 0 := fun v hm => by
          rw [hv.no e] at hm
          exact List.eq_of_mem_replicate hm
        rw [hv4]
        exact hz0 _ hmem
    exact main (pageB (ino n) (vs n) p) (ino n) D (vs n) hok hle.1 hle.2 (hz _ hle.1 hle.2 (.inl rfl)) (.inl ⟨hpb, rfl, rfl, rfl⟩)
      (fun W hW => home_have p (ino n) (vs n) W hs hW hi hv hp36 hpb h04)
end
end Go.Proofs.YtpnfkilfgdnogaaGreatDoor.Img
end

/- Layer 11 (image): SetPage and Resize, whatever is asked, over the owners. -/
section
namespace Go.Proofs.YtpnfkilfgdnogaaGreatDoor.Img
set_option linter.unusedVariables false
set_option linter.unusedSimpArgs false
open Go.RowKit Go.Shelf Go.Maps Oct Dev Jou Tx Geo Ino Bm
def Every : Nat → Prop := fun _ => True
/-- Each block that is taken has one owner. -/
def Whole (E : Im) (W : World) : Prop := ∃ D ino vs, IS W E D Every ∧ Owns E D ino vs
/-- An answer; all is whole, but behind ErrFull. -/
def Ans (E : Im) (w : World) (e : Ending) (w' : World) : Prop := ∃ c : Int, e = .returned (.int .i64 c) ∧ Tch (fun c => c = E.T.m) w w' ∧ (c ≠ 4 → Whole E w')
section
variable {E : Im} {D : Secs} {ino : Nat → InoT} {vs : Nat → List Nat}
theorem Whole.later {W W' : World} (h : Whole E W) (hb : Below W.heap.size W W') : Whole E W' := by
  obtain ⟨D, ino, vs, h1, h2⟩ := h
  exact ⟨D, ino, vs, h1.later hb, h2⟩
theorem Ans.below {w w' : World} (c : Int) (h : Whole E w) (hb : Below w.heap.size w w') : Ans E w (.returned (.int .i64 c)) w' := ⟨c, rfl, Tch.of_below hb, fun _ => h.later hb⟩
/-- A page that there is is set. -/
theorem setPage_good (n p : Nat) (s : ByteArray) (w : World) (hs : Small E) (h : IS w E D Every) (o : Owns E D ino vs) (h1 : 1 ≤ n) (hn : n ≤ E.i) (hk : (ino n).kind ≠ 0) (hp : p * 64 < (ino n).size) (h64 : s.size = 64) :
    Calls Tryz.prog 23 #[.pointer (some ⟨E.M, 0, none⟩), .int .u32 n, .int .i64 p, .string s] w (Out (.int .i64 0) (.int .i64 4) (fun W => (∃ D' y us, IS W E D' Every ∧ Owns E D' (put_ ino n y) (put_ vs n us) ∧ y.kind = (ino n).kind ∧ y.size = (ino n).size) ∧ Tch (fun c => c = E.T.m) w W) (fun W => Tch (fun c => c = E.T.m) w W)) := by
  have hok := o.ok n h1 hn
  have hu : (ino n).Used := hok.resolve_left (fun e => hk (by rw [e]; rfl))
  refine (setPage_cases (Q := True) n p s w hs h o h1 hn hk hp h64 trivial trivial (fun _ _ _ _ => trivial) (fun _ => trivial) (fun _ => trivial)).mono ?_
  rintro e W (⟨rfl, D', y, us, g, g2⟩ | ⟨rfl, g⟩)
  · refine .inl ⟨rfl, ⟨D', y, us, g2.1, ?_, g.same.1, g.same.2.2⟩, g2.2⟩
    exact g.owns o hs h1 hn (h.sec (tq_lt hs h.len h1 hn)) (h.sec (fr_lt hs h (.inr rfl))) (by have := hu.size; omega)
  · exact .inr ⟨rfl, g.2⟩
theorem setPage_any (n : Nat) (p : Int) (s : ByteArray) (w : World) (hs : Small E) (h : Whole E w) (hn : n < 4294967296) (h64 : s.size = 64) :
    Calls Tryz.prog 23 #[.pointer (some ⟨E.M, 0, none⟩), .int .u32 n, .int .i64 p, .string s] w (Ans E w) := by
  obtain ⟨D, ino, vs, g, o⟩ := h
  by_cases hb : n < 1 ∨ E.i < n
  · refine (setPage_bad n p s w hs g hn hb).mono ?_
    rintro e w' ⟨rfl, b⟩
    exact Ans.below 2 ⟨D, ino, vs, g, o⟩ b
  · have h1 : 1 ≤ n := by omega
    have h2 : n ≤ E.i := by omega
    by_cases hk : (ino n).kind = 0
    · refine (setPage_free n p s (ino n) w hs g h1 h2 (o.is n h1 h2) (o.ok n h1 h2) hk).mono ?_
      rintro e w' ⟨rfl, b⟩
      exact Ans.below 3 ⟨D, ino, vs, g, o⟩ b
    · by_cases hp : p < 0 ∨ 36 ≤ p ∨ ((ino n).size : Int) ≤ p * 64
      · refine (setPage_arg n p s (ino n) w hs g h1 h2 (o.is n h1 h2) (o.ok n h1 h2) hk h64 hp).mono ?_
        rintro e w' ⟨rfl, b⟩
        exact Ans.below 2 ⟨D, ino, vs, g, o⟩ b
      · obtain ⟨q, rfl⟩ : ∃ q : Nat, p = q := ⟨p.toNat, by omega⟩
        refine (setPage_good n q s w hs g o h1 h2 hk (by omega) h64).mono ?_
        rintro e W (⟨rfl, ⟨D', y, us, a1, a2, _⟩, t⟩ | ⟨rfl, t⟩)
        · exact ⟨0, rfl, t, fun _ => ⟨D', _, _, a1, a2⟩⟩
        · exact ⟨4, rfl, t, fun q => absurd rfl q⟩
/-- A size that may be is set. -/
theorem resize_good (n s : Nat) (w : World) (hs : Small E) (h : IS w E D Every) (o : Owns E D ino vs) (h1 : 1 ≤ n) (hn : n ≤ E.i) (hk : (ino n).kind ≠ 0) (hl : s ≤ 2304) (hd : (ino n).kind = 2 → s % 64 = 0) :
    Calls Tryz.prog 22 #[.pointer (some ⟨E.M, 0, none⟩), .int .u32 n, .int .u32 s] w (Out (.int .i64 0) (.int .i64 4) (fun W => (∃ D' y us, IS W E D' Every ∧ Owns E D' (put_ ino n y) (put_ vs n us) ∧ y.kind = (ino n).kind ∧ y.size = s) ∧ Tch (fun c => c = E.T.m) w W) (fun W => Tch (fun c => c = E.T.m) w W)) := by
  have hok := o.ok n h1 hn
  have hu : (ino n).Used := hok.resolve_left (fun e => hk (by rw [e]; rfl))
  have hs3 : (D (fr E 3)).size = 64 := h.sec (fr_lt hs h (.inr rfl))
  have hst := h.sec (tq_lt hs h.len h1 hn)
  refine (resize_is (Q := True) n s (ino n) (vs n) w hs h h1 hn (o.is n h1 hn) hok hk (o.ing n h1 hn) (o.ind n h1 hn) hl hd (o.hfr hs n _ h1 hn hs3) (cutEnd_ok hu hl hd) (cutEnd_ing (o.ing n h1 hn)) (o.hyv hs n _ h1 hn) trivial trivial (fun _ _ _ _ => trivial) (fun _ => trivial)).mono ?_
  rintro e W (⟨rfl, g⟩ | ⟨rfl, g⟩)
  · refine .inl ⟨rfl, ⟨_, _, _, g.1, o.rsz hs n s h1 hn hst hs3 hu hl hd, ?_, rfl⟩, g.2⟩
    unfold sized cutEnd
    split <;> rfl
  · exact .inr ⟨rfl, g.2⟩
theorem resize_any (n s : Nat) (w : World) (hs : Small E) (h : Whole E w) (hn : n < 4294967296) (hs32 : s < 4294967296) :
    Calls Tryz.prog 22 #[.pointer (some ⟨E.M, 0, none⟩), .int .u32 n, .int .u32 s] w (Ans E w) := by
  obtain ⟨D, ino, vs, g, o⟩ := h
  by_cases hb : n < 1 ∨ E.i < n
  · refine (resize_bad n s w hs g hn hb).mono ?_
    rintro e w' ⟨rfl, b⟩
    exact Ans.below 2 ⟨D, ino, vs, g, o⟩ b
  · have h1 : 1 ≤ n := by omega
    have h2 : n ≤ E.i := by omega
    by_cases hk : (ino n).kind = 0
    · refine (resize_free n s (ino n) w hs g h1 h2 (o.is n h1 h2) (o.ok n h1 h2) hk).mono ?_
      rintro e w' ⟨rfl, b⟩
      exact Ans.below 3 ⟨D, ino, vs, g, o⟩ b
    · by_cases hp : 2304 < s ∨ ((ino n).kind = 2 ∧ s % 64 ≠ 0)
      · refine (resize_arg n s (ino n) w hs g h1 h2 (o.is n h1 h2) (o.ok n h1 h2) hk hs32 hp).mono ?_
        rintro e w' ⟨rfl, b⟩
        exact Ans.below 2 ⟨D, ino, vs, g, o⟩ b
      · refine (resize_good n s w hs g o h1 h2 hk (by omega) (fun q => Classical.byContradiction fun r => hp (.inr ⟨q, r⟩))).mono ?_
        rintro e W (⟨rfl, ⟨D', y, us, a1, a2, _⟩, t⟩ | ⟨rfl, t⟩)
        · exact ⟨0, rfl, t, fun _ => ⟨D', _, _, a1, a2⟩⟩
        · exact ⟨4, rfl, t, fun q => absurd rfl q⟩
/-- A directory's text is another one. -/
theorem change_any (n : Nat) (a b : ByteArray) (w : World) (hs : Small E) (h : IS w E D Every) (o : Owns E D ino vs) (h1 : 1 ≤ n) (hn : n ≤ E.i) (hk : (ino n).kind = 2) (ha : a.size = (ino n).size) (hb : b.size ≤ 2304) (hb2 : b.size % 64 = 0) :
    Calls Tryz.prog 78 #[.pointer (some ⟨E.M, 0, none⟩), .int .u32 n, .string a, .string b] w (Ans E w) := by
  have hok := o.ok n h1 hn
  have hu : (ino n).Used := hok.resolve_left (fun e => by rw [e] at hk; cases hk)
  have hsz := hu.size
  refine (change_gen E.M n a b w (fun _ W => (∃ D ino vs, IS W E D Every ∧ Owns E D ino vs ∧ (ino n).kind = 2 ∧ b.size ≤ (ino n).size) ∧ Tch (fun c => c = E.T.m) w W) (fun W => Tch (fun c => c = E.T.m) w W) (by omega) (by omega) ?_ ?_ ?_ ?_).mono ?_
  · rintro k W W' ⟨⟨D, ino, vs, g1, g2⟩, t⟩ hb
    exact ⟨⟨D, ino, vs, g1.later hb, g2⟩, t.trans (Tch.of_below hb)⟩
  · intro hab
    refine (resize_good n b.size w hs h o h1 hn (by omega) hb (fun _ => hb2)).mono ?_
    rintro e W (⟨rfl, ⟨D', y, us, a1, a2, a3, a4⟩, t⟩ | ⟨rfl, t⟩)
    · exact .inl ⟨rfl, ⟨D', _, _, a1, a2, by rw [put_same, a3]; exact hk, by rw [put_same, a4]; exact Nat.le_refl _⟩, t⟩
    · exact .inr ⟨rfl, t⟩
  · intro hab
    exact ⟨⟨D, ino, vs, h, o, hk, by omega⟩, Tch.of_below (Below.refl _ _)⟩
  · rintro k hk2 W ⟨⟨D, ino, vs, g1, g2, g3, g4⟩, t⟩
    refine ⟨fun _ => ⟨⟨D, ino, vs, g1, g2, g3, g4⟩, t⟩, fun _ => ?_⟩
    have hc : (chunk b k).size = 64 := by
      unfold chunk
      rw [ByteArray.size_extract]
      omega
    refine (setPage_good n k (chunk b k) W hs g1 g2 h1 hn (by omega) (by omega) hc).mono ?_
    rintro e W2 (⟨rfl, ⟨D', y, us, a1, a2, a3, a4⟩, t2⟩ | ⟨rfl, t2⟩)
    · exact .inl ⟨rfl, ⟨D', _, _, a1, a2, by rw [put_same, a3]; exact g3, by rw [put_same, a4]; exact g4⟩, t.trans t2⟩
    · exact .inr ⟨rfl, t.trans t2⟩
  · rintro e W (⟨rfl, ⟨D, ino, vs, g1, g2, _⟩, t⟩ | ⟨rfl, t⟩)
    · exact ⟨0, rfl, t, fun _ => ⟨D, ino, vs, g1, g2⟩⟩
    · exact ⟨4, rfl, t, fun q => absurd rfl q⟩
end
end Go.Proofs.YtpnfkilfgdnogaaGreatDoor.Img
end

/- Layer 11 (image): Enter and Leave, over the owners. -/
section
namespace Go.Proofs.YtpnfkilfgdnogaaGreatDoor.Img
set_option linter.unusedVariables false
set_option linter.unusedSimpArgs false
open Go.RowKit Go.Shelf Go.Maps Oct Dev Jou Tx Geo Ino Bm
set_option maxRecDepth 100000 in
set_option maxHeartbeats 1000000 in
theorem enter_go (M n i : Nat) (nm s t : ByteArray) (c : Int) (w : World) (R : Int → World → Prop)
    (hT : Calls Tryz.prog 16 #[.pointer (some ⟨M, 0, none⟩), .int .u32 n] w fun e w' => e = .returned (.tuple #[.string s, .int .i64 0]) ∧ Below w.heap.size w w')
    (hA : ∀ W, Calls Tryz.prog 77 #[.string s, .string nm, .int .u32 i] W fun e w' => e = .returned (.tuple #[.string t, .int .i64 c]) ∧ Below W.heap.size W w')
    (hc : c ≠ 0 → ∀ W, Below w.heap.size w W → R c W)
    (hC : c = 0 → ∀ W, Below w.heap.size w W → Calls Tryz.prog 78 #[.pointer (some ⟨M, 0, none⟩), .int .u32 n, .string s, .string t] W fun e W' => ∃ c', e = .returned (.int .i64 c') ∧ R c' W')
    (hR : ∀ c W W', R c W → Below W.heap.size W W' → R c W') :
    Calls Tryz.prog 30 #[.pointer (some ⟨M, 0, none⟩), .int .u32 n, .string nm, .int .u32 i] w fun e W => ∃ c', e = .returned (.int .i64 c') ∧ R c' W := by
  have TX := Lib.hid hT
  have AD := Lib.hid hA
  have HR := Lib.hid hR
  clear hT hA hR
  go_enter Tryz.func30, Tryz.ntmps30
  go_wp2_with fail
  refine TX.out.mono ?_
  rintro e w1 ⟨rfl, b1⟩
  have B1 := Lib.hid b1
  clear b1
  go_wp2_with fail
  refine (AD.out _).mono ?_
  rintro e w2 ⟨rfl, b2⟩
  have B2 := Lib.hid (B1.out.trans (b2.mono B1.out.size))
  clear b2
  by_cases h0 : c = 0
  · have CH := Lib.hid (hC h0)
    subst h0
    clear hc hC
    go_wp2_with fail
    refine (CH.out _ B2.out).mono ?_
    rintro e w3 ⟨c', rfl, hr⟩
    have H3 := Lib.hid hr
    clear hr
    go_wp2
    go_ret
    exact ⟨c', rfl, H3.out⟩
  · have HC := Lib.hid (hc h0 _ B2.out)
    have t1 : (c != 0) = true := by simp; omega
    clear hc hC
    go_wp2
    go_ret
    exact ⟨c, rfl, HC.out⟩
set_option maxRecDepth 100000 in
set_option maxHeartbeats 1000000 in
theorem leave_go (M n v : Nat) (nm s t : ByteArray) (c : Int) (w : World) (R : Int → World → Prop)
    (hT : Calls Tryz.prog 16 #[.pointer (some ⟨M, 0, none⟩), .int .u32 n] w fun e w' => e = .returned (.tuple #[.string s, .int .i64 0]) ∧ Below w.heap.size w w')
    (hA : ∀ W, Calls Tryz.prog 79 #[.string s, .string nm] W fun e w' => e = .returned (.tuple #[.string t, .int .u32 v, .int .i64 c]) ∧ Below W.heap.size W w')
    (hc : c ≠ 0 → ∀ W, Below w.heap.size w W → R c W)
    (hC : c = 0 → ∀ W, Below w.heap.size w W → Calls Tryz.prog 78 #[.pointer (some ⟨M, 0, none⟩), .int .u32 n, .string s, .string t] W fun e W' => ∃ c', e = .returned (.int .i64 c') ∧ R c' W')
    (hR : ∀ c W W', R c W → Below W.heap.size W W' → R c W') :
    Calls Tryz.prog 31 #[.pointer (some ⟨M, 0, none⟩), .int .u32 n, .string nm] w fun e W => ∃ (u : Nat) (c' : Int), e = .returned (.tuple #[.int .u32 u, .int .i64 c']) ∧ R c' W ∧ (c' = 0 → u = v) := by
  have TX := Lib.hid hT
  have AD := Lib.hid hA
  have HR := Lib.hid hR
  clear hT hA hR
  go_enter Tryz.func31, Tryz.ntmps31
  go_wp2_with fail
  refine TX.out.mono ?_
  rintro e w1 ⟨rfl, b1⟩
  have B1 := Lib.hid b1
  clear b1
  go_wp2_with fail
  refine (AD.out _).mono ?_
  rintro e w2 ⟨rfl, b2⟩
  have B2 := Lib.hid (B1.out.trans (b2.mono B1.out.size))
  clear b2
  by_cases h0 : c = 0
  · have CH := Lib.hid (hC h0)
    subst h0
    clear hc hC
    go_wp2_with fail
    refine (CH.out _ B2.out).mono ?_
    rintro e w3 ⟨c', rfl, hr⟩
    have H3 := Lib.hid hr
    clear hr
    by_cases h1 : c' = 0
    · subst h1
      go_wp2
      go_ret2
      exact ⟨v, 0, rfl, H3.out, fun _ => rfl⟩
    · have t1 : (c' != 0) = true := by simp; omega
      go_wp2
      go_ret2
      exact ⟨0, c', rfl, H3.out, fun q => absurd q h1⟩
  · have HC := Lib.hid (hc h0 _ B2.out)
    have t0 : (c == 0) = false := by simp; omega
    have t1 : (c != 0) = true := by simp; omega
    clear hc hC
    go_wp2
    go_ret2
    exact ⟨0, c, rfl, HC.out, fun q => absurd q h0⟩
/-- What an answer leaves. -/
def AnsR (E : Im) (w : World) (c : Int) (W : World) : Prop := Tch (fun c => c = E.T.m) w W ∧ (c ≠ 4 → Whole E W)
theorem AnsR.later {E : Im} {w W W' : World} {c : Int} (h : AnsR E w c W) (hb : Below W.heap.size W W') : AnsR E w c W' := ⟨h.1.trans (Tch.of_below hb), fun q => (h.2 q).later hb⟩
section
variable {E : Im}
theorem textS_len {D : Secs} {Z : Nat → Prop} {x : InoT} {vs : List Nat} {w : World} (hs : Small E) (h : IS w E D Z) (hi : InG E.bl x) (hv : IndIs E D x.ind vs) : ∀ k, (textS E D x vs k).size = 64 * k
  | 0 => rfl
  | k + 1 => by
    have e : textS E D x vs (k + 1) = textS E D x vs k ++ pgS E D x vs k := rfl
    rw [e, ByteArray.size_append, textS_len hs h hi hv k, pgS_size hs h hi hv k]
    omega
theorem dir_size {x : InoT} (h : x.Used) (hk : x.kind = 2) : 64 * pagesN x.size = x.size := by
  have := h.dir hk
  unfold pagesN
  omega
theorem enter_any (n i : Nat) (nm : ByteArray) (w : World) (hs : Small E) (h : Whole E w) (hn : n < 4294967296) (hi : i < 4294967296) (hnm : nm.size ≤ maxLen) :
    Calls Tryz.prog 30 #[.pointer (some ⟨E.M, 0, none⟩), .int .u32 n, .string nm, .int .u32 i] w (Ans E w) := by
  obtain ⟨D, ino, vs, g, o⟩ := h
  by_cases hb : n < 1 ∨ E.i < n
  · refine (enter_no (E := E) n 2 nm i w (by decide) (text_bad n w hs g hn hb)).mono ?_
    rintro e w' ⟨rfl, b⟩
    exact Ans.below 2 ⟨D, ino, vs, g, o⟩ b
  · have h1 : 1 ≤ n := by omega
    have h2 : n ≤ E.i := by omega
    by_cases hk : (ino n).kind = 0
    · refine (enter_no (E := E) n 3 nm i w (by decide) (text_free n (ino n) w hs g h1 h2 (o.is n h1 h2) (o.ok n h1 h2) hk)).mono ?_
      rintro e w' ⟨rfl, b⟩
      exact Ans.below 3 ⟨D, ino, vs, g, o⟩ b
    · by_cases hk2 : (ino n).kind = 2
      · have hok := o.ok n h1 h2
        have hu : (ino n).Used := hok.resolve_left (fun e => hk (by rw [e]; rfl))
        have hsz := hu.size
        have TX := text_is n (ino n) (vs n) w hs g h1 h2 (o.is n h1 h2) hok hk2 (o.ing n h1 h2) (o.ind n h1 h2)
        have hts := (textS_len hs g (o.ing n h1 h2) (o.ind n h1 h2) (pagesN (ino n).size)).trans (dir_size hu hk2)
        generalize textS E D (ino n) (vs n) (pagesN (ino n).size) = s at *
        refine enter_go E.M n i nm s _ _ w (AnsR E w) TX (fun W => Dir.add_any s nm i W (by unfold maxLen; omega) hnm hi) ?_ ?_ (fun c W W' q b => q.later b)
        · intro hc W b
          exact ⟨Tch.of_below b, fun _ => ⟨D, ino, vs, g.later b, o⟩⟩
        · intro hc W b
          obtain ⟨_, es', _, e2, d⟩ := Dir.addR_yes hi hc
          rw [e2]
          have hz := Dir.enc_size d
          refine (change_any n s _ W hs (g.later b) o h1 h2 hk2 hts hz.2 hz.1).mono ?_
          rintro e W' ⟨c', rfl, t1, t2⟩
          exact ⟨c', rfl, (Tch.of_below b).trans t1, t2⟩
      · refine (enter_no (E := E) n 180 nm i w (by decide) (text_file n (ino n) w hs g h1 h2 (o.is n h1 h2) (o.ok n h1 h2) hk hk2)).mono ?_
        rintro e w' ⟨rfl, b⟩
        exact Ans.below 180 ⟨D, ino, vs, g, o⟩ b
/-- Leave's answer. -/
def AnsL (E : Im) (w : World) (e : Ending) (w' : World) : Prop := ∃ (u : Nat) (c : Int), e = .returned (.tuple #[.int .u32 u, .int .i64 c]) ∧ Tch (fun c => c = E.T.m) w w' ∧ (c ≠ 4 → Whole E w')
theorem AnsL.below {w w' : World} (c : Int) (h : Whole E w) (hb : Below w.heap.size w w') : AnsL E w (.returned (.tuple #[.int .u32 0, .int .i64 c])) w' := ⟨0, c, rfl, Tch.of_below hb, fun _ => h.later hb⟩
theorem leave_any (n : Nat) (nm : ByteArray) (w : World) (hs : Small E) (h : Whole E w) (hn : n < 4294967296) (hnm : nm.size ≤ maxLen) :
    Calls Tryz.prog 31 #[.pointer (some ⟨E.M, 0, none⟩), .int .u32 n, .string nm] w (AnsL E w) := by
  obtain ⟨D, ino, vs, g, o⟩ := h
  by_cases hb : n < 1 ∨ E.i < n
  · refine (leave_no (E := E) n 2 nm w (by decide) (text_bad n w hs g hn hb)).mono ?_
    rintro e w' ⟨rfl, b⟩
    exact AnsL.below 2 ⟨D, ino, vs, g, o⟩ b
  · have h1 : 1 ≤ n := by omega
    have h2 : n ≤ E.i := by omega
    by_cases hk : (ino n).kind = 0
    · refine (leave_no (E := E) n 3 nm w (by decide) (text_free n (ino n) w hs g h1 h2 (o.is n h1 h2) (o.ok n h1 h2) hk)).mono ?_
      rintro e w' ⟨rfl, b⟩
      exact AnsL.below 3 ⟨D, ino, vs, g, o⟩ b
    · by_cases hk2 : (ino n).kind = 2
      · have hok := o.ok n h1 h2
        have hu : (ino n).Used := hok.resolve_left (fun e => hk (by rw [e]; rfl))
        have hsz := hu.size
        have TX := text_is n (ino n) (vs n) w hs g h1 h2 (o.is n h1 h2) hok hk2 (o.ing n h1 h2) (o.ind n h1 h2)
        have hts := (textS_len hs g (o.ing n h1 h2) (o.ind n h1 h2) (pagesN (ino n).size)).trans (dir_size hu hk2)
        generalize textS E D (ino n) (vs n) (pagesN (ino n).size) = s at *
        refine (leave_go E.M n _ nm s _ _ w (AnsR E w) TX (fun W => Dir.del_any s nm W (by unfold maxLen; omega) hnm) ?_ ?_ (fun c W W' q b => q.later b)).mono ?_
        · intro hc W b
          exact ⟨Tch.of_below b, fun _ => ⟨D, ino, vs, g.later b, o⟩⟩
        · intro hc W b
          obtain ⟨_, es', _, e2, _, d⟩ := Dir.delR_yes hc
          rw [e2]
          have hz := Dir.enc_size d
          refine (change_any n s _ W hs (g.later b) o h1 h2 hk2 hts hz.2 hz.1).mono ?_
          rintro e W' ⟨c', rfl, t1, t2⟩
          exact ⟨c', rfl, (Tch.of_below b).trans t1, t2⟩
        · rintro e W ⟨u, c', rfl, r, _⟩
          exact ⟨u, c', rfl, r.1, r.2⟩
      · refine (leave_no (E := E) n 180 nm w (by decide) (text_file n (ino n) w hs g h1 h2 (o.is n h1 h2) (o.ok n h1 h2) hk hk2)).mono ?_
        rintro e w' ⟨rfl, b⟩
        exact AnsL.below 180 ⟨D, ino, vs, g, o⟩ b
end
end Go.Proofs.YtpnfkilfgdnogaaGreatDoor.Img
end

/- Layer 11's law ImageOwns: owned, walked, over what Free, Blocks and TakenBlock answer. -/
section
namespace Go.Proofs.YtpnfkilfgdnogaaGreatDoor.Img
set_option linter.unusedVariables false
set_option linter.unusedSimpArgs false
open Go.RowKit Go.Shelf Go.Maps Oct Dev Jou Tx Geo Ino Bm
/-- All blocks of the first inodes. -/
def flatL (L : Nat → List Nat) : Nat → List Nat
  | 0 => []
  | n + 1 => flatL L n ++ L (n + 1)
def u32R : ElemR := fun v => match v with
  | .int .u32 n => some (.lit (.int .u32 n), [])
  | _ => none
theorem u32R_mk (n : Int) : u32R (.int .u32 n) = some (.lit (.int .u32 n), []) := rfl
theorem u32R_inv {v : Value} {n : Int} {ps : List MemPlace} (h : u32R v = some (.lit (.int .u32 n), ps)) : v = .int .u32 n := by
  unfold u32R at h
  split at h
  · simp only [Option.some.injEq, Prod.mk.injEq, DataW.lit.injEq, Lit.int.injEq, true_and] at h
    rw [h.1]
  · cases h
theorem under_own : Tryz.prog.underlying 153 = some (.map 39 40) := by kernel_rfl
theorem zero_u32 (w : World) : (zeroValue 40).run Tryz.prog w = .ok (.int .u32 0) w := by kernel_rfl
/-- Nobody else's. -/
def NoOwn (f : Int → Option (DataW Unit)) (l : List Nat) : Prop := ∀ v : Nat, v ∉ l → f v = none
theorem own_look {W : World} {b nn : Nat} {f : Int → Option (DataW Unit)} (h : UMap W u32R b nn f) (v : Nat) (hv : v < 65536) (h0 : f v = none) :
    (Instr.lookup 153 (.map (some b)) (.int .u16 (v : Int)) false).run Tryz.prog W = .ok (.int .u32 0) W := by
  obtain ⟨y, ps, hrun, hy⟩ := h.look under_own (zero_u32 W) (u32R_mk 0) v (wf_u16 hv)
  rw [h0] at hy
  rw [hrun, u32R_inv hy]
theorem own_put {W : World} {b nn : Nat} {f : Int → Option (DataW Unit)} {l : List Nat} (h : UMap W u32R b nn f) (hn : nn < maxLen) (v i : Nat) (hv : v < 65536) (hf : NoOwn f l) :
    ∃ W' f', (Instr.mapUpdate 153 (.map (some b)) (.int .u16 (v : Int)) (.int .u32 i)).run Tryz.prog W = .ok () W' ∧ UMap W' u32R b (nn + 1) f' ∧ NoOwn f' (l ++ [v]) ∧ W.mapTurned W' b := by
  obtain ⟨W', hrun, r1, r2⟩ := h.put under_own hn v (wf_u16 hv) (u32R_mk i)
  refine ⟨W', _, hrun, r1, fun u hu => ?_, r2⟩
  rw [List.mem_append, List.mem_singleton] at hu
  unfold putU
  rw [if_neg (fun e => hu (.inr (by omega)))]
  exact hf u (fun q => hu (.inl q))
theorem Row16.kept {W W' : World} {g : Nat} {l : List Nat} {row : Option Nat} (h : Row16 W g l) (hg : W.grownBy W' row) (hne : some g ≠ row) : Row16 W' g l := by
  obtain ⟨cs, h1, h2⟩ := h
  exact ⟨cs, h1.kept hg hne, h2⟩
theorem flat_nodup {L : Nat → List Nat} {n : Nat} (h : (flatL L n).Nodup) : ∀ m, m ≤ n → (flatL L m).Nodup := by
  induction n with
  | zero =>
    intro m hm
    obtain rfl : m = 0 := by omega
    exact h
  | succ n ih =>
    intro m hm
    by_cases e : m = n + 1
    · subst e
      exact h
    · exact ih (List.nodup_append.1 h).1 m (by omega)
theorem flat_len (L : Nat → List Nat) (m : Nat) : ∀ n, m ≤ n → (flatL L m).length ≤ (flatL L n).length
  | 0, h => by
    obtain rfl : m = 0 := by omega
    exact Nat.le_refl _
  | n + 1, h => by
    by_cases e : m = n + 1
    · subst e
      exact Nat.le_refl _
    · have := flat_len L m n (by omega)
      have e2 : flatL L (n + 1) = flatL L n ++ L (n + 1) := rfl
      rw [e2, List.length_append]
      omega
theorem nodup_pre {F l : List Nat} (h : (F ++ l).Nodup) (q : Nat) (hq : q < l.length) : l[q] ∉ F ++ l.take q := by
  have e : l.take q ++ l[q] :: l.drop (q + 1) = l := by rw [← List.drop_eq_getElem_cons hq, List.take_append_drop]
  obtain ⟨h1, h2, h3⟩ := List.nodup_append.1 h
  intro hm
  rcases List.mem_append.1 hm with hm | hm
  · exact h3 _ hm _ (List.getElem_mem hq) rfl
  · rw [← e] at h2
    exact (List.nodup_append.1 h2).2.2 _ hm _ (List.mem_cons_self ..) rfl
set_option maxRecDepth 100000 in
set_option maxHeartbeats 4000000 in
theorem owned_gen (M ni bl j : Nat) (L : Nat → List Nat) (a fb : Int) (w : World)
    (HF : ∀ W, Below w.heap.size w W → Calls Tryz.prog 14 #[.pointer (some ⟨M, 0, none⟩)] W fun e w' => e = .returned (.tuple #[.int .i64 a, .int .i64 fb, .int .i64 0]) ∧ Below W.heap.size W w')
    (HB : ∀ i, 1 ≤ i → i ≤ ni → ∀ W, Below w.heap.size w W → Calls Tryz.prog 43 #[.pointer (some ⟨M, 0, none⟩), .int .u32 i] W fun e w' => ∃ v, e = .returned (.tuple #[v, .int .i64 0]) ∧ OwnL W.heap.size (L i) v w' ∧ Below W.heap.size W w')
    (HT : ∀ i, 1 ≤ i → i ≤ ni → ∀ b ∈ L i, b < 65536 ∧ ∀ W, Below w.heap.size w W → Calls Tryz.prog 37 #[.pointer (some ⟨M, 0, none⟩), .int .u16 b] W fun e w' => e = .returned (.tuple #[.bool true, .int .i64 0]) ∧ Below W.heap.size W w')
    (hnd : (flatL L ni).Nodup) (hn : ((flatL L ni).length : Int) = bl - fb) (hni : ni ≤ 30) (hbl : bl ≤ 60) (hfb : 0 ≤ fb ∧ fb ≤ 60) (hlen : ∀ i, 1 ≤ i → i ≤ ni → (L i).length ≤ 60) :
    Calls Tryz.prog 32 #[.pointer (some ⟨M, 0, none⟩), geoV ni bl j] w fun e w' => e = .returned (.bool true) ∧ Below w.heap.size w w' := by
  have HF := Lib.hid HF
  have HB := Lib.hid HB
  have HT := Lib.hid HT
  have hmm := @run_makeMap Tryz.prog
  have HB0 := Lib.hid ((Below.refl _ w).alloc (Nat.le_refl _) (.cells #[.int .i64 ni, .int .i64 bl, .int .i64 j] 23))
  have HG0 := Lib.hid (SBox.new w 23 #[.int .i64 ni, .int .i64 bl, .int .i64 j])
  unfold geoV
  go_enter Tryz.func32, Tryz.ntmps32
  go_wp2_with fail
  refine (HF.out _ HB0.out).mono ?_
  rintro e w1 ⟨rfl, b1⟩
  have B1 := Lib.hid (HB0.out.trans (b1.mono HB0.out.size))
  have HG1 := Lib.hid (HG0.out.later b1)
  clear b1
  have HM := Lib.hid (UMap.new w1 u32R)
  have B2 := Lib.hid (B1.out.alloc B1.out.size (.map #[] 0))
  have HG2 := Lib.hid (HG1.out.alloc (.map #[] 0))
  have hw1 := B1.out.size
  go_wp2_with fail
  go_loopw [9, 10] (fun n i wr => ∃ m : Nat, 1 ≤ m ∧ m ≤ ni + 1 ∧ i = .int .u32 m ∧ n = .int .i64 (flatL L (m - 1)).length ∧ (∃ nn f, nn ≤ (flatL L (m - 1)).length ∧ UMap wr u32R w1.heap.size nn f ∧ NoOwn f (flatL L (m - 1))) ∧ SBox wr w.heap.size 23 #[.int .i64 ni, .int .i64 bl, .int .i64 j] ∧ Below w.heap.size w wr) (fun _ i _ => 31 - (intOf i).toNat)
  case atStart => exact ⟨1, Nat.le_refl _, by omega, rfl, rfl, ⟨0, _, Nat.zero_le _, HM.out, fun _ _ => rfl⟩, HG2.out, B2.out⟩
  case round =>
    obtain ⟨m, hm1, hm2, rfl, rfl, hU, hG, hB⟩ := hrel
    have HU := Lib.hid hU
    have HGr := Lib.hid hG
    have HBr := Lib.hid hB
    have X0 := hG.cell 0
    have X1 := hG.cell 1
    have X2 := hG.cell 2
    simp only [List.getElem?_toArray, List.getElem?_cons_zero, List.getElem?_cons_succ] at X0 X1 X2
    have Xl := hG.lt
    clear hU hG hB
    by_cases hlt : m ≤ ni
    · have c1 : (m : Int) ≤ (ni : Int) := by omega
      have BL := Lib.hid (HB.out m hm1 hlt)
      go_wp2_with fail
      refine (BL.out _ HBr.out).mono ?_
      rintro e w2 ⟨v, rfl, hO, b2⟩
      obtain ⟨ao, cap, rfl, hrow⟩ : ∃ ao cap, v = .slice ao (L m).length cap ∧ ((L m).length = 0 ∨ ∃ g, ao = some ⟨g, 0, none⟩ ∧ wr.heap.size ≤ g ∧ Row16 w2 g (L m)) := by
        by_cases h0 : 0 < (L m).length
        · obtain ⟨g, cap, rfl, hge, _, hR⟩ := Row16.of_own hO h0
          exact ⟨_, cap, rfl, .inr ⟨g, rfl, hge, hR⟩⟩
        · rcases hO.2 with ⟨rfl, e0⟩ | ⟨g, cap, cur, rfl, _⟩
          · exact ⟨none, 0, by rw [e0], .inl (by omega)⟩
          · exact ⟨_, _, rfl, .inl (by omega)⟩
      obtain ⟨nn, f, hnn, hU, hNO⟩ := HU.out
      have HU2 := Lib.hid (hU.later b2)
      have HNO := Lib.hid hNO
      have HG2r := Lib.hid (HGr.out.later b2)
      have HB2 := Lib.hid (HBr.out.trans (b2.mono HBr.out.size))
      have HR2 := Lib.hid hrow
      have TB := Lib.hid (HT.out m hm1 hlt)
      have hmap : w1.heap.size < wr.heap.size := hU.lt
      have hgeo : w.heap.size < w1.heap.size := HG1.out.lt
      have hll := hlen m hm1 hlt
      have hfm : flatL L m = flatL L (m - 1) ++ L m := by
        obtain ⟨k, rfl⟩ : ∃ k, m = k + 1 := ⟨m - 1, by omega⟩
        rfl
      have hndm := flat_nodup hnd m hlt
      have hfl : (flatL L m).length ≤ 60 := by
        have := flat_len L m ni hlt
        omega
      have hfl1 : (flatL L (m - 1)).length + (L m).length ≤ 60 := by rw [hfm, List.length_append] at hfl; exact hfl
      rw [hfm] at hndm
      have HND := Lib.hid hndm
      have HFM := Lib.hid hfm
      clear hO b2 hU hNO hrow hndm hfm BL HU HGr HBr X0 X1 X2 Xl
      generalize flatL L (m - 1) = F at *
      generalize L m = lm at *
      go_wp2_with fail
      go_loopw [9, 13] (fun n k wi => ∃ q : Nat, q ≤ lm.length ∧ k = .int .i64 q ∧ n = .int .i64 ((F.length : Int) + q) ∧ (∃ nn f, nn ≤ F.length + q ∧ UMap wi u32R w1.heap.size nn f ∧ NoOwn f (F ++ lm.take q)) ∧ SBox wi w.heap.size 23 #[.int .i64 ni, .int .i64 bl, .int .i64 j] ∧ (lm.length = 0 ∨ ∃ g, ao = some ⟨g, 0, none⟩ ∧ wr.heap.size ≤ g ∧ Row16 wi g lm) ∧ Below w.heap.size w wi) (fun _ k _ => 61 - (intOf k).toNat)
      case atStart => exact ⟨0, Nat.zero_le _, rfl, by go_num, ⟨nn, f, by omega, HU2.out, by simpa using HNO.out⟩, HG2r.out, HR2.out, HB2.out⟩
      case round =>
        obtain ⟨q, hq, rfl, rfl, hU, hG, hR, hB⟩ := hrel
        have HBi := Lib.hid hB
        have HGi := Lib.hid hG
        by_cases hql : q < lm.length
        · obtain ⟨g, rfl, hge, hR⟩ := hR.resolve_left (by omega)
          have c1 := hR.cell q hql
          have gl := hR.lt
          have hmem : lm[q] ∈ lm := List.getElem_mem hql
          obtain ⟨hb16, TBq⟩ := TB.out _ hmem
          have TBq := Lib.hid TBq
          have hno : lm[q] ∉ F ++ lm.take q := nodup_pre HND.out q hql
          have htk : lm.take (q + 1) = lm.take q ++ [lm[q]] := by rw [List.take_succ_eq_append_getElem hql]
          have HTK := Lib.hid htk
          have HUi := Lib.hid hU
          have HRi := Lib.hid hR
          clear hU hR hG hB hmem htk
          generalize hbq : lm[q] = b at *
          have HBQ := Lib.hid hbq
          clear hbq
          have q0 : (0 : Int) ≤ q := by omega
          have q3 : (q : Int) < lm.length := by omega
          go_wp2_with fail
          refine (TBq.out _ HBi.out).mono ?_
          rintro e w3 ⟨rfl, b3⟩
          obtain ⟨nn2, f2, hnn2, hU2, hNO2⟩ := HUi.out
          have hU3 := hU2.later b3
          have hR3 := HRi.out.later b3
          have c3 := hR3.cell q hql
          rw [HBQ.out] at c3
          have hB3 := HBi.out.trans (b3.mono HBi.out.size)
          have hG3 := HGi.out.later b3
          have hlk := own_look hU3 b hb16 (hNO2 b hno)
          obtain ⟨w4, f4, hput, hU4, hNO4, ht4⟩ := own_put hU3 (by unfold maxLen; omega) b m hb16 hNO2
          have hG4 := Lib.hid (hG3.kept ht4.grown (fun e => by have e := Option.some.inj e; omega))
          have hR4 := Lib.hid (Row16.kept hR3 ht4.grown (fun e => by have e := Option.some.inj e; omega))
          have hB4 := Lib.hid (hB3.grown ht4.grown hB3.size (fun g e => by cases e; omega))
          have hU4 := Lib.hid hU4
          have hNO4 := Lib.hid (show NoOwn f4 (F ++ lm.take (q + 1)) by rw [HTK.out, ← List.append_assoc]; exact hNO4)
          have gl3 := hR3.lt
          clear hU2 hU3 hR3 hB3 hG3 hNO2 ht4 hnn HUi HRi
          go_wp2_with fail
          go_roundw
          case rel => exact ⟨q + 1, by omega, by go_num, by go_num, ⟨nn2 + 1, f4, by omega, hU4.out, hNO4.out⟩, hG4.out, .inr ⟨g, rfl, hge, hR4.out⟩, hB4.out⟩
          case measure => simp [intOf]; omega
        · obtain rfl : q = lm.length := by omega
          obtain ⟨nn2, f2, hnn2, hU2, hNO2⟩ := hU
          rw [List.take_length] at hNO2
          have HU4 := Lib.hid hU2
          have HNO4 := Lib.hid hNO2
          clear hU2 hNO2 hG hR hB hnn
          go_wp2_with fail
          go_roundw
          case rel => exact ⟨m + 1, by omega, by omega, by go_num, by rw [Nat.add_sub_cancel, HFM.out, List.length_append]; go_num, ⟨nn2, f2, by rw [Nat.add_sub_cancel, HFM.out, List.length_append]; omega, HU4.out, by rw [Nat.add_sub_cancel, HFM.out]; exact HNO4.out⟩, HGi.out, HBi.out⟩
          case measure => simp [intOf]; omega
    · obtain rfl : m = ni + 1 := by omega
      rw [Nat.add_sub_cancel]
      have hEq : (((flatL L ni).length : Int) == (bl : Int) - fb) = true := by simpa using hn
      generalize (flatL L ni).length = len at *
      have c1 : ¬ ((ni : Int) + 1 ≤ (ni : Int)) := by omega
      clear HU
      go_wp2_with fail
      go_ret
      exact ⟨rfl, HBr.out⟩
end Go.Proofs.YtpnfkilfgdnogaaGreatDoor.Img
end

/- Layer 11's law ImageOwns, plain: as many blocks are taken as the inodes have. -/
section
namespace Go.Proofs.YtpnfkilfgdnogaaGreatDoor.Img
set_option linter.unusedVariables false
set_option linter.unusedSimpArgs false
open Go.RowKit Go.Shelf Go.Maps Oct Dev Jou Tx Geo Ino Bm
/-- All blocks of the first inodes. -/
def allBlks (ino : Nat → InoT) (vs : Nat → List Nat) : Nat → List Nat := flatL (fun m => blks (ino m) (vs m))
theorem mem_allBlks {ino : Nat → InoT} {vs : Nat → List Nat} {b : Nat} : ∀ n, b ∈ allBlks ino vs n ↔ ∃ m, 1 ≤ m ∧ m ≤ n ∧ b ∈ blks (ino m) (vs m)
  | 0 => by
    constructor
    · intro h
      cases h
    · rintro ⟨m, h1, h2, _⟩
      omega
  | n + 1 => by
    have e : allBlks ino vs (n + 1) = allBlks ino vs n ++ blks (ino (n + 1)) (vs (n + 1)) := rfl
    rw [e, List.mem_append, mem_allBlks n]
    constructor
    · rintro (⟨m, h1, h2, h3⟩ | h)
      · exact ⟨m, h1, by omega, h3⟩
      · exact ⟨n + 1, by omega, Nat.le_refl _, h⟩
    · rintro ⟨m, h1, h2, h3⟩
      by_cases q : m = n + 1
      · subst q
        exact .inr h3
      · exact .inl ⟨m, h1, by omega, h3⟩
section
variable {E : Im} {D : Secs} {ino : Nat → InoT} {vs : Nat → List Nat}
theorem Owns.allNodup (h : Owns E D ino vs) : ∀ n, n ≤ E.i → (allBlks ino vs n).Nodup
  | 0, _ => List.nodup_nil
  | n + 1, hn => by
    have e : allBlks ino vs (n + 1) = allBlks ino vs n ++ blks (ino (n + 1)) (vs (n + 1)) := rfl
    rw [e, List.nodup_append]
    refine ⟨h.allNodup n (by omega), h.once (n + 1) (by omega) hn, fun a ha b hb q => ?_⟩
    subst q
    obtain ⟨m, m1, m2, hm⟩ := (mem_allBlks n).1 ha
    have := h.one m (n + 1) a m1 (by omega) (by omega) hn hm hb
    omega
theorem Owns.count (h : Owns E D ino vs) : cntT (D (fr E 3)) (E.bl + 1) = (allBlks ino vs E.i).length + 1 := by
  unfold cntT
  have hp : ((List.range (E.bl + 1)).filter fun k => bitB (D (fr E 3)) k).Perm (0 :: allBlks ino vs E.i) := by
    rw [List.perm_ext_iff_of_nodup]
    · intro b
      rw [List.mem_filter, List.mem_range, List.mem_cons, mem_allBlks]
      constructor
      · rintro ⟨h1, h2⟩
        by_cases q : b = 0
        · exact .inl q
        · exact .inr ((h.bit b (by omega) (by omega)).1 h2)
      · rintro (rfl | ⟨m, m1, m2, hm⟩)
        · exact ⟨by omega, h.zero⟩
        · have := h.blk_le m1 m2 hm
          exact ⟨by omega, h.blk_bit m1 m2 hm⟩
    · exact List.Pairwise.filter _ List.nodup_range
    · rw [List.nodup_cons]
      refine ⟨fun q => ?_, h.allNodup E.i (Nat.le_refl _)⟩
      obtain ⟨m, m1, m2, hm⟩ := (mem_allBlks _).1 q
      have := (h.blk_le m1 m2 hm).1
      omega
  rw [hp.length_eq, List.length_cons]
/-- As many are free. -/
theorem Owns.left (h : Owns E D ino vs) (hs : Small E) (h3 : (D (fr E 3)).size = 64) : ((E.bl : Int) + 1 - (countB (D (fr E 3)) ((E.bl : Int) + 1) : Nat)) = (E.bl : Int) - (allBlks ino vs E.i).length := by
  have hbl := hs.hb
  have e := countB_cnt (D (fr E 3)) (E.bl + 1) (by omega)
  rw [h.count] at e
  have e2 : ((E.bl : Int) + 1) = ((E.bl + 1 : Nat) : Int) := by push_cast; rfl
  rw [e2, e]
  push_cast
  omega
theorem Owns.allLe (h : Owns E D ino vs) : (allBlks ino vs E.i).length ≤ E.bl := by
  have e := h.count
  unfold cntT at e
  have e2 := List.length_filter_le (fun k => bitB (D (fr E 3)) k) (List.range (E.bl + 1))
  rw [List.length_range] at e2
  omega
theorem mem_flat {L : Nat → List Nat} {m n : Nat} (h1 : 1 ≤ m) (hn : m ≤ n) : (L m).length ≤ (flatL L n).length := by
  obtain ⟨k, rfl⟩ : ∃ k, m = k + 1 := ⟨m - 1, by omega⟩
  have h := flat_len L (k + 1) n hn
  have e : flatL L (k + 1) = flatL L k ++ L (k + 1) := rfl
  rw [e, List.length_append] at h
  omega
/-- owned answers true. -/
theorem owned_any (j : Nat) (w : World) (hs : Small E) (h : Whole E w) : Calls Tryz.prog 32 #[.pointer (some ⟨E.M, 0, none⟩), geoV E.i E.bl j] w fun e w' => e = .returned (.bool true) ∧ Below w.heap.size w w' := by
  obtain ⟨D, ino, vs, g, o⟩ := h
  have hbl := hs.hb
  have h3 : (D (fr E 3)).size = 64 := g.sec (fr_lt hs g (.inr rfl))
  have hle := o.allLe
  refine owned_gen E.M E.i E.bl j (fun m => blks (ino m) (vs m)) ((E.i : Int) + 1 - (countB (D (fr E 2)) ((E.i : Int) + 1) : Nat)) ((E.bl : Int) - (allBlks ino vs E.i).length) w ?_ ?_ ?_ (o.allNodup E.i (Nat.le_refl _)) ?_ hs.hi hs.hb (by omega) ?_
  · intro W hb
    have F := free_is W hs (g.later hb)
    rw [o.left hs h3] at F
    exact F
  · intro i h1 hi W hb
    exact blocks_is i (ino i) (vs i) W hs (g.later hb) h1 hi (o.is i h1 hi) (o.ok i h1 hi) (o.ing i h1 hi) (o.ind i h1 hi)
  · intro i h1 hi b hm
    have hb2 := o.blk_le h1 hi hm
    refine ⟨by omega, fun W hb => ?_⟩
    have T := takenBlock_is b W hs (g.later hb) hb2.1 hb2.2
    rw [o.blk_bit h1 hi hm] at T
    exact T
  · show ((allBlks ino vs E.i).length : Int) = _
    omega
  · intro i h1 hi
    have e : (blks (ino i) (vs i)).length ≤ (allBlks ino vs E.i).length := mem_flat (L := fun m => blks (ino m) (vs m)) h1 hi
    show (blks (ino i) (vs i)).length ≤ 60
    omega
end
end Go.Proofs.YtpnfkilfgdnogaaGreatDoor.Img
end

/- Layer 11's law ImageOwns, plain: files that are taken on a formatted disk. -/
section
namespace Go.Proofs.YtpnfkilfgdnogaaGreatDoor.Img
set_option linter.unusedVariables false
set_option linter.unusedSimpArgs false
open Go.RowKit Go.Shelf Go.Maps Oct Dev Jou Tx Geo Ino Bm
section
variable {E : Im} {D : Secs} {ino : Nat → InoT} {vs : Nat → List Nat}
theorem q_fr2 (hs : Small E) : fr E 2 ≠ fr E 3 ∧ (∀ n, fr E 2 ≠ tq E n) ∧ ∀ b, 1 ≤ b → fr E 2 ≠ dq E b := by
  have hv := hs.vals
  refine ⟨by omega, fun n => ?_, fun b hb => ?_⟩
  · unfold tq
    omega
  · unfold dq
    omega
/-- Which inodes are taken is no matter. -/
theorem Owns.imap (h : Owns E D ino vs) (hs : Small E) (s : ByteArray) : Owns E (upd D (fr E 2) s) ino vs := by
  obtain ⟨q3, qt, qd⟩ := q_fr2 hs
  have hf : upd D (fr E 2) s (fr E 3) = D (fr E 3) := upd_ne _ _ q3.symm
  refine ⟨fun n n1 n2 => (h.is n n1 n2).upd (qt n).symm, h.ok, h.ing, fun n n1 n2 => ind_frame (h.ind n n1 n2) (fun k => upd_ne _ _ (qd _ (by omega)).symm), ?_, ?_, h.one, h.once⟩
  · rw [hf]
    exact h.bit
  · rw [hf]
    exact h.zero
def Z4 (E : Im) : Nat → Prop := fun q => q = fr E 2 ∨ q = tq E 2 ∨ q = tq E 3 ∨ q = tq E 4
theorem z4_full (hs : Small E) : FullE E (Z4 E) → False := fun hf => by
  refine hf.no [fr E 2, tq E 2, tq E 3, tq E 4] (fun q hq => by simpa [Z4] using hq) ?_
  have hm := hs.may
  have hj : 40 ≤ E.j := by simp [mayG, inR] at hm; omega
  have key : ∀ j, j ≤ 60 → 40 ≤ j → 4 ≤ mostN j := by decide
  exact key E.j hs.hj hj
/-- Before the inode i is taken. -/
def Pre (E : Im) (i : Nat) (W : World) : Prop := ∃ D ino vs, IS W E D (Z4 E) ∧ Owns E D ino vs ∧ (∀ k, k < 512 → bitB (D (fr E 2)) k = decide (k < i)) ∧ ∀ n, i ≤ n → n ≤ E.i → (ino n).row = [0, 0, 0, 0, 0]
theorem Pre.whole {i : Nat} {W : World} (h : Pre E i W) : Whole E W := by
  obtain ⟨D, ino, vs, h1, h2, _⟩ := h
  exact ⟨D, ino, vs, h1.mono (fun _ _ => trivial), h2⟩
theorem Pre.later {i : Nat} {W W' : World} (h : Pre E i W) (hb : Below W.heap.size W W') : Pre E i W' := by
  obtain ⟨D, ino, vs, h1, h2⟩ := h
  exact ⟨D, ino, vs, h1.later hb, h2⟩
theorem pre_fmt {W : World} {Z : Nat → Prop} (hs : Small E) (h : IS W E (fmtS E.i E.bl E.j) Z) (hz : ∀ q, Z q → Z4 E q) : Pre E 2 W := by
  obtain ⟨f2, _, _⟩ := fmt_at E E.i E.bl E.j hs rfl rfl rfl
  refine ⟨_, inoF, _, h.mono hz, owns_fmt E hs, fun k hk => by rw [f2, bit_two], fun n hn _ => ?_⟩
  have e : inoF n = noIno := put_ne _ _ (by omega)
  rw [e]
  rfl
/-- Between. -/
def Mid (E : Im) (i : Nat) (W : World) : Prop := ∃ D ino vs, IS W E D (Z4 E) ∧ Owns E D ino vs ∧ (∀ k, k < 512 → bitB (D (fr E 2)) k = decide (k < i + 1)) ∧ ∀ n, i ≤ n → n ≤ E.i → (ino n).row = [0, 0, 0, 0, 0]
theorem Mid.later {i : Nat} {W W' : World} (h : Mid E i W) (hb : Below W.heap.size W W') : Mid E i W' := by
  obtain ⟨D, ino, vs, h1, h2⟩ := h
  exact ⟨D, ino, vs, h1.later hb, h2⟩
theorem pre_take (i : Nat) (w : World) (hs : Small E) (h : Pre E i w) (h2 : 2 ≤ i) (h4 : i ≤ 4) (hi : i ≤ E.i) :
    Calls Tryz.prog 19 #[.pointer (some ⟨E.M, 0, none⟩), .int .u32 i] w fun e w' => e = .returned (.int .i64 0) ∧ Mid E i w' ∧ Tch (fun c => c = E.T.m) w w' := by
  obtain ⟨D, ino, vs, g1, g2, g3, g4⟩ := h
  have hbi := hs.hi
  have hz2 : (D (fr E 2)).size = 64 := g1.sec (fr_lt hs g1 (.inl rfl))
  refine (take_is (Q := False) i w hs g1 (by omega) hi (by rw [g3 i (by omega)]; simp) (.inl rfl) (z4_full hs)).mono ?_
  rintro e W (⟨rfl, g⟩ | ⟨_, g⟩)
  · refine ⟨rfl, ⟨_, ino, vs, g.1, g2.imap hs _, fun k hk => ?_, g4⟩, g.2⟩
    rw [upd_same, bitB_setB _ _ _ _ (by omega)]
    by_cases q : k = i
    · rw [if_pos q, q]
      simp
    · rw [if_neg q, g3 k hk]
      simp
      omega
  · exact g.1.1.elim
theorem pre_set (i : Nat) (w : World) (hs : Small E) (h : Mid E i w) (h2 : 2 ≤ i) (h4 : i ≤ 4) (hi : i ≤ E.i) :
    Calls Tryz.prog 20 #[.pointer (some ⟨E.M, 0, none⟩), .int .u32 i, xF.val] w fun e w' => e = .returned (.int .i64 0) ∧ Pre E (i + 1) w' ∧ Tch (fun c => c = E.T.m) w w' := by
  obtain ⟨D, ino, vs, g1, g2, g3, g4⟩ := h
  have hst := g1.sec (tq_lt hs g1.len (by omega) hi)
  have hzt : Z4 E (tq E i) := by
    have : i = 2 ∨ i = 3 ∨ i = 4 := by omega
    rcases this with rfl | rfl | rfl
    · exact .inr (.inl rfl)
    · exact .inr (.inr (.inl rfl))
    · exact .inr (.inr (.inr rfl))
  refine (setInode_is (Q := False) i xF w hs g1 (by omega) hi xF_ok hzt (z4_full hs)).mono ?_
  rintro e W (⟨rfl, g⟩ | ⟨_, g⟩)
  · refine ⟨rfl, ⟨_, _, _, g.1, g2.setIno hs i xF (by omega) hi hst xF_ok (by rw [g4 i (Nat.le_refl _) hi]; rfl), fun k hk => ?_, fun n hn hn2 => ?_⟩, g.2⟩
    · rw [setIno_q ((q_fr2 hs).2.1 i)]
      exact g3 k hk
    · rw [put_ne _ _ (by omega)]
      exact g4 n (by omega) hn2
  · exact g.1.1.elim
end
end Go.Proofs.YtpnfkilfgdnogaaGreatDoor.Img
end

/- Layer 11: the steps of a script that came in, opened; long. -/
section
namespace Go.Proofs.YtpnfkilfgdnogaaGreatDoor.Img
open Go.ChangeShapes Go.WideShapes Go.Deep Go.RowKit Go.ChangeAt
open Oct Geo Ino
set_option linter.unusedVariables false
set_option linter.unusedSimpArgs false
/-- A step. -/
structure St where
  d : Int
  n : Int
  i : Nat
  t : Nat
  x : InoT
  s : ByteArray
  r : Bool
def stCells (x : St) : List Value := [.int .i64 x.d, .int .i64 x.n, .int .u32 x.i, .int .u32 x.t, .int .u8 x.x.kind, .int .u16 x.x.links, .int .u32 x.x.size, .int .u16 x.x.d0, .int .u16 x.x.d1, .int .u16 x.x.d2, .int .u16 x.x.d3, .int .u16 x.x.ind, .string x.s, .bool x.r]
theorem stCells_len (x : St) : (stCells x).length = 14 := rfl
def StsAt (W : World) (b o : Nat) (st : List St) : Prop := ∀ j (h : j < st.length) (k : Nat) (v : Value), (stCells st[j])[k]? = some v → W.cell? ⟨b, o + (j * 14 + k), none⟩ = some v
theorem cells_st : Tryz.prog.cellsOf 54 = 14 := by kernel_rfl
theorem bytes_st : Tryz.prog.bytesOf 54 = 72 := by kernel_rfl
theorem list14 {α : Type} {l : List α} (h : l.length = 14) : ∃ c0 c1 c2 c3 c4 c5 c6 c7 c8 c9 c10 c11 c12 c13, l = [c0, c1, c2, c3, c4, c5, c6, c7, c8, c9, c10, c11, c12, c13] := by
  match l, h with
  | [c0, c1, c2, c3, c4, c5, c6, c7, c8, c9, c10, c11, c12, c13], _ => exact ⟨c0, c1, c2, c3, c4, c5, c6, c7, c8, c9, c10, c11, c12, c13, rfl⟩
theorem list7 {α : Type} {l : List α} (h : l.length = 7) : ∃ y0 y1 y2 y3 y4 y5 y6, l = [y0, y1, y2, y3, y4, y5, y6] := by
  match l, h with
  | [y0, y1, y2, y3, y4, y5, y6], _ => exact ⟨y0, y1, y2, y3, y4, y5, y6, rfl⟩
theorem list5 {α : Type} {l : List α} (h : l.length = 5) : ∃ y0 y1 y2 y3 y4, l = [y0, y1, y2, y3, y4] := by
  match l, h with
  | [y0, y1, y2, y3, y4], _ => exact ⟨y0, y1, y2, y3, y4, rfl⟩
section
variable {H : Type} {enc : TypeId × Value → H} {W : World} {base : Nat} {sp : Nat → Bool} {held : Bool}
theorem nat_of {fuel : Nat} {t : TypeId} {k : IntKind} {c : Value} {x : DataW H × List MemPlace} (ht : Tryz.prog.underlying t = some (.int k)) (h : DataW.trod enc Tryz.prog W base sp held fuel t [c] = some x) (h0 : k.min = 0) : ∃ m : Nat, c = .int k m ∧ (m : Int) ≤ k.max := by
  obtain ⟨n, e, _, hw⟩ := DataW.trod_int ht h
  simp only [List.cons.injEq, and_true] at e
  simp only [Lit.wf, Bool.and_eq_true, decide_eq_true_eq] at hw
  rw [h0] at hw
  obtain ⟨m, rfl⟩ := Int.eq_ofNat_of_zero_le hw.1
  exact ⟨m, e, hw.2⟩
set_option maxRecDepth 100000 in
theorem open_ino {fuel : Nat} {c0 c1 c2 c3 c4 c5 c6 c7 : Value} {y : DataW H × List MemPlace} (h : DataW.trod enc Tryz.prog W base sp held fuel 43 [c0, c1, c2, c3, c4, c5, c6, c7] = some y) :
    ∃ x : InoT, c0 = .int .u8 x.kind ∧ c1 = .int .u16 x.links ∧ c2 = .int .u32 x.size ∧ c3 = .int .u16 x.d0 ∧ c4 = .int .u16 x.d1 ∧ c5 = .int .u16 x.d2 ∧ c6 = .int .u16 x.d3 ∧ c7 = .int .u16 x.ind := by
  obtain ⟨xs, n, _, hx, hl, hxl, hg⟩ := DataW.trod_struct Tryz.underlying43 h
  obtain ⟨y0, y1, y2, y3, y4, rfl⟩ := list5 (hxl.trans rfl)
  have g0 : DataW.trod enc Tryz.prog W base sp held n 5 [c0] = some y0 := hg 0 _ rfl
  have g1 : DataW.trod enc Tryz.prog W base sp held n 39 [c1] = some y1 := hg 1 _ rfl
  have g2 : DataW.trod enc Tryz.prog W base sp held n 40 [c2] = some y2 := hg 2 _ rfl
  have g3 : DataW.trod enc Tryz.prog W base sp held n 41 [c3, c4, c5, c6] = some y3 := hg 3 _ rfl
  have g4 : DataW.trod enc Tryz.prog W base sp held n 39 [c7] = some y4 := hg 4 _ rfl
  obtain ⟨z0, z1, z2, z3, m, rfl, t0, t1, t2, t3⟩ := trod_array4 Tryz.underlying41 (by kernel_rfl) g3
  obtain ⟨m0, e0, _⟩ := nat_of Tryz.underlying5 g0 rfl
  obtain ⟨m1, e1, _⟩ := nat_of Tryz.underlying39 g1 rfl
  obtain ⟨m2, e2, _⟩ := nat_of Tryz.underlying40 g2 rfl
  obtain ⟨m3, e3, _⟩ := nat_of Tryz.underlying39 t0 rfl
  obtain ⟨m4, e4, _⟩ := nat_of Tryz.underlying39 t1 rfl
  obtain ⟨m5, e5, _⟩ := nat_of Tryz.underlying39 t2 rfl
  obtain ⟨m6, e6, _⟩ := nat_of Tryz.underlying39 t3 rfl
  obtain ⟨m7, e7, _⟩ := nat_of Tryz.underlying39 g4 rfl
  exact ⟨⟨m0, m1, m2, m3, m4, m5, m6, m7⟩, e0, e1, e2, e3, e4, e5, e6, e7⟩
set_option maxRecDepth 100000 in
theorem open_st {fuel : Nat} {cs : List Value} {y : DataW H × List MemPlace} (h : DataW.trod enc Tryz.prog W base sp held fuel 54 cs = some y) :
    ∃ x : St, cs = stCells x ∧ x.i < 4294967296 ∧ x.t < 4294967296 ∧ x.s.size ∈ y.1.weights Tryz.prog 54 := by
  obtain ⟨xs, n, _, rfl, hl, hxl, hg⟩ := DataW.trod_struct Tryz.underlying54 h
  obtain ⟨c0, c1, c2, c3, c4, c5, c6, c7, c8, c9, c10, c11, c12, c13, rfl⟩ := list14 (hl.trans cells_st)
  obtain ⟨y0, y1, y2, y3, y4, y5, y6, rfl⟩ := list7 (hxl.trans rfl)
  have g0 : DataW.trod enc Tryz.prog W base sp held n 3 [c0] = some y0 := hg 0 _ rfl
  have g1 : DataW.trod enc Tryz.prog W base sp held n 3 [c1] = some y1 := hg 1 _ rfl
  have g2 : DataW.trod enc Tryz.prog W base sp held n 40 [c2] = some y2 := hg 2 _ rfl
  have g3 : DataW.trod enc Tryz.prog W base sp held n 40 [c3] = some y3 := hg 3 _ rfl
  have g4 : DataW.trod enc Tryz.prog W base sp held n 43 [c4, c5, c6, c7, c8, c9, c10, c11] = some y4 := hg 4 _ rfl
  have g5 : DataW.trod enc Tryz.prog W base sp held n 9 [c12] = some y5 := hg 5 _ rfl
  have g6 : DataW.trod enc Tryz.prog W base sp held n 4 [c13] = some y6 := hg 6 _ rfl
  obtain ⟨m0, e0, _, _⟩ := DataW.trod_int Tryz.underlying3 g0
  obtain ⟨m1, e1, _, _⟩ := DataW.trod_int Tryz.underlying3 g1
  obtain ⟨m2, e2, b2⟩ := nat_of Tryz.underlying40 g2 rfl
  obtain ⟨m3, e3, b3⟩ := nat_of Tryz.underlying40 g3 rfl
  obtain ⟨x, e4, e5, e6, e7, e8, e9, e10, e11⟩ := open_ino g4
  obtain ⟨s, e12, rfl, _⟩ := DataW.trod_string Tryz.underlying9 g5
  obtain ⟨r, e13, _⟩ := DataW.trod_bool Tryz.underlying4 g6
  simp only [List.cons.injEq, and_true] at e0 e1 e12 e13
  subst e0 e1 e2 e3 e4 e5 e6 e7 e8 e9 e10 e11 e12 e13
  have k2 : IntKind.max .u32 = 4294967295 := rfl
  rw [k2] at b2 b3
  refine ⟨⟨m0, m1, m2, m3, x, s, r⟩, rfl, by simp only; omega, by simp only; omega, ?_⟩
  simp only [DataW.weights, Tryz.underlying54]
  simp [len_L, DataW.weights, DataW.weightsEach]
/-- A script that came in. -/
def StsArg (W : World) (v : Value) (st : List St) : Prop :=
  (v = .slice none 0 0 ∧ st = []) ∨ (∃ ad c, v = .slice (some ad) 0 c ∧ st = []) ∨ ∃ b o c, v = .slice (some ⟨b, o, none⟩) st.length c ∧ b < W.heap.size ∧ StsAt W b o st
theorem mem_weightsAll {P : Program} {e : TypeId} {x : DataW H} {k : Nat} : ∀ {es : List (DataW H)}, x ∈ es → k ∈ x.weights P e → k ∈ DataW.weightsAll P e es
  | y :: r, h, hk => by
    show k ∈ DataW.weights P e y ++ DataW.weightsAll P e r
    rcases List.mem_cons.1 h with h1 | h1
    · subst h1; exact List.mem_append_left _ hk
    · exact List.mem_append_right _ (mem_weightsAll h1 hk)
theorem block_of_cell {W : World} {a : Addr} {v : Value} (h : W.cell? a = some v) : a.block < W.heap.size ∧ a.spot = none := by
  unfold World.cell? at h
  split at h
  · rename_i hh
    refine ⟨(Array.getElem?_eq_some_iff.1 hh).1, ?_⟩
    cases hs : a.spot with
    | none => rfl
    | some z => simp [hs] at h
  · cases h
theorem open_sts {p : List MemPlace} {d : DataW H} {ds : List (DataW H)} {ts : List TypeId} {j : Nat} {a : Option Addr} {len cap : Nat}
    (h : DataW.Trod enc Tryz.prog W 0 (fun _ => true) true 47 (.slice a len cap) d p)
    (hsz : (DataW.weightsEach Tryz.prog ts ds).all (· ≤ reachBytes) = true) (ht : ts[j]? = some 47) (hd : ds[j]? = some d) :
    ∃ st, StsArg W (.slice a len cap) st ∧ st.length ≤ 8796093022208 ∧ ∀ x ∈ st, x.s.size ≤ 140737488351232 ∧ x.i < 4294967296 ∧ x.t < 4294967296 := by
  obtain ⟨fuel, hf⟩ := h
  rcases open_slice Tryz.underlying47 hf with ⟨hcs, _⟩ | ⟨x, l, c, m, n, D, Pl, hcs, hb, hl, hm, hmm, hx, hi⟩
  · simp [Value.cells] at hcs
    obtain ⟨rfl, rfl, rfl⟩ := hcs
    exact ⟨[], .inl ⟨rfl, rfl⟩, by simp, by simp⟩
  · simp [Value.cells] at hcs
    obtain ⟨rfl, rfl, rfl⟩ := hcs
    simp only [if_true] at hmm
    subst hmm
    have key : ∀ i, ∃ s : St, i < len → (∀ (k : Nat) (v : Value), (stCells s)[k]? = some v → W.cell? (x.add (i * 14 + k)) = some v) ∧ s.s.size ∈ (D i).weights Tryz.prog 54 ∧ s.i < 4294967296 ∧ s.t < 4294967296 := fun i => by
      by_cases hil : i < len
      · obtain ⟨cs', hc, ht'⟩ := hi i (by omega)
        rw [cells_st] at hc
        obtain ⟨_, hcl, hat⟩ := World.cells?_some hc
        obtain ⟨s, rfl, b1, b2, b3⟩ := open_st ht'
        refine ⟨s, fun _ => ⟨fun k v hk => ?_, b3, b1, b2⟩⟩
        have hk14 : k < 14 := by
          have := (List.getElem?_eq_some_iff.1 hk).1
          rw [stCells_len] at this
          exact this
        have a0 := hat k hk14
        rw [Go.Deep.add_add, hk] at a0
        exact a0
      · exact ⟨⟨0, 0, 0, 0, noIno, ⟨#[]⟩, false⟩, fun h => absurd h hil⟩
    obtain ⟨f, hF⟩ := Classical.axiomOfChoice key
    obtain ⟨rfl, _⟩ := Prod.mk.inj hx
    have hn := sized_slice hsz ht hd Tryz.underlying47
    rw [bytes_st] at hn
    simp only [List.length_map, List.length_range, reachBytes] at hn
    have hel : ((List.range len).map f).length = len := by simp
    refine ⟨(List.range len).map f, ?_, by rw [hel]; omega, ?_⟩
    · by_cases h0 : len = 0
      · subst h0
        exact .inr (.inl ⟨x, _, rfl, rfl⟩)
      · right; right
        have c0 := (hF 0 (by omega)).1 0 _ rfl
        obtain ⟨b, off, spot⟩ := x
        have e0 : (⟨b, off, spot⟩ : Addr).add (0 * 14 + 0) = ⟨b, off, spot⟩ := by unfold Addr.add; rw [if_pos rfl]
        rw [e0] at c0
        have hb2 := block_of_cell c0
        obtain ⟨hb1, hs⟩ := hb2
        simp only at hb1 hs
        subst hs
        refine ⟨b, off, _, by rw [hel], hb1, fun q hq k v hk => ?_⟩
        rw [hel] at hq
        simp only [List.getElem_map, List.getElem_range] at hk
        have hq2 := (hF q hq).1 k v hk
        have ea : ∀ k, (⟨b, off, none⟩ : Addr).add k = ⟨b, off + k, none⟩ := fun k => by unfold Addr.add; split <;> simp_all
        rw [ea] at hq2
        exact hq2
    · intro y hy
      obtain ⟨q, hq, rfl⟩ := List.mem_map.1 hy
      obtain ⟨_, hw, h32, h33⟩ := hF q (List.mem_range.1 hq)
      refine ⟨?_, h32, h33⟩
      have hmem : (f q).s.size ∈ (DataW.slice (List.map D (List.range len)) (List.map (fun j => D (len + j)) (List.range (m - len)))).weights Tryz.prog 47 := by
        simp only [DataW.weights, Tryz.underlying47]
        exact List.mem_cons_of_mem _ (List.mem_append_left _ (mem_weightsAll (List.mem_map_of_mem hq) hw))
      have := List.all_eq_true.1 hsz _ (DataW.weights_mem_each ht hd _ hmem)
      have := of_decide_eq_true this
      simpa [reachBytes] using this
end
end Go.Proofs.YtpnfkilfgdnogaaGreatDoor.Img
end

/- Layer 11: long. -/
section
namespace Go.Proofs.YtpnfkilfgdnogaaGreatDoor.Img
open Go.RowKit Go.Shelf Oct Ino
set_option linter.unusedVariables false
set_option linter.unusedSimpArgs false
def sumS (st : List St) : Nat := (st.map fun x => x.s.size).sum
theorem sumS_snoc (st : List St) (x : St) : sumS (st ++ [x]) = sumS st + x.s.size := by simp [sumS]
theorem sumS_le {st : List St} {m : Nat} (h : ∀ x ∈ st, x.s.size ≤ m) : sumS st ≤ st.length * m := by
  induction st with
  | nil => simp [sumS]
  | cons x r ih =>
    have h1 := ih (fun y hy => h y (by simp [hy]))
    have h2 := h x (by simp)
    simp only [sumS, List.map_cons, List.sum_cons, List.length_cons, Nat.succ_mul] at h1 ⊢
    omega
theorem mem_sumS {x : St} : ∀ {st : List St}, x ∈ st → x.s.size ≤ sumS st
  | y :: r, h => by
    simp only [sumS, List.map_cons, List.sum_cons]
    rcases List.mem_cons.1 h with h1 | h1
    · rw [h1]; omega
    · have := mem_sumS h1
      simp only [sumS] at this
      omega
def longB (m1 m2 : Nat) (st : List St) : Bool := decide (m1 < st.length) || decide (m2 < sumS (st.take 200))
theorem long_no {m1 m2 : Nat} {st : List St} (h1 : m1 ≤ 200) (h : longB m1 m2 st = false) : st.length ≤ m1 ∧ ∀ x ∈ st, x.s.size ≤ m2 := by
  simp only [longB, Bool.or_eq_false_iff, decide_eq_false_iff_not, Nat.not_lt] at h
  refine ⟨h.1, fun x hx => ?_⟩
  have h2 := h.2
  rw [List.take_of_length_le (by omega)] at h2
  have := mem_sumS hx
  omega
theorem StsAt.str {W : World} {b o : Nat} {st : List St} (h : StsAt W b o st) (j : Nat) (hj : j < st.length) : W.cell? ⟨b, o + j * 14 + 12, none⟩ = some (.string st[j].s) := by
  have := h j hj 12 _ rfl
  rw [← Nat.add_assoc] at this
  exact this
set_option maxRecDepth 100000 in
set_option maxHeartbeats 1000000 in
theorem long_row (b o c : Nat) (st : List St) (w : World) (hl : st.length ≤ 8796093022208) (hn : ∀ x ∈ st, x.s.size ≤ 140737488351232) (hx : StsAt w b o st) :
    Calls Tryz.prog 18 #[.slice (some ⟨b, o, none⟩) st.length c] w fun e w' => e = .returned (.bool (longB 80 8192 st)) ∧ w = w' := by
  have HX := Lib.hid hx
  have HN := Lib.hid hn
  clear hx hn
  go_enter Tryz.func18, Tryz.ntmps18
  go_wp2
  go_loop [3, 4] (fun n i => ∃ k : Nat, k ≤ st.length ∧ k ≤ 200 ∧ i = .int .i64 k ∧ n = .int .i64 (sumS (st.take k))) (fun _ i => 200 - (intOf i).toNat)
  case atStart => exact ⟨0, Nat.zero_le _, Nat.zero_le _, rfl, rfl⟩
  case round =>
    obtain ⟨k, hk, hk2, rfl, rfl⟩ := hrel
    by_cases hlt : k < st.length
    · by_cases h200 : k < 200
      · have c1 := HX.out.str k hlt
        have ht : st.take (k + 1) = st.take k ++ [st[k]] := by rw [List.take_succ_eq_append_getElem hlt]
        have hs : sumS (st.take (k + 1)) = sumS (st.take k) + st[k].s.size := by rw [ht, sumS_snoc]
        have hsn := HN.out st[k] (List.getElem_mem hlt)
        have hss := sumS_le (st := st.take k) (m := 140737488351232) (fun x hx => HN.out x (List.mem_of_mem_take hx))
        have hlk : (st.take k).length ≤ 200 := by rw [List.length_take]; omega
        have hss2 : sumS (st.take k) ≤ 200 * 140737488351232 := Nat.le_trans hss (Nat.mul_le_mul_right _ hlk)
        obtain ⟨x, hx⟩ : ∃ x, st[k] = x := ⟨_, rfl⟩
        rw [hx] at c1 hsn hs
        have HS := Lib.hid hs
        obtain ⟨sn, hsn0⟩ : ∃ m, sumS (st.take k) = m := ⟨_, rfl⟩
        rw [hsn0] at hss2 hs
        have HS2 := Lib.hid hs
        rw [hsn0]
        have q0 : (0 : Int) ≤ (k : Int) := by omega
        have q1 : (k : Int) < (st.length : Int) := by omega
        clear hs hx hss ht hlk hsn0 HS
        go_wp2
        go_round
        case rel => exact ⟨k + 1, by omega, by omega, by go_num, by rw [HS2.out]; go_num⟩
        case measure => simp [intOf]; omega
      · obtain rfl : k = 200 := by omega
        have t1 : decide (80 < (st.length : Int)) = true := by simp; omega
        have t2 : decide (80 < st.length) = true := by simp; omega
        have HF : Hid (longB 80 8192 st = true) := Lib.hid (by simp [longB]; omega)
        go_wp2
        go_ret
        exact ⟨by rw [HF.out]; rfl, rfl⟩
    · obtain rfl : k = st.length := by omega
      rw [List.take_length]
      have HF : Hid (longB 80 8192 st = (decide (80 < st.length) || decide (8192 < sumS st))) := Lib.hid (by unfold longB; rw [List.take_of_length_le hk2])
      generalize sumS st = sn at *
      by_cases h1 : 80 < st.length
      · have t1 : decide (80 < (st.length : Int)) = true := by simp; omega
        go_wp2
        go_ret
        exact ⟨by rw [HF.out]; simp [h1], rfl⟩
      · have t1 : decide (80 < (st.length : Int)) = false := by simp; omega
        go_wp2
        go_ret
        refine ⟨?_, rfl⟩
        rw [HF.out]
        simp [h1]
        omega
theorem long_nil (ao : Option Addr) (c : Nat) (w : World) : Calls Tryz.prog 18 #[.slice ao 0 c] w fun e w' => e = .returned (.bool false) ∧ w = w' := by
  go_enter Tryz.func18, Tryz.ntmps18
  go_wp2
  refine wp_loop_rounds 1 ?_
  rw [rounds_succ]
  go_wp2
  go_ret
  exact ⟨rfl, rfl⟩
end Go.Proofs.YtpnfkilfgdnogaaGreatDoor.Img
end

/- Layer 11's law ImageOwns, walked. -/
section
namespace Go.Proofs.YtpnfkilfgdnogaaGreatDoor.Img
set_option linter.unusedVariables false
set_option linter.unusedSimpArgs false
open Go.RowKit Go.Shelf Go.Maps Oct Dev Jou Tx Geo Ino Bm
theorem StsAt.later {w W : World} {b o : Nat} {st : List St} (h : StsAt w b o st) (hb : b < w.heap.size) (hB : Below w.heap.size w W) : StsAt W b o st := fun j hj k v hk => (hB.cell (p := ⟨b, o + (j * 14 + k), none⟩) hb).trans (h j hj k v hk)
theorem StsArg.later {w W : World} {v : Value} {st : List St} (h : StsArg w v st) (hB : Below w.heap.size w W) : StsArg W v st := by
  rcases h with h | h | ⟨b, o, c, h1, h2, h3⟩
  · exact .inl h
  · exact .inr (.inl h)
  · exact .inr (.inr ⟨b, o, c, h1, Nat.lt_of_lt_of_le h2 hB.size, h3.later h2 hB⟩)
theorem long_any (v : Value) (st : List St) (w : World) (h : StsArg w v st) (hl : st.length ≤ 8796093022208) (hn : ∀ x ∈ st, x.s.size ≤ 140737488351232) : Calls Tryz.prog 18 #[v] w fun e w' => e = .returned (.bool (longB 80 8192 st)) ∧ w = w' := by
  rcases h with ⟨rfl, rfl⟩ | ⟨ad, c, rfl, rfl⟩ | ⟨b, o, c, rfl, _, h⟩
  · exact long_nil none 0 w
  · exact long_nil (some ad) c w
  · exact long_row b o c st w hl hn h
set_option maxRecDepth 100000 in
set_option maxHeartbeats 8000000 in
theorem imageOwns_long (i bl j : Int) (v : Value) (st : List St) (w : World) (hv : StsArg w v st) (hl : st.length ≤ 8796093022208) (hn : ∀ x ∈ st, x.s.size ≤ 140737488351232) (hR : RootAt w) (hlong : longB 80 8192 st = true ∨ mayG i bl j = false ∨ (60 < bl ∨ 30 < i ∨ 60 < j)) :
    Calls Tryz.prog 5 #[geoV i bl j, v] w fun e w' => e = .returned (.bool true) ∧ Below w.heap.size w w' := by
  have LO := Lib.hid (fun W (h : Below w.heap.size w W) => long_any v st W (hv.later h) hl hn)
  have MY := Lib.hid (fun W => may_any i bl j W)
  have LG := Lib.hid (fun W => large_any i bl j W)
  have AL := Lib.hid (fun W h => alive11 W h)
  have HR := Lib.hid hR
  have HB0 := Lib.hid ((Below.refl _ w).alloc (Nat.le_refl _) (.cells #[.int .i64 i, .int .i64 bl, .int .i64 j] 23))
  have HG0 := Lib.hid (SBox.new w 23 #[.int .i64 i, .int .i64 bl, .int .i64 j])
  clear hR hv hn
  unfold geoV at *
  rcases hq : longB 80 8192 st with _ | _
  · rcases hm : mayG i bl j with _ | _
    · rw [hq] at LO
      rw [hm] at MY
      clear hlong hq hm
      go_enter Tryz.func5, Tryz.ntmps5
      go_wp2_with fail
      refine (LO.out _ HB0.out).mono ?_
      rintro e w1 ⟨rfl, rfl⟩
      have hX := HG0.out
      have X0 := hX.cell 0
      have X1 := hX.cell 1
      have X2 := hX.cell 2
      simp only [List.getElem?_toArray, List.getElem?_cons_zero, List.getElem?_cons_succ] at X0 X1 X2
      have Xl := hX.lt
      clear hX
      go_wp2_with fail
      refine (MY.out _).mono ?_
      rintro e w2 ⟨rfl, b2⟩
      have B2 := Lib.hid (HB0.out.trans (b2.mono HB0.out.size))
      clear b2
      go_wp2_with fail
      refine (AL.out _ (HR.out.later B2.out)).mono ?_
      rintro e w3 ⟨rfl, b3⟩
      have B3 := Lib.hid (B2.out.trans (b3.mono B2.out.size))
      clear b3
      go_wp2
      go_ret
      exact ⟨rfl, B3.out⟩
    · have hg : 60 < bl ∨ 30 < i ∨ 60 < j := by
        rcases hlong with h | h | h
        · rw [hq] at h; cases h
        · rw [hm] at h; cases h
        · exact h
      rw [hq] at LO
      rw [hm] at MY
      rw [decide_eq_true hg] at LG
      clear hlong hq hm hg
      go_enter Tryz.func5, Tryz.ntmps5
      go_wp2_with fail
      refine (LO.out _ HB0.out).mono ?_
      rintro e w1 ⟨rfl, rfl⟩
      have hX := HG0.out
      have X0 := hX.cell 0
      have X1 := hX.cell 1
      have X2 := hX.cell 2
      simp only [List.getElem?_toArray, List.getElem?_cons_zero, List.getElem?_cons_succ] at X0 X1 X2
      have Xl := hX.lt
      clear hX
      go_wp2_with fail
      refine (MY.out _).mono ?_
      rintro e w2 ⟨rfl, b2⟩
      have B2 := Lib.hid (HB0.out.trans (b2.mono HB0.out.size))
      have hX := HG0.out.later b2
      clear b2 X0 X1 X2 Xl
      have X0 := hX.cell 0
      have X1 := hX.cell 1
      have X2 := hX.cell 2
      simp only [List.getElem?_toArray, List.getElem?_cons_zero, List.getElem?_cons_succ] at X0 X1 X2
      have Xl := hX.lt
      clear hX
      go_wp2_with fail
      refine (LG.out _).mono ?_
      rintro e w3 ⟨rfl, b3⟩
      have B3 := Lib.hid (B2.out.trans (b3.mono B2.out.size))
      clear b3
      go_wp2_with fail
      refine (AL.out _ (HR.out.later B3.out)).mono ?_
      rintro e w4 ⟨rfl, b4⟩
      have B4 := Lib.hid (B3.out.trans (b4.mono B3.out.size))
      clear b4
      go_wp2
      go_ret
      exact ⟨rfl, B4.out⟩
  · rw [hq] at LO
    clear hlong hq
    go_enter Tryz.func5, Tryz.ntmps5
    go_wp2_with fail
    refine (LO.out _ HB0.out).mono ?_
    rintro e w1 ⟨rfl, rfl⟩
    go_wp2_with fail
    refine (AL.out _ (HR.out.later HB0.out)).mono ?_
    rintro e w3 ⟨rfl, b3⟩
    have B3 := Lib.hid (HB0.out.trans (b3.mono HB0.out.size))
    clear b3
    go_wp2
    go_ret
    exact ⟨rfl, B3.out⟩
end Go.Proofs.YtpnfkilfgdnogaaGreatDoor.Img
end

/- Layer 11's law ImagePages, plain: what SetPage and Resize make of each page. -/
section
namespace Go.Proofs.YtpnfkilfgdnogaaGreatDoor.Img
set_option linter.unusedVariables false
set_option linter.unusedSimpArgs false
open Go.RowKit Go.Shelf Go.Maps Oct Dev Jou Tx Geo Ino Bm
theorem nz_inj : ∀ (l : List Nat) (p q c : Nat), (l.filter nz).Nodup → l[p]? = some c → l[q]? = some c → c ≠ 0 → p = q
  | [], p, q, c, _, h, _, _ => by simp at h
  | a :: r, 0, 0, c, _, _, _, _ => rfl
  | a :: r, 0, q + 1, c, hn, h1, h2, hc => by
    have e : a = c := by simpa using h1
    subst e
    have hz : nz a = true := by simpa [nz] using hc
    rw [List.filter_cons, if_pos hz, List.nodup_cons] at hn
    exact absurd (List.mem_filter.2 ⟨List.mem_of_getElem? (by simpa using h2), hz⟩) hn.1
  | a :: r, p + 1, 0, c, hn, h1, h2, hc => by
    have e : a = c := by simpa using h2
    subst e
    have hz : nz a = true := by simpa [nz] using hc
    rw [List.filter_cons, if_pos hz, List.nodup_cons] at hn
    exact absurd (List.mem_filter.2 ⟨List.mem_of_getElem? (by simpa using h1), hz⟩) hn.1
  | a :: r, p + 1, q + 1, c, hn, h1, h2, hc => by
    rw [List.filter_cons] at hn
    have hr : (r.filter nz).Nodup := by
      split at hn
      · exact (List.nodup_cons.1 hn).2
      · exact hn
    rw [nz_inj r p q c hr (by simpa using h1) (by simpa using h2) hc]
theorem getD_set (l : List Nat) (p b q : Nat) (hp : p < l.length) : (l.set p b).getD q 0 = if q = p then b else l.getD q 0 := by
  rw [List.getD_eq_getElem?_getD, List.getElem?_set, List.getD_eq_getElem?_getD]
  by_cases e : p = q
  · rw [if_pos e, if_pos (by omega), if_pos e.symm]
    rfl
  · rw [if_neg e, if_neg (fun h => e h.symm)]
theorem allB_len {x : InoT} {vs : List Nat} (hl : vs.length = 32) : (allB x vs).length = 36 := by
  unfold allB
  simp [hl]
theorem pageB_setDir {x : InoT} {vs : List Nat} {p b : Nat} (hp : p < 4) (hl : vs.length = 32) (q : Nat) : pageB (setDir x p b) vs q = if q = p then b else pageB x vs q := by
  have e : allB (setDir x p b) vs = (allB x vs).set p b := by
    match p, hp with
    | 0, _ => rfl
    | 1, _ => rfl
    | 2, _ => rfl
    | 3, _ => rfl
  unfold pageB
  rw [e, getD_set _ _ _ _ (by rw [allB_len hl]; omega)]
theorem pageB_setV {x : InoT} {vs : List Nat} {p b : Nat} (h4 : 4 ≤ p) (hp : p < 36) (hl : vs.length = 32) (q : Nat) : pageB x (vs.set (p - 4) b) q = if q = p then b else pageB x vs q := by
  obtain ⟨k, rfl⟩ : ∃ k, p = k + 4 := ⟨p - 4, by omega⟩
  have e : allB x (vs.set (k + 4 - 4) b) = (allB x vs).set (k + 4) b := by
    rw [Nat.add_sub_cancel]
    rfl
  unfold pageB
  rw [e, getD_set _ _ _ _ (by rw [allB_len hl]; omega)]
theorem pageB_get {x : InoT} {vs : List Nat} {p : Nat} (h : pageB x vs p ≠ 0) : (allB x vs)[p]? = some (pageB x vs p) := by
  unfold pageB at *
  rw [List.getD_eq_getElem?_getD] at *
  cases e : (allB x vs)[p]? with
  | none => rw [e] at h; exact absurd rfl h
  | some v => rfl
section
variable {E : Im} {D : Secs} {ino : Nat → InoT} {vs : Nat → List Nat}
theorem Owns.pageInj (h : Owns E D ino vs) {n p q : Nat} (h1 : 1 ≤ n) (hn : n ≤ E.i) (hp : pageB (ino n) (vs n) p ≠ 0) (e : pageB (ino n) (vs n) q = pageB (ino n) (vs n) p) : q = p := by
  have hd := h.once n h1 hn
  rw [blks_eq (h.ind n h1 hn).len] at hd
  have hd := (List.nodup_append.1 hd).1
  have e2 : (dirL (ino n)).filter (fun v => decide (v ≠ 0)) ++ (vs n).filter (fun v => decide (v ≠ 0)) = (allB (ino n) (vs n)).filter nz := by
    rw [← List.filter_append]
    rfl
  rw [e2] at hd
  exact nz_inj _ q p _ hd (by rw [pageB_get (by rw [e]; exact hp), e]) (pageB_get hp) hp
theorem Owns.pageBlk (h : Owns E D ino vs) {n p : Nat} (h1 : 1 ≤ n) (hn : n ≤ E.i) (hp : pageB (ino n) (vs n) p ≠ 0) : pageB (ino n) (vs n) p ∈ blks (ino n) (vs n) :=
  (mem_blks (h.ind n h1 hn).len _).2 ⟨hp, (pageB_mem hp).elim .inl (fun q => .inr (.inl q))⟩
theorem pgS_of {x y : InoT} {v u : List Nat} {D' : Secs} {q : Nat} (e : pageB y u q = pageB x v q) (hd : pageB x v q ≠ 0 → D' (dq E (pageB x v q)) = D (dq E (pageB x v q))) : pgS E D' y u q = pgS E D x v q := by
  unfold pgS
  rw [e]
  split
  · rfl
  · next h => exact hd h
theorem pgS_at {y : InoT} {u : List Nat} {D' : Secs} {q b : Nat} {s : ByteArray} (e : pageB y u q = b) (hb : 1 ≤ b) (hd : D' (dq E b) = s) : pgS E D' y u q = s := by
  unfold pgS
  rw [e, if_neg (by omega), hd]
/-- One page is another one. -/
theorem SP.pages {n p : Nat} {s : ByteArray} {D' : Secs} {y : InoT} {us : List Nat} (h : Owns E D ino vs) (hs : Small E) (h1 : 1 ≤ n) (hn : n ≤ E.i) (hs3 : (D (fr E 3)).size = 64) (hp : p < 36) (g : SP E D n (ino n) (vs n) p s D' y us) (q : Nat) (hq : q < 36) : pgS E D' y us q = if q = p then s else pgS E D (ino n) (vs n) q := by
  have hl := (h.ind n h1 hn).len
  rcases g with ⟨g1, rfl, rfl, rfl⟩ | ⟨b, g1, g2, g3, g4, g5, g6, rfl, rfl, rfl⟩ | ⟨b, g1, g2, g3, g4, g5, g6, rfl, rfl, rfl⟩ | ⟨d, b, g1, g2, g3, g4, g5, g6, g7, g8, g9, rfl, rfl, rfl⟩
  · have hb := h.blk_le h1 hn (h.pageBlk h1 hn g1)
    by_cases e : q = p
    · subst e
      rw [if_pos rfl]
      exact pgS_at rfl hb.1 (upd_same _ _ _)
    · rw [if_neg e]
      refine pgS_of rfl (fun k => ?_)
      have hc := h.blk_le h1 hn (h.pageBlk h1 hn k)
      rw [upd_ne _ _ (fun e2 => e (h.pageInj h1 hn g1 (dq_inj hs hc.1 hb.1 e2))), setIno_q (q_dqt hs hc.1 h1 hn)]
  · by_cases e : q = p
    · subst e
      rw [if_pos rfl]
      exact pgS_at (by rw [pageB_setDir g1 hl, if_pos rfl]) g3 (upd_same _ _ _)
    · rw [if_neg e]
      refine pgS_of (by rw [pageB_setDir g1 hl, if_neg e]) (fun k => ?_)
      have hm := h.pageBlk h1 hn k
      have hc := h.blk_le h1 hn hm
      have hne : dq E (pageB (ino n) (vs n) q) ≠ dq E b := fun e2 => h.free b g3 g4 g5 n h1 hn (dq_inj hs hc.1 g3 e2 ▸ hm)
      rw [upd_ne _ _ hne, setIno_q (q_dqt hs hc.1 h1 hn), blkD_ne hs (q_dq3 hs hc.1) hne]
  · by_cases e : q = p
    · subst e
      rw [if_pos rfl]
      exact pgS_at (by rw [pageB_setV g1 hp hl, if_pos rfl]) g4 (upd_same _ _ _)
    · rw [if_neg e]
      refine pgS_of (by rw [pageB_setV g1 hp hl, if_neg e]) (fun k => ?_)
      have hm := h.pageBlk h1 hn k
      have hc := h.blk_le h1 hn hm
      have hne : dq E (pageB (ino n) (vs n) q) ≠ dq E b := fun e2 => h.free b g4 g5 g6 n h1 hn (dq_inj hs hc.1 g4 e2 ▸ hm)
      have hni : dq E (pageB (ino n) (vs n) q) ≠ dq E (ino n).ind := fun e2 => h.notInd n _ h1 hn k (pageB_mem k) n h1 hn (dq_inj hs hc.1 (by omega) e2).symm
      rw [upd_ne _ _ hne, setIno_q (q_dqt hs hc.1 h1 hn), upd_ne _ _ hni, blkD_ne hs (q_dq3 hs hc.1) hne]
  · have hbl := hs.hb
    have hvz : vs n = List.replicate 32 0 := (h.ind n h1 hn).no g2
    have hz32 : (List.replicate 32 0).length = 32 := List.length_replicate ..
    have h32 : (upd (blkD E D d) (dq E d) (tellS [])) (fr E 3) = setB (D (fr E 3)) d true := by rw [upd_ne _ _ (q_dq3 hs g3).symm, blkD_fr hs g3]
    have hk3 : ∀ k, bitB ((upd (blkD E D d) (dq E d) (tellS [])) (fr E 3)) k = if k = d then true else bitB (D (fr E 3)) k := fun k => by rw [h32]; exact bitB_setB _ _ _ _ (by rw [hs3]; omega)
    have hbd : b ≠ d := fun e => by
      rw [hk3, if_pos e] at g8
      cases g8
    have g8' := g8
    rw [hk3, if_neg hbd] at g8'
    by_cases e : q = p
    · subst e
      rw [if_pos rfl]
      exact pgS_at (by rw [pageB_setV g1 hp hz32, if_pos rfl]) g6 (upd_same _ _ _)
    · rw [if_neg e]
      have e0 : pageB { ino n with ind := d } (List.replicate 32 0) q = pageB (ino n) (vs n) q := by rw [hvz]; rfl
      refine pgS_of (by rw [pageB_setV g1 hp hz32, if_neg e, e0]) (fun k => ?_)
      have hm := h.pageBlk h1 hn k
      have hc := h.blk_le h1 hn hm
      have hne : dq E (pageB (ino n) (vs n) q) ≠ dq E b := fun e2 => h.free b g6 g7 g8' n h1 hn (dq_inj hs hc.1 g6 e2 ▸ hm)
      have hnd : dq E (pageB (ino n) (vs n) q) ≠ dq E d := fun e2 => h.free d g3 g4 g5 n h1 hn (dq_inj hs hc.1 g3 e2 ▸ hm)
      rw [upd_ne _ _ hne, setIno_q (q_dqt hs hc.1 h1 hn), upd_ne _ _ hnd, blkD_ne hs (q_dq3 hs hc.1) hne, upd_ne _ _ hnd, blkD_ne hs (q_dq3 hs hc.1) hnd]
/-- A page, of which the bytes from fm on are noughts. -/
def cutPg (s : ByteArray) (fm : Nat) : ByteArray := patchS s fm (zS.extract fm 64)
theorem pageB_cut {x : InoT} {v : List Nat} (p : Nat) (hl : v.length = 32) (h0 : x.ind = 0 → v = List.replicate 32 0) (q : Nat) (hq : q < 36) : pageB (cutEnd x p) (cutV x v p) q = if q < p then pageB x v q else 0 := by
  by_cases h4 : q < 4
  · have e1 : ∀ (y : InoT) (u : List Nat), pageB y u q = (dirL y).getD q 0 := fun y u => by
      match q, h4 with
      | 0, _ => rfl
      | 1, _ => rfl
      | 2, _ => rfl
      | 3, _ => rfl
    rw [e1, e1, cutEnd_dir]
    match q, h4 with
    | 0, _ =>
      show (if p ≤ 0 then 0 else x.d0) = if 0 < p then x.d0 else 0
      split <;> split <;> first | rfl | omega
    | 1, _ =>
      show (if p ≤ 1 then 0 else x.d1) = if 1 < p then x.d1 else 0
      split <;> split <;> first | rfl | omega
    | 2, _ =>
      show (if p ≤ 2 then 0 else x.d2) = if 2 < p then x.d2 else 0
      split <;> split <;> first | rfl | omega
    | 3, _ =>
      show (if p ≤ 3 then 0 else x.d3) = if 3 < p then x.d3 else 0
      split <;> split <;> first | rfl | omega
  · obtain ⟨k, rfl⟩ : ∃ k, q = k + 4 := ⟨q - 4, by omega⟩
    have e1 : ∀ (y : InoT) (u : List Nat), pageB y u (k + 4) = u.getD k 0 := fun y u => rfl
    rw [e1, e1]
    unfold cutV
    by_cases hc : x.ind ≠ 0 ∧ p ≤ 4
    · rw [if_pos hc, if_neg (by omega), List.getD_eq_getElem?_getD, List.getElem?_replicate, if_pos (by omega)]
      rfl
    · rw [if_neg hc, List.getD_eq_getElem?_getD, List.getElem?_eq_getElem (by rw [cutVs_len]; omega), List.getD_eq_getElem?_getD, List.getElem?_eq_getElem (by omega)]
      show (cutVs v p)[k]'_ = if k + 4 < p then v[k]'_ else 0
      rw [cutVs_get (by omega)]
      split <;> split <;> first | rfl | omega
/-- What Resize makes of each page. -/
theorem Owns.rszPages (h : Owns E D ino vs) (hs : Small E) (n s : Nat) (h1 : 1 ≤ n) (hn : n ≤ E.i) (hl2 : s ≤ 2304) (q : Nat) (hq : q < 36) :
    pgS E (rszD E D n (ino n) (vs n) s) (sized (cutEnd (ino n) (pagesN s)) s) (cutV (ino n) (vs n) (pagesN s)) q = if q < pagesN s then (if s % 64 ≠ 0 ∧ q = s / 64 ∧ pageB (ino n) (vs n) q ≠ 0 then cutPg (pgS E D (ino n) (vs n) q) (s % 64) else pgS E D (ino n) (vs n) q) else zS := by
  have g := h.ind n h1 hn
  have hpb : ∀ r, r < 36 → pageB (sized (cutEnd (ino n) (pagesN s)) s) (cutV (ino n) (vs n) (pagesN s)) r = if r < pagesN s then pageB (ino n) (vs n) r else 0 := fun r hr => pageB_cut (pagesN s) g.len g.no r hr
  have hpg : pagesN s ≤ 36 := by unfold pagesN; omega
  by_cases hp : q < pagesN s
  · rw [if_pos hp]
    have e1 := hpb q hq
    rw [if_pos hp] at e1
    by_cases hb : pageB (ino n) (vs n) q = 0
    · rw [if_neg (fun k => k.2.2 hb)]
      exact pgS_of e1 (fun k => absurd hb k)
    · have hm := h.pageBlk h1 hn hb
      have hc := h.blk_le h1 hn hm
      have hni : (ino n).ind ≠ 0 → dq E (pageB (ino n) (vs n) q) ≠ dq E (ino n).ind := fun k e2 => h.notInd n _ h1 hn hb (pageB_mem hb) n h1 hn (dq_inj hs hc.1 (by omega) e2).symm
      have hD : giveL E (cutSec E D (ino n) (vs n) (pagesN s)) (cutFree (ino n) (vs n) (pagesN s)) (dq E (pageB (ino n) (vs n) q)) = D (dq E (pageB (ino n) (vs n) q)) := by
        rw [giveL_ne (q_dq3 hs hc.1), cutSec_q g.no hni]
      have hset : rszD E D n (ino n) (vs n) s (dq E (pageB (ino n) (vs n) q)) = blankD E (giveL E (cutSec E D (ino n) (vs n) (pagesN s)) (cutFree (ino n) (vs n) (pagesN s))) (rszB (sized (cutEnd (ino n) (pagesN s)) s) (cutV (ino n) (vs n) (pagesN s)) s) (s % 64) (dq E (pageB (ino n) (vs n) q)) := setIno_q (q_dqt hs hc.1 h1 hn)
      by_cases hk : s % 64 ≠ 0 ∧ q = s / 64
      · have eb : rszB (sized (cutEnd (ino n) (pagesN s)) s) (cutV (ino n) (vs n) (pagesN s)) s = pageB (ino n) (vs n) q := by
          unfold rszB
          rw [if_neg hk.1, ← hk.2, e1]
        rw [if_pos ⟨hk.1, hk.2, hb⟩]
        refine pgS_at e1 hc.1 ?_
        rw [hset, eb]
        unfold blankD
        rw [if_neg hb, upd_same, hD]
        unfold cutPg pgS
        rw [if_neg hb]
      · rw [if_neg (fun k => hk ⟨k.1, k.2.1⟩)]
        refine pgS_of e1 (fun _ => ?_)
        rw [hset, blankD_q (fun k e2 => ?_), hD]
        -- the page that is blanked is another one
        unfold rszB at k e2
        by_cases h64 : s % 64 = 0
        · rw [if_pos h64] at k
          exact k rfl
        · rw [if_neg h64] at k e2
          have hr : s / 64 < 36 := by omega
          have hr2 : s / 64 < pagesN s := by unfold pagesN; omega
          rw [hpb _ hr, if_pos hr2] at k e2
          have hc2 := h.blk_le h1 hn (h.pageBlk h1 hn k)
          have e3 := dq_inj hs hc.1 hc2.1 e2
          exact hk ⟨h64, h.pageInj h1 hn k e3⟩
  · rw [if_neg hp]
    unfold pgS
    rw [hpb q hq, if_neg hp, if_pos rfl]
end
end Go.Proofs.YtpnfkilfgdnogaaGreatDoor.Img
end
