/- Layer 11's law ImagePages, plain: what SetPage and Resize make of each page. -/
import Derived.Test.YtpnfkilfgdnogaaGreatDoorImgE
import Derived.Test.YtpnfkilfgdnogaaGreatDoorImgD
import Derived.Test.YtpnfkilfgdnogaaGreatDoorDirN
import Derived.Test.YtpnfkilfgdnogaaGreatDoorBmM
import Derived.Test.YtpnfkilfgdnogaaGreatDoorImgC
import Derived.Test.YtpnfkilfgdnogaaGreatDoorInoM
import Derived.Laws.IdiomArrays
import Derived.WalkKit
import Derived.ProofKit
import Derived.Deep.Slices
import Derived.Deep.Fields
import Derived.Deep.Strs
import Derived.ChangeSame
import Derived.SizedLaws
import Derived.Deep.Cut
import Derived.Deep.CutBlock
import Derived.Deep.CutRange
import Derived.Deep.RegionLawGrows
section
namespace Go.Proofs.YtpnfkilfgdnogaaGreatDoor.Img
set_option linter.unusedVariables false
set_option linter.unusedSimpArgs false
open Go.RowKit Go.Shelf Go.Maps Oct Dev Jou Tx Geo Ino Bm
def lst (E : Im) (D : Secs) : Nat × Bool := leastB (D (fr E 3)) (E.bl + 1 : Nat) false
def newD (E : Im) (D : Secs) : Secs := upd (blkD E D (lst E D).1) (dq E (lst E D).1) (tellS [])
def SP (E : Im) (D : Secs) (n : Nat) (x : InoT) (v : List Nat) (p : Nat) (s : ByteArray) (D' : Secs) (y : InoT) (us : List Nat) : Prop :=
  (pageB x v p ≠ 0 ∧ D' = upd (setIno E D n x) (dq E (pageB x v p)) s ∧ y = x ∧ us = v) ∨
  (∃ b, p < 4 ∧ pageB x v p = 0 ∧ 1 ≤ b ∧ b ≤ E.bl ∧ bitB (D (fr E 3)) b = false ∧ (setDir x p b).Ok ∧ D' = upd (setIno E (blkD E D b) n (setDir x p b)) (dq E b) s ∧ y = setDir x p b ∧ us = v) ∨
  (∃ b, 4 ≤ p ∧ x.ind ≠ 0 ∧ pageB x v p = 0 ∧ 1 ≤ b ∧ b ≤ E.bl ∧ bitB (D (fr E 3)) b = false ∧ D' = upd (setIno E (upd (blkD E D b) (dq E x.ind) (tellS (v.set (p - 4) b))) n x) (dq E b) s ∧ y = x ∧ us = v.set (p - 4) b) ∨
  (∃ d b, 4 ≤ p ∧ x.ind = 0 ∧ 1 ≤ d ∧ d ≤ E.bl ∧ bitB (D (fr E 3)) d = false ∧ 1 ≤ b ∧ b ≤ E.bl ∧ bitB ((upd (blkD E D d) (dq E d) (tellS [])) (fr E 3)) b = false ∧ ({ x with ind := d } : InoT).Ok ∧ D' = upd (setIno E (upd (blkD E (upd (blkD E D d) (dq E d) (tellS [])) b) (dq E d) (tellS ((List.replicate 32 0).set (p - 4) b))) n { x with ind := d }) (dq E b) s ∧ y = { x with ind := d } ∧ us = (List.replicate 32 0).set (p - 4) b)
theorem setDir_row {x : InoT} {p b : Nat} (hp : p < 4) : (setDir x p b).row = x.row.set p b := by
  match p, hp with
  | 0, _ => rfl
  | 1, _ => rfl
  | 2, _ => rfl
  | 3, _ => rfl
theorem setDir_same {x : InoT} {p b : Nat} (hp : p < 4) : (setDir x p b).kind = x.kind ∧ (setDir x p b).links = x.links ∧ (setDir x p b).size = x.size := by
  match p, hp with
  | 0, _ => exact ⟨rfl, rfl, rfl⟩
  | 1, _ => exact ⟨rfl, rfl, rfl⟩
  | 2, _ => exact ⟨rfl, rfl, rfl⟩
  | 3, _ => exact ⟨rfl, rfl, rfl⟩
theorem used_set {x y : InoT} {p b : Nat} (h : x.Used) (e1 : y.kind = x.kind) (e2 : y.links = x.links) (e3 : y.size = x.size) (er : y.row = x.row.set p b) (hp : p * 64 < x.size) (hb : b ∉ x.row) (hlt : b < 65536) : y.Ok := by
  refine .inr ⟨by rw [e1]; exact h.kind, by rw [e2]; exact h.links, by rw [e3]; exact h.size, by rw [e1, e3]; exact h.dir, ?_, ?_⟩
  · rw [e3, er]
    refine okRow_set h.row ?_ hb
    unfold pagesN
    omega
  · intro v hv
    rw [er] at hv
    rcases List.mem_or_eq_of_mem_set hv with q | q
    · exact h.lt v q
    · rw [q]
      exact hlt
theorem row_mem {x : InoT} {b : Nat} (h : b ∈ x.row) : b ∈ dirL x ∨ b = x.ind := by
  unfold InoT.row at h
  unfold dirL
  simp only [List.mem_cons, List.not_mem_nil, or_false] at h ⊢
  omega
section
variable {E : Im} {D : Secs} {ino : Nat → InoT} {vs : Nat → List Nat}
theorem Owns.notRow (h : Owns E D ino vs) {n b : Nat} (h1 : 1 ≤ n) (hn : n ≤ E.i) (hb1 : 1 ≤ b) (hb2 : b ≤ E.bl) (hbit : bitB (D (fr E 3)) b = false) : b ∉ (ino n).row := fun hm => by
  refine h.free b hb1 hb2 hbit n h1 hn ((mem_blks (h.ind n h1 hn).len b).2 ⟨by omega, ?_⟩)
  rcases row_mem hm with q | q
  · exact .inl q
  · exact .inr (.inr q)
theorem SP.owns {n p : Nat} {s : ByteArray} {D' : Secs} {y : InoT} {us : List Nat} (h : Owns E D ino vs) (hs : Small E) (h1 : 1 ≤ n) (hn : n ≤ E.i) (hsz : (D (tq E n)).size = 64) (hs3 : (D (fr E 3)).size = 64) (hp : p < 36) (g : SP E D n (ino n) (vs n) p s D' y us) : Owns E D' (put_ ino n y) (put_ vs n us) := by
  rcases g with ⟨g1, rfl, rfl, rfl⟩ | ⟨b, g1, g2, g3, g4, g5, g6, rfl, rfl, rfl⟩ | ⟨b, g1, g2, g3, g4, g5, g6, rfl, rfl, rfl⟩ | ⟨d, b, g1, g2, g3, g4, g5, g6, g7, g8, g9, rfl, rfl, rfl⟩
  · exact h.have_ hs n p s h1 hn hsz g1
  · exact h.lo hs n p b s h1 hn hsz hs3 g1 g2 g3 g4 g5 g6
  · exact h.hi hs n p b s _ rfl h1 hn hsz hs3 g1 hp g2 g3 g4 g5 g6
  · exact h.new hs n p d b s _ _ rfl rfl h1 hn hsz hs3 g1 hp g2 g3 g4 g5 g6 g7 g8 g9
theorem SP.same {n p : Nat} {x : InoT} {v : List Nat} {s : ByteArray} {D' : Secs} {y : InoT} {us : List Nat} (g : SP E D n x v p s D' y us) : y.kind = x.kind ∧ y.links = x.links ∧ y.size = x.size := by
  rcases g with ⟨g1, rfl, rfl, rfl⟩ | ⟨b, g1, g2, g3, g4, g5, g6, rfl, rfl, rfl⟩ | ⟨b, g1, g2, g3, g4, g5, g6, rfl, rfl, rfl⟩ | ⟨d, b, g1, g2, g3, g4, g5, g6, g7, g8, g9, rfl, rfl, rfl⟩
  · exact ⟨rfl, rfl, rfl⟩
  · exact setDir_same g1
  · exact ⟨rfl, rfl, rfl⟩
  · exact ⟨rfl, rfl, rfl⟩
end
section
variable {E : Im} {D : Secs} {Z : Nat → Prop} {Q : Prop} {ino : Nat → InoT} {vs : Nat → List Nat}
theorem Owns.least (h : Owns E D ino vs) {b : Nat} (hL : leastB (D (fr E 3)) (E.bl + 1 : Nat) false = (b, true)) : 1 ≤ b ∧ b ≤ E.bl ∧ bitB (D (fr E 3)) b = false := by
  obtain ⟨a, c⟩ := leastB_get hL
  have hz := h.zero
  refine ⟨?_, by omega, c⟩
  rcases Nat.eq_zero_or_pos b with q | q
  · rw [q, hz] at c
    cases c
  · exact q
theorem setPage_cases (n p : Nat) (s : ByteArray) (w : World) (hs : Small E) (h : IS w E D Z) (o : Owns E D ino vs) (h1 : 1 ≤ n) (hn : n ≤ E.i) (hk : (ino n).kind ≠ 0) (hp : p * 64 < (ino n).size) (h64 : s.size = 64)
    (hz3 : Z (fr E 3)) (hzt : Z (tq E n)) (hz : ∀ b, 1 ≤ b → b ≤ E.bl → (b = pageB (ino n) (vs n) p ∨ b = (ino n).ind ∨ b = (lst E D).1 ∨ b = (lst E (newD E D)).1) → Z (dq E b)) (hQ : FullE E Z → Q) (hN : ((lst E D).2 = false ∨ (lst E (newD E D)).2 = false) → Q) :
    Calls Tryz.prog 23 #[.pointer (some ⟨E.M, 0, none⟩), .int .u32 n, .int .i64 p, .string s] w (Out (.int .i64 0) (.int .i64 4) (fun W => ∃ D' y us, SP E D n (ino n) (vs n) p (cutS s (min 64 ((ino n).size - p * 64))) D' y us ∧ Wr E D' Z w W) (Fu E Q w)) := by
  have hok := o.ok n h1 hn
  have hu : (ino n).Used := hok.resolve_left (fun e => hk (by rw [e]; rfl))
  have hp36 : p < 36 := by have := hu.size; omega
  have hv := o.ind n h1 hn
  have hi := o.ing n h1 hn
  have hbl := hs.hb
  have hl := hs.may
  have hs3 : (D (fr E 3)).size = 64 := h.sec (fr_lt hs h (.inr rfl))
  have hb8 : 1 ≤ E.bl := by simp [mayG, inR] at hl; omega
  have main : ∀ (b : Nat) (y : InoT) (D1 : Secs) (us : List Nat), y.Ok → 1 ≤ b → b ≤ E.bl → Z (dq E b) → SP E D n (ino n) (vs n) p (cutS s (min 64 ((ino n).size - p * 64))) (upd (setIno E D1 n y) (dq E b) (cutS s (min 64 ((ino n).size - p * 64)))) y us →
      (∀ W, IS W E D Z → Calls Tryz.prog 67 #[.pointer (some ⟨E.M, 0, none⟩), (ino n).val, .int .i64 p] W (HomePost E D1 Z Q y b W)) →
      Calls Tryz.prog 23 #[.pointer (some ⟨E.M, 0, none⟩), .int .u32 n, .int .i64 p, .string s] w (Out (.int .i64 0) (.int .i64 4) (fun W => ∃ D' y us, SP E D n (ino n) (vs n) p (cutS s (min 64 ((ino n).size - p * 64))) D' y us ∧ Wr E D' Z w W) (Fu E Q w)) := by
    intro b y D1 us hy hb1 hb2 hzb hsp HM
    refine (setPage_is n p b (ino n) y s w hs h h1 hn (o.is n h1 hn) hok hk hp h64 hy hb1 hb2 hzt hzb hQ HM).mono ?_
    rintro e W (⟨rfl, g⟩ | g)
    · exact .inl ⟨rfl, _, y, us, hsp, g⟩
    · exact .inr g
  have none_ : (∀ W, IS W E D (fun _ => True) → Calls Tryz.prog 67 #[.pointer (some ⟨E.M, 0, none⟩), (ino n).val, .int .i64 p] W (fun e w' => (∃ v u : Value, e = .returned (.tuple #[v, u, .int .i64 4]) ∧ ∃ z : InoT, v = z.val) ∧ Fu E True W w')) → Q →
      Calls Tryz.prog 23 #[.pointer (some ⟨E.M, 0, none⟩), .int .u32 n, .int .i64 p, .string s] w (Out (.int .i64 0) (.int .i64 4) (fun W => ∃ D' y us, SP E D n (ino n) (vs n) p (cutS s (min 64 ((ino n).size - p * 64))) D' y us ∧ Wr E D' Z w W) (Fu E Q w)) := by
    intro HN q
    have hT : IS w E D (fun _ => True) := h.mono (fun _ _ => trivial)
    refine (setPage_is (Z := fun _ => True) (Q := Q) (D' := fun _ => ⟨#[]⟩) n p 1 (ino n) (ino n) s w hs hT h1 hn (o.is n h1 hn) hok hk hp h64 hok (Nat.le_refl 1) hb8 trivial trivial (fun _ => q) (fun W hW => (HN W hW).mono (fun e w' g => .inr ⟨g.1, ⟨q, g.2.1.2⟩, g.2.2⟩))).mono ?_
    rintro e W (⟨rfl, g⟩ | g)
    · have e3 := g.1.sec (fr_lt hs g.1 (.inr rfl))
      rw [upd_ne _ _ (q_dq3 hs (Nat.le_refl 1)).symm, setIno_q (q_tq3 hs n).symm] at e3
      exact absurd e3 (by decide)
    · exact .inr g
  by_cases hpb : pageB (ino n) (vs n) p = 0
  · by_cases h4 : p < 4
    · obtain ⟨b, r, hL⟩ : ∃ b r, lst E D = (b, r) := ⟨_, _, rfl⟩
      cases r with
      | true =>
        obtain ⟨b1, b2, b3⟩ := o.least hL
        have hy : (setDir (ino n) p b).Ok := used_set hu (setDir_same h4).1 (setDir_same h4).2.1 (setDir_same h4).2.2 (setDir_row h4) hp (o.notRow h1 hn b1 b2 b3) (by omega)
        exact main b (setDir (ino n) p b) (blkD E D b) (vs n) hy b1 b2 (hz b b1 b2 (.inr (.inr (.inl (by rw [hL]))))) (.inr (.inl ⟨b, h4, hpb, b1, b2, b3, hy, rfl, rfl, rfl⟩))
          (fun W hW => home_lo p b (ino n) (vs n) W hs hW hi hv h4 hpb hL b1 b2 hz3 (hz b b1 b2 (.inr (.inr (.inl (by rw [hL]))))) hQ)
      | false =>
        have hL2 : (lst E D).2 = false := by rw [hL]
        exact none_ (fun W hW => (home_none p (ino n) (vs n) W hs hW hi hv hp36 (.inl h4) hpb hL2).mono (fun e w' g => ⟨g.1, Fu.of_below trivial g.2⟩)) (hN (.inl hL2))
    · by_cases h0 : (ino n).ind = 0
      · obtain ⟨d, r, hL⟩ : ∃ b r, lst E D = (b, r) := ⟨_, _, rfl⟩
        cases r with
        | true =>
          obtain ⟨d1, d2, d3⟩ := o.least hL
          have hnd : newD E D = upd (blkD E D d) (dq E d) (tellS []) := by unfold newD; rw [hL]
          have h32 : (upd (blkD E D d) (dq E d) (tellS [])) (fr E 3) = setB (D (fr E 3)) d true := by rw [upd_ne _ _ (q_dq3 hs d1).symm, blkD_fr hs d1]
          have hk3 : ∀ k, bitB ((upd (blkD E D d) (dq E d) (tellS [])) (fr E 3)) k = if k = d then true else bitB (D (fr E 3)) k := fun k => by rw [h32]; exact bitB_setB _ _ _ _ (by omega)
          have hv1 : IndIs E (upd (blkD E D d) (dq E d) (tellS [])) d (List.replicate 32 0) := ⟨List.length_replicate .., fun v hv => by rw [List.eq_of_mem_replicate hv]; exact Nat.zero_le _, fun _ => rfl, fun _ => by rw [upd_same]; exact tellS_nil⟩
          obtain ⟨b, r, hL2⟩ : ∃ b r, lst E (newD E D) = (b, r) := ⟨_, _, rfl⟩
          have hzd := hz d d1 d2 (.inr (.inr (.inl (by rw [hL]))))
          cases r with
          | true =>
            have hzb : 1 ≤ b → b ≤ E.bl → Z (dq E b) := fun b1 b2 => hz b b1 b2 (.inr (.inr (.inr (by rw [hL2]))))
            rw [hnd] at hL2
            obtain ⟨b2, b3⟩ := leastB_get hL2
            have b1 : 1 ≤ b := by
              rcases Nat.eq_zero_or_pos b with q | q
              · rw [q, hk3, if_neg (by omega), o.zero] at b3
                cases b3
              · exact q
            have hbd : b ≠ d := fun e => by
              rw [hk3, if_pos e] at b3
              cases b3
            have hy : ({ ino n with ind := d } : InoT).Ok := used_set (b := d) hu rfl rfl rfl (p := 4) rfl (by omega) (o.notRow h1 hn d1 d2 d3) (by omega)
            have hv2 : IndIs E (blkD E (upd (blkD E D d) (dq E d) (tellS [])) b) d (List.replicate 32 0) := ind_frame hv1 (fun _ => blkD_ne hs (q_dq3 hs d1) (fun e => hbd (dq_inj hs d1 b1 e).symm))
            exact main b { ino n with ind := d } _ _ hy b1 (by omega) (hzb b1 (by omega)) (.inr (.inr (.inr ⟨d, b, by omega, h0, d1, d2, d3, b1, by omega, b3, hy, rfl, rfl, rfl⟩)))
              (fun W hW => home_new p d b (ino n) W _ hs hW hi h0 (by omega) hp36 hL d1 d2 rfl hv1 hv2 hL2 b1 (by omega) hz3 hzd (hzb b1 (by omega)) hQ)
          | false =>
            have hq := hN (.inr (by rw [hL2]))
            rw [hnd] at hL2
            have hL3 : (leastB ((upd (blkD E D d) (dq E d) (tellS [])) (fr E 3)) (E.bl + 1 : Nat) false).2 = false := by
              show (lst E (upd (blkD E D d) (dq E d) (tellS []))).2 = false
              rw [hL2]
            exact none_ (fun W hW => home_new_none (Z := fun _ => True) p d (ino n) W _ hs hW hi h0 (by omega) hp36 hL d1 d2 rfl hv1 hL3 trivial trivial) hq
        | false =>
          have hL2 : (lst E D).2 = false := by rw [hL]
          exact none_ (fun W hW => (home_none0 p (ino n) W hs hW hp36 (by omega) h0 hL2).mono (fun e w' g => ⟨g.1, Fu.of_below trivial g.2⟩)) (hN (.inl hL2))
      · obtain ⟨b, r, hL⟩ : ∃ b r, lst E D = (b, r) := ⟨_, _, rfl⟩
        cases r with
        | true =>
          obtain ⟨b1, b2, b3⟩ := o.least hL
          have hv2 : IndIs E (blkD E D b) (ino n).ind (vs n) := ind_frame hv (fun k => blkD_ne hs (q_dq3 hs (by omega)) (fun e => o.freeInd b b1 b2 b3 n h1 hn (dq_inj hs (by omega) b1 e)))
          have hzn : Z (dq E (ino n).ind) := hz _ (by omega) hi.2.2.2.2 (.inr (.inl rfl))
          have hzb := hz b b1 b2 (.inr (.inr (.inl (by rw [hL]))))
          exact main b (ino n) _ _ hok b1 b2 hzb (.inr (.inr (.inl ⟨b, by omega, h0, hpb, b1, b2, b3, rfl, rfl, rfl⟩)))
            (fun W hW => home_hi p b (ino n) (vs n) W hs hW hi hv hv2 (by omega) hp36 (by omega) hzn hpb hL b1 b2 hz3 hzb hQ)
        | false =>
          have hL2 : (lst E D).2 = false := by rw [hL]
          exact none_ (fun W hW => (home_none p (ino n) (vs n) W hs hW hi hv hp36 (.inr h0) hpb hL2).mono (fun e w' g => ⟨g.1, Fu.of_below trivial g.2⟩)) (hN (.inl hL2))
  · have hm : pageB (ino n) (vs n) p ∈ blks (ino n) (vs n) := (mem_blks hv.len _).2 ⟨hpb, (pageB_mem hpb).elim .inl (fun q => .inr (.inl q))⟩
    have hle := o.blk_le h1 hn hm
    have h04 : p < 4 ∨ (ino n).ind ≠ 0 := by
      rcases Nat.lt_or_ge p 4 with q | q
      · exact .inl q
      · refine .inr (fun e => hpb ?_)
        obtain ⟨hq, hv4⟩ := pageB_hi (x := ino n) (vs := vs n) q hv.len hp36
        have hmem : (vs n)[p - 4] ∈ vs n := List.getElem_mem hq
        have hz0 : ∀ v, v ∈ vs n → v = 0 := fun v hm => by
          rw [hv.no e] at hm
          exact List.eq_of_mem_replicate hm
        rw [hv4]
        exact hz0 _ hmem
    exact main (pageB (ino n) (vs n) p) (ino n) D (vs n) hok hle.1 hle.2 (hz _ hle.1 hle.2 (.inl rfl)) (.inl ⟨hpb, rfl, rfl, rfl⟩)
      (fun W hW => home_have p (ino n) (vs n) W hs hW hi hv hp36 hpb h04)
end
end Go.Proofs.YtpnfkilfgdnogaaGreatDoor.Img
end
section
namespace Go.Proofs.YtpnfkilfgdnogaaGreatDoor.Img
set_option linter.unusedVariables false
set_option linter.unusedSimpArgs false
open Go.RowKit Go.Shelf Go.Maps Oct Dev Jou Tx Geo Ino Bm
def Every : Nat → Prop := fun _ => True
def Whole (E : Im) (W : World) : Prop := ∃ D ino vs, IS W E D Every ∧ Owns E D ino vs
def Ans (E : Im) (w : World) (e : Ending) (w' : World) : Prop := ∃ c : Int, e = .returned (.int .i64 c) ∧ Tch (fun c => c = E.T.m) w w' ∧ (c ≠ 4 → Whole E w')
section
variable {E : Im} {D : Secs} {ino : Nat → InoT} {vs : Nat → List Nat}
theorem Whole.later {W W' : World} (h : Whole E W) (hb : Below W.heap.size W W') : Whole E W' := by
  obtain ⟨D, ino, vs, h1, h2⟩ := h
  exact ⟨D, ino, vs, h1.later hb, h2⟩
theorem Ans.below {w w' : World} (c : Int) (h : Whole E w) (hb : Below w.heap.size w w') : Ans E w (.returned (.int .i64 c)) w' := ⟨c, rfl, Tch.of_below hb, fun _ => h.later hb⟩
end
end Go.Proofs.YtpnfkilfgdnogaaGreatDoor.Img
end
section
namespace Go.Proofs.YtpnfkilfgdnogaaGreatDoor.Img
set_option linter.unusedVariables false
set_option linter.unusedSimpArgs false
open Go.RowKit Go.Shelf Go.Maps Oct Dev Jou Tx Geo Ino Bm
set_option maxRecDepth 100000 in
set_option maxHeartbeats 1000000 in
theorem enter_go (M n i : Nat) (nm s t : ByteArray) (c : Int) (w : World) (R : Int → World → Prop)
    (hT : Calls Tryz.prog 16 #[.pointer (some ⟨M, 0, none⟩), .int .u32 n] w fun e w' => e = .returned (.tuple #[.string s, .int .i64 0]) ∧ Below w.heap.size w w')
    (hA : ∀ W, Calls Tryz.prog 77 #[.string s, .string nm, .int .u32 i] W fun e w' => e = .returned (.tuple #[.string t, .int .i64 c]) ∧ Below W.heap.size W w')
    (hc : c ≠ 0 → ∀ W, Below w.heap.size w W → R c W)
    (hC : c = 0 → ∀ W, Below w.heap.size w W → Calls Tryz.prog 78 #[.pointer (some ⟨M, 0, none⟩), .int .u32 n, .string s, .string t] W fun e W' => ∃ c', e = .returned (.int .i64 c') ∧ R c' W')
    (hR : ∀ c W W', R c W → Below W.heap.size W W' → R c W') :
    Calls Tryz.prog 30 #[.pointer (some ⟨M, 0, none⟩), .int .u32 n, .string nm, .int .u32 i] w fun e W => ∃ c', e = .returned (.int .i64 c') ∧ R c' W := by
  have TX := Lib.hid hT
  have AD := Lib.hid hA
  have HR := Lib.hid hR
  clear hT hA hR
  go_enter Tryz.func30, Tryz.ntmps30
  go_wp2_with fail
  refine TX.out.mono ?_
  rintro e w1 ⟨rfl, b1⟩
  have B1 := Lib.hid b1
  clear b1
  go_wp2_with fail
  refine (AD.out _).mono ?_
  rintro e w2 ⟨rfl, b2⟩
  have B2 := Lib.hid (B1.out.trans (b2.mono B1.out.size))
  clear b2
  by_cases h0 : c = 0
  · have CH := Lib.hid (hC h0)
    subst h0
    clear hc hC
    go_wp2_with fail
    refine (CH.out _ B2.out).mono ?_
    rintro e w3 ⟨c', rfl, hr⟩
    have H3 := Lib.hid hr
    clear hr
    go_wp2
    go_ret
    exact ⟨c', rfl, H3.out⟩
  · have HC := Lib.hid (hc h0 _ B2.out)
    have t1 : (c != 0) = true := by simp; omega
    clear hc hC
    go_wp2
    go_ret
    exact ⟨c, rfl, HC.out⟩
set_option maxRecDepth 100000 in
set_option maxHeartbeats 1000000 in
theorem leave_go (M n v : Nat) (nm s t : ByteArray) (c : Int) (w : World) (R : Int → World → Prop)
    (hT : Calls Tryz.prog 16 #[.pointer (some ⟨M, 0, none⟩), .int .u32 n] w fun e w' => e = .returned (.tuple #[.string s, .int .i64 0]) ∧ Below w.heap.size w w')
    (hA : ∀ W, Calls Tryz.prog 79 #[.string s, .string nm] W fun e w' => e = .returned (.tuple #[.string t, .int .u32 v, .int .i64 c]) ∧ Below W.heap.size W w')
    (hc : c ≠ 0 → ∀ W, Below w.heap.size w W → R c W)
    (hC : c = 0 → ∀ W, Below w.heap.size w W → Calls Tryz.prog 78 #[.pointer (some ⟨M, 0, none⟩), .int .u32 n, .string s, .string t] W fun e W' => ∃ c', e = .returned (.int .i64 c') ∧ R c' W')
    (hR : ∀ c W W', R c W → Below W.heap.size W W' → R c W') :
    Calls Tryz.prog 31 #[.pointer (some ⟨M, 0, none⟩), .int .u32 n, .string nm] w fun e W => ∃ (u : Nat) (c' : Int), e = .returned (.tuple #[.int .u32 u, .int .i64 c']) ∧ R c' W ∧ (c' = 0 → u = v) := by
  have TX := Lib.hid hT
  have AD := Lib.hid hA
  have HR := Lib.hid hR
  clear hT hA hR
  go_enter Tryz.func31, Tryz.ntmps31
  go_wp2_with fail
  refine TX.out.mono ?_
  rintro e w1 ⟨rfl, b1⟩
  have B1 := Lib.hid b1
  clear b1
  go_wp2_with fail
  refine (AD.out _).mono ?_
  rintro e w2 ⟨rfl, b2⟩
  have B2 := Lib.hid (B1.out.trans (b2.mono B1.out.size))
  clear b2
  by_cases h0 : c = 0
  · have CH := Lib.hid (hC h0)
    subst h0
    clear hc hC
    go_wp2_with fail
    refine (CH.out _ B2.out).mono ?_
    rintro e w3 ⟨c', rfl, hr⟩
    have H3 := Lib.hid hr
    clear hr
    by_cases h1 : c' = 0
    · subst h1
      go_wp2
      go_ret2
      exact ⟨v, 0, rfl, H3.out, fun _ => rfl⟩
    · have t1 : (c' != 0) = true := by simp; omega
      go_wp2
      go_ret2
      exact ⟨0, c', rfl, H3.out, fun q => absurd q h1⟩
  · have HC := Lib.hid (hc h0 _ B2.out)
    have t0 : (c == 0) = false := by simp; omega
    have t1 : (c != 0) = true := by simp; omega
    clear hc hC
    go_wp2
    go_ret2
    exact ⟨0, c, rfl, HC.out, fun q => absurd q h0⟩
def AnsR (E : Im) (w : World) (c : Int) (W : World) : Prop := Tch (fun c => c = E.T.m) w W ∧ (c ≠ 4 → Whole E W)
theorem AnsR.later {E : Im} {w W W' : World} {c : Int} (h : AnsR E w c W) (hb : Below W.heap.size W W') : AnsR E w c W' := ⟨h.1.trans (Tch.of_below hb), fun q => (h.2 q).later hb⟩
section
variable {E : Im}
def AnsL (E : Im) (w : World) (e : Ending) (w' : World) : Prop := ∃ (u : Nat) (c : Int), e = .returned (.tuple #[.int .u32 u, .int .i64 c]) ∧ Tch (fun c => c = E.T.m) w w' ∧ (c ≠ 4 → Whole E w')
theorem AnsL.below {w w' : World} (c : Int) (h : Whole E w) (hb : Below w.heap.size w w') : AnsL E w (.returned (.tuple #[.int .u32 0, .int .i64 c])) w' := ⟨0, c, rfl, Tch.of_below hb, fun _ => h.later hb⟩
end
end Go.Proofs.YtpnfkilfgdnogaaGreatDoor.Img
end
section
namespace Go.Proofs.YtpnfkilfgdnogaaGreatDoor.Img
set_option linter.unusedVariables false
set_option linter.unusedSimpArgs false
open Go.RowKit Go.Shelf Go.Maps Oct Dev Jou Tx Geo Ino Bm
def flatL (L : Nat → List Nat) : Nat → List Nat
  | 0 => []
  | n + 1 => flatL L n ++ L (n + 1)
def u32R : ElemR := fun v => match v with
  | .int .u32 n => some (.lit (.int .u32 n), [])
  | _ => none
theorem u32R_mk (n : Int) : u32R (.int .u32 n) = some (.lit (.int .u32 n), []) := rfl
theorem under_own : Tryz.prog.underlying 153 = some (.map 39 40) := by kernel_rfl
def NoOwn (f : Int → Option (DataW Unit)) (l : List Nat) : Prop := ∀ v : Nat, v ∉ l → f v = none
theorem own_put {W : World} {b nn : Nat} {f : Int → Option (DataW Unit)} {l : List Nat} (h : UMap W u32R b nn f) (hn : nn < maxLen) (v i : Nat) (hv : v < 65536) (hf : NoOwn f l) :
    ∃ W' f', (Instr.mapUpdate 153 (.map (some b)) (.int .u16 (v : Int)) (.int .u32 i)).run Tryz.prog W = .ok () W' ∧ UMap W' u32R b (nn + 1) f' ∧ NoOwn f' (l ++ [v]) ∧ W.mapTurned W' b := by
  obtain ⟨W', hrun, r1, r2⟩ := h.put under_own hn v (wf_u16 hv) (u32R_mk i)
  refine ⟨W', _, hrun, r1, fun u hu => ?_, r2⟩
  rw [List.mem_append, List.mem_singleton] at hu
  unfold putU
  rw [if_neg (fun e => hu (.inr (by omega)))]
  exact hf u (fun q => hu (.inl q))
theorem Row16.kept {W W' : World} {g : Nat} {l : List Nat} {row : Option Nat} (h : Row16 W g l) (hg : W.grownBy W' row) (hne : some g ≠ row) : Row16 W' g l := by
  obtain ⟨cs, h1, h2⟩ := h
  exact ⟨cs, h1.kept hg hne, h2⟩
end Go.Proofs.YtpnfkilfgdnogaaGreatDoor.Img
end
section
namespace Go.Proofs.YtpnfkilfgdnogaaGreatDoor.Img
set_option linter.unusedVariables false
set_option linter.unusedSimpArgs false
open Go.RowKit Go.Shelf Go.Maps Oct Dev Jou Tx Geo Ino Bm
def allBlks (ino : Nat → InoT) (vs : Nat → List Nat) : Nat → List Nat := flatL (fun m => blks (ino m) (vs m))
theorem mem_allBlks {ino : Nat → InoT} {vs : Nat → List Nat} {b : Nat} : ∀ n, b ∈ allBlks ino vs n ↔ ∃ m, 1 ≤ m ∧ m ≤ n ∧ b ∈ blks (ino m) (vs m)
  | 0 => by
    constructor
    · intro h
      cases h
    · rintro ⟨m, h1, h2, _⟩
      omega
  | n + 1 => by
    have e : allBlks ino vs (n + 1) = allBlks ino vs n ++ blks (ino (n + 1)) (vs (n + 1)) := rfl
    rw [e, List.mem_append, mem_allBlks n]
    constructor
    · rintro (⟨m, h1, h2, h3⟩ | h)
      · exact ⟨m, h1, by omega, h3⟩
      · exact ⟨n + 1, by omega, Nat.le_refl _, h⟩
    · rintro ⟨m, h1, h2, h3⟩
      by_cases q : m = n + 1
      · subst q
        exact .inr h3
      · exact .inl ⟨m, h1, by omega, h3⟩
section
variable {E : Im} {D : Secs} {ino : Nat → InoT} {vs : Nat → List Nat}
theorem Owns.allNodup (h : Owns E D ino vs) : ∀ n, n ≤ E.i → (allBlks ino vs n).Nodup
  | 0, _ => List.nodup_nil
  | n + 1, hn => by
    have e : allBlks ino vs (n + 1) = allBlks ino vs n ++ blks (ino (n + 1)) (vs (n + 1)) := rfl
    rw [e, List.nodup_append]
    refine ⟨h.allNodup n (by omega), h.once (n + 1) (by omega) hn, fun a ha b hb q => ?_⟩
    subst q
    obtain ⟨m, m1, m2, hm⟩ := (mem_allBlks n).1 ha
    have := h.one m (n + 1) a m1 (by omega) (by omega) hn hm hb
    omega
theorem Owns.count (h : Owns E D ino vs) : cntT (D (fr E 3)) (E.bl + 1) = (allBlks ino vs E.i).length + 1 := by
  unfold cntT
  have hp : ((List.range (E.bl + 1)).filter fun k => bitB (D (fr E 3)) k).Perm (0 :: allBlks ino vs E.i) := by
    rw [List.perm_ext_iff_of_nodup]
    · intro b
      rw [List.mem_filter, List.mem_range, List.mem_cons, mem_allBlks]
      constructor
      · rintro ⟨h1, h2⟩
        by_cases q : b = 0
        · exact .inl q
        · exact .inr ((h.bit b (by omega) (by omega)).1 h2)
      · rintro (rfl | ⟨m, m1, m2, hm⟩)
        · exact ⟨by omega, h.zero⟩
        · have := h.blk_le m1 m2 hm
          exact ⟨by omega, h.blk_bit m1 m2 hm⟩
    · exact List.Pairwise.filter _ List.nodup_range
    · rw [List.nodup_cons]
      refine ⟨fun q => ?_, h.allNodup E.i (Nat.le_refl _)⟩
      obtain ⟨m, m1, m2, hm⟩ := (mem_allBlks _).1 q
      have := (h.blk_le m1 m2 hm).1
      omega
  rw [hp.length_eq, List.length_cons]
theorem Owns.left (h : Owns E D ino vs) (hs : Small E) (h3 : (D (fr E 3)).size = 64) : ((E.bl : Int) + 1 - (countB (D (fr E 3)) ((E.bl : Int) + 1) : Nat)) = (E.bl : Int) - (allBlks ino vs E.i).length := by
  have hbl := hs.hb
  have e := countB_cnt (D (fr E 3)) (E.bl + 1) (by omega)
  rw [h.count] at e
  have e2 : ((E.bl : Int) + 1) = ((E.bl + 1 : Nat) : Int) := by push_cast; rfl
  rw [e2, e]
  push_cast
  omega
end
end Go.Proofs.YtpnfkilfgdnogaaGreatDoor.Img
end
section
namespace Go.Proofs.YtpnfkilfgdnogaaGreatDoor.Img
set_option linter.unusedVariables false
set_option linter.unusedSimpArgs false
open Go.RowKit Go.Shelf Go.Maps Oct Dev Jou Tx Geo Ino Bm
section
variable {E : Im} {D : Secs} {ino : Nat → InoT} {vs : Nat → List Nat}
theorem q_fr2 (hs : Small E) : fr E 2 ≠ fr E 3 ∧ (∀ n, fr E 2 ≠ tq E n) ∧ ∀ b, 1 ≤ b → fr E 2 ≠ dq E b := by
  have hv := hs.vals
  refine ⟨by omega, fun n => ?_, fun b hb => ?_⟩
  · unfold tq
    omega
  · unfold dq
    omega
theorem Owns.imap (h : Owns E D ino vs) (hs : Small E) (s : ByteArray) : Owns E (upd D (fr E 2) s) ino vs := by
  obtain ⟨q3, qt, qd⟩ := q_fr2 hs
  have hf : upd D (fr E 2) s (fr E 3) = D (fr E 3) := upd_ne _ _ q3.symm
  refine ⟨fun n n1 n2 => (h.is n n1 n2).upd (qt n).symm, h.ok, h.ing, fun n n1 n2 => ind_frame (h.ind n n1 n2) (fun k => upd_ne _ _ (qd _ (by omega)).symm), ?_, ?_, h.one, h.once⟩
  · rw [hf]
    exact h.bit
  · rw [hf]
    exact h.zero
def Z4 (E : Im) : Nat → Prop := fun q => q = fr E 2 ∨ q = tq E 2 ∨ q = tq E 3 ∨ q = tq E 4
def Pre (E : Im) (i : Nat) (W : World) : Prop := ∃ D ino vs, IS W E D (Z4 E) ∧ Owns E D ino vs ∧ (∀ k, k < 512 → bitB (D (fr E 2)) k = decide (k < i)) ∧ ∀ n, i ≤ n → n ≤ E.i → (ino n).row = [0, 0, 0, 0, 0]
theorem Pre.whole {i : Nat} {W : World} (h : Pre E i W) : Whole E W := by
  obtain ⟨D, ino, vs, h1, h2, _⟩ := h
  exact ⟨D, ino, vs, h1.mono (fun _ _ => trivial), h2⟩
theorem Pre.later {i : Nat} {W W' : World} (h : Pre E i W) (hb : Below W.heap.size W W') : Pre E i W' := by
  obtain ⟨D, ino, vs, h1, h2⟩ := h
  exact ⟨D, ino, vs, h1.later hb, h2⟩
def Mid (E : Im) (i : Nat) (W : World) : Prop := ∃ D ino vs, IS W E D (Z4 E) ∧ Owns E D ino vs ∧ (∀ k, k < 512 → bitB (D (fr E 2)) k = decide (k < i + 1)) ∧ ∀ n, i ≤ n → n ≤ E.i → (ino n).row = [0, 0, 0, 0, 0]
theorem Mid.later {i : Nat} {W W' : World} (h : Mid E i W) (hb : Below W.heap.size W W') : Mid E i W' := by
  obtain ⟨D, ino, vs, h1, h2⟩ := h
  exact ⟨D, ino, vs, h1.later hb, h2⟩
end
end Go.Proofs.YtpnfkilfgdnogaaGreatDoor.Img
end
section
namespace Go.Proofs.YtpnfkilfgdnogaaGreatDoor.Img
open Go.ChangeShapes Go.WideShapes Go.Deep Go.RowKit Go.ChangeAt
open Oct Geo Ino
set_option linter.unusedVariables false
set_option linter.unusedSimpArgs false
structure St where
  d : Int
  n : Int
  i : Nat
  t : Nat
  x : InoT
  s : ByteArray
  r : Bool
def stCells (x : St) : List Value := [.int .i64 x.d, .int .i64 x.n, .int .u32 x.i, .int .u32 x.t, .int .u8 x.x.kind, .int .u16 x.x.links, .int .u32 x.x.size, .int .u16 x.x.d0, .int .u16 x.x.d1, .int .u16 x.x.d2, .int .u16 x.x.d3, .int .u16 x.x.ind, .string x.s, .bool x.r]
theorem stCells_len (x : St) : (stCells x).length = 14 := rfl
def StsAt (W : World) (b o : Nat) (st : List St) : Prop := ∀ j (h : j < st.length) (k : Nat) (v : Value), (stCells st[j])[k]? = some v → W.cell? ⟨b, o + (j * 14 + k), none⟩ = some v
theorem cells_st : Tryz.prog.cellsOf 54 = 14 := by kernel_rfl
theorem bytes_st : Tryz.prog.bytesOf 54 = 72 := by kernel_rfl
theorem list14 {α : Type} {l : List α} (h : l.length = 14) : ∃ c0 c1 c2 c3 c4 c5 c6 c7 c8 c9 c10 c11 c12 c13, l = [c0, c1, c2, c3, c4, c5, c6, c7, c8, c9, c10, c11, c12, c13] := by
  match l, h with
  | [c0, c1, c2, c3, c4, c5, c6, c7, c8, c9, c10, c11, c12, c13], _ => exact ⟨c0, c1, c2, c3, c4, c5, c6, c7, c8, c9, c10, c11, c12, c13, rfl⟩
theorem list7 {α : Type} {l : List α} (h : l.length = 7) : ∃ y0 y1 y2 y3 y4 y5 y6, l = [y0, y1, y2, y3, y4, y5, y6] := by
  match l, h with
  | [y0, y1, y2, y3, y4, y5, y6], _ => exact ⟨y0, y1, y2, y3, y4, y5, y6, rfl⟩
theorem list5 {α : Type} {l : List α} (h : l.length = 5) : ∃ y0 y1 y2 y3 y4, l = [y0, y1, y2, y3, y4] := by
  match l, h with
  | [y0, y1, y2, y3, y4], _ => exact ⟨y0, y1, y2, y3, y4, rfl⟩
section
variable {H : Type} {enc : TypeId × Value → H} {W : World} {base : Nat} {sp : Nat → Bool} {held : Bool}
theorem nat_of {fuel : Nat} {t : TypeId} {k : IntKind} {c : Value} {x : DataW H × List MemPlace} (ht : Tryz.prog.underlying t = some (.int k)) (h : DataW.trod enc Tryz.prog W base sp held fuel t [c] = some x) (h0 : k.min = 0) : ∃ m : Nat, c = .int k m ∧ (m : Int) ≤ k.max := by
  obtain ⟨n, e, _, hw⟩ := DataW.trod_int ht h
  simp only [List.cons.injEq, and_true] at e
  simp only [Lit.wf, Bool.and_eq_true, decide_eq_true_eq] at hw
  rw [h0] at hw
  obtain ⟨m, rfl⟩ := Int.eq_ofNat_of_zero_le hw.1
  exact ⟨m, e, hw.2⟩
set_option maxRecDepth 100000 in
theorem open_ino {fuel : Nat} {c0 c1 c2 c3 c4 c5 c6 c7 : Value} {y : DataW H × List MemPlace} (h : DataW.trod enc Tryz.prog W base sp held fuel 43 [c0, c1, c2, c3, c4, c5, c6, c7] = some y) :
    ∃ x : InoT, c0 = .int .u8 x.kind ∧ c1 = .int .u16 x.links ∧ c2 = .int .u32 x.size ∧ c3 = .int .u16 x.d0 ∧ c4 = .int .u16 x.d1 ∧ c5 = .int .u16 x.d2 ∧ c6 = .int .u16 x.d3 ∧ c7 = .int .u16 x.ind := by
  obtain ⟨xs, n, _, hx, hl, hxl, hg⟩ := DataW.trod_struct Tryz.underlying43 h
  obtain ⟨y0, y1, y2, y3, y4, rfl⟩ := list5 (hxl.trans rfl)
  have g0 : DataW.trod enc Tryz.prog W base sp held n 5 [c0] = some y0 := hg 0 _ rfl
  have g1 : DataW.trod enc Tryz.prog W base sp held n 39 [c1] = some y1 := hg 1 _ rfl
  have g2 : DataW.trod enc Tryz.prog W base sp held n 40 [c2] = some y2 := hg 2 _ rfl
  have g3 : DataW.trod enc Tryz.prog W base sp held n 41 [c3, c4, c5, c6] = some y3 := hg 3 _ rfl
  have g4 : DataW.trod enc Tryz.prog W base sp held n 39 [c7] = some y4 := hg 4 _ rfl
  obtain ⟨z0, z1, z2, z3, m, rfl, t0, t1, t2, t3⟩ := trod_array4 Tryz.underlying41 (by kernel_rfl) g3
  obtain ⟨m0, e0, _⟩ := nat_of Tryz.underlying5 g0 rfl
  obtain ⟨m1, e1, _⟩ := nat_of Tryz.underlying39 g1 rfl
  obtain ⟨m2, e2, _⟩ := nat_of Tryz.underlying40 g2 rfl
  obtain ⟨m3, e3, _⟩ := nat_of Tryz.underlying39 t0 rfl
  obtain ⟨m4, e4, _⟩ := nat_of Tryz.underlying39 t1 rfl
  obtain ⟨m5, e5, _⟩ := nat_of Tryz.underlying39 t2 rfl
  obtain ⟨m6, e6, _⟩ := nat_of Tryz.underlying39 t3 rfl
  obtain ⟨m7, e7, _⟩ := nat_of Tryz.underlying39 g4 rfl
  exact ⟨⟨m0, m1, m2, m3, m4, m5, m6, m7⟩, e0, e1, e2, e3, e4, e5, e6, e7⟩
set_option maxRecDepth 100000 in
theorem open_st {fuel : Nat} {cs : List Value} {y : DataW H × List MemPlace} (h : DataW.trod enc Tryz.prog W base sp held fuel 54 cs = some y) :
    ∃ x : St, cs = stCells x ∧ x.i < 4294967296 ∧ x.t < 4294967296 ∧ x.s.size ∈ y.1.weights Tryz.prog 54 := by
  obtain ⟨xs, n, _, rfl, hl, hxl, hg⟩ := DataW.trod_struct Tryz.underlying54 h
  obtain ⟨c0, c1, c2, c3, c4, c5, c6, c7, c8, c9, c10, c11, c12, c13, rfl⟩ := list14 (hl.trans cells_st)
  obtain ⟨y0, y1, y2, y3, y4, y5, y6, rfl⟩ := list7 (hxl.trans rfl)
  have g0 : DataW.trod enc Tryz.prog W base sp held n 3 [c0] = some y0 := hg 0 _ rfl
  have g1 : DataW.trod enc Tryz.prog W base sp held n 3 [c1] = some y1 := hg 1 _ rfl
  have g2 : DataW.trod enc Tryz.prog W base sp held n 40 [c2] = some y2 := hg 2 _ rfl
  have g3 : DataW.trod enc Tryz.prog W base sp held n 40 [c3] = some y3 := hg 3 _ rfl
  have g4 : DataW.trod enc Tryz.prog W base sp held n 43 [c4, c5, c6, c7, c8, c9, c10, c11] = some y4 := hg 4 _ rfl
  have g5 : DataW.trod enc Tryz.prog W base sp held n 9 [c12] = some y5 := hg 5 _ rfl
  have g6 : DataW.trod enc Tryz.prog W base sp held n 4 [c13] = some y6 := hg 6 _ rfl
  obtain ⟨m0, e0, _, _⟩ := DataW.trod_int Tryz.underlying3 g0
  obtain ⟨m1, e1, _, _⟩ := DataW.trod_int Tryz.underlying3 g1
  obtain ⟨m2, e2, b2⟩ := nat_of Tryz.underlying40 g2 rfl
  obtain ⟨m3, e3, b3⟩ := nat_of Tryz.underlying40 g3 rfl
  obtain ⟨x, e4, e5, e6, e7, e8, e9, e10, e11⟩ := open_ino g4
  obtain ⟨s, e12, rfl, _⟩ := DataW.trod_string Tryz.underlying9 g5
  obtain ⟨r, e13, _⟩ := DataW.trod_bool Tryz.underlying4 g6
  simp only [List.cons.injEq, and_true] at e0 e1 e12 e13
  subst e0 e1 e2 e3 e4 e5 e6 e7 e8 e9 e10 e11 e12 e13
  have k2 : IntKind.max .u32 = 4294967295 := rfl
  rw [k2] at b2 b3
  refine ⟨⟨m0, m1, m2, m3, x, s, r⟩, rfl, by simp only; omega, by simp only; omega, ?_⟩
  simp only [DataW.weights, Tryz.underlying54]
  simp [len_L, DataW.weights, DataW.weightsEach]
def StsArg (W : World) (v : Value) (st : List St) : Prop :=
  (v = .slice none 0 0 ∧ st = []) ∨ (∃ ad c, v = .slice (some ad) 0 c ∧ st = []) ∨ ∃ b o c, v = .slice (some ⟨b, o, none⟩) st.length c ∧ b < W.heap.size ∧ StsAt W b o st
theorem mem_weightsAll {P : Program} {e : TypeId} {x : DataW H} {k : Nat} : ∀ {es : List (DataW H)}, x ∈ es → k ∈ x.weights P e → k ∈ DataW.weightsAll P e es
  | y :: r, h, hk => by
    show k ∈ DataW.weights P e y ++ DataW.weightsAll P e r
    rcases List.mem_cons.1 h with h1 | h1
    · subst h1; exact List.mem_append_left _ hk
    · exact List.mem_append_right _ (mem_weightsAll h1 hk)
theorem block_of_cell {W : World} {a : Addr} {v : Value} (h : W.cell? a = some v) : a.block < W.heap.size ∧ a.spot = none := by
  unfold World.cell? at h
  split at h
  · rename_i hh
    refine ⟨(Array.getElem?_eq_some_iff.1 hh).1, ?_⟩
    cases hs : a.spot with
    | none => rfl
    | some z => simp [hs] at h
  · cases h
theorem open_sts {p : List MemPlace} {d : DataW H} {ds : List (DataW H)} {ts : List TypeId} {j : Nat} {a : Option Addr} {len cap : Nat}
    (h : DataW.Trod enc Tryz.prog W 0 (fun _ => true) true 47 (.slice a len cap) d p)
    (hsz : (DataW.weightsEach Tryz.prog ts ds).all (· ≤ reachBytes) = true) (ht : ts[j]? = some 47) (hd : ds[j]? = some d) :
    ∃ st, StsArg W (.slice a len cap) st ∧ st.length ≤ 8796093022208 ∧ ∀ x ∈ st, x.s.size ≤ 140737488351232 ∧ x.i < 4294967296 ∧ x.t < 4294967296 := by
  obtain ⟨fuel, hf⟩ := h
  rcases open_slice Tryz.underlying47 hf with ⟨hcs, _⟩ | ⟨x, l, c, m, n, D, Pl, hcs, hb, hl, hm, hmm, hx, hi⟩
  · simp [Value.cells] at hcs
    obtain ⟨rfl, rfl, rfl⟩ := hcs
    exact ⟨[], .inl ⟨rfl, rfl⟩, by simp, by simp⟩
  · simp [Value.cells] at hcs
    obtain ⟨rfl, rfl, rfl⟩ := hcs
    simp only [if_true] at hmm
    subst hmm
    have key : ∀ i, ∃ s : St, i < len → (∀ (k : Nat) (v : Value), (stCells s)[k]? = some v → W.cell? (x.add (i * 14 + k)) = some v) ∧ s.s.size ∈ (D i).weights Tryz.prog 54 ∧ s.i < 4294967296 ∧ s.t < 4294967296 := fun i => by
      by_cases hil : i < len
      · obtain ⟨cs', hc, ht'⟩ := hi i (by omega)
        rw [cells_st] at hc
        obtain ⟨_, hcl, hat⟩ := World.cells?_some hc
        obtain ⟨s, rfl, b1, b2, b3⟩ := open_st ht'
        refine ⟨s, fun _ => ⟨fun k v hk => ?_, b3, b1, b2⟩⟩
        have hk14 : k < 14 := by
          have := (List.getElem?_eq_some_iff.1 hk).1
          rw [stCells_len] at this
          exact this
        have a0 := hat k hk14
        rw [Go.Deep.add_add, hk] at a0
        exact a0
      · exact ⟨⟨0, 0, 0, 0, noIno, ⟨#[]⟩, false⟩, fun h => absurd h hil⟩
    obtain ⟨f, hF⟩ := Classical.axiomOfChoice key
    obtain ⟨rfl, _⟩ := Prod.mk.inj hx
    have hn := sized_slice hsz ht hd Tryz.underlying47
    rw [bytes_st] at hn
    simp only [List.length_map, List.length_range, reachBytes] at hn
    have hel : ((List.range len).map f).length = len := by simp
    refine ⟨(List.range len).map f, ?_, by rw [hel]; omega, ?_⟩
    · by_cases h0 : len = 0
      · subst h0
        exact .inr (.inl ⟨x, _, rfl, rfl⟩)
      · right; right
        have c0 := (hF 0 (by omega)).1 0 _ rfl
        obtain ⟨b, off, spot⟩ := x
        have e0 : (⟨b, off, spot⟩ : Addr).add (0 * 14 + 0) = ⟨b, off, spot⟩ := by unfold Addr.add; rw [if_pos rfl]
        rw [e0] at c0
        have hb2 := block_of_cell c0
        obtain ⟨hb1, hs⟩ := hb2
        simp only at hb1 hs
        subst hs
        refine ⟨b, off, _, by rw [hel], hb1, fun q hq k v hk => ?_⟩
        rw [hel] at hq
        simp only [List.getElem_map, List.getElem_range] at hk
        have hq2 := (hF q hq).1 k v hk
        have ea : ∀ k, (⟨b, off, none⟩ : Addr).add k = ⟨b, off + k, none⟩ := fun k => by unfold Addr.add; split <;> simp_all
        rw [ea] at hq2
        exact hq2
    · intro y hy
      obtain ⟨q, hq, rfl⟩ := List.mem_map.1 hy
      obtain ⟨_, hw, h32, h33⟩ := hF q (List.mem_range.1 hq)
      refine ⟨?_, h32, h33⟩
      have hmem : (f q).s.size ∈ (DataW.slice (List.map D (List.range len)) (List.map (fun j => D (len + j)) (List.range (m - len)))).weights Tryz.prog 47 := by
        simp only [DataW.weights, Tryz.underlying47]
        exact List.mem_cons_of_mem _ (List.mem_append_left _ (mem_weightsAll (List.mem_map_of_mem hq) hw))
      have := List.all_eq_true.1 hsz _ (DataW.weights_mem_each ht hd _ hmem)
      have := of_decide_eq_true this
      simpa [reachBytes] using this
end
end Go.Proofs.YtpnfkilfgdnogaaGreatDoor.Img
end
section
namespace Go.Proofs.YtpnfkilfgdnogaaGreatDoor.Img
open Go.RowKit Go.Shelf Oct Ino
set_option linter.unusedVariables false
set_option linter.unusedSimpArgs false
def sumS (st : List St) : Nat := (st.map fun x => x.s.size).sum
theorem sumS_snoc (st : List St) (x : St) : sumS (st ++ [x]) = sumS st + x.s.size := by simp [sumS]
theorem sumS_le {st : List St} {m : Nat} (h : ∀ x ∈ st, x.s.size ≤ m) : sumS st ≤ st.length * m := by
  induction st with
  | nil => simp [sumS]
  | cons x r ih =>
    have h1 := ih (fun y hy => h y (by simp [hy]))
    have h2 := h x (by simp)
    simp only [sumS, List.map_cons, List.sum_cons, List.length_cons, Nat.succ_mul] at h1 ⊢
    omega
theorem mem_sumS {x : St} : ∀ {st : List St}, x ∈ st → x.s.size ≤ sumS st
  | y :: r, h => by
    simp only [sumS, List.map_cons, List.sum_cons]
    rcases List.mem_cons.1 h with h1 | h1
    · rw [h1]; omega
    · have := mem_sumS h1
      simp only [sumS] at this
      omega
def longB (m1 m2 : Nat) (st : List St) : Bool := decide (m1 < st.length) || decide (m2 < sumS (st.take 200))
theorem long_no {m1 m2 : Nat} {st : List St} (h1 : m1 ≤ 200) (h : longB m1 m2 st = false) : st.length ≤ m1 ∧ ∀ x ∈ st, x.s.size ≤ m2 := by
  simp only [longB, Bool.or_eq_false_iff, decide_eq_false_iff_not, Nat.not_lt] at h
  refine ⟨h.1, fun x hx => ?_⟩
  have h2 := h.2
  rw [List.take_of_length_le (by omega)] at h2
  have := mem_sumS hx
  omega
theorem StsAt.str {W : World} {b o : Nat} {st : List St} (h : StsAt W b o st) (j : Nat) (hj : j < st.length) : W.cell? ⟨b, o + j * 14 + 12, none⟩ = some (.string st[j].s) := by
  have := h j hj 12 _ rfl
  rw [← Nat.add_assoc] at this
  exact this
end Go.Proofs.YtpnfkilfgdnogaaGreatDoor.Img
end
section
namespace Go.Proofs.YtpnfkilfgdnogaaGreatDoor.Img
set_option linter.unusedVariables false
set_option linter.unusedSimpArgs false
open Go.RowKit Go.Shelf Go.Maps Oct Dev Jou Tx Geo Ino Bm
theorem StsAt.later {w W : World} {b o : Nat} {st : List St} (h : StsAt w b o st) (hb : b < w.heap.size) (hB : Below w.heap.size w W) : StsAt W b o st := fun j hj k v hk => (hB.cell (p := ⟨b, o + (j * 14 + k), none⟩) hb).trans (h j hj k v hk)
theorem StsArg.later {w W : World} {v : Value} {st : List St} (h : StsArg w v st) (hB : Below w.heap.size w W) : StsArg W v st := by
  rcases h with h | h | ⟨b, o, c, h1, h2, h3⟩
  · exact .inl h
  · exact .inr (.inl h)
  · exact .inr (.inr ⟨b, o, c, h1, Nat.lt_of_lt_of_le h2 hB.size, h3.later h2 hB⟩)
end Go.Proofs.YtpnfkilfgdnogaaGreatDoor.Img
end
section
namespace Go.Proofs.YtpnfkilfgdnogaaGreatDoor.Img
set_option linter.unusedVariables false
set_option linter.unusedSimpArgs false
open Go.RowKit Go.Shelf Go.Maps Oct Dev Jou Tx Geo Ino Bm
theorem nz_inj : ∀ (l : List Nat) (p q c : Nat), (l.filter nz).Nodup → l[p]? = some c → l[q]? = some c → c ≠ 0 → p = q
  | [], p, q, c, _, h, _, _ => by simp at h
  | a :: r, 0, 0, c, _, _, _, _ => rfl
  | a :: r, 0, q + 1, c, hn, h1, h2, hc => by
    have e : a = c := by simpa using h1
    subst e
    have hz : nz a = true := by simpa [nz] using hc
    rw [List.filter_cons, if_pos hz, List.nodup_cons] at hn
    exact absurd (List.mem_filter.2 ⟨List.mem_of_getElem? (by simpa using h2), hz⟩) hn.1
  | a :: r, p + 1, 0, c, hn, h1, h2, hc => by
    have e : a = c := by simpa using h2
    subst e
    have hz : nz a = true := by simpa [nz] using hc
    rw [List.filter_cons, if_pos hz, List.nodup_cons] at hn
    exact absurd (List.mem_filter.2 ⟨List.mem_of_getElem? (by simpa using h1), hz⟩) hn.1
  | a :: r, p + 1, q + 1, c, hn, h1, h2, hc => by
    rw [List.filter_cons] at hn
    have hr : (r.filter nz).Nodup := by
      split at hn
      · exact (List.nodup_cons.1 hn).2
      · exact hn
    rw [nz_inj r p q c hr (by simpa using h1) (by simpa using h2) hc]
theorem getD_set (l : List Nat) (p b q : Nat) (hp : p < l.length) : (l.set p b).getD q 0 = if q = p then b else l.getD q 0 := by
  rw [List.getD_eq_getElem?_getD, List.getElem?_set, List.getD_eq_getElem?_getD]
  by_cases e : p = q
  · rw [if_pos e, if_pos (by omega), if_pos e.symm]
    rfl
  · rw [if_neg e, if_neg (fun h => e h.symm)]
theorem allB_len {x : InoT} {vs : List Nat} (hl : vs.length = 32) : (allB x vs).length = 36 := by
  unfold allB
  simp [hl]
theorem pageB_setDir {x : InoT} {vs : List Nat} {p b : Nat} (hp : p < 4) (hl : vs.length = 32) (q : Nat) : pageB (setDir x p b) vs q = if q = p then b else pageB x vs q := by
  have e : allB (setDir x p b) vs = (allB x vs).set p b := by
    match p, hp with
    | 0, _ => rfl
    | 1, _ => rfl
    | 2, _ => rfl
    | 3, _ => rfl
  unfold pageB
  rw [e, getD_set _ _ _ _ (by rw [allB_len hl]; omega)]
theorem pageB_setV {x : InoT} {vs : List Nat} {p b : Nat} (h4 : 4 ≤ p) (hp : p < 36) (hl : vs.length = 32) (q : Nat) : pageB x (vs.set (p - 4) b) q = if q = p then b else pageB x vs q := by
  obtain ⟨k, rfl⟩ : ∃ k, p = k + 4 := ⟨p - 4, by omega⟩
  have e : allB x (vs.set (k + 4 - 4) b) = (allB x vs).set (k + 4) b := by
    rw [Nat.add_sub_cancel]
    rfl
  unfold pageB
  rw [e, getD_set _ _ _ _ (by rw [allB_len hl]; omega)]
theorem pageB_get {x : InoT} {vs : List Nat} {p : Nat} (h : pageB x vs p ≠ 0) : (allB x vs)[p]? = some (pageB x vs p) := by
  unfold pageB at *
  rw [List.getD_eq_getElem?_getD] at *
  cases e : (allB x vs)[p]? with
  | none => rw [e] at h; exact absurd rfl h
  | some v => rfl
section
variable {E : Im} {D : Secs} {ino : Nat → InoT} {vs : Nat → List Nat}
theorem Owns.pageInj (h : Owns E D ino vs) {n p q : Nat} (h1 : 1 ≤ n) (hn : n ≤ E.i) (hp : pageB (ino n) (vs n) p ≠ 0) (e : pageB (ino n) (vs n) q = pageB (ino n) (vs n) p) : q = p := by
  have hd := h.once n h1 hn
  rw [blks_eq (h.ind n h1 hn).len] at hd
  have hd := (List.nodup_append.1 hd).1
  have e2 : (dirL (ino n)).filter (fun v => decide (v ≠ 0)) ++ (vs n).filter (fun v => decide (v ≠ 0)) = (allB (ino n) (vs n)).filter nz := by
    rw [← List.filter_append]
    rfl
  rw [e2] at hd
  exact nz_inj _ q p _ hd (by rw [pageB_get (by rw [e]; exact hp), e]) (pageB_get hp) hp
theorem Owns.pageBlk (h : Owns E D ino vs) {n p : Nat} (h1 : 1 ≤ n) (hn : n ≤ E.i) (hp : pageB (ino n) (vs n) p ≠ 0) : pageB (ino n) (vs n) p ∈ blks (ino n) (vs n) :=
  (mem_blks (h.ind n h1 hn).len _).2 ⟨hp, (pageB_mem hp).elim .inl (fun q => .inr (.inl q))⟩
theorem pgS_of {x y : InoT} {v u : List Nat} {D' : Secs} {q : Nat} (e : pageB y u q = pageB x v q) (hd : pageB x v q ≠ 0 → D' (dq E (pageB x v q)) = D (dq E (pageB x v q))) : pgS E D' y u q = pgS E D x v q := by
  unfold pgS
  rw [e]
  split
  · rfl
  · next h => exact hd h
theorem pgS_at {y : InoT} {u : List Nat} {D' : Secs} {q b : Nat} {s : ByteArray} (e : pageB y u q = b) (hb : 1 ≤ b) (hd : D' (dq E b) = s) : pgS E D' y u q = s := by
  unfold pgS
  rw [e, if_neg (by omega), hd]
theorem SP.pages {n p : Nat} {s : ByteArray} {D' : Secs} {y : InoT} {us : List Nat} (h : Owns E D ino vs) (hs : Small E) (h1 : 1 ≤ n) (hn : n ≤ E.i) (hs3 : (D (fr E 3)).size = 64) (hp : p < 36) (g : SP E D n (ino n) (vs n) p s D' y us) (q : Nat) (hq : q < 36) : pgS E D' y us q = if q = p then s else pgS E D (ino n) (vs n) q := by
  have hl := (h.ind n h1 hn).len
  rcases g with ⟨g1, rfl, rfl, rfl⟩ | ⟨b, g1, g2, g3, g4, g5, g6, rfl, rfl, rfl⟩ | ⟨b, g1, g2, g3, g4, g5, g6, rfl, rfl, rfl⟩ | ⟨d, b, g1, g2, g3, g4, g5, g6, g7, g8, g9, rfl, rfl, rfl⟩
  · have hb := h.blk_le h1 hn (h.pageBlk h1 hn g1)
    by_cases e : q = p
    · subst e
      rw [if_pos rfl]
      exact pgS_at rfl hb.1 (upd_same _ _ _)
    · rw [if_neg e]
      refine pgS_of rfl (fun k => ?_)
      have hc := h.blk_le h1 hn (h.pageBlk h1 hn k)
      rw [upd_ne _ _ (fun e2 => e (h.pageInj h1 hn g1 (dq_inj hs hc.1 hb.1 e2))), setIno_q (q_dqt hs hc.1 h1 hn)]
  · by_cases e : q = p
    · subst e
      rw [if_pos rfl]
      exact pgS_at (by rw [pageB_setDir g1 hl, if_pos rfl]) g3 (upd_same _ _ _)
    · rw [if_neg e]
      refine pgS_of (by rw [pageB_setDir g1 hl, if_neg e]) (fun k => ?_)
      have hm := h.pageBlk h1 hn k
      have hc := h.blk_le h1 hn hm
      have hne : dq E (pageB (ino n) (vs n) q) ≠ dq E b := fun e2 => h.free b g3 g4 g5 n h1 hn (dq_inj hs hc.1 g3 e2 ▸ hm)
      rw [upd_ne _ _ hne, setIno_q (q_dqt hs hc.1 h1 hn), blkD_ne hs (q_dq3 hs hc.1) hne]
  · by_cases e : q = p
    · subst e
      rw [if_pos rfl]
      exact pgS_at (by rw [pageB_setV g1 hp hl, if_pos rfl]) g4 (upd_same _ _ _)
    · rw [if_neg e]
      refine pgS_of (by rw [pageB_setV g1 hp hl, if_neg e]) (fun k => ?_)
      have hm := h.pageBlk h1 hn k
      have hc := h.blk_le h1 hn hm
      have hne : dq E (pageB (ino n) (vs n) q) ≠ dq E b := fun e2 => h.free b g4 g5 g6 n h1 hn (dq_inj hs hc.1 g4 e2 ▸ hm)
      have hni : dq E (pageB (ino n) (vs n) q) ≠ dq E (ino n).ind := fun e2 => h.notInd n _ h1 hn k (pageB_mem k) n h1 hn (dq_inj hs hc.1 (by omega) e2).symm
      rw [upd_ne _ _ hne, setIno_q (q_dqt hs hc.1 h1 hn), upd_ne _ _ hni, blkD_ne hs (q_dq3 hs hc.1) hne]
  · have hbl := hs.hb
    have hvz : vs n = List.replicate 32 0 := (h.ind n h1 hn).no g2
    have hz32 : (List.replicate 32 0).length = 32 := List.length_replicate ..
    have h32 : (upd (blkD E D d) (dq E d) (tellS [])) (fr E 3) = setB (D (fr E 3)) d true := by rw [upd_ne _ _ (q_dq3 hs g3).symm, blkD_fr hs g3]
    have hk3 : ∀ k, bitB ((upd (blkD E D d) (dq E d) (tellS [])) (fr E 3)) k = if k = d then true else bitB (D (fr E 3)) k := fun k => by rw [h32]; exact bitB_setB _ _ _ _ (by rw [hs3]; omega)
    have hbd : b ≠ d := fun e => by
      rw [hk3, if_pos e] at g8
      cases g8
    have g8' := g8
    rw [hk3, if_neg hbd] at g8'
    by_cases e : q = p
    · subst e
      rw [if_pos rfl]
      exact pgS_at (by rw [pageB_setV g1 hp hz32, if_pos rfl]) g6 (upd_same _ _ _)
    · rw [if_neg e]
      have e0 : pageB { ino n with ind := d } (List.replicate 32 0) q = pageB (ino n) (vs n) q := by rw [hvz]; rfl
      refine pgS_of (by rw [pageB_setV g1 hp hz32, if_neg e, e0]) (fun k => ?_)
      have hm := h.pageBlk h1 hn k
      have hc := h.blk_le h1 hn hm
      have hne : dq E (pageB (ino n) (vs n) q) ≠ dq E b := fun e2 => h.free b g6 g7 g8' n h1 hn (dq_inj hs hc.1 g6 e2 ▸ hm)
      have hnd : dq E (pageB (ino n) (vs n) q) ≠ dq E d := fun e2 => h.free d g3 g4 g5 n h1 hn (dq_inj hs hc.1 g3 e2 ▸ hm)
      rw [upd_ne _ _ hne, setIno_q (q_dqt hs hc.1 h1 hn), upd_ne _ _ hnd, blkD_ne hs (q_dq3 hs hc.1) hne, upd_ne _ _ hnd, blkD_ne hs (q_dq3 hs hc.1) hnd]
def cutPg (s : ByteArray) (fm : Nat) : ByteArray := patchS s fm (zS.extract fm 64)
theorem pageB_cut {x : InoT} {v : List Nat} (p : Nat) (hl : v.length = 32) (h0 : x.ind = 0 → v = List.replicate 32 0) (q : Nat) (hq : q < 36) : pageB (cutEnd x p) (cutV x v p) q = if q < p then pageB x v q else 0 := by
  by_cases h4 : q < 4
  · have e1 : ∀ (y : InoT) (u : List Nat), pageB y u q = (dirL y).getD q 0 := fun y u => by
      match q, h4 with
      | 0, _ => rfl
      | 1, _ => rfl
      | 2, _ => rfl
      | 3, _ => rfl
    rw [e1, e1, cutEnd_dir]
    match q, h4 with
    | 0, _ =>
      show (if p ≤ 0 then 0 else x.d0) = if 0 < p then x.d0 else 0
      split <;> split <;> first | rfl | omega
    | 1, _ =>
      show (if p ≤ 1 then 0 else x.d1) = if 1 < p then x.d1 else 0
      split <;> split <;> first | rfl | omega
    | 2, _ =>
      show (if p ≤ 2 then 0 else x.d2) = if 2 < p then x.d2 else 0
      split <;> split <;> first | rfl | omega
    | 3, _ =>
      show (if p ≤ 3 then 0 else x.d3) = if 3 < p then x.d3 else 0
      split <;> split <;> first | rfl | omega
  · obtain ⟨k, rfl⟩ : ∃ k, q = k + 4 := ⟨q - 4, by omega⟩
    have e1 : ∀ (y : InoT) (u : List Nat), pageB y u (k + 4) = u.getD k 0 := fun y u => rfl
    rw [e1, e1]
    unfold cutV
    by_cases hc : x.ind ≠ 0 ∧ p ≤ 4
    · rw [if_pos hc, if_neg (by omega), List.getD_eq_getElem?_getD, List.getElem?_replicate, if_pos (by omega)]
      rfl
    · rw [if_neg hc, List.getD_eq_getElem?_getD, List.getElem?_eq_getElem (by rw [cutVs_len]; omega), List.getD_eq_getElem?_getD, List.getElem?_eq_getElem (by omega)]
      show (cutVs v p)[k]'_ = if k + 4 < p then v[k]'_ else 0
      rw [cutVs_get (by omega)]
      split <;> split <;> first | rfl | omega
theorem Owns.rszPages (h : Owns E D ino vs) (hs : Small E) (n s : Nat) (h1 : 1 ≤ n) (hn : n ≤ E.i) (hl2 : s ≤ 2304) (q : Nat) (hq : q < 36) :
    pgS E (rszD E D n (ino n) (vs n) s) (sized (cutEnd (ino n) (pagesN s)) s) (cutV (ino n) (vs n) (pagesN s)) q = if q < pagesN s then (if s % 64 ≠ 0 ∧ q = s / 64 ∧ pageB (ino n) (vs n) q ≠ 0 then cutPg (pgS E D (ino n) (vs n) q) (s % 64) else pgS E D (ino n) (vs n) q) else zS := by
  have g := h.ind n h1 hn
  have hpb : ∀ r, r < 36 → pageB (sized (cutEnd (ino n) (pagesN s)) s) (cutV (ino n) (vs n) (pagesN s)) r = if r < pagesN s then pageB (ino n) (vs n) r else 0 := fun r hr => pageB_cut (pagesN s) g.len g.no r hr
  have hpg : pagesN s ≤ 36 := by unfold pagesN; omega
  by_cases hp : q < pagesN s
  · rw [if_pos hp]
    have e1 := hpb q hq
    rw [if_pos hp] at e1
    by_cases hb : pageB (ino n) (vs n) q = 0
    · rw [if_neg (fun k => k.2.2 hb)]
      exact pgS_of e1 (fun k => absurd hb k)
    · have hm := h.pageBlk h1 hn hb
      have hc := h.blk_le h1 hn hm
      have hni : (ino n).ind ≠ 0 → dq E (pageB (ino n) (vs n) q) ≠ dq E (ino n).ind := fun k e2 => h.notInd n _ h1 hn hb (pageB_mem hb) n h1 hn (dq_inj hs hc.1 (by omega) e2).symm
      have hD : giveL E (cutSec E D (ino n) (vs n) (pagesN s)) (cutFree (ino n) (vs n) (pagesN s)) (dq E (pageB (ino n) (vs n) q)) = D (dq E (pageB (ino n) (vs n) q)) := by
        rw [giveL_ne (q_dq3 hs hc.1), cutSec_q g.no hni]
      have hset : rszD E D n (ino n) (vs n) s (dq E (pageB (ino n) (vs n) q)) = blankD E (giveL E (cutSec E D (ino n) (vs n) (pagesN s)) (cutFree (ino n) (vs n) (pagesN s))) (rszB (sized (cutEnd (ino n) (pagesN s)) s) (cutV (ino n) (vs n) (pagesN s)) s) (s % 64) (dq E (pageB (ino n) (vs n) q)) := setIno_q (q_dqt hs hc.1 h1 hn)
      by_cases hk : s % 64 ≠ 0 ∧ q = s / 64
      · have eb : rszB (sized (cutEnd (ino n) (pagesN s)) s) (cutV (ino n) (vs n) (pagesN s)) s = pageB (ino n) (vs n) q := by
          unfold rszB
          rw [if_neg hk.1, ← hk.2, e1]
        rw [if_pos ⟨hk.1, hk.2, hb⟩]
        refine pgS_at e1 hc.1 ?_
        rw [hset, eb]
        unfold blankD
        rw [if_neg hb, upd_same, hD]
        unfold cutPg pgS
        rw [if_neg hb]
      · rw [if_neg (fun k => hk ⟨k.1, k.2.1⟩)]
        refine pgS_of e1 (fun _ => ?_)
        rw [hset, blankD_q (fun k e2 => ?_), hD]
        unfold rszB at k e2
        by_cases h64 : s % 64 = 0
        · rw [if_pos h64] at k
          exact k rfl
        · rw [if_neg h64] at k e2
          have hr : s / 64 < 36 := by omega
          have hr2 : s / 64 < pagesN s := by unfold pagesN; omega
          rw [hpb _ hr, if_pos hr2] at k e2
          have hc2 := h.blk_le h1 hn (h.pageBlk h1 hn k)
          have e3 := dq_inj hs hc.1 hc2.1 e2
          exact hk ⟨h64, h.pageInj h1 hn k e3⟩
  · rw [if_neg hp]
    unfold pgS
    rw [hpb q hq, if_neg hp, if_pos rfl]
end
end Go.Proofs.YtpnfkilfgdnogaaGreatDoor.Img
end
