/- Layer 12's law CheckBlocks: a block taken or given behind the disk's back, and an inode given that an entry has: what is found. -/
import Derived.Test.YtpnfkilfgdnogaaGreatDoorCkM6
namespace Go.Proofs.YtpnfkilfgdnogaaGreatDoor.Img
set_option linter.unusedVariables false
set_option linter.unusedSimpArgs false
open Go.RowKit Go.Shelf Go.Maps Oct Dev Jou Tx Geo Ino Bm Dir Ck
structure G30 (E : Im) : Prop where
  small : Small E
  i : E.i = 8
  bl : E.bl = 30
  j : E.j = 60
section
variable {E : Im} {D D' : Secs} {ino : Nat → InoT} {vs : Nat → List Nat} {es : List Ent} {Z : Nat → Prop} {w W : World}
theorem G30.full (x : G30 E) (hl : E.hard.length = (szL E.i E.bl E.j).sum) : FullE E (ZS E) → False := by
  have hv := x.small.vals
  have h2 : fr E 2 = 61 := by have h1 := x.i; have h2 := x.bl; have h3 := x.j; omega
  refine zs_full x.small ?_
  rw [hl, x.i, x.bl, x.j, h2]
  decide
structure Bk1 (E : Im) (t : Bool) (n : Nat) (D : Secs) (ino : Nat → InoT) (vs : Nat → List Nat) (es : List Ent) : Prop where
  ck : CkS E D ino vs es
  nm : Named E.i (fun n => bitB (D (fr E 2)) n) ino (live es)
  n1 : 1 ≤ n
  n2 : n ≤ E.bl
  f : ∃ f : Nat, (f ≠ 0 ↔ t = true) ∧ ckL E.i E.bl (fun n => bitB (D (fr E 2)) n) (fun b => bitB (D (fr E 3)) b) ino (fun m => blks (ino m) (vs m)) (live es) = [(7, f, n)]
theorem bk_of (hs : Small E) (f : FS0 E D ino vs es) (nm : Named E.i (fun n => bitB (D (fr E 2)) n) ino (live es)) (n : Nat) (h1 : 1 ≤ n) (hn : n ≤ E.bl) (h2 : D' (fr E 2) = D (fr E 2)) (ht : ∀ m, 1 ≤ m → m ≤ E.i → D' (tq E m) = D (tq E m)) (hb : ∀ m b, 1 ≤ m → m ≤ E.i → b ∈ blks (ino m) (vs m) → D' (dq E b) = D (dq E b))
    (hx : ∀ b, b ≠ n → bitB (D' (fr E 3)) b = bitB (D (fr E 3)) b) (hd : bitB (D' (fr E 3)) n ≠ bitB (D (fr E 3)) n) : Bk1 E (bitB (D (fr E 3)) n) n D' ino vs es := by
  have ei : 1 ≤ E.i := by have := hs.vals; omega
  refine ⟨f.ck.frame ht hb ei, by rw [h2]; exact nm, h1, hn, fstP (pairsL (fun m => blks (ino m) (vs m)) E.i) n, ?_, by rw [h2]; exact ckL_block f.own nm _ n h1 hn hx hd⟩
  obtain ⟨_, c1, c2⟩ := f.own.cnt n h1 hn
  constructor
  · intro q
    cases hb : bitB (D (fr E 3)) n with
    | true => rfl
    | false => exact absurd (c2 hb) q
  · intro q
    have := c1 q
    omega
theorem gb_bk (x : G30 E) (h : IS w E D (ZS E)) (f : FS0 E D ino vs es) (nm : Named E.i (fun n => bitB (D (fr E 2)) n) ino (live es)) (n : Nat) (h1 : 1 ≤ n) (hn : n ≤ E.bl) (ht : bitB (D (fr E 3)) n = true) :
    Calls Tryz.prog 38 #[.pointer (some ⟨E.M, 0, none⟩), .int .u16 n] w fun e W => e = .returned (.int .i64 0) ∧ Tch (fun c => c = E.T.m) w W ∧ ∃ D', IS W E D' (ZS E) ∧ Bk1 E true n D' ino vs es := by
  have hs := x.small
  have hZ := zs_all hs h.len h
  have hz3 : (D (fr E 3)).size = 64 := h.sec (fr_lt hs h (.inr rfl))
  have hbl := hs.hb
  obtain ⟨q23, q2t, q2d⟩ := q_fr2 (E := E) hs
  refine (giveBlock_is (Q := False) n w hs h h1 hn ht hZ.2.1 (x.full h.len)).mono ?_
  rintro e W (⟨rfl, g⟩ | ⟨rfl, g⟩)
  · have e3 : ∀ b, bitB ((upd D (fr E 3) (setB (D (fr E 3)) n false)) (fr E 3)) b = if b = n then false else bitB (D (fr E 3)) b := fun b => by rw [upd_same, bitB_setB _ _ _ _ (by omega)]
    have k := bk_of (D' := upd D (fr E 3) (setB (D (fr E 3)) n false)) hs f nm n h1 hn (upd_ne _ _ q23) (fun m m1 m2 => upd_ne _ _ (q_tq3 hs m)) (fun m b m1 m2 hb => upd_ne _ _ (q_dq3 hs (f.own.blk_le m1 m2 hb).1)) (fun b hb => by rw [e3, if_neg hb]) (by rw [e3, if_pos rfl, ht]; decide)
    rw [ht] at k
    exact ⟨rfl, g.2, _, g.1, k⟩
  · exact g.1.1.elim
theorem bl_bk (x : G30 E) (h : IS w E D (ZS E)) (f : FS0 E D ino vs es) (nm : Named E.i (fun n => bitB (D (fr E 2)) n) ino (live es)) :
    Calls Tryz.prog 39 #[.pointer (some ⟨E.M, 0, none⟩)] w fun e W => (∃ k : Nat, e = .returned (.tuple #[.int .u16 k, .int .i64 0]) ∧ Tch (fun c => c = E.T.m) w W ∧ ∃ D', IS W E D' (ZS E) ∧ Bk1 E false k D' ino vs es) ∨ (e = .returned (.tuple #[.int .u16 0, .int .i64 4]) ∧ Below w.heap.size w W) := by
  have hs := x.small
  have hZ := zs_all hs h.len h
  have hz3 : (D (fr E 3)).size = 64 := h.sec (fr_lt hs h (.inr rfl))
  have hbl := hs.hb
  obtain ⟨q23, q2t, q2d⟩ := q_fr2 (E := E) hs
  obtain ⟨k, r, hL⟩ : ∃ k r, leastB (D (fr E 3)) (E.bl + 1 : Nat) false = (k, r) := ⟨_, _, rfl⟩
  cases r
  · refine (block_none w hs h (by rw [hL])).mono ?_
    rintro e W ⟨rfl, b⟩
    exact .inr ⟨rfl, b⟩
  · obtain ⟨k1, k2, k3⟩ := f.own.least hL
    refine (block_is (Q := False) k w hs h hL k1 k2 hZ.2.1 (hZ.2.2.2 k k1 k2) (x.full h.len)).mono ?_
    rintro e W (⟨rfl, g⟩ | ⟨rfl, g⟩)
    · have e3 : ∀ b, bitB (blkD E D k (fr E 3)) b = if b = k then true else bitB (D (fr E 3)) b := fun b => by rw [blkD_fr hs k1, bitB_setB _ _ _ _ (by omega)]
      have kk := bk_of (D' := blkD E D k) hs f nm k k1 k2 (blkD_ne hs q23 (q2d k k1)) (fun m m1 m2 => blkD_ne hs (q_tq3 hs m) (q_dqt hs k1 m1 m2).symm) (fun m b m1 m2 hb => blkD_ne hs (q_dq3 hs (f.own.blk_le m1 m2 hb).1) (fun q => by
        have e := dq_inj hs (f.own.blk_le m1 m2 hb).1 k1 q
        subst e
        have := (f.own.bit b k1 k2).2 ⟨m, m1, m2, hb⟩
        rw [k3] at this
        cases this)) (fun b hb => by rw [e3, if_neg hb]) (by rw [e3, if_pos rfl, k3]; decide)
      rw [k3] at kk
      exact .inl ⟨k, rfl, g.2, _, g.1, kk⟩
    · exact g.1.1.elim
theorem ck_bk {t : Bool} {n : Nat} (hs : Small E) (h : IS w E D Z) (k : Bk1 E t n D ino vs es) :
    Calls Tryz.prog 36 #[.pointer (some ⟨E.M, 0, none⟩), geoV E.i E.bl E.j] w fun e w' => ∃ (v : Value) (f : Nat), (f ≠ 0 ↔ t = true) ∧ e = .returned (.tuple #[v, .int .i64 0]) ∧ OwnF w.heap.size [(7, f, n)] v w' ∧ Below w.heap.size w w' := by
  obtain ⟨f, hf, e1⟩ := k.f
  refine (check_is w hs h k.ck (fun e he => ⟨(k.nm.rng e he).1, (k.nm.rng e he).2.1⟩) k.nm.lnk).mono ?_
  rintro e W ⟨v, rfl, ho, b⟩
  rw [e1] at ho
  exact ⟨v, f, hf, rfl, ho, b⟩
structure Bk2 (E : Im) (D : Secs) (ino : Nat → InoT) (vs : Nat → List Nat) (es : List Ent) : Prop where
  ck : CkS E D ino vs es
  rng : ∀ e ∈ live es, 2 ≤ e.2 ∧ e.2 ≤ E.i
  lnk : LnkOk E.i ino (live es)
  f : ∃ q, (4, 1, q) ∈ ckL E.i E.bl (fun n => bitB (D (fr E 2)) n) (fun b => bitB (D (fr E 3)) b) ino (fun m => blks (ino m) (vs m)) (live es)
theorem CkS.given (c : CkS E D ino vs es) (hs : Small E) (i : Nat) (h2 : 2 ≤ i) (hi : i ≤ E.i) (hsz : (D (tq E i)).size = 64) : CkS E (givenD E D i) (put_ ino i noIno) (put_ vs i zs32) es := by
  have ei : 1 ≤ E.i := by omega
  obtain ⟨q23, q2t, q2d⟩ := q_fr2 (E := E) hs
  have c1 : CkS E (upd D (fr E 2) (setB (D (fr E 2)) i false)) ino vs es := c.frame (fun n _ _ => upd_ne _ _ (q2t n).symm) (fun n b n1 n2 hb => upd_ne _ _ (q2d b (by
    have := ((mem_blks (c.ind n n1 n2).len b).1 hb).1
    omega)).symm) ei
  have hsz1 : ((upd D (fr E 2) (setB (D (fr E 2)) i false)) (tq E i)).size = 64 := by rw [upd_ne _ _ (q2t i).symm]; exact hsz
  unfold givenD
  generalize upd D (fr E 2) (setB (D (fr E 2)) i false) = D1 at *
  have hq : ∀ k, k ≠ 0 → setIno E D1 i noIno (dq E k) = D1 (dq E k) := fun k hk => setIno_q (q_dqt hs (by omega) (by omega) hi)
  have e1 : put_ ino i noIno 1 = ino 1 := put_ne _ _ (by omega)
  have e2 : put_ vs i zs32 1 = vs 1 := put_ne _ _ (by omega)
  refine ⟨fun n n1 n2 => ?_, fun n n1 n2 => ?_, fun n n1 n2 => ?_, fun n n1 n2 => ?_, ?_, fun n n2 hn => ?_⟩
  · by_cases q : n = i
    · subst q
      rw [put_same]
      exact setIno_same hsz1
    · rw [put_ne _ _ q]
      exact setIno_other hsz1 (by omega) n1 (Ne.symm q) (c1.is n n1 n2)
  · by_cases q : n = i
    · subst q
      rw [put_same]
      exact .inl rfl
    · rw [put_ne _ _ q]
      exact c1.ok n n1 n2
  · by_cases q : n = i
    · subst q
      rw [put_same]
      exact ⟨Nat.zero_le _, Nat.zero_le _, Nat.zero_le _, Nat.zero_le _, Nat.zero_le _⟩
    · rw [put_ne _ _ q]
      exact c1.ing n n1 n2
  · by_cases q : n = i
    · subst q
      rw [put_same, put_same]
      exact indIs_zero E _
    · rw [put_ne _ _ q, put_ne _ _ q]
      exact ind_frame (c1.ind n n1 n2) (fun k0 => hq _ k0)
  · rw [e1, e2]
    refine ⟨c1.root.dir, c1.root.kind, c1.root.links, c1.root.size, fun p hp => ?_⟩
    rw [← c1.root.pg p hp]
    unfold pgS
    split
    · rfl
    · rename_i q
      exact hq _ q
  · by_cases q : n = i
    · subst q
      rw [put_same]
      decide
    · rw [put_ne _ _ q]
      exact c1.two n n2 hn
theorem gv_bk {t : Bool} {n : Nat} (x : G30 E) (h : IS w E D (ZS E)) (k : Bk1 E t n D ino vs es) (i : Nat) (h2 : 2 ≤ i) (hi : i ≤ E.i) (hk : (ino i).kind ≠ 0) :
    Calls Tryz.prog 40 #[.pointer (some ⟨E.M, 0, none⟩), .int .u32 i] w fun e W => e = .returned (.int .i64 0) ∧ Tch (fun c => c = E.T.m) w W ∧ ∃ D' ino' vs', IS W E D' (ZS E) ∧ Bk2 E D' ino' vs' es := by
  have hs := x.small
  have hZ := zs_all hs h.len h
  have hst := h.sec (tq_lt hs h.len (by omega) hi)
  have hb : bitB (D (fr E 2)) i = true := by
    have := k.nm.tk i (by omega) hi
    rw [this]
    simpa using hk
  refine (give_is (Q := False) i w hs h (by omega) hi hb hZ.1 (hZ.2.2.1 i (by omega) hi) (x.full h.len)).mono ?_
  rintro e W (⟨rfl, g⟩ | ⟨rfl, g⟩)
  · refine ⟨rfl, g.2, _, _, _, g.1, k.ck.given hs i h2 hi hst, fun e he => ⟨(k.nm.rng e he).1, (k.nm.rng e he).2.1⟩, fun m m1 m2 hm => ?_, ckL_entry (n := i) (k.nm.all i h2 hi hk) (by rw [put_same]; rfl) (by omega)⟩
    by_cases q : m = i
    · subst q
      rw [put_same] at hm
      cases hm
    · rw [put_ne _ _ q] at hm ⊢
      exact k.nm.lnk m m1 m2 hm
  · exact g.1.1.elim
theorem ck2_bk (hs : Small E) (h : IS w E D Z) (k : Bk2 E D ino vs es) :
    Calls Tryz.prog 36 #[.pointer (some ⟨E.M, 0, none⟩), geoV E.i E.bl E.j] w fun e w' => ∃ (v : Value) (fs : List Flt), (∃ q, (4, 1, q) ∈ fs) ∧ fs.length ≤ 10000 ∧ e = .returned (.tuple #[v, .int .i64 0]) ∧ OwnF w.heap.size fs v w' ∧ Below w.heap.size w w' := by
  have hi := hs.hi
  have hb := hs.hb
  have hl := live_len k.ck.root.dir
  refine (check_is w hs h k.ck k.rng k.lnk).mono ?_
  rintro e W ⟨v, rfl, ho, b⟩
  refine ⟨v, _, k.f, ?_, rfl, ho, b⟩
  unfold ckL
  rw [List.length_append]
  have h1 : (upTo (fltI E.i (fun n => bitB (D (fr E 2)) n) ino (live es)) E.i).length ≤ E.i * 101 := upTo_len _ fun q hq => by
    unfold fltI
    rw [List.length_append]
    have a1 : (if badN (fun n => bitB (D (fr E 2)) n) ino (q + 1) = true then [(2, q + 1, 0)] else ([] : List Flt)).length ≤ 1 := by split <;> simp
    have a2 : (if q = 0 then upTo (entF E.i ino (live es)) (live es).length else []).length ≤ 100 := by
      split
      · have := upTo_len (f := entF E.i ino (live es)) (m := 1) (live es).length (fun r _ => by unfold entF; split <;> simp)
        omega
      · exact Nat.zero_le _
    omega
  have h2 := own_len (fun b => bitB (D (fr E 3)) b) (pairsL (fun m => blks (ino m) (vs m)) E.i) E.bl
  omega
end
end Go.Proofs.YtpnfkilfgdnogaaGreatDoor.Img
