/- Layer 12: Resize and SetPage of a file keep a disk whole; what a script's step leaves. -/
import Derived.Test.YtpnfkilfgdnogaaGreatDoorCkM1
import Derived.Test.YtpnfkilfgdnogaaGreatDoorOwnG
import Derived.Test.YtpnfkilfgdnogaaGreatDoorDirN
import Derived.Test.YtpnfkilfgdnogaaGreatDoorIsM
section
namespace Go.Proofs.YtpnfkilfgdnogaaGreatDoor.Img
set_option linter.unusedVariables false
set_option linter.unusedSimpArgs false
open Go.RowKit Go.Shelf Go.Maps Oct Dev Jou Tx Geo Ino Bm Dir
theorem pairs_fst (L : Nat → List Nat) : ∀ n, (pairsL L n).map Prod.fst = flatL L n
  | 0 => rfl
  | n + 1 => by
    have e : pairsL L (n + 1) = pairsL L n ++ (L (n + 1)).map fun b => (b, n + 1) := rfl
    have e2 : flatL L (n + 1) = flatL L n ++ L (n + 1) := rfl
    rw [e, e2, List.map_append, pairs_fst L n, List.map_map]
    congr 1
    exact List.map_id _
def thereB (i : Nat) (ino : Nat → InoT) (n : Nat) : Bool := decide (1 ≤ n ∧ n ≤ i ∧ (ino n).kind ≠ 0)
def entF (i : Nat) (ino : Nat → InoT) (es : List Ent) (q : Nat) : List Flt := if (es.getD q ([], 0)).2 < 2 ∨ thereB i ino (es.getD q ([], 0)).2 = false then [(4, 1, q)] else []
def badN (tk : Nat → Bool) (ino : Nat → InoT) (n : Nat) : Bool := tk n != decide ((ino n).kind ≠ 0)
def fltI (i : Nat) (tk : Nat → Bool) (ino : Nat → InoT) (es : List Ent) (k : Nat) : List Flt := (if badN tk ino (k + 1) = true then [(2, k + 1, 0)] else []) ++ (if k = 0 then upTo (entF i ino es) es.length else [])
def ckL (i bl : Nat) (tk bt : Nat → Bool) (ino : Nat → InoT) (L : Nat → List Nat) (es : List Ent) : List Flt :=
  upTo (fltI i tk ino es) i ++ upTo (ownF bt (pairsL L i)) bl
structure Named (i : Nat) (tk : Nat → Bool) (ino : Nat → InoT) (es : List Ent) : Prop where
  tk : ∀ n, 1 ≤ n → n ≤ i → tk n = decide ((ino n).kind ≠ 0)
  root : (ino 1).kind = 2
  links : ∀ n, 1 ≤ n → n ≤ i → (ino n).kind = 1 → (ino n).links = 1
  rng : ∀ e ∈ es, 2 ≤ e.2 ∧ e.2 ≤ i ∧ (ino e.2).kind ≠ 0
  nodup : (es.map Prod.snd).Nodup
  all : ∀ n, 2 ≤ n → n ≤ i → (ino n).kind ≠ 0 → n ∈ es.map Prod.snd
theorem inoN_nodup {es : List Ent} {n : Nat} (h : (es.map Prod.snd).Nodup) : inoN es n = if n ∈ es.map Prod.snd then 1 else 0 := by
  induction es with
  | nil => simp [inoN]
  | cons p r ih =>
    rw [List.map_cons, List.nodup_cons] at h
    have := ih h.2
    unfold inoN at this ⊢
    by_cases e : p.2 = n
    · subst e
      rw [if_neg h.1] at this
      rw [if_pos (by simp), List.filter_cons_of_pos (by simp), List.length_cons, this]
    · rw [List.filter_cons_of_neg (by simpa using e), this]
      simp only [List.map_cons, List.mem_cons, show ¬ n = p.2 from fun q => e q.symm, false_or]
theorem entF_nil {i : Nat} {ino : Nat → InoT} {es : List Ent} (h : ∀ e ∈ es, 2 ≤ e.2 ∧ e.2 ≤ i ∧ (ino e.2).kind ≠ 0) : upTo (entF i ino es) es.length = [] :=
  upTo_nil _ fun q hq => by
    have e : es.getD q ([], 0) = es[q] := by simp [List.getD, hq]
    obtain ⟨h1, h2, h3⟩ := h es[q] (List.getElem_mem hq)
    unfold entF thereB
    rw [e, if_neg]
    rintro (h4 | h4)
    · omega
    · exact absurd h4 (by simp [h2, h3]; omega)
theorem Named.inos {i : Nat} {tk : Nat → Bool} {ino : Nat → InoT} {es : List Ent} (h : Named i tk ino es) : upTo (fltI i tk ino es) i = [] :=
  upTo_nil _ fun k hk => by
    unfold fltI badN
    rw [h.tk (k + 1) (by omega) (by omega), entF_nil h.rng]
    simp
def LnkOk (i : Nat) (ino : Nat → InoT) (es : List Ent) : Prop := ∀ n, 1 ≤ n → n ≤ i → (ino n).kind = 1 → (ino n).links = inoN es n
theorem Named.lnk {i : Nat} {tk : Nat → Bool} {ino : Nat → InoT} {es : List Ent} (h : Named i tk ino es) : LnkOk i ino es := by
  intro n h1 hn hk
  have h3 := h.links n h1 hn hk
  by_cases h0 : n = 1
  · subst h0
    rw [h.root] at hk
    cases hk
  · rw [h3, inoN_nodup h.nodup, if_pos (h.all n (by omega) hn (by omega))]
section
variable {E : Im} {D : Secs} {ino : Nat → InoT} {vs : Nat → List Nat}
theorem Owns.cnt (h : Owns E D ino vs) (b : Nat) (h1 : 1 ≤ b) (hb : b ≤ E.bl) : cntP (pairsL (fun m => blks (ino m) (vs m)) E.i) b = (if bitB (D (fr E 3)) b = true then 1 else 0) ∧ (bitB (D (fr E 3)) b = true → 1 ≤ fstP (pairsL (fun m => blks (ino m) (vs m)) E.i) b) ∧ (bitB (D (fr E 3)) b = false → fstP (pairsL (fun m => blks (ino m) (vs m)) E.i) b = 0) := by
  have e := pairs_fst (fun m => blks (ino m) (vs m)) E.i
  have hm : b ∈ flatL (fun m => blks (ino m) (vs m)) E.i ↔ bitB (D (fr E 3)) b = true := by
    rw [h.bit b h1 hb]
    exact mem_allBlks E.i
  have hn := h.allNodup E.i (Nat.le_refl _)
  unfold allBlks at hn
  rw [← e] at hn hm
  refine ⟨?_, fun q => fstP_yes (hm.2 q) (pairs_snd _ _), fun q => fstP_no (fun hh => by rw [hm.1 hh] at q; cases q)⟩
  rw [cntP_flat hn]
  by_cases q : bitB (D (fr E 3)) b = true
  · rw [if_pos q, if_pos (hm.2 q)]
  · rw [if_neg q, if_neg (fun hh => q (hm.1 hh))]
theorem Owns.faults (h : Owns E D ino vs) (bt : Nat → Bool) (x : Nat) (hx : ∀ b, 1 ≤ b → b ≤ E.bl → b ≠ x → bt b = bitB (D (fr E 3)) b) :
    upTo (ownF bt (pairsL (fun m => blks (ino m) (vs m)) E.i)) E.bl = (if 1 ≤ x ∧ x ≤ E.bl ∧ bt x ≠ bitB (D (fr E 3)) x then [(7, fstP (pairsL (fun m => blks (ino m) (vs m)) E.i) x, x)] else []) := by
  have hno : ∀ k, k < E.bl → bt (k + 1) = bitB (D (fr E 3)) (k + 1) → ownF bt (pairsL (fun m => blks (ino m) (vs m)) E.i) k = [] := fun k hk e => by
    obtain ⟨c1, _, _⟩ := h.cnt (k + 1) (by omega) (by omega)
    unfold ownF
    rw [e, c1, if_neg]
    rintro (⟨p, q⟩ | ⟨p, q⟩)
    · rw [if_pos p] at q
      exact q rfl
    · rw [p] at q
      exact absurd q (by decide)
  by_cases hc : 1 ≤ x ∧ x ≤ E.bl ∧ bt x ≠ bitB (D (fr E 3)) x
  · obtain ⟨x1, x2, x3⟩ := hc
    rw [if_pos ⟨x1, x2, x3⟩]
    refine upTo_one (m := x - 1) _ (by omega) (fun k hk hne => hno k hk (hx (k + 1) (by omega) (by omega) (by omega))) ?_
    have ex : x - 1 + 1 = x := by omega
    obtain ⟨c1, _, _⟩ := h.cnt x x1 x2
    unfold ownF
    rw [ex, c1, if_pos]
    cases hb : bt x
    · cases hd : bitB (D (fr E 3)) x
      · rw [hb, hd] at x3; exact absurd rfl x3
      · exact .inr ⟨rfl, by simp⟩
    · cases hd : bitB (D (fr E 3)) x
      · exact .inl ⟨rfl, by simp⟩
      · rw [hb, hd] at x3; exact absurd rfl x3
  · rw [if_neg hc]
    refine upTo_nil _ fun k hk => hno k hk ?_
    by_cases e : k + 1 = x
    · rw [e]
      exact Classical.byContradiction fun q => hc ⟨by omega, by omega, q⟩
    · exact hx (k + 1) (by omega) (by omega) e
theorem Owns.noFault (h : Owns E D ino vs) {es : List Ent} {tk : Nat → Bool} (hn : Named E.i tk ino es) : ckL E.i E.bl tk (fun b => bitB (D (fr E 3)) b) ino (fun m => blks (ino m) (vs m)) es = [] := by
  unfold ckL
  rw [hn.inos, h.faults _ 0 (fun _ _ _ _ => rfl), if_neg (by omega)]
  rfl
end
end Go.Proofs.YtpnfkilfgdnogaaGreatDoor.Img
end
section
namespace Go.Proofs.YtpnfkilfgdnogaaGreatDoor.Img
set_option linter.unusedVariables false
set_option linter.unusedSimpArgs false
open Go.RowKit Go.Shelf Go.Maps Oct Dev Jou Tx Geo Ino Bm Dir
structure RootIs (E : Im) (D : Secs) (x : InoT) (v : List Nat) (es : List Ent) : Prop where
  dir : Dir es
  kind : x.kind = 2
  links : x.links = 1
  size : x.size = (B (encL es)).size
  pg : ∀ p, p < pagesN x.size → pgS E D x v p = chunk (B (encL es)) p
structure CkS (E : Im) (D : Secs) (ino : Nat → InoT) (vs : Nat → List Nat) (es : List Ent) : Prop where
  is : ∀ n, 1 ≤ n → n ≤ E.i → InoIs E D n (ino n)
  ok : ∀ n, 1 ≤ n → n ≤ E.i → (ino n).Ok
  ing : ∀ n, 1 ≤ n → n ≤ E.i → InG E.bl (ino n)
  ind : ∀ n, 1 ≤ n → n ≤ E.i → IndIs E D (ino n).ind (vs n)
  root : RootIs E D (ino 1) (vs 1) es
  two : ∀ n, 2 ≤ n → n ≤ E.i → (ino n).kind ≠ 2
structure FS0 (E : Im) (D : Secs) (ino : Nat → InoT) (vs : Nat → List Nat) (es : List Ent) : Prop where
  own : Owns E D ino vs
  root : RootIs E D (ino 1) (vs 1) es
  two : ∀ n, 2 ≤ n → n ≤ E.i → (ino n).kind ≠ 2
  has : ∀ p, p < pagesN (ino 1).size → pageB (ino 1) (vs 1) p ≠ 0
theorem extract_cut (s : ByteArray) (a b : Nat) (h : a ≤ b) : s.extract 0 a ++ s.extract a b = s.extract 0 b := by
  apply L_inj
  show (s.extract 0 a ++ s.extract a b).data.toList = (s.extract 0 b).data.toList
  rw [ByteArray.data_append, Array.toList_append, ByteArray.data_extract, ByteArray.data_extract, ByteArray.data_extract, Array.toList_extract, Array.toList_extract, Array.toList_extract]
  simp only [List.extract_eq_take_drop, List.drop_zero, Nat.sub_zero]
  obtain ⟨c, rfl⟩ := Nat.exists_eq_add_of_le h
  rw [Nat.add_sub_cancel_left, List.take_add]
theorem text_chunks {E : Im} {D : Secs} {x : InoT} {v : List Nat} {s : ByteArray} : ∀ k, (∀ p, p < k → pgS E D x v p = chunk s p) → textS E D x v k = s.extract 0 (k * 64)
  | 0, _ => by
    simp [textS]
    rfl
  | k + 1, h => by
    have e : textS E D x v (k + 1) = textS E D x v k ++ pgS E D x v k := rfl
    rw [e, text_chunks k (fun p hp => h p (by omega)), h k (by omega)]
    unfold chunk
    exact extract_cut s (k * 64) ((k + 1) * 64) (by omega)
theorem pages_enc {es : List Ent} (d : Dir es) : pagesN (B (encL es)).size * 64 = (B (encL es)).size := by
  have := enc_size d
  unfold pagesN
  omega
theorem RootIs.text {E : Im} {D : Secs} {x : InoT} {v : List Nat} {es : List Ent} (h : RootIs E D x v es) : textS E D x v (pagesN x.size) = B (encL es) := by
  rw [text_chunks (pagesN x.size) h.pg, h.size, pages_enc h.dir]
  exact ext_all _ _ rfl
section
variable {E : Im} {D D' : Secs} {ino : Nat → InoT} {vs : Nat → List Nat} {es : List Ent}
theorem FS0.ck (h : FS0 E D ino vs es) : CkS E D ino vs es := ⟨h.own.is, h.own.ok, h.own.ing, h.own.ind, h.root, h.two⟩
theorem CkS.frame (h : CkS E D ino vs es) (hd : ∀ n, 1 ≤ n → n ≤ E.i → D' (tq E n) = D (tq E n)) (hb : ∀ n b, 1 ≤ n → n ≤ E.i → b ∈ blks (ino n) (vs n) → D' (dq E b) = D (dq E b)) (h1 : 1 ≤ E.i) : CkS E D' ino vs es := by
  refine ⟨fun n m1 m2 => ?_, h.ok, h.ing, fun n m1 m2 => ind_frame (h.ind n m1 m2) (fun h0 => ?_), ⟨h.root.dir, h.root.kind, h.root.links, h.root.size, fun p hp => ?_⟩, h.two⟩
  · have := h.is n m1 m2
    unfold InoIs at this ⊢
    rw [hd n m1 m2]
    exact this
  · exact hb n _ m1 m2 ((mem_blks (h.ind n m1 m2).len _).2 ⟨h0, .inr (.inr rfl)⟩)
  · rw [← h.root.pg p hp]
    unfold pgS
    split
    · rfl
    · rename_i q
      exact hb 1 _ (Nat.le_refl _) h1 ((mem_blks (h.ind 1 (Nat.le_refl _) h1).len _).2 ⟨q, (pageB_mem q).elim .inl (fun r => .inr (.inl r))⟩)
def Oth (E : Im) (D D' : Secs) (ino : Nat → InoT) (vs : Nat → List Nat) (n : Nat) : Prop := D' (fr E 2) = D (fr E 2) ∧ ∀ m b, 1 ≤ m → m ≤ E.i → m ≠ n → b ∈ blks (ino m) (vs m) → D' (dq E b) = D (dq E b)
theorem SP.oth {n p : Nat} {s : ByteArray} {y : InoT} {us : List Nat} (h : Owns E D ino vs) (hs : Small E) (h1 : 1 ≤ n) (hn : n ≤ E.i) (hs3 : (D (fr E 3)).size = 64) (g : SP E D n (ino n) (vs n) p s D' y us) : Oth E D D' ino vs n := by
  obtain ⟨q23, q2t, q2d⟩ := q_fr2 (E := E) hs
  have hl := (h.ind n h1 hn).len
  have page : pageB (ino n) (vs n) p ≠ 0 → pageB (ino n) (vs n) p ∈ blks (ino n) (vs n) := fun q => (mem_blks hl _).2 ⟨q, (pageB_mem q).elim .inl (fun r => .inr (.inl r))⟩
  have indb : (ino n).ind ≠ 0 → (ino n).ind ∈ blks (ino n) (vs n) := fun q => (mem_blks hl _).2 ⟨q, .inr (.inr rfl)⟩
  have ne : ∀ m b c, 1 ≤ m → m ≤ E.i → m ≠ n → b ∈ blks (ino m) (vs m) → c ∈ blks (ino n) (vs n) → b ≠ c := fun m b c m1 m2 hm hb hc e => hm (h.one m n b m1 m2 h1 hn hb (e ▸ hc))
  have nef : ∀ m b c, 1 ≤ m → m ≤ E.i → b ∈ blks (ino m) (vs m) → 1 ≤ c → c ≤ E.bl → bitB (D (fr E 3)) c = false → b ≠ c := fun m b c m1 m2 hb c1 c2 c3 e => h.free c c1 c2 c3 m m1 m2 (e ▸ hb)
  have dq_ne : ∀ b c, 1 ≤ b → 1 ≤ c → b ≠ c → dq E b ≠ dq E c := fun b c b1 c1 hne e => hne (dq_inj hs b1 c1 e)
  rcases g with ⟨g1, rfl, _, _⟩ | ⟨b, g1, g2, g3, g4, g5, g6, rfl, _, _⟩ | ⟨b, g1, g2, g3, g4, g5, g6, rfl, _, _⟩ | ⟨d, b, g1, g2, g3, g4, g5, g6, g7, g8, g9, rfl, _, _⟩
  · have hp1 := (h.blk_le h1 hn (page g1)).1
    refine ⟨by rw [upd_ne _ _ (q2d _ hp1), setIno_q (q2t n)], fun m c m1 m2 hm hc => ?_⟩
    have hc1 := (h.blk_le m1 m2 hc).1
    rw [upd_ne _ _ (dq_ne _ _ hc1 hp1 (ne m c _ m1 m2 hm hc (page g1))), setIno_q (q_dqt hs hc1 h1 hn)]
  · refine ⟨by rw [upd_ne _ _ (q2d _ g3), setIno_q (q2t n), blkD_ne hs q23 (q2d _ g3)], fun m c m1 m2 hm hc => ?_⟩
    have hc1 := (h.blk_le m1 m2 hc).1
    have e := dq_ne _ _ hc1 g3 (nef m c b m1 m2 hc g3 g4 g5)
    rw [upd_ne _ _ e, setIno_q (q_dqt hs hc1 h1 hn), blkD_ne hs (q_dq3 hs hc1) e]
  · have hi1 : 1 ≤ (ino n).ind := by omega
    refine ⟨by rw [upd_ne _ _ (q2d _ g4), setIno_q (q2t n), upd_ne _ _ (q2d _ hi1), blkD_ne hs q23 (q2d _ g4)], fun m c m1 m2 hm hc => ?_⟩
    have hc1 := (h.blk_le m1 m2 hc).1
    have e := dq_ne _ _ hc1 g4 (nef m c b m1 m2 hc g4 g5 g6)
    rw [upd_ne _ _ e, setIno_q (q_dqt hs hc1 h1 hn), upd_ne _ _ (dq_ne _ _ hc1 hi1 (ne m c _ m1 m2 hm hc (indb g2))), blkD_ne hs (q_dq3 hs hc1) e]
  · have hb3 : bitB (D (fr E 3)) b = false := by
      have h3 : (upd (blkD E D d) (dq E d) (tellS [])) (fr E 3) = setB (D (fr E 3)) d true := by rw [upd_ne _ _ (q_dq3 hs g3).symm, blkD_fr hs g3]
      have hbl := hs.hb
      rw [h3, bitB_setB _ _ _ _ (by omega)] at g8
      split at g8
      · cases g8
      · exact g8
    refine ⟨by rw [upd_ne _ _ (q2d _ g6), setIno_q (q2t n), upd_ne _ _ (q2d _ g3), blkD_ne hs q23 (q2d _ g6), upd_ne _ _ (q2d _ g3), blkD_ne hs q23 (q2d _ g3)], fun m c m1 m2 hm hc => ?_⟩
    have hc1 := (h.blk_le m1 m2 hc).1
    have e := dq_ne _ _ hc1 g6 (nef m c b m1 m2 hc g6 g7 hb3)
    have e2 := dq_ne _ _ hc1 g3 (nef m c d m1 m2 hc g3 g4 g5)
    rw [upd_ne _ _ e, setIno_q (q_dqt hs hc1 h1 hn), upd_ne _ _ e2, blkD_ne hs (q_dq3 hs hc1) e, upd_ne _ _ e2, blkD_ne hs (q_dq3 hs hc1) e2]
theorem Owns.rszOth (h : Owns E D ino vs) (hs : Small E) (n s : Nat) (h1 : 1 ≤ n) (hn : n ≤ E.i) : Oth E D (rszD E D n (ino n) (vs n) s) ino vs n := by
  obtain ⟨q23, q2t, q2d⟩ := q_fr2 (E := E) hs
  have hv := h.ind n h1 hn
  have hl := hv.len
  have key : ∀ q, q ≠ tq E n → q ≠ fr E 3 → (∀ c ∈ blks (ino n) (vs n), q ≠ dq E c) → rszD E D n (ino n) (vs n) s q = D q := by
    intro q a1 a2 a3
    unfold rszD
    rw [setIno_q a1, blankD_q, giveL_ne a2, cutSec_q hv.no]
    · intro h0
      exact a3 _ ((mem_blks hl _).2 ⟨h0, .inr (.inr rfl)⟩)
    · intro h0
      refine a3 _ ((h.cut n (pagesN s) h1 hn).2 _ |>.2 (.inr ?_))
      have hl2 : (cutV (ino n) (vs n) (pagesN s)).length = 32 := cutV_len hl
      unfold rszB at h0 ⊢
      split at h0
      · exact absurd rfl h0
      · rename_i hm
        rw [if_neg hm]
        have e : ∀ z, pageB (sized (cutEnd (ino n) (pagesN s)) s) (cutV (ino n) (vs n) (pagesN s)) z = pageB (cutEnd (ino n) (pagesN s)) (cutV (ino n) (vs n) (pagesN s)) z := fun z => rfl
        rw [e] at h0 ⊢
        exact (mem_blks hl2 _).2 ⟨h0, (pageB_mem h0).elim .inl (fun r => .inr (.inl r))⟩
  refine ⟨key _ (q2t n) q23 (fun c hc => q2d c (h.blk_le h1 hn hc).1), fun m b m1 m2 hm hb => ?_⟩
  have hb1 := (h.blk_le m1 m2 hb).1
  refine key _ (q_dqt hs hb1 h1 hn) (q_dq3 hs hb1) (fun c hc e => hm ?_)
  have := dq_inj hs hb1 (h.blk_le h1 hn hc).1 e
  subst this
  exact h.one m n b m1 m2 h1 hn hb hc
theorem Oth.pg {n : Nat} (h : Oth E D D' ino vs n) (o : Owns E D ino vs) {m : Nat} (m1 : 1 ≤ m) (m2 : m ≤ E.i) (hm : m ≠ n) (p : Nat) : pgS E D' (ino m) (vs m) p = pgS E D (ino m) (vs m) p := by
  unfold pgS
  split
  · rfl
  · rename_i q
    exact h.2 m _ m1 m2 hm ((mem_blks (o.ind m m1 m2).len _).2 ⟨q, (pageB_mem q).elim .inl (fun r => .inr (.inl r))⟩)
theorem FS0.file (h : FS0 E D ino vs es) {n : Nat} (h2 : 2 ≤ n) (hn : n ≤ E.i) {y : InoT} {us : List Nat} (o : Owns E D' (put_ ino n y) (put_ vs n us)) (ho : Oth E D D' ino vs n) (hy : y.kind ≠ 2) : FS0 E D' (put_ ino n y) (put_ vs n us) es := by
  have e1 : put_ ino n y 1 = ino 1 := put_ne _ _ (by omega)
  have e2 : put_ vs n us 1 = vs 1 := put_ne _ _ (by omega)
  refine ⟨o, ⟨h.root.dir, by rw [e1]; exact h.root.kind, by rw [e1]; exact h.root.links, by rw [e1]; exact h.root.size, fun p hp => ?_⟩, fun m m2 hm => ?_, fun p hp => ?_⟩
  · rw [e1] at hp
    rw [e1, e2, ho.pg h.own (Nat.le_refl 1) (by omega) (by omega)]
    exact h.root.pg p hp
  · by_cases q : m = n
    · subst q
      rw [put_same]
      exact hy
    · rw [put_ne _ _ q]
      exact h.two m m2 hm
  · rw [e1] at hp
    rw [e1, e2]
    exact h.has p hp
end
end Go.Proofs.YtpnfkilfgdnogaaGreatDoor.Img
end
section
namespace Go.Proofs.YtpnfkilfgdnogaaGreatDoor.Img
set_option linter.unusedVariables false
set_option linter.unusedSimpArgs false
open Go.RowKit Go.Shelf Go.Maps Oct Dev Jou Tx Geo Ino Bm
section
variable {E : Im} {D D' : Secs} {Z : Nat → Prop}
theorem write_keep (i : Nat) (s : ByteArray) (w : World) (h : IS w E D Z) (hj : E.j ≤ 256) (hi : i < E.hard.length) (hs : s.size = 64) (hz : Z i) :
    Calls Tryz.prog 106 #[.pointer (some ⟨E.T.p, 0, none⟩), .int .i64 i, .string s] w (Out (.int .i64 0) (.int .i64 4) (Wr E (upd D i s) Z w) (Wr E D Z w)) := by
  have h0 := h
  obtain ⟨f, nn, h1, h2, h3⟩ := h
  refine (write_or i s w h1.tj hi hs hj (fun x hx => by obtain ⟨q, e, hl, _⟩ := h3 x hx; exact ⟨q, e, hl⟩)).mono ?_
  rintro e w' (⟨rfl, ⟨nn', r1⟩, r2⟩ | ⟨rfl, r1, r2⟩)
  · exact .inl ⟨rfl, wrote_is h1 h2 h3 hi hz hs r1 r2⟩
  · exact .inr ⟨rfl, h0.later r2, Tch.of_below r2⟩
theorem patch_keep (i at_ : Nat) (t : ByteArray) (w : World) (h : IS w E D Z) (hj : E.j ≤ 256) (hi : i < E.hard.length) (hs : at_ + t.size ≤ 64) (hz : Z i) :
    Calls Tryz.prog 64 #[.pointer (some ⟨E.T.p, 0, none⟩), .int .i64 i, .int .i64 at_, .string t] w (Out (.int .i64 0) (.int .i64 4) (Wr E (upd D i (patchS (D i) at_ t)) Z w) (Wr E D Z w)) := by
  have h0 := h
  have h64 := h.sec hi
  obtain ⟨f, nn, h1, h2, h3⟩ := h
  have P := patch_or i at_ t w h1.tj hi (by rw [h2 i hi]; exact h64) hs hj (fun x hx => by obtain ⟨q, e, hl, _⟩ := h3 x hx; exact ⟨q, e, hl⟩)
  rw [h2 i hi] at P
  refine P.mono ?_
  rintro e w' (⟨rfl, ⟨nn', r1⟩, r2⟩ | ⟨rfl, r1, r2⟩)
  · exact .inl ⟨rfl, wrote_is h1 h2 h3 hi hz ((patchS_size (by omega)).trans h64) r1 r2⟩
  · exact .inr ⟨rfl, h0.later r2, Tch.of_below r2⟩
set_option maxRecDepth 100000 in
set_option maxHeartbeats 4000000 in
theorem setInode_keep (n : Nat) (x : InoT) (w : World) (hs : Small E) (h : IS w E D Z) (h1 : 1 ≤ n) (hn : n ≤ E.i) (ho : x.Ok) (hz : Z (tq E n)) :
    Calls Tryz.prog 20 #[.pointer (some ⟨E.M, 0, none⟩), .int .u32 n, x.val] w (Out (.int .i64 0) (.int .i64 4) (Wr E (setIno E D n x) Z w) (Wr E D Z w)) := by
  have hj := hs.hj
  have hlt := tq_lt hs h.len h1 hn
  have hl := h.len4
  have IN := Lib.hid (fun W => Geo.inode_any E.i E.bl E.j n W hs.may h1 hn)
  have PU := Lib.hid (fun W => put_ino x W ho)
  have PA := Lib.hid (fun W (h : IS W E D Z) => patch_keep (tq E n) (io_ n) (inoB x) W h (by omega) hlt (by rw [inoB_size]; unfold io_; omega) hz)
  unfold geoV at IN
  rw [show fromG E.i E.bl E.j 4 + (n - 1) / 2 = tq E n from rfl, show (n - 1) % 2 * 32 = io_ n from rfl] at IN
  unfold setIno
  have ht : io_ n ≤ 32 := by unfold io_; omega
  have H := Lib.hid h
  have hX := h.img
  have X0 := hX.cell 0
  have X1 := hX.cell 1
  have X2 := hX.cell 2
  have X3 := hX.cell 3
  simp only [List.getElem?_toArray, List.getElem?_cons_zero, List.getElem?_cons_succ] at X0 X1 X2 X3
  have Xl := hX.lt
  clear hX h hz
  generalize upd D (tq E n) (patchS (D (tq E n)) (io_ n) (inoB x)) = D2 at *
  generalize tq E n = q at *
  generalize io_ n = o at *
  unfold InoT.val at *
  obtain ⟨kind, links, size, d0, d1, d2, d3, ind⟩ := x
  generalize inoB ⟨kind, links, size, d0, d1, d2, d3, ind⟩ = s32 at *
  have HB0 := Lib.hid ((Below.refl _ w).alloc (Nat.le_refl _) (.cells #[.int .u8 kind, .int .u16 links, .int .u32 size, .int .u16 d0, .int .u16 d1, .int .u16 d2, .int .u16 d3, .int .u16 ind] 43))
  have HY0 := Lib.hid (SBox.new w 43 #[.int .u8 kind, .int .u16 links, .int .u32 size, .int .u16 d0, .int .u16 d1, .int .u16 d2, .int .u16 d3, .int .u16 ind])
  go_enter Tryz.func20, Tryz.ntmps20
  go_wp2_with fail
  refine (IN.out _).mono ?_
  rintro e w1 ⟨rfl, b1⟩
  have B1 := Lib.hid (HB0.out.trans (b1.mono HB0.out.size))
  have HY1 := HY0.out.later b1
  have H1 := Lib.hid (H.out.later B1.out)
  have X0 := HY1.cell 0
  have X1 := HY1.cell 1
  have X2 := HY1.cell 2
  have X3 := HY1.cell 3
  have X4 := HY1.cell 4
  have X5 := HY1.cell 5
  have X6 := HY1.cell 6
  have X7 := HY1.cell 7
  simp only [List.getElem?_toArray, List.getElem?_cons_zero, List.getElem?_cons_succ] at X0 X1 X2 X3 X4 X5 X6 X7
  have Xl := HY1.lt
  clear HY1 b1
  go_wp2_with fail
  refine (PU.out _).mono ?_
  rintro e w2 ⟨rfl, b2⟩
  have B2 := Lib.hid (B1.out.trans (b2.mono B1.out.size))
  have H2 := Lib.hid (H.out.later B2.out)
  have hX := H2.out.img
  clear X0 X1 X2 X3 X4 X5 X6 X7 Xl b2
  have X0 := hX.cell 0
  have X1 := hX.cell 1
  have X2 := hX.cell 2
  have X3 := hX.cell 3
  simp only [List.getElem?_toArray, List.getElem?_cons_zero, List.getElem?_cons_succ] at X0 X1 X2 X3
  have Xl := hX.lt
  clear hX
  go_wp2_with fail
  refine (PA.out _ H2.out).mono ?_
  rintro e w3 (⟨rfl, G⟩ | ⟨rfl, G⟩)
  · have G := Lib.hid (G.pre B2.out)
    go_wp2
    go_ret
    exact .inl ⟨rfl, G.out⟩
  · have G := Lib.hid (G.pre B2.out)
    go_wp2
    go_ret
    exact .inr ⟨rfl, G.out⟩
set_option maxRecDepth 100000 in
set_option maxHeartbeats 4000000 in
theorem put_keep (b : Nat) (s : ByteArray) (w : World) (hs : Small E) (h : IS w E D Z) (h1 : 1 ≤ b) (hb : b ≤ E.bl) (h64 : s.size = 64) (hz : Z (dq E b)) :
    Calls Tryz.prog 68 #[.pointer (some ⟨E.M, 0, none⟩), .int .u16 b, .string s] w (Out (.int .i64 0) (.int .i64 4) (Wr E (upd D (dq E b) s) Z w) (Wr E D Z w)) := by
  have hj := hs.hj
  have hlt := dq_lt hs h.len h1 hb
  have hl := h.len4
  have BL := Lib.hid (fun W => Geo.block_any E.i E.bl E.j b W hs.may h1 hb)
  have WR := Lib.hid (fun W (h : IS W E D Z) => write_keep (dq E b) s W h (by omega) hlt h64 hz)
  unfold geoV at BL
  rw [show fromG E.i E.bl E.j 5 + b - 1 = dq E b from rfl] at BL
  generalize dq E b = q at *
  have H := Lib.hid h
  have hX := h.img
  have X0 := hX.cell 0
  have X1 := hX.cell 1
  have X2 := hX.cell 2
  have X3 := hX.cell 3
  simp only [List.getElem?_toArray, List.getElem?_cons_zero, List.getElem?_cons_succ] at X0 X1 X2 X3
  have Xl := hX.lt
  clear hX h hz
  go_enter Tryz.func68, Tryz.ntmps68
  go_wp2_with fail
  refine (BL.out _).mono ?_
  rintro e w1 ⟨rfl, b1⟩
  have B1 := Lib.hid b1
  have H1 := Lib.hid (H.out.later B1.out)
  have hX := H1.out.img
  clear X0 X1 X2 X3 Xl b1
  have X0 := hX.cell 0
  have X1 := hX.cell 1
  have X2 := hX.cell 2
  have X3 := hX.cell 3
  simp only [List.getElem?_toArray, List.getElem?_cons_zero, List.getElem?_cons_succ] at X0 X1 X2 X3
  have Xl := hX.lt
  clear hX
  go_wp2_with fail
  refine (WR.out _ H1.out).mono ?_
  rintro e w3 (⟨rfl, G⟩ | ⟨rfl, G⟩)
  · have G := Lib.hid (G.pre B1.out)
    go_wp2
    go_ret
    exact .inl ⟨rfl, G.out⟩
  · have G := Lib.hid (G.pre B1.out)
    go_wp2
    go_ret
    exact .inr ⟨rfl, G.out⟩
theorem put_numK (b : Nat) (s : ByteArray) (w : World) (hs : Small E) (h : IS w E D Z) (h1 : 1 ≤ b) (hb : b ≤ E.bl) (h64 : s.size = 64) (hz : Z (dq E b)) :
    Calls Tryz.prog 68 #[.pointer (some ⟨E.M, 0, none⟩), .int .u16 b, .string s] w fun e w' => ∃ c : Int, e = .returned (.int .i64 c) ∧ ((c = 0 ∧ Wr E (upd D (dq E b) s) Z w w') ∨ (c = 4 ∧ Wr E D Z w w')) :=
  (put_keep b s w hs h h1 hb h64 hz).mono fun e w' h => by
    rcases h with ⟨rfl, g⟩ | ⟨rfl, g⟩
    · exact ⟨0, rfl, .inl ⟨rfl, g⟩⟩
    · exact ⟨4, rfl, .inr ⟨rfl, g⟩⟩
set_option maxRecDepth 100000 in
set_option maxHeartbeats 4000000 in
theorem setPage_keep0 (n p b : Nat) (x : InoT) (s : ByteArray) (w : World) (hs : Small E) (h : IS w E D Z) (h1 : 1 ≤ n) (hn : n ≤ E.i) (hx : InoIs E D n x) (ho : x.Ok) (hk : x.kind ≠ 0) (hp : p * 64 < x.size) (h64 : s.size = 64) (hb1 : 1 ≤ b) (hb2 : b ≤ E.bl)
    (hzt : Z (tq E n)) (hzb : Z (dq E b)) (hsame : setIno E D n x = D) (HM : ∀ W, IS W E D Z → Calls Tryz.prog 67 #[.pointer (some ⟨E.M, 0, none⟩), x.val, .int .i64 p] W (HomePost E D Z False x b W)) :
    Calls Tryz.prog 23 #[.pointer (some ⟨E.M, 0, none⟩), .int .u32 n, .int .i64 p, .string s] w (Out (.int .i64 0) (.int .i64 4) (Wr E (upd D (dq E b) (cutS s (min 64 (x.size - p * 64)))) Z w) (Wr E D Z w)) := by
  have hsz := Ok.size_lt ho
  have TH := there_is n x w hs h h1 hn hx ho
  rw [if_neg hk] at TH
  have TH := Lib.hid TH
  have HM := Lib.hid HM
  have SI := Lib.hid (fun W (h : IS W E D Z) => setInode_keep n x W hs h h1 hn ho hzt)
  have PU := Lib.hid (fun W (h : IS W E D Z) => put_numK b (cutS s (min 64 (x.size - p * 64))) W hs h hb1 hb2 (cutS_size h64 (by omega)) hzb)
  have H := Lib.hid h
  have hTm := mx_lt h
  have hzs : zS.size = 64 := by unfold zS; rw [size_B, List.length_replicate]
  clear h hx ho hk hzt hzb
  generalize upd D (dq E b) (cutS s (min 64 (x.size - p * 64))) = D3 at *
  unfold cutS at PU
  have ZE : Hid (∀ W, Calls Tryz.prog 69 #[] W fun e w' => e = .returned (.string zS) ∧ Below W.heap.size W w') := Lib.hid (fun W => zero_any W)
  generalize zS = zs at *
  rw [hsame] at SI
  clear hsame
  unfold HomePost at HM
  obtain ⟨kind, links, size, d0, d1, d2, d3, ind⟩ := x
  simp only at hp hsz PU
  obtain ⟨tt, hto⟩ : ∃ tt, min 64 (size - p * 64) = tt := ⟨_, rfl⟩
  rw [hto] at PU
  have ht1 : tt ≤ 64 := by omega
  unfold InoT.val at *
  have q1 : ¬ (p : Int) < 0 := by omega
  have q2 : ¬ (36 : Int) ≤ p := by omega
  have q3 : ¬ 36 ≤ p := by omega
  have q4 : ((s.size : Int) != 64) = false := by simp; omega
  have q5 : ¬ (size : Int) ≤ (p : Int) * 64 := by omega
  go_enter Tryz.func23, Tryz.ntmps23
  go_wp2_with fail
  refine TH.out.mono ?_
  rintro e w1 ⟨rfl, b1⟩
  have hX := SBox.new w1 43 #[.int .u8 kind, .int .u16 links, .int .u32 size, .int .u16 d0, .int .u16 d1, .int .u16 d2, .int .u16 d3, .int .u16 ind]
  have hB1 := b1.alloc b1.size (.cells #[.int .u8 kind, .int .u16 links, .int .u32 size, .int .u16 d0, .int .u16 d1, .int .u16 d2, .int .u16 d3, .int .u16 ind] 43)
  have H1 := Lib.hid (H.out.later hB1)
  have HX1 := Lib.hid hX
  have B1 := Lib.hid hB1
  have hw1 := b1.size
  have X0 := hX.cell 0
  have X1 := hX.cell 1
  have X2 := hX.cell 2
  have X3 := hX.cell 3
  have X4 := hX.cell 4
  have X5 := hX.cell 5
  have X6 := hX.cell 6
  have X7 := hX.cell 7
  simp only [List.getElem?_toArray, List.getElem?_cons_zero, List.getElem?_cons_succ] at X0 X1 X2 X3 X4 X5 X6 X7
  have Xl := hX.lt
  clear hX hB1 b1
  go_wp2_with fail
  refine (HM.out _ H1.out).mono ?_
  rintro e w2 (⟨rfl, GW⟩ | ⟨⟨v, u, rfl, ⟨zk, zl, zz, z0, z1, z2, z3, zi⟩, rfl⟩, GF⟩)
  · have HX2 := Lib.hid (show SBox w2 w1.heap.size 43 _ from (GW.2.block _ HX1.out.lt (by omega)).trans HX1.out)
    have HW2 := Lib.hid (GW.pre (w0 := w) B1.out)
    have hY := SBox.new w2 43 #[.int .u8 kind, .int .u16 links, .int .u32 size, .int .u16 d0, .int .u16 d1, .int .u16 d2, .int .u16 d3, .int .u16 ind]
    have hB2 := (Below.refl w2.heap.size w2).alloc (Nat.le_refl _) (.cells #[.int .u8 kind, .int .u16 links, .int .u32 size, .int .u16 d0, .int .u16 d1, .int .u16 d2, .int .u16 d3, .int .u16 ind] 43)
    have HW3 := Lib.hid (HW2.out.post hB2)
    have HX3 := Lib.hid (HX2.out.later hB2)
    clear GW X0 X1 X2 X3 X4 X5 X6 X7 Xl hB2
    have Y0 := hY.cell 0
    have Y1 := hY.cell 1
    have Y2 := hY.cell 2
    have Y3 := hY.cell 3
    have Y4 := hY.cell 4
    have Y5 := hY.cell 5
    have Y6 := hY.cell 6
    have Y7 := hY.cell 7
    simp only [List.getElem?_toArray, List.getElem?_cons_zero, List.getElem?_cons_succ] at Y0 Y1 Y2 Y3 Y4 Y5 Y6 Y7
    have Yl := hY.lt
    clear hY
    go_wp2_with fail
    refine (SI.out _ HW3.out.1).mono ?_
    rintro e w4 (⟨rfl, GW⟩ | ⟨rfl, GW⟩)
    · have hX := (show SBox w4 w1.heap.size 43 _ from (GW.2.block _ HX3.out.lt (by omega)).trans HX3.out)
      have HW4 := Lib.hid (GW.then_ HW3.out)
      clear GW Y0 Y1 Y2 Y3 Y4 Y5 Y6 Y7 Yl
      have X0 := hX.cell 0
      have X1 := hX.cell 1
      have X2 := hX.cell 2
      have X3 := hX.cell 3
      have X4 := hX.cell 4
      have X5 := hX.cell 5
      have X6 := hX.cell 6
      have X7 := hX.cell 7
      simp only [List.getElem?_toArray, List.getElem?_cons_zero, List.getElem?_cons_succ] at X0 X1 X2 X3 X4 X5 X6 X7
      have Xl := hX.lt
      clear hX
      go_wp2_with fail
      have mt : min (64 : Int) ((size : Int) - (p : Int) * 64) = ((tt : Nat) : Int) := by omega
      rw [mt]
      have r0 : (0 : Int) ≤ tt := by omega
      have r1 : (tt : Int) ≤ 64 := by omega
      have r2 : (tt : Int) ≤ s.size := by omega
      have r3 : tt ≤ s.size := by omega
      have r4 : (tt : Int) ≤ zs.size := by omega
      have r5 : tt ≤ zs.size := by omega
      have r6 : (s.extract 0 tt).size + (zs.extract tt zs.size).size ≤ 100000 := by simp; omega
      have r7 : (s.extract 0 tt).size + (zs.extract tt 64).size ≤ 100000 := by simp; omega
      have HD4 := Lib.hid (HW4.out.post (Below.refl w4.heap.size w4).drew)
      clear X0 X1 X2 X3 X4 X5 X6 X7 Xl mt
      go_region_law (first | (go_simp; go_at_call 69; refine (ZE.out _).mono ?_; rintro e w5 ⟨rfl, b5⟩; have HW5 := Lib.hid (HD4.out.post b5)) | (go_simp; go_at_call 68; refine (PU.out _ HW5.out.1).mono ?_; rintro e w6 ⟨c, rfl, hc⟩))
      all_goals
        have HC := Lib.hid hc
        clear hc
        go_wp2
        go_ret
        rcases HC.out with ⟨rfl, g⟩ | ⟨rfl, g⟩
        · exact .inl ⟨rfl, g.then_ HW5.out⟩
        · exact .inr ⟨rfl, g.then_ HW5.out⟩
    · have HW4 := Lib.hid (GW.then_ HW3.out)
      clear GW Y0 Y1 Y2 Y3 Y4 Y5 Y6 Y7 Yl
      go_wp2
      go_ret
      exact .inr ⟨rfl, HW4.out⟩
  · exact absurd GF.1.1 (fun q => q)
end
end Go.Proofs.YtpnfkilfgdnogaaGreatDoor.Img
end
section
namespace Go.Proofs.YtpnfkilfgdnogaaGreatDoor.Img
set_option linter.unusedVariables false
set_option linter.unusedSimpArgs false
open Go.RowKit Go.Shelf Go.Maps Oct Dev Jou Tx Geo Ino Bm Dir
theorem cutS_all (s : ByteArray) (h : s.size = 64) : cutS s 64 = s := by
  unfold cutS
  have e1 : s.extract 0 64 = s := ext_all s 64 h
  have e2 : zS.extract 64 64 = ByteArray.empty := by
    apply ByteArray.ext
    simp [ByteArray.data_extract]
  rw [e1, e2, ByteArray.append_empty]
theorem chunk_size {s : ByteArray} {k : Nat} (h : (k + 1) * 64 ≤ s.size) : (chunk s k).size = 64 := by
  unfold chunk
  rw [ByteArray.size_extract]
  omega
theorem put_put {A : Type} (f : Nat → A) (n : Nat) (y z : A) : put_ (put_ f n y) n z = put_ f n z := by
  funext m
  unfold put_
  split <;> rfl
theorem put_self {A : Type} (f : Nat → A) (n : Nat) : put_ f n (f n) = f := by
  funext m
  unfold put_
  split
  · rename_i h
    rw [h]
  · rfl
theorem drop_enc : ∀ {es : List Ent} (h : ∀ e ∈ es, OkE e) (k : Nat), (encL es).drop (32 * k) = encL (es.drop k)
  | [], h, k => by simp [encL]
  | e :: r, h, 0 => by simp
  | e :: r, h, k + 1 => by
    have ih := drop_enc (es := r) (fun x hx => h x (List.mem_cons_of_mem _ hx)) k
    have hl := len_enc (h e (by simp))
    rw [encL_cons, List.drop_succ_cons, ← ih, show 32 * (k + 1) = (encE e).length + 32 * k by rw [hl]; omega, ← List.drop_drop, List.drop_left]
theorem take_enc : ∀ {es : List Ent} (h : ∀ e ∈ es, OkE e) (k : Nat), (encL es).take (32 * k) = encL (es.take k)
  | [], h, k => by simp [encL]
  | e :: r, h, 0 => by simp [encL]
  | e :: r, h, k + 1 => by
    have ih := take_enc (es := r) (fun x hx => h x (List.mem_cons_of_mem _ hx)) k
    have hl := len_enc (h e (by simp))
    rw [encL_cons, List.take_succ_cons, encL_cons, ← ih, List.take_append, List.take_of_length_le (by rw [hl]; omega), hl, show 32 * (k + 1) - 32 = 32 * k by omega]
theorem ex_at (s : ByteArray) (p : Nat) : L (s.extract p (p + 64)) = ((L s).drop p).take 64 := by
  show (s.extract p (p + 64)).data.toList = _
  rw [ByteArray.data_extract, Array.toList_extract, List.extract_eq_take_drop, show p + 64 - p = 64 by omega]
  rfl
theorem sec_of {es : List Ent} (h : ∀ e ∈ es, OkE e) (j : Nat) : L (chunk (B (encL es)) j) = encL ((es.drop (2 * j)).take 2) := by
  unfold chunk
  rw [show (j + 1) * 64 = j * 64 + 64 by omega, ex_at, L_B, show j * 64 = 32 * (2 * j) by omega, drop_enc h, show (64 : Nat) = 32 * 2 from rfl, take_enc (fun e he => h e (List.mem_of_mem_drop he))]
theorem chunk_set {es : List Ent} (h : ∀ e ∈ es, OkE e) (k : Nat) (x : Ent) (h' : ∀ e ∈ es.set k x, OkE e) (n : Nat) (hn : n ≠ k / 2) : chunk (B (encL (es.set k x))) n = chunk (B (encL es)) n := by
  apply L_inj
  rw [sec_of h, sec_of h']
  congr 1
  apply List.ext_getElem?
  intro i
  rw [List.getElem?_take, List.getElem?_take]
  split
  · rw [List.getElem?_drop, List.getElem?_drop, List.getElem?_set_ne (by omega)]
  · rfl
theorem patch_id {s t : ByteArray} {a : Nat} (h : s.extract a (a + t.size) = t) (hl : a + t.size ≤ s.size) : patchS s a t = s := by
  unfold patchS
  conv => lhs; arg 1; arg 2; rw [← h]
  rw [extract_cut s a (a + t.size) (by omega), extract_cut s (a + t.size) s.size hl]
  exact ext_all s _ rfl
section
variable {E : Im} {D D' D2 : Secs} {ino : Nat → InoT} {vs : Nat → List Nat} {es : List Ent}
theorem setIno_id {n : Nat} {x : InoT} (h : InoIs E D n x) (h64 : (D (tq E n)).size = 64) : setIno E D n x = D := by
  funext q
  unfold setIno
  by_cases e : q = tq E n
  · subst e
    rw [upd_same]
    refine patch_id ?_ ?_
    · rw [inoB_size]
      exact h
    · rw [inoB_size, h64]
      unfold io_
      omega
  · exact upd_ne _ _ e
theorem Oth.trans {n : Nat} {y : InoT} {us : List Nat} (h : Oth E D D' ino vs n) (g : Oth E D' D2 (put_ ino n y) (put_ vs n us) n) : Oth E D D2 ino vs n :=
  ⟨g.1.trans h.1, fun m b m1 m2 hm hb => (g.2 m b m1 m2 hm (by rw [put_ne _ _ hm, put_ne _ _ hm]; exact hb)).trans (h.2 m b m1 m2 hm hb)⟩
theorem Oth.refl (n : Nat) : Oth E D D ino vs n := ⟨rfl, fun _ _ _ _ _ _ => rfl⟩
theorem SP.has {n p : Nat} {s : ByteArray} {x y : InoT} {v us : List Nat} (hv : IndIs E D x.ind v) (hp : p < 36) (g : SP E D n x v p s D' y us) (q : Nat) (hq : q = p ∨ pageB x v q ≠ 0) : pageB y us q ≠ 0 := by
  rcases g with ⟨g1, _, rfl, rfl⟩ | ⟨b, g1, g2, g3, g4, g5, g6, _, rfl, rfl⟩ | ⟨b, g1, g2, g3, g4, g5, g6, _, rfl, rfl⟩ | ⟨d, b, g1, g2, g3, g4, g5, g6, g7, g8, g9, _, rfl, rfl⟩
  · rcases hq with rfl | hq
    · exact g1
    · exact hq
  · rw [pageB_setDir g1 hv.len]
    split
    · omega
    · rcases hq with hq | hq
      · contradiction
      · exact hq
  · rw [pageB_setV g1 hp hv.len]
    split
    · omega
    · rcases hq with hq | hq
      · contradiction
      · exact hq
  · rw [pageB_setV g1 hp (List.length_replicate ..)]
    split
    · omega
    · rcases hq with hq | hq
      · contradiction
      · rw [hv.no g2] at hq
        exact hq
structure Ch (E : Im) (D : Secs) (ino : Nat → InoT) (vs : Nat → List Nat) (a b : ByteArray) (k : Nat) (D' : Secs) (y : InoT) (us : List Nat) : Prop where
  own : Owns E D' (put_ ino 1 y) (put_ vs 1 us)
  oth : Oth E D D' ino vs 1
  kind : y.kind = 2
  links : y.links = 1
  size : y.size = b.size
  new : ∀ p, p < k → p < pagesN b.size → pgS E D' y us p = chunk b p ∧ pageB y us p ≠ 0
  old : ∀ p, k ≤ p → p < pagesN a.size → pgS E D' y us p = chunk a p ∧ pageB y us p ≠ 0
def ZAll (E : Im) (Z : Nat → Prop) : Prop := Z (fr E 2) ∧ Z (fr E 3) ∧ (∀ n, 1 ≤ n → n ≤ E.i → Z (tq E n)) ∧ ∀ b, 1 ≤ b → b ≤ E.bl → Z (dq E b)
variable {Z : Nat → Prop}
theorem change_f {Q : Prop} (es' : List Ent) (w : World) (hs : Small E) (hZ : ZAll E Z) (h : IS w E D Z) (f : FS0 E D ino vs es) (d' : Dir es') (hab : (B (encL es)).size ≤ (B (encL es')).size) (hQ : FullE E Z → Q)
    (hN : ∀ D1 y us, Owns E D1 (put_ ino 1 y) (put_ vs 1 us) → y.size = (B (encL es')).size → (D1 (fr E 3)).size = 64 → ((lst E D1).2 = false ∨ (lst E (newD E D1)).2 = false) → Q) :
    Calls Tryz.prog 78 #[.pointer (some ⟨E.M, 0, none⟩), .int .u32 1, .string (B (encL es)), .string (B (encL es'))] w (Out (.int .i64 0) (.int .i64 4) (fun W => (∃ D' y us, IS W E D' Z ∧ FS0 E D' (put_ ino 1 y) (put_ vs 1 us) es' ∧ Oth E D D' ino vs 1 ∧ y.kind = 2) ∧ Tch (fun c => c = E.T.m) w W) (fun W => Q ∧ Tch (fun c => c = E.T.m) w W)) := by
  obtain ⟨z2, z3, zt, zd⟩ := hZ
  have ei : 1 ≤ E.i := by have := hs.vals; omega
  have ez := enc_size f.root.dir
  have ez' := enc_size d'
  have pa := pages_enc f.root.dir
  have pb := pages_enc d'
  have hsz := f.root.size
  have hpg := f.root.pg
  have hhas := f.has
  rw [hsz] at hpg hhas
  have hdir := f.root.dir
  generalize B (encL es) = a at *
  generalize hb : B (encL es') = b at *
  have o := f.own
  have hok := o.ok 1 (Nat.le_refl 1) ei
  have hu : (ino 1).Used := hok.resolve_left (fun e => by have := f.root.kind; rw [e] at this; cases this)
  refine (change_gen E.M 1 a b w (fun k W => (∃ D' y us, IS W E D' Z ∧ Ch E D ino vs a b k D' y us) ∧ Tch (fun c => c = E.T.m) w W) (fun W => Q ∧ Tch (fun c => c = E.T.m) w W) (by omega) (by omega) ?_ ?_ ?_ ?_).mono ?_
  · rintro k W W' ⟨⟨D', y, us, g1, g2⟩, t⟩ hb
    exact ⟨⟨D', y, us, g1.later hb, g2⟩, t.trans (Tch.of_below hb)⟩
  · intro hlt
    have hs3 : (D (fr E 3)).size = 64 := h.sec (fr_lt hs h (.inr rfl))
    have hst := h.sec (tq_lt hs h.len (Nat.le_refl 1) ei)
    refine (resize_is (Q := Q) 1 b.size (ino 1) (vs 1) w hs h (Nat.le_refl 1) ei (o.is 1 (Nat.le_refl 1) ei) hok (by have := f.root.kind; omega) (o.ing 1 (Nat.le_refl 1) ei) (o.ind 1 (Nat.le_refl 1) ei) ez'.2 (fun _ => ez'.1) (o.hfr hs 1 _ (Nat.le_refl 1) ei hs3) (cutEnd_ok hu ez'.2 (fun _ => ez'.1)) (cutEnd_ing (o.ing 1 (Nat.le_refl 1) ei)) (o.hyv hs 1 _ (Nat.le_refl 1) ei) z3 (zt 1 (Nat.le_refl 1) ei) (fun c c1 c2 _ => zd c c1 c2) hQ).mono ?_
    rintro e W (⟨rfl, g⟩ | ⟨rfl, g⟩)
    · refine .inl ⟨rfl, ⟨_, _, _, g.1, o.rsz hs 1 b.size (Nat.le_refl 1) ei hst hs3 hu ez'.2 (fun _ => ez'.1), o.rszOth hs 1 b.size (Nat.le_refl 1) ei, ?_, ?_, rfl, (fun p hp => by omega), fun p _ hp => ?_⟩, g.2⟩
      · rw [show (sized (cutEnd (ino 1) (pagesN b.size)) b.size).kind = (ino 1).kind by unfold sized cutEnd; split <;> rfl]
        exact f.root.kind
      · rw [show (sized (cutEnd (ino 1) (pagesN b.size)) b.size).links = (ino 1).links by unfold sized cutEnd; split <;> rfl]
        exact f.root.links
      · have hp2 : p < pagesN b.size := by omega
        have hq : p < 36 := by omega
        have e1 := o.rszPages hs 1 b.size (Nat.le_refl 1) ei ez'.2 p hq
        rw [if_pos hp2, if_neg (fun q => q.1 ez'.1)] at e1
        refine ⟨e1.trans (hpg p hp), ?_⟩
        have e2 : pageB (sized (cutEnd (ino 1) (pagesN b.size)) b.size) (cutV (ino 1) (vs 1) (pagesN b.size)) p = pageB (cutEnd (ino 1) (pagesN b.size)) (cutV (ino 1) (vs 1) (pagesN b.size)) p := rfl
        rw [e2, pageB_cut _ (o.ind 1 (Nat.le_refl 1) ei).len (o.ind 1 (Nat.le_refl 1) ei).no p hq, if_pos hp2]
        exact hhas p hp
    · exact .inr ⟨rfl, g.1.1, g.2⟩
  · intro hlt
    refine ⟨⟨D, ino 1, vs 1, h, ⟨by rw [put_self, put_self]; exact o, Oth.refl 1, f.root.kind, f.root.links, by omega, fun p hp => by omega, fun p _ hp => ⟨hpg p hp, hhas p hp⟩⟩⟩, Tch.of_below (Below.refl _ _)⟩
  · rintro k hk W ⟨⟨D1, y, us, g1, g2⟩, t⟩
    refine ⟨fun hc => ?_, fun hc => ?_⟩
    · refine ⟨⟨D1, y, us, g1, g2.own, g2.oth, g2.kind, g2.links, g2.size, fun p hp hp2 => ?_, fun p hp hp2 => g2.old p (by omega) hp2⟩, t⟩
      by_cases q : p = k
      · subst q
        have := g2.old p (Nat.le_refl _) (by unfold pagesN; omega)
        rw [hc.2] at this
        exact this
      · exact g2.new p (by omega) hp2
    · have hkb : (k + 1) * 64 ≤ b.size := by omega
      have hk36 : k < 36 := by omega
      have hcs := chunk_size hkb
      have o1 := g2.own
      have e1 : put_ ino 1 y 1 = y := put_same _ _ _
      have e2 : put_ vs 1 us 1 = us := put_same _ _ _
      refine (setPage_cases (Q := Q) 1 k (chunk b k) W hs g1 o1 (Nat.le_refl 1) ei (by rw [e1, g2.kind]; decide) (by rw [e1, g2.size]; omega) hcs z3 (zt 1 (Nat.le_refl 1) ei) (fun c c1 c2 _ => zd c c1 c2) hQ (hN D1 y us o1 g2.size (g1.sec (fr_lt hs g1 (.inr rfl))))).mono ?_
      rw [e1, e2, g2.size, show min 64 (b.size - k * 64) = 64 by omega, cutS_all _ hcs]
      rintro e W2 (⟨rfl, D2, y2, u2, sp, g⟩ | ⟨rfl, g⟩)
      · have hs3 : (D1 (fr E 3)).size = 64 := g1.sec (fr_lt hs g1 (.inr rfl))
        have hst := g1.sec (tq_lt hs g1.len (Nat.le_refl 1) ei)
        have sp' : SP E D1 1 (put_ ino 1 y 1) (put_ vs 1 us 1) k (chunk b k) D2 y2 u2 := by rw [e1, e2]; exact sp
        have o2 := SP.owns o1 hs (Nat.le_refl 1) ei hst hs3 hk36 sp'
        rw [put_put, put_put] at o2
        have pgs := SP.pages o1 hs (Nat.le_refl 1) ei hs3 hk36 sp'
        rw [e1, e2] at pgs
        have hv1 := o1.ind 1 (Nat.le_refl 1) ei
        rw [e1, e2] at hv1
        have hs2 := SP.has hv1 hk36 sp
        have sm := sp.same
        refine .inl ⟨rfl, ⟨D2, y2, u2, g.1, o2, g2.oth.trans (SP.oth o1 hs (Nat.le_refl 1) ei hs3 sp'), sm.1.trans g2.kind, sm.2.1.trans g2.links, sm.2.2.trans g2.size, fun p hp hp2 => ?_, fun p hp hp2 => ?_⟩, t.trans g.2⟩
        · by_cases q : p = k
          · subst q
            exact ⟨by rw [pgs p hk36, if_pos rfl], hs2 p (.inl rfl)⟩
          · have := g2.new p (by omega) hp2
            exact ⟨by rw [pgs p (by omega), if_neg q]; exact this.1, hs2 p (.inr this.2)⟩
        · have := g2.old p (by omega) hp2
          exact ⟨by rw [pgs p (by omega), if_neg (by omega)]; exact this.1, hs2 p (.inr this.2)⟩
      · exact .inr ⟨rfl, g.1.1, t.trans g.2⟩
  · rintro e W (⟨rfl, ⟨D1, y, us, g1, g2⟩, t⟩ | ⟨rfl, t⟩)
    · have e1 : put_ ino 1 y 1 = y := put_same _ _ _
      have e2 : put_ vs 1 us 1 = us := put_same _ _ _
      refine .inl ⟨rfl, ⟨D1, y, us, g1, ⟨g2.own, ⟨d', by rw [e1]; exact g2.kind, by rw [e1]; exact g2.links, by rw [e1, hb]; exact g2.size, fun p hp => ?_⟩, fun n n2 hn => by rw [put_ne _ _ (by omega)]; exact f.two n n2 hn, fun p hp => ?_⟩, g2.oth, g2.kind⟩, t⟩
      · rw [e1, g2.size] at hp
        rw [e1, e2, hb]
        exact (g2.new p (by omega) hp).1
      · rw [e1, g2.size] at hp
        rw [e1, e2]
        exact (g2.new p (by omega) hp).2
    · exact .inr ⟨rfl, t⟩
end
end Go.Proofs.YtpnfkilfgdnogaaGreatDoor.Img
end
section
namespace Go.Proofs.YtpnfkilfgdnogaaGreatDoor.Img
set_option linter.unusedVariables false
set_option linter.unusedSimpArgs false
open Go.RowKit Go.Shelf Go.Maps Oct Dev Jou Tx Geo Ino Bm Dir
section
variable {E : Im} {D D' : Secs} {ino : Nat → InoT} {vs : Nat → List Nat} {es : List Ent} {Z : Nat → Prop}
theorem resize_f (n s : Nat) (w : World) (hs : Small E) (hZ : ZAll E Z) (h : IS w E D Z) (f : FS0 E D ino vs es) (h2 : 2 ≤ n) (hn : n ≤ E.i) (hk : (ino n).kind ≠ 0) (hl : s ≤ 2304) :
    Calls Tryz.prog 22 #[.pointer (some ⟨E.M, 0, none⟩), .int .u32 n, .int .u32 s] w (Out (.int .i64 0) (.int .i64 4) (fun W => ∃ D' y us, Wr E D' Z w W ∧ FS0 E D' (put_ ino n y) (put_ vs n us) es ∧ Oth E D D' ino vs n ∧ y = sized (cutEnd (ino n) (pagesN s)) s ∧ us = cutV (ino n) (vs n) (pagesN s) ∧ y.kind = (ino n).kind ∧ y.links = (ino n).links) (Fu E True w)) := by
  obtain ⟨z2, z3, zt, zd⟩ := hZ
  have h1 : 1 ≤ n := by omega
  have o := f.own
  have hok := o.ok n h1 hn
  have hu : (ino n).Used := hok.resolve_left (fun e => hk (by rw [e]; rfl))
  have hs3 : (D (fr E 3)).size = 64 := h.sec (fr_lt hs h (.inr rfl))
  have hst := h.sec (tq_lt hs h.len h1 hn)
  have hd : (ino n).kind = 2 → s % 64 = 0 := fun q => absurd q (f.two n h2 hn)
  refine (resize_is (Q := True) n s (ino n) (vs n) w hs h h1 hn (o.is n h1 hn) hok hk (o.ing n h1 hn) (o.ind n h1 hn) hl hd (o.hfr hs n _ h1 hn hs3) (cutEnd_ok hu hl hd) (cutEnd_ing (o.ing n h1 hn)) (o.hyv hs n _ h1 hn) z3 (zt n h1 hn) (fun c c1 c2 _ => zd c c1 c2) (fun _ => trivial)).mono ?_
  rintro e W (⟨rfl, g⟩ | ⟨rfl, g⟩)
  · have ek : (sized (cutEnd (ino n) (pagesN s)) s).kind = (ino n).kind := by unfold sized cutEnd; split <;> rfl
    have el : (sized (cutEnd (ino n) (pagesN s)) s).links = (ino n).links := by unfold sized cutEnd; split <;> rfl
    have oth := o.rszOth hs n s h1 hn
    exact .inl ⟨rfl, _, _, _, g, f.file h2 hn (o.rsz hs n s h1 hn hst hs3 hu hl hd) oth (by rw [ek]; exact f.two n h2 hn), oth, rfl, rfl, ek, el⟩
  · exact .inr ⟨rfl, g⟩
theorem setPage_f (n p : Nat) (s : ByteArray) (w : World) (hs : Small E) (hZ : ZAll E Z) (h : IS w E D Z) (f : FS0 E D ino vs es) (h2 : 2 ≤ n) (hn : n ≤ E.i) (hk : (ino n).kind ≠ 0) (hp : p * 64 < (ino n).size) (h64 : s.size = 64) :
    Calls Tryz.prog 23 #[.pointer (some ⟨E.M, 0, none⟩), .int .u32 n, .int .i64 p, .string s] w (Out (.int .i64 0) (.int .i64 4) (fun W => ∃ D' y us, Wr E D' Z w W ∧ FS0 E D' (put_ ino n y) (put_ vs n us) es ∧ Oth E D D' ino vs n ∧ y.kind = (ino n).kind ∧ y.links = (ino n).links) (Fu E True w)) := by
  obtain ⟨z2, z3, zt, zd⟩ := hZ
  have h1 : 1 ≤ n := by omega
  have o := f.own
  have hok := o.ok n h1 hn
  have hu : (ino n).Used := hok.resolve_left (fun e => hk (by rw [e]; rfl))
  have hs3 : (D (fr E 3)).size = 64 := h.sec (fr_lt hs h (.inr rfl))
  have hst := h.sec (tq_lt hs h.len h1 hn)
  refine (setPage_cases (Q := True) n p s w hs h o h1 hn hk hp h64 z3 (zt n h1 hn) (fun c c1 c2 _ => zd c c1 c2) (fun _ => trivial) (fun _ => trivial)).mono ?_
  rintro e W (⟨rfl, D', y, us, sp, g⟩ | ⟨rfl, g⟩)
  · have oth := SP.oth o hs h1 hn hs3 sp
    have sm := sp.same
    exact .inl ⟨rfl, D', y, us, g, f.file h2 hn (sp.owns o hs h1 hn hst hs3 (by have := hu.size; omega)) oth (by rw [sm.1]; exact f.two n h2 hn), oth, sm.1, sm.2.1⟩
  · exact .inr ⟨rfl, g⟩
theorem FS0.text (f : FS0 E D ino vs es) (w : World) (hs : Small E) (h : IS w E D Z) :
    Calls Tryz.prog 16 #[.pointer (some ⟨E.M, 0, none⟩), .int .u32 1] w fun e w' => e = .returned (.tuple #[.string (B (encL es)), .int .i64 0]) ∧ Below w.heap.size w w' := by
  have ei : 1 ≤ E.i := by have := hs.vals; omega
  have TX := text_is 1 (ino 1) (vs 1) w hs h (Nat.le_refl 1) ei (f.own.is 1 (Nat.le_refl 1) ei) (f.own.ok 1 (Nat.le_refl 1) ei) f.root.kind (f.own.ing 1 (Nat.le_refl 1) ei) (f.own.ind 1 (Nat.le_refl 1) ei)
  rw [f.root.text] at TX
  exact TX
theorem res_fst (x : Int × List Ent) : (resL x).2 = x.1 := rfl
def EnR (Q : Prop) (E : Im) (Z : Nat → Prop) (D : Secs) (ino : Nat → InoT) (vs : Nat → List Nat) (es : List Ent) (nm : List UInt8) (i : Nat) (w : World) (c : Int) (W : World) : Prop :=
  Tch (fun c => c = E.T.m) w W ∧ (c = 0 → ∃ D' y us es', IS W E D' Z ∧ FS0 E D' (put_ ino 1 y) (put_ vs 1 us) es' ∧ Oth E D D' ino vs 1 ∧ y.kind = 2 ∧ addL nm i es = (0, es')) ∧ (c ≠ 0 → c ≠ 4 → IS W E D Z) ∧ (c ≠ 0 → Q ∨ c = (addL nm i es).1)
theorem enter_f {Q : Prop} (i : Nat) (nm : ByteArray) (w : World) (hs : Small E) (hZ : ZAll E Z) (h : IS w E D Z) (f : FS0 E D ino vs es) (hi : i < 4294967296) (hnm : nm.size ≤ maxLen) (hQ : FullE E Z → Q)
    (hN : ∀ es' D1 y us, addL (L nm) i es = (0, es') → Owns E D1 (put_ ino 1 y) (put_ vs 1 us) → y.size = (B (encL es')).size → (D1 (fr E 3)).size = 64 → ((lst E D1).2 = false ∨ (lst E (newD E D1)).2 = false) → Q) :
    Calls Tryz.prog 30 #[.pointer (some ⟨E.M, 0, none⟩), .int .u32 1, .string nm, .int .u32 i] w fun e W => ∃ c : Int, e = .returned (.int .i64 c) ∧ EnR Q E Z D ino vs es (L nm) i w c W := by
  have d := f.root.dir
  have ez := enc_size d
  have eA := addR_enc d (L nm) i hi
  refine enter_go E.M 1 i nm (B (encL es)) (B (addR (encL es) (L nm) i).1) (addR (encL es) (L nm) i).2 w (EnR Q E Z D ino vs es (L nm) i w) (f.text w hs h) (fun W => by have := Dir.add_any (B (encL es)) nm i W (by unfold maxLen; omega) hnm hi; rw [L_B] at this; exact this) ?_ ?_ ?_
  · intro hc W b
    exact ⟨Tch.of_below b, fun q => absurd q hc, fun _ _ => h.later b, fun _ => .inr (by rw [eA]; exact res_fst _)⟩
  · intro hc W b
    rw [eA] at hc ⊢
    obtain ⟨c1, es1, e1⟩ : ∃ c1 es1, addL (L nm) i es = (c1, es1) := ⟨_, _, rfl⟩
    rw [e1] at hc ⊢
    have c0 : c1 = 0 := hc
    subst c0
    have ok := add_ok d hi e1
    have hlen : (B (encL es)).size ≤ (B (encL es1)).size := by
      rw [size_B, size_B, len_encL d.ok, len_encL ok.1.ok]
      rcases ok.2.2.2.2.2.2 with ⟨k, hk, q, _⟩ | ⟨_, q⟩
      · rw [q, List.length_set]
        exact Nat.le_refl _
      · rw [q, List.length_append]
        omega
    refine (change_f (Q := Q) es1 W hs hZ (h.later b) f ok.1 hlen hQ (fun D1 y us o q q3 => hN es1 D1 y us e1 o q q3)).mono ?_
    rintro e W' (⟨rfl, ⟨D', y, us, g1, g2, g3, g4⟩, t⟩ | ⟨rfl, hq, t⟩)
    · exact ⟨0, rfl, (Tch.of_below b).trans t, fun _ => ⟨D', y, us, es1, g1, g2, g3, g4, e1⟩, fun q => absurd rfl q, fun q => absurd rfl q⟩
    · exact ⟨4, rfl, (Tch.of_below b).trans t, (fun q => by cases q), fun _ q => absurd rfl q, fun _ => .inl hq⟩
  · rintro c W W' ⟨r1, r2, r3, r4⟩ b
    exact ⟨r1.trans (Tch.of_below b), fun q => by obtain ⟨D', y, us, es', g1, g2⟩ := r2 q; exact ⟨D', y, us, es', g1.later b, g2⟩, (fun q1 q2 => (r3 q1 q2).later b), r4⟩
def LeR (E : Im) (Z : Nat → Prop) (D : Secs) (ino : Nat → InoT) (vs : Nat → List Nat) (es : List Ent) (nm : List UInt8) (w : World) (c : Int) (W : World) : Prop :=
  Tch (fun c => c = E.T.m) w W ∧ (c = 0 → ∃ D' es', IS W E D' Z ∧ FS0 E D' ino vs es' ∧ D' (fr E 2) = D (fr E 2) ∧ delL nm es = (0, es')) ∧ (c ≠ 0 → IS W E D Z)
theorem pageB_04 {x : InoT} {v : List Nat} {p : Nat} (hv : IndIs E D x.ind v) (hp : p < 36) (h : pageB x v p ≠ 0) : p < 4 ∨ x.ind ≠ 0 := by
  rcases Nat.lt_or_ge p 4 with q | q
  · exact .inl q
  · refine .inr (fun e => h ?_)
    obtain ⟨hq, hv4⟩ := pageB_hi (x := x) (vs := v) q hv.len hp
    have hmem : v[p - 4] ∈ v := List.getElem_mem hq
    have hz0 : ∀ u, u ∈ v → u = 0 := fun u hm => by
      rw [hv.no e] at hm
      exact List.eq_of_mem_replicate hm
    rw [hv4]
    exact hz0 _ hmem
theorem change_l (k0 : Nat) (w : World) (hs : Small E) (hZ : ZAll E Z) (h : IS w E D Z) (f : FS0 E D ino vs es) (hk0 : k0 < es.length) (d' : Dir (es.set k0 ([], 0))) :
    Calls Tryz.prog 78 #[.pointer (some ⟨E.M, 0, none⟩), .int .u32 1, .string (B (encL es)), .string (B (encL (es.set k0 ([], 0))))] w (Out (.int .i64 0) (.int .i64 4) (fun W => (∃ D', IS W E D' Z ∧ FS0 E D' ino vs (es.set k0 ([], 0)) ∧ D' (fr E 2) = D (fr E 2)) ∧ Tch (fun c => c = E.T.m) w W) (fun W => IS W E D Z ∧ Tch (fun c => c = E.T.m) w W)) := by
  obtain ⟨z2, z3, zt, zd⟩ := hZ
  have ei : 1 ≤ E.i := by have := hs.vals; omega
  have d := f.root.dir
  have ez := enc_size d
  have hse : (B (encL (es.set k0 ([], 0)))).size = (B (encL es)).size := by rw [size_B, size_B, len_encL d.ok, len_encL d'.ok, List.length_set]
  have hcs : ∀ p, p ≠ k0 / 2 → chunk (B (encL (es.set k0 ([], 0)))) p = chunk (B (encL es)) p := chunk_set d.ok k0 ([], 0) d'.ok
  have pa := pages_enc d
  have hsz := f.root.size
  have hpg := f.root.pg
  have hhas := f.has
  rw [hsz] at hpg hhas
  have hk1 : k0 / 2 < pagesN (B (encL es)).size := by
    have : (B (encL es)).size = 32 * es.length := by rw [size_B, len_encL d.ok]
    unfold pagesN
    have := d.even
    omega
  have o := f.own
  have hok := o.ok 1 (Nat.le_refl 1) ei
  have hst := h.sec (tq_lt hs h.len (Nat.le_refl 1) ei)
  have hp0 := hhas _ hk1
  have hbm := o.pageBlk (Nat.le_refl 1) ei hp0
  have hble := o.blk_le (Nat.le_refl 1) ei hbm
  have hp36 : k0 / 2 < 36 := by omega
  have hD1 : FS0 E (upd D (dq E (pageB (ino 1) (vs 1) (k0 / 2))) (chunk (B (encL (es.set k0 ([], 0)))) (k0 / 2))) ino vs (es.set k0 ([], 0)) := by
    refine ⟨o.data hs _ _ hble.1 (o.notInd 1 _ (Nat.le_refl 1) ei hp0 (pageB_mem hp0)), ⟨d', f.root.kind, f.root.links, by rw [hse]; exact hsz, fun p hp => ?_⟩, f.two, f.has⟩
    rw [hsz] at hp
    have hq := hhas p hp
    have e0 := hpg p hp
    unfold pgS at e0 ⊢
    rw [if_neg hq] at e0 ⊢
    by_cases e : p = k0 / 2
    · subst e
      exact upd_same _ _ _
    · rw [upd_ne _ _ (fun q => e (o.pageInj (Nat.le_refl 1) ei hp0 (dq_inj hs (o.blk_le (Nat.le_refl 1) ei (o.pageBlk (Nat.le_refl 1) ei hq)).1 hble.1 q))), e0, hcs p e]
  have e2 : (upd D (dq E (pageB (ino 1) (vs 1) (k0 / 2))) (chunk (B (encL (es.set k0 ([], 0)))) (k0 / 2))) (fr E 2) = D (fr E 2) := upd_ne _ _ ((q_fr2 hs).2.2 _ hble.1)
  have hD0 : chunk (B (encL es)) (k0 / 2) = chunk (B (encL (es.set k0 ([], 0)))) (k0 / 2) → ∀ q, D q = (upd D (dq E (pageB (ino 1) (vs 1) (k0 / 2))) (chunk (B (encL (es.set k0 ([], 0)))) (k0 / 2))) q := by
    intro hc q
    by_cases e : q = dq E (pageB (ino 1) (vs 1) (k0 / 2))
    · subst e
      rw [upd_same, ← hc, ← hpg _ hk1]
      unfold pgS
      rw [if_neg hp0]
    · rw [upd_ne _ _ e]
  generalize hDD : upd D (dq E (pageB (ino 1) (vs 1) (k0 / 2))) (chunk (B (encL (es.set k0 ([], 0)))) (k0 / 2)) = D1 at *
  generalize hbe : B (encL (es.set k0 ([], 0))) = b at *
  generalize B (encL es) = a at *
  have hbs : b.size ≤ 2304 := by omega
  refine (change_gen E.M 1 a b w (fun k W => ((k ≤ k0 / 2 → IS W E D Z) ∧ (k0 / 2 < k → IS W E D1 Z)) ∧ Tch (fun c => c = E.T.m) w W) (fun W => IS W E D Z ∧ Tch (fun c => c = E.T.m) w W) (by omega) (by omega) ?_ ?_ ?_ ?_).mono ?_
  · rintro k W W' ⟨⟨g1, g2⟩, t⟩ hb
    exact ⟨⟨fun q => (g1 q).later hb, fun q => (g2 q).later hb⟩, t.trans (Tch.of_below hb)⟩
  · intro hlt
    omega
  · intro _
    exact ⟨⟨fun _ => h, fun q => by omega⟩, Tch.of_below (Below.refl _ _)⟩
  · rintro k hk W ⟨⟨g1, g2⟩, t⟩
    refine ⟨fun hc => ⟨⟨fun q => g1 (by omega), fun q => ?_⟩, t⟩, fun hc => ?_⟩
    · by_cases e : k = k0 / 2
      · subst e
        exact (g1 (Nat.le_refl _)).ext (fun q _ => hD0 hc.2 q)
      · exact g2 (by omega)
    · have e : k = k0 / 2 := Classical.byContradiction fun q => hc ⟨by omega, (hcs k q).symm⟩
      subst e
      have hkb : (k0 / 2 + 1) * 64 ≤ b.size := by omega
      have h64 := chunk_size hkb
      have hS := g1 (Nat.le_refl _)
      have hv := o.ind 1 (Nat.le_refl 1) ei
      have hi := o.ing 1 (Nat.le_refl 1) ei
      have SPK := setPage_keep0 1 (k0 / 2) (pageB (ino 1) (vs 1) (k0 / 2)) (ino 1) (chunk b (k0 / 2)) W hs hS (Nat.le_refl 1) ei (o.is 1 (Nat.le_refl 1) ei) hok (by rw [f.root.kind]; decide) (by rw [hsz]; omega) h64 hble.1 hble.2 (zt 1 (Nat.le_refl 1) ei) (zd _ hble.1 hble.2) (setIno_id (o.is 1 (Nat.le_refl 1) ei) hst)
        (fun W2 hW2 => home_have (k0 / 2) (ino 1) (vs 1) W2 hs hW2 hi hv hp36 hp0 (pageB_04 hv hp36 hp0))
      rw [hsz, show min 64 (a.size - k0 / 2 * 64) = 64 by omega, cutS_all _ h64, hDD] at SPK
      refine SPK.mono ?_
      rintro e W2 (⟨rfl, g⟩ | ⟨rfl, g⟩)
      · exact .inl ⟨rfl, ⟨fun q => by omega, fun _ => g.1⟩, t.trans g.2⟩
      · exact .inr ⟨rfl, g.1, t.trans g.2⟩
  · rintro e W (⟨rfl, ⟨g1, g2⟩, t⟩ | ⟨rfl, g1, t⟩)
    · exact .inl ⟨rfl, ⟨D1, g2 (by omega), hD1, e2⟩, t⟩
    · exact .inr ⟨rfl, g1, t⟩
theorem leave_f (nm : ByteArray) (w : World) (hs : Small E) (hZ : ZAll E Z) (h : IS w E D Z) (f : FS0 E D ino vs es) (hnm : nm.size ≤ maxLen) :
    Calls Tryz.prog 31 #[.pointer (some ⟨E.M, 0, none⟩), .int .u32 1, .string nm] w fun e W => ∃ (u : Nat) (c : Int), e = .returned (.tuple #[.int .u32 u, .int .i64 c]) ∧ LeR E Z D ino vs es (L nm) w c W ∧ (c = 0 → u = inoOf (L nm) es) := by
  have d := f.root.dir
  have ez := enc_size d
  have eA := delR_enc d (L nm)
  have DL := fun W => Dir.del_any (B (encL es)) nm W (by unfold maxLen; omega) hnm
  rw [L_B] at DL
  rw [eA] at DL
  obtain ⟨c1, es1, e1⟩ : ∃ c1 es1, delL (L nm) es = (c1, es1) := ⟨_, _, rfl⟩
  rw [e1] at DL
  dsimp only at DL
  by_cases c0 : c1 = 0
  · subst c0
    have ok := del_ok d e1
    obtain ⟨k0, _, hk0, hes⟩ := ok.2.2.2.2.2
    have er : (resL ((0 : Int), es1)).1 = encL es1 := by simp [resL]
    rw [er, if_pos rfl] at DL
    refine (leave_go E.M 1 (inoOf (L nm) es) nm (B (encL es)) (B (encL es1)) 0 w (LeR E Z D ino vs es (L nm) w) (f.text w hs h) DL (fun q => absurd rfl q) ?_ ?_)
    · intro _ W b
      have d1 := ok.1
      rw [hes] at d1
      have := change_l k0 W hs hZ (h.later b) f hk0 d1
      rw [← hes] at this
      refine this.mono ?_
      rintro e W' (⟨rfl, ⟨D', g1, g2, g3⟩, t⟩ | ⟨rfl, g1, t⟩)
      · exact ⟨0, rfl, (Tch.of_below b).trans t, fun _ => ⟨D', es1, g1, g2, g3, e1⟩, fun q => absurd rfl q⟩
      · exact ⟨4, rfl, (Tch.of_below b).trans t, (fun q => by cases q), fun _ => g1⟩
    · rintro c W W' ⟨r1, r2, r3⟩ b
      exact ⟨r1.trans (Tch.of_below b), fun q => by obtain ⟨D', es', g1, g2⟩ := r2 q; exact ⟨D', es', g1.later b, g2⟩, fun q1 => (r3 q1).later b⟩
  · refine (leave_go E.M 1 _ nm (B (encL es)) _ c1 w (LeR E Z D ino vs es (L nm) w) (f.text w hs h) (fun W => by have := DL W; exact this) ?_ (fun q => absurd q c0) ?_).mono ?_
    · intro hc W b
      exact ⟨Tch.of_below b, fun q => absurd q hc, fun _ => h.later b⟩
    · rintro c W W' ⟨r1, r2, r3⟩ b
      exact ⟨r1.trans (Tch.of_below b), fun q => by obtain ⟨D', es', g1, g2⟩ := r2 q; exact ⟨D', es', g1.later b, g2⟩, fun q1 => (r3 q1).later b⟩
    · rintro e W ⟨u, c', e', r, q⟩
      refine ⟨u, c', e', r, fun hc => ?_⟩
      obtain ⟨D', es', _, _, _, g⟩ := r.2.1 hc
      rw [e1] at g
      exact absurd (congrArg Prod.fst g) c0
end
end Go.Proofs.YtpnfkilfgdnogaaGreatDoor.Img
end
section
namespace Go.Proofs.YtpnfkilfgdnogaaGreatDoor.Img
set_option linter.unusedVariables false
set_option linter.unusedSimpArgs false
open Go.RowKit Go.Shelf Go.Maps Oct Dev Jou Tx Geo Ino Bm Dir
theorem live_app (a b : List Ent) : live (a ++ b) = live a ++ live b := by simp [live]
theorem live_no {e : Ent} (h : e.2 = 0) (r : List Ent) : live (e :: r) = live r := by simp [live, h]
theorem live_yes {e : Ent} (h : e.2 ≠ 0) (r : List Ent) : live (e :: r) = e :: live r := by simp [live, h]
theorem add_live {es es' : List Ent} {nm : List UInt8} {n : Nat} (d : Dir es) (hi : n < 4294967296) (h : addL nm n es = (0, es')) : ∃ a b, live es = a ++ b ∧ live es' = a ++ (nm, n) :: b := by
  have ok := add_ok d hi h
  have h0 : n ≠ 0 := ok.2.2.2.2.1
  rcases ok.2.2.2.2.2.2 with ⟨k, hk, q, hf⟩ | ⟨_, q⟩
  · obtain ⟨_, f0⟩ := free_some hf
    obtain ⟨s1, s2⟩ := split_at hk (nm, n)
    refine ⟨live (es.take k), live (es.drop (k + 1)), ?_, ?_⟩
    · conv => lhs; rw [s1]
      rw [live_app, live_no f0]
    · rw [q, s2, live_app, live_yes (e := (nm, n)) h0]
  · refine ⟨live es, [], by simp, ?_⟩
    rw [q, live_app, live_yes (e := (nm, n)) h0, live_no (e := ([], 0)) rfl]
    rfl
theorem del_live {es es' : List Ent} {nm : List UInt8} (d : Dir es) (h : delL nm es = (0, es')) : ∃ a b e, live es = a ++ e :: b ∧ live es' = a ++ b ∧ e.2 = inoOf nm es := by
  have ok := del_ok d h
  obtain ⟨k, hf, hk, q⟩ := ok.2.2.2.2.2
  obtain ⟨_, f0, _⟩ := find_some hf
  obtain ⟨s1, s2⟩ := split_at hk ([], 0)
  refine ⟨live (es.take k), live (es.drop (k + 1)), es[k], ?_, ?_, ?_⟩
  · conv => lhs; rw [s1]
    rw [live_app, live_yes f0]
  · rw [q, s2, live_app, live_no (e := ([], 0)) rfl]
  · unfold inoOf
    rw [hf]
    simp [List.getD, hk]
section
variable {i : Nat} {tk tk' : Nat → Bool} {ino : Nat → InoT} {es es' : List Ent}
theorem Named.congr (h : Named i tk ino es) {ino' : Nat → InoT} (ht : ∀ n, 1 ≤ n → n ≤ i → tk' n = tk n) (hk : ∀ n, 1 ≤ n → n ≤ i → (ino' n).kind = (ino n).kind ∧ (ino' n).links = (ino n).links) (hi : 1 ≤ i) : Named i tk' ino' es := by
  refine ⟨fun n h1 hn => ?_, ?_, fun n h1 hn hk1 => ?_, fun e he => ?_, h.nodup, fun n h2 hn hk0 => ?_⟩
  · rw [ht n h1 hn, (hk n h1 hn).1]
    exact h.tk n h1 hn
  · rw [(hk 1 (Nat.le_refl 1) hi).1]
    exact h.root
  · rw [(hk n h1 hn).2]
    exact h.links n h1 hn (by rw [← (hk n h1 hn).1]; exact hk1)
  · obtain ⟨a, b, c⟩ := h.rng e he
    exact ⟨a, b, by rw [(hk e.2 (by omega) b).1]; exact c⟩
  · exact h.all n h2 hn (by rw [← (hk n (by omega) hn).1]; exact hk0)
theorem Named.file (h : Named i tk ino es) {n : Nat} {y : InoT} (ht : ∀ m, tk' m = tk m) (hk : y.kind = (ino n).kind) (hl : y.links = (ino n).links) (hi : 1 ≤ i) : Named i tk' (put_ ino n y) es := by
  refine h.congr (fun m _ _ => ht m) (fun m _ _ => ?_) hi
  by_cases q : m = n
  · subst q
    rw [put_same]
    exact ⟨hk, hl⟩
  · rw [put_ne _ _ q]
    exact ⟨rfl, rfl⟩
theorem Named.add (h : Named i tk ino es) {n : Nat} {y : InoT} {nm : List UInt8} {a b : List Ent} (e1 : es = a ++ b) (e2 : es' = a ++ (nm, n) :: b) (h2 : 2 ≤ n) (hn : n ≤ i) (h0 : (ino n).kind = 0) (ht : ∀ m, tk' m = if m = n then true else tk m) (hk : y.kind = 1) (hl : y.links = 1) : Named i tk' (put_ ino n y) es' := by
  subst e1 e2
  have hnot : n ∉ (a ++ b).map Prod.snd := fun q => by
    obtain ⟨e, he, rfl⟩ := List.mem_map.1 q
    exact (h.rng e he).2.2 h0
  refine ⟨fun m h1 hm => ?_, ?_, fun m h1 hm hk1 => ?_, fun e he => ?_, ?_, fun m h2 hm hk0 => ?_⟩
  · rw [ht m]
    by_cases q : m = n
    · subst q
      rw [if_pos rfl, put_same, hk]
      rfl
    · rw [if_neg q, put_ne _ _ q]
      exact h.tk m h1 hm
  · rw [put_ne _ _ (by omega)]
    exact h.root
  · by_cases q : m = n
    · subst q
      rw [put_same]
      exact hl
    · rw [put_ne _ _ q] at hk1 ⊢
      exact h.links m h1 hm hk1
  · have : e ∈ a ++ b ∨ e = (nm, n) := by
      rcases List.mem_append.1 he with q | q
      · exact .inl (List.mem_append_left _ q)
      · rcases List.mem_cons.1 q with q | q
        · exact .inr q
        · exact .inl (List.mem_append_right _ q)
    rcases this with q | rfl
    · obtain ⟨x, y2, z⟩ := h.rng e q
      refine ⟨x, y2, ?_⟩
      rw [put_ne _ _ (fun hh => z (by rw [hh]; exact h0))]
      exact z
    · refine ⟨h2, hn, ?_⟩
      rw [put_same, hk]
      decide
  · have hd := h.nodup
    rw [List.map_append] at hd hnot
    rw [List.map_append, List.map_cons]
    exact nodup_mid hd hnot
  · by_cases q : m = n
    · subst q
      simp
    · rw [put_ne _ _ q] at hk0
      have := h.all m h2 hm hk0
      rw [List.map_append, List.mem_append] at this
      rw [List.map_append, List.mem_append, List.map_cons, List.mem_cons]
      rcases this with r | r
      · exact .inl r
      · exact .inr (.inr r)
theorem Named.del (h : Named i tk ino es) {n : Nat} {e0 : Ent} {y : InoT} {a b : List Ent} (e1 : es = a ++ e0 :: b) (e2 : es' = a ++ b) (en : e0.2 = n) (ht : ∀ m, tk' m = if m = n then false else tk m) (hk : y.kind = 0) : Named i tk' (put_ ino n y) es' := by
  subst e1 e2 en
  have hr := h.rng e0 (by simp)
  have hd := h.nodup
  rw [List.map_append, List.map_cons] at hd
  have hd2 : (a.map Prod.snd ++ b.map Prod.snd).Nodup ∧ e0.2 ∉ a.map Prod.snd ++ b.map Prod.snd := by
    rw [List.nodup_append] at hd ⊢
    obtain ⟨d1, d2, d3⟩ := hd
    rw [List.nodup_cons] at d2
    refine ⟨⟨d1, d2.2, fun x hx y hy => d3 x hx y (List.mem_cons_of_mem _ hy)⟩, fun q => ?_⟩
    rcases List.mem_append.1 q with q | q
    · exact d3 _ q _ (List.mem_cons_self ..) rfl
    · exact d2.1 q
  refine ⟨fun m h1 hm => ?_, ?_, fun m h1 hm hk1 => ?_, fun e he => ?_, by rw [List.map_append]; exact hd2.1, fun m h2 hm hk0 => ?_⟩
  · rw [ht m]
    by_cases q : m = e0.2
    · subst q
      rw [if_pos rfl, put_same, hk]
      rfl
    · rw [if_neg q, put_ne _ _ q]
      exact h.tk m h1 hm
  · rw [put_ne _ _ (by omega)]
    exact h.root
  · by_cases q : m = e0.2
    · subst q
      rw [put_same, hk] at hk1
      cases hk1
    · rw [put_ne _ _ q] at hk1 ⊢
      exact h.links m h1 hm hk1
  · have hm : e ∈ a ++ e0 :: b := by
      rcases List.mem_append.1 he with q | q
      · exact List.mem_append_left _ q
      · exact List.mem_append_right _ (List.mem_cons_of_mem _ q)
    obtain ⟨x, y2, z⟩ := h.rng e hm
    refine ⟨x, y2, ?_⟩
    rw [put_ne _ _ (fun hh => hd2.2 ?_)]
    · exact z
    · rw [← List.map_append, ← hh]
      exact List.mem_map.2 ⟨e, he, rfl⟩
  · by_cases q : m = e0.2
    · subst q
      rw [put_same, hk] at hk0
      exact absurd rfl hk0
    · rw [put_ne _ _ q] at hk0
      have := h.all m h2 hm hk0
      rw [List.map_append, List.mem_append, List.map_cons, List.mem_cons] at this
      rw [List.map_append, List.mem_append]
      rcases this with r | r | r
      · exact .inl r
      · exact absurd r q
      · exact .inr r
end
end Go.Proofs.YtpnfkilfgdnogaaGreatDoor.Img
end
section
namespace Go.Proofs.YtpnfkilfgdnogaaGreatDoor.Img
set_option linter.unusedVariables false
set_option linter.unusedSimpArgs false
open Go.RowKit Go.Shelf Go.Maps Oct Dev Jou Tx Geo Ino
section
variable {E : Im} {D : Secs} {Z : Nat → Prop} {Q : Prop}
def givenD (E : Im) (D : Secs) (n : Nat) : Secs := setIno E (upd D (fr E 2) (setB (D (fr E 2)) n false)) n noIno
set_option maxRecDepth 100000 in
set_option maxHeartbeats 1000000 in
theorem give_is (n : Nat) (w : World) (hs : Small E) (h : IS w E D Z) (h1 : 1 ≤ n) (hn : n ≤ E.i) (hb : bitB (D (fr E 2)) n = true) (hz : Z (fr E 2)) (hzt : Z (tq E n)) (hQ : FullE E Z → Q) :
    Calls Tryz.prog 40 #[.pointer (some ⟨E.M, 0, none⟩), .int .u32 n] w (Out (.int .i64 0) (.int .i64 4) (Wr E (givenD E D n) Z w) (Fu E Q w)) := by
  have hi := hs.hi
  have TK := Lib.hid (taken_is n w hs h h1 hn)
  rw [hb] at TK
  have MK := Lib.hid (fun W (h : IS W E D Z) => mark_is 2 n false W hs h (.inl rfl) (by omega) hz hQ)
  have SI := Lib.hid (fun W (h : IS W E (upd D (fr E 2) (setB (D (fr E 2)) n false)) Z) => setInode_is n noIno W hs h h1 hn (.inl rfl) hzt hQ)
  have H := Lib.hid h
  show Calls _ _ _ _ (Out _ _ (Wr E (setIno E (upd D (fr E 2) (setB (D (fr E 2)) n false)) n noIno) Z w) (Fu E Q w))
  generalize setIno E (upd D (fr E 2) (setB (D (fr E 2)) n false)) n noIno = D3 at *
  generalize upd D (fr E 2) (setB (D (fr E 2)) n false) = f2 at *
  clear h hb hz hzt hQ
  unfold InoT.val noIno at SI
  dsimp only at SI
  go_enter Tryz.func40, Tryz.ntmps40
  go_wp2_with fail
  refine TK.out.mono ?_
  rintro e w1 ⟨rfl, b1⟩
  have H2 := Lib.hid (H.out.later b1)
  have B1 := Lib.hid b1
  clear b1
  go_wp2_with fail
  refine (MK.out _ H2.out).mono ?_
  rintro e w2 (⟨rfl, G⟩ | ⟨rfl, G⟩)
  · have G := Lib.hid (G.pre B1.out)
    go_wp2_with fail
    refine (SI.out _ G.out.1).mono ?_
    rintro e w3 (⟨rfl, G3⟩ | ⟨rfl, G3⟩)
    · have G3 := Lib.hid (G3.then_ G.out)
      go_wp2
      go_ret
      exact .inl ⟨rfl, G3.out⟩
    · have G3 := Lib.hid (G3.then_ G.out)
      go_wp2
      go_ret
      exact .inr ⟨rfl, G3.out⟩
  · have G := Lib.hid (G.pre B1.out)
    go_wp2
    go_ret
    exact .inr ⟨rfl, G.out⟩
set_option maxRecDepth 100000 in
theorem give_none (n : Nat) (w : World) (hs : Small E) (h : IS w E D Z) (h1 : 1 ≤ n) (hn : n ≤ E.i) (hb : bitB (D (fr E 2)) n = false) :
    Calls Tryz.prog 40 #[.pointer (some ⟨E.M, 0, none⟩), .int .u32 n] w fun e w' => e = .returned (.int .i64 3) ∧ Below w.heap.size w w' := by
  have TK := Lib.hid (taken_is n w hs h h1 hn)
  rw [hb] at TK
  clear h hb
  go_enter Tryz.func40, Tryz.ntmps40
  go_wp2_with fail
  refine TK.out.mono ?_
  rintro e w1 ⟨rfl, b1⟩
  go_wp2
  go_ret
  exact ⟨rfl, b1⟩
end
end Go.Proofs.YtpnfkilfgdnogaaGreatDoor.Img
end
section
namespace Go.Proofs.YtpnfkilfgdnogaaGreatDoor.Img
set_option linter.unusedVariables false
set_option linter.unusedSimpArgs false
open Go.RowKit Go.Shelf Go.Maps Oct Dev Jou Tx Geo Ino Bm Dir
theorem row_zero {x : InoT} (h : x.Used) (h0 : x.size = 0) : x.row = [0, 0, 0, 0, 0] := by
  have hr := h.row
  rw [h0] at hr
  have key : ∀ (k v : Nat), x.row[k]? = some v → v = 0 := fun k v hk => Classical.byContradiction fun q => by
    have := (hr k v hk q).1
    unfold pagesN at this
    omega
  have k0 := key 0 x.d0 rfl
  have k1 := key 1 x.d1 rfl
  have k2 := key 2 x.d2 rfl
  have k3 := key 3 x.d3 rfl
  have k4 := key 4 x.ind rfl
  unfold InoT.row
  rw [k0, k1, k2, k3, k4]
section
variable {E : Im} {D D' : Secs} {ino : Nat → InoT} {vs : Nat → List Nat} {es : List Ent} {Z : Nat → Prop} {w W : World}
theorem FS0.imap (f : FS0 E D ino vs es) (hs : Small E) (s : ByteArray) : FS0 E (upd D (fr E 2) s) ino vs es := by
  have ei : 1 ≤ E.i := by have := hs.vals; omega
  obtain ⟨q23, q2t, q2d⟩ := q_fr2 (E := E) hs
  refine ⟨f.own.imap hs s, (f.ck.frame (fun n _ _ => upd_ne _ _ (q2t n).symm) (fun n b n1 n2 hb => upd_ne _ _ (q2d b (f.own.blk_le n1 n2 hb).1).symm) ei).root, f.two, f.has⟩
theorem oth_ino (f : Owns E D ino vs) (hs : Small E) (n : Nat) (y : InoT) (h1 : 1 ≤ n) (hn : n ≤ E.i) : Oth E D (setIno E D n y) ino vs n :=
  ⟨setIno_q ((q_fr2 hs).2.1 n), fun m b m1 m2 _ hb => setIno_q (q_dqt hs (f.blk_le m1 m2 hb).1 h1 hn)⟩
theorem FS0.seti (f : FS0 E D ino vs es) (hs : Small E) (n : Nat) (y : InoT) (h2 : 2 ≤ n) (hn : n ≤ E.i) (hsz : (D (tq E n)).size = 64) (hy : y.Ok) (hr : y.row = (ino n).row) (hk : y.kind ≠ 2) : FS0 E (setIno E D n y) (put_ ino n y) (put_ vs n (vs n)) es :=
  f.file h2 hn (f.own.setIno hs n y (by omega) hn hsz hy hr) (oth_ino f.own hs n y (by omega) hn) hk
def FS (Z : Nat → Prop) (E : Im) (W : World) : Prop := ∃ D ino vs es, IS W E D Z ∧ FS0 E D ino vs es ∧ Named E.i (fun n => bitB (D (fr E 2)) n) ino (live es)
theorem FS.later {W' : World} (h : FS Z E W) (hb : Below W.heap.size W W') : FS Z E W' := by
  obtain ⟨D, ino, vs, es, g, r⟩ := h
  exact ⟨D, ino, vs, es, g.later hb, r⟩
def Mid1 (Z : Nat → Prop) (E : Im) (n : Nat) (W : World) : Prop := ∃ D ino vs es es0 a b nm, IS W E D Z ∧ FS0 E D ino vs es ∧ Named E.i (fun n => bitB (D (fr E 2)) n) ino es0 ∧ es0 = a ++ b ∧ live es = a ++ (nm, n) :: b ∧ (ino n).kind = 0
def Mid2 (Z : Nat → Prop) (E : Im) (n : Nat) (W : World) : Prop := ∃ D ino vs es es0 tk a b nm, IS W E D Z ∧ FS0 E D ino vs es ∧ Named E.i tk ino es0 ∧ es0 = a ++ b ∧ live es = a ++ (nm, n) :: b ∧ (ino n).kind = 0 ∧ (∀ m, m ≤ E.i → bitB (D (fr E 2)) m = if m = n then true else tk m)
theorem enter_s (n : Nat) (nm : ByteArray) (w : World) (hs : Small E) (hZ : ZAll E Z) (h : IS w E D Z) (f : FS0 E D ino vs es) (g : Named E.i (fun n => bitB (D (fr E 2)) n) ino (live es)) (h2 : 2 ≤ n) (hn : n ≤ E.i) (hk : (ino n).kind = 0) (hnm : nm.size ≤ maxLen) :
    Calls Tryz.prog 30 #[.pointer (some ⟨E.M, 0, none⟩), .int .u32 1, .string nm, .int .u32 n] w fun e W => ∃ c : Int, e = .returned (.int .i64 c) ∧ Tch (fun c => c = E.T.m) w W ∧ (c = 0 → Mid1 Z E n W) ∧ (c ≠ 0 → c ≠ 4 → FS Z E W) := by
  have hi := hs.hi
  have ei : 1 ≤ E.i := by omega
  refine (enter_f (Q := True) n nm w hs hZ h f (by omega) hnm (fun _ => trivial) (fun _ _ _ _ _ _ _ _ _ => trivial)).mono ?_
  rintro e W ⟨c, rfl, t, r0, r1, _⟩
  refine ⟨c, rfl, t, fun q => ?_, fun q1 q2 => ⟨D, ino, vs, es, r1 q1 q2, f, g⟩⟩
  obtain ⟨D', y, us, es', g1, g2, g3, g4, g5⟩ := r0 q
  obtain ⟨a, b, l1, l2⟩ := add_live f.root.dir (by omega) g5
  refine ⟨D', _, _, es', live es, a, b, L nm, g1, g2, ?_, l1, l2, by rw [put_ne _ _ (by omega)]; exact hk⟩
  refine g.file (fun m => by rw [g3.1]) ?_ ?_ ei
  · rw [g4, f.root.kind]
  · have := g2.root.links
    rw [put_same] at this
    rw [this, f.root.links]
theorem take_s (n : Nat) (w : World) (hs : Small E) (hZ : ZAll E Z) (h : Mid1 Z E n w) (h2 : 2 ≤ n) (hn : n ≤ E.i) :
    Calls Tryz.prog 19 #[.pointer (some ⟨E.M, 0, none⟩), .int .u32 n] w fun e W => ∃ c : Int, e = .returned (.int .i64 c) ∧ Tch (fun c => c = E.T.m) w W ∧ ((c = 0 ∧ Mid2 Z E n W) ∨ (c = 4 ∧ Shown E W)) := by
  obtain ⟨D, ino, vs, es, es0, a, b, nm, g, f, r, e1, e2, hk⟩ := h
  have hi := hs.hi
  have hz2 : (D (fr E 2)).size = 64 := g.sec (fr_lt hs g (.inl rfl))
  have hb : bitB (D (fr E 2)) n = false := by
    have := r.tk n (by omega) hn
    rw [hk] at this
    exact this
  refine (take_is (Q := True) n w hs g (by omega) hn hb hZ.1 (fun _ => trivial)).mono ?_
  rintro e W (⟨rfl, G⟩ | ⟨rfl, G⟩)
  · refine ⟨0, rfl, G.2, .inl ⟨rfl, _, ino, vs, es, es0, _, a, b, nm, G.1, f.imap hs _, r, e1, e2, hk, fun m hm => ?_⟩⟩
    rw [upd_same, bitB_setB _ _ _ _ (by omega)]
  · exact ⟨4, rfl, G.2, .inr ⟨rfl, G.1.2 ⟨D, Z, g⟩⟩⟩
theorem seti_any (n : Nat) (w : World) (hs : Small E) (h : Shown E w) (h1 : 1 ≤ n) (hn : n ≤ E.i) (y : InoT) (hy : y.Ok) :
    Calls Tryz.prog 20 #[.pointer (some ⟨E.M, 0, none⟩), .int .u32 n, y.val] w fun e W => ∃ c : Int, e = .returned (.int .i64 c) ∧ Tch (fun c => c = E.T.m) w W ∧ (c = 0 ∨ c = 4) := by
  obtain ⟨D, Z, g⟩ := h
  refine (setInode_is (Q := True) n y w hs (g.mono (Z' := fun _ => True) (fun _ _ => trivial)) h1 hn hy trivial (fun _ => trivial)).mono ?_
  rintro e W (⟨rfl, G⟩ | ⟨rfl, G⟩)
  · exact ⟨0, rfl, G.2, .inl rfl⟩
  · exact ⟨4, rfl, G.2, .inr rfl⟩
theorem seti_s (n : Nat) (w : World) (hs : Small E) (hZ : ZAll E Z) (h : Mid2 Z E n w) (h2 : 2 ≤ n) (hn : n ≤ E.i) :
    Calls Tryz.prog 20 #[.pointer (some ⟨E.M, 0, none⟩), .int .u32 n, xF.val] w fun e W => ∃ c : Int, e = .returned (.int .i64 c) ∧ Tch (fun c => c = E.T.m) w W ∧ (c = 0 ∨ c = 4) ∧ (c = 0 → FS Z E W) := by
  obtain ⟨D, ino, vs, es, es0, tk, a, b, nm, g, f, r, e1, e2, hk, ht⟩ := h
  have hst := g.sec (tq_lt hs g.len (by omega) hn)
  have hr : (ino n).row = [0, 0, 0, 0, 0] := by
    rcases f.own.ok n (by omega) hn with q | q
    · rw [q]; rfl
    · rcases q.kind with q2 | q2 <;> rw [hk] at q2 <;> cases q2
  refine (setInode_is (Q := True) n xF w hs g (by omega) hn xF_ok (hZ.2.2.1 n (by omega) hn) (fun _ => trivial)).mono ?_
  rintro e W (⟨rfl, G⟩ | ⟨rfl, G⟩)
  · refine ⟨0, rfl, G.2, .inl rfl, fun _ => ⟨_, _, _, es, G.1, f.seti hs n xF h2 hn hst xF_ok (by rw [hr]; rfl) (by decide), ?_⟩⟩
    have e3 : setIno E D n xF (fr E 2) = D (fr E 2) := setIno_q ((q_fr2 hs).2.1 n)
    rw [e3]
    have := r.add (tk' := fun m => if m = n then true else tk m) (y := xF) e1 e2 h2 hn hk (fun _ => rfl) rfl rfl
    exact this.congr (fun m _ hm => ht m hm) (fun _ _ _ => ⟨rfl, rfl⟩) (by omega)
  · exact ⟨4, rfl, G.2, .inr rfl, fun q => by cases q⟩
def MidL (Z : Nat → Prop) (E : Im) (n : Nat) (W : World) : Prop := ∃ D ino vs es es0 a b e0, IS W E D Z ∧ FS0 E D ino vs es ∧ Named E.i (fun n => bitB (D (fr E 2)) n) ino es0 ∧ es0 = a ++ e0 :: b ∧ live es = a ++ b ∧ e0.2 = n ∧ 2 ≤ n ∧ n ≤ E.i ∧ (ino n).kind ≠ 0
def MidM (Z : Nat → Prop) (E : Im) (n : Nat) (W : World) : Prop := ∃ D ino vs es es0 a b e0, IS W E D Z ∧ FS0 E D ino vs es ∧ Named E.i (fun n => bitB (D (fr E 2)) n) ino es0 ∧ es0 = a ++ e0 :: b ∧ live es = a ++ b ∧ e0.2 = n ∧ 2 ≤ n ∧ n ≤ E.i ∧ (ino n).kind ≠ 0 ∧ (ino n).row = [0, 0, 0, 0, 0]
theorem leave_s (nm : ByteArray) (w : World) (hs : Small E) (hZ : ZAll E Z) (h : FS Z E w) (hnm : nm.size ≤ maxLen) :
    Calls Tryz.prog 31 #[.pointer (some ⟨E.M, 0, none⟩), .int .u32 1, .string nm] w fun e W => ∃ (u : Nat) (c : Int), e = .returned (.tuple #[.int .u32 u, .int .i64 c]) ∧ Tch (fun c => c = E.T.m) w W ∧ (c = 0 → MidL Z E u W ∧ 2 ≤ u ∧ u ≤ E.i) ∧ (c ≠ 0 → FS Z E W) := by
  obtain ⟨D, ino, vs, es, g, f, r⟩ := h
  refine (leave_f nm w hs hZ g f hnm).mono ?_
  rintro e W ⟨u, c, rfl, ⟨t, r0, r1⟩, hu⟩
  refine ⟨u, c, rfl, t, fun q => ?_, fun q => ⟨D, ino, vs, es, r1 q, f, r⟩⟩
  obtain ⟨D', es', g1, g2, g3, g4⟩ := r0 q
  obtain ⟨a, b, e0, l1, l2, l3⟩ := del_live f.root.dir g4
  have hr := r.rng e0 (by rw [l1]; simp)
  have e4 : e0.2 = u := l3.trans (hu q).symm
  rw [e4] at hr
  refine ⟨⟨D', ino, vs, es', live es, a, b, e0, g1, g2, by rw [g3]; exact r, l1, l2, e4, hr.1, hr.2.1, hr.2.2⟩, hr.1, hr.2.1⟩
theorem empty_s (n : Nat) (w : World) (hs : Small E) (hZ : ZAll E Z) (h : MidL Z E n w) :
    Calls Tryz.prog 22 #[.pointer (some ⟨E.M, 0, none⟩), .int .u32 n, .int .u32 0] w fun e W => ∃ c : Int, e = .returned (.int .i64 c) ∧ Tch (fun c => c = E.T.m) w W ∧ ((c = 0 ∧ MidM Z E n W) ∨ (c = 4 ∧ Shown E W)) := by
  obtain ⟨D, ino, vs, es, es0, a, b, e0, g, f, r, l1, l2, l3, h2, hn, hk⟩ := h
  have ei : 1 ≤ E.i := by omega
  refine (resize_f n 0 w hs hZ g f h2 hn hk (by omega)).mono ?_
  rintro e W (⟨rfl, D', y, us, G, f2, o2, hy, hu, yk, yl⟩ | ⟨rfl, G⟩)
  · have hok := f2.own.ok n (by omega) hn
    have hsz : y.size = 0 := by rw [hy]; rfl
    rw [put_same] at hok
    have hus : y.Used := hok.resolve_left (fun q => hk (by rw [← yk, q]; rfl))
    refine ⟨0, rfl, G.2, .inl ⟨rfl, D', _, _, es, es0, a, b, e0, G.1, f2, ?_, l1, l2, l3, h2, hn, by rw [put_same, yk]; exact hk, by rw [put_same]; exact row_zero hus hsz⟩⟩
    exact r.file (fun m => by rw [o2.1]) yk yl ei
  · exact ⟨4, rfl, G.2, .inr ⟨rfl, G.1.2 ⟨D, Z, g⟩⟩⟩
theorem give_any (n : Nat) (w : World) (hs : Small E) (h : Shown E w) (h1 : 1 ≤ n) (hn : n ≤ E.i) :
    Calls Tryz.prog 40 #[.pointer (some ⟨E.M, 0, none⟩), .int .u32 n] w fun e W => ∃ c : Int, e = .returned (.int .i64 c) ∧ Tch (fun c => c = E.T.m) w W := by
  obtain ⟨D, Z, g⟩ := h
  cases hb : bitB (D (fr E 2)) n with
  | true =>
    refine (give_is (Q := True) n w hs (g.mono (Z' := fun _ => True) (fun _ _ => trivial)) h1 hn hb trivial trivial (fun _ => trivial)).mono ?_
    rintro e W (⟨rfl, G⟩ | ⟨rfl, G⟩)
    · exact ⟨0, rfl, G.2⟩
    · exact ⟨4, rfl, G.2⟩
  | false =>
    refine (give_none n w hs g h1 hn hb).mono ?_
    rintro e W ⟨rfl, b⟩
    exact ⟨3, rfl, Tch.of_below b⟩
theorem FS0.given (f : FS0 E D ino vs es) (hs : Small E) (n : Nat) (h2 : 2 ≤ n) (hn : n ≤ E.i) (hsz : (D (tq E n)).size = 64) (hr : (ino n).row = [0, 0, 0, 0, 0]) : FS0 E (givenD E D n) (put_ ino n noIno) (put_ vs n (vs n)) es := by
  have q := (q_fr2 (E := E) hs).2.1 n
  exact (f.imap hs _).seti hs n noIno h2 hn (by rw [upd_ne _ _ q.symm]; exact hsz) (.inl rfl) (by rw [hr]; rfl) (by decide)
theorem given_bit (hs : Small E) (n m : Nat) (hn : n ≤ E.i) (hsz : (D (fr E 2)).size = 64) : bitB (givenD E D n (fr E 2)) m = if m = n then false else bitB (D (fr E 2)) m := by
  have hi := hs.hi
  unfold givenD
  rw [setIno_q ((q_fr2 hs).2.1 n), upd_same, bitB_setB _ _ _ _ (by omega)]
theorem give_s (n : Nat) (w : World) (hs : Small E) (hZ : ZAll E Z) (h : MidM Z E n w) :
    Calls Tryz.prog 40 #[.pointer (some ⟨E.M, 0, none⟩), .int .u32 n] w fun e W => ∃ c : Int, e = .returned (.int .i64 c) ∧ Tch (fun c => c = E.T.m) w W ∧ (c = 0 ∨ c = 4) ∧ (c = 0 → FS Z E W) := by
  obtain ⟨D, ino, vs, es, es0, a, b, e0, g, f, r, l1, l2, l3, h2, hn, hk, hrow⟩ := h
  have hb : bitB (D (fr E 2)) n = true := by
    have := r.tk n (by omega) hn
    rw [this]
    simpa using hk
  have hst := g.sec (tq_lt hs g.len (by omega) hn)
  have hz2 : (D (fr E 2)).size = 64 := g.sec (fr_lt hs g (.inl rfl))
  refine (give_is (Q := True) n w hs g (by omega) hn hb hZ.1 (hZ.2.2.1 n (by omega) hn) (fun _ => trivial)).mono ?_
  rintro e W (⟨rfl, G⟩ | ⟨rfl, G⟩)
  · refine ⟨0, rfl, G.2, .inl rfl, fun _ => ⟨_, _, _, es, G.1, f.given hs n h2 hn hst hrow, ?_⟩⟩
    rw [l2]
    exact r.del l1 rfl l3 (fun m => given_bit hs n m hn hz2) rfl
  · exact ⟨4, rfl, G.2, .inr rfl, fun q => by cases q⟩
end
end Go.Proofs.YtpnfkilfgdnogaaGreatDoor.Img
end
section
namespace Go.Proofs.YtpnfkilfgdnogaaGreatDoor.Img
set_option linter.unusedVariables false
set_option linter.unusedSimpArgs false
open Go.RowKit Go.Shelf Go.Maps Oct Dev Jou Tx Geo Ino Bm Dir
section
variable {E : Im} {D D' : Secs} {ino : Nat → InoT} {vs : Nat → List Nat} {es : List Ent} {Z : Nat → Prop} {w W : World}
def StR (Z : Nat → Prop) (E : Im) (w : World) (c : Int) (W : World) : Prop := Tch (fun c => c = E.T.m) w W ∧ (c = 0 ∨ c = 4) ∧ (c = 0 → FS Z E W)
theorem StR.pre {w0 : World} {c : Int} (h : StR Z E w c W) (hb : Below w0.heap.size w0 w) : StR Z E w0 c W := ⟨(Tch.of_below hb).trans h.1, h.2⟩
theorem StR.post {W2 : World} {c : Int} (h : StR Z E w c W) (hb : Below W.heap.size W W2) : StR Z E w c W2 := ⟨h.1.trans (Tch.of_below hb), h.2.1, fun q => (h.2.2 q).later hb⟩
theorem resize_s (n s : Nat) (w : World) (hs : Small E) (hZ : ZAll E Z) (h : IS w E D Z) (f : FS0 E D ino vs es) (g : Named E.i (fun n => bitB (D (fr E 2)) n) ino (live es)) (h2 : 2 ≤ n) (hn : n ≤ E.i) (hk : (ino n).kind ≠ 0) (hl : s ≤ 2304) :
    Calls Tryz.prog 22 #[.pointer (some ⟨E.M, 0, none⟩), .int .u32 n, .int .u32 s] w fun e W => ∃ c : Int, e = .returned (.int .i64 c) ∧ StR Z E w c W := by
  have ei : 1 ≤ E.i := by omega
  refine (resize_f n s w hs hZ h f h2 hn hk hl).mono ?_
  rintro e W (⟨rfl, D', y, us, G, f2, o2, hy, hu, yk, yl⟩ | ⟨rfl, G⟩)
  · exact ⟨0, rfl, G.2, .inl rfl, fun _ => ⟨D', _, _, es, G.1, f2, g.file (fun m => by rw [o2.1]) yk yl ei⟩⟩
  · exact ⟨4, rfl, G.2, .inr rfl, fun q => by cases q⟩
theorem page_s (n p : Nat) (s : ByteArray) (w : World) (hs : Small E) (hZ : ZAll E Z) (h : IS w E D Z) (f : FS0 E D ino vs es) (g : Named E.i (fun n => bitB (D (fr E 2)) n) ino (live es)) (h2 : 2 ≤ n) (hn : n ≤ E.i) (hk : (ino n).kind ≠ 0) (hp : p * 64 < (ino n).size) (h64 : s.size = 64) :
    Calls Tryz.prog 23 #[.pointer (some ⟨E.M, 0, none⟩), .int .u32 n, .int .i64 p, .string s] w fun e W => ∃ c : Int, e = .returned (.int .i64 c) ∧ StR Z E w c W := by
  have ei : 1 ≤ E.i := by omega
  refine (setPage_f n p s w hs hZ h f h2 hn hk hp h64).mono ?_
  rintro e W (⟨rfl, D', y, us, G, f2, o2, yk, yl⟩ | ⟨rfl, G⟩)
  · exact ⟨0, rfl, G.2, .inl rfl, fun _ => ⟨D', _, _, es, G.1, f2, g.file (fun m => by rw [o2.1]) yk yl ei⟩⟩
  · exact ⟨4, rfl, G.2, .inr rfl, fun q => by cases q⟩
end
end Go.Proofs.YtpnfkilfgdnogaaGreatDoor.Img
end
