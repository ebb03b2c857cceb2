/- Layer 12's examples: alive, walked. -/
import Derived.Test.YtpnfkilfgdnogaaGreatDoorCkM4
import Derived.Test.YtpnfkilfgdnogaaGreatDoorCkM3
import Derived.Test.YtpnfkilfgdnogaaGreatDoorImgC
import Derived.Test.YtpnfkilfgdnogaaGreatDoorCkM2
import Derived.Test.YtpnfkilfgdnogaaGreatDoorShelf
import Derived.BigRegion
import Derived.Deep.RegionLawGrows
section
namespace Go.Proofs.YtpnfkilfgdnogaaGreatDoor.Img
set_option linter.unusedVariables false
set_option linter.unusedSimpArgs false
open Go.RowKit Go.Shelf Go.Maps Oct Dev Jou Tx Geo Ino Bm Dir Ck
def ZS (E : Im) (q : Nat) : Prop := fr E 2 ≤ q ∧ q < E.hard.length
section
variable {E : Im} {D D' : Secs} {ino : Nat → InoT} {vs : Nat → List Nat} {es : List Ent} {Z : Nat → Prop} {w W : World} {tk : Nat → Bool}
theorem dir_no : Dir [] := ⟨fun e he => by simp at he, rfl, by decide, by simp [names, live]⟩
theorem zs_all (hs : Small E) (hl : E.hard.length = (szL E.i E.bl E.j).sum) (h : IS w E D Z) : ZAll E (ZS E) := by
  have hv := hs.vals
  exact ⟨⟨by omega, fr_lt hs h (.inl rfl)⟩, ⟨by omega, fr_lt hs h (.inr rfl)⟩, fun n h1 hn => ⟨by unfold tq; omega, tq_lt hs hl h1 hn⟩, fun b h1 hb => ⟨by unfold dq; omega, dq_lt hs hl h1 hb⟩⟩
theorem zs_full (hs : Small E) (hm : E.hard.length ≤ fr E 2 + mostN E.j) : FullE E (ZS E) → False := fun hf =>
  hf.no (List.range' (fr E 2) (E.hard.length - fr E 2)) (fun q hq => by rw [List.mem_range'_1]; have h1 := hq.1; have h2 := hq.2; omega) (by simp; omega)
theorem fmt_fs0 (hs : Small E) : FS0 E (fmtS E.i E.bl E.j) inoF (fun _ => zs32) [] := by
  have e1 : inoF 1 = rootT := put_same _ _ _
  refine ⟨owns_fmt E hs, ⟨dir_no, by rw [e1]; rfl, by rw [e1]; rfl, by rw [e1]; rfl, fun p hp => ?_⟩, fun n h2 hn => ?_, fun p hp => ?_⟩
  · rw [e1] at hp
    exact absurd hp (by show ¬ p < pagesN 0; unfold pagesN; omega)
  · rw [show inoF n = noIno from put_ne _ _ (by omega)]
    decide
  · rw [e1] at hp
    exact absurd hp (by show ¬ p < pagesN 0; unfold pagesN; omega)
theorem fmt_named (hs : Small E) : Named E.i (fun n => bitB (fmtS E.i E.bl E.j (fr E 2)) n) inoF [] := by
  obtain ⟨f2, _, _⟩ := fmt_at E E.i E.bl E.j hs rfl rfl rfl
  have hk : ∀ n, inoF n = if n = 1 then rootT else noIno := fun n => rfl
  refine ⟨fun n h1 hn => ?_, rfl, fun n h1 hn hk1 => ?_, fun e he => (by cases he), List.nodup_nil, fun n h2 hn hk0 => ?_⟩
  · rw [f2, bit_two, hk]
    by_cases q : n = 1
    · subst q; rfl
    · rw [if_neg q]
      show decide (n < 2) = false
      simp
      omega
  · rw [hk] at hk1
    split at hk1 <;> cases hk1
  · rw [hk, if_neg (by omega)] at hk0
    exact absurd rfl hk0
theorem fmt_fs (hs : Small E) (h : IS w E (fmtS E.i E.bl E.j) (fun _ => False)) : FS Z E w :=
  ⟨_, inoF, fun _ => zs32, [], h.mono (fun _ q => q.elim), fmt_fs0 hs, fmt_named hs⟩
theorem fltI_good (hn : Named E.i tk ino es) (k : Nat) (hk : k < E.i) : fltI E.i tk ino es k = [] := by
  unfold fltI badN
  rw [hn.tk (k + 1) (by omega) (by omega), entF_nil hn.rng]
  simp
theorem ckL_taken (h : Owns E D ino vs) (hn : Named E.i tk ino es) {tk' : Nat → Bool} (m : Nat) (h2 : 2 ≤ m) (hm : m ≤ E.i) (ht : ∀ n, n ≠ m → tk' n = tk n) (hd : tk' m ≠ tk m) :
    ckL E.i E.bl tk' (fun b => bitB (D (fr E 3)) b) ino (fun m => blks (ino m) (vs m)) es = [(2, m, 0)] := by
  unfold ckL
  rw [h.faults _ 0 (fun _ _ _ _ => rfl), if_neg (by omega), List.append_nil]
  refine upTo_one (m := m - 1) _ (by omega) (fun k hk hne => ?_) ?_
  · have e := fltI_good hn k hk
    have e2 : tk' (k + 1) = tk (k + 1) := ht _ (by omega)
    unfold fltI badN at e ⊢
    rw [e2]
    exact e
  · unfold fltI badN
    have e : m - 1 + 1 = m := by omega
    rw [e, if_neg (show ¬ m - 1 = 0 by omega), List.append_nil, if_pos]
    have := hn.tk m (by omega) hm
    rw [← this]
    cases h1 : tk' m <;> cases h3 : tk m <;> first | rfl | (rw [h1, h3] at hd; exact absurd rfl hd)
theorem ckL_block (h : Owns E D ino vs) (hn : Named E.i tk ino es) (bt : Nat → Bool) (x : Nat) (h1 : 1 ≤ x) (hb : x ≤ E.bl) (hx : ∀ b, b ≠ x → bt b = bitB (D (fr E 3)) b) (hd : bt x ≠ bitB (D (fr E 3)) x) :
    ckL E.i E.bl tk bt ino (fun m => blks (ino m) (vs m)) es = [(7, fstP (pairsL (fun m => blks (ino m) (vs m)) E.i) x, x)] := by
  unfold ckL
  rw [hn.inos, h.faults bt x (fun b _ _ hne => hx b hne), if_pos ⟨h1, hb, hd⟩]
  rfl
theorem ckL_entry {i bl : Nat} {bt : Nat → Bool} {L : Nat → List Nat} {n : Nat} (hn : n ∈ es.map Prod.snd) (h0 : (ino n).kind = 0) (hi : 1 ≤ i) : ∃ q, (4, 1, q) ∈ ckL i bl tk bt ino L es := by
  obtain ⟨e, he, rfl⟩ := List.mem_map.1 hn
  obtain ⟨q, hq, rfl⟩ := List.getElem_of_mem he
  refine ⟨q, ?_⟩
  unfold ckL
  refine List.mem_append_left _ ((mem_upTo _).2 ⟨0, hi, ?_⟩)
  unfold fltI
  rw [if_pos rfl]
  refine List.mem_append_right _ ((mem_upTo _).2 ⟨q, hq, ?_⟩)
  have e : es.getD q ([], 0) = es[q] := by simp [List.getD, hq]
  unfold entF thereB
  rw [e, if_pos (.inr (by simp [h0]))]
  simp
theorem check_fs (w : World) (hs : Small E) (h : FS Z E w) :
    Calls Tryz.prog 36 #[.pointer (some ⟨E.M, 0, none⟩), geoV E.i E.bl E.j] w fun e w' => ∃ ao cap, e = .returned (.tuple #[.slice ao 0 cap, .int .i64 0]) ∧ Below w.heap.size w w' := by
  obtain ⟨D, ino, vs, es, g, f, nm⟩ := h
  refine (check_is w hs g f.ck (fun e he => ⟨(nm.rng e he).1, (nm.rng e he).2.1⟩) nm.lnk).mono ?_
  rintro e W ⟨v, rfl, ho, b⟩
  rw [f.own.noFault nm] at ho
  obtain ⟨ao, cap, rfl⟩ := row_slice ho
  exact ⟨ao, cap, rfl, b⟩
theorem least_noC {s : ByteArray} {m : Nat} (h : (leastB s (m : Int) false).2 = false) : ∀ k, k < m → k < 8 * s.size → bitB s k = true := by
  intro k
  induction k using Nat.strongRecOn with
  | _ k ih =>
    intro h1 h2
    cases e : bitB s k with
    | true => rfl
    | false =>
      rw [leastB_of h1 h2 (fun j hj => ih j hj (by omega) (by omega)) e] at h
      cases h
theorem free_few (o : Owns E D ino vs) (hs : Small E) (h3 : (D (fr E 3)).size = 64) (T : List Nat) (hT : T.length + 2 ≤ E.bl) (ht : ∀ b, 1 ≤ b → b ≤ E.bl → bitB (D (fr E 3)) b = true → b ∈ T) : (lst E D).2 = true ∧ (lst E (newD E D)).2 = true := by
  have hbl := hs.hb
  have key : ∀ (s : ByteArray) (d : Nat), s.size = 64 → (∀ b, b ≠ d → bitB s b = true → bitB (D (fr E 3)) b = true) → (leastB s (E.bl + 1 : Nat) false).2 = true := by
    intro s d hsz hb
    cases e : (leastB s (E.bl + 1 : Nat) false).2 with
    | true => rfl
    | false =>
      have hall := least_noC e
      rw [hsz] at hall
      have h7 := List.Nodup.length_le_of_subset (l₁ := (List.range' 1 E.bl).erase d) (l₂ := T) (List.Nodup.erase _ (List.nodup_range')) (fun b hb2 => by
        have hb3 := (List.Nodup.mem_erase_iff (List.nodup_range')).1 hb2
        rw [List.mem_range'_1] at hb3
        exact ht b (by omega) (by omega) (hb b hb3.1 (hall b (by omega) (by omega))))
      have h8 : E.bl - 1 ≤ ((List.range' 1 E.bl).erase d).length := by
        rw [List.length_erase]
        split <;> simp
      omega
  have hf : (lst E D).2 = true := key (D (fr E 3)) 0 h3 (fun b _ hb => hb)
  refine ⟨hf, ?_⟩
  obtain ⟨b, r, hL⟩ : ∃ b r, lst E D = (b, r) := ⟨_, _, rfl⟩
  rw [hL] at hf
  simp only at hf
  subst hf
  obtain ⟨b1, b2, b3⟩ := o.least hL
  have e : newD E D (fr E 3) = setB (D (fr E 3)) b true := by
    unfold newD
    rw [hL, upd_ne _ _ (q_dq3 hs b1).symm, blkD_fr hs b1]
  unfold lst
  rw [e]
  refine key _ b (by rw [size_setB]; exact h3) (fun k hk hbit => ?_)
  rw [bitB_setB _ _ _ _ (by rw [h3]; omega), if_neg hk] at hbit
  exact hbit
end
end Go.Proofs.YtpnfkilfgdnogaaGreatDoor.Img
end
section
namespace Go.Proofs.YtpnfkilfgdnogaaGreatDoor.Img
set_option linter.unusedVariables false
set_option linter.unusedSimpArgs false
open Go.RowKit Go.Shelf Go.Maps Oct Dev Jou Tx Geo Ino Bm Dir Ck
section
variable {E : Im} {w W : World}
theorem al_full (x : Ex E) (hl : E.hard.length = (szL E.i E.bl E.j).sum) : FullE E (ZS E) → False := by
  obtain ⟨a, b, c, d⟩ := x.at_
  refine zs_full x.small ?_
  rw [hl, x.ei, x.eb, x.ej, a]
  decide
def al0 (E : Im) : Secs := fmtS E.i E.bl E.j
def al1 (E : Im) : Secs := upd (al0 E) (fr E 2) (setB (al0 E (fr E 2)) 2 true)
theorem al_b0 (x : Ex E) (n : Nat) : bitB (al0 E (fr E 2)) n = decide (n < 2) := by
  obtain ⟨f2, _, _⟩ := fmt_at E E.i E.bl E.j x.small rfl rfl rfl
  unfold al0
  rw [f2, bit_two]
theorem al_sz (x : Ex E) : (al0 E (fr E 2)).size = 64 := by
  obtain ⟨f2, _, _⟩ := fmt_at E E.i E.bl E.j x.small rfl rfl rfl
  unfold al0
  rw [f2, twoS_size]
theorem al_b1 (x : Ex E) (n : Nat) : bitB (al1 E (fr E 2)) n = if n = 2 then true else decide (n < 2) := by
  unfold al1
  rw [upd_same, bitB_setB _ _ _ _ (by rw [al_sz x]; omega), al_b0 x]
theorem al_take (x : Ex E) (h : IS w E (al0 E) (ZS E)) : Calls Tryz.prog 19 #[.pointer (some ⟨E.M, 0, none⟩), .int .u32 2] w fun e w' => e = .returned (.int .i64 0) ∧ Wr E (al1 E) (ZS E) w w' := by
  have hZ := zs_all x.small h.len h
  refine (take_is (Q := False) 2 w x.small h (by omega) (by rw [x.ei]; omega) (by rw [al_b0 x]; rfl) hZ.1 (al_full x h.len)).mono ?_
  rintro e w' (⟨rfl, g⟩ | ⟨rfl, g⟩)
  · exact ⟨rfl, g⟩
  · exact g.1.1.elim
theorem al_fs1 (x : Ex E) : FS0 E (al1 E) inoF (fun _ => zs32) [] := (fmt_fs0 x.small).imap x.small _
theorem al_check1 (x : Ex E) (h : IS w E (al1 E) (ZS E)) : Calls Tryz.prog 36 #[.pointer (some ⟨E.M, 0, none⟩), geoV E.i E.bl E.j] w fun e w' => ∃ v, e = .returned (.tuple #[v, .int .i64 0]) ∧ OwnF w.heap.size [(2, 2, 0)] v w' ∧ Below w.heap.size w w' := by
  have f := al_fs1 x
  have nm := fmt_named x.small
  have k := ckL_taken (tk' := fun n => bitB (al1 E (fr E 2)) n) f.own nm 2 (Nat.le_refl 2) (by rw [x.ei]; omega) (fun n hn => by
    show bitB (al1 E (fr E 2)) n = bitB (al0 E (fr E 2)) n
    rw [al_b1 x, al_b0 x, if_neg hn]) (by
    show bitB (al1 E (fr E 2)) 2 ≠ bitB (al0 E (fr E 2)) 2
    rw [al_b1 x, al_b0 x]
    decide)
  refine (check_is w x.small h f.ck (fun e he => by cases he) nm.lnk).mono ?_
  rintro e w' ⟨v, rfl, ho, b⟩
  have e1 : live ([] : List Ent) = [] := rfl
  rw [e1, k] at ho
  exact ⟨v, rfl, ho, b⟩
theorem al_give (x : Ex E) (h : IS w E (al1 E) (ZS E)) : Calls Tryz.prog 40 #[.pointer (some ⟨E.M, 0, none⟩), .int .u32 2] w fun e w' => e = .returned (.int .i64 0) ∧ Wr E (givenD E (al1 E) 2) (ZS E) w w' := by
  have hZ := zs_all x.small h.len h
  refine (give_is (Q := False) 2 w x.small h (by omega) (by rw [x.ei]; omega) (by rw [al_b1 x]; rfl) hZ.1 (hZ.2.2.1 2 (by omega) (by rw [x.ei]; omega)) (al_full x h.len)).mono ?_
  rintro e w' (⟨rfl, g⟩ | ⟨rfl, g⟩)
  · exact ⟨rfl, g⟩
  · exact g.1.1.elim
theorem al_sz1 (x : Ex E) : (al1 E (fr E 2)).size = 64 := by
  unfold al1
  rw [upd_same, size_setB, al_sz x]
theorem al_b2 (x : Ex E) (n : Nat) : bitB (givenD E (al1 E) 2 (fr E 2)) n = decide (n < 2) := by
  rw [given_bit x.small 2 n (by rw [x.ei]; omega) (al_sz1 x)]
  split
  · rename_i q
    rw [q]
    rfl
  · rename_i q
    rw [al_b1 x, if_neg q]
theorem al_tq (x : Ex E) : (al1 E (tq E 2)).size = 64 := by
  unfold al1 al0
  rw [upd_ne _ _ ((q_fr2 x.small).2.1 2).symm]
  exact fmtS_size _ _ _ _
structure Al3 (E : Im) (D : Secs) (ino : Nat → InoT) (vs : Nat → List Nat) : Prop where
  f : FS0 E D ino vs [([97], 5), ([], 0)]
  b : ∀ n, bitB (D (fr E 2)) n = decide (n < 2)
  k : ∀ n, 2 ≤ n → (ino n).kind = 0
theorem al_enter (x : Ex E) (h : IS w E (givenD E (al1 E) 2) (ZS E)) : Calls Tryz.prog 30 #[.pointer (some ⟨E.M, 0, none⟩), .int .u32 1, .string ⟨#[97]⟩, .int .u32 5] w fun e w' => e = .returned (.int .i64 0) ∧ Tch (fun c => c = E.T.m) w w' ∧ ∃ D ino vs, IS w' E D (ZS E) ∧ Al3 E D ino vs := by
  have hZ := zs_all x.small h.len h
  have hF := al_full x h.len
  have f := (al_fs1 x).given x.small 2 (Nat.le_refl 2) (by rw [x.ei]; omega) (al_tq x) (by rfl)
  have eA : addL (L ⟨#[97]⟩) 5 ([] : List Ent) = (0, [([97], 5), ([], 0)]) := by decide
  have EN := enter_f (Q := False) 5 ⟨#[97]⟩ w x.small hZ h f (by decide) (by decide) hF (fun es' D1 y us e1 o hy h3 hno => by
    rw [eA] at e1
    cases e1
    have o1 := o.ok 1 (Nat.le_refl 1) (by rw [x.ei]; omega)
    have v1 := o.ind 1 (Nat.le_refl 1) (by rw [x.ei]; omega)
    rw [put_same] at o1
    rw [put_same, put_same] at v1
    have hy64 : y.size = 64 := hy
    have hu : y.Used := o1.resolve_left (fun q => by rw [q] at hy64; cases hy64)
    have hr := hu.row
    rw [hy64] at hr
    have key : ∀ (k v : Nat), y.row[k]? = some v → 1 ≤ k → v = 0 := fun k v hk k1 => Classical.byContradiction fun q => by
      have := (hr k v hk q).1
      unfold pagesN at this
      omega
    have k1 := key 1 y.d1 rfl (by omega)
    have k2 := key 2 y.d2 rfl (by omega)
    have k3 := key 3 y.d3 rfl (by omega)
    have k4 := key 4 y.ind rfl (by omega)
    obtain ⟨r1, r2⟩ := free_few o x.small h3 [y.d0] (by rw [x.eb]; simp) (fun b b1 b2 hb => by
      obtain ⟨m, m1, m2, hm⟩ := (o.bit b b1 b2).1 hb
      by_cases q : m = 1
      · subst q
        rw [put_same, put_same] at hm
        obtain ⟨hb0, hm⟩ := (mem_blks v1.len b).1 hm
        rcases hm with q | q | q
        · simp only [dirL, List.mem_cons, List.not_mem_nil, or_false] at q
          rw [List.mem_singleton]
          omega
        · rw [v1.no k4] at q
          exact absurd (List.eq_of_mem_replicate q) hb0
        · exact absurd (q.trans k4) hb0
      · rw [put_ne _ _ q, put_ne _ _ q] at hm
        have e2 : ∀ m, m ≠ 1 → put_ inoF 2 noIno m = noIno := fun m hm => by
          by_cases q2 : m = 2
          · subst q2
            exact put_same _ _ _
          · rw [put_ne _ _ q2]
            exact put_ne _ _ hm
        have e3 : put_ (fun _ => zs32) 2 zs32 m = zs32 := by
          unfold put_
          split <;> rfl
        rw [e2 m q, e3, blks_no.1] at hm
        cases hm)
    rcases hno with q | q
    · rw [r1] at q; cases q
    · rw [r2] at q; cases q)
  refine EN.mono ?_
  rintro e W ⟨c, rfl, t, r0, r1, r2⟩
  have hc : c = 0 := Classical.byContradiction fun q => by
    rcases r2 q with r | r
    · exact r
    · rw [eA] at r
      exact q r
  subst hc
  obtain ⟨D', y, us, es', g1, g2, g3, g4, g5⟩ := r0 rfl
  rw [eA] at g5
  cases g5
  refine ⟨rfl, t, D', _, _, g1, g2, fun n => by rw [g3.1]; exact al_b2 x n, fun n hn => ?_⟩
  rw [put_ne _ _ (by omega)]
  by_cases q : n = 2
  · subst q
    rw [put_same]
    rfl
  · rw [put_ne _ _ q, show inoF n = noIno from put_ne _ _ (by omega)]
    rfl
theorem al_check3 (x : Ex E) {D : Secs} {ino : Nat → InoT} {vs : Nat → List Nat} (h : IS w E D (ZS E)) (a : Al3 E D ino vs) : Calls Tryz.prog 36 #[.pointer (some ⟨E.M, 0, none⟩), geoV E.i E.bl E.j] w fun e w' => ∃ v, e = .returned (.tuple #[v, .int .i64 0]) ∧ OwnF w.heap.size [(4, 1, 0)] v w' ∧ Below w.heap.size w w' := by
  have e1 : live ([([97], 5), ([], 0)] : List Ent) = [([97], 5)] := rfl
  have hbad : ∀ k, k < E.i → badN (fun n => bitB (D (fr E 2)) n) ino (k + 1) = false := fun k hk => by
    unfold badN
    show (bitB (D (fr E 2)) (k + 1) != _) = false
    rw [a.b]
    by_cases q : k = 0
    · subst q
      rw [a.f.root.kind]
      rfl
    · rw [a.k (k + 1) (by omega)]
      simp
      omega
  have k : ckL E.i E.bl (fun n => bitB (D (fr E 2)) n) (fun b => bitB (D (fr E 3)) b) ino (fun m => blks (ino m) (vs m)) [([97], 5)] = [(4, 1, 0)] := by
    unfold ckL
    rw [a.f.own.faults _ 0 (fun _ _ _ _ => rfl), if_neg (by omega), List.append_nil]
    refine upTo_one (m := 0) _ (by rw [x.ei]; omega) (fun k hk hne => ?_) ?_
    · unfold fltI
      rw [hbad k hk, if_neg hne]
      rfl
    · unfold fltI
      rw [hbad 0 (by rw [x.ei]; omega), if_pos rfl]
      show [] ++ ([] ++ entF E.i ino [([97], 5)] 0) = _
      unfold entF thereB
      simp [a.k 5 (by omega)]
  refine (check_is w x.small h a.f.ck (fun e he => by
    rw [e1] at he
    rw [List.mem_singleton.1 he, x.ei]
    exact ⟨by show 2 ≤ 5; omega, by show 5 ≤ 8; omega⟩) (fun n h1 hn hk => by
    by_cases q : n = 1
    · subst q
      rw [a.f.root.kind] at hk
      cases hk
    · rw [a.k n (by omega)] at hk
      cases hk)).mono ?_
  rintro e w' ⟨v, rfl, ho, b⟩
  rw [e1, k] at ho
  exact ⟨v, rfl, ho, b⟩
end
end Go.Proofs.YtpnfkilfgdnogaaGreatDoor.Img
end
section
namespace Go.Proofs.YtpnfkilfgdnogaaGreatDoor.Img
set_option linter.unusedVariables false
set_option linter.unusedSimpArgs false
open Go.RowKit Go.Shelf Go.Maps Oct Dev Jou Tx Geo Ino Bm Dir Ck
def TabAt (w : World) : Prop := Lib.TabIs Tryz.prog w "internal/strconv.uint64pow10" .u64 Lib.pow10Tab
theorem TabAt.later {w W : World} (h : TabAt w) (hb : Below w.heap.size w W) : TabAt W := by
  unfold TabAt Lib.TabIs World.var? at *
  cases hg : Tryz.prog.globalNamed "internal/strconv.uint64pow10" with
  | none =>
    rw [hg] at h
    cases h
  | some g =>
    rw [hg] at h
    simp only [Option.bind_some] at h ⊢
    by_cases lt : g < w.heap.size
    · rw [hb.block g lt]
      exact h
    · rw [Array.getElem?_eq_none (by omega)] at h
      cases h
theorem below_grown (w : World) (k : Nat) (os : Array Obj) : Below w.heap.size w (Go.Sort.grow (w.drewN k) os) := by
  refine ⟨rfl, rfl, rfl, by simp [Go.Sort.grow], fun c hc => ?_⟩
  show (w.heap ++ os)[c]? = w.heap[c]?
  rw [Array.getElem?_append_left hc]
theorem itoa_any (n : Int) (w : World) (h0 : -9223372036854775808 ≤ n) (h1 : n ≤ 9223372036854775807) (ht : TabAt w) :
    Calls Tryz.prog 135 #[.int .i64 n] w fun e w' => e = .returned (.string ⟨(Lib.itoa n).toArray⟩) ∧ Below w.heap.size w w' := by
  have FI := Lib.hid (Tryz.internal_strconv_FormatInt_10 n h0 h1 w ht)
  have IT := Lib.hid (show Calls Tryz.prog 172 #[.int .i64 n] w fun e w' => e = .returned (.string ⟨(Lib.itoa n).toArray⟩) ∧ Below w.heap.size w w' from by
    go_enter Tryz.func172, Tryz.ntmps172
    go_wp2_with fail
    refine FI.out.mono ?_
    rintro e w1 ⟨rfl, k, os, rfl⟩
    go_wp2
    go_ret
    exact ⟨rfl, below_grown w k os⟩)
  go_enter Tryz.func135, Tryz.ntmps135
  go_wp2_with fail
  refine IT.out.mono ?_
  rintro e w1 ⟨rfl, b1⟩
  go_wp2
  go_ret
  exact ⟨rfl, b1⟩
theorem same_one (a b c : Nat) (g g' cap cap' : Nat) (w : World) (c0 : w.cell? ⟨g, 0, none⟩ = some (.int .u8 a)) (c1 : w.cell? ⟨g, 1, none⟩ = some (.int .u32 b)) (c2 : w.cell? ⟨g, 2, none⟩ = some (.int .i64 c))
    (d0 : w.cell? ⟨g', 0, none⟩ = some (.int .u8 a)) (d1 : w.cell? ⟨g', 1, none⟩ = some (.int .u32 b)) (d2 : w.cell? ⟨g', 2, none⟩ = some (.int .i64 c)) :
    Calls Tryz.prog 80 #[.slice (some ⟨g, 0, none⟩) 1 cap, .slice (some ⟨g', 0, none⟩) 1 cap'] w fun e w' => e = .returned (.bool true) ∧ Below w.heap.size w w' := by
  go_enter Tryz.func80, Tryz.ntmps80
  go_wp2
  refine wp_loop_rounds 2 ?_
  rw [rounds_succ]
  go_wp2
  go_region
  go_wp2
  rw [rounds_succ]
  go_wp2
  go_ret
  exact ⟨rfl, (Below.refl _ _).drew⟩
set_option maxRecDepth 100000 in
set_option maxHeartbeats 1000000 in
theorem line_ex (w : World) (ht : TabAt w) :
    Calls Tryz.prog 81 #[.agg #[.int .u8 7, .int .u32 0, .int .i64 (-1)]] w fun e w' => e = .returned (.string ⟨#[98, 108, 111, 99, 107, 32, 48, 32, 45, 49]⟩) ∧ Below w.heap.size w w' := by
  have I0 := Lib.hid (fun W (h : TabAt W) => itoa_any 0 W (by decide) (by decide) h)
  have I1 := Lib.hid (fun W (h : TabAt W) => itoa_any (-1) W (by decide) (by decide) h)
  rw [show (⟨(Lib.itoa 0).toArray⟩ : ByteArray) = ⟨#[48]⟩ by simp [Lib.itoa, Lib.decDigits]] at I0
  rw [show (⟨(Lib.itoa (-1)).toArray⟩ : ByteArray) = ⟨#[45, 49]⟩ by simp [Lib.itoa, Lib.decDigits]] at I1
  have HT := Lib.hid ht
  clear ht
  go_enter Tryz.func81, Tryz.ntmps81
  have hb := ((Below.refl _ w).alloc (Nat.le_refl _) (.cells #[.int .u8 7, .int .u32 0, .int .i64 (-1)] 83)).alloc (Nat.le_trans (Nat.le_succ _) (Nat.le_of_eq (World.size_alloc _ _).symm)) (.cells #[.string ⟨#[63]⟩, .string ⟨#[114, 111, 111, 116]⟩, .string ⟨#[105, 110, 111, 100, 101]⟩, .string ⟨#[116, 101, 120, 116]⟩, .string ⟨#[101, 110, 116, 114, 121]⟩, .string ⟨#[108, 105, 110, 107, 115]⟩, .string ⟨#[100, 105, 114]⟩, .string ⟨#[98, 108, 111, 99, 107]⟩] 226)
  have HB := Lib.hid hb.drew
  have HTD := Lib.hid (HT.out.later hb.drew)
  have HXD := Lib.hid (SBox.drew ((SBox.new w 83 #[.int .u8 7, .int .u32 0, .int .i64 (-1)]).alloc (.cells #[.string ⟨#[63]⟩, .string ⟨#[114, 111, 111, 116]⟩, .string ⟨#[105, 110, 111, 100, 101]⟩, .string ⟨#[116, 101, 120, 116]⟩, .string ⟨#[101, 110, 116, 114, 121]⟩, .string ⟨#[108, 105, 110, 107, 115]⟩, .string ⟨#[100, 105, 114]⟩, .string ⟨#[98, 108, 111, 99, 107]⟩] 226)))
  clear hb
  go_wp2
  go_region_law (first | (go_simp; go_at_call 135; refine (I0.out _ HTD.out).mono ?_; rintro e w6 ⟨rfl, b6⟩; have HT6 := Lib.hid (HTD.out.later b6); have HB6 := Lib.hid (HB.out.trans (b6.mono HB.out.size)); have hX := HXD.out.later b6; have P2 := hX.cell 2; have Pl := hX.lt; simp only [List.getElem?_toArray, List.getElem?_cons_zero, List.getElem?_cons_succ] at P2; clear hX b6) | (go_simp; go_at_call 135; refine (I1.out _ HT6.out).mono ?_; rintro e w7 ⟨rfl, b7⟩; have HB7 := Lib.hid (HB6.out.trans (b7.mono HB6.out.size)); clear b7))
  all_goals
    go_wp2
    go_ret
    exact ⟨rfl, HB7.out⟩
end Go.Proofs.YtpnfkilfgdnogaaGreatDoor.Img
end
section
namespace Go.Proofs.YtpnfkilfgdnogaaGreatDoor.Img
set_option linter.unusedVariables false
set_option linter.unusedSimpArgs false
open Go.RowKit Go.Shelf Go.Maps Oct Dev Jou Tx Geo Ino Bm Dir Ck
theorem row_tchB {W W' : World} {B n size m : Nat} {e : TypeId} {v : Value} {xs : List Value} (h : W.ownsRow B e size v n xs) (t : Tch (fun c => c = m) W W') (hm : m < B) : W'.ownsRow B e size v n xs := by
  refine ⟨h.1, ?_⟩
  rcases h.2 with h1 | ⟨g, cap, cur, e1, hb, hg, r⟩
  · exact .inl h1
  · exact .inr ⟨g, cap, cur, e1, hb, (t.block g (Array.getElem?_eq_some_iff.1 hg).1 (by omega)).trans hg, r⟩
set_option maxRecDepth 100000 in
set_option maxHeartbeats 1000000 in
theorem check_nil (i bl j : Int) (w : World) :
    Calls Tryz.prog 36 #[.pointer none, .agg #[.int .i64 i, .int .i64 bl, .int .i64 j]] w fun e w' => e = .returned (.tuple #[.slice none 0 0, .int .i64 1]) ∧ Below w.heap.size w w' := by
  go_enter Tryz.func36, Tryz.ntmps36
  go_wp2
  go_ret2
  exact ⟨rfl, (Below.refl _ w).alloc (Nat.le_refl _) _⟩
set_option maxRecDepth 100000 in
set_option maxHeartbeats 1000000 in
theorem check_geo (M : Nat) (w : World) :
    Calls Tryz.prog 36 #[.pointer (some ⟨M, 0, none⟩), .agg #[.int .i64 0, .int .i64 0, .int .i64 0]] w fun e w' => e = .returned (.tuple #[.slice none 0 0, .int .i64 2]) ∧ Below w.heap.size w w' := by
  have MY := Lib.hid (fun W => may_any 0 0 0 W)
  rw [show mayG 0 0 0 = false by decide] at MY
  unfold geoV at MY
  have HB0 := Lib.hid ((Below.refl _ w).alloc (Nat.le_refl _) (.cells #[.int .i64 0, .int .i64 0, .int .i64 0] 23))
  have hX := SBox.new w 23 #[.int .i64 0, .int .i64 0, .int .i64 0]
  have X0 := hX.cell 0
  have X1 := hX.cell 1
  have X2 := hX.cell 2
  simp only [List.getElem?_toArray, List.getElem?_cons_zero, List.getElem?_cons_succ] at X0 X1 X2
  have Xl := hX.lt
  clear hX
  go_enter Tryz.func36, Tryz.ntmps36
  go_wp2_with fail
  refine (MY.out _).mono ?_
  rintro e w1 ⟨rfl, b1⟩
  have B1 := Lib.hid (HB0.out.trans (b1.mono HB0.out.size))
  clear b1
  go_wp2
  go_ret2
  exact ⟨rfl, B1.out⟩
set_option maxRecDepth 100000 in
set_option maxHeartbeats 4000000 in
theorem alive12 (w : World) (hR : RootAt w) (hT : TabAt w) : Calls Tryz.prog 34 #[] w fun e w' => e = .returned (.bool true) ∧ Below w.heap.size w w' := by
  have SM := Lib.hid (fun W => small_any W)
  have DK : Hid (∀ W, RootAt W → Calls Tryz.prog 11 #[.agg #[.int .i64 8, .int .i64 16, .int .i64 40]] W fun e w' => ∃ E : Im, e = .returned (.tuple #[.pointer (some ⟨E.b.p, 0, none⟩), .pointer (some ⟨E.T.j, 0, none⟩), .pointer (some ⟨E.T.p, 0, none⟩), .pointer (some ⟨E.M, 0, none⟩)]) ∧ DiskAt W E 8 16 40 w') := Lib.hid (fun W h => disk_any 8 16 40 W (by decide) (by omega) (by omega) (by omega) h)
  have CN := Lib.hid (fun W => check_nil 8 16 40 W)
  have CG := Lib.hid (fun M W => check_geo M W)
  have LX := Lib.hid (fun W h => line_ex W h)
  have HR := Lib.hid hR
  have HT := Lib.hid hT
  clear hR hT
  go_enter Tryz.func34, Tryz.ntmps34
  go_wp2_with fail
  refine (SM.out _).mono ?_
  rintro e w1 ⟨rfl, b1⟩
  have B1 := Lib.hid (b1.alloc b1.size (.cells #[.int .i64 8, .int .i64 16, .int .i64 40] 23))
  have HG1 := Lib.hid (SBox.new w1 23 #[.int .i64 8, .int .i64 16, .int .i64 40])
  have hX := HG1.out
  have X0 := hX.cell 0
  have X1 := hX.cell 1
  have X2 := hX.cell 2
  simp only [List.getElem?_toArray, List.getElem?_cons_zero, List.getElem?_cons_succ] at X0 X1 X2
  have Xl := hX.lt
  clear hX b1
  go_wp2_with fail
  refine (DK.out _ (HR.out.later B1.out)).mono ?_
  rintro e w2 ⟨E, rfl, hD⟩
  have x : Ex E := ⟨hD.small, hD.ei, hD.eb, hD.ej⟩
  have X := Lib.hid x
  have B2 := Lib.hid (B1.out.trans (hD.bel.mono B1.out.size))
  have hG2 := HG1.out.later hD.bel
  have HG2 := Lib.hid hG2
  have hTm : w1.heap.size < E.T.m := Nat.lt_of_lt_of_le HG1.out.lt hD.own
  have hwm : w.heap.size ≤ E.T.m := Nat.le_trans B1.out.size hD.own
  have I2 : Hid (IS w2 E (al0 E) (ZS E)) := Lib.hid (by
    unfold al0
    rw [hD.ei, hD.eb, hD.ej]
    exact hD.is.mono (fun q h => h.elim))
  have FS2 : Hid (FS (ZS E) E w2) := Lib.hid (fmt_fs hD.small (by rw [hD.ei, hD.eb, hD.ej]; exact hD.is))
  have CK0 := Lib.hid (fun W h => check_fs (E := E) (Z := ZS E) W hD.small h)
  have CK1 := Lib.hid (fun W h => al_check1 (w := W) x h)
  have CK3 := Lib.hid (fun W (D : Secs) (ino : Nat → InoT) (vs : Nat → List Nat) h a => al_check3 (w := W) x (D := D) (ino := ino) (vs := vs) h a)
  unfold geoV at CK0 CK1 CK3
  rw [hD.ei, hD.eb, hD.ej] at CK0 CK1 CK3
  clear hD x DK X0 X1 X2 Xl
  have X0 := hG2.cell 0
  have X1 := hG2.cell 1
  have X2 := hG2.cell 2
  simp only [List.getElem?_toArray, List.getElem?_cons_zero, List.getElem?_cons_succ] at X0 X1 X2
  have Xl := hG2.lt
  clear hG2
  go_wp2_with fail
  refine (CK0.out _ FS2.out).mono ?_
  rintro e w3 ⟨ao, cap0, rfl, b3⟩
  have W3 := Lib.hid (Wr.same I2.out b3)
  clear b3 X0 X1 X2 Xl FS2 CK0
  go_wp2_with fail
  refine (al_take X.out W3.out.1).mono ?_
  rintro e w4 ⟨rfl, g⟩
  have W4 := Lib.hid (g.then_ W3.out)
  clear g W3
  have hG := HG2.out
  have hX := (show SBox w4 w1.heap.size 23 _ from (W4.out.2.block _ hG.lt (by omega)).trans hG)
  have X0 := hX.cell 0
  have X1 := hX.cell 1
  have X2 := hX.cell 2
  simp only [List.getElem?_toArray, List.getElem?_cons_zero, List.getElem?_cons_succ] at X0 X1 X2
  have Xl := hX.lt
  clear hX hG
  go_wp2_with fail
  refine (CK1.out _ W4.out.1).mono ?_
  rintro e w5 ⟨vb, rfl, ho5, b5⟩
  have hm4 := mx_lt W4.out.1
  have W5 := Lib.hid (W4.out.post b5)
  have HO5 := Lib.hid ho5
  clear b5 ho5 W4 CK1 X0 X1 X2 Xl
  go_wp2_with fail
  refine (al_give X.out W5.out.1).mono ?_
  rintro e w6 ⟨rfl, g⟩
  have HO6 : Hid (OwnF w4.heap.size [(2, 2, 0)] vb w6) := Lib.hid (row_tchB HO5.out g.2 hm4)
  have W6 := Lib.hid (g.then_ W5.out)
  clear g W5 HO5
  go_wp2_with fail
  refine (al_enter X.out W6.out.1).mono ?_
  rintro e w7 ⟨rfl, t7, D, ino, vs, g7, a7⟩
  have HO7 : Hid (OwnF w4.heap.size [(2, 2, 0)] vb w7) := Lib.hid (row_tchB HO6.out t7 hm4)
  have W7 : Hid (Wr E D (ZS E) w2 w7) := Lib.hid (Wr.then_ ⟨g7, t7⟩ W6.out)
  have A7 := Lib.hid a7
  clear g7 t7 a7 W6 HO6
  have hG := HG2.out
  have hX := (show SBox w7 w1.heap.size 23 _ from (W7.out.2.block _ hG.lt (by omega)).trans hG)
  have X0 := hX.cell 0
  have X1 := hX.cell 1
  have X2 := hX.cell 2
  simp only [List.getElem?_toArray, List.getElem?_cons_zero, List.getElem?_cons_succ] at X0 X1 X2
  have Xl := hX.lt
  clear hX hG
  go_wp2_with fail
  refine (CK3.out _ _ _ _ W7.out.1 A7.out).mono ?_
  rintro e w8 ⟨vc, rfl, ho8, b8⟩
  have hm7 := mx_lt W7.out.1
  have W8 := Lib.hid (W7.out.post b8)
  have HO8 : Hid (OwnF w4.heap.size [(2, 2, 0)] vb w8) := Lib.hid (row_later HO7.out b8)
  have HC8 := Lib.hid ho8
  clear b8 ho8 W7 CK3 X0 X1 X2 Xl HO7
  have hG := HG2.out
  have hX := (show SBox w8 w1.heap.size 23 _ from (W8.out.2.block _ hG.lt (by omega)).trans hG)
  have X0 := hX.cell 0
  have X1 := hX.cell 1
  have X2 := hX.cell 2
  simp only [List.getElem?_toArray, List.getElem?_cons_zero, List.getElem?_cons_succ] at X0 X1 X2
  have Xl := hX.lt
  clear hX hG
  go_wp2_with fail
  refine (CN.out _).mono ?_
  rintro e w9 ⟨rfl, b9⟩
  have W9 := Lib.hid (W8.out.post b9)
  have HO9 : Hid (OwnF w4.heap.size [(2, 2, 0)] vb w9) := Lib.hid (row_later HO8.out b9)
  have HC9 : Hid (OwnF w7.heap.size [(4, 1, 0)] vc w9) := Lib.hid (row_later HC8.out b9)
  clear b9 W8 HO8 HC8 X0 X1 X2 Xl
  go_wp2_with fail
  refine (CG.out _ _).mono ?_
  rintro e wA ⟨rfl, bA⟩
  have WA := Lib.hid (W9.out.post bA)
  have HOA : Hid (OwnF w4.heap.size [(2, 2, 0)] vb wA) := Lib.hid (row_later HO9.out bA)
  have HCA : Hid (OwnF w7.heap.size [(4, 1, 0)] vc wA) := Lib.hid (row_later HC9.out bA)
  clear bA W9 HO9 HC9
  obtain ⟨gb, capb, hvb, hgb, cb⟩ := row_cell HOA.out (by decide)
  subst hvb
  have HBW := Lib.hid ((Below.refl wA.heap.size wA).alloc (Nat.le_refl _) (.cells #[.int .u8 2, .int .u32 2, .int .i64 0] 83))
  have HOB := Lib.hid (World.ownsRow.alloc HOA.out (.cells #[.int .u8 2, .int .u32 2, .int .i64 0] 83))
  have HCB : Hid (OwnF w7.heap.size [(4, 1, 0)] vc _) := Lib.hid (World.ownsRow.alloc HCA.out (.cells #[.int .u8 2, .int .u32 2, .int .i64 0] 83))
  have WB := Lib.hid (WA.out.post HBW.out)
  have SA := Lib.hid (same_one 2 2 0 gb wA.heap.size capb 1 (wA.alloc (.cells #[.int .u8 2, .int .u32 2, .int .i64 0] 83)) (by
      obtain ⟨g', c', e', _, q⟩ := row_cell HOB.out (by decide)
      cases e'
      exact q 0 _ rfl) (by
      obtain ⟨g', c', e', _, q⟩ := row_cell HOB.out (by decide)
      cases e'
      exact q 1 _ rfl) (by
      obtain ⟨g', c', e', _, q⟩ := row_cell HOB.out (by decide)
      cases e'
      exact q 2 _ rfl) ((SBox.new wA 83 #[.int .u8 2, .int .u32 2, .int .i64 0]).cell 0) ((SBox.new wA 83 #[.int .u8 2, .int .u32 2, .int .i64 0]).cell 1) ((SBox.new wA 83 #[.int .u8 2, .int .u32 2, .int .i64 0]).cell 2))
  clear cb
  go_wp2_with fail
  refine Calls.mono SA.out ?_
  rintro e wC ⟨rfl, bC⟩
  have WC := Lib.hid (WB.out.post bC)
  have HCC : Hid (OwnF w7.heap.size [(4, 1, 0)] vc wC) := Lib.hid (row_later HCB.out bC)
  clear bC WA WB HOA HOB HCA HCB HBW SA
  obtain ⟨gc, capc, hvc, hgc, cc⟩ := row_cell HCC.out (by decide)
  subst hvc
  have HBW := Lib.hid ((Below.refl wC.heap.size wC).alloc (Nat.le_refl _) (.cells #[.int .u8 4, .int .u32 1, .int .i64 0] 83))
  have HCD := Lib.hid (World.ownsRow.alloc HCC.out (.cells #[.int .u8 4, .int .u32 1, .int .i64 0] 83))
  have WD := Lib.hid (WC.out.post HBW.out)
  have SA := Lib.hid (same_one 4 1 0 gc wC.heap.size capc 1 (wC.alloc (.cells #[.int .u8 4, .int .u32 1, .int .i64 0] 83)) (by
      obtain ⟨g', c', e', _, q⟩ := row_cell HCD.out (by decide)
      cases e'
      exact q 0 _ rfl) (by
      obtain ⟨g', c', e', _, q⟩ := row_cell HCD.out (by decide)
      cases e'
      exact q 1 _ rfl) (by
      obtain ⟨g', c', e', _, q⟩ := row_cell HCD.out (by decide)
      cases e'
      exact q 2 _ rfl) ((SBox.new wC 83 #[.int .u8 4, .int .u32 1, .int .i64 0]).cell 0) ((SBox.new wC 83 #[.int .u8 4, .int .u32 1, .int .i64 0]).cell 1) ((SBox.new wC 83 #[.int .u8 4, .int .u32 1, .int .i64 0]).cell 2))
  clear cc
  go_wp2_with fail
  refine Calls.mono SA.out ?_
  rintro e wE ⟨rfl, bE⟩
  have WE := Lib.hid (WD.out.post bE)
  have BE := Lib.hid (WE.out.2.below (fun c hc => by rw [hc]; exact hwm) B2.out B2.out.size)
  clear bE SA
  go_wp2_with fail
  refine (LX.out _ (HT.out.later BE.out)).mono ?_
  rintro e wF ⟨rfl, bF⟩
  go_wp2
  go_ret
  exact ⟨rfl, BE.out.trans (bF.mono BE.out.size)⟩
end Go.Proofs.YtpnfkilfgdnogaaGreatDoor.Img
end
