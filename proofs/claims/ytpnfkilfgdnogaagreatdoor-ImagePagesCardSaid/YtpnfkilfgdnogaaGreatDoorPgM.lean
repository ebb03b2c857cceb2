/- ImagePages, for every input: the law returns true, and its argument reads as it did; the root's inode as the program's text lays it (the tied card). Conditions: none beyond the row's own. -/
import Derived.Test.YtpnfkilfgdnogaaGreatDoorOwnG
import Derived.Test.YtpnfkilfgdnogaaGreatDoorTxM
import Derived.Test.YtpnfkilfgdnogaaGreatDoorImgA
import Derived.Laws.IdiomCopy
import Derived.Deep.DeepCutAuto
import Derived.Lib.LazyBuf
import Derived.Test.YtpnfkilfgdnogaaGreatDoorImgC

/- Layer 11's law ImagePages, plain: a file's bytes as a function, page by page. -/
section
namespace Go.Proofs.YtpnfkilfgdnogaaGreatDoor.Img
set_option linter.unusedVariables false
set_option linter.unusedSimpArgs false
open Go.RowKit Go.Shelf Go.Maps Oct Dev Jou Tx Geo Ino Bm
abbrev Bytes := Nat → UInt8
/-- A page of these bytes. -/
def chunkB (f : Bytes) (p : Nat) : ByteArray := B ((List.range 64).map fun i => f (p * 64 + i))
theorem chunkB_size (f : Bytes) (p : Nat) : (chunkB f p).size = 64 := by
  unfold chunkB
  rw [size_B, List.length_map, List.length_range]
theorem chunkB_congr {f g : Bytes} {p : Nat} (h : ∀ i, i < 64 → f (p * 64 + i) = g (p * 64 + i)) : chunkB f p = chunkB g p := by
  unfold chunkB
  congr 1
  exact List.map_congr_left (fun i hi => h i (List.mem_range.1 hi))
theorem chunk_ext {s : ByteArray} {f : Bytes} {p : Nat} (hs : s.size = 64) (h : ∀ i, i < 64 → (L s)[i]? = some (f (p * 64 + i))) : s = chunkB f p := by
  apply L_inj
  unfold chunkB
  rw [L_B]
  refine List.ext_getElem? (fun i => ?_)
  by_cases hi : i < 64
  · rw [h i hi, List.getElem?_map, List.getElem?_range hi]
    rfl
  · rw [List.getElem?_eq_none (by rw [len_L]; omega), List.getElem?_eq_none (by rw [List.length_map, List.length_range]; omega)]
theorem chunk_get (f : Bytes) (p i : Nat) (hi : i < 64) : (L (chunkB f p))[i]? = some (f (p * 64 + i)) := by
  unfold chunkB
  rw [L_B, List.getElem?_map, List.getElem?_range hi]
  rfl
def zeroF : Bytes := fun _ => 0
theorem zS_chunk (p : Nat) : zS = chunkB zeroF p := by
  refine chunk_ext zS_size (fun i hi => ?_)
  unfold zS
  rw [L_B, List.getElem?_replicate, if_pos hi]
  rfl
/-- Nothing behind n. -/
def zFrom (f : Bytes) (n : Nat) : Bytes := fun k => if k < n then f k else 0
def putPg (f : Bytes) (p : Nat) (t : ByteArray) : Bytes := fun k => if p * 64 ≤ k ∧ k < p * 64 + 64 then (L t).getD (k - p * 64) 0 else f k
/-- The first bytes, and noughts. -/
theorem front_zero {s r : ByteArray} {f : Bytes} {q m : Nat} (hm : m ≤ 64) (hs : L s = (L r).take m ++ List.replicate (64 - m) 0) (hr : ∀ i, i < m → (L r)[i]? = some (f (q * 64 + i))) : s = chunkB (zFrom f (q * 64 + m)) q := by
  have hl : ((L r).take m).length = m := by
    rw [List.length_take]
    by_cases h0 : m = 0
    · omega
    · have := hr (m - 1) (by omega)
      have := (List.getElem?_eq_some_iff.1 this).1
      omega
  have h64 : s.size = 64 := by
    rw [← len_L, hs, List.length_append, hl, List.length_replicate]
    omega
  refine chunk_ext h64 (fun i hi => ?_)
  rw [hs]
  unfold zFrom
  by_cases h : i < m
  · rw [List.getElem?_append_left (by omega), List.getElem?_take, if_pos h, hr i h, if_pos (by omega)]
  · rw [List.getElem?_append_right (by omega), hl, List.getElem?_replicate, if_pos (by omega), if_neg (by omega)]
theorem L_zS : L zS = List.replicate 64 0 := by
  unfold zS
  rw [L_B]
theorem drop_zS (m : Nat) : ((L zS).drop m).take (64 - m) = List.replicate (64 - m) 0 := by
  rw [L_zS, List.drop_replicate, List.take_replicate, Nat.min_self]
theorem cutPg_chunk (f : Bytes) (q m : Nat) (hm : m ≤ 64) : cutPg (chunkB f q) m = chunkB (zFrom f (q * 64 + m)) q := by
  have hz : (zS.extract m 64).size = 64 - m := by
    rw [ByteArray.size_extract, zS_size]
    omega
  refine front_zero (r := chunkB f q) hm ?_ (fun i hi => chunk_get f q i (by omega))
  unfold cutPg patchS
  rw [hz, chunkB_size, ext_B, ext_B, ext_B, append_B, append_B, L_B, L_B, L_B, L_B, L_B, drop_zS, List.drop_zero, Nat.sub_zero]
  have e : 64 - (m + (64 - m)) = 0 := by omega
  rw [e, List.take_zero, List.append_nil]
theorem cutS_chunk (f : Bytes) (q m : Nat) (t : ByteArray) (ht : t.size = 64) (hm : m ≤ 64) : cutS t m = chunkB (zFrom (putPg f q t) (q * 64 + m)) q := by
  refine front_zero (r := t) hm ?_ (fun i hi => ?_)
  · unfold cutS
    rw [ext_B, ext_B, append_B, L_B, L_B, L_B, drop_zS, List.drop_zero, Nat.sub_zero]
  · unfold putPg
    rw [if_pos (by omega)]
    have hi2 : i < (L t).length := by rw [len_L]; omega
    have e : q * 64 + i - q * 64 = i := by omega
    rw [e, List.getD_eq_getElem?_getD, List.getElem?_eq_getElem hi2]
    rfl
/-- The pages of a file that is shorter, or longer. -/
theorem chunk_cut (f : Bytes) (n q : Nat) : chunkB (zFrom f n) q = if q < pagesN n then (if n % 64 ≠ 0 ∧ q = n / 64 then cutPg (chunkB f q) (n % 64) else chunkB f q) else zS := by
  by_cases h : q < pagesN n
  · rw [if_pos h]
    by_cases hc : n % 64 ≠ 0 ∧ q = n / 64
    · rw [if_pos hc, cutPg_chunk f q (n % 64) (by omega)]
      have e : q * 64 + n % 64 = n := by omega
      rw [e]
    · rw [if_neg hc]
      refine chunkB_congr (fun i hi => ?_)
      unfold zFrom
      unfold pagesN at h
      rw [if_pos (by omega)]
  · rw [if_neg h, zS_chunk q]
    refine chunkB_congr (fun i hi => ?_)
    unfold zFrom zeroF
    unfold pagesN at h
    rw [if_neg (by omega)]
/-- The pages of a file of which one is put. -/
theorem chunk_put (f : Bytes) (p n q : Nat) (t : ByteArray) (ht : t.size = 64) (hp : p * 64 < n) (hz : ∀ k, n ≤ k → f k = 0) : chunkB (zFrom (putPg f p t) n) q = if q = p then cutS t (min 64 (n - p * 64)) else chunkB f q := by
  by_cases h : q = p
  · subst h
    rw [if_pos rfl, cutS_chunk f q (min 64 (n - q * 64)) t ht (Nat.min_le_left _ _)]
    refine chunkB_congr (fun i hi => ?_)
    unfold zFrom
    by_cases h2 : q * 64 + i < n
    · rw [if_pos h2, if_pos (by omega)]
    · rw [if_neg h2, if_neg (by omega)]
  · rw [if_neg h]
    refine chunkB_congr (fun i hi => ?_)
    unfold zFrom putPg
    by_cases h2 : q * 64 + i < n
    · rw [if_pos h2, if_neg (by omega)]
    · rw [if_neg h2, hz _ (by omega)]
end Go.Proofs.YtpnfkilfgdnogaaGreatDoor.Img
end

/- Layer 11's law ImagePages: a file's pages, behind each of SetPage, Resize and a commit. -/
section
namespace Go.Proofs.YtpnfkilfgdnogaaGreatDoor.Img
set_option linter.unusedVariables false
set_option linter.unusedSimpArgs false
open Go.RowKit Go.Shelf Go.Maps Go.Sort Oct Dev Jou Tx Geo Ino Bm
theorem least_no {s : ByteArray} {m : Nat} (h : (leastB s (m : Int) false).2 = false) : ∀ k, k < m → k < 8 * s.size → bitB s k = true := by
  intro k
  induction k using Nat.strongRecOn with
  | _ k ih =>
    intro h1 h2
    cases e : bitB s k with
    | true => rfl
    | false =>
      rw [leastB_of h1 h2 (fun j hj => ih j hj (by omega) (by omega)) e] at h
      cases h
theorem blks_len {x : InoT} {vs : List Nat} (hl : vs.length = 32) : (blks x vs).length ≤ 37 := by
  rw [blks_eq hl, List.length_append, List.length_append]
  have h1 := List.length_filter_le (fun v => decide (v ≠ 0)) (dirL x)
  have h2 := List.length_filter_le (fun v => decide (v ≠ 0)) vs
  have h3 : (dirL x).length = 4 := rfl
  have h4 : (if x.ind = 0 then [] else [x.ind]).length ≤ 1 := by split <;> simp
  omega
/-- The law's geometry. -/
structure G50 (E : Im) : Prop where
  i : E.i = 4
  bl : E.bl = 50
  j : E.j = 60
theorem most60 : mostN 60 = 57 := by decide
/-- Inode 2 is a file of n bytes, these; no other inode has a block. -/
structure Pg (E : Im) (D : Secs) (f : Bytes) (n : Nat) (ino : Nat → InoT) (vs : Nat → List Nat) : Prop where
  own : Owns E D ino vs
  kind : (ino 2).kind = 1
  size : (ino 2).size = n
  no : ∀ m, 1 ≤ m → m ≤ E.i → m ≠ 2 → blks (ino m) (vs m) = []
  pages : ∀ p, p < 36 → pgS E D (ino 2) (vs 2) p = chunkB f p
section
variable {E : Im} {D : Secs} {f : Bytes} {n : Nat} {ino : Nat → InoT} {vs : Nat → List Nat} {Z : Nat → Prop} {W : World}
theorem Pg.taken (h : Pg E D f n ino vs) (g : G50 E) {b : Nat} (h1 : 1 ≤ b) (hb : b ≤ 50) (hbit : bitB (D (fr E 3)) b = true) : b ∈ blks (ino 2) (vs 2) := by
  obtain ⟨m, m1, m2, hm⟩ := (h.own.bit b h1 (by rw [g.bl]; exact hb)).1 hbit
  by_cases e : m = 2
  · rw [e] at hm
    exact hm
  · rw [h.no m m1 m2 e] at hm
    cases hm
theorem Pg.len (h : Pg E D f n ino vs) (g : G50 E) : (blks (ino 2) (vs 2)).length ≤ 37 := blks_len (h.own.ind 2 (by omega) (by rw [g.i]; omega)).len
/-- There is a free block, and another one. -/
theorem Pg.free (h : Pg E D f n ino vs) (g : G50 E) (hs : Small E) (h3 : (D (fr E 3)).size = 64) : (lst E D).2 = true ∧ (lst E (newD E D)).2 = true := by
  have hle := h.len g
  have key : ∀ (s : ByteArray) (d : Nat), s.size = 64 → (∀ b, b ≠ d → bitB s b = true → bitB (D (fr E 3)) b = true) → (leastB s (E.bl + 1 : Nat) false).2 = true := by
    intro s d hsz hb
    cases e : (leastB s (E.bl + 1 : Nat) false).2 with
    | true => rfl
    | false =>
      have hall := least_no e
      rw [g.bl, hsz] at hall
      have h7 := List.Nodup.length_le_of_subset (l₁ := (List.range' 1 50).erase d) (l₂ := blks (ino 2) (vs 2)) (List.Nodup.erase _ (List.nodup_range')) (fun b hb2 => by
        have hb3 := (List.Nodup.mem_erase_iff (List.nodup_range')).1 hb2
        rw [List.mem_range'_1] at hb3
        exact h.taken g (by omega) (by omega) (hb b hb3.1 (hall b (by omega) (by omega))))
      have h8 : 49 ≤ ((List.range' 1 50).erase d).length := by
        rw [List.length_erase]
        split <;> simp
      omega
  have hf : (lst E D).2 = true := key (D (fr E 3)) 0 h3 (fun b _ hb => hb)
  refine ⟨hf, ?_⟩
  obtain ⟨b, r, hL⟩ : ∃ b r, lst E D = (b, r) := ⟨_, _, rfl⟩
  rw [hL] at hf
  simp only at hf
  subst hf
  obtain ⟨b1, b2, b3⟩ := h.own.least hL
  have e : newD E D (fr E 3) = setB (D (fr E 3)) b true := by
    unfold newD
    rw [hL, upd_ne _ _ (q_dq3 hs b1).symm, blkD_fr hs b1]
  unfold lst
  rw [e]
  refine key _ b (by rw [size_setB]; exact h3) (fun k hk hbit => ?_)
  rw [bitB_setB _ _ _ _ (by rw [h3, g.bl] at *; omega), if_neg hk] at hbit
  exact hbit
/-- Another transaction, and another device's state: the same disk from the inodes' bits on. -/
theorem Pg.same (h : Pg E D f n ino vs) (hs : Small E) {D' : Secs} (M : Nat) (T : TxB) (b : DevB) (hard : List ByteArray) (k : Nat) (hlen : E.hard.length = (szL E.i E.bl E.j).sum) (hd : ∀ q, fr E 2 ≤ q → q < E.hard.length → D' q = D q) : Pg ⟨M, T, b, hard, k, E.i, E.bl, E.j⟩ D' f n ino vs := by
  have hv := hs.vals
  have h3 : D' (fr E 3) = D (fr E 3) := hd _ (by omega) (by rw [hlen]; omega)
  have ht : ∀ m, 1 ≤ m → m ≤ E.i → D' (tq E m) = D (tq E m) := fun m m1 m2 => hd _ (by unfold tq; omega) (tq_lt hs hlen m1 m2)
  have hq : ∀ b, 1 ≤ b → b ≤ E.bl → D' (dq E b) = D (dq E b) := fun b b1 b2 => hd _ (by unfold dq; omega) (by rw [hlen]; unfold dq; omega)
  refine ⟨⟨fun m m1 m2 => ?_, h.own.ok, h.own.ing, fun m m1 m2 => ?_, fun b b1 b2 => ?_, ?_, h.own.one, h.own.once⟩, h.kind, h.size, h.no, fun p hp => ?_⟩
  · have := h.own.is m m1 m2
    unfold InoIs at *
    exact (congrArg (fun s => ByteArray.extract s (io_ m) (io_ m + 32)) (ht m m1 m2)).trans this
  · have g := h.own.ind m m1 m2
    exact ⟨g.len, g.lt, g.no, fun h0 => (hq _ (by omega) (h.own.ing m m1 m2).2.2.2.2).trans (g.has h0)⟩
  · have g := h.own.bit b b1 b2
    rw [← h3] at g
    exact g
  · have g := h.own.zero
    rw [← h3] at g
    exact g
  · rw [← h.pages p hp]
    unfold pgS
    by_cases e : pageB (ino 2) (vs 2) p = 0
    · rw [if_pos e, if_pos e]
    · rw [if_neg e, if_neg e]
      by_cases h2 : 2 ≤ E.i
      · have hc := h.own.blk_le (by omega) h2 (h.own.pageBlk (by omega) h2 e)
        exact hq _ hc.1 hc.2
      · omega
end
end Go.Proofs.YtpnfkilfgdnogaaGreatDoor.Img
end

/- Layer 11's law ImagePages: SetPage, Resize, Page, and a commit, over a file's bytes. -/
section
namespace Go.Proofs.YtpnfkilfgdnogaaGreatDoor.Img
set_option linter.unusedVariables false
set_option linter.unusedSimpArgs false
open Go.RowKit Go.Shelf Go.Maps Go.Sort Oct Dev Jou Tx Geo Ino Bm
/-- The image shows a disk of which inode 2 is a file of n bytes; no other sectors than these were written. -/
def PgI (W : World) (E : Im) (f : Bytes) (n : Nat) (Ls : List Nat) : Prop := (∃ D ino vs, IS W E D (fun q => q ∈ Ls) ∧ Pg E D f n ino vs) ∧ (∀ q ∈ Ls, fr E 2 ≤ q) ∧ (∀ k, n ≤ k → f k = 0)
structure PgE (E : Im) : Prop where
  small : Small E
  g : G50 E
  all : All64 E.hard
section
variable {E : Im} {f : Bytes} {n : Nat} {Ls : List Nat} {W W' : World}
theorem PgI.later (h : PgI W E f n Ls) (hb : Below W.heap.size W W') : PgI W' E f n Ls := by
  obtain ⟨⟨D, ino, vs, h1, h2⟩, h3⟩ := h
  exact ⟨⟨D, ino, vs, h1.later hb, h2⟩, h3⟩
theorem cutPg_zS (m : Nat) (hm : m ≤ 64) : cutPg zS m = zS := by
  rw [zS_chunk 0, cutPg_chunk zeroF 0 m hm]
  refine chunkB_congr (fun i hi => ?_)
  unfold zFrom zeroF
  split <;> rfl
theorem q_ge (hs : Small E) : fr E 2 ≤ fr E 3 ∧ (∀ m, fr E 2 ≤ tq E m) ∧ ∀ b, 1 ≤ b → fr E 2 ≤ dq E b := by
  have hv := hs.vals
  refine ⟨by omega, fun m => ?_, fun b hb => ?_⟩
  · unfold tq
    omega
  · unfold dq
    omega
theorem set_pg (p : Nat) (t : ByteArray) (w : World) (hE : PgE E) (h : PgI w E f n Ls) (hl : Ls.length ≤ 45) (hp : p * 64 < n) (ht : t.size = 64) :
    Calls Tryz.prog 23 #[.pointer (some ⟨E.M, 0, none⟩), .int .u32 2, .int .i64 p, .string t] w fun e w' => e = .returned (.int .i64 0) ∧ (∃ Ls' : List Nat, Ls'.length ≤ 51 ∧ PgI w' E (zFrom (putPg f p t) n) n Ls') ∧ Tch (fun c => c = E.T.m) w w' := by
  obtain ⟨hs, g, _⟩ := hE
  obtain ⟨⟨D, ino, vs, h1, h2⟩, h3, h4⟩ := h
  have hv := hs.vals
  have h2i : (2 : Nat) ≤ E.i := by omega
  have hok := h2.own.ok 2 (by omega) h2i
  have hu : (ino 2).Used := hok.resolve_left (fun e => by have := h2.kind; rw [e] at this; cases this)
  have hsz := hu.size
  rw [h2.size] at hsz
  have hs3 : (D (fr E 3)).size = 64 := h1.sec (fr_lt hs h1 (.inr rfl))
  have hst := h1.sec (tq_lt hs h1.len (by omega) h2i)
  obtain ⟨l1, l2⟩ := h2.free g hs hs3
  obtain ⟨q3, qt, qd⟩ := q_ge hs
  have hni := fun b (h : 1 ≤ b) => qd b h
  let Ls' : List Nat := Ls ++ [fr E 3, tq E 2, max (fr E 2) (dq E (pageB (ino 2) (vs 2) p)), max (fr E 2) (dq E (ino 2).ind), max (fr E 2) (dq E (lst E D).1), max (fr E 2) (dq E (lst E (newD E D)).1)]
  have hlen : Ls'.length ≤ 51 := by
    simp only [Ls', List.length_append, List.length_cons, List.length_nil]
    omega
  have hge : ∀ q ∈ Ls', fr E 2 ≤ q := by
    intro q hq
    simp only [Ls', List.mem_append, List.mem_cons, List.not_mem_nil, or_false] at hq
    rcases hq with hq | rfl | rfl | rfl | rfl | rfl | rfl
    · exact h3 q hq
    · exact q3
    · exact qt 2
    · exact Nat.le_max_left _ _
    · exact Nat.le_max_left _ _
    · exact Nat.le_max_left _ _
    · exact Nat.le_max_left _ _
  have hmx : ∀ b, 1 ≤ b → max (fr E 2) (dq E b) = dq E b := fun b hb => Nat.max_eq_right (qd b hb)
  refine (setPage_cases (Z := fun q => q ∈ Ls') (Q := False) 2 p t w hs (h1.mono fun q hq => List.mem_append_left _ hq) h2.own (by omega) h2i (by rw [h2.kind]; omega) (by rw [h2.size]; exact hp) ht (by simp [Ls']) (by simp [Ls']) ?_ ?_ ?_).mono ?_
  · intro b b1 b2 hb
    simp only [Ls', List.mem_append, List.mem_cons, List.not_mem_nil, or_false]
    rcases hb with rfl | rfl | rfl | rfl
    · rw [hmx _ b1]; simp
    · rw [hmx _ b1]; simp
    · rw [hmx _ b1]; simp
    · rw [hmx _ b1]; simp
  · intro hf
    exact hf.no Ls' (fun q hq => hq) (by rw [g.j, most60]; omega)
  · rintro (e | e)
    · rw [l1] at e; cases e
    · rw [l2] at e; cases e
  · rintro e w' (⟨rfl, D', y, us, hsp, hw⟩ | ⟨rfl, ⟨hq, _⟩, _⟩)
    · refine ⟨rfl, ⟨Ls', hlen, ⟨D', put_ ino 2 y, put_ vs 2 us, hw.1, ?_⟩, hge, ?_⟩, hw.2⟩
      · have ow := hsp.owns h2.own hs (by omega) h2i hst hs3 (by omega)
        have pg := hsp.pages h2.own hs (by omega) h2i hs3 (by omega)
        obtain ⟨sk, sl, ss⟩ := hsp.same
        refine ⟨ow, ?_, ?_, ?_, ?_⟩
        · rw [put_same, sk]
          exact h2.kind
        · rw [put_same, ss]
          exact h2.size
        · intro m m1 m2 hm
          rw [put_ne _ _ hm, put_ne _ _ hm]
          exact h2.no m m1 m2 hm
        · intro q hq
          rw [put_same, put_same, pg q hq, chunk_put f p n q t ht hp h4, h2.size]
          by_cases e : q = p
          · rw [if_pos e, if_pos e]
          · rw [if_neg e, if_neg e]
            exact h2.pages q hq
      · intro k hk
        unfold zFrom
        rw [if_neg (by omega)]
    · exact hq.elim
/-- There is no such page. -/
theorem set_no (p : Nat) (t : ByteArray) (w : World) (hE : PgE E) (h : PgI w E f n Ls) (hp : n ≤ p * 64) (ht : t.size = 64) :
    Calls Tryz.prog 23 #[.pointer (some ⟨E.M, 0, none⟩), .int .u32 2, .int .i64 p, .string t] w fun e w' => e = .returned (.int .i64 2) ∧ Below w.heap.size w w' := by
  obtain ⟨hs, g, _⟩ := hE
  obtain ⟨⟨D, ino, vs, h1, h2⟩, h3, h4⟩ := h
  have hv := hs.vals
  have h2i : (2 : Nat) ≤ E.i := by omega
  exact setPage_arg 2 p t (ino 2) w hs h1 (by omega) h2i (h2.own.is 2 (by omega) h2i) (h2.own.ok 2 (by omega) h2i) (by rw [h2.kind]; omega) ht (.inr (.inr (by rw [h2.size]; omega)))
theorem resize_pg (m : Nat) (w : World) (hE : PgE E) (h : PgI w E f n Ls) (hl : Ls.length ≤ 45) (hm : m ≤ 2304) :
    Calls Tryz.prog 22 #[.pointer (some ⟨E.M, 0, none⟩), .int .u32 2, .int .u32 m] w fun e w' => e = .returned (.int .i64 0) ∧ (∃ Ls' : List Nat, Ls'.length ≤ 51 ∧ PgI w' E (zFrom f m) m Ls') ∧ Tch (fun c => c = E.T.m) w w' := by
  obtain ⟨hs, g, _⟩ := hE
  obtain ⟨⟨D, ino, vs, h1, h2⟩, h3, h4⟩ := h
  have hv := hs.vals
  have h2i : (2 : Nat) ≤ E.i := by omega
  have hk0 : (ino 2).kind ≠ 0 := by rw [h2.kind]; omega
  have hd2 : (ino 2).kind = 2 → m % 64 = 0 := fun e => by have := h2.kind; omega
  have hok := h2.own.ok 2 (by omega) h2i
  have hu : (ino 2).Used := hok.resolve_left (fun e => by have := h2.kind; rw [e] at this; cases this)
  have hs3 : (D (fr E 3)).size = 64 := h1.sec (fr_lt hs h1 (.inr rfl))
  have hst := h1.sec (tq_lt hs h1.len (by omega) h2i)
  obtain ⟨q3, qt, qd⟩ := q_ge hs
  have o := h2.own
  let Ls' : List Nat := Ls ++ [fr E 3, tq E 2, max (fr E 2) (dq E (ino 2).ind), max (fr E 2) (dq E (rszB (sized (cutEnd (ino 2) (pagesN m)) m) (cutV (ino 2) (vs 2) (pagesN m)) m))]
  have hlen : Ls'.length ≤ 51 := by
    simp only [Ls', List.length_append, List.length_cons, List.length_nil]
    omega
  have hge : ∀ q ∈ Ls', fr E 2 ≤ q := by
    intro q hq
    simp only [Ls', List.mem_append, List.mem_cons, List.not_mem_nil, or_false] at hq
    rcases hq with hq | rfl | rfl | rfl | rfl
    · exact h3 q hq
    · exact q3
    · exact qt 2
    · exact Nat.le_max_left _ _
    · exact Nat.le_max_left _ _
  have hmx : ∀ b, 1 ≤ b → max (fr E 2) (dq E b) = dq E b := fun b hb => Nat.max_eq_right (qd b hb)
  refine (resize_is (Z := fun q => q ∈ Ls') (Q := False) 2 m (ino 2) (vs 2) w hs (h1.mono fun q hq => List.mem_append_left _ hq) (by omega) h2i (o.is 2 (by omega) h2i) hok hk0 (o.ing 2 (by omega) h2i) (o.ind 2 (by omega) h2i) hm hd2 (o.hfr hs 2 _ (by omega) h2i hs3) (cutEnd_ok hu hm hd2) (cutEnd_ing (o.ing 2 (by omega) h2i)) (o.hyv hs 2 _ (by omega) h2i) (by simp [Ls']) (by simp [Ls']) ?_ ?_).mono ?_
  · intro b b1 b2 hb
    simp only [Ls', List.mem_append, List.mem_cons, List.not_mem_nil, or_false]
    rcases hb with rfl | rfl
    · rw [hmx _ b1]; simp
    · rw [hmx _ b1]; simp
  · intro hf
    exact hf.no Ls' (fun q hq => hq) (by rw [g.j, most60]; omega)
  · rintro e w' (⟨rfl, hw⟩ | ⟨rfl, ⟨hq, _⟩, _⟩)
    · refine ⟨rfl, ⟨Ls', hlen, ⟨_, put_ ino 2 (sized (cutEnd (ino 2) (pagesN m)) m), put_ vs 2 (cutV (ino 2) (vs 2) (pagesN m)), hw.1, ?_⟩, hge, ?_⟩, hw.2⟩
      · refine ⟨o.rsz hs 2 m (by omega) h2i hst hs3 hu hm hd2, ?_, ?_, ?_, ?_⟩
        · rw [put_same]
          refine Eq.trans ?_ h2.kind
          unfold sized cutEnd
          split <;> rfl
        · rw [put_same]
          rfl
        · intro q m1 m2 hq
          rw [put_ne _ _ hq, put_ne _ _ hq]
          exact h2.no q m1 m2 hq
        · intro q hq
          rw [put_same, put_same, o.rszPages hs 2 m (by omega) h2i hm q hq, h2.pages q hq, chunk_cut f m q]
          by_cases e1 : q < pagesN m
          · rw [if_pos e1, if_pos e1]
            by_cases e2 : m % 64 ≠ 0 ∧ q = m / 64
            · rw [if_pos e2]
              by_cases e3 : pageB (ino 2) (vs 2) q = 0
              · rw [if_neg (fun k => k.2.2 e3), ← h2.pages q hq]
                unfold pgS
                rw [if_pos e3, cutPg_zS _ (by omega)]
              · rw [if_pos ⟨e2.1, e2.2, e3⟩]
            · rw [if_neg e2, if_neg (fun k => e2 ⟨k.1, k.2.1⟩)]
          · rw [if_neg e1, if_neg e1]
      · intro k hk
        unfold zFrom
        rw [if_neg (by omega)]
    · exact hq.elim
theorem page_pg (p : Nat) (w : World) (hE : PgE E) (h : PgI w E f n Ls) (hp : p < 36) :
    Calls Tryz.prog 29 #[.pointer (some ⟨E.M, 0, none⟩), .int .u32 2, .int .i64 p] w fun e w' => e = .returned (.tuple #[.string (chunkB f p), .int .i64 0]) ∧ Below w.heap.size w w' := by
  obtain ⟨hs, g, _⟩ := hE
  obtain ⟨⟨D, ino, vs, h1, h2⟩, h3, h4⟩ := h
  have hv := hs.vals
  have h2i : (2 : Nat) ≤ E.i := by omega
  have o := h2.own
  rw [← h2.pages p hp]
  exact page_is 2 p (ino 2) (vs 2) w hs h1 (by omega) h2i (o.is 2 (by omega) h2i) (o.ok 2 (by omega) h2i) (by rw [h2.kind]; omega) (o.ing 2 (by omega) h2i) (o.ind 2 (by omega) h2i) hp
theorem PgI.size_le (h : PgI W E f n Ls) (hE : PgE E) : n ≤ 2304 := by
  obtain ⟨hs, g, _⟩ := hE
  obtain ⟨⟨D, ino, vs, h1, h2⟩, h3, h4⟩ := h
  have hv := hs.vals
  have hok := h2.own.ok 2 (by omega) (by omega)
  have hu : (ino 2).Used := hok.resolve_left (fun e => by have := h2.kind; rw [e] at this; cases this)
  have hsz := hu.size
  rw [h2.size] at hsz
  exact hsz
end
end Go.Proofs.YtpnfkilfgdnogaaGreatDoor.Img
end

/- Layer 11's law ImagePages: the file is made; a commit, and another transaction behind it. -/
section
namespace Go.Proofs.YtpnfkilfgdnogaaGreatDoor.Img
set_option linter.unusedVariables false
set_option linter.unusedSimpArgs false
open Go.RowKit Go.Shelf Go.Maps Go.Sort Oct Dev Jou Tx Geo Ino Bm
def L2 (E : Im) : List Nat := [fr E 2, tq E 2]
def PgM (W : World) (E : Im) : Prop := ∃ D, IS W E D (fun q => q ∈ L2 E) ∧ Owns E D inoF (fun _ => zs32)
section
variable {E : Im} {f : Bytes} {n : Nat} {Ls : List Nat} {W W' : World}
theorem PgM.later (h : PgM W E) (hb : Below W.heap.size W W') : PgM W' E := by
  obtain ⟨D, h1, h2⟩ := h
  exact ⟨D, h1.later hb, h2⟩
theorem l2_full (g : G50 E) : FullE E (fun q => q ∈ L2 E) → False := fun hf => hf.no (L2 E) (fun q hq => hq) (by rw [g.j, most60]; simp [L2])
theorem take_pg (w : World) (hs : Small E) (g : G50 E) (h : IS w E (fmtS E.i E.bl E.j) (fun _ => False)) :
    Calls Tryz.prog 19 #[.pointer (some ⟨E.M, 0, none⟩), .int .u32 2] w fun e w' => e = .returned (.int .i64 0) ∧ PgM w' E ∧ Tch (fun c => c = E.T.m) w w' := by
  obtain ⟨f2, _, _⟩ := fmt_at E E.i E.bl E.j hs rfl rfl rfl
  refine (take_is (Z := fun q => q ∈ L2 E) (Q := False) 2 w hs (h.mono (fun _ q => q.elim)) (by omega) (by rw [g.i]; omega) (by rw [f2, bit_two]; simp) (by simp [L2]) (l2_full g)).mono ?_
  rintro e W (⟨rfl, g1⟩ | ⟨_, g1⟩)
  · exact ⟨rfl, ⟨_, g1.1, (owns_fmt E hs).imap hs _⟩, g1.2⟩
  · exact g1.1.1.elim
theorem page_none : ∀ p, p < 36 → pageB xF zs32 p = 0 := by decide
theorem blks_xF : blks xF zs32 = [] := by kernel_rfl
theorem seti_pg (w : World) (hs : Small E) (g : G50 E) (h : PgM w E) :
    Calls Tryz.prog 20 #[.pointer (some ⟨E.M, 0, none⟩), .int .u32 2, xF.val] w fun e w' => e = .returned (.int .i64 0) ∧ PgI w' E zeroF 0 (L2 E) ∧ Tch (fun c => c = E.T.m) w w' := by
  obtain ⟨D, h1, h2⟩ := h
  have h2i : (2 : Nat) ≤ E.i := by rw [g.i]; omega
  have hst := h1.sec (tq_lt hs h1.len (by omega) h2i)
  obtain ⟨q3, qt, qd⟩ := q_ge hs
  have e0 : inoF 2 = noIno := put_ne _ _ (by omega)
  refine (setInode_is (Z := fun q => q ∈ L2 E) (Q := False) 2 xF w hs h1 (by omega) h2i xF_ok (by simp [L2]) (l2_full g)).mono ?_
  rintro e W (⟨rfl, g1⟩ | ⟨_, g1⟩)
  · refine ⟨rfl, ⟨⟨_, _, _, g1.1, ⟨h2.setIno hs 2 xF (by omega) h2i hst xF_ok (by rw [e0]; rfl), ?_, ?_, ?_, ?_⟩⟩, ?_, fun _ _ => rfl⟩, g1.2⟩
    · rw [put_same]
      rfl
    · rw [put_same]
      rfl
    · intro m m1 m2 hm
      rw [put_ne _ _ hm, put_ne _ _ hm]
      exact blks_F m
    · intro p hp
      rw [put_same, put_same, ← zS_chunk p]
      unfold pgS
      rw [if_pos (page_none p hp)]
    · intro q hq
      simp only [L2, List.mem_cons, List.not_mem_nil, or_false] at hq
      rcases hq with rfl | rfl
      · exact Nat.le_refl _
      · exact qt 2
  · exact g1.1.1.elim
/-- With just the sectors that were written. -/
def PgX (W : World) (E : Im) (f : Bytes) (n : Nat) (Ls : List Nat) : Prop := (∃ D ino vs, ISx W E D Ls ∧ Pg E D f n ino vs) ∧ (∀ q ∈ Ls, fr E 2 ≤ q) ∧ (∀ k, n ≤ k → f k = 0)
theorem PgX.pg (h : PgX W E f n Ls) : PgI W E f n Ls := by
  obtain ⟨⟨D, ino, vs, h1, h2⟩, h3⟩ := h
  exact ⟨⟨D, ino, vs, h1.is, h2⟩, h3⟩
theorem room_pg (w : World) (hE : PgE E) (h : PgI w E f n Ls) (hl : Ls.length ≤ 51) :
    Calls Tryz.prog 25 #[.pointer (some ⟨E.T.p, 0, none⟩)] w fun e w' => ∃ Lx : List Nat, e = .returned (.int .i64 (57 - Lx.length : Nat)) ∧ Lx.length ≤ 57 ∧ PgX w' E f n Lx ∧ Below w.heap.size w w' := by
  obtain ⟨hs, g, _⟩ := hE
  obtain ⟨⟨D, ino, vs, h1, h2⟩, h3, h4⟩ := h
  have hm : mostN E.j = 57 := by rw [g.j, most60]
  refine (room_is w h1 Ls (fun q hq => hq) (by omega) (by rw [g.j]; omega) (by omega)).mono ?_
  rintro e w' ⟨Lx, rfl, g1, g2, g3, b⟩
  rw [hm] at g1
  exact ⟨Lx, by rw [hm], g1, ⟨⟨D, ino, vs, g3, h2⟩, fun q hq => h3 q (g2 q hq), h4⟩, b⟩
theorem row60 : ∀ m, m ≤ 57 → 1 + ((2 * m + 63) / 64 + m) ≤ 60 := by decide
/-- What a commit leaves of the file. -/
structure PgC (E : Im) (f : Bytes) (n : Nat) (hard : List ByteArray) (k : Nat) : Prop where
  pg : ∃ D ino vs, Pg E D f n ino vs ∧ ∀ q, fr E 2 ≤ q → q < E.hard.length → hard.getD q ⟨#[]⟩ = D q
  z : ∀ k, n ≤ k → f k = 0
  len : hard.length = E.hard.length
  hl : E.hard.length = (szL E.i E.bl E.j).sum
  all : All64 hard
  le : k ≤ E.k + 600
theorem commit_pg (w : World) (hE : PgE E) (h : PgX w E f n Ls) (h0 : 0 < Ls.length) (hl : Ls.length ≤ 57) (hk : E.k ≤ 500000) :
    Calls Tryz.prog 26 #[.pointer (some ⟨E.T.p, 0, none⟩)] w fun e w' => ∃ (g : Nat) (hard : List ByteArray) (k : Nat), e = .returned (.tuple #[.int .u64 g, .int .i64 0]) ∧ PgC E f n hard k ∧ g ≤ k ∧ JouAt w' E.T.j E.b 1 E.j g ∧ DevAt w' E.b hard (fun _ => none) k ∧ Tch (fun c => (S3 E.b c ∨ c = E.T.j) ∨ c = E.T.p) w w' := by
  obtain ⟨hs, g, ha⟩ := hE
  obtain ⟨⟨D, ino, vs, h1, h2⟩, h3, h4⟩ := h
  have hm : mostN E.j = 57 := by rw [g.j, most60]
  have hlen := h1.is.len
  refine (commit_is w hs h1 h0 (by omega) h3 (by omega) (by rw [hm, g.j]; exact row60) ha (by omega)).mono ?_
  rintro e w' ⟨gg, hard, k, rfl, hK, ht⟩
  exact ⟨gg, hard, k, rfl, ⟨⟨D, ino, vs, h2, hK.at_⟩, h4, hK.len, hlen, hK.all, hK.le⟩, hK.gen, hK.jou, hK.dev, ht⟩
theorem begin_pg (hard : List ByteArray) (k g : Nat) (w : World) (h1 : JouAt w E.T.j E.b 1 E.j g) (h2 : DevAt w E.b hard (fun _ => none) k) (hg : g ≤ k) :
    Calls Tryz.prog 27 #[.pointer (some ⟨E.b.p, 0, none⟩), .pointer (some ⟨E.T.j, 0, none⟩)] w fun e w' => ∃ T : TxB, e = .returned (.tuple #[.pointer (some ⟨T.p, 0, none⟩), .int .i64 0]) ∧ T.j = E.T.j ∧ w.heap.size ≤ T.p ∧ w.heap.size ≤ T.m ∧ TJ w' T E.b hard k (fun _ => none) 0 1 E.j ∧ Below w.heap.size w w' := by
  refine (begin_any E.T.j w h2).mono ?_
  rintro e w' ⟨T, rfl, hTj, hTp, hTm, hT, b⟩
  refine ⟨T, rfl, hTj, hTp, hTm, ⟨hT, ⟨g, hg, ?_⟩, ?_⟩, b⟩
  · rw [hTj]
    exact SBox.later h1 b
  · have := h2.map.lt
    omega
theorem new_pg (T : TxB) (hard : List ByteArray) (k : Nat) (w : World) (hE : PgE E) (hC : PgC E f n hard k) (hT : TJ w T E.b hard k (fun _ => none) 0 1 E.j) :
    Calls Tryz.prog 28 #[.pointer (some ⟨T.p, 0, none⟩), geoV E.i E.bl E.j] w fun e w' => ∃ M : Nat, e = .returned (.tuple #[.pointer (some ⟨M, 0, none⟩), .int .i64 0]) ∧ w.heap.size ≤ M ∧ PgE ⟨M, T, E.b, hard, k, E.i, E.bl, E.j⟩ ∧ PgI w' ⟨M, T, E.b, hard, k, E.i, E.bl, E.j⟩ f n [] ∧ Below w.heap.size w w' := by
  obtain ⟨hs, g, ha⟩ := hE
  have hsz : ∀ q, q < hard.length → (readT (fun _ => none) hard q).size = 64 := fun q hq => by
    unfold readT
    simp only
    rw [List.getD_eq_getElem?_getD, List.getElem?_eq_getElem hq]
    exact hC.all q _ (List.getElem?_eq_getElem hq)
  refine (Img.new_any T E.b hard k E.i E.bl E.j 0 (fun _ => none) w hT hs.may (by rw [hC.len, hC.hl]) hsz).mono ?_
  rintro e w' ⟨M, rfl, hM, hI, b⟩
  obtain ⟨D, ino, vs, p1, p2⟩ := hC.pg
  refine ⟨M, rfl, hM, ⟨⟨hs.may, hs.hi, hs.hb, hs.hj⟩, ⟨g.i, g.bl, g.j⟩, hC.all⟩, ⟨⟨fun q => hard.getD q ⟨#[]⟩, ino, vs, ⟨_, _, hI, fun q hq => rfl, fun x hx => by cases hx⟩, ?_⟩, fun q hq => (by cases hq), hC.z⟩, b⟩
  exact p1.same hs M T E.b hard k hC.hl p2
end
end Go.Proofs.YtpnfkilfgdnogaaGreatDoor.Img
end

/- Layer 11's law ImagePages: the row of bytes that the law keeps, and the state of its loop. -/
section
namespace Go.Proofs.YtpnfkilfgdnogaaGreatDoor.Img
set_option linter.unusedVariables false
set_option linter.unusedSimpArgs false
open Go.RowKit Go.Shelf Go.Maps Go.Sort Oct Dev Jou Tx Geo Ino Bm
def rowB (f : Bytes) : Nat → Value := fun j => .int .u8 ((f j).toNat : Int)
/-- The law's row. -/
def RowF (W : World) (bb : Nat) (f : Bytes) : Prop := W.rowIs bb 5 2304 (rowB f)
/-- Noughts from a up to k. -/
def zr (f : Bytes) (a k : Nat) : Bytes := fun j => if a ≤ j ∧ j < k then 0 else f j
theorem zr_le (f : Bytes) {a k : Nat} (h : k ≤ a) : zr f a k = f := by
  funext j
  unfold zr
  rw [if_neg (by omega)]
theorem zr_end (f : Bytes) {a k : Nat} (h : ∀ j, k ≤ j → f j = 0) : zr f a k = zFrom f a := by
  funext j
  unfold zr zFrom
  by_cases h1 : j < a
  · rw [if_neg (by omega), if_pos h1]
  · rw [if_neg h1]
    by_cases h2 : j < k
    · rw [if_pos (by omega)]
    · rw [if_neg (by omega), h j (by omega)]
theorem zFrom_same (f : Bytes) {n : Nat} (h : ∀ j, n ≤ j → f j = 0) : zFrom f n = f := by
  funext j
  unfold zFrom
  by_cases h1 : j < n
  · rw [if_pos h1]
  · rw [if_neg h1, h j (by omega)]
section
variable {W W' : World} {bb : Nat} {f : Bytes}
theorem RowF.set0 {a k : Nat} (h : RowF W bb (zr f a k)) (ha : a ≤ k) : RowF (W.setCell ⟨bb, k, none⟩ (.int .u8 0)) bb (zr f a (k + 1)) :=
  (World.rowIs.set h k _).congr (fun j _ => by
    unfold rowB zr
    by_cases e : j = k
    · rw [if_pos e, if_pos (by omega)]
      rfl
    · rw [if_neg e]
      by_cases e2 : a ≤ j ∧ j < k
      · rw [if_pos e2, if_pos (by omega)]
      · rw [if_neg e2, if_neg (by omega)])
theorem rowIs_cells {t : TypeId} {n : Nat} : ∀ (vs : List Value) (o : Nat) (w : World) (g : Nat → Value), w.rowIs bb t n g → (w.setCells bb o vs).rowIs bb t n (fun j => if o ≤ j ∧ j < o + vs.length then (vs[j - o]?).getD (g j) else g j)
  | [], o, w, g, h => h.congr (fun j _ => by rw [if_neg (by simp only [List.length_nil]; omega)])
  | v :: r, o, w, g, h => by
    have h1 := rowIs_cells r (o + 1) _ _ (h.set o v)
    refine World.rowIs.congr (f := _) h1 (fun j _ => ?_)
    simp only [List.length_cons]
    by_cases e : j = o
    · subst e
      rw [if_neg (by omega), if_pos rfl, if_pos (by omega), Nat.sub_self]
      rfl
    · by_cases e2 : o + 1 ≤ j ∧ j < o + 1 + r.length
      · rw [if_pos e2, if_neg e, if_pos (by omega)]
        obtain ⟨k, rfl⟩ : ∃ k, j = o + 1 + k := ⟨j - (o + 1), by omega⟩
        have q1 : o + 1 + k - (o + 1) = k := by omega
        have q2 : o + 1 + k - o = k + 1 := by omega
        rw [q1, q2]
        rfl
      · rw [if_neg e2, if_neg e, if_neg (by omega)]
theorem RowF.put {p : Nat} {t : ByteArray} (h : RowF W bb f) (ht : t.size = 64) : RowF (W.setCells bb (p * 64) (t.data.toList.map fun x => Value.int .u8 (x.toNat : Int))) bb (putPg f p t) :=
  World.rowIs.congr (rowIs_cells _ _ _ _ h) (fun j _ => by
    have hl : (t.data.toList.map fun x => Value.int .u8 (x.toNat : Int)).length = 64 := by rw [List.length_map]; exact (len_L t).trans ht
    rw [hl]
    unfold rowB putPg
    by_cases e : p * 64 ≤ j ∧ j < p * 64 + 64
    · rw [if_pos e, if_pos e, List.getElem?_map]
      have h1 : j - p * 64 < (L t).length := by rw [len_L]; omega
      have h2 : t.data.toList[j - p * 64]? = some ((L t)[j - p * 64]) := List.getElem?_eq_getElem h1
      rw [h2, List.getD_eq_getElem?_getD, List.getElem?_eq_getElem h1]
      rfl
    · rw [if_neg e, if_neg e])
theorem RowF.later (h : RowF W bb f) (hb : Below W.heap.size W W') : RowF W' bb f := World.rowIs.of_block h (hb.block bb (World.rowIs.lt h))
theorem RowF.tch {S : Nat → Prop} (h : RowF W bb f) (ht : Tch S W W') (hS : ¬ S bb) : RowF W' bb f := World.rowIs.of_block h (ht.block bb (World.rowIs.lt h) hS)
/-- The row's bytes of a page, as a string. -/
theorem RowF.str (h : RowF W bb f) (p tq_ : Nat) (hto : tq_ ≤ 64) (hp : p * 64 + tq_ ≤ 2304) (cap : Nat) :
    (convert 52 9 (.slice (some ⟨bb, p * 64, none⟩) tq_ cap)).run Tryz.prog W = .ok (.string ((chunkB f p).extract 0 tq_)) W := by
  have hl : ((L (chunkB f p)).take tq_).length = tq_ := by rw [List.length_take, len_L, chunkB_size]; omega
  have h1 := run_convert_bytes_back (P := Tryz.prog) W 52 9 5 ⟨bb, p * 64, none⟩ cap ((L (chunkB f p)).take tq_) Tryz.underlying52 Tryz.underlying5 Tryz.underlying9 (fun j hj => by
    rw [hl] at hj
    have e1 : ((⟨bb, p * 64, none⟩ : Addr).add j) = ⟨bb, p * 64 + j, none⟩ := by unfold Addr.add; simp
    rw [e1, World.rowIs.cell h (by omega), List.getElem_take]
    have h2 := chunk_get f p j (by omega)
    have h3 := (List.getElem?_eq_some_iff.1 h2).2
    rw [h3]
    rfl)
  rw [hl] at h1
  rw [h1, ext_B, List.drop_zero, Nat.sub_zero]
  rfl
end
/-- The blocks that a step may write. -/
def Own6 (E : Im) (c : Nat) : Prop := c = E.T.m ∨ c = E.T.p ∨ c = E.T.j ∨ c = E.b.p ∨ c = E.b.g ∨ c = E.b.m
end Go.Proofs.YtpnfkilfgdnogaaGreatDoor.Img
end

/- Layer 11's law ImagePages: the loop's state behind each call. -/
section
namespace Go.Proofs.YtpnfkilfgdnogaaGreatDoor.Img
set_option linter.unusedVariables false
set_option linter.unusedSimpArgs false
open Go.RowKit Go.Shelf Go.Maps Go.Sort Oct Dev Jou Tx Geo Ino Bm
section
variable {W W' : World} {E : Im} {D : Secs} {Z : Nat → Prop} {f : Bytes} {n : Nat} {Ls : List Nat}
theorem IS.blocks (h : IS W E D Z) (hb : ∀ c, Own6 E c ∨ c = E.M → W'.heap[c]? = W.heap[c]?) : IS W' E D Z := by
  obtain ⟨f, nn, ⟨h1, ⟨⟨t1, t2, ⟨⟨cap, c1, c2⟩, d2, d3, d4, d5, d6⟩⟩, ⟨gen, j1, j2⟩, j3⟩, h3, h4⟩, h5⟩ := h
  have k := fun c hc => hb c (.inl hc)
  refine ⟨f, nn, ⟨(hb _ (.inr rfl)).trans h1, ⟨⟨(k _ (.inr (.inl rfl))).trans t1, t2.block (k _ (.inl rfl)), ⟨⟨cap, c1, (k _ (.inr (.inr (.inr (.inl rfl))))).trans c2⟩, d2.block (k _ (.inr (.inr (.inr (.inr (.inl rfl)))))), d3.block (k _ (.inr (.inr (.inr (.inr (.inr rfl)))))), (fun x e hx => by cases hx), d5, (fun x e hx => by cases hx)⟩⟩, ⟨gen, j1, (k _ (.inr (.inr (.inl rfl)))).trans j2⟩, j3⟩, h3, h4⟩, h5⟩
theorem PgI.blocks (h : PgI W E f n Ls) (hb : ∀ c, Own6 E c ∨ c = E.M → W'.heap[c]? = W.heap[c]?) : PgI W' E f n Ls := by
  obtain ⟨⟨D, ino, vs, h1, h2⟩, h3⟩ := h
  exact ⟨⟨D, ino, vs, h1.blocks hb, h2⟩, h3⟩
end
/-- What stays: where all lies, and what is no image's. -/
structure Fx (w0 : World) (b0 : DevB) (j0 gb bb : Nat) (i : Nat) (E : Im) (g : Bytes) (W : World) : Prop where
  e : PgE E
  eb : E.b = b0
  ej : E.T.j = j0
  ek : E.k ≤ 5000 + 600 * i
  row : RowF W bb g
  bel : Below w0.heap.size w0 W
  geo : SBox W gb 23 #[.int .i64 4, .int .i64 50, .int .i64 60]
  own : ∀ c, Own6 E c → w0.heap.size ≤ c ∧ c ≠ gb ∧ c ≠ bb
  mb : E.M ≠ bb
  bbo : w0.heap.size ≤ bb
  gbb : gb ≠ bb
section
variable {w0 W W' : World} {b0 : DevB} {j0 gb bb i lim n k g : Nat} {E : Im} {f r : Bytes} {Ls Lx : List Nat} {hard : List ByteArray} {T : TxB}
theorem Fx.later (h : Fx w0 b0 j0 gb bb i E r W) (hb : Below W.heap.size W W') : Fx w0 b0 j0 gb bb i E r W' :=
  ⟨h.e, h.eb, h.ej, h.ek, h.row.later hb, h.bel.trans (hb.mono h.bel.size), h.geo.later hb, h.own, h.mb, h.bbo, h.gbb⟩
theorem Fx.tch (h : Fx w0 b0 j0 gb bb i E r W) {S : Nat → Prop} (ht : Tch S W W') (hS : ∀ c, S c → Own6 E c) : Fx w0 b0 j0 gb bb i E r W' :=
  ⟨h.e, h.eb, h.ej, h.ek, h.row.tch ht (fun c => (h.own _ (hS _ c)).2.2 rfl), ht.below (fun c hc => (h.own c (hS c hc)).1) h.bel h.bel.size, (ht.block _ (SBox.lt h.geo) (fun c => (h.own _ (hS _ c)).2.1 rfl)).trans h.geo, h.own, h.mb, h.bbo, h.gbb⟩
theorem Fx.next (h : Fx w0 b0 j0 gb bb i E r W) : Fx w0 b0 j0 gb bb (i + 1) E r W :=
  ⟨h.e, h.eb, h.ej, by have := h.ek; omega, h.row, h.bel, h.geo, h.own, h.mb, h.bbo, h.gbb⟩
/-- The row alone is another one. -/
theorem Fx.wrote (h : Fx w0 b0 j0 gb bb i E r W) {r' : Bytes} (hr : RowF W' bb r') (hb : Below w0.heap.size w0 W') (hc : ∀ c, c ≠ bb → W'.heap[c]? = W.heap[c]?) : Fx w0 b0 j0 gb bb i E r' W' :=
  ⟨h.e, h.eb, h.ej, h.ek, hr, hb, (hc gb h.gbb).trans h.geo, h.own, h.mb, h.bbo, h.gbb⟩
theorem Fx.set0 {a k : Nat} (h : Fx w0 b0 j0 gb bb i E (zr r a k) W) (ha : a ≤ k) : Fx w0 b0 j0 gb bb i E (zr r a (k + 1)) (W.setCell ⟨bb, k, none⟩ (.int .u8 0)) :=
  h.wrote (h.row.set0 ha) (h.bel.setCell (p := ⟨bb, k, none⟩) h.bbo _) (fun c hc => heap_setCell_other W ⟨bb, k, none⟩ c _ hc)
theorem setCells_other {b c : Nat} (hne : c ≠ b) : ∀ (vs : List Value) (o : Nat) (w : World), (w.setCells b o vs).heap[c]? = w.heap[c]?
  | [], _, _ => rfl
  | v :: r, o, w => (setCells_other hne r (o + 1) _).trans (heap_setCell_other w ⟨b, o, none⟩ c v hne)
theorem setCells_below {B b : Nat} {a : World} (hb : B ≤ b) : ∀ (vs : List Value) (o : Nat) (w : World), Below B a w → Below B a (w.setCells b o vs)
  | [], _, _, h => h
  | v :: r, o, w, h => setCells_below hb r (o + 1) _ (h.setCell (p := ⟨b, o, none⟩) hb v)
theorem Fx.put {p : Nat} {t : ByteArray} (h : Fx w0 b0 j0 gb bb i E r W) (ht : t.size = 64) : Fx w0 b0 j0 gb bb i E (putPg r p t) (W.setCells bb (p * 64) (t.data.toList.map fun x => Value.int .u8 (x.toNat : Int))) :=
  h.wrote (h.row.put ht) (setCells_below h.bbo _ _ _ h.bel) (fun c hc => setCells_other hc _ _ _)
/-- The image, and the row. -/
def Rs (w0 : World) (b0 : DevB) (j0 gb bb i : Nat) (E : Im) (f r : Bytes) (n lim : Nat) (W : World) : Prop := Fx w0 b0 j0 gb bb i E r W ∧ ∃ Ls : List Nat, Ls.length ≤ lim ∧ PgI W E f n Ls
theorem Rs.later (h : Rs w0 b0 j0 gb bb i E f r n lim W) (hb : Below W.heap.size W W') : Rs w0 b0 j0 gb bb i E f r n lim W' := by
  obtain ⟨h1, Ls, h2, h3⟩ := h
  exact ⟨h1.later hb, Ls, h2, h3.later hb⟩
theorem Rs.mono (h : Rs w0 b0 j0 gb bb i E f r n lim W) {l2 : Nat} (hl : lim ≤ l2) : Rs w0 b0 j0 gb bb i E f r n l2 W := by
  obtain ⟨h1, Ls, h2, h3⟩ := h
  exact ⟨h1, Ls, by omega, h3⟩
theorem Rs.keep (h : Rs w0 b0 j0 gb bb i E f r n lim W) {r' : Bytes} (hF : Fx w0 b0 j0 gb bb i E r' W') (hc : ∀ c, c ≠ bb → W'.heap[c]? = W.heap[c]?) : Rs w0 b0 j0 gb bb i E f r' n lim W' := by
  obtain ⟨h1, Ls, h2, h3⟩ := h
  refine ⟨hF, Ls, h2, h3.blocks (fun c hcc => hc c ?_)⟩
  rcases hcc with q | rfl
  · exact (h1.own c q).2.2
  · exact h1.mb
theorem Rs.set0 {a k : Nat} (h : Rs w0 b0 j0 gb bb i E f (zr r a k) n lim W) (ha : a ≤ k) : Rs w0 b0 j0 gb bb i E f (zr r a (k + 1)) n lim (W.setCell ⟨bb, k, none⟩ (.int .u8 0)) :=
  h.keep (h.1.set0 ha) (fun c hc => heap_setCell_other W ⟨bb, k, none⟩ c _ hc)
theorem Rs.put {p : Nat} {t : ByteArray} (h : Rs w0 b0 j0 gb bb i E f r n lim W) (ht : t.size = 64) : Rs w0 b0 j0 gb bb i E f (putPg r p t) n lim (W.setCells bb (p * 64) (t.data.toList.map fun x => Value.int .u8 (x.toNat : Int))) :=
  h.keep (h.1.put ht) (fun c hc => setCells_other hc _ _ _)
theorem Rs.tail (h : Rs w0 b0 j0 gb bb i E f r n lim W) : n ≤ 2304 ∧ ∀ j, n ≤ j → f j = 0 := by
  obtain ⟨h1, Ls, h2, h3⟩ := h
  exact ⟨h3.size_le h1.e, h3.2.2⟩
theorem set_rs (p : Nat) (t : ByteArray) (w : World) (h : Rs w0 b0 j0 gb bb i E f r n 45 w) (hp : p * 64 < n) (ht : t.size = 64) :
    Calls Tryz.prog 23 #[.pointer (some ⟨E.M, 0, none⟩), .int .u32 2, .int .i64 p, .string t] w fun e w' => e = .returned (.int .i64 0) ∧ Rs w0 b0 j0 gb bb i E (zFrom (putPg f p t) n) r n 51 w' := by
  obtain ⟨h1, Ls, h2, h3⟩ := h
  refine (set_pg p t w h1.e h3 h2 hp ht).mono ?_
  rintro e w' ⟨rfl, ⟨L', q1, q2⟩, q3⟩
  exact ⟨rfl, h1.tch q3 (fun c hc => .inl hc), L', q1, q2⟩
theorem set_no_rs (p : Nat) (t : ByteArray) (w : World) (h : Rs w0 b0 j0 gb bb i E f r n 45 w) (hp : n ≤ p * 64) (ht : t.size = 64) :
    Calls Tryz.prog 23 #[.pointer (some ⟨E.M, 0, none⟩), .int .u32 2, .int .i64 p, .string t] w fun e w' => e = .returned (.int .i64 2) ∧ Rs w0 b0 j0 gb bb i E f r n 51 w' := by
  have h0 := h
  obtain ⟨h1, Ls, h2, h3⟩ := h
  refine (set_no p t w h1.e h3 hp ht).mono ?_
  rintro e w' ⟨rfl, b⟩
  exact ⟨rfl, (h0.later b).mono (by omega)⟩
theorem resize_rs (m : Nat) (w : World) (h : Rs w0 b0 j0 gb bb i E f r n 45 w) (hm : m ≤ 2304) :
    Calls Tryz.prog 22 #[.pointer (some ⟨E.M, 0, none⟩), .int .u32 2, .int .u32 m] w fun e w' => e = .returned (.int .i64 0) ∧ Rs w0 b0 j0 gb bb i E (zFrom f m) r m 51 w' := by
  obtain ⟨h1, Ls, h2, h3⟩ := h
  refine (resize_pg m w h1.e h3 h2 hm).mono ?_
  rintro e w' ⟨rfl, ⟨L', q1, q2⟩, q3⟩
  exact ⟨rfl, h1.tch q3 (fun c hc => .inl hc), L', q1, q2⟩
theorem page_rs (p : Nat) (w : World) (h : Rs w0 b0 j0 gb bb i E f r n lim w) (hp : p < 36) :
    Calls Tryz.prog 29 #[.pointer (some ⟨E.M, 0, none⟩), .int .u32 2, .int .i64 p] w fun e w' => e = .returned (.tuple #[.string (chunkB f p), .int .i64 0]) ∧ Rs w0 b0 j0 gb bb i E f r n lim w' := by
  have h0 := h
  obtain ⟨h1, Ls, h2, h3⟩ := h
  refine (page_pg p w h1.e h3 hp).mono ?_
  rintro e w' ⟨rfl, b⟩
  exact ⟨rfl, h0.later b⟩
/-- Fewer than 12 more may be: this many were written. -/
def Few (E : Im) (f : Bytes) (n : Nat) (W : World) : Prop := ∃ Lx : List Nat, 0 < Lx.length ∧ Lx.length ≤ 57 ∧ PgX W E f n Lx
theorem room_rs (w : World) (h : Rs w0 b0 j0 gb bb i E f r n 51 w) :
    Calls Tryz.prog 25 #[.pointer (some ⟨E.T.p, 0, none⟩)] w fun e w' => ∃ q : Nat, q ≤ 57 ∧ e = .returned (.int .i64 q) ∧ (12 ≤ q → Rs w0 b0 j0 gb bb i E f r n 45 w') ∧ (q < 12 → Fx w0 b0 j0 gb bb i E r w' ∧ Few E f n w') := by
  obtain ⟨h1, Ls, h2, h3⟩ := h
  refine (room_pg w h1.e h3 h2).mono ?_
  rintro e w' ⟨Lx, rfl, q1, q2, b⟩
  exact ⟨57 - Lx.length, by omega, rfl, fun q => ⟨h1.later b, Lx, by omega, q2.pg⟩, fun q => ⟨h1.later b, Lx, by omega, q1, q2⟩⟩
/-- Behind the commit. -/
def Cm (w0 : World) (b0 : DevB) (j0 gb bb i : Nat) (E : Im) (f r : Bytes) (n : Nat) (hard : List ByteArray) (k : Nat) (W : World) : Prop := Fx w0 b0 j0 gb bb i E r W ∧ PgC E f n hard k ∧ ∃ g, g ≤ k ∧ JouAt W E.T.j E.b 1 E.j g ∧ DevAt W E.b hard (fun _ => none) k
theorem commit_rs (w : World) (h : Fx w0 b0 j0 gb bb i E r w) (hx : Few E f n w) (hi : i ≤ 80) :
    Calls Tryz.prog 26 #[.pointer (some ⟨E.T.p, 0, none⟩)] w fun e w' => ∃ (g : Nat) (hard : List ByteArray) (k : Nat), e = .returned (.tuple #[.int .u64 g, .int .i64 0]) ∧ Cm w0 b0 j0 gb bb i E f r n hard k w' := by
  obtain ⟨Lx, x1, x2, x3⟩ := hx
  refine (commit_pg w h.e x3 x1 x2 (by have := h.ek; omega)).mono ?_
  rintro e w' ⟨g, hard, k, rfl, q1, q2, q3, q4, q5⟩
  refine ⟨g, hard, k, rfl, h.tch q5 (fun c hc => ?_), q1, g, q2, q3, q4⟩
  rcases hc with (((hc | hc | hc) | hc) | hc)
  · exact .inr (.inr (.inr (.inl hc)))
  · exact .inr (.inr (.inr (.inr (.inr hc))))
  · exact .inr (.inr (.inr (.inr (.inl hc))))
  · exact .inr (.inr (.inl hc))
  · exact .inr (.inl hc)
/-- Behind Begin. -/
def Cn (w0 : World) (b0 : DevB) (j0 gb bb i : Nat) (E : Im) (f r : Bytes) (n : Nat) (hard : List ByteArray) (k : Nat) (T : TxB) (W : World) : Prop := Fx w0 b0 j0 gb bb i E r W ∧ PgC E f n hard k ∧ T.j = E.T.j ∧ (∀ c, c = T.m ∨ c = T.p → w0.heap.size ≤ c ∧ c ≠ gb ∧ c ≠ bb) ∧ TJ W T E.b hard k (fun _ => none) 0 1 E.j
theorem begin_rs (w : World) (h : Cm w0 b0 j0 gb bb i E f r n hard k w) :
    Calls Tryz.prog 27 #[.pointer (some ⟨b0.p, 0, none⟩), .pointer (some ⟨j0, 0, none⟩)] w fun e w' => ∃ T : TxB, e = .returned (.tuple #[.pointer (some ⟨T.p, 0, none⟩), .int .i64 0]) ∧ Cn w0 b0 j0 gb bb i E f r n hard k T w' := by
  obtain ⟨h1, h2, g, h3, h4, h5⟩ := h
  rw [← h1.eb, ← h1.ej]
  refine (begin_pg hard k g w h4 h5 h3).mono ?_
  rintro e w' ⟨T, rfl, q1, q2, q3, q4, b⟩
  have l1 := h1.geo.lt
  have l2 := World.rowIs.lt h1.row
  have l3 := h1.bel.size
  exact ⟨T, rfl, (by rw [h1.eb, h1.ej]; exact h1.later b), h2, q1, fun c hc => by rcases hc with rfl | rfl <;> omega, q4⟩
set_option maxRecDepth 100000 in
theorem new_rs (w : World) (h : Cn w0 b0 j0 gb bb i E f r n hard k T w) :
    Calls Tryz.prog 28 #[.pointer (some ⟨T.p, 0, none⟩), .agg #[.int .i64 4, .int .i64 50, .int .i64 60]] w fun e w' => ∃ E' : Im, e = .returned (.tuple #[.pointer (some ⟨E'.M, 0, none⟩), .int .i64 0]) ∧ E'.T.p = T.p ∧ Rs w0 b0 j0 gb bb (i + 1) E' f r n 45 w' := by
  obtain ⟨h1, h2, h3, h4, h5⟩ := h
  have g := h1.e.g
  have hn := new_pg T hard k w h1.e h2 h5
  have l2 := World.rowIs.lt h1.row
  unfold geoV at hn
  rw [g.i, g.bl, g.j] at hn
  refine hn.mono ?_
  rintro e w' ⟨M, rfl, q1, q2, q3, b⟩
  have hL := h1.later b
  refine ⟨_, rfl, rfl, ⟨q2, h1.eb, h3.trans h1.ej, ?_, hL.row, hL.bel, hL.geo, ?_, ?_, h1.bbo, h1.gbb⟩, [], Nat.zero_le _, q3⟩
  · have q5 := h2.le
    have q6 := h1.ek
    have q7 : k ≤ 5000 + 600 * (i + 1) := by omega
    exact q7
  · intro c hc
    rcases hc with hc | hc | hc | hc | hc | hc
    · exact h4 c (.inl hc)
    · exact h4 c (.inr hc)
    · exact h1.own c (.inr (.inr (.inl (hc.trans h3))))
    · exact h1.own c (.inr (.inr (.inr (.inl hc))))
    · exact h1.own c (.inr (.inr (.inr (.inr (.inl hc)))))
    · exact h1.own c (.inr (.inr (.inr (.inr (.inr hc)))))
  · show M ≠ bb
    omega
end
end Go.Proofs.YtpnfkilfgdnogaaGreatDoor.Img
end

/- Layer 11's law ImagePages, walked. -/
section
namespace Go.Proofs.YtpnfkilfgdnogaaGreatDoor.Img
set_option linter.unusedVariables false
set_option linter.unusedSimpArgs false
open Go.RowKit Go.Shelf Go.Maps Go.Sort Oct Dev Jou Tx Geo Ino Bm
set_option maxRecDepth 100000 in
set_option maxHeartbeats 8000000 in
theorem imagePages_long (v : Value) (st : List St) (w : World) (hv : StsArg w v st) (hl : st.length ≤ 8796093022208) (hn : ∀ x ∈ st, x.s.size ≤ 140737488351232) (hR : RootAt w) (hlong : longB 80 8192 st = true) :
    Calls Tryz.prog 4 #[v] w fun e w' => e = .returned (.bool true) ∧ Below w.heap.size w w' := by
  have LO := Lib.hid (long_any v st w hv hl hn)
  rw [hlong] at LO
  have AL := Lib.hid (alive11 w hR)
  clear hv hl hn hR hlong
  go_enter Tryz.func4, Tryz.ntmps4
  go_wp2_with fail
  refine LO.out.mono ?_
  rintro e w1 ⟨rfl, rfl⟩
  go_wp2_with fail
  refine AL.out.mono ?_
  rintro e w3 ⟨rfl, b3⟩
  go_wp2
  go_ret
  exact ⟨rfl, b3⟩
theorem fmtL_64 (i bl j : Nat) : All64 (fmtL i bl j) := fun q s h => by
  unfold fmtL at h
  rw [List.getElem?_map] at h
  cases e : (List.range (szL i bl j).sum)[q]? with
  | none => rw [e] at h; cases h
  | some x =>
    rw [e] at h
    have h : fmtS i bl j x = s := Option.some.inj h
    rw [← h]
    exact fmtS_size i bl j x
theorem IS.lts {W : World} {E : Im} {D : Secs} {Z : Nat → Prop} (h : IS W E D Z) : ∀ c, Own6 E c ∨ c = E.M → c < W.heap.size := by
  obtain ⟨f, nn, ⟨h1, ⟨⟨t1, t2, ⟨⟨cap, c1, c2⟩, d2, d3, d4, d5, d6⟩⟩, ⟨gen, j1, j2⟩, j3⟩, h3, h4⟩, h5⟩ := h
  intro c hc
  rcases hc with (rfl | rfl | rfl | rfl | rfl | rfl) | rfl
  · exact t2.lt
  · exact SBox.lt t1
  · exact SBox.lt j2
  · exact SBox.lt c2
  · exact d2.lt
  · exact d3.lt
  · exact SBox.lt h1
/-- What is left of any number. -/
theorem uint_mod (x c : Int) (hc : 0 < c) (h2 : c ≤ 2305) : ∃ m : Nat, (m : Int) < c ∧ wrap64 ((IntKind.u64.wrap x).tmod c) = (m : Int) ∧ wrap64 ((IntKind.u64.wrap x).tmod c) % 4294967296 = (m : Int) := by
  have e1 : IntKind.u64.wrap x = x % 18446744073709551616 := by simp [IntKind.wrap, IntKind.bits, IntKind.signed]
  have h0 : 0 ≤ x % 18446744073709551616 := Int.emod_nonneg _ (by decide)
  have e2 : (IntKind.u64.wrap x).tmod c = (x % 18446744073709551616) % c := by rw [e1, Int.tmod_eq_emod_of_nonneg h0]
  have h3 : 0 ≤ (x % 18446744073709551616) % c := Int.emod_nonneg _ (by omega)
  have h4 : (x % 18446744073709551616) % c < c := Int.emod_lt_of_pos _ (by omega)
  rw [e2]
  generalize (x % 18446744073709551616) % c = y at *
  have e3 : wrap64 y = y := by unfold wrap64; omega
  exact ⟨y.toNat, by omega, by rw [e3]; omega, by rw [e3]; omega⟩
theorem wrap_i {x : Int} (h0 : 0 ≤ x) (h1 : x < 1000000) : IntKind.i64.wrap x = x := by
  simp [IntKind.wrap, IntKind.bits, IntKind.signed]
  omega
theorem RowF.copy {W : World} {bb : Nat} {f : Bytes} (h : RowF W bb f) (p : Nat) {t : ByteArray} (ht : t.size = 64) (hp : p * 64 + 64 ≤ 2304) (ty : TypeId) :
    (Builtin.copy_ #[52, 9] ty #[.slice (some ⟨bb, p * 64, none⟩) (2304 - p * 64) (2304 - p * 64), .string t]).run Tryz.prog W = .ok (.int .i64 64) (W.setCells bb (p * 64) (t.data.toList.map fun x => Value.int .u8 (x.toNat : Int))) := by
  have h1 := Go.run_copy_string (P := Tryz.prog) W 52 9 ty 5 bb (p * 64) (2304 - p * 64) (2304 - p * 64) t Tryz.underlying52 (fun w => by kernel_rfl) (by omega) (fun j hj => by rw [World.rowIs.cell h (by omega)]; rfl) (fun j _ => World.rowIs.frozen h _)
  rw [ht] at h1
  exact h1
theorem Rs.next {w0 W : World} {b0 : DevB} {j0 gb bb i lim n : Nat} {E : Im} {f r : Bytes} (h : Rs w0 b0 j0 gb bb i E f r n lim W) : Rs w0 b0 j0 gb bb (i + 1) E f r n lim W := ⟨h.1.next, h.2⟩
theorem cmp_min (n p : Nat) (h : p * 64 < n) (hn : n ≤ 2304) : ∃ z : Nat, min (64 : Int) ((n : Int) - (p : Int) * 64) = (z : Int) ∧ 0 < z ∧ z ≤ 64 ∧ p * 64 + z ≤ 2304 := ⟨min 64 (n - p * 64), by omega, by omega, by omega, by omega⟩
theorem cmp_facts (p z : Nat) (z0 : 0 < z) (z1 : z ≤ 64) (z2 : p * 64 + z ≤ 2304) : (0 : Int) ≤ z ∧ IntKind.i64.wrap ((p : Int) * 64) = (p : Int) * 64 ∧ IntKind.i64.wrap ((p : Int) * 64 + (z : Int)) = (p : Int) * 64 + (z : Int) ∧ wrap64 ((p : Int) * 64 + (z : Int)) = (p : Int) * 64 + (z : Int) ∧ (0 : Int) ≤ (p : Int) * 64 ∧ (p : Int) * 64 ≤ (p : Int) * 64 + (z : Int) ∧ (p : Int) * 64 + (z : Int) ≤ 2304 ∧ ((p : Int) * 64).toNat = p * 64 ∧ ((p : Int) * 64 + (z : Int)).toNat = p * 64 + z ∧ ¬ (2304 = p * 64) ∧ p * 64 + z - p * 64 = z :=
  ⟨by omega, wrap_i (by omega) (by omega), wrap_i (by omega) (by omega), by unfold wrap64; omega, by omega, by omega, by omega, by omega, by omega, by omega, by omega⟩
theorem cmp_str {w0 W : World} {b0 : DevB} {j0 gb bb i lim n : Nat} {E : Im} {f r : Bytes} (h : Rs w0 b0 j0 gb bb i E f r n lim W) (p z : Nat) (z1 : z ≤ 64) (z2 : p * 64 + z ≤ 2304) (d c : Nat) :
    (convert 52 9 (.slice (some ⟨bb, p * 64, none⟩) z c)).run Tryz.prog (W.drewN d) = .ok (.string ((chunkB r p).extract 0 z)) (W.drewN d) :=
  (h.1.row.later (⟨rfl, rfl, rfl, Nat.le_refl _, fun _ _ => rfl⟩ : Below W.heap.size W (W.drewN d))).str p z z1 z2 c
theorem cmp_size (f : Bytes) (p z : Nat) (z1 : z ≤ 64) : (((chunkB f p).size : Int) != 64) = false ∧ (z : Int) ≤ (chunkB f p).size := by
  have h := chunkB_size f p
  rw [h]
  exact ⟨rfl, by omega⟩
theorem sum50 : (szL 4 50 60).sum = 115 := by decide
theorem start_rs {w wA w4 w7 : World} {E : Im} (hA : wA.heap.size = w.heap.size + 1) (hD : DiskAt wA E 4 50 60 w4) (hP : PgI w7 E zeroF 0 (L2 E)) (hB : Below w.heap.size w w7) (hG : SBox w7 w.heap.size 23 #[.int .i64 4, .int .i64 50, .int .i64 60]) :
    Rs w E.b E.T.j w.heap.size w7.heap.size 0 E zeroF zeroF 0 45 (w7.alloc (.cells (madeCells #[.int .u8 0] 2304) 5)) := by
  have hb := (Below.refl w7.heap.size w7).alloc (Nat.le_refl _) (.cells (madeCells #[.int .u8 0] 2304) 5)
  have hlt := SBox.lt hG
  have hl7 : ∀ c, Own6 E c ∨ c = E.M → c < w7.heap.size := by
    obtain ⟨⟨D, ino, vs, h1, h2⟩, h3⟩ := hP
    exact h1.lts
  obtain ⟨o1, o2, o3, o4, o5⟩ := hD.own2
  have o6 := hD.own
  rw [hA] at o1 o2 o3 o4 o5 o6
  have hsz := hB.size
  refine ⟨⟨⟨hD.small, ⟨hD.ei, hD.eb, hD.ej⟩, by rw [hD.hard]; exact fmtL_64 4 50 60⟩, rfl, rfl, by rw [hD.ek, sum50]; omega, ?_, hB.trans (hb.mono hsz), SBox.later hG hb, ?_, ?_, hsz, by omega⟩, L2 E, by simp [L2], hP.later hb⟩
  · exact (World.rowIs_made w7 (.int .u8 0) 2304 5).congr (fun j _ => rfl)
  · intro c hc
    have h1 := hl7 c (.inl hc)
    rcases hc with hc | hc | hc | hc | hc | hc <;> omega
  · have := hl7 E.M (.inr rfl)
    omega
set_option maxRecDepth 100000 in
set_option maxHeartbeats 8000000 in
theorem imagePages_main (v : Value) (st : List St) (w : World) (hv : StsArg w v st) (hl : st.length ≤ 80) (hn : ∀ x ∈ st, x.s.size ≤ 8192) (hR : RootAt w) (hlong : longB 80 8192 st = false) :
    Calls Tryz.prog 4 #[v] w fun e w' => e = .returned (.bool true) ∧ Below w.heap.size w w' := by
  have LO := Lib.hid (long_any v st w hv (by omega) (fun x hx => by have := hn x hx; omega))
  rw [hlong] at LO
  have DK := Lib.hid (fun W (h : RootAt W) => (disk_any 4 50 60 W (by decide) (by omega) (by omega) (by omega) h : Calls Tryz.prog 11 #[.agg #[.int .i64 4, .int .i64 50, .int .i64 60]] W _))
  have AL := Lib.hid (fun W h => alive11 W h)
  have FI := Lib.hid (fun W => file_any W)
  have HR := Lib.hid hR
  have HN := Lib.hid hn
  obtain ⟨ao, cap, rfl, hrow⟩ : ∃ ao cap, v = .slice ao st.length cap ∧ (st.length = 0 ∨ ∃ b o, ao = some ⟨b, o, none⟩ ∧ b < w.heap.size ∧ StsAt w b o st) := by
    rcases hv with ⟨rfl, rfl⟩ | ⟨ad, c, rfl, rfl⟩ | ⟨b, o, c, rfl, h1, h2⟩
    · exact ⟨none, 0, rfl, .inl rfl⟩
    · exact ⟨some ad, c, rfl, .inl rfl⟩
    · exact ⟨some ⟨b, o, none⟩, c, rfl, .inr ⟨b, o, rfl, h1, h2⟩⟩
  have HRO := Lib.hid hrow
  clear hrow
  have HB0 := Lib.hid ((Below.refl _ w).alloc (Nat.le_refl _) (.cells #[.int .i64 4, .int .i64 50, .int .i64 60] 23))
  have HG0 := Lib.hid (SBox.new w 23 #[.int .i64 4, .int .i64 50, .int .i64 60])
  clear hR hv hn hlong
  go_enter Tryz.func4, Tryz.ntmps4
  go_wp2_with fail
  refine LO.out.mono ?_
  rintro e w1 ⟨rfl, rfl⟩
  have hX := HG0.out
  have X0 := hX.cell 0
  have X1 := hX.cell 1
  have X2 := hX.cell 2
  simp only [List.getElem?_toArray, List.getElem?_cons_zero, List.getElem?_cons_succ] at X0 X1 X2
  have Xl := hX.lt
  clear hX
  go_wp2_with fail
  refine (DK.out _ (HR.out.later HB0.out)).mono ?_
  rintro e w4 ⟨E, rfl, hD⟩
  have g : G50 E := ⟨hD.ei, hD.eb, hD.ej⟩
  have TK := Lib.hid (take_pg w4 hD.small g (by rw [g.i, g.bl, g.j]; exact hD.is))
  have SI := Lib.hid (fun W (h : PgM W E) => (seti_pg W hD.small g h : Calls Tryz.prog _ #[_, _, .agg #[.int .u8 1, .int .u16 1, .int .u32 0, .int .u16 0, .int .u16 0, .int .u16 0, .int .u16 0, .int .u16 0]] W _))
  have hTm : w.heap.size ≤ E.T.m := by
    have := hD.own
    have := HB0.out.size
    omega
  have hGT : w.heap.size ≠ E.T.m := by
    have h1 := HG0.out.lt
    have h2 := hD.own
    omega
  have HG4 := Lib.hid (SBox.later HG0.out hD.bel)
  have B4 := Lib.hid (HB0.out.trans (hD.bel.mono HB0.out.size))
  have HD := Lib.hid hD
  clear hD X0 X1 X2 Xl DK LO
  go_wp2_with fail
  refine TK.out.mono ?_
  rintro e w5 ⟨rfl, hM, t5⟩
  have HM5 := Lib.hid hM
  have hlt := SBox.lt HG4.out
  have HG5 := Lib.hid (show SBox w5 w.heap.size 23 _ from (t5.block _ hlt hGT).trans HG4.out)
  have B5 := Lib.hid (t5.below (fun c e => by rw [e]; exact hTm) B4.out B4.out.size)
  clear hM t5 TK hlt
  go_wp2_with fail
  refine (FI.out _).mono ?_
  rintro e w6 ⟨rfl, b6⟩
  have HM6 := Lib.hid (HM5.out.later b6)
  have HG6 := Lib.hid (SBox.later HG5.out b6)
  have B6 := Lib.hid (B5.out.trans (b6.mono B5.out.size))
  clear b6
  go_wp2_with fail
  refine (SI.out _ HM6.out).mono ?_
  rintro e w7 ⟨rfl, hP7, t7⟩
  have hlt := SBox.lt HG6.out
  have hG7 : SBox w7 w.heap.size 23 #[.int .i64 4, .int .i64 50, .int .i64 60] := (t7.block _ hlt hGT).trans HG6.out
  have hB7 := t7.below (fun c e => by rw [e]; exact hTm) B6.out B6.out.size
  have HS7 := Lib.hid (start_rs (World.size_alloc _ _) HD.out hP7 hB7 hG7)
  have hmk : ∀ W : World, (Instr.makeSlice 52 (.int .i64 2304) (.int .i64 2304)).run Tryz.prog W = .ok (.slice (some ⟨W.heap.size, 0, none⟩) 2304 2304) (W.alloc (.cells (madeCells #[.int .u8 0] 2304) 5)) := fun W => run_made 2304 (by omega) W
  clear hP7 t7 SI hlt hG7 hB7 HG6 B6 HM6 HG5 B5 HM5 HG4 B4 HG0 HB0 FI HD
  generalize E.b = b0 at *
  generalize E.T.j = j0 at *
  go_wp2_with fail
  go_loopw [6, 7, 9, 10] (fun t m s c wr => ∃ (k : Nat) (E' : Im) (f : Bytes) (n : Nat), k ≤ st.length ∧ t = .pointer (some ⟨E'.T.p, 0, none⟩) ∧ m = .pointer (some ⟨E'.M, 0, none⟩) ∧ s = .int .i64 n ∧ c = .int .i64 k ∧ Rs w b0 j0 w.heap.size w7.heap.size k E' f f n 45 wr) (fun _ _ _ c _ => 80 - (intOf c).toNat)
  case atStart => exact ⟨0, E, zeroF, 0, Nat.zero_le _, rfl, rfl, rfl, rfl, HS7.out⟩
  case round =>
    obtain ⟨k, F, f, n, hk, rfl, rfl, rfl, rfl, hR⟩ := hrel
    have HRr := Lib.hid hR
    have HB := Lib.hid hR.1.bel
    clear hR HS7
    by_cases hlt : k < st.length
    · obtain ⟨b, o, rfl, hb1, hst⟩ := HRO.out.resolve_left (by omega)
      have hx := StsAt.later hst hb1 HB.out
      have hx := hx k hlt
      have n1 := HN.out st[k] (List.getElem_mem hlt)
      have hcw := fun W (hW : Below w.heap.size w W) => StsAt.later hst hb1 hW k hlt 12 (.string st[k].s) rfl
      generalize st[k] = x at *
      obtain ⟨xd, xn, xi, xt, ⟨x0, x1, x2, x3, x4, x5, x6, x7⟩, xs, xr⟩ := x
      simp only at n1 hcw
      simp only [← Nat.add_assoc] at hcw
      have HCW := Lib.hid hcw
      clear hcw
      have C0 := hx 0 _ rfl
      have C1 := hx 1 _ rfl
      have C12 := hx 12 _ rfl
      simp only [← Nat.add_assoc, Nat.add_zero] at C0 C1 C12
      have q0 : (0 : Int) ≤ k := by omega
      have q3 : (k : Int) < st.length := by omega
      clear hx hst
      go_upto_if 74 with fail
      go_cut [9, 11, 12, 13, 14, 15] (fun s' a11 a12 a13 a14 a15 wx => ∃ (f' : Bytes) (n' : Nat), s' = .int .i64 n' ∧ Rs w b0 j0 w.heap.size w7.heap.size k F f' f' n' 51 wx)
      case first =>
        by_cases d6 : xd = 6
        · subst d6
          obtain ⟨m, hm, em, em2⟩ := uint_mod xn 2305 (by omega) (by omega)
          have RZ := Lib.hid (resize_rs m wr HRr.out (by omega))
          go_wp2_with fail
          simp only [em, em2]
          refine RZ.out.mono ?_
          rintro e w8 ⟨rfl, hR8⟩
          have HR8 := Lib.hid hR8
          have hft := HRr.out.tail
          clear hR8 RZ HB
          go_wp2_with fail
          go_loopw [12] (fun c wr => ∃ q : Nat, m ≤ q ∧ (q ≤ m ∨ q ≤ n) ∧ c = .int .i64 q ∧ Rs w b0 j0 w.heap.size w7.heap.size k F (zFrom f m) (zr f m q) m 51 wr) (fun c _ => n - (intOf c).toNat)
          case atStart => exact ⟨m, Nat.le_refl _, .inl (Nat.le_refl _), rfl, by rw [zr_le f (Nat.le_refl _)]; exact HR8.out⟩
          case round =>
            obtain ⟨q, hq1, hq2, rfl, hR⟩ := hrel
            have hrow := hR.1.row
            have HRq := Lib.hid hR
            clear hR HR8
            by_cases hqn : q < n
            · have c1 : (q : Int) < n := by omega
              have hc := World.rowIs.cell hrow (i := q) (by omega)
              have hf := World.rowIs.frozen hrow q
              have q5 : (0 : Int) ≤ q := by omega
              have q6 : (q : Int) < 2304 := by omega
              have RS := Lib.hid (HRq.out.set0 hq1)
              clear hrow
              go_wp2_with fail
              go_roundw
              case rel => exact ⟨q + 1, by omega, by omega, by go_num, RS.out⟩
              case measure => simp [intOf]; omega
            · have c1 : ¬ ((q : Int) < n) := by omega
              have HE := HRq.out
              rw [zr_end f (fun j hj => hft.2 j (by omega))] at HE
              have HE := Lib.hid HE
              clear hrow HRq
              go_wp2_with fail
              go_meet
              case rel => exact ⟨_, _, rfl, HE.out⟩
        · have t6 : (xd == 6) = false := by simp; omega
          obtain ⟨m, hm, em, em2⟩ := uint_mod xn 36 (by omega) (by omega)
          have hsz : (B (fullL xs)).size = 64 := by rw [size_B, fullL_len]
          have FU := Lib.hid (fun W => full_any xs W (by omega))
          have hft := HRr.out.tail
          clear HB
          by_cases hp : m * 64 < n
          · have SP := Lib.hid (fun W (h : Rs w b0 j0 w.heap.size w7.heap.size k F f f n 45 W) => set_rs m (B (fullL xs)) W h hp hsz)
            have c1 : (m : Int) * 64 < n := by omega
            have c2 : wrap64 ((m : Int) * 64) = (m : Int) * 64 := by unfold wrap64; omega
            go_wp2_with fail
            refine (FU.out _).mono ?_
            rintro e w8 ⟨rfl, b8⟩
            have HR8 := Lib.hid (HRr.out.later b8)
            clear b8
            go_wp2_with fail
            refine (SP.out _ HR8.out).mono ?_
            rintro e w9 ⟨rfl, hR9⟩
            have HR9 := Lib.hid hR9
            clear hR9 SP HR8
            go_upto_region 26 with fail
            go_cut [] (fun wx => Rs w b0 j0 w.heap.size w7.heap.size k F (zFrom (putPg f m (B (fullL xs))) n) (putPg f m (B (fullL xs))) n 51 wx)
            case first =>
              have HRD := Lib.hid (HR9.out.later (Below.refl _ _).drew)
              have q7 : (0 : Int) ≤ (m : Int) * 64 := by omega
              have q8 : (m : Int) * 64 ≤ 2304 := by omega
              have q9 : ((m : Int) * 64).toNat = m * 64 := by omega
              have C12 := HCW.out _ HRD.out.1.bel
              have q10 : ¬ (2304 = m * 64) := by omega
              have c3 : IntKind.i64.wrap ((m : Int) * 64) = (m : Int) * 64 := wrap_i q7 (by omega)
              go_region_law (first | (go_simp; go_at_call 24; refine (FU.out _).mono ?_; rintro e w10 ⟨rfl, b10⟩; have HR10 := Lib.hid (HRD.out.later b10); clear b10; have hcp := HR10.out.1.row.copy m hsz (by omega) 3))
              all_goals
                go_wp2_with fail
                go_meet
                exact HR10.out.put hsz
            case rest =>
              have HRB := Lib.hid hcut
              clear hcut
              go_wp2_with fail
              go_loopw [15] (fun c wr => ∃ q : Nat, n ≤ q ∧ q ≤ 2304 ∧ c = .int .i64 q ∧ Rs w b0 j0 w.heap.size w7.heap.size k F (zFrom (putPg f m (B (fullL xs))) n) (zr (putPg f m (B (fullL xs))) n q) n 51 wr) (fun c _ => 2304 - (intOf c).toNat)
              case atStart => exact ⟨n, Nat.le_refl _, hft.1, rfl, by rw [zr_le (putPg f m (B (fullL xs))) (Nat.le_refl _)]; exact HRB.out⟩
              case round =>
                obtain ⟨q, hq1, hq2, rfl, hR⟩ := hrel
                have hrow := hR.1.row
                have HRq := Lib.hid hR
                clear hR HRB
                by_cases hqn : q < 2304
                · have c1 : (q : Int) < 2304 := by omega
                  have hc := World.rowIs.cell hrow (i := q) hqn
                  have hf := World.rowIs.frozen hrow q
                  have q5 : (0 : Int) ≤ q := by omega
                  have RS := Lib.hid (HRq.out.set0 hq1)
                  clear hrow
                  go_wp2_with fail
                  go_roundw
                  case rel => exact ⟨q + 1, by omega, by omega, by go_num, RS.out⟩
                  case measure => simp [intOf]; omega
                · obtain rfl : q = 2304 := by omega
                  have HE := HRq.out
                  rw [zr_end (putPg f m (B (fullL xs))) (fun j hj => by unfold putPg; rw [if_neg (by omega)]; exact hft.2 j (by omega))] at HE
                  have HE := Lib.hid HE
                  clear hrow HRq
                  go_wp2_with fail
                  go_meet
                  case rel => exact ⟨_, _, rfl, HE.out⟩
          · have SP := Lib.hid (fun W (h : Rs w b0 j0 w.heap.size w7.heap.size k F f f n 45 W) => set_no_rs m (B (fullL xs)) W h (by omega) hsz)
            have c1 : ¬ ((m : Int) * 64 < n) := by omega
            have c2 : wrap64 ((m : Int) * 64) = (m : Int) * 64 := by unfold wrap64; omega
            go_wp2_with fail
            refine (FU.out _).mono ?_
            rintro e w8 ⟨rfl, b8⟩
            have HR8 := Lib.hid (HRr.out.later b8)
            clear b8
            go_wp2_with fail
            refine (SP.out _ HR8.out).mono ?_
            rintro e w9 ⟨rfl, hR9⟩
            have HRB := Lib.hid hR9
            clear hR9 SP HR8
            go_wp2_with fail
            go_loopw [15] (fun c wr => ∃ q : Nat, n ≤ q ∧ q ≤ 2304 ∧ c = .int .i64 q ∧ Rs w b0 j0 w.heap.size w7.heap.size k F f (zr f n q) n 51 wr) (fun c _ => 2304 - (intOf c).toNat)
            case atStart => exact ⟨n, Nat.le_refl _, hft.1, rfl, by rw [zr_le f (Nat.le_refl _)]; exact HRB.out⟩
            case round =>
              obtain ⟨q, hq1, hq2, rfl, hR⟩ := hrel
              have hrow := hR.1.row
              have HRq := Lib.hid hR
              clear hR HRB
              by_cases hqn : q < 2304
              · have c1 : (q : Int) < 2304 := by omega
                have hc := World.rowIs.cell hrow (i := q) hqn
                have hf := World.rowIs.frozen hrow q
                have q5 : (0 : Int) ≤ q := by omega
                have RS := Lib.hid (HRq.out.set0 hq1)
                clear hrow
                go_wp2_with fail
                go_roundw
                case rel => exact ⟨q + 1, by omega, by omega, by go_num, RS.out⟩
                case measure => simp [intOf]; omega
              · obtain rfl : q = 2304 := by omega
                have HE := HRq.out
                rw [zr_end f (fun j hj => hft.2 j (by omega)), zFrom_same f hft.2] at HE
                have HE := Lib.hid HE
                clear hrow HRq
                go_wp2_with fail
                go_meet
                case rel => exact ⟨_, _, rfl, HE.out⟩
      case rest =>
        obtain ⟨f', n', rfl, hR⟩ := hcut
        have HR1 := Lib.hid (room_rs wc hR)
        clear hR HRr HB C0 C1 C12 HCW
        go_wp2_with fail
        refine HR1.out.mono ?_
        rintro e w1 ⟨q, hq, rfl, hr1, hr2⟩
        have HRX := Lib.hid hr1
        have HRY := Lib.hid hr2
        clear hr1 hr2 HR1
        go_upto_if 147 with fail
        go_cut [6, 7, 16, 17, 18, 19, 20, 21] (fun t' m' a16 a17 a18 a19 a20 a21 wx => ∃ F' : Im, t' = .pointer (some ⟨F'.T.p, 0, none⟩) ∧ m' = .pointer (some ⟨F'.M, 0, none⟩) ∧ Rs w b0 j0 w.heap.size w7.heap.size (k + 1) F' f' f' n' 45 wx)
        case first =>
          by_cases q12 : q < 12
          · have c1 : (q : Int) < 12 := by omega
            obtain ⟨hF, hX⟩ := HRY.out q12
            have CM := Lib.hid (commit_rs w1 hF hX (by omega))
            clear hF hX HRX HRY
            go_wp2_with fail
            refine CM.out.mono ?_
            rintro e w2 ⟨gg, hard, kk, rfl, hC⟩
            have BG := Lib.hid (begin_rs w2 hC)
            clear hC CM
            go_wp2_with fail
            refine BG.out.mono ?_
            rintro e w3 ⟨T, rfl, hN⟩
            have hX := hN.1.geo
            have NW := Lib.hid (new_rs w3 hN)
            clear hN BG
            have X0 := hX.cell 0
            have X1 := hX.cell 1
            have X2 := hX.cell 2
            simp only [List.getElem?_toArray, List.getElem?_cons_zero, List.getElem?_cons_succ] at X0 X1 X2
            have Xl := hX.lt
            clear hX
            go_wp2_with fail
            refine NW.out.mono ?_
            rintro e w9 ⟨F', rfl, eT, hR⟩
            have HR9 := Lib.hid hR
            clear hR NW
            go_wp2_with fail
            go_meet
            case rel => exact ⟨F', by rw [eT], rfl, HR9.out⟩
          · have c1 : ¬ ((q : Int) < 12) := by omega
            have HR9 := Lib.hid (HRX.out (by omega))
            clear HRX HRY
            go_wp2_with fail
            go_meet
            case rel => exact ⟨F, rfl, rfl, HR9.out.next⟩
        case rest =>
          obtain ⟨F', rfl, rfl, hR⟩ := hcut
          have HR1 := Lib.hid hR
          clear hR HRX HRY
          go_wp2_with fail
          go_loopw [22] (fun c wr => ∃ p : Nat, p ≤ 36 ∧ c = .int .i64 p ∧ Rs w b0 j0 w.heap.size w7.heap.size (k + 1) F' f' f' n' 45 wr) (fun c _ => 40 - (intOf c).toNat)
          case atStart => exact ⟨0, by omega, rfl, HR1.out⟩
          case round =>
            obtain ⟨p, hp, rfl, hR⟩ := hrel
            have hft := hR.tail
            have HRr := Lib.hid hR
            clear hR HR1
            have c2 : wrap64 ((p : Int) * 64) = (p : Int) * 64 := by unfold wrap64; omega
            by_cases hpn : p * 64 < n'
            · have c1 : (p : Int) * 64 < n' := by omega
              have PG := Lib.hid (page_rs p _ HRr.out (by omega))
              go_wp2_with fail
              refine PG.out.mono ?_
              rintro e w5 ⟨rfl, hR5⟩
              have HR5 := Lib.hid hR5
              clear hR5 PG HRr
              have c3 : wrap64 ((n' : Int) - (p : Int) * 64) = (n' : Int) - (p : Int) * 64 := by unfold wrap64; omega
              go_upto_region 44 with fail
              obtain ⟨z, em, z0, z1, z2⟩ := cmp_min n' p hpn hft.1
              rw [em]
              clear em
              obtain ⟨g1, g3, g4, g5, g6, g7, g8, g9, g10, g11, g12⟩ := cmp_facts p z z0 z1 z2
              have hstr := cmp_str HR5.out p z z1 z2
              obtain ⟨g0, g2⟩ := cmp_size f' p z z1
              generalize chunkB f' p = sx at *
              go_quiet (fail)
              go_wp2_with fail
              go_roundw
              case rel => exact ⟨p + 1, by omega, by go_num, HR5.out.later ⟨rfl, rfl, rfl, Nat.le_refl _, fun _ _ => rfl⟩⟩
              case measure => simp [intOf]; omega
            · have c1 : ¬ ((p : Int) * 64 < n') := by omega
              go_wp2_with fail
              go_roundw
              case rel => exact ⟨k + 1, F', f', n', by omega, rfl, rfl, rfl, by go_num, HRr.out⟩
              case measure => simp [intOf]; omega
    · obtain rfl : k = st.length := by omega
      have AL2 := Lib.hid (AL.out _ (HR.out.later HB.out))
      clear HRr
      go_wp2_with fail
      refine AL2.out.mono ?_
      rintro e w8 ⟨rfl, b8⟩
      have B8 := Lib.hid (HB.out.trans (b8.mono HB.out.size))
      clear b8 AL2
      go_wp2
      go_ret
      exact ⟨rfl, B8.out⟩
end Go.Proofs.YtpnfkilfgdnogaaGreatDoor.Img
end

/- ImagePages, for every input: the law returns true, and its argument reads as it did; the root's inode as the program's text lays it (the tied card). Conditions: none beyond the row's own. -/
section
namespace Go.Proofs.YtpnfkilfgdnogaaGreatDoor.Img
open Go.RowKit Go.Shelf Go.Maps Oct Geo
theorem imagePages_any (v : Value) (st : List St) (w : World) (hv : StsArg w v st) (hl : st.length ≤ 8796093022208) (hn : ∀ x ∈ st, x.s.size ≤ 140737488351232 ∧ x.i < 4294967296 ∧ x.t < 4294967296) (hR : RootAt w) :
    Calls Tryz.prog 4 #[v] w fun e w' => e = .returned (.bool true) ∧ Below w.heap.size w w' := by
  cases h : longB 80 8192 st with
  | true => exact imagePages_long v st w hv hl (fun x hx => (hn x hx).1) hR h
  | false =>
    obtain ⟨h1, h2⟩ := long_no (by omega) h
    exact imagePages_main v st w hv h1 h2 hR h
end Go.Proofs.YtpnfkilfgdnogaaGreatDoor.Img
namespace Go.Proofs.YtpnfkilfgdnogaaGreatDoor.imagePages
open Go.Joins Go.ChangeShapes Go.WideShapes Go.ChangeAt Go.RowKit
open Oct Geo _root_.Go.Proofs.YtpnfkilfgdnogaaGreatDoor.Img
set_option linter.unusedVariables false
set_option maxRecDepth 100000 in
theorem contract (H : Type) (enc : TypeId × Value → H) (W : World) (base : Nat) (args : Array Value) (ds gs : List (DataW H)) (before : List MemPlace) (T : List TypeId)
    (hval0 : ∀ (j : Nat) t v, Tryz.f4.params[j]? = some t → args[j]? = some v → Value.okWide Tryz.prog W .any base t v)
    (hW : DataW.Whole enc Tryz.prog Tryz.f4.params.toList Rows.imagePagesSpec.vars false W args.toList ds gs before)
    (hsz0 : (DataW.weightsEach Tryz.prog (Tryz.f4.params.toList ++ T) (ds ++ gs)).all (· ≤ reachBytes) = true)
    (hL : laidMetH Tryz.prog Rows.imagePagesRow.laid W) :
    Calls Tryz.prog 4 args W fun e W' => ∃ v, e = .returned v ∧ Rows.imagePagesSpec.post enc Tryz.prog Tryz.f4 false true false false W args v W' := by
  have hR : RootAt W := root_of hL
  have hval : ∀ (j : Nat) t v, Tryz.f4.params[j]? = some t → args[j]? = some v → Value.okWide Tryz.prog W .any base t v := hval0
  have hW' := hW
  have hsz := hsz0
  obtain ⟨p, q, hA0, hV, rfl, hfz, hnd⟩ := hW
  have hA : DataW.TrodAll enc Tryz.prog W 0 (fun _ => true) true Tryz.f4.params.toList args.toList ds p := hA0
  rw [Tryz.params4] at hA hval hsz
  obtain ⟨v1, vs1, d1, ds1, p1, q1, hargs, rfl, rfl, h1, r1⟩ := trodAll_cons hA
  obtain ⟨rfl, rfl, rfl⟩ := trodAll_nil r1
  obtain rfl : args = #[v1] := by cases args; simp_all
  obtain ⟨rfl, rfl⟩ := trodVars_none hV
  obtain ⟨a1, len1, cap1, rfl⟩ := okWide_slice Tryz.underlying47 (hval 0 47 v1 rfl rfl)
  have k1 := h1
  have lt1 : ∀ x ∈ p1, x.block < W.heap.size := by obtain ⟨m, hm⟩ := k1; exact DataW.trod_lt m _ _ _ hm
  obtain ⟨st, s1, y1, z1⟩ := open_sts h1 hsz (j := 0) rfl rfl
  clear hA0 hval0 hsz0
  simp only [List.append_nil] at hW'
  refine (imagePages_any _ st W s1 y1 z1 hR).mono fun e W' ⟨he, bel⟩ => ?_
  subst he
  exact ⟨_, rfl, _, _, _, [], _, [], hW', trodAll_mk1 (shut_bool Tryz.underlying4 _), (trodAll_cons_mk (Below.trod laidOut (by kernel_rfl) (of_decide_eq_true (by kernel_rfl)) k1 bel lt1) trodAll_mk0), rfl, bel.frame _, fun h => by cases h⟩

set_option maxRecDepth 100000 in
theorem laid_met (os : Os) : laidMet Tryz.prog Rows.imagePagesRow.laid ((laidWorld os).forCall (fun _ _ => 0) ⟨#[], #[.slice none 0 0], []⟩).memory :=
  laidMet_of_run' 8 (by kernel_rfl) (by kernel_rfl)
set_option maxRecDepth 100000 in
theorem reads (os : Os) {H : Type} (enc : TypeId × Value → H) : ∃ places, DataW.whole enc Tryz.prog ((laidWorld os).forCall (fun _ _ => 0) ⟨#[], #[.slice none 0 0], []⟩).memory Tryz.f4.params.toList Rows.imagePagesSpec.vars false (#[.slice none 0 0] : Array Value).toList 8 = some ([.nil], [], places) :=
  ⟨[], by kernel_rfl⟩
set_option maxRecDepth 100000 in
theorem lifted (os : Os) (started : os.Started) (H : Type) (enc : TypeId × Value → H) (F : Stop.Interp) :
    ReturnsInHanded {} Tryz.checked os 4 .any ((OpenSpec.ofChange Rows.imagePagesSpec).preRow enc Tryz.prog Tryz.f4 Rows.imagePagesRow.domain false Rows.imagePagesRow.laid) (((OpenSpec.ofChange Rows.imagePagesSpec).at F).post enc Tryz.prog Tryz.f4 false true false false) := by
  obtain ⟨places, hx⟩ := reads os enc
  refine returnsInHanded_of_row (C := Tryz.checked) (s := OpenSpec.ofChange Rows.imagePagesSpec) own started (by kernel_rfl) Tryz.func4
    (witness_row_at (enc := enc) (C := Tryz.checked) false (laidWorld os) #[.slice none 0 0] rfl (by kernel_rfl) (by kernel_rfl) (by kernel_rfl)
      (OpenSpec.preRow_of_cond 8 hx (by kernel_rfl) (fun k hk => by cases hk) (by kernel_rfl) (laid_met os))) ?_
  intro W base args ds gs before hval hW _ _ hsz hL _ _
  exact contract H enc W base args ds gs before _ hval hW hsz hL
set_option maxRecDepth 100000 in
theorem said : Rows.ImagePagesSaid :=
  OpenClaim.holds_of_cond 4 Tryz.f4 rfl rfl rfl rfl rfl rfl rfl ⟨rfl, rfl, rfl, rfl, rfl⟩ rfl rfl rfl rfl rfl (by kernel_rfl) Tryz.func4 (by kernel_rfl)
    (of_decide_eq_true (by kernel_rfl)) (by unfold Func.isWrapper; first | (rw [if_pos (by decide +kernel)]; kernel_rfl) | (rw [if_neg (by decide +kernel)]; exact ⟨rfl, rfl⟩))
    (fun os started H enc _ F => by rw [OpenClaim.pre_eq_preRow]; exact lifted os started H enc F)
set_option maxRecDepth 100000 in
theorem plain (f : FuncId) (fn : Func) (hf : Tryz.pinned.checked.prog.funcNamed "lunette/lunettelaw11.ImagePages" = some f) (hfn : Tryz.pinned.checked.prog.funcs[f]? = some fn) :
    false = Tryz.pinned.checked.prog.looks [] ∧ ∀ (j : Nat) t, fn.params[j]? = some t → Tryz.pinned.checked.prog.wantsStandIn t = false := by
  obtain rfl : f = 4 := Option.some.inj ((show Tryz.prog.funcNamed "lunette/lunettelaw11.ImagePages" = some 4 by kernel_rfl).symm.trans hf) |>.symm
  obtain rfl : fn = Tryz.f4 := (Option.some.inj (Tryz.func4.symm.trans hfn)).symm
  refine ⟨by kernel_rfl, fun j t ht => ?_⟩
  rw [Tryz.params4] at ht
  have hm : t ∈ [47] := by have := Array.mem_of_getElem? ht; simpa using this
  simp only [List.mem_cons, List.not_mem_nil, or_false] at hm
  subst hm
  exact (show Tryz.prog.wantsStandIn 47 = false by kernel_rfl)
theorem card : Rows.ImagePagesCardSaid :=
  Claim7.holds_tied_plain_at .later [] _ _ _ _ said (fun _ h => by cases h) (by kernel_rfl) (fun _ h => by cases h) imagePages_row_tie rfl ⟨rfl, rfl⟩ (by kernel_rfl) rfl plain (by kernel_rfl)
end Go.Proofs.YtpnfkilfgdnogaaGreatDoor.imagePages
end
