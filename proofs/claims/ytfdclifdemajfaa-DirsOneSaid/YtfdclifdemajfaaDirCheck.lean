/- Layer 10: the walk of dirs.Check. -/
import Derived.Test.YtfdclifdemajfaaDirSlots
import Derived.Maps.OwnSet
import Derived.Maps.Views
import Derived.StringKeys
namespace Go.Proofs.Ytfdclifdemajfaa.Dir
set_option linter.unusedVariables false
set_option linter.unusedSimpArgs false
open Go.RowKit Go.Shelf Oct Path
attribute [local go_sem] Oper.semAt_some
/-! ### The names that were met: a map -/
def oneD (n : Int) : DataW Unit := .agg [.lit (.int .i64 n)]
def oneElem (v : Value) : Option (DataW Unit × List MemPlace) := match v with
  | .agg cs => match cs.toList with
    | [.int .i64 n] => some (oneD n, [])
    | _ => none
  | _ => none
theorem oneElem_mk (n : Int) : oneElem (.agg #[.int .i64 n]) = some (oneD n, []) := rfl
theorem oneElem_inv {v : Value} {n : Int} {ps : List MemPlace} (h : oneElem v = some (oneD n, ps)) : v = .agg #[.int .i64 n] := by
  unfold oneElem at h
  split at h
  · rename_i cs
    split at h
    · rename_i m hm
      simp only [oneD, Option.some.injEq, Prod.mk.injEq, DataW.agg.injEq, List.cons.injEq, DataW.lit.injEq, Lit.int.injEq, true_and, and_true] at h
      obtain ⟨rfl, _⟩ := h
      congr 1
      exact Array.toList_inj.1 hm
    · cases h
  · cases h
def NMap (W : World) (b n : Nat) (S : List (List UInt8)) : Prop :=
  ∃ D : DataW Unit, W.ownsMap Try.prog 9 oneElem b n D ∧ ∀ l, D.atKey (.string l) (oneD 0) = if l ∈ S then oneD 1 else oneD 0
theorem NMap.lt {W : World} {b n : Nat} {S : List (List UInt8)} (h : NMap W b n S) : b < W.heap.size := by obtain ⟨D, h1, _⟩ := h; exact h1.lt
theorem NMap.kept {W W' : World} {b n : Nat} {S : List (List UInt8)} {row : Option Nat} (h : NMap W b n S) (hg : W.grownBy W' row) (hne : some b ≠ row) : NMap W' b n S := by
  obtain ⟨D, h1, h2⟩ := h
  exact ⟨D, h1.kept hg hne, h2⟩
theorem NMap.new (W : World) : NMap (W.alloc (.map #[] 0)) W.heap.size 0 [] := ⟨.map [], World.ownsMap_made _ _ _ _, fun l => rfl⟩
theorem NMap.look {W : World} {b n : Nat} {S : List (List UInt8)} (h : NMap W b n S) (s : ByteArray) (hs : s.size ≤ maxLen) :
    (Instr.lookup 99 (.map (some b)) (.string s) false).run Try.prog W = .ok (.agg #[.int .i64 (if L s ∈ S then 1 else 0)]) W := by
  obtain ⟨D, h1, h2⟩ := h
  obtain ⟨v, ps, hrun, hv⟩ := h1.lookup (Maps.string_keyed Try.underlying9) Try.underlying99 (z := .agg #[.int .i64 0]) (by kernel_rfl) (oneElem_mk 0) (WideMaps.keyOf_string_mk Try.underlying9 hs)
  rw [show s.data.toList = L s from rfl, h2] at hv
  rw [hrun]
  by_cases hm : L s ∈ S
  · rw [if_pos hm] at hv ⊢
    rw [oneElem_inv hv]
  · rw [if_neg hm] at hv ⊢
    rw [oneElem_inv hv]
theorem NMap.put {W : World} {b n : Nat} {S : List (List UInt8)} (h : NMap W b n S) (hn : n < maxLen) (s : ByteArray) (hs : s.size ≤ maxLen) :
    ∃ W', (Instr.mapUpdate 99 (.map (some b)) (.string s) (.agg #[.int .i64 1])).run Try.prog W = .ok () W' ∧ NMap W' b (n + 1) (S ++ [L s]) ∧ W.grownBy W' (some b) := by
  obtain ⟨D, h1, h2⟩ := h
  obtain ⟨W', hrun, r1, r2⟩ := h1.update (Maps.string_keyed Try.underlying9) Try.underlying99 hn (WideMaps.keyOf_string_mk Try.underlying9 hs) (oneElem_mk 1)
  refine ⟨W', hrun, ⟨_, r1, fun l => ?_⟩, r2⟩
  rw [show s.data.toList = L s from rfl]
  by_cases hl : l = L s
  · subst hl
    rw [Maps.atKey_put_same h1.isMap (show WideAt.IsKeyLit (.string (L s)) from trivial), if_pos (by simp)]
  · rw [Maps.atKey_put_other (by simpa using hl), h2]
    by_cases hm : l ∈ S
    · rw [if_pos hm, if_pos (by simp [hm])]
    · rw [if_neg hm, if_neg (by simp [hm, hl])]
theorem slots_any (s : ByteArray) (w : World) : Calls Try.prog 73 #[.string s] w fun e w' => e = .returned (.func (.func 87) #[] #[.pointer (some ⟨w.heap.size, 0, none⟩)]) ∧ w.alloc (.cells #[.string s] 9) = w' := by
  go_enter Try.func73, Try.ntmps73
  go_wp2
  go_ret
  exact ⟨rfl, rfl⟩
theorem slots_stops (n : Nat) (hn : 2 ≤ n) (Bs : Nat) (s : ByteArray) (hs : s.size ≤ 1099511627776) (w : World) (hBs : Boxed w Bs 9 (.string s)) :
    SeqStopsK Fence.wide n Try.prog 87 #[.pointer (some ⟨Bs, 0, none⟩)] (fun k => slotArgs (slotPair (L s) k)) (KeptBox Bs 9) (fun ys => ys = List.range (s.size / 32))
      (fun pre => ∃ k, k ≤ s.size / 32 ∧ pre = List.range k) (s.size / 32) w := fun l J Jx W hW hA _ hY h0 =>
  slots1_in n hn l Bs s hs J Jx (fun pre W1 W2 h g => hA pre W1 W2 none h g (fun r e => by cases e)) hY W ((hW.block Bs hBs.lt).trans hBs) h0
/-! ### What comes of the entries, one behind the other -/
def entAt (s : ByteArray) (k : Nat) : Ent := entL (partL (L s) k)
def entsAt (s : ByteArray) (pre : List Nat) : List Ent := pre.map (entAt s)
theorem ents_all (s : ByteArray) : entsAt s (List.range (s.size / 32)) = slotsL (L s) := rfl
theorem entsAt_snoc (s : ByteArray) (pre : List Nat) (k : Nat) : entsAt s (pre ++ [k]) = entsAt s pre ++ [entAt s k] := by simp [entsAt]
theorem ent_len (t : List UInt8) : (entL t).1.length ≤ 27 := by
  unfold entL
  cases h : readL t with
  | none => simp
  | some e =>
    rcases (enc_read h).1 with h1 | h1
    · subst h1; simp
    · exact (name_len (may_name h1.1).2).2
theorem ent_ino (t : List UInt8) : (entL t).2 < 4294967296 := by
  unfold entL
  cases h : readL t with
  | none => simp
  | some e =>
    rcases (enc_read h).1 with h1 | h1
    · subst h1; simp
    · exact h1.2
theorem ent_bad {t : List UInt8} (h0 : (entL t).2 ≠ 0) (h1 : (entL t).1 = []) : entL t = ([], 1) := by
  unfold entL at h0 h1 ⊢
  cases h : readL t with
  | none => rfl
  | some e =>
    rw [h] at h0 h1
    rcases (enc_read h).1 with h2 | h2
    · subst h2; exact absurd rfl h0
    · have := (name_len (may_name h2.1).2).1
      simp only [Option.getD_some] at h1
      rw [h1] at this
      simp at this
def bad (e : Ent) : Prop := e.2 ≠ 0 ∧ e.1 = []
def metN (s : ByteArray) (pre : List Nat) : List (List UInt8) := names (entsAt s pre)
def dupN (s : ByteArray) (pre : List Nat) : Bool := !decide (metN s pre).Nodup
theorem metN_free {s : ByteArray} {pre : List Nat} {k : Nat} (h : (entAt s k).2 = 0) : metN s (pre ++ [k]) = metN s pre := by
  unfold metN
  rw [entsAt_snoc, names_app, names_free h]
  simp [names, live]
theorem metN_live {s : ByteArray} {pre : List Nat} {k : Nat} (h : (entAt s k).2 ≠ 0) : metN s (pre ++ [k]) = metN s pre ++ [(entAt s k).1] := by
  unfold metN
  rw [entsAt_snoc, names_app, names_cons h]
  simp [names, live]
theorem dup_step {S : List (List UInt8)} {n : List UInt8} : (!decide (S ++ [n]).Nodup) = ((!decide S.Nodup) || decide (n ∈ S)) := by
  have e : (S ++ [n]).Nodup ↔ S.Nodup ∧ n ∉ S := by
    have p : (S ++ [n]).Perm (n :: S) := List.perm_append_singleton n S
    rw [p.nodup_iff, List.nodup_cons]
    exact And.comm
  by_cases h1 : S.Nodup <;> by_cases h2 : n ∈ S <;> simp [e, h1, h2]
theorem metN_len (s : ByteArray) (pre : List Nat) : (metN s pre).length ≤ pre.length := by
  unfold metN
  rw [← count_names]
  exact Nat.le_trans (List.length_filter_le _ _) (by simp [entsAt])
theorem nmap_own {β : Type} {B b : Nat} (hb : b < B) (f : β → List (List UInt8)) : OwnFrom B (fun s W => NMap W b (f s).length (f s)) := fun s W W' row hs hg hr =>
  hs.kept hg (fun e => by have := (hr b e.symm).1; omega)
theorem size_own {β : Type} {B : Nat} (k : Nat) : OwnFrom B (fun (_ : β) W => k ≤ W.heap.size) := fun _ _ _ _ h hg _ => Nat.le_trans h hg.size
theorem sbox_own {B b : Nat} {t : TypeId} {cs : Array Value} {W W' : World} {row : Option Nat} (h : SBox W b t cs) (hg : W.grownBy W' row) (hr : ∀ r, row = some r → B ≤ r ∧ ∃ o : Obj, W.heap[r]? = some o ∧ o.isCells = false) : SBox W' b t cs :=
  h.kept hg (fun e => by
    obtain ⟨_, o, ho, hc⟩ := hr b e.symm
    rw [show W.heap[b]? = _ from h] at ho
    cases ho
    cases hc)
set_option maxRecDepth 100000 in
set_option maxHeartbeats 4000000 in
theorem check_in (n : Nat) (hn : 4 ≤ n) (s : ByteArray) (w : World) (hs : s.size ≤ 1099511627776) (h64 : s.size % 64 = 0) (hle : s.size ≤ 2304) :
    CallsIn Fence.wide n Try.prog 56 #[.string s] w fun e w' => e = .returned (.int .i64 (checkE (L s))) ∧ Below w.heap.size w w' := by
  have t1 : ((s.size : Int) % 64 != 0) = false := by simp; omega
  have t2 : decide ((2304 : Int) < (s.size : Int)) = false := by simp; omega
  have t3 : decide (2304 < s.size) = false := by simp; omega
  have SA := Lib.hid (fun W => slots_any s W)
  refine callsIn_of_wp_marks Try.func56 rfl trivial ?_ rfl
  simp only [Try.ntmps56, List.size_toArray, List.length_cons, List.length_nil, Nat.reduceAdd, Nat.reduceSub, Array.replicate_succ, Array.replicate_zero, List.push_toArray, List.append_toArray, List.nil_append, List.cons_append]
  have hmm := @run_makeMap Try.prog
  gi_wp2_with fail
  refine ⟨trivial, (fun h => by cases h), ?_⟩
  refine (callsIn_wide.2 (SA.out _)).mono ?_
  rintro e w' ⟨rfl, rfl⟩
  clear hmm
  gi_wp2_with fail
  have bR := Boxed.new w 24 (.int .i64 0)
  have bM := NMap.new (w.alloc (.cells #[.int .i64 0] 24))
  have bN := Boxed.new ((w.alloc (.cells #[.int .i64 0] 24)).alloc (.map #[] 0)) 99 (.map (some (w.heap.size + 1)))
  have bT := Boxed.new (((w.alloc (.cells #[.int .i64 0] 24)).alloc (.map #[] 0)).alloc (.cells #[.map (some (w.heap.size + 1))] 99)) 4 (.bool false)
  have bS := Boxed.new ((((w.alloc (.cells #[.int .i64 0] 24)).alloc (.map #[] 0)).alloc (.cells #[.map (some (w.heap.size + 1))] 99)).alloc (.cells #[.bool false] 4)) 9 (.string s)
  have hB0 : Below w.heap.size w (((((w.alloc (.cells #[.int .i64 0] 24)).alloc (.map #[] 0)).alloc (.cells #[.map (some (w.heap.size + 1))] 99)).alloc (.cells #[.bool false] 4)).alloc (.cells #[.string s] 9)) := (((((Below.refl _ w).alloc (Nat.le_refl _) _).alloc (by simp) _).alloc (by simp; omega) _).alloc (by simp; omega) _).alloc (by simp; omega) _
  simp only [World.size_alloc] at bM bN bT bS
  refine wpIn_rangeFunc_ownH rfl (by omega) (gf := 87) (lb := #[.pointer (some ⟨w.heap.size + 1 + 1 + 1 + 1, 0, none⟩)]) rfl trivial (enters_of Try.func87 (by kernel_rfl) rfl)
    (slots_stops (n - 1) (by omega) (w.heap.size + 1 + 1 + 1 + 1) s hs _ bS) keptBox_t (keptBox_b (by simp)) (Below.refl _ _) (fun _ => rfl)
    (fun pre W => ((∀ k ∈ pre, ¬ bad (entAt s k)) ∧ (Boxed W w.heap.size 24 (.int .i64 0) ∧ (Boxed W (w.heap.size + 1 + 1) 99 (.map (some (w.heap.size + 1))) ∧ Boxed W (w.heap.size + 1 + 1 + 1) 4 (.bool (dupN s pre))))) ∧ (NMap W (w.heap.size + 1) (metN s pre).length (metN s pre) ∧ (w.heap.size + 1 + 1 + 1 + 1 + 1 ≤ W.heap.size ∧ Below w.heap.size w W)))
    (fun c pre W => ((c = .ret ∧ ∃ k ∈ pre, bad (entAt s k)) ∧ Boxed W w.heap.size 24 (.int .i64 7)) ∧ Below w.heap.size w W)
    (OwnFrom.and (OwnFrom.and (ownFrom_pure _ _) (OwnFrom.and (Own.from (boxed_own _ _ _) _) (OwnFrom.and (Own.from (boxed_own _ _ _) _) (Own.from (boxed_own _ _ _) _)))) (OwnFrom.and (nmap_own (by simp) _) (OwnFrom.and (size_own _) (ownFrom_below (Nat.le_refl _) (by simp; omega)))))
    (fun c => OwnFrom.and (OwnFrom.and (ownFrom_pure _ _) (Own.from (boxed_own _ _ _) _)) (ownFrom_below (Nat.le_refl _) (by simp; omega)))
    ⟨⟨fun p hp => by simp at hp, (((bR.alloc _).alloc _).alloc _).alloc _, (bN.alloc _).alloc _, bT.alloc _⟩, ((bM.kept (World.grownBy_alloc _ _ none) (by simp)).kept (World.grownBy_alloc _ _ none) (by simp)).kept (World.grownBy_alloc _ _ none) (by simp), by simp, hB0⟩
    (fun k a' W => ∃ b, w.heap.size + 1 + 1 + 1 + 1 + 1 ≤ b ∧ SBox W b 73 #[.string (B (entAt s k).1), .int .u32 (entAt s k).2] ∧ a' = { tmps := #[.string s, undef, .pointer (some ⟨w.heap.size, 0, none⟩), .pointer (some ⟨w.heap.size + 1 + 1, 0, none⟩), .pointer (some ⟨w.heap.size + 1 + 1 + 1, 0, none⟩), undef, .pointer (some ⟨b, 0, none⟩), .string s, .int .i64 (s.size : Int), .int .i64 ((s.size : Int) % 64), .bool false, .bool false, .string s, .int .i64 (s.size : Int), .bool false, .bool false, .map (some (w.heap.size + 1)), .string s, .func (.func 87) #[] #[.pointer (some ⟨w.heap.size + 1 + 1 + 1 + 1, 0, none⟩)], .int .i64 (k : Int), .agg #[.string (B (entAt s k).1), .int .u32 (entAt s k).2], undef, undef, undef, undef, undef, undef, undef, undef, undef, undef, undef, undef, undef, undef, undef, undef, undef, undef, undef, undef, undef, undef], defers := [] })
    (fun k a' => fun _ W W' row hs hg hr => by
      obtain ⟨b, h1, h2, h3⟩ := hs
      exact ⟨b, h1, sbox_own h2 hg hr, h3⟩) ?assign ?body ?done ?stop
  case assign =>
    rintro l pre k W K ⟨⟨hp, hR, hN, hT⟩, hM, hz, hB⟩ hK
    rw [show slotPair (L s) k = (k, entAt s k) from rfl]
    dsimp only [slotArgs]
    have HK := Lib.hid hK
    clear hK
    gi_wp2
    exact HK.out _ _ ((KeepsOthers.alloc _ _).from _) (fun v hv => hv.alloc _) ⟨⟨hp, hR.alloc _, hN.alloc _, hT.alloc _⟩, hM.kept (World.grownBy_alloc _ _ none) (by simp), by simp; omega, hB.alloc (by omega) _⟩ ⟨W.heap.size, hz, SBox.new _ _ _, rfl⟩
  case body =>
    rintro l pre k a' W hl hloop ⟨⟨hp, hR, hN, hT⟩, hM, hz, hB⟩ ⟨b, hb, hS, rfl⟩ hlen
    have c0 := hS.cell 0
    have c1 := hS.cell 1
    simp only [List.getElem?_toArray, List.getElem?_cons_zero, List.getElem?_cons_succ] at c0 c1
    have hlt := hS.lt
    have cR := hR.cell
    have fR := hR.frozen
    have cN := hN.cell
    have cT := hT.cell
    have fT := hT.frozen
    have hnl := ent_len (partL (L s) k)
    rw [show entL (partL (L s) k) = entAt s k from rfl] at hnl
    have hml := metN_len s pre
    have hsnoc : ∀ q, ¬ bad (entAt s k) → q ∈ pre ++ [k] → ¬ bad (entAt s q) := fun q hq hm => by
      rcases List.mem_append.1 hm with h1 | h1
      · exact hp q h1
      · simp only [List.mem_cons, List.not_mem_nil, or_false] at h1
        rw [h1]; exact hq
    have HSN := Lib.hid hsnoc
    have HMF : Hid ((entAt s k).2 = 0 → metN s (pre ++ [k]) = metN s pre) := Lib.hid metN_free
    have HML : Hid ((entAt s k).2 ≠ 0 → metN s (pre ++ [k]) = metN s pre ++ [(entAt s k).1]) := Lib.hid metN_live
    have HBD : Hid (bad (entAt s k) ↔ (entAt s k).2 ≠ 0 ∧ (entAt s k).1 = []) := Lib.hid Iff.rfl
    have HP := Lib.hid hp
    clear hl hloop hsnoc hp hS SA bR bM bN bT bS hB0
    obtain ⟨nmL, hnm⟩ : ∃ x, (entAt s k).1 = x := ⟨_, rfl⟩
    obtain ⟨i, hi⟩ : ∃ x, (entAt s k).2 = x := ⟨_, rfl⟩
    rw [hnm] at c0 hnl
    rw [hi] at c1
    rw [hnm, hi]
    have HN := Lib.hid hnm
    have HI := Lib.hid hi
    clear hnm hi
    by_cases h0 : i = 0
    · subst h0
      have hm := HMF.out HI.out
      have hnb : ¬ bad (entAt s k) := fun h => (HBD.out.1 h).1 HI.out
      have E1 := Lib.hid hm
      have E2 : Hid (dupN s (pre ++ [k]) = dupN s pre) := Lib.hid (by unfold dupN; rw [hm])
      have E3 := Lib.hid (fun q hq => HSN.out q hnb hq)
      clear hm hnb
      gi_wp2
      exact ⟨KeepsFrom.refl _ _, KeptBox.refl _ _ _, ⟨⟨E3.out, hR, hN, by rw [E2.out]; exact hT⟩, by rw [E1.out]; exact hM, hz, hB⟩⟩
    · have t0 : ((i : Int) == 0) = false := by simp; omega
      have t0b : (i == 0) = false := by simp; omega
      have HI0 := Lib.hid h0
      clear h0
      by_cases hn : nmL = []
      · subst hn
        have HBB : Hid (bad (entAt s k)) := Lib.hid (HBD.out.2 ⟨by rw [HI.out]; exact HI0.out, HN.out⟩)
        rw [show B [] = (⟨#[]⟩ : ByteArray) from rfl] at c0
        rw [show B [] = (⟨#[]⟩ : ByteArray) from rfl]
        gi_wp2
        exact ⟨(KeepsOthers.setCell _ _ _).from _, ⟨⟨rfl, k, by simp, HBB.out⟩, hR.set _⟩, hB.setCell (p := ⟨w.heap.size, 0, none⟩) (Nat.le_refl _) _⟩
      · have n1 : (B nmL).toList.isEmpty = false := empty_no (by rw [size_B]; exact List.length_pos_iff.2 hn)
        have hnb : ¬ bad (entAt s k) := fun h => hn (HN.out.symm.trans (HBD.out.1 h).2)
        have E3 := Lib.hid (fun q hq => HSN.out q hnb hq)
        have hm := HML.out (by rw [HI.out]; exact HI0.out)
        rw [HN.out] at hm
        have hd : dupN s (pre ++ [k]) = (dupN s pre || decide (nmL ∈ metN s pre)) := by
          unfold dupN
          rw [hm, dup_step]
        have E1 := Lib.hid hm
        have hsz : (B nmL).size ≤ maxLen := by rw [size_B]; unfold maxLen; omega
        have LK := Lib.hid (hM.look (B nmL) hsz)
        rw [L_B] at LK
        obtain ⟨d, hdd⟩ : ∃ d, dupN s pre = d := ⟨_, rfl⟩
        rw [hdd] at hd cT hT
        obtain ⟨d', hdd'⟩ : ∃ d', (d || decide (nmL ∈ metN s pre)) = d' := ⟨_, rfl⟩
        rw [hdd'] at hd
        obtain ⟨W2, hput, hM2, hg2⟩ := (hM.kept (grownBy_setCell' W (w.heap.size + 1 + 1 + 1) (.bool d')) (fun e => by have := Option.some.inj e; omega)).put (by unfold maxLen; omega) (B nmL) hsz
        have E2 := Lib.hid hd
        have hR2 := Lib.hid ((hR.other (B' := w.heap.size + 1 + 1 + 1) (by omega) (.bool d')).kept hg2 (fun e => by have := Option.some.inj e; omega))
        have hN2 := Lib.hid ((hN.other (B' := w.heap.size + 1 + 1 + 1) (by omega) (.bool d')).kept hg2 (fun e => by have := Option.some.inj e; omega))
        have hT2 : Hid (Boxed W2 (w.heap.size + 1 + 1 + 1) 4 (.bool (dupN s (pre ++ [k])))) := Lib.hid (by rw [hd]; exact (hT.set (.bool d')).kept hg2 (fun e => by have := Option.some.inj e; omega))
        have HG2 := Lib.hid hg2
        have hX2 : Hid (KeptBox (w.heap.size + 1 + 1 + 1 + 1) 9 W W2) := Lib.hid (fun v hv => (hv.other (B' := w.heap.size + 1 + 1 + 1) (by omega) (.bool d')).kept hg2 (fun e => by have := Option.some.inj e; omega))
        have hB2 : Hid (Below w.heap.size w W2) := Lib.hid ((hB.setCell (p := ⟨w.heap.size + 1 + 1 + 1, 0, none⟩) (by show w.heap.size ≤ w.heap.size + 1 + 1 + 1; omega) (.bool d')).grown hg2 (by simp; omega) (fun j e => by cases e; omega))
        have hZ2 : Hid (w.heap.size + 1 + 1 + 1 + 1 + 1 ≤ W2.heap.size) := Lib.hid (by have := hg2.size; simp at this; omega)
        have hMM : Hid (NMap W2 (w.heap.size + 1) (metN s (pre ++ [k])).length (metN s (pre ++ [k]))) := Lib.hid (by rw [L_B] at hM2; rw [hm, List.length_append]; exact hM2)
        clear hm hd hnb hdd hM hM2 hg2 hR hN hT hsz hB hz hml hnl hlen hn
        have FIN : Hid _ := Lib.hid (And.intro hX2.out (And.intro (And.intro E3.out (And.intro hR2.out (And.intro hN2.out hT2.out))) (And.intro hMM.out (And.intro hZ2.out hB2.out))))
        have hf1 : ∀ W, (Instr.field 101 (.agg #[.int .i64 1]) 0).run Try.prog W = .ok (.int .i64 1) W := fun _ => by kernel_rfl
        have hf0 : ∀ W, (Instr.field 101 (.agg #[.int .i64 0]) 0).run Try.prog W = .ok (.int .i64 0) W := fun _ => by kernel_rfl
        by_cases hmem : nmL ∈ metN s pre
        · rw [if_pos hmem] at LK
          have hdt : d' = true := by rw [← hdd']; simp [hmem]
          subst hdt
          have hlk := LK.out
          clear hmem hdd' LK hX2 hB2 hZ2 hMM hR2 hN2 hT2 E3 hf0
          cases d
          · gi_wp2
            exact ⟨((KeepsOthers.setCell W ⟨w.heap.size + 1 + 1 + 1, 0, none⟩ _).from _).trans (KeepsFrom.of_grownBy HG2.out (fun j e => by cases e; simp)), FIN.out⟩
          · gi_wp2
            exact ⟨((KeepsOthers.setCell W ⟨w.heap.size + 1 + 1 + 1, 0, none⟩ _).from _).trans (KeepsFrom.of_grownBy HG2.out (fun j e => by cases e; simp)), FIN.out⟩
        · rw [if_neg hmem] at LK
          have hdt : d' = d := by rw [← hdd']; simp [hmem]
          subst hdt
          have hlk := LK.out
          clear hmem hdd' LK hX2 hB2 hZ2 hMM hR2 hN2 hT2 E3 hf1
          cases d'
          · gi_wp2
            exact ⟨((KeepsOthers.setCell W ⟨w.heap.size + 1 + 1 + 1, 0, none⟩ _).from _).trans (KeepsFrom.of_grownBy HG2.out (fun j e => by cases e; simp)), FIN.out⟩
          · gi_wp2
            exact ⟨((KeepsOthers.setCell W ⟨w.heap.size + 1 + 1 + 1, 0, none⟩ _).from _).trans (KeepsFrom.of_grownBy HG2.out (fun j e => by cases e; simp)), FIN.out⟩
  case done =>
    rintro D ys W hD rfl ⟨⟨hp, hR, hN, hT⟩, hM, hz, hB⟩ hK
    have hT' : Boxed W (w.heap.size + 1 + 1 + 1) 4 (.bool (!decide (names (slotsL (L s))).Nodup)) := hT
    have hnb : ([], 1) ∉ slotsL (L s) := fun hm => by
      rw [← ents_all] at hm
      obtain ⟨k, hk, he⟩ := List.mem_map.1 hm
      exact hp k hk (by rw [he]; exact ⟨by decide, rfl⟩)
    have hE : checkE (L s) = if (!decide (names (slotsL (L s))).Nodup) = true then 9 else 0 := by
      unfold checkE
      rw [if_neg (by rw [len_L]; omega), if_neg hnb]
      by_cases h : (names (slotsL (L s))).Nodup <;> simp [h]
    have HE := Lib.hid hE
    generalize (!decide (names (slotsL (L s))).Nodup) = d at *
    clear hE hnb hT hp
    have cR := hR.cell
    have fR := hR.frozen
    have cT := hT'.cell
    cases d
    · gi_wp2
      have hK' := (KeepsOthers.setCell W ⟨w.heap.size, 0, none⟩ (.int .i64 0)).same D _ hK rfl
      refine ⟨by simp, .inl ⟨_, _, rfl, run_takeDeferred hK', ?_⟩⟩
      have hc5 := cell_kept (hR.set (.int .i64 0)).cell (grownBy_putObj' _ D (.deferred none)) (fun r e => by cases e; exact ⟨_, hK', rfl⟩)
      refine ⟨.int .i64 0, ?_, by rw [HE.out]; rfl, (hB.setCell (p := ⟨w.heap.size, 0, none⟩) (Nat.le_refl _) _).trans (belowK_b (w := w) (Nat.le_refl _) _ D _ _ (by simp at hD; omega) hK' rfl rfl)⟩
      simp [results, Try.f56, go_sem, hc5]
    · gi_wp2
      have hK' := (KeepsOthers.setCell W ⟨w.heap.size, 0, none⟩ (.int .i64 9)).same D _ hK rfl
      refine ⟨by simp, .inl ⟨_, _, rfl, run_takeDeferred hK', ?_⟩⟩
      have hc5 := cell_kept (hR.set (.int .i64 9)).cell (grownBy_putObj' _ D (.deferred none)) (fun r e => by cases e; exact ⟨_, hK', rfl⟩)
      refine ⟨.int .i64 9, ?_, by rw [HE.out]; rfl, (hB.setCell (p := ⟨w.heap.size, 0, none⟩) (Nat.le_refl _) _).trans (belowK_b (w := w) (Nat.le_refl _) _ D _ _ (by simp at hD; omega) hK' rfl rfl)⟩
      simp [results, Try.f56, go_sem, hc5]
  case stop =>
    rintro D c pre W hD ⟨k, hk, rfl⟩ ⟨⟨⟨rfl, j, hj, hbj⟩, hR⟩, hB⟩ hK
    have hE : checkE (L s) = 7 := by
      unfold checkE
      rw [if_neg (by rw [len_L]; omega), if_pos ?_]
      rw [← ents_all]
      have := ent_bad hbj.1 hbj.2
      refine List.mem_map.2 ⟨j, ?_, this⟩
      have := List.mem_range.1 hj
      exact List.mem_range.2 (by omega)
    have HE := Lib.hid hE
    clear hE hbj
    have cR := hR.cell
    gi_wp2
    refine ⟨by simp, .inl ⟨_, _, rfl, run_takeDeferred hK, ?_⟩⟩
    have hc5 := cell_kept hR.cell (grownBy_putObj' _ D (.deferred none)) (fun r e => by cases e; exact ⟨_, hK, rfl⟩)
    refine ⟨.int .i64 7, ?_, by rw [HE.out], hB.trans (belowK_b (w := w) (Nat.le_refl _) _ D _ _ (by simp at hD; omega) hK rfl rfl)⟩
    simp [results, Try.f56, go_sem, hc5]
/-- dirs.Check, of any text. -/
theorem check_any (s : ByteArray) (w : World) (hs : s.size ≤ maxLen) :
    Calls Try.prog 56 #[.string s] w fun e w' => e = .returned (.int .i64 (checkE (L s))) ∧ Below w.heap.size w w' := by
  by_cases h64 : s.size % 64 = 0
  · by_cases hle : s.size ≤ 2304
    · exact callsIn_wide.1 (check_in 4 (Nat.le_refl _) s w (by omega) h64 hle)
    · have hE : checkE (L s) = 7 := by
        unfold checkE
        rw [if_pos (by rw [len_L]; omega)]
      rw [hE]
      unfold maxLen at hs
      have t1 : ((s.size : Int) % 64 != 0) = false := by simp; omega
      have t2 : decide ((2304 : Int) < (s.size : Int)) = true := by simp; omega
      have t3 : decide (2304 < s.size) = true := by simp; omega
      clear hE h64 hle
      refine (callsIn_wide (n := 4)).1 (callsIn_of_wp_marks Try.func56 rfl trivial ?_ rfl)
      simp only [Try.ntmps56, List.size_toArray, List.length_cons, List.length_nil, Nat.reduceAdd, Nat.reduceSub, Array.replicate_succ, Array.replicate_zero, List.push_toArray, List.append_toArray, List.nil_append, List.cons_append]
      gi_wp2
      refine ⟨.int .i64 7, ?_, rfl, (Below.refl _ _).alloc (Nat.le_refl _) _⟩
      simp [results, Try.f56, go_sem]
  · have hE : checkE (L s) = 7 := by
      unfold checkE
      rw [if_pos (by rw [len_L]; omega)]
    rw [hE]
    unfold maxLen at hs
    have t1 : ((s.size : Int) % 64 != 0) = true := by simp; omega
    clear hE h64
    refine (callsIn_wide (n := 4)).1 (callsIn_of_wp_marks Try.func56 rfl trivial ?_ rfl)
    simp only [Try.ntmps56, List.size_toArray, List.length_cons, List.length_nil, Nat.reduceAdd, Nat.reduceSub, Array.replicate_succ, Array.replicate_zero, List.push_toArray, List.append_toArray, List.nil_append, List.cons_append]
    gi_wp2
    refine ⟨.int .i64 7, ?_, rfl, (Below.refl _ _).alloc (Nat.le_refl _) _⟩
    simp [results, Try.f56, go_sem]
end Go.Proofs.Ytfdclifdemajfaa.Dir
