/- Layer 11's law: Disk: a formatted device, its journal, a transaction, an image. -/
import Derived.Test.YtpnfkilfgdnogaaGreatDoorDevKeys
import Derived.Test.YtpnfkilfgdnogaaGreatDoorRange
import Derived.Stop.RegionWithIn
import Derived.Test.YtpnfkilfgdnogaaGreatDoorIsM
import Derived.Test.YtpnfkilfgdnogaaGreatDoorImgA
import Derived.Deep.RegionHeld3
import Derived.Outline
import Derived.Test.YtpnfkilfgdnogaaGreatDoorJournalR
import Derived.Test.YtpnfkilfgdnogaaGreatDoorDevNew
section
namespace Go.Proofs.YtpnfkilfgdnogaaGreatDoor.Dev
set_option linter.unusedVariables false
set_option linter.unusedSimpArgs false
open Go.RowKit Go.Shelf Go.Maps Go.Sort
attribute [local go_sem] Oper.semAt_some
theorem loose_any (p : Nat) (w : World) : Calls Tryz.prog 142 #[.pointer (some ⟨p, 0, none⟩)] w fun e w' => e = .returned (.func (.func 174) #[] #[.pointer (some ⟨w.heap.size, 0, none⟩)]) ∧ w.alloc (.cells #[.pointer (some ⟨p, 0, none⟩)] 26) = w' := by
  go_enter Tryz.func142, Tryz.ntmps142
  go_wp2
  go_ret
  exact ⟨rfl, rfl⟩
def Lays (X Y : World) : Prop := X.grownBy Y none
def CellsFrom (B : Nat) (X Y : World) : Prop := ∀ c t cs, B ≤ c → SBox X c t cs → SBox Y c t cs
def NextKey (f : Int → Option (DataW Unit)) (pre : List Int) (x : Int) : Prop := (f x).isSome = true ∧ x ∉ pre
theorem lays_below {W W' : World} (h : Below W.heap.size W W') : Lays W W' := ⟨h.os, h.tape, h.output, h.size, fun k hk _ => h.block k hk⟩
theorem take_next {ss : List Int} {k : Nat} (hk : k < ss.length) : ss.take (k + 1) = ss.take k ++ [ss[k]] := by
  rw [List.take_add_one, List.getElem?_eq_getElem hk]
  rfl
theorem next_new {ss : List Int} (h : ss.Nodup) {k : Nat} (hk : k < ss.length) : ss[k] ∉ ss.take k := fun hm => by
  have h1 : (ss.take (k + 1)).Nodup := h.sublist (List.take_sublist _ _)
  rw [take_next hk] at h1
  exact (List.nodup_append.1 h1).2.2 _ hm _ (by simp) rfl
theorem row_int {cur : Array Value} {ss : List Int} (ht : cur.toList.take (ss.length * 1) = ss.map encZ) {k : Nat} (hk : k < ss.length) : cur[k]? = some (.int .i64 ss[k]) := by
  have h2 : (cur.toList.take (ss.length * 1))[k]? = some (.int .i64 ss[k]) := by rw [ht]; simp [hk]
  rw [List.getElem?_take, if_pos (by omega)] at h2
  simpa using h2
set_option maxRecDepth 100000 in
set_option maxHeartbeats 1000000 in
theorem loose_seq (n : Nat) (hn : 1 ≤ n) {b : DevB} {hard : List ByteArray} {pd : Pend} {k : Nat} (w : World) (Bs : Nat) (hBs : Boxed w Bs 26 (.pointer (some ⟨b.p, 0, none⟩))) (hD : DevAt w b hard pd k) (hk : k ≤ 1099511627776) :
    SeqRel Fence.wide n Tryz.prog 174 #[.pointer (some ⟨Bs, 0, none⟩)] (fun x : Int => #[.int .i64 x]) Lays (CellsFrom w.heap.size) (KeysOf (rowF pd)) (fun _ => True) (NextKey (rowF pd)) w := by
  intro l J Jx W hW hJ hJx hY h0
  have hDW : DevAt W b hard pd k := hD.later hW
  have hB0 : Boxed W Bs 26 (.pointer (some ⟨b.p, 0, none⟩)) := (hW.block Bs hBs.lt).trans hBs
  have hc0 := hB0.cell
  have hl0 := hB0.lt
  have KD := Lib.hid (fun W => callsIn_wide (n := n - 1) |>.2 (callsIn_wide.1 (keysDev_in (some b.m) W)))
  have SD := Lib.hid (callsIn_wide (n := n - 1) |>.2 (callsIn_wide.1 (sortedDev_in b.m k (rowF pd) W hDW.map hk)))
  obtain ⟨cap0, hcap, hX⟩ := hDW.dev
  unfold devCells at hX
  have X0 := hX.cell 0
  have X1 := hX.cell 1
  have X2 := hX.cell 2
  have X3 := hX.cell 3
  have X4 := hX.cell 4
  have X5 := hX.cell 5
  simp only [List.getElem?_toArray, List.getElem?_cons_zero, List.getElem?_cons_succ] at X0 X1 X2 X3 X4 X5
  have Xl := hX.lt
  have hsz := hW.size
  clear hX hDW hB0 hBs hD
  refine callsIn_of_wp Tryz.func174 rfl trivial ?_ rfl
  simp only [Tryz.ntmps174, List.size_toArray, List.length_cons, List.length_nil, Nat.reduceAdd, Nat.reduceSub, Array.replicate_succ, Array.replicate_zero, List.push_toArray, List.append_toArray, List.nil_append, List.cons_append]
  gi_wp2_with fail
  refine ⟨trivial, (KD.out _).mono ?_⟩
  rintro e w1 ⟨rfl, rfl⟩
  gi_wp2_with fail
  refine ⟨trivial, SD.out.mono ?_⟩
  rintro e w2 ⟨v, ss, rfl, hks, hrow, b2⟩
  have hJ2 : J [] w2 := hJ _ _ _ h0 (lays_below (((Below.refl _ W).alloc (Nat.le_refl _) (.cells #[.map (some b.m)] 105)).trans (b2.mono (by simp))))
  clear hc0 hl0 X0 X1 X2 X3 X4 X5 Xl KD SD
  rcases hrow.2 with ⟨rfl, hz⟩ | ⟨g, cap, cur, rfl, hbase, hg, hnc, hcm, hcs, ht⟩
  · obtain rfl := List.eq_nil_of_length_eq_zero hz
    gi_wp2
    gi_loopw [12] (fun c wr => c = .int .i64 0 ∧ wr = w2) (fun _ _ => 0)
    case atStart => exact ⟨rfl, rfl⟩
    case round =>
      obtain ⟨rfl, rfl⟩ := hrel
      gi_wp2
      go_end0
      exact ⟨⟨_, rfl⟩, .inl ⟨[], hks, hJ2⟩⟩
  · have hgB : w.heap.size ≤ g := by simp at hbase; omega
    have hS0 : SBox w2 g 3 cur := hg
    have hlm : ss.length ≤ 9223372036854775807 := by unfold maxLen at hcm; omega
    clear hrow hg b2 hbase
    gi_wp2
    gi_loopw [12] (fun c wr => ∃ q : Nat, q ≤ ss.length ∧ c = .int .i64 q ∧ J (ss.take q) wr ∧ SBox wr g 3 cur) (fun c _ => ss.length - (intOf c).toNat)
    case atStart => exact ⟨0, Nat.zero_le _, rfl, hJ2, hS0⟩
    case round =>
      obtain ⟨q, hq, rfl, hJq, hS⟩ := hrel
      by_cases hlt : q < ss.length
      · have c1 := (hS.cell q).trans (row_int ht hlt)
        have q0 : (0 : Int) ≤ q := by omega
        have q1 : (q : Int) < ss.length := by omega
        have hSl := hS.lt
        have hSn := hS
        obtain ⟨fn, tmps, assign, body, hy, hR⟩ := hY _ ss[q] wr hJq ⟨(hks.2 _).1 (List.getElem_mem hlt), next_new hks.1 hlt⟩
        have HS := Lib.hid hSn
        clear hS hSn
        gi_wp2
        refine hR.mono ?_
        rintro e W3 (⟨rfl, hJ3, hk3⟩ | ⟨rfl, hJx3⟩)
        · gi_wp2
          go_roundw
          case rel => exact ⟨q + 1, by omega, by simp, by rw [take_next hlt]; exact hJ3, hk3 _ _ _ hgB HS.out⟩
          case measure => first | omega | (simp [Go.RowKit.intOf]; omega) | (show ss.length - ((q : Int) + 1).toNat < ss.length - (q : Int).toNat; omega)
        · gi_wp2
          refine bodyPost_ret (results_none rfl _ _ _) rfl ?_
          exact ⟨⟨_, rfl⟩, .inr ⟨_, trivial, hJx3⟩⟩
      · obtain rfl : q = ss.length := by omega
        gi_wp2
        go_end0
        rw [List.take_length] at hJq
        exact ⟨⟨_, rfl⟩, .inl ⟨ss, hks, hJq⟩⟩
end Go.Proofs.YtpnfkilfgdnogaaGreatDoor.Dev
end
section
namespace Go.Proofs.YtpnfkilfgdnogaaGreatDoor.Dev
set_option linter.unusedVariables false
set_option linter.unusedSimpArgs false
open Go.RowKit Go.Shelf Go.Maps Go.Sort
attribute [local go_sem] Oper.semAt_some
def flushP (pd : Pend) (pre : List Int) : Pend := fun y => if y ∈ pre then none else pd y
def flushH (hard : List ByteArray) (pd : Pend) (pre : List Int) : List ByteArray := pre.foldl (fun h x => match pd x with | some e => h.set x.toNat e.2.2 | none => h) hard
theorem flushP_nil (pd : Pend) : flushP pd [] = pd := by funext y; simp [flushP]
theorem flushP_snoc (pd : Pend) (pre : List Int) (x : Int) : flushP pd (pre ++ [x]) = delP (flushP pd pre) x := by
  funext y
  unfold flushP delP
  by_cases hy : y = x
  · simp [hy]
  · by_cases hm : y ∈ pre <;> simp [hy, hm]
theorem flushH_snoc {hard : List ByteArray} {pd : Pend} {pre : List Int} {x : Int} {e : Nat × Nat × ByteArray} (h : pd x = some e) : flushH hard pd (pre ++ [x]) = (flushH hard pd pre).set x.toNat e.2.2 := by
  unfold flushH
  rw [List.foldl_append]
  simp [h]
theorem flushH_len (pd : Pend) : ∀ (pre : List Int) (hard : List ByteArray), (flushH hard pd pre).length = hard.length
  | [], _ => rfl
  | x :: r, hard => by
    unfold flushH
    rw [List.foldl_cons]
    have h := flushH_len pd r (match pd x with | some e => hard.set x.toNat e.2.2 | none => hard)
    unfold flushH at h
    rw [h]
    cases pd x <;> simp
theorem flushH_get {pd : Pend} (hd : ∀ x e, pd x = some e → ∃ i : Nat, x = i) : ∀ (pre : List Int) (hard : List ByteArray) (i : Nat) (hi : i < hard.length), (flushH hard pd pre)[i]? = some (match (if (i : Int) ∈ pre then pd i else none) with | some e => e.2.2 | none => hard[i])
  | [], hard, i, hi => by simp [flushH, hi]
  | x :: r, hard, i, hi => by
    have h0 : flushH hard pd (x :: r) = flushH (match pd x with | some e => hard.set x.toNat e.2.2 | none => hard) pd r := rfl
    rw [h0]
    cases hx : pd x with
    | none =>
      rw [flushH_get hd r hard i hi]
      by_cases e : (i : Int) = x
      · subst e
        simp [hx]
      · simp [e]
    | some q =>
      obtain ⟨j, rfl⟩ := hd x q hx
      rw [flushH_get hd r _ i (by simpa using hi)]
      by_cases e : i = j
      · subst e
        simp only [List.mem_cons, true_or, if_true, hx]
        by_cases hm : (i : Int) ∈ r
        · simp [hm, hx]
        · simp [hm]
      · have e2 : ¬ (i : Int) = (j : Int) := by omega
        have e3 : (j : Int).toNat ≠ i := by simp; omega
        by_cases hm : (i : Int) ∈ r
        · simp [hm, List.getElem_set, Ne.symm e]
        · simp [hm, e2, List.getElem_set, Ne.symm e]
theorem DevAt.grown {W W' : World} {b : DevB} {hard : List ByteArray} {pd : Pend} {k B : Nat} {row : Option Nat} (h : DevAt W b hard pd k) (hg : W.grownBy W' row) (hm : b.m < B) (hr : ∀ r, row = some r → B ≤ r ∧ ∃ o : Obj, W.heap[r]? = some o ∧ o.isCells = false) : DevAt W' b hard pd k := by
  have key : ∀ (c : Nat) (cs : Array Value) (t : TypeId), W.heap[c]? = some (.cells cs t (0, 0)) → some c ≠ row := fun c cs t hc e => by
    obtain ⟨_, o, ho, hn⟩ := hr c e.symm
    rw [hc] at ho
    cases ho
    cases hn
  obtain ⟨⟨cap, h0, h1⟩, h2, h3, h4, h5, h6⟩ := h
  have str : ∀ {g : Nat} {l : List ByteArray}, StrRow W g l → StrRow W' g l := fun hs => by
    obtain ⟨cs, c1, c2⟩ := hs
    exact ⟨cs, (hg.block _ (Array.getElem?_eq_some_iff.1 c1).1 (key _ _ _ c1)).trans c1, c2⟩
  exact ⟨⟨cap, h0, SBox.kept h1 hg (key _ _ _ h1)⟩, str h2, h3.kept hg (fun e => by have := (hr _ e.symm).1; omega), fun x e hx => ⟨str (h4 x e hx).1, (h4 x e hx).2⟩, h5, h6⟩
theorem Tch.grows {S : Nat → Prop} {w W W' : World} {B : Nat} {row : Option Nat} (h : Tch S w W) (hB : w.heap.size ≤ B) (hg : W.grownBy W' row) (hr : ∀ r, row = some r → B ≤ r) : Tch S w W' :=
  ⟨hg.os.trans h.os, hg.tape.trans h.tape, hg.output.trans h.output, Nat.le_trans h.size hg.size, fun c hc hs => (hg.block c (Nat.lt_of_lt_of_le hc h.size) (fun e => by have := hr c e.symm; omega)).trans (h.block c hc hs)⟩
def FlRel (w : World) (b : DevB) (hard : List ByteArray) (pd : Pend) (k : Nat) (pre : List Int) (W : World) : Prop :=
  Boxed W w.heap.size 26 (.pointer (some ⟨b.p, 0, none⟩)) ∧ DevAt W b (flushH hard pd pre) (flushP pd pre) k ∧ Tch (fun c => c = b.g ∨ c = b.m) w W
theorem flRel_own {w : World} {b : DevB} {hard : List ByteArray} {pd : Pend} {k B : Nat} (hB : w.heap.size ≤ B) (hm : b.m < B) : OwnFrom B (FlRel w b hard pd k) := fun pre W W' row ⟨h1, h2, h3⟩ hg hr =>
  ⟨boxed_own _ _ (fun _ => _) pre W W' row h1 hg (fun r e => (hr r e).2), h2.grown hg hm hr, h3.grows hB hg (fun r e => (hr r e).1)⟩
theorem flush_step {w W2 W w9 : World} {b : DevB} {hard : List ByteArray} {pd : Pend} {k i : Nat} {pre : List Int} {q : Nat × Nat × ByteArray} (hm : b.m < w.heap.size) (hg : b.g < w.heap.size) (hB : w.heap.size ≤ W2.heap.size) (h1 : Boxed W w.heap.size 26 (.pointer (some ⟨b.p, 0, none⟩))) (h3 : Tch (fun c => c = b.g ∨ c = b.m) w W)
    (hsn : flushH hard pd (pre ++ [(i : Int)]) = (flushH hard pd pre).set (i : Int).toNat q.2.2) (D9 : DevAt w9 b ((flushH hard pd pre).set i q.2.2) (delP (flushP pd pre) i) k) (T9 : Tch (fun c => c = b.g ∨ c = b.m) W.drew w9) :
    KeepsFrom W2.heap.size W w9 ∧ CellsFrom W2.heap.size W w9 ∧ FlRel w b hard pd k (pre ++ [(i : Int)]) w9 := by
  have T : Tch (fun c => c = b.g ∨ c = b.m) W w9 := ⟨T9.os, T9.tape, T9.output, T9.size, T9.block⟩
  have hne : ∀ c, W2.heap.size ≤ c → ¬ (c = b.g ∨ c = b.m) := fun c hc e => by rcases e with e | e <;> omega
  refine ⟨⟨T.size, fun c o hc ho _ => (T.block c (Array.getElem?_eq_some_iff.1 ho).1 (hne c hc)).trans ho⟩, fun c t cs hc hs => (T.block c hs.lt (hne c hc)).trans hs, ?_, ?_, h3.trans T⟩
  · exact (T.block _ h1.lt (fun e => by rcases e with e | e <;> omega)).trans h1
  · rw [hsn, flushP_snoc]
    exact D9
set_option maxRecDepth 100000 in
set_option maxHeartbeats 4000000 in
theorem flush_any {b : DevB} {hard : List ByteArray} {pd : Pend} {k : Nat} (w : World) (h : DevAt w b hard pd k) (hk : k ≤ 1099511627776) :
    Calls Tryz.prog 97 #[.pointer (some ⟨b.p, 0, none⟩)] w fun e w' => e = .returned (.int .i64 0) ∧ ∃ ss, KeysOf (rowF pd) ss ∧ DevAt w' b (flushH hard pd ss) (flushP pd ss) k ∧ Tch (fun c => c = b.g ∨ c = b.m) w w' := by
  have hm := h.map.lt
  have hg := h.row.lt
  have RE := Lib.hid (ready_any (w.alloc (.cells #[.pointer (some ⟨b.p, 0, none⟩)] 26)) (h.later ((Below.refl _ _).alloc (Nat.le_refl _) _)))
  have LO := Lib.hid (fun W => loose_any b.p W)
  have HD := Lib.hid h
  refine (callsIn_wide (n := 4)).1 ?_
  refine callsIn_of_wp_marks Tryz.func97 rfl trivial ?_ rfl
  simp only [Tryz.ntmps97, List.size_toArray, List.length_cons, List.length_nil, Nat.reduceAdd, Nat.reduceSub, Array.replicate_succ, Array.replicate_zero, List.push_toArray, List.append_toArray, List.nil_append, List.cons_append]
  clear h
  gi_wp2_with fail
  refine ⟨trivial, ?_⟩
  refine (callsIn_wide.2 RE.out).mono ?_
  rintro e w1 ⟨rfl, rfl⟩
  gi_wp2_with fail
  refine ⟨trivial, ?_⟩
  refine (callsIn_wide.2 (LO.out _)).mono ?_
  rintro e w2 ⟨rfl, rfl⟩
  gi_wp2_with fail
  have hA0 := Boxed.new w 26 (.pointer (some ⟨b.p, 0, none⟩))
  have hA := hA0.alloc (.cells #[.pointer (some ⟨b.p, 0, none⟩)] 26)
  have hA1 := Boxed.new (w.alloc (.cells #[.pointer (some ⟨b.p, 0, none⟩)] 26)) 26 (.pointer (some ⟨b.p, 0, none⟩))
  have hB2 : Below w.heap.size w ((w.alloc (.cells #[.pointer (some ⟨b.p, 0, none⟩)] 26)).alloc (.cells #[.pointer (some ⟨b.p, 0, none⟩)] 26)) := ((Below.refl _ w).alloc (Nat.le_refl _) _).alloc (by simp) _
  have hD2 := HD.out.later hB2
  have hB2s : w.heap.size ≤ ((w.alloc (.cells #[.pointer (some ⟨b.p, 0, none⟩)] 26)).alloc (.cells #[.pointer (some ⟨b.p, 0, none⟩)] 26)).heap.size := hB2.size
  have hW1 : (w.alloc (.cells #[.pointer (some ⟨b.p, 0, none⟩)] 26)).heap.size = w.heap.size + 1 := World.size_alloc _ _
  rw [hW1] at hA1
  generalize (w.alloc (.cells #[.pointer (some ⟨b.p, 0, none⟩)] 26)).alloc (.cells #[.pointer (some ⟨b.p, 0, none⟩)] 26) = W2 at *
  clear RE LO hA0 hW1
  refine wpIn_rangeFunc_rel rfl (by omega) (gf := 174) (lb := #[.pointer (some ⟨w.heap.size + 1, 0, none⟩)]) rfl trivial (enters_of Tryz.func174 (by kernel_rfl) rfl)
    (loose_seq (4 - 1) (by omega) W2 (w.heap.size + 1) hA1 hD2 hk)
    (fun X Y h => ⟨h.size, fun c o _ ho _ => (h.block c (Array.getElem?_eq_some_iff.1 ho).1 (by simp)).trans ho⟩)
    (fun {X Y Z} h g c t cs hc hs => g c t cs hc (h c t cs hc hs))
    (fun W l o o' _ hl ho _ c t cs _ hs => (World.putObj_heap_other (fun e => by subst e; rw [show W.heap[_]? = _ from hs] at hl; cases hl; cases ho)).trans hs)
    (Below.refl _ _) (fun _ => rfl)
    (FlRel w b hard pd k) (fun _ _ _ => False) (flRel_own hB2s (by omega)) (fun _ _ _ _ _ hs _ _ => hs)
    (fun s X Y ⟨h1, h2, h3⟩ hr => ⟨h1.kept hr (by simp), h2.grown (B := b.m + 1) hr (by omega) (fun r e => by cases e), h3.grows (Nat.le_refl _) hr (fun r e => by cases e)⟩) (fun _ _ _ _ h _ => h)
    ⟨hA, by rw [flushP_nil]; exact hD2, Tch.of_below hB2⟩
    (fun x => { tmps := #[.pointer (some ⟨b.p, 0, none⟩), .pointer (some ⟨w.heap.size, 0, none⟩), .int .i64 0, .int .i64 0, .int .i64 x, .pointer (some ⟨b.p, 0, none⟩), .int .i64 0, .int .i64 0, .bool false, undef, .pointer (some ⟨b.p, 0, none⟩), .func (.func 174) #[] #[.pointer (some ⟨w.heap.size + 1, 0, none⟩)], .int .i64 x, undef, undef, undef, undef, undef, undef, undef, undef, undef, undef, undef], defers := [] }) ?assign ?body ?done ?stop
  case assign =>
    intro l x W K hK
    gi_wp2
    exact hK
  case body =>
    rintro l pre x W ⟨hX1, hDW, hT⟩ ⟨hsome, hnew⟩
    obtain ⟨q, hq⟩ : ∃ q, pd x = some q := by
      unfold rowF at hsome
      cases hpx : pd x with
      | none => rw [hpx] at hsome; simp at hsome
      | some q => exact ⟨q, rfl⟩
    obtain ⟨i, rfl, hi⟩ := HD.out.dom x q hq
    have hp2 : flushP pd pre i = some q := by unfold flushP; rw [if_neg hnew]; exact hq
    have hi2 : i < (flushH hard pd pre).length := by rw [flushH_len]; exact hi
    have hDr : DevAt W.drew b (flushH hard pd pre) (flushP pd pre) k := hDW.later (Below.refl _ _).drew
    have hlk := look_some hDr i (by have := hDr.len; omega) hp2 false
    simp only [Bool.false_eq_true, if_false] at hlk
    have hfl : ∀ W, (Instr.field 238 (.agg #[.slice (some ⟨q.1, 0, none⟩) 1 q.2.1]) 0).run Tryz.prog W = .ok (.slice (some ⟨q.1, 0, none⟩) 1 q.2.1) W := fun W => field_one _ W
    have KP := Lib.hid (keep_one i W.drew hDr hi2 hp2)
    have c0 := hX1.cell
    have cl := hX1.lt
    obtain ⟨cap0, hcap, hX⟩ := hDW.dev
    unfold devCells at hX
    have X0 := hX.cell 0
    have X1 := hX.cell 1
    have X2 := hX.cell 2
    have X3 := hX.cell 3
    have X4 := hX.cell 4
    have X5 := hX.cell 5
    simp only [List.getElem?_toArray, List.getElem?_cons_zero, List.getElem?_cons_succ] at X0 X1 X2 X3 X4 X5
    have Xl := hX.lt
    have H1 := Lib.hid hX1
    have H3 := Lib.hid hT
    have HSN := Lib.hid (flushH_snoc (hard := hard) (pre := pre) hq)
    clear hX hX1 hDW hT hDr hp2 hi2
    gi_wp2_with fail
    gi_region_with (first | (refine ⟨trivial, ?_⟩; refine (CallsIn.inRound l (callsIn_wide.2 KP.out)).mono ?_; rintro e w9 ⟨rfl, D9, T9⟩; have FS := Lib.hid (flush_step (W2 := W2) hm hg hB2s H1.out H3.out HSN.out D9 T9); clear D9 T9))
    all_goals gi_wp2
    all_goals exact FS.out
  case done =>
    rintro D ys W hD hS hF hK
    have hK' := hK
    have F := (flRel_own (hard := hard) (pd := pd) (k := k) hB2s (show b.m < W2.heap.size by omega)).putObj (.deferred none) hF hD hK rfl
    gi_wp2
    refine ⟨by simp, .inl ⟨_, _, rfl, run_takeDeferred hK', ?_⟩⟩
    refine ⟨.int .i64 0, ?_, rfl, ys, hS, F.2.1, F.2.2⟩
    simp [results, Tryz.f97, go_sem]
  case stop =>
    rintro D q pre W _ _ h _
    exact h.elim
end Go.Proofs.YtpnfkilfgdnogaaGreatDoor.Dev
end
section
namespace Go.Proofs.YtpnfkilfgdnogaaGreatDoor.Img
set_option linter.unusedVariables false
set_option linter.unusedSimpArgs false
open Go.RowKit Go.Shelf Go.Maps Go.Sort Oct Dev Jou Tx Geo Ino
def rootT : InoT := ⟨2, 1, 0, 0, 0, 0, 0, 0⟩
def rootS : ByteArray := inoB rootT ++ zS.extract 32 64
def oneS : ByteArray := fillN zS true 0 1
def twoS : ByteArray := fillN zS true 0 2
def fmtS (i b j : Nat) (q : Nat) : ByteArray :=
  if q = fromG i b j 4 then rootS else if q = fromG i b j 3 then oneS else if q = fromG i b j 2 then twoS else if q = 0 then B (superL i b j) else zS
theorem zS_size : zS.size = 64 := by
  unfold zS
  rw [size_B, List.length_replicate]
theorem rootS_size : rootS.size = 64 := by
  unfold rootS
  rw [ByteArray.size_append, inoB_size, ByteArray.size_extract, zS_size]
  rfl
theorem oneS_size : oneS.size = 64 := (fillN_size zS true 0 1).trans zS_size
theorem twoS_size : twoS.size = 64 := (fillN_size zS true 0 2).trans zS_size
theorem fmtS_size (i b j q : Nat) : (fmtS i b j q).size = 64 := by
  unfold fmtS
  split
  · exact rootS_size
  split
  · exact oneS_size
  split
  · exact twoS_size
  split
  · rw [size_B, super_len]
  · exact zS_size
def elemS : ElemR := fun v => match v with
  | .agg cs => match cs.toList with
    | [.string s] => some (.agg [.lit (.string (L s))], [])
    | _ => none
  | _ => none
theorem elemS_mk (s : ByteArray) : elemS (.agg #[.string s]) = some (.agg [.lit (.string (L s))], []) := rfl
theorem elemS_inv {v : Value} {s : ByteArray} {ps : List MemPlace} (h : elemS v = some (.agg [.lit (.string (L s))], ps)) : v = .agg #[.string s] := by
  unfold elemS at h
  split at h
  · rename_i cs
    split at h
    · rename_i t hm
      simp only [Option.some.injEq, Prod.mk.injEq, DataW.agg.injEq, List.cons.injEq, DataW.lit.injEq, Lit.string.injEq, and_true] at h
      rw [← L_inj h.1]
      congr 1
      exact Array.toList_inj.1 hm
    · cases h
  · cases h
def datS (s : ByteArray) : DataW Unit := .agg [.lit (.string (L s))]
def putS (i b j : Nat) : Int → Option (DataW Unit) :=
  putF (putF (putF (putF (fun _ => none) (0 : Nat) (datS (B (superL i b j)))) (fromG i b j 2 : Nat) (datS twoS)) (fromG i b j 3 : Nat) (datS oneS)) (fromG i b j 4 : Nat) (datS rootS)
theorem putS_get (i b j q : Nat) : ((putS i b j q).getD (datS zS)) = datS (fmtS i b j q) ∧ ((putS i b j q).isSome = false → fmtS i b j q = zS) := by
  unfold putS putF fmtS
  simp only [Int.natCast_inj]
  by_cases h4 : q = fromG i b j 4
  · simp only [if_pos h4]
    exact ⟨rfl, fun h => by cases h⟩
  by_cases h3 : q = fromG i b j 3
  · simp only [if_neg h4, if_pos h3]
    exact ⟨rfl, fun h => by cases h⟩
  by_cases h2 : q = fromG i b j 2
  · simp only [if_neg h4, if_neg h3, if_pos h2]
    exact ⟨rfl, fun h => by cases h⟩
  by_cases h0 : q = 0
  · simp only [if_neg h4, if_neg h3, if_neg h2, if_pos h0]
    exact ⟨rfl, fun h => by cases h⟩
  · simp only [if_neg h4, if_neg h3, if_neg h2, if_neg h0]
    exact ⟨rfl, fun h => trivial⟩
theorem putS_some {i b j q : Nat} (h : (putS i b j q).isSome = true) : (putS i b j q).getD (datS ⟨#[]⟩) = datS (fmtS i b j q) := by
  have h1 := (putS_get i b j q).1
  obtain ⟨d, hd⟩ := Option.isSome_iff_exists.1 h
  rw [hd] at h1 ⊢
  exact h1
theorem putS_none {i b j q : Nat} (h : (putS i b j q).isSome = false) : (putS i b j q).getD (datS ⟨#[]⟩) = datS ⟨#[]⟩ ∧ fmtS i b j q = zS := by
  refine ⟨?_, (putS_get i b j q).2 h⟩
  cases hp : putS i b j q with
  | none => rfl
  | some d => rw [hp] at h; cases h
def wtN (i b j m : Nat) (pd : Pend) : Prop := ∀ x : Int, (pd x).map (fun e => e.2.2) = if 0 ≤ x ∧ x < m then some (fmtS i b j x.toNat) else none
theorem wtN_zero (i b j : Nat) : wtN i b j 0 (fun _ => none) := fun x => by
  rw [if_neg (by omega)]
  rfl
theorem wtN_new {i b j m : Nat} {pd : Pend} (h : wtN i b j m pd) : pd m = none := by
  have h1 := h m
  rw [if_neg (by omega)] at h1
  simpa using h1
theorem wtN_succ {i b j m bl cap : Nat} {pd : Pend} (h : wtN i b j m pd) : wtN i b j (m + 1) (putP pd m (bl, cap, fmtS i b j m)) := fun x => by
  unfold putP
  by_cases hx : x = m
  · subst hx
    rw [if_pos rfl, if_pos (by omega)]
    rfl
  · rw [if_neg hx, h x]
    by_cases hc : 0 ≤ x ∧ x < m
    · rw [if_pos hc, if_pos (by omega)]
    · rw [if_neg hc, if_neg (by omega)]
theorem flushed {i b j n : Nat} {pd : Pend} {hard : List ByteArray} {ss : List Int} (hk : KeysOf (rowF pd) ss) (h : wtN i b j n pd) (hl : hard.length = n) : flushP pd ss = (fun _ => none) ∧ flushH hard pd ss = (List.range n).map (fmtS i b j) := by
  have hmem : ∀ x, x ∈ ss ↔ (pd x).isSome = true := fun x => by
    rw [hk.2 x]
    unfold rowF
    simp
  have hdom : ∀ x e, pd x = some e → ∃ q : Nat, x = q := fun x e hx => by
    have h1 := h x
    rw [hx] at h1
    by_cases hc : 0 ≤ x ∧ x < n
    · exact ⟨x.toNat, by omega⟩
    · rw [if_neg hc] at h1
      cases h1
  constructor
  · funext y
    unfold flushP
    by_cases hy : y ∈ ss
    · rw [if_pos hy]
    · rw [if_neg hy]
      have h2 := mt (hmem y).2 hy
      simpa using h2
  · apply List.ext_getElem?
    intro q
    by_cases hq : q < hard.length
    · rw [flushH_get hdom ss hard q hq]
      have h1 := h q
      rw [if_pos (by omega)] at h1
      have hs : (pd (q : Int)).isSome = true := by
        cases hp : pd (q : Int) with
        | none => rw [hp] at h1; cases h1
        | some e => rfl
      rw [if_pos ((hmem _).2 hs)]
      obtain ⟨e, he⟩ := Option.isSome_iff_exists.1 hs
      rw [he] at h1 ⊢
      have h3 : e.2.2 = fmtS i b j q := by simpa using h1
      simp only [h3]
      rw [List.getElem?_map, List.getElem?_range (by omega)]
      rfl
    · rw [List.getElem?_eq_none (by rw [flushH_len]; omega), List.getElem?_eq_none (by simp; omega)]
end Go.Proofs.YtpnfkilfgdnogaaGreatDoor.Img
end
section
namespace Go.Proofs.YtpnfkilfgdnogaaGreatDoor.Img
set_option linter.unusedVariables false
set_option linter.unusedSimpArgs false
open Go.RowKit Go.Shelf Go.Maps Go.Sort Oct Dev Jou Tx Geo Ino
def RootAt (w : World) : Prop := 0 < w.heap.size ∧ w.cell? ⟨0, 0, none⟩ = some (.int .u8 2) ∧ w.cell? ⟨0, 1, none⟩ = some (.int .u16 1) ∧ w.cell? ⟨0, 2, none⟩ = some (.int .u32 0) ∧ w.cell? ⟨0, 3, none⟩ = some (.int .u16 0) ∧ w.cell? ⟨0, 4, none⟩ = some (.int .u16 0) ∧ w.cell? ⟨0, 5, none⟩ = some (.int .u16 0) ∧ w.cell? ⟨0, 6, none⟩ = some (.int .u16 0) ∧ w.cell? ⟨0, 7, none⟩ = some (.int .u16 0)
theorem RootAt.below {w w' : World} {n : Nat} (h : RootAt w) (hn : 0 < n) (hb : Below n w w') : RootAt w' := by
  obtain ⟨h, h0, h1, h2, h3, h4, h5, h6, h7⟩ := h
  have k : ∀ i, w'.cell? ⟨0, i, none⟩ = w.cell? ⟨0, i, none⟩ := fun i => hb.cell (p := ⟨0, i, none⟩) hn
  refine ⟨Nat.lt_of_lt_of_le h hb.size, ?_⟩
  rw [k, k, k, k, k, k, k, k]
  exact ⟨h0, h1, h2, h3, h4, h5, h6, h7⟩
theorem RootAt.later {w w' : World} (h : RootAt w) (hb : Below w.heap.size w w') : RootAt w' := h.below h.1 hb
theorem under_put : Tryz.prog.underlying 174 = some (.map 3 175) := by kernel_rfl
theorem zero_elem (w : World) : (zeroValue 175).run Tryz.prog w = .ok (.agg #[.string ⟨#[]⟩]) w := by kernel_rfl
theorem look_put {W : World} {M nn i bl j : Nat} (h : IMap W elemS M nn (putS i bl j)) (q : Nat) (hq : q ≤ 4096) :
    (Instr.lookup 174 (.map (some M)) (.int .i64 (q : Int)) true).run Tryz.prog W = .ok (.tuple #[.agg #[.string (if (putS i bl j q).isSome then fmtS i bl j q else ⟨#[]⟩)], .bool (putS i bl j q).isSome]) W := by
  obtain ⟨v, ps, hrun, hv⟩ := h.look_ok under_put (zero_elem W) (elemS_mk ⟨#[]⟩) q (wf_nat q (by omega))
  rw [hrun]
  cases hp : (putS i bl j q).isSome with
  | true =>
    have e1 := putS_some hp
    rw [show DataW.agg [.lit (.string (L ⟨#[]⟩))] = datS ⟨#[]⟩ from rfl, e1] at hv
    rw [elemS_inv hv]
    rfl
  | false =>
    have e1 := (putS_none hp).1
    rw [show DataW.agg [.lit (.string (L ⟨#[]⟩))] = datS ⟨#[]⟩ from rfl, e1] at hv
    rw [elemS_inv hv]
    rfl
set_option maxRecDepth 100000 in
theorem lay_any (q : Nat) (s : ByteArray) (P M nn : Nat) (f : Int → Option (DataW Unit)) (w : World) (hP : SBox w P 174 #[.map (some M)]) (hM : IMap w elemS M nn f) (hq : q ≤ 4096) (hn : nn < 1000) :
    Calls Tryz.prog 93 #[.int .i64 q, .string s, .pointer (some ⟨P, 0, none⟩)] w fun e w' => e = .returned (.tuple #[]) ∧ IMap w' elemS M (nn + 1) (putF f q (datS s)) ∧ Tch (fun c => c = M) w w' := by
  obtain ⟨w3, hput, hI3, ht3⟩ := IMap.put hM under_put (by unfold maxLen; omega) q (wf_nat q (by omega)) (elemS_mk s)
  have T := Tch.grown (S := fun c => c = M) ht3.grown (fun r e => (Option.some.inj e).symm)
  have P0 := hP.cell 0
  have Pl := hP.lt
  simp only [List.getElem?_toArray, List.getElem?_cons_zero] at P0
  clear hP hM ht3
  have hI3 := Lib.hid hI3
  have T := Lib.hid T
  go_enter Tryz.func93, Tryz.ntmps93
  go_wp2
  go_end0
  exact ⟨rfl, hI3.out, T.out⟩
set_option maxRecDepth 100000 in
theorem first_any (i bl j p G : Nat) (w : World) (hm : mayG i bl j = true) (hp : p < 6) (hG : SBox w G 23 #[.int .i64 i, .int .i64 bl, .int .i64 j]) :
    Calls Tryz.prog 94 #[.int .i64 p, .pointer (some ⟨G, 0, none⟩)] w fun e w' => e = .returned (.int .i64 (fromG i bl j p)) ∧ Below w.heap.size w w' := by
  have PT := Lib.hid (fun W => Geo.part_any i bl j p W hm hp)
  unfold geoV at PT
  generalize fromG i bl j p = q at *
  generalize numG i bl j p = n at *
  have X0 := hG.cell 0
  have X1 := hG.cell 1
  have X2 := hG.cell 2
  simp only [List.getElem?_toArray, List.getElem?_cons_zero, List.getElem?_cons_succ] at X0 X1 X2
  have Xl := hG.lt
  clear hG
  go_enter Tryz.func94, Tryz.ntmps94
  go_wp2_with fail
  refine (PT.out _).mono ?_
  rintro e w1 ⟨rfl, b1⟩
  have hY := SBox.new w1 96 #[.int .i64 q, .int .i64 n]
  have Y0 := hY.cell 0
  have Y1 := hY.cell 1
  simp only [List.getElem?_toArray, List.getElem?_cons_zero, List.getElem?_cons_succ] at Y0 Y1
  have Yl := hY.lt
  have B1 := Lib.hid (b1.alloc b1.size (.cells #[.int .i64 q, .int .i64 n] 96))
  clear b1 hY
  go_wp2
  go_ret
  exact ⟨rfl, B1.out⟩
structure FmtAt (w : World) (i bl j G P M nn : Nat) (f : Int → Option (DataW Unit)) (W : World) : Prop where
  geo : SBox W G 23 #[.int .i64 i, .int .i64 bl, .int .i64 j]
  put : SBox W P 174 #[.map (some M)]
  map : IMap W elemS M nn f
  bel : Below w.heap.size w W
  ge : w.heap.size ≤ M
theorem FmtAt.later {w W W' : World} {i bl j G P M nn : Nat} {f : Int → Option (DataW Unit)} (h : FmtAt w i bl j G P M nn f W) (hb : Below W.heap.size W W') : FmtAt w i bl j G P M nn f W' :=
  ⟨h.geo.later hb, h.put.later hb, h.map.later hb, h.bel.trans (hb.mono h.bel.size), h.ge⟩
theorem FmtAt.lay {w W W' : World} {i bl j G P M nn nn' : Nat} {f f' : Int → Option (DataW Unit)} (h : FmtAt w i bl j G P M nn f W) (hM : IMap W' elemS M nn' f') (hT : Tch (fun c => c = M) W W') : FmtAt w i bl j G P M nn' f' W' :=
  ⟨(hT.block _ h.geo.lt (h.map.ne h.geo)).trans h.geo, (hT.block _ h.put.lt (h.map.ne h.put)).trans h.put, hM, hT.below (fun c hc => by rw [hc]; exact h.ge) h.bel h.bel.size, h.ge⟩
theorem lay_at {w W : World} {i bl j G P M nn q : Nat} {f : Int → Option (DataW Unit)} {s : ByteArray} (h : FmtAt w i bl j G P M nn f W) (hq : q ≤ 4096) (hn : nn < 1000) :
    Calls Tryz.prog 93 #[.int .i64 q, .string s, .pointer (some ⟨P, 0, none⟩)] W fun e W' => e = .returned (.tuple #[]) ∧ FmtAt w i bl j G P M (nn + 1) (putF f q (datS s)) W' :=
  (lay_any q s P M nn f W h.put h.map hq hn).mono fun e W' ⟨h1, h2, h3⟩ => ⟨h1, h.lay h2 h3⟩
theorem first_at {w W : World} {i bl j G P M nn p : Nat} {f : Int → Option (DataW Unit)} (h : FmtAt w i bl j G P M nn f W) (hm : mayG i bl j = true) (hp : p < 6) :
    Calls Tryz.prog 94 #[.int .i64 p, .pointer (some ⟨G, 0, none⟩)] W fun e W' => e = .returned (.int .i64 (fromG i bl j p)) ∧ FmtAt w i bl j G P M nn f W' :=
  (first_any i bl j p G W hm hp h.geo).mono fun e W' ⟨h1, h2⟩ => ⟨h1, h.later h2⟩
def FmtRel (w : World) (i bl j P M : Nat) (b : DevB) (hard : List ByteArray) (m : Nat) (wr : World) : Prop :=
  ∃ pd, DevAt wr b hard pd m ∧ wtN i bl j m pd ∧ SBox wr P 174 #[.map (some M)] ∧ IMap wr elemS M 4 (putS i bl j) ∧ Tch (fun c => c = b.p ∨ c = b.m) w wr
end Go.Proofs.YtpnfkilfgdnogaaGreatDoor.Img
end
section
namespace Go.Proofs.YtpnfkilfgdnogaaGreatDoor.Jou
set_option linter.unusedVariables false
set_option linter.unusedSimpArgs false
open Go.RowKit Go.Shelf Oct Dev
theorem keep2 {wr W W' : World} {j : Nat} {v0 v1 : Option Value} (hb : j < wr.heap.size) (h : Below wr.heap.size wr W ∧ W.cell? ⟨j, 0, none⟩ = v0 ∧ W.cell? ⟨j, 1, none⟩ = v1) (b9 : Below W.heap.size W W') : Below wr.heap.size wr W' ∧ W'.cell? ⟨j, 0, none⟩ = v0 ∧ W'.cell? ⟨j, 1, none⟩ = v1 := by
  have hs := h.1.size
  exact ⟨h.1.trans (b9.mono hs), (b9.cell (p := ⟨j, 0, none⟩) (Nat.lt_of_lt_of_le hb hs)).trans h.2.1, (b9.cell (p := ⟨j, 1, none⟩) (Nat.lt_of_lt_of_le hb hs)).trans h.2.2⟩
set_option maxRecDepth 100000 in
set_option maxHeartbeats 1000000 in
theorem recover_zero (j : Nat) (b : DevB) (hard : List ByteArray) (k fr n gen : Nat) (w : World) (hJ : JouAt w j b fr n gen) (hD : DevAt w b hard (fun _ => none) k) (hfr : fr < hard.length) (hz : hard[fr] = zS) :
    Calls Tryz.prog 100 #[.pointer (some ⟨j, 0, none⟩)] w fun e w' => e = .returned (.int .i64 0) ∧ JouAt w' j b fr n 0 ∧ Tch (fun c => c = j) w w' := by
  have RD := Lib.hid (fun W (h : Below w.heap.size w W) => read_hard fr W (hD.later h) hfr rfl)
  rw [hz] at RD
  have RZ := Lib.hid (fun W => read_zero W)
  have HJ := Lib.hid hJ
  have hX := hJ
  unfold JouAt at hX
  have X0 := hX.cell 0
  have X1 := hX.cell 1
  have X2 := hX.cell 2
  have X3 := hX.cell 3
  have X4 := hX.cell 4
  simp only [List.getElem?_toArray, List.getElem?_cons_zero, List.getElem?_cons_succ] at X0 X1 X2 X3 X4
  have Xl := hX.lt
  clear hX hD hJ
  generalize zS = zs at *
  go_enter Tryz.func100, Tryz.ntmps100
  go_wp2_with fail
  go_region_held3 (fun W => Below w.heap.size w W ∧ W.cell? ⟨j, 0, none⟩ = some (.pointer (some ⟨b.p, 0, none⟩)) ∧ W.cell? ⟨j, 1, none⟩ = some (.int .i64 fr))
    (first | exact keep2 Xl (by assumption) b9 | exact ⟨(Below.refl _ _).drew, X0, X1⟩ | exact ⟨Below.refl _ _, X0, X1⟩)
    (first | (go_at_call 103; refine (RD.out _ (And.left (by assumption))).mono ?_; rintro e w9 ⟨rfl, b9⟩))
  rename_i hS
  have b1 := hS.1
  clear hS
  go_wp2_with fail
  refine (RZ.out _).mono ?_
  rintro e w2 ⟨rfl, b2⟩
  have hB2 := b1.trans (b2.mono b1.size)
  have hJ2 : JouAt w2 j b fr n gen := SBox.below HJ.out Xl hB2
  have hX2 := hJ2
  unfold JouAt at hX2
  have Y0 := hX2.cell 0
  have Y1 := hX2.cell 1
  have Y2 := hX2.cell 2
  have Y3 := hX2.cell 3
  have Y4 := hX2.cell 4
  simp only [List.getElem?_toArray, List.getElem?_cons_zero, List.getElem?_cons_succ] at Y0 Y1 Y2 Y3 Y4
  have Yl := hX2.lt
  have F0 := hX2.free 0
  have F1 := hX2.free 1
  have F2 := hX2.free 2
  have F3 := hX2.free 3
  have F4 := hX2.free 4
  have HJ2 := Lib.hid hJ2
  have HB2 := Lib.hid hB2
  clear hX2 hJ2 hB2 b1 b2
  go_wp2
  go_ret
  refine ⟨rfl, ?_, (Tch.of_below HB2.out).trans (Tch.set _ rfl)⟩
  have h := HJ2.out
  unfold JouAt at h ⊢
  exact SBox.set h 3 _
end Go.Proofs.YtpnfkilfgdnogaaGreatDoor.Jou
end
section
namespace Go.Proofs.YtpnfkilfgdnogaaGreatDoor.Jou
set_option linter.unusedVariables false
set_option linter.unusedSimpArgs false
open Go.RowKit Go.Shelf Oct Dev
set_option maxRecDepth 100000 in
set_option maxHeartbeats 1000000 in
theorem open_zero (b : DevB) (hard : List ByteArray) (k fr n : Nat) (w : World) (hD : DevAt w b hard (fun _ => none) k) (h4 : 4 ≤ n) (hn : n ≤ 256) (hfr : fr + n ≤ hard.length) (hz : hard[fr]? = some zS) :
    Calls Tryz.prog 49 #[.pointer (some ⟨b.p, 0, none⟩), .int .i64 fr, .int .i64 n] w fun e w' => ∃ j : Nat, e = .returned (.tuple #[.pointer (some ⟨j, 0, none⟩), .int .i64 0]) ∧ w.heap.size ≤ j ∧ JouAt w' j b fr n 0 ∧ Below w.heap.size w w' := by
  have hlt : fr < hard.length := by omega
  have hz2 : hard[fr] = zS := by
    rw [List.getElem?_eq_getElem hlt] at hz
    exact Option.some.inj hz
  have hl := hD.len
  have LN := Lib.hid (len_any w hD)
  have HB := (Below.refl _ w).alloc (Nat.le_refl _) (.cells #[.pointer (some ⟨b.p, 0, none⟩), .int .i64 fr, .int .i64 n, .int .u64 0, .int .i64 0] 185)
  have RC := Lib.hid (recover_zero w.heap.size b hard k fr n 0 _ (SBox.new w 185 #[.pointer (some ⟨b.p, 0, none⟩), .int .i64 fr, .int .i64 n, .int .u64 0, .int .i64 0]) (hD.later HB) hlt hz2)
  have HB := Lib.hid HB
  have q1 : ¬ (n : Int) < 4 := by omega
  have q2 : ¬ (256 : Int) < n := by omega
  have q3 : ¬ (fr : Int) < 0 := by omega
  have q4 : ¬ (hard.length : Int) - n < fr := by omega
  have q5 : ¬ 256 < n := by omega
  clear hD hz hz2
  go_enter Tryz.func49, Tryz.ntmps49
  go_wp2_with fail
  refine (LN.out).mono ?_
  rintro e w9 ⟨rfl, rfl⟩
  go_wp2_with fail
  refine RC.out.mono ?_
  rintro e w1 ⟨rfl, J1, T1⟩
  have J1 := Lib.hid J1
  have B1 := Lib.hid (T1.below (n := w.heap.size) (fun c hc => by omega) HB.out (by simp))
  clear T1
  go_wp2
  go_ret2
  exact ⟨w.heap.size, rfl, Nat.le_refl _, J1.out, B1.out⟩
end Go.Proofs.YtpnfkilfgdnogaaGreatDoor.Jou
end
section
namespace Go.Proofs.YtpnfkilfgdnogaaGreatDoor.Img
set_option linter.unusedVariables false
set_option linter.unusedSimpArgs false
open Go.RowKit Go.Shelf Go.Maps Go.Sort Oct Dev Jou Tx Geo Ino
theorem fmtRel_step {w wr wx w' : World} {i bl j P M m bk cap : Nat} {b : DevB} {hard : List ByteArray} {pd : Pend} (hp : b.p < w.heap.size) (hm : b.m < w.heap.size) (hP : w.heap.size ≤ P) (hM : w.heap.size ≤ M)
    (h1 : wtN i bl j m pd) (h2 : SBox wr P 174 #[.map (some M)]) (h3 : IMap wr elemS M 4 (putS i bl j)) (h4 : Tch (fun c => c = b.p ∨ c = b.m) w wr)
    (hx : Below wr.heap.size wr wx) (hD : DevAt w' b hard (putP pd m (bk, cap, fmtS i bl j m)) (m + 1)) (hT : Tch (fun c => c = b.p ∨ c = b.m) wx w') : FmtRel w i bl j P M b hard (m + 1) w' := by
  have h2' := h2.later hx
  have h3' := h3.later hx
  exact ⟨_, hD, wtN_succ h1, (hT.block _ h2'.lt (by omega)).trans h2', h3'.block (hT.block _ h3'.lt (by omega)), (h4.trans (Tch.of_below hx)).trans hT⟩
def fmtL (i bl j : Nat) : List ByteArray := (List.range (szL i bl j).sum).map (fmtS i bl j)
theorem fmtL_len (i bl j : Nat) : (fmtL i bl j).length = (szL i bl j).sum := by simp [fmtL]
set_option maxRecDepth 100000 in
set_option maxHeartbeats 4000000 in
theorem format_any (i bl j : Nat) (b : DevB) (hard : List ByteArray) (w : World) (hm : mayG i bl j = true) (hD : DevAt w b hard (fun _ => none) 0) (hl : hard.length = (szL i bl j).sum) (hR : RootAt w) :
    Calls Tryz.prog 45 #[.pointer (some ⟨b.p, 0, none⟩), geoV i bl j] w fun e w' => e = .returned (.int .i64 0) ∧ DevAt w' b (fmtL i bl j) (fun _ => none) (szL i bl j).sum ∧ Tch (fun c => c = b.p ∨ c = b.m ∨ c = b.g) w w' := by
  have h4096 := hD.len
  have hr : i ≤ 256 ∧ bl ≤ 1024 ∧ j ≤ 256 := by simp [mayG, inR] at hm; omega
  have f2 := fromG_le hr.1 hr.2.1 hr.2.2 2
  have hfs : fromG i bl j 2 ≤ (szL i bl j).sum ∧ fromG i bl j 3 ≤ (szL i bl j).sum ∧ fromG i bl j 4 ≤ (szL i bl j).sum := by
    unfold fromG szL
    simp
  obtain ⟨n, hn⟩ : ∃ n, (szL i bl j).sum = n := ⟨_, rfl⟩
  unfold fmtL
  rw [hn] at hl hfs ⊢
  have MY := Lib.hid (fun W => may_any i bl j W)
  rw [hm] at MY
  have LN := Lib.hid (fun W (hb : Below w.heap.size w W) => len_any W (hD.later hb))
  have SC := Lib.hid (fun W => sectors_any i bl j W hm)
  have SU := Lib.hid (fun W => super_any i bl j W hm)
  have ZE : Hid (∀ W, Calls Tryz.prog 69 #[] W fun e w' => e = .returned (.string zS) ∧ Below W.heap.size W w') := Lib.hid (fun W => zero_any W)
  have F2 : Hid (∀ W, Calls Tryz.prog 95 #[.string zS, .int .i64 0, .int .i64 2, .bool true] W fun e w' => e = .returned (.tuple #[.string twoS, .int .i64 0]) ∧ Below W.heap.size W w') := Lib.hid (fun W => fill_any zS 0 2 true W (by rw [zS_size]; omega) (by omega) (by rw [zS_size]; omega))
  have F1 : Hid (∀ W, Calls Tryz.prog 95 #[.string zS, .int .i64 0, .int .i64 1, .bool true] W fun e w' => e = .returned (.tuple #[.string oneS, .int .i64 0]) ∧ Below W.heap.size W w') := Lib.hid (fun W => fill_any zS 0 1 true W (by rw [zS_size]; omega) (by omega) (by rw [zS_size]; omega))
  have PI : Hid (∀ W, Calls Tryz.prog 63 #[.agg #[.int .u8 2, .int .u16 1, .int .u32 0, .int .u16 0, .int .u16 0, .int .u16 0, .int .u16 0, .int .u16 0]] W fun e w' => e = .returned (.tuple #[.string (inoB rootT), .int .i64 0]) ∧ Below W.heap.size W w') := Lib.hid (fun W => put_ino rootT W (.inr ⟨.inr rfl, by decide, by decide, fun _ => rfl, fun k v hk hv => by
    match k, hk with
    | 0, hk | 1, hk | 2, hk | 3, hk | 4, hk => cases hk; exact absurd rfl hv, by decide⟩))
  have HD := Lib.hid hD
  have HR := Lib.hid hR
  rw [hl] at LN
  rw [hn] at SC
  have hmm := @run_makeMap Tryz.prog
  unfold geoV at *
  clear hD hR
  go_enter Tryz.func45, Tryz.ntmps45
  have HB0 := Lib.hid ((Below.refl _ w).alloc (Nat.le_refl _) (.cells #[.int .i64 i, .int .i64 bl, .int .i64 j] 23))
  go_wp2_with fail
  refine (MY.out _).mono ?_
  rintro e w1 ⟨rfl, b1⟩
  have HG1 := Lib.hid ((SBox.new w 23 #[.int .i64 i, .int .i64 bl, .int .i64 j]).later b1)
  have B1 := Lib.hid (HB0.out.trans (b1.mono HB0.out.size))
  have hX := HG1.out
  have X0 := hX.cell 0
  have X1 := hX.cell 1
  have X2 := hX.cell 2
  simp only [List.getElem?_toArray, List.getElem?_cons_zero, List.getElem?_cons_succ] at X0 X1 X2
  have Xl := hX.lt
  clear hX b1
  go_wp2_with fail
  go_region_held3 (fun W => W.cell? ⟨w.heap.size, 0, none⟩ = some (.int .i64 i) ∧ W.cell? ⟨w.heap.size, 1, none⟩ = some (.int .i64 bl) ∧ W.cell? ⟨w.heap.size, 2, none⟩ = some (.int .i64 j) ∧ KeepF w1 W)
    (first | exact KeepF.later Xl Xl Xl (by assumption) (by assumption) | assumption | exact ⟨X0, X1, X2, (Below.refl _ _).drew⟩ | exact ⟨X0, X1, X2, Below.refl _ _⟩)
    (first
      | (go_at_call 92; refine (LN.out _ (B1.out.trans ((KeepF.get (by assumption)).mono B1.out.size))).mono ?_; rintro e w9 ⟨rfl, rfl⟩)
      | (go_at_call 47; refine (SC.out _).mono ?_; rintro e w9 ⟨rfl, b9⟩))
  rename_i hS
  have BS := KeepF.get hS
  have HG2 := Lib.hid (HG1.out.later BS)
  have B2 := Lib.hid (B1.out.trans (BS.mono B1.out.size))
  clear hS BS X0 X1 X2 Xl
  have hX := HG2.out
  have X0 := hX.cell 0
  have X1 := hX.cell 1
  have X2 := hX.cell 2
  simp only [List.getElem?_toArray, List.getElem?_cons_zero, List.getElem?_cons_succ] at X0 X1 X2
  have Xl := hX.lt
  clear hX
  have HM0 := Lib.hid (show FmtAt w i bl j w.heap.size (w9.heap.size + 1) w9.heap.size 0 (fun _ => none) ((w9.alloc (.map #[] 0)).alloc (.cells #[.map (some w9.heap.size)] 174)) from by
    have h1 := SBox.new (w9.alloc (.map #[] 0)) 174 #[.map (some w9.heap.size)]
    rw [World.size_alloc] at h1
    exact ⟨(HG2.out.alloc _).alloc _, h1, (IMap.new w9 elemS).alloc _, (B2.out.alloc B2.out.size _).alloc (by have := B2.out.size; simp; omega) _, B2.out.size⟩)
  have LY := Lib.hid (fun q s W nn f (h : FmtAt w i bl j w.heap.size (w9.heap.size + 1) w9.heap.size nn f W) (hq : q ≤ 4096) (hn : nn < 1000) => lay_at (q := q) (s := s) h hq hn)
  have FI := Lib.hid (fun p W nn f (h : FmtAt w i bl j w.heap.size (w9.heap.size + 1) w9.heap.size nn f W) (hp : p < 6) => first_at (p := p) h hm hp)
  have RS := Lib.hid (show inoB rootT ++ zS.extract 32 64 = rootS from rfl)
  have z32 : (inoB rootT).size = 32 := inoB_size _
  have z64 : zS.size = 64 := zS_size
  have PN := Lib.hid (fun (q : Nat) (h : (putS i bl j q).isSome = false) => (putS_none h).2)
  have FS := Lib.hid (show putF (putF (putF (putF (fun _ => none) (0 : Nat) (datS (B (superL i bl j)))) (fromG i bl j 2 : Nat) (datS twoS)) (fromG i bl j 3 : Nat) (datS oneS)) (fromG i bl j 4 : Nat) (datS rootS) = putS i bl j from rfl)
  have WT := Lib.hid (fun m W pd (h : DevAt W b hard pd m) (hm : m < hard.length) (hp : pd m = none) => write_new m (fmtS i bl j m) W h hm hp (fmtS_size i bl j m) (by omega))
  generalize inoB rootT = sR at *
  generalize rootS = sT at *
  generalize twoS = sW at *
  generalize oneS = sO at *
  generalize zS = sZ at *
  generalize B (superL i bl j) = sU at *
  go_wp2_with fail
  refine (SU.out _).mono ?_
  rintro e w3 ⟨rfl, b3⟩
  have H3 := Lib.hid (HM0.out.later b3)
  clear b3 X0 X1 X2 Xl HM0
  go_wp2_with fail
  refine (ZE.out _).mono ?_
  rintro e w4 ⟨rfl, b4⟩
  have H4 := Lib.hid (H3.out.later b4)
  clear b4 H3
  go_wp2_with fail
  refine (F2.out _).mono ?_
  rintro e w5 ⟨rfl, b5⟩
  have H5 := Lib.hid (H4.out.later b5)
  clear b5 H4
  go_wp2_with fail
  refine (ZE.out _).mono ?_
  rintro e w6 ⟨rfl, b6⟩
  have H6 := Lib.hid (H5.out.later b6)
  clear b6 H5
  go_wp2_with fail
  refine (F1.out _).mono ?_
  rintro e w7 ⟨rfl, b7⟩
  have H7 := Lib.hid (H6.out.later b7)
  clear b7 H6
  obtain ⟨Rl, R0, R1, R2, R3, R4, R5, R6, R7⟩ := HR.out.later H7.out.bel
  go_wp2_with fail
  refine (PI.out _).mono ?_
  rintro e w8 ⟨rfl, b8⟩
  have H8 := Lib.hid (H7.out.later b8)
  clear b8 H7 Rl R0 R1 R2 R3 R4 R5 R6 R7
  go_wp2_with fail
  refine (LY.out 0 sU _ _ _ H8.out (by omega) (by omega)).mono ?_
  rintro e wA ⟨rfl, hA⟩
  have HA := Lib.hid hA
  clear hA H8
  go_wp2_with fail
  refine (FI.out 2 _ _ _ HA.out (by omega)).mono ?_
  rintro e wB ⟨rfl, hB⟩
  have HB := Lib.hid hB
  clear hB HA
  go_wp2_with fail
  refine (LY.out (fromG i bl j 2) sW _ _ _ HB.out (by omega) (by omega)).mono ?_
  rintro e wC ⟨rfl, hC⟩
  have HC := Lib.hid hC
  clear hC HB
  go_wp2_with fail
  refine (FI.out 3 _ _ _ HC.out (by omega)).mono ?_
  rintro e wD ⟨rfl, hD⟩
  have HD := Lib.hid hD
  clear hD HC
  go_wp2_with fail
  refine (LY.out (fromG i bl j 3) sO _ _ _ HD.out (by omega) (by omega)).mono ?_
  rintro e wE ⟨rfl, hE⟩
  have HE := Lib.hid hE
  clear hE HD
  go_wp2_with fail
  refine (FI.out 4 _ _ _ HE.out (by omega)).mono ?_
  rintro e wF ⟨rfl, hF⟩
  have HF := Lib.hid hF
  clear hF HE
  go_wp2_with fail
  refine (ZE.out _).mono ?_
  rintro e wG ⟨rfl, bG⟩
  have HG := Lib.hid (HF.out.later bG)
  clear bG HF
  go_wp2_with fail
  refine (LY.out (fromG i bl j 4) (sR ++ sZ.extract 32 64) _ _ _ HG.out (by omega) (by omega)).mono ?_
  rintro e wH ⟨rfl, hH⟩
  rw [RS.out, FS.out] at hH
  have HH := Lib.hid hH
  clear hH HG
  go_wp2_with fail
  refine (LN.out _ HH.out.bel).mono ?_
  rintro e wX ⟨rfl, rfl⟩
  go_wp2_with fail
  obtain ⟨capX, _, hdX⟩ := HD.out.dev
  have hpl := hdX.lt
  have hml := HD.out.map.lt
  have hPl : w.heap.size ≤ w9.heap.size + 1 := by have := B2.out.size; omega
  have hMl : w.heap.size ≤ w9.heap.size := B2.out.size
  have ST := Lib.hid (fun m wr wx w' bk cap pd h1 h2 h3 h4 hx hD hT => fmtRel_step (w := w) (wr := wr) (wx := wx) (w' := w') (i := i) (bl := bl) (j := j) (P := w9.heap.size + 1) (M := w9.heap.size) (m := m) (bk := bk) (cap := cap) (b := b) (hard := hard) (pd := pd) hpl hml hPl hMl h1 h2 h3 h4 hx hD hT)
  have R0 := Lib.hid (show FmtRel w i bl j (w9.heap.size + 1) w9.heap.size b hard 0 wH from ⟨_, HD.out.later HH.out.bel, wtN_zero i bl j, HH.out.put, HH.out.map, Tch.of_below HH.out.bel⟩)
  clear hdX HH hmm FS RS LY FI SU F1 F2 PI MY SC HR HG1 HG2 B1 B2 HB0 hfs f2 hPl hMl z32
  generalize w9.heap.size + 1 = P at *
  generalize w9.heap.size = M at *
  go_loopw [80] (fun c wr => ∃ m : Nat, m ≤ n ∧ c = .int .i64 m ∧ FmtRel w i bl j P M b hard m wr) (fun c _ => n - (intOf c).toNat)
  case atStart => exact ⟨0, Nat.zero_le _, rfl, R0.out⟩
  case round =>
    obtain ⟨m, hmn, rfl, pd, hDm, hw, hPm, hMm, hT⟩ := hrel
    by_cases hlt : m < n
    · have q0 : (m : Int) < n := by omega
      have hlk := look_put hMm m (by omega)
      have hpd := wtN_new hw
      have P0 := hPm.cell 0
      have Pl := hPm.lt
      simp only [List.getElem?_toArray, List.getElem?_cons_zero] at P0
      have HDm := Lib.hid hDm
      have HW := Lib.hid hw
      have HPm := Lib.hid hPm
      have HMm := Lib.hid hMm
      have HTm := Lib.hid hT
      have W1 := Lib.hid (WT.out m)
      have S1 := Lib.hid (ST.out m)
      clear hDm hw hPm hMm hT
      cases hps : (putS i bl j m).isSome with
      | true =>
        rw [hps] at hlk
        simp only [if_true] at hlk
        generalize fmtS i bl j m = sm at *
        go_wp2_with fail
        refine (W1.out _ pd (HDm.out.later ((Below.refl _ wr).alloc (Nat.le_refl _) _)) (by omega) hpd).mono ?_
        rintro e w8 ⟨rfl, bk, cap, h8, T8⟩
        go_wp2_with fail
        go_roundw
        case rel => exact ⟨m + 1, by omega, rfl, S1.out _ _ _ bk cap pd HW.out HPm.out HMm.out HTm.out ((Below.refl _ wr).alloc (Nat.le_refl _) _) h8 T8⟩
        case measure => simp [intOf]; omega
      | false =>
        rw [hps] at hlk
        have em := PN.out m hps
        simp only [Bool.false_eq_true, if_false] at hlk
        rw [em] at W1 S1
        go_wp2_with fail
        refine (ZE.out _).mono ?_
        rintro e w7 ⟨rfl, b7⟩
        have hY := (SBox.new wr 175 #[.string ⟨#[]⟩]).later b7
        have B7 := Lib.hid ((((Below.refl _ wr).alloc (Nat.le_refl _) (.cells #[.string ⟨#[]⟩] 175)).trans (b7.mono (by simp))).setCell (p := ⟨wr.heap.size, 0, none⟩) (Nat.le_refl _) (.string sZ))
        have Y0 := hY.cell 0
        simp only [List.getElem?_toArray, List.getElem?_cons_zero, List.getElem?_cons_succ] at Y0
        have Yl := hY.lt
        have F0 := hY.free 0
        clear hY b7
        go_wp2_with fail
        refine (W1.out _ pd (HDm.out.later B7.out) (by omega) hpd).mono ?_
        rintro e w8 ⟨rfl, bk, cap, h8, T8⟩
        go_wp2_with fail
        go_roundw
        case rel => exact ⟨m + 1, by omega, rfl, S1.out _ _ _ bk cap pd HW.out HPm.out HMm.out HTm.out B7.out h8 T8⟩
        case measure => simp [intOf]; omega
    · obtain rfl : m = n := by omega
      have FL := Lib.hid (flush_any wr hDm (by omega))
      have HW := Lib.hid hw
      have HTm := Lib.hid hT
      clear hDm hw hPm hMm hT R0
      go_wp2_with fail
      refine FL.out.mono ?_
      rintro e w8 ⟨rfl, ss, hk, h8, T8⟩
      obtain ⟨e1, e2⟩ := flushed hk HW.out hl
      rw [e1, e2] at h8
      have H8 := Lib.hid h8
      have T9 := Lib.hid ((HTm.out.mono (T := fun c => c = b.p ∨ c = b.m ∨ c = b.g) (fun c hc => by rcases hc with h | h <;> simp [h])).trans (T8.mono (fun c hc => by rcases hc with h | h <;> simp [h])))
      clear h8 T8 e1 e2 hk
      go_wp2
      go_ret
      exact ⟨rfl, H8.out, T9.out⟩
end Go.Proofs.YtpnfkilfgdnogaaGreatDoor.Img
end
section
namespace Go.Proofs.YtpnfkilfgdnogaaGreatDoor.Img
set_option linter.unusedVariables false
set_option linter.unusedSimpArgs false
open Go.RowKit Go.Shelf Go.Maps Go.Sort Oct Dev Jou Tx Geo Ino
structure DiskAt (w : World) (E : Im) (i bl j : Nat) (w' : World) : Prop where
  small : Small E
  ei : E.i = i
  eb : E.bl = bl
  ej : E.j = j
  hard : E.hard = fmtL i bl j
  is : IS w' E (fmtS i bl j) (fun _ => False)
  dev : DevAt w' E.b E.hard (fun _ => none) E.k
  own : w.heap.size ≤ E.T.m
  bel : Below w.heap.size w w'
  own2 : w.heap.size ≤ E.b.p ∧ w.heap.size ≤ E.b.g ∧ w.heap.size ≤ E.b.m ∧ w.heap.size ≤ E.T.j ∧ w.heap.size ≤ E.T.p
  ek : E.k = (szL i bl j).sum
set_option maxRecDepth 100000 in
set_option maxHeartbeats 4000000 in
theorem disk_any (i bl j : Nat) (w : World) (hm : mayG i bl j = true) (hi : i ≤ 30) (hb : bl ≤ 60) (hj : j ≤ 60) (hR : RootAt w) :
    Calls Tryz.prog 11 #[geoV i bl j] w fun e w' => ∃ E : Im, e = .returned (.tuple #[.pointer (some ⟨E.b.p, 0, none⟩), .pointer (some ⟨E.T.j, 0, none⟩), .pointer (some ⟨E.T.p, 0, none⟩), .pointer (some ⟨E.M, 0, none⟩)]) ∧ DiskAt w E i bl j w' := by
  have hv := (Small.vals (E := ⟨0, ⟨0, 0, 0⟩, ⟨0, 0, 0⟩, [], 0, i, bl, j⟩) ⟨hm, hi, hb, hj⟩)
  simp only [fr] at hv
  have h1z : fmtS i bl j 1 = zS := by
    unfold fmtS
    rw [if_neg (by omega), if_neg (by omega), if_neg (by omega), if_neg (by omega)]
  have hn1 : numG i bl j 1 = j := rfl
  have SC := Lib.hid (fun W => sectors_any i bl j W hm)
  have PT := Lib.hid (fun W => Geo.part_any i bl j 1 W hm (by omega))
  rw [hn1, hv.1] at PT
  have hfl := fmtL_len i bl j
  have hf1 : (fmtL i bl j)[1]? = some zS := by
    unfold fmtL
    rw [List.getElem?_map, List.getElem?_range (by omega)]
    simp [h1z]
  have FM := Lib.hid (fun b W (hD : DevAt W b (List.replicate (szL i bl j).sum zeroS) (fun _ => none) 0) (hR : RootAt W) => format_any i bl j b _ W hm hD (by simp) hR)
  have NW := Lib.hid (fun W => Dev.new_any (szL i bl j).sum W (by omega) (by omega))
  have OP := Lib.hid (fun b k W hD => open_zero b (fmtL i bl j) k 1 j W hD (by omega) (by omega) (by rw [hfl]; omega) hf1)
  have NI := Lib.hid (fun T b k W h => Img.new_any T b (fmtL i bl j) k i bl j 0 (fun _ => none) W h hm hfl (fun q hq => by
    rw [hfl] at hq
    unfold readT
    simp only
    unfold fmtL
    rw [List.getD_eq_getElem?_getD, List.getElem?_map, List.getElem?_range hq]
    exact fmtS_size i bl j q))
  have HR := Lib.hid hR
  have FIN := Lib.hid (fun (T : TxB) (b : DevB) (k M : Nat) (W : World) (h : ImAt W ⟨M, T, b, fmtL i bl j, k, i, bl, j⟩ (fun _ => none) 0) => (show IS W ⟨M, T, b, fmtL i bl j, k, i, bl, j⟩ (fmtS i bl j) (fun _ => False) from ⟨_, _, h, fun q hq => by
    have hq2 : q < (szL i bl j).sum := by rw [← hfl]; exact hq
    unfold readT
    simp only
    unfold fmtL
    rw [List.getD_eq_getElem?_getD, List.getElem?_map, List.getElem?_range hq2]
    rfl, fun x hx => by cases hx⟩))
  have hsm : ∀ (T : TxB) (b : DevB) (k M : Nat), Small ⟨M, T, b, fmtL i bl j, k, i, bl, j⟩ := fun T b k M => ⟨hm, hi, hb, hj⟩
  have HSM := Lib.hid hsm
  unfold geoV at *
  clear hR h1z hn1 hf1 hfl hv hsm
  generalize hgn : (szL i bl j).sum = n at *
  have HB0 := Lib.hid ((Below.refl _ w).alloc (Nat.le_refl _) (.cells #[.int .i64 i, .int .i64 bl, .int .i64 j] 23))
  have HG0 := Lib.hid (SBox.new w 23 #[.int .i64 i, .int .i64 bl, .int .i64 j])
  go_enter Tryz.func11, Tryz.ntmps11
  go_wp2_with fail
  refine (SC.out _).mono ?_
  rintro e w1 ⟨rfl, b1⟩
  have HG1 := Lib.hid (HG0.out.later b1)
  have B1 := Lib.hid (HB0.out.trans (b1.mono HB0.out.size))
  clear b1
  go_wp2_with fail
  refine (NW.out _).mono ?_
  rintro e w2 ⟨b, rfl, hD, hp, hg, hmm, b2⟩
  have hpw : w.heap.size ≤ b.p := Nat.le_trans B1.out.size hp
  have hgw : w.heap.size ≤ b.g := Nat.le_trans B1.out.size hg
  have hmw : w.heap.size ≤ b.m := Nat.le_trans B1.out.size hmm
  have HG2 := Lib.hid (HG1.out.later b2)
  have B2 := Lib.hid (B1.out.trans (b2.mono B1.out.size))
  have HD2 := Lib.hid hD
  have hX := HG2.out
  have X0 := hX.cell 0
  have X1 := hX.cell 1
  have X2 := hX.cell 2
  simp only [List.getElem?_toArray, List.getElem?_cons_zero, List.getElem?_cons_succ] at X0 X1 X2
  have Xl := hX.lt
  have hgne : w.heap.size ≠ b.p ∧ w.heap.size ≠ b.g ∧ w.heap.size ≠ b.m := by
    have := HG1.out.lt
    omega
  clear b2 hD hX hp hg hmm
  go_wp2_with fail
  refine (PT.out _).mono ?_
  rintro e w3 ⟨rfl, b3⟩
  have HS3 := Lib.hid (SBox.new w3 96 #[.int .i64 (1 : Nat), .int .i64 j])
  have HB3 := Lib.hid (b3.alloc b3.size (.cells #[.int .i64 (1 : Nat), .int .i64 j] 96))
  have HG3 := Lib.hid (HG2.out.later HB3.out)
  have B3 := Lib.hid (B2.out.trans (HB3.out.mono B2.out.size))
  have HD3 := Lib.hid (HD2.out.later HB3.out)
  have hne3 : w3.heap.size ≠ b.p ∧ w3.heap.size ≠ b.g ∧ w3.heap.size ≠ b.m := by
    have h1 := HD2.out.row.lt
    have h2 := HD2.out.map.lt
    obtain ⟨cap, _, h3⟩ := HD2.out.dev
    have h3 := h3.lt
    have h4 := b3.size
    omega
  have hX := HG2.out.later b3
  clear X0 X1 X2 Xl b3
  have X0 := hX.cell 0
  have X1 := hX.cell 1
  have X2 := hX.cell 2
  simp only [List.getElem?_toArray, List.getElem?_cons_zero, List.getElem?_cons_succ] at X0 X1 X2
  have Xl := hX.lt
  clear hX
  go_wp2_with fail
  refine (FM.out b _ HD3.out (HR.out.later B3.out)).mono ?_
  rintro e w4 ⟨rfl, hD4, T4⟩
  have B4 := Lib.hid (T4.below (fun c hc => by rcases hc with rfl | rfl | rfl <;> assumption) B3.out B3.out.size)
  have HG4 : Hid (SBox w4 w.heap.size 23 #[.int .i64 i, .int .i64 bl, .int .i64 j]) := Lib.hid ((T4.block _ HG3.out.lt (by omega)).trans HG3.out)
  have HS4 := Lib.hid ((T4.block w3.heap.size (by simp) (by omega)).trans HS3.out)
  have HD4 := Lib.hid hD4
  have hX := HG4.out
  have hY : SBox w4 w3.heap.size 96 #[.int .i64 (1 : Nat), .int .i64 j] := HS4.out
  clear X0 X1 X2 Xl hD4 T4
  have X0 := hX.cell 0
  have X1 := hX.cell 1
  have X2 := hX.cell 2
  simp only [List.getElem?_toArray, List.getElem?_cons_zero, List.getElem?_cons_succ] at X0 X1 X2
  have Xl := hX.lt
  have Y0 := hY.cell 0
  have Y1 := hY.cell 1
  simp only [List.getElem?_toArray, List.getElem?_cons_zero, List.getElem?_cons_succ] at Y0 Y1
  have Yl := hY.lt
  clear hX hY
  go_wp2_with fail
  refine (OP.out b _ _ HD4.out).mono ?_
  rintro e w5 ⟨jj, rfl, hjj, hJ, b5⟩
  have B5 := Lib.hid (B4.out.trans (b5.mono B4.out.size))
  have HG5 := Lib.hid (HG4.out.later b5)
  have HD5 := Lib.hid (HD4.out.later b5)
  have HJ5 := Lib.hid hJ
  clear hJ b5 X0 X1 X2 Xl Y0 Y1 Yl
  go_wp2_with fail
  refine (begin_any jj _ HD5.out).mono ?_
  rintro e w6 ⟨T, rfl, hTj, hTp, hTm, hTx, b6⟩
  have B6 := Lib.hid (B5.out.trans (b6.mono B5.out.size))
  have HG6 := Lib.hid (HG5.out.later b6)
  have HD6 := Lib.hid (HD5.out.later b6)
  have hne : T.m ≠ b.m := by have := HD5.out.map.lt; omega
  have hJ6 : JouAt w6 T.j b 1 j 0 := by
    rw [hTj]
    exact SBox.later HJ5.out b6
  have HT6 := Lib.hid (show TJ w6 T b (fmtL i bl j) n (fun _ => none) 0 1 j from ⟨hTx, ⟨0, Nat.zero_le _, hJ6⟩, hne⟩)
  have hTm := Nat.le_trans B5.out.size hTm
  have hTp := Nat.le_trans B5.out.size hTp
  have hTjw : w.heap.size ≤ T.j := by rw [hTj]; exact Nat.le_trans B4.out.size hjj
  have hX := HG6.out
  clear hTx hJ6 b6
  have X0 := hX.cell 0
  have X1 := hX.cell 1
  have X2 := hX.cell 2
  simp only [List.getElem?_toArray, List.getElem?_cons_zero, List.getElem?_cons_succ] at X0 X1 X2
  have Xl := hX.lt
  clear hX
  go_wp2_with fail
  refine (NI.out T b _ _ HT6.out).mono ?_
  rintro e w7 ⟨M, rfl, hM, hI, b7⟩
  have B7 := Lib.hid (B6.out.trans (b7.mono B6.out.size))
  have HD7 := Lib.hid (HD6.out.later b7)
  have HI7 := Lib.hid hI
  clear hI b7 X0 X1 X2 Xl
  go_wp2
  exact bodyPost_ret (v := .tuple #[.pointer (some ⟨b.p, 0, none⟩), .pointer (some ⟨jj, 0, none⟩), .pointer (some ⟨T.p, 0, none⟩), .pointer (some ⟨M, 0, none⟩)]) (by simp [results, Tryz.results11, go_sem]) rfl ⟨⟨M, T, b, fmtL i bl j, n, i, bl, j⟩, by rw [hTj], ⟨HSM.out T b n M, rfl, rfl, rfl, rfl, FIN.out T b n M _ HI7.out, HD7.out, hTm, B7.out, ⟨hpw, hgw, hmw, hTjw, hTp⟩, hgn.symm⟩⟩
end Go.Proofs.YtpnfkilfgdnogaaGreatDoor.Img
end
