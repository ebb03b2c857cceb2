/- Layer 3 (dev): a write to a sector of which no write waits. -/
import Derived.Test.YtpnfkilfgdnogaaGreatDoorDevRead
import Derived.Deep.AppendLies
import Derived.Deep.RegionHeld3
namespace Go.Proofs.YtpnfkilfgdnogaaGreatDoor.Dev
set_option linter.unusedVariables false
set_option linter.unusedSimpArgs false
open Go.RowKit Go.Shelf Go.Maps
structure Tch (S : Nat → Prop) (w w' : World) : Prop where
  os : w'.os = w.os
  tape : w'.tape = w.tape
  output : w'.output = w.output
  size : w.heap.size ≤ w'.heap.size
  block : ∀ c, c < w.heap.size → ¬ S c → w'.heap[c]? = w.heap[c]?
theorem Tch.trans {S : Nat → Prop} {x y z : World} (h : Tch S x y) (g : Tch S y z) : Tch S x z :=
  ⟨g.os.trans h.os, g.tape.trans h.tape, g.output.trans h.output, Nat.le_trans h.size g.size, fun c hc hs => (g.block c (Nat.lt_of_lt_of_le hc h.size) hs).trans (h.block c hc hs)⟩
theorem Tch.of_below {S : Nat → Prop} {w w' : World} (h : Below w.heap.size w w') : Tch S w w' := ⟨h.os, h.tape, h.output, h.size, fun c hc _ => h.block c hc⟩
theorem Tch.below {S : Nat → Prop} {n : Nat} {w0 w w' : World} (h : Tch S w w') (hS : ∀ c, S c → n ≤ c) (h0 : Below n w0 w) (hn : n ≤ w.heap.size) : Below n w0 w' :=
  ⟨h.os.trans h0.os, h.tape.trans h0.tape, h.output.trans h0.output, Nat.le_trans h0.size h.size, fun c hc => (h.block c (by omega) (fun hs => by have := hS c hs; omega)).trans (h0.block c hc)⟩
theorem Tch.mono {S T : Nat → Prop} {w w' : World} (h : Tch S w w') (hST : ∀ c, S c → T c) : Tch T w w' := ⟨h.os, h.tape, h.output, h.size, fun c hc hs => h.block c hc (fun x => hs (hST c x))⟩
theorem Tch.grown {S : Nat → Prop} {w w' : World} {row : Option Nat} (h : w.grownBy w' row) (hr : ∀ r, row = some r → S r) : Tch S w w' :=
  ⟨h.os, h.tape, h.output, h.size, fun c hc hs => h.block c hc (fun e => hs (hr c e.symm))⟩
theorem Tch.set {S : Nat → Prop} {w : World} {c i : Nat} (v : Value) (hc : S c) : Tch S w (w.setCell ⟨c, i, none⟩ v) :=
  ⟨rfl, rfl, rfl, by simp [World.setCell], fun k _ hk => heap_setCell_other w ⟨c, i, none⟩ k v (fun e => hk (by have e2 : k = c := e; rw [e2]; exact hc))⟩
def putP (pd : Pend) (i : Int) (e : Nat × Nat × ByteArray) : Pend := fun y => if y = i then some e else pd y
theorem rowF_put (pd : Pend) (i : Int) (e : Nat × Nat × ByteArray) : rowF (putP pd i e) = putF (rowF pd) i (rowD e.1 e.2.1) := by
  funext y
  unfold rowF putP putF
  by_cases hy : y = i <;> simp [hy]
theorem info_str : (Tryz.prog.info? 9).map (fun i => (i.zero, i.size, i.bytes)) = some (some (.string ⟨#[]⟩), 1, 16) := by kernel_rfl
theorem field_row (v : Value) (w : World) : (Instr.field 238 (.agg #[v]) 0).run Tryz.prog w = .ok v w := by kernel_rfl
theorem str1 {W : World} {base g n cap : Nat} {s : ByteArray} {xs : List Value} (hx : xs = [.string s]) (h : W.ownsRow base 9 1 (.slice (some ⟨g, 0, none⟩) n cap) n xs) : StrRow W g [s] ∧ base ≤ g := by
  subst hx
  obtain ⟨h0, hh⟩ := h
  rcases hh with ⟨e, _⟩ | ⟨g', cap', cur, e, hb, hg, _, _, hcs, ht⟩
  · cases e
  · obtain ⟨rfl, rfl⟩ : g' = g ∧ cap' = cap := by simp at e; exact ⟨e.1.symm, e.2.symm⟩
    refine ⟨⟨cur, hg, fun i hi => ?_⟩, hb⟩
    have hi0 : i = 0 := by simp at hi; exact hi
    subst hi0
    have hn : n = 1 := by simpa using h0.symm
    subst hn
    have h1 : (cur.toList.take (1 * 1))[0]? = some (.string s) := by rw [ht]; rfl
    rw [List.getElem?_take] at h1
    simpa using h1
theorem StrRow.ne {W : World} {g p : Nat} {l : List ByteArray} {t : TypeId} {cs : Array Value} (h : StrRow W g l) (hX : SBox W p t cs) (ht : 9 ≠ t) : g ≠ p := fun e => by
  obtain ⟨ds, h1, _⟩ := h
  subst e
  rw [show W.heap[g]? = _ from hX] at h1
  simp only [Option.some.injEq, Obj.cells.injEq] at h1
  exact ht h1.2.1.symm
theorem StrRow.ne_map {W : World} {g m nn : Nat} {l : List ByteArray} {R : ElemR} {f : Int → Option (DataW Unit)} (h : StrRow W g l) (hm : IMap W R m nn f) : g ≠ m := by
  obtain ⟨ds, h1, _⟩ := h
  exact hm.ne h1
theorem written {b : DevB} {hard : List ByteArray} {pd : Pend} {k i g cap cap0 : Nat} {s : ByteArray} {w w2 w3 : World} (h : DevAt w b hard pd k) (hcap : hard.length ≤ cap0) (hg1 : (w.alloc (.cells #[.string s] 9)).drew.grownBy w2 none)
    (hrow2 : StrRow w2 g [s]) (hge : w.heap.size ≤ g) (hX3 : SBox w3 b.p 107 (devCells b hard.length cap0 k)) (hi : i < hard.length) (hI3 : IMap w3 rowElem b.m (k + 1) (putF (rowF pd) i (rowD g cap))) (ht3 : w2.mapTurned w3 b.m) :
    DevAt (w3.setCell ⟨b.p, 5, none⟩ (.int .u64 ((k : Int) + 1))) b hard (putP pd i (g, cap, s)) (k + 1) ∧ Tch (fun c => c = b.p ∨ c = b.m) w (w3.setCell ⟨b.p, 5, none⟩ (.int .u64 ((k : Int) + 1))) := by
  obtain ⟨cap1, _, hX⟩ := h.dev
  have T0 : Tch (fun c => c = b.p ∨ c = b.m) w w2 := (Tch.of_below (((Below.refl _ w).alloc (Nat.le_refl _) (.cells #[.string s] 9)).drew)).trans (Tch.grown hg1 (fun r e => by cases e))
  have T : Tch (fun c => c = b.p ∨ c = b.m) w (w3.setCell ⟨b.p, 5, none⟩ (.int .u64 ((k : Int) + 1))) :=
    (T0.trans (Tch.grown ht3.grown (fun r e => by cases e; exact .inr rfl))).trans (Tch.set _ (.inl rfl))
  have hpm : b.p ≠ b.m := h.map.ne hX
  have hgp : g ≠ b.p := by have := hX.lt; omega
  have hgm : g ≠ b.m := by have := h.map.lt; omega
  refine ⟨⟨⟨cap0, hcap, ?_⟩, ?_, ?_, ?_, h.len, fun x e hx => ?_⟩, T⟩
  · unfold devCells at hX3 ⊢
    exact SBox.set hX3 5 _
  · exact h.row.block (T.block _ h.row.lt (fun e => e.elim (h.row.ne hX (by decide)) (h.row.ne_map h.map)))
  · rw [rowF_put]
    exact hI3.other _ hpm.symm
  · intro x e hx
    unfold putP at hx
    by_cases hxi : x = (i : Int)
    · rw [if_pos hxi] at hx
      obtain rfl := Option.some.inj hx
      refine ⟨?_, fun e => by have := h.row.lt; simp only at e; omega⟩
      exact hrow2.block ((heap_setCell_other w3 ⟨b.p, 5, none⟩ g _ hgp).trans (ht3.grown.block g hrow2.lt (fun e => hgm (Option.some.inj e))))
    · rw [if_neg hxi] at hx
      obtain ⟨r1, r2⟩ := h.rows x e hx
      exact ⟨r1.block (T.block _ r1.lt (fun e => e.elim (r1.ne hX (by decide)) (r1.ne_map h.map))), r2⟩
  · unfold putP at hx
    by_cases hxi : x = (i : Int)
    · exact ⟨i, hxi, hi⟩
    · rw [if_neg hxi] at hx
      exact h.dom x e hx
section
variable {b : DevB} {hard : List ByteArray} {pd : Pend} {k : Nat}
set_option maxRecDepth 100000 in
set_option maxHeartbeats 2000000 in
theorem write_new (i : Nat) (s : ByteArray) (w : World) (h : DevAt w b hard pd k) (hi : i < hard.length) (hp : pd i = none) (hs : s.size = 64) (hk : k < 1099511627776) :
    Calls Tryz.prog 96 #[.pointer (some ⟨b.p, 0, none⟩), .int .i64 i, .string s] w fun e w' => e = .returned (.int .i64 0) ∧ ∃ bl cap, DevAt w' b hard (putP pd i (bl, cap, s)) (k + 1) ∧ Tch (fun c => c = b.p ∨ c = b.m) w w' := by
  have hl := h.len
  have HA := has_any i w h
  rw [inD_yes hi] at HA
  have HA := Lib.hid HA
  have RE := Lib.hid (ready_any w h)
  have hD0 : DevAt w.drew b hard pd k := h.later (Below.refl _ _).drew
  have hD1 : DevAt (w.alloc (.cells #[.string s] 9)).drew b hard pd k := h.later ((Below.refl _ _).alloc (Nat.le_refl _) _).drew
  have hlk0 := look_none hD0 i (by omega) hp false
  have hlk1 := look_none hD1 i (by omega) hp false
  simp only [Bool.false_eq_true, if_false] at hlk0 hlk1
  have HD := Lib.hid h
  have HD1 := Lib.hid hD1
  have hfl : ∀ W, (Instr.field 238 (.agg #[.slice none 0 0]) 0).run Tryz.prog W = .ok (.slice none 0 0) W := fun W => field_row _ W
  have q0 : (0 : Int) ≤ i := by omega
  have q1 : (i : Int) < hard.length := by omega
  obtain ⟨i0, hi0, hz0, hz1, hz2⟩ := info_parts info_str
  have wz : IntKind.u64.wrap ((k : Int) + 1) = ((k + 1 : Nat) : Int) := by
    rw [IntWalk.u64_in _ (by omega)]
    rfl
  obtain ⟨cap0, hcap, hX⟩ := h.dev
  have hpm : b.p ≠ b.m := h.map.ne hX
  have XS1 := Lib.hid (SBox.drew (hX.alloc (.cells #[.string s] 9)))
  unfold devCells at hX XS1
  have X0 := hX.cell 0
  have X1 := hX.cell 1
  have X2 := hX.cell 2
  have X3 := hX.cell 3
  have X4 := hX.cell 4
  have X5 := hX.cell 5
  simp only [List.getElem?_toArray, List.getElem?_cons_zero, List.getElem?_cons_succ] at X0 X1 X2 X3 X4 X5
  have Xl := hX.lt
  clear hX hD0 hD1 h
  go_enter Tryz.func96, Tryz.ntmps96
  go_wp2_with fail
  refine RE.out.mono ?_
  rintro e w9 ⟨rfl, rfl⟩
  go_wp2_with fail
  refine HA.out.mono ?_
  rintro e w9 ⟨rfl, rfl⟩
  go_wp2_with fail
  go_region_held3 (fun W => W.cell? ⟨b.p, 4, none⟩ = some (.map (some b.m)))
    (first | assumption | exact X4 | (go_keep; done))
    (first | (refine step_append_lies _ rfl (.tmp 33) (.tmp 35) 104 rfl w.heap.size 9 i0 (.string ⟨#[]⟩) 1 16 Tryz.underlying104 hi0 hz0 hz1 hz2 rfl (by decide) (.slice none 0 0) 0 [] rfl ⟨rfl, .inl ⟨rfl, rfl⟩⟩ ⟨w.heap.size, 0, none⟩ 1 1 [.string s] rfl rfl ?q1 ?q2 (by decide) ?q3 ?q4 ?q5 _ rfl ?_; (case q1 => exact World.news_of_block (SBox.new w.drew 9 #[.string s])); (case q2 => (intro u hu; simp at hu; subst hu; rfl)); (case q3 => (unfold maxLen; omega)); (case q4 => omega); (case q5 => simp); intro g cap w2 hown2 hgrow hat hlt; obtain ⟨hrow2, hge⟩ := str1 rfl hown2; obtain ⟨w3, hput, hI3, ht3⟩ := IMap.put (HD1.out.map.kept hgrow (show some b.m ≠ none by simp)) under_by (by unfold maxLen; omega) i (wf_nat i (by omega)) (rowElem_mk g cap); have hX2 := SBox.kept XS1.out hgrow (show some b.p ≠ none by simp); have hX3 := SBox.kept hX2 ht3.grown (show some b.p ≠ some b.m from fun e => hpm (Option.some.inj e)); have p2 := hX2.cell 4; have p3 := hX3.cell 4; have z0 := hX3.cell 0; have z5 := hX3.cell 5; have f5 := hX3.free 5; have zl := hX3.lt; simp only [List.getElem?_toArray, List.getElem?_cons_zero, List.getElem?_cons_succ] at p2 p3 z0 z5))
  all_goals (go_wp2; go_ret; exact ⟨rfl, g, cap, written HD.out hcap hgrow hrow2 hge hX3 hi hI3 ht3⟩)
end
end Go.Proofs.YtpnfkilfgdnogaaGreatDoor.Dev
