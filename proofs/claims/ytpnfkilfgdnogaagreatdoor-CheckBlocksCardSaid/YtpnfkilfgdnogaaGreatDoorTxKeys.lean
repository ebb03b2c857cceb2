/- Layer 8 (tx): how many sectors a transaction has; a Write, whether there is room for it or not. -/
import Derived.Test.YtpnfkilfgdnogaaGreatDoorTxWrite
import Derived.Test.YtpnfkilfgdnogaaGreatDoorDevKeys
namespace Go.Proofs.YtpnfkilfgdnogaaGreatDoor.Tx
set_option linter.unusedVariables false
set_option linter.unusedSimpArgs false
open Go.RowKit Go.Shelf Go.Maps Go.Sort Oct Dev Jou
theorem IMap_keys {W : World} {R : ElemR} {b nn : Nat} {f : Int → Option (DataW Unit)} (h : IMap W R b nn f) {t e : TypeId} (ht : Tryz.prog.underlying t = some (.map 3 e)) :
    ∃ ss : List Int, KeysOf f ss ∧ IMap W R b ss.length f ∧ ∀ m ty, (Builtin.len_ #[t] ty #[.map (some b)]).run Tryz.prog (W.drewN m) = .ok (.int .i64 ss.length) (W.drewN m) := by
  obtain ⟨D, h1, h2⟩ := h
  have hk := keysOf_mem h1 (fun x => (h2 x).1) (List.Perm.refl (intKeys D))
  have hl : (intKeys D).length = Maps.size D := by
    obtain ⟨es, hD, _⟩ := h1.entries (Maps.int_keyed Tryz.underlying3)
    subst hD
    have e1 : intKeys (DataW.map es) = es.map (fun p => Go.intOf p.1) := rfl
    rw [e1, List.length_map]
    rfl
  refine ⟨intKeys D, hk, ⟨D, ?_, h2⟩, fun m ty => ?_⟩
  · rw [hl]
    obtain ⟨es, clock, hb, F, hs, hD⟩ := h1
    refine ⟨es, clock, hb, F, ?_, hD⟩
    rw [hD]
    show es.size ≤ List.length (List.foldr DataW.insert [] _)
    rw [length_sorted]
    simp
  · rw [hl]
    exact World.ownsMap.len (w := W.drewN m) h1 ht ty
section
variable {T : TxB} {b : DevB} {hard : List ByteArray} {k nn fr n : Nat} {f : Wrote}
theorem TJ.keys {W : World} (h : TJ W T b hard k f nn fr n) : ∃ ss : List Int, KeysOf (strF f) ss ∧ TJ W T b hard k f ss.length fr n ∧ ∀ m ty, (Builtin.len_ #[137] ty #[.map (some T.m)]).run Tryz.prog (W.drewN m) = .ok (.int .i64 ss.length) (W.drewN m) := by
  obtain ⟨ss, h1, h2, h3⟩ := IMap_keys h.tx.map under_w
  exact ⟨ss, h1, ⟨⟨h.tx.tx, h2, h.tx.dev⟩, h.jou, h.ne⟩, h3⟩
set_option maxRecDepth 100000 in
set_option maxHeartbeats 2000000 in
theorem write_full (i q : Nat) (s : ByteArray) (w : World) (h : TJ w T b hard k f nn fr n) (hi : i < hard.length) (hs : s.size = 64) (hn : n ≤ 256) (hf : f i = none) (hlen : ∀ m ty, (Builtin.len_ #[137] ty #[.map (some T.m)]).run Tryz.prog (w.drewN m) = .ok (.int .i64 q) (w.drewN m)) (hq : mostN n ≤ q) :
    Calls Tryz.prog 106 #[.pointer (some ⟨T.p, 0, none⟩), .int .i64 i, .string s] w fun e w' => e = .returned (.int .i64 4) ∧ Below w.heap.size w w' := by
  have hl := h.tx.dev.len
  have OP := Lib.hid (open_any w h.tx)
  have LN := Lib.hid (len_any w h.tx.dev)
  obtain ⟨gen, _, hjou⟩ := h.jou
  have MX := Lib.hid (fun m => max_any T.j b fr n gen (w.drewN m) (SBox.below hjou (SBox.lt hjou) (below_drewN (Below.refl _ _) _)) (by omega) |>.mono fun e w' (h : _ ∧ _) => (⟨h.1, h.2.symm⟩ : _ ∧ w' = w.drewN m))
  have hlk := look_tx h.tx i (by omega)
  have q0 : decide ((i : Int) < 0) = false := by simp
  have q1 : decide ((hard.length : Int) ≤ (i : Int)) = false := by simp; omega
  have q2 : decide (hard.length ≤ i) = false := by simp; omega
  have q3 : ((s.size : Int) != 64) = false := by simp; omega
  have hX := h.tx.tx
  have X0 := hX.cell 0
  have X1 := hX.cell 1
  have X2 := hX.cell 2
  have X3 := hX.cell 3
  simp only [List.getElem?_toArray, List.getElem?_cons_zero, List.getElem?_cons_succ] at X0 X1 X2 X3
  have Xl := hX.lt
  clear hX h
  rw [hf] at hlk
  simp only [Option.getD_none, Option.isSome_none] at hlk
  have d5 : decide (((mostN n : Nat) : Int) ≤ (q : Int)) = true := by simp; omega
  have d6 : decide (mostN n ≤ q) = true := by simp; omega
  go_enter Tryz.func106, Tryz.ntmps106
  go_wp2_with fail
  refine OP.out.mono ?_
  rintro e w9 ⟨rfl, rfl⟩
  go_wp2_with fail
  refine LN.out.mono ?_
  rintro e w9 ⟨rfl, rfl⟩
  go_wp2_with fail
  go_quiet ((go_at_call 71; exact Calls.quiet_of_same (MX.out _)))
  go_wp2
  go_ret
  exact ⟨rfl, below_drewN (Below.refl _ _) _⟩
def Out (ok full : Value) (G F : World → Prop) (e : Ending) (w' : World) : Prop := (e = .returned ok ∧ G w') ∨ (e = .returned full ∧ F w')
def NoRoom (f : Wrote) (i n : Nat) : Prop := f i = none ∧ ∃ ss : List Int, KeysOf (strF f) ss ∧ mostN n ≤ ss.length
theorem keys_le {f : Wrote} {ss : List Int} {N : Nat} (h : KeysOf (strF f) ss) (hd : ∀ x : Int, (f x).isSome = true → ∃ q : Nat, x = q ∧ q < N) : ss.length ≤ N := by
  have h1 : (ss.map Int.toNat).Nodup := by
    refine List.pairwise_map.2 (h.1.imp_of_mem fun {a c} ha hc hne e => hne ?_)
    obtain ⟨p, rfl, _⟩ := hd a (by have := (h.2 a).1 ha; unfold strF at this; simpa using this)
    obtain ⟨q, rfl, _⟩ := hd c (by have := (h.2 c).1 hc; unfold strF at this; simpa using this)
    have e2 : p = q := by simpa using e
    rw [e2]
  have h2 : ∀ x ∈ ss.map Int.toNat, x ∈ List.range N := fun x hx => by
    obtain ⟨a, ha, rfl⟩ := List.mem_map.1 hx
    obtain ⟨p, rfl, hp⟩ := hd a (by have := (h.2 a).1 ha; unfold strF at this; simpa using this)
    simpa using hp
  have h3 := List.Nodup.length_le_of_subset h1 h2
  simpa using h3
theorem write_or (i : Nat) (s : ByteArray) (w : World) (h : TJ w T b hard k f nn fr n) (hi : i < hard.length) (hs : s.size = 64) (hn : n ≤ 256) (hd : ∀ x : Int, (f x).isSome = true → ∃ q : Nat, x = q ∧ q < hard.length) :
    Calls Tryz.prog 106 #[.pointer (some ⟨T.p, 0, none⟩), .int .i64 i, .string s] w (Out (.int .i64 0) (.int .i64 4) (fun w' => (∃ nn', TJ w' T b hard k (putW f i s) nn' fr n) ∧ Tch (fun c => c = T.m) w w') (fun w' => NoRoom f i n ∧ Below w.heap.size w w')) := by
  obtain ⟨ss, h1, h2, h3⟩ := h.keys
  have hle := keys_le h1 hd
  have hl := h.tx.dev.len
  by_cases hk : (f i).isSome = true ∨ ss.length < mostN n
  · refine (write_any i s w h2 hi hs hn hk (by omega)).mono ?_
    rintro e w' ⟨rfl, r1, r2⟩
    exact .inl ⟨rfl, ⟨_, r1⟩, r2⟩
  · have hf : f i = none := by
      cases hf : f i with
      | none => rfl
      | some x => exact absurd (.inl (by rw [hf]; rfl)) hk
    have hq : mostN n ≤ ss.length := by omega
    refine (write_full i ss.length s w h2 hi hs hn hf h3 hq).mono ?_
    rintro e w' ⟨rfl, r1⟩
    exact .inr ⟨rfl, ⟨hf, ss, h1, hq⟩, r1⟩
end
end Go.Proofs.YtpnfkilfgdnogaaGreatDoor.Tx
