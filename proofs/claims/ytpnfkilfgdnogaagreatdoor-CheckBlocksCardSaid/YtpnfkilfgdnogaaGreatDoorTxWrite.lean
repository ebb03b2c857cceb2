/- Layer 8 (tx): Write: one sector more, or written again. -/
import Derived.Test.YtpnfkilfgdnogaaGreatDoorTxRead
import Derived.Test.YtpnfkilfgdnogaaGreatDoorJournal0
import Derived.Test.YtpnfkilfgdnogaaGreatDoorDevWrite
import Derived.Deep.QuietTactic
import Derived.BigQuiet
namespace Go.Proofs.YtpnfkilfgdnogaaGreatDoor.Tx
set_option linter.unusedVariables false
set_option linter.unusedSimpArgs false
open Go.RowKit Go.Shelf Go.Maps Oct Dev Jou
structure TJ (W : World) (T : TxB) (b : DevB) (hard : List ByteArray) (k : Nat) (f : Wrote) (nn fr n : Nat) : Prop where
  tx : TxAt W T b hard k f nn
  jou : ∃ gen, gen ≤ k ∧ JouAt W T.j b fr n gen
  ne : T.m ≠ b.m
def putW (f : Wrote) (i : Nat) (s : ByteArray) : Wrote := fun y => if y = (i : Int) then some s else f y
theorem strF_put (f : Wrote) (i : Nat) (s : ByteArray) : strF (putW f i s) = putF (strF f) i (.lit (.string (L s))) := by
  funext y
  unfold strF putW putF
  by_cases hy : y = (i : Int) <;> simp [hy]
theorem IMap_lenD {W : World} {R : ElemR} {b nn : Nat} {f : Int → Option (DataW Unit)} (h : IMap W R b nn f) {t e : TypeId} (ht : Tryz.prog.underlying t = some (.map 3 e)) : ∃ q : Nat, q ≤ nn ∧ ∀ m ty, (Builtin.len_ #[t] ty #[.map (some b)]).run Tryz.prog (W.drewN m) = .ok (.int .i64 q) (W.drewN m) := by
  obtain ⟨D, h1, _⟩ := h
  exact ⟨_, h1.size_le, fun m ty => World.ownsMap.len (w := W.drewN m) h1 ht ty⟩
section
variable {T : TxB} {b : DevB} {hard : List ByteArray} {k nn fr n : Nat} {f : Wrote}
theorem TJ.later {W W' : World} (h : TJ W T b hard k f nn fr n) (hb : Below W.heap.size W W') : TJ W' T b hard k f nn fr n := ⟨h.tx.later hb, by
  obtain ⟨gen, g1, g2⟩ := h.jou
  exact ⟨gen, g1, SBox.below g2 (SBox.lt g2) hb⟩, h.ne⟩
theorem DevAt.notMap {W W' : World} {hard : List ByteArray} {pd : Pend} {k m : Nat} (h : DevAt W b hard pd k) (hm : ∃ es c, W.heap[m]? = some (.map es c)) (hne : m ≠ b.m) (T : Tch (fun c => c = m) W W') : DevAt W' b hard pd k := by
  obtain ⟨es, c, hm⟩ := hm
  have key : ∀ (d : Nat) (cs : Array Value) (t : TypeId), W.heap[d]? = some (.cells cs t (0, 0)) → W'.heap[d]? = W.heap[d]? := fun d cs t hd => T.block d (Array.getElem?_eq_some_iff.1 hd).1 (fun e => by
    subst e
    rw [hd] at hm
    cases hm)
  obtain ⟨⟨cap, h0, h1⟩, h2, h3, h4, h5, h6⟩ := h
  have str : ∀ {g : Nat} {l : List ByteArray}, StrRow W g l → StrRow W' g l := fun hs => by
    obtain ⟨cs, c1, c2⟩ := hs
    exact ⟨cs, (key _ _ _ c1).trans c1, c2⟩
  exact ⟨⟨cap, h0, (key _ _ _ h1).trans h1⟩, str h2, h3.block (T.block _ h3.lt (fun e => hne e.symm)), fun x e hx => ⟨str (h4 x e hx).1, (h4 x e hx).2⟩, h5, h6⟩
theorem wrote {w w3 : World} {i : Nat} {s : ByteArray} (h : TJ w T b hard k f nn fr n) (hI : IMap w3 strR T.m (nn + 1) (putF (strF f) i (.lit (.string (L s))))) (ht : w.mapTurned w3 T.m) : TJ w3 T b hard k (putW f i s) (nn + 1) fr n ∧ Tch (fun c => c = T.m) w w3 := by
  have T1 : Tch (fun c => c = T.m) w w3 := Tch.grown ht.grown (fun r e => (Option.some.inj e).symm)
  have bx : ∀ {p : Nat} {t : TypeId} {cs : Array Value}, SBox w p t cs → SBox w3 p t cs := fun {p t cs} hx => (T1.block _ hx.lt (h.tx.map.ne hx)).trans hx
  obtain ⟨gen, g1, g2⟩ := h.jou
  refine ⟨⟨⟨bx h.tx.tx, ?_, DevAt.notMap h.tx.dev h.tx.map.isMap h.ne T1⟩, ⟨gen, g1, bx g2⟩, h.ne⟩, T1⟩
  rw [strF_put]
  exact hI
set_option maxRecDepth 100000 in
set_option maxHeartbeats 2000000 in
theorem write_any (i : Nat) (s : ByteArray) (w : World) (h : TJ w T b hard k f nn fr n) (hi : i < hard.length) (hs : s.size = 64) (hn : n ≤ 256) (hk : (f i).isSome = true ∨ nn < mostN n) (hnn : nn < 10000) :
    Calls Tryz.prog 106 #[.pointer (some ⟨T.p, 0, none⟩), .int .i64 i, .string s] w fun e w' => e = .returned (.int .i64 0) ∧ TJ w' T b hard k (putW f i s) (nn + 1) fr n ∧ Tch (fun c => c = T.m) w w' := by
  have hl := h.tx.dev.len
  have OP := Lib.hid (open_any w h.tx)
  have LN := Lib.hid (len_any w h.tx.dev)
  obtain ⟨gen, _, hjou⟩ := h.jou
  have MX := Lib.hid (fun m => max_any T.j b fr n gen (w.drewN m) (SBox.below hjou (SBox.lt hjou) (below_drewN (Below.refl _ _) _)) (by omega) |>.mono fun e w' (h : _ ∧ _) => (⟨h.1, h.2.symm⟩ : _ ∧ w' = w.drewN m))
  have hlk := look_tx h.tx i (by omega)
  obtain ⟨q, hq, hlen⟩ := IMap_lenD h.tx.map under_w
  have HP : ∀ m, ∃ w3, (Instr.mapUpdate 137 (.map (some T.m)) (.int .i64 (i : Int)) (.string s)).run Tryz.prog (w.drewN m) = .ok () w3 ∧ TJ w3 T b hard k (putW f i s) (nn + 1) fr n ∧ Tch (fun c => c = T.m) w w3 := fun m => by
    have h2 := h.later (below_drewN (Below.refl w.heap.size w) m)
    obtain ⟨w3, hput, hI3, ht3⟩ := IMap.put h2.tx.map under_w (by unfold maxLen; omega) i (wf_nat i (by omega)) (strR_mk s)
    obtain ⟨r1, r2⟩ := wrote h2 hI3 ht3
    exact ⟨w3, hput, r1, (Tch.of_below (below_drewN (Below.refl w.heap.size w) m)).trans r2⟩
  have q0 : decide ((i : Int) < 0) = false := by simp
  have q1 : decide ((hard.length : Int) ≤ (i : Int)) = false := by simp; omega
  have q2 : decide (hard.length ≤ i) = false := by simp; omega
  have q3 : ((s.size : Int) != 64) = false := by simp; omega
  have H := Lib.hid h
  have hX := h.tx.tx
  have X0 := hX.cell 0
  have X1 := hX.cell 1
  have X2 := hX.cell 2
  have X3 := hX.cell 3
  simp only [List.getElem?_toArray, List.getElem?_cons_zero, List.getElem?_cons_succ] at X0 X1 X2 X3
  have Xl := hX.lt
  clear hX h
  cases hf : f i with
  | some s0 =>
    rw [hf] at hlk
    simp only [Option.getD_some, Option.isSome_some] at hlk
    go_enter Tryz.func106, Tryz.ntmps106
    go_wp2_with fail
    refine OP.out.mono ?_
    rintro e w9 ⟨rfl, rfl⟩
    go_wp2_with fail
    refine LN.out.mono ?_
    rintro e w9 ⟨rfl, rfl⟩
    go_wp2_with fail
    go_quiet (fail)
    obtain ⟨w3, hput, R1, R2⟩ := HP nq
    go_wp2
    go_ret
    exact ⟨rfl, R1, R2⟩
  | none =>
    rw [hf] at hlk hk
    simp only [Option.getD_none, Option.isSome_none] at hlk
    have hk2 : nn < mostN n := by simpa using hk
    have d5 : decide (((mostN n : Nat) : Int) ≤ (q : Int)) = false := by simp; omega
    have d6 : decide (mostN n ≤ q) = false := by simp; omega
    go_enter Tryz.func106, Tryz.ntmps106
    go_wp2_with fail
    refine OP.out.mono ?_
    rintro e w9 ⟨rfl, rfl⟩
    go_wp2_with fail
    refine LN.out.mono ?_
    rintro e w9 ⟨rfl, rfl⟩
    go_wp2_with fail
    go_quiet ((go_at_call 71; exact Calls.quiet_of_same (MX.out _)))
    obtain ⟨w3, hput, R1, R2⟩ := HP nq
    go_wp2
    go_ret
    exact ⟨rfl, R1, R2⟩
end
end Go.Proofs.YtpnfkilfgdnogaaGreatDoor.Tx
