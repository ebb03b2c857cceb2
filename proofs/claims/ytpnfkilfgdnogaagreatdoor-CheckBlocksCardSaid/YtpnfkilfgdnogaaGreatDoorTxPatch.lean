/- Layer 8 (tx): Patch: a part of a sector is written. -/
import Derived.Test.YtpnfkilfgdnogaaGreatDoorTxKeys
import Derived.StillTailTactics
namespace Go.Proofs.YtpnfkilfgdnogaaGreatDoor.Tx
set_option linter.unusedVariables false
set_option linter.unusedSimpArgs false
open Go.RowKit Go.Shelf Go.Maps Oct Dev Jou
set_option maxRecDepth 100000 in
theorem fits_any (fr len0 len1 : Nat) (a0 a1 a2 : Addr) (s t : ByteArray) (w : World) (h0 : w.cell? a0 = some (.int .i64 fr)) (h1 : w.cell? a1 = some (.string s)) (h2 : w.cell? a2 = some (.string t)) (hf : fr + t.size ≤ s.size) (hs : s.size = 64) :
    Calls Tryz.prog 110 #[.pointer (some a0), .pointer (some a1), .pointer (some a2)] w fun e w' => e = .returned (.bool true) ∧ w = w' := by
  go_enter Tryz.func110, Tryz.ntmps110
  go_wp2
  go_ret
  have q : ((t.size : Int) ≤ 64 - (fr : Int)) := by omega
  exact ⟨by simp [q], rfl⟩
def patchS (s : ByteArray) (fr : Nat) (t : ByteArray) : ByteArray := s.extract 0 fr ++ t ++ s.extract (fr + t.size) s.size
theorem patchS_size {s t : ByteArray} {fr : Nat} (h : fr + t.size ≤ s.size) : (patchS s fr t).size = s.size := by
  simp [patchS, ByteArray.size_append, ByteArray.size_extract]
  omega
section
variable {T : TxB} {b : DevB} {hard : List ByteArray} {k nn fr n : Nat} {f : Wrote}
set_option maxRecDepth 100000 in
set_option maxHeartbeats 2000000 in
theorem patch_or (i at_ : Nat) (t : ByteArray) (w : World) (h : TJ w T b hard k f nn fr n) (hi : i < hard.length) (h64 : (readT f hard i).size = 64) (hs : at_ + t.size ≤ 64) (hn : n ≤ 256) (hd : ∀ x : Int, (f x).isSome = true → ∃ q : Nat, x = q ∧ q < hard.length) :
    Calls Tryz.prog 64 #[.pointer (some ⟨T.p, 0, none⟩), .int .i64 i, .int .i64 at_, .string t] w (Out (.int .i64 0) (.int .i64 4) (fun w' => (∃ nn', TJ w' T b hard k (putW f i (patchS (readT f hard i) at_ t)) nn' fr n) ∧ Tch (fun c => c = T.m) w w') (fun w' => NoRoom f i n ∧ Below w.heap.size w w')) := by
  have OP := Lib.hid (fun W (h : TJ W T b hard k f nn fr n) => open_any W h.tx)
  have RD := Lib.hid (fun W (h : TJ W T b hard k f nn fr n) => read_any i W h.tx hi)
  have WR := (fun W (h : TJ W T b hard k f nn fr n) => write_or i (patchS (readT f hard i) at_ t) W h hi ((patchS_size (by omega)).trans h64) hn hd)
  have FI := Lib.hid (fun (a0 a1 a2 : Addr) W h0 h1 h2 => fits_any at_ 0 0 a0 a1 a2 (readT f hard i) t W h0 h1 h2 (by omega) h64)
  have H := Lib.hid h
  have hX := h.tx.tx
  have Xl := hX.lt
  clear hX h
  generalize hq : readT f hard i = s0 at *
  unfold patchS at WR ⊢
  have WR := Lib.hid WR
  go_enter Tryz.func64, Tryz.ntmps64
  go_wp2_with fail
  refine (OP.out _ (H.out.later ?_)).mono ?_
  · exact ((Below.refl _ w).alloc (Nat.le_refl _) _).alloc (by simp) _
  rintro e w9 ⟨rfl, rfl⟩
  have B0 := Lib.hid (((Below.refl _ w).alloc (Nat.le_refl _) (.cells #[.int .i64 at_] 3)).alloc (by simp) (.cells #[.string t] 9))
  have Z0 := (SBox.new w 3 #[.int .i64 at_]).alloc (.cells #[.string t] 9)
  have Z1 := SBox.new (w.alloc (.cells #[.int .i64 at_] 3)) 9 #[.string t]
  rw [World.size_alloc] at Z1
  have Z0 := Lib.hid Z0
  have Z1 := Lib.hid Z1
  go_wp2_with fail
  refine (RD.out _ (H.out.later B0.out)).mono ?_
  rintro e w1 ⟨rfl, b1⟩
  have B1 := Lib.hid (B0.out.trans (b1.mono (by simp; omega)))
  have Y0 := SBox.later Z0.out b1
  have Y1 := SBox.later Z1.out b1
  have Y2 := SBox.new w1 9 #[.string s0]
  have Y0 := Y0.alloc (.cells #[.string s0] 9)
  have Y1 := Y1.alloc (.cells #[.string s0] 9)
  have B2 := Lib.hid (B1.out.alloc B1.out.size (.cells #[.string s0] 9))
  have H2 := Lib.hid (H.out.later B2.out)
  have c0 := Y0.cell 0
  have c1 := Y1.cell 0
  have c2 := Y2.cell 0
  have l0 := Y0.lt
  have l1 := Y1.lt
  have l2 := Y2.lt
  simp only [List.getElem?_toArray, List.getElem?_cons_zero] at c0 c1 c2
  have FI2 := Lib.hid (FI.out _ _ _ _ c0 c2 c1)
  clear b1 Z0 Z1 Y0 Y1 Y2
  go_wp2_with fail
  refine FI2.out.mono ?_
  rintro e w9 ⟨rfl, rfl⟩
  go_wp2_with fail
  have B3 := Lib.hid B2.out.drew
  have D0 : World.cell? (World.drew (w1.alloc (.cells #[.string s0] 9))) ⟨w.heap.size, 0, none⟩ = some (.int .i64 at_) := c0
  have D1 : World.cell? (World.drew (w1.alloc (.cells #[.string s0] 9))) ⟨w.heap.size + 1, 0, none⟩ = some (.string t) := c1
  have D2 : World.cell? (World.drew (w1.alloc (.cells #[.string s0] 9))) ⟨w1.heap.size, 0, none⟩ = some (.string s0) := c2
  have e0 : w.heap.size < (World.drew (w1.alloc (.cells #[.string s0] 9))).heap.size := l0
  have e1 : w.heap.size + 1 < (World.drew (w1.alloc (.cells #[.string s0] 9))).heap.size := l1
  have e2 : w1.heap.size < (World.drew (w1.alloc (.cells #[.string s0] 9))).heap.size := l2
  have q0 : at_ ≤ s0.size := by omega
  have q1 : at_ + t.size ≤ s0.size := by omega
  have p0 : (0 : Int) ≤ at_ := by omega
  have p1 : (at_ : Int) ≤ s0.size := by omega
  have p2 : (0 : Int) ≤ (at_ : Int) + t.size := by omega
  have p3 : (at_ : Int) + t.size ≤ s0.size := by omega
  have p4 : (at_ : Int) ≤ 64 := by omega
  have p5 : (at_ : Int) + t.size ≤ 64 := by omega
  have p6 : at_ ≤ 64 := by omega
  have wz : IntKind.i64.wrap ((at_ : Int) + (t.size : Int)) = (at_ : Int) + (t.size : Int) := IntWalk.i64_in _ (by omega)
  have wn : ((at_ : Int) + (t.size : Int)).toNat = at_ + t.size := by omega
  have e64 : s0.extract (at_ + t.size) 64 = s0.extract (at_ + t.size) s0.size := by rw [h64]
  have z2 : ¬ 9223372036854775807 < at_ + t.size := by omega
  have z3 : ¬ 9223372036854775807 < at_ + t.size + (64 - (at_ + t.size)) := by omega
  have z0 : (s0.extract 0 at_).size + t.size ≤ 64 := by simp; omega
  have z1 : (s0.extract 0 at_ ++ t).size + (s0.extract (at_ + t.size) s0.size).size ≤ 64 := by simp; omega
  refine wp_region_still_tail 14 (by kernel_rfl) (by kernel_rfl) ?_
  simp only [List.take_succ_cons, List.take_zero, List.drop_succ_cons, List.drop_zero]
  change wpStill _ _ (World.drew (w1.alloc (.cells #[.string s0] 9))) _ _ _
  generalize World.drew (w1.alloc (.cells #[.string s0] 9)) = W3 at *
  repeat still_step
  refine wpStill_nil ?_
  change wpList _ _ _ _ _ (World.drew (w1.alloc (.cells #[.string s0] 9)))
  have WR2 := Lib.hid (WR.out _ (H2.out.later (Below.refl _ (w1.alloc (.cells #[.string s0] 9))).drew))
  clear WR
  have B3 := Lib.hid B2.out.drew
  generalize World.drew (w1.alloc (.cells #[.string s0] 9)) = W4 at *
  go_wp2_with fail
  refine WR2.out.mono ?_
  rintro e w5 (⟨rfl, J5, T5⟩ | ⟨rfl, F5, b5⟩)
  · have J5 := Lib.hid J5
    have T5 := Lib.hid ((Tch.of_below B3.out).trans T5)
    go_wp2
    go_ret
    exact .inl ⟨rfl, J5.out, T5.out⟩
  · have F5 := Lib.hid F5
    have b5 := Lib.hid (B3.out.trans (b5.mono B3.out.size))
    go_wp2
    go_ret
    exact .inr ⟨rfl, F5.out, b5.out⟩
end
end Go.Proofs.YtpnfkilfgdnogaaGreatDoor.Tx
