/- Layer 2 (crc): More: what a text adds to a sum. -/
import Derived.Test.YtpnfkilfgdnogaaGreatDoorCrc
import Derived.Test.YtpnfkilfgdnogaaGreatDoorBitsIter
import Derived.RegionIn
import Derived.OpenShut
namespace Go.Proofs.YtpnfkilfgdnogaaGreatDoor.Crc
set_option linter.unusedVariables false
set_option linter.unusedSimpArgs false
open Go.RowKit Go.Shelf Oct Go.Great
attribute [local go_sem] Oper.semAt_some
section
variable {F : Fence} {n : Nat} {P : Program}
theorem wpListIn_allocT {ops : Array Oper} {rest : List Oper} {o : Oper} {a : Act} {Q : Exit → Act → World → Prop} {w : World} (hg : o.guard = none) (ho : o.op = .alloc 320)
    (h : wpListIn F n Tryz.prog ops Q rest (a.put o.dst (.pointer (some ⟨w.heap.size, 0, none⟩))) (w.alloc (.cells zeroT 320))) : wpListIn F n Tryz.prog ops Q (o :: rest) a w := by
  refine wpListIn_plain hg fun K hK => ?_
  unfold Oper.wpIn
  refine ⟨by simp [Oper.about, ho], ?_⟩
  rw [Oper.semAt_plain F _ _ (by rw [ho]; intro c hc; cases hc), alloc_T _ _ _ ho]
  exact hK _ _ h
theorem wpListIn_store_row {ops : Array Oper} {rest : List Oper} {o : Oper} {a : Act} {Q : Exit → Act → World → Prop} {w : World} (hgd : o.guard = none) (ty : TypeId) (x y : Operand) (ho : o.op = .store ty x y)
    (g : Nat) (cells : Array Value) (hx : a.eval x = .pointer (some ⟨g, 0, none⟩)) (hy : a.eval y = .agg cells)
    (t : TypeId) (old : Array Value) (hg : w.heap[g]? = some (.cells old t (0, 0))) (hi : (P.info? ty).map (·.size) = some cells.size)
    (hold : old.size = cells.size) (h1 : cells.all (·.oneCell') = true)
    (h : wpListIn F n P ops Q rest (a.put o.dst undef) (w.setRow g cells)) : wpListIn F n P ops Q (o :: rest) a w := by
  refine wpListIn_plain hgd fun K hK => ?_
  unfold Oper.wpIn
  refine ⟨by simp [Oper.about, ho], ?_⟩
  rw [Oper.semAt_plain F _ _ (by rw [ho]; intro c hc; cases hc)]
  unfold execOp
  simp only [ho, hx, hy, Instr.storeAt, Instr.sureAddr, Sem.run_bind, Sem.run_pure, Result.andThen_ok, run_storeVar_row w g t ty old cells hg hi hold h1]
  exact hK _ _ h
end
/-- The bytes of a text, one by one. -/
def byteN (s : ByteArray) (k : Nat) : UInt8 := (L s).getD k 0
theorem byteN_all (s : ByteArray) : upto (byteN s) s.size = L s := by
  apply List.ext_getElem
  · rw [upto_length, len_L]
  · intro i h1 h2
    simp [upto, byteN, h2]
theorem byteN_get (s : ByteArray) (k : Nat) (h : k < s.size) : byteN s k = s[k] := by
  unfold byteN
  rw [List.getD_eq_getElem?_getD, List.getElem?_eq_getElem (by rw [len_L]; exact h)]
  rfl
set_option maxHeartbeats 1000000 in
theorem bytes1_in (F : Fence) (n : Nat) (h8 : F.fn 228) (hro : F.round = none) (hn : 1 ≤ n) (l Bs : Nat) (s : ByteArray) (hs : s.size ≤ 1099511627776) (J Jx : List UInt8 → World → Prop)
    (hY : ∀ pre x W, J pre W → pre.length < s.size → YieldAt F (n - 1) Tryz.prog l #[.int .u8 (x.toNat : Int)] W fun e W' =>
      (e = .returned (.bool true) ∧ J (pre ++ [x]) W' ∧ KeptBox Bs 9 W W') ∨ (e = .returned (.bool false) ∧ Jx (pre ++ [x]) W'))
    (W : World) (hBs : Boxed W Bs 9 (.string s)) (h0 : J [] W) :
    CallsIn F n Tryz.prog 228 #[.func (.yield l) #[] #[], .pointer (some ⟨Bs, 0, none⟩)] W fun e W' => (∃ v, e = .returned v) ∧
      ((∃ ys, ys = L s ∧ J ys W') ∨ (∃ pre, (∃ k, k ≤ s.size ∧ pre = upto (byteN s) k) ∧ Jx pre W')) := by
  have hc0 := hBs.cell
  refine callsIn_of_wp Tryz.func228 rfl h8 ?_ hro
  simp only [Tryz.ntmps228, List.size_toArray, List.length_cons, List.length_nil, Nat.reduceAdd, Nat.reduceSub, Array.replicate_succ, Array.replicate_zero, List.push_toArray, List.append_toArray, List.nil_append, List.cons_append]
  gi_wp2
  gi_loopw [6] (fun i wr => ∃ k : Nat, k ≤ s.size ∧ i = .int .i64 k ∧ J (upto (byteN s) k) wr ∧ Boxed wr Bs 9 (.string s))
    (fun i _ => s.size - (intOf i).toNat)
  case atStart => exact ⟨0, Nat.zero_le _, rfl, h0, hBs⟩
  case round =>
    obtain ⟨k, hk, rfl, hJs, hnx⟩ := hrel
    have hcx := hnx.cell
    by_cases hlt : k < s.size
    · obtain ⟨fn, tmps, assign, body, hy, hR⟩ := hY _ (byteN s k) wr hJs (by rw [upto_length]; exact hlt)
      rw [byteN_get s k hlt] at hy
      clear hBs hc0
      gi_wp2
      refine hR.mono ?_
      rintro e W3 (⟨rfl, hJ3, hk3⟩ | ⟨rfl, hJx3⟩)
      · gi_wp2
        go_roundw
        case rel => exact ⟨k + 1, by omega, by simp, by rw [upto_succ]; exact hJ3, hk3 _ hnx⟩
        case measure => simp [intOf]; omega
      · gi_wp2
        refine bodyPost_ret (results_none rfl _ _ _) rfl ?_
        exact ⟨⟨_, rfl⟩, .inr ⟨_, ⟨k + 1, by omega, (upto_succ _ _).symm⟩, hJx3⟩⟩
    · obtain rfl : k = s.size := by omega
      gi_wp2
      go_end0
      exact ⟨⟨_, rfl⟩, .inl ⟨_, byteN_all s, hJs⟩⟩
set_option maxHeartbeats 1000000 in
theorem bytes_in (F : Fence) (n : Nat) (h6 : F.fn 225) (hro : F.round = none) (s : ByteArray) (w : World) :
    CallsIn F n Tryz.prog 225 #[.string s] w fun e w' => e = .returned (.func (.func 228) #[] #[.pointer (some ⟨w.heap.size, 0, none⟩)]) ∧ w.alloc (.cells #[.string s] 9) = w' := by
  refine callsIn_of_wp Tryz.func225 rfl h6 ?_ hro
  simp only [Tryz.ntmps225, List.size_toArray, List.length_cons, List.length_nil, Nat.reduceAdd, Nat.reduceSub, Array.replicate_succ, Array.replicate_zero, List.push_toArray, List.append_toArray, List.nil_append, List.cons_append]
  gi_wp2
  go_ret
  exact ⟨rfl, rfl⟩
theorem bytes_stops (F : Fence) (n : Nat) (h8 : F.fn 228) (hro : F.round = none) (hn : 1 ≤ n) (Bs : Nat) (s : ByteArray) (hs : s.size ≤ 1099511627776) (w : World) (hBs : Boxed w Bs 9 (.string s)) :
    SeqStopsK F n Tryz.prog 228 #[.pointer (some ⟨Bs, 0, none⟩)] (fun x : UInt8 => #[Value.int .u8 (x.toNat : Int)]) (KeptBox Bs 9) (fun ys => ys = L s)
      (fun pre => ∃ k, k ≤ s.size ∧ pre = upto (byteN s) k) s.size w := fun l J Jx W hW _ _ hY h0 =>
  bytes1_in F n h8 hro hn l Bs s hs J Jx hY W ((hW.block Bs hBs.lt).trans hBs) h0
/-- What one byte adds. -/
def stepC (c : Int) (b : UInt8) : Int := bits .xor .u32 (c / 256) (tabS (bits .xor .u8 (IntKind.u8.wrap c) b.toNat) 8)
def moreC (c : Int) (l : List UInt8) : Int := l.foldl stepC c
theorem moreC_snoc (c : Int) (l : List UInt8) (b : UInt8) : moreC c (l ++ [b]) = stepC (moreC c l) b := by simp [moreC]
theorem keeps_drew {b : Nat} {X Y : World} (h : KeepsFrom b X Y) : KeepsFrom b X Y.drew := ⟨h.1, h.2⟩
theorem sbox_own {β : Type} (B : Nat) (t : TypeId) (f : β → Array Value) : Own (fun s W => SBox W B t (f s)) := fun s X Y row hs hg hrow =>
  hs.kept hg (fun e' => by obtain ⟨o, ho, hc⟩ := hrow B e'.symm; rw [show X.heap[B]? = _ from hs] at ho; cases ho; cases hc)
theorem bits_u8 (op : BinOp) (x y : Int) : 0 ≤ bits op .u8 x y ∧ bits op .u8 x y < 256 := by
  have h := wf_bits op .u8 x y
  simp only [Lit.wf, Bool.and_eq_true, decide_eq_true_eq] at h
  have h1 : 0 ≤ bits op .u8 x y ∧ bits op .u8 x y ≤ 255 := h
  omega
set_option maxRecDepth 100000 in
set_option maxHeartbeats 2000000 in
theorem more_any (c : Int) (s : ByteArray) (w : World) (hs : s.size ≤ 1099511627776) :
    Calls Tryz.prog 217 #[.int .u32 c, .string s] w fun e w' => e = .returned (.int .u32 (moreC c (L s))) ∧ Below w.heap.size w w' := by
  refine (callsIn_wide (n := 4)).1 ?_
  have T := Lib.hid (fun W => (callsIn_wide (n := 3)).2 (table_any W))
  refine callsIn_of_wp_marks Tryz.func217 rfl trivial ?_ rfl
  simp only [Tryz.ntmps217, List.size_toArray, List.length_cons, List.length_nil, Nat.reduceAdd, Nat.reduceSub, Array.replicate_succ, Array.replicate_zero, List.push_toArray, List.append_toArray, List.nil_append, List.cons_append]
  gi_wp2_with fail
  refine ⟨trivial, (T.out _).mono ?_⟩
  rintro e w1 ⟨rfl, b1⟩
  have hC1 : Boxed w1 w.heap.size 40 (.int .u32 c) := SBox.later (SBox.new w 40 #[.int .u32 c]) b1
  have hB1 := ((Below.refl _ w).alloc (Nat.le_refl _) (.cells #[.int .u32 c] 40)).trans (b1.mono (by simp))
  clear b1
  gi_wp2_with (first | (refine wpListIn_allocT rfl rfl ?_) | (refine wpListIn_store_row rfl _ _ _ rfl w1.heap.size tabA rfl rfl _ zeroT (SBox.new w1 320 zeroT) (by rw [tabA_size]; exact info_T) rfl tabA_one ?_))
  have T3 : SBox ((w1.alloc (.cells zeroT 320)).setRow w1.heap.size tabA) w1.heap.size 320 tabA := SBox.setRow (SBox.new w1 320 zeroT) tabA
  have hne : w.heap.size ≠ w1.heap.size := Nat.ne_of_lt hC1.lt
  have hle : w.heap.size ≤ w1.heap.size := Nat.le_of_lt hC1.lt
  have C3 : Boxed ((w1.alloc (.cells zeroT 320)).setRow w1.heap.size tabA) w.heap.size 40 (.int .u32 c) := (setRow_other _ _ _ _ hne).trans (hC1.alloc _)
  have B3 := below_setRow (hB1.alloc hle (.cells zeroT 320)) hle tabA
  generalize (w1.alloc (.cells zeroT 320)).setRow w1.heap.size tabA = W3 at *
  have hT3 := T3.lt
  generalize w1.heap.size = g at *
  clear hC1 hB1
  refine ⟨trivial, (bytes_in Fence.wide 3 trivial rfl _ _).mono ?_⟩
  rintro e w4 ⟨rfl, rfl⟩
  gi_wp2_with fail
  have bT := Boxed.new W3 9 (.string s)
  refine wpIn_rangeFunc_ownG rfl (by omega) (gf := 228) (lb := #[.pointer (some ⟨W3.heap.size, 0, none⟩)]) rfl trivial (enters_of Tryz.func228 (by kernel_rfl) rfl)
    (bytes_stops Fence.wide (4 - 1) trivial rfl (by omega) W3.heap.size s hs _ bT) keptBox_t (keptBox_b (by simp)) (Below.refl _ _) (fun _ => rfl)
    (fun pre W => (Boxed W w.heap.size 40 (.int .u32 (moreC c pre)) ∧ SBox W g 320 tabA) ∧ Below w.heap.size w W)
    (fun _ _ _ => False)
    (OwnFrom.and (OwnFrom.and (Own.from (boxed_own _ _ _) _) (Own.from (sbox_own _ _ _) _)) (ownFrom_below (Nat.le_refl _) (by have := B3.size; simp; omega)))
    (fun _ _ _ _ _ hs _ _ => hs)
    ⟨⟨C3.alloc _, T3.alloc _⟩, B3.alloc B3.size _⟩
    (fun x => { tmps := #[.int .u32 c, .string s, .pointer (some ⟨w.heap.size, 0, none⟩), undef, .int .u32 0, .pointer (some ⟨g, 0, none⟩), .int .u8 (x.toNat : Int), .agg tabA, .string s, .func (.func 228) #[] #[.pointer (some ⟨W3.heap.size, 0, none⟩)], .int .u8 (x.toNat : Int), undef, undef, undef, undef, undef, undef, undef, undef, undef, undef], defers := [] }) ?assign ?body ?done ?stop
  case assign =>
    intro l x W K hK
    gi_wp2
    exact hK
  case body =>
    rintro l pre x W ⟨⟨hC, hT⟩, hB⟩ hlen
    have hsn := moreC_snoc c pre x
    obtain ⟨b0, b1⟩ := bits_u8 .xor (IntKind.u8.wrap (moreC c pre)) x.toNat
    have cT : W.cell? ⟨g, (bits .xor .u8 (IntKind.u8.wrap (moreC c pre)) x.toNat).toNat, none⟩ = some (.int .u32 (tabS (bits .xor .u8 (IntKind.u8.wrap (moreC c pre)) x.toNat) 8)) := by
      refine (hT.cell _).trans ((tabA_get _ (by omega)).trans ?_)
      rw [Int.toNat_of_nonneg b0]
    unfold stepC at hsn
    have HS := Lib.hid hsn
    clear hsn
    have cC := hC.cell
    have fC := hC.frozen
    have hCl := hC.lt
    have hTl := hT.lt
    have HC := Lib.hid hC
    have HT := Lib.hid hT
    have HB := Lib.hid hB
    clear hC hT hB
    gi_wp2_with fail
    gi_region
    all_goals (gi_wp2; refine ⟨keeps_drew ((KeepsOthers.setCell _ _ _).from _), fun v hv => hv.other (by have := HB.out.size; omega) _, ⟨?_, SBox.other HT.out _ hne.symm⟩, (HB.out.setCell (p := ⟨w.heap.size, 0, none⟩) (Nat.le_refl _) _).drew⟩; rw [HS.out]; exact HC.out.set _)
  case done =>
    rintro D ys W hD rfl ⟨⟨hC, hT⟩, hB⟩ hK
    have cC := hC.cell
    have hK' := hK
    gi_wp2
    refine ⟨by simp, .inl ⟨_, _, rfl, run_takeDeferred hK', ?_⟩⟩
    refine ⟨.int .u32 (moreC c (L s)), ?_, rfl, hB.trans (belowK_b (w := w) (Nat.le_refl _) _ D _ _ (by have := B3.size; simp at hD; omega) hK' rfl rfl)⟩
    simp [results, Tryz.f217, go_sem]
  case stop =>
    rintro D q pre W _ _ h _
    exact h.elim
end Go.Proofs.YtpnfkilfgdnogaaGreatDoor.Crc
