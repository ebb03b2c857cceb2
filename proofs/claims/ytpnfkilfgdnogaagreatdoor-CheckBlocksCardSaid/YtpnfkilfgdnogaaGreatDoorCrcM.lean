/- Layer 2 (crc): Sum, Seal and Open: a sealed text is opened, and what is opened is sealed. -/
import Derived.Test.YtpnfkilfgdnogaaGreatDoorBoxes
import Derived.Test.YtpnfkilfgdnogaaGreatDoorOctet
import Derived.Great.Walk
import Derived.Laws.Rows
import Derived.Laws.Tables
import Derived.Deep.OwnRows
import Derived.Test.YtpnfkilfgdnogaaGreatDoorBitsIter
import Derived.RegionIn
import Derived.OpenShut
section
namespace Go.Proofs.YtpnfkilfgdnogaaGreatDoor.Crc
set_option linter.unusedVariables false
set_option linter.unusedSimpArgs false
open Go.RowKit Go.Shelf Oct Go.Great
def zeroT : Array Value := Array.replicate 256 (.int .u32 0)
theorem alloc_T (ρ : Operand → Value) (o : Oper) (w : World) (ho : o.op = .alloc 320) : (execOp ρ o).run Tryz.prog w = .ok (.value (.pointer (some ⟨w.heap.size, 0, none⟩))) (w.alloc (.cells zeroT 320)) := by
  unfold execOp
  rw [ho]
  kernel_rfl
def tabS (x : Int) : Nat → Int
  | 0 => x
  | n + 1 => if (bits .and .u32 (tabS x n) 1 == 1) = true then bits .xor .u32 (tabS x n / 2) 3988292384 else tabS x n / 2
def tabCell (m j : Nat) : Value := if j < m then .int .u32 (tabS j 8) else .int .u32 0
def TabRel (w : World) (c : Value) (wr : World) : Prop := ∃ m : Nat, m ≤ 256 ∧ c = .int .i64 m ∧ wr.rowIs w.heap.size 320 256 (tabCell m) ∧ Below w.heap.size w wr
theorem tab_start (w : World) : (w.alloc (.cells zeroT 320)).rowIs w.heap.size 320 256 (tabCell 0) := by
  have h := World.rowIs_alloc w zeroT 320 (tabCell 0) (fun i hi => by
    unfold zeroT at hi ⊢
    rw [Array.size_replicate] at hi
    rw [Array.getElem?_replicate, if_pos hi]
    rfl)
  rw [show zeroT.size = 256 from Array.size_replicate] at h
  exact h
def tabA : Array Value := ((List.range 256).map fun j => Value.int .u32 (tabS (j : Nat) 8)).toArray
theorem tabA_size : tabA.size = 256 := by simp [tabA]
theorem tabA_get (j : Nat) (h : j < 256) : tabA[j]? = some (.int .u32 (tabS j 8)) := by simp [tabA, h]
theorem tabA_one : tabA.all (·.oneCell') = true := by
  rw [Array.all_eq_true_iff_forall_mem]
  intro v hv
  simp only [tabA, List.mem_toArray, List.mem_map] at hv
  obtain ⟨j, _, rfl⟩ := hv
  rfl
theorem tab_end {W : World} {b : Nat} (h : W.rowIs b 320 256 (tabCell 256)) : SBox W b 320 tabA := by
  obtain ⟨c, hg, hs, hc⟩ := h
  have e : c = tabA := by
    apply Array.ext_getElem?
    intro i
    by_cases hi : i < 256
    · rw [hc i hi, tabA_get i hi]
      unfold tabCell
      rw [if_pos hi]
    · rw [Array.getElem?_eq_none (by omega), Array.getElem?_eq_none (by rw [tabA_size]; omega)]
  rw [e] at hg
  exact hg
theorem tab_store {W : World} {b m : Nat} (hr : W.rowIs b 320 256 (tabCell m)) : (W.setCell ⟨b, m, none⟩ (.int .u32 (tabS m 8))).rowIs b 320 256 (tabCell (m + 1)) :=
  (hr.set m _).congr (fun j _ => by
    unfold tabCell
    by_cases e : j = m
    · subst e; rw [if_pos rfl, if_pos (by omega)]
    · rw [if_neg e]
      by_cases e2 : j < m
      · rw [if_pos e2, if_pos (by omega)]
      · rw [if_neg e2, if_neg (by omega)])
theorem SBox.setRow {W : World} {b : Nat} {t : TypeId} {cs : Array Value} (h : SBox W b t cs) (ds : Array Value) : SBox (W.setRow b ds) b t ds := setRow_heap W b cs ds t (0, 0) h
theorem below_setRow {n b : Nat} {w W : World} (h : Below n w W) (hb : n ≤ b) (ds : Array Value) : Below n w (W.setRow b ds) :=
  ⟨h.os, h.tape, h.output, by simp; exact h.size, fun k hk => (setRow_other W b k ds (by omega)).trans (h.block k hk)⟩
theorem info_T : (Tryz.prog.info? 320).map (·.size) = some 256 := by kernel_rfl
theorem under_T : Tryz.prog.underlying 320 = some (.array 256 40) := by kernel_rfl
set_option maxRecDepth 100000 in
set_option maxHeartbeats 1000000 in
theorem table_any (w : World) : Calls Tryz.prog 224 #[] w fun e w' => e = .returned (.agg tabA) ∧ Below w.heap.size w w' := by
  have HS := Lib.hid (tab_start w)
  have HB := Lib.hid ((Below.refl _ w).alloc (Nat.le_refl _) (.cells zeroT 320))
  go_enter Tryz.func224, Tryz.ntmps224
  go_wp2_with (refine wpList_runTo rfl _ rfl _ _ (alloc_T _ _ _ rfl) ?_)
  go_loopw [1, 2, 3] (fun _ _ c wr => TabRel w c wr) (fun _ _ c _ => 256 - (intOf c).toNat)
  case atStart => exact ⟨0, Nat.zero_le _, rfl, HS.out, HB.out⟩
  case round =>
    obtain ⟨m, hm, rfl, hr, hB⟩ := hrel
    by_cases hlt : m < 256
    · have q0 : (m : Int) < 256 := by omega
      have q9 : (0 : Int) ≤ m := by omega
      have hc := hr.cell hlt
      have hf := hr.frozen m
      have RS := Lib.hid (tab_store hr)
      have HBr := Lib.hid hB
      clear hr hB
      go_wp2_with fail
      go_loopw [2, 8] (fun x c wz => ∃ q : Nat, q ≤ 8 ∧ c = .int .i64 q ∧ x = .int .u32 (tabS m q) ∧ wz = wr) (fun _ c _ => 8 - (intOf c).toNat)
      case atStart => exact ⟨0, Nat.zero_le _, rfl, rfl, rfl⟩
      case round =>
        obtain ⟨q, hq, rfl, rfl, rfl⟩ := hrel
        by_cases hq2 : q < 8
        · have q1 : (q : Int) < 8 := by omega
          go_wp2_with fail
          · rename_i hb
            exact ⟨⟨q + 1, by omega, rfl, by show _ = Value.int .u32 (tabS m (q + 1)); rw [tabS, if_pos hb], trivial⟩, by simp [intOf]; omega⟩
          · rename_i hb
            exact ⟨⟨q + 1, by omega, rfl, by show _ = Value.int .u32 (tabS m (q + 1)); rw [tabS, if_neg (by rw [hb]; simp)], trivial⟩, by simp [intOf]; omega⟩
        · obtain rfl : q = 8 := by omega
          go_wp2_with fail
          exact ⟨⟨m + 1, by omega, rfl, RS.out, HBr.out.setCell (Nat.le_refl _) _⟩, by simp [intOf]; omega⟩
    · obtain rfl : m = 256 := by omega
      have hT := tab_end hr
      have HBr := Lib.hid hB
      clear hr hB
      go_wp2_with (first | (refine wpList_load_row rfl _ _ rfl w.heap.size rfl _ tabA (0, 0) _ hT under_T rfl (by rw [tabA_size]; exact info_T) ?_) | (refine wpList_store_row rfl _ _ _ rfl w.heap.size tabA rfl rfl _ tabA hT (by rw [tabA_size]; exact info_T) rfl tabA_one ?_))
      exact bodyPost_ret (v := .agg tabA) (results_cell_row Tryz.results224 _ _ w.heap.size 320 tabA (0, 0) _ rfl (SBox.setRow hT tabA) under_T rfl (by rw [tabA_size]; exact info_T)) rfl ⟨rfl, below_setRow HBr.out (Nat.le_refl _) _⟩
end Go.Proofs.YtpnfkilfgdnogaaGreatDoor.Crc
end
section
namespace Go.Proofs.YtpnfkilfgdnogaaGreatDoor.Crc
set_option linter.unusedVariables false
set_option linter.unusedSimpArgs false
open Go.RowKit Go.Shelf Oct Go.Great
attribute [local go_sem] Oper.semAt_some
section
variable {F : Fence} {n : Nat} {P : Program}
theorem wpListIn_allocT {ops : Array Oper} {rest : List Oper} {o : Oper} {a : Act} {Q : Exit → Act → World → Prop} {w : World} (hg : o.guard = none) (ho : o.op = .alloc 320)
    (h : wpListIn F n Tryz.prog ops Q rest (a.put o.dst (.pointer (some ⟨w.heap.size, 0, none⟩))) (w.alloc (.cells zeroT 320))) : wpListIn F n Tryz.prog ops Q (o :: rest) a w := by
  refine wpListIn_plain hg fun K hK => ?_
  unfold Oper.wpIn
  refine ⟨by simp [Oper.about, ho], ?_⟩
  rw [Oper.semAt_plain F _ _ (by rw [ho]; intro c hc; cases hc), alloc_T _ _ _ ho]
  exact hK _ _ h
theorem wpListIn_store_row {ops : Array Oper} {rest : List Oper} {o : Oper} {a : Act} {Q : Exit → Act → World → Prop} {w : World} (hgd : o.guard = none) (ty : TypeId) (x y : Operand) (ho : o.op = .store ty x y)
    (g : Nat) (cells : Array Value) (hx : a.eval x = .pointer (some ⟨g, 0, none⟩)) (hy : a.eval y = .agg cells)
    (t : TypeId) (old : Array Value) (hg : w.heap[g]? = some (.cells old t (0, 0))) (hi : (P.info? ty).map (·.size) = some cells.size)
    (hold : old.size = cells.size) (h1 : cells.all (·.oneCell') = true)
    (h : wpListIn F n P ops Q rest (a.put o.dst undef) (w.setRow g cells)) : wpListIn F n P ops Q (o :: rest) a w := by
  refine wpListIn_plain hgd fun K hK => ?_
  unfold Oper.wpIn
  refine ⟨by simp [Oper.about, ho], ?_⟩
  rw [Oper.semAt_plain F _ _ (by rw [ho]; intro c hc; cases hc)]
  unfold execOp
  simp only [ho, hx, hy, Instr.storeAt, Instr.sureAddr, Sem.run_bind, Sem.run_pure, Result.andThen_ok, run_storeVar_row w g t ty old cells hg hi hold h1]
  exact hK _ _ h
end
def byteN (s : ByteArray) (k : Nat) : UInt8 := (L s).getD k 0
theorem byteN_all (s : ByteArray) : upto (byteN s) s.size = L s := by
  apply List.ext_getElem
  · rw [upto_length, len_L]
  · intro i h1 h2
    simp [upto, byteN, h2]
theorem byteN_get (s : ByteArray) (k : Nat) (h : k < s.size) : byteN s k = s[k] := by
  unfold byteN
  rw [List.getD_eq_getElem?_getD, List.getElem?_eq_getElem (by rw [len_L]; exact h)]
  rfl
set_option maxHeartbeats 1000000 in
theorem bytes1_in (F : Fence) (n : Nat) (h8 : F.fn 228) (hro : F.round = none) (hn : 1 ≤ n) (l Bs : Nat) (s : ByteArray) (hs : s.size ≤ 1099511627776) (J Jx : List UInt8 → World → Prop)
    (hY : ∀ pre x W, J pre W → pre.length < s.size → YieldAt F (n - 1) Tryz.prog l #[.int .u8 (x.toNat : Int)] W fun e W' =>
      (e = .returned (.bool true) ∧ J (pre ++ [x]) W' ∧ KeptBox Bs 9 W W') ∨ (e = .returned (.bool false) ∧ Jx (pre ++ [x]) W'))
    (W : World) (hBs : Boxed W Bs 9 (.string s)) (h0 : J [] W) :
    CallsIn F n Tryz.prog 228 #[.func (.yield l) #[] #[], .pointer (some ⟨Bs, 0, none⟩)] W fun e W' => (∃ v, e = .returned v) ∧
      ((∃ ys, ys = L s ∧ J ys W') ∨ (∃ pre, (∃ k, k ≤ s.size ∧ pre = upto (byteN s) k) ∧ Jx pre W')) := by
  have hc0 := hBs.cell
  refine callsIn_of_wp Tryz.func228 rfl h8 ?_ hro
  simp only [Tryz.ntmps228, List.size_toArray, List.length_cons, List.length_nil, Nat.reduceAdd, Nat.reduceSub, Array.replicate_succ, Array.replicate_zero, List.push_toArray, List.append_toArray, List.nil_append, List.cons_append]
  gi_wp2
  gi_loopw [6] (fun i wr => ∃ k : Nat, k ≤ s.size ∧ i = .int .i64 k ∧ J (upto (byteN s) k) wr ∧ Boxed wr Bs 9 (.string s))
    (fun i _ => s.size - (intOf i).toNat)
  case atStart => exact ⟨0, Nat.zero_le _, rfl, h0, hBs⟩
  case round =>
    obtain ⟨k, hk, rfl, hJs, hnx⟩ := hrel
    have hcx := hnx.cell
    by_cases hlt : k < s.size
    · obtain ⟨fn, tmps, assign, body, hy, hR⟩ := hY _ (byteN s k) wr hJs (by rw [upto_length]; exact hlt)
      rw [byteN_get s k hlt] at hy
      clear hBs hc0
      gi_wp2
      refine hR.mono ?_
      rintro e W3 (⟨rfl, hJ3, hk3⟩ | ⟨rfl, hJx3⟩)
      · gi_wp2
        go_roundw
        case rel => exact ⟨k + 1, by omega, by simp, by rw [upto_succ]; exact hJ3, hk3 _ hnx⟩
        case measure => simp [intOf]; omega
      · gi_wp2
        refine bodyPost_ret (results_none rfl _ _ _) rfl ?_
        exact ⟨⟨_, rfl⟩, .inr ⟨_, ⟨k + 1, by omega, (upto_succ _ _).symm⟩, hJx3⟩⟩
    · obtain rfl : k = s.size := by omega
      gi_wp2
      go_end0
      exact ⟨⟨_, rfl⟩, .inl ⟨_, byteN_all s, hJs⟩⟩
set_option maxHeartbeats 1000000 in
theorem bytes_in (F : Fence) (n : Nat) (h6 : F.fn 225) (hro : F.round = none) (s : ByteArray) (w : World) :
    CallsIn F n Tryz.prog 225 #[.string s] w fun e w' => e = .returned (.func (.func 228) #[] #[.pointer (some ⟨w.heap.size, 0, none⟩)]) ∧ w.alloc (.cells #[.string s] 9) = w' := by
  refine callsIn_of_wp Tryz.func225 rfl h6 ?_ hro
  simp only [Tryz.ntmps225, List.size_toArray, List.length_cons, List.length_nil, Nat.reduceAdd, Nat.reduceSub, Array.replicate_succ, Array.replicate_zero, List.push_toArray, List.append_toArray, List.nil_append, List.cons_append]
  gi_wp2
  go_ret
  exact ⟨rfl, rfl⟩
theorem bytes_stops (F : Fence) (n : Nat) (h8 : F.fn 228) (hro : F.round = none) (hn : 1 ≤ n) (Bs : Nat) (s : ByteArray) (hs : s.size ≤ 1099511627776) (w : World) (hBs : Boxed w Bs 9 (.string s)) :
    SeqStopsK F n Tryz.prog 228 #[.pointer (some ⟨Bs, 0, none⟩)] (fun x : UInt8 => #[Value.int .u8 (x.toNat : Int)]) (KeptBox Bs 9) (fun ys => ys = L s)
      (fun pre => ∃ k, k ≤ s.size ∧ pre = upto (byteN s) k) s.size w := fun l J Jx W hW _ _ hY h0 =>
  bytes1_in F n h8 hro hn l Bs s hs J Jx hY W ((hW.block Bs hBs.lt).trans hBs) h0
def stepC (c : Int) (b : UInt8) : Int := bits .xor .u32 (c / 256) (tabS (bits .xor .u8 (IntKind.u8.wrap c) b.toNat) 8)
def moreC (c : Int) (l : List UInt8) : Int := l.foldl stepC c
theorem moreC_snoc (c : Int) (l : List UInt8) (b : UInt8) : moreC c (l ++ [b]) = stepC (moreC c l) b := by simp [moreC]
theorem keeps_drew {b : Nat} {X Y : World} (h : KeepsFrom b X Y) : KeepsFrom b X Y.drew := ⟨h.1, h.2⟩
theorem sbox_own {β : Type} (B : Nat) (t : TypeId) (f : β → Array Value) : Own (fun s W => SBox W B t (f s)) := fun s X Y row hs hg hrow =>
  hs.kept hg (fun e' => by obtain ⟨o, ho, hc⟩ := hrow B e'.symm; rw [show X.heap[B]? = _ from hs] at ho; cases ho; cases hc)
theorem bits_u8 (op : BinOp) (x y : Int) : 0 ≤ bits op .u8 x y ∧ bits op .u8 x y < 256 := by
  have h := wf_bits op .u8 x y
  simp only [Lit.wf, Bool.and_eq_true, decide_eq_true_eq] at h
  have h1 : 0 ≤ bits op .u8 x y ∧ bits op .u8 x y ≤ 255 := h
  omega
set_option maxRecDepth 100000 in
set_option maxHeartbeats 2000000 in
theorem more_any (c : Int) (s : ByteArray) (w : World) (hs : s.size ≤ 1099511627776) :
    Calls Tryz.prog 217 #[.int .u32 c, .string s] w fun e w' => e = .returned (.int .u32 (moreC c (L s))) ∧ Below w.heap.size w w' := by
  refine (callsIn_wide (n := 4)).1 ?_
  have T := Lib.hid (fun W => (callsIn_wide (n := 3)).2 (table_any W))
  refine callsIn_of_wp_marks Tryz.func217 rfl trivial ?_ rfl
  simp only [Tryz.ntmps217, List.size_toArray, List.length_cons, List.length_nil, Nat.reduceAdd, Nat.reduceSub, Array.replicate_succ, Array.replicate_zero, List.push_toArray, List.append_toArray, List.nil_append, List.cons_append]
  gi_wp2_with fail
  refine ⟨trivial, (T.out _).mono ?_⟩
  rintro e w1 ⟨rfl, b1⟩
  have hC1 : Boxed w1 w.heap.size 40 (.int .u32 c) := SBox.later (SBox.new w 40 #[.int .u32 c]) b1
  have hB1 := ((Below.refl _ w).alloc (Nat.le_refl _) (.cells #[.int .u32 c] 40)).trans (b1.mono (by simp))
  clear b1
  gi_wp2_with (first | (refine wpListIn_allocT rfl rfl ?_) | (refine wpListIn_store_row rfl _ _ _ rfl w1.heap.size tabA rfl rfl _ zeroT (SBox.new w1 320 zeroT) (by rw [tabA_size]; exact info_T) rfl tabA_one ?_))
  have T3 : SBox ((w1.alloc (.cells zeroT 320)).setRow w1.heap.size tabA) w1.heap.size 320 tabA := SBox.setRow (SBox.new w1 320 zeroT) tabA
  have hne : w.heap.size ≠ w1.heap.size := Nat.ne_of_lt hC1.lt
  have hle : w.heap.size ≤ w1.heap.size := Nat.le_of_lt hC1.lt
  have C3 : Boxed ((w1.alloc (.cells zeroT 320)).setRow w1.heap.size tabA) w.heap.size 40 (.int .u32 c) := (setRow_other _ _ _ _ hne).trans (hC1.alloc _)
  have B3 := below_setRow (hB1.alloc hle (.cells zeroT 320)) hle tabA
  generalize (w1.alloc (.cells zeroT 320)).setRow w1.heap.size tabA = W3 at *
  have hT3 := T3.lt
  generalize w1.heap.size = g at *
  clear hC1 hB1
  refine ⟨trivial, (bytes_in Fence.wide 3 trivial rfl _ _).mono ?_⟩
  rintro e w4 ⟨rfl, rfl⟩
  gi_wp2_with fail
  have bT := Boxed.new W3 9 (.string s)
  refine wpIn_rangeFunc_ownG rfl (by omega) (gf := 228) (lb := #[.pointer (some ⟨W3.heap.size, 0, none⟩)]) rfl trivial (enters_of Tryz.func228 (by kernel_rfl) rfl)
    (bytes_stops Fence.wide (4 - 1) trivial rfl (by omega) W3.heap.size s hs _ bT) keptBox_t (keptBox_b (by simp)) (Below.refl _ _) (fun _ => rfl)
    (fun pre W => (Boxed W w.heap.size 40 (.int .u32 (moreC c pre)) ∧ SBox W g 320 tabA) ∧ Below w.heap.size w W)
    (fun _ _ _ => False)
    (OwnFrom.and (OwnFrom.and (Own.from (boxed_own _ _ _) _) (Own.from (sbox_own _ _ _) _)) (ownFrom_below (Nat.le_refl _) (by have := B3.size; simp; omega)))
    (fun _ _ _ _ _ hs _ _ => hs)
    ⟨⟨C3.alloc _, T3.alloc _⟩, B3.alloc B3.size _⟩
    (fun x => { tmps := #[.int .u32 c, .string s, .pointer (some ⟨w.heap.size, 0, none⟩), undef, .int .u32 0, .pointer (some ⟨g, 0, none⟩), .int .u8 (x.toNat : Int), .agg tabA, .string s, .func (.func 228) #[] #[.pointer (some ⟨W3.heap.size, 0, none⟩)], .int .u8 (x.toNat : Int), undef, undef, undef, undef, undef, undef, undef, undef, undef, undef], defers := [] }) ?assign ?body ?done ?stop
  case assign =>
    intro l x W K hK
    gi_wp2
    exact hK
  case body =>
    rintro l pre x W ⟨⟨hC, hT⟩, hB⟩ hlen
    have hsn := moreC_snoc c pre x
    obtain ⟨b0, b1⟩ := bits_u8 .xor (IntKind.u8.wrap (moreC c pre)) x.toNat
    have cT : W.cell? ⟨g, (bits .xor .u8 (IntKind.u8.wrap (moreC c pre)) x.toNat).toNat, none⟩ = some (.int .u32 (tabS (bits .xor .u8 (IntKind.u8.wrap (moreC c pre)) x.toNat) 8)) := by
      refine (hT.cell _).trans ((tabA_get _ (by omega)).trans ?_)
      rw [Int.toNat_of_nonneg b0]
    unfold stepC at hsn
    have HS := Lib.hid hsn
    clear hsn
    have cC := hC.cell
    have fC := hC.frozen
    have hCl := hC.lt
    have hTl := hT.lt
    have HC := Lib.hid hC
    have HT := Lib.hid hT
    have HB := Lib.hid hB
    clear hC hT hB
    gi_wp2_with fail
    gi_region
    all_goals (gi_wp2; refine ⟨keeps_drew ((KeepsOthers.setCell _ _ _).from _), fun v hv => hv.other (by have := HB.out.size; omega) _, ⟨?_, SBox.other HT.out _ hne.symm⟩, (HB.out.setCell (p := ⟨w.heap.size, 0, none⟩) (Nat.le_refl _) _).drew⟩; rw [HS.out]; exact HC.out.set _)
  case done =>
    rintro D ys W hD rfl ⟨⟨hC, hT⟩, hB⟩ hK
    have cC := hC.cell
    have hK' := hK
    gi_wp2
    refine ⟨by simp, .inl ⟨_, _, rfl, run_takeDeferred hK', ?_⟩⟩
    refine ⟨.int .u32 (moreC c (L s)), ?_, rfl, hB.trans (belowK_b (w := w) (Nat.le_refl _) _ D _ _ (by have := B3.size; simp at hD; omega) hK' rfl rfl)⟩
    simp [results, Tryz.f217, go_sem]
  case stop =>
    rintro D q pre W _ _ h _
    exact h.elim
end Go.Proofs.YtpnfkilfgdnogaaGreatDoor.Crc
end
section
namespace Go.Proofs.YtpnfkilfgdnogaaGreatDoor.Crc
set_option linter.unusedVariables false
set_option linter.unusedSimpArgs false
open Go.RowKit Go.Shelf Oct Go.Great
def sumN (l : List UInt8) : Nat := (bits .xor .u32 IntKind.u32.max (moreC 4294967295 l)).toNat
theorem bits_u32 (op : BinOp) (x y : Int) : 0 ≤ bits op .u32 x y ∧ bits op .u32 x y < 4294967296 := by
  have h := wf_bits op .u32 x y
  simp only [Lit.wf, Bool.and_eq_true, decide_eq_true_eq] at h
  have h1 : 0 ≤ bits op .u32 x y ∧ bits op .u32 x y ≤ 4294967295 := h
  omega
theorem sumN_lt (l : List UInt8) : sumN l < 4294967296 := by
  have := bits_u32 .xor IntKind.u32.max (moreC 4294967295 l)
  unfold sumN
  omega
theorem sumN_eq (l : List UInt8) : bits .xor .u32 IntKind.u32.max (moreC 4294967295 l) = (sumN l : Int) := by
  have := bits_u32 .xor IntKind.u32.max (moreC 4294967295 l)
  unfold sumN
  omega
set_option maxRecDepth 100000 in
theorem sum_one (s : ByteArray) (b cap : Nat) (w : World) (hs : s.size ≤ 1099511627776) (hb : w.cell? ⟨b, 0, none⟩ = some (.string s)) (hbl : b < w.heap.size) :
    Calls Tryz.prog 205 #[.slice (some ⟨b, 0, none⟩) 1 cap] w fun e w' => e = .returned (.int .u32 (sumN (L s))) ∧ Below w.heap.size w w' := by
  have MO := Lib.hid (fun W => more_any 4294967295 s W hs)
  have E := Lib.hid (sumN_eq (L s))
  generalize moreC 4294967295 (L s) = cc at *
  generalize sumN (L s) = sn at *
  go_enter Tryz.func205, Tryz.ntmps205
  go_wp2_with fail
  refine wp_loop_rounds 2 ?_
  rw [rounds_succ]
  go_wp2_with fail
  refine (MO.out _).mono ?_
  rintro e w1 ⟨rfl, b1⟩
  go_wp2_with fail
  rw [rounds_succ]
  go_wp2
  go_ret
  refine ⟨?_, b1⟩
  rw [← E.out]
  rfl
def sealL (l : List UInt8) : List UInt8 := l ++ numL (sumN l) 4
set_option maxRecDepth 100000 in
theorem seal_any (s : ByteArray) (w : World) (hs : s.size ≤ 1073741824) : Calls Tryz.prog 187 #[.string s] w fun e w' => e = .returned (.string (B (sealL (L s)))) ∧ Below w.heap.size w w' := by
  have SU := Lib.hid (fun b cap W hb hl => sum_one s b cap W (by omega) hb hl)
  have NU := Lib.hid (fun W => num_ok (sumN (L s)) 4 W (by omega) (sumN_lt _))
  have hsl := sumN_lt (L s)
  have hE : s ++ B (numL (sumN (L s)) 4) = B (sealL (L s)) := by
    rw [← B_L s, append_B]
    rfl
  have HE := Lib.hid hE
  clear hE
  have hz : s.size + (B (numL (sumN (L s)) 4)).size ≤ 1073741900 := by rw [size_B, len_numL]; omega
  generalize B (sealL (L s)) = sl at *
  generalize sumN (L s) = sn at *
  generalize B (numL sn 4) = t4 at *
  have hV := SBox.new w 9 #[.string s]
  have v0 := hV.cell 0
  simp only [List.getElem?_toArray, List.getElem?_cons_zero] at v0
  have vl := hV.lt
  have SU1 := Lib.hid (SU.out _ 1 _ v0 vl)
  have HB := Lib.hid ((Below.refl _ w).alloc (Nat.le_refl _) (.cells #[.string s] 9))
  clear hV v0 vl SU
  go_enter Tryz.func187, Tryz.ntmps187
  go_wp2_with fail
  refine SU1.out.mono ?_
  rintro e w1 ⟨rfl, b1⟩
  have hB1 := HB.out.trans (b1.mono (by simp))
  clear b1
  go_wp2_with fail
  refine (NU.out _).mono ?_
  rintro e w2 ⟨rfl, b2⟩
  have HB2 := Lib.hid (hB1.trans (b2.mono hB1.size))
  clear hB1 b2
  go_wp2
  go_ret
  refine ⟨?_, HB2.out⟩
  rw [← HE.out]
  rfl
def openL (l : List UInt8) : Option (List UInt8) := if sealL (l.take (l.length - 4)) = l then some (l.take (l.length - 4)) else none
set_option maxRecDepth 100000 in
theorem open_any (s : ByteArray) (w : World) (h4 : 4 ≤ s.size) (hs : s.size ≤ 1073741824) :
    Calls Tryz.prog 182 #[.string s] w fun e w' => e = .returned (match openL (L s) with | some t => .tuple #[.string (B t), .int .i64 0] | none => .tuple #[.string ⟨#[]⟩, .int .i64 7]) ∧ Below w.heap.size w w' := by
  have hx : s.extract 0 (s.size - 4) = B ((L s).take ((L s).length - 4)) := by
    rw [len_L, ← B_L (s.extract 0 (s.size - 4))]
    congr 1
    show (s.extract 0 (s.size - 4)).data.toList = _
    rw [ByteArray.data_extract]
    simp only [Array.toList_extract, List.extract_eq_take_drop, List.drop_zero, Nat.sub_zero]
    rfl
  unfold openL
  obtain ⟨t, ht⟩ : ∃ x, (L s).take ((L s).length - 4) = x := ⟨_, rfl⟩
  rw [ht] at hx ⊢
  have htl : (B t).size ≤ 1073741824 := by rw [size_B, ← ht, List.length_take, len_L]; omega
  have SE := Lib.hid (fun W => seal_any (B t) W htl)
  rw [L_B] at SE
  have g0 : decide ((s.size : Int) < 4) = false := by simp; omega
  have g1 : (s.size : Int) - 4 = ((s.size - 4 : Nat) : Int) := by omega
  have g2 : s.size - 4 ≤ s.size := by omega
  by_cases hq : sealL t = L s
  · rw [if_pos hq]
    have u1 : ((B (sealL t)).toList != s.toList) = false := by rw [hq, B_L]; simp
    have u3 : ((B (sealL t)).toList == s.toList) = true := by rw [hq, B_L]; simp
    have u2 : decide ((B (sealL t)).toList = s.toList) = true := by rw [hq, B_L]; simp
    clear hq
    generalize B (sealL t) = st at *
    obtain ⟨bt, hbt⟩ : ∃ x, B t = x := ⟨_, rfl⟩
    rw [hbt] at SE hx htl
    have HBT := Lib.hid hbt
    clear hbt
    go_enter Tryz.func182, Tryz.ntmps182
    go_wp2_with fail
    refine (SE.out _).mono ?_
    rintro e w1 ⟨rfl, b1⟩
    go_wp2
    go_ret2
    have hbt := HBT.out
    subst hbt
    exact ⟨rfl, b1⟩
  · rw [if_neg hq]
    have hq2 : (B (sealL t)).toList ≠ s.toList := fun e => hq (by
      rw [ByteArray.toList_eq, ByteArray.toList_eq] at e
      exact e)
    have u1 : ((B (sealL t)).toList != s.toList) = true := by simpa using hq2
    have u3 : ((B (sealL t)).toList == s.toList) = false := by simpa using hq2
    have u2 : decide ((B (sealL t)).toList = s.toList) = false := by simpa using hq2
    clear hq hq2
    generalize B (sealL t) = st at *
    obtain ⟨bt, hbt⟩ : ∃ x, B t = x := ⟨_, rfl⟩
    rw [hbt] at SE hx htl
    have HBT := Lib.hid hbt
    clear hbt
    go_enter Tryz.func182, Tryz.ntmps182
    go_wp2_with fail
    refine (SE.out _).mono ?_
    rintro e w1 ⟨rfl, b1⟩
    go_wp2
    go_ret2
    have hbt := HBT.out
    subst hbt
    exact ⟨rfl, b1⟩
end Go.Proofs.YtpnfkilfgdnogaaGreatDoor.Crc
end
