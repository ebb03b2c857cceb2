/- Layer 7 (inode): Get: the inode of bytes that Put gave. -/
import Derived.Test.YtpnfkilfgdnogaaGreatDoorInode0
import Derived.Test.YtpnfkilfgdnogaaGreatDoorGeoM
import Derived.Deep.AppendLies
import Derived.Laws.CopyOwn
import Derived.Test.YtpnfkilfgdnogaaGreatDoorUMaps
import Derived.Deep.RegionHeld3
import Derived.Deep.RegionLawGrows
import Derived.DeepKeys
import Derived.Outline
import Derived.StillTailTactics
section
namespace Go.Proofs.YtpnfkilfgdnogaaGreatDoor.Ino
set_option linter.unusedVariables false
set_option linter.unusedSimpArgs false
open Go.RowKit Go.Shelf Oct Geo
structure InoT where
  kind : Nat
  links : Nat
  size : Nat
  d0 : Nat
  d1 : Nat
  d2 : Nat
  d3 : Nat
  ind : Nat
def InoT.val (x : InoT) : Value := .agg #[.int .u8 x.kind, .int .u16 x.links, .int .u32 x.size, .int .u16 x.d0, .int .u16 x.d1, .int .u16 x.d2, .int .u16 x.d3, .int .u16 x.ind]
def InoT.cells (x : InoT) : Array Value := #[.int .u8 x.kind, .int .u16 x.links, .int .u32 x.size, .int .u16 x.d0, .int .u16 x.d1, .int .u16 x.d2, .int .u16 x.d3, .int .u16 x.ind]
def InoT.row (x : InoT) : List Nat := [x.d0, x.d1, x.d2, x.d3, x.ind]
def InoT.nums (x : InoT) : List Nat := [x.kind, x.links, x.size % 65536, x.size / 65536, x.d0, x.d1, x.d2, x.d3, x.ind]
def inoB (x : InoT) : ByteArray := B (putL2 x.nums ++ nil0 14)
def okRow (n : Nat) (l : List Nat) : Prop := ∀ k v, l[k]? = some v → v ≠ 0 → k < n ∧ ∀ j, j < k → l[j]? ≠ some v
def noIno : InoT := ⟨0, 0, 0, 0, 0, 0, 0, 0⟩
structure InoT.Used (x : InoT) : Prop where
  kind : x.kind = 1 ∨ x.kind = 2
  links : x.links ≤ 200
  size : x.size ≤ 2304
  dir : x.kind = 2 → x.size % 64 = 0
  row : okRow (pagesN x.size) x.row
  lt : ∀ v ∈ x.row, v < 65536
def InoT.Ok (x : InoT) : Prop := x = noIno ∨ x.Used
theorem putL2_app (a b : List Nat) : putL2 (a ++ b) = putL2 a ++ putL2 b := by simp [putL2]
theorem numL_zero (n : Nat) : numL 0 n = List.replicate n 0 := by
  induction n with
  | zero => rfl
  | succ n ih => rw [numL_succ, ih, List.replicate_succ']; simp
theorem putL2_zero (n : Nat) : putL2 (List.replicate n 0) = nil0 (2 * n) := by
  induction n with
  | zero => rfl
  | succ n ih =>
    rw [List.replicate_succ', putL2_snoc, ih, numL_zero]
    unfold nil0
    rw [List.replicate_append_replicate]
    rfl
theorem putL2_drop : ∀ (l : List Nat) (k : Nat), (putL2 l).drop (2 * k) = putL2 (l.drop k)
  | l, 0 => by simp
  | [], k + 1 => by simp [putL2]
  | v :: r, k + 1 => by
    have h := putL2_drop r k
    have e : putL2 (v :: r) = numL v 2 ++ putL2 r := rfl
    rw [e, List.drop_succ_cons, ← h, List.drop_append, len_numL]
    have e2 : (numL v 2).drop (2 * (k + 1)) = [] := List.drop_eq_nil_of_le (by rw [len_numL]; omega)
    rw [e2, List.nil_append]
    congr 1
theorem putL2_head (v : Nat) (r : List Nat) : (putL2 (v :: r)).take 2 = numL v 2 := by
  have e : putL2 (v :: r) = numL v 2 ++ putL2 r := rfl
  rw [e, List.take_append_of_le_length (by rw [len_numL]; omega), List.take_of_length_le (by rw [len_numL]; omega)]
theorem valL_num2 {v : Nat} (h : v < 65536) : valL (numL v 2) = v := by
  rw [valL_numL]
  exact Nat.mod_eq_of_lt h
theorem nums_row (x : InoT) : putL2 x.nums ++ nil0 14 = putL2 (x.nums ++ List.replicate 7 0) := by
  rw [putL2_app, putL2_zero]
theorem inoB_size (x : InoT) : (inoB x).size = 32 := by
  unfold inoB
  rw [size_B, List.length_append, putL2_len, nil0_len]
  rfl
theorem Used.nums_lt {x : InoT} (h : x.Used) : ∀ v ∈ x.nums, v < 65536 := by
  intro v hv
  have h1 := h.lt
  have h2 := h.links
  have h3 := h.size
  have h4 := h.kind
  unfold InoT.nums at hv
  unfold InoT.row at h1
  simp only [List.mem_cons, List.not_mem_nil, or_false] at hv h1
  rcases hv with rfl | rfl | rfl | rfl | rfl | rfl | rfl | rfl | rfl
  · omega
  · omega
  · omega
  · omega
  · exact h1 _ (by simp)
  · exact h1 _ (by simp)
  · exact h1 _ (by simp)
  · exact h1 _ (by simp)
  · exact h1 _ (by simp)
theorem Ok.nums_lt {x : InoT} (h : x.Ok) : ∀ v ∈ x.nums, v < 65536 := by
  rcases h with rfl | h
  · intro v hv
    simp [InoT.nums, noIno] at hv
    omega
  · exact Used.nums_lt h
theorem Ok.size_lt {x : InoT} (h : x.Ok) : x.size ≤ 2304 := by
  rcases h with rfl | h
  · simp [noIno]
  · exact h.size
end Go.Proofs.YtpnfkilfgdnogaaGreatDoor.Ino
end
section
namespace Go.Proofs.YtpnfkilfgdnogaaGreatDoor.Ino
set_option linter.unusedVariables false
set_option linter.unusedSimpArgs false
open Go.RowKit Go.Shelf Oct Geo
theorem own_base {W : World} {base g size n : Nat} {t : TypeId} {v : Value} {xs : List Value} (h : W.ownsRow base t size v n xs) (hg : v.ownBlock = some g) : base ≤ g := by
  rcases h.2 with ⟨rfl, _⟩ | ⟨g', cap, cur, rfl, hb, _⟩
  · simp [Value.ownBlock] at hg
  · have e : g' = g := by simpa [Value.ownBlock] using hg
    omega
def u16V (n : Nat) : Value := .int .u16 n
theorem info_u16 : (Tryz.prog.info? 39).map (fun i => (i.zero, i.size, i.bytes)) = some (some (.int .u16 0), 1, 2) := by kernel_rfl
theorem wrap_u16 (n : Nat) (h : n < 65536) : IntKind.u16.wrap (n : Int) = n := by
  simp [IntKind.wrap, IntKind.bits, IntKind.signed]
  omega
set_option maxRecDepth 100000 in
set_option maxHeartbeats 1000000 in
theorem got_any (vs : List Nat) (w : World) (hl : vs.length ≤ 64) (hv : ∀ v ∈ vs, v < 65536) :
    Calls Tryz.prog 104 #[.string (B (putL2 vs))] w fun e w' => ∃ v, e = .returned v ∧ w'.ownsRow w.heap.size 39 1 v vs.length (vs.map u16V) ∧ Below w.heap.size w w' := by
  obtain ⟨i0, hi, hz0, hz1, hz2⟩ := info_parts info_u16
  have HV := Lib.hid hv
  clear hv
  go_enter Tryz.func104, Tryz.ntmps104
  go_wp2_with fail
  go_loopw [0, 2, 3, 4] (fun s l _ _ wr => ∃ m : Nat, m ≤ vs.length ∧ s = .string (B (putL2 (vs.drop m))) ∧ wr.ownsRow w.heap.size 39 1 l m ((vs.take m).map u16V) ∧ Below w.heap.size w wr) (fun s _ _ _ _ => match s with | .string b => b.size | _ => 0)
  case atStart => exact ⟨0, Nat.zero_le _, rfl, World.ownsRow_nil _ _ _ _, Below.refl _ _⟩
  case round =>
    obtain ⟨m, hm, rfl, hown, hB⟩ := hrel
    have hsz : (B (putL2 (vs.drop m))).size = 2 * (vs.length - m) := by rw [size_B, putL2_len, List.length_drop]
    by_cases hlt : m < vs.length
    · have hvm := HV.out vs[m] (List.getElem_mem hlt)
      have e1 : (B (putL2 (vs.drop m))).extract 0 2 = B (numL vs[m] 2) := by
        rw [ext_B, L_B, List.drop_zero, List.drop_eq_getElem_cons hlt]
        exact congrArg B (putL2_head _ _)
      have e2 : (B (putL2 (vs.drop m))).extract 2 (B (putL2 (vs.drop m))).size = B (putL2 (vs.drop (m + 1))) := by
        rw [ext_B, L_B, hsz]
        have e := putL2_drop (vs.drop m) 1
        rw [List.drop_drop] at e
        rw [show 2 * 1 = 2 from rfl] at e
        rw [e, List.take_of_length_le (by rw [putL2_len, List.length_drop]; omega)]
      have GE := Lib.hid (fun W => get_ok (B (numL vs[m] 2)) W (by rw [size_B, len_numL]; omega))
      rw [L_B, valL_num2 hvm] at GE
      have wz := wrap_u16 vs[m] hvm
      have hge : 2 ≤ (B (putL2 (vs.drop m))).size := by omega
      obtain ⟨s2, hs2⟩ : ∃ s, B (putL2 (vs.drop (m + 1))) = s := ⟨_, rfl⟩
      rw [hs2] at e2
      have E2 := Lib.hid hs2
      have HB := Lib.hid hB
      have hsn : (vs.take (m + 1)).map u16V = (vs.take m).map u16V ++ [u16V vs[m]] := by
        rw [List.take_add_one, List.getElem?_eq_getElem hlt, List.map_append]
        rfl
      obtain ⟨xs, hxs⟩ : ∃ s, (vs.take m).map u16V = s := ⟨_, rfl⟩
      rw [hxs] at hsn hown
      have HO := Lib.hid hown
      have HSN := Lib.hid hsn
      have HS2 := Lib.hid (show s2.size < (B (putL2 (vs.drop m))).size by rw [← hs2, hsz, size_B, putL2_len, List.length_drop]; omega)
      have HBs := Lib.hid hB.size
      clear hown hB hsn hsz hxs hs2
      generalize B (putL2 (vs.drop m)) = s1 at *
      generalize vs[m] = x at *
      go_wp2_with fail
      refine (GE.out _).mono ?_
      rintro e w9 ⟨rfl, rfl⟩
      go_wp2_with (at_builtin; refine wpList_append_own _ rfl _ _ 87 rfl w.heap.size 39 i0 (.int .u16 0) 1 2 Tryz.underlying87 hi hz0 hz1 hz2 rfl (by decide) _ _ _ rfl (HO.out.alloc _) ⟨wr.heap.size, 0, none⟩ 1 1 [u16V x] rfl rfl ?c1 ?c2 (by unfold maxLen; omega) (by omega) (by have := HBs.out; simp; omega) ?_)
      case c1 => exact World.news_of_block (SBox.new wr 39 #[u16V x])
      case c2 => intro u hu; simp at hu; subst hu; rfl
      intro v1 w1 hown1 hg1 hne1
      have HO1 := Lib.hid hown1
      have HB1 := Lib.hid ((HB.out.alloc HBs.out (.cells #[u16V x] 39)).grown hg1 (by have := HBs.out; simp; omega) (fun g hg => own_base HO.out hg))
      clear hown1 hg1 hne1
      go_wp2_with fail
      go_roundw
      case rel => exact ⟨m + 1, by omega, by rw [E2.out], by rw [HSN.out]; exact HO1.out, HB1.out⟩
      case measure => exact HS2.out
    · obtain rfl : m = vs.length := by omega
      have h0 : (B (putL2 (vs.drop vs.length))).size = 0 := by rw [hsz]; omega
      rw [List.take_length] at hown
      have HO := Lib.hid hown
      have HB := Lib.hid hB
      clear hown hB hsz
      generalize B (putL2 (vs.drop vs.length)) = s1 at *
      go_wp2_with fail
      go_ret
      exact ⟨_, rfl, HO.out, HB.out⟩
end Go.Proofs.YtpnfkilfgdnogaaGreatDoor.Ino
end
section
namespace Go.Proofs.YtpnfkilfgdnogaaGreatDoor.Ino
set_option linter.unusedVariables false
set_option linter.unusedSimpArgs false
open Go.RowKit Go.Shelf Go.Maps Oct Geo
theorem wf_u16 {n : Nat} (h : n < 65536) : (Lit.int .u16 (n : Int)).wf = true := by
  simp [Lit.wf, IntKind.min, IntKind.max, IntKind.bits, IntKind.signed]
  omega
theorem lits4 {a b c d : Nat} (ha : a < 65536) (hb : b < 65536) (hc : c < 65536) (hd : d < 65536) : Tryz.prog.keyLits 3 41 [.int .u16 a, .int .u16 b, .int .u16 c, .int .u16 d] = some [.int .u16 a, .int .u16 b, .int .u16 c, .int .u16 d] := by
  have e1 : Tryz.prog.cellsOf 41 = 4 := by kernel_rfl
  have e2 : Tryz.prog.cellsOf 39 = 1 := by kernel_rfl
  simp [Program.keyLits, Tryz.underlying41, Tryz.underlying39, e1, e2, wf_u16 ha, wf_u16 hb, wf_u16 hc, wf_u16 hd, List.range_succ]
set_option maxRecDepth 100000 in
theorem run_eqD {a b c d : Nat} (ha : a < 65536) (hb : b < 65536) (hc : c < 65536) (hd : d < 65536) (w : World) : (binOp .eql 41 (.agg #[.int .u16 a, .int .u16 b, .int .u16 c, .int .u16 d]) (.agg #[.int .u16 0, .int .u16 0, .int .u16 0, .int .u16 0])).run Tryz.prog w = .ok (.bool (decide (a = 0 ∧ b = 0 ∧ c = 0 ∧ d = 0))) w := by
  rw [run_eql_struct]
  obtain ⟨r, hr, hiff⟩ := run_equalIn_deep (P := Tryz.prog) 9998 2 41 (by kernel_rfl) w 3 3 (.agg #[.int .u16 a, .int .u16 b, .int .u16 c, .int .u16 d]) (.agg #[.int .u16 (0 : Nat), .int .u16 (0 : Nat), .int .u16 (0 : Nat), .int .u16 (0 : Nat)]) _ _ (by kernel_rfl) (by kernel_rfl) (lits4 ha hb hc hd) (lits4 (by omega) (by omega) (by omega) (by omega))
  have e : r = decide (a = 0 ∧ b = 0 ∧ c = 0 ∧ d = 0) := by
    rw [Bool.eq_iff_iff, hiff]
    simp
  rw [← e]
  exact congrArg (fun z : Result Bool => z.andThen fun b w' => Result.ok (Value.bool b) w') hr
def intR : ElemR := fun v => match v with
  | .int .i64 n => some (.lit (.int .i64 n), [])
  | _ => none
theorem intR_mk (n : Int) : intR (.int .i64 n) = some (.lit (.int .i64 n), []) := rfl
theorem intR_inv {v : Value} {n : Int} {ps : List MemPlace} (h : intR v = some (.lit (.int .i64 n), ps)) : v = .int .i64 n := by
  unfold intR at h
  split at h
  · simp only [Option.some.injEq, Prod.mk.injEq, DataW.lit.injEq, Lit.int.injEq, true_and] at h
    rw [h.1]
  · cases h
def cntN (l : List Nat) (x : Int) : Nat := l.countP (fun v : Nat => decide ((v : Int) = x))
def cntF (l : List Nat) : Int → Option (DataW Unit) := fun x => if cntN l x = 0 then none else some (.lit (.int .i64 (cntN l x)))
theorem cntF_get (l : List Nat) (x : Int) : (cntF l x).getD (.lit (.int .i64 0)) = .lit (.int .i64 (cntN l x)) := by
  unfold cntF
  by_cases h : cntN l x = 0
  · rw [if_pos h, h]; rfl
  · rw [if_neg h]; rfl
theorem cntN_snoc (l : List Nat) (v : Nat) (x : Int) : cntN (l ++ [v]) x = cntN l x + if x = v then 1 else 0 := by
  unfold cntN
  rw [List.countP_append]
  by_cases h : x = v
  · subst h; simp
  · have h2 : ¬ (v : Int) = x := fun e => h e.symm
    simp [h, h2]
theorem cntF_snoc (l : List Nat) (v : Nat) : cntF (l ++ [v]) = putU (cntF l) v (.lit (.int .i64 (cntN l v + 1 : Nat))) := by
  funext x
  unfold cntF putU
  rw [cntN_snoc]
  by_cases h : x = v
  · subst h
    simp
  · rw [if_neg h, if_neg h, Nat.add_zero]
theorem cntN_none {l : List Nat} {v : Nat} (h : ∀ j, j < l.length → l[j]? ≠ some v) : cntN l v = 0 := by
  unfold cntN
  rw [List.countP_eq_zero]
  intro a ha
  obtain ⟨j, hj, rfl⟩ := List.mem_iff_getElem.1 ha
  have := h j hj
  rw [List.getElem?_eq_getElem hj] at this
  intro e
  exact this (by rw [show l[j] = v by have e2 := of_decide_eq_true e; omega])
theorem cntN_le (l : List Nat) (x : Int) : cntN l x ≤ l.length := List.countP_le_length
theorem under_met : Tryz.prog.underlying 260 = some (.map 39 3) := by kernel_rfl
theorem zero_int (w : World) : (zeroValue 3).run Tryz.prog w = .ok (.int .i64 0) w := by kernel_rfl
theorem met_look {W : World} {b nn : Nat} {l : List Nat} (h : UMap W intR b nn (cntF l)) (v : Nat) (hv : v < 65536) :
    (Instr.lookup 260 (.map (some b)) (.int .u16 (v : Int)) false).run Tryz.prog W = .ok (.int .i64 (cntN l v)) W := by
  obtain ⟨y, ps, hrun, hy⟩ := h.look under_met (zero_int W) (intR_mk 0) v (wf_u16 hv)
  rw [cntF_get] at hy
  rw [hrun, intR_inv hy]
theorem met_put {W : World} {b nn : Nat} {l : List Nat} (h : UMap W intR b nn (cntF l)) (hn : nn < maxLen) (v : Nat) (hv : v < 65536) :
    ∃ W', (Instr.mapUpdate 260 (.map (some b)) (.int .u16 (v : Int)) (.int .i64 (cntN l v + 1 : Nat))).run Tryz.prog W = .ok () W' ∧ UMap W' intR b (nn + 1) (cntF (l ++ [v])) ∧ W.mapTurned W' b := by
  obtain ⟨W', hrun, r1, r2⟩ := h.put under_met hn v (wf_u16 hv) (intR_mk (cntN l v + 1 : Nat))
  rw [← cntF_snoc] at r1
  exact ⟨W', hrun, r1, r2⟩
def KeepX (V : World) (b : Nat) (cs : Array Value) (W : World) : Prop := Below V.heap.size V W ∧ SBox W b 43 cs
theorem KeepX.to {V W W' : World} {b : Nat} {cs : Array Value} {v : Value} (h : W.cell? ⟨b, 7, none⟩ = some v ∧ KeepX V b cs W) (hb : Below W.heap.size W W') : W'.cell? ⟨b, 7, none⟩ = some v ∧ KeepX V b cs W' :=
  ⟨(hb.cell (p := ⟨b, 7, none⟩) h.2.2.lt).trans h.1, h.2.1.trans (hb.mono h.2.1.size), h.2.2.later hb⟩
theorem own_form {W : World} {base size n : Nat} {t : TypeId} {v : Value} {xs : List Value} (h : W.ownsRow base t size v n xs) (hn : 0 < n) : ∃ g cap, v = .slice (some ⟨g, 0, none⟩) n cap ∧ g < W.heap.size := by
  obtain ⟨g, cap, hv, _, hlt⟩ := h.form hn
  exact ⟨g, cap, hv, hlt⟩
theorem own_box {W : World} {base n g cap : Nat} {t : TypeId} {xs : List Value} (h : W.ownsRow base t 1 (.slice (some ⟨g, 0, none⟩) n cap) n xs) : ∃ cur : Array Value, SBox W g t cur ∧ (∀ (j : Nat) (u : Value), xs[j]? = some u → cur[j]? = some u) ∧ base ≤ g := by
  rcases h.2 with ⟨hv, _⟩ | ⟨g', cap', cur, hv, hb, hg, hnc, hcm, hcs, ht⟩
  · cases hv
  · cases hv
    refine ⟨cur, hg, fun j u hu => ?_, hb⟩
    have h2 : (cur.toList.take (n * 1))[j]? = some u := by rw [ht]; exact hu
    rw [List.getElem?_take] at h2
    split at h2
    · simpa using h2
    · cases h2
theorem cntF_nil : cntF [] = fun _ => none := by
  funext x
  rfl
theorem grown_below {W W' : World} (h : W.grownBy W' none) : Below W.heap.size W W' := (Below.refl _ _).grown h (Nat.le_refl _) (fun g e => by cases e)
theorem dirs_cellsX {V W : World} {b : Nat} {k0 k1 k2 d0 d1 d2 d3 i : Value} {A0 : Prop} (h : A0 ∧ KeepX V b #[k0, k1, k2, d0, d1, d2, d3, i] W) : ∀ p, some (⟨b, 3, none⟩ : Addr) = some p → ∀ j u, [d0, d1, d2, d3][j]? = some u → W.cell? (p.add j) = some u := fun p e j u hu => by
  cases e
  have hc := h.2.2
  match j, hu with
  | 0, hu => exact (hc.cell 3).trans hu
  | 1, hu => exact (hc.cell 4).trans hu
  | 2, hu => exact (hc.cell 5).trans hu
  | 3, hu => exact (hc.cell 6).trans hu
set_option maxRecDepth 100000 in
theorem check_none (w : World) : Calls Tryz.prog 107 #[noIno.val] w fun e w' => e = .returned (.int .i64 0) ∧ Below w.heap.size w w' := by
  unfold InoT.val noIno
  have hX := SBox.new w 43 (InoT.cells noIno)
  have HB := Lib.hid ((Below.refl _ w).alloc (Nat.le_refl _) (.cells (InoT.cells noIno) 43))
  unfold InoT.cells noIno at hX HB
  simp only at hX
  have X0 := hX.cell 0
  have X1 := hX.cell 1
  have X2 := hX.cell 2
  have X3 := hX.cell 3
  have X4 := hX.cell 4
  have X5 := hX.cell 5
  have X6 := hX.cell 6
  have X7 := hX.cell 7
  simp only [List.getElem?_toArray, List.getElem?_cons_zero, List.getElem?_cons_succ] at X0 X1 X2 X3 X4 X5 X6 X7
  have Xl := hX.lt
  clear hX
  have EQ : ∀ W, (binOp .eql 43 (.agg #[.int .u8 0, .int .u16 0, .int .u32 0, .int .u16 0, .int .u16 0, .int .u16 0, .int .u16 0, .int .u16 0]) (.agg #[.int .u8 0, .int .u16 0, .int .u32 0, .int .u16 0, .int .u16 0, .int .u16 0, .int .u16 0, .int .u16 0])).run Tryz.prog W = .ok (.bool true) W := fun W => by kernel_rfl
  go_enter Tryz.func107, Tryz.ntmps107
  go_wp2
  go_ret
  exact ⟨rfl, HB.out⟩
set_option maxRecDepth 100000 in
set_option maxHeartbeats 4000000 in
theorem check_used (x : InoT) (w : World) (hx : x.Used) : Calls Tryz.prog 107 #[x.val] w fun e w' => e = .returned (.int .i64 0) ∧ Below w.heap.size w w' := by
  obtain ⟨i0, hi, hz0, hz1, hz2⟩ := info_parts info_u16
  obtain ⟨hk, hl, hz, hd, hr, hlt⟩ := hx
  obtain ⟨kind, links, size, d0, d1, d2, d3, ind⟩ := x
  simp only at hk hl hz hd hr hlt
  have PG := Lib.hid (fun W => pages_any size W (by omega))
  have EQ := fun W => run_eqD (hlt d0 (by simp [InoT.row])) (hlt d1 (by simp [InoT.row])) (hlt d2 (by simp [InoT.row])) (hlt d3 (by simp [InoT.row])) W
  have FD : ∀ W, (Instr.field 43 (.agg #[.int .u8 0, .int .u16 0, .int .u32 0, .int .u16 0, .int .u16 0, .int .u16 0, .int .u16 0, .int .u16 0]) 3).run Tryz.prog W = .ok (.agg #[.int .u16 0, .int .u16 0, .int .u16 0, .int .u16 0]) W := fun W => by kernel_rfl
  unfold InoT.val
  have q0 : decide ((200 : Int) < (links : Int)) = false := by simp; omega
  have q1 : decide ((2304 : Int) < (size : Int)) = false := by simp; omega
  have q2 : decide (200 < links) = false := by simp; omega
  have q3 : decide (2304 < size) = false := by simp; omega
  have HB := Lib.hid ((Below.refl _ w).alloc (Nat.le_refl _) (.cells (InoT.cells ⟨kind, links, size, d0, d1, d2, d3, ind⟩) 43))
  have hX := SBox.new w 43 (InoT.cells ⟨kind, links, size, d0, d1, d2, d3, ind⟩)
  unfold InoT.cells at hX HB
  have HX := Lib.hid hX
  simp only at hX
  have X0 := hX.cell 0
  have X1 := hX.cell 1
  have X2 := hX.cell 2
  have X3 := hX.cell 3
  have X4 := hX.cell 4
  have X5 := hX.cell 5
  have X6 := hX.cell 6
  have X7 := hX.cell 7
  simp only [List.getElem?_toArray, List.getElem?_cons_zero, List.getElem?_cons_succ] at X0 X1 X2 X3 X4 X5 X6 X7
  have Xl := hX.lt
  clear hX
  have HD := Lib.hid hd
  have HR := Lib.hid hr
  have HLT := Lib.hid hlt
  clear hd hr hlt
  generalize hpg : pagesN size = pg at *
  have hmm := @run_makeMap Tryz.prog
  have NB := Lib.hid (fun (W : World) (v : Value) (h : W.heap.size = w.heap.size + 2) => (by rw [← h]; exact SBox.new W _ _ : SBox (W.alloc (.cells #[v] 39)) (w.heap.size + 2) 39 #[v]))
  have f0 : ((kind : Int) == 0) = false := by rcases hk with rfl | rfl <;> rfl
  have hkk : (((kind : Int) != 1) = false ∧ ((kind : Int) == 2) = false) ∨ (((kind : Int) != 1) = true ∧ ((kind : Int) != 2) = false ∧ ((kind : Int) == 2) = true ∧ (size : Int) % 64 = 0) := by
    rcases hk with rfl | rfl
    · exact .inl ⟨rfl, rfl⟩
    · have h64 := HD.out rfl
      exact .inr ⟨rfl, rfl, rfl, by omega⟩
  have HB2 := Lib.hid (HB.out.alloc HB.out.size (.map #[] 0))
  have HM := Lib.hid (UMap.new (w.alloc (.cells #[.int .u8 kind, .int .u16 links, .int .u32 size, .int .u16 d0, .int .u16 d1, .int .u16 d2, .int .u16 d3, .int .u16 ind] 43)) intR)
  have HX2 := Lib.hid (HX.out.alloc (.map #[] 0))
  rw [World.size_alloc] at HM
  by_cases hall : (d0 = 0 ∧ d1 = 0 ∧ d2 = 0 ∧ d3 = 0) ∧ ind = 0
  · rw [decide_eq_true hall.1] at EQ
    have g0 : ((ind : Int) == 0) = true := by rw [hall.2]; rfl
    clear hall HX HM HX2 HB2 HR HLT
    rcases hkk with ⟨f1, f2⟩ | ⟨f1, f2, f3, f4⟩
    all_goals
      go_enter Tryz.func107, Tryz.ntmps107
      go_wp2
      go_ret
      exact ⟨rfl, HB.out⟩
  have hDD : (decide (d0 = 0 ∧ d1 = 0 ∧ d2 = 0 ∧ d3 = 0) = false) ∨ (decide (d0 = 0 ∧ d1 = 0 ∧ d2 = 0 ∧ d3 = 0) = true ∧ ((ind : Int) == 0) = false) := by
    by_cases h : d0 = 0 ∧ d1 = 0 ∧ d2 = 0 ∧ d3 = 0
    · exact .inr ⟨decide_eq_true h, by simp; intro e; exact hall ⟨h, e⟩⟩
    · exact .inl (decide_eq_false h)
  generalize decide (d0 = 0 ∧ d1 = 0 ∧ d2 = 0 ∧ d3 = 0) = bD at *
  clear hall HX hk HD hpg
  rcases hkk with ⟨f1, f2⟩ | ⟨f1, f2, f3, f4⟩ <;> rcases hDD with rfl | ⟨rfl, g0⟩
  all_goals
    go_enter Tryz.func107, Tryz.ntmps107
    go_wp2_with fail
    refine (PG.out _).mono ?_
    rintro e w9 ⟨rfl, rfl⟩
    go_wp2_with fail
    go_region_held3 (fun W => W.cell? ⟨w.heap.size, 7, none⟩ = some (.int .u16 ind) ∧ KeepX ((w.alloc (.cells #[.int .u8 kind, .int .u16 links, .int .u32 size, .int .u16 d0, .int .u16 d1, .int .u16 d2, .int .u16 d3, .int .u16 ind] 43)).alloc (.map #[] 0)) w.heap.size #[.int .u8 kind, .int .u16 links, .int .u32 size, .int .u16 d0, .int .u16 d1, .int .u16 d2, .int .u16 d3, .int .u16 ind] W)
      (first | exact KeepX.to (by assumption) (grown_below (by assumption)) | exact KeepX.to (by assumption) ((Below.refl _ _).alloc (Nat.le_refl _) _) | exact ⟨HX2.out.drew.cell 7, (Below.refl _ _).drew, HX2.out.drew⟩)
      ((refine step_append_grows (by rfl) (.tmp 56) (.tmp 59) 87 (by rfl) 39 i0 (.int .u16 0) 1 2 Tryz.underlying87 hi hz0 hz1 hz2 rfl (by decide) (some ⟨w.heap.size, 3, none⟩) 4 4 [.int .u16 d0, .int .u16 d1, .int .u16 d2, .int .u16 d3] (by rfl) (by simp) rfl (dirs_cellsX (by assumption)) ⟨w.heap.size + 2, 0, none⟩ 1 1 [.int .u16 ind] (by rfl) rfl (World.news_of_block (NB.out _ _ (by simp))) (fun u hu => by simp at hu; subst hu; rfl) (by decide) (by unfold maxLen; omega) (by omega) ?_; intro v2 w2 hown2 hg2; obtain ⟨g2, cap2, rfl, hlt2⟩ := own_form hown2 (by decide)))
    rename_i hS
    have hB3 := HB2.out.trans (hS.2.1.mono HB2.out.size)
    have hM3 := HM.out.later hS.2.1
    rw [← cntF_nil] at hM3
    obtain ⟨cur, hcur, hget, hge⟩ := own_box hown2
    have HG := Lib.hid hget
    have HB3 := Lib.hid hB3
    have HM3 := Lib.hid hM3
    have HC3 := Lib.hid hcur
    clear hS hget hB3 hM3 hcur hown2 hg2 hge
    go_wp2_with fail
    go_loopw [5, 6, 62] (fun _ _ c wr => ∃ m : Nat, m ≤ 5 ∧ c = .int .i64 m ∧ UMap wr intR (w.heap.size + 1) m (cntF ([d0, d1, d2, d3, ind].take m)) ∧ SBox wr g2 39 cur ∧ Below w.heap.size w wr) (fun _ _ c _ => 5 - (Go.RowKit.intOf c).toNat)
    case atStart => exact ⟨0, by omega, rfl, HM3.out, HC3.out, HB3.out⟩
    case round =>
      obtain ⟨m, hm, rfl, hU, hS, hB⟩ := hrel
      by_cases hlt : m < 5
      · obtain ⟨v, hv⟩ : ∃ v, [d0, d1, d2, d3, ind][m]? = some v := ⟨_, List.getElem?_eq_getElem (by simpa using hlt)⟩
        have hv16 : v < 65536 := HLT.out v (List.mem_of_getElem? hv)
        have hok := HR.out m v hv
        have c1 : wr.cell? ⟨g2, m, none⟩ = some (.int .u16 v) := (hS.cell m).trans (HG.out m _ (by
          have e : [Value.int .u16 d0, .int .u16 d1, .int .u16 d2, .int .u16 d3] ++ [Value.int .u16 ind] = [d0, d1, d2, d3, ind].map (fun n : Nat => Value.int .u16 n) := rfl
          rw [e, List.getElem?_map, hv]
          rfl))
        have hsn : [d0, d1, d2, d3, ind].take (m + 1) = [d0, d1, d2, d3, ind].take m ++ [v] := by rw [List.take_add_one, hv]; rfl
        have hlen : ([d0, d1, d2, d3, ind].take m).length = m := by simp; omega
        have hnone : v ≠ 0 → cntN ([d0, d1, d2, d3, ind].take m) v = 0 := fun h0 => cntN_none (fun j hj => by
          rw [hlen] at hj
          rw [List.getElem?_take, if_pos hj]
          exact (hok h0).2 j hj)
        have hpgm : v ≠ 0 → m < pg := fun h0 => (hok h0).1
        have hcl := cntN_le ([d0, d1, d2, d3, ind].take m) v
        rw [hlen] at hcl
        have hlk := met_look hU v hv16
        obtain ⟨w3, hput, hU3, ht3⟩ := met_put hU (by unfold maxLen; omega) v hv16
        rw [← hsn] at hU3
        rw [show ((cntN ([d0, d1, d2, d3, ind].take m) v + 1 : Nat) : Int) = (cntN ([d0, d1, d2, d3, ind].take m) v : Int) + 1 from by push_cast; rfl] at hput
        generalize cntN ([d0, d1, d2, d3, ind].take m) v = cc at *
        obtain ⟨l2, hl2⟩ : ∃ l, [d0, d1, d2, d3, ind].take (m + 1) = l := ⟨_, rfl⟩
        rw [hl2] at hU3
        have E2 := Lib.hid hl2
        clear hl2
        generalize [d0, d1, d2, d3, ind].take m = l1 at *
        have hS3 : SBox w3 g2 39 cur := hS.kept ht3.grown (fun e => hU.ne hS (Option.some.inj e))
        have hB3 : Below w.heap.size w w3 := hB.grown ht3.grown hB.size (fun g e => by cases e; omega)
        have HS3 := Lib.hid hS3
        have HB9 := Lib.hid hB3
        have HU3 := Lib.hid hU3
        have HHS := Lib.hid hS
        have hgl := hS.lt
        have q0 : (0 : Int) ≤ m := by omega
        have q1 : (m : Int) < 5 := by omega
        clear hS hS3 hB hB3 hU hU3 hok hv hsn hlen ht3
        by_cases hv0 : v = 0
        · subst hv0
          have hlk2 : (Instr.lookup 260 (.map (some (w.heap.size + 1))) (.int .u16 0) false).run Tryz.prog wr = .ok (.int .i64 cc) wr := hlk
          have hput2 : (Instr.mapUpdate 260 (.map (some (w.heap.size + 1))) (.int .u16 0) (.int .i64 ((cc : Int) + 1))).run Tryz.prog wr = .ok () w3 := hput
          clear hlk hput hnone hpgm
          go_wp2_with fail
          go_roundw
          case rel => exact ⟨m + 1, by omega, by go_num, by rw [E2.out]; exact HU3.out, HS3.out, HB9.out⟩
          case measure => simp [Go.RowKit.intOf]; omega
        · have e0 := hnone hv0
          have hp := hpgm hv0
          have e1 : ((v : Int) != 0) = true := by simp; omega
          have e2 : decide ((pg : Int) ≤ (m : Int)) = false := by simp; omega
          have e3 : decide (pg ≤ m) = false := by simp; omega
          have hlk2 : (Instr.lookup 260 (.map (some (w.heap.size + 1))) (.int .u16 v) false).run Tryz.prog wr = .ok (.int .i64 0) wr := by rw [e0] at hlk; exact hlk
          have hput2 : (Instr.mapUpdate 260 (.map (some (w.heap.size + 1))) (.int .u16 v) (.int .i64 1)).run Tryz.prog wr = .ok () w3 := by rw [e0] at hput; exact hput
          clear hnone hpgm hlk hput e0 hcl
          go_wp2_with fail
          go_roundw
          case rel => exact ⟨m + 1, by omega, by go_num, by rw [E2.out]; exact HU3.out, HS3.out, HB9.out⟩
          case measure => simp [Go.RowKit.intOf]; omega
      · obtain rfl : m = 5 := by omega
        have HB9 := Lib.hid hB
        clear hU hS hB
        go_wp2_with fail
        go_ret
        exact ⟨rfl, HB9.out⟩
end Go.Proofs.YtpnfkilfgdnogaaGreatDoor.Ino
end
section
namespace Go.Proofs.YtpnfkilfgdnogaaGreatDoor.Ino
set_option linter.unusedVariables false
set_option linter.unusedSimpArgs false
open Go.RowKit Go.Shelf Go.Maps Oct Geo
theorem check_any (x : InoT) (w : World) (hx : x.Ok) : Calls Tryz.prog 107 #[x.val] w fun e w' => e = .returned (.int .i64 0) ∧ Below w.heap.size w w' := by
  rcases hx with rfl | h
  · exact check_none w
  · exact check_used x w h
theorem old_of_box {W : World} {g : Nat} {t : TypeId} {cs : List Value} (h : SBox W g t cs.toArray) : ∀ b, some (⟨g, 0, none⟩ : Addr) = some b → ∀ j u, cs[j]? = some u → W.cell? (b.add j) = some u := fun b e j u hu => by
  cases e
  exact World.news_of_block h j u hu
theorem SBox.at_ {W : World} {N : Nat} {t : TypeId} {cs : Array Value} (h : W.heap.size = N) : SBox (W.alloc (.cells cs t)) N t cs := by
  rw [← h]
  exact SBox.new W t cs
theorem cells_of {W : World} {base n g cap : Nat} {t : TypeId} {xs : List Value} {l : List Nat} (h : W.ownsRow base t 1 (.slice (some ⟨g, 0, none⟩) n cap) n xs) (e : xs = l.map u16V) : ∀ i (hi : i < l.length), W.cell? ⟨g, 0 + i, none⟩ = some (.int .u16 l[i]) := fun i hi => by
  subst e
  obtain ⟨cur, h1, h2, _⟩ := own_box h
  rw [Nat.zero_add, h1.cell i]
  refine h2 i _ ?_
  rw [List.getElem?_map, List.getElem?_eq_getElem hi]
  rfl
def KeepP (V : World) (b : Nat) (cs : Array Value) (W : World) : Prop := Below V.heap.size V W ∧ SBox W b 43 cs
theorem KeepP.to {V W W' : World} {b : Nat} {cs : Array Value} {v0 v1 v2 v7 : Value} (h : W.cell? ⟨b, 0, none⟩ = some v0 ∧ W.cell? ⟨b, 1, none⟩ = some v1 ∧ W.cell? ⟨b, 2, none⟩ = some v2 ∧ W.cell? ⟨b, 7, none⟩ = some v7 ∧ KeepP V b cs W) (hb : Below W.heap.size W W') :
    W'.cell? ⟨b, 0, none⟩ = some v0 ∧ W'.cell? ⟨b, 1, none⟩ = some v1 ∧ W'.cell? ⟨b, 2, none⟩ = some v2 ∧ W'.cell? ⟨b, 7, none⟩ = some v7 ∧ KeepP V b cs W' :=
  ⟨(hb.cell (p := ⟨b, 0, none⟩) h.2.2.2.2.2.lt).trans h.1, (hb.cell (p := ⟨b, 1, none⟩) h.2.2.2.2.2.lt).trans h.2.1, (hb.cell (p := ⟨b, 2, none⟩) h.2.2.2.2.2.lt).trans h.2.2.1, (hb.cell (p := ⟨b, 7, none⟩) h.2.2.2.2.2.lt).trans h.2.2.2.1, h.2.2.2.2.1.trans (hb.mono h.2.2.2.2.1.size), h.2.2.2.2.2.later hb⟩
theorem KeepP.grown {V W W' : World} {b : Nat} {cs : Array Value} {v0 v1 v2 v7 : Value} (hg : W.grownBy W' none) (h : W.cell? ⟨b, 0, none⟩ = some v0 ∧ W.cell? ⟨b, 1, none⟩ = some v1 ∧ W.cell? ⟨b, 2, none⟩ = some v2 ∧ W.cell? ⟨b, 7, none⟩ = some v7 ∧ KeepP V b cs W) :
    W'.cell? ⟨b, 0, none⟩ = some v0 ∧ W'.cell? ⟨b, 1, none⟩ = some v1 ∧ W'.cell? ⟨b, 2, none⟩ = some v2 ∧ W'.cell? ⟨b, 7, none⟩ = some v7 ∧ KeepP V b cs W' := KeepP.to h (grown_below hg)
theorem KeepP.later {V W W' : World} {b : Nat} {cs : Array Value} {v0 v1 v2 v7 : Value} (hb : Below W.heap.size W W') (h : W.cell? ⟨b, 0, none⟩ = some v0 ∧ W.cell? ⟨b, 1, none⟩ = some v1 ∧ W.cell? ⟨b, 2, none⟩ = some v2 ∧ W.cell? ⟨b, 7, none⟩ = some v7 ∧ KeepP V b cs W) :
    W'.cell? ⟨b, 0, none⟩ = some v0 ∧ W'.cell? ⟨b, 1, none⟩ = some v1 ∧ W'.cell? ⟨b, 2, none⟩ = some v2 ∧ W'.cell? ⟨b, 7, none⟩ = some v7 ∧ KeepP V b cs W' := KeepP.to h hb
theorem dirs_cells {V W : World} {b : Nat} {k0 k1 k2 d0 d1 d2 d3 i : Value} {A0 A1 A2 A3 : Prop} (h : A0 ∧ A1 ∧ A2 ∧ A3 ∧ KeepP V b #[k0, k1, k2, d0, d1, d2, d3, i] W) : ∀ p, some (⟨b, 3, none⟩ : Addr) = some p → ∀ j u, [d0, d1, d2, d3][j]? = some u → W.cell? (p.add j) = some u := fun p e j u hu => by
  cases e
  have hc := h.2.2.2.2.2
  match j, hu with
  | 0, hu => exact (hc.cell 3).trans hu
  | 1, hu => exact (hc.cell 4).trans hu
  | 2, hu => exact (hc.cell 5).trans hu
  | 3, hu => exact (hc.cell 6).trans hu
set_option maxRecDepth 100000 in
set_option maxHeartbeats 4000000 in
theorem put_ino (x : InoT) (w : World) (hx : x.Ok) : Calls Tryz.prog 63 #[x.val] w fun e w' => e = .returned (.tuple #[.string (inoB x), .int .i64 0]) ∧ Below w.heap.size w w' := by
  obtain ⟨i0, hi, hz0, hz1, hz2⟩ := info_parts info_u16
  have CK := Lib.hid (fun W => check_any x W hx)
  have PD := Lib.hid (fun W => pad_any (B (putL2 x.nums)) 32 W (by rw [size_B, putL2_len]; simp [InoT.nums]) (by omega))
  have PT := Lib.hid (fun b o cap W hb hc => put_any x.nums b o cap W (by simp [InoT.nums]) (Ok.nums_lt hx) hb hc)
  have hsz := Ok.size_lt hx
  have hnl := Ok.nums_lt hx
  have HE := Lib.hid (show B (L (B (putL2 x.nums)) ++ nil0 (32 - (B (putL2 x.nums)).size)) = inoB x by
    unfold inoB
    rw [L_B, size_B, putL2_len]
    rfl)
  clear hx
  obtain ⟨kind, links, size, d0, d1, d2, d3, ind⟩ := x
  simp only at hsz
  have k1 : kind < 65536 := hnl kind (by simp [InoT.nums])
  have k2 : links < 65536 := hnl links (by simp [InoT.nums])
  clear hnl
  have HN := Lib.hid (show [Value.int .u16 kind, .int .u16 links, .int .u16 size, .int .u16 0] ++ [Value.int .u16 d0, .int .u16 d1, .int .u16 d2, .int .u16 d3, .int .u16 ind] = (InoT.nums ⟨kind, links, size, d0, d1, d2, d3, ind⟩).map u16V by
    have e1 : size % 65536 = size := by omega
    have e2 : size / 65536 = 0 := by omega
    simp only [InoT.nums, e1, e2]
    rfl)
  unfold InoT.val at *
  have hX := SBox.new w 43 (InoT.cells ⟨kind, links, size, d0, d1, d2, d3, ind⟩)
  have HB := Lib.hid ((Below.refl _ w).alloc (Nat.le_refl _) (.cells (InoT.cells ⟨kind, links, size, d0, d1, d2, d3, ind⟩) 43))
  unfold InoT.cells at hX HB
  simp only at hX HB CK
  have HX := Lib.hid hX
  have X0 := hX.cell 0
  have X1 := hX.cell 1
  have X2 := hX.cell 2
  have X3 := hX.cell 3
  have X4 := hX.cell 4
  have X5 := hX.cell 5
  have X6 := hX.cell 6
  have X7 := hX.cell 7
  simp only [List.getElem?_toArray, List.getElem?_cons_zero, List.getElem?_cons_succ] at X0 X1 X2 X3 X4 X5 X6 X7
  have Xl := hX.lt
  clear hX
  go_enter Tryz.func63, Tryz.ntmps63
  go_wp2_with fail
  refine (CK.out _).mono ?_
  rintro e w1 ⟨rfl, b1⟩
  have hX := HX.out.later b1
  have HB1 := Lib.hid (HB.out.trans (b1.mono HB.out.size))
  have HX1 := Lib.hid hX
  clear X0 X1 X2 X3 X4 X5 X6 X7 Xl b1
  have Y0 := hX.cell 0
  have Y1 := hX.cell 1
  have Y2 := hX.cell 2
  have Y3 := hX.cell 3
  have Y4 := hX.cell 4
  have Y5 := hX.cell 5
  have Y6 := hX.cell 6
  have Y7 := hX.cell 7
  simp only [List.getElem?_toArray, List.getElem?_cons_zero, List.getElem?_cons_succ] at Y0 Y1 Y2 Y3 Y4 Y5 Y6 Y7
  have Yl := hX.lt
  clear hX
  have u0 : IntKind.u16.wrap (kind : Int) = kind := wrap_u16 kind k1
  have u1 : IntKind.u16.wrap (size : Int) = size := wrap_u16 size (by omega)
  have u2 : (size : Int) / 65536 = 0 := by omega
  have u3 : IntKind.u16.wrap 0 = 0 := by decide
  go_wp2_with fail
  go_region_held3 (fun W => W.cell? ⟨w.heap.size, 0, none⟩ = some (.int .u8 kind) ∧ W.cell? ⟨w.heap.size, 1, none⟩ = some (.int .u16 links) ∧ W.cell? ⟨w.heap.size, 2, none⟩ = some (.int .u32 size) ∧ W.cell? ⟨w.heap.size, 7, none⟩ = some (.int .u16 ind) ∧ KeepP w1 w.heap.size #[.int .u8 kind, .int .u16 links, .int .u32 size, .int .u16 d0, .int .u16 d1, .int .u16 d2, .int .u16 d3, .int .u16 ind] W)
    (first | exact KeepP.later (by assumption) (by assumption) | exact KeepP.grown (by assumption) (by assumption) | exact KeepP.to (by assumption) ((Below.refl _ _).alloc (Nat.le_refl _) _) | exact ⟨Y0, Y1, Y2, Y7, Below.refl _ _, HX1.out⟩ | exact ⟨Y0, Y1, Y2, Y7, (Below.refl _ _).drew, HX1.out.drew⟩)
    (first
      | (refine step_append_grows (by rfl) (.tmp 25) (.tmp 28) 87 (by rfl) 39 i0 (.int .u16 0) 1 2 Tryz.underlying87 hi hz0 hz1 hz2 rfl (by decide) (some ⟨w.heap.size, 3, none⟩) 4 4 [.int .u16 d0, .int .u16 d1, .int .u16 d2, .int .u16 d3] (by rfl) (by simp) rfl (dirs_cells (by assumption)) _ 1 1 [.int .u16 ind] (by rfl) rfl (by first | exact World.news_of_block (SBox.at_ (by simp)) | exact World.news_of_block (SBox.alloc (SBox.at_ (by simp)) _)) (fun u hu => by simp at hu; subst hu; rfl) (by decide) (by unfold maxLen; omega) (by omega) ?_; intro v2 w2 hown2 hg2; obtain ⟨g2, cap2, rfl, hlt2⟩ := own_form hown2 (by decide))
      | (refine step_append_grows (by rfl) (.tmp 23) (.tmp 29) 87 (by rfl) 39 i0 (.int .u16 0) 1 2 Tryz.underlying87 hi hz0 hz1 hz2 rfl (by decide) (some ⟨_, 0, none⟩) 4 4 [.int .u16 kind, .int .u16 links, .int .u16 size, .int .u16 0] (by rfl) (by simp) rfl (by first | exact old_of_box (SBox.at_ (by simp)) | exact old_of_box (SBox.drew (SBox.at_ (by simp))) | exact old_of_box (SBox.kept (SBox.drew (SBox.at_ (by simp))) hg2 (by simp)) | exact old_of_box (SBox.kept (SBox.drew (SBox.alloc (SBox.at_ (by simp)) _)) hg2 (by simp)) | exact old_of_box (SBox.kept (SBox.at_ (by simp)) hg2 (by simp)) | exact old_of_box (SBox.kept (SBox.alloc (SBox.at_ (by simp)) _) hg2 (by simp))) _ 5 cap2 [.int .u16 d0, .int .u16 d1, .int .u16 d2, .int .u16 d3, .int .u16 ind] (by rfl) rfl (by first | exact hown2.cells (g := g2) rfl | exact (hown2.alloc _).cells (g := g2) rfl) (fun u hu => by simp at hu; rcases hu with rfl | rfl | rfl | rfl | rfl <;> rfl) (by decide) (by unfold maxLen; omega) (by omega) ?_; intro v3 w3 hown3 hg3; obtain ⟨g3, cap3, rfl, hlt3⟩ := own_form hown3 (by decide))
      | (go_at_call 108; refine (PT.out g3 0 cap3 _ hlt3 (cells_of hown3 HN.out)).mono ?_; rintro e w4 ⟨rfl, b4⟩))
  all_goals
    rename_i hS
    have HB5 := Lib.hid (HB1.out.trans (hS.2.2.2.2.1.mono HB1.out.size))
    clear hS
    go_wp2_with fail
    refine (PD.out _).mono ?_
    rintro e w5 ⟨rfl, b5⟩
    have HB6 := Lib.hid (HB5.out.trans (b5.mono HB5.out.size))
    clear b5
    go_wp2
    go_ret2
    exact ⟨by rw [HE.out]; rfl, HB6.out⟩
end Go.Proofs.YtpnfkilfgdnogaaGreatDoor.Ino
end
section
namespace Go.Proofs.YtpnfkilfgdnogaaGreatDoor.Ino
set_option linter.unusedVariables false
set_option linter.unusedSimpArgs false
open Go.RowKit Go.Shelf Go.Maps Oct Geo
def fillI (W : World) (n : Nat) (v0 v1 v2 v3 v4 v5 v6 v7 : Value) : World := (((((((W.setCell ⟨n, 0, none⟩ v0).setCell ⟨n, 1, none⟩ v1).setCell ⟨n, 2, none⟩ v2).setCell ⟨n, 3, none⟩ v3).setCell ⟨n, 4, none⟩ v4).setCell ⟨n, 5, none⟩ v5).setCell ⟨n, 6, none⟩ v6).setCell ⟨n, 7, none⟩ v7
theorem fill8 {W : World} {n : Nat} {t : TypeId} {a0 a1 a2 a3 a4 a5 a6 a7 : Value} (h : SBox W n t #[a0, a1, a2, a3, a4, a5, a6, a7]) (v0 v1 v2 v3 v4 v5 v6 v7 : Value) : SBox (fillI W n v0 v1 v2 v3 v4 v5 v6 v7) n t #[v0, v1, v2, v3, v4, v5, v6, v7] := by
  have h0 := (((((((h.set 0 v0).set 1 v1).set 2 v2).set 3 v3).set 4 v4).set 5 v5).set 6 v6).set 7 v7
  simp only [List.setIfInBounds_toArray, List.set_cons_zero, List.set_cons_succ] at h0
  exact h0
theorem fillI_other {W : World} {n g : Nat} {t : TypeId} {cs : Array Value} {v0 v1 v2 v3 v4 v5 v6 v7 : Value} (h : SBox W g t cs) (hne : n ≠ g) : SBox (fillI W n v0 v1 v2 v3 v4 v5 v6 v7) g t cs :=
  (((((((h.other v0 hne.symm).other v1 hne.symm).other v2 hne.symm).other v3 hne.symm).other v4 hne.symm).other v5 hne.symm).other v6 hne.symm).other v7 hne.symm
theorem fillI_below {w W : World} {b n : Nat} {v0 v1 v2 v3 v4 v5 v6 v7 : Value} (h : Below b w W) (hn : b ≤ n) : Below b w (fillI W n v0 v1 v2 v3 v4 v5 v6 v7) := by
  unfold fillI
  repeat (refine Below.setCell ?_ hn _)
  exact h
theorem own_form2 {W : World} {base n : Nat} {t : TypeId} {v : Value} {xs : List Value} (h : W.ownsRow base t 1 v n xs) (hn : 0 < n) : ∃ g cap, v = .slice (some ⟨g, 0, none⟩) n cap ∧ g < W.heap.size ∧ n ≤ cap := by
  rcases h.2 with ⟨rfl, h0⟩ | ⟨g', cap', cur, rfl, hb, hg, hnc, hcm, hcs, ht⟩
  · omega
  · exact ⟨g', cap', rfl, (Array.getElem?_eq_some_iff.1 hg).1, hnc⟩
set_option maxRecDepth 100000 in
set_option maxHeartbeats 4000000 in
theorem get_ino (x : InoT) (w : World) (hx : x.Ok) : Calls Tryz.prog 58 #[.string (inoB x)] w fun e w' => e = .returned (.tuple #[x.val, .int .i64 0]) ∧ Below w.heap.size w w' := by
  have GO := Lib.hid (fun W => got_any (x.nums ++ List.replicate 7 0) W (by simp [InoT.nums]) (fun v hv => by
    rcases List.mem_append.1 hv with h | h
    · exact Ok.nums_lt hx v h
    · have := List.eq_of_mem_replicate h; omega))
  have PU := Lib.hid (fun W => put_ino x W hx)
  have hsz := Ok.size_lt hx
  have hnl := Ok.nums_lt hx
  have hi32 := inoB_size x
  have ex : (inoB x).extract 0 32 = B (putL2 (x.nums ++ List.replicate 7 0)) := by
    rw [← hi32, ByteArray.extract_zero_size]
    unfold inoB
    rw [nums_row]
  have hk8 : x.kind < 256 := by rcases hx with rfl | h; exact (by decide : (0 : Nat) < 256); have := h.kind; omega
  clear hx
  generalize inoB x = s at *
  generalize B (putL2 (x.nums ++ List.replicate 7 0)) = s32 at *
  obtain ⟨kind, links, size, d0, d1, d2, d3, ind⟩ := x
  simp only at hsz
  have k1 : kind < 65536 := hnl kind (by simp [InoT.nums])
  have k8 : IntKind.u8.wrap (kind : Int) = kind := by
    have : kind < 256 := hk8
    simp [IntKind.wrap, IntKind.bits, IntKind.signed]
    omega
  have or0 : bits .or .u32 (size : Int) 0 = size := (u32_or_nat size 0 (by omega) (by omega)).trans (by simp)
  clear hnl hk8
  unfold InoT.val at *
  have HB := Lib.hid ((Below.refl _ w).alloc (Nat.le_refl _) (.cells #[.int .u8 0, .int .u16 0, .int .u32 0, .int .u16 0, .int .u16 0, .int .u16 0, .int .u16 0, .int .u16 0] 43))
  have HX := Lib.hid (SBox.new w 43 #[.int .u8 0, .int .u16 0, .int .u32 0, .int .u16 0, .int .u16 0, .int .u16 0, .int .u16 0, .int .u16 0])
  go_enter Tryz.func58, Tryz.ntmps58
  go_wp2_with fail
  refine (GO.out _).mono ?_
  rintro e w1 ⟨v, rfl, hown, b1⟩
  have hown : w1.ownsRow _ 39 1 v 16 [u16V kind, u16V links, u16V (size % 65536), u16V (size / 65536), u16V d0, u16V d1, u16V d2, u16V d3, u16V ind, u16V 0, u16V 0, u16V 0, u16V 0, u16V 0, u16V 0, u16V 0] := hown
  rw [show size % 65536 = size by omega, show size / 65536 = 0 by omega] at hown
  obtain ⟨g, cap, rfl, hgl, hcap⟩ := own_form2 hown (by decide)
  obtain ⟨cur, hcur, hget, hge⟩ := own_box hown
  have C0 : w1.cell? ⟨g, 0, none⟩ = some (.int .u16 kind) := (hcur.cell 0).trans (hget 0 _ rfl)
  have C1 : w1.cell? ⟨g, 1, none⟩ = some (.int .u16 links) := (hcur.cell 1).trans (hget 1 _ rfl)
  have C2 : w1.cell? ⟨g, 2, none⟩ = some (.int .u16 size) := (hcur.cell 2).trans (hget 2 _ rfl)
  have C3 : w1.cell? ⟨g, 3, none⟩ = some (.int .u16 0) := (hcur.cell 3).trans (hget 3 _ rfl)
  have C8 : w1.cell? ⟨g, 8, none⟩ = some (.int .u16 ind) := (hcur.cell 8).trans (hget 8 _ rfl)
  have HCUR := Lib.hid hcur
  have HGET := Lib.hid hget
  have hX := HX.out.later b1
  have HX1 := Lib.hid hX
  have X0 := hX.cell 0
  have X1 := hX.cell 1
  have X2 := hX.cell 2
  have X3 := hX.cell 3
  have X4 := hX.cell 4
  have X5 := hX.cell 5
  have X6 := hX.cell 6
  have X7 := hX.cell 7
  simp only [List.getElem?_toArray, List.getElem?_cons_zero, List.getElem?_cons_succ] at X0 X1 X2 X3 X4 X5 X6 X7
  have Xl := hX.lt
  have F0 := hX.free 0
  have F1 := hX.free 1
  have F2 := hX.free 2
  have F3 := hX.free 3
  have F4 := hX.free 4
  have F5 := hX.free 5
  have F6 := hX.free 6
  have F7 := hX.free 7
  have HB1 := Lib.hid (HB.out.trans (b1.mono HB.out.size))
  have hgw : w.heap.size ≠ g := fun e => by
    have h1 : SBox w1 g 39 cur := hcur
    rw [← e] at h1
    injection (Option.some.inj ((show w1.heap[w.heap.size]? = _ from h1).symm.trans hX)) with _ e3
    exact absurd e3 (by decide)
  clear hX hcur hget hown b1 hge
  have u0 : IntKind.u8.wrap (kind : Int) = kind := k8
  have u1 : IntKind.u32.wrap (size : Int) = size := by simp [IntKind.wrap, IntKind.bits, IntKind.signed]; omega
  have u2 : IntKind.u32.wrap 0 = 0 := by decide
  have ub : bits .or .u32 (size : Int) 0 = size := or0
  go_wp2_with fail
  refine wp_region_still_tail 21 (by kernel_rfl) (by kernel_rfl) ?_
  simp only [List.take_succ_cons, List.take_zero, List.drop_succ_cons, List.drop_zero]
  change wpStill _ _ w1.drew _ _ _
  have D0 : w1.drew.cell? ⟨g, 0, none⟩ = some (.int .u16 kind) := C0
  have D1 : w1.drew.cell? ⟨g, 1, none⟩ = some (.int .u16 links) := C1
  have D2 : w1.drew.cell? ⟨g, 2, none⟩ = some (.int .u16 size) := C2
  have D3 : w1.drew.cell? ⟨g, 3, none⟩ = some (.int .u16 0) := C3
  have D8 : w1.drew.cell? ⟨g, 8, none⟩ = some (.int .u16 ind) := C8
  generalize w1.drew = W3 at *
  repeat still_step
  refine wpStill_nil ?_
  change wpList _ _ _ _ _ w1.drew
  have HX4 := Lib.hid HX1.out.drew
  have HB4 := Lib.hid HB1.out.drew
  have HC4 := Lib.hid HCUR.out.drew
  have Xd : w.heap.size < w1.drew.heap.size := Xl
  clear X0 X1 X2 X3 X4 X5 X6 X7 Xl F0 F1 F2 F3 F4 F5 F6 F7 C0 C1 C2 C3 C8 D0 D1 D2 D3 D8 HX1 HB1 HCUR u0 u1 u2 ub
  generalize w1.drew = W4 at *
  have hX := HX4.out
  have X0 := hX.cell 0
  have X1 := hX.cell 1
  have X2 := hX.cell 2
  have X3 := hX.cell 3
  have X4 := hX.cell 4
  have X5 := hX.cell 5
  have X6 := hX.cell 6
  have X7 := hX.cell 7
  simp only [List.getElem?_toArray, List.getElem?_cons_zero, List.getElem?_cons_succ] at X0 X1 X2 X3 X4 X5 X6 X7
  have Xl := hX.lt
  have F0 := hX.free 0
  have F1 := hX.free 1
  have F2 := hX.free 2
  have F3 := hX.free 3
  have F4 := hX.free 4
  have F5 := hX.free 5
  have F6 := hX.free 6
  have F7 := hX.free 7
  clear hX
  go_wp2_with fail
  have h5 := fill8 HX4.out (.int .u8 kind) (.int .u16 links) (.int .u32 size) (.int .u16 0) (.int .u16 0) (.int .u16 0) (.int .u16 0) (.int .u16 ind)
  have hc5 : SBox (fillI W4 w.heap.size (.int .u8 kind) (.int .u16 links) (.int .u32 size) (.int .u16 0) (.int .u16 0) (.int .u16 0) (.int .u16 0) (.int .u16 ind)) g 39 cur := fillI_other HC4.out hgw
  have hb5 : Below w.heap.size w (fillI W4 w.heap.size (.int .u8 kind) (.int .u16 links) (.int .u32 size) (.int .u16 0) (.int .u16 0) (.int .u16 0) (.int .u16 0) (.int .u16 ind)) := fillI_below HB4.out (Nat.le_refl _)
  unfold fillI at h5 hc5 hb5
  clear X0 X1 X2 X3 X4 X5 X6 X7 Xl F0 F1 F2 F3 F4 F5 F6 F7 Xd HX4 HB4 HC4
  have hl5 := h5.lt
  have hg5 := hc5.lt
  generalize ((((((((W4.setCell ⟨w.heap.size, 0, none⟩ (.int .u8 kind)).setCell ⟨w.heap.size, 1, none⟩ (.int .u16 links)).setCell ⟨w.heap.size, 2, none⟩ (.int .u32 size)).setCell ⟨w.heap.size, 3, none⟩ (.int .u16 0)).setCell ⟨w.heap.size, 4, none⟩ (.int .u16 0)).setCell ⟨w.heap.size, 5, none⟩ (.int .u16 0)).setCell ⟨w.heap.size, 6, none⟩ (.int .u16 0)).setCell ⟨w.heap.size, 7, none⟩ (.int .u16 ind)) = W5 at *
  have HX5 := Lib.hid h5.drew
  have HC5 := Lib.hid hc5.drew
  have HB5 := Lib.hid hb5.drew
  clear h5 hc5 hb5
  have p4 : (4 : Int) ≤ cap := by omega
  have p8 : (8 : Int) ≤ cap := by omega
  have n4 : 4 ≤ cap := by omega
  have n8 : 8 ≤ cap := by omega
  have n44 : ¬ cap = 4 := by omega
  refine wp_region_still_tail 4 (by kernel_rfl) (by kernel_rfl) ?_
  simp only [List.take_succ_cons, List.take_zero, List.drop_succ_cons, List.drop_zero]
  repeat still_step
  refine wpStill_nil ?_
  change wpList _ _ _ _ _ W5.drew
  have hds : ∀ j u, [Value.int .u16 d0, .int .u16 d1, .int .u16 d2, .int .u16 d3][j]? = some u → W5.drew.cell? (Addr.add ⟨g, 4, none⟩ j) = some u := fun j u hu => by
    match j, hu with
    | 0, hu => exact (HC5.out.cell 4).trans (HGET.out 4 _ hu)
    | 1, hu => exact (HC5.out.cell 5).trans (HGET.out 5 _ hu)
    | 2, hu => exact (HC5.out.cell 6).trans (HGET.out 6 _ hu)
    | 3, hu => exact (HC5.out.cell 7).trans (HGET.out 7 _ hu)
  refine wpList_copy_splice rfl (.tmp 36) (.tmp 38) 87 87 rfl 39 Tryz.underlying87 (by kernel_rfl) (some ⟨w.heap.size, 3, none⟩) (some ⟨g, 4, none⟩) 4 4 4 (cap - 4) rfl rfl w.heap.size 3 [.int .u8 kind, .int .u16 links, .int .u32 size, .int .u16 0, .int .u16 0, .int .u16 0, .int .u16 0, .int .u16 ind] 43 HX5.out [.int .u16 d0, .int .u16 d1, .int .u16 d2, .int .u16 d3] rfl (fun _ => ⟨rfl, _, rfl, hds⟩) (by simp) (fun u hu => by simp at hu; rcases hu with rfl | rfl | rfl | rfl <;> rfl) w.heap.size w HB5.out (Nat.le_refl _) ?_
  intro w6 hg6 hb6
  have hX : SBox w6 w.heap.size 43 #[.int .u8 kind, .int .u16 links, .int .u32 size, .int .u16 d0, .int .u16 d1, .int .u16 d2, .int .u16 d3, .int .u16 ind] := hg6.out
  have HX6 := Lib.hid hX
  have HB6 := Lib.hid hb6
  have X0 := hX.cell 0
  have X1 := hX.cell 1
  have X2 := hX.cell 2
  have X3 := hX.cell 3
  have X4 := hX.cell 4
  have X5 := hX.cell 5
  have X6 := hX.cell 6
  have X7 := hX.cell 7
  simp only [List.getElem?_toArray, List.getElem?_cons_zero, List.getElem?_cons_succ] at X0 X1 X2 X3 X4 X5 X6 X7
  have Xl := hX.lt
  have F0 := hX.free 0
  have F1 := hX.free 1
  have F2 := hX.free 2
  have F3 := hX.free 3
  have F4 := hX.free 4
  have F5 := hX.free 5
  have F6 := hX.free 6
  have F7 := hX.free 7
  clear hX hg6 hb6 hds
  go_wp2_with fail
  refine (PU.out _).mono ?_
  rintro e w7 ⟨rfl, b7⟩
  have hX := HX6.out.later b7
  have HB7 := Lib.hid (HB6.out.trans (b7.mono HB6.out.size))
  have HX7 := Lib.hid hX
  clear X0 X1 X2 X3 X4 X5 X6 X7 Xl F0 F1 F2 F3 F4 F5 F6 F7 b7
  have Y0 := hX.cell 0
  have Y1 := hX.cell 1
  have Y2 := hX.cell 2
  have Y3 := hX.cell 3
  have Y4 := hX.cell 4
  have Y5 := hX.cell 5
  have Y6 := hX.cell 6
  have Y7 := hX.cell 7
  simp only [List.getElem?_toArray, List.getElem?_cons_zero, List.getElem?_cons_succ] at Y0 Y1 Y2 Y3 Y4 Y5 Y6 Y7
  have Yl := hX.lt
  have G0 := hX.free 0
  have G1 := hX.free 1
  have G2 := hX.free 2
  have G3 := hX.free 3
  have G4 := hX.free 4
  have G5 := hX.free 5
  have G6 := hX.free 6
  have G7 := hX.free 7
  clear hX
  go_wp2
  have h9 := fill8 HX7.out (.int .u8 kind) (.int .u16 links) (.int .u32 size) (.int .u16 d0) (.int .u16 d1) (.int .u16 d2) (.int .u16 d3) (.int .u16 ind)
  have hb9 : Below w.heap.size w (fillI w7 w.heap.size (.int .u8 kind) (.int .u16 links) (.int .u32 size) (.int .u16 d0) (.int .u16 d1) (.int .u16 d2) (.int .u16 d3) (.int .u16 ind)) := fillI_below HB7.out (Nat.le_refl _)
  unfold fillI at h9 hb9
  have k0 := h9.cell 0
  have k1 := h9.cell 1
  have k2 := h9.cell 2
  have k3 := h9.cell 3
  have k4 := h9.cell 4
  have k5 := h9.cell 5
  have k6 := h9.cell 6
  have k7 := h9.cell 7
  simp only [List.getElem?_toArray, List.getElem?_cons_zero, List.getElem?_cons_succ] at k0 k1 k2 k3 k4 k5 k6 k7
  exact bodyPost_ret (v := .tuple #[.agg #[.int .u8 kind, .int .u16 links, .int .u32 size, .int .u16 d0, .int .u16 d1, .int .u16 d2, .int .u16 d3, .int .u16 ind], .int .i64 0]) (by simp [results, Tryz.results58, go_sem, k0, k1, k2, k3, k4, k5, k6, k7]) rfl ⟨rfl, hb9⟩
end Go.Proofs.YtpnfkilfgdnogaaGreatDoor.Ino
end
