/- Layer 7 (inode): Check: which inodes may be. -/
import Derived.Test.YtpnfkilfgdnogaaGreatDoorUMaps
import Derived.Test.YtpnfkilfgdnogaaGreatDoorInoGot
import Derived.Deep.RegionHeld3
import Derived.Deep.RegionLawGrows
import Derived.DeepKeys
import Derived.Outline
namespace Go.Proofs.YtpnfkilfgdnogaaGreatDoor.Ino
set_option linter.unusedVariables false
set_option linter.unusedSimpArgs false
open Go.RowKit Go.Shelf Go.Maps Oct Geo
theorem wf_u16 {n : Nat} (h : n < 65536) : (Lit.int .u16 (n : Int)).wf = true := by
  simp [Lit.wf, IntKind.min, IntKind.max, IntKind.bits, IntKind.signed]
  omega
theorem lits4 {a b c d : Nat} (ha : a < 65536) (hb : b < 65536) (hc : c < 65536) (hd : d < 65536) : Tryz.prog.keyLits 3 41 [.int .u16 a, .int .u16 b, .int .u16 c, .int .u16 d] = some [.int .u16 a, .int .u16 b, .int .u16 c, .int .u16 d] := by
  have e1 : Tryz.prog.cellsOf 41 = 4 := by kernel_rfl
  have e2 : Tryz.prog.cellsOf 39 = 1 := by kernel_rfl
  simp [Program.keyLits, Tryz.underlying41, Tryz.underlying39, e1, e2, wf_u16 ha, wf_u16 hb, wf_u16 hc, wf_u16 hd, List.range_succ]
set_option maxRecDepth 100000 in
theorem run_eqD {a b c d : Nat} (ha : a < 65536) (hb : b < 65536) (hc : c < 65536) (hd : d < 65536) (w : World) : (binOp .eql 41 (.agg #[.int .u16 a, .int .u16 b, .int .u16 c, .int .u16 d]) (.agg #[.int .u16 0, .int .u16 0, .int .u16 0, .int .u16 0])).run Tryz.prog w = .ok (.bool (decide (a = 0 ∧ b = 0 ∧ c = 0 ∧ d = 0))) w := by
  rw [run_eql_struct]
  obtain ⟨r, hr, hiff⟩ := run_equalIn_deep (P := Tryz.prog) 9998 2 41 (by kernel_rfl) w 3 3 (.agg #[.int .u16 a, .int .u16 b, .int .u16 c, .int .u16 d]) (.agg #[.int .u16 (0 : Nat), .int .u16 (0 : Nat), .int .u16 (0 : Nat), .int .u16 (0 : Nat)]) _ _ (by kernel_rfl) (by kernel_rfl) (lits4 ha hb hc hd) (lits4 (by omega) (by omega) (by omega) (by omega))
  have e : r = decide (a = 0 ∧ b = 0 ∧ c = 0 ∧ d = 0) := by
    rw [Bool.eq_iff_iff, hiff]
    simp
  rw [← e]
  exact congrArg (fun z : Result Bool => z.andThen fun b w' => Result.ok (Value.bool b) w') hr
/-! ### The blocks that were met: a map -/
def intR : ElemR := fun v => match v with
  | .int .i64 n => some (.lit (.int .i64 n), [])
  | _ => none
theorem intR_mk (n : Int) : intR (.int .i64 n) = some (.lit (.int .i64 n), []) := rfl
theorem intR_inv {v : Value} {n : Int} {ps : List MemPlace} (h : intR v = some (.lit (.int .i64 n), ps)) : v = .int .i64 n := by
  unfold intR at h
  split at h
  · simp only [Option.some.injEq, Prod.mk.injEq, DataW.lit.injEq, Lit.int.injEq, true_and] at h
    rw [h.1]
  · cases h
def cntN (l : List Nat) (x : Int) : Nat := l.countP (fun v : Nat => decide ((v : Int) = x))
def cntF (l : List Nat) : Int → Option (DataW Unit) := fun x => if cntN l x = 0 then none else some (.lit (.int .i64 (cntN l x)))
theorem cntF_get (l : List Nat) (x : Int) : (cntF l x).getD (.lit (.int .i64 0)) = .lit (.int .i64 (cntN l x)) := by
  unfold cntF
  by_cases h : cntN l x = 0
  · rw [if_pos h, h]; rfl
  · rw [if_neg h]; rfl
theorem cntN_snoc (l : List Nat) (v : Nat) (x : Int) : cntN (l ++ [v]) x = cntN l x + if x = v then 1 else 0 := by
  unfold cntN
  rw [List.countP_append]
  by_cases h : x = v
  · subst h; simp
  · have h2 : ¬ (v : Int) = x := fun e => h e.symm
    simp [h, h2]
theorem cntF_snoc (l : List Nat) (v : Nat) : cntF (l ++ [v]) = putU (cntF l) v (.lit (.int .i64 (cntN l v + 1 : Nat))) := by
  funext x
  unfold cntF putU
  rw [cntN_snoc]
  by_cases h : x = v
  · subst h
    simp
  · rw [if_neg h, if_neg h, Nat.add_zero]
theorem cntN_none {l : List Nat} {v : Nat} (h : ∀ j, j < l.length → l[j]? ≠ some v) : cntN l v = 0 := by
  unfold cntN
  rw [List.countP_eq_zero]
  intro a ha
  obtain ⟨j, hj, rfl⟩ := List.mem_iff_getElem.1 ha
  have := h j hj
  rw [List.getElem?_eq_getElem hj] at this
  intro e
  exact this (by rw [show l[j] = v by have e2 := of_decide_eq_true e; omega])
theorem cntN_le (l : List Nat) (x : Int) : cntN l x ≤ l.length := List.countP_le_length
theorem under_met : Tryz.prog.underlying 260 = some (.map 39 3) := by kernel_rfl
theorem zero_int (w : World) : (zeroValue 3).run Tryz.prog w = .ok (.int .i64 0) w := by kernel_rfl
theorem met_look {W : World} {b nn : Nat} {l : List Nat} (h : UMap W intR b nn (cntF l)) (v : Nat) (hv : v < 65536) :
    (Instr.lookup 260 (.map (some b)) (.int .u16 (v : Int)) false).run Tryz.prog W = .ok (.int .i64 (cntN l v)) W := by
  obtain ⟨y, ps, hrun, hy⟩ := h.look under_met (zero_int W) (intR_mk 0) v (wf_u16 hv)
  rw [cntF_get] at hy
  rw [hrun, intR_inv hy]
theorem met_put {W : World} {b nn : Nat} {l : List Nat} (h : UMap W intR b nn (cntF l)) (hn : nn < maxLen) (v : Nat) (hv : v < 65536) :
    ∃ W', (Instr.mapUpdate 260 (.map (some b)) (.int .u16 (v : Int)) (.int .i64 (cntN l v + 1 : Nat))).run Tryz.prog W = .ok () W' ∧ UMap W' intR b (nn + 1) (cntF (l ++ [v])) ∧ W.mapTurned W' b := by
  obtain ⟨W', hrun, r1, r2⟩ := h.put under_met hn v (wf_u16 hv) (intR_mk (cntN l v + 1 : Nat))
  rw [← cntF_snoc] at r1
  exact ⟨W', hrun, r1, r2⟩
def KeepX (V : World) (b : Nat) (cs : Array Value) (W : World) : Prop := Below V.heap.size V W ∧ SBox W b 43 cs
theorem KeepX.to {V W W' : World} {b : Nat} {cs : Array Value} {v : Value} (h : W.cell? ⟨b, 7, none⟩ = some v ∧ KeepX V b cs W) (hb : Below W.heap.size W W') : W'.cell? ⟨b, 7, none⟩ = some v ∧ KeepX V b cs W' :=
  ⟨(hb.cell (p := ⟨b, 7, none⟩) h.2.2.lt).trans h.1, h.2.1.trans (hb.mono h.2.1.size), h.2.2.later hb⟩
theorem own_form {W : World} {base size n : Nat} {t : TypeId} {v : Value} {xs : List Value} (h : W.ownsRow base t size v n xs) (hn : 0 < n) : ∃ g cap, v = .slice (some ⟨g, 0, none⟩) n cap ∧ g < W.heap.size := by
  obtain ⟨g, cap, hv, _, hlt⟩ := h.form hn
  exact ⟨g, cap, hv, hlt⟩
theorem own_box {W : World} {base n g cap : Nat} {t : TypeId} {xs : List Value} (h : W.ownsRow base t 1 (.slice (some ⟨g, 0, none⟩) n cap) n xs) : ∃ cur : Array Value, SBox W g t cur ∧ (∀ (j : Nat) (u : Value), xs[j]? = some u → cur[j]? = some u) ∧ base ≤ g := by
  rcases h.2 with ⟨hv, _⟩ | ⟨g', cap', cur, hv, hb, hg, hnc, hcm, hcs, ht⟩
  · cases hv
  · cases hv
    refine ⟨cur, hg, fun j u hu => ?_, hb⟩
    have h2 : (cur.toList.take (n * 1))[j]? = some u := by rw [ht]; exact hu
    rw [List.getElem?_take] at h2
    split at h2
    · simpa using h2
    · cases h2
theorem cntF_nil : cntF [] = fun _ => none := by
  funext x
  rfl
theorem grown_below {W W' : World} (h : W.grownBy W' none) : Below W.heap.size W W' := (Below.refl _ _).grown h (Nat.le_refl _) (fun g e => by cases e)
theorem dirs_cellsX {V W : World} {b : Nat} {k0 k1 k2 d0 d1 d2 d3 i : Value} {A0 : Prop} (h : A0 ∧ KeepX V b #[k0, k1, k2, d0, d1, d2, d3, i] W) : ∀ p, some (⟨b, 3, none⟩ : Addr) = some p → ∀ j u, [d0, d1, d2, d3][j]? = some u → W.cell? (p.add j) = some u := fun p e j u hu => by
  cases e
  have hc := h.2.2
  match j, hu with
  | 0, hu => exact (hc.cell 3).trans hu
  | 1, hu => exact (hc.cell 4).trans hu
  | 2, hu => exact (hc.cell 5).trans hu
  | 3, hu => exact (hc.cell 6).trans hu
set_option maxRecDepth 100000 in
theorem check_none (w : World) : Calls Tryz.prog 107 #[noIno.val] w fun e w' => e = .returned (.int .i64 0) ∧ Below w.heap.size w w' := by
  unfold InoT.val noIno
  have hX := SBox.new w 43 (InoT.cells noIno)
  have HB := Lib.hid ((Below.refl _ w).alloc (Nat.le_refl _) (.cells (InoT.cells noIno) 43))
  unfold InoT.cells noIno at hX HB
  simp only at hX
  have X0 := hX.cell 0
  have X1 := hX.cell 1
  have X2 := hX.cell 2
  have X3 := hX.cell 3
  have X4 := hX.cell 4
  have X5 := hX.cell 5
  have X6 := hX.cell 6
  have X7 := hX.cell 7
  simp only [List.getElem?_toArray, List.getElem?_cons_zero, List.getElem?_cons_succ] at X0 X1 X2 X3 X4 X5 X6 X7
  have Xl := hX.lt
  clear hX
  have EQ : ∀ W, (binOp .eql 43 (.agg #[.int .u8 0, .int .u16 0, .int .u32 0, .int .u16 0, .int .u16 0, .int .u16 0, .int .u16 0, .int .u16 0]) (.agg #[.int .u8 0, .int .u16 0, .int .u32 0, .int .u16 0, .int .u16 0, .int .u16 0, .int .u16 0, .int .u16 0])).run Tryz.prog W = .ok (.bool true) W := fun W => by kernel_rfl
  go_enter Tryz.func107, Tryz.ntmps107
  go_wp2
  go_ret
  exact ⟨rfl, HB.out⟩
set_option maxRecDepth 100000 in
set_option maxHeartbeats 4000000 in
theorem check_used (x : InoT) (w : World) (hx : x.Used) : Calls Tryz.prog 107 #[x.val] w fun e w' => e = .returned (.int .i64 0) ∧ Below w.heap.size w w' := by
  obtain ⟨i0, hi, hz0, hz1, hz2⟩ := info_parts info_u16
  obtain ⟨hk, hl, hz, hd, hr, hlt⟩ := hx
  obtain ⟨kind, links, size, d0, d1, d2, d3, ind⟩ := x
  simp only at hk hl hz hd hr hlt
  have PG := Lib.hid (fun W => pages_any size W (by omega))
  have EQ := fun W => run_eqD (hlt d0 (by simp [InoT.row])) (hlt d1 (by simp [InoT.row])) (hlt d2 (by simp [InoT.row])) (hlt d3 (by simp [InoT.row])) W
  have FD : ∀ W, (Instr.field 43 (.agg #[.int .u8 0, .int .u16 0, .int .u32 0, .int .u16 0, .int .u16 0, .int .u16 0, .int .u16 0, .int .u16 0]) 3).run Tryz.prog W = .ok (.agg #[.int .u16 0, .int .u16 0, .int .u16 0, .int .u16 0]) W := fun W => by kernel_rfl
  unfold InoT.val
  have q0 : decide ((200 : Int) < (links : Int)) = false := by simp; omega
  have q1 : decide ((2304 : Int) < (size : Int)) = false := by simp; omega
  have q2 : decide (200 < links) = false := by simp; omega
  have q3 : decide (2304 < size) = false := by simp; omega
  have HB := Lib.hid ((Below.refl _ w).alloc (Nat.le_refl _) (.cells (InoT.cells ⟨kind, links, size, d0, d1, d2, d3, ind⟩) 43))
  have hX := SBox.new w 43 (InoT.cells ⟨kind, links, size, d0, d1, d2, d3, ind⟩)
  unfold InoT.cells at hX HB
  have HX := Lib.hid hX
  simp only at hX
  have X0 := hX.cell 0
  have X1 := hX.cell 1
  have X2 := hX.cell 2
  have X3 := hX.cell 3
  have X4 := hX.cell 4
  have X5 := hX.cell 5
  have X6 := hX.cell 6
  have X7 := hX.cell 7
  simp only [List.getElem?_toArray, List.getElem?_cons_zero, List.getElem?_cons_succ] at X0 X1 X2 X3 X4 X5 X6 X7
  have Xl := hX.lt
  clear hX
  have HD := Lib.hid hd
  have HR := Lib.hid hr
  have HLT := Lib.hid hlt
  clear hd hr hlt
  generalize hpg : pagesN size = pg at *
  have hmm := @run_makeMap Tryz.prog
  have NB := Lib.hid (fun (W : World) (v : Value) (h : W.heap.size = w.heap.size + 2) => (by rw [← h]; exact SBox.new W _ _ : SBox (W.alloc (.cells #[v] 39)) (w.heap.size + 2) 39 #[v]))
  have f0 : ((kind : Int) == 0) = false := by rcases hk with rfl | rfl <;> rfl
  have hkk : (((kind : Int) != 1) = false ∧ ((kind : Int) == 2) = false) ∨ (((kind : Int) != 1) = true ∧ ((kind : Int) != 2) = false ∧ ((kind : Int) == 2) = true ∧ (size : Int) % 64 = 0) := by
    rcases hk with rfl | rfl
    · exact .inl ⟨rfl, rfl⟩
    · have h64 := HD.out rfl
      exact .inr ⟨rfl, rfl, rfl, by omega⟩
  have HB2 := Lib.hid (HB.out.alloc HB.out.size (.map #[] 0))
  have HM := Lib.hid (UMap.new (w.alloc (.cells #[.int .u8 kind, .int .u16 links, .int .u32 size, .int .u16 d0, .int .u16 d1, .int .u16 d2, .int .u16 d3, .int .u16 ind] 43)) intR)
  have HX2 := Lib.hid (HX.out.alloc (.map #[] 0))
  rw [World.size_alloc] at HM
  by_cases hall : (d0 = 0 ∧ d1 = 0 ∧ d2 = 0 ∧ d3 = 0) ∧ ind = 0
  · rw [decide_eq_true hall.1] at EQ
    have g0 : ((ind : Int) == 0) = true := by rw [hall.2]; rfl
    clear hall HX HM HX2 HB2 HR HLT
    rcases hkk with ⟨f1, f2⟩ | ⟨f1, f2, f3, f4⟩
    all_goals
      go_enter Tryz.func107, Tryz.ntmps107
      go_wp2
      go_ret
      exact ⟨rfl, HB.out⟩
  have hDD : (decide (d0 = 0 ∧ d1 = 0 ∧ d2 = 0 ∧ d3 = 0) = false) ∨ (decide (d0 = 0 ∧ d1 = 0 ∧ d2 = 0 ∧ d3 = 0) = true ∧ ((ind : Int) == 0) = false) := by
    by_cases h : d0 = 0 ∧ d1 = 0 ∧ d2 = 0 ∧ d3 = 0
    · exact .inr ⟨decide_eq_true h, by simp; intro e; exact hall ⟨h, e⟩⟩
    · exact .inl (decide_eq_false h)
  generalize decide (d0 = 0 ∧ d1 = 0 ∧ d2 = 0 ∧ d3 = 0) = bD at *
  clear hall HX hk HD hpg
  rcases hkk with ⟨f1, f2⟩ | ⟨f1, f2, f3, f4⟩ <;> rcases hDD with rfl | ⟨rfl, g0⟩
  all_goals
    go_enter Tryz.func107, Tryz.ntmps107
    go_wp2_with fail
    refine (PG.out _).mono ?_
    rintro e w9 ⟨rfl, rfl⟩
    go_wp2_with fail
    go_region_held3 (fun W => W.cell? ⟨w.heap.size, 7, none⟩ = some (.int .u16 ind) ∧ KeepX ((w.alloc (.cells #[.int .u8 kind, .int .u16 links, .int .u32 size, .int .u16 d0, .int .u16 d1, .int .u16 d2, .int .u16 d3, .int .u16 ind] 43)).alloc (.map #[] 0)) w.heap.size #[.int .u8 kind, .int .u16 links, .int .u32 size, .int .u16 d0, .int .u16 d1, .int .u16 d2, .int .u16 d3, .int .u16 ind] W)
      (first | exact KeepX.to (by assumption) (grown_below (by assumption)) | exact KeepX.to (by assumption) ((Below.refl _ _).alloc (Nat.le_refl _) _) | exact ⟨HX2.out.drew.cell 7, (Below.refl _ _).drew, HX2.out.drew⟩)
      ((refine step_append_grows (by rfl) (.tmp 56) (.tmp 59) 87 (by rfl) 39 i0 (.int .u16 0) 1 2 Tryz.underlying87 hi hz0 hz1 hz2 rfl (by decide) (some ⟨w.heap.size, 3, none⟩) 4 4 [.int .u16 d0, .int .u16 d1, .int .u16 d2, .int .u16 d3] (by rfl) (by simp) rfl (dirs_cellsX (by assumption)) ⟨w.heap.size + 2, 0, none⟩ 1 1 [.int .u16 ind] (by rfl) rfl (World.news_of_block (NB.out _ _ (by simp))) (fun u hu => by simp at hu; subst hu; rfl) (by decide) (by unfold maxLen; omega) (by omega) ?_; intro v2 w2 hown2 hg2; obtain ⟨g2, cap2, rfl, hlt2⟩ := own_form hown2 (by decide)))
    rename_i hS
    have hB3 := HB2.out.trans (hS.2.1.mono HB2.out.size)
    have hM3 := HM.out.later hS.2.1
    rw [← cntF_nil] at hM3
    obtain ⟨cur, hcur, hget, hge⟩ := own_box hown2
    have HG := Lib.hid hget
    have HB3 := Lib.hid hB3
    have HM3 := Lib.hid hM3
    have HC3 := Lib.hid hcur
    clear hS hget hB3 hM3 hcur hown2 hg2 hge
    go_wp2_with fail
    go_loopw [5, 6, 62] (fun _ _ c wr => ∃ m : Nat, m ≤ 5 ∧ c = .int .i64 m ∧ UMap wr intR (w.heap.size + 1) m (cntF ([d0, d1, d2, d3, ind].take m)) ∧ SBox wr g2 39 cur ∧ Below w.heap.size w wr) (fun _ _ c _ => 5 - (Go.RowKit.intOf c).toNat)
    case atStart => exact ⟨0, by omega, rfl, HM3.out, HC3.out, HB3.out⟩
    case round =>
      obtain ⟨m, hm, rfl, hU, hS, hB⟩ := hrel
      by_cases hlt : m < 5
      · obtain ⟨v, hv⟩ : ∃ v, [d0, d1, d2, d3, ind][m]? = some v := ⟨_, List.getElem?_eq_getElem (by simpa using hlt)⟩
        have hv16 : v < 65536 := HLT.out v (List.mem_of_getElem? hv)
        have hok := HR.out m v hv
        have c1 : wr.cell? ⟨g2, m, none⟩ = some (.int .u16 v) := (hS.cell m).trans (HG.out m _ (by
          have e : [Value.int .u16 d0, .int .u16 d1, .int .u16 d2, .int .u16 d3] ++ [Value.int .u16 ind] = [d0, d1, d2, d3, ind].map (fun n : Nat => Value.int .u16 n) := rfl
          rw [e, List.getElem?_map, hv]
          rfl))
        have hsn : [d0, d1, d2, d3, ind].take (m + 1) = [d0, d1, d2, d3, ind].take m ++ [v] := by rw [List.take_add_one, hv]; rfl
        have hlen : ([d0, d1, d2, d3, ind].take m).length = m := by simp; omega
        have hnone : v ≠ 0 → cntN ([d0, d1, d2, d3, ind].take m) v = 0 := fun h0 => cntN_none (fun j hj => by
          rw [hlen] at hj
          rw [List.getElem?_take, if_pos hj]
          exact (hok h0).2 j hj)
        have hpgm : v ≠ 0 → m < pg := fun h0 => (hok h0).1
        have hcl := cntN_le ([d0, d1, d2, d3, ind].take m) v
        rw [hlen] at hcl
        have hlk := met_look hU v hv16
        obtain ⟨w3, hput, hU3, ht3⟩ := met_put hU (by unfold maxLen; omega) v hv16
        rw [← hsn] at hU3
        rw [show ((cntN ([d0, d1, d2, d3, ind].take m) v + 1 : Nat) : Int) = (cntN ([d0, d1, d2, d3, ind].take m) v : Int) + 1 from by push_cast; rfl] at hput
        generalize cntN ([d0, d1, d2, d3, ind].take m) v = cc at *
        obtain ⟨l2, hl2⟩ : ∃ l, [d0, d1, d2, d3, ind].take (m + 1) = l := ⟨_, rfl⟩
        rw [hl2] at hU3
        have E2 := Lib.hid hl2
        clear hl2
        generalize [d0, d1, d2, d3, ind].take m = l1 at *
        have hS3 : SBox w3 g2 39 cur := hS.kept ht3.grown (fun e => hU.ne hS (Option.some.inj e))
        have hB3 : Below w.heap.size w w3 := hB.grown ht3.grown hB.size (fun g e => by cases e; omega)
        have HS3 := Lib.hid hS3
        have HB9 := Lib.hid hB3
        have HU3 := Lib.hid hU3
        have HHS := Lib.hid hS
        have hgl := hS.lt
        have q0 : (0 : Int) ≤ m := by omega
        have q1 : (m : Int) < 5 := by omega
        clear hS hS3 hB hB3 hU hU3 hok hv hsn hlen ht3
        by_cases hv0 : v = 0
        · subst hv0
          have hlk2 : (Instr.lookup 260 (.map (some (w.heap.size + 1))) (.int .u16 0) false).run Tryz.prog wr = .ok (.int .i64 cc) wr := hlk
          have hput2 : (Instr.mapUpdate 260 (.map (some (w.heap.size + 1))) (.int .u16 0) (.int .i64 ((cc : Int) + 1))).run Tryz.prog wr = .ok () w3 := hput
          clear hlk hput hnone hpgm
          go_wp2_with fail
          go_roundw
          case rel => exact ⟨m + 1, by omega, by go_num, by rw [E2.out]; exact HU3.out, HS3.out, HB9.out⟩
          case measure => simp [Go.RowKit.intOf]; omega
        · have e0 := hnone hv0
          have hp := hpgm hv0
          have e1 : ((v : Int) != 0) = true := by simp; omega
          have e2 : decide ((pg : Int) ≤ (m : Int)) = false := by simp; omega
          have e3 : decide (pg ≤ m) = false := by simp; omega
          have hlk2 : (Instr.lookup 260 (.map (some (w.heap.size + 1))) (.int .u16 v) false).run Tryz.prog wr = .ok (.int .i64 0) wr := by rw [e0] at hlk; exact hlk
          have hput2 : (Instr.mapUpdate 260 (.map (some (w.heap.size + 1))) (.int .u16 v) (.int .i64 1)).run Tryz.prog wr = .ok () w3 := by rw [e0] at hput; exact hput
          clear hnone hpgm hlk hput e0 hcl
          go_wp2_with fail
          go_roundw
          case rel => exact ⟨m + 1, by omega, by go_num, by rw [E2.out]; exact HU3.out, HS3.out, HB9.out⟩
          case measure => simp [Go.RowKit.intOf]; omega
      · obtain rfl : m = 5 := by omega
        have HB9 := Lib.hid hB
        clear hU hS hB
        go_wp2_with fail
        go_ret
        exact ⟨rfl, HB9.out⟩
end Go.Proofs.YtpnfkilfgdnogaaGreatDoor.Ino
