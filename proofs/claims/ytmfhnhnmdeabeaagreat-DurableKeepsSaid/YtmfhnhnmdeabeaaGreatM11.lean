/- Layer 18 (tree): Resize, of what may be. -/
import Derived.Test.YtmfhnhnmdeabeaaGreatM10
import Derived.Laws.Rows
import Derived.Great.Walk
import Derived.Lib.BufferWrite
import Derived.BigRegion
import Derived.Lib.SliceRun
import Derived.Maps.RangeWalk
set_option linter.unusedVariables false
set_option linter.unusedSimpArgs false
set_option maxRecDepth 100000
section
namespace Go.Proofs.YtmfhnhnmdeabeaaGreat.Tr
open Go.RowKit Go.Shelf Go.Maps Oct Path Go.Great
variable {E : TL} {room q : Nat} {S : T}
def arr (v : Nm) : Array Value := (v.map byteV).toArray
theorem arr_size (v : Nm) : (arr v).size = v.length := by simp [arr]
theorem arr_one (v : Nm) : (arr v).all (·.oneCell') = true := by
 rw [Array.all_eq_true_iff_forall_mem]
 intro x hx
 simp only [arr, List.mem_toArray, List.mem_map] at hx
 obtain ⟨b, _, rfl⟩ := hx
 rfl
theorem arr_get (v : Nm) (i : Nat) : (arr v)[i]? = (v[i]?).map byteV := by simp [arr]
def zeroA : Array Value := Array.replicate 64 (.int .u8 0)
theorem zeroA_eq : zeroA = arr zero64 := by
 unfold zeroA arr zero64
 rfl
theorem alloc_A (ρ : Operand → Value) (o : Oper) (w : World) (ho : o.op = .alloc 127) : (execOp ρ o).run Tryz.prog w = .ok (.value (.pointer (some ⟨w.heap.size, 0, none⟩))) (w.alloc (.cells zeroA 127)) := by
 unfold execOp
 rw [ho]
 kernel_rfl
theorem info_A : (Tryz.prog.info? 127).map (·.size) = some 64 := by kernel_rfl
theorem under_A : Tryz.prog.underlying 127 = some (.array 64 5) := by kernel_rfl
theorem SBox.setRow {W : World} {b : Nat} {t : TypeId} {cs : Array Value} (h : SBox W b t cs) (ds : Array Value) : SBox (W.setRow b ds) b t ds := setRow_heap W b cs ds t (0, 0) h
theorem below_setRow {n b : Nat} {w W : World} (h : Below n w W) (hb : n ≤ b) (ds : Array Value) : Below n w (W.setRow b ds) :=
 ⟨h.os, h.tape, h.output, by simp; exact h.size, fun k hk => (setRow_other W b k ds (by omega)).trans (h.block k hk)⟩
theorem zero_A (w : World) : (zeroValue 127).run Tryz.prog w = .ok (.agg zeroA) w := by kernel_rfl
theorem TreeAt.page {W : World} (h : TreeAt W E room q S) {x : Nat} (hk : (S.n x).kind ≠ 0) {k : Nat} (hk36 : k < 36) : (Instr.lookup 99 (.map (some (E.B x))) (.int .i64 k) false).run Tryz.prog W = .ok (.agg (arr (pageB (S.n x).data k))) W := by
 obtain ⟨g, g1, g2⟩ := h.pg x hk
 have := g2.look kInt Tryz.underlying99 (z := .agg zeroA) (zero_A W) (keyI (x := k) (by omega))
 rw [this, natF_at]
 unfold pgF
 cases hg : g k with
 | none => rw [g1.no k hg, ← zeroA_eq]; rfl
 | some v => rw [← (g1.is k v hg).1]; rfl
theorem row_text {W : World} {b : Nat} {t : TypeId} {v : Nm} (h : SBox W b t (arr v)) (n cap : Nat) (hn : n ≤ v.length) : (convert 128 9 (.slice (some ⟨b, 0, none⟩) n cap)).run Tryz.prog W = .ok (.string (B (v.take n))) W := by
 have hl : (v.take n).length = n := by simp; omega
 have := run_convert_bytes_back (P := Tryz.prog) W 128 9 5 ⟨b, 0, none⟩ cap (v.take n) Tryz.underlying128 Tryz.underlying5 Tryz.underlying9 (fun j hj => by
   have hj' : j < v.length := by omega
   show W.cell? _ = _
   have e : (⟨b, 0, none⟩ : Addr).add j = ⟨b, j, none⟩ := by unfold Addr.add; split <;> simp_all
   rw [e, h.cell j, arr_get]
   simp [hj', byteV])
 rw [hl] at this
 exact this
theorem len_A : Tryz.prog.arrayLen 127 = 64 := by kernel_rfl
theorem size_b (w : World) : (sizeOf (Tryz.prog.elem 127)).run Tryz.prog w = .ok 1 w := by kernel_rfl
theorem sliceA_h (w : World) (b m : Nat) (hm : m ≤ 64) : (Instr.sliceAt 127 (.pointer (some ⟨b, 0, none⟩)) none (some (.int .i64 (m : Int))) none).run Tryz.prog w = .ok (.slice (some ⟨b, 0, none⟩) m 64) w := by
 rw [run_sliceAt_array_h w _ _ (by kernel_rfl) .i64 m (by omega) (by rw [len_A]; omega), size_b, len_A]
 simp [Result.andThen, slicedAt, Addr.add]
theorem sliceA_l (w : World) (b l : Nat) (hl : l < 64) : (Instr.sliceAt 127 (.pointer (some ⟨b, 0, none⟩)) (some (.int .i64 (l : Int))) none none).run Tryz.prog w = .ok (.slice (some ⟨b, l, none⟩) (64 - l) (64 - l)) w := by
 rw [run_sliceAt_array_l w _ _ (by kernel_rfl) .i64 l (by omega) (by rw [len_A]; omega), size_b, len_A]
 have h1 : ¬ (64 = l) := by omega
 have h2 : (⟨b, 0, none⟩ : Addr).add l = ⟨b, l, none⟩ := by unfold Addr.add; split <;> simp_all
 simp [Result.andThen, slicedAt, h1, h2]
theorem sliceA (w : World) (b : Nat) : (Instr.sliceAt 127 (.pointer (some ⟨b, 0, none⟩)) none none none).run Tryz.prog w = .ok (.slice (some ⟨b, 0, none⟩) 64 64) w := by
 rw [run_sliceAt_array_all w _ _ (by kernel_rfl), size_b, len_A]
 simp [Result.andThen, slicedAt, Addr.add]
theorem arr_new (w : World) (v : Nm) : ∃ w', w' = (w.alloc (.cells zeroA 127)).setRow w.heap.size (arr v) ∧ SBox w' w.heap.size 127 (arr v) ∧ Below w.heap.size w w' :=
 ⟨_, rfl, SBox.setRow (SBox.new w 127 zeroA) _, below_setRow ((Below.refl _ _).alloc (Nat.le_refl _) _) (Nat.le_refl _) _⟩
def readE (S : T) (x : Nat) (k : Int) : Nat := firstE [errB ((S.n x).kind == 0) 3, errB ((S.n x).kind == 2) 181, errB (decide (k < 0) || decide (36 ≤ k)) 2]
theorem readE_ok {x : Nat} {k : Int} (h : readE S x k = 0) : (S.n x).kind ≠ 0 ∧ (S.n x).kind ≠ 2 ∧ 0 ≤ k ∧ k < 36 := by
 unfold readE at h
 obtain ⟨h1, h⟩ := firstE_cons h
 obtain ⟨h2, h⟩ := firstE_cons h
 obtain ⟨h3, h⟩ := firstE_cons h
 have h1 := errB_no h1 (by decide)
 have h2 := errB_no h2 (by decide)
 have h3 := errB_no h3 (by decide)
 simp at h1 h2 h3
 exact ⟨h1, h2, by omega, by omega⟩
def readS (S : T) (x : Nat) (k : Int) : Nm := if readE S x k = 0 then readP (S.n x).data k.toNat else []
theorem check_read (wz : World) (x : Nat) (k : Int) (v1 v2 v3 : Value) (b : Nat)
   (h1 : CloAt True (errB ([x].any fun x => (S.n x).kind == 0) 3) v1 wz) (h2 : CloAt ((S.n x).kind ≠ 0) (errB ((S.n x).kind == 2) 181) v2 wz) (h3 : CloAt True (errB (decide (k < 0) || decide (36 ≤ k)) 2) v3 wz)
   (hb : SBox wz b 93 #[v1, v2, v3]) :
   Calls Tryz.prog 46 #[.pointer (some ⟨E.t, 0, none⟩), .slice (some ⟨b, 0, none⟩) 3 3] wz fun e w' => e = .returned (.int .i64 (readE S x k : Nat)) ∧ Below wz.heap.size wz w' := by
 refine (check_clo E.t b [v1, v2, v3] [errB ((S.n x).kind == 0) 3, errB ((S.n x).kind == 2) 181, errB (decide (k < 0) || decide (36 ≤ k)) 2] wz (by simp) (by simp) hb ?_).mono ?_
 · intro i hi
   match i, hi with
   | 0, _ => simpa using h1.weak (fun _ => trivial)
   | 1, _ => exact h2.weak (fun hz => by have h := errB_no (hz 0 (by omega)) (by decide); simpa using h)
   | 2, _ => exact h3.weak (fun _ => trivial)
   | i + 3, hi => exact absurd hi (by simp)
 · rintro e w' ⟨rfl, hb⟩
   exact ⟨rfl, hb⟩
set_option maxHeartbeats 8000000 in
theorem read_any (wz : World) (hT : TreeAt wz E room q S) (x : Nat) (k : Int) (hx : x < 4294967296) :
   Calls Tryz.prog 31 #[.pointer (some ⟨E.t, 0, none⟩), .int .u32 x, .int .i64 k] wz fun e w' => e = .returned (.tuple #[.string (B (readS S x k)), .int .i64 (readE S x k : Nat)]) ∧ Below wz.heap.size wz w' := by
 obtain ⟨er, her⟩ : ∃ er, readE S x k = er := ⟨_, rfl⟩
 obtain ⟨rs, hrs⟩ : ∃ rs, readS S x k = rs := ⟨_, rfl⟩
 rw [her, hrs]
 have RS := Lib.hid hrs
 have ER := Lib.hid her
 have HT := Lib.hid hT
 clear hT hrs her
 go_enter Tryz.func31, Tryz.ntmps31
 go_wp2_with fail
 refine Calls.mono (clo_there (n := 0) (xs := [x]) ⟨wz.heap.size, rfl, Nat.zero_le _, SBox.new wz _ _⟩ (Nat.zero_le _) (HT.out.alloc _) (by simpa using hx) (by simp)) ?_
 rintro e w3 ⟨u3, rfl, hu3, hb3⟩
 have B3 := Lib.hid (((Below.refl wz.heap.size wz).alloc (Nat.le_refl _) (.cells #[.int .u32 x] 37)).trans (hb3.mono (by simp)))
 have C3 := Lib.hid hu3
 obtain ⟨f3, l3, rfl, _⟩ := hu3
 have T3 := Lib.hid (HT.out.later B3.out)
 clear hb3
 go_wp2_with fail
 refine Calls.mono (clo_file T3.out hx) ?_
 rintro e w4 ⟨u4, rfl, hu4, hb4⟩
 have B4 := Lib.hid hb4
 have C4 := Lib.hid hu4
 obtain ⟨f4, l4, rfl, _⟩ := hu4
 have T4 := Lib.hid (T3.out.later B4.out)
 clear hb4
 go_wp2_with fail
 refine Calls.mono (clo_paged k) ?_
 rintro e w5 ⟨u5, rfl, hu5, hb5⟩
 have B5 := Lib.hid hb5
 have C5 := Lib.hid hu5
 obtain ⟨f5, l5, rfl, _⟩ := hu5
 have T5 := Lib.hid (T4.out.later B5.out)
 clear hb5
 have AL := Lib.hid ((Below.refl w5.heap.size w5).alloc (Nat.le_refl _) (.cells #[.func (.func f3) #[] l3, .func (.func f4) #[] l4, .func (.func f5) #[] l5] 93))
 have B45 := Lib.hid (B4.out.trans (B5.out.mono B4.out.size))
 have CK := Lib.hid (check_read (E := E) (S := S) (w5.alloc (.cells #[.func (.func f3) #[] l3, .func (.func f4) #[] l4, .func (.func f5) #[] l5] 93)) x k _ _ _ w5.heap.size
   ((by simpa using (C3.out.later B45.out).later AL.out)) ((C4.out.later B5.out).later AL.out) (C5.out.later AL.out) (SBox.new w5 _ _))
 have B04 := Lib.hid ((B3.out.trans (B45.out.mono B3.out.size)).trans (AL.out.mono (by have := B3.out.size; have := B45.out.size; omega)))
 have T6 := Lib.hid (T5.out.alloc (.cells #[.func (.func f3) #[] l3, .func (.func f4) #[] l4, .func (.func f5) #[] l5] 93))
 clear C3 C4 C5 T3 T4 T5 B3 B4 B5 B45 AL
 go_wp2_with fail
 refine Calls.mono CK.out ?_
 rw [ER.out]
 rintro e w6 ⟨rfl, hb6⟩
 have B6 := Lib.hid (B04.out.trans (hb6.mono B04.out.size))
 have T7 := Lib.hid (T6.out.later hb6)
 clear hb6 CK B04 T6
 by_cases h0 : er = 0
 · subst h0
   have HK := Lib.hid (readE_ok ER.out)
   obtain ⟨n, rfl⟩ := Int.eq_ofNat_of_zero_le HK.out.2.2.1
   have LI := T7.out.look_is hx HK.out.1
   have hY := T7.out.top
   have Y0 := hY.cell 0
   have Y1 := hY.cell 1
   simp only [List.getElem?_toArray, List.getElem?_cons_zero, List.getElem?_cons_succ] at Y0 Y1
   have Yl := hY.lt
   have hV := T7.out.nd x HK.out.1
   have V0 := hV.cell 0
   have V1 := hV.cell 1
   have V2 := hV.cell 2
   have V3 := hV.cell 3
   have V4 := hV.cell 4
   have V5 := hV.cell 5
   have V6 := hV.cell 6
   simp only [List.getElem?_toArray, List.getElem?_cons_zero, List.getElem?_cons_succ] at V0 V1 V2 V3 V4 V5 V6
   have Vl := hV.lt
   clear hY hV
   have PG := T7.out.page HK.out.1 (k := n) (by have := HK.out.2.2.2; omega)
   have hdl := (T7.out.dt x)
   obtain ⟨sz, hsz⟩ : ∃ sz, (S.n x).data.length = sz := ⟨_, rfl⟩
   rw [hsz] at V2 hdl
   have SZ := Lib.hid hsz
   clear hsz
   have n36 : n < 36 := by have := HK.out.2.2.2; omega
   obtain ⟨pv, hpv⟩ : ∃ pv, pageB (S.n x).data n = pv := ⟨_, rfl⟩
   rw [hpv] at PG
   have PL := Lib.hid (show pv.length = 64 by rw [← hpv, length_pageB])
   have PV := Lib.hid hpv
   have PS := Lib.hid (show (arr pv).size = 64 by rw [arr_size, PL.out])
   clear hpv
   go_wp2_with (first
     | (refine wpList_runTo rfl _ rfl _ _ (alloc_A _ _ _ rfl) ?_)
     | (refine wpList_store_row rfl _ _ _ rfl w6.heap.size (arr pv) rfl rfl _ zeroA (SBox.new w6 127 zeroA) (by rw [PS.out]; exact info_A) (by rw [PS.out]; exact Array.size_replicate) (arr_one pv) ?_
        obtain ⟨w7, hw7, hA7, hB7⟩ := arr_new w6 pv
        rw [← hw7]
        have A7 := Lib.hid hA7
        have RT := Lib.hid (fun (n : Nat) (hn : n ≤ 64) => row_text hA7 n 64 (by rw [PL.out]; exact hn))
        have B7 := Lib.hid (B6.out.trans (hB7.mono B6.out.size))
        have T8 := Lib.hid (T7.out.later hB7)
        have Al := hA7.lt
        have hV := T8.out.nd x HK.out.1
        have U2 := hV.cell 2
        simp only [List.getElem?_toArray, List.getElem?_cons_zero, List.getElem?_cons_succ] at U2
        rw [SZ.out] at U2
        clear hV hA7 hB7 hw7))
   obtain ⟨m, hm, hm2⟩ : ∃ m : Nat, max 0 (min 64 ((sz : Int) - (n : Int) * 64)) = (m : Int) ∧ m = min 64 (sz - n * 64) := ⟨min 64 (sz - n * 64), by omega, rfl⟩
   rw [hm, sliceA_h w7 w6.heap.size m (by omega)]
   have M2 := Lib.hid hm2
   have q0 : (m : Int) ≤ 64 := by omega
   have R := RT.out m (by omega)
   clear hm hm2
   go_wp2_with fail
   go_simp
   go_wp2_with fail
   go_ret2
   refine ⟨?_, B7.out⟩
   have e1 : rs = pv.take m := by rw [← RS.out]; unfold readS; rw [ER.out, if_pos rfl, readP_page, Int.toNat_natCast, PV.out, SZ.out, M2.out]
   rw [e1]
   rfl
 · have t0 : ((er : Int) != 0) = true := by simp; omega
   have H0 := Lib.hid h0
   clear h0
   go_wp2_with fail
   go_ret2
   have e0 : rs = [] := by rw [← RS.out]; unfold readS; rw [ER.out, if_neg H0.out]
   rw [e0]
   exact ⟨rfl, B6.out⟩
end Go.Proofs.YtmfhnhnmdeabeaaGreat.Tr
end
section
namespace Go.Proofs.YtmfhnhnmdeabeaaGreat.Tr
open Go.RowKit Go.Shelf Go.Maps Oct Path Go.Great
variable {E : TL} {room q : Nat} {S : T}
def setD (S : T) (x : Nat) (s : Nm) : T := ⟨setN S.n x { S.n x with data := s }, S.l⟩
theorem TreeAt.bytes {W W' : World} (h : TreeAt W E room q S) {x : Nat} (hk : (S.n x).kind ≠ 0) (s : Nm) (hs : s.length ≤ 2304)
   (hpg : ∃ g, PgOk s g ∧ VMap W' 3 (E.B x) 36 (natF .i64 (pgF g)))
   (hnew : SBox W' (E.P x) 101 #[.int .u8 (S.n x).kind, .int .i64 (S.n x).links, .int .u32 s.length, .map (some (E.A x)), .map (some (E.B x)), .int .i64 (S.n x).held, .int .u32 (S.n x).up])
   (hoth : ∀ b, b ≠ E.P x → b ≠ E.B x → b < W.heap.size → W'.heap[b]? = W.heap[b]?) : TreeAt W' E room q (setD S x s) := by
 have hks : ∀ y, (setN S.n x { S.n x with data := s } y).kind = (S.n y).kind := kind_set rfl
 have o := h.own
 obtain ⟨g0, _, hB0⟩ := h.pg x hk
 have hP := h.nd x hk
 have nA : ∀ y, (S.n y).kind ≠ 0 → E.A y ≠ E.P x := fun y hy e => (h.ent y hy).ne hP e.symm
 have nM : E.m ≠ E.P x := fun e => h.map.ne hP e.symm
 have nPB : ∀ y, (S.n y).kind ≠ 0 → E.P y ≠ E.B x := fun y hy e => hB0.ne (h.nd y hy) e
 have nT : E.t ≠ E.B x := fun e => hB0.ne h.top e
 unfold setD
 refine { top := ?_, map := ?_, nd := ?_, ent := ?_, pg := ?_, own := ?_, iP := ?_, iA := ?_, iB := ?_, iAB := ?_, iM := ?_, rm := h.rm, q8 := h.q8, lk := ?_, dt := ?_ }
 · exact (hoth _ (fun e => (h.iM x hk).1 e.symm) nT h.top.lt).trans h.top
 · have e : nodeF E ⟨setN S.n x { S.n x with data := s }, S.l⟩ = nodeF E S := by funext y; simp only [nodeF, hks]
   rw [e]
   exact h.map.block (hoth _ nM (fun e => (h.iM x hk).2.2 e.symm) h.map.lt)
 · intro y hy
   simp only at hy ⊢
   rw [hks] at hy
   by_cases e : y = x
   · subst e
     rw [setN_same]
     exact hnew
   · rw [setN_other _ _ e]
     exact (hoth _ (fun q => e (h.iP y x hy hk q)) (nPB y hy) (h.nd y hy).lt).trans (h.nd y hy)
 · intro y hy
   simp only at hy ⊢
   rw [hks] at hy
   exact (h.ent y hy).block (hoth _ (nA y hy) (h.iAB y x hy hk) (h.ent y hy).lt)
 · intro y hy
   simp only at hy ⊢
   rw [hks] at hy
   by_cases e : y = x
   · subst e; rw [setN_same]; exact hpg
   · obtain ⟨g, g1, g2⟩ := h.pg y hy
     have nB : E.B y ≠ E.P x := fun e => g2.ne hP e.symm
     rw [setN_other _ _ e]
     exact ⟨g, g1, g2.block (hoth _ nB (fun q => e (h.iB y x hy hk q)) g2.lt)⟩
 · exact ⟨o.1, o.2.1, fun y hy => o.2.2 y (by rw [← hks]; exact hy)⟩
 · exact fun a b ha hb => h.iP a b (by rw [← hks]; exact ha) (by rw [← hks]; exact hb)
 · exact fun a b ha hb => h.iA a b (by rw [← hks]; exact ha) (by rw [← hks]; exact hb)
 · exact fun a b ha hb => h.iB a b (by rw [← hks]; exact ha) (by rw [← hks]; exact hb)
 · exact fun a b ha hb => h.iAB a b (by rw [← hks]; exact ha) (by rw [← hks]; exact hb)
 · exact fun a ha => h.iM a (by rw [← hks]; exact ha)
 · intro y
   by_cases e : y = x
   · subst e; simp only [setN_same]; exact h.lk y
   · simp only [setN_other _ _ e]; exact h.lk y
 · intro y
   by_cases e : y = x
   · subst e; simp only [setN_same]; exact hs
   · simp only [setN_other _ _ e]; exact h.dt y
theorem pgF_put {g : Nat → Option Nm} {k : Nat} {v : Nm} : (fun y => if y = k then some (Value.agg (arr v)) else pgF g y) = pgF (fun y => if y = k then some v else g y) := by
 funext y
 unfold pgF
 by_cases e : y = k
 · simp only [e, if_true]; rfl
 · simp only [e, if_false]
theorem natF_i64 {g : Nat → Option Value} {k : Lit} (h : (natF .i64 g k).isSome = true) : ∃ y : Nat, k = .int .i64 (y : Int) ∧ (g y).isSome = true := natF_some h
theorem pg_tight {W : World} {b n : Nat} {g : Nat → Option Nm} (h : VMap W 3 b n (natF .i64 (pgF g))) (hg : ∀ y, (g y).isSome = true → y < 36) : VMap W 3 b 36 (natF .i64 (pgF g)) := by
 have := h.tight kInt ((List.range 36).map fun i : Nat => Lit.int .i64 (i : Int)) (fun kl _ hs => by
   obtain ⟨y, rfl, hy⟩ := natF_i64 hs
   have hy2 : (g y).isSome = true := by
     unfold pgF at hy
     cases hgy : g y with
     | none => rw [hgy] at hy; cases hy
     | some v => rfl
   exact List.mem_map.2 ⟨y, by simpa using hg y hy2, rfl⟩)
 have hl : ((List.range 36).map fun i : Nat => Lit.int .i64 (i : Int)).length = 36 := by simp
 rw [hl] at this
 exact this
theorem TreeAt.putPage {W : World} (h : TreeAt W E room q S) {x : Nat} (hk : (S.n x).kind ≠ 0) {k : Nat} (hk36 : k < 36) (v : Nm) (s : Nm) (hv : v = pageB s k) (ho : ∀ y, y ≠ k → pageB s y = pageB (S.n x).data y) :
   ∃ W', (Instr.mapUpdate 99 (.map (some (E.B x))) (.int .i64 k) (.agg (arr v))).run Tryz.prog W = .ok () W' ∧ (∃ g, PgOk s g ∧ VMap W' 3 (E.B x) 36 (natF .i64 (pgF g))) ∧ W.mapTurned W' (E.B x) := by
 obtain ⟨g, g1, g2⟩ := h.pg x hk
 obtain ⟨W', hrun, h1, h2⟩ := g2.put kInt Tryz.underlying99 (by unfold maxLen; omega) (keyI (x := k) (by omega)) (.agg (arr v))
 refine ⟨W', hrun, ⟨fun y => if y = k then some v else g y, ⟨fun y u hu => ?_, fun y hy => ?_⟩, ?_⟩, h2⟩
 · by_cases e : y = k
   · subst e; simp only [if_true, Option.some.injEq] at hu; subst hu; exact ⟨hv, hk36⟩
   · simp only [e, if_false] at hu; rw [ho y e]; exact g1.is y u hu
 · by_cases e : y = k
   · subst e; simp at hy
   · simp only [e, if_false] at hy; rw [ho y e]; exact g1.no y hy
 · rw [natF_put, pgF_put] at h1
   refine pg_tight h1 fun y hy => ?_
   by_cases e : y = k
   · subst e; exact hk36
   · simp only [e, if_false] at hy
     cases hgy : g y with
     | none => rw [hgy] at hy; cases hy
     | some u => exact (g1.is y u hgy).2
set_option maxHeartbeats 2000000 in
theorem write1_ok (a : Nat) (s : ByteArray) (h1 : s.size ≠ 0) (h2 : s.size ≤ 64) (w : World) (ha : SBox w a 9 #[.string s]) :
   Calls Tryz.prog 159 #[.pointer (some ⟨a, 0, none⟩)] w fun e w' => e = .returned (.int .i64 0) ∧ Below w.heap.size w w' := by
 have A0 := ha.cell 0
 simp only [List.getElem?_toArray, List.getElem?_cons_zero] at A0
 have Al := ha.lt
 clear ha
 have t1 : s.toList.isEmpty = false := by
   rw [ByteArray.toList_eq, List.isEmpty_eq_false_iff]
   intro e
   have : s.size = s.data.toList.length := rfl
   rw [e] at this
   exact h1 this
 have t2 : decide ((64 : Int) < s.size) = false := by simp; omega
 go_enter Tryz.func159, Tryz.ntmps159
 go_wp2_with fail
 refine (as_no 2 _).mono ?_
 rintro e w8 ⟨rfl, rfl⟩
 go_wp2_with fail
 go_ret
 exact ⟨rfl, Below.refl _ _⟩
end Go.Proofs.YtmfhnhnmdeabeaaGreat.Tr
end
section
namespace Go.Proofs.YtmfhnhnmdeabeaaGreat.Tr
open Go.RowKit Go.Shelf Go.Maps Oct Path Go.Great
variable {E : TL} {room q : Nat} {S : T}
theorem check_write (wz : World) (x k : Nat) (hk1 : (S.n x).kind = 1) (hk : k < 36) (v1 v2 v3 v4 : Value) (b : Nat)
   (h1 : CloAt True (errB ([x].any fun x => (S.n x).kind == 0) 3) v1 wz) (h2 : CloAt ((S.n x).kind ≠ 0) (errB ((S.n x).kind == 2) 181) v2 wz) (h3 : CloAt True (errB (decide ((k : Int) < 0) || decide (36 ≤ (k : Int))) 2) v3 wz) (h4 : CloAt True 0 v4 wz)
   (hb : SBox wz b 93 #[v1, v2, v3, v4]) :
   Calls Tryz.prog 46 #[.pointer (some ⟨E.t, 0, none⟩), .slice (some ⟨b, 0, none⟩) 4 4] wz fun e w' => e = .returned (.int .i64 0) ∧ Below wz.heap.size wz w' := by
 refine (check_clo E.t b [v1, v2, v3, v4] [errB ((S.n x).kind == 0) 3, errB ((S.n x).kind == 2) 181, errB (decide ((k : Int) < 0) || decide (36 ≤ (k : Int))) 2, 0] wz (by simp) (by simp) hb ?_).mono ?_
 · intro i hi
   match i, hi with
   | 0, _ => simpa using h1.weak (fun _ => trivial)
   | 1, _ => exact h2.weak (fun hz => by rw [hk1]; decide)
   | 2, _ => exact h3.weak (fun _ => trivial)
   | 3, _ => exact h4.weak (fun _ => trivial)
   | i + 4, hi => exact absurd hi (by simp)
 · rintro e w' ⟨rfl, hb⟩
   refine ⟨?_, hb⟩
   have a1 : ¬ (k : Int) < 0 := by omega
   have a2 : ¬ (36 : Int) ≤ k := by omega
   simp [errB, firstE, hk1, a1, a2]
theorem copy_row (w : World) (b : Nat) (v : Nm) (d : ByteArray) (hv : v.length = 64) (hd : d.size ≤ 64) (h : SBox w b 127 (arr v)) :
   ∃ w', (∀ ty, (Builtin.copy_ #[128, 9] ty #[.slice (some ⟨b, 0, none⟩) 64 64, .string d]).run Tryz.prog w = .ok (.int .i64 d.size) w') ∧ SBox w' b 127 (arr (L d ++ v.drop (L d).length)) ∧ (∀ n, n ≤ b → Below n w w') := by
 have hr := fun ty => Lib.run_copy_row_string (P := Tryz.prog) w 128 9 ty 5 b 0 64 64 d (arr v) 127 Tryz.underlying128 (by kernel_rfl) h hd (by rw [arr_size]; omega)
 have e : ((arr v).toList.take 0 ++ Lib.byteCells d.data.toList ++ (arr v).toList.drop (0 + d.size)).toArray = arr (L d ++ v.drop (L d).length) := by
   unfold arr
   simp [Lib.byteCells, byteV, L, List.map_drop]
 rw [e] at hr
 exact ⟨_, hr, SBox.setRow h _, fun n hn => below_setRow (Below.refl _ _) hn _⟩
set_option maxHeartbeats 8000000 in
theorem write_ok (wz : World) (hT : TreeAt wz E room q S) (x k : Nat) (d : ByteArray) (hx : x < 4294967296) (hk1 : (S.n x).kind = 1) (hk36 : k < 36) (hd1 : d.size ≠ 0) (hd : d.size ≤ 64) :
   Calls Tryz.prog 138 #[.pointer (some ⟨E.t, 0, none⟩), .int .u32 x, .int .i64 k, .string d] wz fun e w' => e = .returned (.int .i64 0) ∧ TreeAt w' E room q (setD S x (wr (S.n x).data k (L d))) ∧ Tch E.O wz w' := by
 have HT := Lib.hid hT
 have D1 := Lib.hid (And.intro hd1 hd)
 have K0 := Lib.hid (show (S.n x).kind ≠ 0 by omega)
 have K1 := Lib.hid hk1
 obtain ⟨S', hS⟩ : ∃ S', setD S x (wr (S.n x).data k (L d)) = S' := ⟨_, rfl⟩
 rw [hS]
 have SS := Lib.hid hS
 clear hT hd1 hk1 hS
 go_enter Tryz.func138, Tryz.ntmps138
 go_wp2_with fail
 have A0 := Lib.hid ((Below.refl wz.heap.size wz).alloc (Nat.le_refl _) (.cells #[.string d] 9))
 have X0 := Lib.hid (SBox.new wz 9 #[.string d])
 have T0 := Lib.hid (HT.out.alloc (.cells #[.string d] 9))
 have SZ1 := Lib.hid (show (wz.alloc (.cells #[.string d] 9)).heap.size = wz.heap.size + 1 by simp)
 refine Calls.mono (clo_there (n := 0) (xs := [x]) ⟨wz.heap.size + 1, rfl, Nat.zero_le _, by simpa using SBox.new (wz.alloc (.cells #[.string d] 9)) 37 #[.int .u32 x]⟩ (Nat.zero_le _) (T0.out.alloc _) (by simpa using hx) (by simp)) ?_
 rintro e w3 ⟨u3, rfl, hu3, hb3⟩
 have B3 := Lib.hid (((Below.refl (wz.alloc (.cells #[.string d] 9)).heap.size (wz.alloc (.cells #[.string d] 9))).alloc (Nat.le_refl _) (.cells #[.int .u32 x] 37)).trans (hb3.mono (by simp)))
 have C3 := Lib.hid hu3
 obtain ⟨f3, l3, rfl, _⟩ := hu3
 have T3 := Lib.hid (T0.out.later B3.out)
 have X3 := Lib.hid (X0.out.later B3.out)
 clear hb3
 go_wp2_with fail
 refine Calls.mono (clo_file T3.out hx) ?_
 rintro e w4 ⟨u4, rfl, hu4, hb4⟩
 have B4 := Lib.hid hb4
 have C4 := Lib.hid hu4
 obtain ⟨f4, l4, rfl, _⟩ := hu4
 have T4 := Lib.hid (T3.out.later B4.out)
 have X4 := Lib.hid (X3.out.later B4.out)
 clear hb4
 go_wp2_with fail
 refine Calls.mono (clo_paged (k : Int)) ?_
 rintro e w5 ⟨u5, rfl, hu5, hb5⟩
 have B5 := Lib.hid hb5
 have C5 := Lib.hid hu5
 obtain ⟨f5, l5, rfl, _⟩ := hu5
 have T5 := Lib.hid (T4.out.later B5.out)
 have X5 := Lib.hid (X4.out.later B5.out)
 clear hb5
 have AL := Lib.hid ((Below.refl w5.heap.size w5).alloc (Nat.le_refl _) (.cells #[.func (.func f3) #[] l3, .func (.func f4) #[] l4, .func (.func f5) #[] l5, .func (.func 159) #[] #[.pointer (some ⟨wz.heap.size, 0, none⟩)]] 93))
 have B45 := Lib.hid (B4.out.trans (B5.out.mono B4.out.size))
 have CK := Lib.hid (check_write (E := E) (S := S) (w5.alloc (.cells #[.func (.func f3) #[] l3, .func (.func f4) #[] l4, .func (.func f5) #[] l5, .func (.func 159) #[] #[.pointer (some ⟨wz.heap.size, 0, none⟩)]] 93)) x k K1.out hk36 _ _ _ _ w5.heap.size
   ((C3.out.later B45.out).later AL.out) ((C4.out.later B5.out).later AL.out) (C5.out.later AL.out) (⟨_, _, rfl, (fun W => enters_of Tryz.func159 (by kernel_rfl) rfl _ W), fun W hW _ => write1_ok _ d D1.out.1 D1.out.2 W ((X5.out.alloc _).later hW)⟩) (SBox.new w5 _ _))
 have B04 := Lib.hid ((B3.out.trans (B45.out.mono B3.out.size)).trans (AL.out.mono (by have := B3.out.size; have := B45.out.size; omega)))
 have T6 := Lib.hid (T5.out.alloc (.cells #[.func (.func f3) #[] l3, .func (.func f4) #[] l4, .func (.func f5) #[] l5, .func (.func 159) #[] #[.pointer (some ⟨wz.heap.size, 0, none⟩)]] 93))
 have X6 := Lib.hid (X5.out.alloc (.cells #[.func (.func f3) #[] l3, .func (.func f4) #[] l4, .func (.func f5) #[] l5, .func (.func 159) #[] #[.pointer (some ⟨wz.heap.size, 0, none⟩)]] 93))
 clear C3 C4 C5 T3 T4 T5 B3 B4 B5 B45 AL X3 X4 X5
 go_wp2_with fail
 refine Calls.mono CK.out ?_
 rintro e w6 ⟨rfl, hb6⟩
 have B6 := Lib.hid (A0.out.trans ((B04.out.trans (hb6.mono B04.out.size)).mono (by have := SZ1.out; omega)))
 have T7 := Lib.hid (T6.out.later hb6)
 have X7 := Lib.hid (X6.out.later hb6)
 clear hb6 CK B04 T6 X6 T0 X0 A0
 have LI := T7.out.look_is hx K0.out
 have hY := T7.out.top
 have Y0 := hY.cell 0
 have Y1 := hY.cell 1
 simp only [List.getElem?_toArray, List.getElem?_cons_zero, List.getElem?_cons_succ] at Y0 Y1
 have Yl := hY.lt
 have hV := T7.out.nd x K0.out
 have V0 := hV.cell 0
 have V1 := hV.cell 1
 have V2 := hV.cell 2
 have V3 := hV.cell 3
 have V4 := hV.cell 4
 have V5 := hV.cell 5
 have V6 := hV.cell 6
 simp only [List.getElem?_toArray, List.getElem?_cons_zero, List.getElem?_cons_succ] at V0 V1 V2 V3 V4 V5 V6
 have Vl := hV.lt
 clear hY hV
 have PG := T7.out.page K0.out (k := k) hk36
 obtain ⟨sz, hsz⟩ : ∃ sz, (S.n x).data.length = sz := ⟨_, rfl⟩
 rw [hsz] at V2
 have SZ := Lib.hid hsz
 clear hsz
 obtain ⟨pv, hpv⟩ : ∃ pv, pageB (S.n x).data k = pv := ⟨_, rfl⟩
 rw [hpv] at PG
 have PL := Lib.hid (show pv.length = 64 by rw [← hpv, length_pageB])
 have PV := Lib.hid hpv
 have PS := Lib.hid (show (arr pv).size = 64 by rw [arr_size, PL.out])
 clear hpv
 go_wp2_with (first
   | (refine wpList_runTo rfl _ rfl _ _ (alloc_A _ _ _ rfl) ?_)
   | (refine wpList_store_row rfl _ _ _ rfl w6.heap.size (arr pv) rfl rfl _ zeroA (SBox.new w6 127 zeroA) (by rw [PS.out]; exact info_A) (by rw [PS.out]; exact Array.size_replicate) (arr_one pv) ?_
      obtain ⟨w7, hw7, hA7, hB7⟩ := arr_new w6 pv
      rw [← hw7]
      have A7 := Lib.hid hA7
      have B7 := Lib.hid (B6.out.trans (hB7.mono B6.out.size))
      have H7 := Lib.hid hB7
      have T8 := Lib.hid (T7.out.later hB7)
      have X8 := Lib.hid (X7.out.later hB7)
      have Al := hA7.lt
      have S7 := Lib.hid (show wz.heap.size < w6.heap.size from X7.out.lt)
      clear hA7 hB7 hw7))
 obtain ⟨w8, hcp, hA8, hb8⟩ := copy_row w7.drew w6.heap.size pv d PL.out D1.out.2 A7.out
 have sl := fun w => sliceA w w6.heap.size
 have hx8 := X8.out
 have D0 := hx8.cell 0
 simp only [List.getElem?_toArray, List.getElem?_cons_zero, List.getElem?_cons_succ] at D0
 have Dl := hx8.lt
 clear hx8
 have B8 := Lib.hid (B7.out.drew.trans (hb8 _ B6.out.size))
 have H8 := Lib.hid (H7.out.drew.trans (hb8 _ (Nat.le_refl _)))
 have T9 := Lib.hid (T7.out.later H8.out)
 have X9 := Lib.hid (X7.out.later H8.out)
 have A9 := Lib.hid hA8
 clear hA8 hb8 T8 X8 B7 H7 A7
 go_region
 clear hcp sl D0 Dl
 clear LI PG V0 V1 V2 V3 V4 V5 V6 Vl Y0 Y1 Yl Al
 obtain ⟨v', hv'⟩ : ∃ v', L d ++ pv.drop (L d).length = v' := ⟨_, rfl⟩
 rw [hv'] at A9
 have V9 := Lib.hid hv'
 clear hv'
 have PW := Lib.hid (pageB_wr (S.n x).data k · (L d) D1.out.2)
 have L9 := Lib.hid (show v'.length = 64 by rw [← V9.out, List.length_append, List.length_drop, PL.out]; have h : (L d).length = d.size := rfl; have := D1.out.2; omega)
 have T9d := Lib.hid T9.out.drew
 obtain ⟨w9, hput, hpg, htn⟩ := T9d.out.putPage K0.out hk36 v' (wr (S.n x).data k (L d)) (by rw [PW.out k, if_pos rfl, PV.out, V9.out]) (fun y hy => by rw [PW.out y, if_neg hy])
 have PG9 := Lib.hid hpg
 have TN := Lib.hid htn
 have A9s := Lib.hid (show (arr v').size = 64 by rw [arr_size, L9.out])
 have hV := T9d.out.nd x K0.out
 have V0 := hV.cell 0
 have V1 := hV.cell 1
 have V2 := hV.cell 2
 have V3 := hV.cell 3
 have V4 := hV.cell 4
 have V5 := hV.cell 5
 have V6 := hV.cell 6
 simp only [List.getElem?_toArray, List.getElem?_cons_zero, List.getElem?_cons_succ] at V0 V1 V2 V3 V4 V5 V6
 have Vl := hV.lt
 have hA := A9.out.drew
 have Al := hA.lt
 clear hV hpg htn hA
 go_wp2_with fail
 refine wp_region_phi2 (by kernel_rfl) (fun | 0 => some 43 | 1 => some 44 | 2 => some 45 | 3 => some 46 | 4 => some 47 | 5 => some 48 | 6 => none | _ => none) (fun a => ∃ x43 x44 x45 x46 x47 x48 : Value, a = ⟨#[.pointer (some ⟨E.t, 0, none⟩), .int .u32 x, .int .i64 k, .string d, undef, undef, undef, .pointer (some ⟨wz.heap.size, 0, none⟩), .int .i64 0, .int .i64 0, .pointer (some ⟨E.P x, 0, none⟩), .pointer (some ⟨w6.heap.size, 0, none⟩), .pointer (some ⟨E.t, 0, none⟩), .pointer (some ⟨E.t, 0, none⟩), .int .u32 x, .slice (some ⟨wz.heap.size + 1, 0, none⟩) 1 1, .func (.func f3) #[] l3, .pointer (some ⟨E.t, 0, none⟩), .int .u32 x, .func (.func f4) #[] l4, .int .i64 k, .func (.func f5) #[] l5, .func (.func 159) #[] #[.pointer (some ⟨wz.heap.size, 0, none⟩)], .slice (some ⟨w5.heap.size, 0, none⟩) 4 4, .int .i64 0, .int .i64 0, .bool false, undef, .pointer (some ⟨E.t, 0, none⟩), .pointer (some ⟨E.t, 0, none⟩), .pointer (some ⟨E.t, 1, none⟩), .map (some E.m), .int .u32 x, .pointer (some ⟨E.P x, 0, none⟩), .pointer (some ⟨E.P x, 0, none⟩), .pointer (some ⟨E.P x, 0, none⟩), .pointer (some ⟨E.P x, 4, none⟩), .map (some (E.B x)), .int .i64 k, .agg (arr pv), .slice (some ⟨w6.heap.size, 0, none⟩) 64 64, .string d, .int .i64 d.size, x43, x44, x45, x46, x47, x48, undef, undef, undef, undef, undef, undef, undef, undef, undef, undef, undef, undef, undef, undef, undef, undef], []⟩) (fun lst W => (lst 6 = false → W = w8.drew) ∧ (lst 6 = true → W = w9)) (fun _ _ _ => True) (fun | 0 => (fun v w => v = Value.pointer (some ⟨E.P x, 0, none⟩)) | 1 => (fun v w => v = Value.pointer (some ⟨E.P x, 0, none⟩)) | 2 => (fun v w => v = Value.pointer (some ⟨E.P x, 4, none⟩)) | 3 => (fun v w => v = Value.map (some (E.B x))) | 4 => (fun v w => v = Value.int .i64 k) | 5 => (fun v w => v = Value.agg (arr v')) | 6 => (fun v w => True) | _ => (fun _ _ => True)) (by kernel_rfl) ?st (by kernel_rfl) ?AA ⟨_, _, _, _, _, _, rfl⟩ ?G0 ?step ?done
 case st =>
   intro i j v w1 w2 hi hj hij hw hp hs
   have hi : i < 7 := hi
   match j, hp with
   | 0, hp | 1, hp | 2, hp | 3, hp | 4, hp | 5, hp | 6, hp => exact hp
   | j + 7, _ => exact trivial
 case AA =>
   rintro i a v hi ⟨_, _, _, _, _, _, rfl⟩
   match i, hi with
   | 0, _ | 1, _ | 2, _ | 3, _ | 4, _ | 5, _ | 6, _ => exact ⟨⟨_, _, _, _, _, _, rfl⟩, fun t h => by cases h <;> exact of_decide_eq_true rfl⟩
   | i + 7, hi => exact absurd hi (by simp)
 case G0 => exact ⟨fun _ => rfl, fun h => (by cases h)⟩
 case step =>
   rintro i a w1 lst hi ⟨x43, x44, x45, x46, x47, x48, rfl⟩ hl hcl hG hp
   refine wpOp_via (fun K hK => ?_)
   match i, hi with
   | 0, _ =>
     obtain ⟨hA, _⟩ := hG
     have h6 : lst 6 = false := Bool.eq_false_iff.2 fun h6 => by have := hcl 6 0 (by show (6 : Nat) < 7; decide) h6 (by kernel_rfl); rw [hl] at this; cases this
     obtain rfl := hA h6
     refine wpOp_at (by rfl) rfl ?_
     go_simp
     exact hK _ _ ⟨_, rfl, ⟨fun _ => rfl, fun h => absurd h (by show ¬ (if 6 = 0 then true else lst 6) = true; rw [if_neg (by decide), h6]; decide)⟩, trivial, rfl⟩
   | 1, _ =>
     obtain ⟨hA, _⟩ := hG
     have h6 : lst 6 = false := Bool.eq_false_iff.2 fun h6 => by have := hcl 6 1 (by show (6 : Nat) < 7; decide) h6 (by kernel_rfl); rw [hl] at this; cases this
     obtain rfl := hA h6
     obtain rfl : x43 = _ := hp 0 (by kernel_rfl)
     refine wpOp_at (by rfl) rfl ?_
     go_simp
     exact hK _ _ ⟨_, rfl, ⟨fun _ => rfl, fun h => absurd h (by show ¬ (if 6 = 1 then true else lst 6) = true; rw [if_neg (by decide), h6]; decide)⟩, trivial, rfl⟩
   | 2, _ =>
     obtain ⟨hA, _⟩ := hG
     have h6 : lst 6 = false := Bool.eq_false_iff.2 fun h6 => by have := hcl 6 2 (by show (6 : Nat) < 7; decide) h6 (by kernel_rfl); rw [hl] at this; cases this
     obtain rfl := hA h6
     obtain rfl : x44 = _ := hp 1 (by kernel_rfl)
     refine wpOp_at (by rfl) rfl ?_
     go_simp
     exact hK _ _ ⟨_, rfl, ⟨fun _ => rfl, fun h => absurd h (by show ¬ (if 6 = 2 then true else lst 6) = true; rw [if_neg (by decide), h6]; decide)⟩, trivial, rfl⟩
   | 3, _ =>
     obtain ⟨hA, _⟩ := hG
     have h6 : lst 6 = false := Bool.eq_false_iff.2 fun h6 => by have := hcl 6 3 (by show (6 : Nat) < 7; decide) h6 (by kernel_rfl); rw [hl] at this; cases this
     obtain rfl := hA h6
     obtain rfl : x45 = _ := hp 2 (by kernel_rfl)
     refine wpOp_at (by rfl) rfl ?_
     go_simp
     exact hK _ _ ⟨_, rfl, ⟨fun _ => rfl, fun h => absurd h (by show ¬ (if 6 = 3 then true else lst 6) = true; rw [if_neg (by decide), h6]; decide)⟩, trivial, rfl⟩
   | 4, _ =>
     obtain ⟨hA, _⟩ := hG
     have h6 : lst 6 = false := Bool.eq_false_iff.2 fun h6 => by have := hcl 6 4 (by show (6 : Nat) < 7; decide) h6 (by kernel_rfl); rw [hl] at this; cases this
     obtain rfl := hA h6
     refine wpOp_at (by rfl) rfl ?_
     go_simp
     exact hK _ _ ⟨_, rfl, ⟨fun _ => rfl, fun h => absurd h (by show ¬ (if 6 = 4 then true else lst 6) = true; rw [if_neg (by decide), h6]; decide)⟩, trivial, rfl⟩
   | 5, _ =>
     obtain ⟨hA, _⟩ := hG
     have h6 : lst 6 = false := Bool.eq_false_iff.2 fun h6 => by have := hcl 6 5 (by show (6 : Nat) < 7; decide) h6 (by kernel_rfl); rw [hl] at this; cases this
     obtain rfl := hA h6
     refine wpOp_at (by rfl) rfl ?_
     refine wp_load_row _ _ rfl w6.heap.size rfl 127 (arr v') (0, 0) _ A9.out under_A rfl (by rw [A9s.out]; exact info_A) ?_
     exact hK _ _ ⟨_, rfl, ⟨fun _ => rfl, fun h => absurd h (by show ¬ (if 6 = 5 then true else lst 6) = true; rw [if_neg (by decide), h6]; decide)⟩, trivial, rfl⟩
   | 6, _ =>
     obtain ⟨hA, _⟩ := hG
     obtain rfl := hA hl
     obtain rfl : x46 = _ := hp 3 (by kernel_rfl)
     obtain rfl : x47 = _ := hp 4 (by kernel_rfl)
     obtain rfl : x48 = _ := hp 5 (by kernel_rfl)
     refine wpOp_at (by rfl) rfl ?_
     go_simp
     exact hK _ _ ⟨undef, rfl, ⟨fun h => absurd h (by show ¬ (if 6 = 6 then true else lst 6) = false; rw [if_pos rfl]; decide), fun _ => rfl⟩, trivial, trivial⟩
   | i + 7, hi => exact absurd hi (by simp)
 case done =>
   rintro a w10 lst hl ⟨x43, x44, x45, x46, x47, x48, rfl⟩ ⟨_, hG⟩ hp
   obtain rfl := hG (hl 6 (by show (6 : Nat) < 7; decide))
   clear hp hl
   clear hput V0 V1 V2 V3 V4 V5 V6 Vl Al
   have nBP : E.P x ≠ E.B x := fun e => by
     obtain ⟨g, h⟩ := T9d.out.pg x K0.out
     exact h.2.ne (T9d.out.nd x K0.out) e
   have nXB : wz.heap.size ≠ E.B x := fun e => by
     obtain ⟨g, h⟩ := T9d.out.pg x K0.out
     exact h.2.ne X9.out.drew e
   have N9 := Lib.hid (show SBox w10 (E.P x) 101 _ from (turned_block TN.out nBP).trans (T9d.out.nd x K0.out))
   have X10 := Lib.hid (show SBox w10 wz.heap.size 9 #[.string d] from (turned_block TN.out nXB).trans X9.out.drew)
   clear nBP nXB
   have hV := N9.out
   have V0 := hV.cell 0
   have V1 := hV.cell 1
   have V2 := hV.cell 2
   have V3 := hV.cell 3
   have V4 := hV.cell 4
   have V5 := hV.cell 5
   have V6 := hV.cell 6
   simp only [List.getElem?_toArray, List.getElem?_cons_zero, List.getElem?_cons_succ] at V0 V1 V2 V3 V4 V5 V6
   have Vl := hV.lt
   rw [SZ.out] at V2
   have F2 := hV.free 2
   have hX := X10.out
   have U0 := hX.cell 0
   simp only [List.getElem?_toArray, List.getElem?_cons_zero, List.getElem?_cons_succ] at U0
   have Ul := hX.lt
   clear hV hX
   have wr1 : IntKind.u32.wrap ((k : Int) * 64 + d.size) = (k : Int) * 64 + d.size := by simp [IntKind.wrap, IntKind.bits, IntKind.signed]; omega
   go_wp2_with fail
   go_region
   go_wp2_with fail
   go_ret
   have hl : (wr (S.n x).data k (L d)).length = max sz (k * 64 + d.size) := by rw [length_wr, SZ.out]; rfl
   have hz : sz ≤ 2304 := by rw [← SZ.out]; exact T7.out.dt x
   have hd2 := D1.out.2
   have hM : ((max sz (k * 64 + d.size) : Nat) : Int) = max (sz : Int) ((k : Int) * 64 + d.size) := by omega
   obtain ⟨g, g1, g2⟩ := PG9.out
   have nBP : E.B x ≠ E.P x := fun e => g2.ne N9.out e.symm
   have o := T9d.out.own
   refine ⟨rfl, ?_, ?_⟩
   · rw [← SS.out]
     refine T9d.out.bytes K0.out _ (by rw [hl]; omega) ⟨g, g1, (g2.other _ nBP).drew⟩ ?_ ?_
     · have h := (N9.out.set 2 (.int .u32 (max (sz : Int) ((k : Int) * 64 + d.size)))).drew
       rw [hl, hM]
       simpa using h
     · intro b h1 h2 _
       exact (heap_setCell_other w10 _ b _ h1).trans (turned_block TN.out h2)
   · exact (Tch.of B6.out).trans ((Tch.of H8.out).trans (Tch.drew.trans ((Tch.turned TN.out (o.2.2 x K0.out).2.2).trans ((Tch.cell (o.2.2 x K0.out).1).trans Tch.drew))))
end Go.Proofs.YtmfhnhnmdeabeaaGreat.Tr
end
section
namespace Go.Proofs.YtmfhnhnmdeabeaaGreat.Tr
open Go.RowKit Go.Shelf Go.Maps Oct Path Go.Great
variable {E : TL} {room q : Nat} {S : T}
theorem clear_row (w : World) (b l : Nat) (v : Nm) (hv : v.length = 64) (hl : l < 64) (h : SBox w b 127 (arr v)) :
   ∃ w', (∀ ty, (Builtin.clear_ #[128] ty #[.slice (some ⟨b, l, none⟩) (64 - l) (64 - l)]).run Tryz.prog w = .ok (.tuple #[]) w') ∧ SBox w' b 127 (arr (v.take l ++ List.replicate (64 - l) 0)) ∧ (∀ n, n ≤ b → Below n w w') := by
 have hr := fun ty => Lib.run_clear_slice (P := Tryz.prog) w 128 5 ty (.int .u8 0) Tryz.underlying128 (fun w => by kernel_rfl) rfl rfl b l (64 - l) (64 - l) (by omega) (fun j hj => by rw [h.cell (l + j), arr_get]; simp; omega) (fun j hj => h.free (l + j))
 have h1 := run_storeCells_cells (P := Tryz.prog) b l (List.replicate (64 - l) (Value.int .u8 0)) 0 w (fun j hj => by
   simp at hj
   rw [h.cell, arr_get]; simp; omega) (fun j hj => h.free _) (fun x hx => by rw [List.eq_of_mem_replicate hx]; rfl)
 have h2 := run_storeCells_at Tryz.prog b l 127 (List.replicate (64 - l) (Value.int .u8 0)) 0 (arr v) w h (by simp [arr_size]; omega) (fun x hx => by rw [List.eq_of_mem_replicate hx]; rfl)
 have e1 : w.setCells b l (List.replicate (64 - l) (Value.int .u8 0)) = w.setRow b (arr (v.take l ++ List.replicate (64 - l) 0)) := by
   have h3 := h1.symm.trans h2
   simp only [Nat.add_zero, Result.ok.injEq, true_and] at h3
   rw [h3]
   congr 1
   unfold arr
   simp [List.map_take, List.map_drop, byteV]
   omega
 rw [e1] at hr
 exact ⟨_, hr, SBox.setRow h _, fun n hn => below_setRow (Below.refl _ _) hn _⟩
structure MidG (data : Nm) (s : Nm) (g0 g : Nat → Option Nm) (left : Lit → Bool) : Prop where
 old : ∀ k : Nat, left (.int .i64 (k : Int)) = true → g k = g0 k
 new : ∀ k : Nat, left (.int .i64 (k : Int)) = false → (∀ v, g k = some v → v = pageB s k ∧ k < 36) ∧ (g k = none → pageB s k = zero64)
theorem pageB_zero {data : Nm} {n k : Nat} (h : pageB data k = zero64) : pageB (resz data n) k = zero64 := by
 rw [pageB_resz, h]
 unfold zero64
 rw [List.take_replicate, List.replicate_append_replicate]
 congr 1
 omega
theorem pageB_gone (data : Nm) {n k : Nat} (h : n ≤ k * 64) : pageB (resz data n) k = zero64 := by
 rw [pageB_resz, show n - k * 64 = 0 by omega]
 rfl
theorem pageB_full (data : Nm) {n k : Nat} (h : k * 64 + 64 ≤ n) : pageB (resz data n) k = pageB data k := by
 rw [pageB_resz, show 64 - (n - k * 64) = 0 by omega, List.take_of_length_le (by rw [length_pageB]; omega)]
 simp
theorem pg_some {g : Nat → Option Nm} {z : Int} {v : Value} (h : natF .i64 (pgF g) (.int .i64 z) = some v) : ∃ (k : Nat) (u : Nm), z = k ∧ g k = some u ∧ v = .agg (arr u) := by
 unfold natF at h
 dsimp only at h
 by_cases hz : IntKind.i64 = IntKind.i64 ∧ 0 ≤ z
 · rw [if_pos hz] at h
   unfold pgF at h
   cases hg : g z.toNat with
   | none => rw [hg] at h; cases h
   | some u =>
     rw [hg] at h
     exact ⟨z.toNat, u, (Int.toNat_of_nonneg hz.2).symm, hg, (Option.some.inj h).symm⟩
 · rw [if_neg hz] at h; cases h
theorem Below.grown {a b : World} (h : Below a.heap.size a b) : a.grownBy b none := ⟨h.os, h.tape, h.output, h.size, fun i hi _ => h.block i hi⟩
theorem same_i64 (a k : Nat) : (Lit.int .i64 (a : Int)).sameKey (.int .i64 (k : Int)) = decide (a = k) := by
 unfold Lit.sameKey
 by_cases h : a = k
 · simp [h]
 · simp [h]; omega
theorem MidG.step {data s : Nm} {g0 g g' : Nat → Option Nm} {left : Lit → Bool} (h : MidG data s g0 g left) (k : Nat) (ho : ∀ y, y ≠ k → g' y = g y) (hn : (∀ v, g' k = some v → v = pageB s k ∧ k < 36) ∧ (g' k = none → pageB s k = zero64)) :
   MidG data s g0 g' (fun z => left z && !z.sameKey (.int .i64 (k : Int))) := by
 refine ⟨fun y hy => ?_, fun y hy => ?_⟩
 · simp only [same_i64, Bool.and_eq_true, Bool.not_eq_true', decide_eq_false_iff_not] at hy
   rw [ho y hy.2]; exact h.old y hy.1
 · by_cases e : y = k
   · subst e; exact hn
   · rw [ho y e]
     refine h.new y ?_
     simpa only [same_i64, e, decide_false, Bool.not_false, Bool.and_true] using hy
theorem pgF_del {g : Nat → Option Nm} {k : Nat} : (fun y => if y = k then none else pgF g y) = pgF (fun y => if y = k then none else g y) := by
 funext y
 unfold pgF
 by_cases e : y = k
 · simp only [e, if_true]; rfl
 · simp only [e, if_false]
theorem TreeAt.pgl {W : World} (h : TreeAt W E room q S) {x : Nat} (hk : (S.n x).kind ≠ 0) : E.B x < W.heap.size := by
 obtain ⟨g, _, h2⟩ := h.pg x hk
 exact h2.lt
theorem check_resize (wz : World) (x : Nat) (hk1 : (S.n x).kind = 1) (v1 v2 v3 : Value) (b : Nat)
   (h1 : CloAt True (errB ([x].any fun x => (S.n x).kind == 0) 3) v1 wz) (h2 : CloAt ((S.n x).kind ≠ 0) (errB ((S.n x).kind == 2) 181) v2 wz) (h3 : CloAt True 0 v3 wz)
   (hb : SBox wz b 93 #[v1, v2, v3]) :
   Calls Tryz.prog 46 #[.pointer (some ⟨E.t, 0, none⟩), .slice (some ⟨b, 0, none⟩) 3 3] wz fun e w' => e = .returned (.int .i64 0) ∧ Below wz.heap.size wz w' := by
 refine (check_clo E.t b [v1, v2, v3] [errB ((S.n x).kind == 0) 3, errB ((S.n x).kind == 2) 181, 0] wz (by simp) (by simp) hb ?_).mono ?_
 · intro i hi
   match i, hi with
   | 0, _ => simpa using h1.weak (fun _ => trivial)
   | 1, _ => exact h2.weak (fun hz => by rw [hk1]; decide)
   | 2, _ => exact h3.weak (fun _ => trivial)
   | i + 3, hi => exact absurd hi (by simp)
 · rintro e w' ⟨rfl, hb⟩
   exact ⟨by simp [errB, firstE, hk1], hb⟩
set_option maxHeartbeats 8000000 in
theorem resize_ok (wz : World) (hT : TreeAt wz E room q S) (x n : Nat) (hx : x < 4294967296) (hk1 : (S.n x).kind = 1) (hn : n ≤ 2304) :
   Calls Tryz.prog 137 #[.pointer (some ⟨E.t, 0, none⟩), .int .u32 x, .int .u32 n] wz fun e w' => e = .returned (.int .i64 0) ∧ TreeAt w' E room q (setD S x (resz (S.n x).data n)) ∧ Tch E.O wz w' := by
 have HT := Lib.hid hT
 have K0 := Lib.hid (show (S.n x).kind ≠ 0 by omega)
 have K1 := Lib.hid hk1
 obtain ⟨S', hS⟩ : ∃ S', setD S x (resz (S.n x).data n) = S' := ⟨_, rfl⟩
 rw [hS]
 have SS := Lib.hid hS
 clear hT hk1 hS
 go_enter Tryz.func137, Tryz.ntmps137
 go_wp2_with fail
 have A0 := Lib.hid ((Below.refl wz.heap.size wz).alloc (Nat.le_refl _) (.cells #[.int .u32 n] 37))
 have X0 := Lib.hid (SBox.new wz 37 #[.int .u32 n])
 have T0 := Lib.hid (HT.out.alloc (.cells #[.int .u32 n] 37))
 have SZ1 := Lib.hid (show (wz.alloc (.cells #[.int .u32 n] 37)).heap.size = wz.heap.size + 1 by simp)
 refine Calls.mono (clo_there (n := 0) (xs := [x]) ⟨wz.heap.size + 1, rfl, Nat.zero_le _, by simpa using SBox.new (wz.alloc (.cells #[.int .u32 n] 37)) 37 #[.int .u32 x]⟩ (Nat.zero_le _) (T0.out.alloc _) (by simpa using hx) (by simp)) ?_
 rintro e w3 ⟨u3, rfl, hu3, hb3⟩
 have B3 := Lib.hid (((Below.refl (wz.alloc (.cells #[.int .u32 n] 37)).heap.size (wz.alloc (.cells #[.int .u32 n] 37))).alloc (Nat.le_refl _) (.cells #[.int .u32 x] 37)).trans (hb3.mono (by simp)))
 have C3 := Lib.hid hu3
 obtain ⟨f3, l3, rfl, _⟩ := hu3
 have T3 := Lib.hid (T0.out.later B3.out)
 have X3 := Lib.hid (X0.out.later B3.out)
 clear hb3
 go_wp2_with fail
 refine Calls.mono (clo_file T3.out hx) ?_
 rintro e w5 ⟨u5, rfl, hu5, hb5⟩
 have B5 := Lib.hid hb5
 have C5 := Lib.hid hu5
 obtain ⟨f5, l5, rfl, _⟩ := hu5
 have T5 := Lib.hid (T3.out.later B5.out)
 have X5 := Lib.hid (X3.out.later B5.out)
 clear hb5
 have AL := Lib.hid ((Below.refl w5.heap.size w5).alloc (Nat.le_refl _) (.cells #[.func (.func f3) #[] l3, .func (.func f5) #[] l5, .func (.func 158) #[] #[.pointer (some ⟨wz.heap.size, 0, none⟩)]] 93))
 have CK := Lib.hid (check_resize (E := E) (S := S) (w5.alloc (.cells #[.func (.func f3) #[] l3, .func (.func f5) #[] l5, .func (.func 158) #[] #[.pointer (some ⟨wz.heap.size, 0, none⟩)]] 93)) x K1.out _ _ _ w5.heap.size
   ((C3.out.later B5.out).later AL.out) (C5.out.later AL.out) (⟨_, _, rfl, (fun W => enters_of Tryz.func158 (by kernel_rfl) rfl _ W), fun W hW _ => by
     have := resize1_any wz.heap.size n W ((X5.out.alloc _).later hW)
     have e0 : decide (2304 < n) = false := by simpa using hn
     rw [e0] at this
     exact this⟩) (SBox.new w5 _ _))
 have B04 := Lib.hid ((B3.out.trans (B5.out.mono B3.out.size)).trans (AL.out.mono (by have := B3.out.size; have := B5.out.size; omega)))
 have T6 := Lib.hid (T5.out.alloc (.cells #[.func (.func f3) #[] l3, .func (.func f5) #[] l5, .func (.func 158) #[] #[.pointer (some ⟨wz.heap.size, 0, none⟩)]] 93))
 have X6 := Lib.hid (X5.out.alloc (.cells #[.func (.func f3) #[] l3, .func (.func f5) #[] l5, .func (.func 158) #[] #[.pointer (some ⟨wz.heap.size, 0, none⟩)]] 93))
 clear C3 C5 T3 T5 B3 B5 AL X3 X5
 go_wp2_with fail
 refine Calls.mono CK.out ?_
 rintro e w6 ⟨rfl, hb6⟩
 have B6 := Lib.hid (A0.out.trans ((B04.out.trans (hb6.mono B04.out.size)).mono (by have := SZ1.out; omega)))
 have T7 := Lib.hid (T6.out.later hb6)
 have X7 := Lib.hid (X6.out.later hb6)
 clear hb6 CK B04 T6 X6 T0 X0 A0
 have LI := T7.out.look_is hx K0.out
 have hY := T7.out.top
 have Y0 := hY.cell 0
 have Y1 := hY.cell 1
 simp only [List.getElem?_toArray, List.getElem?_cons_zero, List.getElem?_cons_succ] at Y0 Y1
 have Yl := hY.lt
 have hV := T7.out.nd x K0.out
 have V0 := hV.cell 0
 have V1 := hV.cell 1
 have V2 := hV.cell 2
 have V3 := hV.cell 3
 have V4 := hV.cell 4
 have V5 := hV.cell 5
 have V6 := hV.cell 6
 simp only [List.getElem?_toArray, List.getElem?_cons_zero, List.getElem?_cons_succ] at V0 V1 V2 V3 V4 V5 V6
 have Vl := hV.lt
 clear hY hV
 obtain ⟨g0, hg0, hB0⟩ := T7.out.pg x K0.out
 obtain ⟨w7, cnt0, left0, hrun, hR0, hl0, hgr, hsz⟩ := hB0.range kInt Tryz.underlying99
 have G0 := Lib.hid hg0
 have R0 := Lib.hid hR0
 have L0 := Lib.hid hl0
 have GR := Lib.hid hgr
 have SZ7 := Lib.hid hsz
 clear hg0 hB0 hR0 hl0 hgr hsz
 go_wp2_with fail
 have TC0 : Tch (fun b => b = E.B x) w6 w7 := ⟨GR.out.os, GR.out.tape, GR.out.output, by rw [SZ7.out]; omega, fun b hb _ => GR.out.block b hb (by simp)⟩
 have M0 : MidG (S.n x).data (resz (S.n x).data n) g0 g0 left0 := by
   refine ⟨fun k _ => rfl, fun k hk => ⟨fun v hv => ?_, fun hv => pageB_zero (G0.out.no k hv)⟩⟩
   have h := L0.out (.int .i64 k) ⟨.int .i64 k, keyI (by have := (G0.out.is k v hv).2; omega)⟩
   rw [hk, natF_at, pgF, hv] at h
   cases h
 have START := Lib.hid (And.intro R0.out (And.intro M0 TC0))
 clear TC0 M0 LI V0 V1 V2 V3 V4 V5 V6 Vl Y0 Y1 Yl
 clear hrun
 go_loopw [9] (fun _ wr => ∃ g left cnt, VRange wr 3 (E.B x) w6.heap.size 36 (natF .i64 (pgF g)) left cnt ∧ MidG (S.n x).data (resz (S.n x).data n) g0 g left ∧ Tch (fun b => b = E.B x) w6 wr) (fun _ wr => wr.rangeLeft (E.B x) w6.heap.size)
 case atStart => exact ⟨g0, left0, cnt0, START.out⟩
 case round =>
   obtain ⟨g, left, cnt, hR, hM, hC⟩ := hrel
   have HM := Lib.hid hM
   have HC := Lib.hid hC
   have OLD : ∀ b, b < w6.heap.size → b ≠ E.B x → wr.heap[b]? = w6.heap[b]? := fun b h1 h2 => HC.out.block b h1 h2
   obtain ⟨gB, _, hBx⟩ := T7.out.pg x K0.out
   have nPB : E.P x ≠ E.B x := fun e => hBx.ne (T7.out.nd x K0.out) e
   have nXB : wz.heap.size ≠ E.B x := fun e => hBx.ne X7.out e
   have N9 := Lib.hid (show SBox wr (E.P x) 101 _ from (OLD _ (T7.out.nd x K0.out).lt nPB).trans (T7.out.nd x K0.out))
   have X9 := Lib.hid (show SBox wr wz.heap.size 37 #[.int .u32 n] from (OLD _ X7.out.lt nXB).trans X7.out)
   have NB := Lib.hid (And.intro nPB nXB)
   clear hM hC OLD hBx nPB nXB
   have RR := Lib.hid hR
   rcases hR.next kInt 0 with ⟨rfl, hlf, hrun⟩ | ⟨key, v, kl, w8, cnt', hkey, hlk, hf, hrun, hR8, hlt, hgr, hsz, hen⟩
   · have LF := Lib.hid hlf
     have hV := N9.out
     have V0 := hV.cell 0
     have V1 := hV.cell 1
     have V2 := hV.cell 2
     have V3 := hV.cell 3
     have V4 := hV.cell 4
     have V5 := hV.cell 5
     have V6 := hV.cell 6
     simp only [List.getElem?_toArray, List.getElem?_cons_zero, List.getElem?_cons_succ] at V0 V1 V2 V3 V4 V5 V6
     have Vl := hV.lt
     have F2 := hV.free 2
     have hX := X9.out
     have U0 := hX.cell 0
     simp only [List.getElem?_toArray, List.getElem?_cons_zero, List.getElem?_cons_succ] at U0
     have Ul := hX.lt
     clear hlf hV hX hR
     go_wp2_with fail
     go_ret
     have o := T7.out.own
     have hB := RR.out.vmap
     have nBP : E.B x ≠ E.P x := fun e => NB.out.1 e.symm
     refine ⟨rfl, ?_, ?_⟩
     · rw [← SS.out]
       refine T7.out.bytes K0.out _ (by rw [length_resz]; exact hn) ⟨g, ⟨fun y v hv => (HM.out.new y (LF.out _)).1 v hv, fun y hy => (HM.out.new y (LF.out _)).2 hy⟩, hB.other _ nBP⟩ ?_ ?_
       · have h := N9.out.set 2 (.int .u32 n)
         rw [length_resz]
         simpa using h
       · intro b h1 h2 h3
         exact (heap_setCell_other wr _ b _ h1).trans (HC.out.block b h3 h2)
     · exact (Tch.of B6.out).trans ((HC.out.mono (fun i _ e => by rw [e]; exact (o.2.2 x K0.out).2.2)).trans (Tch.cell (o.2.2 x K0.out).1))
   · obtain ⟨z, rfl, rfl, hwf⟩ := Maps.keyOf_int_inv Tryz.underlying3 hkey
     obtain ⟨k, u, rfl, hgk, rfl⟩ := pg_some hf
     have hk36 := (G0.out.is k u (by rw [← HM.out.old k hlk]; exact hgk)).2
     have hu := (G0.out.is k u (by rw [← HM.out.old k hlk]; exact hgk)).1
     have UU := Lib.hid hu
     have GK := Lib.hid hgk
     have G8 := Lib.hid hgr
     have S8 := Lib.hid hsz
     have CN := Lib.hid hlt
     have UL := Lib.hid (show u.length = 64 by rw [hu, length_pageB])
     have US := Lib.hid (show (arr u).size = 64 by rw [arr_size, UL.out])
     obtain ⟨w10, hw10, hA10, hB10⟩ := arr_new w8 u
     have A10 := Lib.hid hA10
     have HW := Lib.hid hw10
     have C10 := Lib.hid (show Tch (fun b => b = E.B x) w6 w10 from ⟨hB10.os.trans (hgr.os.trans HC.out.os), hB10.tape.trans (hgr.tape.trans HC.out.tape), hB10.output.trans (hgr.output.trans HC.out.output), Nat.le_trans HC.out.size (Nat.le_trans hgr.size hB10.size), fun b h1 h2 => (hB10.block b (by have := hgr.size; have := HC.out.size; omega)).trans ((hgr.block b (by have := HC.out.size; omega) (by simp; omega)).trans (HC.out.block b h1 h2))⟩)
     have R10 := Lib.hid (hR8.kept (Below.grown hB10) (by simp) (by simp))
     have N10 := Lib.hid (show SBox w10 (E.P x) 101 _ from (C10.out.block _ (T7.out.nd x K0.out).lt NB.out.1).trans (T7.out.nd x K0.out))
     have X10 := Lib.hid (show SBox w10 wz.heap.size 37 #[.int .u32 n] from (C10.out.block _ X7.out.lt NB.out.2).trans X7.out)
     have hV := N10.out
     have V0 := hV.cell 0
     have V1 := hV.cell 1
     have V2 := hV.cell 2
     have V3 := hV.cell 3
     have V4 := hV.cell 4
     have V5 := hV.cell 5
     have V6 := hV.cell 6
     simp only [List.getElem?_toArray, List.getElem?_cons_zero, List.getElem?_cons_succ] at V0 V1 V2 V3 V4 V5 V6
     have Vl := hV.lt
     have hX := X10.out
     have U0 := hX.cell 0
     simp only [List.getElem?_toArray, List.getElem?_cons_zero, List.getElem?_cons_succ] at U0
     have Ul := hX.lt
     clear hu hgk hR8 hgr hsz hR hf hkey hlk hV hX hA10 hB10 hlt hwf hw10
     have K36 := Lib.hid hk36
     rcases (by omega : n ≤ k * 64 ∨ (¬ n ≤ k * 64 ∧ n < k * 64 + 64) ∨ (¬ n ≤ k * 64 ∧ ¬ n < k * 64 + 64)) with c1 | ⟨c1, c2⟩ | ⟨c1, c2⟩
     · have t1 : (n : Int) - (k : Int) * 64 ≤ 0 := by omega
       obtain ⟨w11, cnt2, hdel, hR11, hle, htn⟩ := R10.out.drop kInt Tryz.underlying99 (keyI (x := k) (by omega)) 0
       have R11 := Lib.hid hR11
       have LE := Lib.hid hle
       have TN := Lib.hid htn
       have C1 := Lib.hid c1
       clear hR11 hle htn c1 R10
       go_wp2_with (first
         | (refine wpList_runTo rfl _ rfl _ _ (alloc_A _ _ _ rfl) ?_)
         | (refine wpList_store_row rfl _ _ _ rfl w8.heap.size (arr u) rfl rfl _ zeroA (SBox.new w8 127 zeroA) (by rw [US.out]; exact info_A) (by rw [US.out]; exact Array.size_replicate) (arr_one u) ?_
            rw [← HW.out]))
       go_roundw
       case rel =>
         rw [Maps.strike_twice] at R11
         exact ⟨fun y => if y = k then none else g y, _, cnt2, by have h := R11.out; rw [natF_del, pgF_del] at h; exact h, HM.out.step k (fun y hy => by simp [hy]) ⟨fun v hv => by simp at hv, fun _ => pageB_gone _ C1.out⟩, C10.out.trans (Tch.turned TN.out rfl)⟩
       case measure => rw [R11.out.left_eq, RR.out.left_eq]; have := LE.out; have := CN.out; omega
     · have t1 : ¬ (n : Int) - (k : Int) * 64 ≤ 0 := by omega
       have t2 : (n : Int) - (k : Int) * 64 < 64 := by omega
       have C1 := Lib.hid (And.intro c1 c2)
       obtain ⟨l, hl⟩ : ∃ l : Nat, n - k * 64 = l := ⟨_, rfl⟩
       have l64 : l < 64 := by omega
       have el : (n : Int) - (k : Int) * 64 = (l : Int) := by omega
       obtain ⟨w12, hclr, hA12, hB12⟩ := clear_row w10 w8.heap.size l u UL.out l64 A10.out
       have SZ10 := Lib.hid (show w10.heap.size = w8.heap.size + 1 by rw [HW.out]; simp)
       have HL := Lib.hid hl
       obtain ⟨v', hv'⟩ : ∃ v', u.take l ++ List.replicate (64 - l) 0 = v' := ⟨_, rfl⟩
       rw [hv'] at hA12
       have PV := Lib.hid (show v' = pageB (resz (S.n x).data n) k by rw [← hv', pageB_resz, HL.out, ← UU.out])
       have L12 := Lib.hid (show v'.length = 64 by rw [PV.out, length_pageB])
       have A12s := Lib.hid (show (arr v').size = 64 by rw [arr_size, L12.out])
       have A12 := Lib.hid hA12
       have BW := Lib.hid (hB12 w8.heap.size (Nat.le_refl _))
       have Wlt := Lib.hid (show w6.heap.size ≤ w8.heap.size from Nat.le_trans HC.out.size G8.out.size)
       have C12 := Lib.hid (show Tch (fun b => b = E.B x) w6 w12 from ⟨BW.out.os.trans C10.out.os, BW.out.tape.trans C10.out.tape, BW.out.output.trans C10.out.output, Nat.le_trans C10.out.size BW.out.size, fun b h1 h2 => (BW.out.block b (Nat.lt_of_lt_of_le h1 Wlt.out)).trans (C10.out.block b h1 h2)⟩)
       have R12 := Lib.hid (R10.out.kept (row := some w8.heap.size) ⟨BW.out.os, BW.out.tape, BW.out.output, BW.out.size, fun i h1 h2 => BW.out.block i (by have := SZ10.out; simp at h2; omega)⟩ (by have := T7.out.pgl K0.out; have := Wlt.out; simp; omega) (by have := R10.out.lt; have := RR.out.lt; have := G8.out.size; simp; omega))
       have R12d := Lib.hid (R12.out.kept (row := none) (W' := w12.drew) ⟨rfl, rfl, rfl, Nat.le_refl _, fun _ _ _ => rfl⟩ (by simp) (by simp))
       obtain ⟨w13, hput, hR13, htn⟩ := R12d.out.again kInt Tryz.underlying99 (keyI (x := k) (by omega)) (by rw [natF_at, pgF, GK.out]; rfl) (.agg (arr v'))
       have R13 := Lib.hid hR13
       have TN := Lib.hid htn
       have N12 := Lib.hid (show SBox w12.drew (E.P x) 101 _ from ((C12.out.block _ (T7.out.nd x K0.out).lt NB.out.1).trans (T7.out.nd x K0.out)))
       clear hA12 hB12 hR13 htn hv' c1 c2 hl R10
       have sl := fun w => sliceA_l w w8.heap.size l l64
       go_wp2_with (first
         | (refine wpList_runTo rfl _ rfl _ _ (alloc_A _ _ _ rfl) ?_)
         | (refine wpList_store_row rfl _ _ _ rfl w8.heap.size (arr u) rfl rfl _ zeroA (SBox.new w8 127 zeroA) (by rw [US.out]; exact info_A) (by rw [US.out]; exact Array.size_replicate) (arr_one u) ?_
            rw [← HW.out]))
       clear hclr sl V0 V1 V2 V3 V4 V5 V6 Vl U0 Ul t1 t2 el
       have hV := N12.out
       have V0 := hV.cell 0
       have V1 := hV.cell 1
       have V2 := hV.cell 2
       have V3 := hV.cell 3
       have V4 := hV.cell 4
       have V5 := hV.cell 5
       have V6 := hV.cell 6
       simp only [List.getElem?_toArray, List.getElem?_cons_zero, List.getElem?_cons_succ] at V0 V1 V2 V3 V4 V5 V6
       have Vl := hV.lt
       clear hV
       refine wp_region_phi2 (by kernel_rfl) (fun | 0 => some 60 | 1 => some 61 | 2 => some 62 | 3 => some 63 | 4 => some 64 | 5 => some 65 | 6 => none | _ => none) (fun a => ∃ x60 x61 x62 x63 x64 x65 : Value, a = ⟨#[Value.pointer (some { block := E.t, off := 0 }), Value.int IntKind.u32 ↑x, Value.int IntKind.u32 ↑n, undef, undef, Value.pointer (some { block := wz.heap.size, off := 0 }), Value.int IntKind.i64 0, Value.int IntKind.i64 0, Value.pointer (some { block := E.P x, off := 0 }), Value.int IntKind.i64 ↑k, Value.pointer (some { block := w8.heap.size, off := 0 }), Value.int IntKind.i64 ↑l, Value.pointer (some { block := E.t, off := 0 }), Value.pointer (some { block := E.t, off := 0 }), Value.int IntKind.u32 ↑x, Value.slice (some { block := wz.heap.size + 1, off := 0 }) 1 1, Value.func (Fn.func f3) #[] l3, Value.pointer (some { block := E.t, off := 0 }), Value.int IntKind.u32 ↑x, Value.func (Fn.func f5) #[] l5, Value.func (Fn.func 158) #[] #[Value.pointer (some { block := wz.heap.size, off := 0 })], Value.slice (some { block := w5.heap.size, off := 0 }) 3 3, Value.int IntKind.i64 0, Value.int IntKind.i64 0, Value.bool false, undef, Value.pointer (some { block := E.t, off := 0 }), Value.pointer (some { block := E.t, off := 0 }), Value.pointer (some { block := E.t, off := 1 }), Value.map (some E.m), Value.int IntKind.u32 ↑x, Value.pointer (some { block := E.P x, off := 0 }), Value.pointer (some { block := E.P x, off := 0 }), Value.pointer (some { block := E.P x, off := 0 }), Value.pointer (some { block := E.P x, off := 4 }), Value.map (some (E.B x)), Value.pointer (some { block := w6.heap.size, off := 0 }), Value.tuple #[Value.bool true, Value.int IntKind.i64 ↑k, Value.agg (arr u)], Value.bool true, Value.tuple #[Value.int IntKind.i64 ↑k, Value.agg (arr u)], Value.int IntKind.i64 ↑k, Value.agg (arr u), Value.int IntKind.u32 ↑n, Value.int IntKind.i64 ↑n, Value.int IntKind.i64 ↑k, Value.int IntKind.i64 (↑k * 64), Value.int IntKind.i64 ↑l, Value.bool false, Value.int IntKind.i64 ↑l, Value.bool false, u50, u51, u52, u53, u54, Value.bool true, Value.int IntKind.i64 ↑l, Value.bool true, Value.int IntKind.i64 ↑l, Value.slice (some { block := w8.heap.size, off := l }) (64 - l) (64 - l), x60, x61, x62, x63, x64, x65, undef, undef, undef, undef, undef], []⟩) (fun lst W => (lst 6 = false → W = w12.drew) ∧ (lst 6 = true → W = w13)) (fun _ _ _ => True) (fun | 0 => (fun v w => v = Value.pointer (some ⟨E.P x, 0, none⟩)) | 1 => (fun v w => v = Value.pointer (some ⟨E.P x, 0, none⟩)) | 2 => (fun v w => v = Value.pointer (some ⟨E.P x, 4, none⟩)) | 3 => (fun v w => v = Value.map (some (E.B x))) | 4 => (fun v w => v = Value.int .i64 k) | 5 => (fun v w => v = Value.agg (arr v')) | 6 => (fun v w => True) | _ => (fun _ _ => True)) (by kernel_rfl) ?st (by kernel_rfl) ?AA ⟨_, _, _, _, _, _, rfl⟩ ?G0 ?step ?done
       case st =>
         intro i j v w1 w2 hi hj hij hw hp hs
         have hi : i < 7 := hi
         match j, hp with
         | 0, hp | 1, hp | 2, hp | 3, hp | 4, hp | 5, hp | 6, hp => exact hp
         | j + 7, _ => exact trivial
       case AA =>
         rintro i a v hi ⟨_, _, _, _, _, _, rfl⟩
         match i, hi with
         | 0, _ | 1, _ | 2, _ | 3, _ | 4, _ | 5, _ | 6, _ => exact ⟨⟨_, _, _, _, _, _, rfl⟩, fun t h => by cases h <;> exact of_decide_eq_true rfl⟩
         | i + 7, hi => exact absurd hi (by simp)
       case G0 => exact ⟨fun _ => rfl, fun h => (by cases h)⟩
       case step =>
         rintro i a w1 lst hi ⟨x60, x61, x62, x63, x64, x65, rfl⟩ hl hcl hG hp
         refine wpOp_via (fun K hK => ?_)
         match i, hi with
         | 0, _ =>
           obtain ⟨hA, _⟩ := hG
           have h6 : lst 6 = false := Bool.eq_false_iff.2 fun h6 => by have := hcl 6 0 (by show (6 : Nat) < 7; decide) h6 (by kernel_rfl); rw [hl] at this; cases this
           obtain rfl := hA h6
           refine wpOp_at (by rfl) rfl ?_
           go_simp
           exact hK _ _ ⟨_, rfl, ⟨fun _ => rfl, fun h => absurd h (by show ¬ (if 6 = 0 then true else lst 6) = true; rw [if_neg (by decide), h6]; decide)⟩, trivial, rfl⟩
         | 1, _ =>
           obtain ⟨hA, _⟩ := hG
           have h6 : lst 6 = false := Bool.eq_false_iff.2 fun h6 => by have := hcl 6 1 (by show (6 : Nat) < 7; decide) h6 (by kernel_rfl); rw [hl] at this; cases this
           obtain rfl := hA h6
           obtain rfl : x60 = _ := hp 0 (by kernel_rfl)
           refine wpOp_at (by rfl) rfl ?_
           go_simp
           exact hK _ _ ⟨_, rfl, ⟨fun _ => rfl, fun h => absurd h (by show ¬ (if 6 = 1 then true else lst 6) = true; rw [if_neg (by decide), h6]; decide)⟩, trivial, rfl⟩
         | 2, _ =>
           obtain ⟨hA, _⟩ := hG
           have h6 : lst 6 = false := Bool.eq_false_iff.2 fun h6 => by have := hcl 6 2 (by show (6 : Nat) < 7; decide) h6 (by kernel_rfl); rw [hl] at this; cases this
           obtain rfl := hA h6
           obtain rfl : x61 = _ := hp 1 (by kernel_rfl)
           refine wpOp_at (by rfl) rfl ?_
           go_simp
           exact hK _ _ ⟨_, rfl, ⟨fun _ => rfl, fun h => absurd h (by show ¬ (if 6 = 2 then true else lst 6) = true; rw [if_neg (by decide), h6]; decide)⟩, trivial, rfl⟩
         | 3, _ =>
           obtain ⟨hA, _⟩ := hG
           have h6 : lst 6 = false := Bool.eq_false_iff.2 fun h6 => by have := hcl 6 3 (by show (6 : Nat) < 7; decide) h6 (by kernel_rfl); rw [hl] at this; cases this
           obtain rfl := hA h6
           obtain rfl : x62 = _ := hp 2 (by kernel_rfl)
           refine wpOp_at (by rfl) rfl ?_
           go_simp
           exact hK _ _ ⟨_, rfl, ⟨fun _ => rfl, fun h => absurd h (by show ¬ (if 6 = 3 then true else lst 6) = true; rw [if_neg (by decide), h6]; decide)⟩, trivial, rfl⟩
         | 4, _ =>
           obtain ⟨hA, _⟩ := hG
           have h6 : lst 6 = false := Bool.eq_false_iff.2 fun h6 => by have := hcl 6 4 (by show (6 : Nat) < 7; decide) h6 (by kernel_rfl); rw [hl] at this; cases this
           obtain rfl := hA h6
           refine wpOp_at (by rfl) rfl ?_
           go_simp
           exact hK _ _ ⟨_, rfl, ⟨fun _ => rfl, fun h => absurd h (by show ¬ (if 6 = 4 then true else lst 6) = true; rw [if_neg (by decide), h6]; decide)⟩, trivial, rfl⟩
         | 5, _ =>
           obtain ⟨hA, _⟩ := hG
           have h6 : lst 6 = false := Bool.eq_false_iff.2 fun h6 => by have := hcl 6 5 (by show (6 : Nat) < 7; decide) h6 (by kernel_rfl); rw [hl] at this; cases this
           obtain rfl := hA h6
           refine wpOp_at (by rfl) rfl ?_
           refine wp_load_row _ _ rfl w8.heap.size rfl 127 (arr v') (0, 0) _ A12.out under_A rfl (by rw [A12s.out]; exact info_A) ?_
           exact hK _ _ ⟨_, rfl, ⟨fun _ => rfl, fun h => absurd h (by show ¬ (if 6 = 5 then true else lst 6) = true; rw [if_neg (by decide), h6]; decide)⟩, trivial, rfl⟩
         | 6, _ =>
           obtain ⟨hA, _⟩ := hG
           obtain rfl := hA hl
           obtain rfl : x63 = _ := hp 3 (by kernel_rfl)
           obtain rfl : x64 = _ := hp 4 (by kernel_rfl)
           obtain rfl : x65 = _ := hp 5 (by kernel_rfl)
           refine wpOp_at (by rfl) rfl ?_
           go_simp
           exact hK _ _ ⟨undef, rfl, ⟨fun h => absurd h (by show ¬ (if 6 = 6 then true else lst 6) = false; rw [if_pos rfl]; decide), fun _ => rfl⟩, trivial, trivial⟩
         | i + 7, hi => exact absurd hi (by simp)
       case done =>
         rintro a w14 lst hl ⟨x60, x61, x62, x63, x64, x65, rfl⟩ ⟨_, hG⟩ hp
         obtain rfl := hG (hl 6 (by show (6 : Nat) < 7; decide))
         clear hp hl hput V0 V1 V2 V3 V4 V5 V6 Vl
         go_wp2_with fail
         go_roundw
         case rel =>
           exact ⟨fun y => if y = k then some v' else g y, _, ⟨cnt', by have h := R13.out; rw [natF_put, pgF_put] at h; exact h⟩, HM.out.step k (fun y hy => by simp [hy]) ⟨fun v hv => by simp only [if_true, Option.some.injEq] at hv; subst hv; exact ⟨PV.out, K36.out⟩, fun hv => by simp at hv⟩, C12.out.trans (Tch.drew.trans (Tch.turned TN.out rfl))⟩
         case measure => rw [R13.out.left_eq, RR.out.left_eq]; have := CN.out; omega
     · have t1 : ¬ (n : Int) - (k : Int) * 64 ≤ 0 := by omega
       have t2 : ¬ (n : Int) - (k : Int) * 64 < 64 := by omega
       have C1 := Lib.hid (And.intro c1 c2)
       clear c1 c2
       go_wp2_with (first
         | (refine wpList_runTo rfl _ rfl _ _ (alloc_A _ _ _ rfl) ?_)
         | (refine wpList_store_row rfl _ _ _ rfl w8.heap.size (arr u) rfl rfl _ zeroA (SBox.new w8 127 zeroA) (by rw [US.out]; exact info_A) (by rw [US.out]; exact Array.size_replicate) (arr_one u) ?_
            rw [← HW.out]))
       go_roundw
       case rel =>
         exact ⟨g, _, cnt', R10.out, HM.out.step k (fun y hy => rfl) ⟨fun v hv => by
           rw [GK.out] at hv
           obtain rfl := Option.some.inj hv
           exact ⟨by rw [pageB_full _ (by have := C1.out; omega)]; exact UU.out, K36.out⟩, fun hv => by rw [GK.out] at hv; cases hv⟩, C10.out⟩
       case measure => rw [R10.out.left_eq, RR.out.left_eq]; have := CN.out; omega
end Go.Proofs.YtmfhnhnmdeabeaaGreat.Tr
end
