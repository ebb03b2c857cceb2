/- Layer 37 (text): the words of a line are collected. -/
import Derived.Test.YtkljcgopikdjjaaGreatDoorM13
import Derived.Test.YtkljcgopikdjjaaGreatDoorM29
import Derived.Test.YtkljcgopikdjjaaGreatDoorM28
import Derived.Test.YtkljcgopikdjjaaGreatDoorM03
import Derived.Test.YtkljcgopikdjjaaGreatDoorM07
import Derived.Deep.DeepCutAuto
set_option linter.unusedVariables false
set_option linter.unusedSimpArgs false
set_option maxRecDepth 100000
section
namespace Go.Proofs.YtkljcgopikdjjaaGreatDoor.Tx
open Go.RowKit Go.Shelf Oct Path
set_option maxRecDepth 100000
attribute [local go_sem] Oper.semAt_some
theorem split_mem_len (b : UInt8) : ∀ (l y : List UInt8), y ∈ splitB b l → y.length ≤ l.length := by
 intro l
 induction l with
 | nil => intro y hy; simp [splitB] at hy; subst hy; simp
 | cons c r ih =>
   intro y hy;simp only [splitB] at hy
   split at hy
   · rw [List.mem_cons] at hy
     rcases hy with rfl | hy
     · simp
     · have := ih y hy; simp; omega
   · split at hy
     · rename_i h2
       rw [List.mem_cons] at hy
       rcases hy with rfl | hy
       · have := ih _ (by rw [h2]; exact List.mem_cons_self ..); simp; omega
       · have := ih y (by rw [h2]; exact List.mem_cons_of_mem _ hy); simp; omega
     · simp at hy; subst hy; simp
theorem wrap_q {q : Nat} (h : q < 4611686018427387904) : wrap64 ((q : Int) + 1) = ((q + 1 : Nat) : Int) := by
 unfold wrap64;omega
def lenV : Value → Nat
 | .slice _ n _ => n
 | _ => 0
def SL (r j : Nat) : Value := if j = 11 then .slice (some ⟨r, 30, none⟩) 0 0 else .slice (some ⟨r, 3 * j, none⟩) (11 - j) (11 - j)
theorem put_below {m D : Nat} {W : World} (hm : m ≤ D) (hD : D < W.heap.size) (o : Obj) : Below m W (W.putObj D o) := by
 have h := grownBy_putObj' W D o;exact ⟨h.os, h.tape, h.output, h.size, fun k hk => h.block k (by omega) (fun e => by cases e; omega)⟩
def kwl : List ByteArray := (List.range' 0 7).map fun k => B (kw k)
theorem B_inj {a b : List UInt8} (h : B a = B b) : a = b := by have := congrArg L h; simpa [L_B] using this
def kwI (y : List UInt8) : Int := match kwOf y with | some k => (k : Int) | none => -1
theorem idx_kwR (y : List UInt8) : ∀ r k, Lib.idxFromS ((List.range' k r).map fun k => B (kw k)) (B y) k = match kwR y k r with | some j => (j : Int) | none => -1 := by
 intro r
 induction r with
 | zero => intro k; rfl
 | succ r ih =>
   intro k;simp only [List.range'_succ, List.map_cons, Lib.idxFromS, kwR]
   by_cases h : kw k = y
   · simp [h]
   · have h2 : ¬ B (kw k) = B y := fun e => h (B_inj e)
     simp only [h, h2, if_false];exact ih (k + 1)
theorem index_kw (h : Nat) (y : List UInt8) (w : World) (hb : SBox w h 9 kwC) : Calls Tryz.prog 83 #[.slice (some ⟨h, 0, none⟩) 7 7, .string (B y)] w fun e w' => e = .returned (.int .i64 (kwI y)) ∧ w = w' := by
 have hk : kwl.length = 7 := rfl;refine (Tryz.slices_Index_string h 0 7 7 kwl (B y) w (by rw [hk]; omega) (by omega) (fun j hj => ?_)).mono ?_
 · rw [hk] at hj
   rw [Nat.zero_add, kw_cell hb j hj]
   match j, hj with
   | 0, _ | 1, _ | 2, _ | 3, _ | 4, _ | 5, _ | 6, _ => rfl
 · rintro e w' ⟨rfl, rfl⟩
   refine ⟨?_, rfl⟩;have e := idx_kwR y 7 0;have e2 : kwl.take 7 = kwl := rfl;rw [e2];show Ending.returned (.int .i64 (Lib.idxFromS kwl (B y) 0)) = _;unfold kwl;rw [e]
   rfl
theorem FT.mono {n n' : Nat} {a : Nat → Nat} {r : Nat} {w : World} (h : FT n a r w) (hn : n' ≤ n) : FT n' a r w :=
 ⟨h.row, ⟨Nat.le_trans hn h.lo.1, fun k hk h3 => Nat.le_trans hn (h.lo.2 k hk h3)⟩, h.at0, h.at1, h.at2, h.at4, h.at5, h.at6, h.at7, h.at8, h.at9, h.at10⟩
def StepAns (l : List UInt8) (w : World) (e : Ending) (w' : World) : Prop :=
 (match stepL mayM l with | some x => e = .returned x.val | none => e = wrongE) ∧ Below w.heap.size w w'
def fillM (w : World) (b : Nat) (y : M) : World := ((((((((((((w.setCell ⟨b, 0, none⟩ (.int .u8 y.k)).setCell ⟨b, 1, none⟩ (.int .i64 y.co)).setCell ⟨b, 2, none⟩ (.int .i64 y.n)).setCell ⟨b, 3, none⟩ (.int .u32 y.ino)).setCell ⟨b, 4, none⟩ (.int .u8 y.d)).setCell ⟨b, 5, none⟩ (.string (B y.p))).setCell ⟨b, 6, none⟩ (.string (B y.p2))).setCell ⟨b, 7, none⟩ (.int .i64 y.fd)).setCell ⟨b, 8, none⟩ (.int .i64 y.pg)).setCell ⟨b, 9, none⟩ (.int .u32 y.sz)).setCell ⟨b, 10, none⟩ (.string (B y.da))).setCell ⟨b, 11, none⟩ (.string (B y.t)))
theorem fillM_box {w : World} {b : Nat} {x : M} (h : SBox w b 40 x.cells) (y : M) : SBox (fillM w b y) b 40 y.cells := by
 unfold fillM M.cells at *;have h : SBox _ b 40 #[.int .u8 y.k, .int .i64 x.co, .int .i64 x.n, .int .u32 x.ino, .int .u8 x.d, .string (B x.p), .string (B x.p2), .int .i64 x.fd, .int .i64 x.pg, .int .u32 x.sz, .string (B x.da), .string (B x.t)] := h.set 0 (.int .u8 y.k);have h : SBox _ b 40 #[.int .u8 y.k, .int .i64 y.co, .int .i64 x.n, .int .u32 x.ino, .int .u8 x.d, .string (B x.p), .string (B x.p2), .int .i64 x.fd, .int .i64 x.pg, .int .u32 x.sz, .string (B x.da), .string (B x.t)] := h.set 1 (.int .i64 y.co);have h : SBox _ b 40 #[.int .u8 y.k, .int .i64 y.co, .int .i64 y.n, .int .u32 x.ino, .int .u8 x.d, .string (B x.p), .string (B x.p2), .int .i64 x.fd, .int .i64 x.pg, .int .u32 x.sz, .string (B x.da), .string (B x.t)] := h.set 2 (.int .i64 y.n);have h : SBox _ b 40 #[.int .u8 y.k, .int .i64 y.co, .int .i64 y.n, .int .u32 y.ino, .int .u8 x.d, .string (B x.p), .string (B x.p2), .int .i64 x.fd, .int .i64 x.pg, .int .u32 x.sz, .string (B x.da), .string (B x.t)] := h.set 3 (.int .u32 y.ino);have h : SBox _ b 40 #[.int .u8 y.k, .int .i64 y.co, .int .i64 y.n, .int .u32 y.ino, .int .u8 y.d, .string (B x.p), .string (B x.p2), .int .i64 x.fd, .int .i64 x.pg, .int .u32 x.sz, .string (B x.da), .string (B x.t)] := h.set 4 (.int .u8 y.d);have h : SBox _ b 40 #[.int .u8 y.k, .int .i64 y.co, .int .i64 y.n, .int .u32 y.ino, .int .u8 y.d, .string (B y.p), .string (B x.p2), .int .i64 x.fd, .int .i64 x.pg, .int .u32 x.sz, .string (B x.da), .string (B x.t)] := h.set 5 (.string (B y.p));have h : SBox _ b 40 #[.int .u8 y.k, .int .i64 y.co, .int .i64 y.n, .int .u32 y.ino, .int .u8 y.d, .string (B y.p), .string (B y.p2), .int .i64 x.fd, .int .i64 x.pg, .int .u32 x.sz, .string (B x.da), .string (B x.t)] := h.set 6 (.string (B y.p2));have h : SBox _ b 40 #[.int .u8 y.k, .int .i64 y.co, .int .i64 y.n, .int .u32 y.ino, .int .u8 y.d, .string (B y.p), .string (B y.p2), .int .i64 y.fd, .int .i64 x.pg, .int .u32 x.sz, .string (B x.da), .string (B x.t)] := h.set 7 (.int .i64 y.fd);have h : SBox _ b 40 #[.int .u8 y.k, .int .i64 y.co, .int .i64 y.n, .int .u32 y.ino, .int .u8 y.d, .string (B y.p), .string (B y.p2), .int .i64 y.fd, .int .i64 y.pg, .int .u32 x.sz, .string (B x.da), .string (B x.t)] := h.set 8 (.int .i64 y.pg);have h : SBox _ b 40 #[.int .u8 y.k, .int .i64 y.co, .int .i64 y.n, .int .u32 y.ino, .int .u8 y.d, .string (B y.p), .string (B y.p2), .int .i64 y.fd, .int .i64 y.pg, .int .u32 y.sz, .string (B x.da), .string (B x.t)] := h.set 9 (.int .u32 y.sz);have h : SBox _ b 40 #[.int .u8 y.k, .int .i64 y.co, .int .i64 y.n, .int .u32 y.ino, .int .u8 y.d, .string (B y.p), .string (B y.p2), .int .i64 y.fd, .int .i64 y.pg, .int .u32 y.sz, .string (B y.da), .string (B x.t)] := h.set 10 (.string (B y.da));have h : SBox _ b 40 #[.int .u8 y.k, .int .i64 y.co, .int .i64 y.n, .int .u32 y.ino, .int .u8 y.d, .string (B y.p), .string (B y.p2), .int .i64 y.fd, .int .i64 y.pg, .int .u32 y.sz, .string (B y.da), .string (B y.t)] := h.set 11 (.string (B y.t));exact h
theorem fillM_tch (w : World) (b : Nat) (y : M) : Tch (fun q => q = b) w (fillM w b y) := (((((((((((((Tch.refl (fun q => q = b) w).trans (Tch.cell (O := fun q => q = b) rfl)).trans (Tch.cell (O := fun q => q = b) rfl)).trans (Tch.cell (O := fun q => q = b) rfl)).trans (Tch.cell (O := fun q => q = b) rfl)).trans (Tch.cell (O := fun q => q = b) rfl)).trans (Tch.cell (O := fun q => q = b) rfl)).trans (Tch.cell (O := fun q => q = b) rfl)).trans (Tch.cell (O := fun q => q = b) rfl)).trans (Tch.cell (O := fun q => q = b) rfl)).trans (Tch.cell (O := fun q => q = b) rfl)).trans (Tch.cell (O := fun q => q = b) rfl)).trans (Tch.cell (O := fun q => q = b) rfl))
theorem cells_one (x : M) : x.cells.all (·.oneCell') = true := by simp [M.cells, Value.oneCell']
theorem out_panic {F : Fence} {n D : Nat} {l : List UInt8} {w w2 : World} {tmps : Array Value} (hK : w2.heap[D]? = some (.deferred (some []))) (hD : w.heap.size ≤ D) (hS : stepL mayM l = none) (hB : Below w.heap.size w w2) :
   bodyPostM F n Tryz.prog Tryz.f37 (StepAns l w) (Exit.panic [{ v := .iface 130 (.agg #[]), recovered := false }]) { tmps := tmps, defers := [{ target := .collected D, args := #[] }] } w2 := by
 have hlt : D < w2.heap.size := (Array.getElem?_eq_some_iff.1 hK).1;refine ⟨by simp, .inl ⟨_, _, rfl, run_takeDeferred hK, ?_⟩⟩;show StepAns l w _ _;unfold StepAns;rw [hS];exact ⟨rfl, hB.trans (put_below hD hlt _)⟩
theorem out_ret {F : Fence} {n D : Nat} {l : List UInt8} {w w2 : World} {tmps : Array Value} {x : M} (hK : w2.heap[D]? = some (.deferred (some []))) (hD : w.heap.size ≤ D) (hS : stepL mayM l = some x) (hB : Below w.heap.size w w2)
   (hr : ∀ W, W = w2.putObj D (.deferred none) → (results Tryz.f37 tmps).run Tryz.prog W = .ok x.val W) :
   bodyPostM F n Tryz.prog Tryz.f37 (StepAns l w) Exit.ret { tmps := tmps, defers := [{ target := .collected D, args := #[] }] } w2 := by
 have hlt : D < w2.heap.size := (Array.getElem?_eq_some_iff.1 hK).1;refine ⟨by simp, .inl ⟨_, _, rfl, run_takeDeferred hK, ?_⟩⟩;refine ⟨x.val, hr _ rfl, ?_⟩;unfold StepAns;rw [hS];exact ⟨rfl, hB.trans (put_below hD hlt _)⟩
def zeroC : Array Value := M.zero.cells
set_option maxHeartbeats 2000000 in
theorem step_main_in (F : Fence) (n : Nat) (HW : Hid (F = Fence.wide)) (hro : F.round = none) (hn : 4 ≤ n) (s : ByteArray) (hs : s.size ≤ 20000) (w : World) (hlay : Lay w) :
   CallsIn F n Tryz.prog 37 #[.string s] w (StepAns (L s) w) := by
 have h1 : 1 ≤ n := by omega
 have hlay5 := hlay.size;refine callsIn_of_wp_marks Tryz.func37 rfl (fn_w HW _) ?_ hro;simp only [Tryz.ntmps37, List.size_toArray, List.length_cons, List.length_nil, Nat.reduceAdd, Nat.reduceSub, Array.replicate_succ, Array.replicate_zero, List.push_toArray, List.append_toArray, List.nil_append, List.cons_append]
 gi_wp2_with fail
 refine ⟨fn_w HW _, ?_⟩;refine (parts_in F (n - 1) (fn_w HW _) hro _ _ _).mono ?_;rintro e w' ⟨rfl, rfl⟩
 gi_wp2_with fail
 obtain ⟨i0, hi, hz0, hz1, hz2⟩ := info_parts info_str;have bX := SBox.new w 40 zeroC;have bL := Boxed.new (w.alloc (.cells zeroC 40)) 59 (.slice none 0 0);have bS := Boxed.new ((w.alloc (.cells zeroC 40)).alloc (.cells #[.slice none 0 0] 59)) 9 (.string s);have bG := Boxed.new (((w.alloc (.cells zeroC 40)).alloc (.cells #[.slice none 0 0] 59)).alloc (.cells #[.string s] 9)) 9 (.string ⟨#[32]⟩);simp only [World.size_alloc] at bL bS bG
 have hbs : (splitB 32 (L s)).length ≤ 100001 := by
   have h : ∀ l : List UInt8, (splitB 32 l).length ≤ l.length + 1 := by
     intro l
     induction l with
     | nil => simp [splitB]
     | cons c r ih =>
       simp only [splitB]
       split
       · simp; omega
       · split
         · rename_i h2; rw [h2] at ih; simp at ih ⊢; omega
         · simp
   have := h (L s);rw [len_L] at this;omega
 have hB0 : Below (w.heap.size + 1) (w.alloc (.cells zeroC 40)) ((((w.alloc (.cells zeroC 40)).alloc (.cells #[.slice none 0 0] 59)).alloc (.cells #[.string s] 9)).alloc (.cells #[.string ⟨#[32]⟩] 9)) := (((Below.refl _ _).alloc (by simp) _).alloc (by simp) _).alloc (by simp) _;have hBs : B (L s) = s := rfl;unfold zeroC M.zero M.cells at bX bL bS bG hB0
 refine wpIn_rangeFunc_rel hro h1 (gf := 126) (lb := #[.pointer (some ⟨w.heap.size + 1 + 1, 0, none⟩), .pointer (some ⟨w.heap.size + 1 + 1 + 1, 0, none⟩)]) rfl (fn_w HW _) (enters_of Tryz.func126 (by kernel_rfl) rfl)
   (parts_seq F (n - 1) HW hro (by omega) 32 (w.heap.size + 1 + 1) (w.heap.size + 1 + 1 + 1) (by omega) (L s) (by rw [len_L]; omega) _ (bS.alloc _) bG) (fun X Y h => h.keeps _) (fun h k => ⟨keptBox_t h.1 k.1, keptBox_t h.2 k.2⟩) (fun W l o o' hl h2 h3 h4 => ⟨keptBox_b (by simp) W l o o' hl h2 h3 h4, keptBox_b (by simp) W l o o' hl h2 h3 h4⟩) (Below.refl _ _) (fun _ => rfl)
   (fun pre W => (Held (w.heap.size + 1) (w.heap.size + 1 + 1 + 1 + 1) pre W ∧ w.heap.size + 1 + 1 + 1 + 1 ≤ W.heap.size) ∧ Below (w.heap.size + 1) (w.alloc (.cells #[Value.int .u8 0, .int .i64 0, .int .i64 0, .int .u32 0, .int .u8 0, .string (B []), .string (B []), .int .i64 0, .int .i64 0, .int .u32 0, .string (B []), .string (B [])] 40)) W)
   (fun _ _ _ => False)
   (OwnFrom.and (OwnFrom.and (Own.from (held_own _ _) _) (fun _ _ _ _ hs hg _ => Nat.le_trans hs hg.size)) (ownFrom_below (by simp) (by simp)))
   (fun c => ownFrom_pure _ _)
   (fun pre X Y h t => ⟨⟨h.1.1.turns t (by omega) (by omega), Nat.le_trans h.1.2 t.1.size⟩, t.below h.2 (by omega) (by simp)⟩)
   (fun c pre X Y h t => h)
   ⟨⟨⟨_, (bL.alloc _).alloc _, World.ownsRow_nil _ _ _ _, trivial⟩, by simp⟩, hB0⟩
   (fun x => { tmps := #[.string s, undef, .pointer (some ⟨w.heap.size, 0, none⟩), .pointer (some ⟨w.heap.size + 1, 0, none⟩), .string (B x), undef, undef, undef, undef, undef, undef, undef, .string s, .func (.func 126) #[] #[.pointer (some ⟨w.heap.size + 1 + 1, 0, none⟩), .pointer (some ⟨w.heap.size + 1 + 1 + 1, 0, none⟩)], .string (B x), undef, undef, undef, undef, undef, undef, undef, undef, undef, undef, undef, undef, undef, undef, undef, undef, undef, undef, undef, undef, undef, undef, undef, undef, undef, undef, undef, undef, undef, undef, undef, undef, undef, undef, undef, undef, undef, undef, undef, undef, undef, undef, undef, undef, undef, undef, undef, undef, undef, undef, undef, undef, undef, undef, undef, undef, undef, undef, undef, undef, undef, undef, undef, undef, undef, undef], defers := [] }) ?assign ?body ?done ?stop
 case assign =>
   intro l x W K hK
   gi_wp2
   exact hK
 case body =>
   rintro l pre x W ⟨⟨hH, hS⟩, hB⟩ hlen;obtain ⟨hmem, hlen2⟩ := prefix_mem hlen;obtain ⟨v, hv, hrow, _⟩ := hH;have c1 := hv.cell;have f1 := hv.frozen
   have hlenx : x.length ≤ 100000 := by
     have h : ∀ (l : List UInt8) y, y ∈ splitB 32 l → y.length ≤ l.length := by
       intro l
       induction l with
       | nil => intro y hy; simp [splitB] at hy; subst hy; simp
       | cons c r ih =>
         intro y hy;simp only [splitB] at hy
         split at hy
         · rw [List.mem_cons] at hy
           rcases hy with rfl | hy
           · simp
           · have := ih y hy; simp; omega
         · split at hy
           · rename_i h2
             rw [List.mem_cons] at hy
             rcases hy with rfl | hy
             · have := ih _ (by rw [h2]; exact List.mem_cons_self ..); simp; omega
             · have := ih y (by rw [h2]; exact List.mem_cons_of_mem _ hy); simp; omega
           · simp at hy; subst hy; simp
     have := h _ x hmem;rw [len_L] at this;omega
   gi_wp2_with (gi_at_builtin; refine wpListIn_append_own _ rfl _ _ 59 rfl (w.heap.size + 1 + 1 + 1 + 1) 9 i0 (.string ⟨#[]⟩) 1 16 Tryz.underlying59 hi hz0 hz1 hz2 rfl (by decide) _ _ _ rfl (hrow.alloc _) ⟨W.heap.size, 0, none⟩ 1 1 [.string (B x)] rfl rfl (cell_one_new _ _ _) (by simp [Value.oneCell']) (by unfold maxLen; omega) (by omega) (by simp; omega) ?_; intro v' W2 hown2 hgrow2 _; obtain ⟨g', cap', rfl⟩ := ownsRow_succ hown2; have hv2 : Boxed W2 (w.heap.size + 1) 59 v := (hv.alloc _).kept hgrow2 (fun e => by have := (hrow.lt _ e.symm).1; omega); have c3 := hv2.cell; have f3 := hv2.frozen)
   have hgrow3 : (W.alloc (.cells #[.string (B x)] 9)).grownBy W2 v.ownBlock := hgrow2;clear hgrow2;have hB2 : Below (w.heap.size + 1) _ W2 := (hB.alloc (by omega) (.cells #[.string (B x)] 9)).grown hgrow3 (by simp; omega) (fun k e => by have := (hrow.lt _ e).1; omega);have hbx2 : ∀ q, q < w.heap.size + 1 + 1 + 1 + 1 → KeptBox q 9 W W2 := fun q hq u hu => (hu.alloc _).kept hgrow3 (fun e => by have := (hrow.lt _ e.symm).1; omega)
   have hk2 : ∀ b, KeepsFrom b W W2 := by
     intro b;refine ⟨Nat.le_trans (by simp) hgrow3.size, fun k o hk0 hk ho => ?_⟩;have hk4 : (W.alloc (.cells #[.string (B x)] 9)).heap[k]? = some o := (Below.heap_alloc _ _ _ (Array.getElem?_eq_some_iff.1 hk).1).trans hk;refine (hgrow3.block k (Array.getElem?_eq_some_iff.1 hk4).1 (fun e => ?_)).trans hk4
     rcases hrow.2 with ⟨rfl, _⟩ | ⟨g, cap, cur, rfl, _, hgb, _⟩
     · simp [Value.ownBlock] at e
     · simp only [Value.ownBlock, Option.some.injEq] at e
       subst e;rw [hgb] at hk;cases hk;cases ho
   have hsz2 : w.heap.size + 1 + 1 + 1 + 1 ≤ W2.heap.size := Nat.le_trans hS (Nat.le_trans (by simp) hgrow3.size);refine ⟨?_, ?_, ⟨⟨_, hv2.set _, ?_, trivial⟩, ?_⟩, ?_⟩
   · exact (hk2 _).trans ((KeepsOthers.setCell _ _ _).from _)
   · exact ⟨fun u hu => (hbx2 _ (by omega) u hu).other (by omega) _, fun u hu => (hbx2 _ (by omega) u hu).other (by omega) _⟩
   · have := ownsRow_setCell_below hown2 (a := ⟨w.heap.size + 1, 0, none⟩) (by simp) (.slice (some ⟨g', 0, none⟩) (pre.length + 1) cap')
     simpa [strV] using this
   · exact Nat.le_trans hsz2 (KeepsWalks.setCell W2 _ _).size
   · exact hB2.setCell (p := ⟨w.heap.size + 1, 0, none⟩) (by simp) _
 case done =>
   rintro D ys W hD rfl ⟨⟨hH, hS⟩, hB⟩ hK
   rename_i KK HKK
   obtain ⟨v, hv0, hrow, -⟩ := hH;refine HKK _ _ ?_;refine wpIn_plain_w HW ?_;clear HKK
   obtain ⟨y0, ws, hy⟩ : ∃ y0 ws, splitB 32 (L s) = y0 :: ws := by
     cases h : splitB 32 (L s) with
     | nil => exact absurd h (split_ne 32 (L s))
     | cons a b => exact ⟨a, b, rfl⟩
   rw [hy] at hrow;have hSY := Lib.hid hy
   obtain ⟨gr, cap, cur, rfl, hg, hcur, hcap, hmx, hsz, htk⟩ : ∃ gr cap cur, v = .slice (some ⟨gr, 0, none⟩) (ws.length + 1) cap ∧ w.heap.size + 1 + 1 + 1 + 1 ≤ gr ∧ W.heap[gr]? = some (.cells cur 9 (0, 0)) ∧ ws.length + 1 ≤ cap ∧ cap ≤ maxLen ∧ cur.size = cap * 1 ∧ cur.toList.take ((ws.length + 1) * 1) = (y0 :: ws).map strV := by
     rcases hrow.2 with ⟨_, h0⟩ | ⟨g, cap, cur, e, r⟩
     · simp at h0
     · exact ⟨g, cap, cur, e, r⟩
   have hgl := Lib.hid (show gr < W.heap.size from (Array.getElem?_eq_some_iff.1 hcur).1)
   have hcw := Lib.hid (show ∀ i (hi : i < (y0 :: ws).length), W.cell? ⟨gr, i, none⟩ = some (strV ((y0 :: ws)[i])) from by
     intro i hi;have h1 : (cur.toList.take ((ws.length + 1) * 1))[i]? = some (strV ((y0 :: ws)[i])) := by rw [htk, List.getElem?_map, List.getElem?_eq_getElem hi]; rfl
     rw [List.getElem?_take] at h1
     split at h1
     · rw [show W.cell? ⟨gr, i, none⟩ = cur[i]? from by simp [World.cell?, hcur]]
       simpa using h1
     · cases h1)
   have hv := Lib.hid hv0;have hXB := Lib.hid (show MBox W w.heap.size M.zero from (hB.block w.heap.size (by omega)).trans bX);have hLW := Lib.hid (hlay.later ((((Below.refl w.heap.size w).alloc (Nat.le_refl _) (.cells M.zero.cells 40))).trans (hB.mono (by omega))));have hBW := Lib.hid ((((Below.refl w.heap.size w).alloc (Nat.le_refl _) (.cells M.zero.cells 40))).trans (hB.mono (by omega)));clear hrow hcur htk hv0 hy hB bX bL bS bG hB0 hlay;go_wp2_with fail;refine wp_region_phi3 (by kernel_rfl) (fun | 0 => some 19 | 1 => some 20 | 2 => some 21 | 3 => some 22 | 4 => some 23 | 5 => some 24 | 6 => some 5 | 7 => some 6 | _ => none) (fun a => ∃ x5 x6 x19 x20 x21 x22 x23 x24 : Value, a = ⟨#[.string s, undef, .pointer (some ⟨w.heap.size, 0, none⟩), .pointer (some ⟨w.heap.size + 1, 0, none⟩), undef, x5, x6, undef, undef, undef, undef, undef, .string s, .func (.func 126) #[] #[.pointer (some ⟨w.heap.size + 1 + 1, 0, none⟩), .pointer (some ⟨w.heap.size + 1 + 1 + 1, 0, none⟩)], undef, undef, undef, undef, undef, x19, x20, x21, x22, x23, x24, undef, undef, undef, undef, undef, undef, undef, undef, undef, undef, undef, undef, undef, undef, undef, undef, undef, undef, undef, undef, undef, undef, undef, undef, undef, undef, undef, undef, undef, undef, undef, undef, undef, undef, undef, undef, undef, undef, undef, undef, undef, undef, undef, undef, undef, undef, undef, undef, undef, undef, undef, undef, undef, undef, undef, undef], [{ target := .collected D, args := #[] }]⟩) (fun lst W' => Below W.heap.size W W') (fun _ w w' => Below w.heap.size w w') (fun | 0 => (fun f w => ∃ h, f 0 = Value.slice (some ⟨h, 0, none⟩) 7 7 ∧ SBox w h 9 kwC) | 1 => (fun f w => f 1 = Value.slice (some ⟨gr, 0, none⟩) (ws.length + 1) cap) | 2 => (fun f w => f 2 = Value.pointer (some ⟨gr, 0, none⟩)) | 3 => (fun f w => f 3 = Value.string (B y0)) | 4 => (fun f w => f 4 = Value.int .i64 (kwI y0)) | 5 => (fun f w => ∃ a r, f 5 = Value.slice (some ⟨r, 0, none⟩) 11 11 ∧ FT W.heap.size a r w) | 6 => (fun f w => f 6 = Value.int .i64 (kwI y0)) | 7 => (fun f w => ∃ a r, f 7 = Value.slice (some ⟨r, 0, none⟩) 11 11 ∧ FT W.heap.size a r w) | _ => (fun _ _ => True)) (by kernel_rfl) ?stb ?dep (by kernel_rfl) ?AA ⟨_, _, _, _, _, _, _, _, rfl⟩ ?G0 ?step ?done
   case stb =>
     intro i j v w1 w2 hi hj hij hw hp hs;have hi : i < 8 := hi
     match j, hp with
     | 0, hp =>
       obtain ⟨h, h1, h2⟩ := hp;exact ⟨h, h1, h2.later hs⟩
     | 1, hp | 2, hp | 3, hp | 4, hp => exact hp
     | 5, hp =>
       obtain ⟨a, r, h1, h2⟩ := hp;exact ⟨a, r, h1, h2.later hs⟩
     | 6, hp => exact hp
     | 7, hp =>
       obtain ⟨a, r, h1, h2⟩ := hp;exact ⟨a, r, h1, h2.later hs⟩
     | j + 8, _ => exact trivial
   case dep =>
     intro j f g w hj hfg hp;have hj : j < 8 := hj
     match j, hp, hfg with
     | 0, hp, hfg =>
       have hq : ∃ h, f 0 = Value.slice (some ⟨h, 0, none⟩) 7 7 ∧ SBox w h 9 kwC := hp;rw [hfg 0 (by show 0 < 8; decide) (by first | exact .inl rfl | exact .inr (by kernel_rfl))] at hq;exact hq
     | 1, hp, hfg =>
       have hq : f 1 = Value.slice (some ⟨gr, 0, none⟩) (ws.length + 1) cap := hp;rw [hfg 1 (by show 1 < 8; decide) (by first | exact .inl rfl | exact .inr (by kernel_rfl))] at hq;exact hq
     | 2, hp, hfg =>
       have hq : f 2 = Value.pointer (some ⟨gr, 0, none⟩) := hp;rw [hfg 2 (by show 2 < 8; decide) (by first | exact .inl rfl | exact .inr (by kernel_rfl))] at hq;exact hq
     | 3, hp, hfg =>
       have hq : f 3 = Value.string (B y0) := hp;rw [hfg 3 (by show 3 < 8; decide) (by first | exact .inl rfl | exact .inr (by kernel_rfl))] at hq;exact hq
     | 4, hp, hfg =>
       have hq : f 4 = Value.int .i64 (kwI y0) := hp;rw [hfg 4 (by show 4 < 8; decide) (by first | exact .inl rfl | exact .inr (by kernel_rfl))] at hq;exact hq
     | 5, hp, hfg =>
       have hq : ∃ a r, f 5 = Value.slice (some ⟨r, 0, none⟩) 11 11 ∧ FT W.heap.size a r w := hp;rw [hfg 5 (by show 5 < 8; decide) (by first | exact .inl rfl | exact .inr (by kernel_rfl))] at hq;exact hq
     | 6, hp, hfg =>
       have hq : f 6 = Value.int .i64 (kwI y0) := hp;rw [hfg 6 (by show 6 < 8; decide) (by first | exact .inl rfl | exact .inr (by kernel_rfl))] at hq;exact hq
     | 7, hp, hfg =>
       have hq : ∃ a r, f 7 = Value.slice (some ⟨r, 0, none⟩) 11 11 ∧ FT W.heap.size a r w := hp;rw [hfg 7 (by show 7 < 8; decide) (by first | exact .inl rfl | exact .inr (by kernel_rfl))] at hq;exact hq
     | j + 8, _, _ => exact trivial
   case AA =>
     rintro i a v hi ⟨_, _, _, _, _, _, _, _, rfl⟩
     match i, hi with
     | 0, _ | 1, _ | 2, _ | 3, _ | 4, _ | 5, _ | 6, _ | 7, _ => exact ⟨⟨_, _, _, _, _, _, _, _, rfl⟩, fun t h => by cases h <;> exact of_decide_eq_true rfl⟩
     | i + 8, hi => exact absurd hi (by simp)
   case G0 => exact (Below.refl _ _).drew
   case step =>
     rintro i a w1 lst hi ⟨x5, x6, x19, x20, x21, x22, x23, x24, rfl⟩ hl hcl hG hp;refine wpOp_via (fun K hK => ?_)
     match i, hi with
     | 0, _ =>
       have hb := hG;refine wpOp_at (by rfl) rfl ?_;go_simp;refine Calls.mono (words_any w1) ?_;rintro e w2 ⟨rfl, h1, h3⟩;exact hK _ _ ⟨_, rfl, hb.trans (h3.mono hb.size), h3, _, rfl, h1⟩
     | 1, _ =>
       have hb := hG;have c1 := Boxed.cell (show Boxed w1 (w.heap.size + 1) 59 _ from (hb.block _ hv.out.lt).trans hv.out);refine wpOp_at (by rfl) rfl ?_;go_simp;exact hK _ _ ⟨_, rfl, hb, Below.refl _ _, rfl⟩
     | 2, _ =>
       have hb := hG;obtain rfl : x20 = _ := hp 1 (by kernel_rfl);have g0 : (0 : Int) < ((ws.length + 1 : Nat) : Int) := by omega
       refine wpOp_at (by rfl) rfl ?_;go_simp;exact hK _ _ ⟨_, rfl, hb, Below.refl _ _, rfl⟩
     | 3, _ =>
       have hb := hG;obtain rfl : x21 = _ := hp 2 (by kernel_rfl);have c1 := (hb.cell (p := ⟨gr, 0, none⟩) hgl.out).trans (hcw.out 0 (by simp));simp only [List.getElem_cons_zero] at c1;unfold strV at c1;refine wpOp_at (by rfl) rfl ?_;go_simp;exact hK _ _ ⟨_, rfl, hb, Below.refl _ _, rfl⟩
     | 4, _ =>
       have hb := hG;obtain ⟨h, e19, h2⟩ := hp 0 (by kernel_rfl);change x19 = _ at e19;subst e19;obtain rfl : x22 = _ := hp 3 (by kernel_rfl);refine wpOp_at (by rfl) rfl ?_;go_simp;refine Calls.mono (index_kw h y0 w1 h2) ?_;rintro e w2 ⟨rfl, rfl⟩;exact hK _ _ ⟨_, rfl, hb, Below.refl _ _, rfl⟩
     | 5, _ =>
       have hb := hG;refine wpOp_at (by rfl) rfl ?_;go_simp;refine Calls.mono (fields_any w1) ?_;rintro e w2 ⟨a, r, rfl, h1, h3⟩;exact hK _ _ ⟨_, rfl, hb.trans (h3.mono hb.size), h3, a, r, rfl, h1.mono hb.size⟩
     | 6, _ =>
       have hb := hG;obtain rfl : x23 = _ := hp 4 (by kernel_rfl);refine wpOp_at (by rfl) rfl ?_;go_simp;exact hK _ _ ⟨_, rfl, hb, Below.refl _ _, rfl⟩
     | 7, _ =>
       have hb := hG;obtain ⟨a, r, e24, h2⟩ := hp 5 (by kernel_rfl);change x24 = _ at e24;subst e24;refine wpOp_at (by rfl) rfl ?_;go_simp;exact hK _ _ ⟨_, rfl, hb, Below.refl _ _, a, r, rfl, h2⟩
     | i + 8, hi => exact absurd hi (by simp)
   case done =>
     rintro a9 w2 lst hl ⟨x5, x6, x19, x20, x21, x22, x23, x24, rfl⟩ hb hp;obtain rfl : x5 = _ := hp 6 (by decide);obtain ⟨a, r, e6, h2⟩ := hp 7 (by decide);change x6 = _ at e6;subst e6;clear hp;have FT2 := Lib.hid h2;have HB2 := Lib.hid hb;clear h2 hb hl;have HM := Lib.hid must_yes;have HN := Lib.hid must_no;have HKK := Lib.hid hK;have HBw := Lib.hid (hBW.out.trans (HB2.out.mono (by have := hBW.out.size; omega)));have HDn := Lib.hid (show w.heap.size ≤ D by have h := hD; simp at h; omega);cases hkw : kwOf y0 with
     | none =>
       have hki : kwI y0 = -1 := by unfold kwI; rw [hkw]
       rw [hki];have HS := Lib.hid (show stepL mayM (L s) = none by unfold stepL; rw [hSY.out]; simp only [stepW, hkw]);clear hkw hki;go_wp2_with fail;refine (HN.out _).mono ?_;rintro e w9 ⟨rfl, rfl⟩;unfold wrongE;go_wp2_with fail;exact out_panic (HB2.out.block D (Array.getElem?_eq_some_iff.1 HKK.out).1 |>.trans HKK.out) HDn.out HS.out HBw.out
     | some k =>
       have hk7 : k < 7 := by have := kwR_some 7 0 k hkw; omega
       have hki : kwI y0 = (k : Int) := by unfold kwI; rw [hkw]
       rw [hki];have HKW := Lib.hid hkw;have t1 : decide ((0 : Int) ≤ (k : Int)) = true := by simp
       clear hkw hki;go_wp2_with fail;refine (HM.out _).mono ?_;rintro e w9 ⟨rfl, rfl⟩;have hv2 := Boxed.cell (show Boxed w2 (w.heap.size + 1) 59 _ from (HB2.out.block _ hv.out.lt).trans hv.out);have g0 : (1 : Int) ≤ ((ws.length + 1 : Nat) : Int) := by omega
       have g1 : ((ws.length + 1 : Nat) : Int) ≤ (cap : Int) := by omega
       have HX2 := Lib.hid (show MBox w2 w.heap.size M.zero from (HB2.out.block _ (SBox.lt hXB.out)).trans hXB.out);have HL2 := Lib.hid (hLW.out.later HB2.out);have hn5 : 5 ≤ w.heap.size := hlay5
       have HC2 := Lib.hid (show ∀ i (hi : i < ws.length), w2.cell? ⟨gr, 1 + i, none⟩ = some (.string (B (ws[i]))) from fun i hi => by
         have h := hcw.out (1 + i) (by simp; omega);rw [HB2.out.cell (p := ⟨gr, 1 + i, none⟩) hgl.out, h]
         simp [strV, Nat.add_comm 1 i])
       have HK2 := Lib.hid ((HB2.out.block D (Array.getElem?_eq_some_iff.1 HKK.out).1).trans HKK.out)
       by_cases hc1 : cap = 1
       · have hw0 : ws = [] := List.eq_nil_of_length_eq_zero (by omega)
         subst hw0;subst hc1;obtain ⟨wr, rfl⟩ : ∃ wr, wr = w2 := ⟨_, rfl⟩;obtain ⟨x, hxz⟩ : ∃ x, x = M.zero := ⟨_, rfl⟩;have HG := Lib.hid (show goF [] 0 M.zero = some x by rw [hxz]; rfl);have HX := Lib.hid (show MBox wr w.heap.size x by rw [hxz]; exact HX2.out);have HT := Lib.hid (Tch.refl (fun q => q = w.heap.size) wr);have hxd : x.d ≤ 15 := by rw [hxz]; decide
         have hxp : x.p.length ≤ 20000 ∧ x.p2.length ≤ 20000 ∧ x.da.length ≤ 20000 ∧ x.t.length ≤ 20000 := by rw [hxz]; decide
         clear hxz
         have hst : stepW (splitB 32 (L s)) = some { x with k := k } := by
           rw [hSY.out];simp only [stepW, HKW.out, HG.out]
           rfl
         have HXs := Lib.hid (show MBox (wr.setCell ⟨w.heap.size, 0, none⟩ (.int .u8 k)) w.heap.size { x with k := k } from SBox.set HX.out 0 (.int .u8 k));have HTs := Lib.hid (HT.out.trans (Tch.cell (O := fun q => q = w.heap.size) (w := wr) (b := w.heap.size) (i := 0) (v := .int .u8 k) rfl));have HLs := Lib.hid (HL2.out.tch HTs.out hn5);have HCK := Lib.hid (check_any { x with k := k } _ HLs.out (by show k < 256; omega) (by show x.d < 256; omega) (by show x.size ≤ 100000; unfold M.size; omega));have HST := Lib.hid hst;have HBs := Lib.hid (HBw.out.trans (HTs.out.below fun i hi => ⟨by have := HBw.out.size; omega, by omega⟩));have HDs := Lib.hid ((HTs.out.block D (Array.getElem?_eq_some_iff.1 HK2.out).1 (by have h := hD; simp at h; omega)).trans HK2.out);have hXc := HX.out;unfold MBox M.cells at hXc;have X0 := hXc.cell 0;have X1 := hXc.cell 1;have X2 := hXc.cell 2;have X3 := hXc.cell 3;have X4 := hXc.cell 4;have X5 := hXc.cell 5;have X6 := hXc.cell 6;have X7 := hXc.cell 7;have X8 := hXc.cell 8;have X9 := hXc.cell 9;have X10 := hXc.cell 10;have X11 := hXc.cell 11;simp only [List.getElem?_toArray, List.getElem?_cons_zero, List.getElem?_cons_succ] at X0 X1 X2 X3 X4 X5 X6 X7 X8 X9 X10 X11;have Xl := hXc.lt;have F0 := SBox.free hXc 0;have q1 : IntKind.u8.wrap (k : Int) = (k : Int) := by rw [IntKind.wrap_u8']; omega
         clear hXc hst
         go_wp2
         refine wp_loop_rounds 1 ?_;rw [rounds_succ];go_wp2_with fail;unfold M.val M.cells at HCK;refine HCK.out.mono ?_;rintro e w5 ⟨rfl, hb5⟩;have HB5 := Lib.hid (HBs.out.trans (hb5.mono (by have := HBs.out.size; omega)));have HD5 := Lib.hid ((hb5.block D (Array.getElem?_eq_some_iff.1 HDs.out).1).trans HDs.out);have HX5 := Lib.hid (show MBox w5 w.heap.size { x with k := k } from SBox.later HXs.out hb5);clear hb5 X0 X1 X2 X3 X4 X5 X6 X7 X8 X9 X10 X11 F0
         by_cases hm : mayM { x with k := k } = true
         · have HS := Lib.hid (show stepL mayM (L s) = some { x with k := k } by unfold stepL; rw [HST.out]; simp only; rw [if_pos hm])
           rw [if_pos hm];clear hm;go_wp2_with fail;refine (HM.out _).mono ?_;rintro e w9 ⟨rfl, rfl⟩;have hX5 := HX5.out;unfold MBox M.cells at hX5;have Y0 := hX5.cell 0;have Y1 := hX5.cell 1;have Y2 := hX5.cell 2;have Y3 := hX5.cell 3;have Y4 := hX5.cell 4;have Y5 := hX5.cell 5;have Y6 := hX5.cell 6;have Y7 := hX5.cell 7;have Y8 := hX5.cell 8;have Y9 := hX5.cell 9;have Y10 := hX5.cell 10;have Y11 := hX5.cell 11;simp only [List.getElem?_toArray, List.getElem?_cons_zero, List.getElem?_cons_succ] at Y0 Y1 Y2 Y3 Y4 Y5 Y6 Y7 Y8 Y9 Y10 Y11;have Yl := hX5.lt;have Z0 := hX5.free 0;have Z1 := hX5.free 1;have Z2 := hX5.free 2;have Z3 := hX5.free 3;have Z4 := hX5.free 4;have Z5 := hX5.free 5;have Z6 := hX5.free 6;have Z7 := hX5.free 7;have Z8 := hX5.free 8;have Z9 := hX5.free 9;have Z10 := hX5.free 10;have Z11 := hX5.free 11;have HF5 := Lib.hid (fillM_box HX5.out { x with k := k });have HT5 := Lib.hid (fillM_tch w5 w.heap.size { x with k := k });clear hX5;go_wp2_with fail;change bodyPostM _ _ _ _ _ _ _ (fillM w5 w.heap.size { x with k := k });have hD6 := (HT5.out.block D (Array.getElem?_eq_some_iff.1 HD5.out).1 (by have h := hD; simp at h; omega)).trans HD5.out;refine out_ret (x := { x with k := k }) hD6 HDn.out HS.out (HB5.out.trans (HT5.out.below fun i hi => ⟨by have := HB5.out.size; omega, by omega⟩)) ?_;intro W9 hW9
           have hX9 : MBox W9 w.heap.size { x with k := k } := by
             rw [hW9];exact ((grownBy_putObj' _ D (.deferred none)).block _ HF5.out.lt (fun e => by cases e; have h := hD; simp at h; omega)).trans HF5.out
           unfold MBox M.cells at hX9;have A0 := hX9.cell 0;have A1 := hX9.cell 1;have A2 := hX9.cell 2;have A3 := hX9.cell 3;have A4 := hX9.cell 4;have A5 := hX9.cell 5;have A6 := hX9.cell 6;have A7 := hX9.cell 7;have A8 := hX9.cell 8;have A9 := hX9.cell 9;have A10 := hX9.cell 10;have A11 := hX9.cell 11;simp only [List.getElem?_toArray, List.getElem?_cons_zero, List.getElem?_cons_succ] at A0 A1 A2 A3 A4 A5 A6 A7 A8 A9 A10 A11;have Al := hX9.lt
           simp [results, Tryz.f37, go_sem, A0, A1, A2, A3, A4, A5, A6, A7, A8, A9, A10, A11, M.val, M.cells]
         · have HS := Lib.hid (show stepL mayM (L s) = none by unfold stepL; rw [HST.out]; simp only; rw [if_neg hm])
           rw [if_neg hm];clear hm;go_wp2_with fail;refine (HN.out _).mono ?_;rintro e w9 ⟨rfl, rfl⟩;unfold wrongE;go_wp2_with fail;exact out_panic HD5.out HDn.out HS.out HB5.out
       · go_wp2
         go_loopw [6, 31] (fun lv i wr => ∃ (q j : Nat) (x : M), q ≤ ws.length ∧ j ≤ 11 ∧ i = .int .i64 q ∧ lv = SL r j ∧ MBox wr w.heap.size x ∧ Tch (fun p => p = w.heap.size) w2 wr ∧ goF (ws.drop q) j x = goF ws 0 M.zero ∧ x.Fit 20000) (fun _ i _ => ws.length - (intOf i).toNat)
         case atStart => exact ⟨0, 0, M.zero, by omega, by omega, rfl, rfl, HX2.out, Tch.refl _ _, rfl, ⟨by decide, by decide, by decide, by decide, by decide⟩⟩
         case round =>
           obtain ⟨q, j, x, hq, hj, rfl, rfl, hx, ht, hgo, hfit⟩ := hrel;have HX := Lib.hid hx;have HT := Lib.hid ht;have HFit := Lib.hid hfit;clear hx ht hfit
           by_cases hlt : q < ws.length
           · have hcell : wr.cell? ⟨gr, 1 + q, none⟩ = some (.string (B (ws[q]))) := by
               rw [cell_same (HT.out.block gr (Nat.lt_of_lt_of_le hgl.out HB2.out.size) (by omega)) (1 + q)];exact HC2.out q hlt
             have hdrop : ws.drop q = ws[q] :: ws.drop (q + 1) := List.drop_eq_getElem_cons hlt
             have hyl : (ws[q]).length ≤ 20000 := by
               have hmem : ws[q] ∈ splitB 32 (L s) := by rw [hSY.out]; exact List.mem_cons_of_mem _ (List.getElem_mem hlt)
               have h := split_mem_len 32 (L s) _ hmem;rw [len_L] at h;omega
             rw [hdrop] at hgo
             generalize ws[q] = y at *
             have hgo2 : (match cutL y with | none => none | some (a, v) => match findR a j (11 - j) with | none => none | some j => match hearF j x v with | none => none | some y => goF (ws.drop (q + 1)) (j + 1) y) = goF ws 0 M.zero := hgo;rw [brkB_cut] at hgo2;have HCUT := Lib.hid (fun W => cutB 61 (B y) W (by rw [size_B]; unfold maxLen; omega));rw [L_B] at HCUT;have hvl : (brkB 61 y).2.1.length ≤ 20000 := by have := (brkB_len 61 y).1; omega
             obtain ⟨a', ha'⟩ : ∃ z, (brkB 61 y).1 = z := ⟨_, rfl⟩;obtain ⟨v', hv'⟩ : ∃ z, (brkB 61 y).2.1 = z := ⟨_, rfl⟩;obtain ⟨is, his⟩ : ∃ z, (brkB 61 y).2.2 = z := ⟨_, rfl⟩;rw [ha', hv', his] at hgo2;rw [ha', hv', his] at HCUT;rw [hv'] at hvl;clear hgo ha' hv' his hdrop;have HGO := Lib.hid hgo2;clear hgo2;have hnc : ¬ cap = 1 := hc1;go_wp2_with fail;refine (HCUT.out _).mono ?_;rintro e w' ⟨rfl, m, rfl⟩;have HXd := Lib.hid (show MBox (wr.drewN m) w.heap.size x from HX.out);have HTd := Lib.hid (show Tch (fun p => p = w.heap.size) w2 (wr.drewN m) from ⟨HT.out.os, HT.out.tape, HT.out.output, HT.out.size, HT.out.block⟩);clear HX HT hcell
             generalize wr.drewN m = wd at *
             have HFd := Lib.hid (FT2.out.keep (w' := wd) (fun b hb hge => HTd.out.block b hb (by have := hBW.out.size; have := SBox.lt hXB.out; omega)));have HDd := Lib.hid ((HTd.out.block D (Array.getElem?_eq_some_iff.1 HK2.out).1 (by have h := hD; simp at h; omega)).trans HK2.out);have HBd := Lib.hid (HBw.out.trans (HTd.out.below fun i hi => ⟨by have := HBw.out.size; omega, by omega⟩));have HLd := Lib.hid (HL2.out.tch HTd.out hn5);cases is with
             | false =>
               have HSN := Lib.hid (show stepL mayM (L s) = none by
                 have h : goF ws 0 M.zero = none := by rw [← HGO.out]; rfl
                 unfold stepL; rw [hSY.out]; simp only [stepW, HKW.out, h]; rfl)
               go_wp2
               refine wp_loop_rounds 1 ?_;rw [rounds_succ];go_wp2_with fail;refine (HN.out _).mono ?_;rintro e w9 ⟨rfl, rfl⟩;unfold wrongE;go_wp2_with fail;exact out_panic HDd.out HDn.out HSN.out HBd.out
             | true =>
               have hgm : (match findR a' j (11 - j) with | none => none | some j => match hearF j x v' with | none => none | some y => goF (ws.drop (q + 1)) (j + 1) y) = goF ws 0 M.zero := HGO.out;have HGM := Lib.hid hgm;clear hgm HGO
               go_wp2
               go_loopw [6] (fun lv W => ∃ j' : Nat, j ≤ j' ∧ j' ≤ 11 ∧ lv = SL r j' ∧ W = wd ∧ findR a' j (11 - j) = findR a' j' (11 - j')) (fun lv _ => lenV lv)
               case atStart => exact ⟨j, Nat.le_refl _, hj, rfl, rfl, rfl⟩
               case round =>
                 obtain ⟨j', hjj, hj', rfl, rfl, hfr⟩ := hrel;have HFR := Lib.hid hfr;clear hfr
                 by_cases h11 : j' = 11
                 · subst h11
                   have HSN := Lib.hid (show stepL mayM (L s) = none by
                     have h : goF ws 0 M.zero = none := by rw [← HGM.out, HFR.out]; rfl
                     unfold stepL; rw [hSY.out]; simp only [stepW, HKW.out, h]; rfl)
                   rw [show SL r 11 = .slice (some ⟨r, 30, none⟩) 0 0 from rfl];go_wp2_with fail;refine (HN.out _).mono ?_;rintro e w9 ⟨rfl, rfl⟩;unfold wrongE;go_wp2_with fail;exact out_panic HDd.out HDn.out HSN.out HBd.out
                 · have hjl : j' < 11 := by omega
                   have hnm := HFd.out.name j' hjl;have hhr := HFd.out.hear j' hjl;obtain ⟨m, hm⟩ : ∃ m, 11 - j' = m + 1 := ⟨10 - j', by omega⟩;have hsl : SL r j' = .slice (some ⟨r, 3 * j', none⟩) (m + 1) (m + 1) := by unfold SL; rw [if_neg h11, hm]
                   have hsn : Value.slice (if m = 0 then some ⟨r, 3 * j', none⟩ else some ⟨r, 3 * j' + 3, none⟩) m m = SL r (j' + 1) := by
                     unfold SL
                     by_cases h1 : m = 0
                     · have h2 : j' = 10 := by omega
                       subst h1 h2
                       rfl
                     · rw [if_neg h1, if_neg (by omega), show 11 - (j' + 1) = m by omega, Nat.mul_add]
                   have g0 : (0 : Int) < ((m + 1 : Nat) : Int) := by omega
                   rw [hsl];clear hsl
                   by_cases hn : nm j' = a'
                   · have HFJ := Lib.hid (show findR a' j (11 - j) = some j' by rw [HFR.out, hm]; simp only [findR]; rw [if_pos hn])
                     have hbe : B (nm j') = B a' := congrArg B hn;clear hn;have HHR := Lib.hid (hear_any HFd.out j' hjl w.heap.size (by omega) (B v') x HLd.out (by rw [size_B]; omega) HXd.out (by have := HFit.out.1; omega));rw [L_B] at HHR;go_wp2_with fail;refine (HM.out _).mono ?_;rintro e w9 ⟨rfl, rfl⟩
                     go_wp2
                     rw [hear_enter j' hjl];refine HHR.out.mono ?_;rintro e w9 ⟨hans, htt⟩;have HTN := Lib.hid (HTd.out.trans htt);cases ho : hearF j' x v' with
                     | none =>
                       have HSN := Lib.hid (show stepL mayM (L s) = none by
                         have h : goF ws 0 M.zero = none := by rw [← HGM.out, HFJ.out]; simp only [ho]
                         unfold stepL; rw [hSY.out]; simp only [stepW, HKW.out, h]; rfl)
                       rw [ho] at hans;have hans : e = wrongE := hans;subst hans;unfold wrongE;have HD9 := Lib.hid ((htt.block D (Array.getElem?_eq_some_iff.1 HDd.out).1 (by have h := hD; simp at h; omega)).trans HDd.out);have HB9 := Lib.hid (HBd.out.trans (htt.below fun i hi => ⟨by have := HBd.out.size; omega, by omega⟩));clear htt ho hans;go_wp2_with fail;exact out_panic HD9.out HDn.out HSN.out HB9.out
                     | some x' =>
                       rw [ho] at hans;obtain ⟨rfl, hx9⟩ := hans;have HX9 := Lib.hid hx9;have HF9 := Lib.hid (hear_fit ho HFit.out hvl);have HGO9 := Lib.hid (show goF (ws.drop (q + 1)) (j' + 1) x' = goF ws 0 M.zero by rw [← HGM.out, HFJ.out]; simp only [ho]);clear htt hx9 ho;go_wp2_with fail
                       have hwq : wrap64 ((q : Int) + 1) = ((q + 1 : Nat) : Int) := wrap_q (by
                         have h := congrArg List.length hSY.out;rw [List.length_cons] at h;clear hmx hcap;omega)
                       rw [hwq];refine ⟨⟨q + 1, j' + 1, x', hlt, hjl, rfl, rfl, HX9.out, HTN.out, HGO9.out, HF9.out⟩, ?_⟩;show ws.length - (q + 1) < ws.length - q;exact Nat.sub_lt_sub_left hlt (Nat.lt_succ_self q)
                   · have hne : ((B (nm j')).toList == (B a').toList) = false := by rw [toList_L, toList_L, L_B, L_B]; simpa using hn
                     have hfn : findR a' j (11 - j) = findR a' (j' + 1) (11 - (j' + 1)) := by
                       rw [HFR.out, hm, show 11 - (j' + 1) = m by omega];simp only [findR];rw [if_neg hn]
                     have HFN := Lib.hid hfn;clear hn hfn;go_wp2_with fail;refine ⟨⟨j' + 1, by omega, by omega, rfl, trivial, HFN.out⟩, ?_⟩;rw [← hsn];show m < m + 1;omega
           · have hqe : q = ws.length := by omega
             subst hqe;have HG := Lib.hid (show goF ws 0 M.zero = some x by rw [← hgo, List.drop_length]; rfl);have hxd : x.d ≤ 15 := HFit.out.1;have hxp : x.p.length ≤ 20000 ∧ x.p2.length ≤ 20000 ∧ x.da.length ≤ 20000 ∧ x.t.length ≤ 20000 := HFit.out.2;clear hgo
             have hst : stepW (splitB 32 (L s)) = some { x with k := k } := by
               rw [hSY.out];simp only [stepW, HKW.out, HG.out]
               rfl
             have HXs := Lib.hid (show MBox (wr.setCell ⟨w.heap.size, 0, none⟩ (.int .u8 k)) w.heap.size { x with k := k } from SBox.set HX.out 0 (.int .u8 k));have HTs := Lib.hid (HT.out.trans (Tch.cell (O := fun q => q = w.heap.size) (w := wr) (b := w.heap.size) (i := 0) (v := .int .u8 k) rfl));have HLs := Lib.hid (HL2.out.tch HTs.out hn5);have HCK := Lib.hid (check_any { x with k := k } _ HLs.out (by show k < 256; omega) (by show x.d < 256; omega) (by show x.size ≤ 100000; unfold M.size; omega));have HST := Lib.hid hst;have HBs := Lib.hid (HBw.out.trans (HTs.out.below fun i hi => ⟨by have := HBw.out.size; omega, by omega⟩));have HDs := Lib.hid ((HTs.out.block D (Array.getElem?_eq_some_iff.1 HK2.out).1 (by have h := hD; simp at h; omega)).trans HK2.out);have hXc := HX.out;unfold MBox M.cells at hXc;have X0 := hXc.cell 0;have X1 := hXc.cell 1;have X2 := hXc.cell 2;have X3 := hXc.cell 3;have X4 := hXc.cell 4;have X5 := hXc.cell 5;have X6 := hXc.cell 6;have X7 := hXc.cell 7;have X8 := hXc.cell 8;have X9 := hXc.cell 9;have X10 := hXc.cell 10;have X11 := hXc.cell 11;simp only [List.getElem?_toArray, List.getElem?_cons_zero, List.getElem?_cons_succ] at X0 X1 X2 X3 X4 X5 X6 X7 X8 X9 X10 X11;have Xl := hXc.lt;have F0 := SBox.free hXc 0;have q1 : IntKind.u8.wrap (k : Int) = (k : Int) := by rw [IntKind.wrap_u8']; omega
             clear hXc hst;go_wp2_with fail;unfold M.val M.cells at HCK;refine HCK.out.mono ?_;rintro e w5 ⟨rfl, hb5⟩;have HB5 := Lib.hid (HBs.out.trans (hb5.mono (by have := HBs.out.size; omega)));have HD5 := Lib.hid ((hb5.block D (Array.getElem?_eq_some_iff.1 HDs.out).1).trans HDs.out);have HX5 := Lib.hid (show MBox w5 w.heap.size { x with k := k } from SBox.later HXs.out hb5);clear hb5 X0 X1 X2 X3 X4 X5 X6 X7 X8 X9 X10 X11 F0
             by_cases hm : mayM { x with k := k } = true
             · have HS := Lib.hid (show stepL mayM (L s) = some { x with k := k } by unfold stepL; rw [HST.out]; simp only; rw [if_pos hm])
               rw [if_pos hm];clear hm;go_wp2_with fail;refine (HM.out _).mono ?_;rintro e w9 ⟨rfl, rfl⟩;have hX5 := HX5.out;unfold MBox M.cells at hX5;have Y0 := hX5.cell 0;have Y1 := hX5.cell 1;have Y2 := hX5.cell 2;have Y3 := hX5.cell 3;have Y4 := hX5.cell 4;have Y5 := hX5.cell 5;have Y6 := hX5.cell 6;have Y7 := hX5.cell 7;have Y8 := hX5.cell 8;have Y9 := hX5.cell 9;have Y10 := hX5.cell 10;have Y11 := hX5.cell 11;simp only [List.getElem?_toArray, List.getElem?_cons_zero, List.getElem?_cons_succ] at Y0 Y1 Y2 Y3 Y4 Y5 Y6 Y7 Y8 Y9 Y10 Y11;have Yl := hX5.lt;have Z0 := hX5.free 0;have Z1 := hX5.free 1;have Z2 := hX5.free 2;have Z3 := hX5.free 3;have Z4 := hX5.free 4;have Z5 := hX5.free 5;have Z6 := hX5.free 6;have Z7 := hX5.free 7;have Z8 := hX5.free 8;have Z9 := hX5.free 9;have Z10 := hX5.free 10;have Z11 := hX5.free 11;have HF5 := Lib.hid (fillM_box HX5.out { x with k := k });have HT5 := Lib.hid (fillM_tch w5 w.heap.size { x with k := k });clear hX5;go_wp2_with fail;change bodyPostM _ _ _ _ _ _ _ (fillM w5 w.heap.size { x with k := k });have hD6 := (HT5.out.block D (Array.getElem?_eq_some_iff.1 HD5.out).1 (by have h := hD; simp at h; omega)).trans HD5.out;refine out_ret (x := { x with k := k }) hD6 HDn.out HS.out (HB5.out.trans (HT5.out.below fun i hi => ⟨by have := HB5.out.size; omega, by omega⟩)) ?_;intro W9 hW9
               have hX9 : MBox W9 w.heap.size { x with k := k } := by
                 rw [hW9];exact ((grownBy_putObj' _ D (.deferred none)).block _ HF5.out.lt (fun e => by cases e; have h := hD; simp at h; omega)).trans HF5.out
               unfold MBox M.cells at hX9;have A0 := hX9.cell 0;have A1 := hX9.cell 1;have A2 := hX9.cell 2;have A3 := hX9.cell 3;have A4 := hX9.cell 4;have A5 := hX9.cell 5;have A6 := hX9.cell 6;have A7 := hX9.cell 7;have A8 := hX9.cell 8;have A9 := hX9.cell 9;have A10 := hX9.cell 10;have A11 := hX9.cell 11;simp only [List.getElem?_toArray, List.getElem?_cons_zero, List.getElem?_cons_succ] at A0 A1 A2 A3 A4 A5 A6 A7 A8 A9 A10 A11;have Al := hX9.lt
               simp [results, Tryz.f37, go_sem, A0, A1, A2, A3, A4, A5, A6, A7, A8, A9, A10, A11, M.val, M.cells]
             · have HS := Lib.hid (show stepL mayM (L s) = none by unfold stepL; rw [HST.out]; simp only; rw [if_neg hm])
               rw [if_neg hm];clear hm;go_wp2_with fail;refine (HN.out _).mono ?_;rintro e w9 ⟨rfl, rfl⟩;unfold wrongE;go_wp2_with fail;exact out_panic HD5.out HDn.out HS.out HB5.out
 case stop =>
   rintro D c pre W hD hpre hF;exact absurd hF (by simp)
end Go.Proofs.YtkljcgopikdjjaaGreatDoor.Tx
end
