/- path.Name and the reference's IsName: which texts are names. -/
import Derived.Laws.BitsAllLaws
import Derived.WalkKit
import Derived.IntWalk
import Derived.Test.YtmfhnhnmdeabeaaGreatProg
import Derived.WalkSpells
import Derived.WalkLawsBesides
import Derived.Lib.Hide
import Derived.Laws.IdiomStrings
import Derived.Deep.OwnRows
import Derived.Laws.MakeOwn
import Derived.Deep.QuietTactic
import Derived.BigQuiet
import Derived.Shelf.Small.Bits
import Derived.Shelf.Strconv.Itoa0
import Derived.Shelf.GgClosure.StringsIndexFunc
import Derived.Ground.GgwProg
import Derived.Shelf.GgClosure.StringsIndexFuncTop
import Derived.RangeFuncNested
import Derived.RangeFuncWrites
import Derived.Deep.Quiet
import Derived.Laws.RangeAny
import Derived.Laws.RangeString
set_option linter.unusedVariables false
set_option linter.unusedSimpArgs false
set_option maxRecDepth 100000
section
namespace Go.Proofs.YtmfhnhnmdeabeaaGreat.Oct
def B (l : List UInt8) : ByteArray := ⟨l.toArray⟩
def L (s : ByteArray) : List UInt8 := s.data.toList
theorem L_B (l : List UInt8) : L (B l) = l := rfl
theorem B_L (s : ByteArray) : B (L s) = s := rfl
theorem len_L (s : ByteArray) : (L s).length = s.size := rfl
theorem size_B (l : List UInt8) : (B l).size = l.length := rfl
theorem L_inj {s t : ByteArray} (h : L s = L t) : s = t := by rw [← B_L s, ← B_L t, h]
theorem B_append (a b : List UInt8) : B a ++ B b = B (a ++ b) := by
 unfold B
 rw [ByteArray.mk_append_mk]
theorem append_B (s t : ByteArray) : s ++ t = B (L s ++ L t) := by rw [← B_append, B_L, B_L]
end Go.Proofs.YtmfhnhnmdeabeaaGreat.Oct
end
section
namespace Go.Proofs.YtmfhnhnmdeabeaaGreat.Oct
open Go.RowKit
theorem info_u8 : (Tryz.prog.info? 5).map (fun i => (i.zero, i.size, i.bytes)) = some (some (.int .u8 0), 1, 1) := by kernel_rfl
theorem run_made (n : Nat) (hn : n ≤ 1099511627776) (w : World) : (Instr.makeSlice 128 (.int .i64 (n : Int)) (.int .i64 (n : Int))).run Tryz.prog w =
   .ok (.slice (some ⟨w.heap.size, 0, none⟩) n n) (w.alloc (.cells (madeCells #[.int .u8 0] n) 5)) := by
 obtain ⟨i0, hi, hz0, hz1, hz2⟩ := info_parts info_u8
 have h := run_make (P := Tryz.prog) w 128 5 i0 (.int .u8 0) Tryz.underlying128 hi hz0 .i64 .i64 (n : Int) (n : Int) (by omega) (Int.le_refl _) (by rw [hz2]; omega) (by omega)
 simpa [hz1, Value.cells] using h
theorem run_back (w : World) (b cap : Nat) (l : List UInt8) (f : Nat → Value) (hr : w.rowIs b 5 l.length f) (hf : ∀ j (h : j < l.length), f j = .int .u8 (l[j].toNat : Int)) :
   (convert 128 9 (.slice (some ⟨b, 0, none⟩) l.length cap)).run Tryz.prog w = .ok (.string (B l)) w :=
 run_convert_bytes_back w 128 9 5 ⟨b, 0, none⟩ cap l Tryz.underlying128 Tryz.underlying5 Tryz.underlying9 (fun j hj => by
   have e1 : ((⟨b, 0, none⟩ : Addr).add j) = ⟨b, j, none⟩ := by unfold Addr.add; simp; omega
   rw [e1, hr.cell hj, hf j hj])
end Go.Proofs.YtmfhnhnmdeabeaaGreat.Oct
end
section
namespace Go.Proofs.YtmfhnhnmdeabeaaGreat.Oct
open Go.RowKit
end Go.Proofs.YtmfhnhnmdeabeaaGreat.Oct
end
section
namespace Go.Proofs.YtmfhnhnmdeabeaaGreat.Oct
open Go.RowKit
theorem ex_front (s : ByteArray) (n : Nat) : s.extract 0 n = B ((L s).take n) := by
 apply L_inj
 rw [L_B]
 unfold L
 obtain ⟨⟨l⟩⟩ := s
 rw [ByteArray.extract_mk]
 simp
theorem ex_rest (s : ByteArray) (n : Nat) : s.extract n s.size = B ((L s).drop n) := by
 apply L_inj
 rw [L_B]
 unfold L
 have h := len_L s
 unfold L at h
 obtain ⟨⟨l⟩⟩ := s
 rw [ByteArray.extract_mk]
 simp
 rw [List.take_of_length_le]
 simp at h ⊢
 omega
theorem empty_no {s : ByteArray} (h : 0 < s.size) : s.toList.isEmpty = false := by
 have e : s.toList = s.data.toList := ByteArray.toList_eq s
 have e2 := len_L s
 unfold L at e2
 rw [e]
 cases hl : s.data.toList with
 | nil => rw [hl] at e2; simp at e2; omega
 | cons a l => rfl
theorem is_empty {s : ByteArray} (h : s.size = 0) : s = ⟨#[]⟩ := L_inj (List.eq_nil_of_length_eq_zero (by rw [len_L]; exact h))
end Go.Proofs.YtmfhnhnmdeabeaaGreat.Oct
end
section
namespace Go.Proofs
open Go.Shelf
def Tryz.lays125_ren : Go.Shelf.Ren := ⟨fun | 125 => 141 | 128 => 169 | 129 => 170 | n => n, fun | 46 => 170 | 3 => 3 | 51 => 37 | 53 => 36 | 4 => 4 | 5 => 5 | 9 => 9 | n => n, fun | n => n⟩
theorem Tryz.lays125 : Go.Proofs.Lays.n125 Tryz.prog Tryz.lays125_ren := {
 mixed := by kernel_rfl
 f125 := Tryz.func141.trans (congrArg some (by kernel_rfl))
 f128 := Tryz.func169.trans (congrArg some (by kernel_rfl))
 f129 := Tryz.func170.trans (congrArg some (by kernel_rfl))
 t3 := Tryz.underlying3
 a3 := Tryz.isAgg3
 z3 := Tryz.sizeOf3
 v3 := Tryz.zeroValue3
 t4 := Tryz.underlying4
 a4 := Tryz.isAgg4
 z4 := Tryz.sizeOf4
 v4 := Tryz.zeroValue4
 t5 := Tryz.underlying5
 a5 := Tryz.isAgg5
 z5 := Tryz.sizeOf5
 v5 := Tryz.zeroValue5
 t9 := Tryz.underlying9
 a9 := Tryz.isAgg9
 z9 := Tryz.sizeOf9
 v9 := Tryz.zeroValue9
 t46 := Tryz.underlying170
 a46 := Tryz.isAgg170
 z46 := Tryz.sizeOf170
 v46 := Tryz.zeroValue170
 t51 := Tryz.underlying37
 a51 := Tryz.isAgg37
 z51 := Tryz.sizeOf37
 v51 := Tryz.zeroValue37
 t53 := Tryz.underlying36
 a53 := Tryz.isAgg36
 z53 := Tryz.sizeOf36
 v53 := Tryz.zeroValue36 }
theorem Tryz.bits_Len (x : Int) (w : World) (h0 : 0 ≤ x) (h1 : x ≤ 18446744073709551615) :
   Calls Tryz.prog 141 #[.int .u64 x] w fun e w' => e = .returned (.int .i64 (Lib.bitLen x.toNat)) ∧ w' = w := Any.bits_Len Tryz.lays125 x w h0 h1
def Tryz.lays315_ren : Go.Shelf.Ren := ⟨fun | 315 => 171 | n => n, fun | 9 => 9 | 40 => 160 | 4 => 4 | 3 => 3 | 0 => 0 | 21 => 21 | n => n, fun | n => n⟩
theorem Tryz.lays315 : Go.Proofs.Lays.n315 Tryz.prog Tryz.lays315_ren := {
 mixed := by kernel_rfl
 f315 := Tryz.func171.trans (congrArg some (by kernel_rfl))
 t0 := Tryz.underlying0
 a0 := Tryz.isAgg0
 z0 := Tryz.sizeOf0
 v0 := Tryz.zeroValue0
 t3 := Tryz.underlying3
 a3 := Tryz.isAgg3
 z3 := Tryz.sizeOf3
 v3 := Tryz.zeroValue3
 t4 := Tryz.underlying4
 a4 := Tryz.isAgg4
 z4 := Tryz.sizeOf4
 v4 := Tryz.zeroValue4
 t9 := Tryz.underlying9
 a9 := Tryz.isAgg9
 z9 := Tryz.sizeOf9
 v9 := Tryz.zeroValue9
 t21 := Tryz.underlying21
 a21 := Tryz.isAgg21
 z21 := Tryz.sizeOf21
 v21 := Tryz.zeroValue21
 t40 := Tryz.underlying160
 a40 := Tryz.isAgg160
 z40 := Tryz.sizeOf160
 v40 := Tryz.zeroValue160 }
open Go.RowKit Go.Lib in
theorem Tryz.strings_indexFunc (g : Nat) (lb : Array Value) (eg : ∀ args w, (callFunc g args).run Tryz.prog w = .ok (.enter g args) w) (p : Nat → Bool) (truth : Bool) (s : ByteArray) (w : World) (hp : PredAt Tryz.prog g lb encR p w) :
   Calls Tryz.prog 171 #[.string s, .func (.func g) #[] lb, .bool truth] w fun e w' => e = .returned (.int .i64 (Lib.idxFunc p truth s)) ∧ Below w.heap.size w w' := Any.strings_indexFunc Tryz.lays315 g lb eg p truth s w hp
def Tryz.laysGw15_ren : Go.Shelf.Ren := ⟨fun | 15 => 142 | 20 => 171 | n => n, fun | 9 => 9 | 23 => 160 | 3 => 3 | 4 => 4 | 0 => 0 | 21 => 21 | n => n, fun | n => n⟩
theorem Tryz.laysGw15 : Go.Proofs.LaysGw.n15 Tryz.prog Tryz.laysGw15_ren := {
 mixed := by kernel_rfl
 f15 := Tryz.func142.trans (congrArg some (by kernel_rfl))
 f20 := Tryz.func171.trans (congrArg some (by kernel_rfl))
 t0 := Tryz.underlying0
 a0 := Tryz.isAgg0
 z0 := Tryz.sizeOf0
 v0 := Tryz.zeroValue0
 i0 := by kernel_rfl
 t3 := Tryz.underlying3
 a3 := Tryz.isAgg3
 z3 := Tryz.sizeOf3
 v3 := Tryz.zeroValue3
 i3 := by kernel_rfl
 t4 := Tryz.underlying4
 a4 := Tryz.isAgg4
 z4 := Tryz.sizeOf4
 v4 := Tryz.zeroValue4
 i4 := by kernel_rfl
 t9 := Tryz.underlying9
 a9 := Tryz.isAgg9
 z9 := Tryz.sizeOf9
 v9 := Tryz.zeroValue9
 i9 := by kernel_rfl
 t21 := Tryz.underlying21
 a21 := Tryz.isAgg21
 z21 := Tryz.sizeOf21
 v21 := Tryz.zeroValue21
 i21 := by kernel_rfl
 t23 := Tryz.underlying160
 a23 := Tryz.isAgg160
 z23 := Tryz.sizeOf160
 v23 := Tryz.zeroValue160
 i23 := by kernel_rfl }
open Go.RowKit Go.Lib in
theorem Tryz.strings_IndexFunc (g : Nat) (lb : Array Value) (eg : ∀ args w, (callFunc g args).run Tryz.prog w = .ok (.enter g args) w) (p : Nat → Bool) (s : ByteArray) (w : World) (hp : PredAt Tryz.prog g lb encR p w) :
   Calls Tryz.prog 142 #[.string s, .func (.func g) #[] lb] w fun e w' => e = .returned (.int .i64 (Lib.idxFunc p true s)) ∧ Below w.heap.size w w' := Any.strings_IndexFunc Tryz.laysGw15 g lb eg p s w hp
def Tryz.laysGw17_ren : Go.Shelf.Ren := ⟨fun | 17 => 124 | 15 => 142 | 20 => 171 | n => n, fun | 9 => 9 | 23 => 160 | 4 => 4 | 3 => 3 | 0 => 0 | 21 => 21 | n => n, fun | n => n⟩
theorem Tryz.laysGw17 : Go.Proofs.LaysGw.n17 Tryz.prog Tryz.laysGw17_ren := {
 mixed := by kernel_rfl
 f15 := Tryz.func142.trans (congrArg some (by kernel_rfl))
 f17 := Tryz.func124.trans (congrArg some (by kernel_rfl))
 f20 := Tryz.func171.trans (congrArg some (by kernel_rfl))
 t0 := Tryz.underlying0
 a0 := Tryz.isAgg0
 z0 := Tryz.sizeOf0
 v0 := Tryz.zeroValue0
 i0 := by kernel_rfl
 t3 := Tryz.underlying3
 a3 := Tryz.isAgg3
 z3 := Tryz.sizeOf3
 v3 := Tryz.zeroValue3
 i3 := by kernel_rfl
 t4 := Tryz.underlying4
 a4 := Tryz.isAgg4
 z4 := Tryz.sizeOf4
 v4 := Tryz.zeroValue4
 i4 := by kernel_rfl
 t9 := Tryz.underlying9
 a9 := Tryz.isAgg9
 z9 := Tryz.sizeOf9
 v9 := Tryz.zeroValue9
 i9 := by kernel_rfl
 t21 := Tryz.underlying21
 a21 := Tryz.isAgg21
 z21 := Tryz.sizeOf21
 v21 := Tryz.zeroValue21
 i21 := by kernel_rfl
 t23 := Tryz.underlying160
 a23 := Tryz.isAgg160
 z23 := Tryz.sizeOf160
 v23 := Tryz.zeroValue160
 i23 := by kernel_rfl }
open Go.RowKit Go.Lib in
theorem Tryz.strings_ContainsFunc (g : Nat) (lb : Array Value) (eg : ∀ args w, (callFunc g args).run Tryz.prog w = .ok (.enter g args) w) (p : Nat → Bool) (s : ByteArray) (w : World) (hp : PredAt Tryz.prog g lb encR p w) :
   Calls Tryz.prog 124 #[.string s, .func (.func g) #[] lb] w fun e w' => e = .returned (.bool (decide (0 ≤ Lib.idxFunc p true s))) ∧ Below w.heap.size w w' := Any.strings_ContainsFunc Tryz.laysGw17 g lb eg p s w hp
end Go.Proofs
end
section
namespace Go.Proofs.YtmfhnhnmdeabeaaGreat
open Go.RowKit
def SeqRel {α : Type} (F : Fence) (n : Nat) (P : Program) (g : Nat) (lb : Array Value) (encs : α → Array Value) (Rel Kp : World → World → Prop) (S Sp : List α → Prop) (Nx : List α → α → Prop) (w : World) : Prop :=
 ∀ (l : Nat) (J Jx : List α → World → Prop) (W : World), Below w.heap.size w W → (∀ s X Y, J s X → Rel X Y → J s Y) → (∀ s X Y, Jx s X → Rel X Y → Jx s Y) →
   (∀ pre x W1, J pre W1 → Nx pre x → YieldAt F (n - 1) P l (encs x) W1 fun e W' =>
     (e = .returned (.bool true) ∧ J (pre ++ [x]) W' ∧ Kp W1 W') ∨ (e = .returned (.bool false) ∧ Jx (pre ++ [x]) W')) →
   J [] W →
   CallsIn F n P g (#[.func (.yield l) #[] #[]] ++ lb) W fun e W' => (∃ v, e = .returned v) ∧ ((∃ xs, S xs ∧ J xs W') ∨ (∃ pre, Sp pre ∧ Jx pre W'))
variable {F : Fence} {n : Nat} {P : Program}
theorem wpIn_rangeFunc_rel {α : Type} {g : Operand} {ps : Array Tmp} {assign body : Code} {Q : Exit → Act → World → Prop} {a : Act} {w : World}
   (hro : F.round = none) (h1 : 1 ≤ n) {gf : Nat} {lb : Array Value} (hg : a.eval g = .func (.func gf) #[] lb) (hFg : F.fn gf) (eg : ∀ args w, (callFunc gf args).run P w = .ok (.enter gf args) w)
   {encs : α → Array Value} {Rel Kp : World → World → Prop} {S Sp : List α → Prop} {Nx : List α → α → Prop} {w0 : World} (hseq : SeqRel F (n - 1) P gf lb encs Rel Kp S Sp Nx w0)
   (hRel : ∀ X Y, Rel X Y → KeepsFrom w.heap.size X Y)
   (hKt : ∀ {X Y Z : World}, Kp X Y → Kp Y Z → Kp X Z) (hKb : ∀ (W : World) (l : Nat) (o o' : Obj), w.heap.size ≤ l → W.heap[l]? = some o → o.isCells = false → o.isWalk = false → Kp W (W.putObj l o')) (hb0 : Below w0.heap.size w0 w) (hps : ∀ x, (encs x).size = ps.size)
   (I : List α → World → Prop) (Ix : Code → List α → World → Prop) (hI : OwnFrom w.heap.size I) (hIx : ∀ c, OwnFrom w.heap.size (Ix c))
   (hIr : ∀ s X Y, I s X → Rel X Y → I s Y) (hIxr : ∀ c s X Y, Ix c s X → Rel X Y → Ix c s Y) (h0 : I [] w) (a₁ : α → Act)
   (hassign : ∀ (l : Nat) (x : α) (W : World) (K : Act → World → Prop), K (a₁ x) W →
     assign.wpIn (F.inRound l) (n - 1 - 1) P (Exit.then K (fun _ _ _ => False)) { tmps := (ps.zip (encs x)).foldl (fun t (p, v) => t.setIfInBounds p v) a.tmps, defers := [] } W)
   (hbody : ∀ (l : Nat) (pre : List α) (x : α) (W : World), I pre W → Nx pre x → body.wpIn (F.inRound l) (n - 1 - 1) P (ownPostG w.heap.size Kp I Ix (pre ++ [x]) W) (a₁ x) W)
   (hdone : ∀ (D : Nat) (xs : List α) (W : World), w.heap.size ≤ D → S xs → I xs W → W.heap[D]? = some (.deferred (some [])) → Q .normal { a with defers := { target := .collected D, args := #[] } :: a.defers } W)
   (hstop : ∀ (D : Nat) (c : Code) (pre : List α) (W : World), w.heap.size ≤ D → Sp pre → Ix c pre W → W.heap[D]? = some (.deferred (some [])) → c.wpIn F n P Q { a with defers := { target := .collected D, args := #[] } :: a.defers } W) :
   (Code.rangeFunc g ps assign body).wpIn F n P Q a w := by
 refine wpIn_rangeFunc ?_
 intro fn hfn
 rw [hro]
 let D := w.heap.size
 let R := w.heap.size + 1
 obtain ⟨mk, hmk⟩ : ∃ mk : LoopState → Option Code → Loop, mk = fun st pe => { state := st, pending := pe, fn, tmps := a.tmps, params := ps, assign, body, defers := D } := ⟨_, rfl⟩
 obtain ⟨V, hV⟩ : ∃ V, (w.alloc (.deferred (some []))).alloc (.loop (mk .ready none)) = V := ⟨_, rfl⟩
 have vR : V.heap[R]? = some (.loop (mk .ready none)) := by
   rw [← hV]
   have := World.alloc_heap_new (w.alloc (.deferred (some []))) (.loop (mk .ready none))
   rwa [World.size_alloc] at this
 have vD : V.heap[D]? = some (.deferred (some [])) := by
   rw [← hV]
   exact (Below.heap_alloc _ _ _ (by simp [D])).trans (World.alloc_heap_new w _)
 have vI : I [] V := by rw [← hV]; exact hI.alloc _ (hI.alloc _ h0)
 have vB : Below w0.heap.size w0 V := by
   rw [← hV]
   exact hb0.trans ((((Below.refl _ w).alloc (Nat.le_refl _) _).alloc (by simp) _).mono hb0.size)
 refine ⟨R, [{ target := .collected D, args := #[] }], V, { target := .fn (.func gf) lb, args := #[.func (.yield R) #[] #[]] }, V, gf, #[.func (.yield R) #[] #[]] ++ lb, V, ?_, ?_, ?_, ?_, fun _ => h1, ?_⟩
 · rw [← hV, hmk]; exact run_enterLoop_outer _ _ _ _ _
 · simp only [resolve, hg]
   simp [go_sem]
 · intro f' hf'
   simp [Target.leads] at hf'
   subst hf'
   exact hFg
 · simp [invoke, go_sem, eg]
 ·
   have keep : ∀ {X Y : World} {k : Nat} {o : Obj}, Rel X Y → D ≤ k → X.heap[k]? = some o → o.isCells = false → Y.heap[k]? = some o := fun hr hk hx ho => (hRel _ _ hr).same _ _ hk hx ho
   refine (hseq R (fun pre W => I pre W ∧ W.heap[R]? = some (.loop (mk .ready none)) ∧ W.heap[D]? = some (.deferred (some [])))
     (fun pre W => ∃ c, Ix c pre W ∧ W.heap[R]? = some (.loop (mk .done (some c))) ∧ W.heap[D]? = some (.deferred (some [])))
     V vB (fun s X Y h r => ⟨hIr s X Y h.1 r, keep r (by omega) h.2.1 rfl, keep r (Nat.le_refl _) h.2.2 rfl⟩)
     (fun s X Y h r => by
       obtain ⟨c, hc, hl, hk⟩ := h
       exact ⟨c, hIxr c s X Y hc r, keep r (by omega) hl rfl, keep r (Nat.le_refl _) hk rfl⟩) ?_ ⟨vI, vR, vD⟩).mono ?_
   · rintro pre x W ⟨hi, hl, hk⟩ hlen
     have hlt : R < W.heap.size := (Array.getElem?_eq_some_iff.1 hl).1
     have hy := run_yield (P := P) (args := encs x) hl (by rw [hmk]; exact hps x)
     rw [hmk] at hy
     refine ⟨fn, _, assign, body, hy, roundIn_of_wpIn hfn (hassign _ x W _ ⟨_, run_beginRound hl (by rw [hmk]), ?_⟩)⟩
     have bR : (W.putObj R (.loop { mk .ready none with state := .busy })).heap[R]? = some (.loop { mk .ready none with state := .busy }) := World.putObj_heap_same hlt
     have bD : (W.putObj R (.loop { mk .ready none with state := .busy })).heap[D]? = some (.deferred (some [])) := (World.putObj_heap_other (by omega)).trans hk
     have bK : Kp W (W.putObj R (.loop { mk .ready none with state := .busy })) := hKb _ _ _ _ (by omega) hl rfl rfl
     refine wpIn_mono (hbody _ pre x _ (hI.putObj _ hi (by omega) hl rfl) hlen) ?_
     have fin : ∀ (jump : Option Code) (W3 : World), KeepsFrom w.heap.size (W.putObj R (.loop { mk .ready none with state := .busy })) W3 →
         (Instr.endRound R jump).run P W3 = .ok (.bool jump.isNone) (W3.putObj R (.loop (mk (if jump.isNone then .ready else .done) jump))) ∧
         W3.heap[R]? = some (.loop { mk .ready none with state := .busy }) ∧
         (W3.putObj R (.loop (mk (if jump.isNone then .ready else .done) jump))).heap[R]? = some (.loop (mk (if jump.isNone then .ready else .done) jump)) ∧
         (W3.putObj R (.loop (mk (if jump.isNone then .ready else .done) jump))).heap[D]? = some (.deferred (some [])) := fun jump W3 hk3 => by
       have c1 := hk3.same _ _ (by omega) bR rfl
       have c2 := run_endRound (P := P) jump c1
       rw [hmk] at c2 ⊢
       exact ⟨c2, by rw [hmk] at c1; exact c1, World.putObj_heap_same (Array.getElem?_eq_some_iff.1 c1).1, (World.putObj_heap_other (by omega)).trans (hk3.same _ _ (Nat.le_refl _) bD rfl)⟩
     rintro e a3 W3 hp
     cases e with
     | normal =>
       obtain ⟨k3, p3, i3⟩ := hp
       obtain ⟨r3, l3, l4, d4⟩ := fin none W3 k3
       exact ⟨_, _, r3, .inl ⟨rfl, ⟨hI.putObj _ i3 (by omega) l3 rfl, l4, d4⟩, hKt (hKt bK p3) (hKb _ _ _ _ (by omega) l3 rfl rfl)⟩⟩
     | ret =>
       obtain ⟨k3, i3⟩ := hp
       obtain ⟨r3, l3, l4, d4⟩ := fin (some .ret) W3 k3
       exact ⟨_, _, r3, .inr ⟨rfl, .ret, (hIx _).putObj _ i3 (by omega) l3 rfl, l4, d4⟩⟩
     | exit id =>
       obtain ⟨k3, i3⟩ := hp
       obtain ⟨r3, l3, l4, d4⟩ := fin (some (.exit id)) W3 k3
       exact ⟨_, _, r3, .inr ⟨rfl, .exit id, (hIx _).putObj _ i3 (by omega) l3 rfl, l4, d4⟩⟩
     | goto t =>
       obtain ⟨k3, i3⟩ := hp
       obtain ⟨r3, l3, l4, d4⟩ := fin (some (.goto t)) W3 k3
       exact ⟨_, _, r3, .inr ⟨rfl, .goto t, (hIx _).putObj _ i3 (by omega) l3 rfl, l4, d4⟩⟩
     | panic ch => exact hp.elim
     | outgrown => exact hp.elim
   · rintro e W2 ⟨⟨v, rfl⟩, (⟨xs, hS, hi, hl, hk⟩ | ⟨pre, hSp, c, hi, hl, hk⟩)⟩
     · exact ⟨none, _, by have := run_endLoop (P := P) hl (by rw [hmk]; simp); rw [hmk] at this; exact this, hdone _ xs _ (Nat.le_refl _) hS (hI.putObj _ hi (by omega) hl rfl) ((World.putObj_heap_other (by omega)).trans hk)⟩
     · exact ⟨some c, _, by have := run_endLoop (P := P) hl (by rw [hmk]; simp); rw [hmk] at this; exact this, hstop _ c pre _ (Nat.le_refl _) hSp ((hIx c).putObj _ hi (by omega) hl rfl) ((World.putObj_heap_other (by omega)).trans hk)⟩
def TurnsBox (B : Nat) (t : TypeId) (X Y : World) : Prop := X.grownBy Y (some B) ∧ ∃ v, Boxed X B t v
theorem TurnsBox.box {B C : Nat} {t u : TypeId} {v : Value} {X Y : World} (h : TurnsBox B t X Y) (hc : Boxed X C u v) (hne : C ≠ B) : Boxed Y C u v :=
 hc.kept h.1 (fun e => hne (by cases e; rfl))
theorem TurnsBox.below {B b : Nat} {t : TypeId} {w X Y : World} (h : TurnsBox B t X Y) (hb : Below b w X) (hB : b ≤ B) (hw : b ≤ w.heap.size) : Below b w Y :=
 hb.grown h.1 (Nat.le_trans hw hb.size) (fun k e => by cases e; exact hB)
end Go.Proofs.YtmfhnhnmdeabeaaGreat
end
section
namespace Go.Proofs.YtmfhnhnmdeabeaaGreat.Path
open Go.RowKit Oct
def isName (l : List UInt8) : Bool := decide (1 ≤ l.length) && decide (l.length ≤ 27) && !(l == [46]) && !(l == [46, 46]) && l.all (fun c => !(c == 47) && !(c == 0))
def badR (r : Nat) : Bool := r == 47 || r == 0
def badC (c : UInt8) : Bool := c == 47 || c == 0
theorem get_bang (s : ByteArray) (i : Nat) (h : i < s.size) : s.get! i = s[i] := by
 simp [ByteArray.get!, getElem!_pos, h]
 rfl
theorem decode_cont (s : ByteArray) (i k : Nat) (h1 : 1 ≤ k) (h2 : k < (Utf8.decode s i).2) : i + k < s.size ∧ (s.get! (i + k)).toNat / 64 = 2 := by
 have hk : k = 1 ∨ k = 2 ∨ k = 3 ∨ 4 ≤ k := by omega
 simp only [Utf8.decode] at h2
 rcases hk with rfl | rfl | rfl | hk
 all_goals
   repeat' split at h2
   all_goals
     simp only [Bool.and_eq_true, decide_eq_true_eq, beq_iff_eq] at *
     omega
theorem bad_ascii (c : UInt8) : badC c = badR c.toNat := by
 unfold badC badR
 rw [Bool.eq_iff_iff]
 simp only [Bool.or_eq_true, beq_iff_eq]
 constructor
 · rintro (rfl | rfl)
   · exact .inl rfl
   · exact .inr rfl
 · rintro (h | h)
   · exact .inl (UInt8.toNat_inj.1 h)
   · exact .inr (UInt8.toNat_inj.1 h)
theorem idx_bad (s : ByteArray) : ∀ (f pos : Nat), s.size ≤ pos + f → (0 ≤ Lib.idxFuncFrom badR true s f pos ↔ ∃ j, ∃ h : j < s.size, pos ≤ j ∧ badC s[j] = true)
 | 0, pos, hf => by
   constructor
   · intro h; simp [Lib.idxFuncFrom] at h
   · rintro ⟨j, hj, h1, _⟩; omega
 | f + 1, pos, hf => by
   unfold Lib.idxFuncFrom
   by_cases hp : pos < s.size
   · rw [if_pos hp]
     by_cases ha : (s[pos]'hp).toNat < 128
     · rw [decode_ascii s pos hp ha]
       by_cases hb : badC s[pos] = true
       · rw [if_pos (by rw [← bad_ascii]; exact hb)]
         exact ⟨fun _ => ⟨pos, hp, Nat.le_refl _, hb⟩, fun _ => by omega⟩
       · rw [if_neg (by rw [← bad_ascii]; exact hb), idx_bad s f (pos + 1) (by omega)]
         constructor
         · rintro ⟨j, hj, h1, h2⟩; exact ⟨j, hj, by omega, h2⟩
         · rintro ⟨j, hj, h1, h2⟩
           refine ⟨j, hj, ?_, h2⟩
           rcases Nat.eq_or_lt_of_le h1 with e | e
           · subst e; exact (hb h2).elim
           · omega
     · have hd := decode_high s pos hp (by omega)
       rw [if_neg (by
         intro e
         unfold badR at e
         simp only [Bool.or_eq_true, beq_iff_eq] at e
         omega), idx_bad s f _ (by omega)]
       constructor
       · rintro ⟨j, hj, h1, h2⟩; exact ⟨j, hj, by omega, h2⟩
       · rintro ⟨j, hj, h1, h2⟩
         refine ⟨j, hj, ?_, h2⟩
         rcases Nat.lt_or_ge j (pos + (Utf8.decode s pos).2) with e | e
         · exfalso
           rw [bad_ascii] at h2
           unfold badR at h2
           simp only [Bool.or_eq_true, beq_iff_eq] at h2
           rcases Nat.eq_or_lt_of_le h1 with e1 | e1
           · subst e1; omega
           · have hc := decode_cont s pos (j - pos) (by omega) (by omega)
             have ej : pos + (j - pos) = j := by omega
             rw [ej, get_bang s j hj] at hc
             omega
         · exact e
   · rw [if_neg hp]
     constructor
     · intro h; simp at h
     · rintro ⟨j, hj, h1, _⟩; omega
theorem contains_bad (s : ByteArray) : decide (0 ≤ Lib.idxFunc badR true s) = (L s).any badC := by
 rw [Bool.eq_iff_iff, decide_eq_true_eq]
 unfold Lib.idxFunc
 rw [idx_bad s s.size 0 (by omega), List.any_eq_true]
 constructor
 · rintro ⟨j, hj, _, h⟩
   exact ⟨s[j], List.getElem_mem (l := L s) (by rw [len_L]; exact hj), h⟩
 · rintro ⟨c, hc, h⟩
   obtain ⟨j, hj, rfl⟩ := List.getElem_of_mem hc
   exact ⟨j, by rw [len_L] at hj; exact hj, Nat.zero_le _, h⟩
set_option maxHeartbeats 400000 in
theorem bad_any (x : Nat) (w : World) : Calls Tryz.prog 123 #[.int .i32 x] w fun e w' => e = .returned (.bool (badR x)) ∧ w = w' := by
 by_cases h : x = 47
 · subst h
   go_enter Tryz.func123, Tryz.ntmps123
   go_wp2
   go_ret
   exact ⟨rfl, rfl⟩
 · have e1 : ((x : Int) == 47) = false := by simp; omega
   have e2 : badR x = ((x : Int) == 0) := by
     unfold badR
     rw [Bool.eq_iff_iff]
     simp only [Bool.or_eq_true, beq_iff_eq]
     omega
   have E2 := Lib.hid e2
   clear e2
   go_enter Tryz.func123, Tryz.ntmps123
   go_wp2
   go_ret
   refine ⟨?_, rfl⟩
   rw [E2.out]
   rfl
theorem toList_L (s : ByteArray) : s.toList = L s := ByteArray.toList_eq s
set_option maxHeartbeats 400000 in
theorem name_full (s : ByteArray) (w : World) (h0 : 0 < s.size) (h27 : s.size ≤ 27) (h1 : (s.toList == [46]) = false) (h2 : (s.toList == [46, 46]) = false) (b : Bool) (hb : (L s).any badC = b) :
   Calls Tryz.prog 89 #[.string s] w fun e w' => e = .returned (.int .i64 (if b then 2 else 0)) ∧ Below w.heap.size w w' := by
 have hne := empty_no h0
 have hd : decide (27 < s.size) = false := by simp; omega
 have hd' : decide (27 < (s.size : Int)) = false := by simp; omega
 have hc := Tryz.strings_ContainsFunc 123 #[] (enters_of Tryz.func123 (by kernel_rfl) rfl) badR s w (fun W x _ => (bad_any x W).mono fun e w' h => ⟨h.1, 0, h.2.symm⟩)
 rw [contains_bad, hb] at hc
 have HC := Lib.hid hc
 clear hc hb
 go_enter Tryz.func89, Tryz.ntmps89
 go_wp2_with fail
 refine (HC.out).mono ?_
 rintro e w1 ⟨rfl, b1⟩
 cases b
 · go_wp2
   go_ret
   exact ⟨rfl, b1⟩
 · go_wp2
   go_ret
   exact ⟨rfl, b1⟩
set_option maxHeartbeats 400000 in
theorem name_long (s : ByteArray) (w : World) (hs : s.size ≤ maxLen) (h : 27 < s.size) :
   Calls Tryz.prog 89 #[.string s] w fun e w' => e = .returned (.int .i64 2) ∧ Below w.heap.size w w' := by
 unfold maxLen at hs
 have hne := empty_no (s := s) (by omega)
 go_enter Tryz.func89, Tryz.ntmps89
 go_wp2
 go_ret
 exact ⟨rfl, Below.refl _ _⟩
set_option maxHeartbeats 400000 in
theorem name_empty (w : World) :
   Calls Tryz.prog 89 #[.string ⟨#[]⟩] w fun e w' => e = .returned (.int .i64 2) ∧ Below w.heap.size w w' := by
 go_enter Tryz.func89, Tryz.ntmps89
 go_wp2
 go_ret
 exact ⟨rfl, Below.refl _ _⟩
set_option maxHeartbeats 400000 in
theorem name_dot (w : World) :
   Calls Tryz.prog 89 #[.string ⟨#[46]⟩] w fun e w' => e = .returned (.int .i64 2) ∧ Below w.heap.size w w' := by
 go_enter Tryz.func89, Tryz.ntmps89
 go_wp2
 go_ret
 exact ⟨rfl, Below.refl _ _⟩
set_option maxHeartbeats 400000 in
theorem name_dots (w : World) :
   Calls Tryz.prog 89 #[.string ⟨#[46, 46]⟩] w fun e w' => e = .returned (.int .i64 2) ∧ Below w.heap.size w w' := by
 go_enter Tryz.func89, Tryz.ntmps89
 go_wp2
 go_ret
 exact ⟨rfl, Below.refl _ _⟩
def nameE (l : List UInt8) : Int := if isName l then 0 else 2
theorem all_not_any (l : List UInt8) : l.all (fun c => !(c == 47) && !(c == 0)) = !(l.any badC) := by
 rw [List.not_any_eq_all_not]
 congr 1
 funext c
 unfold badC
 simp
theorem name_any (s : ByteArray) (w : World) (hs : s.size ≤ maxLen) :
   Calls Tryz.prog 89 #[.string s] w fun e w' => e = .returned (.int .i64 (nameE (L s))) ∧ Below w.heap.size w w' := by
 have hl := len_L s
 by_cases h0 : s.size = 0
 · rw [is_empty h0]; exact name_empty w
 · by_cases h27 : 27 < s.size
   · have e : nameE (L s) = 2 := by
       unfold nameE isName
       have : decide ((L s).length ≤ 27) = false := by simp; omega
       rw [this]; simp
     rw [e]
     exact name_long s w hs h27
   · by_cases h1 : L s = [46]
     · have e : s = ⟨#[46]⟩ := L_inj h1
       rw [e]; exact name_dot w
     · by_cases h2 : L s = [46, 46]
       · have e : s = ⟨#[46, 46]⟩ := L_inj h2
         rw [e]; exact name_dots w
       · have h := name_full s w (by omega) (by omega) (by rw [toList_L]; simpa using h1) (by rw [toList_L]; simpa using h2) _ rfl
         have e : nameE (L s) = (if (L s).any badC then 2 else 0) := by
           unfold nameE isName
           rw [all_not_any]
           have a1 : decide (1 ≤ (L s).length) = true := by simp; omega
           have a2 : decide ((L s).length ≤ 27) = true := by simp; omega
           have a3 : (L s == [46]) = false := by simpa using h1
           have a4 : (L s == [46, 46]) = false := by simpa using h2
           rw [a1, a2, a3, a4]
           cases (L s).any badC <;> rfl
         rw [e]
         exact h
end Go.Proofs.YtmfhnhnmdeabeaaGreat.Path
end
