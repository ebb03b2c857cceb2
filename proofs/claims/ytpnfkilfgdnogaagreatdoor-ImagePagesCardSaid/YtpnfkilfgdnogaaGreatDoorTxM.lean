/- Layer 11 (image): which sectors were written, how many more may be, and what a commit leaves; another transaction behind it. -/
import Derived.Test.YtpnfkilfgdnogaaGreatDoorRange
import Derived.Test.YtpnfkilfgdnogaaGreatDoorDevKeys
import Derived.Test.YtpnfkilfgdnogaaGreatDoorImgB
import Derived.Test.YtpnfkilfgdnogaaGreatDoorTxKeys
import Derived.Test.YtpnfkilfgdnogaaGreatDoorJouM
import Derived.Test.YtpnfkilfgdnogaaGreatDoorDirN
import Derived.Deep.RegionHeld3
import Derived.Test.YtpnfkilfgdnogaaGreatDoorIsM

/- A range over a method's value: the iterator's receiver stands ahead of yield. General. -/
section
namespace Go.Proofs.YtpnfkilfgdnogaaGreatDoor
set_option linter.unusedVariables false
open Go.RowKit

/-- The iterator's contract: whatever invariant abides what the iterator does by itself (Rel). -/
def SeqRelB {α : Type} (F : Fence) (n : Nat) (P : Program) (g : Nat) (lp : Array Value) (encs : α → Array Value) (Rel Kp : World → World → Prop) (S Sp : List α → Prop) (Nx : List α → α → Prop) (w : World) : Prop :=
  ∀ (l : Nat) (J Jx : List α → World → Prop) (W : World), Below w.heap.size w W → (∀ s X Y, J s X → Rel X Y → J s Y) → (∀ s X Y, Jx s X → Rel X Y → Jx s Y) →
    (∀ pre x W1, J pre W1 → Nx pre x → YieldAt F (n - 1) P l (encs x) W1 fun e W' =>
      (e = .returned (.bool true) ∧ J (pre ++ [x]) W' ∧ Kp W1 W') ∨ (e = .returned (.bool false) ∧ Jx (pre ++ [x]) W')) →
    J [] W →
    CallsIn F n P g (lp ++ #[.func (.yield l) #[] #[]]) W fun e W' => (∃ v, e = .returned v) ∧ ((∃ xs, S xs ∧ J xs W') ∨ (∃ pre, Sp pre ∧ Jx pre W'))

variable {F : Fence} {n : Nat} {P : Program}

theorem wpIn_rangeFunc_relB {α : Type} {g : Operand} {ps : Array Tmp} {assign body : Code} {Q : Exit → Act → World → Prop} {a : Act} {w : World}
    (hro : F.round = none) (h1 : 1 ≤ n) {gf : Nat} {lp : Array Value} (hg : a.eval g = .func (.func gf) lp #[]) (hFg : F.fn gf) (eg : ∀ args w, (callFunc gf args).run P w = .ok (.enter gf args) w)
    {encs : α → Array Value} {Rel Kp : World → World → Prop} {S Sp : List α → Prop} {Nx : List α → α → Prop} {w0 : World} (hseq : SeqRelB F (n - 1) P gf lp encs Rel Kp S Sp Nx w0)
    (hRel : ∀ X Y, Rel X Y → KeepsFrom w.heap.size X Y)
    (hKt : ∀ {X Y Z : World}, Kp X Y → Kp Y Z → Kp X Z) (hKb : ∀ (W : World) (l : Nat) (o o' : Obj), w.heap.size ≤ l → W.heap[l]? = some o → o.isCells = false → o.isWalk = false → Kp W (W.putObj l o')) (hb0 : Below w0.heap.size w0 w) (hps : ∀ x, (encs x).size = ps.size)
    (I : List α → World → Prop) (Ix : Code → List α → World → Prop) (hI : OwnFrom w.heap.size I) (hIx : ∀ c, OwnFrom w.heap.size (Ix c))
    (hIr : ∀ s X Y, I s X → Rel X Y → I s Y) (hIxr : ∀ c s X Y, Ix c s X → Rel X Y → Ix c s Y) (h0 : I [] w) (a₁ : α → Act)
    (hassign : ∀ (l : Nat) (x : α) (W : World) (K : Act → World → Prop), K (a₁ x) W →
      assign.wpIn (F.inRound l) (n - 1 - 1) P (Exit.then K (fun _ _ _ => False)) { tmps := (ps.zip (encs x)).foldl (fun t (p, v) => t.setIfInBounds p v) a.tmps, defers := [] } W)
    (hbody : ∀ (l : Nat) (pre : List α) (x : α) (W : World), I pre W → Nx pre x → body.wpIn (F.inRound l) (n - 1 - 1) P (ownPostG w.heap.size Kp I Ix (pre ++ [x]) W) (a₁ x) W)
    (hdone : ∀ (D : Nat) (xs : List α) (W : World), w.heap.size ≤ D → S xs → I xs W → W.heap[D]? = some (.deferred (some [])) → Q .normal { a with defers := { target := .collected D, args := #[] } :: a.defers } W)
    (hstop : ∀ (D : Nat) (c : Code) (pre : List α) (W : World), w.heap.size ≤ D → Sp pre → Ix c pre W → W.heap[D]? = some (.deferred (some [])) → c.wpIn F n P Q { a with defers := { target := .collected D, args := #[] } :: a.defers } W) :
    (Code.rangeFunc g ps assign body).wpIn F n P Q a w := by
  refine wpIn_rangeFunc ?_
  intro fn hfn
  rw [hro]
  let D := w.heap.size
  let R := w.heap.size + 1
  obtain ⟨mk, hmk⟩ : ∃ mk : LoopState → Option Code → Loop, mk = fun st pe => { state := st, pending := pe, fn, tmps := a.tmps, params := ps, assign, body, defers := D } := ⟨_, rfl⟩
  obtain ⟨V, hV⟩ : ∃ V, (w.alloc (.deferred (some []))).alloc (.loop (mk .ready none)) = V := ⟨_, rfl⟩
  have vR : V.heap[R]? = some (.loop (mk .ready none)) := by
    rw [← hV]
    have := World.alloc_heap_new (w.alloc (.deferred (some []))) (.loop (mk .ready none))
    rwa [World.size_alloc] at this
  have vD : V.heap[D]? = some (.deferred (some [])) := by
    rw [← hV]
    exact (Below.heap_alloc _ _ _ (by simp [D])).trans (World.alloc_heap_new w _)
  have vI : I [] V := by rw [← hV]; exact hI.alloc _ (hI.alloc _ h0)
  have vB : Below w0.heap.size w0 V := by
    rw [← hV]
    exact hb0.trans ((((Below.refl _ w).alloc (Nat.le_refl _) _).alloc (by simp) _).mono hb0.size)
  refine ⟨R, [{ target := .collected D, args := #[] }], V, { target := .fn (.func gf) #[], args := lp ++ #[.func (.yield R) #[] #[]] }, V, gf, lp ++ #[.func (.yield R) #[] #[]], V, ?_, ?_, ?_, ?_, fun _ => h1, ?_⟩
  · rw [← hV, hmk]; exact run_enterLoop_outer _ _ _ _ _
  · simp only [resolve, hg]
    simp [go_sem]
  · intro f' hf'
    simp [Target.leads] at hf'
    subst hf'
    exact hFg
  · simp [invoke, go_sem, eg]
  · -- the two blocks of the loop's own book-keeping are kept by the iterator
    have keep : ∀ {X Y : World} {k : Nat} {o : Obj}, Rel X Y → D ≤ k → X.heap[k]? = some o → o.isCells = false → Y.heap[k]? = some o := fun hr hk hx ho => (hRel _ _ hr).same _ _ hk hx ho
    refine (hseq R (fun pre W => I pre W ∧ W.heap[R]? = some (.loop (mk .ready none)) ∧ W.heap[D]? = some (.deferred (some [])))
      (fun pre W => ∃ c, Ix c pre W ∧ W.heap[R]? = some (.loop (mk .done (some c))) ∧ W.heap[D]? = some (.deferred (some [])))
      V vB (fun s X Y h r => ⟨hIr s X Y h.1 r, keep r (by omega) h.2.1 rfl, keep r (Nat.le_refl _) h.2.2 rfl⟩)
      (fun s X Y h r => by
        obtain ⟨c, hc, hl, hk⟩ := h
        exact ⟨c, hIxr c s X Y hc r, keep r (by omega) hl rfl, keep r (Nat.le_refl _) hk rfl⟩) ?_ ⟨vI, vR, vD⟩).mono ?_
    · rintro pre x W ⟨hi, hl, hk⟩ hlen
      have hlt : R < W.heap.size := (Array.getElem?_eq_some_iff.1 hl).1
      have hy := run_yield (P := P) (args := encs x) hl (by rw [hmk]; exact hps x)
      rw [hmk] at hy
      refine ⟨fn, _, assign, body, hy, roundIn_of_wpIn hfn (hassign _ x W _ ⟨_, run_beginRound hl (by rw [hmk]), ?_⟩)⟩
      have bR : (W.putObj R (.loop { mk .ready none with state := .busy })).heap[R]? = some (.loop { mk .ready none with state := .busy }) := World.putObj_heap_same hlt
      have bD : (W.putObj R (.loop { mk .ready none with state := .busy })).heap[D]? = some (.deferred (some [])) := (World.putObj_heap_other (by omega)).trans hk
      have bK : Kp W (W.putObj R (.loop { mk .ready none with state := .busy })) := hKb _ _ _ _ (by omega) hl rfl rfl
      refine wpIn_mono (hbody _ pre x _ (hI.putObj _ hi (by omega) hl rfl) hlen) ?_
      have fin : ∀ (jump : Option Code) (W3 : World), KeepsFrom w.heap.size (W.putObj R (.loop { mk .ready none with state := .busy })) W3 →
          (Instr.endRound R jump).run P W3 = .ok (.bool jump.isNone) (W3.putObj R (.loop (mk (if jump.isNone then .ready else .done) jump))) ∧
          W3.heap[R]? = some (.loop { mk .ready none with state := .busy }) ∧
          (W3.putObj R (.loop (mk (if jump.isNone then .ready else .done) jump))).heap[R]? = some (.loop (mk (if jump.isNone then .ready else .done) jump)) ∧
          (W3.putObj R (.loop (mk (if jump.isNone then .ready else .done) jump))).heap[D]? = some (.deferred (some [])) := fun jump W3 hk3 => by
        have c1 := hk3.same _ _ (by omega) bR rfl
        have c2 := run_endRound (P := P) jump c1
        rw [hmk] at c2 ⊢
        exact ⟨c2, by rw [hmk] at c1; exact c1, World.putObj_heap_same (Array.getElem?_eq_some_iff.1 c1).1, (World.putObj_heap_other (by omega)).trans (hk3.same _ _ (Nat.le_refl _) bD rfl)⟩
      rintro e a3 W3 hp
      cases e with
      | normal =>
        obtain ⟨k3, p3, i3⟩ := hp
        obtain ⟨r3, l3, l4, d4⟩ := fin none W3 k3
        exact ⟨_, _, r3, .inl ⟨rfl, ⟨hI.putObj _ i3 (by omega) l3 rfl, l4, d4⟩, hKt (hKt bK p3) (hKb _ _ _ _ (by omega) l3 rfl rfl)⟩⟩
      | ret =>
        obtain ⟨k3, i3⟩ := hp
        obtain ⟨r3, l3, l4, d4⟩ := fin (some .ret) W3 k3
        exact ⟨_, _, r3, .inr ⟨rfl, .ret, (hIx _).putObj _ i3 (by omega) l3 rfl, l4, d4⟩⟩
      | exit id =>
        obtain ⟨k3, i3⟩ := hp
        obtain ⟨r3, l3, l4, d4⟩ := fin (some (.exit id)) W3 k3
        exact ⟨_, _, r3, .inr ⟨rfl, .exit id, (hIx _).putObj _ i3 (by omega) l3 rfl, l4, d4⟩⟩
      | goto t =>
        obtain ⟨k3, i3⟩ := hp
        obtain ⟨r3, l3, l4, d4⟩ := fin (some (.goto t)) W3 k3
        exact ⟨_, _, r3, .inr ⟨rfl, .goto t, (hIx _).putObj _ i3 (by omega) l3 rfl, l4, d4⟩⟩
      | panic ch => exact hp.elim
      | outgrown => exact hp.elim
    · rintro e W2 ⟨⟨v, rfl⟩, (⟨xs, hS, hi, hl, hk⟩ | ⟨pre, hSp, c, hi, hl, hk⟩)⟩
      · exact ⟨none, _, by have := run_endLoop (P := P) hl (by rw [hmk]; simp); rw [hmk] at this; exact this, hdone _ xs _ (Nat.le_refl _) hS (hI.putObj _ hi (by omega) hl rfl) ((World.putObj_heap_other (by omega)).trans hk)⟩
      · exact ⟨some c, _, by have := run_endLoop (P := P) hl (by rw [hmk]; simp); rw [hmk] at this; exact this, hstop _ c pre _ (Nat.le_refl _) hSp ((hIx c).putObj _ hi (by omega) hl rfl) ((World.putObj_heap_other (by omega)).trans hk)⟩

end Go.Proofs.YtpnfkilfgdnogaaGreatDoor
end

/- The keys of a map from ints to texts, sorted. -/
section
namespace Go.Proofs.YtpnfkilfgdnogaaGreatDoor.Dev
set_option linter.unusedVariables false
open Go.RowKit Go.Shelf Go.Maps Go.Sort
theorem keysTx_in (mb : Option Nat) (W : World) : CallsIn Fence.wide 5 Tryz.prog 120 #[.map mb] W fun e w' => e = .returned (.func (.func 162) #[] #[.pointer (some ⟨W.heap.size, 0, none⟩)]) ∧ w' = W.alloc (.cells #[.map mb] 137) :=
  AnyZI.keys_in Tryz.keysTx Fence.wide 5 trivial rfl mb W
/-- slices.Sorted of what maps.Keys handed back. -/
theorem sortedTx_in {R : ElemR} (b nn : Nat) (f : Int → Option (DataW Unit)) (w : World) (h : IMap w R b nn f) (hnn : nn ≤ 1099511627776) :
    CallsIn Fence.wide 5 Tryz.prog 119 #[.func (.func 162) #[] #[.pointer (some ⟨w.heap.size, 0, none⟩)]] (w.alloc (.cells #[.map (some b)] 137)) fun e w' => ∃ (v : Value) (ss : List Int), e = .returned v ∧ KeysOf f ss ∧
      w'.ownsRow (w.alloc (.cells #[.map (some b)] 137)).heap.size 3 1 v ss.length (ss.map encZ) ∧ Below (w.alloc (.cells #[.map (some b)] 137)).heap.size (w.alloc (.cells #[.map (some b)] 137)) w' := by
  obtain ⟨D, hown, hf⟩ := h
  have hbl := hown.lt
  have hsz := hown.size_le
  have hseq : SeqGives Fence.wide 2 Tryz.prog 162 #[.pointer (some ⟨w.heap.size, 0, none⟩)] encZ (fun ss => ss.Perm (intKeys D)) (Maps.size D) (w.alloc (.cells #[.map (some b)] 137)) :=
    AnyZI.keys_gives (ρ := Tryz.keysTx_ren) { Tryz.keysTx with } Fence.wide _ trivial rfl (by omega) w.heap.size b nn D _ (by simp) (by simp) (by
      obtain ⟨es, clock, hb, Ft, hs, hD⟩ := hown
      exact ⟨es, clock, (Below.heap_alloc _ _ b hbl).trans hb, Ft, hs, hD⟩)
  have cS := AnyZI.sorted_in Tryz.sortedInt Fence.wide 5 trivial trivial trivial trivial rfl (by omega) (sortsInt _) (enters_of Tryz.func161 (by kernel_rfl) rfl) 162 #[.pointer (some ⟨w.heap.size, 0, none⟩)] trivial (enters_of Tryz.func162 (by kernel_rfl) rfl) _ _ (by unfold maxLen; omega) (by omega) _ hseq
  refine CallsIn.mono cS ?_
  rintro e w' ⟨v, ss, rfl, hp, hrow, _, hb⟩
  refine ⟨v, ss.mergeSort (fun x y => decide (x ≤ y)), rfl, keysOf_mem hown (fun x => (hf x).1) ((List.mergeSort_perm _ _).trans hp), ?_, hb⟩
  rw [List.length_mergeSort]
  exact hrow
end Go.Proofs.YtpnfkilfgdnogaaGreatDoor.Dev
end

/- Layer 9 (tx): each, as an iterator's contract. -/
section
namespace Go.Proofs.YtpnfkilfgdnogaaGreatDoor.Tx
set_option linter.unusedVariables false
set_option linter.unusedSimpArgs false
open Go.RowKit Go.Shelf Go.Maps Go.Sort Oct Dev Jou
attribute [local go_sem] Oper.semAt_some
/-- What a round must leave. -/
def KpT (B : Nat) (T : TxB) (X Y : World) : Prop := (∀ c cs, B ≤ c → SBox X c 3 cs → SBox Y c 3 cs) ∧ (∀ cs, SBox X T.p 139 cs → SBox Y T.p 139 cs) ∧ Y.heap[T.m]? = X.heap[T.m]?
/-- What has come, at the end. -/
def SEach (f : Wrote) (xs : List (Int × ByteArray)) : Prop := KeysOf (strF f) (xs.map Prod.fst) ∧ ∀ x ∈ xs, f x.1 = some x.2
/-- What comes next. -/
def NextPut (f : Wrote) (pre : List (Int × ByteArray)) (x : Int × ByteArray) : Prop := f x.1 = some x.2 ∧ x.1 ∉ pre.map Prod.fst
/-- A key with its text. -/
def withS (f : Wrote) (x : Int) : Int × ByteArray := (x, (f x).getD ⟨#[]⟩)
theorem withS_fst (f : Wrote) (l : List Int) : (l.map (withS f)).map Prod.fst = l := by
  rw [List.map_map]
  exact List.map_id l
set_option maxRecDepth 100000 in
set_option maxHeartbeats 2000000 in
theorem each_seq (n : Nat) (hn : 1 ≤ n) {T : TxB} {f : Wrote} {nn : Nat} (w : World) (v0 v1 v3 : Value) (hX : SBox w T.p 139 #[v0, v1, .map (some T.m), v3]) (hM : IMap w strR T.m nn (strF f)) (hnn : nn ≤ 1099511627776) (hdm : ∀ x s, f x = some s → ∃ i : Nat, x = i ∧ i ≤ 4096) :
    SeqRelB Fence.wide n Tryz.prog 72 #[.pointer (some ⟨T.p, 0, none⟩)] (fun x : Int × ByteArray => #[.int .i64 x.1, .string x.2]) Lays (KpT w.heap.size T) (SEach f) (fun _ => True) (NextPut f) w := by
  intro l J Jx W hW hJ hJx hY h0
  have hXW : SBox W T.p 139 _ := hX.later hW
  have hMW : IMap W strR T.m nn (strF f) := hM.later hW
  have KD := Lib.hid (fun W => callsIn_wide (n := n - 1) |>.2 (callsIn_wide.1 (keysTx_in (some T.m) W)))
  have SD := Lib.hid (callsIn_wide (n := n - 1) |>.2 (callsIn_wide.1 (sortedTx_in T.m nn (strF f) W hMW hnn)))
  have HXW := Lib.hid hXW
  have HMW := Lib.hid hMW
  have X0 := hXW.cell 0
  have X1 := hXW.cell 1
  have X2 := hXW.cell 2
  have X3 := hXW.cell 3
  simp only [List.getElem?_toArray, List.getElem?_cons_zero, List.getElem?_cons_succ] at X0 X1 X2 X3
  have Xl := hXW.lt
  have hsz := hW.size
  have hTm := hM.lt
  have hTp := hX.lt
  clear hXW hMW hX hM
  refine callsIn_of_wp Tryz.func72 rfl trivial ?_ rfl
  simp only [Tryz.ntmps72, List.size_toArray, List.length_cons, List.length_nil, Nat.reduceAdd, Nat.reduceSub, Array.replicate_succ, Array.replicate_zero, List.push_toArray, List.append_toArray, List.nil_append, List.cons_append]
  gi_wp2_with fail
  refine ⟨trivial, (KD.out _).mono ?_⟩
  rintro e w1 ⟨rfl, rfl⟩
  gi_wp2_with fail
  refine ⟨trivial, SD.out.mono ?_⟩
  rintro e w2 ⟨v, ss, rfl, hks, hrow, b2⟩
  have hB2 := ((Below.refl _ W).alloc (Nat.le_refl _) (.cells #[.map (some T.m)] 137)).trans (b2.mono (by simp))
  have hJ2 : J [] w2 := hJ _ _ _ h0 (lays_below hB2)
  have HX2 := Lib.hid (show SBox w2 T.p 139 _ from HXW.out.later hB2)
  have HM2 := Lib.hid (HMW.out.later hB2)
  clear X0 X1 X2 X3 Xl KD SD hB2
  rcases hrow.2 with ⟨rfl, hz⟩ | ⟨g, cap, cur, rfl, hbase, hg, hnc, hcm, hcs, ht⟩
  · obtain rfl := List.eq_nil_of_length_eq_zero hz
    gi_wp2
    gi_loopw [13] (fun c wr => c = .int .i64 0 ∧ wr = w2) (fun _ _ => 0)
    case atStart => exact ⟨rfl, rfl⟩
    case round =>
      obtain ⟨rfl, rfl⟩ := hrel
      gi_wp2
      go_end0
      exact ⟨⟨_, rfl⟩, .inl ⟨[], ⟨hks, fun x hx => by cases hx⟩, hJ2⟩⟩
  · have hgB : w.heap.size ≤ g := by simp at hbase; omega
    have hS0 : SBox w2 g 3 cur := hg
    have hlm : ss.length ≤ 9223372036854775807 := by unfold maxLen at hcm; omega
    clear hrow hg b2 hbase
    gi_wp2
    gi_loopw [13] (fun c wr => ∃ q : Nat, q ≤ ss.length ∧ c = .int .i64 q ∧ J ((ss.take q).map (withS f)) wr ∧ SBox wr g 3 cur ∧ SBox wr T.p 139 #[v0, v1, .map (some T.m), v3] ∧ IMap wr strR T.m nn (strF f)) (fun c _ => ss.length - (intOf c).toNat)
    case atStart => exact ⟨0, Nat.zero_le _, rfl, hJ2, hS0, HX2.out, HM2.out⟩
    case round =>
      obtain ⟨q, hq, rfl, hJq, hS, hXr, hMr⟩ := hrel
      by_cases hlt : q < ss.length
      · have c1 := (hS.cell q).trans (row_int ht hlt)
        have q0 : (0 : Int) ≤ q := by omega
        have q1 : (q : Int) < ss.length := by omega
        have hSl := hS.lt
        have HS := Lib.hid hS
        have HXr := Lib.hid hXr
        have HMr := Lib.hid hMr
        obtain ⟨s, hs⟩ : ∃ s, f ss[q] = some s := by
          have := (hks.2 _).1 (List.getElem_mem hlt)
          unfold strF at this
          cases e : f ss[q] with
          | none => rw [e] at this; simp at this
          | some s => exact ⟨s, rfl⟩
        have hsn : (ss.take (q + 1)).map (withS f) = (ss.take q).map (withS f) ++ [(ss[q], s)] := by
          rw [take_next hlt, List.map_append]
          unfold withS
          simp [hs]
        obtain ⟨i, hi, hi4⟩ := hdm _ _ hs
        obtain ⟨fn, tmps, assign, body, hy, hR⟩ := hY _ (ss[q], s) wr hJq ⟨hs, by rw [withS_fst]; exact next_new hks.1 hlt⟩
        have hlk : (Instr.lookup 137 (.map (some T.m)) (.int .i64 ss[q]) false).run Tryz.prog wr = .ok (.string s) wr := by
          obtain ⟨v, ps, hrun, hv⟩ := hMr.look under_w (zero_str wr) (strR_mk ⟨#[]⟩) ss[q] (by rw [hi]; exact wf_nat i (by omega))
          unfold strF at hv
          rw [hs] at hv
          rw [hrun, strR_inv hv]
        have HSN := Lib.hid hsn
        have Y0 := hXr.cell 0
        have Y1 := hXr.cell 1
        have Y2 := hXr.cell 2
        have Y3 := hXr.cell 3
        simp only [List.getElem?_toArray, List.getElem?_cons_zero, List.getElem?_cons_succ] at Y0 Y1 Y2 Y3
        have Yl := hXr.lt
        clear hS hXr hMr hsn
        generalize ss[q] = z at *
        subst hi
        gi_wp2
        refine hR.mono ?_
        rintro e W3 (⟨rfl, hJ3, hk3⟩ | ⟨rfl, hJx3⟩)
        · gi_wp2
          go_roundw
          case rel => exact ⟨q + 1, by omega, by simp, by rw [HSN.out]; exact hJ3, hk3.1 _ _ hgB HS.out, hk3.2.1 _ HXr.out, HMr.out.block hk3.2.2⟩
          case measure => first | omega | (simp [Go.RowKit.intOf]; omega) | (show ss.length - ((q : Int) + 1).toNat < ss.length - (q : Int).toNat; omega)
        · gi_wp2
          refine bodyPost_ret (results_none rfl _ _ _) rfl ?_
          exact ⟨⟨_, rfl⟩, .inr ⟨_, trivial, hJx3⟩⟩
      · obtain rfl : q = ss.length := by omega
        gi_wp2
        go_end0
        rw [List.take_length] at hJq
        refine ⟨⟨_, rfl⟩, .inl ⟨ss.map (withS f), ⟨by rw [withS_fst]; exact hks, fun x hx => ?_⟩, hJq⟩⟩
        obtain ⟨y, hy, rfl⟩ := List.mem_map.1 hx
        have := (hks.2 y).1 hy
        unfold strF at this
        unfold withS
        cases e : f y with
        | none => rw [e] at this; simp at this
        | some s => rfl
end Go.Proofs.YtpnfkilfgdnogaaGreatDoor.Tx
end

/- Layer 9 (tx): Commit. -/
section
namespace Go.Proofs.YtpnfkilfgdnogaaGreatDoor.Tx
set_option linter.unusedVariables false
set_option linter.unusedSimpArgs false
open Go.RowKit Go.Shelf Go.Maps Go.Sort Oct Dev Jou
attribute [local go_sem] Oper.semAt_some
abbrev Kv := Int × ByteArray
def putCells (l : List Kv) : List Value := l.flatMap fun x => [.int .i64 x.1, .string x.2]
theorem putCells_snoc (l : List Kv) (x : Kv) : putCells (l ++ [x]) = putCells l ++ [.int .i64 x.1, .string x.2] := by simp [putCells]
theorem putCells_len (l : List Kv) : (putCells l).length = 2 * l.length := by
  induction l with
  | nil => rfl
  | cons x r ih =>
    have e : putCells (x :: r) = [.int .i64 x.1, .string x.2] ++ putCells r := rfl
    rw [e, List.length_append, ih, List.length_cons, List.length_cons]
    simp
    omega
theorem putCells_get : ∀ (l : List Kv) (j : Nat) (h : j < l.length), (putCells l)[j * 2]? = some (.int .i64 (l[j]'h).1) ∧ (putCells l)[j * 2 + 1]? = some (.string (l[j]'h).2)
  | x :: r, 0, _ => ⟨rfl, rfl⟩
  | x :: r, j + 1, h => by
    have e : putCells (x :: r) = .int .i64 x.1 :: .string x.2 :: putCells r := rfl
    have e1 : (j + 1) * 2 = j * 2 + 1 + 1 := by omega
    have ih := putCells_get r j (by simpa using h)
    rw [e, e1]
    simp only [List.getElem?_cons_succ, List.getElem_cons_succ]
    exact ih
theorem info_put : (Tryz.prog.info? 143).map (fun i => (i.zero, i.size, i.bytes)) = some (some (.agg #[.int .i64 0, .string ⟨#[]⟩]), 2, 24) := by kernel_rfl
/-- The box that holds what has come. -/
def HeldP (bl base : Nat) (l : List Kv) (W : World) : Prop := ∃ v, Boxed W bl 140 v ∧ W.ownsRow base 143 2 v l.length (putCells l)
theorem row_own1 {B base n size : Nat} {e : TypeId} {v : Value} {xs : List Value} {W W' : World} {row : Option Nat} (h : W.ownsRow base e size v n xs) (hg : W.grownBy W' row) (hr : ∀ r, row = some r → B ≤ r ∧ ∃ o : Obj, W.heap[r]? = some o ∧ o.isCells = false) : W'.ownsRow base e size v n xs := by
  refine h.kept hg ?_
  rcases h.2 with ⟨rfl, _⟩ | ⟨g, cap, cur, rfl, _, hgb, _⟩
  · exact .inl rfl
  · refine .inr (fun e => ?_)
    obtain ⟨_, o, ho, hc⟩ := hr g e.symm
    rw [hgb] at ho
    cases ho
    cases hc
/-- What the row holds, as cells. -/
theorem puts_of {W : World} {base g cap : Nat} {l : Puts} {n : Nat} (h : W.ownsRow base 143 2 (.slice (some ⟨g, 0, none⟩) n cap) n (putCells (l.map fun x => ((x.1 : Int), x.2)))) (hn : n = l.length) : PutsAt W g l := by
  intro j hj
  rcases h.2 with ⟨e, _⟩ | ⟨g', cap', cur, e, hb, hg, hnc, hcm, hcs, ht⟩
  · cases e
  · injection e with e1 e2 e3
    injection e1 with e1
    injection e1 with e1
    subst e1
    have hS : SBox W g 143 cur := hg
    have hj2 : j < (l.map fun x => ((x.1 : Int), x.2)).length := by rw [List.length_map]; exact hj
    obtain ⟨p1, p2⟩ := putCells_get _ j hj2
    rw [List.getElem_map] at p1 p2
    have hc : ∀ i v, (putCells (l.map fun x => ((x.1 : Int), x.2)))[i]? = some v → i < n * 2 → cur[i]? = some v := fun i v hv hi => by
      rw [← ht, List.getElem?_take, if_pos hi] at hv
      simpa using hv
    exact ⟨(hS.cell _).trans (hc _ _ p1 (by omega)), (hS.cell _).trans (hc _ _ p2 (by omega))⟩
theorem pre_len {f : Wrote} {pre : List Kv} {N : Nat} (hn : (pre.map Prod.fst).Nodup) (hf : ∀ y ∈ pre, f y.1 = some y.2) (hd : ∀ x s, f x = some s → ∃ q : Nat, x = q ∧ q < N) : pre.length ≤ N := by
  have h1 : (pre.map fun y => y.1.toNat).Nodup := by
    have h2 : (pre.map fun y => y.1.toNat) = (pre.map Prod.fst).map Int.toNat := by rw [List.map_map]; rfl
    rw [h2]
    refine List.pairwise_map.2 (hn.imp_of_mem fun {a c} ha hc hne e => hne ?_)
    obtain ⟨y, hy, rfl⟩ := List.mem_map.1 ha
    obtain ⟨z, hz, rfl⟩ := List.mem_map.1 hc
    obtain ⟨p, hp, _⟩ := hd _ _ (hf y hy)
    obtain ⟨q, hq, _⟩ := hd _ _ (hf z hz)
    omega
  have h3 := List.Nodup.length_le_of_subset h1 (l₂ := List.range N) (fun q hq => by
    obtain ⟨y, hy, rfl⟩ := List.mem_map.1 hq
    obtain ⟨p, hp, hp2⟩ := hd _ _ (hf y hy)
    rw [List.mem_range]
    omega)
  rw [List.length_map, List.length_range] at h3
  exact h3
set_option maxRecDepth 100000 in
set_option maxHeartbeats 4000000 in
theorem txcommit_any {T : TxB} {b : DevB} {hard : List ByteArray} {k fr n nn gen : Nat} {f : Wrote} (w : World) (h : TxAt w T b hard k f nn) (hJ : JouAt w T.j b fr n gen) (hmm : T.m ≠ b.m) (hnn : nn ≤ 10000) (hd : ∀ x s, f x = some s → ∃ q : Nat, x = q ∧ q < hard.length ∧ s.size = 64 ∧ (q < fr ∨ fr + n ≤ q)) (h1 : ∃ x s, f x = some s) (hmax : ∀ ss, KeysOf (strF f) ss → ss.length ≤ mostN n) (hn : n ≤ 256) (hfr : fr + n ≤ hard.length) (hrow' : ∀ m, m ≤ mostN n → 1 + ((2 * m + 63) / 64 + m) ≤ n) (hgen : gen + 1 < 18446744073709551616) (hk : k + 30000 < 1099511627776) :
    Calls Tryz.prog 26 #[.pointer (some ⟨T.p, 0, none⟩)] w fun e w' => ∃ l : Puts, e = .returned (.tuple #[.int .u64 (gen + 1 : Nat), .int .i64 0]) ∧ (l.map Prod.fst).Nodup ∧ (∀ q s, (q, s) ∈ l ↔ f (q : Nat) = some s) ∧ JouAt w' T.j b fr n (gen + 1) ∧ DevAt w' b (com4 hard fr (gen + 1) l) (fun _ => none) (k + (recRows l).length + 1 + l.length + 1) ∧ Tch (fun c => (S3 b c ∨ c = T.j) ∨ c = T.p) w w' := by
  have HT := Lib.hid h
  have HJ := Lib.hid hJ
  have OP := Lib.hid (open_any w h)
  have hX := h.tx
  clear h hJ
  refine (callsIn_wide (n := 6)).1 ?_
  refine callsIn_of_wp_marks Tryz.func26 rfl trivial ?_ rfl
  simp only [Tryz.ntmps26, List.size_toArray, List.length_cons, List.length_nil, Nat.reduceAdd, Nat.reduceSub, Array.replicate_succ, Array.replicate_zero, List.push_toArray, List.append_toArray, List.nil_append, List.cons_append]
  gi_wp2_with fail
  refine ⟨trivial, ?_⟩
  refine (callsIn_wide.2 OP.out).mono ?_
  rintro e w1 ⟨rfl, rfl⟩
  gi_wp2_with fail
  obtain ⟨i0, hi, hz0, hz1, hz2⟩ := info_parts info_put
  have hTm := HT.out.map.lt
  have hTp := hX.lt
  have kO := Boxed.new w 140 (.slice none 0 0)
  have hX0 := hX.alloc (.cells #[.slice none 0 0] 140)
  have hM0 := HT.out.map.alloc (.cells #[.slice none 0 0] 140)
  have hB0 : Below w.heap.size w (w.alloc (.cells #[.slice none 0 0] 140)) := (Below.refl _ w).alloc (Nat.le_refl _) _
  have hW1 : (w.alloc (.cells #[.slice none 0 0] 140)).heap.size = w.heap.size + 1 := World.size_alloc _ _
  have hlen := HT.out.dev.len
  generalize w.alloc (.cells #[.slice none 0 0] 140) = W0 at *
  refine wpIn_rangeFunc_relB rfl (by omega) (gf := 72) (lp := #[.pointer (some ⟨T.p, 0, none⟩)]) rfl trivial (enters_of Tryz.func72 (by kernel_rfl) rfl)
    (each_seq (6 - 1) (by omega) W0 _ _ _ hX0 hM0 (by omega) (fun x s hx => by obtain ⟨q, hq, hq2, _⟩ := hd x s hx; exact ⟨q, hq, by omega⟩))
    (fun X Y h => ⟨h.size, fun c o _ ho _ => (h.block c (Array.getElem?_eq_some_iff.1 ho).1 (by simp)).trans ho⟩)
    (fun {X Y Z} h g => ⟨fun c cs hc hs => g.1 c cs hc (h.1 c cs hc hs), fun cs hs => g.2.1 cs (h.2.1 cs hs), g.2.2.trans h.2.2⟩)
    (fun W l o o' hl0 hl ho _ => ⟨fun c cs _ hs => (World.putObj_heap_other (fun e => by subst e; rw [show W.heap[_]? = _ from hs] at hl; cases hl; cases ho)).trans hs, fun cs hs => (World.putObj_heap_other (fun e => by subst e; rw [show W.heap[_]? = _ from hs] at hl; cases hl; cases ho)).trans hs, World.putObj_heap_other (by omega)⟩)
    (Below.refl _ _) (fun _ => rfl)
    (fun pre W => HeldP w.heap.size (w.heap.size + 1) pre W ∧ ((w.heap.size + 1 ≤ W.heap.size ∧ Below w.heap.size w W) ∧ ((pre.map Prod.fst).Nodup ∧ ∀ y ∈ pre, f y.1 = some y.2))) (fun _ _ _ => False)
    (OwnFrom.and (fun pre W W' row hs hg hr => by
      obtain ⟨v, h1, h2⟩ := hs
      exact ⟨v, Dir.boxed_own1 h1 hg hr, row_own1 h2 hg hr⟩) (OwnFrom.and (OwnFrom.and (Dir.size_own _) (ownFrom_below (Nat.le_refl _) (by omega))) (fun _ _ _ _ hs _ _ => hs)))
    (fun _ _ _ _ _ hs _ _ => hs)
    (fun s X Y ⟨⟨v, h1, h2⟩, ⟨hz, hB⟩, hp⟩ hr => ⟨⟨v, h1.kept hr (by simp), row_own1 (B := 0) h2 hr (fun r e => by cases e)⟩, ⟨Nat.le_trans hz hr.size, hB.grown hr hB.size (fun r e => by cases e)⟩, hp⟩) (fun _ _ _ _ h _ => h)
    ⟨⟨_, kO, World.ownsRow_nil _ _ _ _⟩, ⟨by omega, hB0⟩, List.nodup_nil, fun y hy => by cases hy⟩
    (fun x => { tmps := #[.pointer (some ⟨T.p, 0, none⟩), undef, .int .u64 0, .int .i64 0, .int .i64 0, .pointer (some ⟨w.heap.size, 0, none⟩), .int .i64 x.1, .string x.2, .pointer (some ⟨T.p, 0, none⟩), .int .i64 0, .int .i64 0, .bool false, undef, .pointer (some ⟨T.p, 0, none⟩), .func (.func 72) #[.pointer (some ⟨T.p, 0, none⟩)] #[], .int .i64 x.1, .string x.2, undef, undef, undef, undef, undef, undef, undef, undef, undef, undef, undef, undef, undef, undef, undef, undef, undef, undef, undef, undef, undef, undef, undef, undef, undef], defers := [] }) ?assign ?body ?done ?stop
  case assign =>
    intro l x W K hK
    gi_wp2
    exact hK
  case stop =>
    rintro D q pre W _ _ h _
    exact h.elim
  case body =>
    rintro l pre x W ⟨⟨v, hv, hrow⟩, ⟨hz, hB⟩, hpn, hpf⟩ ⟨hx1, hx2⟩
    obtain ⟨xk, xs⟩ := x
    simp only at hx1 hx2
    have cv := hv.cell
    have fv := hv.frozen
    have lv := hv.lt
    have hvl : ∀ g, v.ownBlock = some g → w.heap.size + 1 ≤ g := fun g e => (hrow.lt g e).1
    have HVL := Lib.hid hvl
    have hpl : pre.length ≤ hard.length := pre_len hpn hpf (fun x s hx => by obtain ⟨q, hq, hq2, _⟩ := hd x s hx; exact ⟨q, hq, hq2⟩)
    clear hvl
    dsimp only
    gi_wp2_with (gi_at_builtin; refine wpListIn_append_own _ rfl _ _ 140 rfl (w.heap.size + 1) 143 i0 (.agg #[.int .i64 0, .string ⟨#[]⟩]) 2 24 Tryz.underlying140 hi hz0 hz1 hz2 rfl (by decide) _ _ _ rfl (hrow.alloc _) ⟨W.heap.size, 0, none⟩ 1 1 [.int .i64 xk, .string xs] rfl rfl ?c1 ?c2 (by unfold maxLen; omega) (by omega) (by simp; omega) ?_)
    case c1 =>
      intro j u hu
      have e : ((⟨W.heap.size, 0, none⟩ : Addr).add j) = ⟨W.heap.size, j, none⟩ := by unfold Addr.add; simp; omega
      rw [e, (SBox.new W 143 #[.int .i64 xk, .string xs]).cell j]
      simpa using hu
    case c2 =>
      intro u hu
      simp only [List.mem_cons, List.not_mem_nil, or_false] at hu
      rcases hu with rfl | rfl <;> rfl
    intro v' W2 hown2 hgrow2 _
    obtain ⟨g', cap', rfl, hg'⟩ : ∃ g' cap', v' = .slice (some ⟨g', 0, none⟩) (pre.length + 1) cap' ∧ w.heap.size + 1 ≤ g' := by
      rcases hown2.2 with ⟨_, e0⟩ | ⟨g', cap', cur', rfl, hg, _⟩
      · omega
      · exact ⟨g', cap', rfl, hg⟩
    have hne : ∀ x, x < w.heap.size + 1 → some x ≠ v.ownBlock := fun x hx e => by have := HVL.out _ e.symm; omega
    have hv2 : Boxed W2 w.heap.size 140 v := (hv.alloc _).kept hgrow2 (hne _ (by omega))
    have c3 := hv2.cell
    have f3 := hv2.frozen
    have l3 := hv2.lt
    have hB2 : Below w.heap.size w W2 := (hB.alloc hB.size _).grown hgrow2 (by have := hB.size; simp; omega) (fun k e => by have := HVL.out _ e; omega)
    have hkeep : ∀ c, c < W.heap.size → some c ≠ v.ownBlock → W2.heap[c]? = W.heap[c]? := fun c hc hcv =>
      (hgrow2.block c (by simp; omega) hcv).trans (Below.heap_alloc _ _ _ hc)
    have hk2 : KeepsFrom W0.heap.size W W2 := by
      refine ⟨Nat.le_trans (by simp) hgrow2.size, fun q o hk0 hk ho => ?_⟩
      refine (hkeep q (Array.getElem?_eq_some_iff.1 hk).1 (fun e => ?_)).trans hk
      rcases hrow.2 with ⟨rfl, _⟩ | ⟨g, cap, cur, rfl, _, hgb, _⟩
      · simp [Value.ownBlock] at e
      · simp only [Value.ownBlock, Option.some.injEq] at e
        subst e
        rw [hgb] at hk
        cases hk
        cases ho
    have hkp : KpT W0.heap.size T W W2 := by
      refine ⟨fun c cs hc hs => ?_, fun cs hs => ?_, ?_⟩
      · refine (hkeep c hs.lt (fun e => ?_)).trans hs
        rcases hrow.2 with ⟨rfl, _⟩ | ⟨g, cap, cur, rfl, _, hgb, _⟩
        · simp [Value.ownBlock] at e
        · simp only [Value.ownBlock, Option.some.injEq] at e
          subst e
          rw [show W.heap[c]? = _ from hs] at hgb
          cases hgb
      · exact (hkeep _ hs.lt (hne _ (by omega))).trans hs
      · exact hkeep _ (by have := hB.size; omega) (hne _ (by omega))
    have hsz2 : w.heap.size + 1 ≤ W2.heap.size := Nat.le_trans hz (Nat.le_trans (by simp) hgrow2.size)
    have HO2 := Lib.hid hown2
    have HK2 := Lib.hid hk2
    have HP2 := Lib.hid hkp
    have HB2 := Lib.hid hB2
    have HV2 := Lib.hid hv2
    clear hgrow2 hown2 hne hv2 hB2 hkp hk2 hkeep hv hrow hB cv fv hg'
    gi_wp2
    refine ⟨HK2.out.trans ((KeepsOthers.setCell _ _ _).from _), ?_, ⟨⟨_, HV2.out.set _, ?_⟩, ⟨Nat.le_trans hsz2 (KeepsWalks.setCell W2 _ _).size, HB2.out.setCell (p := ⟨w.heap.size, 0, none⟩) (Nat.le_refl _) _⟩, ?_, ?_⟩⟩
    · exact ⟨fun c cs hc hs => (HP2.out.1 c cs hc hs).other _ (by omega), fun cs hs => (HP2.out.2.1 cs hs).other _ (by omega), (heap_setCell_other W2 ⟨w.heap.size, 0, none⟩ T.m _ (fun e => by have e : T.m = w.heap.size := e; omega)).trans HP2.out.2.2⟩
    · rw [putCells_snoc, List.length_append]
      exact ownsRow_setCell_below HO2.out (a := ⟨w.heap.size, 0, none⟩) (by show w.heap.size < w.heap.size + 1; omega) _
    · rw [List.map_append, List.nodup_append]
      refine ⟨hpn, by simp, fun a ha c hc e => ?_⟩
      simp only [List.map_cons, List.map_nil, List.mem_singleton] at hc
      rw [e, hc] at ha
      exact hx2 ha
    · intro y hy
      rcases List.mem_append.1 hy with q | q
      · exact hpf y q
      · rw [List.mem_singleton.1 q]
        exact hx1
  case done =>
    rintro D xs W hD ⟨hks, hkf⟩ ⟨⟨v, hv, hrow⟩, ⟨hz, hB⟩, _, _⟩ hK
    obtain ⟨l, hl⟩ : ∃ l : Puts, xs = l.map fun x => ((x.1 : Int), x.2) := ⟨xs.map fun y => (y.1.toNat, y.2), by
      rw [List.map_map]
      have e : ∀ y ∈ xs, ((fun x : Nat × ByteArray => ((x.1 : Int), x.2)) ∘ fun y : Kv => (y.1.toNat, y.2)) y = y := fun y hy => by
        obtain ⟨q, hq, _⟩ := hd _ _ (hkf y hy)
        obtain ⟨y1, y2⟩ := y
        simp only at hq
        subst hq
        rfl
      exact (List.map_id xs).symm.trans (List.map_congr_left (fun y hy => (e y hy).symm))⟩
    subst hl
    rw [List.length_map] at hrow
    have hlf : ∀ q s, (q, s) ∈ l → f (q : Nat) = some s := fun q s hq => hkf ((q : Int), s) (List.mem_map.2 ⟨(q, s), hq, rfl⟩)
    have hnd : (l.map Prod.fst).Nodup := by
      have h2 := hks.1
      rw [List.map_map] at h2
      refine List.pairwise_map.2 ((List.pairwise_map.1 h2).imp fun {a c} hne e => hne ?_)
      show ((a.1 : Nat) : Int) = (c.1 : Nat)
      rw [e]
    have hfl : ∀ q s, f (q : Nat) = some s → (q, s) ∈ l := fun q s hq => by
      have hm := (hks.2 (q : Int)).2 (by unfold strF; rw [hq]; rfl)
      rw [List.map_map] at hm
      obtain ⟨x, hx, he⟩ := List.mem_map.1 hm
      have he : (x.1 : Int) = q := he
      have hf2 := hlf x.1 x.2 hx
      have e1 : x.1 = q := by omega
      rw [e1, hq] at hf2
      have e2 : s = x.2 := Option.some.inj hf2
      rw [← e1, e2]
      exact hx
    have hlm : l.length ≤ mostN n := by
      have := hmax _ hks
      rw [List.length_map, List.length_map] at this
      exact this
    have h0l : 0 < l.length := by
      obtain ⟨x, s, hx⟩ := h1
      obtain ⟨q, rfl, _⟩ := hd x s hx
      exact List.length_pos_of_mem (hfl q s hx)
    have hmr := hrow' l.length hlm
    have hrr : 1 + (recRows l).length ≤ n := by rw [recRows_len]; exact hmr
    obtain ⟨g, cap, rfl, hbase⟩ : ∃ g cap, v = .slice (some ⟨g, 0, none⟩) l.length cap ∧ w.heap.size + 1 ≤ g := by
      rcases hrow.2 with ⟨_, e0⟩ | ⟨g, cap, cur, rfl, hg, _⟩
      · omega
      · exact ⟨g, cap, rfl, hg⟩
    have hP := puts_of hrow rfl
    have hgl : g < W.heap.size := (hrow.lt g rfl).2
    have hXW : SBox W T.p 139 _ := hX.later hB
    have hJW : SBox W T.j 185 _ := SBox.later HJ.out hB
    have hDW := HT.out.dev.later hB
    have TS : Tch (fun c => c = T.p) W (W.setCell ⟨T.p, 3, none⟩ (.bool true)) := Tch.set _ rfl
    have njp : T.j ≠ T.p := boxT hJW hXW (by decide)
    have hJ1 : JouAt (W.setCell ⟨T.p, 3, none⟩ (.bool true)) T.j b fr n gen := SBox.tch hJW TS njp
    have hP1 : PutsAt (W.setCell ⟨T.p, 3, none⟩ (.bool true)) g l := hP.tch TS hgl (by omega)
    have hD1 : DV (W.setCell ⟨T.p, 3, none⟩ (.bool true)) b hard noW k := dv_of (DevAt.box hDW hXW (by decide) (by decide) TS)
    have hX1 : SBox (W.setCell ⟨T.p, 3, none⟩ (.bool true)) T.p 139 #[.pointer (some ⟨b.p, 0, none⟩), .pointer (some ⟨T.j, 0, none⟩), .map (some T.m), .bool true] := hXW.set 3 _
    have hv1 : Boxed (W.setCell ⟨T.p, 3, none⟩ (.bool true)) w.heap.size 140 (.slice (some ⟨g, 0, none⟩) l.length cap) := (heap_setCell_other W ⟨T.p, 3, none⟩ w.heap.size _ (fun e => by have e : w.heap.size = T.p := e; omega)).trans hv
    have c5 := hv1.cell
    have HV1 := Lib.hid hv1
    have nG : g ≠ b.p ∧ g ≠ b.m ∧ g ≠ b.g := by
      have := HT.out.dev
      obtain ⟨cp, _, hdv⟩ := this.dev
      have d1 := hdv.lt
      have d2 := this.map.lt
      have d3 := this.row.lt
      exact ⟨by omega, by omega, by omega⟩
    have CM := Lib.hid (fun W2 (hb2 : Below (W.setCell ⟨T.p, 3, none⟩ (.bool true)).heap.size (W.setCell ⟨T.p, 3, none⟩ (.bool true)) W2) => commit_any T.j g fr n gen cap k l b hard W2 (SBox.later (show SBox _ T.j 185 _ from hJ1) hb2) (hP1.later (by simpa [World.setCell] using hgl) hb2) (Nat.lt_of_lt_of_le (by simpa [World.setCell] using hgl) hb2.size) nG (hD1.later hb2) hnd ⟨fun x hx => by obtain ⟨q, hq, hq2, _⟩ := hd _ _ (hlf x.1 x.2 hx); omega, fun x hx => by obtain ⟨q, hq, _, hq3, _⟩ := hd _ _ (hlf x.1 x.2 hx); exact hq3, fun x hx => by obtain ⟨q, hq, _, _, hq4⟩ := hd _ _ (hlf x.1 x.2 hx); omega, hlm⟩ hn hfr hrr hgen hk (by omega))
    have hK1 : (W.setCell ⟨T.p, 3, none⟩ (.bool true)).heap[D]? = some (.deferred (some [])) := (heap_setCell_other W ⟨T.p, 3, none⟩ D _ (fun e => by have e : D = T.p := e; omega)).trans hK
    have HB := Lib.hid hB
    have HXW := Lib.hid hXW
    have X0 := hXW.cell 0
    have X1 := hXW.cell 1
    have X2 := hXW.cell 2
    have X3 := hXW.cell 3
    simp only [List.getElem?_toArray, List.getElem?_cons_zero, List.getElem?_cons_succ] at X0 X1 X2 X3
    have Xl := hXW.lt
    have F0 := hXW.free 0
    have F1 := hXW.free 1
    have F2 := hXW.free 2
    have F3 := hXW.free 3
    have cv := hv.cell
    have lv := hv.lt
    have l0 : ((l.length : Int) == 0) = false := beq_eq_false_iff_ne.2 (by omega)
    have Y0 := hX1.cell 0
    have Y1 := hX1.cell 1
    have Y2 := hX1.cell 2
    have Y3 := hX1.cell 3
    simp only [List.getElem?_toArray, List.getElem?_cons_zero, List.getElem?_cons_succ] at Y0 Y1 Y2 Y3
    have Yl := hX1.lt
    clear hX hX1 hXW hJ1 hP1 hD1 hv1 hrow hP hJW hDW
    dsimp only
    gi_wp2_with fail
    refine wpIn_mono (Q := NoPanic _) ?_ NoPanic.imp
    gi_region_with (first | (refine ⟨trivial, ?_⟩; refine (callsIn_wide.2 (CM.out _ (Below.refl _ _).drew)).mono ?_; rintro e w9 ⟨rfl, hj9, hd9, t9⟩; have HJ9 := Lib.hid hj9; have HD9 := Lib.hid hd9; have HT9 := Lib.hid t9; clear hj9 hd9 t9))
    all_goals
      have nD : ∀ c, (S3 b c ∨ c = T.j) → c < w.heap.size := fun c e => by
        have dv := HT.out.dev
        obtain ⟨cp, _, hdv⟩ := dv.dev
        have d1 := hdv.lt
        have d2 := dv.map.lt
        have d3 := dv.row.lt
        have d4 := (show SBox w T.j 185 _ from HJ.out).lt
        rcases e with (e | e | e) | e <;> omega
      have hK9 : w9.heap[D]? = some (.deferred (some [])) := (HT9.out.block D (Array.getElem?_eq_some_iff.1 hK1).1 (fun e => by have := nD _ e; omega)).trans hK1
      refine NoPanic.normal ?_
      gi_wp2
      refine ⟨by simp, .inl ⟨_, _, rfl, run_takeDeferred hK9, ?_⟩⟩
      have TD : Tch (fun c => c = D) w9 (w9.putObj D (.deferred none)) := Tch.grown (grownBy_putObj' _ _ _) (fun r e => (Option.some.inj e).symm)
      refine ⟨.tuple #[.int .u64 (gen + 1 : Nat), .int .i64 0], ?_, l, rfl, hnd, fun q s => ⟨hlf q s, hfl q s⟩, ?_, ?_, ?_⟩
      · simp [results, Tryz.f26, go_sem]
      · exact SBox.tch (show SBox w9 T.j 185 _ from HJ9.out) TD (fun e => by have := nD _ (.inr rfl); omega)
      · exact HD9.out.bare.grown (grownBy_putObj' _ _ _) (B := w.heap.size) (nD _ (.inl (.inr (.inl rfl)))) (fun r e => by cases e; exact ⟨by omega, _, hK9, rfl⟩)
      · have T1 : Tch (fun c => (S3 b c ∨ c = T.j) ∨ c = T.p) w (W.setCell ⟨T.p, 3, none⟩ (.bool true)) := (Tch.of_below HB.out).trans (Tch.mono (Tch.set (S := fun c => c = T.p) _ rfl) (fun c e => .inr e))
        exact tch_new (T1.trans ((Tch.of_below ((Below.refl _ _).drew)).trans (HT9.out.mono (fun c e => .inl e)))) (TD.mono (fun c e => .inl e)) (by omega)
end Go.Proofs.YtpnfkilfgdnogaaGreatDoor.Tx
end

/- Layer 9 (tx): Room. -/
section
namespace Go.Proofs.YtpnfkilfgdnogaaGreatDoor.Tx
set_option linter.unusedVariables false
set_option linter.unusedSimpArgs false
open Go.RowKit Go.Shelf Go.Maps Go.Sort Oct Dev Jou
section
variable {T : TxB} {b : DevB} {hard : List ByteArray} {k nn fr n : Nat} {f : Wrote}
set_option maxRecDepth 100000 in
set_option maxHeartbeats 2000000 in
theorem room_run (q : Nat) (w : World) (h : TJ w T b hard k f nn fr n) (hn : n ≤ 256) (hlen : ∀ m ty, (Builtin.len_ #[137] ty #[.map (some T.m)]).run Tryz.prog (w.drewN m) = .ok (.int .i64 q) (w.drewN m)) (hq : q ≤ mostN n) (hm : mostN n ≤ 4096) :
    Calls Tryz.prog 25 #[.pointer (some ⟨T.p, 0, none⟩)] w fun e w' => e = .returned (.int .i64 (mostN n - q : Nat)) ∧ Below w.heap.size w w' := by
  have OP := Lib.hid (open_any w h.tx)
  obtain ⟨gen, _, hjou⟩ := h.jou
  have MX := Lib.hid (fun m => max_any T.j b fr n gen (w.drewN m) (SBox.below hjou (SBox.lt hjou) (Oct.below_drewN _ _ _)) (by omega) |>.mono fun e w' (h : _ ∧ _) => (⟨h.1, h.2.symm⟩ : _ ∧ w' = w.drewN m))
  have hX := h.tx.tx
  have X0 := hX.cell 0
  have X1 := hX.cell 1
  have X2 := hX.cell 2
  have X3 := hX.cell 3
  simp only [List.getElem?_toArray, List.getElem?_cons_zero, List.getElem?_cons_succ] at X0 X1 X2 X3
  have Xl := hX.lt
  clear hX h
  have e : ((mostN n - q : Nat) : Int) = (mostN n : Int) - (q : Int) := by omega
  rw [e]
  generalize mostN n = M at *
  go_enter Tryz.func25, Tryz.ntmps25
  go_wp2_with fail
  refine OP.out.mono ?_
  rintro e w9 ⟨rfl, rfl⟩
  go_wp2_with fail
  go_quiet ((go_at_call 71; exact Calls.quiet_of_same (MX.out _)))
  go_wp2
  go_ret
  exact ⟨rfl, Oct.below_drewN _ _ _⟩
end
end Go.Proofs.YtpnfkilfgdnogaaGreatDoor.Tx
end

/- Layer 4 (journal), plain: what a commit leaves, sector by sector. -/
section
namespace Go.Proofs.YtpnfkilfgdnogaaGreatDoor.Jou
set_option linter.unusedVariables false
set_option linter.unusedSimpArgs false
open Go.RowKit Go.Shelf Go.Maps Oct Dev Crc
theorem ovr_at (hard : List ByteArray) (P : Wait) (q : Nat) : (ovr hard P)[q]? = hard[q]?.map fun s => (P q).getD s := by
  unfold ovr
  rw [List.getElem?_mapIdx]
theorem ovr_none {hard : List ByteArray} {P : Wait} {q : Nat} (h : P q = none) : (ovr hard P)[q]? = hard[q]? := by
  rw [ovr_at, h]
  cases hard[q]? <;> rfl
theorem layW_mem {q : Nat} {s : ByteArray} : ∀ (l : Puts) (P : Wait), (l.map Prod.fst).Nodup → (q, s) ∈ l → layW P l q = some s
  | x :: r, P, hn, hm => by
    have e : layW P (x :: r) = layW (upW P x.1 x.2) r := rfl
    rw [List.map_cons, List.nodup_cons] at hn
    rcases List.mem_cons.1 hm with h | h
    · subst h
      rw [e, layW_ne r _ (fun y hy he => hn.1 (List.mem_map.2 ⟨y, hy, he⟩))]
      exact if_pos rfl
    · rw [e]
      exact layW_mem r _ hn.2 h
/-- A sector behind the area, or ahead of it. -/
theorem com4_at {hard : List ByteArray} {fr gen q : Nat} {l : Puts} (hq : q < fr ∨ fr + 1 + (recRows l).length ≤ q) (hn : (l.map Prod.fst).Nodup) : (com4 hard fr gen l)[q]? = hard[q]?.map fun s => (layW noW l q).getD s := by
  have e1 : (com1 hard fr l)[q]? = hard[q]? := ovr_none (by rw [rowW_ne _ _ _ _ (by omega)]; rfl)
  have e2 : (com2 hard fr gen l)[q]? = hard[q]? := (ovr_none (if_neg (by omega))).trans e1
  have e3 : (com3 hard fr gen l)[q]? = hard[q]?.map fun s => (layW noW l q).getD s := by
    unfold com3
    rw [ovr_at, e2]
  exact (ovr_none (if_neg (by omega))).trans e3
theorem rowW_val {q : Nat} {s : ByteArray} : ∀ (l : List ByteArray) (P : Wait) (a : Nat), rowW P a l q = some s → P q = some s ∨ s ∈ l
  | [], P, a, h => .inl h
  | x :: r, P, a, h => by
    have e : rowW P a (x :: r) = rowW (upW P a x) (a + 1) r := rfl
    rw [e] at h
    rcases rowW_val r _ _ h with h2 | h2
    · unfold upW at h2
      split at h2
      · exact .inr (by rw [Option.some.inj h2]; exact List.mem_cons_self ..)
      · exact .inl h2
    · exact .inr (List.mem_cons_of_mem _ h2)
theorem layW_val {q : Nat} {s : ByteArray} : ∀ (l : Puts) (P : Wait), layW P l q = some s → P q = some s ∨ ∃ x ∈ l, x.2 = s
  | [], P, h => .inl h
  | x :: r, P, h => by
    have e : layW P (x :: r) = layW (upW P x.1 x.2) r := rfl
    rw [e] at h
    rcases layW_val r _ h with h2 | ⟨y, hy, h2⟩
    · unfold upW at h2
      split at h2
      · exact .inr ⟨x, List.mem_cons_self .., Option.some.inj h2⟩
      · exact .inl h2
    · exact .inr ⟨y, List.mem_cons_of_mem _ hy, h2⟩
def All64 (hard : List ByteArray) : Prop := ∀ (q : Nat) (s : ByteArray), hard[q]? = some s → s.size = 64
theorem ovr_64 {hard : List ByteArray} {P : Wait} (h : All64 hard) (hP : ∀ q s, P q = some s → s.size = 64) : All64 (ovr hard P) := fun q s hs => by
  rw [ovr_at] at hs
  cases e : hard[q]? with
  | none => rw [e] at hs; cases hs
  | some t =>
    rw [e] at hs
    have hs : (P q).getD t = s := Option.some.inj hs
    cases e2 : P q with
    | none => rw [e2] at hs; rw [← hs]; exact h q t e
    | some u => rw [e2] at hs; rw [← hs]; exact hP q u e2
theorem padB_size {s : ByteArray} (h : s.size ≤ 64) : (padB s 64).size = 64 := by
  unfold padB
  rw [size_B, List.length_append, List.length_replicate, len_L]
  omega
theorem com4_64 {hard : List ByteArray} {fr gen : Nat} {l : Puts} (h : All64 hard) (hl : ∀ x ∈ l, x.2.size = 64) : All64 (com4 hard fr gen l) := by
  have hu : ∀ (s : ByteArray), s.size = 64 → ∀ q t, upW noW fr s q = some t → t.size = 64 := fun s hs q t ht => by
    unfold upW at ht
    split at ht
    · rw [← Option.some.inj ht]
      exact hs
    · cases ht
  refine ovr_64 (ovr_64 (ovr_64 (ovr_64 h ?_) (hu _ (headS_size _ _))) ?_) (hu _ (headS_size _ _))
  · intro q s hs
    rcases rowW_val _ _ _ hs with h2 | h2
    · cases h2
    · unfold recRows at h2
      rcases List.mem_append.1 h2 with h3 | h3
      · obtain ⟨c, hc, rfl⟩ := List.mem_map.1 h3
        exact padB_size (by rw [size_B]; exact chunksF_le 64 (by omega) _ _ c hc)
      · obtain ⟨x, hx, rfl⟩ := List.mem_map.1 h3
        exact hl x hx
  · intro q s hs
    rcases layW_val _ _ hs with h2 | ⟨x, hx, rfl⟩
    · cases h2
    · exact hl x hx
end Go.Proofs.YtpnfkilfgdnogaaGreatDoor.Jou
end

/- Layer 11 (image): which sectors were written, how many more may be, and what a commit leaves; another transaction behind it. -/
section
namespace Go.Proofs.YtpnfkilfgdnogaaGreatDoor.Img
set_option linter.unusedVariables false
set_option linter.unusedSimpArgs false
open Go.RowKit Go.Shelf Go.Maps Go.Sort Oct Dev Jou Tx Geo
/-- The image shows this disk; just these sectors were written. -/
def ISx (W : World) (E : Im) (D : Secs) (Ls : List Nat) : Prop :=
  ∃ f nn, ImAt W E f nn ∧ (∀ q, q < E.hard.length → readT f E.hard q = D q) ∧ Ls.Nodup ∧ nn = Ls.length ∧ (∀ q ∈ Ls, q < E.hard.length) ∧ ∀ x : Int, (f x).isSome = true ↔ ∃ q ∈ Ls, x = (q : Nat)
section
variable {E : Im} {D : Secs} {Z : Nat → Prop} {Ls : List Nat} {W W' : World}
theorem ISx.later (h : ISx W E D Ls) (hb : Below W.heap.size W W') : ISx W' E D Ls := by
  obtain ⟨f, nn, h1, h2⟩ := h
  exact ⟨f, nn, h1.later hb, h2⟩
theorem ISx.is (h : ISx W E D Ls) : IS W E D (fun q => q ∈ Ls) := by
  obtain ⟨f, nn, h1, h2, h3, h4, h5, h6⟩ := h
  exact ⟨f, nn, h1, h2, fun x hx => by obtain ⟨q, hq, e⟩ := (h6 x).1 hx; exact ⟨q, e, h5 q hq, hq⟩⟩
/-- What was written is told. -/
theorem IS.just (h : IS W E D Z) : ∃ Ls, ISx W E D Ls ∧ (∀ q ∈ Ls, Z q) ∧ ∀ m ty, (Builtin.len_ #[137] ty #[.map (some E.T.m)]).run Tryz.prog (W.drewN m) = .ok (.int .i64 Ls.length) (W.drewN m) := by
  obtain ⟨f, nn, h1, h2, h3⟩ := h
  obtain ⟨ss, hk, hT, hlen⟩ := h1.tj.keys
  have hm : ∀ a ∈ ss, ∃ q : Nat, a = q ∧ q < E.hard.length ∧ Z q := fun a ha => h3 a (by have := (hk.2 a).1 ha; unfold strF at this; simpa using this)
  have hl : (ss.map Int.toNat).length = ss.length := List.length_map ..
  refine ⟨ss.map Int.toNat, ⟨f, ss.length, ⟨h1.img, hT, h1.len, h1.sec⟩, h2, ?_, hl.symm, ?_, ?_⟩, ?_, by rw [hl]; exact hlen⟩
  · refine List.pairwise_map.2 (hk.1.imp_of_mem fun {a c} ha hc hne e => hne ?_)
    obtain ⟨p, rfl, _⟩ := hm a ha
    obtain ⟨q, rfl, _⟩ := hm c hc
    have e2 : p = q := by simpa using e
    rw [e2]
  · intro q hq
    obtain ⟨a, ha, rfl⟩ := List.mem_map.1 hq
    obtain ⟨p, rfl, hp, _⟩ := hm a ha
    simpa using hp
  · intro x
    constructor
    · intro hx
      obtain ⟨q, rfl, _⟩ := h3 x hx
      have hs : (q : Int) ∈ ss := (hk.2 _).2 (by unfold strF; simpa using hx)
      exact ⟨q, List.mem_map.2 ⟨_, hs, by simp⟩, rfl⟩
    · rintro ⟨q, hq, rfl⟩
      obtain ⟨a, ha, rfl⟩ := List.mem_map.1 hq
      obtain ⟨p, rfl, _⟩ := hm a ha
      have := (hk.2 _).1 ha
      unfold strF at this
      simpa using this
  · intro q hq
    obtain ⟨a, ha, rfl⟩ := List.mem_map.1 hq
    obtain ⟨p, rfl, _, hp⟩ := hm a ha
    simpa using hp
theorem room_is (w : World) (h : IS w E D Z) (M : List Nat) (hM : ∀ q, Z q → q ∈ M) (hl : M.length ≤ mostN E.j) (hj : E.j ≤ 256) (hm : mostN E.j ≤ 4096) :
    Calls Tryz.prog 25 #[.pointer (some ⟨E.T.p, 0, none⟩)] w fun e w' => ∃ Ls, e = .returned (.int .i64 (mostN E.j - Ls.length : Nat)) ∧ Ls.length ≤ mostN E.j ∧ (∀ q ∈ Ls, Z q) ∧ ISx w' E D Ls ∧ Below w.heap.size w w' := by
  obtain ⟨Ls, hx, hz, hlen⟩ := h.just
  have hle : Ls.length ≤ mostN E.j := by
    obtain ⟨_, _, _, _, hn, _⟩ := hx
    have := List.Nodup.length_le_of_subset hn (fun q hq => hM q (hz q hq))
    omega
  have hx0 := hx
  obtain ⟨f, nn, h1, _⟩ := hx
  refine (room_run Ls.length w h1.tj hj hlen hle hm).mono ?_
  rintro e w' ⟨rfl, b⟩
  exact ⟨Ls, rfl, hle, hz, hx0.later b, b⟩
/-- What a commit leaves. -/
structure Kept (W : World) (E : Im) (D : Secs) (hard : List ByteArray) (k g : Nat) : Prop where
  jou : JouAt W E.T.j E.b 1 E.j g
  gen : g ≤ k
  dev : DevAt W E.b hard (fun _ => none) k
  le : k ≤ E.k + 600
  len : hard.length = E.hard.length
  all : All64 hard
  at_ : ∀ q, fr E 2 ≤ q → q < E.hard.length → hard.getD q ⟨#[]⟩ = D q
theorem commit_is (w : World) (hs : Small E) (h : ISx w E D Ls) (h0 : 0 < Ls.length) (hl : Ls.length ≤ mostN E.j) (hz : ∀ q ∈ Ls, fr E 2 ≤ q) (hmost : mostN E.j ≤ 250) (hrow : ∀ m, m ≤ mostN E.j → 1 + ((2 * m + 63) / 64 + m) ≤ E.j) (h64 : All64 E.hard) (hk : E.k + 30000 < 1099511627776) :
    Calls Tryz.prog 26 #[.pointer (some ⟨E.T.p, 0, none⟩)] w fun e w' => ∃ (g : Nat) (hard : List ByteArray) (k : Nat), e = .returned (.tuple #[.int .u64 g, .int .i64 0]) ∧ Kept w' E D hard k g ∧ Tch (fun c => (S3 E.b c ∨ c = E.T.j) ∨ c = E.T.p) w w' := by
  obtain ⟨f, nn, h1, h2, h3, h4, h5, h6⟩ := h
  obtain ⟨gen, hg, hJ⟩ := h1.tj.jou
  have hv := hs.vals
  have hjj := hs.hj
  have hlen := h1.len
  have hsome : ∀ x s, f x = some s → ∃ q ∈ Ls, x = (q : Nat) := fun x s hx => (h6 x).1 (by rw [hx]; rfl)
  have hD : ∀ (q : Nat) s, f q = some s → q < E.hard.length ∧ D q = s := fun q s hx => by
    obtain ⟨p, hp, e⟩ := hsome _ _ hx
    have e : q = p := by omega
    subst e
    have h7 := h5 q hp
    have h8 := h2 q h7
    unfold readT at h8
    rw [hx] at h8
    exact ⟨h7, h8.symm⟩
  have hsz : ∀ (q : Nat) s, f q = some s → s.size = 64 := fun q s hx => by
    obtain ⟨a, c⟩ := hD q s hx
    rw [← c, ← h2 q a]
    exact h1.sec q a
  refine (txcommit_any (fr := 1) (n := E.j) (gen := gen) w h1.tj.tx hJ h1.tj.ne (by omega) ?_ ?_ ?_ (by omega) (by omega) hrow (by omega) hk).mono ?_
  · intro x s hx
    obtain ⟨q, hq, rfl⟩ := hsome x s hx
    exact ⟨q, rfl, (hD q s hx).1, hsz q s hx, .inr (by have := hz q hq; omega)⟩
  · obtain ⟨q, hq⟩ := List.exists_mem_of_length_pos h0
    have h7 := (h6 (q : Nat)).2 ⟨q, hq, rfl⟩
    obtain ⟨s, hs⟩ := Option.isSome_iff_exists.1 h7
    exact ⟨_, s, hs⟩
  · intro ss hk
    have h7 := List.Nodup.length_le_of_subset hk.1 (l₂ := Ls.map fun q => ((q : Nat) : Int)) (fun a ha => by
      obtain ⟨q, hq, e⟩ := (h6 a).1 (by have := (hk.2 a).1 ha; unfold strF at this; simpa using this)
      exact List.mem_map.2 ⟨q, hq, e.symm⟩)
    rw [List.length_map] at h7
    omega
  · rintro e w' ⟨l, rfl, n1, n2, n3, n4, n5⟩
    have hll : l.length ≤ Ls.length := by
      have h7 := List.Nodup.length_le_of_subset n1 (l₂ := Ls) (fun q hq => by
        obtain ⟨x, hx, rfl⟩ := List.mem_map.1 hq
        obtain ⟨p, hp, e⟩ := hsome _ _ ((n2 x.1 x.2).1 hx)
        have e : x.1 = p := by omega
        rw [e]
        exact hp)
      rwa [List.length_map] at h7
    have hr := recRows_len l
    have hro := hrow l.length (by omega)
    refine ⟨gen + 1, _, _, rfl, ⟨n3, by omega, n4, by omega, ?_, ?_, ?_⟩, n5⟩
    · unfold com4 com3 com2 com1
      rw [ovr_len, ovr_len, ovr_len, ovr_len]
    · exact com4_64 h64 (fun x hx => hsz x.1 x.2 ((n2 x.1 x.2).1 hx))
    · intro q hq hql
      rw [List.getD_eq_getElem?_getD, com4_at (.inr (by omega)) n1, ← h2 q hql]
      unfold readT
      cases e : f q with
      | some s =>
        rw [layW_mem l noW n1 ((n2 q s).2 e), List.getElem?_eq_getElem hql]
        rfl
      | none =>
        rw [layW_ne l noW (fun x hx he => by
          have := (n2 x.1 x.2).1 hx
          rw [he, e] at this
          cases this), List.getElem?_eq_getElem hql, List.getD_eq_getElem?_getD, List.getElem?_eq_getElem hql]
        rfl
end
end Go.Proofs.YtpnfkilfgdnogaaGreatDoor.Img
end
