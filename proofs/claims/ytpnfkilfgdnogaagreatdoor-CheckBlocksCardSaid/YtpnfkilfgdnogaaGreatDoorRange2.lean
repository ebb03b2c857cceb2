/- A range over a function whose iterator writes what the caller reads: what holds when a round begins, and behind the last one, is said of the world. -/
import Derived.Test.YtpnfkilfgdnogaaGreatDoorRange
namespace Go.Proofs.YtpnfkilfgdnogaaGreatDoor
set_option linter.unusedVariables false
open Go.RowKit
def SeqRel2 {α : Type} (F : Fence) (n : Nat) (P : Program) (g : Nat) (lb : Array Value) (encs : α → Array Value) (Rel Kp : World → World → Prop) (Nx : List α → α → World → Prop) (Fin : List α → World → Prop) (w : World) : Prop :=
  ∀ (l : Nat) (J Jx : List α → World → Prop) (W : World), Below w.heap.size w W → (∀ s X Y, J s X → Rel X Y → J s Y) → (∀ s X Y, Jx s X → Rel X Y → Jx s Y) →
    (∀ pre x W1, J pre W1 → Nx pre x W1 → YieldAt F (n - 1) P l (encs x) W1 fun e W' =>
      (e = .returned (.bool true) ∧ J (pre ++ [x]) W' ∧ Kp W1 W') ∨ (e = .returned (.bool false) ∧ Jx (pre ++ [x]) W')) →
    J [] W →
    CallsIn F n P g (#[.func (.yield l) #[] #[]] ++ lb) W fun e W' => (∃ v, e = .returned v) ∧ ((∃ xs, Fin xs W' ∧ J xs W') ∨ (∃ pre, Jx pre W'))
variable {F : Fence} {n : Nat} {P : Program}
theorem wpIn_rangeFunc_rel2 {α : Type} {g : Operand} {ps : Array Tmp} {assign body : Code} {Q : Exit → Act → World → Prop} {a : Act} {w : World}
    (hro : F.round = none) (h1 : 1 ≤ n) {gf : Nat} {lb : Array Value} (hg : a.eval g = .func (.func gf) #[] lb) (hFg : F.fn gf) (eg : ∀ args w, (callFunc gf args).run P w = .ok (.enter gf args) w)
    {encs : α → Array Value} {Rel Kp : World → World → Prop} {Nx : List α → α → World → Prop} {Fin : List α → World → Prop} {w0 : World} (hseq : SeqRel2 F (n - 1) P gf lb encs Rel Kp Nx Fin w0)
    (hN : ∀ (pre : List α) (x : α) (W : World) (l : Nat) (o o' : Obj), w.heap.size ≤ l → W.heap[l]? = some o → o.isCells = false → Nx pre x W → Nx pre x (W.putObj l o'))
    (hF : ∀ (xs : List α) (W : World) (l : Nat) (o o' : Obj), w.heap.size ≤ l → W.heap[l]? = some o → o.isCells = false → Fin xs W → Fin xs (W.putObj l o'))
    (hRel : ∀ X Y, Rel X Y → KeepsFrom w.heap.size X Y)
    (hKt : ∀ {X Y Z : World}, Kp X Y → Kp Y Z → Kp X Z) (hKb : ∀ (W : World) (l : Nat) (o o' : Obj), w.heap.size ≤ l → W.heap[l]? = some o → o.isCells = false → o.isWalk = false → Kp W (W.putObj l o')) (hb0 : Below w0.heap.size w0 w) (hps : ∀ x, (encs x).size = ps.size)
    (I : List α → World → Prop) (Ix : Code → List α → World → Prop) (hI : OwnFrom w.heap.size I) (hIx : ∀ c, OwnFrom w.heap.size (Ix c))
    (hIr : ∀ s X Y, I s X → Rel X Y → I s Y) (hIxr : ∀ c s X Y, Ix c s X → Rel X Y → Ix c s Y) (h0 : I [] w) (a₁ : α → Act)
    (hassign : ∀ (l : Nat) (x : α) (W : World) (K : Act → World → Prop), K (a₁ x) W →
      assign.wpIn (F.inRound l) (n - 1 - 1) P (Exit.then K (fun _ _ _ => False)) { tmps := (ps.zip (encs x)).foldl (fun t (p, v) => t.setIfInBounds p v) a.tmps, defers := [] } W)
    (hbody : ∀ (l : Nat) (pre : List α) (x : α) (W : World), I pre W → Nx pre x W → body.wpIn (F.inRound l) (n - 1 - 1) P (ownPostG w.heap.size Kp I Ix (pre ++ [x]) W) (a₁ x) W)
    (hdone : ∀ (D : Nat) (xs : List α) (W : World), w.heap.size ≤ D → Fin xs W → I xs W → W.heap[D]? = some (.deferred (some [])) → Q .normal { a with defers := { target := .collected D, args := #[] } :: a.defers } W)
    (hstop : ∀ (D : Nat) (c : Code) (pre : List α) (W : World), w.heap.size ≤ D → Ix c pre W → W.heap[D]? = some (.deferred (some [])) → c.wpIn F n P Q { a with defers := { target := .collected D, args := #[] } :: a.defers } W) :
    (Code.rangeFunc g ps assign body).wpIn F n P Q a w := by
  refine wpIn_rangeFunc ?_
  intro fn hfn
  rw [hro]
  let D := w.heap.size
  let R := w.heap.size + 1
  obtain ⟨mk, hmk⟩ : ∃ mk : LoopState → Option Code → Loop, mk = fun st pe => { state := st, pending := pe, fn, tmps := a.tmps, params := ps, assign, body, defers := D } := ⟨_, rfl⟩
  obtain ⟨V, hV⟩ : ∃ V, (w.alloc (.deferred (some []))).alloc (.loop (mk .ready none)) = V := ⟨_, rfl⟩
  have vR : V.heap[R]? = some (.loop (mk .ready none)) := by
    rw [← hV]
    have := World.alloc_heap_new (w.alloc (.deferred (some []))) (.loop (mk .ready none))
    rwa [World.size_alloc] at this
  have vD : V.heap[D]? = some (.deferred (some [])) := by
    rw [← hV]
    exact (Below.heap_alloc _ _ _ (by simp [D])).trans (World.alloc_heap_new w _)
  have vI : I [] V := by rw [← hV]; exact hI.alloc _ (hI.alloc _ h0)
  have vB : Below w0.heap.size w0 V := by
    rw [← hV]
    exact hb0.trans ((((Below.refl _ w).alloc (Nat.le_refl _) _).alloc (by simp) _).mono hb0.size)
  refine ⟨R, [{ target := .collected D, args := #[] }], V, { target := .fn (.func gf) lb, args := #[.func (.yield R) #[] #[]] }, V, gf, #[.func (.yield R) #[] #[]] ++ lb, V, ?_, ?_, ?_, ?_, fun _ => h1, ?_⟩
  · rw [← hV, hmk]; exact run_enterLoop_outer _ _ _ _ _
  · simp only [resolve, hg]
    simp [go_sem]
  · intro f' hf'
    simp [Target.leads] at hf'
    subst hf'
    exact hFg
  · simp [invoke, go_sem, eg]
  ·
    have keep : ∀ {X Y : World} {k : Nat} {o : Obj}, Rel X Y → D ≤ k → X.heap[k]? = some o → o.isCells = false → Y.heap[k]? = some o := fun hr hk hx ho => (hRel _ _ hr).same _ _ hk hx ho
    refine (hseq R (fun pre W => I pre W ∧ W.heap[R]? = some (.loop (mk .ready none)) ∧ W.heap[D]? = some (.deferred (some [])))
      (fun pre W => ∃ c, Ix c pre W ∧ W.heap[R]? = some (.loop (mk .done (some c))) ∧ W.heap[D]? = some (.deferred (some [])))
      V vB (fun s X Y h r => ⟨hIr s X Y h.1 r, keep r (by omega) h.2.1 rfl, keep r (Nat.le_refl _) h.2.2 rfl⟩)
      (fun s X Y h r => by
        obtain ⟨c, hc, hl, hk⟩ := h
        exact ⟨c, hIxr c s X Y hc r, keep r (by omega) hl rfl, keep r (Nat.le_refl _) hk rfl⟩) ?_ ⟨vI, vR, vD⟩).mono ?_
    · rintro pre x W ⟨hi, hl, hk⟩ hlen
      have hlt : R < W.heap.size := (Array.getElem?_eq_some_iff.1 hl).1
      have hy := run_yield (P := P) (args := encs x) hl (by rw [hmk]; exact hps x)
      rw [hmk] at hy
      refine ⟨fn, _, assign, body, hy, roundIn_of_wpIn hfn (hassign _ x W _ ⟨_, run_beginRound hl (by rw [hmk]), ?_⟩)⟩
      have bR : (W.putObj R (.loop { mk .ready none with state := .busy })).heap[R]? = some (.loop { mk .ready none with state := .busy }) := World.putObj_heap_same hlt
      have bD : (W.putObj R (.loop { mk .ready none with state := .busy })).heap[D]? = some (.deferred (some [])) := (World.putObj_heap_other (by omega)).trans hk
      have bK : Kp W (W.putObj R (.loop { mk .ready none with state := .busy })) := hKb _ _ _ _ (by omega) hl rfl rfl
      refine wpIn_mono (hbody _ pre x _ (hI.putObj _ hi (by omega) hl rfl) (hN _ _ _ _ _ _ (by omega) hl rfl hlen)) ?_
      have fin : ∀ (jump : Option Code) (W3 : World), KeepsFrom w.heap.size (W.putObj R (.loop { mk .ready none with state := .busy })) W3 →
          (Instr.endRound R jump).run P W3 = .ok (.bool jump.isNone) (W3.putObj R (.loop (mk (if jump.isNone then .ready else .done) jump))) ∧
          W3.heap[R]? = some (.loop { mk .ready none with state := .busy }) ∧
          (W3.putObj R (.loop (mk (if jump.isNone then .ready else .done) jump))).heap[R]? = some (.loop (mk (if jump.isNone then .ready else .done) jump)) ∧
          (W3.putObj R (.loop (mk (if jump.isNone then .ready else .done) jump))).heap[D]? = some (.deferred (some [])) := fun jump W3 hk3 => by
        have c1 := hk3.same _ _ (by omega) bR rfl
        have c2 := run_endRound (P := P) jump c1
        rw [hmk] at c2 ⊢
        exact ⟨c2, by rw [hmk] at c1; exact c1, World.putObj_heap_same (Array.getElem?_eq_some_iff.1 c1).1, (World.putObj_heap_other (by omega)).trans (hk3.same _ _ (Nat.le_refl _) bD rfl)⟩
      rintro e a3 W3 hp
      cases e with
      | normal =>
        obtain ⟨k3, p3, i3⟩ := hp
        obtain ⟨r3, l3, l4, d4⟩ := fin none W3 k3
        exact ⟨_, _, r3, .inl ⟨rfl, ⟨hI.putObj _ i3 (by omega) l3 rfl, l4, d4⟩, hKt (hKt bK p3) (hKb _ _ _ _ (by omega) l3 rfl rfl)⟩⟩
      | ret =>
        obtain ⟨k3, i3⟩ := hp
        obtain ⟨r3, l3, l4, d4⟩ := fin (some .ret) W3 k3
        exact ⟨_, _, r3, .inr ⟨rfl, .ret, (hIx _).putObj _ i3 (by omega) l3 rfl, l4, d4⟩⟩
      | exit id =>
        obtain ⟨k3, i3⟩ := hp
        obtain ⟨r3, l3, l4, d4⟩ := fin (some (.exit id)) W3 k3
        exact ⟨_, _, r3, .inr ⟨rfl, .exit id, (hIx _).putObj _ i3 (by omega) l3 rfl, l4, d4⟩⟩
      | goto t =>
        obtain ⟨k3, i3⟩ := hp
        obtain ⟨r3, l3, l4, d4⟩ := fin (some (.goto t)) W3 k3
        exact ⟨_, _, r3, .inr ⟨rfl, .goto t, (hIx _).putObj _ i3 (by omega) l3 rfl, l4, d4⟩⟩
      | panic ch => exact hp.elim
      | outgrown => exact hp.elim
    · rintro e W2 ⟨⟨v, rfl⟩, (⟨xs, hS, hi, hl, hk⟩ | ⟨pre, c, hi, hl, hk⟩)⟩
      · exact ⟨none, _, by have := run_endLoop (P := P) hl (by rw [hmk]; simp); rw [hmk] at this; exact this, hdone _ xs _ (Nat.le_refl _) (hF _ _ _ _ _ (by omega) hl rfl hS) (hI.putObj _ hi (by omega) hl rfl) ((World.putObj_heap_other (by omega)).trans hk)⟩
      · exact ⟨some c, _, by have := run_endLoop (P := P) hl (by rw [hmk]; simp); rw [hmk] at this; exact this, hstop _ c pre _ (Nat.le_refl _) ((hIx c).putObj _ hi (by omega) hl rfl) ((World.putObj_heap_other (by omega)).trans hk)⟩
end Go.Proofs.YtpnfkilfgdnogaaGreatDoor
