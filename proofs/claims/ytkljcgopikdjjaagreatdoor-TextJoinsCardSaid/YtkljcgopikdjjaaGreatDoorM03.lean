/- Layer 20, the small functions: what a call has, its word; the table of fields; a call as a value; how each field goes away, out, and in. -/
import Derived.Laws.BitsAllLaws
import Derived.WalkKit
import Derived.IntWalk
import Derived.Test.YtkljcgopikdjjaaGreatDoorProg
import Derived.WalkSpells
import Derived.WalkLawsBesides
import Derived.Lib.Hide
import Derived.Laws.IdiomStrings
import Derived.Deep.OwnRows
import Derived.Laws.MakeOwn
import Derived.Deep.QuietTactic
import Derived.BigQuiet
import Derived.RangeFuncNested
import Derived.RangeFuncWrites
import Derived.Deep.Quiet
import Derived.Test.YtkljcgopikdjjaaGreatDoorM02
import Derived.Laws.RangeAny
import Derived.Laws.RangeString
import Derived.Lib.Bytealg
import Derived.Test.YtkljcgopikdjjaaGreatDoorM01
import Derived.RangeFuncBound
import Derived.RangeFuncCalls
import Derived.RangeFuncLeaves
import Derived.Shelf.Abstract
import Derived.Shelf.RegionOpen
import Derived.OwnWalkIn
import Derived.TacticsInMore
import Derived.LoopNIn
import Derived.LoopIn
import Derived.Deep.AppendLies
import Derived.Deep.RegionLaw
import Derived.Maps.AppendAt
import Derived.Lib.Join
import Derived.StillTailTactics
import Derived.Laws.EntriesVeiled
import Derived.OneCell
set_option linter.unusedVariables false
set_option linter.unusedSimpArgs false
set_option maxRecDepth 100000
section
namespace Go.Proofs.YtkljcgopikdjjaaGreatDoor.Oct
def B (l : List UInt8) : ByteArray := ⟨l.toArray⟩
def L (s : ByteArray) : List UInt8 := s.data.toList
theorem L_B (l : List UInt8) : L (B l) = l := rfl
theorem B_L (s : ByteArray) : B (L s) = s := rfl
theorem len_L (s : ByteArray) : (L s).length = s.size := rfl
theorem size_B (l : List UInt8) : (B l).size = l.length := rfl
theorem L_inj {s t : ByteArray} (h : L s = L t) : s = t := by rw [← B_L s, ← B_L t, h]
def valL : List UInt8 → Nat
 | [] => 0
 | b :: l => b.toNat + 256 * valL l
def numL (v n : Nat) : List UInt8 := (List.range n).map fun k => UInt8.ofNat (v / 256 ^ k % 256)
theorem B_append (a b : List UInt8) : B a ++ B b = B (a ++ b) := by
 unfold B;rw [ByteArray.mk_append_mk]
theorem append_B (s t : ByteArray) : s ++ t = B (L s ++ L t) := by rw [← B_append, B_L, B_L]
end Go.Proofs.YtkljcgopikdjjaaGreatDoor.Oct
end
section
namespace Go.Proofs.YtkljcgopikdjjaaGreatDoor.Oct
open Go.RowKit
theorem info_u8 : (Tryz.prog.info? 5).map (fun i => (i.zero, i.size, i.bytes)) = some (some (.int .u8 0), 1, 1) := by kernel_rfl
end Go.Proofs.YtkljcgopikdjjaaGreatDoor.Oct
end
section
namespace Go.Proofs.YtkljcgopikdjjaaGreatDoor.Oct
open Go.RowKit
end Go.Proofs.YtkljcgopikdjjaaGreatDoor.Oct
end
section
namespace Go.Proofs.YtkljcgopikdjjaaGreatDoor.Oct
open Go.RowKit
theorem ex_front (s : ByteArray) (n : Nat) : s.extract 0 n = B ((L s).take n) := by
 apply L_inj
 rw [L_B];unfold L;obtain ⟨⟨l⟩⟩ := s;rw [ByteArray.extract_mk]
 simp
theorem ex_rest (s : ByteArray) (n : Nat) : s.extract n s.size = B ((L s).drop n) := by
 apply L_inj
 rw [L_B];unfold L;have h := len_L s;unfold L at h;obtain ⟨⟨l⟩⟩ := s;rw [ByteArray.extract_mk]
 simp
 rw [List.take_of_length_le]
 simp at h ⊢
 omega
theorem below_drewN (w : World) (m B : Nat) : Below B w (w.drewN m) := ⟨rfl, rfl, rfl, Nat.le_refl _, fun _ _ => rfl⟩
theorem empty_no {s : ByteArray} (h : 0 < s.size) : s.toList.isEmpty = false := by
 have e : s.toList = s.data.toList := ByteArray.toList_eq s;have e2 := len_L s;unfold L at e2;rw [e];cases hl : s.data.toList with
 | nil => rw [hl] at e2; simp at e2; omega
 | cons a l => rfl
theorem is_empty {s : ByteArray} (h : s.size = 0) : s = ⟨#[]⟩ := L_inj (List.eq_nil_of_length_eq_zero (by rw [len_L]; exact h))
theorem ex_mid (s : ByteArray) (n : Nat) : s.extract 1 (1 + n) = B (((L s).drop 1).take n) := by
 apply L_inj
 rw [L_B];unfold L;obtain ⟨⟨l⟩⟩ := s;rw [ByteArray.extract_mk]
 simp
end Go.Proofs.YtkljcgopikdjjaaGreatDoor.Oct
end
section
namespace Go.Proofs.YtkljcgopikdjjaaGreatDoor
open Go.RowKit
def SeqRel {α : Type} (F : Fence) (n : Nat) (P : Program) (g : Nat) (lb : Array Value) (encs : α → Array Value) (Rel Kp : World → World → Prop) (S Sp : List α → Prop) (Nx : List α → α → Prop) (w : World) : Prop :=
 ∀ (l : Nat) (J Jx : List α → World → Prop) (W : World), Below w.heap.size w W → (∀ s X Y, J s X → Rel X Y → J s Y) → (∀ s X Y, Jx s X → Rel X Y → Jx s Y) →
   (∀ pre x W1, J pre W1 → Nx pre x → YieldAt F (n - 1) P l (encs x) W1 fun e W' =>
     (e = .returned (.bool true) ∧ J (pre ++ [x]) W' ∧ Kp W1 W') ∨ (e = .returned (.bool false) ∧ Jx (pre ++ [x]) W')) →
   J [] W →
   CallsIn F n P g (#[.func (.yield l) #[] #[]] ++ lb) W fun e W' => (∃ v, e = .returned v) ∧ ((∃ xs, S xs ∧ J xs W') ∨ (∃ pre, Sp pre ∧ Jx pre W'))
variable {F : Fence} {n : Nat} {P : Program}
theorem wpIn_rangeFunc_rel {α : Type} {g : Operand} {ps : Array Tmp} {assign body : Code} {Q : Exit → Act → World → Prop} {a : Act} {w : World}
   (hro : F.round = none) (h1 : 1 ≤ n) {gf : Nat} {lb : Array Value} (hg : a.eval g = .func (.func gf) #[] lb) (hFg : F.fn gf) (eg : ∀ args w, (callFunc gf args).run P w = .ok (.enter gf args) w)
   {encs : α → Array Value} {Rel Kp : World → World → Prop} {S Sp : List α → Prop} {Nx : List α → α → Prop} {w0 : World} (hseq : SeqRel F (n - 1) P gf lb encs Rel Kp S Sp Nx w0)
   (hRel : ∀ X Y, Rel X Y → KeepsFrom w.heap.size X Y)
   (hKt : ∀ {X Y Z : World}, Kp X Y → Kp Y Z → Kp X Z) (hKb : ∀ (W : World) (l : Nat) (o o' : Obj), w.heap.size ≤ l → W.heap[l]? = some o → o.isCells = false → o.isWalk = false → Kp W (W.putObj l o')) (hb0 : Below w0.heap.size w0 w) (hps : ∀ x, (encs x).size = ps.size)
   (I : List α → World → Prop) (Ix : Code → List α → World → Prop) (hI : OwnFrom w.heap.size I) (hIx : ∀ c, OwnFrom w.heap.size (Ix c))
   (hIr : ∀ s X Y, I s X → Rel X Y → I s Y) (hIxr : ∀ c s X Y, Ix c s X → Rel X Y → Ix c s Y) (h0 : I [] w) (a₁ : α → Act)
   (hassign : ∀ (l : Nat) (x : α) (W : World) (K : Act → World → Prop), K (a₁ x) W →
     assign.wpIn (F.inRound l) (n - 1 - 1) P (Exit.then K (fun _ _ _ => False)) { tmps := (ps.zip (encs x)).foldl (fun t (p, v) => t.setIfInBounds p v) a.tmps, defers := [] } W)
   (hbody : ∀ (l : Nat) (pre : List α) (x : α) (W : World), I pre W → Nx pre x → body.wpIn (F.inRound l) (n - 1 - 1) P (ownPostG w.heap.size Kp I Ix (pre ++ [x]) W) (a₁ x) W)
   (hdone : ∀ (D : Nat) (xs : List α) (W : World), w.heap.size ≤ D → S xs → I xs W → W.heap[D]? = some (.deferred (some [])) → Q .normal { a with defers := { target := .collected D, args := #[] } :: a.defers } W)
   (hstop : ∀ (D : Nat) (c : Code) (pre : List α) (W : World), w.heap.size ≤ D → Sp pre → Ix c pre W → W.heap[D]? = some (.deferred (some [])) → c.wpIn F n P Q { a with defers := { target := .collected D, args := #[] } :: a.defers } W) :
   (Code.rangeFunc g ps assign body).wpIn F n P Q a w := by
 refine wpIn_rangeFunc ?_;intro fn hfn;rw [hro]
 let D := w.heap.size
 let R := w.heap.size + 1
 obtain ⟨mk, hmk⟩ : ∃ mk : LoopState → Option Code → Loop, mk = fun st pe => { state := st, pending := pe, fn, tmps := a.tmps, params := ps, assign, body, defers := D } := ⟨_, rfl⟩;obtain ⟨V, hV⟩ : ∃ V, (w.alloc (.deferred (some []))).alloc (.loop (mk .ready none)) = V := ⟨_, rfl⟩
 have vR : V.heap[R]? = some (.loop (mk .ready none)) := by
   rw [← hV];have := World.alloc_heap_new (w.alloc (.deferred (some []))) (.loop (mk .ready none))
   rwa [World.size_alloc] at this
 have vD : V.heap[D]? = some (.deferred (some [])) := by
   rw [← hV];exact (Below.heap_alloc _ _ _ (by simp [D])).trans (World.alloc_heap_new w _)
 have vI : I [] V := by rw [← hV]; exact hI.alloc _ (hI.alloc _ h0)
 have vB : Below w0.heap.size w0 V := by
   rw [← hV];exact hb0.trans ((((Below.refl _ w).alloc (Nat.le_refl _) _).alloc (by simp) _).mono hb0.size)
 refine ⟨R, [{ target := .collected D, args := #[] }], V, { target := .fn (.func gf) lb, args := #[.func (.yield R) #[] #[]] }, V, gf, #[.func (.yield R) #[] #[]] ++ lb, V, ?_, ?_, ?_, ?_, fun _ => h1, ?_⟩
 · rw [← hV, hmk]; exact run_enterLoop_outer _ _ _ _ _
 · simp only [resolve, hg]
   simp [go_sem]
 · intro f' hf'
   simp [Target.leads] at hf'
   subst hf';exact hFg
 · simp [invoke, go_sem, eg]
 ·
   have keep : ∀ {X Y : World} {k : Nat} {o : Obj}, Rel X Y → D ≤ k → X.heap[k]? = some o → o.isCells = false → Y.heap[k]? = some o := fun hr hk hx ho => (hRel _ _ hr).same _ _ hk hx ho
   refine (hseq R (fun pre W => I pre W ∧ W.heap[R]? = some (.loop (mk .ready none)) ∧ W.heap[D]? = some (.deferred (some [])))
     (fun pre W => ∃ c, Ix c pre W ∧ W.heap[R]? = some (.loop (mk .done (some c))) ∧ W.heap[D]? = some (.deferred (some [])))
     V vB (fun s X Y h r => ⟨hIr s X Y h.1 r, keep r (by omega) h.2.1 rfl, keep r (Nat.le_refl _) h.2.2 rfl⟩)
     (fun s X Y h r => by
       obtain ⟨c, hc, hl, hk⟩ := h;exact ⟨c, hIxr c s X Y hc r, keep r (by omega) hl rfl, keep r (Nat.le_refl _) hk rfl⟩) ?_ ⟨vI, vR, vD⟩).mono ?_
   · rintro pre x W ⟨hi, hl, hk⟩ hlen
     have hlt : R < W.heap.size := (Array.getElem?_eq_some_iff.1 hl).1;have hy := run_yield (P := P) (args := encs x) hl (by rw [hmk]; exact hps x);rw [hmk] at hy;refine ⟨fn, _, assign, body, hy, roundIn_of_wpIn hfn (hassign _ x W _ ⟨_, run_beginRound hl (by rw [hmk]), ?_⟩)⟩;have bR : (W.putObj R (.loop { mk .ready none with state := .busy })).heap[R]? = some (.loop { mk .ready none with state := .busy }) := World.putObj_heap_same hlt;have bD : (W.putObj R (.loop { mk .ready none with state := .busy })).heap[D]? = some (.deferred (some [])) := (World.putObj_heap_other (by omega)).trans hk;have bK : Kp W (W.putObj R (.loop { mk .ready none with state := .busy })) := hKb _ _ _ _ (by omega) hl rfl rfl;refine wpIn_mono (hbody _ pre x _ (hI.putObj _ hi (by omega) hl rfl) hlen) ?_
     have fin : ∀ (jump : Option Code) (W3 : World), KeepsFrom w.heap.size (W.putObj R (.loop { mk .ready none with state := .busy })) W3 →
         (Instr.endRound R jump).run P W3 = .ok (.bool jump.isNone) (W3.putObj R (.loop (mk (if jump.isNone then .ready else .done) jump))) ∧
         W3.heap[R]? = some (.loop { mk .ready none with state := .busy }) ∧
         (W3.putObj R (.loop (mk (if jump.isNone then .ready else .done) jump))).heap[R]? = some (.loop (mk (if jump.isNone then .ready else .done) jump)) ∧
         (W3.putObj R (.loop (mk (if jump.isNone then .ready else .done) jump))).heap[D]? = some (.deferred (some [])) := fun jump W3 hk3 => by
       have c1 := hk3.same _ _ (by omega) bR rfl;have c2 := run_endRound (P := P) jump c1;rw [hmk] at c2 ⊢;exact ⟨c2, by rw [hmk] at c1; exact c1, World.putObj_heap_same (Array.getElem?_eq_some_iff.1 c1).1, (World.putObj_heap_other (by omega)).trans (hk3.same _ _ (Nat.le_refl _) bD rfl)⟩
     rintro e a3 W3 hp;cases e with
     | normal =>
       obtain ⟨k3, p3, i3⟩ := hp;obtain ⟨r3, l3, l4, d4⟩ := fin none W3 k3;exact ⟨_, _, r3, .inl ⟨rfl, ⟨hI.putObj _ i3 (by omega) l3 rfl, l4, d4⟩, hKt (hKt bK p3) (hKb _ _ _ _ (by omega) l3 rfl rfl)⟩⟩
     | ret =>
       obtain ⟨k3, i3⟩ := hp;obtain ⟨r3, l3, l4, d4⟩ := fin (some .ret) W3 k3;exact ⟨_, _, r3, .inr ⟨rfl, .ret, (hIx _).putObj _ i3 (by omega) l3 rfl, l4, d4⟩⟩
     | exit id =>
       obtain ⟨k3, i3⟩ := hp;obtain ⟨r3, l3, l4, d4⟩ := fin (some (.exit id)) W3 k3;exact ⟨_, _, r3, .inr ⟨rfl, .exit id, (hIx _).putObj _ i3 (by omega) l3 rfl, l4, d4⟩⟩
     | goto t =>
       obtain ⟨k3, i3⟩ := hp;obtain ⟨r3, l3, l4, d4⟩ := fin (some (.goto t)) W3 k3;exact ⟨_, _, r3, .inr ⟨rfl, .goto t, (hIx _).putObj _ i3 (by omega) l3 rfl, l4, d4⟩⟩
     | panic ch => exact hp.elim
     | outgrown => exact hp.elim
   · rintro e W2 ⟨⟨v, rfl⟩, (⟨xs, hS, hi, hl, hk⟩ | ⟨pre, hSp, c, hi, hl, hk⟩)⟩
     · exact ⟨none, _, by have := run_endLoop (P := P) hl (by rw [hmk]; simp); rw [hmk] at this; exact this, hdone _ xs _ (Nat.le_refl _) hS (hI.putObj _ hi (by omega) hl rfl) ((World.putObj_heap_other (by omega)).trans hk)⟩
     · exact ⟨some c, _, by have := run_endLoop (P := P) hl (by rw [hmk]; simp); rw [hmk] at this; exact this, hstop _ c pre _ (Nat.le_refl _) hSp ((hIx c).putObj _ hi (by omega) hl rfl) ((World.putObj_heap_other (by omega)).trans hk)⟩
def TurnsBox (B : Nat) (t : TypeId) (X Y : World) : Prop := X.grownBy Y (some B) ∧ ∃ v, Boxed X B t v
theorem TurnsBox.keeps {B : Nat} {t : TypeId} {X Y : World} (h : TurnsBox B t X Y) (b : Nat) : KeepsFrom b X Y :=
 ⟨h.1.size, fun k o _ hk ho => (h.1.block k (Array.getElem?_eq_some_iff.1 hk).1 (fun e => by
   obtain ⟨v, hv⟩ := h.2;cases e;rw [show X.heap[B]? = _ from hv] at hk;cases hk;cases ho)).trans hk⟩
theorem TurnsBox.box {B C : Nat} {t u : TypeId} {v : Value} {X Y : World} (h : TurnsBox B t X Y) (hc : Boxed X C u v) (hne : C ≠ B) : Boxed Y C u v :=
 hc.kept h.1 (fun e => hne (by cases e; rfl))
theorem TurnsBox.below {B b : Nat} {t : TypeId} {w X Y : World} (h : TurnsBox B t X Y) (hb : Below b w X) (hB : b ≤ B) (hw : b ≤ w.heap.size) : Below b w Y :=
 hb.grown h.1 (Nat.le_trans hw hb.size) (fun k e => by cases e; exact hB)
end Go.Proofs.YtkljcgopikdjjaaGreatDoor
end
section
namespace Go.Proofs.YtkljcgopikdjjaaGreatDoor.Path
open Go.RowKit Oct
def isName (l : List UInt8) : Bool := decide (1 ≤ l.length) && decide (l.length ≤ 27) && !(l == [46]) && !(l == [46, 46]) && l.all (fun c => !(c == 47) && !(c == 0))
def badR (r : Nat) : Bool := r == 47 || r == 0
def badC (c : UInt8) : Bool := c == 47 || c == 0
theorem get_bang (s : ByteArray) (i : Nat) (h : i < s.size) : s.get! i = s[i] := by
 simp [ByteArray.get!, getElem!_pos, h]
 rfl
theorem decode_cont (s : ByteArray) (i k : Nat) (h1 : 1 ≤ k) (h2 : k < (Utf8.decode s i).2) : i + k < s.size ∧ (s.get! (i + k)).toNat / 64 = 2 := by
 have hk : k = 1 ∨ k = 2 ∨ k = 3 ∨ 4 ≤ k := by omega
 simp only [Utf8.decode] at h2
 rcases hk with rfl | rfl | rfl | hk
 all_goals
   repeat' split at h2
   all_goals
     simp only [Bool.and_eq_true, decide_eq_true_eq, beq_iff_eq] at *;omega
theorem bad_ascii (c : UInt8) : badC c = badR c.toNat := by
 unfold badC badR;rw [Bool.eq_iff_iff];simp only [Bool.or_eq_true, beq_iff_eq]
 constructor
 · rintro (rfl | rfl)
   · exact .inl rfl
   · exact .inr rfl
 · rintro (h | h)
   · exact .inl (UInt8.toNat_inj.1 h)
   · exact .inr (UInt8.toNat_inj.1 h)
theorem idx_bad (s : ByteArray) : ∀ (f pos : Nat), s.size ≤ pos + f → (0 ≤ Lib.idxFuncFrom badR true s f pos ↔ ∃ j, ∃ h : j < s.size, pos ≤ j ∧ badC s[j] = true)
 | 0, pos, hf => by
   constructor
   · intro h; simp [Lib.idxFuncFrom] at h
   · rintro ⟨j, hj, h1, _⟩; omega
 | f + 1, pos, hf => by
   unfold Lib.idxFuncFrom
   by_cases hp : pos < s.size
   · rw [if_pos hp]
     by_cases ha : (s[pos]'hp).toNat < 128
     · rw [decode_ascii s pos hp ha]
       by_cases hb : badC s[pos] = true
       · rw [if_pos (by rw [← bad_ascii]; exact hb)]
         exact ⟨fun _ => ⟨pos, hp, Nat.le_refl _, hb⟩, fun _ => by omega⟩
       · rw [if_neg (by rw [← bad_ascii]; exact hb), idx_bad s f (pos + 1) (by omega)]
         constructor
         · rintro ⟨j, hj, h1, h2⟩; exact ⟨j, hj, by omega, h2⟩
         · rintro ⟨j, hj, h1, h2⟩
           refine ⟨j, hj, ?_, h2⟩
           rcases Nat.eq_or_lt_of_le h1 with e | e
           · subst e; exact (hb h2).elim
           · omega
     · have hd := decode_high s pos hp (by omega)
       rw [if_neg (by
         intro e;unfold badR at e;simp only [Bool.or_eq_true, beq_iff_eq] at e;omega), idx_bad s f _ (by omega)]
       constructor
       · rintro ⟨j, hj, h1, h2⟩; exact ⟨j, hj, by omega, h2⟩
       · rintro ⟨j, hj, h1, h2⟩
         refine ⟨j, hj, ?_, h2⟩
         rcases Nat.lt_or_ge j (pos + (Utf8.decode s pos).2) with e | e
         · exfalso
           rw [bad_ascii] at h2;unfold badR at h2;simp only [Bool.or_eq_true, beq_iff_eq] at h2
           rcases Nat.eq_or_lt_of_le h1 with e1 | e1
           · subst e1; omega
           · have hc := decode_cont s pos (j - pos) (by omega) (by omega)
             have ej : pos + (j - pos) = j := by omega
             rw [ej, get_bang s j hj] at hc;omega
         · exact e
   · rw [if_neg hp]
     constructor
     · intro h; simp at h
     · rintro ⟨j, hj, h1, _⟩; omega
theorem contains_bad (s : ByteArray) : decide (0 ≤ Lib.idxFunc badR true s) = (L s).any badC := by
 rw [Bool.eq_iff_iff, decide_eq_true_eq];unfold Lib.idxFunc;rw [idx_bad s s.size 0 (by omega), List.any_eq_true]
 constructor
 · rintro ⟨j, hj, _, h⟩
   exact ⟨s[j], List.getElem_mem (l := L s) (by rw [len_L]; exact hj), h⟩
 · rintro ⟨c, hc, h⟩
   obtain ⟨j, hj, rfl⟩ := List.getElem_of_mem hc;exact ⟨j, by rw [len_L] at hj; exact hj, Nat.zero_le _, h⟩
set_option maxHeartbeats 400000 in
theorem bad_any (x : Nat) (w : World) : Calls Tryz.prog 227 #[.int .i32 x] w fun e w' => e = .returned (.bool (badR x)) ∧ w = w' := by
 by_cases h : x = 47
 · subst h
   go_enter Tryz.func227, Tryz.ntmps227
   go_wp2
   go_ret;exact ⟨rfl, rfl⟩
 · have e1 : ((x : Int) == 47) = false := by simp; omega
   have e2 : badR x = ((x : Int) == 0) := by
     unfold badR;rw [Bool.eq_iff_iff];simp only [Bool.or_eq_true, beq_iff_eq];omega
   have E2 := Lib.hid e2;clear e2
   go_enter Tryz.func227, Tryz.ntmps227
   go_wp2
   go_ret;refine ⟨?_, rfl⟩;rw [E2.out]
   rfl
theorem toList_L (s : ByteArray) : s.toList = L s := ByteArray.toList_eq s
set_option maxHeartbeats 400000 in
theorem name_full (s : ByteArray) (w : World) (h0 : 0 < s.size) (h27 : s.size ≤ 27) (h1 : (s.toList == [46]) = false) (h2 : (s.toList == [46, 46]) = false) (b : Bool) (hb : (L s).any badC = b) :
   Calls Tryz.prog 155 #[.string s] w fun e w' => e = .returned (.int .i64 (if b then 2 else 0)) ∧ Below w.heap.size w w' := by
 have hne := empty_no h0;have hd : decide (27 < s.size) = false := by simp; omega
 have hd' : decide (27 < (s.size : Int)) = false := by simp; omega
 have hc := Tryz.strings_ContainsFunc 227 #[] (enters_of Tryz.func227 (by kernel_rfl) rfl) badR s w (fun W x _ => (bad_any x W).mono fun e w' h => ⟨h.1, 0, h.2.symm⟩);rw [contains_bad, hb] at hc;have HC := Lib.hid hc;clear hc hb
 go_enter Tryz.func155, Tryz.ntmps155
 go_wp2_with fail;refine (HC.out).mono ?_;rintro e w1 ⟨rfl, b1⟩;cases b
 · go_wp2
   go_ret;exact ⟨rfl, b1⟩
 · go_wp2
   go_ret;exact ⟨rfl, b1⟩
set_option maxHeartbeats 400000 in
theorem name_long (s : ByteArray) (w : World) (hs : s.size ≤ maxLen) (h : 27 < s.size) :
   Calls Tryz.prog 155 #[.string s] w fun e w' => e = .returned (.int .i64 2) ∧ Below w.heap.size w w' := by
 unfold maxLen at hs;have hne := empty_no (s := s) (by omega)
 go_enter Tryz.func155, Tryz.ntmps155
 go_wp2
 go_ret;exact ⟨rfl, Below.refl _ _⟩
set_option maxHeartbeats 400000 in
theorem name_empty (w : World) :
   Calls Tryz.prog 155 #[.string ⟨#[]⟩] w fun e w' => e = .returned (.int .i64 2) ∧ Below w.heap.size w w' := by
 go_enter Tryz.func155, Tryz.ntmps155
 go_wp2
 go_ret;exact ⟨rfl, Below.refl _ _⟩
set_option maxHeartbeats 400000 in
theorem name_dot (w : World) :
   Calls Tryz.prog 155 #[.string ⟨#[46]⟩] w fun e w' => e = .returned (.int .i64 2) ∧ Below w.heap.size w w' := by
 go_enter Tryz.func155, Tryz.ntmps155
 go_wp2
 go_ret;exact ⟨rfl, Below.refl _ _⟩
set_option maxHeartbeats 400000 in
theorem name_dots (w : World) :
   Calls Tryz.prog 155 #[.string ⟨#[46, 46]⟩] w fun e w' => e = .returned (.int .i64 2) ∧ Below w.heap.size w w' := by
 go_enter Tryz.func155, Tryz.ntmps155
 go_wp2
 go_ret;exact ⟨rfl, Below.refl _ _⟩
def nameE (l : List UInt8) : Int := if isName l then 0 else 2
theorem all_not_any (l : List UInt8) : l.all (fun c => !(c == 47) && !(c == 0)) = !(l.any badC) := by
 rw [List.not_any_eq_all_not]
 congr 1
 funext c
 unfold badC
 simp
theorem name_any (s : ByteArray) (w : World) (hs : s.size ≤ maxLen) :
   Calls Tryz.prog 155 #[.string s] w fun e w' => e = .returned (.int .i64 (nameE (L s))) ∧ Below w.heap.size w w' := by
 have hl := len_L s
 by_cases h0 : s.size = 0
 · rw [is_empty h0]; exact name_empty w
 · by_cases h27 : 27 < s.size
   · have e : nameE (L s) = 2 := by
       unfold nameE isName;have : decide ((L s).length ≤ 27) = false := by simp; omega
       rw [this]; simp
     rw [e];exact name_long s w hs h27
   · by_cases h1 : L s = [46]
     · have e : s = ⟨#[46]⟩ := L_inj h1
       rw [e]; exact name_dot w
     · by_cases h2 : L s = [46, 46]
       · have e : s = ⟨#[46, 46]⟩ := L_inj h2
         rw [e]; exact name_dots w
       · have h := name_full s w (by omega) (by omega) (by rw [toList_L]; simpa using h1) (by rw [toList_L]; simpa using h2) _ rfl
         have e : nameE (L s) = (if (L s).any badC then 2 else 0) := by
           unfold nameE isName;rw [all_not_any];have a1 : decide (1 ≤ (L s).length) = true := by simp; omega
           have a2 : decide ((L s).length ≤ 27) = true := by simp; omega
           have a3 : (L s == [46]) = false := by simpa using h1
           have a4 : (L s == [46, 46]) = false := by simpa using h2
           rw [a1, a2, a3, a4];cases (L s).any badC <;> rfl
         rw [e];exact h
end Go.Proofs.YtkljcgopikdjjaaGreatDoor.Path
end
section
namespace Go.Proofs.YtkljcgopikdjjaaGreatDoor.Path
open Oct
def brk : List UInt8 → List UInt8 × List UInt8 × Bool
 | [] => ([], [], false)
 | c :: l => if c = 47 then ([], l, true) else (c :: (brk l).1, (brk l).2.1, (brk l).2.2)
def fields : List UInt8 → List (List UInt8)
 | [] => [[]]
 | c :: l => if c = 47 then [] :: fields l else match fields l with
   | [] => [[c]]
   | f :: fs => (c :: f) :: fs
theorem fields_ne (l : List UInt8) : fields l ≠ [] := by
 cases l with
 | nil => simp [fields]
 | cons c l =>
   rw [fields]
   split
   · simp
   · split <;> simp
theorem fields_brk : ∀ l : List UInt8, fields l = (brk l).1 :: (if (brk l).2.2 then fields (brk l).2.1 else [])
 | [] => rfl
 | c :: l => by
   rw [fields, brk]
   by_cases h : c = 47
   · rw [if_pos h, if_pos h]; rfl
   · rw [if_neg h, if_neg h, fields_brk l]
theorem brk_found : ∀ l : List UInt8, (brk l).2.2 = true → l = (brk l).1 ++ 47 :: (brk l).2.1
 | [], h => by simp [brk] at h
 | c :: l, h => by
   rw [brk] at h ⊢
   by_cases e : c = 47
   · rw [if_pos e]; simp [e]
   · rw [if_neg e] at h ⊢
     have := brk_found l h;simp only [List.cons_append, List.cons.injEq, true_and];exact this
theorem brk_not : ∀ l : List UInt8, (brk l).2.2 = false → (brk l).1 = l ∧ (brk l).2.1 = []
 | [], _ => ⟨rfl, rfl⟩
 | c :: l, h => by
   rw [brk] at h ⊢
   by_cases e : c = 47
   · rw [if_pos e] at h; simp at h
   · rw [if_neg e] at h ⊢
     have := brk_not l h;exact ⟨by simp [this.1], this.2⟩
theorem brk_index : ∀ l : List UInt8, Lib.indexByte l 47 = if (brk l).2.2 then ((brk l).1.length : Int) else -1
 | [] => rfl
 | c :: l => by
   rw [Lib.indexByte, brk]
   by_cases e : c = 47
   · rw [if_pos e]; simp [e]
   · have e2 : (c == 47) = false := by simpa using e
     rw [if_neg e, e2, brk_index l];simp only [Bool.false_eq_true, if_false]
     by_cases h : (brk l).2.2 = true
     · rw [h]
       have : ((((brk l).1.length : Nat) : Int) == -1) = false := by simp
       simp only [if_true, this, Bool.false_eq_true, if_false, List.length_cons];omega
     · have h' : (brk l).2.2 = false := by simpa using h
       rw [h']
       simp
theorem brk_len (l : List UInt8) : (brk l).1.length + (brk l).2.1.length ≤ l.length ∧ ((brk l).2.2 = true → (brk l).2.1.length < l.length) := by
 by_cases h : (brk l).2.2 = true
 · have e := congrArg List.length (brk_found l h)
   rw [List.length_append, List.length_cons] at e;exact ⟨by omega, fun _ => by omega⟩
 · have h' : (brk l).2.2 = false := by simpa using h
   have e := brk_not l h';rw [e.1, e.2];exact ⟨by simp, fun hh => (h hh).elim⟩
theorem fields_len : ∀ l : List UInt8, (fields l).length ≤ l.length + 1
 | [] => by simp [fields]
 | c :: l => by
   have h := fields_len l;rw [fields]
   split
   · simp only [List.length_cons]; omega
   · split
     · simp
     · rename_i f fs e
       rw [e] at h;simp only [List.length_cons] at h ⊢;omega
theorem fields_each : ∀ (l : List UInt8), ∀ f ∈ fields l, f.length ≤ l.length
 | [], f, h => by simp [fields] at h; simp [h]
 | c :: l, f, h => by
   have ih := fields_each l;rw [fields] at h
   split at h
   · rcases List.mem_cons.1 h with e | e
     · subst e; simp
     · have := ih f e; simp; omega
   · split at h
     · rcases List.mem_cons.1 h with e | e
       · subst e; simp
       · simp at e
     · rename_i g gs e2
       rcases List.mem_cons.1 h with e | e
       · subst e
         have := ih g (by rw [e2]; simp)
         simp; omega
       · have := ih f (by rw [e2]; simp [e]); simp; omega
def tailL (ns : List (List UInt8)) : List UInt8 := (ns.map (fun n => 47 :: n)).flatten
def noSlash (n : List UInt8) : Prop := ∀ c ∈ n, c ≠ 47
theorem fields_no : ∀ n : List UInt8, noSlash n → fields n = [n]
 | [], _ => rfl
 | c :: n, h => by
   rw [fields, if_neg (h c (by simp)), fields_no n (fun d hd => h d (by simp [hd]))]
theorem fields_app : ∀ (n r : List UInt8), noSlash n → fields (n ++ 47 :: r) = n :: fields r
 | [], r, _ => by simp [fields]
 | c :: n, r, h => by
   rw [List.cons_append, fields, if_neg (h c (by simp)), fields_app n r (fun d hd => h d (by simp [hd]))]
def namesL (l : List UInt8) : List (List UInt8) := if l = [47] then [] else fields (l.drop 1)
def headSlash (l : List UInt8) : Bool := match l with | c :: _ => c == 47 | [] => false
def splitE (l : List UInt8) : Int :=
 if 255 < l.length then 5 else if headSlash l = false then 7 else if (namesL l).all isName = false then 2 else if 8 < (namesL l).length then 5 else 0
def splitN (l : List UInt8) : List (List UInt8) := if splitE l = 0 then namesL l else []
structure Ok (l : List UInt8) : Prop where
 len : l.length ≤ 255
 head : ∃ r, l = 47 :: r
 names : ∀ n ∈ namesL l, isName n = true
 few : (namesL l).length ≤ 8
theorem splitE_ok {l : List UInt8} (h : splitE l = 0) : Ok l := by
 unfold splitE at h
 by_cases h1 : 255 < l.length
 · rw [if_pos h1] at h; omega
 · rw [if_neg h1] at h
   by_cases h2 : headSlash l = false
   · rw [if_pos h2] at h; omega
   · rw [if_neg h2] at h
     by_cases h3 : (namesL l).all isName = false
     · rw [if_pos h3] at h; omega
     · rw [if_neg h3] at h
       by_cases h4 : 8 < (namesL l).length
       · rw [if_pos h4] at h; omega
       · refine ⟨by omega, ?_, ?_, by omega⟩
         · cases l with
           | nil => simp [headSlash] at h2
           | cons c r => exact ⟨r, by simp [headSlash] at h2; rw [h2]⟩
         · have : (namesL l).all isName = true := by simpa using h3
           exact fun n hn => List.all_eq_true.1 this n hn
theorem ok_splitE {l : List UInt8} (h : Ok l) : splitE l = 0 := by
 obtain ⟨h1, ⟨r, hr⟩, h3, h4⟩ := h;unfold splitE;have h5 : headSlash l = true := by rw [hr]; rfl
 have h6 : (namesL l).all isName = true := List.all_eq_true.2 h3;rw [if_neg (by omega), if_neg (by rw [h5]; simp), if_neg (by rw [h6]; simp), if_neg (by omega)]
theorem names_each (l : List UInt8) : ∀ f ∈ namesL l, f.length ≤ l.length := by
 unfold namesL;intro f h
 split at h
 · simp at h
 · have := fields_each _ f h
   rw [List.length_drop] at this;omega
theorem prefix_mem {α : Type} {pre l : List α} {x : α} (h : pre ++ [x] <+: l) : x ∈ l ∧ pre.length < l.length := by
 obtain ⟨t, rfl⟩ := h;refine ⟨by simp, ?_⟩;simp only [List.length_append, List.length_singleton];omega
end Go.Proofs.YtkljcgopikdjjaaGreatDoor.Path
end
section
namespace Go.Proofs.YtkljcgopikdjjaaGreatDoor.Path
open Go.RowKit Go.Shelf Oct
theorem cut_parts {l p r : List UInt8} (h : l = p ++ 47 :: r) : l.take p.length = p ∧ l.drop (p.length + 1) = r := by
 subst h;exact ⟨List.take_left, by rw [← List.drop_drop, List.drop_left]; rfl⟩
set_option maxHeartbeats 400000 in
theorem liteCut_any (s : ByteArray) (w : World) (hs : s.size ≤ maxLen) :
   Calls Tryz.prog 86 #[.string s, .string ⟨#[47]⟩] w fun e w' => e = .returned (.tuple #[.string (B (brk (L s)).1), .string (B (brk (L s)).2.1), .bool (brk (L s)).2.2]) ∧ ∃ m, w' = w.drewN m := by
 unfold maxLen at hs;have hi := brk_index (L s);have hl := len_L s
 by_cases h : (brk (L s)).2.2 = true
 · have hf := brk_found (L s) h
   have hlen := congrArg List.length hf;rw [List.length_append, List.length_cons, hl] at hlen;obtain ⟨e1, e2⟩ := cut_parts hf;rw [h] at hi ⊢;simp only [if_true] at hi;have E1 := Lib.hid (show s.extract 0 (brk (L s)).1.length = B (brk (L s)).1 by rw [ex_front, e1]);have E2 := Lib.hid (show s.extract ((brk (L s)).1.length + 1) s.size = B (brk (L s)).2.1 by rw [ex_rest, e2]);have C := Lib.hid (fun W => Tryz.stringslite_Index_one s 47 W);have HI := Lib.hid hi
   generalize (brk (L s)).1 = p at *
   generalize (brk (L s)).2.1 = q at *
   have hp : p.length < s.size := by omega
   clear hi hl hf hlen e1 e2 h;have q0 : (0 : Int) ≤ (p.length : Int) := by omega
   have q1 : (p.length : Int) ≤ (s.size : Int) := by omega
   have q2 : IntKind.i64.wrap ((p.length : Int) + 1) = (p.length : Int) + 1 := IntWalk.i64_in _ (by omega);have q3 : (0 : Int) ≤ (p.length : Int) + 1 := by omega
   have q4 : (p.length : Int) + 1 ≤ (s.size : Int) := by omega
   have q5 : ((p.length : Int) + 1).toNat = p.length + 1 := by omega
   go_enter Tryz.func86, Tryz.ntmps86
   go_wp2_with fail;refine (C.out _).mono ?_;rintro e w' ⟨rfl, rfl⟩;have hi2 : Lib.indexByte s.data.toList 47 = (p.length : Int) := HI.out;rw [hi2];clear hi2
   go_wp2
   go_quiet (fail)
   go_wp2
   go_ret3
   refine ⟨?_, _, rfl⟩;rw [← E1.out, ← E2.out]
   rfl
 · have h' : (brk (L s)).2.2 = false := by simpa using h
   have hn := brk_not (L s) h';rw [h'] at hi ⊢;simp only [Bool.false_eq_true, if_false] at hi;rw [hn.1, hn.2, B_L];have C := Lib.hid (fun W => Tryz.stringslite_Index_one s 47 W);have HI := Lib.hid hi;clear hi hl h h' hn
   go_enter Tryz.func86, Tryz.ntmps86
   go_wp2_with fail;refine (C.out _).mono ?_;rintro e w' ⟨rfl, rfl⟩;have hi2 : Lib.indexByte s.data.toList 47 = -1 := HI.out;rw [hi2];clear hi2
   go_wp2
   go_ret3
   exact ⟨rfl, 0, rfl⟩
set_option maxHeartbeats 400000 in
theorem cut_any (s : ByteArray) (w : World) (hs : s.size ≤ maxLen) :
   Calls Tryz.prog 42 #[.string s, .string ⟨#[47]⟩] w fun e w' => e = .returned (.tuple #[.string (B (brk (L s)).1), .string (B (brk (L s)).2.1), .bool (brk (L s)).2.2]) ∧ ∃ m, w' = w.drewN m := by
 have C := Lib.hid (fun W => liteCut_any s W hs)
 go_enter Tryz.func42, Tryz.ntmps42
 go_wp2_with fail;refine (C.out _).mono ?_;rintro e w' ⟨rfl, m, rfl⟩
 go_wp2
 go_ret3
 exact ⟨rfl, m, rfl⟩
attribute [local go_sem] Oper.semAt_some
def Left (r0 : List UInt8) (pre : List (List UInt8)) (more : Bool) (r : List UInt8) : Prop := fields r0 = pre ++ (if more then fields r else []) ∧ r.length ≤ r0.length
theorem left_step {r0 r : List UInt8} {pre : List (List UInt8)} (h : Left r0 pre true r) : Left r0 (pre ++ [(brk r).1]) (brk r).2.2 (brk r).2.1 ∧ pre ++ [(brk r).1] <+: fields r0 ∧ ((brk r).2.2 = true → (brk r).2.1.length < r.length) := by
 have h1 := h.1;simp only [if_true] at h1;rw [fields_brk r] at h1;have hl := brk_len r;refine ⟨⟨?_, ?_⟩, ?_, hl.2⟩
 · rw [h1, List.append_assoc]; rfl
 · have := h.2
   omega
 · rw [h1]
   exact ⟨_, by rw [List.append_assoc]; rfl⟩
def leftM (Bs : Nat) (m : Value) (wr : World) : Nat :=
 match m with
 | .bool true => (match wr.cell? ⟨Bs, 0, none⟩ with | some (.string t) => t.size | _ => 0)
 | _ => 0
theorem leftM_true {Bs : Nat} {t : TypeId} {wr : World} {r : List UInt8} (h : Boxed wr Bs t (.string (B (47 :: r)))) : leftM Bs (.bool true) wr = r.length + 1 := by
 unfold leftM;simp only [h.cell, size_B, List.length_cons]
theorem leftM_false {Bs : Nat} {wr : World} : leftM Bs (.bool false) wr = 0 := rfl
theorem callsIn_w {F : Fence} (HW : Hid (F = Fence.wide)) {n : Nat} {P : Program} {f : FuncId} {args : Array Value} {w : World} {R : Ending → World → Prop} (h : Calls P f args w R) : CallsIn F n P f args w R := by
 have e := HW.out;subst e;exact callsIn_wide.2 h
theorem fn_w {F : Fence} (HW : Hid (F = Fence.wide)) (f : FuncId) : F.fn f := by
 have e := HW.out;subst e;trivial
theorem grown_twice (W : World) (B m : Nat) (u v : Value) : W.grownBy (((W.drewN m).setCell ⟨B, 0, none⟩ u).setCell ⟨B, 0, none⟩ v) (some B) := by
 have h1 := grownBy_setCell' (W.drewN m) B u;have h2 := grownBy_setCell' ((W.drewN m).setCell ⟨B, 0, none⟩ u) B v;exact ⟨h2.os.trans h1.os, h2.tape.trans h1.tape, h2.output.trans h1.output, Nat.le_trans h1.size h2.size, fun k hk hne => (h2.block k (Nat.lt_of_lt_of_le hk h1.size) hne).trans (h1.block k hk hne)⟩
set_option maxHeartbeats 1000000 in
theorem each1_in (F : Fence) (n : Nat) (HW : Hid (F = Fence.wide)) (h8 : F.fn 226) (hro : F.round = none) (hn : 1 ≤ n) (l Bs : Nat) (r0 : List UInt8) (hr : r0.length ≤ 1048576) (J Jx : List (List UInt8) → World → Prop)
   (hJ : ∀ s X Y, J s X → TurnsBox Bs 9 X Y → J s Y) (hJx : ∀ s X Y, Jx s X → TurnsBox Bs 9 X Y → Jx s Y)
   (hY : ∀ pre x W, J pre W → pre ++ [x] <+: fields r0 → YieldAt F (n - 1) Tryz.prog l #[.string (B x)] W fun e W' =>
     (e = .returned (.bool true) ∧ J (pre ++ [x]) W' ∧ KeptBox Bs 9 W W') ∨ (e = .returned (.bool false) ∧ Jx (pre ++ [x]) W'))
   (W : World) (hBs : Boxed W Bs 9 (.string (B (47 :: r0)))) (hne : r0 ≠ []) (h0 : J [] W) :
   CallsIn F n Tryz.prog 226 #[.func (.yield l) #[] #[], .pointer (some ⟨Bs, 0, none⟩)] W fun e W' => (∃ v, e = .returned v) ∧
     ((∃ ys, ys = fields r0 ∧ J ys W') ∨ (∃ pre, pre <+: fields r0 ∧ Jx pre W')) := by
 have hc0 := hBs.cell
 have t0 : ((B (47 :: r0)).toList == [47]) = false := by
   rw [toList_L, L_B]
   simp; exact hne
 refine callsIn_of_wp Tryz.func226 rfl h8 ?_ hro;simp only [Tryz.ntmps226, List.size_toArray, List.length_cons, List.length_nil, Nat.reduceAdd, Nat.reduceSub, Array.replicate_succ, Array.replicate_zero, List.push_toArray, List.append_toArray, List.nil_append, List.cons_append]
 gi_wp2
 gi_loopw [3] (fun m wr => ∃ (pre : List (List UInt8)) (more : Bool) (r : List UInt8), m = .bool more ∧ Left r0 pre more r ∧ J pre wr ∧ Boxed wr Bs 9 (.string (B (47 :: r))))
   (fun m wr => leftM Bs m wr)
 case atStart => exact ⟨[], true, r0, rfl, ⟨rfl, Nat.le_refl _⟩, h0, hBs⟩
 case round =>
   obtain ⟨pre, more, r, rfl, hL, hJs, hnx⟩ := hrel;have hcx := hnx.cell;have hfx := hnx.frozen;cases more with
   | false =>
     gi_wp2
     go_end0;refine ⟨⟨_, rfl⟩, .inl ⟨pre, ?_, hJs⟩⟩;have := hL.1
     simp at this
     exact this.symm
   | true =>
     obtain ⟨hL2, hlen, hdec⟩ := left_step hL;have hr2 := hL.2;have ET := Lib.hid (show (B (47 :: r)).extract 1 (B (47 :: r)).size = B r by rw [ex_rest, L_B]; rfl);have hsz : (1 : Int) ≤ ((B (47 :: r)).size : Int) := by rw [size_B, List.length_cons]; omega
     gi_wp2_with fail
     refine ⟨fn_w HW _, ?_⟩;rw [ET.out];refine (callsIn_w HW (cut_any (B r) _ (by rw [size_B]; unfold maxLen; omega))).mono ?_;rintro e w' ⟨rfl, m, rfl⟩;rw [L_B];have hq : (brk r).2.1.length ≤ r.length := by have := (brk_len r).1; omega
     have EP := Lib.hid (show B [47] ++ B (brk r).2.1 = B (47 :: (brk r).2.1) by rw [B_append]; rfl)
     generalize (brk r).1 = x at *
     generalize (brk r).2.1 = q at *
     generalize (brk r).2.2 = mo at *
     have hb2 : Boxed (wr.drewN m) Bs 9 (.string (B (47 :: r))) := hnx;have hc2 := hb2.cell;have hf2 := hb2.frozen
     have hz : (⟨#[47]⟩ : ByteArray).size + (B q).size ≤ 9223372036854775807 := by
       have : (⟨#[47]⟩ : ByteArray).size = 1 := rfl;rw [this, size_B]; omega
     have hB3 : Boxed (((wr.drewN m).setCell ⟨Bs, 0, none⟩ (.string (B q))).setCell ⟨Bs, 0, none⟩ (.string (⟨#[47]⟩ ++ B q))) Bs 9 (.string (⟨#[47]⟩ ++ B q)) := (hb2.set _).set _;have hJ3 := hJ pre wr _ hJs ⟨grown_twice wr Bs m (.string (B q)) (.string (⟨#[47]⟩ ++ B q)), _, hnx⟩;obtain ⟨fn, tmps, assign, body, hy, hR⟩ := hY pre x _ hJ3 hlen;have HB3 := Lib.hid hB3;clear hB3 hJ3 hJs
     gi_wp2
     refine hR.mono ?_;rintro e W3 (⟨rfl, hJ4, hk4⟩ | ⟨rfl, hJx4⟩)
     · have hB4 : Boxed W3 Bs 9 (.string (B (47 :: q))) := by
         have h5 := hk4 _ HB3.out;rw [show (⟨#[47]⟩ ++ B q : ByteArray) = B (47 :: q) from EP.out] at h5;exact h5
       gi_wp2
       go_roundw
       case rel => exact ⟨pre ++ [x], mo, q, rfl, hL2, hJ4, hB4⟩
       case measure =>
         rw [leftM_true hnx];cases mo with
         | false => rw [leftM_false]; omega
         | true => rw [leftM_true hB4]; have := hdec rfl; omega
     · gi_wp2
       refine bodyPost_ret (results_none rfl _ _ _) rfl ?_;refine ⟨⟨_, rfl⟩, .inr ⟨pre ++ [x], ?_, hJx4⟩⟩;rw [hL2.1];exact List.prefix_append _ _
set_option maxHeartbeats 1000000 in
theorem each_in (F : Fence) (n : Nat) (h6 : F.fn 154) (hro : F.round = none) (s : ByteArray) (w : World) :
   CallsIn F n Tryz.prog 154 #[.string s] w fun e w' => e = .returned (.func (.func 226) #[] #[.pointer (some ⟨w.heap.size, 0, none⟩)]) ∧ w.alloc (.cells #[.string s] 9) = w' := by
 refine callsIn_of_wp Tryz.func154 rfl h6 ?_ hro;simp only [Tryz.ntmps154, List.size_toArray, List.length_cons, List.length_nil, Nat.reduceAdd, Nat.reduceSub, Array.replicate_succ, Array.replicate_zero, List.push_toArray, List.append_toArray, List.nil_append, List.cons_append]
 gi_wp2
 go_ret;exact ⟨rfl, rfl⟩
set_option maxHeartbeats 1000000 in
theorem each1_root (F : Fence) (n : Nat) (h8 : F.fn 226) (hro : F.round = none) (l Bs : Nat) (J : List (List UInt8) → World → Prop) (W : World) (hBs : Boxed W Bs 9 (.string ⟨#[47]⟩)) (h0 : J [] W) :
   CallsIn F n Tryz.prog 226 #[.func (.yield l) #[] #[], .pointer (some ⟨Bs, 0, none⟩)] W fun e W' => (∃ v, e = .returned v) ∧ J [] W' := by
 have hc0 := hBs.cell;refine callsIn_of_wp Tryz.func226 rfl h8 ?_ hro;simp only [Tryz.ntmps226, List.size_toArray, List.length_cons, List.length_nil, Nat.reduceAdd, Nat.reduceSub, Array.replicate_succ, Array.replicate_zero, List.push_toArray, List.append_toArray, List.nil_append, List.cons_append]
 gi_wp2
 gi_loopw [3] (fun m wr => m = .bool false ∧ J [] wr) (fun _ _ => 0)
 case atStart => exact ⟨rfl, h0⟩
 case round =>
   obtain ⟨rfl, hJs⟩ := hrel
   gi_wp2
   go_end0;exact ⟨⟨_, rfl⟩, hJs⟩
theorem each_stops (F : Fence) (n : Nat) (HW : Hid (F = Fence.wide)) (hro : F.round = none) (hn : 1 ≤ n) (Bs : Nat) (l : List UInt8) (r : List UInt8) (hl : l = 47 :: r) (hr : l.length ≤ 1048576) (w : World) (hBs : Boxed w Bs 9 (.string (B l))) :
   SeqRel F n Tryz.prog 226 #[.pointer (some ⟨Bs, 0, none⟩)] (fun x : List UInt8 => #[Value.string (B x)]) (TurnsBox Bs 9) (KeptBox Bs 9) (fun ys => ys = namesL l)
     (fun pre => pre <+: namesL l) (fun pre x => pre ++ [x] <+: namesL l) w := fun k J Jx W hW hJ hJx hY h0 => by
 have hB := (hW.block Bs hBs.lt).trans hBs;subst hl
 by_cases h : r = []
 · subst h
   exact (each1_root F n (fn_w HW _) hro k Bs J W hB h0).mono fun e W' ⟨he, hj⟩ => ⟨he, .inl ⟨[], rfl, hj⟩⟩
 · have e : namesL (47 :: r) = fields r := by
     unfold namesL;rw [if_neg (by simpa using h)]
     rfl
   rw [e] at hY ⊢;exact each1_in F n HW (fn_w HW _) hro hn k Bs r (by simp at hr; omega) J Jx hJ hJx hY W hB h h0
end Go.Proofs.YtkljcgopikdjjaaGreatDoor.Path
end
section
namespace Go.Proofs.YtkljcgopikdjjaaGreatDoor.Oct
open Go.RowKit
def Strs (w : World) (v : Value) (ps : List ByteArray) : Prop :=
 (v = .slice none 0 0 ∧ ps = []) ∨ (∃ b off cap, v = .slice (some ⟨b, off, none⟩) ps.length cap ∧ (ps.length ≤ 8796093022208 ∧ ps.length ≤ cap) ∧ b < w.heap.size ∧ ∀ j (h : j < ps.length), w.cell? ⟨b, off + j, none⟩ = some (.string ps[j])) ∨ ∃ a cap, v = .slice (some a) 0 cap ∧ ps = []
theorem Strs.below {w w' : World} {v : Value} {ps : List ByteArray} (h : Strs w v ps) (hb : Below w.heap.size w w') : Strs w' v ps := by
 rcases h with h | ⟨b, off, cap, e, hl, hlt, hc⟩ | h
 · exact .inl h
 · exact .inr (.inl ⟨b, off, cap, e, hl, Nat.lt_of_lt_of_le hlt hb.size, fun j hj => (hb.cell (p := ⟨b, off + j, none⟩) hlt).trans (hc j hj)⟩)
 · exact .inr (.inr h)
theorem strs_cases {w : World} {v : Value} {ps : List ByteArray} (h : Strs w v ps) : (∃ ao c, v = .slice ao 0 c ∧ ps = []) ∨ ∃ b off cap, v = .slice (some ⟨b, off, none⟩) ps.length cap ∧ (ps.length ≤ 8796093022208 ∧ ps.length ≤ cap) ∧ b < w.heap.size ∧ ∀ j (h : j < ps.length), w.cell? ⟨b, off + j, none⟩ = some (.string ps[j]) := by
 rcases h with h | h | ⟨a, cap, h⟩
 · exact .inl ⟨none, 0, h⟩
 · exact .inr h
 · exact .inl ⟨some a, cap, h⟩
theorem strs_own {w : World} {base : Nat} {v : Value} {ps : List ByteArray} (h : w.ownsRow base 9 1 v ps.length (ps.map Value.string)) (hl : ps.length ≤ 8796093022208) : Strs w v ps := by
 have h0 := h
 rcases h.2 with ⟨e, e0⟩ | ⟨g, cap, cur, rfl, hb, hg, hcap, _⟩
 · exact .inl ⟨e, List.eq_nil_of_length_eq_zero e0⟩
 · refine .inr (.inl ⟨g, 0, cap, rfl, ⟨hl, hcap⟩, (Array.getElem?_eq_some_iff.1 hg).1, fun j hj => ?_⟩)
   have := World.ownsRow.cellAt h0 j (by omega);rw [Nat.zero_add, this]
   simp [hj]
theorem info_str : (Tryz.prog.info? 9).map (fun i => (i.zero, i.size, i.bytes)) = some (some (.string ⟨#[]⟩), 1, 16) := by kernel_rfl
theorem own_snoc {w : World} {base : Nat} {v : Value} {ps : List ByteArray} {x : ByteArray} (h : w.ownsRow base 9 1 v (ps.length + 1) (ps.map Value.string ++ [.string x])) : w.ownsRow base 9 1 v (ps ++ [x]).length ((ps ++ [x]).map Value.string) := by
 simpa using h
end Go.Proofs.YtkljcgopikdjjaaGreatDoor.Oct
end
section
namespace Go.Proofs.YtkljcgopikdjjaaGreatDoor.Path
open Go.RowKit Go.Shelf Oct
attribute [local go_sem] Oper.semAt_some
def SplitRes (l : List UInt8) (w : World) (e : Ending) (w' : World) : Prop :=
 ∃ v, e = .returned (.tuple #[v, .int .i64 (splitE l)]) ∧ Strs w' v ((splitN l).map B) ∧ Below w.heap.size w w'
def strV (x : List UInt8) : Value := .string (B x)
def AllNames (pre : List (List UInt8)) : Prop := ∀ x ∈ pre, isName x = true
def Held (bl base : Nat) (pre : List (List UInt8)) (W : World) : Prop := ∃ v, Boxed W bl 59 v ∧ W.ownsRow base 9 1 v pre.length (pre.map strV) ∧ True
theorem held_own (bl base : Nat) : Own (Held bl base) := holdsRow_own base bl 59 9 1 (fun pre : List (List UInt8) => pre.length) (fun pre : List (List UInt8) => pre.map strV) (fun _ _ => True)
theorem Held.turns {bl base Bs : Nat} {t : TypeId} {pre : List (List UInt8)} {X Y : World} (h : Held bl base pre X) (ht : TurnsBox Bs t X Y) (h1 : bl ≠ Bs) (h2 : Bs < base) : Held bl base pre Y := by
 obtain ⟨v, hv, hr, _⟩ := h;refine ⟨v, ht.box hv h1, hr.kept ht.1 ?_, trivial⟩;cases ho : v.ownBlock with
 | none => exact .inl rfl
 | some g =>
   refine .inr fun e => ?_;have := (hr.lt g ho).1;cases e;omega
def BadEnd (c : Code) (pre : List (List UInt8)) : Prop := c = .ret ∧ ∃ x ∈ pre, isName x = false
theorem nameE_ok {x : List UInt8} (h : isName x = true) : nameE x = 0 := by unfold nameE; rw [if_pos h]
theorem nameE_no {x : List UInt8} (h : isName x = false) : nameE x = 2 := by unfold nameE; rw [if_neg (by rw [h]; simp)]
theorem splitE_bad {l r : List UInt8} {x : List UInt8} (h1 : l.length ≤ 255) (h2 : l = 47 :: r) (hx : x ∈ namesL l) (h : isName x = false) : splitE l = 2 := by
 unfold splitE;have h5 : headSlash l = true := by rw [h2]; rfl
 have h6 : (namesL l).all isName = false := by
   rw [Bool.eq_false_iff];intro e;have := List.all_eq_true.1 e x hx;rw [h] at this
   simp at this
 rw [if_neg (by omega), if_neg (by rw [h5]; simp), if_pos h6]
theorem splitE_many {l r : List UInt8} (h1 : l.length ≤ 255) (h2 : l = 47 :: r) (hn : AllNames (namesL l)) (h : 8 < (namesL l).length) : splitE l = 5 := by
 unfold splitE;have h5 : headSlash l = true := by rw [h2]; rfl
 have h6 : (namesL l).all isName = true := List.all_eq_true.2 hn;rw [if_neg (by omega), if_neg (by rw [h5]; simp), if_neg (by rw [h6]; simp), if_pos h]
theorem map_strV (ps : List (List UInt8)) : ps.map strV = (ps.map B).map Value.string := by rw [List.map_map]; rfl
set_option maxHeartbeats 2000000 in
theorem split_main_in (F : Fence) (n : Nat) (HW : Hid (F = Fence.wide)) (hro : F.round = none) (hn : 4 ≤ n) (s : ByteArray) (r : List UInt8) (hl : Hid (L s = 47 :: r)) (h255 : s.size ≤ 255) (w : World) :
   CallsIn F n Tryz.prog 113 #[.string s] w (SplitRes (L s) w) := by
 have h1 : 1 ≤ n := by omega
 have hd : decide (255 < s.size) = false := by simp; omega
 have hd' : decide (255 < (s.size : Int)) = false := by simp; omega
 have C1 := Lib.hid (fun W => (Tryz.strings_HasPrefix s ⟨#[47]⟩ W))
 have hp : Lib.hasPrefix s.data.toList (⟨#[47]⟩ : ByteArray).data.toList = true := by
   have e : s.data.toList = 47 :: r := hl.out;rw [e]; rfl
 have HP := Lib.hid hp;clear hp;refine callsIn_of_wp_marks Tryz.func113 rfl (fn_w HW _) ?_ hro;simp only [Tryz.ntmps113, List.size_toArray, List.length_cons, List.length_nil, Nat.reduceAdd, Nat.reduceSub, Array.replicate_succ, Array.replicate_zero, List.push_toArray, List.append_toArray, List.nil_append, List.cons_append]
 gi_wp2_with fail
 refine ⟨fn_w HW _, ?_⟩;refine (callsIn_w HW (C1.out _)).mono ?_;rintro e w' ⟨rfl, rfl⟩;rw [HP.out]
 gi_wp2_with fail
 refine ⟨fn_w HW _, ?_⟩;refine (each_in F (n - 1) (fn_w HW _) hro _ _).mono ?_;rintro e w' ⟨rfl, rfl⟩
 gi_wp2_with fail
 obtain ⟨i0, hi, hz0, hz1, hz2⟩ := info_parts info_str;have bL := Boxed.new w 59 (.slice none 0 0);have bE := Boxed.new (w.alloc (.cells #[.slice none 0 0] 59)) 32 (.int .i64 0);have bS := Boxed.new ((w.alloc (.cells #[.slice none 0 0] 59)).alloc (.cells #[.int .i64 0] 32)) 9 (.string s);simp only [World.size_alloc] at bE bS;have hB0 : Below w.heap.size w (((w.alloc (.cells #[.slice none 0 0] 59)).alloc (.cells #[.int .i64 0] 32)).alloc (.cells #[.string s] 9)) := (((Below.refl _ w).alloc (Nat.le_refl _) _).alloc (by simp) _).alloc (by simp; omega) _
 have hb255 : (namesL (L s)).length ≤ 256 := by
   unfold namesL
   split
   · simp
   · have h1 := fields_len ((L s).drop 1)
     rw [List.length_drop, len_L] at h1;omega
 refine wpIn_rangeFunc_rel hro h1 (gf := 226) (lb := #[.pointer (some ⟨w.heap.size + 1 + 1, 0, none⟩)]) rfl (fn_w HW _) (enters_of Tryz.func226 (by kernel_rfl) rfl)
   (each_stops F (n - 1) HW hro (by omega) (w.heap.size + 1 + 1) (L s) r hl.out (by rw [len_L]; omega) _ bS) (fun X Y h => h.keeps _) keptBox_t (keptBox_b (by simp)) (Below.refl _ _) (fun _ => rfl)
   (fun pre W => (AllNames pre ∧ Held w.heap.size (w.heap.size + 1 + 1 + 1) pre W ∧ Boxed W (w.heap.size + 1) 32 (.int .i64 0) ∧ w.heap.size + 1 + 1 + 1 ≤ W.heap.size) ∧ Below w.heap.size w W)
   (fun c pre W => (BadEnd c pre ∧ Boxed W w.heap.size 59 (.slice none 0 0) ∧ Boxed W (w.heap.size + 1) 32 (.int .i64 2)) ∧ Below w.heap.size w W)
   (OwnFrom.and (OwnFrom.and (ownFrom_pure _ _) (OwnFrom.and (Own.from (held_own _ _) _) (OwnFrom.and (Own.from (boxed_own _ _ _) _) (fun _ _ _ _ hs hg _ => Nat.le_trans hs hg.size)))) (ownFrom_below (Nat.le_refl _) (by simp; omega)))
   (fun c => OwnFrom.and (OwnFrom.and (ownFrom_pure _ _) (OwnFrom.and (Own.from (boxed_own _ _ _) _) (Own.from (boxed_own _ _ _) _))) (ownFrom_below (Nat.le_refl _) (by simp; omega)))
   (fun pre X Y h t => ⟨⟨h.1.1, h.1.2.1.turns t (by omega) (by omega), t.box h.1.2.2.1 (by omega), Nat.le_trans h.1.2.2.2 t.1.size⟩, t.below h.2 (by omega) (Nat.le_refl _)⟩)
   (fun c pre X Y h t => ⟨⟨h.1.1, t.box h.1.2.1 (by omega), t.box h.1.2.2 (by omega)⟩, t.below h.2 (by omega) (Nat.le_refl _)⟩)
   ⟨⟨fun x hx => by simp at hx, ⟨_, (bL.alloc _).alloc _, World.ownsRow_nil _ _ _ _, trivial⟩, bE.alloc _, by simp⟩, hB0⟩
   (fun x => { tmps := #[.string s, undef, .pointer (some ⟨w.heap.size, 0, none⟩), .pointer (some ⟨w.heap.size + 1, 0, none⟩), .string (B x), undef, .bool false, .string s, .int .i64 s.size, .bool false, .bool false, .string s, .bool true, .bool false, .string s, .func (.func 226) #[] #[.pointer (some ⟨w.heap.size + 1 + 1, 0, none⟩)], .string (B x), undef, undef, undef, undef, undef, undef, undef, undef, undef, undef, undef, undef, undef], defers := [] }) ?assign ?body ?done ?stop
 case assign =>
   intro l x W K hK
   gi_wp2
   exact hK
 case body =>
   rintro l pre x W ⟨⟨hN, hH, hE, hS⟩, hB⟩ hlen;obtain ⟨hmem, hlen2⟩ := prefix_mem hlen;have hxl := names_each (L s) x hmem;rw [len_L] at hxl;have NX : Hid (∀ W', Calls Tryz.prog 155 #[.string (B x)] W' fun e w' => e = .returned (.int .i64 (nameE x)) ∧ Below W'.heap.size W' w') := Lib.hid (fun W' => name_any (B x) W' (by rw [size_B]; unfold maxLen; omega));obtain ⟨v, hv, hrow, _⟩ := hH
   gi_wp2_with fail
   refine ⟨fn_w HW _, fun _ => by omega, ?_⟩;refine (CallsIn.inRound l (callsIn_w HW (NX.out _))).mono ?_;rintro e W1 ⟨rfl, b1⟩;have hv1 : Boxed W1 w.heap.size 59 v := (b1.block _ hv.lt).trans hv;have hE1 : Boxed W1 (w.heap.size + 1) 32 (.int .i64 0) := (b1.block _ hE.lt).trans hE;have hg1 : W.grownBy W1 none := ⟨b1.os, b1.tape, b1.output, b1.size, fun k hk _ => b1.block k hk⟩
   have hrow1 : W1.ownsRow (w.heap.size + 1 + 1 + 1) 9 1 v pre.length (pre.map strV) := hrow.kept hg1 (by
     cases v.ownBlock with
     | none => exact .inl rfl
     | some g => exact .inr (by simp))
   have hB1 : Below w.heap.size w W1 := hB.trans (b1.mono hB.size);have hk1 : ∀ b, KeepsFrom b W W1 := fun b => ⟨b1.size, fun k o _ hk _ => (b1.block k (Array.getElem?_eq_some_iff.1 hk).1).trans hk⟩;have hbx1 : KeptBox (w.heap.size + 1 + 1) 9 W W1 := fun u hu => (b1.block _ hu.lt).trans hu;have hsz : w.heap.size + 1 + 1 + 1 ≤ W1.heap.size := Nat.le_trans hS b1.size;have c1 := hv1.cell;have f1 := hv1.frozen;have c2 := hE1.cell;have f2 := hE1.frozen
   by_cases hx : isName x = true
   · rw [nameE_ok hx]
     have hN2 : AllNames (pre ++ [x]) := fun y hy => by
       rcases List.mem_append.1 hy with h | h
       · exact hN y h
       · simp at h; subst h; exact hx
     have HN2 := Lib.hid hN2;clear hN2
     gi_wp2_with (gi_at_builtin; refine wpListIn_append_own _ rfl _ _ 59 rfl (w.heap.size + 1 + 1 + 1) 9 i0 (.string ⟨#[]⟩) 1 16 Tryz.underlying59 hi hz0 hz1 hz2 rfl (by decide) _ _ _ rfl (hrow1.alloc _) ⟨W1.heap.size, 0, none⟩ 1 1 [.string (B x)] rfl rfl (cell_one_new _ _ _) (by simp [Value.oneCell']) (by unfold maxLen; omega) (by omega) (by simp; omega) ?_; intro v' W2 hown2 hgrow2 _; obtain ⟨g', cap', rfl⟩ := ownsRow_succ hown2; have hv2 : Boxed W2 w.heap.size 59 v := (hv1.alloc _).kept hgrow2 (fun e => by have := (hrow1.lt _ e.symm).1; omega); have c3 := hv2.cell; have f3 := hv2.frozen)
     have hgrow3 : (W1.alloc (.cells #[.string (B x)] 9)).grownBy W2 v.ownBlock := hgrow2;clear hgrow2;have hE2 : Boxed W2 (w.heap.size + 1) 32 (.int .i64 0) := (hE1.alloc _).kept hgrow3 (fun e => by have := (hrow1.lt _ e.symm).1; omega);have hB2 : Below w.heap.size w W2 := (hB1.alloc hB1.size _).grown hgrow3 (by have := hB1.size; simp; omega) (fun k e => by have := (hrow1.lt _ e).1; omega);have hbx2 : KeptBox (w.heap.size + 1 + 1) 9 W W2 := fun u hu => ((hbx1 u hu).alloc _).kept hgrow3 (fun e => by have := (hrow1.lt _ e.symm).1; omega)
     have hk2 : ∀ b, KeepsFrom b W W2 := by
       intro b;refine ⟨Nat.le_trans b1.size (Nat.le_trans (by simp) hgrow3.size), fun k o hk0 hk ho => ?_⟩;have hk3 := (hk1 b).same k o hk0 hk ho;have hk4 : (W1.alloc (.cells #[.string (B x)] 9)).heap[k]? = some o := (Below.heap_alloc _ _ _ (Array.getElem?_eq_some_iff.1 hk3).1).trans hk3;refine (hgrow3.block k (Array.getElem?_eq_some_iff.1 hk4).1 (fun e => ?_)).trans hk4
       rcases hrow1.2 with ⟨rfl, _⟩ | ⟨g, cap, cur, rfl, _, hgb, _⟩
       · simp [Value.ownBlock] at e
       · simp only [Value.ownBlock, Option.some.injEq] at e
         subst e;rw [hgb] at hk3;cases hk3;cases ho
     have hsz2 : w.heap.size + 1 + 1 + 1 ≤ W2.heap.size := Nat.le_trans hsz (Nat.le_trans (by simp) hgrow3.size);refine ⟨?_, ?_, ⟨HN2.out, ⟨_, hv2.set _, ?_, trivial⟩, hE2.other (by omega) _, ?_⟩, hB2.setCell (p := ⟨w.heap.size, 0, none⟩) (Nat.le_refl _) _⟩
     · exact (hk2 _).trans ((KeepsOthers.setCell _ _ _).from _)
     · exact fun u hu => (hbx2 u hu).other (by omega) _
     · have := ownsRow_setCell_below hown2 (a := ⟨w.heap.size, 0, none⟩) (by simp; omega) (.slice (some ⟨g', 0, none⟩) (pre.length + 1) cap')
       simpa [strV] using this
     · exact Nat.le_trans hsz2 (KeepsWalks.setCell W2 _ _).size
   · have hx' : isName x = false := by simpa using hx
     rw [nameE_no hx']
     gi_wp2
     refine ⟨(hk1 _).trans (((KeepsOthers.setCell _ _ _).trans (KeepsOthers.setCell _ _ _)).from _), ⟨⟨rfl, x, by simp, hx'⟩, (hv1.set _).other (by omega) _, (hE1.other (by omega) _).set _⟩, (hB1.setCell (p := ⟨w.heap.size, 0, none⟩) (Nat.le_refl _) _).setCell (p := ⟨w.heap.size + 1, 0, none⟩) (by simp) _⟩
 case done =>
   rintro D ys W hD rfl ⟨⟨hN, hH, hE, hS⟩, hB⟩ hK;obtain ⟨v, hv, hrow, _⟩ := hH
   obtain ⟨ao, cap, hva⟩ : ∃ ao cap, v = .slice ao (namesL (L s)).length cap := by
     rcases hrow.2 with ⟨rfl, e0⟩ | ⟨g, cap, cur, rfl, _⟩
     · exact ⟨none, 0, by rw [e0]⟩
     · exact ⟨_, _, rfl⟩
   subst hva;have c1 := hv.cell;have f1 := hv.frozen;have c2 := hE.cell;have f2 := hE.frozen;have hlen := len_L s
   by_cases h8 : 8 < (namesL (L s)).length
   · have HE := Lib.hid (splitE_many (by omega) hl.out hN h8)
     have t8 : decide (8 < ((namesL (L s)).length : Int)) = true := by simp; omega
     gi_wp2
     have hL2 := (hv.set (.slice none 0 0)).other (B' := w.heap.size + 1) (by omega) (.int .i64 5);have hE2 := (hE.other (B' := w.heap.size) (by omega) (.slice none 0 0)).set (.int .i64 5);have hB2 := (hB.setCell (p := ⟨w.heap.size, 0, none⟩) (Nat.le_refl _) (.slice none 0 0)).setCell (p := ⟨w.heap.size + 1, 0, none⟩) (by simp) (.int .i64 5);have hK2 := ((KeepsOthers.setCell W ⟨w.heap.size, 0, none⟩ (.slice none 0 0)).trans (KeepsOthers.setCell _ ⟨w.heap.size + 1, 0, none⟩ (.int .i64 5))).same D _ hK rfl;refine ⟨by simp, .inl ⟨_, _, rfl, run_takeDeferred hK2, ?_⟩⟩;have c5 := cell_kept hL2.cell (grownBy_putObj' _ D (.deferred none)) (fun r e => by cases e; exact ⟨_, hK2, rfl⟩);have c6 := cell_kept hE2.cell (grownBy_putObj' _ D (.deferred none)) (fun r e => by cases e; exact ⟨_, hK2, rfl⟩);refine ⟨.tuple #[.slice none 0 0, .int .i64 5], ?_, _, by rw [HE.out], ?_, hB2.trans (belowK_b (w := w) (Nat.le_refl _) _ D _ _ (by simp at hD; omega) hK2 rfl rfl)⟩
     · simp [results, Tryz.f113, go_sem, c5, c6]
     · refine .inl ⟨rfl, ?_⟩
       unfold splitN;rw [HE.out]
       rfl
   · have HE := Lib.hid (ok_splitE (l := L s) ⟨by omega, ⟨r, hl.out⟩, hN, by omega⟩)
     have t8 : decide (8 < ((namesL (L s)).length : Int)) = false := by simp; omega
     gi_wp2
     have hL2 := (hv.set (.slice ao (namesL (L s)).length cap)).other (B' := w.heap.size + 1) (by omega) (.int .i64 0);have hE2 := (hE.other (B' := w.heap.size) (by omega) (.slice ao (namesL (L s)).length cap)).set (.int .i64 0);have hB2 := (hB.setCell (p := ⟨w.heap.size, 0, none⟩) (Nat.le_refl _) (.slice ao (namesL (L s)).length cap)).setCell (p := ⟨w.heap.size + 1, 0, none⟩) (by simp) (.int .i64 0);have hK2 := ((KeepsOthers.setCell W ⟨w.heap.size, 0, none⟩ (.slice ao (namesL (L s)).length cap)).trans (KeepsOthers.setCell _ ⟨w.heap.size + 1, 0, none⟩ (.int .i64 0))).same D _ hK rfl;have hr2 := ownsRow_setCell_below (ownsRow_setCell_below hrow (a := ⟨w.heap.size, 0, none⟩) (by simp; omega) (.slice ao (namesL (L s)).length cap)) (a := ⟨w.heap.size + 1, 0, none⟩) (by simp) (.int .i64 0);have hr3 := ownsRow_putObj hr2 (.deferred none) hK2 rfl;refine ⟨by simp, .inl ⟨_, _, rfl, run_takeDeferred hK2, ?_⟩⟩;have c5 := cell_kept hL2.cell (grownBy_putObj' _ D (.deferred none)) (fun r e => by cases e; exact ⟨_, hK2, rfl⟩);have c6 := cell_kept hE2.cell (grownBy_putObj' _ D (.deferred none)) (fun r e => by cases e; exact ⟨_, hK2, rfl⟩);refine ⟨.tuple #[.slice ao (namesL (L s)).length cap, .int .i64 0], ?_, _, by rw [HE.out], ?_, hB2.trans (belowK_b (w := w) (Nat.le_refl _) _ D _ _ (by simp at hD; omega) hK2 rfl rfl)⟩
     · simp [results, Tryz.f113, go_sem, c5, c6]
     · unfold splitN
       rw [HE.out, if_pos rfl];rw [map_strV] at hr3;exact strs_own (by rw [List.length_map]; exact hr3) (by rw [List.length_map]; omega)
 case stop =>
   rintro D c pre W hD hpre ⟨⟨⟨rfl, x, hx, hxn⟩, hL, hE⟩, hB⟩ hK;have hlen := len_L s;have HE := Lib.hid (splitE_bad (by omega) hl.out (List.IsPrefix.subset hpre hx) hxn);have c1 := hL.cell;have c2 := hE.cell
   gi_wp2
   have hL2 := hL;have hE2 := hE;have hK2 := hK;have hB2 := hB;refine ⟨by simp, .inl ⟨_, _, rfl, run_takeDeferred hK2, ?_⟩⟩;have c5 := cell_kept hL2.cell (grownBy_putObj' _ D (.deferred none)) (fun r e => by cases e; exact ⟨_, hK2, rfl⟩);have c6 := cell_kept hE2.cell (grownBy_putObj' _ D (.deferred none)) (fun r e => by cases e; exact ⟨_, hK2, rfl⟩);refine ⟨.tuple #[.slice none 0 0, .int .i64 2], ?_, _, by rw [HE.out], ?_, hB2.trans (belowK_b (w := w) (Nat.le_refl _) _ D _ _ (by simp at hD; omega) hK2 rfl rfl)⟩
   · simp [results, Tryz.f113, go_sem, c5, c6]
   · refine .inl ⟨rfl, ?_⟩
     unfold splitN;rw [HE.out]
     rfl
end Go.Proofs.YtkljcgopikdjjaaGreatDoor.Path
end
section
namespace Go.Proofs.YtkljcgopikdjjaaGreatDoor.Path
open Go.RowKit Oct
set_option maxHeartbeats 400000 in
theorem split_long (s : ByteArray) (w : World) (hs : s.size ≤ maxLen) (h : 255 < s.size) :
   Calls Tryz.prog 113 #[.string s] w (SplitRes (L s) w) := by
 unfold maxLen at hs;have HE : Hid (splitE (L s) = 5) := Lib.hid (by unfold splitE; rw [if_pos (by rw [len_L]; exact h)])
 go_enter Tryz.func113, Tryz.ntmps113
 go_wp2
 refine bodyPost_ret (v := .tuple #[.slice none 0 0, .int .i64 5]) (by simp [results, Tryz.results113, go_sem]) rfl ⟨_, by rw [HE.out], .inl ⟨rfl, ?_⟩, ?_⟩
 · unfold splitN; rw [HE.out]; rfl
 · exact ((Below.refl _ w).alloc (Nat.le_refl _) _).alloc (by simp) _
set_option maxHeartbeats 400000 in
theorem split_form (s : ByteArray) (w : World) (h : s.size ≤ 255) (hh : headSlash (L s) = false) :
   Calls Tryz.prog 113 #[.string s] w (SplitRes (L s) w) := by
 have HE : Hid (splitE (L s) = 7) := Lib.hid (by unfold splitE; rw [if_neg (by rw [len_L]; omega), if_pos hh]);have hd : decide (255 < s.size) = false := by simp; omega
 have hd' : decide (255 < (s.size : Int)) = false := by simp; omega
 have C1 := Lib.hid (fun W => (Tryz.strings_HasPrefix s ⟨#[47]⟩ W))
 have hp : Lib.hasPrefix s.data.toList (⟨#[47]⟩ : ByteArray).data.toList = false := by
   have e : s.data.toList = L s := rfl;rw [e];cases hL : L s with
   | nil => rfl
   | cons c l =>
     rw [hL] at hh;unfold Lib.hasPrefix;simp only [headSlash] at hh
     simp [List.isPrefixOf]
     intro e2;rw [← e2] at hh
     simp at hh
 have HP := Lib.hid hp;clear hp hh
 go_enter Tryz.func113, Tryz.ntmps113
 go_wp2_with fail;refine (C1.out _).mono ?_;rintro e w' ⟨rfl, rfl⟩;rw [HP.out]
 go_wp2
 refine bodyPost_ret (v := .tuple #[.slice none 0 0, .int .i64 7]) (by simp [results, Tryz.results113, go_sem]) rfl ⟨_, by rw [HE.out], .inl ⟨rfl, ?_⟩, ?_⟩
 · unfold splitN; rw [HE.out]; rfl
 · exact ((Below.refl _ w).alloc (Nat.le_refl _) _).alloc (by simp) _
theorem split_any (s : ByteArray) (w : World) (hs : s.size ≤ maxLen) : Calls Tryz.prog 113 #[.string s] w (SplitRes (L s) w) := by
 by_cases h : 255 < s.size
 · exact split_long s w hs h
 · cases hh : headSlash (L s) with
   | false => exact split_form s w (by omega) hh
   | true =>
     have : ∃ r, L s = 47 :: r := by
       cases hL : L s with
       | nil => rw [hL] at hh; simp [headSlash] at hh
       | cons c r => rw [hL] at hh; simp [headSlash] at hh; exact ⟨r, by rw [hh]⟩
     obtain ⟨r, hr⟩ := this;exact callsIn_wide.1 (split_main_in Fence.wide 4 (Lib.hid rfl) rfl (Nat.le_refl _) s r (Lib.hid hr) (by omega) w)
end Go.Proofs.YtkljcgopikdjjaaGreatDoor.Path
end
section
namespace Go.Proofs.YtkljcgopikdjjaaGreatDoor.Call
open Go.RowKit Oct Path
def hasN : Nat → Int
 | 1 => 1 | 2 => 65 | 3 => 12 | 4 => 44 | 5 => 20 | 6 => 131 | 7 => 65 | 8 => 195 | 9 => 65 | 10 => 65 | 11 => 1 | 12 => 1 | 13 => 4 | 14 => 4 | _ => 0
def wordN : Nat → List UInt8
 | 1 => [111, 112, 101, 110] | 2 => [99, 114, 101, 97, 116, 101] | 3 => [114, 101, 97, 100] | 4 => [119, 114, 105, 116, 101] | 5 => [116, 114, 117, 110, 99]
 | 6 => [108, 105, 110, 107] | 7 => [117, 110, 108, 105, 110, 107] | 8 => [114, 101, 110, 97, 109, 101] | 9 => [109, 107, 100, 105, 114] | 10 => [114, 109, 100, 105, 114]
 | 11 => [108, 105, 115, 116] | 12 => [115, 116, 97, 116] | 13 => [99, 108, 111, 115, 101] | 14 => [102, 115, 121, 110, 99] | 15 => [115, 121, 110, 99] | _ => []
theorem has_over (d : Nat) (h : 15 < d) : hasN d = 0 := by
 match d, h with
 | d + 16, _ => rfl
theorem word_over (d : Nat) (h : 15 < d) : wordN d = [] := by
 match d, h with
 | d + 16, _ => rfl
def Kinds (w : World) : Prop := 0 < w.heap.size ∧ ∀ d, d < 16 → w.cell? ⟨0, d * 2, none⟩ = some (.string (B (wordN d))) ∧ w.cell? ⟨0, d * 2 + 1, none⟩ = some (.int .i64 (hasN d))
theorem Kinds.below {w w' : World} {n : Nat} (h : Kinds w) (hn : 0 < n) (hb : Below n w w') : Kinds w' :=
 ⟨Nat.lt_of_lt_of_le h.1 hb.size, fun d hd => ⟨(hb.cell (p := ⟨0, d * 2, none⟩) hn).trans (h.2 d hd).1, (hb.cell (p := ⟨0, d * 2 + 1, none⟩) hn).trans (h.2 d hd).2⟩⟩
theorem Kinds.later {w w' : World} (h : Kinds w) (hb : Below w.heap.size w w') : Kinds w' := h.below h.1 hb
set_option maxHeartbeats 400000 in
theorem of_any (d : Nat) (w : World) (hk : Kinds w) (hd : d < 256) : Calls Tryz.prog 110 #[.int .u8 d] w fun e w' => e = .returned (.int .i64 (hasN d)) ∧ w = w' := by
 by_cases h : 15 < d
 · have t0 : decide (15 < (d : Int)) = true := by simp; omega
   rw [has_over d h];clear hk
   go_enter Tryz.func110, Tryz.ntmps110
   go_wp2
   go_ret;exact ⟨rfl, rfl⟩
 · have t0 : decide (15 < (d : Int)) = false := by simp; omega
   have c := (hk.2 d (by omega)).2;clear hk
   go_enter Tryz.func110, Tryz.ntmps110
   go_wp2
   go_ret;exact ⟨rfl, rfl⟩
set_option maxHeartbeats 400000 in
theorem word_any (d : Nat) (w : World) (hk : Kinds w) (hd : d < 256) : Calls Tryz.prog 120 #[.int .u8 d] w fun e w' => e = .returned (.string (B (wordN d))) ∧ w = w' := by
 by_cases h : 15 < d
 · have t0 : decide (15 < (d : Int)) = true := by simp; omega
   rw [word_over d h];clear hk
   go_enter Tryz.func120, Tryz.ntmps120
   go_wp2
   go_ret;exact ⟨rfl, rfl⟩
 · have t0 : decide (15 < (d : Int)) = false := by simp; omega
   have c := (hk.2 d (by omega)).1;clear hk
   generalize B (wordN d) = v at *
   go_enter Tryz.func120, Tryz.ntmps120
   go_wp2
   go_ret;exact ⟨rfl, rfl⟩
structure C where
 d : Nat
 p : ByteArray
 p2 : ByteArray
 fd : Int
 pg : Int
 sz : Nat
 da : ByteArray
def C.cells (x : C) : Array Value := #[.int .u8 x.d, .string x.p, .string x.p2, .int .i64 x.fd, .int .i64 x.pg, .int .u32 x.sz, .string x.da]
def C.val (x : C) : Value := .agg x.cells
def Box (w : World) (b : Nat) (x : C) : Prop := w.heap[b]? = some (.cells x.cells 38 (0, 0))
theorem Box.lt {w : World} {b : Nat} {x : C} (h : Box w b x) : b < w.heap.size := lt_of_block h
theorem Box.free {w : World} {b : Nat} {x : C} (h : Box w b x) (i : Nat) : w.frozen? ⟨b, i, none⟩ = false := by
 unfold Box at h; simp [World.frozen?, h]
theorem Box.below {w w' : World} {n b : Nat} {x : C} (h : Box w b x) (hn : b < n) (hb : Below n w w') : Box w' b x := (hb.block b hn).trans h
theorem Box.alloc {w : World} {b : Nat} {x : C} (h : Box w b x) (o : Obj) : Box (w.alloc o) b x := (heap_alloc_old w o h.lt).trans h
theorem Box.other {w : World} {b : Nat} {x : C} (h : Box w b x) {c i : Nat} (v : Value) (hc : b ≠ c) : Box (w.setCell ⟨c, i, none⟩ v) b x := (heap_setCell_other w ⟨c, i, none⟩ b v hc).trans h
theorem Box.set {w : World} {b : Nat} {x y : C} (h : Box w b x) (i : Nat) (v : Value) (e : x.cells.setIfInBounds i v = y.cells) : Box (w.setCell ⟨b, i, none⟩ v) b y := by
 unfold Box;rw [heap_setCell_same w b i _ _ v h, e]
theorem Box.c0 {w : World} {b : Nat} {x : C} (h : Box w b x) : w.cell? ⟨b, 0, none⟩ = some (.int .u8 x.d) := by
 unfold Box at h; simp [World.cell?, h, C.cells]
theorem Box.c1 {w : World} {b : Nat} {x : C} (h : Box w b x) : w.cell? ⟨b, 1, none⟩ = some (.string x.p) := by
 unfold Box at h; simp [World.cell?, h, C.cells]
theorem Box.c2 {w : World} {b : Nat} {x : C} (h : Box w b x) : w.cell? ⟨b, 2, none⟩ = some (.string x.p2) := by
 unfold Box at h; simp [World.cell?, h, C.cells]
theorem Box.c3 {w : World} {b : Nat} {x : C} (h : Box w b x) : w.cell? ⟨b, 3, none⟩ = some (.int .i64 x.fd) := by
 unfold Box at h; simp [World.cell?, h, C.cells]
theorem Box.c4 {w : World} {b : Nat} {x : C} (h : Box w b x) : w.cell? ⟨b, 4, none⟩ = some (.int .i64 x.pg) := by
 unfold Box at h; simp [World.cell?, h, C.cells]
theorem Box.c5 {w : World} {b : Nat} {x : C} (h : Box w b x) : w.cell? ⟨b, 5, none⟩ = some (.int .u32 x.sz) := by
 unfold Box at h; simp [World.cell?, h, C.cells]
theorem Box.c6 {w : World} {b : Nat} {x : C} (h : Box w b x) : w.cell? ⟨b, 6, none⟩ = some (.string x.da) := by
 unfold Box at h; simp [World.cell?, h, C.cells]
def rowF : Array Value := #[.int .i64 1, .func (.func 203) #[] #[], .func (.func 204) #[] #[], .func (.func 206) #[] #[], .int .i64 2, .func (.func 208) #[] #[], .func (.func 209) #[] #[], .func (.func 210) #[] #[], .int .i64 4, .func (.func 211) #[] #[], .func (.func 212) #[] #[], .func (.func 213) #[] #[], .int .i64 8, .func (.func 215) #[] #[], .func (.func 216) #[] #[], .func (.func 217) #[] #[], .int .i64 16, .func (.func 218) #[] #[], .func (.func 219) #[] #[], .func (.func 221) #[] #[], .int .i64 32, .func (.func 223) #[] #[], .func (.func 224) #[] #[], .func (.func 225) #[] #[]]
def Rows6 (w : World) (b : Nat) : Prop := w.heap[b]? = some (.cells rowF 224 (0, 0))
theorem Rows6.lt {w : World} {b : Nat} (h : Rows6 w b) : b < w.heap.size := lt_of_block h
theorem Rows6.below {w w' : World} {n b : Nat} (h : Rows6 w b) (hn : b < n) (hb : Below n w w') : Rows6 w' b := (hb.block b hn).trans h
theorem Rows6.alloc {w : World} {b : Nat} (h : Rows6 w b) (o : Obj) : Rows6 (w.alloc o) b := (heap_alloc_old w o h.lt).trans h
theorem Rows6.other {w : World} {b : Nat} (h : Rows6 w b) {c i : Nat} (v : Value) (hc : b ≠ c) : Rows6 (w.setCell ⟨c, i, none⟩ v) b := (heap_setCell_other w ⟨c, i, none⟩ b v hc).trans h
theorem Rows6.cell {w : World} {b : Nat} (h : Rows6 w b) (i : Nat) (hi : i < 24) : w.cell? ⟨b, i, none⟩ = rowF[i]? := by
 unfold Rows6 at h; simp [World.cell?, h]
set_option maxHeartbeats 400000 in
theorem fields_any (w : World) : Calls Tryz.prog 153 #[] w fun e w' => e = .returned (.slice (some ⟨w.heap.size, 0, none⟩) 6 6) ∧ w' = w.alloc (.cells rowF 224) := by
 go_enter Tryz.func153, Tryz.ntmps153
 go_wp2
 go_ret;exact ⟨rfl, rfl⟩
def C.drop (x : C) : Nat → C
 | 0 => { x with p := ⟨#[]⟩ }
 | 1 => { x with p2 := ⟨#[]⟩ }
 | 2 => { x with fd := 0 }
 | 3 => { x with pg := 0 }
 | 4 => { x with sz := 0 }
 | 5 => { x with da := ⟨#[]⟩ }
 | _ => x
set_option maxHeartbeats 400000 in
theorem drop0 (b : Nat) (x : C) (w : World) (hb : Box w b x) : Calls Tryz.prog 203 #[.pointer (some ⟨b, 0, none⟩)] w fun e w' => e = .returned (.tuple #[]) ∧ w' = w.setCell ⟨b, 1, none⟩ (.string ⟨#[]⟩) := by
 have c := hb.c1;have f := hb.free 1;clear hb
 go_enter Tryz.func203, Tryz.ntmps203
 go_wp2
 go_end0;exact ⟨rfl, rfl⟩
set_option maxHeartbeats 400000 in
theorem drop1 (b : Nat) (x : C) (w : World) (hb : Box w b x) : Calls Tryz.prog 208 #[.pointer (some ⟨b, 0, none⟩)] w fun e w' => e = .returned (.tuple #[]) ∧ w' = w.setCell ⟨b, 2, none⟩ (.string ⟨#[]⟩) := by
 have c := hb.c2;have f := hb.free 2;clear hb
 go_enter Tryz.func208, Tryz.ntmps208
 go_wp2
 go_end0;exact ⟨rfl, rfl⟩
set_option maxHeartbeats 400000 in
theorem drop2 (b : Nat) (x : C) (w : World) (hb : Box w b x) : Calls Tryz.prog 211 #[.pointer (some ⟨b, 0, none⟩)] w fun e w' => e = .returned (.tuple #[]) ∧ w' = w.setCell ⟨b, 3, none⟩ (.int .i64 0) := by
 have c := hb.c3;have f := hb.free 3;clear hb
 go_enter Tryz.func211, Tryz.ntmps211
 go_wp2
 go_end0;exact ⟨rfl, rfl⟩
set_option maxHeartbeats 400000 in
theorem drop3 (b : Nat) (x : C) (w : World) (hb : Box w b x) : Calls Tryz.prog 215 #[.pointer (some ⟨b, 0, none⟩)] w fun e w' => e = .returned (.tuple #[]) ∧ w' = w.setCell ⟨b, 4, none⟩ (.int .i64 0) := by
 have c := hb.c4;have f := hb.free 4;clear hb
 go_enter Tryz.func215, Tryz.ntmps215
 go_wp2
 go_end0;exact ⟨rfl, rfl⟩
set_option maxHeartbeats 400000 in
theorem drop4 (b : Nat) (x : C) (w : World) (hb : Box w b x) : Calls Tryz.prog 218 #[.pointer (some ⟨b, 0, none⟩)] w fun e w' => e = .returned (.tuple #[]) ∧ w' = w.setCell ⟨b, 5, none⟩ (.int .u32 0) := by
 have c := hb.c5;have f := hb.free 5;clear hb
 go_enter Tryz.func218, Tryz.ntmps218
 go_wp2
 go_end0;exact ⟨rfl, rfl⟩
set_option maxHeartbeats 400000 in
theorem drop5 (b : Nat) (x : C) (w : World) (hb : Box w b x) : Calls Tryz.prog 223 #[.pointer (some ⟨b, 0, none⟩)] w fun e w' => e = .returned (.tuple #[]) ∧ w' = w.setCell ⟨b, 6, none⟩ (.string ⟨#[]⟩) := by
 have c := hb.c6;have f := hb.free 6;clear hb
 go_enter Tryz.func223, Tryz.ntmps223
 go_wp2
 go_end0;exact ⟨rfl, rfl⟩
def textL (l : List UInt8) : List UInt8 := UInt8.ofNat l.length :: l
def takeL : List UInt8 → Option (List UInt8 × List UInt8)
 | [] => none
 | c :: r => if r.length < c.toNat then none else some (r.take c.toNat, r.drop c.toNat)
theorem nil_of {s : ByteArray} (h : ¬ 0 < s.size) : s = ⟨#[]⟩ := L_inj (List.eq_nil_of_length_eq_zero (by rw [len_L]; omega))
def C.get (x : C) : Nat → List UInt8 → Option (C × List UInt8)
 | 0, l => (takeL l).map fun t => ({ x with p := B t.1 }, t.2)
 | 1, l => (takeL l).map fun t => ({ x with p2 := B t.1 }, t.2)
 | 2, l => match l with | [] => none | c :: r => some ({ x with fd := c.toNat }, r)
 | 3, l => match l with | [] => none | c :: r => some ({ x with pg := c.toNat }, r)
 | 4, l => if l.length < 4 then none else some ({ x with sz := valL (l.take 4) }, l.drop 4)
 | 5, l => (takeL l).map fun t => ({ x with da := B t.1 }, t.2)
 | _, l => some (x, l)
def C.put (x : C) : Nat → List UInt8
 | 0 => textL (L x.p)
 | 1 => textL (L x.p2)
 | 2 => [UInt8.ofNat x.fd.toNat]
 | 3 => [UInt8.ofNat x.pg.toNat]
 | 4 => numL x.sz 4
 | 5 => textL (L x.da)
 | _ => []
end Go.Proofs.YtkljcgopikdjjaaGreatDoor.Call
end
