/- The walks of package bits that range over a function: all, Least, Count: for texts of at most 2^40 bytes. -/
import Derived.Test.YtpnfkilfgdnogaaGreatDoorBits
import Derived.RangeFuncNested
import Derived.RangeFuncBound
import Derived.RangeFuncCalls
import Derived.RangeFuncLeaves
import Derived.Shelf.Abstract
import Derived.Shelf.RegionOpen
import Derived.OwnWalkIn
import Derived.TacticsInMore
import Derived.LoopNIn
import Derived.LoopIn
import Derived.RegionTactic
namespace Go.Proofs.YtpnfkilfgdnogaaGreatDoor
open Go.RowKit Go.Shelf
attribute [local go_sem] Oper.semAt_some
def upto {α : Type} (f : Nat → α) (k : Nat) : List α := (List.range k).map f
theorem upto_succ {α : Type} (f : Nat → α) (k : Nat) : upto f (k + 1) = upto f k ++ [f k] := by simp [upto, List.range_succ]
theorem upto_length {α : Type} (f : Nat → α) (k : Nat) : (upto f k).length = k := by simp [upto]
def KeptBox (B : Nat) (t : TypeId) (W W' : World) : Prop := ∀ v, Boxed W B t v → Boxed W' B t v
theorem KeptBox.refl (B : Nat) (t : TypeId) (W : World) : KeptBox B t W W := fun _ h => h
theorem keptBox_t {B : Nat} {t : TypeId} {X Y Z : World} (h : KeptBox B t X Y) (k : KeptBox B t Y Z) : KeptBox B t X Z := fun v hv => k v (h v hv)
theorem keptBox_b {B : Nat} {t : TypeId} {w : World} (hB : B < w.heap.size) (W : World) (l : Nat) (o o' : Obj) (hl : w.heap.size ≤ l) (_ : W.heap[l]? = some o) (_ : o.isCells = false) (_ : o.isWalk = false) : KeptBox B t W (W.putObj l o') :=
  fun _ hv => hv.kept (grownBy_putObj' W l o') (fun e => by cases e; omega)
def bitPair (s : ByteArray) (k : Nat) : Nat × Bool := (k, bitB s k)
set_option maxHeartbeats 1000000 in
theorem all1_in (F : Fence) (n : Nat) (h8 : F.fn 153) (hro : F.round = none) (hn : 1 ≤ n) (l Bs : Nat) (s : ByteArray) (hs : s.size ≤ 1099511627776) (J Jx : List (Nat × Bool) → World → Prop)
    (hY : ∀ pre x W, J pre W → pre.length < 8 * s.size → YieldAt F (n - 1) Tryz.prog l #[.int .i64 (x.1 : Int), .bool x.2] W fun e W' =>
      (e = .returned (.bool true) ∧ J (pre ++ [x]) W' ∧ KeptBox Bs 9 W W') ∨ (e = .returned (.bool false) ∧ Jx (pre ++ [x]) W'))
    (W : World) (hBs : Boxed W Bs 9 (.string s)) (h0 : J [] W) :
    CallsIn F n Tryz.prog 153 #[.func (.yield l) #[] #[], .pointer (some ⟨Bs, 0, none⟩)] W fun e W' => (∃ v, e = .returned v) ∧
      ((∃ ys, ys = upto (bitPair s) (8 * s.size) ∧ J ys W') ∨ (∃ pre, (∃ k, k ≤ 8 * s.size ∧ pre = upto (bitPair s) k) ∧ Jx pre W')) := by
  have hc0 := hBs.cell
  refine callsIn_of_wp Tryz.func153 rfl h8 ?_ hro
  simp only [Tryz.ntmps153, List.size_toArray, List.length_cons, List.length_nil, Nat.reduceAdd, Nat.reduceSub, Array.replicate_succ, Array.replicate_zero, List.push_toArray, List.append_toArray, List.nil_append, List.cons_append]
  gi_wp2
  gi_loopw [7] (fun i wr => ∃ k : Nat, k ≤ 8 * s.size ∧ i = .int .i64 k ∧ J (upto (bitPair s) k) wr ∧ Boxed wr Bs 9 (.string s))
    (fun i _ => 8 * s.size - (intOf i).toNat)
  case atStart => exact ⟨0, Nat.zero_le _, rfl, h0, hBs⟩
  case round =>
    obtain ⟨k, hk, rfl, hJs, hnx⟩ := hrel
    have hcx := hnx.cell
    by_cases hlt : k < 8 * s.size
    · have hlt2 : k / 8 < s.size := by omega
      have HF : (bits BinOp.and IntKind.u8 ((s[k / 8].toNat : Int) / 2 ^ (k % 8)) 1 == 1) = bitB s k := by rw [get_bit]; unfold bitB; rw [byteAt_get s _ hlt2]
      obtain ⟨fn, tmps, assign, body, hy, hR⟩ := hY _ (k, bitB s k) wr hJs (by rw [upto_length]; exact hlt)
      dsimp only at hy
      rw [← HF] at hy
      clear HF hBs hc0
      gi_wp2
      refine hR.mono ?_
      rintro e W3 (⟨rfl, hJ3, hk3⟩ | ⟨rfl, hJx3⟩)
      · gi_wp2
        go_roundw
        case rel => exact ⟨k + 1, by omega, by simp, by rw [upto_succ]; exact hJ3, hk3 _ hnx⟩
        case measure => simp [intOf]; omega
      · gi_wp2
        refine bodyPost_ret (results_none rfl _ _ _) rfl ?_
        exact ⟨⟨_, rfl⟩, .inr ⟨_, ⟨k + 1, by omega, (upto_succ _ _).symm⟩, hJx3⟩⟩
    · obtain rfl : k = 8 * s.size := by omega
      gi_wp2
      go_end0
      exact ⟨⟨_, rfl⟩, .inl ⟨_, rfl, hJs⟩⟩
set_option maxHeartbeats 1000000 in
theorem all_in (F : Fence) (n : Nat) (h6 : F.fn 102) (hro : F.round = none) (s : ByteArray) (w : World) :
    CallsIn F n Tryz.prog 102 #[.string s] w fun e w' => e = .returned (.func (.func 153) #[] #[.pointer (some ⟨w.heap.size, 0, none⟩)]) ∧ w.alloc (.cells #[.string s] 9) = w' := by
  refine callsIn_of_wp Tryz.func102 rfl h6 ?_ hro
  simp only [Tryz.ntmps102, List.size_toArray, List.length_cons, List.length_nil, Nat.reduceAdd, Nat.reduceSub, Array.replicate_succ, Array.replicate_zero, List.push_toArray, List.append_toArray, List.nil_append, List.cons_append]
  gi_wp2
  go_ret
  exact ⟨rfl, rfl⟩
theorem all_stops (F : Fence) (n : Nat) (h8 : F.fn 153) (hro : F.round = none) (hn : 1 ≤ n) (Bs : Nat) (s : ByteArray) (hs : s.size ≤ 1099511627776) (w : World) (hBs : Boxed w Bs 9 (.string s)) :
    SeqStopsK F n Tryz.prog 153 #[.pointer (some ⟨Bs, 0, none⟩)] (fun x : Nat × Bool => #[Value.int .i64 (x.1 : Int), Value.bool x.2]) (KeptBox Bs 9) (fun ys => ys = upto (bitPair s) (8 * s.size))
      (fun pre => ∃ k, k ≤ 8 * s.size ∧ pre = upto (bitPair s) k) (8 * s.size) w := fun l J Jx W hW _ _ hY h0 =>
  all1_in F n h8 hro hn l Bs s hs J Jx hY W ((hW.block Bs hBs.lt).trans hBs) h0
def cntB (n : Int) (l : List (Nat × Bool)) : Nat := (l.filter fun x => x.2 && decide ((x.1 : Int) < n)).length
theorem cntB_snoc (n : Int) (l : List (Nat × Bool)) (x : Nat × Bool) : cntB n (l ++ [x]) = cntB n l + if x.2 && decide ((x.1 : Int) < n) then 1 else 0 := by
  unfold cntB
  rw [List.filter_append]
  by_cases h : (x.2 && decide ((x.1 : Int) < n)) <;> simp [h]
theorem cntB_le (n : Int) (l : List (Nat × Bool)) : cntB n l ≤ l.length := List.length_filter_le _ _
def countB (s : ByteArray) (n : Int) : Nat := cntB n (upto (bitPair s) (8 * s.size))
set_option maxRecDepth 100000 in
set_option maxHeartbeats 2000000 in
theorem count_in (F : Fence) (n : Nat) (h58 : F.fn 55) (h77 : F.fn 102) (h89 : F.fn 153) (hro : F.round = none) (hn : 3 ≤ n) (s : ByteArray) (m : Int) (w : World) (hs : s.size ≤ 1099511627776) :
    CallsIn F n Tryz.prog 55 #[.string s, .int .i64 m] w fun e w' => e = .returned (.int .i64 (countB s m)) ∧ Below w.heap.size w w' := by
  have h1 : 1 ≤ n := by omega
  refine callsIn_of_wp_marks Tryz.func55 rfl h58 ?_ hro
  simp only [Tryz.ntmps55, List.size_toArray, List.length_cons, List.length_nil, Nat.reduceAdd, Nat.reduceSub, Array.replicate_succ, Array.replicate_zero, List.push_toArray, List.append_toArray, List.nil_append, List.cons_append]
  gi_wp2_with (gi_at_call 102; refine (all_in F (n - 1) h77 hro _ _).mono ?_; rintro e w' ⟨rfl, rfl⟩)
  have bM := Boxed.new w 3 (.int .i64 m)
  have bS := Boxed.new (w.alloc (.cells #[.int .i64 m] 3)) 3 (.int .i64 0)
  have bT := Boxed.new ((w.alloc (.cells #[.int .i64 m] 3)).alloc (.cells #[.int .i64 0] 3)) 9 (.string s)
  rw [World.size_alloc] at bS bT
  rw [World.size_alloc] at bT
  have hB0 : Below w.heap.size w (((w.alloc (.cells #[.int .i64 m] 3)).alloc (.cells #[.int .i64 0] 3)).alloc (.cells #[.string s] 9)) := (((Below.refl _ w).alloc (Nat.le_refl _) _).alloc (by simp) _).alloc (by simp; omega) _
  refine wpIn_rangeFunc_ownG hro h1 (gf := 153) (lb := #[.pointer (some ⟨w.heap.size + 1 + 1, 0, none⟩)]) rfl h89 (enters_of Tryz.func153 (by kernel_rfl) rfl)
    (all_stops F (n - 1) h89 hro (by omega) (w.heap.size + 1 + 1) s hs _ bT) keptBox_t (keptBox_b (by simp)) (Below.refl _ _) (fun _ => rfl)
    (fun pre W => (Boxed W w.heap.size 3 (.int .i64 m) ∧ Boxed W (w.heap.size + 1) 3 (.int .i64 (cntB m pre))) ∧ Below w.heap.size w W)
    (fun _ _ _ => False)
    (OwnFrom.and (OwnFrom.and (Own.from (boxed_own _ _ _) _) (Own.from (boxed_own _ _ _) _)) (ownFrom_below (Nat.le_refl _) (by simp; omega)))
    (fun _ _ _ _ _ hs _ _ => hs)
    ⟨⟨(bM.alloc _).alloc _, bS.alloc _⟩, hB0⟩
    (fun x => { tmps := #[.string s, .int .i64 m, undef, .pointer (some ⟨w.heap.size, 0, none⟩), .pointer (some ⟨w.heap.size + 1, 0, none⟩), .int .i64 (x.1 : Int), .bool x.2, .string s, .func (.func 153) #[] #[.pointer (some ⟨w.heap.size + 1 + 1, 0, none⟩)], .int .i64 (x.1 : Int), .bool x.2, undef, undef, undef, undef, undef, undef, undef, undef, undef], defers := [] }) ?assign ?body ?done ?stop
  case assign =>
    intro l x W K hK
    gi_wp2
    exact hK
  case body =>
    rintro l pre ⟨k, b⟩ W ⟨⟨hM, hS⟩, hB⟩ hlen
    have cM := hM.cell
    have cS := hS.cell
    have fS := hS.frozen
    have hle := cntB_le m pre
    have hsn := cntB_snoc m pre (k, b)
    cases b
    · simp at hsn
      have HS := Lib.hid hsn
      clear hsn
      gi_wp2
      exact ⟨KeepsFrom.refl _ _, KeptBox.refl _ _ _, ⟨hM, by rw [HS.out]; exact hS⟩, hB⟩
    · by_cases hlt : (k : Int) < m
      · simp [hlt] at hsn
        have HS := Lib.hid hsn
        clear hsn
        gi_wp2
        have eS : ((cntB m (pre ++ [(k, true)]) : Nat) : Int) = (cntB m pre : Int) + 1 := by rw [HS.out]; simp
        refine ⟨(KeepsOthers.setCell _ _ _).from _, fun v hv => hv.other (by omega) _, ⟨hM.other (by omega) _, ?_⟩, hB.setCell (p := ⟨w.heap.size + 1, 0, none⟩) (by simp) _⟩
        rw [eS]
        exact hS.set _
      · have hlt' : decide ((k : Int) < m) = false := by simpa using hlt
        simp [hlt] at hsn
        have HS := Lib.hid hsn
        clear hsn hlt
        gi_wp2
        exact ⟨KeepsFrom.refl _ _, KeptBox.refl _ _ _, ⟨hM, by rw [HS.out]; exact hS⟩, hB⟩
  case done =>
    rintro D ys W hD rfl ⟨⟨hM, hS⟩, hB⟩ hK
    replace hS : Boxed W (w.heap.size + 1) 3 (.int .i64 (countB s m)) := hS
    have cS := hS.cell
    have fS := hS.frozen
    gi_wp2
    have hK' := (KeepsOthers.setCell W ⟨w.heap.size + 1, 0, none⟩ (.int .i64 (countB s m))).same D _ hK rfl
    refine ⟨by simp, .inl ⟨_, _, rfl, run_takeDeferred hK', ?_⟩⟩
    have hc5 := cell_kept (hS.set (.int .i64 (countB s m))).cell (grownBy_putObj' _ D (.deferred none)) (fun r e => by cases e; exact ⟨_, hK', rfl⟩)
    refine ⟨.int .i64 (countB s m), ?_, rfl, (hB.setCell (p := ⟨w.heap.size + 1, 0, none⟩) (by simp) _).trans (belowK_b (w := w) (Nat.le_refl _) _ D _ _ (by simp at hD; omega) hK' rfl rfl)⟩
    simp [results, Tryz.f55, go_sem, hc5]
  case stop =>
    rintro D c pre W _ _ h _
    exact h.elim
theorem count_any (s : ByteArray) (m : Int) (w : World) (hs : s.size ≤ 1099511627776) :
    Calls Tryz.prog 55 #[.string s, .int .i64 m] w fun e w' => e = .returned (.int .i64 (countB s m)) ∧ Below w.heap.size w w' :=
  callsIn_wide.1 (count_in Fence.wide 3 trivial trivial trivial rfl (Nat.le_refl _) s m w hs)
theorem wpIn_scope_w {F : Fence} (HW : Hid (F = Fence.wide)) {n : Nat} {P : Program} {c : Code} {Q : Exit → Act → World → Prop} {a : Act} {w : World} (h : c.wpIn F n P (Exit.noGoto Q) a w) : (Code.scope c).wpIn F n P Q a w := by
  have e := HW.out
  subst e
  exact wpIn_wide.2 (wp_scope_straight (wpIn_wide.1 h))
theorem wpIn_label_w {F : Fence} (HW : Hid (F = Fence.wide)) {n l : Nat} {P : Program} {Q : Exit → Act → World → Prop} {a : Act} {w : World} (h : Q .normal a w) : (Code.label l).wpIn F n P Q a w := by
  have e := HW.out
  subst e
  exact wpIn_wide.2 (wp_label h)
theorem wpIn_plain_w {F : Fence} (HW : Hid (F = Fence.wide)) {n : Nat} {P : Program} {c : Code} {Q : Exit → Act → World → Prop} {a : Act} {w : World} (h : c.wp P Q a w) : c.wpIn F n P Q a w := by
  have e := HW.out
  subst e
  exact wpIn_wide.2 h
def goesOn (m : Int) (on : Bool) (x : Nat × Bool) : Prop := (x.1 : Int) < m ∧ x.2 ≠ on
def Ini (m : Int) (on : Bool) (pre : List (Nat × Bool)) : Prop := ∀ p ∈ pre, goesOn m on p
def Stopped (m : Int) (on : Bool) (c : Code) (pre : List (Nat × Bool)) : Prop := c = .exit 0 ∧ ∃ ini last, pre = ini ++ [last] ∧ (∀ p ∈ ini, goesOn m on p) ∧ ¬ goesOn m on last
def leastL (m : Int) (on : Bool) : List (Nat × Bool) → Nat × Bool
  | [] => (0, false)
  | x :: l => if m ≤ x.1 then (0, false) else if x.2 = on then (x.1, true) else leastL m on l
theorem leastL_skip (m : Int) (on : Bool) : ∀ (ini l : List (Nat × Bool)), (∀ p ∈ ini, goesOn m on p) → leastL m on (ini ++ l) = leastL m on l
  | [], _, _ => rfl
  | x :: ini, l, h => by
    have hx := h x (by simp)
    unfold goesOn at hx
    rw [List.cons_append, leastL, if_neg (by omega), if_neg hx.2]
    exact leastL_skip m on ini l (fun p hp => h p (by simp [hp]))
theorem leastL_stop (m : Int) (on : Bool) (x : Nat × Bool) (l : List (Nat × Bool)) (h : ¬ goesOn m on x) : leastL m on (x :: l) = leastL m on [x] := by
  unfold goesOn at h
  rw [leastL, leastL]
  by_cases h1 : m ≤ x.1
  · rw [if_pos h1, if_pos h1]
  · by_cases h2 : x.2 = on
    · rw [if_neg h1, if_neg h1, if_pos h2, if_pos h2]
    · exact (h ⟨by omega, h2⟩).elim
theorem upto_split {α : Type} (f : Nat → α) {k m : Nat} (h : k ≤ m) : ∃ r, upto f m = upto f k ++ r := by
  refine ⟨(upto f m).drop k, ?_⟩
  have : upto f k = (upto f m).take k := by
    unfold upto
    rw [← List.map_take, List.take_range, Nat.min_eq_left h]
  rw [this, List.take_append_drop]
theorem ini_snoc {m : Int} {on : Bool} {pre : List (Nat × Bool)} {k : Nat} {b : Bool} (h : Ini m on pre) (hk : (k : Int) < m) (hb : ¬ b = on) : Ini m on (pre ++ [(k, b)]) := by
  intro p hp'
  rcases List.mem_append.1 hp' with h1 | h1
  · exact h p h1
  · simp at h1
    subst h1
    exact ⟨hk, hb⟩
def leastB (s : ByteArray) (m : Int) (on : Bool) : Nat × Bool := leastL m on (upto (bitPair s) (8 * s.size))
set_option maxRecDepth 100000 in
set_option maxHeartbeats 2000000 in
theorem least_in (F : Fence) (n : Nat) (HW : Hid (F = Fence.wide)) (h58 : F.fn 90) (h77 : F.fn 102) (h89 : F.fn 153) (hro : F.round = none) (hn : 3 ≤ n) (s : ByteArray) (m : Int) (on : Bool) (w : World) (hs : s.size ≤ 1099511627776) :
    CallsIn F n Tryz.prog 90 #[.string s, .int .i64 m, .bool on] w fun e w' => e = .returned (.tuple #[.int .i64 (leastB s m on).1, .bool (leastB s m on).2]) ∧ Below w.heap.size w w' := by
  have h1 : 1 ≤ n := by omega
  refine callsIn_of_wp_marks Tryz.func90 rfl h58 ?_ hro
  simp only [Tryz.ntmps90, List.size_toArray, List.length_cons, List.length_nil, Nat.reduceAdd, Nat.reduceSub, Array.replicate_succ, Array.replicate_zero, List.push_toArray, List.append_toArray, List.nil_append, List.cons_append]
  gi_wp2
  refine wpIn_scope_w HW ?_
  gi_wp2
  refine wpIn_label_w HW ?_
  gi_wp2_with (gi_at_call 102; refine (all_in F (n - 1) h77 hro _ _).mono ?_; rintro e w' ⟨rfl, rfl⟩)
  have bM := Boxed.new w 3 (.int .i64 m)
  have bO := Boxed.new (w.alloc (.cells #[.int .i64 m] 3)) 4 (.bool on)
  have bI := Boxed.new ((w.alloc (.cells #[.int .i64 m] 3)).alloc (.cells #[.bool on] 4)) 3 (.int .i64 0)
  have bJ := Boxed.new (((w.alloc (.cells #[.int .i64 m] 3)).alloc (.cells #[.bool on] 4)).alloc (.cells #[.int .i64 0] 3)) 4 (.bool false)
  have bT := Boxed.new ((((w.alloc (.cells #[.int .i64 m] 3)).alloc (.cells #[.bool on] 4)).alloc (.cells #[.int .i64 0] 3)).alloc (.cells #[.bool false] 4)) 9 (.string s)
  have hB0 : Below w.heap.size w (((((w.alloc (.cells #[.int .i64 m] 3)).alloc (.cells #[.bool on] 4)).alloc (.cells #[.int .i64 0] 3)).alloc (.cells #[.bool false] 4)).alloc (.cells #[.string s] 9)) := (((((Below.refl _ w).alloc (Nat.le_refl _) _).alloc (by simp) _).alloc (by simp; omega) _).alloc (by simp; omega) _).alloc (by simp; omega) _
  simp only [World.size_alloc] at bO bI bJ bT
  refine wpIn_rangeFunc_ownG hro h1 (gf := 153) (lb := #[.pointer (some ⟨w.heap.size + 1 + 1 + 1 + 1, 0, none⟩)]) rfl h89 (enters_of Tryz.func153 (by kernel_rfl) rfl)
    (all_stops F (n - 1) h89 hro (by omega) (w.heap.size + 1 + 1 + 1 + 1) s hs _ bT) keptBox_t (keptBox_b (by simp)) (Below.refl _ _) (fun _ => rfl)
    (fun pre W => (Ini m on pre ∧ Boxed W w.heap.size 3 (.int .i64 m) ∧ Boxed W (w.heap.size + 1) 4 (.bool on) ∧ Boxed W (w.heap.size + 1 + 1) 3 (.int .i64 0) ∧ Boxed W (w.heap.size + 1 + 1 + 1) 4 (.bool false)) ∧ Below w.heap.size w W)
    (fun c pre W => (Stopped m on c pre ∧ Boxed W (w.heap.size + 1 + 1) 3 (.int .i64 (leastL m on pre).1) ∧ Boxed W (w.heap.size + 1 + 1 + 1) 4 (.bool (leastL m on pre).2)) ∧ Below w.heap.size w W)
    (OwnFrom.and (OwnFrom.and (ownFrom_pure _ _) (OwnFrom.and (Own.from (boxed_own _ _ _) _) (OwnFrom.and (Own.from (boxed_own _ _ _) _) (OwnFrom.and (Own.from (boxed_own _ _ _) _) (Own.from (boxed_own _ _ _) _))))) (ownFrom_below (Nat.le_refl _) (by simp; omega)))
    (fun c => OwnFrom.and (OwnFrom.and (ownFrom_pure _ _) (OwnFrom.and (Own.from (boxed_own _ _ _) _) (Own.from (boxed_own _ _ _) _))) (ownFrom_below (Nat.le_refl _) (by simp; omega)))
    ⟨⟨fun p hp => by simp at hp, (((bM.alloc _).alloc _).alloc _).alloc _, ((bO.alloc _).alloc _).alloc _, (bI.alloc _).alloc _, bJ.alloc _⟩, hB0⟩
    (fun x => { tmps := #[.string s, .int .i64 m, .bool on, undef, .pointer (some ⟨w.heap.size, 0, none⟩), .pointer (some ⟨w.heap.size + 1, 0, none⟩), .pointer (some ⟨w.heap.size + 1 + 1, 0, none⟩), .pointer (some ⟨w.heap.size + 1 + 1 + 1, 0, none⟩), .int .i64 (x.1 : Int), .bool x.2, .string s, .func (.func 153) #[] #[.pointer (some ⟨w.heap.size + 1 + 1 + 1 + 1, 0, none⟩)], .int .i64 (x.1 : Int), .bool x.2, undef, undef, undef, undef, undef, undef, undef, undef, undef], defers := [] }) ?assign ?body ?done ?stop
  case assign =>
    intro l x W K hK
    gi_wp2
    exact hK
  case body =>
    rintro l pre ⟨k, b⟩ W ⟨⟨hp, hM, hO, hI, hJ⟩, hB⟩ hlen
    have cM := hM.cell
    have cO := hO.cell
    have cI := hI.cell
    have fI := hI.frozen
    have cJ := hJ.cell
    have fJ := hJ.frozen
    have HP := Lib.hid hp
    clear hp
    have HL := Lib.hid (leastL_skip m on pre [(k, b)] HP.out)
    by_cases hlt : m ≤ (k : Int)
    · have hd : decide (m ≤ (k : Int)) = true := by simpa using hlt
      gi_wp2
      have eL : leastL m on (pre ++ [(k, b)]) = (0, false) := by rw [HL.out, leastL, if_pos hlt]
      exact ⟨KeepsFrom.refl _ _, ⟨⟨rfl, pre, (k, b), rfl, HP.out, fun h => by unfold goesOn at h; simp at h; omega⟩, by rw [eL]; exact hI, by rw [eL]; exact hJ⟩, hB⟩
    · have hd : decide (m ≤ (k : Int)) = false := by simpa using hlt
      by_cases hb : b = on
      · have hb' : (b == on) = true := by simpa using hb
        have HE := Lib.hid hb
        clear hb
        gi_wp2
        have eL : leastL m on (pre ++ [(k, b)]) = (k, true) := by rw [HL.out, leastL, if_neg (Int.not_le.2 hlt), if_pos HE.out]
        refine ⟨((KeepsOthers.setCell _ _ _).trans (KeepsOthers.setCell _ _ _)).from _, ⟨⟨rfl, pre, (k, b), rfl, HP.out, fun h => by unfold goesOn at h; exact h.2 HE.out⟩, ?_, ?_⟩, (hB.setCell (p := ⟨w.heap.size + 1 + 1, 0, none⟩) (by simp; omega) _).setCell (p := ⟨w.heap.size + 1 + 1 + 1, 0, none⟩) (by simp; omega) _⟩
        · rw [eL]; exact (hI.set _).other (by omega) _
        · rw [eL]; exact (hJ.other (by omega) _).set _
      · have hb' : (b == on) = false := by simpa using hb
        have HE := Lib.hid hb
        clear hb
        gi_wp2
        refine ⟨KeepsFrom.refl _ _, KeptBox.refl _ _ _, ⟨?_, hM, hO, hI, hJ⟩, hB⟩
        exact ini_snoc HP.out (by omega) HE.out
  case done =>
    rintro D ys W hD rfl ⟨⟨hp, hM, hO, hI, hJ⟩, hB⟩ hK
    have eL : leastB s m on = (0, false) := by
      have := leastL_skip m on _ [] hp
      rw [List.append_nil] at this
      unfold leastB
      rw [this, leastL]
    gi_wp2
    have cI := hI.cell
    have fI := hI.frozen
    have cJ := hJ.cell
    have fJ := hJ.frozen
    refine wpIn_plain_w HW ?_
    go_region
    gi_wp2
    have hI2 : Boxed ((W.setCell ⟨w.heap.size + 1 + 1, 0, none⟩ (.int .i64 0)).setCell ⟨w.heap.size + 1 + 1 + 1, 0, none⟩ (.bool false)).drew (w.heap.size + 1 + 1) 3 (.int .i64 0) := (hI.set _).other (by omega) _
    have hJ2 : Boxed ((W.setCell ⟨w.heap.size + 1 + 1, 0, none⟩ (.int .i64 0)).setCell ⟨w.heap.size + 1 + 1 + 1, 0, none⟩ (.bool false)).drew (w.heap.size + 1 + 1 + 1) 4 (.bool false) := (hJ.other (by omega) _).set _
    have hB2 : Below w.heap.size w ((W.setCell ⟨w.heap.size + 1 + 1, 0, none⟩ (.int .i64 0)).setCell ⟨w.heap.size + 1 + 1 + 1, 0, none⟩ (.bool false)).drew := ((hB.setCell (p := ⟨w.heap.size + 1 + 1, 0, none⟩) (by simp; omega) _).setCell (p := ⟨w.heap.size + 1 + 1 + 1, 0, none⟩) (by simp; omega) _).drew
    have hK2 : ((W.setCell ⟨w.heap.size + 1 + 1, 0, none⟩ (.int .i64 0)).setCell ⟨w.heap.size + 1 + 1 + 1, 0, none⟩ (.bool false)).drew.heap[D]? = some (.deferred (some [])) := ((KeepsOthers.setCell W ⟨w.heap.size + 1 + 1, 0, none⟩ (.int .i64 0)).trans (KeepsOthers.setCell _ ⟨w.heap.size + 1 + 1 + 1, 0, none⟩ (.bool false))).same D _ hK rfl
    refine ⟨by simp, .inl ⟨_, _, rfl, run_takeDeferred hK2, ?_⟩⟩
    have c5 := cell_kept hI2.cell (grownBy_putObj' _ D (.deferred none)) (fun r e => by cases e; exact ⟨_, hK2, rfl⟩)
    have c6 := cell_kept hJ2.cell (grownBy_putObj' _ D (.deferred none)) (fun r e => by cases e; exact ⟨_, hK2, rfl⟩)
    refine ⟨.tuple #[.int .i64 0, .bool false], ?_, (by rw [eL]; try rfl), hB2.trans (belowK_b (w := w) (Nat.le_refl _) _ D _ _ (by simp at hD; omega) hK2 rfl rfl)⟩
    simp [results, Tryz.f90, go_sem, c5, c6]
  case stop =>
    rintro D c pre W hD ⟨k, hk, rfl⟩ ⟨⟨⟨rfl, ini, last, e1, e2, e3⟩, hI, hJ⟩, hB⟩ hK
    have eL : leastB s m on = leastL m on (upto (bitPair s) k) := by
      obtain ⟨r, hr⟩ := upto_split (bitPair s) hk
      unfold leastB
      rw [hr, e1, List.append_assoc, leastL_skip m on ini _ e2, leastL_skip m on ini _ e2, List.singleton_append, leastL_stop m on last r e3]
    generalize leastL m on (upto (bitPair s) k) = q at *
    obtain ⟨i, j⟩ := q
    clear e1 e2 e3
    gi_wp2
    have cI := hI.cell
    have fI := hI.frozen
    have cJ := hJ.cell
    have fJ := hJ.frozen
    refine wpIn_plain_w HW ?_
    go_region
    gi_wp2
    have hI2 : Boxed ((W.setCell ⟨w.heap.size + 1 + 1, 0, none⟩ (.int .i64 i)).setCell ⟨w.heap.size + 1 + 1 + 1, 0, none⟩ (.bool j)).drew (w.heap.size + 1 + 1) 3 (.int .i64 i) := (hI.set _).other (by omega) _
    have hJ2 : Boxed ((W.setCell ⟨w.heap.size + 1 + 1, 0, none⟩ (.int .i64 i)).setCell ⟨w.heap.size + 1 + 1 + 1, 0, none⟩ (.bool j)).drew (w.heap.size + 1 + 1 + 1) 4 (.bool j) := (hJ.other (by omega) _).set _
    have hB2 : Below w.heap.size w ((W.setCell ⟨w.heap.size + 1 + 1, 0, none⟩ (.int .i64 i)).setCell ⟨w.heap.size + 1 + 1 + 1, 0, none⟩ (.bool j)).drew := ((hB.setCell (p := ⟨w.heap.size + 1 + 1, 0, none⟩) (by simp; omega) _).setCell (p := ⟨w.heap.size + 1 + 1 + 1, 0, none⟩) (by simp; omega) _).drew
    have hK2 : ((W.setCell ⟨w.heap.size + 1 + 1, 0, none⟩ (.int .i64 i)).setCell ⟨w.heap.size + 1 + 1 + 1, 0, none⟩ (.bool j)).drew.heap[D]? = some (.deferred (some [])) := ((KeepsOthers.setCell W ⟨w.heap.size + 1 + 1, 0, none⟩ (.int .i64 i)).trans (KeepsOthers.setCell _ ⟨w.heap.size + 1 + 1 + 1, 0, none⟩ (.bool j))).same D _ hK rfl
    refine ⟨by simp, .inl ⟨_, _, rfl, run_takeDeferred hK2, ?_⟩⟩
    have c5 := cell_kept hI2.cell (grownBy_putObj' _ D (.deferred none)) (fun r e => by cases e; exact ⟨_, hK2, rfl⟩)
    have c6 := cell_kept hJ2.cell (grownBy_putObj' _ D (.deferred none)) (fun r e => by cases e; exact ⟨_, hK2, rfl⟩)
    refine ⟨.tuple #[.int .i64 i, .bool j], ?_, (by rw [eL]; try rfl), hB2.trans (belowK_b (w := w) (Nat.le_refl _) _ D _ _ (by simp at hD; omega) hK2 rfl rfl)⟩
    simp [results, Tryz.f90, go_sem, c5, c6]
theorem least_any (s : ByteArray) (m : Int) (on : Bool) (w : World) (hs : s.size ≤ 1099511627776) :
    Calls Tryz.prog 90 #[.string s, .int .i64 m, .bool on] w fun e w' => e = .returned (.tuple #[.int .i64 (leastB s m on).1, .bool (leastB s m on).2]) ∧ Below w.heap.size w w' :=
  callsIn_wide.1 (least_in Fence.wide 3 (Lib.hid rfl) trivial trivial trivial rfl (Nat.le_refl _) s m on w hs)
end Go.Proofs.YtpnfkilfgdnogaaGreatDoor
