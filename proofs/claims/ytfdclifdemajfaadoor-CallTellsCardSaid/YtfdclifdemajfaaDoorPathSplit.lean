/- The walks of path.each and path.Split. -/
import Derived.Test.YtfdclifdemajfaaDoorPathPlain
import Derived.Test.YtfdclifdemajfaaDoorBitsIter
import Derived.RangeFuncBound
import Derived.RangeFuncCalls
import Derived.RangeFuncLeaves
import Derived.Shelf.Abstract
import Derived.Shelf.RegionOpen
import Derived.OwnWalkIn
import Derived.TacticsInMore
import Derived.LoopNIn
import Derived.LoopIn
import Derived.Deep.AppendLies
namespace Go.Proofs.YtfdclifdemajfaaDoor.Path
set_option linter.unusedVariables false
open Go.RowKit Go.Shelf Oct

theorem cut_parts {l p r : List UInt8} (h : l = p ++ 47 :: r) : l.take p.length = p ∧ l.drop (p.length + 1) = r := by
  subst h
  exact ⟨List.take_left, by rw [← List.drop_drop, List.drop_left]; rfl⟩

set_option maxRecDepth 100000 in
set_option maxHeartbeats 400000 in
theorem liteCut_any (s : ByteArray) (w : World) (hs : s.size ≤ maxLen) :
    Calls Tryd.prog 61 #[.string s, .string ⟨#[47]⟩] w fun e w' => e = .returned (.tuple #[.string (B (brk (L s)).1), .string (B (brk (L s)).2.1), .bool (brk (L s)).2.2]) ∧ ∃ m, w' = w.drewN m := by
  unfold maxLen at hs
  have hi := brk_index (L s)
  have hl := len_L s
  by_cases h : (brk (L s)).2.2 = true
  · have hf := brk_found (L s) h
    have hlen := congrArg List.length hf
    rw [List.length_append, List.length_cons, hl] at hlen
    obtain ⟨e1, e2⟩ := cut_parts hf
    rw [h] at hi ⊢
    simp only [if_true] at hi
    have E1 := Lib.hid (show s.extract 0 (brk (L s)).1.length = B (brk (L s)).1 by rw [ex_front, e1])
    have E2 := Lib.hid (show s.extract ((brk (L s)).1.length + 1) s.size = B (brk (L s)).2.1 by rw [ex_rest, e2])
    have C := Lib.hid (fun W => Tryd.stringslite_Index_one s 47 W)
    have HI := Lib.hid hi
    generalize (brk (L s)).1 = p at *
    generalize (brk (L s)).2.1 = q at *
    have hp : p.length < s.size := by omega
    clear hi hl hf hlen e1 e2 h
    have q0 : (0 : Int) ≤ (p.length : Int) := by omega
    have q1 : (p.length : Int) ≤ (s.size : Int) := by omega
    have q2 : IntKind.i64.wrap ((p.length : Int) + 1) = (p.length : Int) + 1 := IntWalk.i64_in _ (by omega)
    have q3 : (0 : Int) ≤ (p.length : Int) + 1 := by omega
    have q4 : (p.length : Int) + 1 ≤ (s.size : Int) := by omega
    have q5 : ((p.length : Int) + 1).toNat = p.length + 1 := by omega
    go_enter Tryd.func61, Tryd.ntmps61
    go_wp2_with fail
    refine (C.out _).mono ?_
    rintro e w' ⟨rfl, rfl⟩
    have hi2 : Lib.indexByte s.data.toList 47 = (p.length : Int) := HI.out
    rw [hi2]
    clear hi2
    go_wp2
    go_quiet (fail)
    go_wp2
    go_ret3
    refine ⟨?_, _, rfl⟩
    rw [← E1.out, ← E2.out]
    rfl
  · have h' : (brk (L s)).2.2 = false := by simpa using h
    have hn := brk_not (L s) h'
    rw [h'] at hi ⊢
    simp only [Bool.false_eq_true, if_false] at hi
    rw [hn.1, hn.2, B_L]
    have C := Lib.hid (fun W => Tryd.stringslite_Index_one s 47 W)
    have HI := Lib.hid hi
    clear hi hl h h' hn
    go_enter Tryd.func61, Tryd.ntmps61
    go_wp2_with fail
    refine (C.out _).mono ?_
    rintro e w' ⟨rfl, rfl⟩
    have hi2 : Lib.indexByte s.data.toList 47 = -1 := HI.out
    rw [hi2]
    clear hi2
    go_wp2
    go_ret3
    exact ⟨rfl, 0, rfl⟩

set_option maxRecDepth 100000 in
set_option maxHeartbeats 400000 in
theorem cut_any (s : ByteArray) (w : World) (hs : s.size ≤ maxLen) :
    Calls Tryd.prog 58 #[.string s, .string ⟨#[47]⟩] w fun e w' => e = .returned (.tuple #[.string (B (brk (L s)).1), .string (B (brk (L s)).2.1), .bool (brk (L s)).2.2]) ∧ ∃ m, w' = w.drewN m := by
  have C := Lib.hid (fun W => liteCut_any s W hs)
  go_enter Tryd.func58, Tryd.ntmps58
  go_wp2_with fail
  refine (C.out _).mono ?_
  rintro e w' ⟨rfl, m, rfl⟩
  go_wp2
  go_ret3
  exact ⟨rfl, m, rfl⟩

attribute [local go_sem] Oper.semAt_some

/-- What is left when k names have come, and whether there is more. -/
def Left (r0 : List UInt8) (pre : List (List UInt8)) (more : Bool) (r : List UInt8) : Prop := fields r0 = pre ++ (if more then fields r else []) ∧ r.length ≤ r0.length

theorem left_step {r0 r : List UInt8} {pre : List (List UInt8)} (h : Left r0 pre true r) : Left r0 (pre ++ [(brk r).1]) (brk r).2.2 (brk r).2.1 ∧ pre ++ [(brk r).1] <+: fields r0 ∧ ((brk r).2.2 = true → (brk r).2.1.length < r.length) := by
  have h1 := h.1
  simp only [if_true] at h1
  rw [fields_brk r] at h1
  have hl := brk_len r
  refine ⟨⟨?_, ?_⟩, ?_, hl.2⟩
  · rw [h1, List.append_assoc]; rfl
  · have := h.2
    omega
  · rw [h1]
    exact ⟨_, by rw [List.append_assoc]; rfl⟩

def leftM (Bs : Nat) (m : Value) (wr : World) : Nat :=
  match m with
  | .bool true => (match wr.cell? ⟨Bs, 0, none⟩ with | some (.string t) => t.size | _ => 0)
  | _ => 0
theorem leftM_true {Bs : Nat} {t : TypeId} {wr : World} {r : List UInt8} (h : Boxed wr Bs t (.string (B (47 :: r)))) : leftM Bs (.bool true) wr = r.length + 1 := by
  unfold leftM
  simp only [h.cell, size_B, List.length_cons]
theorem leftM_false {Bs : Nat} {wr : World} : leftM Bs (.bool false) wr = 0 := rfl
theorem callsIn_w {F : Fence} (HW : Hid (F = Fence.wide)) {n : Nat} {P : Program} {f : FuncId} {args : Array Value} {w : World} {R : Ending → World → Prop} (h : Calls P f args w R) : CallsIn F n P f args w R := by
  have e := HW.out
  subst e
  exact callsIn_wide.2 h

theorem fn_w {F : Fence} (HW : Hid (F = Fence.wide)) (f : FuncId) : F.fn f := by
  have e := HW.out
  subst e
  trivial

theorem grown_twice (W : World) (B m : Nat) (u v : Value) : W.grownBy (((W.drewN m).setCell ⟨B, 0, none⟩ u).setCell ⟨B, 0, none⟩ v) (some B) := by
  have h1 := grownBy_setCell' (W.drewN m) B u
  have h2 := grownBy_setCell' ((W.drewN m).setCell ⟨B, 0, none⟩ u) B v
  exact ⟨h2.os.trans h1.os, h2.tape.trans h1.tape, h2.output.trans h1.output, Nat.le_trans h1.size h2.size, fun k hk hne => (h2.block k (Nat.lt_of_lt_of_le hk h1.size) hne).trans (h1.block k hk hne)⟩

set_option maxRecDepth 100000 in
set_option maxHeartbeats 1000000 in
theorem each1_in (F : Fence) (n : Nat) (HW : Hid (F = Fence.wide)) (h8 : F.fn 57) (hro : F.round = none) (hn : 1 ≤ n) (l Bs : Nat) (r0 : List UInt8) (hr : r0.length ≤ 1048576) (J Jx : List (List UInt8) → World → Prop)
    (hJ : ∀ s X Y, J s X → TurnsBox Bs 9 X Y → J s Y) (hJx : ∀ s X Y, Jx s X → TurnsBox Bs 9 X Y → Jx s Y)
    (hY : ∀ pre x W, J pre W → pre ++ [x] <+: fields r0 → YieldAt F (n - 1) Tryd.prog l #[.string (B x)] W fun e W' =>
      (e = .returned (.bool true) ∧ J (pre ++ [x]) W' ∧ KeptBox Bs 9 W W') ∨ (e = .returned (.bool false) ∧ Jx (pre ++ [x]) W'))
    (W : World) (hBs : Boxed W Bs 9 (.string (B (47 :: r0)))) (hne : r0 ≠ []) (h0 : J [] W) :
    CallsIn F n Tryd.prog 57 #[.func (.yield l) #[] #[], .pointer (some ⟨Bs, 0, none⟩)] W fun e W' => (∃ v, e = .returned v) ∧
      ((∃ ys, ys = fields r0 ∧ J ys W') ∨ (∃ pre, pre <+: fields r0 ∧ Jx pre W')) := by
  have hc0 := hBs.cell
  have t0 : ((B (47 :: r0)).toList == [47]) = false := by
    rw [toList_L, L_B]
    simp; exact hne
  refine callsIn_of_wp Tryd.func57 rfl h8 ?_ hro
  simp only [Tryd.ntmps57, List.size_toArray, List.length_cons, List.length_nil, Nat.reduceAdd, Nat.reduceSub, Array.replicate_succ, Array.replicate_zero, List.push_toArray, List.append_toArray, List.nil_append, List.cons_append]
  gi_wp2
  gi_loopw [3] (fun m wr => ∃ (pre : List (List UInt8)) (more : Bool) (r : List UInt8), m = .bool more ∧ Left r0 pre more r ∧ J pre wr ∧ Boxed wr Bs 9 (.string (B (47 :: r))))
    (fun m wr => leftM Bs m wr)
  case atStart => exact ⟨[], true, r0, rfl, ⟨rfl, Nat.le_refl _⟩, h0, hBs⟩
  case round =>
    obtain ⟨pre, more, r, rfl, hL, hJs, hnx⟩ := hrel
    have hcx := hnx.cell
    have hfx := hnx.frozen
    cases more with
    | false =>
      gi_wp2
      go_end0
      refine ⟨⟨_, rfl⟩, .inl ⟨pre, ?_, hJs⟩⟩
      have := hL.1
      simp at this
      exact this.symm
    | true =>
      obtain ⟨hL2, hlen, hdec⟩ := left_step hL
      have hr2 := hL.2
      have ET := Lib.hid (show (B (47 :: r)).extract 1 (B (47 :: r)).size = B r by rw [ex_rest, L_B]; rfl)
      have hsz : (1 : Int) ≤ ((B (47 :: r)).size : Int) := by rw [size_B, List.length_cons]; omega
      gi_wp2_with fail
      refine ⟨fn_w HW _, ?_⟩
      rw [ET.out]
      refine (callsIn_w HW (cut_any (B r) _ (by rw [size_B]; unfold maxLen; omega))).mono ?_
      rintro e w' ⟨rfl, m, rfl⟩
      rw [L_B]
      have hq : (brk r).2.1.length ≤ r.length := by have := (brk_len r).1; omega
      have EP := Lib.hid (show B [47] ++ B (brk r).2.1 = B (47 :: (brk r).2.1) by rw [B_append]; rfl)
      generalize (brk r).1 = x at *
      generalize (brk r).2.1 = q at *
      generalize (brk r).2.2 = mo at *
      have hb2 : Boxed (wr.drewN m) Bs 9 (.string (B (47 :: r))) := hnx
      have hc2 := hb2.cell
      have hf2 := hb2.frozen
      have hz : (⟨#[47]⟩ : ByteArray).size + (B q).size ≤ 9223372036854775807 := by
        have : (⟨#[47]⟩ : ByteArray).size = 1 := rfl
        rw [this, size_B]; omega
      have hB3 : Boxed (((wr.drewN m).setCell ⟨Bs, 0, none⟩ (.string (B q))).setCell ⟨Bs, 0, none⟩ (.string (⟨#[47]⟩ ++ B q))) Bs 9 (.string (⟨#[47]⟩ ++ B q)) := (hb2.set _).set _
      have hJ3 := hJ pre wr _ hJs ⟨grown_twice wr Bs m (.string (B q)) (.string (⟨#[47]⟩ ++ B q)), _, hnx⟩
      obtain ⟨fn, tmps, assign, body, hy, hR⟩ := hY pre x _ hJ3 hlen
      have HB3 := Lib.hid hB3
      clear hB3 hJ3 hJs
      gi_wp2
      refine hR.mono ?_
      rintro e W3 (⟨rfl, hJ4, hk4⟩ | ⟨rfl, hJx4⟩)
      · have hB4 : Boxed W3 Bs 9 (.string (B (47 :: q))) := by
          have h5 := hk4 _ HB3.out
          rw [show (⟨#[47]⟩ ++ B q : ByteArray) = B (47 :: q) from EP.out] at h5
          exact h5
        gi_wp2
        go_roundw
        case rel => exact ⟨pre ++ [x], mo, q, rfl, hL2, hJ4, hB4⟩
        case measure =>
          rw [leftM_true hnx]
          cases mo with
          | false => rw [leftM_false]; omega
          | true => rw [leftM_true hB4]; have := hdec rfl; omega
      · gi_wp2
        refine bodyPost_ret (results_none rfl _ _ _) rfl ?_
        refine ⟨⟨_, rfl⟩, .inr ⟨pre ++ [x], ?_, hJx4⟩⟩
        rw [hL2.1]
        exact List.prefix_append _ _

set_option maxRecDepth 100000 in
set_option maxHeartbeats 1000000 in
theorem each_in (F : Fence) (n : Nat) (h6 : F.fn 53) (hro : F.round = none) (s : ByteArray) (w : World) :
    CallsIn F n Tryd.prog 53 #[.string s] w fun e w' => e = .returned (.func (.func 57) #[] #[.pointer (some ⟨w.heap.size, 0, none⟩)]) ∧ w.alloc (.cells #[.string s] 9) = w' := by
  refine callsIn_of_wp Tryd.func53 rfl h6 ?_ hro
  simp only [Tryd.ntmps53, List.size_toArray, List.length_cons, List.length_nil, Nat.reduceAdd, Nat.reduceSub, Array.replicate_succ, Array.replicate_zero, List.push_toArray, List.append_toArray, List.nil_append, List.cons_append]
  gi_wp2
  go_ret
  exact ⟨rfl, rfl⟩

set_option maxRecDepth 100000 in
set_option maxHeartbeats 1000000 in
/-- The root's path has no names. -/
theorem each1_root (F : Fence) (n : Nat) (h8 : F.fn 57) (hro : F.round = none) (l Bs : Nat) (J : List (List UInt8) → World → Prop) (W : World) (hBs : Boxed W Bs 9 (.string ⟨#[47]⟩)) (h0 : J [] W) :
    CallsIn F n Tryd.prog 57 #[.func (.yield l) #[] #[], .pointer (some ⟨Bs, 0, none⟩)] W fun e W' => (∃ v, e = .returned v) ∧ J [] W' := by
  have hc0 := hBs.cell
  refine callsIn_of_wp Tryd.func57 rfl h8 ?_ hro
  simp only [Tryd.ntmps57, List.size_toArray, List.length_cons, List.length_nil, Nat.reduceAdd, Nat.reduceSub, Array.replicate_succ, Array.replicate_zero, List.push_toArray, List.append_toArray, List.nil_append, List.cons_append]
  gi_wp2
  gi_loopw [3] (fun m wr => m = .bool false ∧ J [] wr) (fun _ _ => 0)
  case atStart => exact ⟨rfl, h0⟩
  case round =>
    obtain ⟨rfl, hJs⟩ := hrel
    gi_wp2
    go_end0
    exact ⟨⟨_, rfl⟩, hJs⟩

theorem each_stops (F : Fence) (n : Nat) (HW : Hid (F = Fence.wide)) (hro : F.round = none) (hn : 1 ≤ n) (Bs : Nat) (l : List UInt8) (r : List UInt8) (hl : l = 47 :: r) (hr : l.length ≤ 1048576) (w : World) (hBs : Boxed w Bs 9 (.string (B l))) :
    SeqRel F n Tryd.prog 57 #[.pointer (some ⟨Bs, 0, none⟩)] (fun x : List UInt8 => #[Value.string (B x)]) (TurnsBox Bs 9) (KeptBox Bs 9) (fun ys => ys = namesL l)
      (fun pre => pre <+: namesL l) (fun pre x => pre ++ [x] <+: namesL l) w := fun k J Jx W hW hJ hJx hY h0 => by
  have hB := (hW.block Bs hBs.lt).trans hBs
  subst hl
  by_cases h : r = []
  · subst h
    exact (each1_root F n (fn_w HW _) hro k Bs J W hB h0).mono fun e W' ⟨he, hj⟩ => ⟨he, .inl ⟨[], rfl, hj⟩⟩
  · have e : namesL (47 :: r) = fields r := by
      unfold namesL
      rw [if_neg (by simpa using h)]
      rfl
    rw [e] at hY ⊢
    exact each1_in F n HW (fn_w HW _) hro hn k Bs r (by simp at hr; omega) J Jx hJ hJx hY W hB h h0
end Go.Proofs.YtfdclifdemajfaaDoor.Path
