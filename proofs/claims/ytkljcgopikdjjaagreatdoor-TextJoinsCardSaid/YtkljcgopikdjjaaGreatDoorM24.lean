/- Layer 18 (tree): Copy. -/
import Derived.Test.YtkljcgopikdjjaaGreatDoorM07
import Derived.Test.YtkljcgopikdjjaaGreatDoorM03
import Derived.BigRegion
import Derived.Deep.RegionWith
import Derived.Maps.RangeWalk
import Derived.Shelf.SlMaps.Clone
import Derived.Test.YtkljcgopikdjjaaGreatDoorM09
set_option linter.unusedVariables false
set_option linter.unusedSimpArgs false
set_option maxRecDepth 100000
section
namespace Go.Proofs.YtkljcgopikdjjaaGreatDoor.Tr
open Go.RowKit Go.Shelf Go.Maps Oct Path
variable {E : TL} {room q : Nat} {S : T}
structure FreshAt (w w' : World) (k p a b : Nat) : Prop where
 nd : SBox w' p 336 #[.int .u8 k, .int .i64 (k / 2 : Nat), .int .u32 0, .map (some a), .map (some b), .int .i64 0, .int .u32 0]
 ent : VMap w' 9 a 0 (fun _ => none)
 pg : VMap w' 3 b 0 (fun _ => none)
 lo : w.heap.size ≤ p ∧ w.heap.size ≤ a ∧ w.heap.size ≤ b
 ne : a ≠ b
 bel : Below w.heap.size w w'
theorem fresh_any (k : Nat) (hk : k = 1 ∨ k = 2) (w : World) :
   Calls Tryz.prog 171 #[.int .u8 k] w fun e w' => ∃ p a b, e = .returned (.pointer (some ⟨p, 0, none⟩)) ∧ FreshAt w w' k p a b := by
 have hB := (((Below.refl _ w).alloc (Nat.le_refl _) (.map #[] 0)).alloc (by simp) (.map #[] 0)).alloc (by simp; omega) (.cells #[.int .u8 k, .int .i64 (k / 2 : Nat), .int .u32 0, .map (some w.heap.size), .map (some (w.heap.size + 1)), .int .i64 0, .int .u32 0] 336);have hN := SBox.new ((w.alloc (.map #[] 0)).alloc (.map #[] 0)) 336 #[.int .u8 k, .int .i64 (k / 2 : Nat), .int .u32 0, .map (some w.heap.size), .map (some (w.heap.size + 1)), .int .i64 0, .int .u32 0];have hA := ((VMap.new w 9).alloc (.map #[] 0)).alloc (.cells #[.int .u8 k, .int .i64 (k / 2 : Nat), .int .u32 0, .map (some w.heap.size), .map (some (w.heap.size + 1)), .int .i64 0, .int .u32 0] 336);have hM := (VMap.new (w.alloc (.map #[] 0)) 3).alloc (.cells #[.int .u8 k, .int .i64 (k / 2 : Nat), .int .u32 0, .map (some w.heap.size), .map (some (w.heap.size + 1)), .int .i64 0, .int .u32 0] 336);simp only [World.size_alloc] at hN hM;have F := Lib.hid (⟨hN, hA, hM, by omega, by omega, hB⟩ : FreshAt w _ k _ _ _);clear hB hN hA hM;have hmm := @run_makeMap Tryz.prog
 rcases hk with rfl | rfl
 · go_enter Tryz.func171, Tryz.ntmps171
   go_wp2
   go_ret;exact ⟨_, _, _, rfl, F.out⟩
 · go_enter Tryz.func171, Tryz.ntmps171
   go_wp2
   go_ret;exact ⟨_, _, _, rfl, F.out⟩
def updN (f : Nat → Nat) (x v : Nat) : Nat → Nat := fun y => if y = x then v else f y
def TL.add (E : TL) (x p a b : Nat) : TL := ⟨E.t, E.m, updN E.P x p, updN E.A x a, updN E.B x b, fun c => E.O c ∨ c = p ∨ c = a ∨ c = b⟩
theorem natF_some {kd : IntKind} {g : Nat → Option Value} {k : Lit} (h : (natF kd g k).isSome = true) : ∃ y : Nat, k = .int kd y ∧ (g y).isSome = true := by
 cases k with
 | int k z =>
   unfold natF at h
   dsimp only at h
   by_cases hz : k = kd ∧ 0 ≤ z
   · rw [if_pos hz] at h
     exact ⟨z.toNat, by rw [hz.1, Int.toNat_of_nonneg hz.2], h⟩
   · rw [if_neg hz] at h; cases h
 | _ => cases h
theorem pageB_nil (k : Nat) : pageB [] k = zero64 := by
 unfold pageB zero64;rw [List.eq_replicate_iff];refine ⟨by simp, fun x hx => ?_⟩;obtain ⟨i, _, rfl⟩ := List.mem_map.1 hx
 rfl
theorem pgOk_nil : PgOk [] (fun _ => none) := ⟨fun k v h => (by cases h), fun k _ => pageB_nil k⟩
theorem TreeAt.born {W0 W : World} (h0 : TreeAt W0 E room q S) {x k p a b : Nat} (F : FreshAt W0 W k p a b) (hk : k = 1 ∨ k = 2) (hx : (S.n x).kind = 0) (hx1 : 1 ≤ x) (hxr : x ≤ room) (hL : ∀ s, S.l x s = 0) (hr : ∀ y, (S.n y).kind ≠ 0 → 1 ≤ y ∧ y ≤ room) :
   ∃ W', (Instr.mapUpdate 237 (.map (some E.m)) (.int .u32 x) (.pointer (some ⟨p, 0, none⟩))).run Tryz.prog W = .ok () W' ∧ TreeAt W' (E.add x p a b) room q ⟨setN S.n x ⟨k, k / 2, 0, 0, []⟩, S.l⟩ ∧ W.mapTurned W' E.m := by
 have h := h0.later F.bel;have hrm := h0.rm;obtain ⟨W', hrun, h1, h2⟩ := h.map.put kU32 Tryz.underlying237 (by unfold maxLen; omega) (key32 (x := x) (by omega)) (.pointer (some ⟨p, 0, none⟩));refine ⟨W', hrun, ?_, h2⟩;have o := h.own;obtain ⟨es, clk, hmap⟩ := h.map.isMap;have k0 : k ≠ 0 := by omega
 have hks : ∀ y, (setN S.n x ⟨k, k / 2, 0, 0, []⟩ y).kind ≠ 0 → y ≠ x → (S.n y).kind ≠ 0 := fun y hy e => by rw [setN_other _ _ e] at hy; exact hy
 have old : ∀ y, (S.n y).kind ≠ 0 → E.P y < W0.heap.size ∧ E.A y < W0.heap.size ∧ E.B y < W0.heap.size := fun y hy => by
   obtain ⟨g, _, g2⟩ := h0.pg y hy;exact ⟨(h0.nd y hy).lt, (h0.ent y hy).lt, g2.lt⟩
 have hlo := F.lo;have mlt := h0.map.lt;have tlt := h0.top.lt;have noM : ∀ {c : Nat} {t : TypeId} {cs : Array Value}, SBox W c t cs → c ≠ E.m := fun hc e => by unfold SBox at hc; rw [e, hmap] at hc; cases hc
 refine { top := ?_, map := ?_, nd := ?_, ent := ?_, pg := ?_, own := ?_, iP := ?_, iA := ?_, iB := ?_, iAB := ?_, iM := ?_, rm := h.rm, q8 := h.q8, lk := ?_, dt := ?_ }
 · exact (turned_block h2 (noM h.top)).trans h.top
 · rw [natF_put] at h1
   have ee : (fun y => if y = x then some (Value.pointer (some ⟨p, 0, none⟩)) else nodeF E S y) = nodeF (E.add x p a b) ⟨setN S.n x ⟨k, k / 2, 0, 0, []⟩, S.l⟩ := by
     funext y
     simp only [nodeF, TL.add, updN, ptr]
     by_cases e : y = x
     · subst e; simp [setN, k0]
     · simp [setN, e]
   rw [ee] at h1
   have := h1.tight kU32 ((List.range 256).map fun i => Lit.int .u32 ((i + 1 : Nat) : Int)) (fun kl _ hs => by
     obtain ⟨y, rfl, hy⟩ := natF_some hs
     have hy2 : (setN S.n x ⟨k, k / 2, 0, 0, []⟩ y).kind ≠ 0 := fun e => by
       simp only [nodeF] at hy;rw [if_pos e] at hy;cases hy
     have hy3 : 1 ≤ y ∧ y ≤ room := by
       by_cases e : y = x
       · subst e; exact ⟨hx1, hxr⟩
       · exact hr y (hks y hy2 e)
     exact List.mem_map.2 ⟨y - 1, by simp; omega, by rw [show y - 1 + 1 = y by omega]⟩)
   have hl : ((List.range 256).map fun i => Lit.int .u32 ((i + 1 : Nat) : Int)).length = 256 := by simp
   rw [hl] at this;exact this
 · intro y hy
   simp only [TL.add, updN]
   by_cases e : y = x
   · subst e
     simp only [setN_same, if_true];exact (turned_block h2 (noM F.nd)).trans F.nd
   · simp only [setN_other _ _ e, if_neg e]
     have hy' := hks y hy e;exact (turned_block h2 (noM (h.nd y hy'))).trans (h.nd y hy')
 · intro y hy
   simp only [TL.add, updN]
   by_cases e : y = x
   · subst e
     simp only [if_true]
     have ee : strF (entF (S.l y)) = fun _ => none := by
       funext kl
       cases kl with
       | string s => simp [strF, entF, hL]
       | _ => rfl
     rw [ee];exact (F.ent.mono (Nat.zero_le _)).block (turned_block h2 (by omega))
   · simp only [if_neg e]
     have hy' := hks y hy e;exact (h.ent y hy').block (turned_block h2 (h.iM y hy').2.1)
 · intro y hy
   simp only [TL.add, updN]
   by_cases e : y = x
   · subst e
     simp only [setN_same, if_true];refine ⟨fun _ => none, pgOk_nil, ?_⟩
     have ee : natF .i64 (pgF fun _ => none) = fun _ => none := by
       funext kl
       cases kl with
       | int k z => simp [natF, pgF]
       | _ => rfl
     rw [ee];exact (F.pg.mono (by omega)).block (turned_block h2 (by omega))
   · simp only [setN_other _ _ e, if_neg e]
     have hy' := hks y hy e;obtain ⟨g, g1, g2⟩ := h.pg y hy';exact ⟨g, g1, g2.block (turned_block h2 (h.iM y hy').2.2)⟩
 · refine ⟨.inl o.1, .inl o.2.1, fun y hy => ?_⟩
   simp only [TL.add, updN]
   by_cases e : y = x
   · subst e; simp
   · simp only [if_neg e]
     have := o.2.2 y (hks y hy e);exact ⟨.inl this.1, .inl this.2.1, .inl this.2.2⟩
 · intro u v hu hv
   simp only [TL.add, updN]
   by_cases e : u = x <;> by_cases f : v = x
   · intro _; rw [e, f]
   · rw [if_pos e, if_neg f]; intro q; have := old v (hks v hv f); omega
   · rw [if_neg e, if_pos f]; intro q; have := old u (hks u hu e); omega
   · rw [if_neg e, if_neg f]; exact h.iP u v (hks u hu e) (hks v hv f)
 · intro u v hu hv
   simp only [TL.add, updN]
   by_cases e : u = x <;> by_cases f : v = x
   · intro _; rw [e, f]
   · rw [if_pos e, if_neg f]; intro q; have := old v (hks v hv f); omega
   · rw [if_neg e, if_pos f]; intro q; have := old u (hks u hu e); omega
   · rw [if_neg e, if_neg f]; exact h.iA u v (hks u hu e) (hks v hv f)
 · intro u v hu hv
   simp only [TL.add, updN]
   by_cases e : u = x <;> by_cases f : v = x
   · intro _; rw [e, f]
   · rw [if_pos e, if_neg f]; intro q; have := old v (hks v hv f); omega
   · rw [if_neg e, if_pos f]; intro q; have := old u (hks u hu e); omega
   · rw [if_neg e, if_neg f]; exact h.iB u v (hks u hu e) (hks v hv f)
 · intro u v hu hv
   simp only [TL.add, updN];have hne := F.ne
   by_cases e : u = x <;> by_cases f : v = x
   · rw [if_pos e, if_pos f]; exact hne
   · rw [if_pos e, if_neg f]; intro q; have := old v (hks v hv f); omega
   · rw [if_neg e, if_pos f]; intro q; have := old u (hks u hu e); omega
   · rw [if_neg e, if_neg f]; exact h.iAB u v (hks u hu e) (hks v hv f)
 · intro u hu
   simp only [TL.add, updN]
   by_cases e : u = x
   · simp only [if_pos e]; exact ⟨by omega, by omega, by omega⟩
   · simp only [if_neg e]; exact h.iM u (hks u hu e)
 · intro y
   by_cases e : y = x
   · subst e; simp only [setN_same]; exact ⟨by rcases hk with rfl | rfl <;> decide, by decide⟩
   · simp only [setN_other _ _ e]; exact h.lk y
 · intro y
   by_cases e : y = x
   · subst e; simp only [setN_same]; decide
   · simp only [setN_other _ _ e]; exact h.dt y
end Go.Proofs.YtkljcgopikdjjaaGreatDoor.Tr
end
section
namespace Go.Proofs.YtkljcgopikdjjaaGreatDoor.Tr
open Go.RowKit Go.Shelf Go.Maps Oct Path
variable {E : TL} {room q : Nat} {S : T}
def emptyT : T := ⟨fun _ => Nd.no, fun _ _ => 0⟩
def rootT : T := ⟨setN (fun _ => Nd.no) 1 ⟨2, 1, 0, 0, []⟩, fun _ _ => 0⟩
theorem empty_at (w : World) (room : Nat) (hr : room ≤ 256) : TreeAt ((w.alloc (.map #[] 0)).alloc (.cells #[.int .u32 room, .map (some w.heap.size)] 239)) ⟨w.heap.size + 1, w.heap.size, id, id, id, fun c => w.heap.size ≤ c⟩ room 0 emptyT := by
 have hno : ∀ x, ¬ (emptyT.n x).kind ≠ 0 := fun x h => h rfl;refine { top := ?_, map := ?_, nd := fun x h => absurd h (hno x), ent := fun x h => absurd h (hno x), pg := fun x h => absurd h (hno x), own := ⟨by show w.heap.size ≤ w.heap.size + 1; omega, Nat.le_refl _, fun x h => absurd h (hno x)⟩, iP := fun x _ h => absurd h (hno x), iA := fun x _ h => absurd h (hno x), iB := fun x _ h => absurd h (hno x), iAB := fun x _ h => absurd h (hno x), iM := fun x h => absurd h (hno x), rm := hr, q8 := by omega, lk := fun x => ⟨by show (0 : Nat) ≤ _; omega, by show (0 : Nat) ≤ _; omega⟩, dt := fun x => by show (0 : Nat) ≤ _; omega }
 · simpa using SBox.new (w.alloc (.map #[] 0)) 239 _
 · have e : natF .u32 (nodeF ⟨w.heap.size + 1, w.heap.size, id, id, id, fun c => w.heap.size ≤ c⟩ emptyT) = fun _ => none := by
     funext k
     cases k with
     | int k z => simp [natF, nodeF, emptyT, Nd.no]
     | _ => rfl
   rw [e];exact ((VMap.new w _).alloc _).mono (by omega)
set_option maxHeartbeats 4000000 in
theorem new_any (n : Nat) (w : World) (h2 : 2 ≤ n) (h256 : n ≤ 256) :
   Calls Tryz.prog 133 #[.int .i64 n] w fun e w' => ∃ E : TL, e = .returned (.tuple #[.pointer (some ⟨E.t, 0, none⟩), .int .i64 0]) ∧ TreeAt w' E n 0 rootT ∧ (∀ c, E.O c → w.heap.size ≤ c) ∧ Below w.heap.size w w' := by
 have HE := Lib.hid (empty_at w n h256);have BE := Lib.hid (((Below.refl _ w).alloc (Nat.le_refl _) (.map #[] 0)).alloc (by simp) (.cells #[.int .u32 n, .map (some w.heap.size)] 239));have hc := HE.out.top;have C0 := hc.cell 0;have C1 := hc.cell 1;simp only [List.getElem?_toArray, List.getElem?_cons_zero, List.getElem?_cons_succ] at C0 C1;have Cl := hc.lt;clear hc;have w1 : IntKind.u32.wrap (n : Int) = n := by simp [IntKind.wrap, IntKind.bits, IntKind.signed]; omega
 have hmm := @run_makeMap Tryz.prog
 go_enter Tryz.func133, Tryz.ntmps133
 go_wp2_with fail
 go_region_with ((first
   | (refine Calls.mono (fresh_any 2 (.inr rfl) _) ?_
      rintro e w2 ⟨p, a, b, rfl, F⟩;have hT0 := HE.out.drew;obtain ⟨W2, hrun, hT2, hm⟩ := hT0.born (x := 1) F (.inr rfl) rfl (by omega) (by omega) (fun s => rfl) (fun y hy => absurd rfl hy);have hrun2 : (Instr.mapUpdate 237 (.map (some w.heap.size)) (.int .u32 1) (.pointer (some ⟨p, 0, none⟩))).run Tryz.prog w2 = .ok () W2 := hrun;clear hrun;have FB := Lib.hid F;have FT := Lib.hid hT2;have FM := Lib.hid hm;have cc := (hT0.later F.bel).top.cell 1;simp only [List.getElem?_toArray, List.getElem?_cons_zero, List.getElem?_cons_succ] at cc;have cl := (hT0.later F.bel).top.lt;clear F hT2 hm hT0)))
 all_goals
   go_wp2_with fail;go_ret2;have hlo := FB.out.lo;have tc := Tch.turned (O := fun c => w.heap.size ≤ c) FM.out (Nat.le_refl _);refine ⟨_, rfl, FT.out, fun c hc => ?_, (BE.out.drew.trans (FB.out.bel.mono (by simp; omega))).trans (tc.below fun i hi => ⟨?_, ?_⟩)⟩
   · simp at hlo
     rcases hc with hc | rfl | rfl | rfl
     · exact hc
     all_goals omega
   · have := FB.out.bel.size
     simp at this
     omega
   · show ¬ w.heap.size ≤ i
     omega
end Go.Proofs.YtkljcgopikdjjaaGreatDoor.Tr
end
section
namespace Go.Proofs.YtkljcgopikdjjaaGreatDoor.Tr
open Go.RowKit Go.Shelf Go.Maps Oct Path
variable {E : TL} {room q : Nat} {S : T}
structure NodeAt (w w' : World) (v : Nd) (l : Nm → Nat) (q p a b : Nat) : Prop where
 nd : SBox w' p 336 #[.int .u8 v.kind, .int .i64 v.links, .int .u32 v.data.length, .map (some a), .map (some b), .int .i64 v.held, .int .u32 v.up]
 ent : VMap w' 9 a q (strF (entF l))
 pg : ∃ g, PgOk v.data g ∧ VMap w' 3 b 36 (natF .i64 (pgF g))
 lo : w.heap.size ≤ p ∧ w.heap.size ≤ a ∧ w.heap.size ≤ b
 ne : a ≠ b
 bel : Below w.heap.size w w'
theorem TreeAt.join {W0 W : World} (h0 : TreeAt W0 E room q S) {x p a b : Nat} {v : Nd} (F : NodeAt W0 W v (S.l x) q p a b) (k0 : v.kind ≠ 0) (hlk : v.links ≤ 100000 ∧ v.held ≤ 100000) (hdt : v.data.length ≤ 2304) (hx1 : 1 ≤ x) (hxr : x ≤ room) (hr : ∀ y, (S.n y).kind ≠ 0 → 1 ≤ y ∧ y ≤ room) :
   ∃ W', (Instr.mapUpdate 237 (.map (some E.m)) (.int .u32 x) (.pointer (some ⟨p, 0, none⟩))).run Tryz.prog W = .ok () W' ∧ TreeAt W' (E.add x p a b) room q ⟨setN S.n x v, S.l⟩ ∧ W.mapTurned W' E.m := by
 have h := h0.later F.bel;have hrm := h0.rm;obtain ⟨W', hrun, h1, h2⟩ := h.map.put kU32 Tryz.underlying237 (by unfold maxLen; omega) (key32 (x := x) (by omega)) (.pointer (some ⟨p, 0, none⟩));refine ⟨W', hrun, ?_, h2⟩;have o := h.own;obtain ⟨es, clk, hmap⟩ := h.map.isMap;have hks : ∀ y, (setN S.n x v y).kind ≠ 0 → y ≠ x → (S.n y).kind ≠ 0 := fun y hy e => by rw [setN_other _ _ e] at hy; exact hy
 have old : ∀ y, (S.n y).kind ≠ 0 → E.P y < W0.heap.size ∧ E.A y < W0.heap.size ∧ E.B y < W0.heap.size := fun y hy => by
   obtain ⟨g, _, g2⟩ := h0.pg y hy;exact ⟨(h0.nd y hy).lt, (h0.ent y hy).lt, g2.lt⟩
 have hlo := F.lo;have mlt := h0.map.lt;have tlt := h0.top.lt;have noM : ∀ {c : Nat} {t : TypeId} {cs : Array Value}, SBox W c t cs → c ≠ E.m := fun hc e => by unfold SBox at hc; rw [e, hmap] at hc; cases hc
 refine { top := ?_, map := ?_, nd := ?_, ent := ?_, pg := ?_, own := ?_, iP := ?_, iA := ?_, iB := ?_, iAB := ?_, iM := ?_, rm := h.rm, q8 := h.q8, lk := ?_, dt := ?_ }
 · exact (turned_block h2 (noM h.top)).trans h.top
 · rw [natF_put] at h1
   have ee : (fun y => if y = x then some (Value.pointer (some ⟨p, 0, none⟩)) else nodeF E S y) = nodeF (E.add x p a b) ⟨setN S.n x v, S.l⟩ := by
     funext y
     simp only [nodeF, TL.add, updN, ptr]
     by_cases e : y = x
     · subst e; simp [setN, k0]
     · simp [setN, e]
   rw [ee] at h1
   have := h1.tight kU32 ((List.range 256).map fun i => Lit.int .u32 ((i + 1 : Nat) : Int)) (fun kl _ hs => by
     obtain ⟨y, rfl, hy⟩ := natF_some hs
     have hy2 : (setN S.n x v y).kind ≠ 0 := fun e => by
       simp only [nodeF] at hy;rw [if_pos e] at hy;cases hy
     have hy3 : 1 ≤ y ∧ y ≤ room := by
       by_cases e : y = x
       · subst e; exact ⟨hx1, hxr⟩
       · exact hr y (hks y hy2 e)
     exact List.mem_map.2 ⟨y - 1, by simp; omega, by rw [show y - 1 + 1 = y by omega]⟩)
   have hl : ((List.range 256).map fun i => Lit.int .u32 ((i + 1 : Nat) : Int)).length = 256 := by simp
   rw [hl] at this;exact this
 · intro y hy
   simp only [TL.add, updN]
   by_cases e : y = x
   · subst e
     simp only [setN_same, if_true];exact (turned_block h2 (noM F.nd)).trans F.nd
   · simp only [setN_other _ _ e, if_neg e]
     have hy' := hks y hy e;exact (turned_block h2 (noM (h.nd y hy'))).trans (h.nd y hy')
 · intro y hy
   simp only [TL.add, updN]
   by_cases e : y = x
   · subst e
     simp only [if_true];exact F.ent.block (turned_block h2 (by omega))
   · simp only [if_neg e]
     have hy' := hks y hy e;exact (h.ent y hy').block (turned_block h2 (h.iM y hy').2.1)
 · intro y hy
   simp only [TL.add, updN]
   by_cases e : y = x
   · subst e
     simp only [setN_same, if_true];obtain ⟨g, g1, g2⟩ := F.pg;exact ⟨g, g1, g2.block (turned_block h2 (by omega))⟩
   · simp only [setN_other _ _ e, if_neg e]
     have hy' := hks y hy e;obtain ⟨g, g1, g2⟩ := h.pg y hy';exact ⟨g, g1, g2.block (turned_block h2 (h.iM y hy').2.2)⟩
 · refine ⟨.inl o.1, .inl o.2.1, fun y hy => ?_⟩
   simp only [TL.add, updN]
   by_cases e : y = x
   · subst e; simp
   · simp only [if_neg e]
     have := o.2.2 y (hks y hy e);exact ⟨.inl this.1, .inl this.2.1, .inl this.2.2⟩
 · intro u v hu hv
   simp only [TL.add, updN]
   by_cases e : u = x <;> by_cases f : v = x
   · intro _; rw [e, f]
   · rw [if_pos e, if_neg f]; intro q; have := old v (hks v hv f); omega
   · rw [if_neg e, if_pos f]; intro q; have := old u (hks u hu e); omega
   · rw [if_neg e, if_neg f]; exact h.iP u v (hks u hu e) (hks v hv f)
 · intro u v hu hv
   simp only [TL.add, updN]
   by_cases e : u = x <;> by_cases f : v = x
   · intro _; rw [e, f]
   · rw [if_pos e, if_neg f]; intro q; have := old v (hks v hv f); omega
   · rw [if_neg e, if_pos f]; intro q; have := old u (hks u hu e); omega
   · rw [if_neg e, if_neg f]; exact h.iA u v (hks u hu e) (hks v hv f)
 · intro u v hu hv
   simp only [TL.add, updN]
   by_cases e : u = x <;> by_cases f : v = x
   · intro _; rw [e, f]
   · rw [if_pos e, if_neg f]; intro q; have := old v (hks v hv f); omega
   · rw [if_neg e, if_pos f]; intro q; have := old u (hks u hu e); omega
   · rw [if_neg e, if_neg f]; exact h.iB u v (hks u hu e) (hks v hv f)
 · intro u v hu hv
   simp only [TL.add, updN];have hne := F.ne
   by_cases e : u = x <;> by_cases f : v = x
   · rw [if_pos e, if_pos f]; exact hne
   · rw [if_pos e, if_neg f]; intro q; have := old v (hks v hv f); omega
   · rw [if_neg e, if_pos f]; intro q; have := old u (hks u hu e); omega
   · rw [if_neg e, if_neg f]; exact h.iAB u v (hks u hu e) (hks v hv f)
 · intro u hu
   simp only [TL.add, updN]
   by_cases e : u = x
   · simp only [if_pos e]; exact ⟨by omega, by omega, by omega⟩
   · simp only [if_neg e]; exact h.iM u (hks u hu e)
 · intro y
   by_cases e : y = x
   · subst e; simp only [setN_same]; exact hlk
   · simp only [setN_other _ _ e]; exact h.lk y
 · intro y
   by_cases e : y = x
   · subst e; simp only [setN_same]; exact hdt
   · simp only [setN_other _ _ e]; exact h.dt y
theorem VMap.clone {W : World} {kt : TypeId} {b nn : Nat} {f : Lit → Option Value} (h : VMap W kt b nn f) : ∃ es clock, W.heap[b]? = some (.map es clock) ∧ VMap (W.alloc (.map es clock)) kt W.heap.size nn f := by
 obtain ⟨D, ⟨es, clock, h1, r⟩, h2⟩ := h;exact ⟨es, clock, h1, D, ⟨es, clock, (MapKept.heap_alloc W _).1, r⟩, h2⟩
set_option maxHeartbeats 2000000 in
theorem clone_s (b : Nat) (es : Array MapEntry) (clock : Nat) (w : World) (hb : w.heap[b]? = some (.map es clock)) :
   Calls Tryz.prog 233 #[.map (some b)] w fun e w' => e = .returned (.map (some w.heap.size)) ∧ w.alloc (.map es clock) = w' := by
 have hq := fun w => run_eql_map_nil_sl (P := Tryz.prog) w 333 _ _ (some b) Tryz.underlying333
 go_enter Tryz.func233, Tryz.ntmps233
 go_wp2
 rw [run_callFunc_extern Tryz.func272 (by kernel_rfl) (by kernel_rfl) (by kernel_rfl) (e := Extern.MapsClone.clone) (by kernel_rfl), run_maps_clone_sl w 333 hb];simp only [Result.andThen];rw [Oper.upon_value]
 go_wp2
 rw [run_typeAssert_map_sl _ 333 _ _ _ _ Tryz.underlying333];simp only [Result.andThen];rw [Oper.upon_value]
 go_wp2
 go_ret;exact ⟨rfl, rfl⟩
set_option maxHeartbeats 2000000 in
theorem clone_i (b : Nat) (es : Array MapEntry) (clock : Nat) (w : World) (hb : w.heap[b]? = some (.map es clock)) :
   Calls Tryz.prog 234 #[.map (some b)] w fun e w' => e = .returned (.map (some w.heap.size)) ∧ w.alloc (.map es clock) = w' := by
 have hq := fun w => run_eql_map_nil_sl (P := Tryz.prog) w 334 _ _ (some b) Tryz.underlying334
 go_enter Tryz.func234, Tryz.ntmps234
 go_wp2
 rw [run_callFunc_extern Tryz.func272 (by kernel_rfl) (by kernel_rfl) (by kernel_rfl) (e := Extern.MapsClone.clone) (by kernel_rfl), run_maps_clone_sl w 334 hb];simp only [Result.andThen];rw [Oper.upon_value]
 go_wp2
 rw [run_typeAssert_map_sl _ 334 _ _ _ _ Tryz.underlying334];simp only [Result.andThen];rw [Oper.upon_value]
 go_wp2
 go_ret;exact ⟨rfl, rfl⟩
end Go.Proofs.YtkljcgopikdjjaaGreatDoor.Tr
end
section
namespace Go.Proofs.YtkljcgopikdjjaaGreatDoor.Tr
open Go.Proofs.YtkljcgopikdjjaaGreatDoor.Tx (wpOp_at)
open Go.RowKit Go.Shelf Go.Maps Oct Path
theorem Below.grown {a b : World} (h : Below a.heap.size a b) : a.grownBy b none := ⟨h.os, h.tape, h.output, h.size, fun i hi _ => h.block i hi⟩
variable {E : TL} {room q : Nat} {S : T}
def partT (S : T) (left : Lit → Bool) : T := ⟨fun x => if left (.int .u32 (x : Int)) then Nd.no else S.n x, S.l⟩
theorem empty_own (w : World) (room q : Nat) (hr : room ≤ 256) (hq : q ≤ 100000) (S : T) (h0 : ∀ x, S.n x = Nd.no) : TreeAt ((w.alloc (.map #[] 0)).alloc (.cells #[.int .u32 room, .map (some w.heap.size)] 239)) ⟨w.heap.size + 1, w.heap.size, id, id, id, fun c => c = w.heap.size ∨ c = w.heap.size + 1⟩ room q S := by
 have h := empty_at w room hr;have hno : ∀ x, ¬ (S.n x).kind ≠ 0 := fun x h => h (by rw [h0]; rfl);refine { top := h.top, map := ?_, nd := fun x h => absurd h (hno x), ent := fun x h => absurd h (hno x), pg := fun x h => absurd h (hno x), own := ⟨.inr rfl, .inl rfl, fun x h => absurd h (hno x)⟩, iP := fun x _ h => absurd h (hno x), iA := fun x _ h => absurd h (hno x), iB := fun x _ h => absurd h (hno x), iAB := fun x _ h => absurd h (hno x), iM := fun x h => absurd h (hno x), rm := hr, q8 := hq, lk := fun x => by rw [h0]; exact ⟨by decide, by decide⟩, dt := fun x => by rw [h0]; decide };have := h.map
 have e : nodeF ⟨w.heap.size + 1, w.heap.size, id, id, id, fun c => c = w.heap.size ∨ c = w.heap.size + 1⟩ S = nodeF ⟨w.heap.size + 1, w.heap.size, id, id, id, fun c => w.heap.size ≤ c⟩ emptyT := by
   funext x
   simp only [nodeF, h0, emptyT]
   rfl
 rw [e];exact this
theorem node_some {z : Int} {v : Value} (h : natF .u32 (nodeF E S) (.int .u32 z) = some v) : ∃ x : Nat, z = x ∧ (S.n x).kind ≠ 0 ∧ v = ptr (E.P x) := by
 unfold natF at h
 dsimp only at h
 by_cases hz : IntKind.u32 = IntKind.u32 ∧ 0 ≤ z
 · rw [if_pos hz] at h
   unfold nodeF at h
   by_cases hk : (S.n z.toNat).kind = 0
   · rw [if_pos hk] at h; cases h
   · rw [if_neg hk] at h
     exact ⟨z.toNat, (Int.toNat_of_nonneg hz.2).symm, hk, (Option.some.inj h).symm⟩
 · rw [if_neg hz] at h; cases h
theorem same_u32 (a k : Nat) : (Lit.int .u32 (a : Int)).sameKey (.int .u32 (k : Int)) = decide (a = k) := by
 unfold Lit.sameKey
 by_cases h : a = k
 · simp [h]
 · simp [h]; omega
theorem part_step (S : T) (left : Lit → Bool) (x : Nat) : (⟨setN (partT S left).n x (S.n x), S.l⟩ : T) = partT S (fun z => left z && !z.sameKey (.int .u32 (x : Int))) := by
 unfold partT setN
 congr 1
 funext y
 simp only [same_u32]
 by_cases e : y = x
 · subst e; simp
 · simp [e]
def nodeC (E : TL) (S : T) (x : Nat) : Array Value := #[.int .u8 (S.n x).kind, .int .i64 (S.n x).links, .int .u32 (S.n x).data.length, .map (some (E.A x)), .map (some (E.B x)), .int .i64 (S.n x).held, .int .u32 (S.n x).up]
theorem setCell_size (w : World) (a : Addr) (v : Value) : (w.setCell a v).heap.size = w.heap.size := by simp
structure CopyRel (w : World) (E : TL) (room q : Nat) (S : T) (E' : TL) (left : Lit → Bool) (wr : World) : Prop where
 tree : TreeAt wr E' room q (partT S left)
 t : E'.t = w.heap.size + 1
 new : ∀ c, E'.O c → w.heap.size ≤ c
 it : ¬ E'.O (w.heap.size + 2)
 bel : Below w.heap.size w wr
set_option maxHeartbeats 8000000 in
theorem copy_any (w : World) (hT : TreeAt w E room q S) (hI : Inv room S) :
   Calls Tryz.prog 172 #[.pointer (some ⟨E.t, 0, none⟩)] w fun e w' => ∃ E' : TL, e = .returned (.pointer (some ⟨E'.t, 0, none⟩)) ∧ TreeAt w' E' room q S ∧ (∀ c, E'.O c → w.heap.size ≤ c) ∧ Below w.heap.size w w' := by
 have HT := Lib.hid hT;have HI := Lib.hid hI;have hY := hT.top;have Y0 := hY.cell 0;have Y1 := hY.cell 1;simp only [List.getElem?_toArray, List.getElem?_cons_zero, List.getElem?_cons_succ] at Y0 Y1;have Yl := hY.lt;clear hY hT hI;have hmm := @run_makeMap Tryz.prog
 go_enter Tryz.func172, Tryz.ntmps172
 obtain ⟨w2, hw2⟩ : ∃ w2, (w.alloc (.map #[] 0)).alloc (.cells #[.int .u32 room, .map (some w.heap.size)] 239) = w2 := ⟨_, rfl⟩;have B2 := Lib.hid (show Below w.heap.size w w2 by rw [← hw2]; exact ((Below.refl _ w).alloc (Nat.le_refl _) _).alloc (by simp) _);have T2 := Lib.hid (HT.out.later B2.out);have SZ2 := Lib.hid (show w2.heap.size = w.heap.size + 2 by rw [← hw2]; simp);have E2 := Lib.hid (show TreeAt w2 ⟨w.heap.size + 1, w.heap.size, id, id, id, fun c => c = w.heap.size ∨ c = w.heap.size + 1⟩ room q (partT S (fun k => true)) by rw [← hw2]; exact empty_own w room q HT.out.rm HT.out.q8 _ (fun x => rfl));obtain ⟨w3, cnt0, left0, hrun, hR0, hl0, hgr, hsz⟩ := T2.out.map.range kU32 Tryz.underlying237;have R0 := Lib.hid hR0;have L0 := Lib.hid hl0;have GR := Lib.hid hgr;have SZ3 := Lib.hid hsz;have hY2 := T2.out.top;have Z0 := hY2.cell 0;have Z1 := hY2.cell 1;simp only [List.getElem?_toArray, List.getElem?_cons_zero, List.getElem?_cons_succ] at Z0 Z1;have Zl := hY2.lt;have HW := Lib.hid hw2;rw [SZ2.out, ← HW.out] at hrun;rw [← HW.out] at Z0 Z1 Zl;clear hY2 hR0 hl0 hgr hsz hw2;go_wp2_with fail;clear hrun Y0 Y1 Yl Z0 Z1 Zl;rw [SZ2.out] at SZ3 R0;have B3 := Lib.hid (B2.out.trans (show Below w.heap.size w2 w3 from ⟨GR.out.os, GR.out.tape, GR.out.output, GR.out.size, fun b hb => GR.out.block b (by have := SZ2.out; omega) (by simp)⟩))
 have P0 : partT S (fun k => true) = partT S left0 := by
   unfold partT
   congr 1
   funext x
   by_cases hk : (S.n x).kind = 0
   · rw [HI.out.no x hk]; simp
   · have := L0.out (.int .u32 (x : Int)) ⟨.int .u32 x, key32 (by have := HI.out.rng x hk; have := HT.out.rm; omega)⟩
     rw [natF_at, nodeF, if_neg hk] at this
     simp at this
     simp [this]
 have START := Lib.hid (show CopyRel w E room q S _ left0 w3 from ⟨by rw [← P0]; exact E2.out.blocks (fun b hb _ => GR.out.block b hb (by simp)), rfl, fun c hc => by rcases hc with rfl | rfl <;> omega, fun hc => by rcases hc with hc | hc <;> omega, B3.out⟩);have R3 := Lib.hid R0.out;clear P0
 go_loopw [4] (fun _ wr => ∃ E' left cnt, VRange wr 36 E.m (w.heap.size + 2) 256 (natF .u32 (nodeF E S)) left cnt ∧ CopyRel w E room q S E' left wr) (fun _ wr => wr.rangeLeft E.m (w.heap.size + 2))
 case atStart => exact ⟨_, left0, cnt0, R3.out, START.out⟩
 case round =>
   clear START R3 B3 GR SZ3 E2 R0 L0;obtain ⟨E', left, cnt, hR, hC⟩ := hrel;have HC := Lib.hid hC;have RR := Lib.hid hR
   rcases hR.next kU32 0 with ⟨rfl, hlf, hrun⟩ | ⟨key, v, kl, w8, cnt', hkey, hlk, hf, hrun, hR8, hlt, hgr, hsz, hen⟩
   · have LF := Lib.hid hlf
     clear hlf hR hC;go_wp2_with fail;go_ret;refine ⟨E', by rw [HC.out.t]; rfl, ?_, HC.out.new, HC.out.bel⟩;have h := HC.out.tree
     have e : partT S left = S := by
       unfold partT;simp only [LF.out]
       rfl
     rw [e] at h;exact h
   · obtain ⟨z, rfl, rfl, hwf⟩ := Maps.keyOf_int_inv Tryz.underlying36 hkey
     obtain ⟨x, rfl, hk, rfl⟩ := node_some hf;have K0 := Lib.hid hk;have G8 := Lib.hid hgr;have S8 := Lib.hid hsz;have R8 := Lib.hid hR8;have CN := Lib.hid hlt;have LX := Lib.hid hlk;have NN := Lib.hid (And.intro HC.out.bel.size (And.intro HT.out.top.lt HT.out.map.lt));have B8 := Lib.hid (show Below w.heap.size w w8 from HC.out.bel.trans ⟨hgr.os, hgr.tape, hgr.output, hgr.size, fun b hb => hgr.block b (by have := NN.out.1; omega) (by simp; omega)⟩);have T8 := Lib.hid (HT.out.later B8.out);have C8 := Lib.hid (HC.out.tree.blocks (fun b hb ho => hgr.block b hb (by simp; intro e; exact HC.out.it (by rw [← e]; exact ho))));have hV := T8.out.nd x hk;have V0 := hV.cell 0;have V1 := hV.cell 1;have V2 := hV.cell 2;have V3 := hV.cell 3;have V4 := hV.cell 4;have V5 := hV.cell 5;have V6 := hV.cell 6;simp only [List.getElem?_toArray, List.getElem?_cons_zero, List.getElem?_cons_succ] at V0 V1 V2 V3 V4 V5 V6;have Vl := hV.lt;have hX := C8.out.top;rw [HC.out.t] at hX;have U0 := hX.cell 0;have U1 := hX.cell 1;simp only [List.getElem?_toArray, List.getElem?_cons_zero, List.getElem?_cons_succ] at U0 U1;have Ul := hX.lt;clear hV hX hk hgr hsz hR8 hlt hlk hR hC hf hkey hwf;unfold ptr at hen hrun;obtain ⟨w9, hw9⟩ : ∃ w9, w8.alloc (.cells (nodeC E S x) 336) = w9 := ⟨_, rfl⟩;have N9 := Lib.hid (show SBox w9 w8.heap.size 336 (nodeC E S x) by rw [← hw9]; exact SBox.new w8 _ _);have SZ9 := Lib.hid (show w9.heap.size = w8.heap.size + 1 by rw [← hw9]; simp);have T9 := Lib.hid (show TreeAt w9 E room q S by rw [← hw9]; exact T8.out.alloc _);have W9 := Lib.hid hw9;have BL := Lib.hid (fun w1 (hA : Tch (fun c => c = w8.heap.size) w9 w1) => T8.out.later (show Below w8.heap.size w8 w1 from (show Below w8.heap.size w8 w9 by rw [← hw9]; exact (Below.refl _ w8).alloc (Nat.le_refl _) _).trans (hA.below fun i hi => ⟨by have := SZ9.out; omega, by omega⟩)));go_wp2_with fail;rw [show w8.alloc (.cells #[.int .u8 (S.n x).kind, .int .i64 (S.n x).links, .int .u32 (S.n x).data.length, .map (some (E.A x)), .map (some (E.B x)), .int .i64 (S.n x).held, .int .u32 (S.n x).up] 336) = w9 from W9.out];clear hw9;refine wp_region_phi2 (by kernel_rfl) (fun | 0 => some 29 | 1 => some 30 | 2 => some 31 | 3 => some 32 | 4 => some 33 | 5 => some 34 | 6 => some 35 | 7 => some 36 | 8 => some 37 | 9 => some 38 | 10 => some 39 | 11 => none | 12 => some 40 | 13 => none | _ => none) (fun a => ∃ x29 x30 x31 x32 x33 x34 x35 x36 x37 x38 x39 x40 : Value, a = ⟨#[Value.pointer (some { block := E.t, off := 0 }), undef, Value.pointer none, Value.pointer (some { block := w.heap.size + 1, off := 0 }), Value.int IntKind.u32 ↑x, Value.pointer (some { block := E.P x, off := 0 }), Value.pointer (some { block := w8.heap.size, off := 0 }), Value.pointer (some { block := E.t, off := 0 }), Value.bool false, Value.pointer (some { block := E.t, off := 0 }), Value.pointer (some { block := E.t, off := 0 }), Value.pointer (some { block := E.t, off := 0 }), Value.int IntKind.u32 ↑room, Value.map (some w.heap.size), Value.agg #[Value.int IntKind.u32 ↑room, Value.map (some w.heap.size)], Value.pointer (some { block := w.heap.size + 1, off := 0 }), Value.pointer (some { block := E.t, off := 0 }), Value.pointer (some { block := E.t, off := 0 }), Value.pointer (some { block := E.t, off := 1 }), Value.map (some E.m), Value.pointer (some { block := w.heap.size + 2, off := 0 }), Value.tuple #[Value.bool true, Value.int IntKind.u32 ↑x, Value.pointer (some { block := E.P x, off := 0 })], Value.bool true, Value.tuple #[Value.int IntKind.u32 ↑x, Value.pointer (some { block := E.P x, off := 0 })], Value.int IntKind.u32 ↑x, Value.pointer (some { block := E.P x, off := 0 }), Value.pointer (some { block := E.P x, off := 0 }), Value.pointer (some { block := E.P x, off := 0 }), Value.agg #[Value.int IntKind.u8 ↑(S.n x).kind, Value.int IntKind.i64 ↑(S.n x).links, Value.int IntKind.u32 ↑(List.length (S.n x).data), Value.map (some (E.A x)), Value.map (some (E.B x)), Value.int IntKind.i64 ↑(S.n x).held, Value.int IntKind.u32 ↑(S.n x).up], x29, x30, x31, x32, x33, x34, x35, x36, x37, x38, x39, x40, u41, u42, u43, u44, u45, undef], []⟩) (fun lst W => Tch (fun c => c = w8.heap.size) w9 W ∧ W.heap.size = w8.heap.size + 1 + (if lst 4 = true then 1 else 0) + (if lst 9 = true then 1 else 0) ∧ SBox W w8.heap.size 336 #[.int .u8 (S.n x).kind, .int .i64 (S.n x).links, .int .u32 (S.n x).data.length, .map (some (if lst 11 = true then w8.heap.size + 1 else E.A x)), .map (some (if lst 13 = true then w8.heap.size + 1 + 1 else E.B x)), .int .i64 (S.n x).held, .int .u32 (S.n x).up] ∧ (lst 4 = true → VMap W 9 (w8.heap.size + 1) q (strF (entF (S.l x)))) ∧ (lst 9 = true → ∃ g, PgOk (S.n x).data g ∧ VMap W 3 (w8.heap.size + 1 + 1) 36 (natF .i64 (pgF g)))) (fun _ w1 w2 => w1.heap.size ≤ w2.heap.size) (fun | 0 => (fun v w => v = Value.pointer (some ⟨E.P x, 0, none⟩)) | 1 => (fun v w => v = Value.pointer (some ⟨E.P x, 0, none⟩)) | 2 => (fun v w => v = Value.pointer (some ⟨E.P x, 3, none⟩)) | 3 => (fun v w => v = Value.map (some (E.A x))) | 4 => (fun v w => v = Value.map (some (w8.heap.size + 1)) ∧ w8.heap.size + 1 + 1 ≤ w.heap.size) | 5 => (fun v w => v = Value.pointer (some ⟨E.P x, 0, none⟩)) | 6 => (fun v w => v = Value.pointer (some ⟨E.P x, 0, none⟩)) | 7 => (fun v w => v = Value.pointer (some ⟨E.P x, 4, none⟩)) | 8 => (fun v w => v = Value.map (some (E.B x))) | 9 => (fun v w => v = Value.map (some (w8.heap.size + 1 + 1))) | 10 => (fun v w => v = Value.pointer (some ⟨w8.heap.size, 3, none⟩)) | 11 => (fun v w => True) | 12 => (fun v w => v = Value.pointer (some ⟨w8.heap.size, 4, none⟩)) | 13 => (fun v w => True) | _ => (fun _ _ => True)) (by kernel_rfl) ?st (by kernel_rfl) ?AA ⟨_, _, _, _, _, _, _, _, _, _, _, _, rfl⟩ ?G0 ?step ?done
     case st =>
       intro i j v w1 w2 hi hj hij hw hp hs;have hi : i < 14 := hi
       match j, hp with
       | 0, hp | 1, hp | 2, hp | 3, hp => exact hp
       | 4, hp =>
         exact ⟨hp.1, Nat.le_trans hp.2 hs⟩
       | 5, hp | 6, hp | 7, hp | 8, hp | 9, hp | 10, hp | 11, hp | 12, hp | 13, hp => exact hp
       | j + 14, _ => exact trivial
     case AA =>
       rintro i a v hi ⟨_, _, _, _, _, _, _, _, _, _, _, _, rfl⟩
       match i, hi with
       | 0, _ | 1, _ | 2, _ | 3, _ | 4, _ | 5, _ | 6, _ | 7, _ | 8, _ | 9, _ | 10, _ | 11, _ | 12, _ | 13, _ => exact ⟨⟨_, _, _, _, _, _, _, _, _, _, _, _, rfl⟩, fun t h => by cases h <;> exact of_decide_eq_true rfl⟩
       | i + 14, hi => exact absurd hi (by simp)
     case G0 => exact ⟨Tch.drew, by simp [SZ9.out], by simpa [nodeC] using N9.out.drew, fun h => (by cases h), fun h => (by cases h)⟩
     case step =>
       rintro i a w1 lst hi ⟨x29, x30, x31, x32, x33, x34, x35, x36, x37, x38, x39, x40, rfl⟩ hl hcl hG hp;refine wpOp_via (fun K hK => ?_)
       match i, hi with
       | 0, _ =>
         obtain ⟨hA, hZ, hP, hS, hM⟩ := hG;refine wpOp_at (by rfl) rfl ?_;go_simp;refine hK _ _ ⟨_, rfl, ?_, Nat.le_refl _, rfl⟩;simp only [show ((4 : Nat) = 0) = False from by simp, show ((9 : Nat) = 0) = False from by simp, show ((11 : Nat) = 0) = False from by simp, show ((13 : Nat) = 0) = False from by simp, if_true, if_false];exact ⟨hA, hZ, hP, hS, hM⟩
       | 1, _ =>
         obtain ⟨hA, hZ, hP, hS, hM⟩ := hG;have hT8 := BL.out w1 hA;have hY := hT8.nd x K0.out;have c0 := hY.cell 0;have c1 := hY.cell 1;have c2 := hY.cell 2;have c3 := hY.cell 3;have c4 := hY.cell 4;have c5 := hY.cell 5;have c6 := hY.cell 6;simp only [List.getElem?_toArray, List.getElem?_cons_zero, List.getElem?_cons_succ] at c0 c1 c2 c3 c4 c5 c6;have hl0 := hY.lt;obtain rfl : x29 = _ := hp 0 (by kernel_rfl);refine wpOp_at (by rfl) rfl ?_;go_simp;refine hK _ _ ⟨_, rfl, ?_, Nat.le_refl _, rfl⟩;simp only [show ((4 : Nat) = 1) = False from by simp, show ((9 : Nat) = 1) = False from by simp, show ((11 : Nat) = 1) = False from by simp, show ((13 : Nat) = 1) = False from by simp, if_true, if_false];exact ⟨hA, hZ, hP, hS, hM⟩
       | 2, _ =>
         obtain ⟨hA, hZ, hP, hS, hM⟩ := hG;have hT8 := BL.out w1 hA;have hY := hT8.nd x K0.out;have c0 := hY.cell 0;have c1 := hY.cell 1;have c2 := hY.cell 2;have c3 := hY.cell 3;have c4 := hY.cell 4;have c5 := hY.cell 5;have c6 := hY.cell 6;simp only [List.getElem?_toArray, List.getElem?_cons_zero, List.getElem?_cons_succ] at c0 c1 c2 c3 c4 c5 c6;have hl0 := hY.lt;obtain rfl : x30 = _ := hp 1 (by kernel_rfl);refine wpOp_at (by rfl) rfl ?_;go_simp;refine hK _ _ ⟨_, rfl, ?_, Nat.le_refl _, rfl⟩;simp only [show ((4 : Nat) = 2) = False from by simp, show ((9 : Nat) = 2) = False from by simp, show ((11 : Nat) = 2) = False from by simp, show ((13 : Nat) = 2) = False from by simp, if_true, if_false];exact ⟨hA, hZ, hP, hS, hM⟩
       | 3, _ =>
         obtain ⟨hA, hZ, hP, hS, hM⟩ := hG;have hT8 := BL.out w1 hA;have hY := hT8.nd x K0.out;have c0 := hY.cell 0;have c1 := hY.cell 1;have c2 := hY.cell 2;have c3 := hY.cell 3;have c4 := hY.cell 4;have c5 := hY.cell 5;have c6 := hY.cell 6;simp only [List.getElem?_toArray, List.getElem?_cons_zero, List.getElem?_cons_succ] at c0 c1 c2 c3 c4 c5 c6;have hl0 := hY.lt;obtain rfl : x31 = _ := hp 2 (by kernel_rfl);refine wpOp_at (by rfl) rfl ?_;go_simp;refine hK _ _ ⟨_, rfl, ?_, Nat.le_refl _, rfl⟩;simp only [show ((4 : Nat) = 3) = False from by simp, show ((9 : Nat) = 3) = False from by simp, show ((11 : Nat) = 3) = False from by simp, show ((13 : Nat) = 3) = False from by simp, if_true, if_false];exact ⟨hA, hZ, hP, hS, hM⟩
       | 4, _ =>
         obtain ⟨hA, hZ, hP, hS, hM⟩ := hG;obtain rfl : x32 = _ := hp 3 (by kernel_rfl);have h9 : lst 9 = false := Bool.eq_false_iff.2 fun h9 => by have := hcl 9 4 (by show (9 : Nat) < 14; decide) h9 (by kernel_rfl); rw [hl] at this; cases this
         simp only [hl, h9, Bool.false_eq_true, if_false, Nat.add_zero] at hZ;have hT8 := BL.out w1 hA;obtain ⟨es, clk, hb, hv⟩ := Tr.VMap.clone (hT8.ent x K0.out);rw [hZ] at hv;refine wpOp_at (by rfl) rfl ?_;go_simp;refine Calls.mono (clone_s (E.A x) es clk w1 hb) ?_;rintro e w5 ⟨rfl, rfl⟩;rw [hZ];refine hK _ _ ⟨_, rfl, ?_, by simp, rfl, by simp; omega⟩;simp only [show ((4 : Nat) = 4) = True from by simp, show ((9 : Nat) = 4) = False from by simp, show ((11 : Nat) = 4) = False from by simp, show ((13 : Nat) = 4) = False from by simp, if_true, if_false];exact ⟨hA.trans (Tch.of ((Below.refl _ _).alloc (Nat.le_refl _) _)), by simp only [h9, Bool.false_eq_true, if_false, Nat.add_zero]; simp [hZ], hP.alloc _, fun _ => hv, fun h => by rw [h9] at h; cases h⟩
       | 5, _ =>
         obtain ⟨hA, hZ, hP, hS, hM⟩ := hG;refine wpOp_at (by rfl) rfl ?_;go_simp;refine hK _ _ ⟨_, rfl, ?_, Nat.le_refl _, rfl⟩;simp only [show ((4 : Nat) = 5) = False from by simp, show ((9 : Nat) = 5) = False from by simp, show ((11 : Nat) = 5) = False from by simp, show ((13 : Nat) = 5) = False from by simp, if_true, if_false];exact ⟨hA, hZ, hP, hS, hM⟩
       | 6, _ =>
         obtain ⟨hA, hZ, hP, hS, hM⟩ := hG;have hT8 := BL.out w1 hA;have hY := hT8.nd x K0.out;have c0 := hY.cell 0;have c1 := hY.cell 1;have c2 := hY.cell 2;have c3 := hY.cell 3;have c4 := hY.cell 4;have c5 := hY.cell 5;have c6 := hY.cell 6;simp only [List.getElem?_toArray, List.getElem?_cons_zero, List.getElem?_cons_succ] at c0 c1 c2 c3 c4 c5 c6;have hl0 := hY.lt;obtain rfl : x34 = _ := hp 5 (by kernel_rfl);refine wpOp_at (by rfl) rfl ?_;go_simp;refine hK _ _ ⟨_, rfl, ?_, Nat.le_refl _, rfl⟩;simp only [show ((4 : Nat) = 6) = False from by simp, show ((9 : Nat) = 6) = False from by simp, show ((11 : Nat) = 6) = False from by simp, show ((13 : Nat) = 6) = False from by simp, if_true, if_false];exact ⟨hA, hZ, hP, hS, hM⟩
       | 7, _ =>
         obtain ⟨hA, hZ, hP, hS, hM⟩ := hG;have hT8 := BL.out w1 hA;have hY := hT8.nd x K0.out;have c0 := hY.cell 0;have c1 := hY.cell 1;have c2 := hY.cell 2;have c3 := hY.cell 3;have c4 := hY.cell 4;have c5 := hY.cell 5;have c6 := hY.cell 6;simp only [List.getElem?_toArray, List.getElem?_cons_zero, List.getElem?_cons_succ] at c0 c1 c2 c3 c4 c5 c6;have hl0 := hY.lt;obtain rfl : x35 = _ := hp 6 (by kernel_rfl);refine wpOp_at (by rfl) rfl ?_;go_simp;refine hK _ _ ⟨_, rfl, ?_, Nat.le_refl _, rfl⟩;simp only [show ((4 : Nat) = 7) = False from by simp, show ((9 : Nat) = 7) = False from by simp, show ((11 : Nat) = 7) = False from by simp, show ((13 : Nat) = 7) = False from by simp, if_true, if_false];exact ⟨hA, hZ, hP, hS, hM⟩
       | 8, _ =>
         obtain ⟨hA, hZ, hP, hS, hM⟩ := hG;have hT8 := BL.out w1 hA;have hY := hT8.nd x K0.out;have c0 := hY.cell 0;have c1 := hY.cell 1;have c2 := hY.cell 2;have c3 := hY.cell 3;have c4 := hY.cell 4;have c5 := hY.cell 5;have c6 := hY.cell 6;simp only [List.getElem?_toArray, List.getElem?_cons_zero, List.getElem?_cons_succ] at c0 c1 c2 c3 c4 c5 c6;have hl0 := hY.lt;obtain rfl : x36 = _ := hp 7 (by kernel_rfl);refine wpOp_at (by rfl) rfl ?_;go_simp;refine hK _ _ ⟨_, rfl, ?_, Nat.le_refl _, rfl⟩;simp only [show ((4 : Nat) = 8) = False from by simp, show ((9 : Nat) = 8) = False from by simp, show ((11 : Nat) = 8) = False from by simp, show ((13 : Nat) = 8) = False from by simp, if_true, if_false];exact ⟨hA, hZ, hP, hS, hM⟩
       | 9, _ =>
         obtain ⟨hA, hZ, hP, hS, hM⟩ := hG;obtain rfl : x37 = _ := hp 8 (by kernel_rfl);have h33 := hp 4 (by kernel_rfl);have h4 : lst 4 = true := Classical.byContradiction fun hn => by have h4 : lst 4 = false := (by simpa using hn); have h := h33.2; rw [hZ] at h; simp only [hl, h4, Bool.false_eq_true, if_false] at h; omega
         simp only [hl, h4, Bool.false_eq_true, if_false, if_true, Nat.add_zero] at hZ;have hT8 := BL.out w1 hA;obtain ⟨g, g1, g2⟩ := hT8.pg x K0.out;obtain ⟨es, clk, hb, hv⟩ := Tr.VMap.clone g2;rw [hZ] at hv;refine wpOp_at (by rfl) rfl ?_;go_simp;refine Calls.mono (clone_i (E.B x) es clk w1 hb) ?_;rintro e w5 ⟨rfl, rfl⟩;rw [hZ];refine hK _ _ ⟨_, rfl, ?_, by simp, rfl⟩;simp only [show ((4 : Nat) = 9) = False from by simp, show ((9 : Nat) = 9) = True from by simp, show ((11 : Nat) = 9) = False from by simp, show ((13 : Nat) = 9) = False from by simp, if_true, if_false];exact ⟨hA.trans (Tch.of ((Below.refl _ _).alloc (Nat.le_refl _) _)), by simp only [h4, if_true]; simp [hZ], hP.alloc _, fun h => (hS h).alloc _, fun _ => ⟨g, g1, hv⟩⟩
       | 10, _ =>
         obtain ⟨hA, hZ, hP, hS, hM⟩ := hG;refine wpOp_at (by rfl) rfl ?_;go_simp;refine hK _ _ ⟨_, rfl, ?_, Nat.le_refl _, rfl⟩;simp only [show ((4 : Nat) = 10) = False from by simp, show ((9 : Nat) = 10) = False from by simp, show ((11 : Nat) = 10) = False from by simp, show ((13 : Nat) = 10) = False from by simp, if_true, if_false];exact ⟨hA, hZ, hP, hS, hM⟩
       | 11, _ =>
         obtain ⟨hA, hZ, hP, hS, hM⟩ := hG;obtain rfl : x39 = _ := hp 10 (by kernel_rfl);have e33 := hp 4 (by kernel_rfl);have e33 := e33.1;change x33 = _ at e33;subst e33;have c9 := hP.cell 3;simp only [List.getElem?_toArray, List.getElem?_cons_zero, List.getElem?_cons_succ] at c9;have f9 := hP.free 3;have hl0 := hP.lt;have hN : SBox (w1.setCell ⟨w8.heap.size, 3, none⟩ (.map (some (w8.heap.size + 1)))) w8.heap.size 336 #[.int .u8 (S.n x).kind, .int .i64 (S.n x).links, .int .u32 (S.n x).data.length, .map (some (w8.heap.size + 1)), .map (some (if lst 13 = true then w8.heap.size + 1 + 1 else E.B x)), .int .i64 (S.n x).held, .int .u32 (S.n x).up] := by simpa using hP.set 3 (.map (some (w8.heap.size + 1)))
         have hZ2 := setCell_size w1 ⟨w8.heap.size, 3, none⟩ (.map (some (w8.heap.size + 1)));refine wpOp_at (by rfl) rfl ?_;go_simp;refine hK _ _ ⟨undef, rfl, ?_, by rw [hZ2]; exact Nat.le_refl _, trivial⟩;simp only [show ((4 : Nat) = 11) = False from by simp, show ((9 : Nat) = 11) = False from by simp, show ((11 : Nat) = 11) = True from by simp, show ((13 : Nat) = 11) = False from by simp, if_true, if_false];exact ⟨hA.trans (Tch.cell rfl), by rw [hZ2]; exact hZ, hN, fun h => (hS h).other _ (by omega), fun h => by obtain ⟨g, g1, g2⟩ := hM h; exact ⟨g, g1, g2.other _ (by omega)⟩⟩
       | 12, _ =>
         obtain ⟨hA, hZ, hP, hS, hM⟩ := hG;refine wpOp_at (by rfl) rfl ?_;go_simp;refine hK _ _ ⟨_, rfl, ?_, Nat.le_refl _, rfl⟩;simp only [show ((4 : Nat) = 12) = False from by simp, show ((9 : Nat) = 12) = False from by simp, show ((11 : Nat) = 12) = False from by simp, show ((13 : Nat) = 12) = False from by simp, if_true, if_false];exact ⟨hA, hZ, hP, hS, hM⟩
       | 13, _ =>
         obtain ⟨hA, hZ, hP, hS, hM⟩ := hG;obtain rfl : x40 = _ := hp 12 (by kernel_rfl);obtain rfl : x38 = _ := hp 9 (by kernel_rfl);have c9 := hP.cell 4;simp only [List.getElem?_toArray, List.getElem?_cons_zero, List.getElem?_cons_succ] at c9;have f9 := hP.free 4;have hl0 := hP.lt;have hN : SBox (w1.setCell ⟨w8.heap.size, 4, none⟩ (.map (some (w8.heap.size + 1 + 1)))) w8.heap.size 336 #[.int .u8 (S.n x).kind, .int .i64 (S.n x).links, .int .u32 (S.n x).data.length, .map (some (if lst 11 = true then w8.heap.size + 1 else E.A x)), .map (some (w8.heap.size + 1 + 1)), .int .i64 (S.n x).held, .int .u32 (S.n x).up] := by simpa using hP.set 4 (.map (some (w8.heap.size + 1 + 1)))
         have hZ2 := setCell_size w1 ⟨w8.heap.size, 4, none⟩ (.map (some (w8.heap.size + 1 + 1)));refine wpOp_at (by rfl) rfl ?_;go_simp;refine hK _ _ ⟨undef, rfl, ?_, by rw [hZ2]; exact Nat.le_refl _, trivial⟩;simp only [show ((4 : Nat) = 13) = False from by simp, show ((9 : Nat) = 13) = False from by simp, show ((11 : Nat) = 13) = False from by simp, show ((13 : Nat) = 13) = True from by simp, if_true, if_false];exact ⟨hA.trans (Tch.cell rfl), by rw [hZ2]; exact hZ, hN, fun h => (hS h).other _ (by omega), fun h => by obtain ⟨g, g1, g2⟩ := hM h; exact ⟨g, g1, g2.other _ (by omega)⟩⟩
       | i + 14, hi => exact absurd hi (by simp)
     case done =>
       rintro a w10 lst hl ⟨x29, x30, x31, x32, x33, x34, x35, x36, x37, x38, x39, x40, rfl⟩ ⟨hA, hZ, hP, hS, hM⟩ hp;clear hp;simp only [hl 4 (by show (4 : Nat) < 14; decide), hl 9 (by show (9 : Nat) < 14; decide), hl 11 (by show (11 : Nat) < 14; decide), hl 13 (by show (13 : Nat) < 14; decide), if_true] at hZ hP;have hE := hS (hl 4 (by show (4 : Nat) < 14; decide));have hQ := hM (hl 9 (by show (9 : Nat) < 14; decide));have B10 : Below w8.heap.size w8 w10 := ((Below.refl _ w8).alloc (Nat.le_refl _) (.cells (nodeC E S x) 336)).trans (by rw [W9.out]; exact hA.below fun i hi => ⟨by have := SZ9.out; omega, by omega⟩);have NA : NodeAt w8 w10 (S.n x) (S.l x) q w8.heap.size (w8.heap.size + 1) (w8.heap.size + 1 + 1) := ⟨hP, hE, hQ, ⟨Nat.le_refl _, by omega, by omega⟩, by omega, B10⟩;have xr := HI.out.rng x K0.out;obtain ⟨w11, hput, hT11, htn⟩ := C8.out.join NA K0.out (T8.out.lk x) (T8.out.dt x) xr.1 xr.2 (fun y hy => HI.out.rng y (fun e => hy (by unfold partT; simp only; split; rfl; exact e)));have hT10 := C8.out.later B10;have hX := hT10.top;rw [HC.out.t] at hX;have Q0 := hX.cell 0;have Q1 := hX.cell 1;simp only [List.getElem?_toArray, List.getElem?_cons_zero, List.getElem?_cons_succ] at Q0 Q1;have Ql := hX.lt;have T11 := Lib.hid hT11;have TN := Lib.hid htn;have BB := Lib.hid B10;clear hE hQ hP hS hM NA hT10 hX hT11 htn B10 hZ hA hl xr V0 V1 V2 V3 V4 V5 V6 Vl U0 U1 Ul hen hrun;go_wp2_with fail;go_roundw
       case rel =>
         have hR2 := (R8.out.kept (W' := w10) (Below.grown BB.out) (by simp) (by simp)).kept (W' := w11) (row := some E'.m) ⟨(Tch.turned (O := fun c => c = E'.m) TN.out rfl).os, (Tch.turned (O := fun c => c = E'.m) TN.out rfl).tape, (Tch.turned (O := fun c => c = E'.m) TN.out rfl).output, (Tch.turned (O := fun c => c = E'.m) TN.out rfl).size, fun i _ hi => turned_block TN.out (by simpa using hi)⟩ (by have := HC.out.new _ HC.out.tree.own.2.1; have := NN.out.2.2; simp; omega) (by simp; intro e; exact HC.out.it (by rw [e]; exact HC.out.tree.own.2.1));refine ⟨E'.add x w8.heap.size (w8.heap.size + 1) (w8.heap.size + 1 + 1), _, _, hR2, ⟨by rw [← part_step]; exact T11.out, HC.out.t, fun c hc => ?_, fun hc => ?_, ?_⟩⟩
         · have := NN.out.1
           have := S8.out
           rcases hc with hc | rfl | rfl | rfl
           · exact HC.out.new c hc
           all_goals omega
         · have h9 := RR.out.lt
           have := S8.out
           rcases hc with hc | hc | hc | hc
           · exact HC.out.it hc
           all_goals omega
         · have h9 := HC.out.new _ HC.out.tree.own.2.1
           exact (B8.out.trans (BB.out.mono B8.out.size)).trans ((Tch.turned (O := fun c => c = E'.m) TN.out rfl).below fun i hi => ⟨by have := B8.out.size; have := BB.out.size; omega, by omega⟩)
       case measure =>
         have hR2 := (R8.out.kept (W' := w10) (Below.grown BB.out) (by simp) (by simp)).kept (W' := w11) (row := some E'.m) ⟨(Tch.turned (O := fun c => c = E'.m) TN.out rfl).os, (Tch.turned (O := fun c => c = E'.m) TN.out rfl).tape, (Tch.turned (O := fun c => c = E'.m) TN.out rfl).output, (Tch.turned (O := fun c => c = E'.m) TN.out rfl).size, fun i _ hi => turned_block TN.out (by simpa using hi)⟩ (by have := HC.out.new _ HC.out.tree.own.2.1; have := NN.out.2.2; simp; omega) (by simp; intro e; exact HC.out.it (by rw [e]; exact HC.out.tree.own.2.1));rw [hR2.left_eq, RR.out.left_eq];have := CN.out;omega
end Go.Proofs.YtkljcgopikdjjaaGreatDoor.Tr
end
