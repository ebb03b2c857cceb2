/- Layer 37 (text): ReadLine. -/
import Derived.Test.YtkljcgopikdjjaaGreatDoorM30
import Derived.Defers
import Derived.Recover
import Derived.Test.YtkljcgopikdjjaaGreatDoorM34
import Derived.Test.YtkljcgopikdjjaaGreatDoorM27
import Derived.Test.YtkljcgopikdjjaaGreatDoorM07
set_option linter.unusedVariables false
set_option linter.unusedSimpArgs false
set_option maxRecDepth 100000
section
namespace Go.Proofs.YtkljcgopikdjjaaGreatDoor.Tx
set_option maxRecDepth 100000
set_option maxHeartbeats 1000000
open Go.RowKit Go.Shelf Go.Maps Oct
theorem step_any (s : ByteArray) (hs : s.size ≤ 20000) (w : World) (hlay : Lay w) : Calls Tryz.prog 37 #[.string s] w (StepAns (L s) w) :=
 callsIn_wide.1 (step_main_in Fence.wide 4 (Lib.hid rfl) rfl (Nat.le_refl _) s hs w hlay)
theorem assert_wrong (W : World) (v : Value) : (Instr.typeAssert (.iface 130 v) 20 130 true).run Tryz.prog W = .ok (.tuple #[v, .bool true]) W := by kernel_rfl
def wrongV : Value := .iface 130 (.agg #[])
theorem catch_wrong (b : Nat) (x : Bool) (w : World) (hb : SBox w b 4 #[.bool x]) :
   CallsD Tryz.prog 81 #[ptr b] (.panicking [{ v := wrongV, recovered := false }]) w fun e u' w' =>
     e = .returned (.tuple #[]) ∧ u' = .panicking [{ v := wrongV, recovered := true }] ∧ w' = (w.alloc (.cells #[] 130)).setCell ⟨b, 0, none⟩ (.bool false) := by
 refine callsD_of_wpS Tryz.func81 rfl fun c₀ cs hu => ?_
 apply wpS_seq
 apply wpS_region
 unfold wrongV at hu ⊢;unfold ptr
 simp [wpOpsS, go_sem, recoverD, hu, Tryz.ntmps81, Exit.thenS]
 refine wpS_of_wp ?_;simp only [Array.replicate_succ, Array.replicate_zero, List.push_toArray, List.append_toArray, List.nil_append, List.cons_append, List.setIfInBounds_toArray, List.set_cons_zero, List.set_cons_succ];have hta := fun W => assert_wrong W (.agg #[]);have hb2 := hb.later ((Below.refl w.heap.size w).alloc (Nat.le_refl _) (.cells #[] 130));have c0 : (w.alloc (.cells #[] 130)).cell? ⟨b, 0, none⟩ = some (.bool x) := (hb2.cell 0).trans rfl;have f0 := SBox.free hb2 0;go_wp2_with fail
 simp_all [bodyPostS, results, Tryz.results81]
theorem catch_idle (b : Nat) (w : World) : CallsD Tryz.prog 81 #[ptr b] .returning w fun e u' w' => e = .returned (.tuple #[]) ∧ u' = .returning ∧ w' = w := by
 refine callsD_of_wpS Tryz.func81 rfl fun c₀ cs hu => ?_
 apply wpS_seq
 apply wpS_region
 unfold ptr
 simp [wpOpsS, go_sem, recoverD, hu, Tryz.ntmps81, Exit.thenS]
 refine wpS_of_wp ?_;simp only [Array.replicate_succ, Array.replicate_zero, List.push_toArray, List.append_toArray, List.nil_append, List.cons_append, List.setIfInBounds_toArray, List.set_cons_zero, List.set_cons_succ];go_wp2_with fail;cases c₀
 simp_all [bodyPostS, results, Tryz.results81]
def Doing (ok : Bool) (b : Nat) (Q : World → Prop) (e : Ending) (w' : World) : Prop :=
 (e = if ok then .returned (.tuple #[]) else wrongE) ∧ SBox w' b 4 #[.bool false] ∧ Q w'
theorem reads_any (ok : Bool) (g : Nat) (cap : Array Value) (Q : World → Prop) (w : World) (hg : ∀ W, (callFunc g cap).run Tryz.prog W = .ok (.enter g cap) W) (hlt : ∀ W, Q W → w.heap.size < W.heap.size)
   (hc : Calls Tryz.prog g cap (w.alloc (.cells #[.bool false] 4)) (Doing ok w.heap.size Q)) :
   Calls Tryz.prog 35 #[.func (.func g) #[] cap] w fun e w' => e = .returned (.bool ok) ∧ ∃ w2, Q w2 ∧ Tch (fun q => q = w.heap.size) w2 w' := by
 have hmf : ∀ (fn : Fn) (first cap : Array Value) (w : World), (Instr.makeFunc fn first cap).run Tryz.prog w = .ok (.func fn first cap) w := fun _ _ _ _ => rfl;have HC := Lib.hid hc;have HG := Lib.hid hg;clear hc hg
 go_enter_defers Tryz.func35, Tryz.ntmps35
 go_wp2
 rw [HG.out];refine HC.out.mono ?_;rintro e w1 ⟨he, hb, hq⟩;have HB := Lib.hid hb;have HQ := Lib.hid hq;have c0 : w1.cell? ⟨w.heap.size, 0, none⟩ = some (.bool false) := (hb.cell 0).trans rfl;have f0 := SBox.free hb 0;clear hb hq;cases ok with
 | false =>
   have he : e = wrongE := he;subst he;unfold wrongE;clear c0 f0;go_wp2_with fail;refine leaves_cons (f := 81) (args := #[ptr w.heap.size]) (by simp [ptr]) (by simp [go_sem, ptr]) ?_;refine (catch_wrong w.heap.size false _ HB.out).mono ?_;rintro e u' w'' ⟨rfl, rfl, rfl⟩;have hs := SBox.set (HB.out.later ((Below.refl w1.heap.size w1).alloc (Nat.le_refl _) (.cells #[] 130))) 0 (.bool false);have hc := (hs.cell 0).trans (rfl : _ = some (Value.bool false));have ht : Tch (fun q => q = w.heap.size) w1 ((w1.alloc (.cells #[] 130)).setCell ⟨w.heap.size, 0, none⟩ (.bool false)) := (Tch.of ((Below.refl w1.heap.size w1).alloc (Nat.le_refl _) (.cells #[] 130))).trans (Tch.cell (O := fun q => q = w.heap.size) rfl)
   simp [Leaves, settle, results, Tryz.results35, go_sem]
   rw [hc];exact ⟨_, rfl, rfl, w1, HQ.out, ht⟩
 | true =>
   have he : e = .returned (.tuple #[]) := he;subst he;go_wp2_with fail;refine leaves_cons (f := 81) (args := #[ptr w.heap.size]) (by simp [ptr]) (by simp [go_sem, ptr]) ?_;refine (catch_idle w.heap.size _).mono ?_;rintro e u' w'' ⟨rfl, rfl, rfl⟩;have hs := SBox.set HB.out 0 (.bool true);have hc := (hs.cell 0).trans (rfl : _ = some (Value.bool true));have ht : Tch (fun q => q = w.heap.size) w1 (w1.setCell ⟨w.heap.size, 0, none⟩ (.bool true)) := Tch.cell (O := fun q => q = w.heap.size) rfl
   simp [Leaves, settle, results, Tryz.results35, go_sem]
   rw [hc];exact ⟨_, rfl, rfl, w1, HQ.out, ht⟩
end Go.Proofs.YtkljcgopikdjjaaGreatDoor.Tx
end
section
namespace Go.Proofs.YtkljcgopikdjjaaGreatDoor.Tx
set_option maxRecDepth 100000
set_option maxHeartbeats 2000000
open Go.RowKit Go.Shelf Go.Maps Oct
structure TK (W : World) (cb n3 nb n6 n7 r q k : Nat) (c : Cf) : Prop where
 hc : SBox W cb 27 c.cells
 hn : SBox W nb 3 #[.int .i64 ((k : Int) + 1)]
 h6 : SBox W n6 59 #[.slice (some ⟨r, 0, none⟩) 6 6]
 h7 : SBox W n7 60 #[.slice (some ⟨q, 0, none⟩) 6 6]
 hr : SBox W r 9 headN
 hq : SBox W q 69 (headA cb)
 d1 : nb ≠ cb
 d2 : n6 ≠ cb
 d3 : n7 ≠ cb
 d4 : r ≠ cb
 d5 : q ≠ cb
theorem has_pre (l p : List UInt8) : Lib.hasPrefix l p = p.isPrefixOf l := rfl
theorem set_cells (c : Cf) (k : Nat) (hk : k < 6) (v : Int) : c.cells.setIfInBounds k (.int .i64 v) = (c.set k v).cells := by
 match k, hk with
 | 0, _ | 1, _ | 2, _ | 3, _ | 4, _ | 5, _ => rfl
theorem SBox.tchO {w w' : World} {b cb : Nat} {t : TypeId} {cs : Array Value} (h : SBox w b t cs) (ht : Tch (fun x => x = cb) w w') (hn : b ≠ cb) : SBox w' b t cs := (ht.block b h.lt hn).trans h
def HdAns (k : Nat) (cb : Nat) (c : Cf) (s : List UInt8) (w : World) (e : Ending) (w' : World) : Prop :=
 (match takeQ k (c, []) s with | some q => e = .returned (.tuple #[]) ∧ SBox w' cb 27 q.1.cells | none => e = wrongE ∧ Below w.heap.size w w') ∧ Tch (fun x => x = cb) w w'
set_option maxHeartbeats 4000000 in
theorem tk_head (s : ByteArray) (hs : s.size ≤ 20000) (cb n3 nb n6 n7 r q k : Nat) (hk : k < 6) (c : Cf) (w : World) (hl : Lay w) (hcb5 : 5 ≤ cb) (ht : TK w cb n3 nb n6 n7 r q k c) :
   Calls Tryz.prog 38 #[.string s, .pointer (some ⟨nb, 0, none⟩), .pointer (some ⟨n6, 0, none⟩), .pointer (some ⟨n7, 0, none⟩), .pointer (some ⟨n3, 0, none⟩)] w (HdAns k cb c (L s) w) := by
 have HM := Lib.hid must_yes;have HNO := Lib.hid must_no;have HP := Lib.hid (fun W => (Tryz.strings_HasPrefix s (B (nmH k)) W))
 have hpp : Lib.hasPrefix s.data.toList (B (nmH k)).data.toList = (nmH k).isPrefixOf (L s) := by
   rw [has_pre];show (L (B (nmH k))).isPrefixOf (L s) = _;rw [L_B]
 rw [hpp] at HP;have HTT := Lib.hid ht;have HLZ0 := Lib.hid hl;have g0 := ht.hn.cell 0;have g1 := ht.h6.cell 0;have g2 := (ht.hr.cell k).trans (headN_at k hk);simp only [List.getElem?_toArray, List.getElem?_cons_zero] at g0 g1;have gl := ht.hr.lt;have w1 : IntKind.i64.wrap ((k : Int) + 1 - 1) = (k : Int) := by rw [IntWalk.i64_in _ (by omega)]; omega
 have t1 : (k : Int) < 6 := by omega
 clear hpp ht hl
 go_enter Tryz.func38, Tryz.ntmps38
 by_cases hpre : (nmH k).isPrefixOf (L s) = true
 · rw [hpre] at HP
   have hle : (nmH k).length ≤ s.size := by
     have := (List.isPrefixOf_iff_prefix.mp hpre).length_le;rw [len_L] at this;exact this
   have NB := Lib.hid (fun W h => number_any (B ((L s).drop (nmH k).length)) W h (by rw [size_B, List.length_drop, len_L]; omega));rw [L_B] at NB
   have HTQ0 : takeQ k (c, []) (L s) = (numL ((L s).drop (nmH k).length)).map (fun v => (c.set k v, [])) := by
     unfold takeQ;rw [if_pos hk, if_pos hpre]
   go_wp2_with fail;refine (HP.out _).mono ?_;rintro e wz ⟨rfl, rfl⟩;go_wp2_with fail;refine (HM.out _).mono ?_;rintro e w8 ⟨rfl, rfl⟩;have hx := ex_rest s (nmH k).length;have hle2 : ((nmH k).length : Int) ≤ s.size := by omega
   have hnsz : (B (nmH k)).size = (nmH k).length := size_B _;have hql := HTT.out.hq.lt;have hrl := HTT.out.hr.lt;have HT := HTT;have HLZ := HLZ0;have HC0 := Lib.hid HTT.out.hc;have HT0 : Hid (Tch (fun x => x = cb) wz wz) := Lib.hid (Tch.refl _ _);unfold NumAns at NB;go_wp2_with fail;cases hnum : numL ((L s).drop (nmH k).length) with
   | none =>
     have HN := Lib.hid hnum;have HTQ : Hid (takeQ k (c, []) (L s) = none) := Lib.hid (by rw [HTQ0, hnum]; rfl);clear hnum HTQ0;refine wp_region_phi3 (by kernel_rfl) (fun | 0 => some 26 | 1 => some 27 | 2 => some 28 | 3 => some 29 | 4 => some 30 | 5 => some 31 | 6 => some 32 | 7 => some 33 | 8 => some 34 | 9 => some 35 | 10 => some 36 | 11 => some 37 | 12 => some 38 | 13 => none | _ => none) (fun a => ∃ x26 x27 x28 x29 x30 x31 x32 x33 x34 x35 x36 x37 x38 : Value, a = ⟨#[.string s, .pointer (some ⟨nb, 0, none⟩), .pointer (some ⟨n6, 0, none⟩), .pointer (some ⟨n7, 0, none⟩), .pointer (some ⟨n3, 0, none⟩), undef, .int .i64 k, .int .i64 ((k : Int) + 1), .int .i64 k, undef, undef, undef, undef, undef, .bool true, .int .i64 k, .slice (some ⟨r, 0, none⟩) 6 6, .int .i64 6, .bool true, .string s, .slice (some ⟨r, 0, none⟩) 6 6, .int .i64 k, .pointer (some ⟨r, k, none⟩), .string (B (nmH k)), .bool true, .tuple #[], x26, x27, x28, x29, x30, x31, x32, x33, x34, x35, x36, x37, x38, undef, undef, undef, undef, undef, undef, undef, undef], []⟩) (fun lst W => Below wz.heap.size wz W) (fun i w w' => Below w.heap.size w w') (fun | 0 => (fun f w => f 0 = Value.slice (some ⟨q, 0, none⟩) 6 6) | 1 => (fun f w => f 1 = Value.int .i64 k) | 2 => (fun f w => f 2 = Value.pointer (some ⟨q, k, none⟩)) | 3 => (fun f w => f 3 = Value.pointer (some ⟨cb, k, none⟩)) | 4 => (fun f w => f 4 = Value.string s) | 5 => (fun f w => f 5 = Value.slice (some ⟨r, 0, none⟩) 6 6) | 6 => (fun f w => f 6 = Value.int .i64 k) | 7 => (fun f w => f 7 = Value.pointer (some ⟨r, k, none⟩)) | 8 => (fun f w => f 8 = Value.string (B (nmH k))) | 9 => (fun f w => f 9 = Value.int .i64 ((nmH k).length : Nat)) | 10 => (fun f w => f 10 = Value.string (B ((L s).drop (nmH k).length))) | 11 => (fun f w => False) | 12 => (fun f w => f 12 = Value.pointer (some ⟨cb, k, none⟩)) | 13 => (fun f w => False) | _ => (fun _ _ => True)) (by kernel_rfl) ?stb ?dep (by kernel_rfl) ?AA ⟨_, _, _, _, _, _, _, _, _, _, _, _, _, rfl⟩ ?G0 ?step ?done
     case stb =>
       intro i j v w1 w2 hi hj hij hw hp hs;have hi : i < 14 := hi
       match j, hp with
       | 0, hp | 1, hp | 2, hp | 3, hp | 4, hp | 5, hp | 6, hp | 7, hp | 8, hp | 9, hp | 10, hp | 11, hp | 12, hp | 13, hp => exact hp
       | j + 14, _ => exact trivial
     case dep =>
       intro j f g w hj hfg hp;have hj : j < 14 := hj
       match j, hp, hfg with
       | 0, hp, hfg =>
         have hq : f 0 = Value.slice (some ⟨q, 0, none⟩) 6 6 := hp;rw [hfg 0 (by show 0 < 14; decide) (by first | exact .inl rfl | exact .inr (by kernel_rfl))] at hq;exact hq
       | 1, hp, hfg =>
         have hq : f 1 = Value.int .i64 k := hp;rw [hfg 1 (by show 1 < 14; decide) (by first | exact .inl rfl | exact .inr (by kernel_rfl))] at hq;exact hq
       | 2, hp, hfg =>
         have hq : f 2 = Value.pointer (some ⟨q, k, none⟩) := hp;rw [hfg 2 (by show 2 < 14; decide) (by first | exact .inl rfl | exact .inr (by kernel_rfl))] at hq;exact hq
       | 3, hp, hfg =>
         have hq : f 3 = Value.pointer (some ⟨cb, k, none⟩) := hp;rw [hfg 3 (by show 3 < 14; decide) (by first | exact .inl rfl | exact .inr (by kernel_rfl))] at hq;exact hq
       | 4, hp, hfg =>
         have hq : f 4 = Value.string s := hp;rw [hfg 4 (by show 4 < 14; decide) (by first | exact .inl rfl | exact .inr (by kernel_rfl))] at hq;exact hq
       | 5, hp, hfg =>
         have hq : f 5 = Value.slice (some ⟨r, 0, none⟩) 6 6 := hp;rw [hfg 5 (by show 5 < 14; decide) (by first | exact .inl rfl | exact .inr (by kernel_rfl))] at hq;exact hq
       | 6, hp, hfg =>
         have hq : f 6 = Value.int .i64 k := hp;rw [hfg 6 (by show 6 < 14; decide) (by first | exact .inl rfl | exact .inr (by kernel_rfl))] at hq;exact hq
       | 7, hp, hfg =>
         have hq : f 7 = Value.pointer (some ⟨r, k, none⟩) := hp;rw [hfg 7 (by show 7 < 14; decide) (by first | exact .inl rfl | exact .inr (by kernel_rfl))] at hq;exact hq
       | 8, hp, hfg =>
         have hq : f 8 = Value.string (B (nmH k)) := hp;rw [hfg 8 (by show 8 < 14; decide) (by first | exact .inl rfl | exact .inr (by kernel_rfl))] at hq;exact hq
       | 9, hp, hfg =>
         have hq : f 9 = Value.int .i64 ((nmH k).length : Nat) := hp;rw [hfg 9 (by show 9 < 14; decide) (by first | exact .inl rfl | exact .inr (by kernel_rfl))] at hq;exact hq
       | 10, hp, hfg =>
         have hq : f 10 = Value.string (B ((L s).drop (nmH k).length)) := hp;rw [hfg 10 (by show 10 < 14; decide) (by first | exact .inl rfl | exact .inr (by kernel_rfl))] at hq;exact hq
       | 11, hp, hfg =>
         have hq : False := hp;exact hq
       | 12, hp, hfg =>
         have hq : f 12 = Value.pointer (some ⟨cb, k, none⟩) := hp;rw [hfg 12 (by show 12 < 14; decide) (by first | exact .inl rfl | exact .inr (by kernel_rfl))] at hq;exact hq
       | 13, hp, hfg =>
         have hq : False := hp;exact hq
       | j + 14, _, _ => exact trivial
     case AA =>
       rintro i a v hi ⟨_, _, _, _, _, _, _, _, _, _, _, _, _, rfl⟩
       match i, hi with
       | 0, _ | 1, _ | 2, _ | 3, _ | 4, _ | 5, _ | 6, _ | 7, _ | 8, _ | 9, _ | 10, _ | 11, _ | 12, _ | 13, _ => exact ⟨⟨_, _, _, _, _, _, _, _, _, _, _, _, _, rfl⟩, fun t h => by cases h <;> exact of_decide_eq_true rfl⟩
       | i + 14, hi => exact absurd hi (by simp)
     case G0 => exact (Below.refl _ _).drew
     case step =>
       rintro i a w1 lst hi ⟨x26, x27, x28, x29, x30, x31, x32, x33, x34, x35, x36, x37, x38, rfl⟩ hl hcl hG hp;refine wpOp_via (fun K hK => ?_)
       match i, hi with
       | 0, _ =>
         have f7 := (SBox.later HT.out.h7 hG).cell 0;simp only [List.getElem?_toArray, List.getElem?_cons_zero] at f7;refine wpOp_at (by rfl) rfl ?_;go_simp;exact hK _ _ ⟨_, rfl, hG, Below.refl _ _, rfl⟩
       | 1, _ =>
         refine wpOp_at (by rfl) rfl ?_;go_simp;exact hK _ _ ⟨_, rfl, hG, Below.refl _ _, rfl⟩
       | 2, _ =>
         obtain rfl : x26 = _ := hp 0 (by kernel_rfl);obtain rfl : x27 = _ := hp 1 (by kernel_rfl);refine wpOp_at (by rfl) rfl ?_;go_simp;exact hK _ _ ⟨_, rfl, hG, Below.refl _ _, rfl⟩
       | 3, _ =>
         obtain rfl : x28 = _ := hp 2 (by kernel_rfl);have fq := ((SBox.later HT.out.hq hG).cell k).trans (headA_at cb k hk);refine wpOp_at (by rfl) rfl ?_;go_simp;exact hK _ _ ⟨_, rfl, hG, Below.refl _ _, rfl⟩
       | 4, _ =>
         refine wpOp_at (by rfl) rfl ?_;go_simp;exact hK _ _ ⟨_, rfl, hG, Below.refl _ _, rfl⟩
       | 5, _ =>
         have f6 := (SBox.later HT.out.h6 hG).cell 0;simp only [List.getElem?_toArray, List.getElem?_cons_zero] at f6;refine wpOp_at (by rfl) rfl ?_;go_simp;exact hK _ _ ⟨_, rfl, hG, Below.refl _ _, rfl⟩
       | 6, _ =>
         refine wpOp_at (by rfl) rfl ?_;go_simp;exact hK _ _ ⟨_, rfl, hG, Below.refl _ _, rfl⟩
       | 7, _ =>
         obtain rfl : x31 = _ := hp 5 (by kernel_rfl);obtain rfl : x32 = _ := hp 6 (by kernel_rfl);refine wpOp_at (by rfl) rfl ?_;go_simp;exact hK _ _ ⟨_, rfl, hG, Below.refl _ _, rfl⟩
       | 8, _ =>
         obtain rfl : x33 = _ := hp 7 (by kernel_rfl);have fr := ((SBox.later HT.out.hr hG).cell k).trans (headN_at k hk);refine wpOp_at (by rfl) rfl ?_;go_simp;exact hK _ _ ⟨_, rfl, hG, Below.refl _ _, rfl⟩
       | 9, _ =>
         obtain rfl : x34 = _ := hp 8 (by kernel_rfl);refine wpOp_at (by rfl) rfl ?_;go_simp;exact hK _ _ ⟨_, rfl, hG, Below.refl _ _, rfl⟩
       | 10, _ =>
         obtain rfl : x30 = _ := hp 4 (by kernel_rfl);obtain rfl : x35 = _ := hp 9 (by kernel_rfl);refine wpOp_at (by rfl) rfl ?_;go_simp;exact hK _ _ ⟨_, rfl, hG, Below.refl _ _, rfl⟩
       | 11, _ =>
         obtain rfl : x36 = _ := hp 10 (by kernel_rfl);refine wpOp_at (by rfl) rfl ?_;go_simp;refine (NB.out _ (HLZ.out.later hG)).mono ?_;rintro e w9 ⟨he, b9⟩;rw [HN.out] at he;have he : e = wrongE := he;subst he;unfold wrongE;refine ⟨rfl, ?_⟩;unfold HdAns;rw [HTQ.out];exact ⟨⟨rfl, hG.trans (b9.mono hG.size)⟩, Tch.of (hG.trans (b9.mono hG.size))⟩
       | 12, _ =>
         obtain rfl : x29 = _ := hp 3 (by kernel_rfl);refine wpOp_at (by rfl) rfl ?_;go_simp;exact hK _ _ ⟨_, rfl, hG, Below.refl _ _, rfl⟩
       | 13, _ =>
         exact (hp 11 (by kernel_rfl)).elim
       | i + 14, hi => exact absurd hi (by simp)
     case done =>
       rintro a9 w9 lst hl ⟨x26, x27, x28, x29, x30, x31, x32, x33, x34, x35, x36, x37, x38, rfl⟩ hG hp;exact (hp 11 (by decide)).elim
   | some v =>
     have HN := Lib.hid hnum;have HTQ : Hid (takeQ k (c, []) (L s) = some (c.set k v, [])) := Lib.hid (by rw [HTQ0, hnum]; rfl);clear hnum HTQ0;refine wp_region_phi3 (by kernel_rfl) (fun | 0 => some 26 | 1 => some 27 | 2 => some 28 | 3 => some 29 | 4 => some 30 | 5 => some 31 | 6 => some 32 | 7 => some 33 | 8 => some 34 | 9 => some 35 | 10 => some 36 | 11 => some 37 | 12 => some 38 | 13 => none | _ => none) (fun a => ∃ x26 x27 x28 x29 x30 x31 x32 x33 x34 x35 x36 x37 x38 : Value, a = ⟨#[.string s, .pointer (some ⟨nb, 0, none⟩), .pointer (some ⟨n6, 0, none⟩), .pointer (some ⟨n7, 0, none⟩), .pointer (some ⟨n3, 0, none⟩), undef, .int .i64 k, .int .i64 ((k : Int) + 1), .int .i64 k, undef, undef, undef, undef, undef, .bool true, .int .i64 k, .slice (some ⟨r, 0, none⟩) 6 6, .int .i64 6, .bool true, .string s, .slice (some ⟨r, 0, none⟩) 6 6, .int .i64 k, .pointer (some ⟨r, k, none⟩), .string (B (nmH k)), .bool true, .tuple #[], x26, x27, x28, x29, x30, x31, x32, x33, x34, x35, x36, x37, x38, undef, undef, undef, undef, undef, undef, undef, undef], []⟩) (fun lst W => Tch (fun x => x = cb) wz W ∧ (lst 13 = false → SBox W cb 27 c.cells)) (fun i w w' => i ≠ 13 → Below w.heap.size w w') (fun | 0 => (fun f w => f 0 = Value.slice (some ⟨q, 0, none⟩) 6 6) | 1 => (fun f w => f 1 = Value.int .i64 k) | 2 => (fun f w => f 2 = Value.pointer (some ⟨q, k, none⟩)) | 3 => (fun f w => f 3 = Value.pointer (some ⟨cb, k, none⟩)) | 4 => (fun f w => f 4 = Value.string s) | 5 => (fun f w => f 5 = Value.slice (some ⟨r, 0, none⟩) 6 6) | 6 => (fun f w => f 6 = Value.int .i64 k) | 7 => (fun f w => f 7 = Value.pointer (some ⟨r, k, none⟩)) | 8 => (fun f w => f 8 = Value.string (B (nmH k))) | 9 => (fun f w => f 9 = Value.int .i64 ((nmH k).length : Nat)) | 10 => (fun f w => f 10 = Value.string (B ((L s).drop (nmH k).length))) | 11 => (fun f w => f 11 = Value.int .i64 v) | 12 => (fun f w => f 12 = Value.pointer (some ⟨cb, k, none⟩)) | 13 => (fun f w => SBox w cb 27 (c.set k v).cells) | _ => (fun _ _ => True)) (by kernel_rfl) ?stb ?dep (by kernel_rfl) ?AA ⟨_, _, _, _, _, _, _, _, _, _, _, _, _, rfl⟩ ?G0 ?step ?done
     case stb =>
       intro i j v w1 w2 hi hj hij hw hp hs;have hi : i < 14 := hi
       match j, hp with
       | 0, hp | 1, hp | 2, hp | 3, hp | 4, hp | 5, hp | 6, hp | 7, hp | 8, hp | 9, hp | 10, hp | 11, hp | 12, hp => exact hp
       | 13, hp =>
         exact SBox.later hp (hs hij)
       | j + 14, _ => exact trivial
     case dep =>
       intro j f g w hj hfg hp;have hj : j < 14 := hj
       match j, hp, hfg with
       | 0, hp, hfg =>
         have hq : f 0 = Value.slice (some ⟨q, 0, none⟩) 6 6 := hp;rw [hfg 0 (by show 0 < 14; decide) (by first | exact .inl rfl | exact .inr (by kernel_rfl))] at hq;exact hq
       | 1, hp, hfg =>
         have hq : f 1 = Value.int .i64 k := hp;rw [hfg 1 (by show 1 < 14; decide) (by first | exact .inl rfl | exact .inr (by kernel_rfl))] at hq;exact hq
       | 2, hp, hfg =>
         have hq : f 2 = Value.pointer (some ⟨q, k, none⟩) := hp;rw [hfg 2 (by show 2 < 14; decide) (by first | exact .inl rfl | exact .inr (by kernel_rfl))] at hq;exact hq
       | 3, hp, hfg =>
         have hq : f 3 = Value.pointer (some ⟨cb, k, none⟩) := hp;rw [hfg 3 (by show 3 < 14; decide) (by first | exact .inl rfl | exact .inr (by kernel_rfl))] at hq;exact hq
       | 4, hp, hfg =>
         have hq : f 4 = Value.string s := hp;rw [hfg 4 (by show 4 < 14; decide) (by first | exact .inl rfl | exact .inr (by kernel_rfl))] at hq;exact hq
       | 5, hp, hfg =>
         have hq : f 5 = Value.slice (some ⟨r, 0, none⟩) 6 6 := hp;rw [hfg 5 (by show 5 < 14; decide) (by first | exact .inl rfl | exact .inr (by kernel_rfl))] at hq;exact hq
       | 6, hp, hfg =>
         have hq : f 6 = Value.int .i64 k := hp;rw [hfg 6 (by show 6 < 14; decide) (by first | exact .inl rfl | exact .inr (by kernel_rfl))] at hq;exact hq
       | 7, hp, hfg =>
         have hq : f 7 = Value.pointer (some ⟨r, k, none⟩) := hp;rw [hfg 7 (by show 7 < 14; decide) (by first | exact .inl rfl | exact .inr (by kernel_rfl))] at hq;exact hq
       | 8, hp, hfg =>
         have hq : f 8 = Value.string (B (nmH k)) := hp;rw [hfg 8 (by show 8 < 14; decide) (by first | exact .inl rfl | exact .inr (by kernel_rfl))] at hq;exact hq
       | 9, hp, hfg =>
         have hq : f 9 = Value.int .i64 ((nmH k).length : Nat) := hp;rw [hfg 9 (by show 9 < 14; decide) (by first | exact .inl rfl | exact .inr (by kernel_rfl))] at hq;exact hq
       | 10, hp, hfg =>
         have hq : f 10 = Value.string (B ((L s).drop (nmH k).length)) := hp;rw [hfg 10 (by show 10 < 14; decide) (by first | exact .inl rfl | exact .inr (by kernel_rfl))] at hq;exact hq
       | 11, hp, hfg =>
         have hq : f 11 = Value.int .i64 v := hp;rw [hfg 11 (by show 11 < 14; decide) (by first | exact .inl rfl | exact .inr (by kernel_rfl))] at hq;exact hq
       | 12, hp, hfg =>
         have hq : f 12 = Value.pointer (some ⟨cb, k, none⟩) := hp;rw [hfg 12 (by show 12 < 14; decide) (by first | exact .inl rfl | exact .inr (by kernel_rfl))] at hq;exact hq
       | 13, hp, hfg =>
         have hq : SBox w cb 27 (c.set k v).cells := hp;exact hq
       | j + 14, _, _ => exact trivial
     case AA =>
       rintro i a v hi ⟨_, _, _, _, _, _, _, _, _, _, _, _, _, rfl⟩
       match i, hi with
       | 0, _ | 1, _ | 2, _ | 3, _ | 4, _ | 5, _ | 6, _ | 7, _ | 8, _ | 9, _ | 10, _ | 11, _ | 12, _ | 13, _ => exact ⟨⟨_, _, _, _, _, _, _, _, _, _, _, _, _, rfl⟩, fun t h => by cases h <;> exact of_decide_eq_true rfl⟩
       | i + 14, hi => exact absurd hi (by simp)
     case G0 => exact ⟨Tch.drew, fun _ => SBox.drew HC0.out⟩
     case step =>
       rintro i a w1 lst hi ⟨x26, x27, x28, x29, x30, x31, x32, x33, x34, x35, x36, x37, x38, rfl⟩ hl hcl hG hp;refine wpOp_via (fun K hK => ?_)
       match i, hi with
       | 0, _ =>
         have f7 := (SBox.tchO HT.out.h7 hG.1 HT.out.d3).cell 0;simp only [List.getElem?_toArray, List.getElem?_cons_zero] at f7;refine wpOp_at (by rfl) rfl ?_;go_simp;exact hK _ _ ⟨_, rfl, ⟨hG.1, fun h => hG.2 h⟩, fun _ => Below.refl _ _, rfl⟩
       | 1, _ =>
         refine wpOp_at (by rfl) rfl ?_;go_simp;exact hK _ _ ⟨_, rfl, ⟨hG.1, fun h => hG.2 h⟩, fun _ => Below.refl _ _, rfl⟩
       | 2, _ =>
         obtain rfl : x26 = _ := hp 0 (by kernel_rfl);obtain rfl : x27 = _ := hp 1 (by kernel_rfl);refine wpOp_at (by rfl) rfl ?_;go_simp;exact hK _ _ ⟨_, rfl, ⟨hG.1, fun h => hG.2 h⟩, fun _ => Below.refl _ _, rfl⟩
       | 3, _ =>
         obtain rfl : x28 = _ := hp 2 (by kernel_rfl);have fq := ((SBox.tchO HT.out.hq hG.1 HT.out.d5).cell k).trans (headA_at cb k hk);refine wpOp_at (by rfl) rfl ?_;go_simp;exact hK _ _ ⟨_, rfl, ⟨hG.1, fun h => hG.2 h⟩, fun _ => Below.refl _ _, rfl⟩
       | 4, _ =>
         refine wpOp_at (by rfl) rfl ?_;go_simp;exact hK _ _ ⟨_, rfl, ⟨hG.1, fun h => hG.2 h⟩, fun _ => Below.refl _ _, rfl⟩
       | 5, _ =>
         have f6 := (SBox.tchO HT.out.h6 hG.1 HT.out.d2).cell 0;simp only [List.getElem?_toArray, List.getElem?_cons_zero] at f6;refine wpOp_at (by rfl) rfl ?_;go_simp;exact hK _ _ ⟨_, rfl, ⟨hG.1, fun h => hG.2 h⟩, fun _ => Below.refl _ _, rfl⟩
       | 6, _ =>
         refine wpOp_at (by rfl) rfl ?_;go_simp;exact hK _ _ ⟨_, rfl, ⟨hG.1, fun h => hG.2 h⟩, fun _ => Below.refl _ _, rfl⟩
       | 7, _ =>
         obtain rfl : x31 = _ := hp 5 (by kernel_rfl);obtain rfl : x32 = _ := hp 6 (by kernel_rfl);refine wpOp_at (by rfl) rfl ?_;go_simp;exact hK _ _ ⟨_, rfl, ⟨hG.1, fun h => hG.2 h⟩, fun _ => Below.refl _ _, rfl⟩
       | 8, _ =>
         obtain rfl : x33 = _ := hp 7 (by kernel_rfl);have fr := ((SBox.tchO HT.out.hr hG.1 HT.out.d4).cell k).trans (headN_at k hk);refine wpOp_at (by rfl) rfl ?_;go_simp;exact hK _ _ ⟨_, rfl, ⟨hG.1, fun h => hG.2 h⟩, fun _ => Below.refl _ _, rfl⟩
       | 9, _ =>
         obtain rfl : x34 = _ := hp 8 (by kernel_rfl);refine wpOp_at (by rfl) rfl ?_;go_simp;exact hK _ _ ⟨_, rfl, ⟨hG.1, fun h => hG.2 h⟩, fun _ => Below.refl _ _, rfl⟩
       | 10, _ =>
         obtain rfl : x30 = _ := hp 4 (by kernel_rfl);obtain rfl : x35 = _ := hp 9 (by kernel_rfl);refine wpOp_at (by rfl) rfl ?_;go_simp;exact hK _ _ ⟨_, rfl, ⟨hG.1, fun h => hG.2 h⟩, fun _ => Below.refl _ _, rfl⟩
       | 11, _ =>
         obtain rfl : x36 = _ := hp 10 (by kernel_rfl);refine wpOp_at (by rfl) rfl ?_;go_simp;refine (NB.out _ (HLZ.out.tch hG.1 hcb5)).mono ?_;rintro e w9 ⟨he, b9⟩;rw [HN.out] at he;have he : e = .returned (.int .i64 v) := he;subst he;exact hK _ _ ⟨_, rfl, ⟨hG.1.trans (Tch.of b9), fun h => SBox.later (hG.2 h) b9⟩, fun _ => b9, rfl⟩
       | 12, _ =>
         obtain rfl : x29 = _ := hp 3 (by kernel_rfl);refine wpOp_at (by rfl) rfl ?_;go_simp;exact hK _ _ ⟨_, rfl, ⟨hG.1, fun h => hG.2 h⟩, fun _ => Below.refl _ _, rfl⟩
       | 13, _ =>
         obtain rfl : x38 = _ := hp 12 (by kernel_rfl);obtain rfl : x37 = _ := hp 11 (by kernel_rfl);refine wpOp_at (by rfl) rfl ?_;have hcx := hG.2 hl;have fz := SBox.free hcx k;have hst := hcx.set k (.int .i64 v);rw [set_cells c k hk v] at hst;obtain ⟨v0, hv0⟩ : ∃ v0, c.cells[k]? = some v0 := ⟨_, c.cells_at k hk⟩;have cz := (hcx.cell k).trans hv0;go_simp;exact hK _ _ ⟨undef, rfl, ⟨hG.1.trans (Tch.cell (O := fun x => x = cb) rfl), fun h => by simp at h⟩, fun h => absurd rfl h, hst⟩
       | i + 14, hi => exact absurd hi (by simp)
     case done =>
       rintro a9 w9 lst hl ⟨x26, x27, x28, x29, x30, x31, x32, x33, x34, x35, x36, x37, x38, rfl⟩ hG hp;have HF : Hid (SBox w9 cb 27 (c.set k v).cells ∧ Tch (fun x => x = cb) wz w9) := Lib.hid ⟨hp 13 (by decide), HT0.out.trans hG.1⟩;clear hp hG
       go_wp2
       go_end0;unfold HdAns;rw [HTQ.out];exact ⟨⟨rfl, HF.out.1⟩, HF.out.2⟩
 · have hpre2 : (nmH k).isPrefixOf (L s) = false := Bool.eq_false_iff.mpr hpre
   rw [hpre2] at HP
   have HTQ : Hid (takeQ k (c, []) (L s) = none) := Lib.hid (by
     unfold takeQ;rw [if_pos hk, if_neg hpre])
   clear hpre hpre2;go_wp2_with fail;refine (HP.out _).mono ?_;rintro e w9 ⟨rfl, rfl⟩;go_wp2_with fail;refine (HNO.out _).mono ?_;rintro e wz ⟨rfl, rfl⟩;unfold wrongE;go_wp2_with fail;refine ⟨rfl, ?_⟩;unfold HdAns;rw [HTQ.out];exact ⟨⟨rfl, Below.refl _ _⟩, Tch.refl _ _⟩
end Go.Proofs.YtkljcgopikdjjaaGreatDoor.Tx
end
section
namespace Go.Proofs.YtkljcgopikdjjaaGreatDoor.Tx
set_option maxRecDepth 100000
set_option maxHeartbeats 1000000
open Go.RowKit Go.Shelf Go.Maps Oct
def RdQ (o : Option M) (n : Nat) (w w' : World) : Prop := MBox w' (n + 1) (o.getD M.zero) ∧ Below n w w' ∧ n + 2 < w'.heap.size
theorem rdline_do (s : ByteArray) (hs : s.size ≤ 20000) (n : Nat) (w w0 : World) (hl : Lay w) (h5 : 5 ≤ n) (hb : Below n w0 w) (ha : SBox w n 9 #[.string s]) (hx : MBox w (n + 1) M.zero) (hd : SBox w (n + 2) 4 #[.bool false]) :
   Calls Tryz.prog 36 #[ptr n, ptr (n + 1)] w (Doing (stepL mayM (L s)).isSome (n + 2) (RdQ (stepL mayM (L s)) n w0)) := by
 have c0 : w.cell? ⟨n, 0, none⟩ = some (.string s) := (ha.cell 0).trans rfl;have HST := Lib.hid (step_any s hs w hl);have HX := Lib.hid hx;have HD := Lib.hid hd;have HB := Lib.hid hb;clear hx hd hb;unfold ptr
 go_enter Tryz.func36, Tryz.ntmps36
 go_wp2_with fail;refine HST.out.mono ?_;rintro e w1 ⟨he, hb1⟩;have HB1 := Lib.hid hb1;have HX1 := Lib.hid (show MBox w1 (n + 1) M.zero from SBox.later HX.out hb1);have HD1 := Lib.hid (HD.out.later hb1);clear hb1 c0;have hlt := HD.out.lt;cases ho : stepL mayM (L s) with
 | none =>
   rw [ho] at he;have he : e = wrongE := he;subst he;unfold wrongE;go_wp2_with fail;refine ⟨rfl, rfl, HD1.out, HX1.out, HB.out.trans (HB1.out.mono (by omega)), ?_⟩;have := HB1.out.size;omega
 | some x =>
   rw [ho] at he;have he : e = .returned x.val := he;subst he;have hX1 := HX1.out;unfold MBox M.cells at hX1;have X0 := hX1.cell 0;have X1 := hX1.cell 1;have X2 := hX1.cell 2;have X3 := hX1.cell 3;have X4 := hX1.cell 4;have X5 := hX1.cell 5;have X6 := hX1.cell 6;have X7 := hX1.cell 7;have X8 := hX1.cell 8;have X9 := hX1.cell 9;have X10 := hX1.cell 10;have X11 := hX1.cell 11;simp only [List.getElem?_toArray, List.getElem?_cons_zero, List.getElem?_cons_succ] at X0 X1 X2 X3 X4 X5 X6 X7 X8 X9 X10 X11;have Xl := hX1.lt;have Z0 := hX1.free 0;have Z1 := hX1.free 1;have Z2 := hX1.free 2;have Z3 := hX1.free 3;have Z4 := hX1.free 4;have Z5 := hX1.free 5;have Z6 := hX1.free 6;have Z7 := hX1.free 7;have Z8 := hX1.free 8;have Z9 := hX1.free 9;have Z10 := hX1.free 10;have Z11 := hX1.free 11;have HF := Lib.hid (fillM_box HX1.out x);have HT := Lib.hid (fillM_tch w1 (n + 1) x);clear hX1;unfold M.val M.cells;go_wp2_with fail;change bodyPost _ _ _ _ _ (fillM w1 (n + 1) x);go_end0;rw [ho];have hs1 := HB1.out.size;have ht := HT.out.size;refine ⟨rfl, (HT.out.block (n + 2) (by omega) (by omega)).trans HD1.out, HF.out, HB.out.trans ((HB1.out.mono (by omega)).trans (HT.out.below fun i hi => ⟨by omega, by omega⟩)), by omega⟩
theorem SBox.new' {b : Nat} (w : World) (t : TypeId) (c : Array Value) (h : b = w.heap.size) : SBox (w.alloc (.cells c t)) b t c := by
 subst h;exact SBox.new w t c
def rdAns (o : Option M) : Ending := match o with
 | some x => .returned (.tuple #[x.val, .int .i64 0])
 | none => .returned (.tuple #[M.zero.val, .int .i64 7])
theorem rdline_any (s : ByteArray) (hs : s.size ≤ 20000) (w : World) (hl : Lay w) :
   Calls Tryz.prog 13 #[.string s] w fun e w' => e = rdAns (stepL mayM (L s)) ∧ Below w.heap.size w w' := by
 have hmf : ∀ (fn : Fn) (first cap : Array Value) (w : World), (Instr.makeFunc fn first cap).run Tryz.prog w = .ok (.func fn first cap) w := fun _ _ _ _ => rfl;have hl5 := hl.size;have bS := SBox.new w 9 #[.string s];have bB := (Below.refl w.heap.size w).alloc (Nat.le_refl _) (.cells #[.string s] 9);have bX := SBox.new' (b := w.heap.size + 1) (w.alloc (.cells #[.string s] 9)) 40 zeroC (by simp);have bS2 := bS.later ((Below.refl _ (w.alloc (.cells #[.string s] 9))).alloc (Nat.le_refl _) (.cells zeroC 40));have bB2 := bB.alloc (by simp) (.cells zeroC 40);have bD := SBox.new' (b := w.heap.size + 2) ((w.alloc (.cells #[.string s] 9)).alloc (.cells zeroC 40)) 4 #[.bool false] (by simp);have bS3 := bS2.later ((Below.refl _ ((w.alloc (.cells #[.string s] 9)).alloc (.cells zeroC 40))).alloc (Nat.le_refl _) (.cells #[.bool false] 4));have bX3 := bX.later ((Below.refl _ ((w.alloc (.cells #[.string s] 9)).alloc (.cells zeroC 40))).alloc (Nat.le_refl _) (.cells #[.bool false] 4));have bB3 := bB2.alloc (by simp; omega) (.cells #[.bool false] 4);have hlay := hl.later bB3
 have HRD := Lib.hid (reads_any (stepL mayM (L s)).isSome 36 #[ptr w.heap.size, ptr (w.heap.size + 1)] (RdQ (stepL mayM (L s)) w.heap.size w) ((w.alloc (.cells #[.string s] 9)).alloc (.cells zeroC 40))
   (fun W => enters_of Tryz.func36 (by kernel_rfl) rfl _ W) (fun W h => by have := h.2.2; simp; omega)
   (by
     have h := rdline_do s hs w.heap.size _ w hlay hl5 bB3 bS3 bX3 bD
     simpa using h))
 clear bS bB bX bS2 bB2 bD bS3 bX3 bB3 hlay;unfold ptr at HRD;unfold zeroC M.zero M.cells at HRD
 go_enter Tryz.func13, Tryz.ntmps13
 go_wp2_with fail;refine HRD.out.mono ?_;rintro e w1 ⟨rfl, w2, ⟨hX, hB, hs⟩, ht⟩;have HX1 := Lib.hid (show MBox w1 (w.heap.size + 1) ((stepL mayM (L s)).getD M.zero) from (ht.block _ (by omega) (by simp)).trans hX);have HB1 := Lib.hid (hB.trans (ht.below fun i hi => ⟨by omega, by simp; omega⟩));have hsz : w.heap.size + 2 < w1.heap.size := Nat.lt_of_lt_of_le hs ht.size;clear hX hB hs ht HRD;cases ho : stepL mayM (L s) with
 | none =>
   rw [ho] at HX1;have hX1 := HX1.out;unfold MBox M.cells at hX1;have X0 := hX1.cell 0;have X1 := hX1.cell 1;have X2 := hX1.cell 2;have X3 := hX1.cell 3;have X4 := hX1.cell 4;have X5 := hX1.cell 5;have X6 := hX1.cell 6;have X7 := hX1.cell 7;have X8 := hX1.cell 8;have X9 := hX1.cell 9;have X10 := hX1.cell 10;have X11 := hX1.cell 11;simp only [List.getElem?_toArray, List.getElem?_cons_zero, List.getElem?_cons_succ] at X0 X1 X2 X3 X4 X5 X6 X7 X8 X9 X10 X11;have Xl := hX1.lt;have Z0 := hX1.free 0;have Z1 := hX1.free 1;have Z2 := hX1.free 2;have Z3 := hX1.free 3;have Z4 := hX1.free 4;have Z5 := hX1.free 5;have Z6 := hX1.free 6;have Z7 := hX1.free 7;have Z8 := hX1.free 8;have Z9 := hX1.free 9;have Z10 := hX1.free 10;have Z11 := hX1.free 11;have HF := Lib.hid (fillM_box HX1.out M.zero);have HT := Lib.hid (fillM_tch w1 (w.heap.size + 1) M.zero);clear hX1;go_wp2_with fail;change bodyPost _ _ _ _ _ (fillM w1 (w.heap.size + 1) M.zero);have hb9 : Below w.heap.size w (fillM w1 (w.heap.size + 1) M.zero) := HB1.out.trans (HT.out.below fun i hi => ⟨by omega, by omega⟩);have hX9 := HF.out;unfold M.cells at hX9
   generalize fillM w1 (w.heap.size + 1) M.zero = w9 at *
   have A0 := hX9.cell 0;have A1 := hX9.cell 1;have A2 := hX9.cell 2;have A3 := hX9.cell 3;have A4 := hX9.cell 4;have A5 := hX9.cell 5;have A6 := hX9.cell 6;have A7 := hX9.cell 7;have A8 := hX9.cell 8;have A9 := hX9.cell 9;have A10 := hX9.cell 10;have A11 := hX9.cell 11;simp only [List.getElem?_toArray, List.getElem?_cons_zero, List.getElem?_cons_succ] at A0 A1 A2 A3 A4 A5 A6 A7 A8 A9 A10 A11;have Al := hX9.lt;refine bodyPost_ret (v := .tuple #[M.zero.val, .int .i64 7]) ?_ rfl ⟨by rw [ho]; rfl, hb9⟩
   simp [results, Tryz.f13, go_sem, A0, A1, A2, A3, A4, A5, A6, A7, A8, A9, A10, A11, M.val, M.cells, M.zero]
 | some x =>
   rw [ho] at HX1;have HX1 := Lib.hid (show MBox w1 (w.heap.size + 1) x from HX1.out);have hX1 := HX1.out;unfold MBox M.cells at hX1;have X0 := hX1.cell 0;have X1 := hX1.cell 1;have X2 := hX1.cell 2;have X3 := hX1.cell 3;have X4 := hX1.cell 4;have X5 := hX1.cell 5;have X6 := hX1.cell 6;have X7 := hX1.cell 7;have X8 := hX1.cell 8;have X9 := hX1.cell 9;have X10 := hX1.cell 10;have X11 := hX1.cell 11;simp only [List.getElem?_toArray, List.getElem?_cons_zero, List.getElem?_cons_succ] at X0 X1 X2 X3 X4 X5 X6 X7 X8 X9 X10 X11;have Xl := hX1.lt;have Z0 := hX1.free 0;have Z1 := hX1.free 1;have Z2 := hX1.free 2;have Z3 := hX1.free 3;have Z4 := hX1.free 4;have Z5 := hX1.free 5;have Z6 := hX1.free 6;have Z7 := hX1.free 7;have Z8 := hX1.free 8;have Z9 := hX1.free 9;have Z10 := hX1.free 10;have Z11 := hX1.free 11;have HF := Lib.hid (fillM_box HX1.out x);have HT := Lib.hid (fillM_tch w1 (w.heap.size + 1) x);clear hX1;go_wp2_with fail;change bodyPost _ _ _ _ _ (fillM w1 (w.heap.size + 1) x);have hb9 : Below w.heap.size w (fillM w1 (w.heap.size + 1) x) := HB1.out.trans (HT.out.below fun i hi => ⟨by omega, by omega⟩);have hX9 := HF.out;unfold M.cells at hX9
   generalize fillM w1 (w.heap.size + 1) x = w9 at *
   have A0 := hX9.cell 0;have A1 := hX9.cell 1;have A2 := hX9.cell 2;have A3 := hX9.cell 3;have A4 := hX9.cell 4;have A5 := hX9.cell 5;have A6 := hX9.cell 6;have A7 := hX9.cell 7;have A8 := hX9.cell 8;have A9 := hX9.cell 9;have A10 := hX9.cell 10;have A11 := hX9.cell 11;simp only [List.getElem?_toArray, List.getElem?_cons_zero, List.getElem?_cons_succ] at A0 A1 A2 A3 A4 A5 A6 A7 A8 A9 A10 A11;have Al := hX9.lt;refine bodyPost_ret (v := .tuple #[x.val, .int .i64 0]) ?_ rfl ⟨by rw [ho]; rfl, hb9⟩
   simp [results, Tryz.f13, go_sem, A0, A1, A2, A3, A4, A5, A6, A7, A8, A9, A10, A11, M.val, M.cells]
end Go.Proofs.YtkljcgopikdjjaaGreatDoor.Tx
end
