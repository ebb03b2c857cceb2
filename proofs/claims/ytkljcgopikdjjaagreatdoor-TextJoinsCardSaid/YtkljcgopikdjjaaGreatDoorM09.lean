/- Layer 36 (script): Check. -/
import Derived.Test.YtkljcgopikdjjaaGreatDoorM07
import Derived.Test.YtkljcgopikdjjaaGreatDoorM08
import Derived.Deep.RegionWith
import Derived.Deep.DeepCutAuto
set_option linter.unusedVariables false
set_option linter.unusedSimpArgs false
set_option maxRecDepth 100000
section
namespace Go.Proofs.YtkljcgopikdjjaaGreatDoor.Tx
set_option maxRecDepth 100000
set_option maxHeartbeats 1000000
open Go.RowKit Go.Shelf Go.Maps Oct
inductive GrC : Nat → World → World → Prop
 | other {i : Nat} {w1 w2 : World} (h8 : i ≠ 8) (h : Below w1.heap.size w1 w2) : GrC i w1 w2
 | store {w1 w2 : World} {p : Nat} {c0 c1 c2 d0 d1 d2 : Value} (h1 : SBox w1 p 115 #[c0, c1, c2]) (h2 : SBox w2 p 115 #[d0, d1, d2]) (h : Tch (fun x => x = p) w1 w2) : GrC 8 w1 w2
theorem info_K : (Tryz.prog.info? 115).map (·.size) = some 3 := by kernel_rfl
theorem tchRow (W : World) (b : Nat) (ds : Array Value) : Tch (fun x => x = b) W (W.setRow b ds) := ⟨rfl, rfl, rfl, by simp, fun k hk hn => setRow_other W b k ds hn⟩
theorem box_oth {W W' : World} {a b : Nat} {t : TypeId} {cs : Array Value} (h : SBox W a t cs) (hn : a ≠ b) (ht : Tch (fun x => x = b) W W') : SBox W' a t cs := (ht.block a h.lt hn).trans h
theorem GrC.vmap {i : Nat} {w1 w2 : World} (h : GrC i w1 w2) {kt : TypeId} {b nn : Nat} {f : Lit → Option Value} (hv : VMap w1 kt b nn f) : VMap w2 kt b nn f := by
 cases h with
 | other _ h => exact hv.later h
 | store h1 _ h => exact hv.block (h.block b hv.lt fun e => hv.ne h1 e.symm)
theorem GrC.kind {i : Nat} {w1 w2 : World} (h : GrC i w1 w2) {p : Nat} {c0 c1 c2 : Value} (hp : SBox w1 p 115 #[c0, c1, c2]) : ∃ d0 d1 d2, SBox w2 p 115 #[d0, d1, d2] := by
 cases h with
 | other _ h => exact ⟨_, _, _, hp.later h⟩
 | @store _ _ p' _ _ _ _ _ _ h1 h2 h =>
   by_cases e : p = p'
   · subst e; exact ⟨_, _, _, h2⟩
   · exact ⟨_, _, _, box_oth hp e h⟩
theorem GrC.kind8 {i : Nat} {w1 w2 : World} (h : GrC i w1 w2) (hi : i ≠ 8) {p : Nat} {cs : Array Value} (hp : SBox w1 p 115 cs) : SBox w2 p 115 cs := by
 cases h with
 | other _ h => exact hp.later h
 | store => exact absurd rfl hi
theorem SBox.setRow {W : World} {b : Nat} {t : TypeId} {cs : Array Value} (h : SBox W b t cs) (ds : Array Value) : SBox (W.setRow b ds) b t ds := setRow_heap W b cs ds t (0, 0) h
theorem kind_look (x : Nat) (hx : x < 256) {W : World} {m : Nat} (hv : VMap W 5 m 7 (natF .u8 kindF)) :
   (Instr.lookup 117 (.map (some m)) (.int .u8 x) true).run Tryz.prog W = .ok (.tuple #[(kindF x).getD (kv 0 0 .nilFunc), .bool (kindF x).isSome]) W := by
 have hz : (zeroValue 115).run Tryz.prog W = .ok (kv 0 0 .nilFunc) W := by kernel_rfl
 rw [hv.look_ok kU8 Tryz.underlying117 hz (key8 (x := x) hx), natF_at]
theorem wpOp_at {P : Program} {ops : Array Oper} {Q : Exit → Act → World → Prop} {i : Nat} {o : Oper} {K : Act → World → Prop} {a : Act} {w : World} (ho : ops[i]? = some o) (hg : o.guard = none) (h : o.wp P a w K Q) : wpOp P ops Q i K a w := by
 unfold wpOp;rw [ho];have : Region.wanted o (yielded ops a.tmps) = true := by unfold Region.wanted; rw [hg]
 simp only [this, if_true];exact .inl h
def bitB (a i : Int) : Bool := bits .and .i64 a i != 0
structure MayG (a b : Int) (kn : Bool) (x : M) : Prop where
 known : kn = true
 co0 : ¬ x.co < 0
 co1 : ¬ 8 ≤ x.co
 n0 : ¬ x.n < 0
 n1 : ¬ b < x.n
 ino : ¬ 256 < x.ino
 t : ¬ 255 < x.t.length
 b1 : (bitB a 1 || x.co == 0) = true
 b4 : (bitB a 4 || (x.ino : Int) == 0) = true
 b8 : (bitB a 8 || decide (x.c = Call.C.zero 0)) = true
 b16 : (bitB a 16 || (B x.t).toList.isEmpty) = true
 ck : bitB a 8 = true → x.c.checkE = 0
theorem is_any (a b i : Int) (fv : Value) (z : Bool) (p : Nat) (w : World) (h : SBox w p 115 #[.int .i64 a, .int .i64 b, fv]) :
   Calls Tryz.prog 65 #[.int .i64 i, .bool z, .pointer (some ⟨p, 0, none⟩)] w fun e w' => e = .returned (.bool (bitB a i || z)) ∧ w = w' := by
 have X0 := h.cell 0;have X1 := h.cell 1;have X2 := h.cell 2;simp only [List.getElem?_toArray, List.getElem?_cons_zero, List.getElem?_cons_succ] at X0 X1 X2;have Xl := h.lt;clear h;obtain ⟨q, hq⟩ : ∃ q, bitB a i = q := ⟨_, rfl⟩;rw [hq];unfold bitB at hq;cases q
 · go_enter Tryz.func65, Tryz.ntmps65
   go_wp2
   go_ret;exact ⟨rfl, rfl⟩
 · go_enter Tryz.func65, Tryz.ntmps65
   go_wp2
   go_ret;exact ⟨rfl, rfl⟩
theorem check_main (x : M) (a b : Int) (fv : Value) (kn : Bool) (wz : World) (hl : Lay wz) (hx : x.k < 256) (hd : x.d < 256) (hsz : x.size ≤ 100000) (hfv : (#[Value.int .i64 a, .int .i64 b, fv].all (·.oneCell')) = true) (hkn : ∀ W m, VMap W 5 m 7 (natF .u8 kindF) → (Instr.lookup 117 (.map (some m)) (.int .u8 x.k) true).run Tryz.prog W = .ok (.tuple #[kv a b fv, .bool kn]) W) :
   Calls Tryz.prog 32 #[x.val] wz fun e w' => ∃ r : Int, e = .returned (.int .i64 r) ∧ (r = 0 ∧ MayG a b kn x ∨ r = 2 ∧ ¬ MayG a b kn x) ∧ Below wz.heap.size wz w' := by
 have HL := Lib.hid hl;have hsz2 : x.p.length ≤ 100000 ∧ x.p2.length ≤ 100000 ∧ x.da.length ≤ 100000 := by unfold M.size at hsz; omega
 have HCK := Lib.hid (fun W hW => Call.check_any x.c W hW hd (by show x.p.length ≤ _; unfold maxLen; omega) (by show x.p2.length ≤ _; unfold maxLen; omega) (by show x.da.length ≤ _; unfold maxLen; omega));clear hl hsz hsz2 hd;unfold M.val M.cells
 go_enter Tryz.func32, Tryz.ntmps32
 go_wp2_with fail;refine wp_region_phi3 (by kernel_rfl) (fun | 0 => some 7 | 1 => some 8 | 2 => some 9 | 3 => some 10 | 4 => some 6 | 5 => some 11 | 6 => some 12 | 7 => some 3 | 8 => none | 9 => some 4 | _ => none) (fun a => ∃ x3 x4 x6 x7 x8 x9 x10 x11 x12 : Value, a = ⟨#[x.val, .pointer (some ⟨wz.heap.size, 0, none⟩), .int .i64 0, x3, x4, undef, x6, x7, x8, x9, x10, x11, x12, undef, undef, undef, undef, undef, undef, undef, undef, undef, undef, undef, undef, undef, undef, undef, undef, undef, undef, undef, undef, undef, undef, undef, undef, undef, undef, undef, undef, undef, undef, undef, undef, undef, undef, undef, undef, undef, undef, undef, undef, undef, undef, undef, undef, undef, undef, undef, undef, undef, undef, undef, undef, undef, undef, undef, undef, undef, undef, undef, undef, undef, undef], []⟩) (fun lst W => Below wz.heap.size wz W ∧ MBox W wz.heap.size x) (GrC) (fun | 0 => (fun f w => ∃ m, f 0 = Value.map (some m) ∧ VMap w 5 m 7 (natF .u8 kindF)) | 1 => (fun f w => f 1 = Value.pointer (some ⟨wz.heap.size, 0, none⟩)) | 2 => (fun f w => f 2 = Value.int .u8 x.k) | 3 => (fun f w => f 3 = Value.tuple #[kv a b fv, .bool kn]) | 4 => (fun f w => f 4 = Value.tuple #[kv a b fv, .bool kn]) | 5 => (fun f w => f 5 = kv a b fv) | 6 => (fun f w => f 6 = Value.bool kn) | 7 => (fun f w => ∃ p c0 c1 c2, f 7 = ptr p ∧ wz.heap.size < p ∧ SBox w p 115 #[c0, c1, c2]) | 8 => (fun f w => ∃ p, f 7 = ptr p ∧ wz.heap.size < p ∧ SBox w p 115 #[.int .i64 a, .int .i64 b, fv]) | 9 => (fun f w => f 9 = Value.bool kn) | _ => (fun _ _ => True)) (by kernel_rfl) ?stb ?dep (by kernel_rfl) ?AA ⟨_, _, _, _, _, _, _, _, _, rfl⟩ ?G0 ?step ?done
 case stb =>
   intro i j v w1 w2 hi hj hij hw hp hs;have hi : i < 10 := hi
   match j, hp with
   | 0, hp =>
     obtain ⟨m, h1, h2⟩ := hp;exact ⟨m, h1, hs.vmap h2⟩
   | 1, hp | 2, hp | 3, hp | 4, hp | 5, hp | 6, hp => exact hp
   | 7, hp =>
     obtain ⟨p, c0, c1, c2, h1, h2, h3⟩ := hp;obtain ⟨d0, d1, d2, h4⟩ := hs.kind h3;exact ⟨p, d0, d1, d2, h1, h2, h4⟩
   | 8, hp =>
     obtain ⟨p, h1, h2, h3⟩ := hp;exact ⟨p, h1, h2, hs.kind8 (fun e => hij e) h3⟩
   | 9, hp => exact hp
   | j + 10, _ => exact trivial
 case dep =>
   intro j f g w hj hfg hp;have hj : j < 10 := hj
   match j, hp, hfg with
   | 0, hp, hfg =>
     have hq : ∃ m, f 0 = Value.map (some m) ∧ VMap w 5 m 7 (natF .u8 kindF) := hp;rw [hfg 0 (by show 0 < 10; decide) (by first | exact .inl rfl | exact .inr (by kernel_rfl))] at hq;exact hq
   | 1, hp, hfg =>
     have hq : f 1 = Value.pointer (some ⟨wz.heap.size, 0, none⟩) := hp;rw [hfg 1 (by show 1 < 10; decide) (by first | exact .inl rfl | exact .inr (by kernel_rfl))] at hq;exact hq
   | 2, hp, hfg =>
     have hq : f 2 = Value.int .u8 x.k := hp;rw [hfg 2 (by show 2 < 10; decide) (by first | exact .inl rfl | exact .inr (by kernel_rfl))] at hq;exact hq
   | 3, hp, hfg =>
     have hq : f 3 = Value.tuple #[kv a b fv, .bool kn] := hp;rw [hfg 3 (by show 3 < 10; decide) (by first | exact .inl rfl | exact .inr (by kernel_rfl))] at hq;exact hq
   | 4, hp, hfg =>
     have hq : f 4 = Value.tuple #[kv a b fv, .bool kn] := hp;rw [hfg 4 (by show 4 < 10; decide) (by first | exact .inl rfl | exact .inr (by kernel_rfl))] at hq;exact hq
   | 5, hp, hfg =>
     have hq : f 5 = kv a b fv := hp;rw [hfg 5 (by show 5 < 10; decide) (by first | exact .inl rfl | exact .inr (by kernel_rfl))] at hq;exact hq
   | 6, hp, hfg =>
     have hq : f 6 = Value.bool kn := hp;rw [hfg 6 (by show 6 < 10; decide) (by first | exact .inl rfl | exact .inr (by kernel_rfl))] at hq;exact hq
   | 7, hp, hfg =>
     have hq : ∃ p c0 c1 c2, f 7 = ptr p ∧ wz.heap.size < p ∧ SBox w p 115 #[c0, c1, c2] := hp;rw [hfg 7 (by show 7 < 10; decide) (by first | exact .inl rfl | exact .inr (by kernel_rfl))] at hq;exact hq
   | 8, hp, hfg =>
     have hq : ∃ p, f 7 = ptr p ∧ wz.heap.size < p ∧ SBox w p 115 #[.int .i64 a, .int .i64 b, fv] := hp;rw [hfg 7 (by show 7 < 10; decide) (by first | exact .inl rfl | exact .inr (by kernel_rfl))] at hq;exact hq
   | 9, hp, hfg =>
     have hq : f 9 = Value.bool kn := hp;rw [hfg 9 (by show 9 < 10; decide) (by first | exact .inl rfl | exact .inr (by kernel_rfl))] at hq;exact hq
   | j + 10, _, _ => exact trivial
 case AA =>
   rintro i a v hi ⟨_, _, _, _, _, _, _, _, _, rfl⟩
   match i, hi with
   | 0, _ | 1, _ | 2, _ | 3, _ | 4, _ | 5, _ | 6, _ | 7, _ | 8, _ | 9, _ => exact ⟨⟨_, _, _, _, _, _, _, _, _, rfl⟩, fun t h => by cases h <;> exact of_decide_eq_true rfl⟩
   | i + 10, hi => exact absurd hi (by simp)
 case G0 => exact ⟨((Below.refl _ _).alloc (Nat.le_refl _) _).drew, (SBox.new wz _ _).drew⟩
 case step =>
   rintro i a w1 lst hi ⟨x3, x4, x6, x7, x8, x9, x10, x11, x12, rfl⟩ hl hcl hG hp;refine wpOp_via (fun K hK => ?_)
   match i, hi with
   | 0, _ =>
     obtain ⟨hb, hr⟩ := hG;refine wpOp_at (by rfl) rfl ?_;go_simp;refine Calls.mono (kinds_any w1) ?_;rintro e w2 ⟨m, rfl, h1, h2, h3⟩;exact hK _ _ ⟨_, rfl, ⟨hb.trans (h3.mono hb.size), hr.later h3⟩, .other (by decide) h3, m, rfl, h1⟩
   | 1, _ =>
     obtain ⟨hb, hr⟩ := hG;have hlz := hr.lt;refine wpOp_at (by rfl) rfl ?_;go_simp;exact hK _ _ ⟨_, rfl, ⟨hb, hr⟩, .other (by decide) (Below.refl _ _), rfl⟩
   | 2, _ =>
     obtain ⟨hb, hr⟩ := hG;obtain rfl : x8 = _ := hp 1 (by kernel_rfl);have c1 := hr.cell 0;unfold M.cells at c1;simp only [List.getElem?_toArray, List.getElem?_cons_zero] at c1;refine wpOp_at (by rfl) rfl ?_;go_simp;exact hK _ _ ⟨_, rfl, ⟨hb, hr⟩, .other (by decide) (Below.refl _ _), rfl⟩
   | 3, _ =>
     obtain ⟨hb, hr⟩ := hG;obtain ⟨m, e7, hv⟩ := hp 0 (by kernel_rfl);change x7 = _ at e7;subst e7;obtain rfl : x9 = _ := hp 2 (by kernel_rfl);have hk := hkn _ _ hv;refine wpOp_at (by rfl) rfl ?_;go_simp;exact hK _ _ ⟨_, rfl, ⟨hb, hr⟩, .other (by decide) (Below.refl _ _), rfl⟩
   | 4, _ =>
     obtain ⟨hb, hr⟩ := hG;obtain rfl : x10 = _ := hp 3 (by kernel_rfl);refine wpOp_at (by rfl) rfl ?_;go_simp;exact hK _ _ ⟨_, rfl, ⟨hb, hr⟩, .other (by decide) (Below.refl _ _), rfl⟩
   | 5, _ =>
     obtain ⟨hb, hr⟩ := hG;obtain rfl : x6 = _ := hp 4 (by kernel_rfl);refine wpOp_at (by rfl) rfl ?_;go_simp;exact hK _ _ ⟨_, rfl, ⟨hb, hr⟩, .other (by decide) (Below.refl _ _), rfl⟩
   | 6, _ =>
     obtain ⟨hb, hr⟩ := hG;obtain rfl : x6 = _ := hp 4 (by kernel_rfl);refine wpOp_at (by rfl) rfl ?_;go_simp;exact hK _ _ ⟨_, rfl, ⟨hb, hr⟩, .other (by decide) (Below.refl _ _), rfl⟩
   | 7, _ =>
     obtain ⟨hb, hr⟩ := hG;refine wpOp_at (by rfl) rfl ?_;have hlz := hr.lt;go_simp;exact hK _ _ ⟨_, rfl, ⟨hb.alloc hb.size _, SBox.alloc hr _⟩, .other (by decide) ((Below.refl _ _).alloc (Nat.le_refl _) _), w1.heap.size, _, _, _, rfl, hlz, SBox.new _ _ _⟩
   | 8, _ =>
     obtain ⟨hb, hr⟩ := hG;obtain ⟨p, c0, c1, c2, e3, hpz, h3⟩ := hp 7 (by kernel_rfl);change x3 = _ at e3;subst e3;obtain rfl : x11 = _ := hp 5 (by kernel_rfl);refine wpOp_at (by rfl) rfl ?_;unfold ptr kv;refine wp_store_row _ _ _ rfl p #[.int .i64 a, .int .i64 b, fv] rfl rfl _ _ h3 info_K rfl hfv ?_;exact hK _ _ ⟨undef, rfl, ⟨hb.trans ((tchRow w1 p _).below fun i hi => ⟨Nat.lt_of_lt_of_le hi hb.size, fun e => by omega⟩), box_oth hr (by omega) (tchRow w1 p _)⟩, .store h3 (SBox.setRow h3 _) (tchRow w1 p _), p, rfl, hpz, SBox.setRow h3 _⟩
   | 9, _ =>
     obtain ⟨hb, hr⟩ := hG;obtain rfl : x12 = _ := hp 6 (by kernel_rfl);refine wpOp_at (by rfl) rfl ?_;go_simp;exact hK _ _ ⟨_, rfl, ⟨hb, hr⟩, .other (by decide) (Below.refl _ _), rfl⟩
   | i + 10, hi => exact absurd hi (by simp)
 case done =>
   rintro a9 w2 lst hl ⟨x3, x4, x6, x7, x8, x9, x10, x11, x12, rfl⟩ ⟨hb, hr⟩ hp;obtain ⟨p, e3, hpz, h3⟩ := hp 8 (by decide);change x3 = _ at e3;subst e3;obtain rfl : x4 = _ := hp 9 (by decide);clear hp;have S1 := Lib.hid (And.intro hb (And.intro hr (And.intro hpz h3)));clear hb hr h3;unfold ptr;obtain ⟨HB0, HX0, HP0, HK0⟩ := S1.out;have HXc := HX0;unfold MBox M.cells at HXc;have X0 := HXc.cell 0;have X1 := HXc.cell 1;have X2 := HXc.cell 2;have X3 := HXc.cell 3;have X4 := HXc.cell 4;have X5 := HXc.cell 5;have X6 := HXc.cell 6;have X7 := HXc.cell 7;have X8 := HXc.cell 8;have X9 := HXc.cell 9;have X10 := HXc.cell 10;have X11 := HXc.cell 11;simp only [List.getElem?_toArray, List.getElem?_cons_zero, List.getElem?_cons_succ] at X0 X1 X2 X3 X4 X5 X6 X7 X8 X9 X10 X11;have Xl := HXc.lt;have HKc := HK0;have K0 := HKc.cell 0;have K1 := HKc.cell 1;have K2 := HKc.cell 2;simp only [List.getElem?_toArray, List.getElem?_cons_zero, List.getElem?_cons_succ] at K0 K1 K2;have Kl := HKc.lt;have HB := Lib.hid HB0;have HI := Lib.hid (fun i z => is_any a b i fv z p w2 HK0);have HLY := Lib.hid (HL.out.kinds.later HB0);have hbs : (B x.t).size = x.t.length := rfl;clear HXc HX0 HB0 HK0 HKc S1 HP0 hl hkn hx
   by_cases c_known : kn = true
   case neg =>
     have d : kn = false := by simpa using c_known
     go_wp2_with fail;go_ret;exact ⟨2, rfl, .inr ⟨rfl, fun hM => c_known hM.known⟩, HB.out⟩
   subst c_known
   by_cases c_co0 : x.co < 0
   case pos =>
     have d0 : decide (x.co < 0) = true := by simp only [decide_eq_true_eq]; omega
     go_wp2_with fail;go_ret;exact ⟨2, rfl, .inr ⟨rfl, fun hM => hM.co0 c_co0⟩, HB.out⟩
   have d_co00 : decide (x.co < 0) = false := by simp only [decide_eq_false_iff_not]; omega
   by_cases c_co1 : 8 ≤ x.co
   case pos =>
     have d0 : decide (8 ≤ x.co) = true := by simp only [decide_eq_true_eq]; omega
     go_wp2_with fail;go_ret;exact ⟨2, rfl, .inr ⟨rfl, fun hM => hM.co1 c_co1⟩, HB.out⟩
   have d_co10 : decide (8 ≤ x.co) = false := by simp only [decide_eq_false_iff_not]; omega
   by_cases c_n0 : x.n < 0
   case pos =>
     have d0 : decide (x.n < 0) = true := by simp only [decide_eq_true_eq]; omega
     go_wp2_with fail;go_ret;exact ⟨2, rfl, .inr ⟨rfl, fun hM => hM.n0 c_n0⟩, HB.out⟩
   have d_n00 : decide (x.n < 0) = false := by simp only [decide_eq_false_iff_not]; omega
   by_cases c_n1 : b < x.n
   case pos =>
     have d0 : decide (b < x.n) = true := by simp only [decide_eq_true_eq]; omega
     go_wp2_with fail;go_ret;exact ⟨2, rfl, .inr ⟨rfl, fun hM => hM.n1 c_n1⟩, HB.out⟩
   have d_n10 : decide (b < x.n) = false := by simp only [decide_eq_false_iff_not]; omega
   by_cases c_ino : 256 < x.ino
   case pos =>
     have d0 : decide (256 < (x.ino : Int)) = true := by simp only [decide_eq_true_eq]; omega
     have d1 : decide (256 < x.ino) = true := by simp only [decide_eq_true_eq]; omega
     go_wp2_with fail;go_ret;exact ⟨2, rfl, .inr ⟨rfl, fun hM => hM.ino c_ino⟩, HB.out⟩
   have d_ino0 : decide (256 < (x.ino : Int)) = false := by simp only [decide_eq_false_iff_not]; omega
   have d_ino1 : decide (256 < x.ino) = false := by simp only [decide_eq_false_iff_not]; omega
   by_cases c_t : 255 < x.t.length
   case pos =>
     have d0 : decide (255 < ((B x.t).size : Int)) = true := by simp only [decide_eq_true_eq]; omega
     have d1 : decide (255 < (B x.t).size) = true := by simp only [decide_eq_true_eq]; omega
     go_wp2_with fail;go_ret;exact ⟨2, rfl, .inr ⟨rfl, fun hM => hM.t c_t⟩, HB.out⟩
   have d_t0 : decide (255 < ((B x.t).size : Int)) = false := by simp only [decide_eq_false_iff_not]; omega
   have d_t1 : decide (255 < (B x.t).size) = false := by simp only [decide_eq_false_iff_not]; omega
   have HG := Lib.hid (And.intro c_co0 (And.intro c_co1 (And.intro c_n0 (And.intro c_n1 (And.intro c_ino c_t)))));go_wp2_with fail;refine (HI.out 1 (x.co == 0)).mono ?_;rintro e w9 ⟨rfl, rfl⟩
   by_cases c_b1 : (bitB a 1 || x.co == 0) = true
   case neg =>
     have d : (bitB a 1 || x.co == 0) = false := by simpa using c_b1
     rw [d];go_wp2_with fail;go_ret;exact ⟨2, rfl, .inr ⟨rfl, fun hM => c_b1 hM.b1⟩, HB.out⟩
   have H_b1 := Lib.hid c_b1;rw [c_b1];go_wp2_with fail;refine (HI.out 4 ((x.ino : Int) == 0)).mono ?_;rintro e w9 ⟨rfl, rfl⟩
   by_cases c_b4 : (bitB a 4 || (x.ino : Int) == 0) = true
   case neg =>
     have d : (bitB a 4 || (x.ino : Int) == 0) = false := by simpa using c_b4
     rw [d];go_wp2_with fail;go_ret;exact ⟨2, rfl, .inr ⟨rfl, fun hM => c_b4 hM.b4⟩, HB.out⟩
   have H_b4 := Lib.hid c_b4;rw [c_b4]
   go_upto_region 13 with fail
   go_cut [38] (fun i wx => i = .bool (!(bitB a 8 || decide (x.c = Call.C.zero 0))) ∧ wx = w2)
   case first =>
     by_cases c_d : x.d = 0
     case neg =>
       have hzz : decide (x.c = Call.C.zero 0) = false := by rw [decide_eq_false_iff_not]; intro e; exact c_d (congrArg Call.C.d e)
       have g0 : decide (x.d = 0) = false := decide_eq_false c_d;have g1 : (x.d == 0) = false := by simpa using c_d
       have g2 : decide ((x.d : Int) = 0) = false := by simp; omega
       have g3 : ((x.d : Int) == 0) = false := by simp; omega
       clear c_d;go_wp2_with fail
       all_goals
         refine (HI.out 8 false).mono ?_;rintro e w9 ⟨rfl, rfl⟩;go_wp2_with fail
         go_meet
         case rel => exact ⟨by rw [hzz]; simp, rfl⟩
     have k_d : decide (x.d = 0) = true := decide_eq_true c_d;have m_d : (x.d == 0) = true := by simpa using c_d
     have n_d : decide ((x.d : Int) = 0) = true := by simp; omega
     have o_d : ((x.d : Int) == 0) = true := by simp; omega
     have q_d := Lib.hid c_d;clear c_d
     by_cases c_p : x.p = []
     case neg =>
       have hzz : decide (x.c = Call.C.zero 0) = false := by rw [decide_eq_false_iff_not]; intro e; exact c_p (congrArg L (congrArg Call.C.p e))
       have g0 : (B x.p).toList.isEmpty = false := empty_no (List.length_pos_iff.mpr c_p);clear c_p;go_wp2_with fail
       all_goals
         refine (HI.out 8 false).mono ?_;rintro e w9 ⟨rfl, rfl⟩;go_wp2_with fail
         go_meet
         case rel => exact ⟨by rw [hzz]; simp, rfl⟩
     have k_p : (B x.p).toList.isEmpty = true := by rw [Path.toList_L, L_B, c_p]; rfl
     have q_p := Lib.hid c_p;clear c_p
     by_cases c_p2 : x.p2 = []
     case neg =>
       have hzz : decide (x.c = Call.C.zero 0) = false := by rw [decide_eq_false_iff_not]; intro e; exact c_p2 (congrArg L (congrArg Call.C.p2 e))
       have g0 : (B x.p2).toList.isEmpty = false := empty_no (List.length_pos_iff.mpr c_p2);clear c_p2;go_wp2_with fail
       all_goals
         refine (HI.out 8 false).mono ?_;rintro e w9 ⟨rfl, rfl⟩;go_wp2_with fail
         go_meet
         case rel => exact ⟨by rw [hzz]; simp, rfl⟩
     have k_p2 : (B x.p2).toList.isEmpty = true := by rw [Path.toList_L, L_B, c_p2]; rfl
     have q_p2 := Lib.hid c_p2;clear c_p2
     by_cases c_fd : x.fd = 0
     case neg =>
       have hzz : decide (x.c = Call.C.zero 0) = false := by rw [decide_eq_false_iff_not]; intro e; exact c_fd (congrArg Call.C.fd e)
       have g0 : decide (x.fd = 0) = false := decide_eq_false c_fd;have g1 : (x.fd == 0) = false := by simpa using c_fd
       clear c_fd;go_wp2_with fail
       all_goals
         refine (HI.out 8 false).mono ?_;rintro e w9 ⟨rfl, rfl⟩;go_wp2_with fail
         go_meet
         case rel => exact ⟨by rw [hzz]; simp, rfl⟩
     have k_fd : decide (x.fd = 0) = true := decide_eq_true c_fd;have m_fd : (x.fd == 0) = true := by simpa using c_fd
     have q_fd := Lib.hid c_fd;clear c_fd
     by_cases c_pg : x.pg = 0
     case neg =>
       have hzz : decide (x.c = Call.C.zero 0) = false := by rw [decide_eq_false_iff_not]; intro e; exact c_pg (congrArg Call.C.pg e)
       have g0 : decide (x.pg = 0) = false := decide_eq_false c_pg;have g1 : (x.pg == 0) = false := by simpa using c_pg
       clear c_pg;go_wp2_with fail
       all_goals
         refine (HI.out 8 false).mono ?_;rintro e w9 ⟨rfl, rfl⟩;go_wp2_with fail
         go_meet
         case rel => exact ⟨by rw [hzz]; simp, rfl⟩
     have k_pg : decide (x.pg = 0) = true := decide_eq_true c_pg;have m_pg : (x.pg == 0) = true := by simpa using c_pg
     have q_pg := Lib.hid c_pg;clear c_pg
     by_cases c_sz : x.sz = 0
     case neg =>
       have hzz : decide (x.c = Call.C.zero 0) = false := by rw [decide_eq_false_iff_not]; intro e; exact c_sz (congrArg Call.C.sz e)
       have g0 : decide (x.sz = 0) = false := decide_eq_false c_sz;have g1 : (x.sz == 0) = false := by simpa using c_sz
       have g2 : decide ((x.sz : Int) = 0) = false := by simp; omega
       have g3 : ((x.sz : Int) == 0) = false := by simp; omega
       clear c_sz;go_wp2_with fail
       all_goals
         refine (HI.out 8 false).mono ?_;rintro e w9 ⟨rfl, rfl⟩;go_wp2_with fail
         go_meet
         case rel => exact ⟨by rw [hzz]; simp, rfl⟩
     have k_sz : decide (x.sz = 0) = true := decide_eq_true c_sz;have m_sz : (x.sz == 0) = true := by simpa using c_sz
     have n_sz : decide ((x.sz : Int) = 0) = true := by simp; omega
     have o_sz : ((x.sz : Int) == 0) = true := by simp; omega
     have q_sz := Lib.hid c_sz;clear c_sz
     by_cases c_da : x.da = []
     case neg =>
       have hzz : decide (x.c = Call.C.zero 0) = false := by rw [decide_eq_false_iff_not]; intro e; exact c_da (congrArg L (congrArg Call.C.da e))
       have g0 : (B x.da).toList.isEmpty = false := empty_no (List.length_pos_iff.mpr c_da);clear c_da;go_wp2_with fail
       all_goals
         refine (HI.out 8 false).mono ?_;rintro e w9 ⟨rfl, rfl⟩;go_wp2_with fail
         go_meet
         case rel => exact ⟨by rw [hzz]; simp, rfl⟩
     have k_da : (B x.da).toList.isEmpty = true := by rw [Path.toList_L, L_B, c_da]; rfl
     have q_da := Lib.hid c_da;clear c_da;have hzz : decide (x.c = Call.C.zero 0) = true := by rw [decide_eq_true_eq]; unfold M.c Call.C.zero; rw [q_d.out, q_p.out, q_p2.out, q_fd.out, q_pg.out, q_sz.out, q_da.out]; rfl
     go_wp2_with fail
     all_goals
       refine (HI.out 8 true).mono ?_;rintro e w9 ⟨rfl, rfl⟩;go_wp2_with fail
       go_meet
       case rel => exact ⟨by rw [hzz]; simp, rfl⟩
   case rest =>
     as_aux_lemma =>
       obtain ⟨rfl, rfl⟩ := hcut
       by_cases c_b8 : (bitB a 8 || decide (x.c = Call.C.zero 0)) = true
       case neg =>
         have d : (bitB a 8 || decide (x.c = Call.C.zero 0)) = false := by simpa using c_b8
         rw [d];go_wp2_with fail;go_ret;exact ⟨2, rfl, .inr ⟨rfl, fun hM => c_b8 hM.b8⟩, HB.out⟩
       have H_b8 := Lib.hid c_b8;rw [c_b8];go_wp2_with fail;refine (HI.out 16 ((B x.t).toList.isEmpty)).mono ?_;rintro e w9 ⟨rfl, rfl⟩
       by_cases c_b16 : (bitB a 16 || (B x.t).toList.isEmpty) = true
       case neg =>
         have d : (bitB a 16 || (B x.t).toList.isEmpty) = false := by simpa using c_b16
         rw [d];go_wp2_with fail;go_ret;exact ⟨2, rfl, .inr ⟨rfl, fun hM => c_b16 hM.b16⟩, HB.out⟩
       have H_b16 := Lib.hid c_b16;rw [c_b16];obtain ⟨q, hq⟩ : ∃ q, bitB a 8 = q := ⟨_, rfl⟩;have HQ := Lib.hid hq;unfold bitB at hq;cases q
       · go_wp2_with fail
         go_ret;exact ⟨0, rfl, .inl ⟨rfl, ⟨rfl, by have := HG.out.1; omega, by have := HG.out.2.1; omega, by have := HG.out.2.2.1; omega, by have := HG.out.2.2.2.1; omega, by have := HG.out.2.2.2.2.1; omega, by have := HG.out.2.2.2.2.2; omega, by have h := H_b1.out; simpa using h, by have h := H_b4.out; simpa using h, by have h := H_b8.out; simpa using h, by have h := H_b16.out; simpa using h, fun h => by rw [HQ.out] at h; cases h⟩⟩, HB.out⟩
       · go_wp2_with fail
         refine (HCK.out _ HLY.out).mono ?_;rintro e w3 ⟨rfl, hb3⟩;have HB3 := Lib.hid (HB.out.trans (hb3.mono HB.out.size));clear hb3
         by_cases c_ck : x.c.checkE = 0
         · have H_ck := Lib.hid c_ck
           have g0 : (x.c.checkE != 0) = false := by simpa using c_ck
           have g1 : decide (x.c.checkE = 0) = true := by simpa using c_ck
           have g2 : (x.c.checkE == 0) = true := by simpa using c_ck
           go_wp2_with fail;go_ret;exact ⟨0, rfl, .inl ⟨rfl, ⟨rfl, by have := HG.out.1; omega, by have := HG.out.2.1; omega, by have := HG.out.2.2.1; omega, by have := HG.out.2.2.2.1; omega, by have := HG.out.2.2.2.2.1; omega, by have := HG.out.2.2.2.2.2; omega, by have h := H_b1.out; simpa using h, by have h := H_b4.out; simpa using h, by have h := H_b8.out; simpa using h, by have h := H_b16.out; simpa using h, fun _ => H_ck.out⟩⟩, HB3.out⟩
         · have H_ck := Lib.hid c_ck
           have g0 : (x.c.checkE != 0) = true := by simpa using c_ck
           have g1 : decide (x.c.checkE = 0) = false := by simpa using c_ck
           have g2 : (x.c.checkE == 0) = false := by simpa using c_ck
           go_wp2_with fail;go_ret;exact ⟨2, rfl, .inr ⟨rfl, fun hM => H_ck.out (hM.ck HQ.out)⟩, HB3.out⟩
end Go.Proofs.YtkljcgopikdjjaaGreatDoor.Tx
end
