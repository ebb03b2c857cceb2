/- Layer 22 (rec): Check of a record that may be. -/
import Derived.Test.YtmfhnhnmdeabeaaGreatM20
import Derived.Test.YtmfhnhnmdeabeaaGreatM03
import Derived.Deep.RegionWith
import Derived.Deep.DeepCutAuto
set_option linter.unusedVariables false
set_option linter.unusedSimpArgs false
set_option maxRecDepth 100000
section
namespace Go.Proofs.YtmfhnhnmdeabeaaGreat.Re
open Go.RowKit Go.Shelf Go.Maps Oct Path Tr
def kvC (w : Array UInt8) (a b c d e : Bool) (f : Nat) : Array Value := #[.string ⟨w⟩, .bool a, .bool b, .bool c, .bool d, .bool e, .func (.func f) #[] #[]]
inductive GrC : Nat → World → World → Prop
 | other {i : Nat} {w1 w2 : World} (h9 : i ≠ 9) (h10 : i ≠ 10) (h : Below w1.heap.size w1 w2) : GrC i w1 w2
 | nine {w1 w2 : World} {p : Nat} {c0 c1 c2 c3 c4 c5 c6 d0 d1 d2 d3 d4 d5 d6 : Value} (h1 : SBox w1 p 113 #[c0, c1, c2, c3, c4, c5, c6]) (h2 : SBox w2 p 113 #[d0, d1, d2, d3, d4, d5, d6]) (h : Tch (fun x => x = p) w1 w2) : GrC 9 w1 w2
 | ten {w1 w2 : World} {q : Nat} {z z' : Value} (h1 : SBox w1 q 4 #[z]) (h2 : SBox w2 q 4 #[z']) (h : Tch (fun x => x = q) w1 w2) : GrC 10 w1 w2
theorem info_K : (Tryz.prog.info? 113).map (·.size) = some 7 := by kernel_rfl
theorem tchRow (W : World) (b : Nat) (ds : Array Value) : Tch (fun x => x = b) W (W.setRow b ds) := ⟨rfl, rfl, rfl, by simp, fun k hk hn => setRow_other W b k ds hn⟩
theorem box_ne {W : World} {a b : Nat} {t u : TypeId} {cs ds : Array Value} (h : SBox W a t cs) (k : SBox W b u ds) (hn : t ≠ u) : a ≠ b := by
 intro e
 subst e
 unfold SBox at h k
 rw [h] at k
 simp at k
 exact hn k.2
theorem box_oth {W W' : World} {a b : Nat} {t : TypeId} {cs : Array Value} (h : SBox W a t cs) (hn : a ≠ b) (ht : Tch (fun x => x = b) W W') : SBox W' a t cs := (ht.block a h.lt hn).trans h
theorem GrC.vmap {i : Nat} {w1 w2 : World} (h : GrC i w1 w2) {kt : TypeId} {b nn : Nat} {f : Lit → Option Value} (hv : VMap w1 kt b nn f) : VMap w2 kt b nn f := by
 cases h with
 | other _ _ h => exact hv.later h
 | nine h1 _ h => exact hv.block (h.block b hv.lt fun e => hv.ne h1 e.symm)
 | ten h1 _ h => exact hv.block (h.block b hv.lt fun e => hv.ne h1 e.symm)
theorem GrC.kind {i : Nat} {w1 w2 : World} (h : GrC i w1 w2) {p : Nat} {c0 c1 c2 c3 c4 c5 c6 : Value} (hp : SBox w1 p 113 #[c0, c1, c2, c3, c4, c5, c6]) : ∃ d0 d1 d2 d3 d4 d5 d6, SBox w2 p 113 #[d0, d1, d2, d3, d4, d5, d6] := by
 cases h with
 | other _ _ h => exact ⟨_, _, _, _, _, _, _, hp.later h⟩
 | @nine _ _ p' _ _ _ _ _ _ _ _ _ _ _ _ _ _ h1 h2 h =>
   by_cases e : p = p'
   · subst e; exact ⟨_, _, _, _, _, _, _, h2⟩
   · exact ⟨_, _, _, _, _, _, _, box_oth hp e h⟩
 | ten h1 _ h => exact ⟨_, _, _, _, _, _, _, box_oth hp (box_ne hp h1 (by decide)) h⟩
theorem GrC.bool {i : Nat} {w1 w2 : World} (h : GrC i w1 w2) {q : Nat} {z : Value} (hp : SBox w1 q 4 #[z]) : ∃ z2, SBox w2 q 4 #[z2] := by
 cases h with
 | other _ _ h => exact ⟨_, hp.later h⟩
 | nine h1 _ h => exact ⟨_, box_oth hp (box_ne hp h1 (by decide)) h⟩
 | @ten _ _ q' _ _ h1 h2 h =>
   by_cases e : q = q'
   · subst e; exact ⟨_, h2⟩
   · exact ⟨_, box_oth hp e h⟩
theorem GrC.kind9 {i : Nat} {w1 w2 : World} (h : GrC i w1 w2) (hi : i ≠ 9) {p : Nat} {cs : Array Value} (hp : SBox w1 p 113 cs) : SBox w2 p 113 cs := by
 cases h with
 | other _ _ h => exact hp.later h
 | nine => exact absurd rfl hi
 | ten h1 _ h => exact box_oth hp (box_ne hp h1 (by decide)) h
theorem GrC.bool10 {i : Nat} {w1 w2 : World} (h : GrC i w1 w2) (hi : i ≠ 10) {p : Nat} {cs : Array Value} (hp : SBox w1 p 4 cs) : SBox w2 p 4 cs := by
 cases h with
 | other _ _ h => exact hp.later h
 | nine h1 _ h => exact box_oth hp (box_ne hp h1 (by decide)) h
 | ten => exact absurd rfl hi
theorem wpOp_on {P : Program} {ops : Array Oper} {Q : Exit → Act → World → Prop} {i : Nat} {o : Oper} {K : Act → World → Prop} {a : Act} {w : World} (ho : ops[i]? = some o) (hg : Region.wanted o (yielded ops a.tmps) = true) (h : o.wp P a w K Q) : wpOp P ops Q i K a w := by
 unfold wpOp
 rw [ho]
 simp only [hg, if_true]
 exact .inl h
theorem wpOp_off {P : Program} {ops : Array Oper} {Q : Exit → Act → World → Prop} {i : Nat} {o : Oper} {K : Act → World → Prop} {a : Act} {w : World} (ho : ops[i]? = some o) (hg : Region.wanted o (yielded ops a.tmps) = false) (h : K (a.put o.dst undef) w) : wpOp P ops Q i K a w := by
 unfold wpOp
 rw [ho]
 simp only [hg]
 exact h
structure St (r : Rc) (p q : Nat) (s : Array UInt8) (g : Nat) (wz w : World) : Prop where
 be : Below wz.heap.size wz w
 rc : SBox w wz.heap.size 39 (recC r)
 kd : SBox w p 113 (kvC s (kEnt r.op) (kKnd r.op) (kMov r.op) (kSiz r.op) (kDat r.op) g)
 is : SBox w q 4 #[.bool true]
 qz : wz.heap.size ≤ q
theorem St.later {r : Rc} {p q : Nat} {s : Array UInt8} {g : Nat} {wz w w' : World} (h : St r p q s g wz w) (hb : Below w.heap.size w w') : St r p q s g wz w' :=
 ⟨h.be.trans (hb.mono h.be.size), h.rc.later hb, h.kd.later hb, h.is.later hb, h.qz⟩
theorem St.fits {r : Rc} {p q : Nat} {s : Array UInt8} {g : Nat} {wz w w' : World} (h : St r p q s g wz w) (hq : SBox w' q 4 #[.bool true]) (ht : Tch (fun x => x = q) w w') : St r p q s g wz w' :=
 ⟨h.be.trans (ht.below fun i hi => ⟨Nat.lt_of_lt_of_le hi h.be.size, fun e => by have := h.qz; omega⟩), box_oth h.rc (box_ne h.rc h.is (by decide)) ht, box_oth h.kd (box_ne h.kd h.is (by decide)) ht, hq, h.qz⟩
theorem St.drew {r : Rc} {p q : Nat} {s : Array UInt8} {g : Nat} {wz w : World} (h : St r p q s g wz w) : St r p q s g wz w.drew := h.later (Below.refl _ _).drew
theorem St.c6 {r : Rc} {p q : Nat} {s : Array UInt8} {g : Nat} {wz w : World} (h : St r p q s g wz w) {b : Bool} {d : Int} {n : ByteArray} (hb : kEnt r.op = b) (hd : (r.dir : Int) = d) (hn : B r.name = n) :
   w.cell? ⟨p, 1, none⟩ = some (.bool b) ∧ w.cell? ⟨wz.heap.size, 2, none⟩ = some (.int .u32 d) ∧ w.cell? ⟨wz.heap.size, 3, none⟩ = some (.string n) ∧ St r p q s g wz w := by
 subst hb hd hn
 exact ⟨h.kd.cell 1, h.rc.cell 2, h.rc.cell 3, h⟩
theorem St.c8 {r : Rc} {p q : Nat} {s : Array UInt8} {g : Nat} {wz w : World} (h : St r p q s g wz w) {b : Bool} {d o : Int} {n : ByteArray} (hb : kMov r.op = b) (hd : (r.dir2 : Int) = d) (hn : B r.name2 = n) (ho : (r.old : Int) = o) :
   w.cell? ⟨p, 3, none⟩ = some (.bool b) ∧ w.cell? ⟨wz.heap.size, 6, none⟩ = some (.int .u32 d) ∧ w.cell? ⟨wz.heap.size, 7, none⟩ = some (.string n) ∧ w.cell? ⟨wz.heap.size, 8, none⟩ = some (.int .u32 o) ∧ St r p q s g wz w := by
 subst hb hd hn ho
 exact ⟨h.kd.cell 3, h.rc.cell 6, h.rc.cell 7, h.rc.cell 8, h⟩
theorem St.ck {r : Rc} {p q : Nat} {s : Array UInt8} {g : Nat} {wz w : World} (h : St r p q s g wz w) {b : Bool} {k : Int} (hb : kKnd r.op = b) (hk : (r.kind : Int) = k) :
   w.cell? ⟨p, 2, none⟩ = some (.bool b) ∧ w.cell? ⟨wz.heap.size, 5, none⟩ = some (.int .u8 k) := by
 subst hb hk
 exact ⟨h.kd.cell 2, h.rc.cell 5⟩
theorem St.cs {r : Rc} {p q : Nat} {s : Array UInt8} {g : Nat} {wz w : World} (h : St r p q s g wz w) {b : Bool} {k : Int} (hb : kSiz r.op = b) (hk : (r.size : Int) = k) :
   w.cell? ⟨p, 4, none⟩ = some (.bool b) ∧ w.cell? ⟨wz.heap.size, 9, none⟩ = some (.int .u32 k) := by
 subst hb hk
 exact ⟨h.kd.cell 4, h.rc.cell 9⟩
theorem St.cd {r : Rc} {p q : Nat} {s : Array UInt8} {g : Nat} {wz w : World} (h : St r p q s g wz w) {b : Bool} {k : Int} {n : ByteArray} (hb : kDat r.op = b) (hk : (r.page : Int) = k) (hn : B r.data = n) :
   w.cell? ⟨p, 5, none⟩ = some (.bool b) ∧ w.cell? ⟨wz.heap.size, 10, none⟩ = some (.int .i64 k) ∧ w.cell? ⟨wz.heap.size, 11, none⟩ = some (.string n) := by
 subst hb hk hn
 exact ⟨h.kd.cell 5, h.rc.cell 10, h.rc.cell 11⟩
theorem ino_yes (x : Nat) (w : World) (h1 : 1 ≤ x) (h2 : x ≤ 256) : Calls Tryz.prog 102 #[.int .u32 x] w fun e w' => e = .returned (.bool true) ∧ w = w' := by
 have := ino_any x w
 rwa [show inoB x = true by simp [inoB, h1, h2]] at this
theorem ino_nil (w : World) : Calls Tryz.prog 102 #[.int .u32 0] w fun e w' => e = .returned (.bool false) ∧ w = w' := ino_any 0 w
theorem name_yes {s : Nm} (w : World) (h : isName s = true) : Calls Tryz.prog 103 #[.string (B s)] w fun e w' => e = .returned (.bool true) ∧ Below w.heap.size w w' := by
 have h27 : s.length ≤ 27 := by unfold isName at h; simp only [Bool.and_eq_true, decide_eq_true_eq] at h; exact h.1.1.1.2
 have := name_cl (B s) w (by rw [size_B]; unfold maxLen; omega)
 rwa [L_B, show (nameE s == 0) = true by simp [nameE, h]] at this
set_option maxHeartbeats 4000000 in
theorem check_ok (r : Rc) (h : May r) (wz : World) : Calls Tryz.prog 61 #[recV r] wz fun e w' => e = .returned (.int .i64 0) ∧ Below wz.heap.size wz w' := by
 have HM := Lib.hid h
 have hop := h.op
 clear h
 unfold recV recC
 go_enter Tryz.func61, Tryz.ntmps61
 go_wp2_with fail
 refine wp_region_phi3 (by kernel_rfl) (fun | 0 => some 9 | 1 => some 10 | 2 => some 11 | 3 => some 12 | 4 => some 8 | 5 => some 13 | 6 => some 14 | 7 => some 3 | 8 => some 4 | 9 => none | 10 => none | _ => none) (fun a => ∃ x3 x4 x8 x9 x10 x11 x12 x13 x14 : Value, a = ⟨#[Value.agg #[Value.int IntKind.u64 ↑r.stamp, Value.int IntKind.u8 ↑r.op, Value.int IntKind.u32 ↑r.dir, Value.string (B r.name), Value.int IntKind.u32 ↑r.ino, Value.int IntKind.u8 ↑r.kind, Value.int IntKind.u32 ↑r.dir2, Value.string (B r.name2), Value.int IntKind.u32 ↑r.old, Value.int IntKind.u32 ↑r.size, Value.int IntKind.i64 ↑r.page, Value.string (B r.data)], Value.pointer (some { block := wz.heap.size, off := 0 }), Value.int IntKind.i64 0, x3, x4, undef, undef, undef, x8, x9, x10, x11, x12, x13, x14, undef, undef, undef, undef, undef, undef, undef, undef, undef, undef, undef, undef, undef, undef, undef, undef, undef, undef, undef, undef, undef, undef, undef, undef, undef, undef, undef, undef, undef, undef, undef, undef, undef, undef, undef, undef, undef, undef, undef, undef, undef, undef, undef, undef, undef, undef, undef, undef, undef, undef, undef, undef, undef, undef, undef, undef, undef, undef, undef, undef, undef, undef, undef, undef, undef, undef, undef, undef, undef, undef, undef, undef, undef, undef, undef, undef, undef, undef, undef, undef, undef, undef, undef, undef, undef, undef, undef, undef, undef, undef, undef, undef, undef, undef, undef, undef, undef, undef, undef, undef, undef, undef, undef, undef, undef, undef, undef, undef, undef, undef, undef, undef, undef, undef, undef], []⟩) (fun lst W => Below wz.heap.size wz W ∧ SBox W wz.heap.size 39 (recC r)) (GrC) (fun | 0 => (fun f w => ∃ b, f 0 = Value.map (some b) ∧ VMap w 5 b 7 (natF .u8 kindF)) | 1 => (fun f w => f 1 = Value.pointer (some ⟨wz.heap.size, 1, none⟩)) | 2 => (fun f w => f 2 = Value.int .u8 r.op) | 3 => (fun f w => ∃ s g, f 3 = Value.tuple #[kv s (kEnt r.op) (kKnd r.op) (kMov r.op) (kSiz r.op) (kDat r.op) g, .bool true]) | 4 => (fun f w => ∃ s g, f 4 = Value.tuple #[kv s (kEnt r.op) (kKnd r.op) (kMov r.op) (kSiz r.op) (kDat r.op) g, .bool true]) | 5 => (fun f w => ∃ s g, f 5 = kv s (kEnt r.op) (kKnd r.op) (kMov r.op) (kSiz r.op) (kDat r.op) g) | 6 => (fun f w => f 6 = Value.bool true) | 7 => (fun f w => ∃ p c0 c1 c2 c3 c4 c5 c6, f 7 = ptr p ∧ wz.heap.size ≤ p ∧ SBox w p 113 #[c0, c1, c2, c3, c4, c5, c6]) | 8 => (fun f w => ∃ q z, f 8 = ptr q ∧ wz.heap.size ≤ q ∧ SBox w q 4 #[z]) | 9 => (fun f w => ∃ p s g, f 7 = ptr p ∧ wz.heap.size ≤ p ∧ SBox w p 113 (kvC s (kEnt r.op) (kKnd r.op) (kMov r.op) (kSiz r.op) (kDat r.op) g)) | 10 => (fun f w => ∃ q, f 8 = ptr q ∧ wz.heap.size ≤ q ∧ SBox w q 4 #[.bool true]) | _ => (fun _ _ => True)) (by kernel_rfl) ?st ?dep (by kernel_rfl) ?AA ⟨_, _, _, _, _, _, _, _, _, rfl⟩ ?G0 ?step ?done
 case st =>
   intro i j v w1 w2 hi hj hij hw hp hs
   have hi : i < 11 := hi
   match j, hp with
   | 0, hp =>
     obtain ⟨b, h1, h2⟩ := hp
     exact ⟨b, h1, hs.vmap h2⟩
   | 1, hp | 2, hp | 3, hp | 4, hp | 5, hp | 6, hp => exact hp
   | 7, hp =>
     obtain ⟨p, c0, c1, c2, c3, c4, c5, c6, h1, h2, h3⟩ := hp
     obtain ⟨d0, d1, d2, d3, d4, d5, d6, h4⟩ := hs.kind h3
     exact ⟨p, d0, d1, d2, d3, d4, d5, d6, h1, h2, h4⟩
   | 8, hp =>
     obtain ⟨q, z, h1, h2, h3⟩ := hp
     obtain ⟨z2, h4⟩ := hs.bool h3
     exact ⟨q, z2, h1, h2, h4⟩
   | 9, hp =>
     obtain ⟨p, s, g, h1, h2, h3⟩ := hp
     exact ⟨p, s, g, h1, h2, hs.kind9 (fun e => hij e) h3⟩
   | 10, hp =>
     by_cases e : i = 9
     · subst e; exact absurd hw (by show ¬ waitsT _ 10 9 = false; rw [show waitsT _ 10 9 = true from by kernel_rfl]; decide)
     · obtain ⟨q, h1, h2, h3⟩ := hp
       exact ⟨q, h1, h2, hs.bool10 (fun e => hij e) h3⟩
   | j + 11, _ => exact trivial
 case dep =>
   intro j f g w hj hfg hp
   have hj : j < 11 := hj
   match j, hp, hfg with
   | 0, hp, hfg =>
     have hq : ∃ b, f 0 = Value.map (some b) ∧ VMap w 5 b 7 (natF .u8 kindF) := hp
     rw [hfg 0 (by show 0 < 11; decide) (by first | exact .inl rfl | exact .inr (by kernel_rfl))] at hq
     exact hq
   | 1, hp, hfg =>
     have hq : f 1 = Value.pointer (some ⟨wz.heap.size, 1, none⟩) := hp
     rw [hfg 1 (by show 1 < 11; decide) (by first | exact .inl rfl | exact .inr (by kernel_rfl))] at hq
     exact hq
   | 2, hp, hfg =>
     have hq : f 2 = Value.int .u8 r.op := hp
     rw [hfg 2 (by show 2 < 11; decide) (by first | exact .inl rfl | exact .inr (by kernel_rfl))] at hq
     exact hq
   | 3, hp, hfg =>
     have hq : ∃ s g, f 3 = Value.tuple #[kv s (kEnt r.op) (kKnd r.op) (kMov r.op) (kSiz r.op) (kDat r.op) g, .bool true] := hp
     rw [hfg 3 (by show 3 < 11; decide) (by first | exact .inl rfl | exact .inr (by kernel_rfl))] at hq
     exact hq
   | 4, hp, hfg =>
     have hq : ∃ s g, f 4 = Value.tuple #[kv s (kEnt r.op) (kKnd r.op) (kMov r.op) (kSiz r.op) (kDat r.op) g, .bool true] := hp
     rw [hfg 4 (by show 4 < 11; decide) (by first | exact .inl rfl | exact .inr (by kernel_rfl))] at hq
     exact hq
   | 5, hp, hfg =>
     have hq : ∃ s g, f 5 = kv s (kEnt r.op) (kKnd r.op) (kMov r.op) (kSiz r.op) (kDat r.op) g := hp
     rw [hfg 5 (by show 5 < 11; decide) (by first | exact .inl rfl | exact .inr (by kernel_rfl))] at hq
     exact hq
   | 6, hp, hfg =>
     have hq : f 6 = Value.bool true := hp
     rw [hfg 6 (by show 6 < 11; decide) (by first | exact .inl rfl | exact .inr (by kernel_rfl))] at hq
     exact hq
   | 7, hp, hfg =>
     have hq : ∃ p c0 c1 c2 c3 c4 c5 c6, f 7 = ptr p ∧ wz.heap.size ≤ p ∧ SBox w p 113 #[c0, c1, c2, c3, c4, c5, c6] := hp
     rw [hfg 7 (by show 7 < 11; decide) (by first | exact .inl rfl | exact .inr (by kernel_rfl))] at hq
     exact hq
   | 8, hp, hfg =>
     have hq : ∃ q z, f 8 = ptr q ∧ wz.heap.size ≤ q ∧ SBox w q 4 #[z] := hp
     rw [hfg 8 (by show 8 < 11; decide) (by first | exact .inl rfl | exact .inr (by kernel_rfl))] at hq
     exact hq
   | 9, hp, hfg =>
     have hq : ∃ p s g, f 7 = ptr p ∧ wz.heap.size ≤ p ∧ SBox w p 113 (kvC s (kEnt r.op) (kKnd r.op) (kMov r.op) (kSiz r.op) (kDat r.op) g) := hp
     rw [hfg 7 (by show 7 < 11; decide) (by first | exact .inl rfl | exact .inr (by kernel_rfl))] at hq
     exact hq
   | 10, hp, hfg =>
     have hq : ∃ q, f 8 = ptr q ∧ wz.heap.size ≤ q ∧ SBox w q 4 #[.bool true] := hp
     rw [hfg 8 (by show 8 < 11; decide) (by first | exact .inl rfl | exact .inr (by kernel_rfl))] at hq
     exact hq
   | j + 11, _, _ => exact trivial
 case AA =>
   rintro i a v hi ⟨_, _, _, _, _, _, _, _, _, rfl⟩
   match i, hi with
   | 0, _ | 1, _ | 2, _ | 3, _ | 4, _ | 5, _ | 6, _ | 7, _ | 8, _ | 9, _ | 10, _ => exact ⟨⟨_, _, _, _, _, _, _, _, _, rfl⟩, fun t h => by cases h <;> exact of_decide_eq_true rfl⟩
   | i + 11, hi => exact absurd hi (by simp)
 case G0 => exact ⟨((Below.refl _ _).alloc (Nat.le_refl _) _).drew, (SBox.new wz _ _).drew⟩
 case step =>
   rintro i a w1 lst hi ⟨x3, x4, x8, x9, x10, x11, x12, x13, x14, rfl⟩ hl hcl hG hp
   refine wpOp_via (fun K hK => ?_)
   match i, hi with
   | 0, _ =>
     obtain ⟨hb, hr⟩ := hG
     refine wpOp_at (by rfl) rfl ?_
     go_simp
     refine Calls.mono (kinds_any w1) ?_
     rintro e w2 ⟨b, rfl, h1, h2, h3⟩
     exact hK _ _ ⟨_, rfl, ⟨hb.trans (h3.mono hb.size), hr.later h3⟩, .other (by decide) (by decide) h3, b, rfl, h1⟩
   | 1, _ =>
     obtain ⟨hb, hr⟩ := hG
     have hlz := hr.lt
     refine wpOp_at (by rfl) rfl ?_
     go_simp
     exact hK _ _ ⟨_, rfl, ⟨hb, hr⟩, .other (by decide) (by decide) (Below.refl _ _), rfl⟩
   | 2, _ =>
     obtain ⟨hb, hr⟩ := hG
     obtain rfl : x10 = _ := hp 1 (by kernel_rfl)
     have c1 := hr.cell 1
     unfold recC at c1
     simp only [List.getElem?_toArray, List.getElem?_cons_zero, List.getElem?_cons_succ] at c1
     have hlz := hr.lt
     refine wpOp_at (by rfl) rfl ?_
     go_simp
     exact hK _ _ ⟨_, rfl, ⟨hb, hr⟩, .other (by decide) (by decide) (Below.refl _ _), rfl⟩
   | 3, _ =>
     obtain ⟨hb, hr⟩ := hG
     obtain ⟨b, e9, hv⟩ := hp 0 (by kernel_rfl)
     change x9 = _ at e9
     subst e9
     obtain rfl : x11 = _ := hp 2 (by kernel_rfl)
     obtain ⟨s, g, hk⟩ := kind_look hv hop
     refine wpOp_at (by rfl) rfl ?_
     go_simp
     exact hK _ _ ⟨_, rfl, ⟨hb, hr⟩, .other (by decide) (by decide) (Below.refl _ _), s, g, rfl⟩
   | 4, _ =>
     obtain ⟨hb, hr⟩ := hG
     obtain ⟨s, g, e12⟩ := hp 3 (by kernel_rfl)
     change x12 = _ at e12
     subst e12
     refine wpOp_at (by rfl) rfl ?_
     go_simp
     exact hK _ _ ⟨_, rfl, ⟨hb, hr⟩, .other (by decide) (by decide) (Below.refl _ _), s, g, rfl⟩
   | 5, _ =>
     obtain ⟨hb, hr⟩ := hG
     obtain ⟨s, g, e8⟩ := hp 4 (by kernel_rfl)
     change x8 = _ at e8
     subst e8
     refine wpOp_at (by rfl) rfl ?_
     go_simp
     exact hK _ _ ⟨_, rfl, ⟨hb, hr⟩, .other (by decide) (by decide) (Below.refl _ _), s, g, rfl⟩
   | 6, _ =>
     obtain ⟨hb, hr⟩ := hG
     obtain ⟨s, g, e8⟩ := hp 4 (by kernel_rfl)
     change x8 = _ at e8
     subst e8
     refine wpOp_at (by rfl) rfl ?_
     go_simp
     exact hK _ _ ⟨_, rfl, ⟨hb, hr⟩, .other (by decide) (by decide) (Below.refl _ _), rfl⟩
   | 7, _ =>
     obtain ⟨hb, hr⟩ := hG
     refine wpOp_at (by rfl) rfl ?_
     go_simp
     exact hK _ _ ⟨_, rfl, ⟨hb.alloc hb.size _, hr.alloc _⟩, .other (by decide) (by decide) ((Below.refl _ _).alloc (Nat.le_refl _) _), w1.heap.size, _, _, _, _, _, _, _, rfl, hb.size, SBox.new _ _ _⟩
   | 8, _ =>
     obtain ⟨hb, hr⟩ := hG
     refine wpOp_at (by rfl) rfl ?_
     go_simp
     exact hK _ _ ⟨_, rfl, ⟨hb.alloc hb.size _, hr.alloc _⟩, .other (by decide) (by decide) ((Below.refl _ _).alloc (Nat.le_refl _) _), w1.heap.size, _, rfl, hb.size, SBox.new _ _ _⟩
   | 9, _ =>
     obtain ⟨hb, hr⟩ := hG
     obtain ⟨p, c0, c1, c2, c3, c4, c5, c6, e3, hpz, h3⟩ := hp 7 (by kernel_rfl)
     change x3 = _ at e3
     subst e3
     obtain ⟨s, g, e13⟩ := hp 5 (by kernel_rfl)
     change x13 = _ at e13
     subst e13
     refine wpOp_at (by rfl) rfl ?_
     unfold ptr kv
     refine wp_store_row _ _ _ rfl p (kvC s (kEnt r.op) (kKnd r.op) (kMov r.op) (kSiz r.op) (kDat r.op) g) rfl rfl _ _ h3 info_K rfl (by kernel_rfl) ?_
     exact hK _ _ ⟨undef, rfl, ⟨hb.trans ((tchRow w1 p _).below fun i hi => ⟨Nat.lt_of_lt_of_le hi hb.size, fun e => by omega⟩), box_oth hr (box_ne hr h3 (by decide)) (tchRow w1 p _)⟩, .nine h3 (SBox.setRow h3 _) (tchRow w1 p _), p, s, g, rfl, hpz, SBox.setRow h3 _⟩
   | 10, _ =>
     obtain ⟨hb, hr⟩ := hG
     obtain ⟨q, z, e4, hqz, h4⟩ := hp 8 (by kernel_rfl)
     change x4 = _ at e4
     subst e4
     obtain rfl : x14 = _ := hp 6 (by kernel_rfl)
     have hV := h4
     have V0 := hV.cell 0
     simp only [List.getElem?_toArray, List.getElem?_cons_zero, List.getElem?_cons_succ] at V0
     have Vl := hV.lt
     have F0 := hV.free 0
     clear hV
     refine wpOp_at (by rfl) rfl ?_
     unfold ptr
     go_simp
     exact hK _ _ ⟨undef, rfl, ⟨hb.trans ((show Tch (fun x => x = q) _ _ from Tch.cell rfl).below fun i hi => ⟨Nat.lt_of_lt_of_le hi hb.size, fun e => by omega⟩), box_oth hr (box_ne hr h4 (by decide)) (Tch.cell rfl)⟩, .ten h4 (h4.set 0 _) (Tch.cell rfl), q, rfl, hqz, h4.set 0 _⟩
   | i + 11, hi => exact absurd hi (by simp)
 case done =>
   rintro a w2 lst hl ⟨x3, x4, x8, x9, x10, x11, x12, x13, x14, rfl⟩ ⟨hb, hr⟩ hp
   obtain ⟨p, s, g, e3, hpz, h3⟩ := hp 9 (by decide)
   change x3 = _ at e3
   subst e3
   obtain ⟨q, e4, hqz, h4⟩ := hp 10 (by decide)
   change x4 = _ at e4
   subst e4
   clear hp
   have S1 := Lib.hid (show St r p q s g wz w2 from ⟨hb, hr, h3, h4, hqz⟩)
   clear hb hr h3 h4
   unfold ptr
   have hR := S1.out.rc
   unfold recC at hR
   have V0 := hR.cell 0
   have V1 := hR.cell 1
   have V2 := hR.cell 2
   have V3 := hR.cell 3
   have V4 := hR.cell 4
   have V5 := hR.cell 5
   have V6 := hR.cell 6
   have V7 := hR.cell 7
   have V8 := hR.cell 8
   have V9 := hR.cell 9
   have V10 := hR.cell 10
   have V11 := hR.cell 11
   simp only [List.getElem?_toArray, List.getElem?_cons_zero, List.getElem?_cons_succ] at V0 V1 V2 V3 V4 V5 V6 V7 V8 V9 V10 V11
   have Vl := hR.lt
   have hP := S1.out.kd
   unfold kvC at hP
   have K0 := hP.cell 0
   have K1 := hP.cell 1
   have K2 := hP.cell 2
   have K3 := hP.cell 3
   have K4 := hP.cell 4
   have K5 := hP.cell 5
   have K6 := hP.cell 6
   simp only [List.getElem?_toArray, List.getElem?_cons_zero, List.getElem?_cons_succ] at K0 K1 K2 K3 K4 K5 K6
   have Kl := hP.lt
   have hQ := S1.out.is
   have Z0 := hQ.cell 0
   simp only [List.getElem?_toArray, List.getElem?_cons_zero, List.getElem?_cons_succ] at Z0
   have Zl := hQ.lt
   clear hR hP hQ
   go_wp2_with fail
   refine Calls.mono (ino_yes r.ino w2 HM.out.ino.1 HM.out.ino.2) ?_
   rintro e w9 ⟨rfl, rfl⟩
   go_wp2_with fail
   refine Calls.mono (fits_cl q true true true false w2 S1.out.is) ?_
   rintro e w3 ⟨rfl, q3, t3⟩
   have S2 := Lib.hid (S1.out.fits q3 t3)
   clear q3 t3 S1 V0 V1 V2 V3 V4 V5 V6 V7 V8 V9 V10 V11 Vl K0 K1 K2 K3 K4 K5 K6 Kl Z0 Zl
   have hqz := S2.out.is.lt
   have hpz2 := S2.out.kd.lt
   have hrz := S2.out.rc.lt
   go_upto_region 6 with fail
   go_cut [] (fun wx => St r p q s g wz wx)
   case first =>
     as_aux_lemma =>
       cases hE : kEnt r.op
       · have HC := Lib.hid (fun W (h : St r p q s g wz W) => h.c6 (b := false) (d := 0) (n := ⟨#[]⟩) hE (by rw [(HM.out.noe hE).1]; rfl) (by rw [(HM.out.noe hE).2]; rfl))
         have HI := Lib.hid ino_nil
         clear hE
         refine wp_region_phi (by kernel_rfl) (fun | 0 => some 22 | 1 => some 23 | 2 => some 24 | 3 => some 25 | 4 => some 26 | 5 => some 27 | 6 => some 28 | 7 => some 29 | 8 => some 30 | 9 => some 31 | 10 => some 32 | 11 => some 33 | 12 => some 34 | 13 => some 35 | 14 => some 36 | 15 => some 37 | 16 => some 38 | 17 => some 39 | 18 => some 40 | 19 => some 41 | 20 => some 42 | 21 => some 43 | _ => none) (fun a => ∃ x22 x23 x24 x25 x26 x27 x28 x29 x30 x31 x32 x33 x34 x35 x36 x37 x38 x39 x40 x41 x42 x43 : Value, a = ⟨#[Value.agg #[Value.int IntKind.u64 ↑r.stamp, Value.int IntKind.u8 ↑r.op, Value.int IntKind.u32 ↑r.dir, Value.string (B r.name), Value.int IntKind.u32 ↑r.ino, Value.int IntKind.u8 ↑r.kind, Value.int IntKind.u32 ↑r.dir2, Value.string (B r.name2), Value.int IntKind.u32 ↑r.old, Value.int IntKind.u32 ↑r.size, Value.int IntKind.i64 ↑r.page, Value.string (B r.data)], Value.pointer (some { block := wz.heap.size, off := 0 }), Value.int IntKind.i64 0, Value.pointer (some { block := p, off := 0 }), Value.pointer (some { block := q, off := 0 }), Value.func (Fn.func 102) #[] #[], Value.func (Fn.func 103) #[] #[], Value.func (Fn.func 104) #[] #[Value.pointer (some { block := q, off := 0 })], x8, x9, x10, x11, x12, x13, x14, Value.func (Fn.func 104) #[] #[Value.pointer (some { block := q, off := 0 })], Value.func (Fn.func 104) #[] #[Value.pointer (some { block := q, off := 0 })], Value.func (Fn.func 102) #[] #[], Value.pointer (some { block := wz.heap.size, off := 4 }), Value.int IntKind.u32 ↑r.ino, Value.bool true, Value.tuple #[], x22, x23, x24, x25, x26, x27, x28, x29, x30, x31, x32, x33, x34, x35, x36, x37, x38, x39, x40, x41, x42, x43, undef, undef, undef, undef, undef, undef, undef, undef, undef, undef, undef, undef, undef, undef, undef, undef, undef, undef, undef, undef, undef, undef, undef, undef, undef, undef, undef, undef, undef, undef, undef, undef, undef, undef, undef, undef, undef, undef, undef, undef, undef, undef, undef, undef, undef, undef, undef, undef, undef, undef, undef, undef, undef, undef, undef, undef, undef, undef, undef, undef, undef, undef, undef, undef, undef, undef, undef, undef, undef, undef, undef, undef, undef, undef, undef, undef, undef, undef, undef, undef, undef, undef, undef, undef, undef, undef], []⟩) (fun _ W => St r p q s g wz W) (fun _ _ _ => True) (fun | 0 => (fun v w => v = .func (.func 104) #[] #[.pointer (some ⟨q, 0, none⟩)]) | 1 => (fun v w => v = .pointer (some ⟨p, 1, none⟩)) | 2 => (fun v w => v = .bool false) | 3 => (fun v w => v = .func (.func 102) #[] #[]) | 4 => (fun v w => v = .pointer (some ⟨wz.heap.size, 2, none⟩)) | 5 => (fun v w => v = .int .u32 0) | 6 => (fun v w => v = .bool false) | 7 => (fun v w => v = .bool false) | 8 => (fun v w => v = undef) | 9 => (fun v w => v = undef) | 10 => (fun v w => v = undef) | 11 => (fun v w => v = undef) | 12 => (fun v w => v = .bool false) | 13 => (fun v w => v = .pointer (some ⟨wz.heap.size, 2, none⟩)) | 14 => (fun v w => v = .int .u32 0) | 15 => (fun v w => v = .bool true) | 16 => (fun v w => v = .bool true) | 17 => (fun v w => v = .pointer (some ⟨wz.heap.size, 3, none⟩)) | 18 => (fun v w => v = .string ⟨#[]⟩) | 19 => (fun v w => v = .bool true) | 20 => (fun v w => v = .bool true) | 21 => (fun v w => v = .tuple #[]) | _ => (fun _ _ => True)) (by kernel_rfl) ?st (by kernel_rfl) ?AA ⟨_, _, _, _, _, _, _, _, _, _, _, _, _, _, _, _, _, _, _, _, _, _, rfl⟩ ?G0 ?step ?done
         case st =>
           intro i j v w1 w2 hi hj hij hw hp hs
           have hi : i < 22 := hi
           match j, hp with
           | 0, hp | 1, hp | 2, hp | 3, hp | 4, hp | 5, hp | 6, hp | 7, hp | 8, hp | 9, hp | 10, hp | 11, hp | 12, hp | 13, hp | 14, hp | 15, hp | 16, hp | 17, hp | 18, hp | 19, hp | 20, hp | 21, hp => exact hp
           | j + 22, _ => exact trivial
         case AA =>
           rintro i a v hi ⟨_, _, _, _, _, _, _, _, _, _, _, _, _, _, _, _, _, _, _, _, _, _, rfl⟩
           match i, hi with
           | 0, _ | 1, _ | 2, _ | 3, _ | 4, _ | 5, _ | 6, _ | 7, _ | 8, _ | 9, _ | 10, _ | 11, _ | 12, _ | 13, _ | 14, _ | 15, _ | 16, _ | 17, _ | 18, _ | 19, _ | 20, _ | 21, _ => exact ⟨⟨_, _, _, _, _, _, _, _, _, _, _, _, _, _, _, _, _, _, _, _, _, _, rfl⟩, fun t h => by cases h <;> exact of_decide_eq_true rfl⟩
           | i + 22, hi => exact absurd hi (by simp)
         case G0 => exact S2.out.drew
         case step =>
           rintro i a w1 lst hi ⟨x22, x23, x24, x25, x26, x27, x28, x29, x30, x31, x32, x33, x34, x35, x36, x37, x38, x39, x40, x41, x42, x43, rfl⟩ hl hG hp
           refine wpOp_via (fun K hK => ?_)
           match i, hi with
           | 0, _ =>
             refine wpOp_at (by rfl) rfl ?_
             go_simp
             exact hK _ _ ⟨_, rfl, hG, trivial, rfl⟩
           | 1, _ =>
             refine wpOp_at (by rfl) rfl ?_
             go_simp
             exact hK _ _ ⟨_, rfl, hG, trivial, rfl⟩
           | 2, _ =>
             obtain rfl : x23 = _ := hp 1 (by kernel_rfl)
             obtain ⟨C0, C1, C2, _⟩ := HC.out _ hG
             have hl1 := hG.rc.lt
             have hl2 := hG.kd.lt
             refine wpOp_at (by rfl) rfl ?_
             go_simp
             exact hK _ _ ⟨_, rfl, hG, trivial, rfl⟩
           | 3, _ =>
             refine wpOp_at (by rfl) rfl ?_
             go_simp
             exact hK _ _ ⟨_, rfl, hG, trivial, rfl⟩
           | 4, _ =>
             refine wpOp_at (by rfl) rfl ?_
             go_simp
             exact hK _ _ ⟨_, rfl, hG, trivial, rfl⟩
           | 5, _ =>
             obtain rfl : x26 = _ := hp 4 (by kernel_rfl)
             obtain ⟨C0, C1, C2, _⟩ := HC.out _ hG
             have hl1 := hG.rc.lt
             have hl2 := hG.kd.lt
             refine wpOp_at (by rfl) rfl ?_
             go_simp
             exact hK _ _ ⟨_, rfl, hG, trivial, rfl⟩
           | 6, _ =>
             obtain rfl : x25 = _ := hp 3 (by kernel_rfl)
             obtain rfl : x27 = _ := hp 5 (by kernel_rfl)
             refine wpOp_at (by rfl) rfl ?_
             go_simp
             refine (HI.out _).mono ?_
             rintro e w9 ⟨rfl, rfl⟩
             exact hK _ _ ⟨_, rfl, hG, trivial, rfl⟩
           | 7, _ =>
             obtain rfl : x28 = _ := hp 6 (by kernel_rfl)
             refine wpOp_at (by rfl) rfl ?_
             go_simp
             exact hK _ _ ⟨_, rfl, hG, trivial, rfl⟩
           | 8, _ =>
             obtain rfl : x29 = _ := hp 7 (by kernel_rfl)
             refine wpOp_off (by rfl) (by kernel_rfl) ?_
             exact hK _ _ ⟨_, rfl, hG, trivial, rfl⟩
           | 9, _ =>
             obtain rfl : x29 = _ := hp 7 (by kernel_rfl)
             refine wpOp_off (by rfl) (by kernel_rfl) ?_
             exact hK _ _ ⟨_, rfl, hG, trivial, rfl⟩
           | 10, _ =>
             obtain rfl : x29 = _ := hp 7 (by kernel_rfl)
             refine wpOp_off (by rfl) (by kernel_rfl) ?_
             exact hK _ _ ⟨_, rfl, hG, trivial, rfl⟩
           | 11, _ =>
             obtain rfl : x29 = _ := hp 7 (by kernel_rfl)
             refine wpOp_off (by rfl) (by kernel_rfl) ?_
             exact hK _ _ ⟨_, rfl, hG, trivial, rfl⟩
           | 12, _ =>
             obtain rfl : x29 = _ := hp 7 (by kernel_rfl)
             obtain rfl : x33 = _ := hp 11 (by kernel_rfl)
             refine wpOp_at (by rfl) rfl ?_
             go_simp
             exact hK _ _ ⟨_, rfl, hG, trivial, rfl⟩
           | 13, _ =>
             refine wpOp_at (by rfl) rfl ?_
             go_simp
             exact hK _ _ ⟨_, rfl, hG, trivial, rfl⟩
           | 14, _ =>
             obtain rfl : x35 = _ := hp 13 (by kernel_rfl)
             obtain ⟨C0, C1, C2, _⟩ := HC.out _ hG
             have hl1 := hG.rc.lt
             have hl2 := hG.kd.lt
             refine wpOp_at (by rfl) rfl ?_
             go_simp
             exact hK _ _ ⟨_, rfl, hG, trivial, rfl⟩
           | 15, _ =>
             obtain rfl : x36 = _ := hp 14 (by kernel_rfl)
             refine wpOp_at (by rfl) rfl ?_
             go_simp
             exact hK _ _ ⟨_, rfl, hG, trivial, rfl⟩
           | 16, _ =>
             obtain rfl : x37 = _ := hp 15 (by kernel_rfl)
             refine wpOp_at (by rfl) rfl ?_
             go_simp
             exact hK _ _ ⟨_, rfl, hG, trivial, rfl⟩
           | 17, _ =>
             obtain rfl : x38 = _ := hp 16 (by kernel_rfl)
             refine wpOp_on (by rfl) (by kernel_rfl) ?_
             go_simp
             exact hK _ _ ⟨_, rfl, hG, trivial, rfl⟩
           | 18, _ =>
             obtain rfl : x38 = _ := hp 16 (by kernel_rfl)
             obtain rfl : x39 = _ := hp 17 (by kernel_rfl)
             obtain ⟨C0, C1, C2, _⟩ := HC.out _ hG
             have hl1 := hG.rc.lt
             have hl2 := hG.kd.lt
             refine wpOp_on (by rfl) (by kernel_rfl) ?_
             go_simp
             exact hK _ _ ⟨_, rfl, hG, trivial, rfl⟩
           | 19, _ =>
             obtain rfl : x38 = _ := hp 16 (by kernel_rfl)
             obtain rfl : x40 = _ := hp 18 (by kernel_rfl)
             refine wpOp_on (by rfl) (by kernel_rfl) ?_
             go_simp
             exact hK _ _ ⟨_, rfl, hG, trivial, rfl⟩
           | 20, _ =>
             obtain rfl : x38 = _ := hp 16 (by kernel_rfl)
             obtain rfl : x41 = _ := hp 19 (by kernel_rfl)
             refine wpOp_at (by rfl) rfl ?_
             go_simp
             exact hK _ _ ⟨_, rfl, hG, trivial, rfl⟩
           | 21, _ =>
             obtain rfl : x22 = _ := hp 0 (by kernel_rfl)
             obtain rfl : x24 = _ := hp 2 (by kernel_rfl)
             obtain rfl : x34 = _ := hp 12 (by kernel_rfl)
             obtain rfl : x42 = _ := hp 20 (by kernel_rfl)
             refine wpOp_at (by rfl) rfl ?_
             go_simp
             refine (fits_cl q true false false true _ (St.is hG)).mono ?_
             rintro e w8 ⟨rfl, q8, t8⟩
             exact hK _ _ ⟨_, rfl, hG.fits q8 t8, trivial, rfl⟩
           | i + 22, hi => exact absurd hi (by simp)
         case done =>
           rintro a w8 lst hl ⟨x22, x23, x24, x25, x26, x27, x28, x29, x30, x31, x32, x33, x34, x35, x36, x37, x38, x39, x40, x41, x42, x43, rfl⟩ hG hp
           have HS := Lib.hid hG
           clear hG hp
           go_wp2_with fail
           go_meet
           case rel => exact HS.out
       · have HC := Lib.hid (fun W (h : St r p q s g wz W) => h.c6 (b := true) (d := r.dir) (n := B r.name) hE rfl rfl)
         have HI := Lib.hid (fun W => ino_yes r.dir W (HM.out.ent hE).1 (HM.out.ent hE).2.1)
         have HN := Lib.hid (fun W => name_yes W (HM.out.ent hE).2.2)
         have n1 : ((r.dir : Int) == 0) = false := by have := (HM.out.ent hE).1; simp; omega
         have n2 : decide ((r.dir : Int) = 0) = false := by have := (HM.out.ent hE).1; simp; omega
         clear hE
         refine wp_region_phi (by kernel_rfl) (fun | 0 => some 22 | 1 => some 23 | 2 => some 24 | 3 => some 25 | 4 => some 26 | 5 => some 27 | 6 => some 28 | 7 => some 29 | 8 => some 30 | 9 => some 31 | 10 => some 32 | 11 => some 33 | 12 => some 34 | 13 => some 35 | 14 => some 36 | 15 => some 37 | 16 => some 38 | 17 => some 39 | 18 => some 40 | 19 => some 41 | 20 => some 42 | 21 => some 43 | _ => none) (fun a => ∃ x22 x23 x24 x25 x26 x27 x28 x29 x30 x31 x32 x33 x34 x35 x36 x37 x38 x39 x40 x41 x42 x43 : Value, a = ⟨#[Value.agg #[Value.int IntKind.u64 ↑r.stamp, Value.int IntKind.u8 ↑r.op, Value.int IntKind.u32 ↑r.dir, Value.string (B r.name), Value.int IntKind.u32 ↑r.ino, Value.int IntKind.u8 ↑r.kind, Value.int IntKind.u32 ↑r.dir2, Value.string (B r.name2), Value.int IntKind.u32 ↑r.old, Value.int IntKind.u32 ↑r.size, Value.int IntKind.i64 ↑r.page, Value.string (B r.data)], Value.pointer (some { block := wz.heap.size, off := 0 }), Value.int IntKind.i64 0, Value.pointer (some { block := p, off := 0 }), Value.pointer (some { block := q, off := 0 }), Value.func (Fn.func 102) #[] #[], Value.func (Fn.func 103) #[] #[], Value.func (Fn.func 104) #[] #[Value.pointer (some { block := q, off := 0 })], x8, x9, x10, x11, x12, x13, x14, Value.func (Fn.func 104) #[] #[Value.pointer (some { block := q, off := 0 })], Value.func (Fn.func 104) #[] #[Value.pointer (some { block := q, off := 0 })], Value.func (Fn.func 102) #[] #[], Value.pointer (some { block := wz.heap.size, off := 4 }), Value.int IntKind.u32 ↑r.ino, Value.bool true, Value.tuple #[], x22, x23, x24, x25, x26, x27, x28, x29, x30, x31, x32, x33, x34, x35, x36, x37, x38, x39, x40, x41, x42, x43, undef, undef, undef, undef, undef, undef, undef, undef, undef, undef, undef, undef, undef, undef, undef, undef, undef, undef, undef, undef, undef, undef, undef, undef, undef, undef, undef, undef, undef, undef, undef, undef, undef, undef, undef, undef, undef, undef, undef, undef, undef, undef, undef, undef, undef, undef, undef, undef, undef, undef, undef, undef, undef, undef, undef, undef, undef, undef, undef, undef, undef, undef, undef, undef, undef, undef, undef, undef, undef, undef, undef, undef, undef, undef, undef, undef, undef, undef, undef, undef, undef, undef, undef, undef, undef, undef], []⟩) (fun _ W => St r p q s g wz W) (fun _ _ _ => True) (fun | 0 => (fun v w => v = .func (.func 104) #[] #[.pointer (some ⟨q, 0, none⟩)]) | 1 => (fun v w => v = .pointer (some ⟨p, 1, none⟩)) | 2 => (fun v w => v = .bool true) | 3 => (fun v w => v = .func (.func 102) #[] #[]) | 4 => (fun v w => v = .pointer (some ⟨wz.heap.size, 2, none⟩)) | 5 => (fun v w => v = .int .u32 r.dir) | 6 => (fun v w => v = .bool true) | 7 => (fun v w => v = .bool true) | 8 => (fun v w => v = .func (.func 103) #[] #[]) | 9 => (fun v w => v = .pointer (some ⟨wz.heap.size, 3, none⟩)) | 10 => (fun v w => v = .string (B r.name)) | 11 => (fun v w => v = .bool true) | 12 => (fun v w => v = .bool true) | 13 => (fun v w => v = .pointer (some ⟨wz.heap.size, 2, none⟩)) | 14 => (fun v w => v = .int .u32 r.dir) | 15 => (fun v w => v = .bool false) | 16 => (fun v w => v = .bool false) | 17 => (fun v w => v = undef) | 18 => (fun v w => v = undef) | 19 => (fun v w => v = undef) | 20 => (fun v w => v = .bool false) | 21 => (fun v w => v = .tuple #[]) | _ => (fun _ _ => True)) (by kernel_rfl) ?st (by kernel_rfl) ?AA ⟨_, _, _, _, _, _, _, _, _, _, _, _, _, _, _, _, _, _, _, _, _, _, rfl⟩ ?G0 ?step ?done
         case st =>
           intro i j v w1 w2 hi hj hij hw hp hs
           have hi : i < 22 := hi
           match j, hp with
           | 0, hp | 1, hp | 2, hp | 3, hp | 4, hp | 5, hp | 6, hp | 7, hp | 8, hp | 9, hp | 10, hp | 11, hp | 12, hp | 13, hp | 14, hp | 15, hp | 16, hp | 17, hp | 18, hp | 19, hp | 20, hp | 21, hp => exact hp
           | j + 22, _ => exact trivial
         case AA =>
           rintro i a v hi ⟨_, _, _, _, _, _, _, _, _, _, _, _, _, _, _, _, _, _, _, _, _, _, rfl⟩
           match i, hi with
           | 0, _ | 1, _ | 2, _ | 3, _ | 4, _ | 5, _ | 6, _ | 7, _ | 8, _ | 9, _ | 10, _ | 11, _ | 12, _ | 13, _ | 14, _ | 15, _ | 16, _ | 17, _ | 18, _ | 19, _ | 20, _ | 21, _ => exact ⟨⟨_, _, _, _, _, _, _, _, _, _, _, _, _, _, _, _, _, _, _, _, _, _, rfl⟩, fun t h => by cases h <;> exact of_decide_eq_true rfl⟩
           | i + 22, hi => exact absurd hi (by simp)
         case G0 => exact S2.out.drew
         case step =>
           rintro i a w1 lst hi ⟨x22, x23, x24, x25, x26, x27, x28, x29, x30, x31, x32, x33, x34, x35, x36, x37, x38, x39, x40, x41, x42, x43, rfl⟩ hl hG hp
           refine wpOp_via (fun K hK => ?_)
           match i, hi with
           | 0, _ =>
             refine wpOp_at (by rfl) rfl ?_
             go_simp
             exact hK _ _ ⟨_, rfl, hG, trivial, rfl⟩
           | 1, _ =>
             refine wpOp_at (by rfl) rfl ?_
             go_simp
             exact hK _ _ ⟨_, rfl, hG, trivial, rfl⟩
           | 2, _ =>
             obtain rfl : x23 = _ := hp 1 (by kernel_rfl)
             obtain ⟨C0, C1, C2, _⟩ := HC.out _ hG
             have hl1 := hG.rc.lt
             have hl2 := hG.kd.lt
             refine wpOp_at (by rfl) rfl ?_
             go_simp
             exact hK _ _ ⟨_, rfl, hG, trivial, rfl⟩
           | 3, _ =>
             refine wpOp_at (by rfl) rfl ?_
             go_simp
             exact hK _ _ ⟨_, rfl, hG, trivial, rfl⟩
           | 4, _ =>
             refine wpOp_at (by rfl) rfl ?_
             go_simp
             exact hK _ _ ⟨_, rfl, hG, trivial, rfl⟩
           | 5, _ =>
             obtain rfl : x26 = _ := hp 4 (by kernel_rfl)
             obtain ⟨C0, C1, C2, _⟩ := HC.out _ hG
             have hl1 := hG.rc.lt
             have hl2 := hG.kd.lt
             refine wpOp_at (by rfl) rfl ?_
             go_simp
             exact hK _ _ ⟨_, rfl, hG, trivial, rfl⟩
           | 6, _ =>
             obtain rfl : x25 = _ := hp 3 (by kernel_rfl)
             obtain rfl : x27 = _ := hp 5 (by kernel_rfl)
             refine wpOp_at (by rfl) rfl ?_
             go_simp
             refine (HI.out _).mono ?_
             rintro e w9 ⟨rfl, rfl⟩
             exact hK _ _ ⟨_, rfl, hG, trivial, rfl⟩
           | 7, _ =>
             obtain rfl : x28 = _ := hp 6 (by kernel_rfl)
             refine wpOp_at (by rfl) rfl ?_
             go_simp
             exact hK _ _ ⟨_, rfl, hG, trivial, rfl⟩
           | 8, _ =>
             obtain rfl : x29 = _ := hp 7 (by kernel_rfl)
             refine wpOp_on (by rfl) (by kernel_rfl) ?_
             go_simp
             exact hK _ _ ⟨_, rfl, hG, trivial, rfl⟩
           | 9, _ =>
             obtain rfl : x29 = _ := hp 7 (by kernel_rfl)
             refine wpOp_on (by rfl) (by kernel_rfl) ?_
             go_simp
             exact hK _ _ ⟨_, rfl, hG, trivial, rfl⟩
           | 10, _ =>
             obtain rfl : x29 = _ := hp 7 (by kernel_rfl)
             obtain rfl : x31 = _ := hp 9 (by kernel_rfl)
             obtain ⟨C0, C1, C2, _⟩ := HC.out _ hG
             have hl1 := hG.rc.lt
             have hl2 := hG.kd.lt
             refine wpOp_on (by rfl) (by kernel_rfl) ?_
             go_simp
             exact hK _ _ ⟨_, rfl, hG, trivial, rfl⟩
           | 11, _ =>
             obtain rfl : x29 = _ := hp 7 (by kernel_rfl)
             obtain rfl : x30 = _ := hp 8 (by kernel_rfl)
             obtain rfl : x32 = _ := hp 10 (by kernel_rfl)
             refine wpOp_on (by rfl) (by kernel_rfl) ?_
             go_simp
             refine (HN.out _).mono ?_
             rintro e w9 ⟨rfl, hb9⟩
             exact hK _ _ ⟨_, rfl, hG.later hb9, trivial, rfl⟩
           | 12, _ =>
             obtain rfl : x29 = _ := hp 7 (by kernel_rfl)
             obtain rfl : x33 = _ := hp 11 (by kernel_rfl)
             refine wpOp_at (by rfl) rfl ?_
             go_simp
             exact hK _ _ ⟨_, rfl, hG, trivial, rfl⟩
           | 13, _ =>
             refine wpOp_at (by rfl) rfl ?_
             go_simp
             exact hK _ _ ⟨_, rfl, hG, trivial, rfl⟩
           | 14, _ =>
             obtain rfl : x35 = _ := hp 13 (by kernel_rfl)
             obtain ⟨C0, C1, C2, _⟩ := HC.out _ hG
             have hl1 := hG.rc.lt
             have hl2 := hG.kd.lt
             refine wpOp_at (by rfl) rfl ?_
             go_simp
             exact hK _ _ ⟨_, rfl, hG, trivial, rfl⟩
           | 15, _ =>
             obtain rfl : x36 = _ := hp 14 (by kernel_rfl)
             refine wpOp_at (by rfl) rfl ?_
             go_simp
             exact hK _ _ ⟨_, rfl, hG, trivial, rfl⟩
           | 16, _ =>
             obtain rfl : x37 = _ := hp 15 (by kernel_rfl)
             refine wpOp_at (by rfl) rfl ?_
             go_simp
             exact hK _ _ ⟨_, rfl, hG, trivial, rfl⟩
           | 17, _ =>
             obtain rfl : x38 = _ := hp 16 (by kernel_rfl)
             refine wpOp_off (by rfl) (by kernel_rfl) ?_
             exact hK _ _ ⟨_, rfl, hG, trivial, rfl⟩
           | 18, _ =>
             obtain rfl : x38 = _ := hp 16 (by kernel_rfl)
             refine wpOp_off (by rfl) (by kernel_rfl) ?_
             exact hK _ _ ⟨_, rfl, hG, trivial, rfl⟩
           | 19, _ =>
             obtain rfl : x38 = _ := hp 16 (by kernel_rfl)
             refine wpOp_off (by rfl) (by kernel_rfl) ?_
             exact hK _ _ ⟨_, rfl, hG, trivial, rfl⟩
           | 20, _ =>
             obtain rfl : x38 = _ := hp 16 (by kernel_rfl)
             obtain rfl : x41 = _ := hp 19 (by kernel_rfl)
             refine wpOp_at (by rfl) rfl ?_
             go_simp
             exact hK _ _ ⟨_, rfl, hG, trivial, rfl⟩
           | 21, _ =>
             obtain rfl : x22 = _ := hp 0 (by kernel_rfl)
             obtain rfl : x24 = _ := hp 2 (by kernel_rfl)
             obtain rfl : x34 = _ := hp 12 (by kernel_rfl)
             obtain rfl : x42 = _ := hp 20 (by kernel_rfl)
             refine wpOp_at (by rfl) rfl ?_
             go_simp
             refine (fits_cl q true true true false _ (St.is hG)).mono ?_
             rintro e w8 ⟨rfl, q8, t8⟩
             exact hK _ _ ⟨_, rfl, hG.fits q8 t8, trivial, rfl⟩
           | i + 22, hi => exact absurd hi (by simp)
         case done =>
           rintro a w8 lst hl ⟨x22, x23, x24, x25, x26, x27, x28, x29, x30, x31, x32, x33, x34, x35, x36, x37, x38, x39, x40, x41, x42, x43, rfl⟩ hG hp
           have HS := Lib.hid hG
           clear hG hp
           go_wp2_with fail
           go_meet
           case rel => exact HS.out
   case rest =>
     as_aux_lemma =>
       have S3 := Lib.hid hcut
       clear hcut S2
       go_upto_region 7 with fail
       go_cut [] (fun wx => St r p q s g wz wx)
       case first =>
         as_aux_lemma =>
           have hlq := S3.out.is.lt
           have hlp := S3.out.kd.lt
           have hlr := S3.out.rc.lt
           cases hE : kKnd r.op
           · obtain ⟨c1, c2⟩ := S3.out.ck (k := 0) hE (by rw [HM.out.nok hE]; rfl)
             clear hE
             go_wp2_with fail
             refine Calls.mono (fits_cl q true false _ true _ S3.out.is) ?_
             rintro e w8 ⟨rfl, q8, t8⟩
             have HS := Lib.hid (S3.out.fits q8 t8)
             clear q8 t8
             go_wp2_with fail
             go_meet
             case rel => exact HS.out
           · rcases HM.out.knd hE with hk | hk
             · obtain ⟨c1, c2⟩ := S3.out.ck (k := 1) hE (by rw [hk]; rfl)
               clear hE hk
               go_wp2_with fail
               refine Calls.mono (fits_cl q true true true _ _ S3.out.is) ?_
               rintro e w8 ⟨rfl, q8, t8⟩
               have HS := Lib.hid (S3.out.fits q8 t8)
               clear q8 t8
               go_wp2_with fail
               go_meet
               case rel => exact HS.out
             · obtain ⟨c1, c2⟩ := S3.out.ck (k := 2) hE (by rw [hk]; rfl)
               clear hE hk
               go_wp2_with fail
               refine Calls.mono (fits_cl q true true true _ _ S3.out.is) ?_
               rintro e w8 ⟨rfl, q8, t8⟩
               have HS := Lib.hid (S3.out.fits q8 t8)
               clear q8 t8
               go_wp2_with fail
               go_meet
               case rel => exact HS.out
       case rest =>
         as_aux_lemma =>
           have S4 := Lib.hid hcut
           clear hcut S3
           go_upto_region 8 with fail
           go_cut [] (fun wx => St r p q s g wz wx)
           case first =>
             as_aux_lemma =>
               cases hE : kMov r.op
               · have HC := Lib.hid (fun W (h : St r p q s g wz W) => h.c8 (b := false) (d := 0) (o := 0) (n := ⟨#[]⟩) hE (by rw [(HM.out.nom hE).1]; rfl) (by rw [(HM.out.nom hE).2.1]; rfl) (by rw [(HM.out.nom hE).2.2]; rfl))
                 have HI := Lib.hid ino_nil
                 clear hE
                 refine wp_region_phi (by kernel_rfl) (fun | 0 => some 59 | 1 => some 60 | 2 => some 61 | 3 => some 62 | 4 => some 63 | 5 => some 64 | 6 => some 65 | 7 => some 66 | 8 => some 67 | 9 => some 68 | 10 => some 69 | 11 => some 70 | 12 => some 71 | 13 => some 72 | 14 => some 73 | 15 => some 74 | 16 => some 75 | 17 => some 76 | 18 => some 77 | 19 => some 78 | 20 => some 79 | 21 => some 80 | 22 => some 81 | 23 => some 82 | 24 => some 83 | 25 => some 84 | 26 => some 85 | 27 => some 86 | 28 => some 87 | 29 => some 88 | 30 => some 89 | 31 => some 90 | _ => none) (fun a => ∃ x59 x60 x61 x62 x63 x64 x65 x66 x67 x68 x69 x70 x71 x72 x73 x74 x75 x76 x77 x78 x79 x80 x81 x82 x83 x84 x85 x86 x87 x88 x89 x90 : Value, a = ⟨#[Value.agg #[Value.int IntKind.u64 ↑r.stamp, Value.int IntKind.u8 ↑r.op, Value.int IntKind.u32 ↑r.dir, Value.string (B r.name), Value.int IntKind.u32 ↑r.ino, Value.int IntKind.u8 ↑r.kind, Value.int IntKind.u32 ↑r.dir2, Value.string (B r.name2), Value.int IntKind.u32 ↑r.old, Value.int IntKind.u32 ↑r.size, Value.int IntKind.i64 ↑r.page, Value.string (B r.data)], Value.pointer (some { block := wz.heap.size, off := 0 }), Value.int IntKind.i64 0, Value.pointer (some { block := p, off := 0 }), Value.pointer (some { block := q, off := 0 }), Value.func (Fn.func 102) #[] #[], Value.func (Fn.func 103) #[] #[], Value.func (Fn.func 104) #[] #[Value.pointer (some { block := q, off := 0 })], u8, u9, u10, u11, u12, u13, u14, u15, u16, u17, u18, u19, u20, u21, u22, u23, u24, u25, u26, u27, u28, u29, u30, u31, u32, u33, u34, u35, u36, u37, u38, u39, u40, u41, u42, u43, u44, u45, u46, u47, u48, u49, u50, u51, u52, u53, u54, u55, u56, u57, u58, x59, x60, x61, x62, x63, x64, x65, x66, x67, x68, x69, x70, x71, x72, x73, x74, x75, x76, x77, x78, x79, x80, x81, x82, x83, x84, x85, x86, x87, x88, x89, x90, u91, u92, u93, u94, u95, u96, u97, u98, u99, u100, u101, u102, u103, u104, u105, u106, u107, u108, u109, u110, u111, u112, u113, u114, u115, u116, u117, u118, u119, u120, u121, u122, u123, u124, u125, u126, u127, u128, u129], []⟩) (fun _ W => St r p q s g wz W) (fun _ _ _ => True) (fun | 0 => (fun v w => v = .func (.func 104) #[] #[.pointer (some ⟨q, 0, none⟩)]) | 1 => (fun v w => v = .pointer (some ⟨p, 3, none⟩)) | 2 => (fun v w => v = .bool false) | 3 => (fun v w => v = .func (.func 102) #[] #[]) | 4 => (fun v w => v = .pointer (some ⟨wz.heap.size, 6, none⟩)) | 5 => (fun v w => v = .int .u32 0) | 6 => (fun v w => v = .bool false) | 7 => (fun v w => v = .bool false) | 8 => (fun v w => v = undef) | 9 => (fun v w => v = undef) | 10 => (fun v w => v = undef) | 11 => (fun v w => v = undef) | 12 => (fun v w => v = .bool false) | 13 => (fun v w => v = .bool false) | 14 => (fun v w => v = undef) | 15 => (fun v w => v = undef) | 16 => (fun v w => v = undef) | 17 => (fun v w => v = .bool false) | 18 => (fun v w => v = .pointer (some ⟨wz.heap.size, 6, none⟩)) | 19 => (fun v w => v = .int .u32 0) | 20 => (fun v w => v = .bool true) | 21 => (fun v w => v = .bool true) | 22 => (fun v w => v = .pointer (some ⟨wz.heap.size, 7, none⟩)) | 23 => (fun v w => v = .string ⟨#[]⟩) | 24 => (fun v w => v = .bool true) | 25 => (fun v w => v = .bool true) | 26 => (fun v w => v = .bool true) | 27 => (fun v w => v = .pointer (some ⟨wz.heap.size, 8, none⟩)) | 28 => (fun v w => v = .int .u32 0) | 29 => (fun v w => v = .bool true) | 30 => (fun v w => v = .bool true) | 31 => (fun v w => v = .tuple #[]) | _ => (fun _ _ => True)) (by kernel_rfl) ?st (by kernel_rfl) ?AA ⟨_, _, _, _, _, _, _, _, _, _, _, _, _, _, _, _, _, _, _, _, _, _, _, _, _, _, _, _, _, _, _, _, rfl⟩ ?G0 ?step ?done
                 case st =>
                   intro i j v w1 w2 hi hj hij hw hp hs
                   have hi : i < 32 := hi
                   match j, hp with
                   | 0, hp | 1, hp | 2, hp | 3, hp | 4, hp | 5, hp | 6, hp | 7, hp | 8, hp | 9, hp | 10, hp | 11, hp | 12, hp | 13, hp | 14, hp | 15, hp | 16, hp | 17, hp | 18, hp | 19, hp | 20, hp | 21, hp | 22, hp | 23, hp | 24, hp | 25, hp | 26, hp | 27, hp | 28, hp | 29, hp | 30, hp | 31, hp => exact hp
                   | j + 32, _ => exact trivial
                 case AA =>
                   rintro i a v hi ⟨_, _, _, _, _, _, _, _, _, _, _, _, _, _, _, _, _, _, _, _, _, _, _, _, _, _, _, _, _, _, _, _, rfl⟩
                   match i, hi with
                   | 0, _ | 1, _ | 2, _ | 3, _ | 4, _ | 5, _ | 6, _ | 7, _ | 8, _ | 9, _ | 10, _ | 11, _ | 12, _ | 13, _ | 14, _ | 15, _ | 16, _ | 17, _ | 18, _ | 19, _ | 20, _ | 21, _ | 22, _ | 23, _ | 24, _ | 25, _ | 26, _ | 27, _ | 28, _ | 29, _ | 30, _ | 31, _ => exact ⟨⟨_, _, _, _, _, _, _, _, _, _, _, _, _, _, _, _, _, _, _, _, _, _, _, _, _, _, _, _, _, _, _, _, rfl⟩, fun t h => by cases h <;> exact of_decide_eq_true rfl⟩
                   | i + 32, hi => exact absurd hi (by simp)
                 case G0 => exact S4.out.drew
                 case step =>
                   rintro i a w1 lst hi ⟨x59, x60, x61, x62, x63, x64, x65, x66, x67, x68, x69, x70, x71, x72, x73, x74, x75, x76, x77, x78, x79, x80, x81, x82, x83, x84, x85, x86, x87, x88, x89, x90, rfl⟩ hl hG hp
                   refine wpOp_via (fun K hK => ?_)
                   match i, hi with
                   | 0, _ =>
                     refine wpOp_at (by rfl) rfl ?_
                     go_simp
                     exact hK _ _ ⟨_, rfl, hG, trivial, rfl⟩
                   | 1, _ =>
                     refine wpOp_at (by rfl) rfl ?_
                     go_simp
                     exact hK _ _ ⟨_, rfl, hG, trivial, rfl⟩
                   | 2, _ =>
                     obtain rfl : x60 = _ := hp 1 (by kernel_rfl)
                     obtain ⟨C0, C1, C2, C3, _⟩ := HC.out _ hG
                     have hl1 := hG.rc.lt
                     have hl2 := hG.kd.lt
                     refine wpOp_at (by rfl) rfl ?_
                     go_simp
                     exact hK _ _ ⟨_, rfl, hG, trivial, rfl⟩
                   | 3, _ =>
                     refine wpOp_at (by rfl) rfl ?_
                     go_simp
                     exact hK _ _ ⟨_, rfl, hG, trivial, rfl⟩
                   | 4, _ =>
                     refine wpOp_at (by rfl) rfl ?_
                     go_simp
                     exact hK _ _ ⟨_, rfl, hG, trivial, rfl⟩
                   | 5, _ =>
                     obtain rfl : x63 = _ := hp 4 (by kernel_rfl)
                     obtain ⟨C0, C1, C2, C3, _⟩ := HC.out _ hG
                     have hl1 := hG.rc.lt
                     have hl2 := hG.kd.lt
                     refine wpOp_at (by rfl) rfl ?_
                     go_simp
                     exact hK _ _ ⟨_, rfl, hG, trivial, rfl⟩
                   | 6, _ =>
                     obtain rfl : x62 = _ := hp 3 (by kernel_rfl)
                     obtain rfl : x64 = _ := hp 5 (by kernel_rfl)
                     refine wpOp_at (by rfl) rfl ?_
                     go_simp
                     refine (HI.out _).mono ?_
                     rintro e w9 ⟨rfl, rfl⟩
                     exact hK _ _ ⟨_, rfl, hG, trivial, rfl⟩
                   | 7, _ =>
                     obtain rfl : x65 = _ := hp 6 (by kernel_rfl)
                     refine wpOp_at (by rfl) rfl ?_
                     go_simp
                     exact hK _ _ ⟨_, rfl, hG, trivial, rfl⟩
                   | 8, _ =>
                     obtain rfl : x66 = _ := hp 7 (by kernel_rfl)
                     refine wpOp_off (by rfl) (by kernel_rfl) ?_
                     exact hK _ _ ⟨_, rfl, hG, trivial, rfl⟩
                   | 9, _ =>
                     obtain rfl : x66 = _ := hp 7 (by kernel_rfl)
                     refine wpOp_off (by rfl) (by kernel_rfl) ?_
                     exact hK _ _ ⟨_, rfl, hG, trivial, rfl⟩
                   | 10, _ =>
                     obtain rfl : x66 = _ := hp 7 (by kernel_rfl)
                     refine wpOp_off (by rfl) (by kernel_rfl) ?_
                     exact hK _ _ ⟨_, rfl, hG, trivial, rfl⟩
                   | 11, _ =>
                     obtain rfl : x66 = _ := hp 7 (by kernel_rfl)
                     refine wpOp_off (by rfl) (by kernel_rfl) ?_
                     exact hK _ _ ⟨_, rfl, hG, trivial, rfl⟩
                   | 12, _ =>
                     obtain rfl : x66 = _ := hp 7 (by kernel_rfl)
                     obtain rfl : x70 = _ := hp 11 (by kernel_rfl)
                     refine wpOp_at (by rfl) rfl ?_
                     go_simp
                     exact hK _ _ ⟨_, rfl, hG, trivial, rfl⟩
                   | 13, _ =>
                     obtain rfl : x71 = _ := hp 12 (by kernel_rfl)
                     refine wpOp_at (by rfl) rfl ?_
                     go_simp
                     exact hK _ _ ⟨_, rfl, hG, trivial, rfl⟩
                   | 14, _ =>
                     obtain rfl : x72 = _ := hp 13 (by kernel_rfl)
                     refine wpOp_off (by rfl) (by kernel_rfl) ?_
                     exact hK _ _ ⟨_, rfl, hG, trivial, rfl⟩
                   | 15, _ =>
                     obtain rfl : x72 = _ := hp 13 (by kernel_rfl)
                     refine wpOp_off (by rfl) (by kernel_rfl) ?_
                     exact hK _ _ ⟨_, rfl, hG, trivial, rfl⟩
                   | 16, _ =>
                     obtain rfl : x72 = _ := hp 13 (by kernel_rfl)
                     refine wpOp_off (by rfl) (by kernel_rfl) ?_
                     exact hK _ _ ⟨_, rfl, hG, trivial, rfl⟩
                   | 17, _ =>
                     obtain rfl : x72 = _ := hp 13 (by kernel_rfl)
                     obtain rfl : x75 = _ := hp 16 (by kernel_rfl)
                     refine wpOp_at (by rfl) rfl ?_
                     go_simp
                     exact hK _ _ ⟨_, rfl, hG, trivial, rfl⟩
                   | 18, _ =>
                     refine wpOp_at (by rfl) rfl ?_
                     go_simp
                     exact hK _ _ ⟨_, rfl, hG, trivial, rfl⟩
                   | 19, _ =>
                     obtain rfl : x77 = _ := hp 18 (by kernel_rfl)
                     obtain ⟨C0, C1, C2, C3, _⟩ := HC.out _ hG
                     have hl1 := hG.rc.lt
                     have hl2 := hG.kd.lt
                     refine wpOp_at (by rfl) rfl ?_
                     go_simp
                     exact hK _ _ ⟨_, rfl, hG, trivial, rfl⟩
                   | 20, _ =>
                     obtain rfl : x78 = _ := hp 19 (by kernel_rfl)
                     refine wpOp_at (by rfl) rfl ?_
                     go_simp
                     exact hK _ _ ⟨_, rfl, hG, trivial, rfl⟩
                   | 21, _ =>
                     obtain rfl : x79 = _ := hp 20 (by kernel_rfl)
                     refine wpOp_at (by rfl) rfl ?_
                     go_simp
                     exact hK _ _ ⟨_, rfl, hG, trivial, rfl⟩
                   | 22, _ =>
                     obtain rfl : x80 = _ := hp 21 (by kernel_rfl)
                     refine wpOp_on (by rfl) (by kernel_rfl) ?_
                     go_simp
                     exact hK _ _ ⟨_, rfl, hG, trivial, rfl⟩
                   | 23, _ =>
                     obtain rfl : x80 = _ := hp 21 (by kernel_rfl)
                     obtain rfl : x81 = _ := hp 22 (by kernel_rfl)
                     obtain ⟨C0, C1, C2, C3, _⟩ := HC.out _ hG
                     have hl1 := hG.rc.lt
                     have hl2 := hG.kd.lt
                     refine wpOp_on (by rfl) (by kernel_rfl) ?_
                     go_simp
                     exact hK _ _ ⟨_, rfl, hG, trivial, rfl⟩
                   | 24, _ =>
                     obtain rfl : x80 = _ := hp 21 (by kernel_rfl)
                     obtain rfl : x82 = _ := hp 23 (by kernel_rfl)
                     refine wpOp_on (by rfl) (by kernel_rfl) ?_
                     go_simp
                     exact hK _ _ ⟨_, rfl, hG, trivial, rfl⟩
                   | 25, _ =>
                     obtain rfl : x80 = _ := hp 21 (by kernel_rfl)
                     obtain rfl : x83 = _ := hp 24 (by kernel_rfl)
                     refine wpOp_at (by rfl) rfl ?_
                     go_simp
                     exact hK _ _ ⟨_, rfl, hG, trivial, rfl⟩
                   | 26, _ =>
                     obtain rfl : x84 = _ := hp 25 (by kernel_rfl)
                     refine wpOp_at (by rfl) rfl ?_
                     go_simp
                     exact hK _ _ ⟨_, rfl, hG, trivial, rfl⟩
                   | 27, _ =>
                     obtain rfl : x85 = _ := hp 26 (by kernel_rfl)
                     refine wpOp_on (by rfl) (by kernel_rfl) ?_
                     go_simp
                     exact hK _ _ ⟨_, rfl, hG, trivial, rfl⟩
                   | 28, _ =>
                     obtain rfl : x85 = _ := hp 26 (by kernel_rfl)
                     obtain rfl : x86 = _ := hp 27 (by kernel_rfl)
                     obtain ⟨C0, C1, C2, C3, _⟩ := HC.out _ hG
                     have hl1 := hG.rc.lt
                     have hl2 := hG.kd.lt
                     refine wpOp_on (by rfl) (by kernel_rfl) ?_
                     go_simp
                     exact hK _ _ ⟨_, rfl, hG, trivial, rfl⟩
                   | 29, _ =>
                     obtain rfl : x85 = _ := hp 26 (by kernel_rfl)
                     obtain rfl : x87 = _ := hp 28 (by kernel_rfl)
                     refine wpOp_on (by rfl) (by kernel_rfl) ?_
                     go_simp
                     exact hK _ _ ⟨_, rfl, hG, trivial, rfl⟩
                   | 30, _ =>
                     obtain rfl : x85 = _ := hp 26 (by kernel_rfl)
                     obtain rfl : x88 = _ := hp 29 (by kernel_rfl)
                     refine wpOp_at (by rfl) rfl ?_
                     go_simp
                     exact hK _ _ ⟨_, rfl, hG, trivial, rfl⟩
                   | 31, _ =>
                     obtain rfl : x59 = _ := hp 0 (by kernel_rfl)
                     obtain rfl : x61 = _ := hp 2 (by kernel_rfl)
                     obtain rfl : x76 = _ := hp 17 (by kernel_rfl)
                     obtain rfl : x89 = _ := hp 30 (by kernel_rfl)
                     refine wpOp_at (by rfl) rfl ?_
                     go_simp
                     refine (fits_cl q true false false true _ (St.is hG)).mono ?_
                     rintro e w8 ⟨rfl, q8, t8⟩
                     exact hK _ _ ⟨_, rfl, hG.fits q8 t8, trivial, rfl⟩
                   | i + 32, hi => exact absurd hi (by simp)
                 case done =>
                   rintro a w8 lst hl ⟨x59, x60, x61, x62, x63, x64, x65, x66, x67, x68, x69, x70, x71, x72, x73, x74, x75, x76, x77, x78, x79, x80, x81, x82, x83, x84, x85, x86, x87, x88, x89, x90, rfl⟩ hG hp
                   have HS := Lib.hid hG
                   clear hG hp
                   go_wp2_with fail
                   go_meet
                   case rel => exact HS.out
               · have HC := Lib.hid (fun W (h : St r p q s g wz W) => h.c8 (b := true) (d := r.dir2) (o := r.old) (n := B r.name2) hE rfl rfl rfl)
                 have HI := Lib.hid (fun W => ino_yes r.dir2 W (HM.out.mov hE).1 (HM.out.mov hE).2.1)
                 have HN := Lib.hid (fun W => name_yes W (HM.out.mov hE).2.2.1)
                 have n1 : ((r.dir2 : Int) == 0) = false := by have := (HM.out.mov hE).1; simp; omega
                 have n2 : decide ((r.dir2 : Int) = 0) = false := by have := (HM.out.mov hE).1; simp; omega
                 have n3 : decide ((r.old : Int) ≤ 256) = true := by have := (HM.out.mov hE).2.2.2; simp; omega
                 clear hE
                 refine wp_region_phi (by kernel_rfl) (fun | 0 => some 59 | 1 => some 60 | 2 => some 61 | 3 => some 62 | 4 => some 63 | 5 => some 64 | 6 => some 65 | 7 => some 66 | 8 => some 67 | 9 => some 68 | 10 => some 69 | 11 => some 70 | 12 => some 71 | 13 => some 72 | 14 => some 73 | 15 => some 74 | 16 => some 75 | 17 => some 76 | 18 => some 77 | 19 => some 78 | 20 => some 79 | 21 => some 80 | 22 => some 81 | 23 => some 82 | 24 => some 83 | 25 => some 84 | 26 => some 85 | 27 => some 86 | 28 => some 87 | 29 => some 88 | 30 => some 89 | 31 => some 90 | _ => none) (fun a => ∃ x59 x60 x61 x62 x63 x64 x65 x66 x67 x68 x69 x70 x71 x72 x73 x74 x75 x76 x77 x78 x79 x80 x81 x82 x83 x84 x85 x86 x87 x88 x89 x90 : Value, a = ⟨#[Value.agg #[Value.int IntKind.u64 ↑r.stamp, Value.int IntKind.u8 ↑r.op, Value.int IntKind.u32 ↑r.dir, Value.string (B r.name), Value.int IntKind.u32 ↑r.ino, Value.int IntKind.u8 ↑r.kind, Value.int IntKind.u32 ↑r.dir2, Value.string (B r.name2), Value.int IntKind.u32 ↑r.old, Value.int IntKind.u32 ↑r.size, Value.int IntKind.i64 ↑r.page, Value.string (B r.data)], Value.pointer (some { block := wz.heap.size, off := 0 }), Value.int IntKind.i64 0, Value.pointer (some { block := p, off := 0 }), Value.pointer (some { block := q, off := 0 }), Value.func (Fn.func 102) #[] #[], Value.func (Fn.func 103) #[] #[], Value.func (Fn.func 104) #[] #[Value.pointer (some { block := q, off := 0 })], u8, u9, u10, u11, u12, u13, u14, u15, u16, u17, u18, u19, u20, u21, u22, u23, u24, u25, u26, u27, u28, u29, u30, u31, u32, u33, u34, u35, u36, u37, u38, u39, u40, u41, u42, u43, u44, u45, u46, u47, u48, u49, u50, u51, u52, u53, u54, u55, u56, u57, u58, x59, x60, x61, x62, x63, x64, x65, x66, x67, x68, x69, x70, x71, x72, x73, x74, x75, x76, x77, x78, x79, x80, x81, x82, x83, x84, x85, x86, x87, x88, x89, x90, u91, u92, u93, u94, u95, u96, u97, u98, u99, u100, u101, u102, u103, u104, u105, u106, u107, u108, u109, u110, u111, u112, u113, u114, u115, u116, u117, u118, u119, u120, u121, u122, u123, u124, u125, u126, u127, u128, u129], []⟩) (fun _ W => St r p q s g wz W) (fun _ _ _ => True) (fun | 0 => (fun v w => v = .func (.func 104) #[] #[.pointer (some ⟨q, 0, none⟩)]) | 1 => (fun v w => v = .pointer (some ⟨p, 3, none⟩)) | 2 => (fun v w => v = .bool true) | 3 => (fun v w => v = .func (.func 102) #[] #[]) | 4 => (fun v w => v = .pointer (some ⟨wz.heap.size, 6, none⟩)) | 5 => (fun v w => v = .int .u32 r.dir2) | 6 => (fun v w => v = .bool true) | 7 => (fun v w => v = .bool true) | 8 => (fun v w => v = .func (.func 103) #[] #[]) | 9 => (fun v w => v = .pointer (some ⟨wz.heap.size, 7, none⟩)) | 10 => (fun v w => v = .string (B r.name2)) | 11 => (fun v w => v = .bool true) | 12 => (fun v w => v = .bool true) | 13 => (fun v w => v = .bool true) | 14 => (fun v w => v = .pointer (some ⟨wz.heap.size, 8, none⟩)) | 15 => (fun v w => v = .int .u32 r.old) | 16 => (fun v w => v = .bool true) | 17 => (fun v w => v = .bool true) | 18 => (fun v w => v = .pointer (some ⟨wz.heap.size, 6, none⟩)) | 19 => (fun v w => v = .int .u32 r.dir2) | 20 => (fun v w => v = .bool false) | 21 => (fun v w => v = .bool false) | 22 => (fun v w => v = undef) | 23 => (fun v w => v = undef) | 24 => (fun v w => v = undef) | 25 => (fun v w => v = .bool false) | 26 => (fun v w => v = .bool false) | 27 => (fun v w => v = undef) | 28 => (fun v w => v = undef) | 29 => (fun v w => v = undef) | 30 => (fun v w => v = .bool false) | 31 => (fun v w => v = .tuple #[]) | _ => (fun _ _ => True)) (by kernel_rfl) ?st (by kernel_rfl) ?AA ⟨_, _, _, _, _, _, _, _, _, _, _, _, _, _, _, _, _, _, _, _, _, _, _, _, _, _, _, _, _, _, _, _, rfl⟩ ?G0 ?step ?done
                 case st =>
                   intro i j v w1 w2 hi hj hij hw hp hs
                   have hi : i < 32 := hi
                   match j, hp with
                   | 0, hp | 1, hp | 2, hp | 3, hp | 4, hp | 5, hp | 6, hp | 7, hp | 8, hp | 9, hp | 10, hp | 11, hp | 12, hp | 13, hp | 14, hp | 15, hp | 16, hp | 17, hp | 18, hp | 19, hp | 20, hp | 21, hp | 22, hp | 23, hp | 24, hp | 25, hp | 26, hp | 27, hp | 28, hp | 29, hp | 30, hp | 31, hp => exact hp
                   | j + 32, _ => exact trivial
                 case AA =>
                   rintro i a v hi ⟨_, _, _, _, _, _, _, _, _, _, _, _, _, _, _, _, _, _, _, _, _, _, _, _, _, _, _, _, _, _, _, _, rfl⟩
                   match i, hi with
                   | 0, _ | 1, _ | 2, _ | 3, _ | 4, _ | 5, _ | 6, _ | 7, _ | 8, _ | 9, _ | 10, _ | 11, _ | 12, _ | 13, _ | 14, _ | 15, _ | 16, _ | 17, _ | 18, _ | 19, _ | 20, _ | 21, _ | 22, _ | 23, _ | 24, _ | 25, _ | 26, _ | 27, _ | 28, _ | 29, _ | 30, _ | 31, _ => exact ⟨⟨_, _, _, _, _, _, _, _, _, _, _, _, _, _, _, _, _, _, _, _, _, _, _, _, _, _, _, _, _, _, _, _, rfl⟩, fun t h => by cases h <;> exact of_decide_eq_true rfl⟩
                   | i + 32, hi => exact absurd hi (by simp)
                 case G0 => exact S4.out.drew
                 case step =>
                   rintro i a w1 lst hi ⟨x59, x60, x61, x62, x63, x64, x65, x66, x67, x68, x69, x70, x71, x72, x73, x74, x75, x76, x77, x78, x79, x80, x81, x82, x83, x84, x85, x86, x87, x88, x89, x90, rfl⟩ hl hG hp
                   refine wpOp_via (fun K hK => ?_)
                   match i, hi with
                   | 0, _ =>
                     refine wpOp_at (by rfl) rfl ?_
                     go_simp
                     exact hK _ _ ⟨_, rfl, hG, trivial, rfl⟩
                   | 1, _ =>
                     refine wpOp_at (by rfl) rfl ?_
                     go_simp
                     exact hK _ _ ⟨_, rfl, hG, trivial, rfl⟩
                   | 2, _ =>
                     obtain rfl : x60 = _ := hp 1 (by kernel_rfl)
                     obtain ⟨C0, C1, C2, C3, _⟩ := HC.out _ hG
                     have hl1 := hG.rc.lt
                     have hl2 := hG.kd.lt
                     refine wpOp_at (by rfl) rfl ?_
                     go_simp
                     exact hK _ _ ⟨_, rfl, hG, trivial, rfl⟩
                   | 3, _ =>
                     refine wpOp_at (by rfl) rfl ?_
                     go_simp
                     exact hK _ _ ⟨_, rfl, hG, trivial, rfl⟩
                   | 4, _ =>
                     refine wpOp_at (by rfl) rfl ?_
                     go_simp
                     exact hK _ _ ⟨_, rfl, hG, trivial, rfl⟩
                   | 5, _ =>
                     obtain rfl : x63 = _ := hp 4 (by kernel_rfl)
                     obtain ⟨C0, C1, C2, C3, _⟩ := HC.out _ hG
                     have hl1 := hG.rc.lt
                     have hl2 := hG.kd.lt
                     refine wpOp_at (by rfl) rfl ?_
                     go_simp
                     exact hK _ _ ⟨_, rfl, hG, trivial, rfl⟩
                   | 6, _ =>
                     obtain rfl : x62 = _ := hp 3 (by kernel_rfl)
                     obtain rfl : x64 = _ := hp 5 (by kernel_rfl)
                     refine wpOp_at (by rfl) rfl ?_
                     go_simp
                     refine (HI.out _).mono ?_
                     rintro e w9 ⟨rfl, rfl⟩
                     exact hK _ _ ⟨_, rfl, hG, trivial, rfl⟩
                   | 7, _ =>
                     obtain rfl : x65 = _ := hp 6 (by kernel_rfl)
                     refine wpOp_at (by rfl) rfl ?_
                     go_simp
                     exact hK _ _ ⟨_, rfl, hG, trivial, rfl⟩
                   | 8, _ =>
                     obtain rfl : x66 = _ := hp 7 (by kernel_rfl)
                     refine wpOp_on (by rfl) (by kernel_rfl) ?_
                     go_simp
                     exact hK _ _ ⟨_, rfl, hG, trivial, rfl⟩
                   | 9, _ =>
                     obtain rfl : x66 = _ := hp 7 (by kernel_rfl)
                     refine wpOp_on (by rfl) (by kernel_rfl) ?_
                     go_simp
                     exact hK _ _ ⟨_, rfl, hG, trivial, rfl⟩
                   | 10, _ =>
                     obtain rfl : x66 = _ := hp 7 (by kernel_rfl)
                     obtain rfl : x68 = _ := hp 9 (by kernel_rfl)
                     obtain ⟨C0, C1, C2, C3, _⟩ := HC.out _ hG
                     have hl1 := hG.rc.lt
                     have hl2 := hG.kd.lt
                     refine wpOp_on (by rfl) (by kernel_rfl) ?_
                     go_simp
                     exact hK _ _ ⟨_, rfl, hG, trivial, rfl⟩
                   | 11, _ =>
                     obtain rfl : x66 = _ := hp 7 (by kernel_rfl)
                     obtain rfl : x67 = _ := hp 8 (by kernel_rfl)
                     obtain rfl : x69 = _ := hp 10 (by kernel_rfl)
                     refine wpOp_on (by rfl) (by kernel_rfl) ?_
                     go_simp
                     refine (HN.out _).mono ?_
                     rintro e w9 ⟨rfl, hb9⟩
                     exact hK _ _ ⟨_, rfl, hG.later hb9, trivial, rfl⟩
                   | 12, _ =>
                     obtain rfl : x66 = _ := hp 7 (by kernel_rfl)
                     obtain rfl : x70 = _ := hp 11 (by kernel_rfl)
                     refine wpOp_at (by rfl) rfl ?_
                     go_simp
                     exact hK _ _ ⟨_, rfl, hG, trivial, rfl⟩
                   | 13, _ =>
                     obtain rfl : x71 = _ := hp 12 (by kernel_rfl)
                     refine wpOp_at (by rfl) rfl ?_
                     go_simp
                     exact hK _ _ ⟨_, rfl, hG, trivial, rfl⟩
                   | 14, _ =>
                     obtain rfl : x72 = _ := hp 13 (by kernel_rfl)
                     refine wpOp_on (by rfl) (by kernel_rfl) ?_
                     go_simp
                     exact hK _ _ ⟨_, rfl, hG, trivial, rfl⟩
                   | 15, _ =>
                     obtain rfl : x72 = _ := hp 13 (by kernel_rfl)
                     obtain rfl : x73 = _ := hp 14 (by kernel_rfl)
                     obtain ⟨C0, C1, C2, C3, _⟩ := HC.out _ hG
                     have hl1 := hG.rc.lt
                     have hl2 := hG.kd.lt
                     refine wpOp_on (by rfl) (by kernel_rfl) ?_
                     go_simp
                     exact hK _ _ ⟨_, rfl, hG, trivial, rfl⟩
                   | 16, _ =>
                     obtain rfl : x72 = _ := hp 13 (by kernel_rfl)
                     obtain rfl : x74 = _ := hp 15 (by kernel_rfl)
                     refine wpOp_on (by rfl) (by kernel_rfl) ?_
                     go_simp
                     exact hK _ _ ⟨_, rfl, hG, trivial, rfl⟩
                   | 17, _ =>
                     obtain rfl : x72 = _ := hp 13 (by kernel_rfl)
                     obtain rfl : x75 = _ := hp 16 (by kernel_rfl)
                     refine wpOp_at (by rfl) rfl ?_
                     go_simp
                     exact hK _ _ ⟨_, rfl, hG, trivial, rfl⟩
                   | 18, _ =>
                     refine wpOp_at (by rfl) rfl ?_
                     go_simp
                     exact hK _ _ ⟨_, rfl, hG, trivial, rfl⟩
                   | 19, _ =>
                     obtain rfl : x77 = _ := hp 18 (by kernel_rfl)
                     obtain ⟨C0, C1, C2, C3, _⟩ := HC.out _ hG
                     have hl1 := hG.rc.lt
                     have hl2 := hG.kd.lt
                     refine wpOp_at (by rfl) rfl ?_
                     go_simp
                     exact hK _ _ ⟨_, rfl, hG, trivial, rfl⟩
                   | 20, _ =>
                     obtain rfl : x78 = _ := hp 19 (by kernel_rfl)
                     refine wpOp_at (by rfl) rfl ?_
                     go_simp
                     exact hK _ _ ⟨_, rfl, hG, trivial, rfl⟩
                   | 21, _ =>
                     obtain rfl : x79 = _ := hp 20 (by kernel_rfl)
                     refine wpOp_at (by rfl) rfl ?_
                     go_simp
                     exact hK _ _ ⟨_, rfl, hG, trivial, rfl⟩
                   | 22, _ =>
                     obtain rfl : x80 = _ := hp 21 (by kernel_rfl)
                     refine wpOp_off (by rfl) (by kernel_rfl) ?_
                     exact hK _ _ ⟨_, rfl, hG, trivial, rfl⟩
                   | 23, _ =>
                     obtain rfl : x80 = _ := hp 21 (by kernel_rfl)
                     refine wpOp_off (by rfl) (by kernel_rfl) ?_
                     exact hK _ _ ⟨_, rfl, hG, trivial, rfl⟩
                   | 24, _ =>
                     obtain rfl : x80 = _ := hp 21 (by kernel_rfl)
                     refine wpOp_off (by rfl) (by kernel_rfl) ?_
                     exact hK _ _ ⟨_, rfl, hG, trivial, rfl⟩
                   | 25, _ =>
                     obtain rfl : x80 = _ := hp 21 (by kernel_rfl)
                     obtain rfl : x83 = _ := hp 24 (by kernel_rfl)
                     refine wpOp_at (by rfl) rfl ?_
                     go_simp
                     exact hK _ _ ⟨_, rfl, hG, trivial, rfl⟩
                   | 26, _ =>
                     obtain rfl : x84 = _ := hp 25 (by kernel_rfl)
                     refine wpOp_at (by rfl) rfl ?_
                     go_simp
                     exact hK _ _ ⟨_, rfl, hG, trivial, rfl⟩
                   | 27, _ =>
                     obtain rfl : x85 = _ := hp 26 (by kernel_rfl)
                     refine wpOp_off (by rfl) (by kernel_rfl) ?_
                     exact hK _ _ ⟨_, rfl, hG, trivial, rfl⟩
                   | 28, _ =>
                     obtain rfl : x85 = _ := hp 26 (by kernel_rfl)
                     refine wpOp_off (by rfl) (by kernel_rfl) ?_
                     exact hK _ _ ⟨_, rfl, hG, trivial, rfl⟩
                   | 29, _ =>
                     obtain rfl : x85 = _ := hp 26 (by kernel_rfl)
                     refine wpOp_off (by rfl) (by kernel_rfl) ?_
                     exact hK _ _ ⟨_, rfl, hG, trivial, rfl⟩
                   | 30, _ =>
                     obtain rfl : x85 = _ := hp 26 (by kernel_rfl)
                     obtain rfl : x88 = _ := hp 29 (by kernel_rfl)
                     refine wpOp_at (by rfl) rfl ?_
                     go_simp
                     exact hK _ _ ⟨_, rfl, hG, trivial, rfl⟩
                   | 31, _ =>
                     obtain rfl : x59 = _ := hp 0 (by kernel_rfl)
                     obtain rfl : x61 = _ := hp 2 (by kernel_rfl)
                     obtain rfl : x76 = _ := hp 17 (by kernel_rfl)
                     obtain rfl : x89 = _ := hp 30 (by kernel_rfl)
                     refine wpOp_at (by rfl) rfl ?_
                     go_simp
                     refine (fits_cl q true true true false _ (St.is hG)).mono ?_
                     rintro e w8 ⟨rfl, q8, t8⟩
                     exact hK _ _ ⟨_, rfl, hG.fits q8 t8, trivial, rfl⟩
                   | i + 32, hi => exact absurd hi (by simp)
                 case done =>
                   rintro a w8 lst hl ⟨x59, x60, x61, x62, x63, x64, x65, x66, x67, x68, x69, x70, x71, x72, x73, x74, x75, x76, x77, x78, x79, x80, x81, x82, x83, x84, x85, x86, x87, x88, x89, x90, rfl⟩ hG hp
                   have HS := Lib.hid hG
                   clear hG hp
                   go_wp2_with fail
                   go_meet
                   case rel => exact HS.out
           case rest =>
             as_aux_lemma =>
               have S5 := Lib.hid hcut
               clear hcut S4
               go_upto_region 9 with fail
               go_cut [] (fun wx => St r p q s g wz wx)
               case first =>
                 as_aux_lemma =>
                   have hlq := S5.out.is.lt
                   have hlp := S5.out.kd.lt
                   have hlr := S5.out.rc.lt
                   cases hE : kSiz r.op
                   · obtain ⟨c1, c2⟩ := S5.out.cs (k := 0) hE (by rw [HM.out.nos hE]; rfl)
                     clear hE
                     go_wp2_with fail
                     refine Calls.mono (fits_cl q true false _ true _ S5.out.is) ?_
                     rintro e w8 ⟨rfl, q8, t8⟩
                     have HS := Lib.hid (S5.out.fits q8 t8)
                     clear q8 t8
                     go_wp2_with fail
                     go_meet
                     case rel => exact HS.out
                   · obtain ⟨c1, c2⟩ := S5.out.cs (k := r.size) hE rfl
                     have n1 : decide ((2304 : Int) < (r.size : Int)) = false := by have := HM.out.siz hE; simp; omega
                     clear hE
                     go_wp2_with fail
                     refine Calls.mono (fits_cl q true true true _ _ S5.out.is) ?_
                     rintro e w8 ⟨rfl, q8, t8⟩
                     have HS := Lib.hid (S5.out.fits q8 t8)
                     clear q8 t8
                     go_wp2_with fail
                     go_meet
                     case rel => exact HS.out
               case rest =>
                 as_aux_lemma =>
                   have S6 := Lib.hid hcut
                   clear hcut S5
                   go_upto_region 10 with fail
                   go_cut [] (fun wx => St r p q s g wz wx)
                   case first =>
                     as_aux_lemma =>
                       have hlq := S6.out.is.lt
                       have hlp := S6.out.kd.lt
                       have hlr := S6.out.rc.lt
                       cases hE : kDat r.op
                       · obtain ⟨c1, c2, c3⟩ := S6.out.cd (k := 0) (n := ⟨#[]⟩) hE (by rw [(HM.out.nod hE).1]; rfl) (by rw [(HM.out.nod hE).2]; rfl)
                         clear hE
                         go_wp2_with fail
                         refine Calls.mono (fits_cl q true false _ true _ S6.out.is) ?_
                         rintro e w8 ⟨rfl, q8, t8⟩
                         have HS := Lib.hid (S6.out.fits q8 t8)
                         clear q8 t8
                         go_wp2_with fail
                         go_meet
                         case rel => exact HS.out
                       · obtain ⟨h36, h64⟩ := HM.out.dat hE
                         obtain ⟨c1, c2, c3⟩ := S6.out.cd (k := r.page) (n := B r.data) hE rfl rfl
                         have z64 : ((B r.data).size : Int) = 64 := by rw [size_B, h64]; rfl
                         have n1 : decide ((0 : Int) ≤ (r.page : Int)) = true := by simp
                         have n2 : decide ((r.page : Int) < 36) = true := by simp; omega
                         have n4 : r.data ≠ [] := fun e => by rw [e] at h64; cases h64
                         have n5 : (r.data == []) = false := by simpa using n4
                         have n6 : decide (r.data = []) = false := by simpa using n4
                         have n7 : ((B r.data).toList == []) = false := by rw [toList_L, L_B]; simpa using n4
                         have n8 : (B r.data).toList.isEmpty = false := by rw [toList_L, L_B]; cases h : r.data with | nil => exact absurd h n4 | cons => rfl
                         clear hE h36 h64
                         by_cases h0 : r.page = 0
                         · have n9 : ((r.page : Int) == 0) = true := by rw [h0]; rfl
                           have n10 : decide ((r.page : Int) = 0) = true := by rw [h0]; rfl
                           clear h0
                           go_wp2_with fail
                           refine Calls.mono (fits_cl q true true true _ _ S6.out.is) ?_
                           rintro e w8 ⟨rfl, q8, t8⟩
                           have HS := Lib.hid (S6.out.fits q8 t8)
                           clear q8 t8
                           go_wp2_with fail
                           go_meet
                           case rel => exact HS.out
                         · have n9 : ((r.page : Int) == 0) = false := by simp; omega
                           have n10 : decide ((r.page : Int) = 0) = false := by simp; omega
                           clear h0
                           go_wp2_with fail
                           refine Calls.mono (fits_cl q true true true _ _ S6.out.is) ?_
                           rintro e w8 ⟨rfl, q8, t8⟩
                           have HS := Lib.hid (S6.out.fits q8 t8)
                           clear q8 t8
                           go_wp2_with fail
                           go_meet
                           case rel => exact HS.out
                   case rest =>
                     as_aux_lemma =>
                       have S7 := Lib.hid hcut
                       have cq := hcut.is.cell 0
                       have hlq := hcut.is.lt
                       simp only [List.getElem?_toArray, List.getElem?_cons_zero] at cq
                       clear hcut S6
                       go_wp2_with fail
                       go_ret
                       exact ⟨rfl, S7.out.be⟩
end Go.Proofs.YtmfhnhnmdeabeaaGreat.Re
end
