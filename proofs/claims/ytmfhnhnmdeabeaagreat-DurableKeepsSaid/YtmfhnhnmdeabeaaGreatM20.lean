/- Layer 22 (rec), plain: what a record that can be played does is what the tree's methods do. -/
import Derived.Test.YtmfhnhnmdeabeaaGreatM11
set_option linter.unusedVariables false
set_option linter.unusedSimpArgs false
set_option maxRecDepth 100000
section
namespace Go.Proofs.YtmfhnhnmdeabeaaGreat.Re
open Go.RowKit Go.Shelf Go.Maps Oct Path Tr
theorem kU8 : Keyed Tryz.prog 5 := Maps.int_keyed Tryz.underlying5
theorem key8 {x : Nat} (h : x < 256) : keyOf Tryz.prog 5 (.int .u8 x) = some (.int .u8 x) := Maps.keyOf_int_mk Tryz.underlying5 (by
 simp only [Lit.wf, Bool.and_eq_true, decide_eq_true_eq]
 exact ⟨by show (0 : Int) ≤ x; omega, by show (x : Int) ≤ 255; omega⟩)
theorem nat_none (kd : IntKind) : (fun _ => none : Lit → Option Value) = natF kd (fun _ => none) := by
 funext k
 cases k <;> simp [natF]
def kv (w : Array UInt8) (a b c d e : Bool) (f : Nat) : Value := .agg #[.string ⟨w⟩, .bool a, .bool b, .bool c, .bool d, .bool e, .func (.func f) #[] #[]]
def k1 : Value := kv #[109, 97, 107, 101] true true false false false 105
def k2 : Value := kv #[108, 105, 110, 107] true false false false false 106
def k3 : Value := kv #[117, 110, 108, 105, 110, 107] true true false false false 107
def k4 : Value := kv #[114, 101, 110, 97, 109, 101] true true true false false 108
def k5 : Value := kv #[115, 105, 122, 101] false false false true false 109
def k6 : Value := kv #[112, 97, 103, 101] false false false true true 110
def k7 : Value := kv #[102, 114, 101, 101] false false false false false 111
def kindF (y : Nat) : Option Value := if y = 7 then some k7 else if y = 6 then some k6 else if y = 5 then some k5 else if y = 4 then some k4 else if y = 3 then some k3 else if y = 2 then some k2 else if y = 1 then some k1 else none
set_option maxHeartbeats 4000000 in
theorem kinds_any (w : World) : Calls Tryz.prog 62 #[] w fun e w' => ∃ b, e = .returned (.map (some b)) ∧ VMap w' 5 b 7 (natF .u8 kindF) ∧ w.heap.size ≤ b ∧ Below w.heap.size w w' := by
 have hmm := @run_makeMap Tryz.prog
 have h0 := VMap.new w 5
 rw [nat_none .u8] at h0
 have B0 : Tch (fun c => w.heap.size ≤ c) w (w.alloc (.map #[] 0)) := Tch.of ((Below.refl w.heap.size w).alloc (Nat.le_refl _) (.map #[] 0))
 obtain ⟨w0, hw0⟩ : ∃ w0, w.alloc (.map #[] 0) = w0 := ⟨_, rfl⟩
 rw [hw0] at h0 B0
 obtain ⟨w1, r1, h1, t1⟩ := h0.put kU8 Tryz.underlying114 (by decide) (show keyOf Tryz.prog 5 (.int .u8 1) = some (.int .u8 1) from key8 (x := 1) (by omega)) k1
 change VMap w1 _ _ _ (putV (natF .u8 _) (.int .u8 ((1 : Nat) : Int)) k1) at h1
 rw [natF_put] at h1
 have B1 := B0.trans (Tch.turned t1 (Nat.le_refl _))
 obtain ⟨w2, r2, h2, t2⟩ := h1.put kU8 Tryz.underlying114 (by decide) (show keyOf Tryz.prog 5 (.int .u8 2) = some (.int .u8 2) from key8 (x := 2) (by omega)) k2
 change VMap w2 _ _ _ (putV (natF .u8 _) (.int .u8 ((2 : Nat) : Int)) k2) at h2
 rw [natF_put] at h2
 have B2 := B1.trans (Tch.turned t2 (Nat.le_refl _))
 obtain ⟨w3, r3, h3, t3⟩ := h2.put kU8 Tryz.underlying114 (by decide) (show keyOf Tryz.prog 5 (.int .u8 3) = some (.int .u8 3) from key8 (x := 3) (by omega)) k3
 change VMap w3 _ _ _ (putV (natF .u8 _) (.int .u8 ((3 : Nat) : Int)) k3) at h3
 rw [natF_put] at h3
 have B3 := B2.trans (Tch.turned t3 (Nat.le_refl _))
 obtain ⟨w4, r4, h4, t4⟩ := h3.put kU8 Tryz.underlying114 (by decide) (show keyOf Tryz.prog 5 (.int .u8 4) = some (.int .u8 4) from key8 (x := 4) (by omega)) k4
 change VMap w4 _ _ _ (putV (natF .u8 _) (.int .u8 ((4 : Nat) : Int)) k4) at h4
 rw [natF_put] at h4
 have B4 := B3.trans (Tch.turned t4 (Nat.le_refl _))
 obtain ⟨w5, r5, h5, t5⟩ := h4.put kU8 Tryz.underlying114 (by decide) (show keyOf Tryz.prog 5 (.int .u8 5) = some (.int .u8 5) from key8 (x := 5) (by omega)) k5
 change VMap w5 _ _ _ (putV (natF .u8 _) (.int .u8 ((5 : Nat) : Int)) k5) at h5
 rw [natF_put] at h5
 have B5 := B4.trans (Tch.turned t5 (Nat.le_refl _))
 obtain ⟨w6, r6, h6, t6⟩ := h5.put kU8 Tryz.underlying114 (by decide) (show keyOf Tryz.prog 5 (.int .u8 6) = some (.int .u8 6) from key8 (x := 6) (by omega)) k6
 change VMap w6 _ _ _ (putV (natF .u8 _) (.int .u8 ((6 : Nat) : Int)) k6) at h6
 rw [natF_put] at h6
 have B6 := B5.trans (Tch.turned t6 (Nat.le_refl _))
 obtain ⟨w7, r7, h7, t7⟩ := h6.put kU8 Tryz.underlying114 (by decide) (show keyOf Tryz.prog 5 (.int .u8 7) = some (.int .u8 7) from key8 (x := 7) (by omega)) k7
 change VMap w7 _ _ _ (putV (natF .u8 _) (.int .u8 ((7 : Nat) : Int)) k7) at h7
 rw [natF_put] at h7
 have B7 := B6.trans (Tch.turned t7 (Nat.le_refl _))
 have HV := Lib.hid (show VMap w7 5 w.heap.size 7 (natF .u8 kindF) from h7)
 have BB := Lib.hid (Tch.below B7 fun i hi => ⟨hi, Nat.not_le.2 hi⟩)
 have HW := Lib.hid hw0
 clear h0 h1 h2 h3 h4 h5 h6 h7 t1 t2 t3 t4 t5 t6 t7 B0 B1 B2 B3 B4 B5 B6 B7
 unfold k1 k2 k3 k4 k5 k6 k7 kv at *
 rw [← HW.out] at r1
 clear hw0
 go_enter Tryz.func62, Tryz.ntmps62
 go_wp2_with fail
 go_ret
 exact ⟨_, rfl, HV.out, Nat.le_refl _, BB.out⟩
end Go.Proofs.YtmfhnhnmdeabeaaGreat.Re
end
section
namespace Go.Proofs.YtmfhnhnmdeabeaaGreat.Re
open Go.RowKit Go.Shelf Go.Maps Oct Path Tr
def inoB (x : Nat) : Bool := decide (1 ≤ x) && decide (x ≤ 256)
theorem ino_any (x : Nat) (w : World) : Calls Tryz.prog 102 #[.int .u32 x] w fun e w' => e = .returned (.bool (inoB x)) ∧ w = w' := by
 unfold inoB
 by_cases h1 : 1 ≤ x
 · have t1 : (x : Int) ≥ 1 := by omega
   by_cases h2 : x ≤ 256
   · have t2 : (x : Int) ≤ 256 := by omega
     go_enter Tryz.func102, Tryz.ntmps102
     go_wp2_with fail
     go_ret
     exact ⟨by simp [h1, h2], rfl⟩
   · have t2 : ¬ (x : Int) ≤ 256 := by omega
     go_enter Tryz.func102, Tryz.ntmps102
     go_wp2_with fail
     go_ret
     exact ⟨by simp [h1, h2], rfl⟩
 · have t1 : ¬ (x : Int) ≥ 1 := by omega
   go_enter Tryz.func102, Tryz.ntmps102
   go_wp2_with fail
   go_ret
   exact ⟨by simp [h1], rfl⟩
theorem name_cl (s : ByteArray) (w : World) (hs : s.size ≤ maxLen) : Calls Tryz.prog 103 #[.string s] w fun e w' => e = .returned (.bool (nameE (L s) == 0)) ∧ Below w.heap.size w w' := by
 have NA := Lib.hid (name_any s w hs)
 obtain ⟨n, hn⟩ : ∃ n, nameE (L s) = n := ⟨_, rfl⟩
 rw [hn] at NA ⊢
 clear hn
 go_enter Tryz.func103, Tryz.ntmps103
 go_wp2_with fail
 refine Calls.mono NA.out ?_
 rintro e w' ⟨rfl, hb⟩
 have HB := Lib.hid hb
 clear hb NA
 go_wp2_with fail
 go_ret
 exact ⟨rfl, HB.out⟩
theorem fits_cl (p : Nat) (z a b c : Bool) (w : World) (hp : SBox w p 4 #[.bool z]) : Calls Tryz.prog 104 #[.bool a, .bool b, .bool c, .pointer (some ⟨p, 0, none⟩)] w fun e w' => e = .returned (.tuple #[]) ∧ SBox w' p 4 #[.bool (z && (a && b || !a && c))] ∧ Tch (fun x => x = p) w w' := by
 have HP := Lib.hid hp
 have X0 := hp.cell 0
 simp only [List.getElem?_toArray, List.getElem?_cons_zero, List.getElem?_cons_succ] at X0
 have Xl := hp.lt
 have F0 := hp.free 0
 clear hp
 rcases z with _ | _ <;> rcases a with _ | _ <;> rcases b with _ | _ <;> rcases c with _ | _
 all_goals (go_enter Tryz.func104, Tryz.ntmps104)
 all_goals go_wp2_with fail
 all_goals go_end0
 all_goals exact ⟨rfl, HP.out.set 0 _, Tch.cell rfl⟩
end Go.Proofs.YtmfhnhnmdeabeaaGreat.Re
end
section
namespace Go.Proofs.YtmfhnhnmdeabeaaGreat.Re
open Go.RowKit Go.Shelf Go.Maps Oct Path Tr
def recC (r : Rc) : Array Value := #[.int .u64 r.stamp, .int .u8 r.op, .int .u32 r.dir, .string (B r.name), .int .u32 r.ino, .int .u8 r.kind, .int .u32 r.dir2, .string (B r.name2), .int .u32 r.old, .int .u32 r.size, .int .i64 r.page, .string (B r.data)]
def recV (r : Rc) : Value := .agg (recC r)
def kEnt (o : Nat) : Bool := decide (o ≤ 4)
def kKnd (o : Nat) : Bool := o == 1 || o == 3 || o == 4
def kMov (o : Nat) : Bool := o == 4
def kSiz (o : Nat) : Bool := o == 5 || o == 6
def kDat (o : Nat) : Bool := o == 6
def kv0 : Value := .agg #[.string ⟨#[]⟩, .bool false, .bool false, .bool false, .bool false, .bool false, .nilFunc]
structure May (r : Rc) : Prop where
 op : 1 ≤ r.op ∧ r.op ≤ 7
 ino : 1 ≤ r.ino ∧ r.ino ≤ 256
 ent : kEnt r.op = true → 1 ≤ r.dir ∧ r.dir ≤ 256 ∧ isName r.name = true
 noe : kEnt r.op = false → r.dir = 0 ∧ r.name = []
 knd : kKnd r.op = true → r.kind = 1 ∨ r.kind = 2
 nok : kKnd r.op = false → r.kind = 0
 mov : kMov r.op = true → 1 ≤ r.dir2 ∧ r.dir2 ≤ 256 ∧ isName r.name2 = true ∧ r.old ≤ 256
 nom : kMov r.op = false → r.dir2 = 0 ∧ r.name2 = [] ∧ r.old = 0
 siz : kSiz r.op = true → r.size ≤ 2304
 nos : kSiz r.op = false → r.size = 0
 dat : kDat r.op = true → r.page < 36 ∧ r.data.length = 64
 nod : kDat r.op = false → r.page = 0 ∧ r.data = []
 stp : r.stamp < 18446744073709551616
theorem kind_at {o : Nat} (h : 1 ≤ o ∧ o ≤ 7) : ∃ w f, kindF o = some (kv w (kEnt o) (kKnd o) (kMov o) (kSiz o) (kDat o) f) := by
 obtain ⟨h1, h2⟩ := h
 match o, h1, h2 with
 | 1, _, _ => exact ⟨_, _, rfl⟩
 | 2, _, _ => exact ⟨_, _, rfl⟩
 | 3, _, _ => exact ⟨_, _, rfl⟩
 | 4, _, _ => exact ⟨_, _, rfl⟩
 | 5, _, _ => exact ⟨_, _, rfl⟩
 | 6, _, _ => exact ⟨_, _, rfl⟩
 | 7, _, _ => exact ⟨_, _, rfl⟩
theorem kind_look {W : World} {b o : Nat} (h : VMap W 5 b 7 (natF .u8 kindF)) (ho : 1 ≤ o ∧ o ≤ 7) : ∃ w f, (Instr.lookup 114 (.map (some b)) (.int .u8 o) true).run Tryz.prog W = .ok (.tuple #[kv w (kEnt o) (kKnd o) (kMov o) (kSiz o) (kDat o) f, .bool true]) W := by
 obtain ⟨w, f, hk⟩ := kind_at ho
 refine ⟨w, f, ?_⟩
 have hz : (zeroValue 113).run Tryz.prog W = .ok kv0 W := by kernel_rfl
 rw [h.look_ok kU8 Tryz.underlying114 hz (key8 (x := o) (by omega)), natF_at, hk]
 rfl
end Go.Proofs.YtmfhnhnmdeabeaaGreat.Re
end
section
namespace Go.Proofs.YtmfhnhnmdeabeaaGreat.Re
open Go.RowKit Go.Shelf Go.Maps Oct Path Tr
variable {E : TL} {room q : Nat} {S : T}
def tightL (E : TL) (S : T) : TL := { E with O := fun c => c = E.t ∨ c = E.m ∨ ∃ x, (S.n x).kind ≠ 0 ∧ (c = E.P x ∨ c = E.A x ∨ c = E.B x) }
theorem _root_.Go.Proofs.YtmfhnhnmdeabeaaGreat.Tr.TreeAt.tight {W : World} (h : TreeAt W E room q S) : TreeAt W (tightL E S) room q S :=
 { top := h.top, map := h.map, nd := h.nd, ent := h.ent, pg := h.pg, own := ⟨.inl rfl, .inr (.inl rfl), fun x hx => ⟨.inr (.inr ⟨x, hx, .inl rfl⟩), .inr (.inr ⟨x, hx, .inr (.inl rfl)⟩), .inr (.inr ⟨x, hx, .inr (.inr rfl)⟩)⟩⟩, iP := h.iP, iA := h.iA, iB := h.iB, iAB := h.iAB, iM := h.iM, rm := h.rm, q8 := h.q8, lk := h.lk, dt := h.dt }
theorem _root_.Go.Proofs.YtmfhnhnmdeabeaaGreat.Tr.TreeAt.tight_sub {W : World} (h : TreeAt W E room q S) {c : Nat} (hc : (tightL E S).O c) : E.O c ∧ c < W.heap.size := by
 have o := h.own
 rcases hc with rfl | rfl | ⟨x, hx, rfl | rfl | rfl⟩
 · exact ⟨o.1, h.top.lt⟩
 · exact ⟨o.2.1, h.map.lt⟩
 · exact ⟨(o.2.2 x hx).1, (h.nd x hx).lt⟩
 · exact ⟨(o.2.2 x hx).2.1, (h.ent x hx).lt⟩
 · exact ⟨(o.2.2 x hx).2.2, by obtain ⟨g, _, h2⟩ := h.pg x hx; exact h2.lt⟩
structure Pl (wz w' : World) (E E' : TL) (room q : Nat) (S' : T) : Prop where
 t : E'.t = E.t
 new : ∀ c, E'.O c → E.O c ∨ wz.heap.size ≤ c
 lt : ∀ c, E'.O c → c < w'.heap.size
 at_ : TreeAt w' E' room q S'
 tch : Tch E.O wz w'
def Pls (wz w' : World) (E : TL) (room q : Nat) (S' : T) : Prop := ∃ E', Pl wz w' E E' room q S'
theorem Pls.did {wz w' : World} {S' : T} (h : Did wz w' E room q S') : Pls wz w' E room q S' := by
 obtain ⟨E', x, t, c⟩ := h
 exact ⟨tightL E' S', x.t, fun c hc => x.new c (t.tight_sub hc).1, fun c hc => (t.tight_sub hc).2, t.tight, c⟩
theorem Pls.of {wz w' : World} {S' : T} (h : TreeAt w' E room q S') (ht : Tch E.O wz w') : Pls wz w' E room q S' := Pls.did (Did.of h ht)
theorem Pl.then_ {wz w1 w2 : World} {E1 : TL} {S1 S2 : T} {q1 : Nat} (h1 : Pl wz w1 E E1 room q S1) (h2 : Pls w1 w2 E1 room q1 S2) : Pls wz w2 E room q1 S2 := by
 obtain ⟨E2, h2⟩ := h2
 have hs := h1.tch.size
 exact ⟨E2, h2.t.trans h1.t, fun c hc => (h2.new c hc).elim (h1.new c) (fun h => .inr (Nat.le_trans hs h)), h2.lt, h2.at_, h1.tch.ext h2.tch h1.new⟩
theorem Pls.below {wz w1 w2 : World} {S2 : T} (h : Below wz.heap.size wz w1) (h2 : Pls w1 w2 E room q S2) : Pls wz w2 E room q S2 := by
 obtain ⟨E2, h2⟩ := h2
 exact ⟨E2, h2.t, fun c hc => (h2.new c hc).elim .inl (fun h3 => .inr (Nat.le_trans h.size h3)), h2.lt, h2.at_, (Tch.of h).trans h2.tch⟩
theorem Pls.later {wz w1 w2 : World} {S1 : T} (h : Pls wz w1 E room q S1) (h2 : Below w1.heap.size w1 w2) : Pls wz w2 E room q S1 := by
 obtain ⟨E1, h1⟩ := h
 exact ⟨E1, h1.t, h1.new, fun c hc => Nat.lt_of_lt_of_le (h1.lt c hc) h2.size, h1.at_.later h2, h1.tch.trans (Tch.of h2)⟩
theorem Pls.more {wz w1 : World} {S1 : T} (h : Pls wz w1 E room q S1) {q1 : Nat} (h1 : q ≤ q1) (h2 : q1 ≤ 100000) : Pls wz w1 E room q1 S1 := by
 obtain ⟨E1, p⟩ := h
 exact ⟨E1, p.t, p.new, p.lt, p.at_.more h1 h2, p.tch⟩
theorem Tch.box {O : Nat → Prop} {w w' : World} (h : Tch O w w') {b : Nat} {t : TypeId} {cs : Array Value} (hb : SBox w b t cs) (ho : ¬ O b) : SBox w' b t cs := (h.block b hb.lt ho).trans hb
def actC (t : Nat) (r : Rc) : Array Value := #[.pointer (some ⟨t, 0, none⟩), .int .u64 r.stamp, .int .u8 r.op, .int .u32 r.dir, .string (B r.name), .int .u32 r.ino, .int .u8 r.kind, .int .u32 r.dir2, .string (B r.name2), .int .u32 r.old, .int .u32 r.size, .int .i64 r.page, .string (B r.data)]
def actV (t : Nat) (r : Rc) : Value := .agg (actC t r)
theorem isName_len {s : Nm} (h : isName s = true) : s.length ≤ 27 := by unfold isName at h; simp only [Bool.and_eq_true, decide_eq_true_eq] at h; exact h.1.1.1.2
theorem May.name {r : Rc} (h : May r) : (B r.name).size ≤ maxLen := by
 rw [size_B]
 cases hE : kEnt r.op with
 | true => have := isName_len (h.ent hE).2.2; unfold maxLen; omega
 | false => rw [(h.noe hE).2]; simp
theorem May.name2 {r : Rc} (h : May r) : (B r.name2).size ≤ maxLen := by
 rw [size_B]
 cases hE : kMov r.op with
 | true => have := isName_len (h.mov hE).2.2.1; unfold maxLen; omega
 | false => rw [(h.nom hE).2.1]; simp
theorem May.dir {r : Rc} (h : May r) : r.dir ≤ 256 := by
 cases hE : kEnt r.op with
 | true => exact (h.ent hE).2.1
 | false => rw [(h.noe hE).1]; omega
theorem May.dir2 {r : Rc} (h : May r) : r.dir2 ≤ 256 := by
 cases hE : kMov r.op with
 | true => exact (h.mov hE).2.1
 | false => rw [(h.nom hE).1]; omega
theorem May.old {r : Rc} (h : May r) : r.old ≤ 256 := by
 cases hE : kMov r.op with
 | true => exact (h.mov hE).2.2.2
 | false => rw [(h.nom hE).2.2]; omega
theorem cut_lose (hI : Inv room S) {dir ino : Nat} {s : Nm} (hl : S.l dir s = ino) (hi : ino ≠ 0) : cutS S dir s ino = ⟨setN S.n ino (lose (S.n ino)), setL S.l dir s 0⟩ := by
 have he := hI.ent dir s (by omega)
 rw [hl] at he
 have hk := hI.k2 ino
 have hdr := hI.dr ino
 have hfl := hI.fl ino
 have ss : ∀ a b, setN (setN S.n ino a) ino b = setN S.n ino b := fun a b => by funext y; by_cases ey : y = ino <;> simp [setN, ey]
 unfold cutS freeS
 simp only [setN_same]
 by_cases h2 : (S.n ino).kind = 2
 · have hb : freeB ino (loss (S.n ino)) = true := by
     unfold freeB loss
     rw [if_pos h2]
     simp [h2, he.2, (hdr h2).1]
   rw [if_pos hb, ss]
   unfold lose
   rw [if_pos h2]
 · have h1 : (S.n ino).kind = 1 := by omega
   unfold lose fre
   rw [if_neg h2]
   by_cases hz : (S.n ino).held = 0 ∧ (S.n ino).links - 1 = 0
   · have hb : freeB ino (loss (S.n ino)) = true := by
       unfold freeB loss
       rw [if_neg h2]
       simp [h2, he.2, hz]
     rw [if_pos hb, ss, if_pos hz]
   · have hb : freeB ino (loss (S.n ino)) = false := by
       unfold freeB loss
       rw [if_neg h2]
       simp [h2, he.2]
       omega
     rw [hb, if_neg hz]
     unfold loss
     rw [if_neg h2]
     rfl
theorem drop_fre (hI : Inv room S) {ino : Nat} (h1 : (S.n ino).kind = 1) (hh : (S.n ino).held ≠ 0) : dropS S ino = ⟨setN S.n ino (fre { S.n ino with held := (S.n ino).held - 1 }), S.l⟩ := by
 have hr : ino ≠ 1 := fun e => by have := hI.root.1; rw [e] at h1; omega
 have ss : ∀ a b, setN (setN S.n ino a) ino b = setN S.n ino b := fun a b => by funext y; by_cases ey : y = ino <;> simp [setN, ey]
 unfold dropS
 rw [if_pos (by simp [dropE, firstE, errB, h1, hh])]
 unfold freeS fre
 simp only [setN_same]
 by_cases hz : (S.n ino).held - 1 = 0 ∧ (S.n ino).links = 0
 · rw [if_pos (by unfold freeB; simp [hr, h1, hz]), ss, if_pos hz]
 · rw [if_neg (by unfold freeB; simp [hr, h1]; omega), if_neg hz]
theorem next_make {r : Rc} (h : r.op = 1) (hk : r.kind = 1 ∨ r.kind = 2) : next r S = if r.kind = 1 then holdS ⟨setN S.n r.ino (gain ⟨r.kind, r.kind / 2, 0, 0, []⟩ r.dir), setL S.l r.dir r.name r.ino⟩ r.ino else ⟨setN S.n r.ino (gain ⟨r.kind, r.kind / 2, 0, 0, []⟩ r.dir), setL S.l r.dir r.name r.ino⟩ := by
 have ss : ∀ a b, setN (setN S.n r.ino a) r.ino b = setN S.n r.ino b := fun a b => by funext y; by_cases ey : y = r.ino <;> simp [setN, ey]
 unfold next
 rw [if_pos h]
 rcases hk with hk | hk
 · simp only [hk]
   simp [holdS, fileE, firstE, errB, gain, setN_same, ss]
 · simp only [hk]
   simp [gain]
theorem next_move (hI : Inv room S) {r : Rc} (h : r.op = 4) (ho : Ok room r S) (hk : r.kind = 1 ∨ r.kind = 2) :
   next r S = if r.old = r.ino then S else if r.old = 0 then mvS S r.dir r.name r.dir2 r.name2 r.ino else mvS (cutS S r.dir2 r.name2 r.old) r.dir r.name r.dir2 r.name2 r.ino := by
 unfold Ok at ho
 rw [if_neg (by omega), if_neg (by omega), if_neg (by omega), if_pos h] at ho
 obtain ⟨d1, l1, i0, k1, d2, l2, hb, ho⟩ := ho
 unfold next
 rw [if_neg (by omega), if_neg (by omega), if_neg (by omega), if_pos h]
 by_cases h1 : r.old = r.ino
 · rw [if_pos h1, if_pos h1]
 · rw [if_neg h1, if_neg h1]
   have key : ∀ (f : Nat → Nd) (l : Nat → Nm → Nat), f r.ino = S.n r.ino → mvS ⟨f, l⟩ r.dir r.name r.dir2 r.name2 r.ino = ⟨setN f r.ino (if r.kind = 2 then { S.n r.ino with up := r.dir2 } else S.n r.ino), setL (setL l r.dir r.name 0) r.dir2 r.name2 r.ino⟩ := fun f l hf => by
     unfold mvS
     simp only [setN_same, hf]
     have ss : ∀ a b, setN (setN f r.ino a) r.ino b = setN f r.ino b := fun a b => by funext y; by_cases ey : y = r.ino <;> simp [setN, ey]
     rw [ss]
     congr 1
     congr 1
     unfold gain loss
     by_cases h2 : r.kind = 2
     · simp [h2, k1]
     · have hc := hI.cnt r.ino (by rw [k1]; omega)
       have := hc.pos l1
       simp only [h2, k1, if_false]
       rw [Nat.sub_add_cancel (by omega), ← k1]
   by_cases h0 : r.old = 0
   · rw [if_pos h0, if_pos h0]
     exact (key S.n S.l rfl).symm
   · rw [if_neg h0, if_neg h0, cut_lose hI l2 h0, key _ _ (setN_other _ _ (Ne.symm h1))]
     congr 1
     have hne : ¬ (r.dir = r.dir2 ∧ r.name = r.name2) := fun e => by rw [← e.1, ← e.2, l1] at l2; exact h1 l2.symm
     funext d s
     simp only [setL]
     by_cases e1 : d = r.dir2 ∧ s = r.name2
     · simp [e1]
     · simp [e1]
end Go.Proofs.YtmfhnhnmdeabeaaGreat.Re
end
