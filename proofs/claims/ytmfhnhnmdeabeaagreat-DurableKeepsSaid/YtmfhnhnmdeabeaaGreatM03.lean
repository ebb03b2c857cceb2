/- A region that draws its order in a round of a range over a function: as wp_region_phi. -/
import Derived.Test.YtmfhnhnmdeabeaaGreatM01
import Derived.Maps.OwnSet
import Derived.Maps.OwnOps
import Derived.Maps.Views
import Derived.Maps.RangeWalk
import Derived.Maps.Ext
import Derived.Lib.SlKeysI
import Derived.StringKeys
import Derived.Orders
import Derived.Lib.Hide
import Derived.WalkMore
import Derived.Test.YtmfhnhnmdeabeaaGreatM02
import Derived.Deep.QuietTactic
import Derived.BigQuiet
import Derived.BigRegion
import Derived.OrdersIn
import Derived.RangeFuncCalls
import Derived.TacticsIn
set_option linter.unusedVariables false
set_option linter.unusedSimpArgs false
set_option maxRecDepth 100000
section
namespace Go.Proofs.YtmfhnhnmdeabeaaGreat.Tr
abbrev Nm := List UInt8
structure Nd where
 kind : Nat
 links : Nat
 held : Nat
 up : Nat
 data : Nm
def Nd.no : Nd := ⟨0, 0, 0, 0, []⟩
structure T where
 n : Nat → Nd
 l : Nat → Nm → Nat
structure Rc where
 stamp : Nat
 op : Nat
 dir : Nat
 name : Nm
 ino : Nat
 kind : Nat
 dir2 : Nat
 name2 : Nm
 old : Nat
 size : Nat
 page : Nat
 data : Nm
def setN (f : Nat → Nd) (x : Nat) (v : Nd) : Nat → Nd := fun y => if y = x then v else f y
def setL (f : Nat → Nm → Nat) (d : Nat) (s : Nm) (v : Nat) : Nat → Nm → Nat := fun e t => if e = d ∧ t = s then v else f e t
inductive Bel (S : T) (top : Nat) : Nat → Prop where
 | here : Bel S top top
 | up (d : Nat) : (S.n d).up ≠ 0 → Bel S top (S.n d).up → Bel S top d
def resz (s : Nm) (k : Nat) : Nm := s.take k ++ List.replicate (k - s.length) 0
def wr (s : Nm) (p : Nat) (d : Nm) : Nm :=
 let u := resz s (max s.length (p * 64 + d.length))
 u.take (p * 64) ++ d ++ u.drop (p * 64 + d.length)
def fre (v : Nd) : Nd := if v.held = 0 ∧ v.links = 0 then Nd.no else v
def lose (v : Nd) : Nd := if v.kind = 2 then Nd.no else fre { v with links := v.links - 1 }
def Ok (room : Nat) (r : Rc) (S : T) : Prop :=
 if r.op = 1 then (S.n r.dir).kind = 2 ∧ S.l r.dir r.name = 0 ∧ (S.n r.ino).kind = 0 ∧ 1 ≤ r.ino ∧ r.ino ≤ room
 else if r.op = 2 then (S.n r.dir).kind = 2 ∧ S.l r.dir r.name = 0 ∧ (S.n r.ino).kind = 1 ∧ (S.n r.ino).links < 200
 else if r.op = 3 then (S.n r.dir).kind = 2 ∧ S.l r.dir r.name = r.ino ∧ r.ino ≠ 0 ∧ (S.n r.ino).kind = r.kind ∧ ∀ s, S.l r.ino s = 0
 else if r.op = 4 then (S.n r.dir).kind = 2 ∧ S.l r.dir r.name = r.ino ∧ r.ino ≠ 0 ∧ (S.n r.ino).kind = r.kind ∧ (S.n r.dir2).kind = 2 ∧ S.l r.dir2 r.name2 = r.old ∧ (r.kind = 2 → ¬ Bel S r.ino r.dir2) ∧ (r.old ≠ 0 → r.old ≠ r.ino → (S.n r.old).kind = r.kind ∧ ∀ s, S.l r.old s = 0)
 else if r.op = 5 then (S.n r.ino).kind = 1
 else if r.op = 6 then (S.n r.ino).kind = 1
 else (S.n r.ino).kind = 1 ∧ (S.n r.ino).links = 0 ∧ (S.n r.ino).held ≠ 0
def next (r : Rc) (S : T) : T :=
 if r.op = 1 then ⟨setN S.n r.ino ⟨r.kind, 1, if r.kind = 1 then 1 else 0, if r.kind = 2 then r.dir else 0, []⟩, setL S.l r.dir r.name r.ino⟩
 else if r.op = 2 then ⟨setN S.n r.ino { S.n r.ino with links := (S.n r.ino).links + 1 }, setL S.l r.dir r.name r.ino⟩
 else if r.op = 3 then ⟨setN S.n r.ino (lose (S.n r.ino)), setL S.l r.dir r.name 0⟩
 else if r.op = 4 then
   if r.old = r.ino then S
   else ⟨setN (if r.old = 0 then S.n else setN S.n r.old (lose (S.n r.old))) r.ino (if r.kind = 2 then { S.n r.ino with up := r.dir2 } else S.n r.ino), setL (setL S.l r.dir r.name 0) r.dir2 r.name2 r.ino⟩
 else if r.op = 5 then ⟨setN S.n r.ino { S.n r.ino with data := resz (S.n r.ino).data r.size }, S.l⟩
 else if r.op = 6 then ⟨setN S.n r.ino { S.n r.ino with data := resz (wr (S.n r.ino).data r.page r.data) r.size }, S.l⟩
 else ⟨setN S.n r.ino (fre { S.n r.ino with held := (S.n r.ino).held - 1 }), S.l⟩
def Wi (r : Rc) (x : Nat) : Prop := x = r.ino ∨ r.op = 4 ∧ r.old ≠ 0 ∧ x = r.old
def Ri (r : Rc) (x : Nat) : Prop := (r.op = 1 ∨ r.op = 2 ∨ r.op = 3 ∨ r.op = 4) ∧ x = r.dir ∨ r.op = 4 ∧ x = r.dir2
def We (r : Rc) (d : Nat) (s : Nm) : Prop := (r.op = 1 ∨ r.op = 2 ∨ r.op = 3 ∨ r.op = 4) ∧ d = r.dir ∧ s = r.name ∨ r.op = 4 ∧ d = r.dir2 ∧ s = r.name2
def Mv (r : Rc) : Prop := r.op = 4 ∧ r.kind = 2
structure Apart (a b : Rc) : Prop where
 ww : ∀ x, Wi a x → ¬ Wi b x
 wr : ∀ x, Wi a x → ¬ Ri b x
 rw : ∀ x, Ri a x → ¬ Wi b x
 ee : ∀ d s, We a d s → ¬ We b d s
 mm : Mv a → ¬ Mv b
theorem Apart.symm {a b : Rc} (h : Apart a b) : Apart b a := ⟨fun x p q => h.ww x q p, fun x p q => h.rw x q p, fun x p q => h.wr x q p, fun d s p q => h.ee d s q p, fun p q => h.mm q p⟩
theorem We.ri {r : Rc} {d : Nat} {s : Nm} (h : We r d s) : Ri r d := by
 unfold We at h; unfold Ri
 rcases h with ⟨h, rfl, _⟩ | ⟨h, rfl, _⟩
 · exact .inl ⟨h, rfl⟩
 · exact .inr ⟨h, rfl⟩
theorem frame_n {r : Rc} {S : T} {x : Nat} (h : ¬ Wi r x) : (next r S).n x = S.n x := by
 unfold Wi at h
 unfold next
 repeat' split
 all_goals simp only [setN]
 all_goals grind
theorem frame_l {r : Rc} {S : T} {d : Nat} {s : Nm} (h : ¬ We r d s) : (next r S).l d s = S.l d s := by
 unfold We at h
 unfold next
 repeat' split
 all_goals simp only [setL]
 all_goals grind
theorem local_ {room : Nat} {r : Rc} {A B : T} (hw : ∀ x, Wi r x → A.n x = B.n x) (hr : ∀ x, Ri r x → A.n x = B.n x) (he : ∀ d s, We r d s → A.l d s = B.l d s) (hl : ∀ x s, Wi r x → A.l x s = B.l x s) (hm : Mv r → Bel B r.ino r.dir2 → Bel A r.ino r.dir2)
   (h : Ok room r A) : Ok room r B ∧ (∀ x, Wi r x → (next r A).n x = (next r B).n x) ∧ ∀ d s, We r d s → (next r A).l d s = (next r B).l d s := by
 unfold Wi Ri We Mv at *
 have h1 := hw r.ino (.inl rfl)
 have h2 : ∀ s, A.l r.ino s = B.l r.ino s := fun s => hl r.ino s (.inl rfl)
 unfold Ok at h
 unfold Ok next
 refine ⟨?_, ?_, ?_⟩
 · repeat' split at h
   all_goals grind
 · intro x hx
   clear h h2 he hl hm hr
   repeat' split
   all_goals (try simp only [setN])
   all_goals grind
 · intro d s hd
   have h3 := he d s hd
   clear h h2 hm hr hw h1 he hl
   repeat' split
   all_goals (try simp only [setL])
   all_goals grind
def Cnt (S : T) (x k : Nat) : Prop := ∃ L : List (Nat × Nm), L.Nodup ∧ (∀ d s, (d, s) ∈ L ↔ S.l d s = x) ∧ L.length = k
structure Inv (room : Nat) (S : T) : Prop where
 k2 : ∀ x, (S.n x).kind ≤ 2
 no : ∀ x, (S.n x).kind = 0 → S.n x = Nd.no
 noL : ∀ x s, (S.n x).kind ≠ 2 → S.l x s = 0
 fl : ∀ x, (S.n x).kind = 1 → (S.n x).up = 0
 dr : ∀ x, (S.n x).kind = 2 → (S.n x).held = 0 ∧ (S.n x).links = 1 ∧ (S.n x).data = []
 rng : ∀ x, (S.n x).kind ≠ 0 → 1 ≤ x ∧ x ≤ room
 root : (S.n 1).kind = 2 ∧ (S.n 1).up = 0
 ent : ∀ d s, S.l d s ≠ 0 → (S.n (S.l d s)).kind ≠ 0 ∧ S.l d s ≠ 1
 one : ∀ d s, (S.n (S.l d s)).kind = 2 → (S.n (S.l d s)).up = d
 one2 : ∀ d s t, (S.n (S.l d s)).kind = 2 → S.l d s = S.l d t → s = t
 upd : ∀ x, (S.n x).kind = 2 → x ≠ 1 → (S.n x).up ≠ 0 ∧ ∃ s, S.l (S.n x).up s = x
 hl : ∀ x, (S.n x).kind = 1 → (S.n x).held ≠ 0 ∨ (S.n x).links ≠ 0
 cnt : ∀ x, (S.n x).kind = 1 → Cnt S x (S.n x).links
 acy : ∃ rk : Nat → Nat, ∀ x, (S.n x).up ≠ 0 → rk (S.n x).up < rk x
def May (r : Rc) : Prop := 1 ≤ r.op ∧ r.op ≤ 7 ∧ 1 ≤ r.ino ∧ (r.op = 1 ∨ r.op = 3 ∨ r.op = 4 → r.kind = 1 ∨ r.kind = 2)
theorem Cnt.pos {S : T} {x k : Nat} (h : Cnt S x k) {d : Nat} {s : Nm} (hd : S.l d s = x) : k ≠ 0 := by
 obtain ⟨L, _, h2, rfl⟩ := h
 exact fun e => by rw [List.length_eq_zero_iff] at e; have := (h2 d s).2 hd; rw [e] at this; cases this
theorem Cnt.add {S : T} {x k : Nat} (h : Cnt S x k) {d : Nat} {s : Nm} {N : Nat → Nd} (hd : S.l d s ≠ x) : Cnt ⟨N, setL S.l d s x⟩ x (k + 1) := by
 obtain ⟨L, h1, h2, rfl⟩ := h
 refine ⟨(d, s) :: L, List.nodup_cons.2 ⟨fun hm => hd ((h2 d s).1 hm), h1⟩, fun e t => ?_, rfl⟩
 simp only [List.mem_cons, h2, setL, Prod.mk.injEq]
 by_cases he : e = d ∧ t = s
 · simp [he]
 · simp [he]
theorem Cnt.del {S : T} {x k : Nat} (h : Cnt S x k) {d : Nat} {s : Nm} {N : Nat → Nd} {y : Nat} (hd : S.l d s = x) (hy : y ≠ x) : Cnt ⟨N, setL S.l d s y⟩ x (k - 1) := by
 obtain ⟨L, h1, h2, rfl⟩ := h
 refine ⟨L.erase (d, s), h1.erase _, fun e t => ?_, List.length_erase_of_mem ((h2 d s).2 hd)⟩
 rw [h1.mem_erase_iff, h2]
 simp only [setL]
 by_cases he : e = d ∧ t = s
 · simp [he, hy]
 · rw [if_neg he]
   exact ⟨fun p => p.2, fun p => ⟨fun q => he (by cases q; exact ⟨rfl, rfl⟩), p⟩⟩
theorem Cnt.same {S : T} {x k : Nat} (h : Cnt S x k) {d : Nat} {s : Nm} {N : Nat → Nd} {y : Nat} (hd : S.l d s ≠ x) (hy : y ≠ x) : Cnt ⟨N, setL S.l d s y⟩ x k := by
 obtain ⟨L, h1, h2, rfl⟩ := h
 refine ⟨L, h1, fun e t => ?_, rfl⟩
 rw [h2]
 simp only [setL]
 by_cases he : e = d ∧ t = s
 · rw [if_pos he, he.1, he.2]; simp [hd, hy]
 · rw [if_neg he]
theorem Cnt.of {S S' : T} {x k : Nat} (h : Cnt S x k) (he : S'.l = S.l) : Cnt S' x k := by
 unfold Cnt at *
 rw [he]; exact h
theorem Inv.up_ent {room : Nat} {S : T} (h : Inv room S) {x : Nat} (hx : (S.n x).up ≠ 0) : (S.n x).kind = 2 ∧ x ≠ 1 ∧ ∃ s, S.l (S.n x).up s = x := by
 have k2 := h.k2 x
 have a0 : (S.n x).kind ≠ 0 := fun e => hx (by rw [h.no x e]; rfl)
 have a1 : (S.n x).kind ≠ 1 := fun e => hx (h.fl x e)
 have a2 : x ≠ 1 := fun e => hx (by rw [e]; exact h.root.2)
 have a3 : (S.n x).kind = 2 := by omega
 exact ⟨a3, a2, (h.upd x a3 a2).2⟩
theorem Inv.leaf {room : Nat} {S : T} (h : Inv room S) {x : Nat} (hx : ∀ s, S.l x s = 0) (h0 : (S.n 0).kind = 0) {y : Nat} (hy : (S.n y).up = x) (hx0 : x ≠ 0) : False := by
 obtain ⟨a, b, s, hs⟩ := h.up_ent (x := y) (by rw [hy]; exact hx0)
 rw [hy, hx] at hs
 subst hs
 omega
theorem Inv.zero {room : Nat} {S : T} (h : Inv room S) : (S.n 0).kind = 0 := Classical.byContradiction fun q => by have := h.rng 0 q; omega
theorem inv_make {room : Nat} {S : T} (h : Inv room S) {dir ino kind : Nat} {name : Nm} (hk : kind = 1 ∨ kind = 2) (h1 : (S.n dir).kind = 2) (h2 : S.l dir name = 0) (h3 : (S.n ino).kind = 0) (h4 : 1 ≤ ino) (h5 : ino ≤ room) :
   Inv room ⟨setN S.n ino ⟨kind, 1, if kind = 1 then 1 else 0, if kind = 2 then dir else 0, []⟩, setL S.l dir name ino⟩ := by
 have hn : ∀ d s, S.l d s ≠ ino := fun d s e => by
   have := (h.ent d s (by rw [e]; omega)).1
   rw [e] at this
   omega
 have hz := h.zero
 have hroot := h.root
 have h1i : ino ≠ 1 := fun e => by rw [e] at h3; omega
 have hdi : dir ≠ ino := fun e => by rw [e] at h1; omega
 have hd0 : dir ≠ 0 := fun e => by rw [e] at h1; omega
 have hup : ∀ x, (S.n x).up ≠ ino := fun x e => by
   obtain ⟨_, _, s, hs⟩ := h.up_ent (x := x) (by rw [e]; omega)
   rw [e, h.noL ino s (by omega)] at hs
   subst hs
   have := h.no 0 hz
   rw [this] at e
   cases e
   omega
 refine { k2 := ?_, no := ?_, noL := ?_, fl := ?_, dr := ?_, rng := ?_, root := ?_, ent := ?_, one := ?_, one2 := ?_, upd := ?_, hl := ?_, cnt := ?_, acy := ?_ }
 · have := h.k2; simp only [setN]; grind
 · have := h.no; simp only [setN]; grind
 · have := h.noL; simp only [setN, setL]; grind
 · have := h.fl; simp only [setN]; grind
 · have := h.dr; simp only [setN]; grind
 · have := h.rng; simp only [setN]; grind
 · simp only [setN]; grind
 · have := h.ent; simp only [setN, setL]; grind
 · have := h.one; simp only [setN, setL]; grind
 · have := h.one2; simp only [setN, setL]; grind
 · have h6 := h.upd
   intro x hx hx1
   simp only [setN, setL] at hx ⊢
   by_cases e : x = ino
   · subst e
     simp only [if_true] at hx ⊢
     subst hx
     exact ⟨by simpa using hd0, name, by simp⟩
   · simp only [e, if_false] at hx ⊢
     obtain ⟨a, s, b⟩ := h6 x hx hx1
     refine ⟨a, s, ?_⟩
     by_cases q : (S.n x).up = dir ∧ s = name
     · rw [q.1, q.2, h2] at b
       subst b
       omega
     · rw [if_neg q]; exact b
 · have := h.hl; simp only [setN]; grind
 · intro x hx
   simp only [setN] at hx ⊢
   by_cases e : x = ino
   · subst e
     simp only [if_true] at hx ⊢
     exact Cnt.add (S := S) (k := 0) ⟨[], List.nodup_nil, fun d s => by simp [hn d s], rfl⟩ (hn _ _)
   · simp only [e, if_false] at hx ⊢
     exact (h.cnt x hx).same (by rw [h2]; intro q; subst q; omega) (Ne.symm e)
 · obtain ⟨rk, hr⟩ := h.acy
   refine ⟨fun x => if x = ino then rk dir + 1 else rk x, fun x hx => ?_⟩
   simp only [setN] at hx ⊢
   have := hr x
   have := hup x
   grind
theorem inv_link {room : Nat} {S : T} (h : Inv room S) {dir ino : Nat} {name : Nm} (h1 : (S.n dir).kind = 2) (h2 : S.l dir name = 0) (h3 : (S.n ino).kind = 1) (h4 : 1 ≤ ino) :
   Inv room ⟨setN S.n ino { S.n ino with links := (S.n ino).links + 1 }, setL S.l dir name ino⟩ := by
 have hz := h.zero
 have hroot := h.root
 refine { k2 := ?_, no := ?_, noL := ?_, fl := ?_, dr := ?_, rng := ?_, root := ?_, ent := ?_, one := ?_, one2 := ?_, upd := ?_, hl := ?_, cnt := ?_, acy := ?_ }
 · have := h.k2; simp only [setN]; grind
 · have := h.no; simp only [setN]; grind
 · have := h.noL; simp only [setN, setL]; grind
 · have := h.fl; simp only [setN]; grind
 · have := h.dr; simp only [setN]; grind
 · have := h.rng; simp only [setN]; grind
 · simp only [setN]; grind
 · have := h.ent; simp only [setN, setL]; grind
 · have := h.one; simp only [setN, setL]; grind
 · have := h.one2; simp only [setN, setL]; grind
 · have h6 := h.upd
   simp only [setN, setL]
   grind
 · have := h.hl; simp only [setN]; grind
 · intro x hx
   simp only [setN] at hx ⊢
   by_cases e : x = ino
   · subst e
     simp only [if_true] at hx ⊢
     exact (h.cnt x hx).add (by rw [h2]; omega)
   · simp only [e, if_false] at hx ⊢
     exact (h.cnt x hx).same (by rw [h2]; intro q; subst q; omega) (Ne.symm e)
 · obtain ⟨rk, hr⟩ := h.acy
   refine ⟨rk, fun x hx => ?_⟩
   simp only [setN] at hx ⊢
   have := hr x
   grind
theorem inv_data {room : Nat} {S : T} (h : Inv room S) {ino : Nat} (h3 : (S.n ino).kind = 1) (s : Nm) : Inv room ⟨setN S.n ino { S.n ino with data := s }, S.l⟩ := by
 have hroot := h.root
 refine { k2 := ?_, no := ?_, noL := ?_, fl := ?_, dr := ?_, rng := ?_, root := ?_, ent := ?_, one := ?_, one2 := ?_, upd := ?_, hl := ?_, cnt := ?_, acy := ?_ }
 · have := h.k2; simp only [setN]; grind
 · have := h.no; simp only [setN]; grind
 · have := h.noL; simp only [setN]; grind
 · have := h.fl; simp only [setN]; grind
 · have := h.dr; simp only [setN]; grind
 · have := h.rng; simp only [setN]; grind
 · simp only [setN]; grind
 · have := h.ent; simp only [setN]; grind
 · have := h.one; simp only [setN]; grind
 · have := h.one2; simp only [setN]; grind
 · have := h.upd; simp only [setN]; grind
 · have := h.hl; simp only [setN]; grind
 · intro x hx
   simp only [setN] at hx ⊢
   by_cases e : x = ino
   · subst e
     simp only [if_true] at hx ⊢
     exact (h.cnt x h3).of rfl
   · simp only [e, if_false] at hx ⊢
     exact (h.cnt x hx).of rfl
 · obtain ⟨rk, hr⟩ := h.acy
   refine ⟨rk, fun x hx => ?_⟩
   simp only [setN] at hx ⊢
   have := hr x
   grind
theorem inv_held {room : Nat} {S : T} (h : Inv room S) {ino : Nat} (h3 : (S.n ino).kind = 1) (k : Nat) : Inv room ⟨setN S.n ino (fre { S.n ino with held := k }), S.l⟩ := by
 have hroot := h.root
 have hf : fre { S.n ino with held := k } = Nd.no ∧ k = 0 ∧ (S.n ino).links = 0 ∨ fre { S.n ino with held := k } = { S.n ino with held := k } ∧ (k ≠ 0 ∨ (S.n ino).links ≠ 0) := by
   unfold fre
   by_cases q : k = 0 ∧ (S.n ino).links = 0
   · left; simp [q]
   · right; simp only [q, if_false]; exact ⟨trivial, by omega⟩
 have hc := h.cnt ino h3
 have h1 : ino ≠ 1 := fun e => by rw [e] at h3; omega
 have hi : ino ≠ 0 := fun e => by have := h.zero; rw [e] at h3; omega
 have hup : ∀ x, (S.n x).up ≠ ino := fun x e => h.leaf (h.noL ino · (by omega)) h.zero e hi
 generalize fre { S.n ino with held := k } = v at *
 rcases hf with ⟨rfl, rfl, hl⟩ | ⟨rfl, hl⟩
 · have hne : ∀ d s, S.l d s ≠ ino := fun d s e => hc.pos e hl
   refine { k2 := ?_, no := ?_, noL := ?_, fl := ?_, dr := ?_, rng := ?_, root := ?_, ent := ?_, one := ?_, one2 := ?_, upd := ?_, hl := ?_, cnt := ?_, acy := ?_ }
   · have := h.k2; simp only [setN, Nd.no]; grind
   · have := h.no; simp only [setN]; grind
   · have := h.noL; simp only [setN, Nd.no]; grind
   · have := h.fl; simp only [setN, Nd.no]; grind
   · have := h.dr; simp only [setN, Nd.no]; grind
   · have := h.rng; simp only [setN, Nd.no]; grind
   · simp only [setN]; grind
   · have := h.ent; simp only [setN, Nd.no]; grind
   · have := h.one; simp only [setN, Nd.no]; grind
   · have := h.one2; simp only [setN, Nd.no]; grind
   · have := h.upd; simp only [setN, Nd.no]; grind
   · have := h.hl; simp only [setN, Nd.no]; grind
   · intro x hx
     simp only [setN] at hx ⊢
     by_cases e : x = ino
     · subst e
       simp [Nd.no] at hx
     · simp only [e, if_false] at hx ⊢
       exact (h.cnt x hx).of rfl
   · obtain ⟨rk, hr⟩ := h.acy
     refine ⟨rk, fun x hx => ?_⟩
     simp only [setN] at hx ⊢
     have := hr x
     unfold Nd.no at *
     grind
 · refine { k2 := ?_, no := ?_, noL := ?_, fl := ?_, dr := ?_, rng := ?_, root := ?_, ent := ?_, one := ?_, one2 := ?_, upd := ?_, hl := ?_, cnt := ?_, acy := ?_ }
   · have := h.k2; simp only [setN]; grind
   · have := h.no; simp only [setN]; grind
   · have := h.noL; simp only [setN]; grind
   · have := h.fl; simp only [setN]; grind
   · have := h.dr; simp only [setN]; grind
   · have := h.rng; simp only [setN]; grind
   · simp only [setN]; grind
   · have := h.ent; simp only [setN]; grind
   · have := h.one; simp only [setN]; grind
   · have := h.one2; simp only [setN]; grind
   · have := h.upd; simp only [setN]; grind
   · have := h.hl; simp only [setN]; grind
   · intro x hx
     simp only [setN] at hx ⊢
     by_cases e : x = ino
     · subst e
       simp only [if_true] at hx ⊢
       exact hc.of rfl
     · simp only [e, if_false] at hx ⊢
       exact (h.cnt x hx).of rfl
   · obtain ⟨rk, hr⟩ := h.acy
     refine ⟨rk, fun x hx => ?_⟩
     simp only [setN] at hx ⊢
     have := hr x
     grind
theorem inv_unlink {room : Nat} {S : T} (h : Inv room S) {dir ino : Nat} {name : Nm} (h1 : (S.n dir).kind = 2) (h2 : S.l dir name = ino) (h3 : ino ≠ 0) (h4 : ∀ s, S.l ino s = 0) :
   Inv room ⟨setN S.n ino (lose (S.n ino)), setL S.l dir name 0⟩ := by
 have hroot := h.root
 have hz := h.zero
 have he := h.ent dir name (by omega)
 rw [h2] at he
 have hup : ∀ x, (S.n x).up ≠ ino := fun x e => h.leaf h4 hz e h3
 have hdi : dir ≠ ino := fun e => by subst e; rw [h4] at h2; omega
 have hk := h.k2 ino
 by_cases hd : (S.n ino).kind = 2
 · have hlo : lose (S.n ino) = Nd.no := by unfold lose; rw [if_pos hd]
   rw [hlo]
   have hone : ∀ d s, S.l d s = ino → d = dir ∧ s = name := fun d s e => by
     have a := h.one d s (by rw [e]; exact hd)
     have b := h.one dir name (by rw [h2]; exact hd)
     rw [e] at a
     rw [h2] at b
     have c : d = dir := by omega
     subst c
     exact ⟨rfl, h.one2 d s name (by rw [e]; exact hd) (by rw [e, h2])⟩
   refine { k2 := ?_, no := ?_, noL := ?_, fl := ?_, dr := ?_, rng := ?_, root := ?_, ent := ?_, one := ?_, one2 := ?_, upd := ?_, hl := ?_, cnt := ?_, acy := ?_ }
   · have := h.k2; simp only [setN, Nd.no]; grind
   · have := h.no; simp only [setN]; grind
   · have := h.noL; simp only [setN, setL, Nd.no]; grind
   · have := h.fl; simp only [setN, Nd.no]; grind
   · have := h.dr; simp only [setN, Nd.no]; grind
   · have := h.rng; simp only [setN, Nd.no]; grind
   · simp only [setN]; grind
   · have := h.ent; simp only [setN, setL, Nd.no]; grind
   · have := h.one; simp only [setN, setL, Nd.no]; grind
   · have := h.one2; simp only [setN, setL, Nd.no]; grind
   · intro x hx hx1
     simp only [setN] at hx ⊢
     by_cases e : x = ino
     · subst e; simp [Nd.no] at hx
     · simp only [e, if_false] at hx ⊢
       obtain ⟨a, s, b⟩ := h.upd x hx hx1
       refine ⟨a, s, ?_⟩
       simp only [setL]
       rw [if_neg (fun q => by rw [q.1, q.2, h2] at b; exact e b.symm)]
       exact b
   · have := h.hl; simp only [setN, Nd.no]; grind
   · intro x hx
     simp only [setN] at hx ⊢
     by_cases e : x = ino
     · subst e; simp [Nd.no] at hx
     · simp only [e, if_false] at hx ⊢
       exact (h.cnt x hx).same (by rw [h2]; exact Ne.symm e) (fun q => by subst q; omega)
   · obtain ⟨rk, hr⟩ := h.acy
     refine ⟨rk, fun x hx => ?_⟩
     simp only [setN] at hx ⊢
     have := hr x
     unfold Nd.no at *
     grind
 · have hd1 : (S.n ino).kind = 1 := by omega
   have hc := (h.cnt ino hd1).del (N := S.n) (y := 0) h2 (Ne.symm h3)
   have hf : lose (S.n ino) = Nd.no ∧ (S.n ino).held = 0 ∧ (S.n ino).links - 1 = 0 ∨ lose (S.n ino) = { S.n ino with links := (S.n ino).links - 1 } ∧ ((S.n ino).held ≠ 0 ∨ (S.n ino).links - 1 ≠ 0) := by
     unfold lose fre
     rw [if_neg hd]
     by_cases q : (S.n ino).held = 0 ∧ (S.n ino).links - 1 = 0
     · left; simp only [q, and_self, if_true]
     · right; simp only [q, if_false]; exact ⟨trivial, by omega⟩
   generalize lose (S.n ino) = v at *
   rcases hf with ⟨rfl, hh, hl⟩ | ⟨rfl, hl⟩
   · have hne : ∀ d s, setL S.l dir name 0 d s ≠ ino := fun d s e => hc.pos e hl
     refine { k2 := ?_, no := ?_, noL := ?_, fl := ?_, dr := ?_, rng := ?_, root := ?_, ent := ?_, one := ?_, one2 := ?_, upd := ?_, hl := ?_, cnt := ?_, acy := ?_ }
     · have := h.k2; simp only [setN, Nd.no]; grind
     · have := h.no; simp only [setN]; grind
     · have := h.noL; simp only [setN, setL, Nd.no]; grind
     · have := h.fl; simp only [setN, Nd.no]; grind
     · have := h.dr; simp only [setN, Nd.no]; grind
     · have := h.rng; simp only [setN, Nd.no]; grind
     · simp only [setN]; grind
     · have := h.ent; simp only [setN, setL, Nd.no] at *; grind
     · have := h.one; simp only [setN, setL, Nd.no] at *; grind
     · have := h.one2; simp only [setN, setL, Nd.no] at *; grind
     · have := h.upd; simp only [setN, setL, Nd.no] at *; grind
     · have := h.hl; simp only [setN, Nd.no]; grind
     · intro x hx
       simp only [setN] at hx ⊢
       by_cases e : x = ino
       · subst e; simp [Nd.no] at hx
       · simp only [e, if_false] at hx ⊢
         exact (h.cnt x hx).same (by rw [h2]; exact Ne.symm e) (fun q => by subst q; omega)
     · obtain ⟨rk, hr⟩ := h.acy
       refine ⟨rk, fun x hx => ?_⟩
       simp only [setN] at hx ⊢
       have := hr x
       unfold Nd.no at *
       grind
   · refine { k2 := ?_, no := ?_, noL := ?_, fl := ?_, dr := ?_, rng := ?_, root := ?_, ent := ?_, one := ?_, one2 := ?_, upd := ?_, hl := ?_, cnt := ?_, acy := ?_ }
     · have := h.k2; simp only [setN]; grind
     · have := h.no; simp only [setN]; grind
     · have := h.noL; simp only [setN, setL]; grind
     · have := h.fl; simp only [setN]; grind
     · have := h.dr; simp only [setN]; grind
     · have := h.rng; simp only [setN]; grind
     · simp only [setN]; grind
     · have := h.ent; simp only [setN, setL]; grind
     · have := h.one; simp only [setN, setL]; grind
     · have := h.one2; simp only [setN, setL]; grind
     · have := h.upd; simp only [setN, setL]; grind
     · have := h.hl; simp only [setN]; grind
     · intro x hx
       simp only [setN] at hx ⊢
       by_cases e : x = ino
       · subst e
         simp only [if_true] at hx ⊢
         exact hc.of rfl
       · simp only [e, if_false] at hx ⊢
         exact (h.cnt x hx).same (by rw [h2]; exact Ne.symm e) (fun q => by subst q; omega)
     · obtain ⟨rk, hr⟩ := h.acy
       refine ⟨rk, fun x hx => ?_⟩
       simp only [setN] at hx ⊢
       have := hr x
       grind
theorem inv_move {room : Nat} {S : T} (h : Inv room S) {dir ino dir2 kind : Nat} {name name2 : Nm} (h1 : (S.n dir).kind = 2) (h2 : S.l dir name = ino) (h3 : ino ≠ 0) (h4 : (S.n dir2).kind = 2) (h5 : S.l dir2 name2 = 0) (h6 : (S.n ino).kind = kind) (h7 : kind = 2 → ¬ Bel S ino dir2) :
   Inv room ⟨setN S.n ino (if kind = 2 then { S.n ino with up := dir2 } else S.n ino), setL (setL S.l dir name 0) dir2 name2 ino⟩ := by
 have hroot := h.root
 have hz := h.zero
 have he := h.ent dir name (by omega)
 rw [h2] at he
 have hne : ¬ (dir2 = dir ∧ name2 = name) := fun q => by rw [q.1, q.2] at h5; omega
 by_cases hd : kind = 2
 · have hk2 : (S.n ino).kind = 2 := by omega
   have hdi : dir2 ≠ ino := fun e => h7 hd (e ▸ Bel.here)
   have hd0 : dir2 ≠ 0 := fun e => by rw [e] at h4; omega
   have hone : ∀ d s, S.l d s = ino → d = dir ∧ s = name := fun d s e => by
     have a := h.one d s (by rw [e]; exact hk2)
     have b := h.one dir name (by rw [h2]; exact hk2)
     rw [e] at a
     rw [h2] at b
     have c : d = dir := by omega
     subst c
     exact ⟨rfl, h.one2 d s name (by rw [e]; exact hk2) (by rw [e, h2])⟩
   rw [if_pos hd]
   refine { k2 := ?_, no := ?_, noL := ?_, fl := ?_, dr := ?_, rng := ?_, root := ?_, ent := ?_, one := ?_, one2 := ?_, upd := ?_, hl := ?_, cnt := ?_, acy := ?_ }
   · have := h.k2; simp only [setN]; grind
   · have := h.no; simp only [setN]; grind
   · have := h.noL; simp only [setN, setL]; grind
   · have := h.fl; simp only [setN]; grind
   · have := h.dr; simp only [setN]; grind
   · have := h.rng; simp only [setN]; grind
   · simp only [setN]; grind
   · have := h.ent; simp only [setN, setL]; grind
   · have := h.one; simp only [setN, setL]; grind
   · have := h.one2; simp only [setN, setL]; grind
   · intro x hx hx1
     simp only [setN] at hx ⊢
     by_cases e : x = ino
     · subst e
       simp only [if_true] at hx ⊢
       exact ⟨hd0, name2, by simp [setL]⟩
     · simp only [e, if_false] at hx ⊢
       obtain ⟨a, s, b⟩ := h.upd x hx hx1
       refine ⟨a, s, ?_⟩
       simp only [setL]
       rw [if_neg (fun q => by rw [q.1, q.2, h5] at b; subst b; omega), if_neg (fun q => by rw [q.1, q.2, h2] at b; exact e b.symm)]
       exact b
   · have := h.hl; simp only [setN]; grind
   · intro x hx
     simp only [setN] at hx ⊢
     by_cases e : x = ino
     · subst e
       simp only [if_true] at hx ⊢
       omega
     · simp only [e, if_false] at hx ⊢
       have c1 := (h.cnt x hx).same (N := S.n) (d := dir) (s := name) (y := 0) (by rw [h2]; exact Ne.symm e) (fun q => by subst q; omega)
       refine c1.same (y := ino) (d := dir2) (s := name2) ?_ (Ne.symm e)
       simp only [setL]
       rw [if_neg hne, h5]
       exact fun q => by subst q; omega
   · obtain ⟨rk, hr⟩ := h.acy
     classical
     refine ⟨fun x => if Bel S ino x then rk x + rk dir2 + 1 else rk x, fun x hx => ?_⟩
     simp only [setN] at hx ⊢
     by_cases e : x = ino
     · subst e
       simp only [if_true] at hx ⊢
       rw [if_neg (h7 hd), if_pos Bel.here]
       omega
     · simp only [e, if_false] at hx ⊢
       have hx2 := hr x hx
       by_cases hb : Bel S ino x
       · have hb2 : Bel S ino (S.n x).up := by
           cases hb with
           | here => exact absurd rfl e
           | up _ _ q => exact q
         rw [if_pos hb, if_pos hb2]
         omega
       · have hb2 : ¬ Bel S ino (S.n x).up := fun q => hb (.up x hx q)
         rw [if_neg hb, if_neg hb2]
         exact hx2
 · rw [if_neg hd]
   have hk1 : (S.n ino).kind = 1 := by have := h.k2 ino; omega
   have hs : setN S.n ino (S.n ino) = S.n := by funext x; simp only [setN]; by_cases e : x = ino <;> simp [e]
   rw [hs]
   refine { k2 := h.k2, no := h.no, noL := ?_, fl := h.fl, dr := h.dr, rng := h.rng, root := h.root, ent := ?_, one := ?_, one2 := ?_, upd := ?_, hl := h.hl, cnt := ?_, acy := h.acy }
   · have := h.noL; simp only [setL]; grind
   · have := h.ent; simp only [setL]; grind
   · have := h.one; simp only [setL]; grind
   · have := h.one2; simp only [setL]; grind
   · intro x hx hx1
     simp only at hx ⊢
     obtain ⟨a, s, b⟩ := h.upd x hx hx1
     refine ⟨a, s, ?_⟩
     simp only [setL]
     rw [if_neg (fun q => by rw [q.1, q.2, h5] at b; subst b; omega), if_neg (fun q => by rw [q.1, q.2, h2] at b; subst b; omega)]
     exact b
   · intro x hx
     simp only at hx ⊢
     by_cases e : x = ino
     · subst e
       have c0 := h.cnt x hx
       have c1 := c0.del (N := S.n) (y := 0) h2 (Ne.symm h3)
       have c2 := c1.add (d := dir2) (s := name2) (N := S.n) (by simp only [setL]; rw [if_neg hne, h5]; exact Ne.symm h3)
       have := c0.pos h2
       rw [show (S.n x).links - 1 + 1 = (S.n x).links by omega] at c2
       exact c2
     · have c1 := (h.cnt x hx).same (N := S.n) (d := dir) (s := name) (y := 0) (by rw [h2]; exact Ne.symm e) (fun q => by subst q; omega)
       refine c1.same (y := ino) (d := dir2) (s := name2) ?_ (Ne.symm e)
       simp only [setL]
       rw [if_neg hne, h5]
       exact fun q => by subst q; omega
theorem Bel.mono {A B : T} {top d : Nat} (h : Bel A top d) (he : ∀ x, (A.n x).up ≠ 0 → (B.n x).up = (A.n x).up ∨ x = top) : Bel B top d := by
 induction h with
 | here => exact .here
 | up d h1 _ ih =>
   rcases he d h1 with h2 | h2
   · exact .up d (by rw [h2]; exact h1) (by rw [h2]; exact ih)
   · subst h2; exact .here
theorem next_1 {r : Rc} {S : T} (h : r.op = 1) : next r S = ⟨setN S.n r.ino ⟨r.kind, 1, if r.kind = 1 then 1 else 0, if r.kind = 2 then r.dir else 0, []⟩, setL S.l r.dir r.name r.ino⟩ := by
 unfold next
 simp only [h, Nat.reduceEqDiff, if_true, if_false]
theorem ok_1 {room : Nat} {r : Rc} {S : T} (h : r.op = 1) : Ok room r S = ((S.n r.dir).kind = 2 ∧ S.l r.dir r.name = 0 ∧ (S.n r.ino).kind = 0 ∧ 1 ≤ r.ino ∧ r.ino ≤ room) := by
 unfold Ok
 simp only [h, Nat.reduceEqDiff, if_true, if_false]
theorem next_2 {r : Rc} {S : T} (h : r.op = 2) : next r S = ⟨setN S.n r.ino { S.n r.ino with links := (S.n r.ino).links + 1 }, setL S.l r.dir r.name r.ino⟩ := by
 unfold next
 simp only [h, Nat.reduceEqDiff, if_true, if_false]
theorem ok_2 {room : Nat} {r : Rc} {S : T} (h : r.op = 2) : Ok room r S = ((S.n r.dir).kind = 2 ∧ S.l r.dir r.name = 0 ∧ (S.n r.ino).kind = 1 ∧ (S.n r.ino).links < 200) := by
 unfold Ok
 simp only [h, Nat.reduceEqDiff, if_true, if_false]
theorem next_3 {r : Rc} {S : T} (h : r.op = 3) : next r S = ⟨setN S.n r.ino (lose (S.n r.ino)), setL S.l r.dir r.name 0⟩ := by
 unfold next
 simp only [h, Nat.reduceEqDiff, if_true, if_false]
theorem ok_3 {room : Nat} {r : Rc} {S : T} (h : r.op = 3) : Ok room r S = ((S.n r.dir).kind = 2 ∧ S.l r.dir r.name = r.ino ∧ r.ino ≠ 0 ∧ (S.n r.ino).kind = r.kind ∧ ∀ s, S.l r.ino s = 0) := by
 unfold Ok
 simp only [h, Nat.reduceEqDiff, if_true, if_false]
theorem next_4 {r : Rc} {S : T} (h : r.op = 4) : next r S = if r.old = r.ino then S else ⟨setN (if r.old = 0 then S.n else setN S.n r.old (lose (S.n r.old))) r.ino (if r.kind = 2 then { S.n r.ino with up := r.dir2 } else S.n r.ino), setL (setL S.l r.dir r.name 0) r.dir2 r.name2 r.ino⟩ := by
 unfold next
 simp only [h, Nat.reduceEqDiff, if_true, if_false]
theorem ok_4 {room : Nat} {r : Rc} {S : T} (h : r.op = 4) : Ok room r S = ((S.n r.dir).kind = 2 ∧ S.l r.dir r.name = r.ino ∧ r.ino ≠ 0 ∧ (S.n r.ino).kind = r.kind ∧ (S.n r.dir2).kind = 2 ∧ S.l r.dir2 r.name2 = r.old ∧ (r.kind = 2 → ¬ Bel S r.ino r.dir2) ∧ (r.old ≠ 0 → r.old ≠ r.ino → (S.n r.old).kind = r.kind ∧ ∀ s, S.l r.old s = 0)) := by
 unfold Ok
 simp only [h, Nat.reduceEqDiff, if_true, if_false]
theorem next_5 {r : Rc} {S : T} (h : r.op = 5) : next r S = ⟨setN S.n r.ino { S.n r.ino with data := resz (S.n r.ino).data r.size }, S.l⟩ := by
 unfold next
 simp only [h, Nat.reduceEqDiff, if_true, if_false]
theorem ok_5 {room : Nat} {r : Rc} {S : T} (h : r.op = 5) : Ok room r S = ((S.n r.ino).kind = 1) := by
 unfold Ok
 simp only [h, Nat.reduceEqDiff, if_true, if_false]
theorem next_6 {r : Rc} {S : T} (h : r.op = 6) : next r S = ⟨setN S.n r.ino { S.n r.ino with data := resz (wr (S.n r.ino).data r.page r.data) r.size }, S.l⟩ := by
 unfold next
 simp only [h, Nat.reduceEqDiff, if_true, if_false]
theorem ok_6 {room : Nat} {r : Rc} {S : T} (h : r.op = 6) : Ok room r S = ((S.n r.ino).kind = 1) := by
 unfold Ok
 simp only [h, Nat.reduceEqDiff, if_true, if_false]
theorem next_7 {r : Rc} {S : T} (h : r.op = 7) : next r S = ⟨setN S.n r.ino (fre { S.n r.ino with held := (S.n r.ino).held - 1 }), S.l⟩ := by
 unfold next
 simp only [h, Nat.reduceEqDiff, if_true, if_false]
theorem ok_7 {room : Nat} {r : Rc} {S : T} (h : r.op = 7) : Ok room r S = ((S.n r.ino).kind = 1 ∧ (S.n r.ino).links = 0 ∧ (S.n r.ino).held ≠ 0) := by
 unfold Ok
 simp only [h, Nat.reduceEqDiff, if_true, if_false]
theorem inv_next {room : Nat} {S : T} {r : Rc} (h : Inv room S) (hm : May r) (ho : Ok room r S) : Inv room (next r S) := by
 obtain ⟨m1, m7, mi, mk⟩ := hm
 rcases (by omega : r.op = 1 ∨ r.op = 2 ∨ r.op = 3 ∨ r.op = 4 ∨ r.op = 5 ∨ r.op = 6 ∨ r.op = 7) with p | p | p | p | p | p | p
 · rw [ok_1 p] at ho
   rw [next_1 p]
   exact inv_make h (mk (.inl p)) ho.1 ho.2.1 ho.2.2.1 ho.2.2.2.1 ho.2.2.2.2
 · rw [ok_2 p] at ho
   rw [next_2 p]
   exact inv_link h ho.1 ho.2.1 ho.2.2.1 mi
 · rw [ok_3 p] at ho
   rw [next_3 p]
   obtain ⟨a, b, c, d, e⟩ := ho
   exact inv_unlink h a b c e
 · rw [ok_4 p] at ho
   rw [next_4 p]
   obtain ⟨a, b, c, d, e, f, g, k⟩ := ho
   by_cases q : r.old = r.ino
   · rw [if_pos q]; exact h
   · rw [if_neg q]
     by_cases z : r.old = 0
     · rw [if_pos z]
       exact inv_move h a b c e (by rw [f, z]) d g
     · rw [if_neg z]
       obtain ⟨k1, k2⟩ := k z q
       have h1 := inv_unlink h e f z k2
       have hne : ¬ (r.dir2 = r.dir ∧ r.name2 = r.name) := fun p => by rw [p.1, p.2] at f; omega
       have hne2 : ¬ (r.dir = r.dir2 ∧ r.name = r.name2) := fun p => hne ⟨p.1.symm, p.2.symm⟩
       have d1 : r.dir ≠ r.old := fun p => by rw [p, k2] at b; omega
       have d2 : r.dir2 ≠ r.old := fun p => by rw [p, k2] at f; omega
       have i1 : r.ino ≠ r.old := Ne.symm q
       have hb : r.kind = 2 → ¬ Bel ⟨setN S.n r.old (lose (S.n r.old)), setL S.l r.dir2 r.name2 0⟩ r.ino r.dir2 := fun p u => g p (u.mono fun x hx => by
         simp only [setN] at hx ⊢
         by_cases ex : x = r.old
         · subst ex
           simp only [if_true] at hx ⊢
           unfold lose at hx
           rw [if_pos (by omega)] at hx
           exact absurd rfl hx
         · simp only [ex, if_false]; exact .inl trivial)
       have h2 := inv_move h1 (dir := r.dir) (ino := r.ino) (dir2 := r.dir2) (kind := r.kind) (name := r.name) (name2 := r.name2) (by simp only [setN, d1, if_false]; exact a) (by simp only [setL]; rw [if_neg hne2]; exact b) c (by simp only [setN, d2, if_false]; exact e) (by simp [setL]) (by simp only [setN, i1, if_false]; exact d) hb
       have e1 : setN S.n r.old (lose (S.n r.old)) r.ino = S.n r.ino := by simp only [setN, i1, if_false]
       have e2 : setL (setL (setL S.l r.dir2 r.name2 0) r.dir r.name 0) r.dir2 r.name2 r.ino = setL (setL S.l r.dir r.name 0) r.dir2 r.name2 r.ino := by
         funext x s
         simp only [setL]
         grind
       simp only at h2
       rw [e1, e2] at h2
       exact h2
 · rw [ok_5 p] at ho
   rw [next_5 p]
   exact inv_data h ho _
 · rw [ok_6 p] at ho
   rw [next_6 p]
   exact inv_data h ho _
 · rw [ok_7 p] at ho
   rw [next_7 p]
   exact inv_held h ho.1 _
theorem up_change {room : Nat} {S : T} {r : Rc} (h : Inv room S) (hm : May r) (ho : Ok room r S) (hv : ¬ Mv r) (x : Nat) (hx : ((next r S).n x).up ≠ (S.n x).up) : x = r.ino ∧ ∀ y, (S.n y).up ≠ r.ino := by
 obtain ⟨m1, m7, mi, mk⟩ := hm
 have hz := h.zero
 by_cases e : x = r.ino
 · refine ⟨e, ?_⟩
   subst e
   have key : (∀ s, S.l r.ino s = 0) → ∀ y, (S.n y).up ≠ r.ino := fun q y u => h.leaf q hz u (by omega)
   rcases (by omega : r.op = 1 ∨ r.op = 2 ∨ r.op = 3 ∨ r.op = 4 ∨ r.op = 5 ∨ r.op = 6 ∨ r.op = 7) with p | p | p | p | p | p | p
   · rw [ok_1 p] at ho
     exact key fun s => h.noL _ s (by omega)
   · rw [next_2 p] at hx; simp [setN] at hx
   · rw [ok_3 p] at ho
     exact key ho.2.2.2.2
   · rw [next_4 p] at hx
     have : r.kind ≠ 2 := fun q => hv ⟨p, q⟩
     by_cases q : r.old = r.ino
     · rw [if_pos q] at hx; exact absurd rfl hx
     · rw [if_neg q, if_neg this] at hx; simp [setN] at hx
   · rw [next_5 p] at hx; simp [setN] at hx
   · rw [next_6 p] at hx; simp [setN] at hx
   · rw [ok_7 p] at ho
     exact key fun s => h.noL _ s (by omega)
 · exfalso
   by_cases w : Wi r x
   · unfold Wi at w
     rcases w with w | ⟨w1, w2, w3⟩
     · exact e w
     · subst w3
       rw [ok_4 w1] at ho
       rw [next_4 w1, if_neg e] at hx
       have hk : r.kind ≠ 2 := fun q => hv ⟨w1, q⟩
       have ho2 := (ho.2.2.2.2.2.2.2 w2 e).1
       simp only [setN, if_neg e, if_neg w2, if_true] at hx
       have := mk (.inr (.inr w1))
       have hf := h.fl r.old (by omega)
       unfold lose fre at hx
       rw [if_neg (by omega)] at hx
       split at hx
       · exact hx (by rw [hf]; rfl)
       · exact hx rfl
   · exact hx (by rw [frame_n w])
theorem bel_next {room : Nat} {S : T} {r : Rc} (h : Inv room S) (hm : May r) (ho : Ok room r S) (hv : ¬ Mv r) {top d : Nat} (hd : ¬ Wi r d) : Bel S top d ↔ Bel (next r S) top d := by
 have hd' : d ≠ r.ino := fun e => hd (.inl e)
 have key := up_change h hm ho hv
 by_cases hc : ∃ x, ((next r S).n x).up ≠ (S.n x).up
 · obtain ⟨x, hx⟩ := hc
   have hl := (key x hx).2
   have he : ∀ y, y ≠ r.ino → ((next r S).n y).up = (S.n y).up := fun y hy => Classical.byContradiction fun q => hy (key y q).1
   clear hd
   constructor
   · intro b
     induction b with
     | here => exact .here
     | up d h1 h2 ih =>
       exact .up d (by rw [he d hd']; exact h1) (by rw [he d hd']; exact ih (hl d))
   · intro b
     induction b with
     | here => exact .here
     | up d h1 h2 ih =>
       rw [he d hd'] at h1 h2 ih
       exact .up d h1 (ih (hl d))
 · have he : ∀ y, ((next r S).n y).up = (S.n y).up := fun y => Classical.byContradiction fun q => hc ⟨y, q⟩
   constructor
   · intro b; exact b.mono fun x _ => .inl (he x)
   · intro b; exact b.mono fun x _ => .inl (he x).symm
theorem commute {room : Nat} {S : T} {a b : Rc} (hi : Inv room S) (ma : May a) (mb : May b) (hab : Apart a b) (ha : Ok room a S) (hb : Ok room b (next a S)) :
   Ok room b S ∧ Ok room a (next b S) ∧ next a (next b S) = next b (next a S) := by
 have hiA := inv_next hi ma ha
 have hA := hab.symm
 have L1 := local_ (A := next a S) (B := S) (r := b) (fun x hx => frame_n (fun q => hab.ww x q hx)) (fun x hx => frame_n (fun q => hab.wr x q hx)) (fun d s hd => frame_l (fun q => hab.ee d s q hd)) (fun x s hx => frame_l (fun q => hab.rw x q.ri hx))
   (fun hm hB => (bel_next hi ma ha (fun q => hab.mm q hm) (fun q => hab.wr _ q (.inr ⟨hm.1, rfl⟩))).1 hB) hb
 obtain ⟨b1, b2, b3⟩ := L1
 have hiB := inv_next hi mb b1
 have L2 := local_ (A := S) (B := next b S) (r := a) (fun x hx => (frame_n (fun q => hab.ww x hx q)).symm) (fun x hx => (frame_n (fun q => hab.rw x hx q)).symm) (fun d s hd => (frame_l (fun q => hab.ee d s hd q)).symm) (fun x s hx => (frame_l (fun q => hab.wr x hx q.ri)).symm)
   (fun hm hB => (bel_next hi mb b1 (fun q => hab.mm hm q) (fun q => hab.rw _ (.inr ⟨hm.1, rfl⟩) q)).2 hB) ha
 obtain ⟨a1, a2, a3⟩ := L2
 refine ⟨b1, a1, ?_⟩
 have en : (next a (next b S)).n = (next b (next a S)).n := by
   funext x
   by_cases wa : Wi a x
   · rw [← a2 x wa, frame_n (fun q => hab.ww x wa q)]
   · rw [frame_n wa]
     by_cases wb : Wi b x
     · rw [b2 x wb]
     · rw [frame_n wb, frame_n wb, frame_n wa]
 have el : (next a (next b S)).l = (next b (next a S)).l := by
   funext d s
   by_cases wa : We a d s
   · rw [← a3 d s wa, frame_l (fun q => hab.ee d s wa q)]
   · rw [frame_l wa]
     by_cases wb : We b d s
     · rw [b3 d s wb]
     · rw [frame_l wb, frame_l wb, frame_l wa]
 cases h1 : next a (next b S)
 cases h2 : next b (next a S)
 rw [h1, h2] at en el
 simp only at en el
 rw [en, el]
def Plays (room : Nat) : List Rc → T → Prop
 | [], _ => True
 | r :: l, S => May r ∧ Ok room r S ∧ Plays room l (next r S)
def run : List Rc → T → T
 | [], S => S
 | r :: l, S => run l (next r S)
theorem run_append (l m : List Rc) (S : T) : run (l ++ m) S = run m (run l S) := by
 induction l generalizing S with
 | nil => rfl
 | cons r l ih => exact ih _
theorem plays_append {room : Nat} {l m : List Rc} {S : T} : Plays room (l ++ m) S ↔ Plays room l S ∧ Plays room m (run l S) := by
 induction l generalizing S with
 | nil => simp [Plays, run]
 | cons r l ih => simp only [List.cons_append, Plays, run, ih, and_assoc]
theorem inv_run {room : Nat} {l : List Rc} {S : T} (hi : Inv room S) (h : Plays room l S) : Inv room (run l S) := by
 induction l generalizing S with
 | nil => exact hi
 | cons r l ih => exact ih (inv_next hi h.1 h.2.1) h.2.2
theorem behind {room : Nat} {a : Rc} {K : List Rc} {S : T} (hi : Inv room S) (ma : May a) (ha : Ok room a S) (hp : Plays room K (next a S)) (hk : ∀ k ∈ K, Apart a k) :
   Plays room K S ∧ Ok room a (run K S) ∧ next a (run K S) = run K (next a S) := by
 induction K generalizing S with
 | nil => exact ⟨trivial, ha, rfl⟩
 | cons k K ih =>
   obtain ⟨mk, ok, pk⟩ := hp
   obtain ⟨h1, h2, h3⟩ := commute hi ma mk (hk k (by simp)) ha ok
   rw [← h3] at pk
   obtain ⟨i1, i2, i3⟩ := ih (inv_next hi mk h1) h2 pk (fun q hq => hk q (by simp [hq]))
   refine ⟨⟨mk, h1, i1⟩, i2, ?_⟩
   show next a (run K (next k S)) = run K (next k (next a S))
   rw [i3, h3]
def keptL (m : List (Rc × Bool)) : List Rc := (m.filter (·.2)).map (·.1)
def restL (m : List (Rc × Bool)) : List Rc := (m.filter (!·.2)).map (·.1)
def Cl (m : List (Rc × Bool)) : Prop := m.Pairwise fun x y => x.2 = false → y.2 = true → Apart x.1 y.1
theorem kept_plays {room : Nat} {m : List (Rc × Bool)} {S : T} (hi : Inv room S) (hp : Plays room (m.map (·.1)) S) (hc : Cl m) :
   Plays room (keptL m) S ∧ Plays room (restL m) (run (keptL m) S) ∧ run (restL m) (run (keptL m) S) = run (m.map (·.1)) S := by
 induction m generalizing S with
 | nil => exact ⟨trivial, trivial, rfl⟩
 | cons x m ih =>
   obtain ⟨a, b⟩ := x
   obtain ⟨ma, oa, pa⟩ := hp
   obtain ⟨c1, c2⟩ := List.pairwise_cons.1 hc
   obtain ⟨i1, i2, i3⟩ := ih (inv_next hi ma oa) pa c2
   cases b
   · obtain ⟨b1, b2, b3⟩ := behind hi ma oa i1 (fun k hk => by
       obtain ⟨y, hy, rfl⟩ := List.mem_map.1 hk
       rw [List.mem_filter] at hy
       exact c1 y hy.1 rfl hy.2)
     rw [← b3] at i2 i3
     exact ⟨b1, ⟨ma, b2, i2⟩, i3⟩
   · exact ⟨⟨ma, oa, i1⟩, i2, i3⟩
theorem run_frame {K : List Rc} {S : T} {x : Nat} (h : ∀ k ∈ K, ¬ Wi k x) : (run K S).n x = S.n x := by
 induction K generalizing S with
 | nil => rfl
 | cons k K ih => exact (ih fun q hq => h q (by simp [hq])).trans (frame_n (h k (by simp)))
theorem kept_inode {room : Nat} {m : List (Rc × Bool)} {S : T} (hi : Inv room S) (hp : Plays room (m.map (·.1)) S) (hc : Cl m) (x : Nat) :
   ∃ j, j ≤ m.length ∧ (run (keptL m) S).n x = (run ((m.map (·.1)).take j) S).n x := by
 induction m generalizing S with
 | nil => exact ⟨0, Nat.le_refl _, rfl⟩
 | cons y m ih =>
   obtain ⟨a, b⟩ := y
   obtain ⟨ma, oa, pa⟩ := hp
   obtain ⟨c1, c2⟩ := List.pairwise_cons.1 hc
   obtain ⟨j, hj, e⟩ := ih (inv_next hi ma oa) pa c2
   cases b
   · have hk : ∀ k ∈ keptL m, Apart a k := fun k hk => by
       obtain ⟨y, hy, rfl⟩ := List.mem_map.1 hk
       rw [List.mem_filter] at hy
       exact c1 y hy.1 rfl hy.2
     have i1 := (kept_plays (inv_next hi ma oa) pa c2).1
     obtain ⟨b1, b2, b3⟩ := behind hi ma oa i1 hk
     show ∃ j, j ≤ m.length + 1 ∧ (run (keptL m) S).n x = _
     by_cases w : Wi a x
     · exact ⟨0, Nat.zero_le _, run_frame fun k q => (hk k q).ww x w⟩
     · refine ⟨j + 1, by omega, ?_⟩
       show _ = (run ((m.map (·.1)).take j) (next a S)).n x
       rw [← e, ← b3, frame_n w]
   · exact ⟨j + 1, by simp; omega, e⟩
structure Pt where
 kind : Nat
 ino : Nat
 name : Nm
 w : Bool
def parts (r : Rc) : List Pt :=
 if 5 ≤ r.op then [⟨2, r.ino, [], true⟩]
 else [⟨1, r.dir, r.name, true⟩] ++ (if r.op = 4 then [⟨1, r.dir2, r.name2, true⟩] else []) ++ [⟨2, r.ino, [], true⟩] ++ (if r.old ≠ 0 then [⟨2, r.old, [], true⟩] else [])
   ++ (if r.op = 4 ∧ r.kind = 2 then [⟨3, 0, [], true⟩] else []) ++ [⟨2, r.dir, [], false⟩] ++ (if r.op = 4 then [⟨2, r.dir2, [], false⟩] else [])
def hits (x y : Pt) : Bool := x.kind == y.kind && x.ino == y.ino && x.name == y.name && (x.w || y.w)
def meet (a b : Rc) : Bool := (parts a).any fun x => (parts b).any fun y => hits x y
theorem wi_part {r : Rc} (hm : May r) {x : Nat} (h : Wi r x) : ⟨2, x, [], true⟩ ∈ parts r := by
 unfold Wi at h; unfold parts
 by_cases q : 5 ≤ r.op
 · rw [if_pos q]
   rcases h with rfl | ⟨h, _⟩
   · simp
   · omega
 · rw [if_neg q]
   rcases h with rfl | ⟨h1, h2, rfl⟩
   · simp
   · simp [h2]
theorem ri_part {r : Rc} (hm : May r) {x : Nat} (h : Ri r x) : ⟨2, x, [], false⟩ ∈ parts r := by
 unfold Ri at h; unfold parts
 rw [if_neg (by omega)]
 rcases h with ⟨h1, rfl⟩ | ⟨h1, rfl⟩
 · simp
 · simp [h1]
theorem we_part {r : Rc} (hm : May r) {d : Nat} {s : Nm} (h : We r d s) : ⟨1, d, s, true⟩ ∈ parts r := by
 unfold We at h; unfold parts
 rw [if_neg (by omega)]
 rcases h with ⟨h1, rfl, rfl⟩ | ⟨h1, rfl, rfl⟩
 · simp
 · simp [h1]
theorem mv_part {r : Rc} (h : Mv r) : ⟨3, 0, [], true⟩ ∈ parts r := by
 unfold Mv at h; unfold parts
 rw [if_neg (by omega)]
 simp [h]
theorem meet_of {a b : Rc} {x y : Pt} (hx : x ∈ parts a) (hy : y ∈ parts b) (h : hits x y = true) : meet a b = true :=
 List.any_eq_true.2 ⟨x, hx, List.any_eq_true.2 ⟨y, hy, h⟩⟩
theorem apart_of {a b : Rc} (ma : May a) (mb : May b) (h : meet a b = false) : Apart a b := by
 have no : ∀ x y, x ∈ parts a → y ∈ parts b → hits x y = true → False := fun x y p q r => by rw [meet_of p q r] at h; cases h
 exact ⟨fun x p q => no _ _ (wi_part ma p) (wi_part mb q) (by simp [hits]), fun x p q => no _ _ (wi_part ma p) (ri_part mb q) (by simp [hits]), fun x p q => no _ _ (ri_part ma p) (wi_part mb q) (by simp [hits]), fun d s p q => no _ _ (we_part ma p) (we_part mb q) (by simp [hits]), fun p q => no _ _ (mv_part p) (mv_part q) (by simp [hits])⟩
theorem meet_self {a : Rc} (ma : May a) : meet a a = true := meet_of (wi_part ma (.inl rfl)) (wi_part ma (.inl rfl)) (by simp [hits])
def maskK (st : List Nat) : List Rc → List (Rc × Bool)
 | [] => []
 | r :: l => (r, st.contains r.stamp || (maskK st l).any fun y => y.2 && meet r y.1) :: maskK st l
theorem maskK_map (st : List Nat) (l : List Rc) : (maskK st l).map (·.1) = l := by
 induction l with
 | nil => rfl
 | cons r l ih => simp [maskK, ih]
def ClM (m : List (Rc × Bool)) : Prop := m.Pairwise fun x y => x.2 = false → y.2 = true → meet x.1 y.1 = false
theorem maskK_cl (st : List Nat) (l : List Rc) : ClM (maskK st l) := by
 induction l with
 | nil => exact List.Pairwise.nil
 | cons r l ih =>
   refine List.pairwise_cons.2 ⟨fun y hy h1 h2 => ?_, ih⟩
   simp only [Bool.or_eq_false_iff, List.any_eq_false] at h1
   have := h1.2 y hy
   simpa [h2] using this
theorem cl_of {m : List (Rc × Bool)} (hm : ∀ x ∈ m, May x.1) (h : ClM m) : Cl m :=
 List.Pairwise.imp_of_mem (fun {x y} hx hy q a b => apart_of (hm x hx) (hm y hy) (q a b)) h
theorem plays_may {room : Nat} {l : List Rc} {S : T} (h : Plays room l S) : ∀ r ∈ l, May r := by
 induction l generalizing S with
 | nil => intro r hr; cases hr
 | cons q l ih =>
   intro r hr
   rcases List.mem_cons.1 hr with rfl | hr
   · exact h.1
   · exact ih h.2.2 r hr
end Go.Proofs.YtmfhnhnmdeabeaaGreat.Tr
end
section
namespace Go.Proofs.YtmfhnhnmdeabeaaGreat.Tr
def pageB (s : Nm) (k : Nat) : Nm := (List.range 64).map fun i => s.getD (k * 64 + i) 0
def zero64 : Nm := List.replicate 64 0
theorem length_pageB (s : Nm) (k : Nat) : (pageB s k).length = 64 := by simp [pageB]
theorem getD_pageB (s : Nm) (k i : Nat) (h : i < 64) : (pageB s k).getD i 0 = s.getD (k * 64 + i) 0 := by
 simp [pageB, List.getD, h]
theorem pageB_ext {s t : Nm} {k : Nat} (h : ∀ i < 64, s.getD (k * 64 + i) 0 = t.getD (k * 64 + i) 0) : pageB s k = pageB t k :=
 List.map_congr_left fun i hi => h i (by simpa using hi)
theorem nm_ext {s t : Nm} (hl : s.length = t.length) (h : ∀ i < s.length, s.getD i 0 = t.getD i 0) : s = t := by
 refine List.ext_getElem hl fun i h1 h2 => ?_
 have := h i h1
 simpa [List.getD, h1, h2] using this
theorem length_resz (s : Nm) (k : Nat) : (resz s k).length = k := by unfold resz; simp; omega
theorem getD_resz (s : Nm) (k i : Nat) : (resz s k).getD i 0 = if i < k then s.getD i 0 else 0 := by
 unfold resz
 simp only [List.getD]
 by_cases h : i < min k s.length
 · rw [List.getElem?_append_left (by simp; omega), List.getElem?_take, if_pos (by omega), if_pos (by omega)]
 · rw [List.getElem?_append_right (by simp; omega), List.getElem?_replicate]
   by_cases hk : i < k
   · rw [if_pos hk, List.getElem?_eq_none (l := s) (by omega)]
     split <;> rfl
   · rw [if_neg hk]
     split <;> rfl
theorem getD_none {s : Nm} {i : Nat} (h : s.length ≤ i) : s.getD i 0 = 0 := by simp [List.getD, List.getElem?_eq_none h]
theorem length_wr (s : Nm) (p : Nat) (d : Nm) : (wr s p d).length = max s.length (p * 64 + d.length) := by
 unfold wr
 simp [length_resz]
 omega
theorem getD_append (a b : Nm) (i : Nat) : (a ++ b).getD i 0 = if i < a.length then a.getD i 0 else b.getD (i - a.length) 0 := by
 simp only [List.getD]
 by_cases h : i < a.length
 · rw [List.getElem?_append_left h, if_pos h]
 · rw [List.getElem?_append_right (by omega), if_neg h]
theorem getD_take (a : Nm) (k i : Nat) : (a.take k).getD i 0 = if i < k then a.getD i 0 else 0 := by
 simp only [List.getD, List.getElem?_take]
 split <;> rfl
theorem getD_drop (a : Nm) (k i : Nat) : (a.drop k).getD i 0 = a.getD (k + i) 0 := by simp [List.getD, List.getElem?_drop]
theorem getD_wr (s : Nm) (p : Nat) (d : Nm) (i : Nat) : (wr s p d).getD i 0 = if p * 64 ≤ i ∧ i < p * 64 + d.length then d.getD (i - p * 64) 0 else s.getD i 0 := by
 unfold wr
 simp only [getD_append, getD_take, getD_drop, getD_resz, List.length_append, List.length_take, length_resz]
 generalize hc : (if p * 64 ≤ i ∧ i < p * 64 + d.length then d.getD (i - p * 64) 0 else s.getD i 0) = c
 have e : min (p * 64) (max s.length (p * 64 + d.length)) = p * 64 := by omega
 rw [e]
 by_cases h1 : i < p * 64
 · have a1 : i < p * 64 + d.length := by omega
   have a2 : i < max s.length (p * 64 + d.length) := by omega
   have a3 : ¬ (p * 64 ≤ i ∧ i < p * 64 + d.length) := by omega
   rw [if_neg a3] at hc; rw [if_pos a1, if_pos h1, if_pos h1, if_pos a2]; exact hc
 · by_cases h2 : i < p * 64 + d.length
   · have a3 : p * 64 ≤ i ∧ i < p * 64 + d.length := by omega
     rw [if_pos a3] at hc; rw [if_pos h2, if_neg h1]; exact hc
   · have a3 : ¬ (p * 64 ≤ i ∧ i < p * 64 + d.length) := by omega
     have a4 : p * 64 + d.length + (i - (p * 64 + d.length)) = i := by omega
     rw [if_neg a3] at hc
     rw [if_neg h2, a4]
     split
     · exact hc
     · rw [← hc]; exact (getD_none (s := s) (by omega)).symm
theorem pageB_wr (s : Nm) (p k : Nat) (d : Nm) (hd : d.length ≤ 64) : pageB (wr s p d) k = if k = p then d ++ (pageB s p).drop d.length else pageB s k := by
 by_cases h : k = p
 · subst h
   rw [if_pos rfl]
   refine nm_ext (by simp [length_pageB]; omega) fun i hi => ?_
   rw [length_pageB] at hi
   rw [getD_pageB _ _ _ hi, getD_wr, getD_append, getD_drop]
   by_cases h2 : i < d.length
   · rw [if_pos (by omega), if_pos h2, show k * 64 + i - k * 64 = i by omega]
   · rw [if_neg (by omega), if_neg h2, show d.length + (i - d.length) = i by omega, getD_pageB _ _ _ hi]
 · rw [if_neg h]
   exact pageB_ext fun i hi => by rw [getD_wr, if_neg (by omega)]
theorem pageB_resz (s : Nm) (n k : Nat) : pageB (resz s n) k = (pageB s k).take (n - k * 64) ++ List.replicate (64 - (n - k * 64)) 0 := by
 refine nm_ext (by simp [length_pageB]; omega) fun i hi => ?_
 rw [length_pageB] at hi
 rw [getD_pageB _ _ _ hi, getD_resz, getD_append, getD_take]
 simp only [List.length_take, length_pageB]
 by_cases h : i < n - k * 64
 · rw [if_pos (by omega), if_pos (by omega), if_pos h, getD_pageB _ _ _ hi]
 · rw [if_neg (by omega)]
   by_cases h2 : i < min (n - k * 64) 64
   · omega
   · rw [if_neg h2]
     simp [List.getD, List.getElem?_replicate]
     split <;> rfl
def readP (s : Nm) (k : Nat) : Nm := (s.drop (k * 64)).take 64
theorem readP_page (s : Nm) (k : Nat) : readP s k = (pageB s k).take (min 64 (s.length - k * 64)) := by
 unfold readP
 refine nm_ext (by simp [length_pageB]) fun i hi => ?_
 simp only [List.length_take, List.length_drop] at hi
 rw [getD_take, getD_drop, getD_take, if_pos (by omega), if_pos (by omega), getD_pageB _ _ _ (by omega)]
theorem pad_readP (s : Nm) (k : Nat) : readP s k ++ List.replicate (64 - (readP s k).length) 0 = pageB s k := by
 unfold readP
 refine nm_ext (by simp [length_pageB]; omega) fun i hi => ?_
 simp only [List.length_append, List.length_take, List.length_drop, List.length_replicate] at hi
 rw [getD_append, getD_take, getD_drop, getD_pageB _ _ _ (by omega)]
 simp only [List.length_take, List.length_drop]
 by_cases h : i < min 64 (s.length - k * 64)
 · rw [if_pos h, if_pos (by omega)]
 · rw [if_neg h, getD_none (s := s) (by omega)]
   simp [List.getD, List.getElem?_replicate]
   split <;> rfl
end Go.Proofs.YtmfhnhnmdeabeaaGreat.Tr
end
section
namespace Go.Proofs.YtmfhnhnmdeabeaaGreat
open Go.RowKit Go.Shelf Go.Maps
open Go.WideElems (rg)
open Go.ChangeMaps (heap_setBlock_same heap_setBlock_other)
theorem len_le {α : Type} : ∀ (a b : List α), a.Nodup → (∀ x ∈ a, x ∈ b) → a.length ≤ b.length
 | [], _, _, _ => Nat.zero_le _
 | x :: a, b, hn, hs => by
   obtain ⟨h1, h2⟩ := List.nodup_cons.1 hn
   obtain ⟨b1, b2, rfl⟩ := List.append_of_mem (hs x (by simp))
   have := len_le a (b1 ++ b2) h2 fun y hy => by
     have h3 := hs y (by simp [hy])
     simp only [List.mem_append, List.mem_cons] at h3 ⊢
     rcases h3 with h3 | rfl | h3
     · exact .inl h3
     · exact absurd hy h1
     · exact .inr h3
   simp only [List.length_append, List.length_cons] at this ⊢
   omega
def heldR : Value → Option (DataW Value × List MemPlace) := fun v => some (.held v, [])
def VMap (W : World) (kt : TypeId) (b nn : Nat) (f : Lit → Option Value) : Prop :=
 ∃ D : DataW Value, W.ownsMap Tryz.prog kt heldR b nn D ∧ ∀ kl, WideAt.IsKeyLit kl → has D kl = (f kl).isSome ∧ ∀ z, D.atKey kl (.held z) = .held ((f kl).getD z)
section
variable {W W' : World} {kt : TypeId} {b nn : Nat} {f : Lit → Option Value}
theorem VMap.lt (h : VMap W kt b nn f) : b < W.heap.size := by obtain ⟨D, h1, _⟩ := h; exact h1.lt
theorem VMap.kept {row : Option Nat} (h : VMap W kt b nn f) (hg : W.grownBy W' row) (hne : some b ≠ row) : VMap W' kt b nn f := by
 obtain ⟨D, h1, h2⟩ := h
 exact ⟨D, h1.kept hg hne, h2⟩
theorem VMap.block (h : VMap W kt b nn f) (hb : W'.heap[b]? = W.heap[b]?) : VMap W' kt b nn f := by
 obtain ⟨D, ⟨es, clock, h1, r⟩, h2⟩ := h
 exact ⟨D, ⟨es, clock, hb.trans h1, r⟩, h2⟩
theorem VMap.below {n : Nat} (h : VMap W kt b nn f) (hn : b < n) (hb : Below n W W') : VMap W' kt b nn f := h.block (hb.block b hn)
theorem VMap.later (h : VMap W kt b nn f) (hb : Below W.heap.size W W') : VMap W' kt b nn f := h.below h.lt hb
theorem VMap.alloc (h : VMap W kt b nn f) (o : Obj) : VMap (W.alloc o) kt b nn f := h.later ((Below.refl _ _).alloc (Nat.le_refl _) o)
theorem VMap.drew (h : VMap W kt b nn f) : VMap W.drew kt b nn f := h
theorem VMap.other (h : VMap W kt b nn f) {c i : Nat} (v : Value) (hc : b ≠ c) : VMap (W.setCell ⟨c, i, none⟩ v) kt b nn f := h.block (heap_setCell_other W ⟨c, i, none⟩ b v hc)
theorem VMap.isMap (h : VMap W kt b nn f) : ∃ es clock, W.heap[b]? = some (.map es clock) := by
 obtain ⟨D, ⟨es, clock, h1, _⟩, _⟩ := h
 exact ⟨es, clock, h1⟩
theorem VMap.ne (h : VMap W kt b nn f) {c : Nat} {t : TypeId} {cs : Array Value} {fr : Nat × Nat} (hc : W.heap[c]? = some (.cells cs t fr)) : c ≠ b := fun e => by
 obtain ⟨es, clock, h1⟩ := h.isMap
 subst e
 rw [hc] at h1
 cases h1
theorem VMap.new (W : World) (kt : TypeId) : VMap (W.alloc (.map #[] 0)) kt W.heap.size 0 (fun _ => none) := ⟨.map [], World.ownsMap_made _ _ _ _, fun x _ => ⟨rfl, fun z => rfl⟩⟩
theorem VMap.mono (h : VMap W kt b nn f) {n' : Nat} (hn : nn ≤ n') : VMap W kt b n' f := by
 obtain ⟨D, h1, h2⟩ := h
 exact ⟨D, h1.mono hn, h2⟩
theorem held_inj {v z : Value} {ps : List MemPlace} (h : heldR v = some (.held z, ps)) : v = z := by
 unfold heldR at h
 simp only [Option.some.injEq, Prod.mk.injEq, DataW.held.injEq] at h
 exact h.1
theorem VMap.look (h : VMap W kt b nn f) (K : Keyed Tryz.prog kt) {t e : TypeId} (ht : Tryz.prog.underlying t = some (.map kt e)) {z : Value} (hz : (zeroValue e).run Tryz.prog W = .ok z W) {key : Value} {kl : Lit} (hk : keyOf Tryz.prog kt key = some kl) :
   (Instr.lookup t (.map (some b)) key false).run Tryz.prog W = .ok ((f kl).getD z) W := by
 obtain ⟨D, h1, h2⟩ := h
 obtain ⟨v, ps, hrun, hv⟩ := h1.lookup K ht hz (zd := .held z) (zp := []) rfl hk
 rw [(h2 kl (K.key hk)).2] at hv
 rw [hrun, held_inj hv]
theorem VMap.look_ok (h : VMap W kt b nn f) (K : Keyed Tryz.prog kt) {t e : TypeId} (ht : Tryz.prog.underlying t = some (.map kt e)) {z : Value} (hz : (zeroValue e).run Tryz.prog W = .ok z W) {key : Value} {kl : Lit} (hk : keyOf Tryz.prog kt key = some kl) :
   (Instr.lookup t (.map (some b)) key true).run Tryz.prog W = .ok (.tuple #[(f kl).getD z, .bool (f kl).isSome]) W := by
 obtain ⟨D, h1, h2⟩ := h
 obtain ⟨v, ps, hrun, hv⟩ := h1.look_ok K ht hz (zd := .held z) (zp := []) rfl hk
 rw [(h2 kl (K.key hk)).1] at hrun
 rw [(h2 kl (K.key hk)).2] at hv
 rw [hrun, held_inj hv]
open Classical in
noncomputable def putV (f : Lit → Option Value) (k : Lit) (v : Value) : Lit → Option Value := fun y => if y = k then some v else f y
open Classical in
noncomputable def delV (f : Lit → Option Value) (k : Lit) : Lit → Option Value := fun y => if y = k then none else f y
theorem VMap.put (h : VMap W kt b nn f) (K : Keyed Tryz.prog kt) {t e : TypeId} (ht : Tryz.prog.underlying t = some (.map kt e)) (hn : nn < maxLen) {key : Value} {kl : Lit} (hk : keyOf Tryz.prog kt key = some kl) (val : Value) :
   ∃ W', (Instr.mapUpdate t (.map (some b)) key val).run Tryz.prog W = .ok () W' ∧ VMap W' kt b (nn + 1) (putV f kl val) ∧ W.mapTurned W' b := by
 obtain ⟨D, h1, h2⟩ := h
 obtain ⟨W', hrun, r1, r2⟩ := h1.store K ht hn hk (val := val) (d := .held val) (ps := []) rfl
 refine ⟨W', hrun, ⟨_, r1, fun y hy' => ?_⟩, r2⟩
 unfold putV
 by_cases hy : y = kl
 · subst hy
   rw [if_pos rfl]
   exact ⟨Maps.has_put_same h1.isMap hy' _, fun z => Maps.atKey_put_same h1.isMap hy' _ _⟩
 · rw [if_neg hy, Maps.has_put_other hy]
   exact ⟨(h2 y hy').1, fun z => by rw [Maps.atKey_put_other hy]; exact (h2 y hy').2 z⟩
theorem VMap.del (h : VMap W kt b nn f) (K : Keyed Tryz.prog kt) {t e : TypeId} (ht : Tryz.prog.underlying t = some (.map kt e)) {key : Value} {kl : Lit} (hk : keyOf Tryz.prog kt key = some kl) (ty : TypeId) :
   ∃ W', (Builtin.delete_ #[t, kt] ty #[.map (some b), key]).run Tryz.prog W = .ok (.tuple #[]) W' ∧ VMap W' kt b nn (delV f kl) ∧ W.mapTurned W' b := by
 obtain ⟨D, h1, h2⟩ := h
 obtain ⟨W', hrun, r1, r2⟩ := h1.drop K ht hk ty
 refine ⟨W', hrun, ⟨_, r1, fun y hy' => ?_⟩, r2⟩
 unfold delV
 by_cases hy : y = kl
 · subst hy
   rw [if_pos rfl, Maps.has_del_same]
   exact ⟨rfl, fun z => Maps.atKey_del_same _⟩
 · rw [if_neg hy, Maps.has_del_other hy]
   exact ⟨(h2 y hy').1, fun z => by rw [Maps.atKey_del_other hy]; exact (h2 y hy').2 z⟩
theorem VMap.len (h : VMap W kt b nn f) (K : Keyed Tryz.prog kt) {t e : TypeId} (ht : Tryz.prog.underlying t = some (.map kt e)) (ty : TypeId) :
   ∃ ks : List Lit, ks.Nodup ∧ (∀ k ∈ ks, (f k).isSome ∧ KeysOf Tryz.prog kt k) ∧ (∀ k, KeysOf Tryz.prog kt k → (f k).isSome → k ∈ ks) ∧ ks.length ≤ nn ∧ (Builtin.len_ #[t] ty #[.map (some b)]).run Tryz.prog W = .ok (.int .i64 ks.length) W := by
 obtain ⟨D, h1, h2⟩ := h
 have hl := h1.len ht ty
 have hsz := h1.size_le
 obtain ⟨es, rfl, e1, e2⟩ := h1.entries K
 refine ⟨es.map (·.1), List.pairwise_map.2 e1, ?_, ?_, by rw [List.length_map]; exact hsz, ?_⟩
 · intro k hk
   obtain ⟨p, hp, rfl⟩ := List.mem_map.1 hk
   have hh : has (.map es) p.1 = true := List.any_eq_true.2 ⟨p, hp, WideAt.sameKey_self (e2 p hp)⟩
   rw [(h2 p.1 (e2 p hp)).1] at hh
   refine ⟨hh, ?_⟩
   obtain ⟨es', clock, _, F, _, hE⟩ := h1
   have hE' := DataW.map.inj hE
   rw [hE'] at hp
   obtain ⟨x, hx, rfl⟩ := List.mem_map.1 (mem_sorted.1 hp)
   exact Maps.fit_keys F _ (List.mem_map.2 ⟨x, hx, rfl⟩)
 · intro k hk hs
   obtain ⟨v, hv⟩ := hk
   rw [← (h2 k (K.key hv)).1] at hs
   obtain ⟨p, hp, hpk⟩ := List.any_eq_true.1 hs
   exact List.mem_map.2 ⟨p, hp, WideAt.sameKey_eq hpk⟩
 · rw [hl, Maps.size_eq, List.length_map]
theorem VMap.tight (h : VMap W kt b nn f) (K : Keyed Tryz.prog kt) (L : List Lit) (hL : ∀ k, KeysOf Tryz.prog kt k → (f k).isSome → k ∈ L) : VMap W kt b L.length f := by
 obtain ⟨D, h1, h2⟩ := h
 have hent := h1.entries K
 have ho := h1
 obtain ⟨es, clock, hb, F, hs, hD⟩ := ho
 obtain ⟨es', he, e1, e2⟩ := hent
 refine ⟨D, ⟨es, clock, hb, F, ?_, hD⟩, h2⟩
 have hsz : es.size = es'.length := by
   rw [hD] at he
   have := DataW.map.inj he
   rw [← this, length_sorted]; simp
 rw [hsz, show es'.length = (es'.map (·.1)).length by simp]
 refine len_le _ _ (List.pairwise_map.2 e1) ?_
 intro k hk
 obtain ⟨p, hp, rfl⟩ := List.mem_map.1 hk
 have hh : has D p.1 = true := by rw [he]; exact List.any_eq_true.2 ⟨p, hp, WideAt.sameKey_self (e2 p hp)⟩
 rw [(h2 p.1 (e2 p hp)).1] at hh
 refine hL _ ?_ hh
 rw [hD] at he
 rw [← DataW.map.inj he] at hp
 obtain ⟨x, hx, rfl⟩ := List.mem_map.1 (mem_sorted.1 hp)
 exact Maps.fit_keys F _ (List.mem_map.2 ⟨x, hx, rfl⟩)
def VRange (W : World) (kt : TypeId) (b r nn : Nat) (f : Lit → Option Value) (left : Lit → Bool) (cnt : Nat) : Prop :=
 ∃ D : DataW Value, W.ranges Tryz.prog kt heldR b r nn D left cnt ∧ ∀ kl, WideAt.IsKeyLit kl → has D kl = (f kl).isSome ∧ ∀ z, D.atKey kl (.held z) = .held ((f kl).getD z)
variable {r cnt : Nat} {left : Lit → Bool}
theorem VRange.vmap (h : VRange W kt b r nn f left cnt) : VMap W kt b nn f := by
 obtain ⟨D, h1, h2⟩ := h
 exact ⟨D, h1.owns, h2⟩
theorem VRange.ne (h : VRange W kt b r nn f left cnt) : r ≠ b := by obtain ⟨D, h1, _⟩ := h; exact h1.ne
theorem VRange.lt (h : VRange W kt b r nn f left cnt) : r < W.heap.size := by obtain ⟨D, h1, _⟩ := h; exact h1.lt
theorem VRange.left_eq (h : VRange W kt b r nn f left cnt) : W.rangeLeft b r = cnt := by obtain ⟨D, h1, _⟩ := h; exact h1.left_eq
theorem VRange.kept {row : Option Nat} (h : VRange W kt b r nn f left cnt) (hg : W.grownBy W' row) (hb' : some b ≠ row) (hr' : some r ≠ row) : VRange W' kt b r nn f left cnt := by
 obtain ⟨D, h1, h2⟩ := h
 exact ⟨D, h1.kept hg hb' hr', h2⟩
theorem VMap.range (h : VMap W kt b nn f) (K : Keyed Tryz.prog kt) {t e : TypeId} (ht : Tryz.prog.underlying t = some (.map kt e)) :
   ∃ W' cnt left, (Instr.range t (.map (some b))).run Tryz.prog W = .ok (.pointer (some ⟨W.heap.size, 0, none⟩)) W' ∧ VRange W' kt b W.heap.size nn f left cnt ∧ (∀ k, KeysOf Tryz.prog kt k → left k = (f k).isSome) ∧ W.grownBy W' none ∧ W'.heap.size = W.heap.size + 1 := by
 obtain ⟨D, h1, h2⟩ := h
 obtain ⟨W', hr, r1, r2, r3⟩ := h1.range K ht
 exact ⟨W', _, _, hr, ⟨D, r1, h2⟩, fun k ⟨v, hv⟩ => (h2 k (K.key hv)).1, r2, r3⟩
theorem VRange.next (h : VRange W kt b r nn f left cnt) (K : Keyed Tryz.prog kt) (ty : TypeId) :
   (cnt = 0 ∧ (∀ kl, left kl = false) ∧ (Instr.next (.pointer (some ⟨r, 0, none⟩)) false ty).run Tryz.prog W = .ok (.tuple #[.bool false]) W) ∨
   ∃ key v kl W' cnt', keyOf Tryz.prog kt key = some kl ∧ left kl = true ∧ f kl = some v ∧ (Instr.next (.pointer (some ⟨r, 0, none⟩)) false ty).run Tryz.prog W = .ok (.tuple #[.bool true, key, v]) W' ∧
     VRange W' kt b r nn f (fun x => left x && !x.sameKey kl) cnt' ∧ cnt' < cnt ∧ W.grownBy W' (some r) ∧ W'.heap.size = W.heap.size ∧ (Instr.entry (.pointer (some ⟨r, 0, none⟩))).run Tryz.prog W' = .ok (.tuple #[key, v]) W' := by
 obtain ⟨D, h1, h2⟩ := h
 rcases h1.next K ty with h | ⟨key, v, kl, y, W', cnt', e1, e2, e3, e4, e5, e6, e7, e8, e9, e10⟩
 · exact .inl h
 · refine .inr ⟨key, v, kl, W', cnt', e1, e2, ?_, e5, ⟨D, e6, h2⟩, e7, e8, e9, e10⟩
   have hk := K.key e1
   unfold heldR at e3
   obtain rfl := (Option.some.inj e3).symm
   have hh : has D kl = true := Maps.has_true_of_atKey (fun z => e4 z)
   have h3 := h2 kl hk
   rw [h3.1] at hh
   obtain ⟨u, hu⟩ := Option.isSome_iff_exists.1 hh
   have h4 := h3.2 v
   rw [e4, hu] at h4
   rw [hu, DataW.held.inj h4]; rfl
theorem VRange.drop (h : VRange W kt b r nn f left cnt) (K : Keyed Tryz.prog kt) {t e : TypeId} (ht : Tryz.prog.underlying t = some (.map kt e)) {key : Value} {kl : Lit} (hk : keyOf Tryz.prog kt key = some kl) (ty : TypeId) :
   ∃ W' cnt', (Builtin.delete_ #[t, kt] ty #[.map (some b), key]).run Tryz.prog W = .ok (.tuple #[]) W' ∧ VRange W' kt b r nn (delV f kl) (fun x => left x && !x.sameKey kl) cnt' ∧ cnt' ≤ cnt ∧ W.mapTurned W' b := by
 obtain ⟨D, h1, h2⟩ := h
 obtain ⟨W', cnt', hrun, r1, r2, r3⟩ := h1.drop K ht hk ty
 refine ⟨W', cnt', hrun, ⟨_, r1, fun y hy' => ?_⟩, r2, r3⟩
 unfold delV
 by_cases hy : y = kl
 · subst hy
   rw [if_pos rfl, Maps.has_del_same]
   exact ⟨rfl, fun z => Maps.atKey_del_same _⟩
 · rw [if_neg hy, Maps.has_del_other hy]
   exact ⟨(h2 y hy').1, fun z => by rw [Maps.atKey_del_other hy]; exact (h2 y hy').2 z⟩
theorem filter_set {α : Type} (p : α → Bool) : ∀ (l : List α) (j : Nat) (x y : α), l[j]? = some x → p y = p x → ((l.set j y).filter p).length = (l.filter p).length
 | [], j, x, y, h, _ => by simp at h
 | a :: l, 0, x, y, h, hp => by
   simp only [List.getElem?_cons_zero, Option.some.injEq] at h
   subst h
   simp only [List.set_cons_zero, List.filter_cons, hp]
   split <;> simp
 | a :: l, j + 1, x, y, h, hp => by
   have := filter_set p l j x y (by simpa using h) hp
   simp only [List.set_cons_succ, List.filter_cons]
   split <;> simp [this]
theorem VRange.again (h : VRange W kt b r nn f left cnt) (K : Keyed Tryz.prog kt) {t e : TypeId} (ht : Tryz.prog.underlying t = some (.map kt e)) {key : Value} {kl : Lit} (hk : keyOf Tryz.prog kt key = some kl) (hf : (f kl).isSome = true) (val : Value) :
   ∃ W', (Instr.mapUpdate t (.map (some b)) key val).run Tryz.prog W = .ok () W' ∧ VRange W' kt b r nn (putV f kl val) left cnt ∧ W.mapTurned W' b := by
 obtain ⟨D, h1, h2⟩ := h
 have hne := h1.ne
 obtain ⟨es, clock, since, seen, c0, hb, F, hs, rfl, hr, hold, hcnt, hl1, hl2, hsc, hsk⟩ := h1
 rcases K.find W hk es.toList F.keys with ⟨g1, g2⟩ | ⟨j, e0, g1, g2, g3⟩
 · exfalso
   have hh := (h2 kl (K.key hk)).1
   rw [hf] at hh
   obtain ⟨p, hp, hpk⟩ := List.any_eq_true.1 hh
   obtain ⟨x, hx, rfl⟩ := List.mem_map.1 (mem_sorted.1 hp)
   obtain ⟨y, hy⟩ := F.reads x hx
   rw [Go.WideElems.rg_of hy] at hpk
   have e1 := Go.WideElems.rd_key hy
   rw [WideAt.sameKey_eq hpk] at e1
   exact g2 x hx (K.inj e1 hk)
 · have hj : es[j]? = some e0 := by simpa using g2
   have hjl : j < es.toList.length := (List.getElem?_eq_some_iff.1 g2).1
   have hkeyf : ∀ e', es[j]? = some e' → ({ e' with key := key, val := val } : MapEntry).key = e'.key := fun e' he' => by rw [hj] at he'; cases he'; exact g3.symm
   have hlist : (es.modify j (fun e' => { e' with key := key, val := val })).toList = es.toList.set j { e0 with key := key, val := val } := by rw [Array.toList_modify, Go.ChangeMaps.modify_eq_set _ _ _ _ g2]
   have he0 : e0 ∈ es.toList := List.mem_of_getElem? g2
   have hy0 : rg Tryz.prog kt heldR { e0 with key := key, val := val } = (kl, .held val) := Go.WideElems.rg_of (Go.WideElems.rd_mk hk (show heldR val = some (DataW.held val, []) from rfl))
   have hk0 : (rg Tryz.prog kt heldR e0).1 = kl := by
     obtain ⟨y, hy⟩ := F.reads e0 he0
     rw [Go.WideElems.rg_of hy]
     have e1 := Go.WideElems.rd_key hy
     rw [g3, hk] at e1
     exact (Option.some.inj e1).symm
   have who : ∀ x ∈ es.toList.set j { e0 with key := key, val := val }, x = { e0 with key := key, val := val } ∨ x ∈ es.toList := by
     intro x hx
     obtain ⟨i, hi, ex⟩ := List.getElem_of_mem hx
     rw [List.getElem_set] at ex
     split at ex
     · exact .inl ex.symm
     · exact .inr (ex ▸ List.getElem_mem _)
   have hF : Go.WideElems.Fit Tryz.prog kt heldR (es.modify j (fun e' => { e' with key := key, val := val })) clock := by
     refine ⟨by simpa using F.size, MapKept.stamped_modify F.stamped _ _ (fun _ _ => rfl) (fun e' _ he' => hkeyf e' he'), ?_⟩
     intro x hx
     rw [hlist] at hx
     rcases who x hx with rfl | hx'
     · exact ⟨_, Go.WideElems.rd_mk hk rfl⟩
     · exact F.reads x hx'
   have hput : ((es.modify j (fun e' => { e' with key := key, val := val })).toList.map (rg Tryz.prog kt heldR)).foldr DataW.insert [] = Go.ChangeMaps.putKey kl (.held val) ((es.toList.map (rg Tryz.prog kt heldR)).foldr DataW.insert []) := by
     refine Maps.sorted_put K.one ⟨key, hk⟩ (Maps.fit_keys F) (Maps.fit_apart K F) ?_
     rw [Maps.filter_one K F hk g2 g3, hlist, List.map_set, hy0]
     exact Go.ChangeMaps.set_perm _ _ (by simpa using hjl) _
   refine ⟨Go.ChangeMaps.setBlock W b (.map (es.modify j (fun e' => { e' with key := key, val := val })) clock), ?_, ⟨_, ⟨_, clock, since, seen, c0, heap_setBlock_same hb _, hF, by simpa using hs, rfl, (heap_setBlock_other hb _ hne).trans hr, ?_, ?_, ?_, ?_, hsc, hsk⟩, ?_⟩, ⟨es, clock, _, clock, hb, rfl⟩⟩
   · simp [Instr.mapUpdate, run_underlying ht, MapKept.run_getObj_map hb, K.check W false hk, g1, hj, g3, K.stays W hk, MapKept.run_setObj_map _ hb, Result.andThen, Go.ChangeMaps.setBlock]
   · intro x hx
     rw [hlist] at hx
     rcases who x hx with rfl | hx'
     · exact hold e0 he0
     · exact hold x hx'
   · rw [← hcnt]
     have e1 : ∀ a : Array MapEntry, (leftOf a seen).size = (a.toList.filter fun e => !seen.contains e.born).length := fun a => by
       unfold leftOf
       rw [← Array.toList_filter, Array.length_toList]
     rw [e1, e1, hlist]
     exact filter_set _ _ j e0 _ g2 rfl
   · intro x hx
     rw [hlist] at hx
     rcases who x hx with rfl | hx'
     · rw [hy0]
       have := hl1 e0 he0
       rw [hk0] at this
       exact this
     · exact hl1 x hx'
   · intro k hkk
     obtain ⟨x, hx, hxk⟩ := hl2 k hkk
     rw [hlist]
     by_cases hxe : x = e0
     · subst hxe
       refine ⟨{ x with key := key, val := val }, List.mem_iff_getElem.2 ⟨j, by simpa using hjl, by simp⟩, ?_⟩
       rw [hy0, ← hxk, hk0]
     · obtain ⟨i, hi⟩ := List.getElem?_of_mem hx
       have hij : j ≠ i := fun e1 => hxe (by rw [e1, hi] at g2; exact Option.some.inj g2)
       refine ⟨x, ?_, hxk⟩
       exact List.mem_of_getElem? (by rw [List.getElem?_set_ne hij]; exact hi)
   · intro y hy'
     have hD' : (DataW.map (((es.modify j (fun e' => { e' with key := key, val := val })).toList.map (rg Tryz.prog kt heldR)).foldr DataW.insert []) : DataW Value) = DataW.put (.map ((es.toList.map (rg Tryz.prog kt heldR)).foldr DataW.insert [])) kl (.held val) := by rw [DataW.put_eq, hput]
     rw [hD']
     unfold putV
     by_cases hyk : y = kl
     · subst hyk
       rw [if_pos rfl]
       exact ⟨Maps.has_put_same ⟨_, rfl⟩ hy' _, fun z => Maps.atKey_put_same ⟨_, rfl⟩ hy' _ _⟩
     · rw [if_neg hyk, Maps.has_put_other hyk]
       exact ⟨(h2 y hy').1, fun z => by rw [Maps.atKey_put_other hyk]; exact (h2 y hy').2 z⟩
end
end Go.Proofs.YtmfhnhnmdeabeaaGreat
end
section
namespace Go.Proofs.YtmfhnhnmdeabeaaGreat
open Go.RowKit Go.Shelf
def slotOf (a : Act) : Option Tmp → Value
 | some t => a.tmps.getD t undef
 | none => undef
def waits (ops : Array Oper) (i j : Nat) : Bool := ((ops[i]?).map fun o => o.after.any fun e => e.on == j && Region.binds .any e).getD false
theorem count_set (L : Array Bool) (i : Nat) (h : L.getD i true = false) : ((L.setIfInBounds i true).toList.filter (!·)).length + 1 = (L.toList.filter (!·)).length := by
 obtain ⟨l⟩ := L
 have hi : i < l.length := by
   refine Classical.byContradiction fun q => ?_
   simp [Array.getD, q] at h
 have he : l[i] = false := by simpa [Array.getD, hi] using h
 simp only [List.setIfInBounds_toArray]
 clear h
 induction l generalizing i with
 | nil => simp at hi
 | cons x l ih =>
   cases i with
   | zero =>
     simp only [List.getElem_cons_zero] at he
     subst he
     show ((true :: l).filter (!·)).length + 1 = ((false :: l).filter (!·)).length
     rfl
   | succ i =>
     have h := ih i (by simpa using hi) (by simpa using he)
     show ((x :: l.set i true).filter (!·)).length + 1 = ((x :: l).filter (!·)).length
     cases x
     · show ((l.set i true).filter (!·)).length + 1 + 1 = (l.filter (!·)).length + 1
       omega
     · exact h
def upward (ops : Array Oper) : Bool := (List.range ops.size).all fun i => ((ops[i]?).map fun o => o.after.all fun e => !Region.binds .any e || decide (e.on < i)).getD true
theorem upward_spec {ops : Array Oper} (h : upward ops = true) {i : Nat} {o : Oper} (ho : ops[i]? = some o) {e : Edge} (he : e ∈ o.after) (hb : Region.binds .any e = true) : e.on < i := by
 have hi : i < ops.size := (Array.getElem?_eq_some_iff.1 ho).1
 have h1 := List.all_eq_true.1 h i (by simpa using hi)
 rw [ho] at h1
 simp only [Option.map_some, Option.getD_some] at h1
 have h2 := Array.all_eq_true'.1 h1 e he
 rw [hb] at h2
 simpa using h2
theorem waits_lt {ops : Array Oper} (h : upward ops = true) {i j : Nat} (hw : waits ops i j = true) : j < i ∧ i < ops.size := by
 unfold waits at hw
 cases ho : ops[i]? with
 | none => rw [ho] at hw; cases hw
 | some o =>
   rw [ho] at hw
   simp only [Option.map_some, Option.getD_some] at hw
   obtain ⟨e, he, he2⟩ := Array.any_eq_true'.1 hw
   simp only [Bool.and_eq_true, beq_iff_eq] at he2
   have := upward_spec h ho he he2.2
   exact ⟨by omega, (Array.getElem?_eq_some_iff.1 ho).1⟩
theorem ready_all {ops : Array Oper} (h : upward ops = true) (L : Array Bool) (hL : L.size = ops.size) (hr : Region.ready .any ops L = []) : ∀ j, j < ops.size → L.getD j false = true := by
 intro j
 induction j using Nat.strongRecOn with
 | _ j ih =>
   intro hj
   refine Classical.byContradiction fun q => ?_
   have hm : j ∈ Region.ready .any ops L := by
     rw [mem_ready]
     refine ⟨?_, ops[j], by simp [hj], fun e he hb => ?_⟩
     · have hjL : j < L.size := by omega
       simp only [Array.getD, hjL, dif_pos] at q ⊢
       simpa using q
     · have := upward_spec h (i := j) (o := ops[j]) (by simp [hj]) he hb
       exact ih e.on this (by omega)
   rw [hr] at hm
   cases hm
def rowsT (ops : Array Oper) : Nat → List (List Nat)
 | 0 => []
 | n + 1 =>
   let r := rowsT ops n
   r ++ [((List.range n).filter fun j => waits ops n j || (List.range n).any fun k => waits ops n k && (r.getD k []).contains j)]
def waitsT (ops : Array Oper) (i j : Nat) : Bool := ((rowsT ops ops.size).getD i []).contains j
theorem rowsT_len (ops : Array Oper) (n : Nat) : (rowsT ops n).length = n := by
 induction n with
 | zero => rfl
 | succ n ih => simp [rowsT, ih]
theorem rowsT_get (ops : Array Oper) (n m i : Nat) (h : i < n) (hm : n ≤ m) : (rowsT ops m).getD i [] = (rowsT ops n).getD i [] := by
 induction m with
 | zero => omega
 | succ m ih =>
   by_cases e : n = m + 1
   · subst e; rfl
   · have := ih (by omega)
     rw [← this]
     simp only [rowsT, List.getD_eq_getElem?_getD]
     rw [List.getElem?_append_left (by rw [rowsT_len]; omega)]
theorem waitsT_closed {ops : Array Oper} (lst : Nat → Bool) (hc : ∀ i j, lst i = true → waits ops i j = true → lst j = true) : ∀ i, i < ops.size → ∀ j, waitsT ops i j = true → lst i = true → lst j = true := by
 intro i
 induction i using Nat.strongRecOn with
 | _ i ih =>
   intro hi j hw hl
   unfold waitsT at hw
   rw [rowsT_get ops (i + 1) ops.size i (by omega) (by omega)] at hw
   simp only [rowsT, List.getD_eq_getElem?_getD] at hw
   rw [List.getElem?_append_right (by rw [rowsT_len]; omega), rowsT_len] at hw
   simp only [Nat.sub_self, List.getElem?_cons_zero, Option.getD_some, List.contains_eq_mem, decide_eq_true_eq, List.mem_filter, List.mem_range, Bool.or_eq_true, List.any_eq_true, Bool.and_eq_true] at hw
   obtain ⟨hj, hw | ⟨k, hk, hw, hm⟩⟩ := hw
   · exact hc i j hl hw
   · refine ih k hk (by omega) j ?_ (hc i k hl hw)
     unfold waitsT
     rw [rowsT_get ops i ops.size k hk (by omega), List.getD_eq_getElem?_getD]
     simpa using hm
def apartD (d : Nat → Option Tmp) (n : Nat) : Bool := (List.range n).all fun i => (List.range n).all fun j => i == j || (d i).isNone || d i != d j
theorem apartD_spec {d : Nat → Option Tmp} {n : Nat} (h : apartD d n = true) (i j : Nat) (hi : i < n) (hj : j < n) (hij : i ≠ j) (t : Tmp) (ht : d i = some t) : d j ≠ some t := by
 have h1 := List.all_eq_true.1 (List.all_eq_true.1 h i (by simpa using hi)) j (by simpa using hj)
 intro e
 simp [hij, ht, e] at h1
theorem wp_region_phi2 {P : Program} {ops : Array Oper} {Q : Exit → Act → World → Prop} {id : Nat} {a0 : Act} {w0 : World} (hm : P.follows .mixedOrders = true)
   (d : Nat → Option Tmp) (A : Act → Prop) (G : (Nat → Bool) → World → Prop) (Gr : Nat → World → World → Prop) (Ψ : Nat → Value → World → Prop)
   (hchk : upward ops = true)
   (hst : ∀ i j v w w', i < ops.size → j < ops.size → i ≠ j → waitsT ops j i = false → Ψ j v w → Gr i w w' → Ψ j v w')
   (hdc : apartD d ops.size = true)
   (hA : ∀ i a v, i < ops.size → A a → A (a.put (d i) v) ∧ ∀ t, d i = some t → t < a.tmps.size)
   (a0A : A a0) (w0G : G (fun _ => false) w0.drew)
   (step : ∀ i a w lst, i < ops.size → A a → lst i = false → (∀ j k, j < ops.size → lst j = true → waitsT ops j k = true → lst k = true) → G lst w → (∀ j, waits ops i j = true → Ψ j (slotOf a (d j)) w) → wpOp P ops Q i (fun a' w' => ∃ v, a' = a.put (d i) v ∧ G (fun j => if j = i then true else lst j) w' ∧ Gr i w w' ∧ Ψ i (if (d i).isSome then v else undef) w') a w)
   (done : ∀ a w lst, (∀ j, j < ops.size → lst j = true) → A a → G lst w → (∀ j, j < ops.size → Ψ j (slotOf a (d j)) w) → Q .normal a w) :
   (Code.region id ops true).wp P Q a0 w0 := by
 refine wp_region_any hm ?_
 have hw : ∀ i j, waits ops i j = true → j < ops.size := fun i j h => by have := waits_lt hchk h; omega
 have hall := ready_all hchk
 have hd := apartD_spec hdc
 have key : ∀ fuel (L : Array Bool) (a : Act) (w : World), L.size = ops.size → (L.toList.filter (!·)).length ≤ fuel → (∀ i j, L.getD i false = true → waits ops i j = true → L.getD j false = true) → A a → G (fun j => L.getD j false) w → (∀ j, j < ops.size → L.getD j false = true → Ψ j (slotOf a (d j)) w) → wpAny P .any ops Q fuel L a w := by
   intro fuel
   induction fuel with
   | zero =>
     intro L a w hL hc hcl ha hg hp
     have hr : Region.ready .any ops L = [] := by
       rw [List.eq_nil_iff_forall_not_mem]
       intro i hi
       have h1 := (mem_ready.1 hi).1
       have := count_set L i h1
       omega
     exact ⟨hr, done a w _ (hall L hL hr) ha hg fun j hj => hp j hj (hall L hL hr j hj)⟩
   | succ fuel ih =>
     intro L a w hL hc hcl ha hg hp
     refine ⟨fun hr => done a w _ (hall L hL hr) ha hg fun j hj => hp j hj (hall L hL hr j hj), fun i hi => ?_⟩
     obtain ⟨h1, o, ho, haft⟩ := mem_ready.1 hi
     have hin : i < ops.size := (Array.getElem?_eq_some_iff.1 ho).1
     have hiL : i < L.size := by omega
     have hli : L.getD i false = false := by
       simp only [Array.getD, hiL, dif_pos] at h1 ⊢
       exact h1
     have hwl : ∀ j, waits ops i j = true → L.getD j false = true := fun j hj => by
       unfold waits at hj
       rw [ho] at hj
       simp only [Option.map_some, Option.getD_some] at hj
       obtain ⟨e, he, he2⟩ := Array.any_eq_true'.1 hj
       simp only [Bool.and_eq_true, beq_iff_eq] at he2
       rw [← he2.1]
       exact haft e he he2.2
     have hset : ∀ j, (L.setIfInBounds i true).getD j false = if j = i then true else L.getD j false := fun j => by
       rw [Array.getD_eq_getD_getElem?, Array.getD_eq_getD_getElem?]
       by_cases hji : j = i
       · subst hji
         rw [if_pos rfl, Array.getElem?_setIfInBounds_self_of_lt hiL]; rfl
       · rw [if_neg hji, Array.getElem?_setIfInBounds_ne (Ne.symm hji)]
     refine wpOp_mono ?_ (step i a w _ hin ha hli (fun j k hj h1 h2 => waitsT_closed (fun j => L.getD j false) hcl j hj k h2 h1) hg fun j hj => hp j (hw i j hj) (hwl j hj))
     rintro a' w' ⟨v, rfl, g', gr, ps⟩
     obtain ⟨hA1, hA2⟩ := hA i a v hin ha
     refine ih _ _ _ (by simpa using hL) (by have := count_set L i h1; omega) ?_ hA1 (by simpa only [hset] using g') fun j hj hjl => ?_
     · intro k j hk hkj
       rw [hset] at hk ⊢
       by_cases hki : k = i
       · subst hki
         rw [hwl j hkj]
         split <;> rfl
       · rw [if_neg hki] at hk
         rw [hcl k j hk hkj]
         split <;> rfl
     by_cases hji : j = i
     · subst hji
       cases hdi : d j with
       | none => rw [hdi] at ps; exact ps
       | some t =>
         rw [hdi] at ps
         have hlt := hA2 t hdi
         have e : slotOf (a.put (some t) v) (some t) = v := by simp [slotOf, Act.put, Array.getD, hlt]
         rw [e]; exact ps
     · rw [hset, if_neg hji] at hjl
       have hnw : waitsT ops j i = false := by
         cases hq : waitsT ops j i with
         | false => rfl
         | true =>
           have := waitsT_closed (fun j => L.getD j false) hcl j hj i hq hjl
           rw [hli] at this
           cases this
       have h2 := hst i j _ _ _ hin hj (Ne.symm hji) hnw (hp j hj hjl) gr
       have e : slotOf (a.put (d i) v) (d j) = slotOf a (d j) := by
         cases hdj : d j with
         | none => rfl
         | some t =>
           cases hdi : d i with
           | none => rfl
           | some u =>
             have hne : u ≠ t := fun q => hd i j hin hj (Ne.symm hji) u hdi (by rw [hdj, q])
             simp only [slotOf, Act.put]
             rw [Array.getD_eq_getD_getElem?, Array.getD_eq_getD_getElem?, Array.getElem?_setIfInBounds_ne hne]
       rw [e]; exact h2
 have h0 : ∀ j, (Array.replicate ops.size false).getD j false = false := fun j => by
   rw [Array.getD_eq_getD_getElem?, Array.getElem?_replicate]
   split <;> rfl
 refine key ops.size _ a0 _ (by simp) (by simp) (fun i j h => by rw [h0] at h; cases h) a0A (by simp only [h0]; exact w0G) fun j hj hjl => ?_
 rw [h0] at hjl
 cases hjl
theorem wp_region_phi {P : Program} {ops : Array Oper} {Q : Exit → Act → World → Prop} {id : Nat} {a0 : Act} {w0 : World} (hm : P.follows .mixedOrders = true)
   (d : Nat → Option Tmp) (A : Act → Prop) (G : (Nat → Bool) → World → Prop) (Gr : Nat → World → World → Prop) (Ψ : Nat → Value → World → Prop)
   (hchk : upward ops = true)
   (hst : ∀ i j v w w', i < ops.size → j < ops.size → i ≠ j → waitsT ops j i = false → Ψ j v w → Gr i w w' → Ψ j v w')
   (hdc : apartD d ops.size = true)
   (hA : ∀ i a v, i < ops.size → A a → A (a.put (d i) v) ∧ ∀ t, d i = some t → t < a.tmps.size)
   (a0A : A a0) (w0G : G (fun _ => false) w0.drew)
   (step : ∀ i a w lst, i < ops.size → A a → lst i = false → G lst w → (∀ j, waits ops i j = true → Ψ j (slotOf a (d j)) w) → wpOp P ops Q i (fun a' w' => ∃ v, a' = a.put (d i) v ∧ G (fun j => if j = i then true else lst j) w' ∧ Gr i w w' ∧ Ψ i (if (d i).isSome then v else undef) w') a w)
   (done : ∀ a w lst, (∀ j, j < ops.size → lst j = true) → A a → G lst w → (∀ j, j < ops.size → Ψ j (slotOf a (d j)) w) → Q .normal a w) :
   (Code.region id ops true).wp P Q a0 w0 :=
 wp_region_phi2 hm d A G Gr Ψ hchk hst hdc hA a0A w0G (fun i a w lst hi ha hl _ hg hp => step i a w lst hi ha hl hg hp) done
theorem waits_all {ops : Array Oper} {j : Nat} (h : (List.range j).all (fun i => waitsT ops j i) = true) {i : Nat} (hi : i < j) : waitsT ops j i = true := List.all_eq_true.1 h i (by simpa using hi)
theorem wpOp_via {P : Program} {ops : Array Oper} {Q : Exit → Act → World → Prop} {i : Nat} {R : Act → World → Prop} {a : Act} {w : World} (h : ∀ K : Act → World → Prop, (∀ a' w', R a' w' → K a' w') → wpOp P ops Q i K a w) : wpOp P ops Q i R a w := h R fun _ _ h => h
end Go.Proofs.YtmfhnhnmdeabeaaGreat
end
section
namespace Go.Proofs.YtmfhnhnmdeabeaaGreat.Tr
open Go.RowKit Go.Shelf
set_option maxHeartbeats 2000000 in
theorem check_any (t b : Nat) (n : Nat) (hn : n ≤ 100) (cap : Nat) (g : Nat → Nat) (lb : Nat → Array Value) (I : Nat → World → Prop) (J : Nat → World → Prop) (w : World) (h0 : I 0 w) (he : ∀ i W, i < n → (callFunc (g i) (lb i)).run Tryz.prog W = .ok (.enter (g i) (lb i)) W)
   (hc : ∀ i W, i < n → I i W → W.cell? ⟨b, i, none⟩ = some (.func (.func (g i)) #[] (lb i)) ∧ b < W.heap.size)
   (hs : ∀ i W, i < n → I i W → Calls Tryz.prog (g i) (lb i) W fun e W' => ∃ k : Nat, e = .returned (.int .i64 k) ∧ (k = 0 ∧ I (i + 1) W' ∨ k ≠ 0 ∧ J k W')) :
   Calls Tryz.prog 46 #[.pointer (some ⟨t, 0, none⟩), .slice (some ⟨b, 0, none⟩) n cap] w fun e w' => ∃ k : Nat, e = .returned (.int .i64 k) ∧ (k = 0 ∧ I n w' ∨ k ≠ 0 ∧ J k w') := by
 have H0 := Lib.hid h0
 have HE := Lib.hid he
 have HC := Lib.hid hc
 have HS := Lib.hid hs
 clear h0 hc hs he
 go_enter Tryz.func46, Tryz.ntmps46
 go_wp2_with fail
 go_loopw [12] (fun c wr => ∃ q : Nat, q ≤ n ∧ c = .int .i64 q ∧ I q wr) (fun c _ => n - (intOf c).toNat)
 case atStart => exact ⟨0, by omega, rfl, H0.out⟩
 case round =>
   obtain ⟨q, hq, rfl, hr⟩ := hrel
   by_cases hlt : q < n
   · obtain ⟨x0, xl⟩ := HC.out q _ hlt hr
     have K := Lib.hid (HS.out q _ hlt hr)
     have E := fun W => HE.out q W hlt
     clear hr
     go_wp2_with fail
     refine Calls.mono K.out ?_
     rintro e w7 ⟨k, rfl, h⟩
     have H := Lib.hid h
     clear h
     by_cases hk : k = 0
     · subst hk
       go_wp2_with fail
       go_roundw
       case rel => exact ⟨q + 1, by omega, by go_num, (H.out.resolve_right (fun h => h.1 rfl)).2⟩
       case measure => simp [intOf]; omega
     · have tk : ((k : Int) != 0) = true := by simp; omega
       go_wp2_with fail
       go_ret
       exact ⟨k, rfl, .inr (H.out.resolve_left (fun h => hk h.1))⟩
   · obtain rfl : q = n := by omega
     have H := Lib.hid hr
     clear hr
     go_wp2_with fail
     go_ret
     exact ⟨0, rfl, .inl ⟨rfl, H.out⟩⟩
theorem as_no (e : Nat) (w : World) : Calls Tryz.prog 51 #[.bool false, .int .i64 e] w fun e' w' => e' = .returned (.int .i64 0) ∧ w = w' := by
 go_enter Tryz.func51, Tryz.ntmps51
 go_wp2
 go_ret
 exact ⟨rfl, rfl⟩
theorem as_yes (e : Nat) (w : World) : Calls Tryz.prog 51 #[.bool true, .int .i64 e] w fun e' w' => e' = .returned (.int .i64 e) ∧ w = w' := by
 go_enter Tryz.func51, Tryz.ntmps51
 go_wp2
 go_ret
 exact ⟨rfl, rfl⟩
end Go.Proofs.YtmfhnhnmdeabeaaGreat.Tr
end
section
namespace Go.Proofs.YtmfhnhnmdeabeaaGreat.Tr
open Go.RowKit Go.Shelf Go.Maps Oct
def ptr (b : Nat) : Value := .pointer (some ⟨b, 0, none⟩)
def natF (kd : IntKind) (g : Nat → Option Value) : Lit → Option Value
 | .int k x => if k = kd ∧ 0 ≤ x then g x.toNat else none
 | _ => none
def strF (g : Nm → Option Value) : Lit → Option Value
 | .string s => g s
 | _ => none
theorem natF_at (kd : IntKind) (g : Nat → Option Value) (x : Nat) : natF kd g (.int kd x) = g x := by simp [natF]
theorem strF_at (g : Nm → Option Value) (s : Nm) : strF g (.string s) = g s := rfl
theorem natF_put (kd : IntKind) (g : Nat → Option Value) (x : Nat) (v : Value) : putV (natF kd g) (.int kd x) v = natF kd (fun y => if y = x then some v else g y) := by
 funext k
 unfold putV
 by_cases h : k = .int kd x
 · subst h
   simp [natF]
 · rw [if_neg h]
   cases k with
   | int k z =>
     unfold natF
     dsimp only
     by_cases hz : k = kd ∧ 0 ≤ z
     · rw [if_pos hz, if_pos hz]
       obtain ⟨rfl, hz⟩ := hz
       obtain ⟨m, rfl⟩ := Int.eq_ofNat_of_zero_le hz
       have : m ≠ x := fun e => h (by rw [e])
       simp [this]
     · rw [if_neg hz, if_neg hz]
   | _ => rfl
theorem natF_del (kd : IntKind) (g : Nat → Option Value) (x : Nat) : delV (natF kd g) (.int kd x) = natF kd (fun y => if y = x then none else g y) := by
 funext k
 unfold delV
 by_cases h : k = .int kd x
 · subst h
   simp [natF]
 · rw [if_neg h]
   cases k with
   | int k z =>
     unfold natF
     dsimp only
     by_cases hz : k = kd ∧ 0 ≤ z
     · rw [if_pos hz, if_pos hz]
       obtain ⟨rfl, hz⟩ := hz
       obtain ⟨m, rfl⟩ := Int.eq_ofNat_of_zero_le hz
       have : m ≠ x := fun e => h (by rw [e])
       simp [this]
     · rw [if_neg hz, if_neg hz]
   | _ => rfl
theorem strF_put (g : Nm → Option Value) (s : Nm) (v : Value) : putV (strF g) (.string s) v = strF (fun t => if t = s then some v else g t) := by
 funext k
 unfold putV
 cases k with
 | string t =>
   by_cases h : t = s
   · subst h; simp [strF]
   · rw [if_neg (by simpa using h)]; simp [strF, h]
 | _ => simp [strF]
theorem strF_del (g : Nm → Option Value) (s : Nm) : delV (strF g) (.string s) = strF (fun t => if t = s then none else g t) := by
 funext k
 unfold delV
 cases k with
 | string t =>
   by_cases h : t = s
   · subst h; simp [strF]
   · rw [if_neg (by simpa using h)]; simp [strF, h]
 | _ => simp [strF]
def entF (l : Nm → Nat) (s : Nm) : Option Value := if l s = 0 then none else some (.int .u32 (l s))
structure PgOk (data : Nm) (g : Nat → Option Nm) : Prop where
 is : ∀ k v, g k = some v → v = pageB data k ∧ k < 36
 no : ∀ k, g k = none → pageB data k = zero64
def byteV (b : UInt8) : Value := .int .u8 b.toNat
def pgF (g : Nat → Option Nm) (k : Nat) : Option Value := (g k).map fun v => .agg (v.map byteV).toArray
structure TL where
 t : Nat
 m : Nat
 P : Nat → Nat
 A : Nat → Nat
 B : Nat → Nat
 O : Nat → Prop
def nodeF (E : TL) (S : T) (x : Nat) : Option Value := if (S.n x).kind = 0 then none else some (ptr (E.P x))
structure TreeAt (W : World) (E : TL) (room q : Nat) (S : T) : Prop where
 top : SBox W E.t 53 #[.int .u32 room, .map (some E.m)]
 map : VMap W 37 E.m 256 (natF .u32 (nodeF E S))
 nd : ∀ x, (S.n x).kind ≠ 0 → SBox W (E.P x) 101 #[.int .u8 (S.n x).kind, .int .i64 (S.n x).links, .int .u32 (S.n x).data.length, .map (some (E.A x)), .map (some (E.B x)), .int .i64 (S.n x).held, .int .u32 (S.n x).up]
 ent : ∀ x, (S.n x).kind ≠ 0 → VMap W 9 (E.A x) q (strF (entF (S.l x)))
 pg : ∀ x, (S.n x).kind ≠ 0 → ∃ g, PgOk (S.n x).data g ∧ VMap W 3 (E.B x) 36 (natF .i64 (pgF g))
 own : E.O E.t ∧ E.O E.m ∧ ∀ x, (S.n x).kind ≠ 0 → E.O (E.P x) ∧ E.O (E.A x) ∧ E.O (E.B x)
 iP : ∀ x y, (S.n x).kind ≠ 0 → (S.n y).kind ≠ 0 → E.P x = E.P y → x = y
 iA : ∀ x y, (S.n x).kind ≠ 0 → (S.n y).kind ≠ 0 → E.A x = E.A y → x = y
 iB : ∀ x y, (S.n x).kind ≠ 0 → (S.n y).kind ≠ 0 → E.B x = E.B y → x = y
 iAB : ∀ x y, (S.n x).kind ≠ 0 → (S.n y).kind ≠ 0 → E.A x ≠ E.B y
 iM : ∀ x, (S.n x).kind ≠ 0 → E.P x ≠ E.t ∧ E.A x ≠ E.m ∧ E.B x ≠ E.m
 rm : room ≤ 256
 q8 : q ≤ 100000
 lk : ∀ x, (S.n x).links ≤ 100000 ∧ (S.n x).held ≤ 100000
 dt : ∀ x, (S.n x).data.length ≤ 2304
structure Tch (O : Nat → Prop) (w w' : World) : Prop where
 os : w'.os = w.os
 tape : w'.tape = w.tape
 output : w'.output = w.output
 size : w.heap.size ≤ w'.heap.size
 block : ∀ b, b < w.heap.size → ¬ O b → w'.heap[b]? = w.heap[b]?
theorem Tch.refl (O : Nat → Prop) (w : World) : Tch O w w := ⟨rfl, rfl, rfl, Nat.le_refl _, fun _ _ _ => rfl⟩
theorem Tch.trans {O : Nat → Prop} {a b c : World} (h : Tch O a b) (k : Tch O b c) : Tch O a c :=
 ⟨k.os.trans h.os, k.tape.trans h.tape, k.output.trans h.output, Nat.le_trans h.size k.size, fun i hi ho => (k.block i (Nat.lt_of_lt_of_le hi h.size) ho).trans (h.block i hi ho)⟩
theorem Tch.mono {O O' : Nat → Prop} {a b : World} (h : Tch O a b) (ho : ∀ i, i < a.heap.size → O i → O' i) : Tch O' a b := ⟨h.os, h.tape, h.output, h.size, fun i hi hn => h.block i hi fun q => hn (ho i hi q)⟩
theorem Tch.of {O : Nat → Prop} {a b : World} (h : Below a.heap.size a b) : Tch O a b := ⟨h.os, h.tape, h.output, h.size, fun i hi _ => h.block i hi⟩
theorem Tch.below {O : Nat → Prop} {a b : World} {n : Nat} (h : Tch O a b) (hn : ∀ i, i < n → i < a.heap.size ∧ ¬ O i) : Below n a b := ⟨h.os, h.tape, h.output, h.size, fun i hi => h.block i (hn i hi).1 (hn i hi).2⟩
theorem Tch.cell {O : Nat → Prop} {w : World} {b i : Nat} {v : Value} (hb : O b) : Tch O w (w.setCell ⟨b, i, none⟩ v) := by
 refine ⟨?_, ?_, ?_, ?_, fun c _ ho => heap_setCell_other w ⟨b, i, none⟩ c v (fun e => ho (by rw [e]; exact hb))⟩
 · have := (Below.refl 0 w).setCell (p := ⟨b, i, none⟩) (Nat.zero_le _) v; exact this.os
 · have := (Below.refl 0 w).setCell (p := ⟨b, i, none⟩) (Nat.zero_le _) v; exact this.tape
 · have := (Below.refl 0 w).setCell (p := ⟨b, i, none⟩) (Nat.zero_le _) v; exact this.output
 · have := (Below.refl 0 w).setCell (p := ⟨b, i, none⟩) (Nat.zero_le _) v; exact this.size
theorem Tch.turned {O : Nat → Prop} {w w' : World} {b : Nat} (h : w.mapTurned w' b) (hb : O b) : Tch O w w' := by
 obtain ⟨es, clock, es', clock', hm, rfl⟩ := h
 exact ⟨rfl, rfl, rfl, by simp [Go.ChangeMaps.setBlock], fun c _ ho => Go.ChangeMaps.heap_setBlock_other hm _ (fun e => ho (by rw [e]; exact hb))⟩
theorem Tch.drew {O : Nat → Prop} {w : World} : Tch O w w.drew := ⟨rfl, rfl, rfl, Nat.le_refl _, fun _ _ _ => rfl⟩
variable {W W' : World} {E : TL} {room q : Nat} {S : T}
theorem TreeAt.blocks (h : TreeAt W E room q S) (hb : ∀ b, b < W.heap.size → E.O b → W'.heap[b]? = W.heap[b]?) : TreeAt W' E room q S := by
 have o := h.own
 refine { h with top := ?_, map := ?_, nd := ?_, ent := ?_, pg := ?_ }
 · exact (hb _ h.top.lt o.1).trans h.top
 · exact h.map.block (hb _ h.map.lt o.2.1)
 · exact fun x hx => (hb _ (h.nd x hx).lt (o.2.2 x hx).1).trans (h.nd x hx)
 · exact fun x hx => (h.ent x hx).block (hb _ (h.ent x hx).lt (o.2.2 x hx).2.1)
 · exact fun x hx => by
     obtain ⟨g, h1, h2⟩ := h.pg x hx
     exact ⟨g, h1, h2.block (hb _ h2.lt (o.2.2 x hx).2.2)⟩
theorem TreeAt.later (h : TreeAt W E room q S) (hb : Below W.heap.size W W') : TreeAt W' E room q S := h.blocks fun b hlt _ => hb.block b hlt
theorem TreeAt.below {n : Nat} (h : TreeAt W E room q S) (hn : ∀ b, b < W.heap.size → E.O b → b < n) (hb : Below n W W') : TreeAt W' E room q S := h.blocks fun b hlt ho => hb.block b (hn b hlt ho)
theorem TreeAt.alloc (h : TreeAt W E room q S) (o : Obj) : TreeAt (W.alloc o) E room q S := h.later ((Below.refl _ _).alloc (Nat.le_refl _) o)
theorem TreeAt.drew (h : TreeAt W E room q S) : TreeAt W.drew E room q S := h.blocks fun _ _ _ => rfl
theorem TreeAt.more (h : TreeAt W E room q S) {q' : Nat} (hq : q ≤ q') (hq' : q' ≤ 100000) : TreeAt W E room q' S := { h with ent := fun x hx => (h.ent x hx).mono hq, q8 := hq' }
theorem kU32 : Keyed Tryz.prog 37 := Maps.int_keyed Tryz.underlying37
theorem kInt : Keyed Tryz.prog 3 := Maps.int_keyed Tryz.underlying3
theorem kStr : Keyed Tryz.prog 9 := Maps.string_keyed Tryz.underlying9
theorem wf32 {x : Nat} (h : x < 4294967296) : (Lit.int .u32 (x : Int)).wf = true := by
 simp only [Lit.wf, Bool.and_eq_true, decide_eq_true_eq]
 exact ⟨by show (0 : Int) ≤ x; omega, by show (x : Int) ≤ 4294967295; omega⟩
theorem wfI {x : Nat} (h : x < 1000000) : (Lit.int .i64 (x : Int)).wf = true := by
 simp only [Lit.wf, Bool.and_eq_true, decide_eq_true_eq]
 exact ⟨by show (-9223372036854775808 : Int) ≤ x; omega, by show (x : Int) ≤ 9223372036854775807; omega⟩
theorem key32 {x : Nat} (h : x < 4294967296) : keyOf Tryz.prog 37 (.int .u32 x) = some (.int .u32 x) := Maps.keyOf_int_mk Tryz.underlying37 (wf32 h)
theorem keyI {x : Nat} (h : x < 1000000) : keyOf Tryz.prog 3 (.int .i64 x) = some (.int .i64 x) := Maps.keyOf_int_mk Tryz.underlying3 (wfI h)
theorem keyS {s : ByteArray} (h : s.size ≤ maxLen) : keyOf Tryz.prog 9 (.string s) = some (.string s.data.toList) := WideMaps.keyOf_string_mk Tryz.underlying9 h
theorem TreeAt.look (h : TreeAt W E room q S) {x : Nat} (hx : x < 4294967296) : (Instr.lookup 51 (.map (some E.m)) (.int .u32 x) false).run Tryz.prog W = .ok ((nodeF E S x).getD (.pointer none)) W := by
 have := h.map.look kU32 Tryz.underlying51 (z := .pointer none) (by kernel_rfl) (key32 hx)
 rwa [natF_at] at this
theorem TreeAt.look_no (h : TreeAt W E room q S) {x : Nat} (hx : x < 4294967296) (hk : (S.n x).kind = 0) : (Instr.lookup 51 (.map (some E.m)) (.int .u32 x) false).run Tryz.prog W = .ok (.pointer none) W := by
 rw [h.look hx, nodeF, if_pos hk]; rfl
theorem TreeAt.look_is (h : TreeAt W E room q S) {x : Nat} (hx : x < 4294967296) (hk : (S.n x).kind ≠ 0) : (Instr.lookup 51 (.map (some E.m)) (.int .u32 x) false).run Tryz.prog W = .ok (.pointer (some ⟨E.P x, 0, none⟩)) W := by
 rw [h.look hx, nodeF, if_neg hk]; rfl
theorem TreeAt.entry (h : TreeAt W E room q S) {x : Nat} (hk : (S.n x).kind ≠ 0) {s : ByteArray} (hs : s.size ≤ maxLen) : (Instr.lookup 98 (.map (some (E.A x))) (.string s) false).run Tryz.prog W = .ok (.int .u32 (S.l x s.data.toList)) W := by
 have := (h.ent x hk).look kStr Tryz.underlying98 (z := .int .u32 0) (by kernel_rfl) (keyS hs)
 rw [this, strF_at, entF]
 by_cases h0 : S.l x s.data.toList = 0
 · rw [if_pos h0, h0]; rfl
 · rw [if_neg h0]; rfl
end Go.Proofs.YtmfhnhnmdeabeaaGreat.Tr
end
section
namespace Go.Proofs.YtmfhnhnmdeabeaaGreat.Tr
open Go.RowKit Go.Shelf Go.Maps Oct
def anyP (n : Nat) (p : Nat → Bool) : Bool := (List.range n).any p
theorem anyP_no {n : Nat} {p : Nat → Bool} (h : ∀ i < n, p i = false) : anyP n p = false := by
 unfold anyP
 rw [List.any_eq_false]
 intro x hx
 simp [h x (by simpa using hx)]
theorem anyP_yes {n i : Nat} {p : Nat → Bool} (hi : i < n) (h : p i = true) : anyP n p = true := List.any_eq_true.2 ⟨i, by simpa using hi, h⟩
set_option maxHeartbeats 2000000 in
theorem idx_str (n : Nat) (hn : n ≤ 100) (b cap g : Nat) (lb : Array Value) (vals : Nat → Value) (p : Nat → Bool) (w : World) (hb : b < w.heap.size)
   (eg : ∀ args W, (callFunc g args).run Tryz.prog W = .ok (.enter g args) W) (hc : ∀ i < n, w.cell? ⟨b, i, none⟩ = some (vals i))
   (hs : ∀ W i, i < n → Below w.heap.size w W → (∀ j < i, p j = false) → Calls Tryz.prog g (#[vals i] ++ lb) W fun e W' => e = .returned (.bool (p i)) ∧ Below W.heap.size W W') :
   Calls Tryz.prog 122 #[.slice (some ⟨b, 0, none⟩) n cap, .func (.func g) #[] lb] w fun e w' => ∃ r : Int, e = .returned (.int .i64 r) ∧ decide (0 ≤ r) = anyP n p ∧ Below w.heap.size w w' := by
 have HC := Lib.hid hc
 have HS := Lib.hid hs
 have hB := Lib.hid hb
 clear hc hs
 go_enter Tryz.func122, Tryz.ntmps122
 go_wp2_with fail
 go_loopw [8] (fun c wr => ∃ q : Nat, q ≤ n ∧ c = .int .i64 q ∧ (∀ j < q, p j = false) ∧ Below w.heap.size w wr) (fun c _ => n - (intOf c).toNat)
 case atStart => exact ⟨0, by omega, rfl, fun j hj => absurd hj (Nat.not_lt_zero _), Below.refl _ _⟩
 case round =>
   obtain ⟨q, hq, rfl, hp, hbl⟩ := hrel
   have HP := Lib.hid hp
   have HB := Lib.hid hbl
   by_cases hlt : q < n
   · have x0 := (hbl.cell (p := ⟨b, q, none⟩) hb).trans (HC.out q hlt)
     have K := Lib.hid (HS.out _ q hlt hbl hp)
     have xl : b < wr.heap.size := Nat.lt_of_lt_of_le hb hbl.size
     clear hp hbl
     have h1 : (0 : Int) ≤ q := by omega
     have h2 : (q : Int) < n := by omega
     have HV := Lib.hid (rfl : vals q = vals q)
     generalize vals q = v at x0 K
     go_wp2_with fail
     rcases hpq : p q with _ | _
     · rw [hpq] at K
       refine Calls.mono K.out ?_
       rintro e w7 ⟨rfl, h7⟩
       have H7 := Lib.hid (HB.out.trans (h7.mono HB.out.size))
       have HQ := Lib.hid hpq
       clear h7 hpq
       go_wp2_with fail
       go_roundw
       case rel => exact ⟨q + 1, by omega, by go_num, fun j hj => (Nat.lt_succ_iff_lt_or_eq.1 hj).elim (HP.out j) (fun e => by rw [e]; exact HQ.out), H7.out⟩
       case measure => simp [intOf]; omega
     · rw [hpq] at K
       refine Calls.mono K.out ?_
       rintro e w7 ⟨rfl, h7⟩
       have H7 := Lib.hid (HB.out.trans (h7.mono HB.out.size))
       have HQ := Lib.hid (anyP_yes hlt hpq)
       clear h7 hpq
       go_wp2_with fail
       go_ret
       exact ⟨q, rfl, by rw [HQ.out]; simp, H7.out⟩
   · obtain rfl : q = n := by omega
     clear hp hbl
     go_wp2_with fail
     go_ret
     exact ⟨-1, rfl, by rw [anyP_no HP.out]; simp, HB.out⟩
theorem contains_str (n : Nat) (hn : n ≤ 100) (b cap g : Nat) (lb : Array Value) (vals : Nat → Value) (p : Nat → Bool) (w : World) (hb : b < w.heap.size)
   (eg : ∀ args W, (callFunc g args).run Tryz.prog W = .ok (.enter g args) W) (hc : ∀ i < n, w.cell? ⟨b, i, none⟩ = some (vals i))
   (hs : ∀ W i, i < n → Below w.heap.size w W → (∀ j < i, p j = false) → Calls Tryz.prog g (#[vals i] ++ lb) W fun e W' => e = .returned (.bool (p i)) ∧ Below W.heap.size W W') :
   Calls Tryz.prog 87 #[.slice (some ⟨b, 0, none⟩) n cap, .func (.func g) #[] lb] w fun e w' => e = .returned (.bool (anyP n p)) ∧ Below w.heap.size w w' := by
 have K := Lib.hid (idx_str n hn b cap g lb vals p w hb eg hc hs)
 clear hc hs eg
 go_enter Tryz.func87, Tryz.ntmps87
 go_wp2_with fail
 refine K.out.mono ?_
 rintro e w7 ⟨r, rfl, hr, h7⟩
 have H7 := Lib.hid h7
 clear h7
 obtain ⟨z, hz⟩ : ∃ z, anyP n p = z := ⟨_, rfl⟩
 rw [hz] at hr
 have HZ := Lib.hid hz
 clear hz
 go_wp2_with fail
 go_ret
 exact ⟨by rw [HZ.out]; rfl, H7.out⟩
set_option maxHeartbeats 2000000 in
theorem idx_u32 (n : Nat) (hn : n ≤ 100) (b cap g : Nat) (lb : Array Value) (vals : Nat → Value) (p : Nat → Bool) (w : World) (hb : b < w.heap.size)
   (eg : ∀ args W, (callFunc g args).run Tryz.prog W = .ok (.enter g args) W) (hc : ∀ i < n, w.cell? ⟨b, i, none⟩ = some (vals i))
   (hs : ∀ W i, i < n → Below w.heap.size w W → (∀ j < i, p j = false) → Calls Tryz.prog g (#[vals i] ++ lb) W fun e W' => e = .returned (.bool (p i)) ∧ Below W.heap.size W W') :
   Calls Tryz.prog 125 #[.slice (some ⟨b, 0, none⟩) n cap, .func (.func g) #[] lb] w fun e w' => ∃ r : Int, e = .returned (.int .i64 r) ∧ decide (0 ≤ r) = anyP n p ∧ Below w.heap.size w w' := by
 have HC := Lib.hid hc
 have HS := Lib.hid hs
 have hB := Lib.hid hb
 clear hc hs
 go_enter Tryz.func125, Tryz.ntmps125
 go_wp2_with fail
 go_loopw [8] (fun c wr => ∃ q : Nat, q ≤ n ∧ c = .int .i64 q ∧ (∀ j < q, p j = false) ∧ Below w.heap.size w wr) (fun c _ => n - (intOf c).toNat)
 case atStart => exact ⟨0, by omega, rfl, fun j hj => absurd hj (Nat.not_lt_zero _), Below.refl _ _⟩
 case round =>
   obtain ⟨q, hq, rfl, hp, hbl⟩ := hrel
   have HP := Lib.hid hp
   have HB := Lib.hid hbl
   by_cases hlt : q < n
   · have x0 := (hbl.cell (p := ⟨b, q, none⟩) hb).trans (HC.out q hlt)
     have K := Lib.hid (HS.out _ q hlt hbl hp)
     have xl : b < wr.heap.size := Nat.lt_of_lt_of_le hb hbl.size
     clear hp hbl
     have h1 : (0 : Int) ≤ q := by omega
     have h2 : (q : Int) < n := by omega
     have HV := Lib.hid (rfl : vals q = vals q)
     generalize vals q = v at x0 K
     go_wp2_with fail
     rcases hpq : p q with _ | _
     · rw [hpq] at K
       refine Calls.mono K.out ?_
       rintro e w7 ⟨rfl, h7⟩
       have H7 := Lib.hid (HB.out.trans (h7.mono HB.out.size))
       have HQ := Lib.hid hpq
       clear h7 hpq
       go_wp2_with fail
       go_roundw
       case rel => exact ⟨q + 1, by omega, by go_num, fun j hj => (Nat.lt_succ_iff_lt_or_eq.1 hj).elim (HP.out j) (fun e => by rw [e]; exact HQ.out), H7.out⟩
       case measure => simp [intOf]; omega
     · rw [hpq] at K
       refine Calls.mono K.out ?_
       rintro e w7 ⟨rfl, h7⟩
       have H7 := Lib.hid (HB.out.trans (h7.mono HB.out.size))
       have HQ := Lib.hid (anyP_yes hlt hpq)
       clear h7 hpq
       go_wp2_with fail
       go_ret
       exact ⟨q, rfl, by rw [HQ.out]; simp, H7.out⟩
   · obtain rfl : q = n := by omega
     clear hp hbl
     go_wp2_with fail
     go_ret
     exact ⟨-1, rfl, by rw [anyP_no HP.out]; simp, HB.out⟩
theorem contains_u32 (n : Nat) (hn : n ≤ 100) (b cap g : Nat) (lb : Array Value) (vals : Nat → Value) (p : Nat → Bool) (w : World) (hb : b < w.heap.size)
   (eg : ∀ args W, (callFunc g args).run Tryz.prog W = .ok (.enter g args) W) (hc : ∀ i < n, w.cell? ⟨b, i, none⟩ = some (vals i))
   (hs : ∀ W i, i < n → Below w.heap.size w W → (∀ j < i, p j = false) → Calls Tryz.prog g (#[vals i] ++ lb) W fun e W' => e = .returned (.bool (p i)) ∧ Below W.heap.size W W') :
   Calls Tryz.prog 91 #[.slice (some ⟨b, 0, none⟩) n cap, .func (.func g) #[] lb] w fun e w' => e = .returned (.bool (anyP n p)) ∧ Below w.heap.size w w' := by
 have K := Lib.hid (idx_u32 n hn b cap g lb vals p w hb eg hc hs)
 clear hc hs eg
 go_enter Tryz.func91, Tryz.ntmps91
 go_wp2_with fail
 refine K.out.mono ?_
 rintro e w7 ⟨r, rfl, hr, h7⟩
 have H7 := Lib.hid h7
 clear h7
 obtain ⟨z, hz⟩ : ∃ z, anyP n p = z := ⟨_, rfl⟩
 rw [hz] at hr
 have HZ := Lib.hid hz
 clear hz
 go_wp2_with fail
 go_ret
 exact ⟨by rw [HZ.out]; rfl, H7.out⟩
end Go.Proofs.YtmfhnhnmdeabeaaGreat.Tr
end
section
namespace Go.Proofs.YtmfhnhnmdeabeaaGreat.Tr
open Go.RowKit Go.Shelf Go.Maps Oct Path
theorem dir_any (p : Nat) (k l z a b h u : Value) (kn : Nat) (w : World) (hk : k = .int .u8 kn) (hX : SBox w p 101 #[k, l, z, a, b, h, u]) :
   Calls Tryz.prog 95 #[.pointer (some ⟨p, 0, none⟩)] w fun e w' => e = .returned (.bool (kn == 2)) ∧ w = w' := by
 subst hk
 have X0 := hX.cell 0
 simp only [List.getElem?_toArray, List.getElem?_cons_zero] at X0
 have Xl := hX.lt
 clear hX
 by_cases h2 : kn = 2
 · subst h2
   go_enter Tryz.func95, Tryz.ntmps95
   go_wp2
   go_ret
   exact ⟨rfl, rfl⟩
 · have t1 : ((kn : Int) == 2) = false := by simp; omega
   have t2 : (kn == 2) = false := by simp; omega
   rw [t2]
   go_enter Tryz.func95, Tryz.ntmps95
   go_wp2
   go_ret
   exact ⟨rfl, rfl⟩
theorem TreeAt.dir {W : World} {E : TL} {room q : Nat} {S : T} (h : TreeAt W E room q S) {x : Nat} (hk : (S.n x).kind ≠ 0) :
   Calls Tryz.prog 95 #[.pointer (some ⟨E.P x, 0, none⟩)] W fun e w' => e = .returned (.bool ((S.n x).kind == 2)) ∧ W = w' :=
 dir_any _ _ _ _ _ _ _ _ _ W rfl (h.nd x hk)
theorem names_mk (v0 : Option Addr) (v0n v0c : Nat) (w : World) : Calls Tryz.prog 47 #[.slice v0 v0n v0c] w fun e w' => e = .returned (.func (.func 86) #[] #[.pointer (some ⟨w.heap.size, 0, none⟩)]) ∧ (w.alloc (.cells #[.slice v0 v0n v0c] 75)) = w' := by
 go_enter Tryz.func47, Tryz.ntmps47
 go_wp2
 go_ret
 exact ⟨rfl, rfl⟩
theorem there_mk (v0 : Option Addr) (v1 : Option Addr) (v1n v1c : Nat) (w : World) : Calls Tryz.prog 48 #[.pointer v0, .slice v1 v1n v1c] w fun e w' => e = .returned (.func (.func 90) #[] #[.pointer (some ⟨w.heap.size + 1, 0, none⟩), .pointer (some ⟨w.heap.size, 0, none⟩)]) ∧ ((w.alloc (.cells #[.pointer v0] 27)).alloc (.cells #[.slice v1 v1n v1c] 63)) = w' := by
 go_enter Tryz.func48, Tryz.ntmps48
 go_wp2
 go_ret
 exact ⟨rfl, rfl⟩
theorem dirs_mk (v0 : Option Addr) (v1 : Option Addr) (v1n v1c : Nat) (w : World) : Calls Tryz.prog 49 #[.pointer v0, .slice v1 v1n v1c] w fun e w' => e = .returned (.func (.func 93) #[] #[.pointer (some ⟨w.heap.size + 1, 0, none⟩), .pointer (some ⟨w.heap.size, 0, none⟩)]) ∧ ((w.alloc (.cells #[.pointer v0] 27)).alloc (.cells #[.slice v1 v1n v1c] 63)) = w' := by
 go_enter Tryz.func49, Tryz.ntmps49
 go_wp2
 go_ret
 exact ⟨rfl, rfl⟩
theorem file_mk (v0 : Option Addr) (v1 : Nat) (w : World) : Calls Tryz.prog 68 #[.pointer v0, .int .u32 v1] w fun e w' => e = .returned (.func (.func 116) #[] #[.pointer (some ⟨w.heap.size, 0, none⟩), .pointer (some ⟨w.heap.size + 1, 0, none⟩)]) ∧ ((w.alloc (.cells #[.pointer v0] 27)).alloc (.cells #[.int .u32 v1] 37)) = w' := by
 go_enter Tryz.func68, Tryz.ntmps68
 go_wp2
 go_ret
 exact ⟨rfl, rfl⟩
theorem kinds_mk (v0 : Nat) (w : World) : Calls Tryz.prog 146 #[.int .u8 v0] w fun e w' => e = .returned (.func (.func 180) #[] #[.pointer (some ⟨w.heap.size, 0, none⟩)]) ∧ (w.alloc (.cells #[.int .u8 v0] 5)) = w' := by
 go_enter Tryz.func146, Tryz.ntmps146
 go_wp2
 go_ret
 exact ⟨rfl, rfl⟩
theorem paged_mk (v0 : Int) (w : World) : Calls Tryz.prog 69 #[.int .i64 v0] w fun e w' => e = .returned (.func (.func 117) #[] #[.pointer (some ⟨w.heap.size, 0, none⟩)]) ∧ (w.alloc (.cells #[.int .i64 v0] 3)) = w' := by
 go_enter Tryz.func69, Tryz.ntmps69
 go_wp2
 go_ret
 exact ⟨rfl, rfl⟩
theorem freshT_mk (v0 : Option Addr) (v1 : Nat) (v2 : ByteArray) (w : World) : Calls Tryz.prog 148 #[.pointer v0, .int .u32 v1, .string v2] w fun e w' => e = .returned (.func (.func 181) #[] #[.pointer (some ⟨w.heap.size, 0, none⟩), .pointer (some ⟨w.heap.size + 1, 0, none⟩), .pointer (some ⟨w.heap.size + 1 + 1, 0, none⟩)]) ∧ (((w.alloc (.cells #[.pointer v0] 27)).alloc (.cells #[.int .u32 v1] 37)).alloc (.cells #[.string v2] 9)) = w' := by
 go_enter Tryz.func148, Tryz.ntmps148
 go_wp2
 go_ret
 exact ⟨rfl, rfl⟩
theorem names11_any (s : ByteArray) (w : World) (hs : s.size ≤ maxLen) : Calls Tryz.prog 88 #[.string s] w fun e w' => e = .returned (.bool (!isName (L s))) ∧ Below w.heap.size w w' := by
 have K := Lib.hid (name_any s w hs)
 unfold nameE at K
 go_enter Tryz.func88, Tryz.ntmps88
 rcases hz : isName (L s) with _ | _
 all_goals
   rw [hz] at K
   clear hz
   simp only [Bool.false_eq_true, if_true, if_false] at K
   go_wp2_with fail
   refine K.out.mono ?_
   rintro e w7 ⟨rfl, h7⟩
   have H7 := Lib.hid h7
   clear h7
   go_wp2_with fail
   go_ret
   exact ⟨rfl, H7.out⟩
theorem names1_any (p b n cap : Nat) (ss : Nat → ByteArray) (w : World) (hn : n ≤ 100) (hX : SBox w p 75 #[.slice (some ⟨b, 0, none⟩) n cap]) (hb : b < w.heap.size) (hc : ∀ i < n, w.cell? ⟨b, i, none⟩ = some (.string (ss i))) (hs : ∀ i < n, (ss i).size ≤ maxLen) :
   Calls Tryz.prog 86 #[.pointer (some ⟨p, 0, none⟩)] w fun e w' => e = .returned (.int .i64 (if anyP n (fun i => !isName (L (ss i))) then (2 : Nat) else 0 : Nat)) ∧ Below w.heap.size w w' := by
 have X0 := hX.cell 0
 simp only [List.getElem?_toArray, List.getElem?_cons_zero] at X0
 have Xl := hX.lt
 have K := Lib.hid (contains_str n hn b cap 88 #[] (fun i => .string (ss i)) (fun i => !isName (L (ss i))) w hb (enters_of Tryz.func88 (by kernel_rfl) rfl) hc
   (fun W i hi _ _ => names11_any (ss i) W (hs i hi)))
 clear hX hc hs
 generalize anyP n (fun i => !isName (L (ss i))) = z at K ⊢
 go_enter Tryz.func86, Tryz.ntmps86
 go_wp2_with fail
 refine K.out.mono ?_
 rintro e w7 ⟨rfl, h7⟩
 have H7 := Lib.hid h7
 clear h7
 cases z
 · go_wp2_with fail
   refine (as_no 2 _).mono ?_
   rintro e w8 ⟨rfl, rfl⟩
   go_wp2_with fail
   go_ret
   exact ⟨rfl, H7.out⟩
 · go_wp2_with fail
   refine (as_yes 2 _).mono ?_
   rintro e w8 ⟨rfl, rfl⟩
   go_wp2_with fail
   go_ret
   exact ⟨rfl, H7.out⟩
variable {E : TL} {room q : Nat} {S : T}
theorem there11_any (tb x : Nat) (w : World) (hT : TreeAt w E room q S) (hX : SBox w tb 27 #[.pointer (some ⟨E.t, 0, none⟩)]) (hx : x < 4294967296) :
   Calls Tryz.prog 92 #[.int .u32 x, .pointer (some ⟨tb, 0, none⟩)] w fun e w' => e = .returned (.bool ((S.n x).kind == 0)) ∧ Below w.heap.size w w' := by
 have X0 := hX.cell 0
 simp only [List.getElem?_toArray, List.getElem?_cons_zero, List.getElem?_cons_succ] at X0
 have Xl := hX.lt
 have hY := hT.top
 have Y0 := hY.cell 0
 have Y1 := hY.cell 1
 simp only [List.getElem?_toArray, List.getElem?_cons_zero, List.getElem?_cons_succ] at Y0 Y1
 have Yl := hY.lt
 clear hX hY
 by_cases hk : (S.n x).kind = 0
 · have LK := hT.look_no hx hk
   rw [hk]
   clear hT hk
   go_enter Tryz.func92, Tryz.ntmps92
   go_wp2
   go_ret
   exact ⟨rfl, Below.refl _ _⟩
 · have LK := hT.look_is hx hk
   have t2 : ((S.n x).kind == 0) = false := by simpa using hk
   rw [t2]
   clear hT hk t2
   go_enter Tryz.func92, Tryz.ntmps92
   go_wp2
   go_ret
   exact ⟨rfl, Below.refl _ _⟩
theorem dirs11_any (tb x : Nat) (w : World) (hT : TreeAt w E room q S) (hX : SBox w tb 27 #[.pointer (some ⟨E.t, 0, none⟩)]) (hx : x < 4294967296) (hk : (S.n x).kind ≠ 0) :
   Calls Tryz.prog 94 #[.int .u32 x, .pointer (some ⟨tb, 0, none⟩)] w fun e w' => e = .returned (.bool (!((S.n x).kind == 2))) ∧ Below w.heap.size w w' := by
 have X0 := hX.cell 0
 simp only [List.getElem?_toArray, List.getElem?_cons_zero, List.getElem?_cons_succ] at X0
 have Xl := hX.lt
 have hY := hT.top
 have Y0 := hY.cell 0
 have Y1 := hY.cell 1
 simp only [List.getElem?_toArray, List.getElem?_cons_zero, List.getElem?_cons_succ] at Y0 Y1
 have Yl := hY.lt
 clear hX hY
 have LK := hT.look_is hx hk
 have D := Lib.hid (hT.dir hk)
 generalize ((S.n x).kind == 2) = z at D ⊢
 clear hT hk
 go_enter Tryz.func94, Tryz.ntmps94
 go_wp2_with fail
 refine D.out.mono ?_
 rintro e w8 ⟨rfl, rfl⟩
 go_wp2_with fail
 go_ret
 exact ⟨rfl, Below.refl _ _⟩
theorem there1_any (lb tb b n cap : Nat) (xs : Nat → Nat) (w : World) (hn : n ≤ 100) (hT : TreeAt w E room q S) (hX : SBox w lb 63 #[.slice (some ⟨b, 0, none⟩) n cap]) (hY : SBox w tb 27 #[.pointer (some ⟨E.t, 0, none⟩)]) (hb : b < w.heap.size) (hc : ∀ i < n, w.cell? ⟨b, i, none⟩ = some (.int .u32 (xs i))) (hs : ∀ i < n, xs i < 4294967296) :
   Calls Tryz.prog 90 #[.pointer (some ⟨lb, 0, none⟩), .pointer (some ⟨tb, 0, none⟩)] w fun e w' => e = .returned (.int .i64 (if anyP n (fun i => (S.n (xs i)).kind == 0) then (3 : Nat) else 0 : Nat)) ∧ Below w.heap.size w w' := by
 have X0 := hX.cell 0
 simp only [List.getElem?_toArray, List.getElem?_cons_zero, List.getElem?_cons_succ] at X0
 have Xl := hX.lt
 have K := Lib.hid (contains_u32 n hn b cap 92 #[.pointer (some ⟨tb, 0, none⟩)] (fun i => .int .u32 (xs i)) (fun i => (S.n (xs i)).kind == 0) w hb (enters_of Tryz.func92 (by kernel_rfl) rfl) hc
   (fun W i hi hB _ => there11_any tb (xs i) W (hT.later hB) (hY.later hB) (hs i hi)))
 clear hX hc hs hT hY
 generalize anyP n (fun i => (S.n (xs i)).kind == 0) = z at K ⊢
 go_enter Tryz.func90, Tryz.ntmps90
 go_wp2_with fail
 refine K.out.mono ?_
 rintro e w7 ⟨rfl, h7⟩
 have H7 := Lib.hid h7
 clear h7
 cases z
 · go_wp2_with fail
   refine (as_no 3 _).mono ?_
   rintro e w8 ⟨rfl, rfl⟩
   go_wp2_with fail
   go_ret
   exact ⟨rfl, H7.out⟩
 · go_wp2_with fail
   refine (as_yes 3 _).mono ?_
   rintro e w8 ⟨rfl, rfl⟩
   go_wp2_with fail
   go_ret
   exact ⟨rfl, H7.out⟩
theorem dirs1_any (lb tb b n cap : Nat) (xs : Nat → Nat) (w : World) (hn : n ≤ 100) (hT : TreeAt w E room q S) (hX : SBox w lb 63 #[.slice (some ⟨b, 0, none⟩) n cap]) (hY : SBox w tb 27 #[.pointer (some ⟨E.t, 0, none⟩)]) (hb : b < w.heap.size) (hc : ∀ i < n, w.cell? ⟨b, i, none⟩ = some (.int .u32 (xs i))) (hs : ∀ i < n, xs i < 4294967296) (hk : ∀ i < n, (S.n (xs i)).kind ≠ 0) :
   Calls Tryz.prog 93 #[.pointer (some ⟨lb, 0, none⟩), .pointer (some ⟨tb, 0, none⟩)] w fun e w' => e = .returned (.int .i64 (if anyP n (fun i => !((S.n (xs i)).kind == 2)) then (180 : Nat) else 0 : Nat)) ∧ Below w.heap.size w w' := by
 have X0 := hX.cell 0
 simp only [List.getElem?_toArray, List.getElem?_cons_zero, List.getElem?_cons_succ] at X0
 have Xl := hX.lt
 have K := Lib.hid (contains_u32 n hn b cap 94 #[.pointer (some ⟨tb, 0, none⟩)] (fun i => .int .u32 (xs i)) (fun i => !((S.n (xs i)).kind == 2)) w hb (enters_of Tryz.func94 (by kernel_rfl) rfl) hc
   (fun W i hi hB _ => dirs11_any tb (xs i) W (hT.later hB) (hY.later hB) (hs i hi) (hk i hi)))
 clear hX hc hs hT hY
 generalize anyP n (fun i => !((S.n (xs i)).kind == 2)) = z at K ⊢
 go_enter Tryz.func93, Tryz.ntmps93
 go_wp2_with fail
 refine K.out.mono ?_
 rintro e w7 ⟨rfl, h7⟩
 have H7 := Lib.hid h7
 clear h7
 cases z
 · go_wp2_with fail
   refine (as_no 180 _).mono ?_
   rintro e w8 ⟨rfl, rfl⟩
   go_wp2_with fail
   go_ret
   exact ⟨rfl, H7.out⟩
 · go_wp2_with fail
   refine (as_yes 180 _).mono ?_
   rintro e w8 ⟨rfl, rfl⟩
   go_wp2_with fail
   go_ret
   exact ⟨rfl, H7.out⟩
end Go.Proofs.YtmfhnhnmdeabeaaGreat.Tr
end
section
namespace Go.Proofs.YtmfhnhnmdeabeaaGreat.Tr
open Go.RowKit Go.Shelf Go.Maps Oct Path
theorem below_n {n k : Nat} {w : World} : Below n w (w.drewN k) := below_drewN' (Below.refl n w) k
theorem turn {P : Program} {f : FuncId} {args : Array Value} {w : World} {v : Value} (h : Calls P f args w fun e w' => e = .returned v ∧ w = w') : Calls P f args w fun e w' => e = .returned v ∧ w' = w := h.mono fun _ _ h => ⟨h.1, h.2.symm⟩
theorem TreeAt.drewN {W : World} {E : TL} {room q : Nat} {S : T} (h : TreeAt W E room q S) (n : Nat) : TreeAt (W.drewN n) E room q S := h.blocks fun _ _ _ => rfl
def errB (b : Bool) (e : Nat) : Nat := if b then e else 0
variable {E : TL} {room q : Nat} {S : T}
set_option maxHeartbeats 2000000 in
theorem file1_any (a b x : Nat) (hx : x < 4294967296) (hk : (S.n x).kind ≠ 0) (w : World) (hT : TreeAt w E room q S) (ha : SBox w a 27 #[.pointer (some ⟨E.t, 0, none⟩)]) (hb : SBox w b 37 #[.int .u32 x]) :
   Calls Tryz.prog 116 #[.pointer (some ⟨a, 0, none⟩), .pointer (some ⟨b, 0, none⟩)] w fun e w' => e = .returned (.int .i64 (errB ((S.n x).kind == 2) 181 : Nat)) ∧ Below w.heap.size w w' := by
 have A0 := ha.cell 0
 simp only [List.getElem?_toArray, List.getElem?_cons_zero] at A0
 have Al := ha.lt
 have B0 := hb.cell 0
 simp only [List.getElem?_toArray, List.getElem?_cons_zero] at B0
 have Bl := hb.lt
 have hY := hT.top
 have Y0 := hY.cell 0
 have Y1 := hY.cell 1
 simp only [List.getElem?_toArray, List.getElem?_cons_zero, List.getElem?_cons_succ] at Y0 Y1
 have Yl := hY.lt
 clear hY
 clear ha hb
 have LK := fun n => (hT.drewN n).look_is hx hk
 have D := Lib.hid (fun n => (hT.drewN n).dir hk)
 rcases hb : (S.n x).kind == 2 with _ | _
 · rw [hb] at D
   try rw [hb]
   clear hT
   try clear hb
   go_enter Tryz.func116, Tryz.ntmps116
   go_wp2_with fail
   go_quiet ((first | (go_at_call 95; exact Calls.quiet_of_same (turn (D.out _))) | (go_at_call 51; exact Calls.quiet_of_same (turn (as_no _ _)))))
   go_wp2_with fail
   go_ret
   exact ⟨rfl, below_n⟩
 · rw [hb] at D
   try rw [hb]
   clear hT
   try clear hb
   go_enter Tryz.func116, Tryz.ntmps116
   go_wp2_with fail
   go_quiet ((first | (go_at_call 95; exact Calls.quiet_of_same (turn (D.out _))) | (go_at_call 51; exact Calls.quiet_of_same (turn (as_yes _ _)))))
   go_wp2_with fail
   go_ret
   exact ⟨rfl, below_n⟩
set_option maxHeartbeats 2000000 in
theorem kinds1_any (a k : Nat) (w : World) (ha : SBox w a 5 #[.int .u8 k]) :
   Calls Tryz.prog 180 #[.pointer (some ⟨a, 0, none⟩)] w fun e w' => e = .returned (.int .i64 (errB (k != 1 && k != 2) 2 : Nat)) ∧ Below w.heap.size w w' := by
 have A0 := ha.cell 0
 simp only [List.getElem?_toArray, List.getElem?_cons_zero] at A0
 have Al := ha.lt
 clear ha
 rcases (by omega : k = 1 ∨ k = 2 ∨ (k ≠ 1 ∧ k ≠ 2)) with h1 | h2 | ⟨h1, h2⟩
 · subst h1
   have hb : ((1 : Nat) != 1 && (1 : Nat) != 2) = false := rfl
   try rw [hb]
       try clear hb
   go_enter Tryz.func180, Tryz.ntmps180
   go_wp2_with fail
   refine (as_no 2 _).mono ?_
   rintro e w8 ⟨rfl, rfl⟩
   go_wp2_with fail
   go_ret
   exact ⟨rfl, Below.refl _ _⟩
 · subst h2
   have hb : ((2 : Nat) != 1 && (2 : Nat) != 2) = false := rfl
   try rw [hb]
       try clear hb
   go_enter Tryz.func180, Tryz.ntmps180
   go_wp2_with fail
   refine (as_no 2 _).mono ?_
   rintro e w8 ⟨rfl, rfl⟩
   go_wp2_with fail
   go_ret
   exact ⟨rfl, Below.refl _ _⟩
 · have hb : (k != 1 && k != 2) = true := by simp [h1, h2]
   have t1 : ((k : Int) != 1) = true := by simp; omega
   have t2 : ((k : Int) != 2) = true := by simp; omega
   try rw [hb]
       try clear hb
   go_enter Tryz.func180, Tryz.ntmps180
   go_wp2_with fail
   refine (as_yes 2 _).mono ?_
   rintro e w8 ⟨rfl, rfl⟩
   go_wp2_with fail
   go_ret
   exact ⟨rfl, Below.refl _ _⟩
set_option maxHeartbeats 2000000 in
theorem fresh1_any (a b c x : Nat) (s : ByteArray) (hs : s.size ≤ maxLen) (hx : x < 4294967296) (hk : (S.n x).kind ≠ 0) (w : World) (hT : TreeAt w E room q S) (ha : SBox w a 27 #[.pointer (some ⟨E.t, 0, none⟩)]) (hb : SBox w b 37 #[.int .u32 x]) (hc : SBox w c 9 #[.string s]) :
   Calls Tryz.prog 181 #[.pointer (some ⟨a, 0, none⟩), .pointer (some ⟨b, 0, none⟩), .pointer (some ⟨c, 0, none⟩)] w fun e w' => e = .returned (.int .i64 (errB (S.l x (L s) != 0) 9 : Nat)) ∧ Below w.heap.size w w' := by
 have A0 := ha.cell 0
 simp only [List.getElem?_toArray, List.getElem?_cons_zero] at A0
 have Al := ha.lt
 have B0 := hb.cell 0
 simp only [List.getElem?_toArray, List.getElem?_cons_zero] at B0
 have Bl := hb.lt
 have C0 := hc.cell 0
 simp only [List.getElem?_toArray, List.getElem?_cons_zero] at C0
 have Cl := hc.lt
 have hY := hT.top
 have Y0 := hY.cell 0
 have Y1 := hY.cell 1
 simp only [List.getElem?_toArray, List.getElem?_cons_zero, List.getElem?_cons_succ] at Y0 Y1
 have Yl := hY.lt
 clear hY
 clear ha hb hc
 have LK := fun n => (hT.drewN n).look_is hx hk
 have EN := fun n => (hT.drewN n).entry hk hs
 have hZ := hT.nd x hk
 have Z0 := hZ.cell 0
 have Z1 := hZ.cell 1
 have Z2 := hZ.cell 2
 have Z3 := hZ.cell 3
 have Z4 := hZ.cell 4
 have Z5 := hZ.cell 5
 have Z6 := hZ.cell 6
 simp only [List.getElem?_toArray, List.getElem?_cons_zero, List.getElem?_cons_succ] at Z0 Z1 Z2 Z3 Z4 Z5 Z6
 have Zl := hZ.lt
 clear hZ hk
 by_cases h0 : S.l x (L s) = 0
 · simp only [show s.data.toList = L s from rfl, h0] at EN
   have hb : (S.l x (L s) != 0) = false := by simp [h0]
   clear h0
   try rw [hb]
   clear hT
   try clear hb
   go_enter Tryz.func181, Tryz.ntmps181
   go_wp2_with fail
   go_quiet ((first | (go_at_call 51; exact Calls.quiet_of_same (turn (as_no _ _)))))
   go_wp2_with fail
   go_ret
   exact ⟨rfl, below_n⟩
 · simp only [show s.data.toList = L s from rfl] at EN
   have hb : (S.l x (L s) != 0) = true := by simpa using h0
   generalize S.l x (L s) = z at *
   have t1 : ((z : Int) != 0) = true := by simp; omega
   try rw [hb]
   clear hT
   try clear hb
   go_enter Tryz.func181, Tryz.ntmps181
   go_wp2_with fail
   go_quiet ((first | (go_at_call 51; exact Calls.quiet_of_same (turn (as_yes _ _)))))
   go_wp2_with fail
   go_ret
   exact ⟨rfl, below_n⟩
set_option maxHeartbeats 2000000 in
theorem make2_any (a b x : Nat) (hx : x < 4294967296) (w : World) (hT : TreeAt w E room q S) (ha : SBox w a 27 #[.pointer (some ⟨E.t, 0, none⟩)]) (hb : SBox w b 37 #[.int .u32 x]) :
   Calls Tryz.prog 149 #[.pointer (some ⟨a, 0, none⟩), .pointer (some ⟨b, 0, none⟩)] w fun e w' => e = .returned (.int .i64 (errB ((S.n x).kind != 0) 9 : Nat)) ∧ Below w.heap.size w w' := by
 have A0 := ha.cell 0
 simp only [List.getElem?_toArray, List.getElem?_cons_zero] at A0
 have Al := ha.lt
 have B0 := hb.cell 0
 simp only [List.getElem?_toArray, List.getElem?_cons_zero] at B0
 have Bl := hb.lt
 have hY := hT.top
 have Y0 := hY.cell 0
 have Y1 := hY.cell 1
 simp only [List.getElem?_toArray, List.getElem?_cons_zero, List.getElem?_cons_succ] at Y0 Y1
 have Yl := hY.lt
 clear hY
 clear ha hb
 by_cases h0 : (S.n x).kind = 0
 · have LK := fun n => (hT.drewN n).look_no hx h0
   have hb : ((S.n x).kind != 0) = false := by simp [h0]
   clear h0
   try rw [hb]
   clear hT
   try clear hb
   go_enter Tryz.func149, Tryz.ntmps149
   go_wp2_with fail
   go_quiet ((first | (go_at_call 51; exact Calls.quiet_of_same (turn (as_no _ _)))))
   go_wp2_with fail
   go_ret
   exact ⟨rfl, below_n⟩
 · have LK := fun n => (hT.drewN n).look_is hx h0
   have hb : ((S.n x).kind != 0) = true := by simpa using h0
   clear h0
   try rw [hb]
   clear hT
   try clear hb
   go_enter Tryz.func149, Tryz.ntmps149
   go_wp2_with fail
   go_quiet ((first | (go_at_call 51; exact Calls.quiet_of_same (turn (as_yes _ _)))))
   go_wp2_with fail
   go_ret
   exact ⟨rfl, below_n⟩
set_option maxHeartbeats 2000000 in
theorem link1_any (a b x : Nat) (hx : x < 4294967296) (hk : (S.n x).kind ≠ 0) (w : World) (hT : TreeAt w E room q S) (ha : SBox w a 27 #[.pointer (some ⟨E.t, 0, none⟩)]) (hb : SBox w b 37 #[.int .u32 x]) :
   Calls Tryz.prog 151 #[.pointer (some ⟨a, 0, none⟩), .pointer (some ⟨b, 0, none⟩)] w fun e w' => e = .returned (.int .i64 (errB (decide (200 ≤ (S.n x).links)) 184 : Nat)) ∧ Below w.heap.size w w' := by
 have A0 := ha.cell 0
 simp only [List.getElem?_toArray, List.getElem?_cons_zero] at A0
 have Al := ha.lt
 have B0 := hb.cell 0
 simp only [List.getElem?_toArray, List.getElem?_cons_zero] at B0
 have Bl := hb.lt
 have hY := hT.top
 have Y0 := hY.cell 0
 have Y1 := hY.cell 1
 simp only [List.getElem?_toArray, List.getElem?_cons_zero, List.getElem?_cons_succ] at Y0 Y1
 have Yl := hY.lt
 clear hY
 clear ha hb
 have LK := fun n => (hT.drewN n).look_is hx hk
 have hZ := hT.nd x hk
 have Z0 := hZ.cell 0
 have Z1 := hZ.cell 1
 have Z2 := hZ.cell 2
 have Z3 := hZ.cell 3
 have Z4 := hZ.cell 4
 have Z5 := hZ.cell 5
 have Z6 := hZ.cell 6
 simp only [List.getElem?_toArray, List.getElem?_cons_zero, List.getElem?_cons_succ] at Z0 Z1 Z2 Z3 Z4 Z5 Z6
 have Zl := hZ.lt
 clear hZ hk
 obtain ⟨l, hl⟩ : ∃ l, (S.n x).links = l := ⟨_, rfl⟩
 rw [hl] at Z1 ⊢
 clear hl
 by_cases h0 : 200 ≤ l
 · have hb : decide (200 ≤ l) = true := by simpa using h0
   have t1 : decide ((200 : Int) ≤ l) = true := by simp; omega
   clear h0
   try rw [hb]
   clear hT
   try clear hb
   go_enter Tryz.func151, Tryz.ntmps151
   go_wp2_with fail
   go_quiet ((first | (go_at_call 51; exact Calls.quiet_of_same (turn (as_yes _ _)))))
   go_wp2_with fail
   go_ret
   exact ⟨rfl, below_n⟩
 · have hb : decide (200 ≤ l) = false := by simpa using h0
   have t1 : decide ((200 : Int) ≤ l) = false := by simp; omega
   clear h0
   try rw [hb]
   clear hT
   try clear hb
   go_enter Tryz.func151, Tryz.ntmps151
   go_wp2_with fail
   go_quiet ((first | (go_at_call 51; exact Calls.quiet_of_same (turn (as_no _ _)))))
   go_wp2_with fail
   go_ret
   exact ⟨rfl, below_n⟩
set_option maxHeartbeats 2000000 in
theorem drop1_any (a b x : Nat) (hx : x < 4294967296) (hk : (S.n x).kind ≠ 0) (w : World) (hT : TreeAt w E room q S) (ha : SBox w a 27 #[.pointer (some ⟨E.t, 0, none⟩)]) (hb : SBox w b 37 #[.int .u32 x]) :
   Calls Tryz.prog 65 #[.pointer (some ⟨a, 0, none⟩), .pointer (some ⟨b, 0, none⟩)] w fun e w' => e = .returned (.int .i64 (errB ((S.n x).held == 0) 3 : Nat)) ∧ Below w.heap.size w w' := by
 have A0 := ha.cell 0
 simp only [List.getElem?_toArray, List.getElem?_cons_zero] at A0
 have Al := ha.lt
 have B0 := hb.cell 0
 simp only [List.getElem?_toArray, List.getElem?_cons_zero] at B0
 have Bl := hb.lt
 have hY := hT.top
 have Y0 := hY.cell 0
 have Y1 := hY.cell 1
 simp only [List.getElem?_toArray, List.getElem?_cons_zero, List.getElem?_cons_succ] at Y0 Y1
 have Yl := hY.lt
 clear hY
 clear ha hb
 have LK := fun n => (hT.drewN n).look_is hx hk
 have hZ := hT.nd x hk
 have Z0 := hZ.cell 0
 have Z1 := hZ.cell 1
 have Z2 := hZ.cell 2
 have Z3 := hZ.cell 3
 have Z4 := hZ.cell 4
 have Z5 := hZ.cell 5
 have Z6 := hZ.cell 6
 simp only [List.getElem?_toArray, List.getElem?_cons_zero, List.getElem?_cons_succ] at Z0 Z1 Z2 Z3 Z4 Z5 Z6
 have Zl := hZ.lt
 clear hZ hk
 obtain ⟨l, hl⟩ : ∃ l, (S.n x).held = l := ⟨_, rfl⟩
 rw [hl] at Z5 ⊢
 clear hl
 by_cases h0 : l = 0
 · subst h0
   have hb : ((0 : Nat) == 0) = true := rfl
   try rw [hb]
   clear hT
   try clear hb
   go_enter Tryz.func65, Tryz.ntmps65
   go_wp2_with fail
   go_quiet ((first | (go_at_call 51; exact Calls.quiet_of_same (turn (as_yes _ _)))))
   go_wp2_with fail
   go_ret
   exact ⟨rfl, below_n⟩
 · have hb : (l == 0) = false := by simpa using h0
   have t1 : ((l : Int) == 0) = false := by simp; omega
   clear h0
   try rw [hb]
   clear hT
   try clear hb
   go_enter Tryz.func65, Tryz.ntmps65
   go_wp2_with fail
   go_quiet ((first | (go_at_call 51; exact Calls.quiet_of_same (turn (as_no _ _)))))
   go_wp2_with fail
   go_ret
   exact ⟨rfl, below_n⟩
set_option maxHeartbeats 2000000 in
theorem resize1_any (a z : Nat) (w : World) (ha : SBox w a 37 #[.int .u32 z]) :
   Calls Tryz.prog 158 #[.pointer (some ⟨a, 0, none⟩)] w fun e w' => e = .returned (.int .i64 (errB (decide (2304 < z)) 2 : Nat)) ∧ Below w.heap.size w w' := by
 have A0 := ha.cell 0
 simp only [List.getElem?_toArray, List.getElem?_cons_zero] at A0
 have Al := ha.lt
 clear ha
 by_cases h0 : 2304 < z
 · have hb : decide (2304 < z) = true := by simpa using h0
   have t1 : decide ((2304 : Int) < z) = true := by simp; omega
   clear h0
   try rw [hb]
       try clear hb
   go_enter Tryz.func158, Tryz.ntmps158
   go_wp2_with fail
   refine (as_yes 2 _).mono ?_
   rintro e w8 ⟨rfl, rfl⟩
   go_wp2_with fail
   go_ret
   exact ⟨rfl, Below.refl _ _⟩
 · have hb : decide (2304 < z) = false := by simpa using h0
   have t1 : decide ((2304 : Int) < z) = false := by simp; omega
   clear h0
   try rw [hb]
       try clear hb
   go_enter Tryz.func158, Tryz.ntmps158
   go_wp2_with fail
   refine (as_no 2 _).mono ?_
   rintro e w8 ⟨rfl, rfl⟩
   go_wp2_with fail
   go_ret
   exact ⟨rfl, Below.refl _ _⟩
set_option maxHeartbeats 2000000 in
theorem paged1_any (a : Nat) (z : Int) (w : World) (ha : SBox w a 3 #[.int .i64 z]) :
   Calls Tryz.prog 117 #[.pointer (some ⟨a, 0, none⟩)] w fun e w' => e = .returned (.int .i64 (errB (decide (z < 0) || decide (36 ≤ z)) 2 : Nat)) ∧ Below w.heap.size w w' := by
 have A0 := ha.cell 0
 simp only [List.getElem?_toArray, List.getElem?_cons_zero] at A0
 have Al := ha.lt
 clear ha
 rcases (by omega : z < 0 ∨ (¬ z < 0 ∧ 36 ≤ z) ∨ (¬ z < 0 ∧ ¬ 36 ≤ z)) with h1 | ⟨h1, h2⟩ | ⟨h1, h2⟩
 · have t1 : decide (z < 0) = true := by simpa using h1
   have hb : (decide (z < 0) || decide (36 ≤ z)) = true := by simp [h1]
   clear h1
   try rw [hb]
       try clear hb
   go_enter Tryz.func117, Tryz.ntmps117
   go_wp2_with fail
   refine (as_yes 2 _).mono ?_
   rintro e w8 ⟨rfl, rfl⟩
   go_wp2_with fail
   go_ret
   exact ⟨rfl, Below.refl _ _⟩
 · have t1 : decide (z < 0) = false := by simpa using h1
   have t2 : decide (36 ≤ z) = true := by simpa using h2
   have hb : (decide (z < 0) || decide (36 ≤ z)) = true := by simp [h2]
   clear h1 h2
   try rw [hb]
       try clear hb
   go_enter Tryz.func117, Tryz.ntmps117
   go_wp2_with fail
   refine (as_yes 2 _).mono ?_
   rintro e w8 ⟨rfl, rfl⟩
   go_wp2_with fail
   go_ret
   exact ⟨rfl, Below.refl _ _⟩
 · have t1 : decide (z < 0) = false := by simpa using h1
   have t2 : decide (36 ≤ z) = false := by simpa using h2
   have hb : (decide (z < 0) || decide (36 ≤ z)) = false := by rw [t1, t2]; rfl
   clear h1 h2
   try rw [hb]
       try clear hb
   go_enter Tryz.func117, Tryz.ntmps117
   go_wp2_with fail
   refine (as_no 2 _).mono ?_
   rintro e w8 ⟨rfl, rfl⟩
   go_wp2_with fail
   go_ret
   exact ⟨rfl, Below.refl _ _⟩
end Go.Proofs.YtmfhnhnmdeabeaaGreat.Tr
end
section
namespace Go.Proofs.YtmfhnhnmdeabeaaGreat
open Go.RowKit Go.Shelf
theorem wp_region_phi3 {P : Program} {ops : Array Oper} {Q : Exit → Act → World → Prop} {id : Nat} {a0 : Act} {w0 : World} (hm : P.follows .mixedOrders = true)
   (d : Nat → Option Tmp) (A : Act → Prop) (G : (Nat → Bool) → World → Prop) (Gr : Nat → World → World → Prop) (Ψ : Nat → (Nat → Value) → World → Prop)
   (hchk : upward ops = true)
   (hst : ∀ i j f w w', i < ops.size → j < ops.size → i ≠ j → waitsT ops j i = false → Ψ j f w → Gr i w w' → Ψ j f w')
   (hdep : ∀ j f g w, j < ops.size → (∀ k, k < ops.size → (k = j ∨ waitsT ops j k = true) → f k = g k) → Ψ j f w → Ψ j g w)
   (hdc : apartD d ops.size = true)
   (hA : ∀ i a v, i < ops.size → A a → A (a.put (d i) v) ∧ ∀ t, d i = some t → t < a.tmps.size)
   (a0A : A a0) (w0G : G (fun _ => false) w0.drew)
   (step : ∀ i a w lst, i < ops.size → A a → lst i = false → (∀ j k, j < ops.size → lst j = true → waitsT ops j k = true → lst k = true) → G lst w → (∀ j, waits ops i j = true → Ψ j (fun k => slotOf a (d k)) w) → wpOp P ops Q i (fun a' w' => ∃ v, a' = a.put (d i) v ∧ G (fun j => if j = i then true else lst j) w' ∧ Gr i w w' ∧ Ψ i (fun k => if k = i then (if (d i).isSome then v else undef) else slotOf a (d k)) w') a w)
   (done : ∀ a w lst, (∀ j, j < ops.size → lst j = true) → A a → G lst w → (∀ j, j < ops.size → Ψ j (fun k => slotOf a (d k)) w) → Q .normal a w) :
   (Code.region id ops true).wp P Q a0 w0 := by
 refine wp_region_any hm ?_
 have hw : ∀ i j, waits ops i j = true → j < ops.size := fun i j h => by have := waits_lt hchk h; omega
 have hall := ready_all hchk
 have hd := apartD_spec hdc
 have key : ∀ fuel (L : Array Bool) (a : Act) (w : World), L.size = ops.size → (L.toList.filter (!·)).length ≤ fuel → (∀ i j, L.getD i false = true → waits ops i j = true → L.getD j false = true) → A a → G (fun j => L.getD j false) w → (∀ j, j < ops.size → L.getD j false = true → Ψ j (fun k => slotOf a (d k)) w) → wpAny P .any ops Q fuel L a w := by
   intro fuel
   induction fuel with
   | zero =>
     intro L a w hL hc hcl ha hg hp
     have hr : Region.ready .any ops L = [] := by
       rw [List.eq_nil_iff_forall_not_mem]
       intro i hi
       have h1 := (mem_ready.1 hi).1
       have := count_set L i h1
       omega
     exact ⟨hr, done a w _ (hall L hL hr) ha hg fun j hj => hp j hj (hall L hL hr j hj)⟩
   | succ fuel ih =>
     intro L a w hL hc hcl ha hg hp
     refine ⟨fun hr => done a w _ (hall L hL hr) ha hg fun j hj => hp j hj (hall L hL hr j hj), fun i hi => ?_⟩
     obtain ⟨h1, o, ho, haft⟩ := mem_ready.1 hi
     have hin : i < ops.size := (Array.getElem?_eq_some_iff.1 ho).1
     have hiL : i < L.size := by omega
     have hli : L.getD i false = false := by
       simp only [Array.getD, hiL, dif_pos] at h1 ⊢
       exact h1
     have hwl : ∀ j, waits ops i j = true → L.getD j false = true := fun j hj => by
       unfold waits at hj
       rw [ho] at hj
       simp only [Option.map_some, Option.getD_some] at hj
       obtain ⟨e, he, he2⟩ := Array.any_eq_true'.1 hj
       simp only [Bool.and_eq_true, beq_iff_eq] at he2
       rw [← he2.1]
       exact haft e he he2.2
     have hset : ∀ j, (L.setIfInBounds i true).getD j false = if j = i then true else L.getD j false := fun j => by
       rw [Array.getD_eq_getD_getElem?, Array.getD_eq_getD_getElem?]
       by_cases hji : j = i
       · subst hji
         rw [if_pos rfl, Array.getElem?_setIfInBounds_self_of_lt hiL]; rfl
       · rw [if_neg hji, Array.getElem?_setIfInBounds_ne (Ne.symm hji)]
     refine wpOp_mono ?_ (step i a w _ hin ha hli (fun j k hj h1 h2 => waitsT_closed (fun j => L.getD j false) hcl j hj k h2 h1) hg fun j hj => hp j (hw i j hj) (hwl j hj))
     rintro a' w' ⟨v, rfl, g', gr, ps⟩
     obtain ⟨hA1, hA2⟩ := hA i a v hin ha
     refine ih _ _ _ (by simpa using hL) (by have := count_set L i h1; omega) ?_ hA1 (by simpa only [hset] using g') fun j hj hjl => ?_
     · intro k j hk hkj
       rw [hset] at hk ⊢
       by_cases hki : k = i
       · subst hki
         rw [hwl j hkj]
         split <;> rfl
       · rw [if_neg hki] at hk
         rw [hcl k j hk hkj]
         split <;> rfl
     have oth : ∀ k, k < ops.size → k ≠ i → slotOf (a.put (d i) v) (d k) = slotOf a (d k) := fun k hk hki => by
       cases hdk : d k with
       | none => rfl
       | some t =>
         cases hdi : d i with
         | none => rfl
         | some u =>
           have hne : u ≠ t := fun q => hd i k hin hk (Ne.symm hki) u hdi (by rw [hdk, q])
           simp only [slotOf, Act.put]
           rw [Array.getD_eq_getD_getElem?, Array.getD_eq_getD_getElem?, Array.getElem?_setIfInBounds_ne hne]
     by_cases hji : j = i
     · subst hji
       refine hdep j _ _ _ hj (fun k hk _ => ?_) ps
       by_cases hkj : k = j
       · subst hkj
         rw [if_pos rfl]
         cases hdi : d k with
         | none => rfl
         | some t =>
           have hlt := hA2 t hdi
           have e : slotOf (a.put (some t) v) (some t) = v := by simp [slotOf, Act.put, Array.getD, hlt]
           rw [e]; rfl
       · rw [if_neg hkj, oth k hk hkj]
     · rw [hset, if_neg hji] at hjl
       have hnw : waitsT ops j i = false := by
         cases hq : waitsT ops j i with
         | false => rfl
         | true =>
           have := waitsT_closed (fun j => L.getD j false) hcl j hj i hq hjl
           rw [hli] at this
           cases this
       have h2 := hst i j _ _ _ hin hj (Ne.symm hji) hnw (hp j hj hjl) gr
       refine hdep j _ _ _ hj (fun k hk hkd => ?_) h2
       refine (oth k hk fun e => ?_).symm
       subst e
       rcases hkd with rfl | h
       · exact hji rfl
       · rw [hnw] at h; cases h
 have h0 : ∀ j, (Array.replicate ops.size false).getD j false = false := fun j => by
   rw [Array.getD_eq_getD_getElem?, Array.getElem?_replicate]
   split <;> rfl
 refine key ops.size _ a0 _ (by simp) (by simp) (fun i j h => by rw [h0] at h; cases h) a0A (by simp only [h0]; exact w0G) fun j hj hjl => ?_
 rw [h0] at hjl
 cases hjl
end Go.Proofs.YtmfhnhnmdeabeaaGreat
end
section
namespace Go.Proofs.YtmfhnhnmdeabeaaGreat
open Go.RowKit Go.Shelf
def noDefer (ops : Array Oper) : Bool := ops.all fun o => match o.op with | .defer _ => false | _ => true
theorem noDefer_spec {ops : Array Oper} (h : noDefer ops = true) {i : Nat} {o : Oper} (ho : ops[i]? = some o) (c : Call) : o.op ≠ .defer c := by
 intro e
 unfold noDefer at h
 rw [Array.all_eq_true'] at h
 have h1 := h o (Array.mem_of_getElem? ho)
 rw [e] at h1
 cases h1
theorem upon_in {lp nn : Nat} {P : Program} {o : Oper} {a : Act} {Q : Exit → Act → World → Prop} {next : Act → World → Prop} (r : Result Next) (h : o.upon P a next Q r) : o.uponIn (Fence.wide.inRound lp) nn P a next Q r := by
 cases r with
 | ok nx w' =>
   cases nx with
   | enter f args => exact ⟨(fun q => by cases q), CallsIn.inRound lp ((callsIn_wide (n := nn - 1)).2 h)⟩
   | row row args =>
     refine ⟨(fun q => by cases q), fun c cs _ => ?_⟩
     have h := h c cs
     obtain ⟨v, w2, hr, hs⟩ := h
     exact ⟨v, w2, hr, stepsIn_wide.2 hs⟩
   | value v => exact h
   | skip => exact h
   | defer d => exact h
   | _ => exact (h : False).elim
 | halt hl w' =>
   cases hl with
   | panic v => exact h
   | _ => exact (h : False).elim
theorem any_in {lp nn : Nat} {P : Program} {ops : Array Oper} {Q : Exit → Act → World → Prop} (hno : ¬ LetsOut Q) (hnd : noDefer ops = true) : ∀ (fuel : Nat) (L : Array Bool) (a : Act) (w : World), wpAny P .any ops Q fuel L a w → wpAnyIn (Fence.wide.inRound lp) nn P .any ops Q fuel L a w := by
 have op : ∀ (i : Nat) (K K' : Act → World → Prop) (a : Act) (w : World), (∀ a w, K a w → K' a w) → wpOp P ops Q i K a w → wpOpIn (Fence.wide.inRound lp) nn P ops Q i K' a w := by
   intro i K K' a w hK h
   have h := wpOp_mono hK h
   unfold wpOp at h
   unfold wpOpIn
   cases ho : ops[i]? with
   | none => rw [ho] at h; exact h
   | some o =>
     rw [ho] at h
     simp only at h ⊢
     split
     · rename_i hw
       rw [if_pos hw] at h
       rcases h with h | ⟨_, h⟩
       · refine ⟨fun _ _ => trivial, ?_⟩
         show o.uponIn _ _ _ _ _ _ ((Oper.semAt (some lp) a.eval o).run P w)
         rw [Oper.semAt_some lp _ _ (noDefer_spec hnd ho)]
         exact upon_in _ h
       · exact absurd h hno
     · rename_i hw
       rw [if_neg hw] at h
       exact ⟨fun _ _ => trivial, h⟩
 intro fuel
 induction fuel with
 | zero => exact fun L a w h => h
 | succ fuel ih =>
   intro L a w h
   exact ⟨h.1, fun i hi => op i _ _ a w (fun a w h => ih _ a w h) (h.2 i hi)⟩
theorem wpIn_region_phi {lp nn : Nat} {P : Program} {ops : Array Oper} {Q : Exit → Act → World → Prop} {id : Nat} {a0 : Act} {w0 : World} (hno : ¬ LetsOut Q) (hnd : noDefer ops = true) (hm : P.follows .mixedOrders = true)
   (d : Nat → Option Tmp) (A : Act → Prop) (G : (Nat → Bool) → World → Prop) (Gr : Nat → World → World → Prop) (Ψ : Nat → Value → World → Prop)
   (hchk : upward ops = true)
   (hst : ∀ i j v w w', i < ops.size → j < ops.size → i ≠ j → waitsT ops j i = false → Ψ j v w → Gr i w w' → Ψ j v w')
   (hdc : apartD d ops.size = true)
   (hA : ∀ i a v, i < ops.size → A a → A (a.put (d i) v) ∧ ∀ t, d i = some t → t < a.tmps.size)
   (a0A : A a0) (w0G : G (fun _ => false) w0.drew)
   (step : ∀ i a w lst, i < ops.size → A a → lst i = false → (∀ j k, j < ops.size → lst j = true → waitsT ops j k = true → lst k = true) → (∀ j, waits ops i j = true → lst j = true) → G lst w → (∀ j, waits ops i j = true → Ψ j (slotOf a (d j)) w) → wpOp P ops Q i (fun a' w' => ∃ v, a' = a.put (d i) v ∧ G (fun j => if j = i then true else lst j) w' ∧ Gr i w w' ∧ Ψ i (if (d i).isSome then v else undef) w') a w)
   (done : ∀ a w lst, (∀ j, j < ops.size → lst j = true) → A a → G lst w → (∀ j, j < ops.size → Ψ j (slotOf a (d j)) w) → Q .normal a w) :
   (Code.region id ops true).wpIn (Fence.wide.inRound lp) nn P Q a0 w0 := by
 refine wpIn_region_any hm (any_in hno hnd _ _ _ _ ?_)
 have hw : ∀ i j, waits ops i j = true → j < ops.size := fun i j h => by have := waits_lt hchk h; omega
 have hall := ready_all hchk
 have hd := apartD_spec hdc
 have key : ∀ fuel (L : Array Bool) (a : Act) (w : World), L.size = ops.size → (L.toList.filter (!·)).length ≤ fuel → (∀ i j, L.getD i false = true → waits ops i j = true → L.getD j false = true) → A a → G (fun j => L.getD j false) w → (∀ j, j < ops.size → L.getD j false = true → Ψ j (slotOf a (d j)) w) → wpAny P .any ops Q fuel L a w := by
   intro fuel
   induction fuel with
   | zero =>
     intro L a w hL hc hcl ha hg hp
     have hr : Region.ready .any ops L = [] := by
       rw [List.eq_nil_iff_forall_not_mem]
       intro i hi
       have h1 := (mem_ready.1 hi).1
       have := count_set L i h1
       omega
     exact ⟨hr, done a w _ (hall L hL hr) ha hg fun j hj => hp j hj (hall L hL hr j hj)⟩
   | succ fuel ih =>
     intro L a w hL hc hcl ha hg hp
     refine ⟨fun hr => done a w _ (hall L hL hr) ha hg fun j hj => hp j hj (hall L hL hr j hj), fun i hi => ?_⟩
     obtain ⟨h1, o, ho, haft⟩ := mem_ready.1 hi
     have hin : i < ops.size := (Array.getElem?_eq_some_iff.1 ho).1
     have hiL : i < L.size := by omega
     have hli : L.getD i false = false := by
       simp only [Array.getD, hiL, dif_pos] at h1 ⊢
       exact h1
     have hwl : ∀ j, waits ops i j = true → L.getD j false = true := fun j hj => by
       unfold waits at hj
       rw [ho] at hj
       simp only [Option.map_some, Option.getD_some] at hj
       obtain ⟨e, he, he2⟩ := Array.any_eq_true'.1 hj
       simp only [Bool.and_eq_true, beq_iff_eq] at he2
       rw [← he2.1]
       exact haft e he he2.2
     have hset : ∀ j, (L.setIfInBounds i true).getD j false = if j = i then true else L.getD j false := fun j => by
       rw [Array.getD_eq_getD_getElem?, Array.getD_eq_getD_getElem?]
       by_cases hji : j = i
       · subst hji
         rw [if_pos rfl, Array.getElem?_setIfInBounds_self_of_lt hiL]; rfl
       · rw [if_neg hji, Array.getElem?_setIfInBounds_ne (Ne.symm hji)]
     refine wpOp_mono ?_ (step i a w _ hin ha hli (fun j k hj h1 h2 => waitsT_closed (fun j => L.getD j false) hcl j hj k h2 h1) hwl hg fun j hj => hp j (hw i j hj) (hwl j hj))
     rintro a' w' ⟨v, rfl, g', gr, ps⟩
     obtain ⟨hA1, hA2⟩ := hA i a v hin ha
     refine ih _ _ _ (by simpa using hL) (by have := count_set L i h1; omega) ?_ hA1 (by simpa only [hset] using g') fun j hj hjl => ?_
     · intro k j hk hkj
       rw [hset] at hk ⊢
       by_cases hki : k = i
       · subst hki
         rw [hwl j hkj]
         split <;> rfl
       · rw [if_neg hki] at hk
         rw [hcl k j hk hkj]
         split <;> rfl
     by_cases hji : j = i
     · subst hji
       cases hdi : d j with
       | none => rw [hdi] at ps; exact ps
       | some t =>
         rw [hdi] at ps
         have hlt := hA2 t hdi
         have e : slotOf (a.put (some t) v) (some t) = v := by simp [slotOf, Act.put, Array.getD, hlt]
         rw [e]; exact ps
     · rw [hset, if_neg hji] at hjl
       have hnw : waitsT ops j i = false := by
         cases hq : waitsT ops j i with
         | false => rfl
         | true =>
           have := waitsT_closed (fun j => L.getD j false) hcl j hj i hq hjl
           rw [hli] at this
           cases this
       have h2 := hst i j _ _ _ hin hj (Ne.symm hji) hnw (hp j hj hjl) gr
       have e : slotOf (a.put (d i) v) (d j) = slotOf a (d j) := by
         cases hdj : d j with
         | none => rfl
         | some t =>
           cases hdi : d i with
           | none => rfl
           | some u =>
             have hne : u ≠ t := fun q => hd i j hin hj (Ne.symm hji) u hdi (by rw [hdj, q])
             simp only [slotOf, Act.put]
             rw [Array.getD_eq_getD_getElem?, Array.getD_eq_getD_getElem?, Array.getElem?_setIfInBounds_ne hne]
       rw [e]; exact h2
 have h0 : ∀ j, (Array.replicate ops.size false).getD j false = false := fun j => by
   rw [Array.getD_eq_getD_getElem?, Array.getElem?_replicate]
   split <;> rfl
 refine key ops.size _ a0 _ (by simp) (by simp) (fun i j h => by rw [h0] at h; cases h) a0A (by simp only [h0]; exact w0G) fun j hj hjl => ?_
 rw [h0] at hjl
 cases hjl
end Go.Proofs.YtmfhnhnmdeabeaaGreat
end
