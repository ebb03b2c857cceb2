/- slices.Sort at numbers of 32 bits: choosePivotOrdered. -/
import Derived.Test.YtmfhnhnmdeabeaaGreatM14
import Derived.Laws.Bits64b
import Derived.Test.YtmfhnhnmdeabeaaGreatM02
set_option linter.unusedVariables false
set_option linter.unusedSimpArgs false
set_option maxRecDepth 100000
section
namespace Go.Proofs.YtmfhnhnmdeabeaaGreat.So
open Go.RowKit Go.Shelf Tr
theorem perm_swp {d0 d : Array Nat} {a b i j : Nat} (h : Sort.PermIn a b d0 d) (h1 : a ≤ i) (h2 : i < b) (h3 : a ≤ j) (h4 : j < b) (h5 : b ≤ d0.size) : Sort.PermIn a b d0 (Sort.swp d i j) :=
 Sort.permIn_trans _ _ _ _ _ h (Sort.swp_permIn d a b i j h1 h2 h3 h4 (by rw [h.1]; exact h5))
structure Swp (wr : World) (g : Nat) (i j x y : Nat) : Prop where
 c1 : wr.drew.cell? ⟨g, i, none⟩ = some (.int .u32 x)
 c2 : wr.drew.cell? ⟨g, j, none⟩ = some (.int .u32 y)
 f1 : wr.drew.frozen? ⟨g, i, none⟩ = false
 f2 : wr.drew.frozen? ⟨g, j, none⟩ = false
 c3 : ∃ v, (wr.setCell ⟨g, i, none⟩ (.int .u32 y)).cell? ⟨g, j, none⟩ = some v
 f3 : (wr.setCell ⟨g, i, none⟩ (.int .u32 y)).frozen? ⟨g, j, none⟩ = false
 l1 : g < wr.heap.size
theorem RowAt.swp {wr : World} {g : Nat} {tl : List Value} {d : Array Nat} (h : RowAt wr g tl d) {i j : Nat} (hi : i < d.size) (hj : j < d.size) :
   ∃ x y, Swp wr g i j x y ∧ RowAt ((wr.drew.setCell ⟨g, i, none⟩ (.int .u32 y)).setCell ⟨g, j, none⟩ (.int .u32 x)) g tl (Sort.swp d i j) :=
 ⟨d[i]!, d[j]!, ⟨h.drew.cell hi, h.drew.cell hj, h.drew.free i, h.drew.free j, ⟨_, (h.set hi _).cell (by simpa using hj)⟩, (h.set hi _).free j, h.lt⟩, h.drew.swap hi hj⟩
set_option maxHeartbeats 8000000 in
theorem rev_any (g n cap a b : Nat) (tl : List Value) (d : Array Nat) (w : World) (hR : RowAt w g tl d) (hn : d.size = n) (hn2 : n ≤ 256) (hab : a ≤ b) (hb : b ≤ n) :
   Calls Tryz.prog 164 #[.slice (some ⟨g, 0, none⟩) n cap, .int .i64 a, .int .i64 b] w fun e w' => e = .returned (.tuple #[]) ∧ ∃ d', Sort.PermIn a b d d' ∧ RowAt w' g tl d' ∧ One g w w' := by
 have HR := Lib.hid hR
 have HN := Lib.hid hn
 clear hR hn
 go_enter Tryz.func164, Tryz.ntmps164
 go_wp2_with fail
 go_loopw [6, 7] (fun s6 s7 wr => ∃ (i : Nat) (z : Int) (dk : Array Nat), s6 = .int .i64 i ∧ s7 = .int .i64 z ∧ a ≤ i ∧ i ≤ 600 ∧ -1 ≤ z ∧ z < b ∧ Sort.PermIn a b d dk ∧ RowAt wr g tl dk ∧ One g w wr) (fun s6 s7 _ => (intOf s7 + 1).toNat)
 case atStart => exact ⟨a, (b : Int) - 1, d, rfl, rfl, Nat.le_refl _, by omega, by omega, by omega, Sort.permIn_refl _ _ _, HR.out, Tch.refl _ _⟩
 case round =>
   obtain ⟨i, z, dk, rfl, rfl, hai, hi6, hz1, hz2, hds, hRk, hOk⟩ := hrel
   have RK := Lib.hid hRk
   have OK := Lib.hid hOk
   have DS := Lib.hid hds
   clear hRk hOk hds
   by_cases h1 : (i : Int) < z
   · obtain ⟨j, rfl⟩ := Int.eq_ofNat_of_zero_le (show 0 ≤ z by omega)
     have hij : i < j := by omega
     have hjb : j < b := by omega
     obtain ⟨x, y, ⟨c1, c2, f1, f2, ⟨v3, c3⟩, f3, l1⟩, hS⟩ := RK.out.swp (i := i) (j := j) (by have := DS.out.1; have := HN.out; omega) (by have := DS.out.1; have := HN.out; omega)
     have HS := Lib.hid hS
     have q1 : (0 : Int) ≤ (i : Int) := by omega
     have q2 : (i : Int) < n := by omega
     have q3 : (0 : Int) ≤ (j : Int) := by omega
     have q4 : (j : Int) < n := by omega
     clear hS
     go_wp2_with fail
     go_region
     go_wp2_with fail
     go_roundw
     case rel => exact ⟨i + 1, (j : Int) - 1, Sort.swp dk i j, by first | rfl | simp, by first | rfl | simp, by omega, by omega, by omega, by omega, perm_swp DS.out (by omega) (by omega) (by omega) (by omega) (by have := HN.out; omega), HS.out, Tch.trans OK.out (Tch.trans Tch.drew One.swap)⟩
     case measure => first | (simp [intOf]; done) | (simp [intOf]; omega)
   · go_wp2_with fail
     go_end0
     exact ⟨rfl, dk, DS.out, RK.out, OK.out⟩
theorem bits64 (op : BinOp) (x y : Int) : ∃ z : Nat, bits op .u64 x y = (z : Int) ∧ z < 18446744073709551616 := by
 have key : ∀ t : Nat, ∃ z : Nat, (t : Int) % 18446744073709551616 = (z : Int) ∧ z < 18446744073709551616 := fun t => ⟨t % 18446744073709551616, by omega, Nat.mod_lt _ (by decide)⟩
 unfold bits
 simp only [IntKind.wrap_u64]
 exact key _
set_option maxHeartbeats 4000000 in
theorem next_any (b : Nat) (x : Int) (w : World) (hX : SBox w b 193 #[.int .u64 x]) :
   Calls Tryz.prog 184 #[.pointer (some ⟨b, 0, none⟩)] w fun e w' => ∃ z : Nat, e = .returned (.int .u64 z) ∧ z < 18446744073709551616 ∧ SBox w' b 193 #[.int .u64 z] ∧ One b w w' := by
 have c0 := hX.drew.cell 0
 simp only [List.getElem?_toArray, List.getElem?_cons_zero] at c0
 have f0 := hX.drew.free 0
 have hl := hX.lt
 have HX := Lib.hid hX
 clear hX
 go_enter Tryz.func184, Tryz.ntmps184
 have O0 := Lib.hid (show One b w w from Tch.refl _ _)
 go_wp2_with fail
 go_region
 obtain ⟨z1, hz1, hz12⟩ := bits64 .xor x (IntKind.u64.wrap (x * 8192))
 rw [hz1]
 obtain ⟨w1, hw1⟩ : ∃ w1, (w.setCell ⟨b, 0, none⟩ (.int .u64 (z1 : Int))).drew = w1 := ⟨_, rfl⟩
 have HXz1 := Lib.hid (show SBox w1 b 193 #[.int .u64 (z1 : Int)] by rw [← hw1]; simpa using (HX.out.set 0 (.int .u64 (z1 : Int))).drew)
 have Oz1 := Lib.hid (show One b w w1 by rw [← hw1]; exact Tch.trans O0.out (Tch.trans (Tch.cell rfl) Tch.drew))
 rw [hw1]
 have Kz1 := Lib.hid hz12
 clear hw1 hz1 hz12 c0 f0 hl
 have c0 := HXz1.out.drew.cell 0
 simp only [List.getElem?_toArray, List.getElem?_cons_zero] at c0
 have f0 := HXz1.out.drew.free 0
 have hl := HXz1.out.lt
 go_wp2_with fail
 go_region
 obtain ⟨z2, hz2, hz22⟩ := bits64 .xor z1 (_)
 rw [hz2]
 obtain ⟨w2, hw2⟩ : ∃ w2, (w1.setCell ⟨b, 0, none⟩ (.int .u64 (z2 : Int))).drew = w2 := ⟨_, rfl⟩
 have HXz2 := Lib.hid (show SBox w2 b 193 #[.int .u64 (z2 : Int)] by rw [← hw2]; simpa using (HXz1.out.set 0 (.int .u64 (z2 : Int))).drew)
 have Oz2 := Lib.hid (show One b w w2 by rw [← hw2]; exact Tch.trans Oz1.out (Tch.trans (Tch.cell rfl) Tch.drew))
 rw [hw2]
 have Kz2 := Lib.hid hz22
 clear hw2 hz2 hz22 c0 f0 hl
 have c0 := HXz2.out.drew.cell 0
 simp only [List.getElem?_toArray, List.getElem?_cons_zero] at c0
 have f0 := HXz2.out.drew.free 0
 have hl := HXz2.out.lt
 go_wp2_with fail
 go_region
 obtain ⟨z3, hz3, hz32⟩ := bits64 .xor z2 (_)
 rw [hz3]
 obtain ⟨w3, hw3⟩ : ∃ w3, (w2.setCell ⟨b, 0, none⟩ (.int .u64 (z3 : Int))).drew = w3 := ⟨_, rfl⟩
 have HXz3 := Lib.hid (show SBox w3 b 193 #[.int .u64 (z3 : Int)] by rw [← hw3]; simpa using (HXz2.out.set 0 (.int .u64 (z3 : Int))).drew)
 have Oz3 := Lib.hid (show One b w w3 by rw [← hw3]; exact Tch.trans Oz2.out (Tch.trans (Tch.cell rfl) Tch.drew))
 rw [hw3]
 have Kz3 := Lib.hid hz32
 clear hw3 hz3 hz32 c0 f0 hl
 have c0 := HXz3.out.drew.cell 0
 simp only [List.getElem?_toArray, List.getElem?_cons_zero] at c0
 have f0 := HXz3.out.drew.free 0
 have hl := HXz3.out.lt
 have c9 := HXz3.out.cell 0
 simp only [List.getElem?_toArray, List.getElem?_cons_zero] at c9
 go_wp2_with fail
 go_ret
 exact ⟨z3, rfl, Kz3.out, HXz3.out, Oz3.out⟩
theorem pow_any (l : Nat) (h8 : 8 ≤ l) (h256 : l ≤ 256) (w : World) : Calls Tryz.prog 183 #[.int .i64 l] w fun e w' => ∃ m : Nat, e = .returned (.int .u64 m) ∧ l < m ∧ m ≤ 2 * l ∧ w = w' := by
 have HL := Lib.hid (show ∃ k : Nat, Lib.bitLen l = k ∧ (k = 4 ∧ l < 16 ∧ 8 ≤ l ∨ k = 5 ∧ l < 32 ∧ 16 ≤ l ∨ k = 6 ∧ l < 64 ∧ 32 ≤ l ∨ k = 7 ∧ l < 128 ∧ 64 ≤ l ∨ k = 8 ∧ l < 256 ∧ 128 ≤ l ∨ k = 9 ∧ l < 512 ∧ 256 ≤ l) from by
   have : ∀ l : Fin 257, 8 ≤ l.val → (Lib.bitLen l.val = 4 ∧ l.val < 16 ∧ 8 ≤ l.val ∨ Lib.bitLen l.val = 5 ∧ l.val < 32 ∧ 16 ≤ l.val ∨ Lib.bitLen l.val = 6 ∧ l.val < 64 ∧ 32 ≤ l.val ∨ Lib.bitLen l.val = 7 ∧ l.val < 128 ∧ 64 ≤ l.val ∨ Lib.bitLen l.val = 8 ∧ l.val < 256 ∧ 128 ≤ l.val ∨ Lib.bitLen l.val = 9 ∧ l.val < 512 ∧ 256 ≤ l.val) := by decide +kernel
   exact ⟨_, rfl, this ⟨l, by omega⟩ h8⟩)
 have LN := Lib.hid (Tryz.bits_Len (l : Int) w (by omega) (by omega))
 clear h8
 go_enter Tryz.func183, Tryz.ntmps183
 go_wp2_with fail
 refine Calls.mono LN.out ?_
 rintro e w9 ⟨rfl, rfl⟩
 obtain ⟨k, hk, h⟩ := HL.out
 rw [Int.toNat_natCast, hk]
 have HH := Lib.hid h
 rcases h with ⟨rfl, _⟩ | ⟨rfl, _⟩ | ⟨rfl, _⟩ | ⟨rfl, _⟩ | ⟨rfl, _⟩ | ⟨rfl, _⟩
 · clear hk
   go_wp2
   go_ret
   exact ⟨16, rfl, by have := HH.out; omega, by have := HH.out; omega, rfl⟩
 · clear hk
   go_wp2
   go_ret
   exact ⟨32, rfl, by have := HH.out; omega, by have := HH.out; omega, rfl⟩
 · clear hk
   go_wp2
   go_ret
   exact ⟨64, rfl, by have := HH.out; omega, by have := HH.out; omega, rfl⟩
 · clear hk
   go_wp2
   go_ret
   exact ⟨128, rfl, by have := HH.out; omega, by have := HH.out; omega, rfl⟩
 · clear hk
   go_wp2
   go_ret
   exact ⟨256, rfl, by have := HH.out; omega, by have := HH.out; omega, rfl⟩
 · clear hk
   go_wp2
   go_ret
   exact ⟨512, rfl, by have := HH.out; omega, by have := HH.out; omega, rfl⟩
end Go.Proofs.YtmfhnhnmdeabeaaGreat.So
end
section
namespace Go.Proofs.YtmfhnhnmdeabeaaGreat.So
open Go.RowKit Go.Shelf Tr
structure Mid (lo hi : Nat → Bool) (a b i j : Nat) (d dk : Array Nat) (p : Nat) : Prop where
 perm : Sort.PermIn a b d dk
 pv : dk[a]! = p
 ai : a + 1 ≤ i
 ij : i ≤ j + 1
 jb : j < b
 lo : ∀ k, a < k → k < i → lo dk[k]! = true
 hi : ∀ k, j < k → k < b → hi dk[k]! = true
variable {lo hi : Nat → Bool} {a b i j : Nat} {d dk : Array Nat} {p : Nat}
theorem Mid.up (h : Mid lo hi a b i j d dk p) (h1 : i ≤ j) (h2 : lo dk[i]! = true) : Mid lo hi a b (i + 1) j d dk p :=
 { h with ai := (by have := h.ai; omega), ij := (by omega), lo := fun k k1 k2 => (by
     by_cases e : k = i
     · subst e; exact h2
     · exact h.lo k k1 (by omega)) }
theorem Mid.down (h : Mid lo hi a b i j d dk p) (h1 : i ≤ j) (h2 : hi dk[j]! = true) : Mid lo hi a b i (j - 1) d dk p :=
 { h with ij := (by omega), jb := (by have := h.jb; omega), hi := fun k k1 k2 => (by
     by_cases e : k = j
     · subst e; exact h2
     · exact h.hi k (by have := h.ai; omega) k2) }
theorem Mid.swap (h : Mid lo hi a b i j d dk p) (hb : b ≤ d.size) (h1 : i < j) (h2 : hi dk[i]! = true) (h3 : lo dk[j]! = true) : Mid lo hi a b (i + 1) (j - 1) d (Sort.swp dk i j) p := by
 have hai := h.ai
 have hjb := h.jb
 have hs := h.perm.1
 have oth : ∀ k, k ≠ i → k ≠ j → (Sort.swp dk i j)[k]! = dk[k]! := fun k k1 k2 => Sort.swp_other dk i j k k1 k2
 refine ⟨perm_swp h.perm (by omega) (by omega) (by omega) (by omega) hb, by rw [oth a (by omega) (by omega)]; exact h.pv, by omega, by omega, by omega, fun k k1 k2 => ?_, fun k k1 k2 => ?_⟩
 · by_cases e : k = i
   · subst e; rw [Sort.swp_left dk k j (by omega) (by omega)]; exact h3
   · rw [oth k e (by omega)]; exact h.lo k k1 (by omega)
 · by_cases e : k = j
   · subst e; rw [Sort.swp_right dk i k (by omega)]; exact h2
   · rw [oth k (by omega) e]; exact h.hi k (by omega) k2
theorem Mid.start (hb : b ≤ d.size) (hab : a < b) {q : Nat} (hq : a ≤ q) (hq2 : q < b) : Mid lo hi a b (a + 1) (b - 1) d (Sort.swp d a q) (Sort.swp d a q)[a]! :=
 ⟨perm_swp (Sort.permIn_refl _ _ _) (Nat.le_refl _) hab hq hq2 hb, rfl, Nat.le_refl _, by omega, by omega, fun k k1 k2 => by omega, fun k k1 k2 => by omega⟩
structure Parted (a b m : Nat) (d d' : Array Nat) : Prop where
 perm : Sort.PermIn a b d d'
 am : a ≤ m
 mb : m < b
 lo : ∀ k, a ≤ k → k < m → ltN d'[k]! d'[m]! = true
 hi : ∀ k, m < k → k < b → ltN d'[k]! d'[m]! = false
theorem Mid.parted (h : Mid (fun x => ltN x p) (fun x => !ltN x p) a b i j d dk p) (hb : b ≤ d.size) (h1 : j < i) : Parted a b j d (Sort.swp dk j a) := by
 have hai := h.ai
 have hij := h.ij
 have hjb := h.jb
 have hs := h.perm.1
 have oth : ∀ k, k ≠ j → k ≠ a → (Sort.swp dk j a)[k]! = dk[k]! := fun k k1 k2 => Sort.swp_other dk j a k k1 k2
 have ej : (Sort.swp dk j a)[j]! = p := by
   by_cases e : j = a
   · subst e; rw [Sort.swp_right dk j j (by omega)]; exact h.pv
   · rw [Sort.swp_left dk j a (by omega) e]; exact h.pv
 refine ⟨perm_swp h.perm (by omega) (by omega) (by omega) (by omega) hb, by omega, by omega, fun k k1 k2 => ?_, fun k k1 k2 => ?_⟩
 · rw [ej]
   by_cases e : k = a
   · subst e; rw [Sort.swp_right dk j k (by omega)]; exact h.lo j (by omega) (by omega)
   · rw [oth k (by omega) e]; exact h.lo k (by omega) (by omega)
 · rw [ej, oth k (by omega) (by omega)]
   have := h.hi k k1 k2
   simpa using this
structure Equal (a b m p : Nat) (d d' : Array Nat) : Prop where
 perm : Sort.PermIn a b d d'
 am : a < m
 mb : m ≤ b
 lo : ∀ k, a ≤ k → k < m → ltN p d'[k]! = false
 hi : ∀ k, m ≤ k → k < b → ltN p d'[k]! = true
theorem Mid.equal (h : Mid (fun x => !ltN p x) (fun x => ltN p x) a b i j d dk p) (h1 : j < i) : Equal a b i p d dk := by
 have hai := h.ai
 have hij := h.ij
 have hjb := h.jb
 refine ⟨h.perm, by omega, by omega, fun k k1 k2 => ?_, fun k k1 k2 => h.hi k (by omega) k2⟩
 by_cases e : k = a
 · subst e; rw [h.pv]; simp [ltN]
 · have := h.lo k (by omega) k2
   simpa using this
end Go.Proofs.YtmfhnhnmdeabeaaGreat.So
end
section
namespace Go.Proofs.YtmfhnhnmdeabeaaGreat.So
open Go.RowKit Go.Shelf Tr
structure Fin (a b u v : Nat) (d dk : Array Nat) : Prop where
 perm : Sort.PermIn a b d dk
 au : a ≤ u
 uv : u ≤ v
 vb : v ≤ b
 below : Sort.Below ltN u v dk
 fin : ∀ dk', Sort.PermIn u v dk dk' → Sort.SortedIn ltN u v dk' → Sort.SortedIn ltN a b dk'
variable {a b u v m p : Nat} {d dk d4 d5 : Array Nat}
theorem lt_no {x y : Nat} : ltN x y = false ↔ y ≤ x := by simp [ltN]
theorem lt_yes {x y : Nat} : ltN x y = true ↔ x < y := by simp [ltN]
theorem Fin.start (hab : a ≤ b) (h : Sort.Below ltN a b d) : Fin a b a b d d := ⟨Sort.permIn_refl _ _ _, Nat.le_refl _, hab, Nat.le_refl _, h, fun _ _ h => h⟩
theorem Fin.size (h : Fin a b u v d dk) : dk.size = d.size := h.perm.1
theorem Fin.turn (h : Fin a b u v d dk) (hb : b ≤ d.size) (hp : Sort.PermIn u v dk d4) : Fin a b u v d d4 :=
 ⟨Sort.permIn_trans _ _ _ _ _ h.perm (Sort.permIn_mono dk d4 u v a b h.au h.vb (by rw [h.size]; exact hb) hp), h.au, h.uv, h.vb, h.below.perm (by rw [h.size]; have := h.vb; omega) hp, fun dk' h1 h2 => h.fin dk' (Sort.permIn_trans _ _ _ _ _ hp h1) h2⟩
theorem Fin.done (h : Fin a b u v d dk) (hb : b ≤ d.size) (hp : Sort.PermIn u v dk d4) (hs : Sort.SortedIn ltN u v d4) : Sort.PermIn a b d d4 ∧ Sort.SortedIn ltN a b d4 := ⟨(h.turn hb hp).perm, h.fin d4 hp hs⟩
theorem Fin.eql (h : Fin a b u v d dk) (hb : b ≤ d.size) (hu : 0 < u) (hE : Equal u v m p dk d4) (hp : ltN dk[u - 1]! p = false) : Fin a b m v d d4 := by
 have hs := h.size
 have hvb := h.vb
 have hall : ∀ i, u ≤ i → i < v → ltN dk[i]! p = false := fun i h1 h2 => by
   rcases h.below with h0 | h0
   · omega
   · have := h0 i h1 h2
     rw [lt_no] at *
     omega
 have h4 : ∀ i, u ≤ i → i < v → ltN d4[i]! p = false := Sort.permIn_all dk d4 u v (fun x => ltN x p = false) (by omega) hE.perm hall
 have hs4 := hE.perm.1
 have ham := hE.am
 have hmb := hE.mb
 refine ⟨(h.turn hb hE.perm).perm, by have := h.au; omega, hmb, hvb, .inr fun i h1 h2 => ?_, fun dk' h1 h2 => ?_⟩
 · have e1 := hE.hi i h1 h2
   have e2 := hE.lo (m - 1) (by omega) (by omega)
   rw [lt_no] at *
   rw [lt_yes] at e1
   omega
 · have hp2 : Sort.PermIn u v d4 dk' := Sort.permIn_mono d4 dk' m v u v (by omega) (Nat.le_refl _) (by omega) h1
   have out : ∀ i, u ≤ i → i < m → dk'[i]! = d4[i]! := fun i _ h4 => h1.2.1 i (.inl h4)
   refine h.fin dk' (Sort.permIn_trans _ _ _ _ _ hE.perm hp2) (Sort.sorted_glue_eq swo p h2 (fun i e1 e2 => ?_) (fun i e1 e2 => ?_) ?_)
   · rw [out i e1 e2]; exact hE.lo i e1 e2
   · rw [out i e1 e2]; exact h4 i e1 (by omega)
   · exact Sort.permIn_all d4 dk' m v (fun x => ltN p x = true) (by omega) h1 hE.hi
theorem Fin.belowL (h : Fin a b u v d dk) (hb : b ≤ d.size) (hP : Parted u v m dk d4) : Sort.Below ltN u m d4 :=
 (Sort.Below.perm h.below (by have := h.size; have := h.vb; omega) hP.perm).mono (by have := hP.mb; omega)
theorem Fin.belowR (hP : Parted u v m dk d4) : Sort.Below ltN (m + 1) v d4 := .inr fun i h1 h2 => hP.hi i (by omega) h2
theorem Fin.left (h : Fin a b u v d dk) (hb : b ≤ d.size) (hP : Parted u v m dk d4) (hp : Sort.PermIn u m d4 d5) (hsd : Sort.SortedIn ltN u m d5) : Fin a b (m + 1) v d d5 := by
 have hs := h.size
 have hvb := h.vb
 have hs4 := hP.perm.1
 have ham := hP.am
 have hmb := hP.mb
 have hs5 := hp.1
 have hp5 : Sort.PermIn u v d4 d5 := Sort.permIn_mono d4 d5 u m u v (Nat.le_refl _) (by omega) (by omega) hp
 have out5 : ∀ i, m ≤ i → d5[i]! = d4[i]! := fun i h1 => hp.2.1 i (.inr h1)
 have lo5 : ∀ i, u ≤ i → i < m → ltN d5[i]! d4[m]! = true := Sort.permIn_all d4 d5 u m (fun x => ltN x d4[m]! = true) (by omega) hp hP.lo
 refine ⟨(h.turn hb (Sort.permIn_trans _ _ _ _ _ hP.perm hp5)).perm, by have := h.au; omega, by omega, hvb, .inr fun i h1 h2 => ?_, fun dk' h1 h2 => ?_⟩
 · rw [show m + 1 - 1 = m from rfl, out5 i (by omega), out5 m (Nat.le_refl _)]
   exact hP.hi i (by omega) h2
 · have hp2 : Sort.PermIn u v d5 dk' := Sort.permIn_mono d5 dk' (m + 1) v u v (by omega) (Nat.le_refl _) (by omega) h1
   have outk : ∀ i, i ≤ m → dk'[i]! = d5[i]! := fun i e => h1.2.1 i (.inl (by omega))
   have hhi : ∀ i, m + 1 ≤ i → i < v → ltN dk'[i]! d4[m]! = false := Sort.permIn_all d5 dk' (m + 1) v (fun x => ltN x d4[m]! = false) (by omega) h1 (fun i e1 e2 => by rw [out5 i (by omega)]; exact hP.hi i (by omega) e2)
   refine h.fin dk' (Sort.permIn_trans _ _ _ _ _ hP.perm (Sort.permIn_trans _ _ _ _ _ hp5 hp2)) (Sort.sorted_glue swo (mid := m) ?_ h2 (fun i e1 e2 => ?_) (fun i e1 e2 => ?_))
   · exact hsd.congr fun i e1 e2 => outk i (by omega)
   · rw [outk i (by omega), outk m (Nat.le_refl _), out5 m (Nat.le_refl _)]; exact lo5 i e1 e2
   · rw [outk m (Nat.le_refl _), out5 m (Nat.le_refl _)]; exact hhi i (by omega) e2
theorem Fin.right (h : Fin a b u v d dk) (hb : b ≤ d.size) (hP : Parted u v m dk d4) (hp : Sort.PermIn (m + 1) v d4 d5) (hsd : Sort.SortedIn ltN (m + 1) v d5) : Fin a b u m d d5 := by
 have hs := h.size
 have hvb := h.vb
 have hs4 := hP.perm.1
 have ham := hP.am
 have hmb := hP.mb
 have hs5 := hp.1
 have hp5 : Sort.PermIn u v d4 d5 := Sort.permIn_mono d4 d5 (m + 1) v u v (by omega) (Nat.le_refl _) (by omega) hp
 have out5 : ∀ i, i ≤ m → d5[i]! = d4[i]! := fun i h1 => hp.2.1 i (.inl (by omega))
 have hi5 : ∀ i, m + 1 ≤ i → i < v → ltN d5[i]! d4[m]! = false := Sort.permIn_all d4 d5 (m + 1) v (fun x => ltN x d4[m]! = false) (by omega) hp (fun i e1 e2 => hP.hi i (by omega) e2)
 refine ⟨(h.turn hb (Sort.permIn_trans _ _ _ _ _ hP.perm hp5)).perm, h.au, ham, by omega, ?_, fun dk' h1 h2 => ?_⟩
 · exact (Sort.Below.perm h.below (by omega) (Sort.permIn_trans _ _ _ _ _ hP.perm hp5)).mono (by omega)
 · have hp2 : Sort.PermIn u v d5 dk' := Sort.permIn_mono d5 dk' u m u v (Nat.le_refl _) (by omega) (by omega) h1
   have outk : ∀ i, m ≤ i → dk'[i]! = d5[i]! := fun i e => h1.2.1 i (.inr e)
   have hlo : ∀ i, u ≤ i → i < m → ltN dk'[i]! d4[m]! = true := Sort.permIn_all d5 dk' u m (fun x => ltN x d4[m]! = true) (by omega) h1 (fun i e1 e2 => by rw [out5 i (by omega)]; exact hP.lo i e1 e2)
   refine h.fin dk' (Sort.permIn_trans _ _ _ _ _ hP.perm (Sort.permIn_trans _ _ _ _ _ hp5 hp2)) (Sort.sorted_glue swo (mid := m) h2 ?_ (fun i e1 e2 => ?_) (fun i e1 e2 => ?_))
   · exact hsd.congr fun i e1 e2 => outk i (by omega)
   · rw [outk m (Nat.le_refl _), out5 m (Nat.le_refl _)]; exact hlo i e1 e2
   · rw [outk m (Nat.le_refl _), out5 m (Nat.le_refl _), outk i (by omega)]; exact hi5 i (by omega) e2
end Go.Proofs.YtmfhnhnmdeabeaaGreat.So
end
section
namespace Go.Proofs.YtmfhnhnmdeabeaaGreat.So
open Go.RowKit Go.Shelf Tr
set_option maxHeartbeats 8000000 in
theorem brk_any (g n cap a b : Nat) (tl : List Value) (d : Array Nat) (w : World) (hR : RowAt w g tl d) (hn : d.size = n) (hn2 : n ≤ 256) (hab : a ≤ b) (hb : b ≤ n) :
   Calls Tryz.prog 162 #[.slice (some ⟨g, 0, none⟩) n cap, .int .i64 a, .int .i64 b] w fun e w' => e = .returned (.tuple #[]) ∧ ∃ d', Sort.PermIn a b d d' ∧ RowAt w' g tl d' ∧ One g w w' := by
 have HR := Lib.hid hR
 have HN := Lib.hid hn
 obtain ⟨l, hl⟩ : ∃ l, l = b - a := ⟨_, rfl⟩
 have el : (b : Int) - (a : Int) = (l : Int) := by omega
 have lb : a + l = b := by omega
 have LB := Lib.hid lb
 have l256 : l ≤ 256 := by omega
 clear hR hn hl lb
 go_enter Tryz.func162, Tryz.ntmps162
 by_cases h8 : 8 ≤ l
 · have t8 : (8 : Int) ≤ l := by omega
   have PW := Lib.hid (fun w => pow_any l h8 l256 w)
   obtain ⟨q, hq⟩ : ∃ q, q = l / 4 := ⟨_, rfl⟩
   have eq4 : (l : Int).tdiv 4 = (q : Int) := by rw [hq]; rfl
   have q64 : q ≤ 64 ∧ 2 ≤ q := by omega
   obtain ⟨qa, qb⟩ := q64
   have QQ := Lib.hid (show 4 * q ≤ l by omega)
   obtain ⟨s, hs⟩ : ∃ s, s = a + q * 2 := ⟨_, rfl⟩
   have es : (a : Int) + (q : Int) * 2 = (s : Int) := by omega
   have SS := Lib.hid hs
   have s8 : s ≤ 600 ∧ 1 ≤ s := by omega
   obtain ⟨sa, sb⟩ := s8
   have H8 := Lib.hid h8
   have hX0 := SBox.new w 193 #[.int .u64 (l : Int)]
   have B1 := Lib.hid (show One g w (w.alloc (.cells #[.int .u64 (l : Int)] 193)) from Tch.of ((Below.refl _ _).alloc (Nat.le_refl _) _))
   have R1 := Lib.hid (show RowAt (w.alloc (.cells #[.int .u64 (l : Int)] 193)) g tl d from SBox.alloc HR.out _)
   have X1 := Lib.hid hX0
   have GL := Lib.hid HR.out.lt
   clear hq hs h8 hX0
   go_wp2_with fail
   refine Calls.mono (PW.out _) ?_
   rintro e w9 ⟨m, rfl, hm1, hm2, rfl⟩
   obtain ⟨m1, hm3⟩ : ∃ m1, m = m1 + 1 := ⟨m - 1, by omega⟩
   have em : (m : Int) - 1 = (m1 : Int) := by omega
   have M1 := Lib.hid (show m1 + 1 ≤ 2 * l by omega)
   have mb : m ≤ 600 := by omega
   clear hm1 hm2 hm3
   go_wp2_with fail
   go_loopw [9] (fun s9 wr => ∃ (i : Nat) (dk : Array Nat) (x : Int), s9 = .int .i64 i ∧ s ≤ i + 1 ∧ i ≤ s + 2 ∧ Sort.PermIn a b d dk ∧ RowAt wr g tl dk ∧ One g w wr ∧ SBox wr w.heap.size 193 #[.int .u64 x]) (fun s9 _ => s + 2 - (intOf s9).toNat)
   case atStart => exact ⟨s - 1, d, l, by simp; omega, by omega, by omega, Sort.permIn_refl _ _ _, R1.out, B1.out, X1.out⟩
   case round =>
     obtain ⟨i, dk, x, rfl, hi1, hi2, hds, hRk, hOk, hX⟩ := hrel
     have RK := Lib.hid hRk
     have OK := Lib.hid hOk
     have DS := Lib.hid hds
     have NX := Lib.hid (next_any w.heap.size x wr hX)
     clear hRk hOk hds hX
     by_cases h1 : i ≤ s + 1
     · have t1 : (i : Int) ≤ (s : Int) + 1 := by omega
       go_wp2_with fail
       refine Calls.mono NX.out ?_
       rintro e w5 ⟨z, rfl, hz, hX5, hO5⟩
       obtain ⟨o, ho, ho2⟩ : ∃ o : Nat, bits .and .u64 (z : Int) (m1 : Int) = (o : Int) ∧ o ≤ m1 := by
         refine ⟨z &&& m1, bits_and_u64_nat z m1 hz (by have := M1.out; omega), Nat.and_le_right⟩
       have X5 := Lib.hid hX5
       have R5 := Lib.hid (show RowAt w5 g tl dk from (hO5.block g RK.out.lt (by have := GL.out; omega)).trans RK.out)
       have O5 := Lib.hid (show One g w w5 from Tch.ext OK.out hO5 (fun c hc => .inr (by rw [hc]; exact Nat.le_refl _)))
       have ob : o ≤ 600 := by have := M1.out; omega
       have OB := Lib.hid (show o < 2 * l by have := M1.out; omega)
       clear hz hX5 hO5 NX ho2
       obtain ⟨p1, p2, hP1, hP2⟩ : ∃ p1 p2 : Nat, p1 = (if l ≤ o then o - l else o) ∧ p2 = a + p1 := ⟨_, _, rfl, rfl⟩
       have pl : p1 < l := by have := OB.out; rw [hP1]; split <;> omega
       have pb : p2 < n := by have := LB.out; omega
       have ep : (a : Int) + (p1 : Int) = (p2 : Int) := by omega
       have P1 := Lib.hid hP1
       have P2 := Lib.hid hP2
       obtain ⟨u, v, ⟨c1, c2, f1, f2, ⟨v3, c3⟩, f3, l1⟩, hS⟩ := R5.out.swp (i := i) (j := p2) (by have := DS.out.1; have := HN.out; have := QQ.out; have := SS.out; have := LB.out; omega) (by have := DS.out.1; have := HN.out; omega)
       have HS := Lib.hid hS
       have q1 : (0 : Int) ≤ (i : Int) := by omega
       have q2 : (i : Int) < n := by have := QQ.out; have := SS.out; have := LB.out; omega
       have q3 : (0 : Int) ≤ (p2 : Int) := by omega
       have q4 : (p2 : Int) < n := by omega
       clear hS hP1 hP2
       by_cases h2 : l ≤ o
       · have t2 : (l : Int) ≤ o := by omega
         have e2 : (o : Int) - (l : Int) = (p1 : Int) := by have h := P1.out; rw [if_pos h2] at h; omega
         go_wp2_with fail
         go_region
         go_wp2_with fail
         go_roundw
         case rel => exact ⟨i + 1, Sort.swp dk i p2, z, by first | rfl | simp, by omega, by omega, perm_swp DS.out (by have := SS.out; omega) (by have := QQ.out; have := SS.out; have := LB.out; omega) (by have := P2.out; omega) (by have := P2.out; have := LB.out; omega) (by have := HN.out; omega), HS.out, Tch.trans O5.out (Tch.trans Tch.drew One.swap), (SBox.other (SBox.other X5.out.drew _ (by have := GL.out; omega)) _ (by have := GL.out; omega))⟩
         case measure => first | (simp [intOf]; done) | (simp [intOf]; omega)
       · have t2 : ¬ (l : Int) ≤ o := by omega
         obtain rfl : p1 = o := by have h := P1.out; rw [if_neg h2] at h; exact h
         go_wp2_with fail
         go_region
         go_wp2_with fail
         go_roundw
         case rel => exact ⟨i + 1, Sort.swp dk i p2, z, by first | rfl | simp, by omega, by omega, perm_swp DS.out (by have := SS.out; omega) (by have := QQ.out; have := SS.out; have := LB.out; omega) (by have := P2.out; omega) (by have := P2.out; have := LB.out; omega) (by have := HN.out; omega), HS.out, Tch.trans O5.out (Tch.trans Tch.drew One.swap), (SBox.other (SBox.other X5.out.drew _ (by have := GL.out; omega)) _ (by have := GL.out; omega))⟩
         case measure => first | (simp [intOf]; done) | (simp [intOf]; omega)
     · have t1 : ¬ (i : Int) ≤ (s : Int) + 1 := by omega
       go_wp2_with fail
       go_end0
       exact ⟨rfl, dk, DS.out, RK.out, OK.out⟩
 · have t8 : ¬ (8 : Int) ≤ l := by omega
   go_wp2_with fail
   go_end0
   exact ⟨rfl, d, Sort.permIn_refl _ _ _, HR.out, Tch.refl _ _⟩
end Go.Proofs.YtmfhnhnmdeabeaaGreat.So
end
section
namespace Go.Proofs.YtmfhnhnmdeabeaaGreat.So
open Go.RowKit Go.Shelf Tr
set_option maxHeartbeats 4000000 in
theorem order2_any (g n cap a b sw : Nat) (k : Nat) (tl : List Value) (d : Array Nat) (w : World) (hR : RowAt w g tl d) (hn : d.size = n) (hn2 : n ≤ 256) (ha : a < n) (hb : b < n) (hX : SBox w sw 3 #[.int .i64 k]) (hk : k ≤ 100) (hg : g ≠ sw) :
   Calls Tryz.prog 191 #[.slice (some ⟨g, 0, none⟩) n cap, .int .i64 a, .int .i64 b, .pointer (some ⟨sw, 0, none⟩)] w fun e w' => ∃ x y k' : Nat, e = .returned (.tuple #[.int .i64 x, .int .i64 y]) ∧ (x = a ∧ y = b ∨ x = b ∧ y = a) ∧ RowAt w' g tl d ∧ SBox w' sw 3 #[.int .i64 k'] ∧ k' ≤ k + 1 ∧ One sw w w' := by
 have c1 := fun m => (hR.drewN m).cell (i := a) (by omega)
 have c2 := fun m => (hR.drewN m).cell (i := b) (by omega)
 have hl := hR.lt
 have HR := Lib.hid hR
 have HX := Lib.hid hX
 have HG := Lib.hid hg
 have q1 : (0 : Int) ≤ (a : Int) := by omega
 have q2 : (a : Int) < n := by omega
 have q3 : (0 : Int) ≤ (b : Int) := by omega
 have q4 : (b : Int) < n := by omega
 obtain ⟨x, hx⟩ : ∃ x, d[a]! = x := ⟨_, rfl⟩
 obtain ⟨y, hy⟩ : ∃ y, d[b]! = y := ⟨_, rfl⟩
 rw [hx] at c1
 rw [hy] at c2
 clear hR hn hX hg hx hy
 go_enter Tryz.func191, Tryz.ntmps191
 go_wp2_with fail
 go_quiet ((go_at_call 166; exact Calls.quiet_of_same (turn (less_any y x _))))
 rcases hxy : ltN y x with _ | _
 · clear hxy
   go_wp2_with fail
   go_ret2
   exact ⟨a, b, k, rfl, .inl ⟨rfl, rfl⟩, HR.out.drewN _, HX.out, by omega, One.drewN _⟩
 · clear hxy
   obtain ⟨w5, hw5⟩ : ∃ w5, w.drewN nq = w5 := ⟨_, rfl⟩
   have R5 := Lib.hid (show RowAt w5 g tl d by rw [← hw5]; exact HR.out.drewN _)
   have O5 := Lib.hid (show One sw w w5 by rw [← hw5]; exact One.drewN _)
   have X5 := Lib.hid (show SBox w5 sw 3 #[.int .i64 k] by rw [← hw5]; exact HX.out)
   rw [hw5]
   clear hw5 c1 c2 hl
   have s0 := X5.out.cell 0
   simp only [List.getElem?_toArray, List.getElem?_cons_zero] at s0
   have f0 := X5.out.free 0
   have l0 := X5.out.lt
   go_wp2_with fail
   go_ret2
   exact ⟨b, a, k + 1, rfl, .inr ⟨rfl, rfl⟩, SBox.other R5.out _ HG.out, by simpa using X5.out.set 0 (.int .i64 ((k : Int) + 1)), Nat.le_refl _, Tch.trans O5.out (Tch.cell rfl)⟩
def Of3 (a b c x : Nat) : Prop := x = a ∨ x = b ∨ x = c
set_option maxHeartbeats 4000000 in
theorem median_any (g n cap a b c sw : Nat) (k : Nat) (tl : List Value) (d : Array Nat) (w : World) (hR : RowAt w g tl d) (hn : d.size = n) (hn2 : n ≤ 256) (ha : a < n) (hb : b < n) (hc : c < n) (hX : SBox w sw 3 #[.int .i64 k]) (hk : k ≤ 90) (hg : g ≠ sw) :
   Calls Tryz.prog 186 #[.slice (some ⟨g, 0, none⟩) n cap, .int .i64 a, .int .i64 b, .int .i64 c, .pointer (some ⟨sw, 0, none⟩)] w fun e w' => ∃ x k' : Nat, e = .returned (.int .i64 x) ∧ Of3 a b c x ∧ RowAt w' g tl d ∧ SBox w' sw 3 #[.int .i64 k'] ∧ k' ≤ k + 3 ∧ One sw w w' := by
 have HR := Lib.hid hR
 have HX := Lib.hid hX
 clear hR hX
 go_enter Tryz.func186, Tryz.ntmps186
 go_wp2_with fail
 refine Calls.mono (order2_any g n cap a b sw k tl d w HR.out hn hn2 ha hb HX.out (by omega) hg) ?_
 rintro e w2 ⟨x1, y1, k1, rfl, h1, hR1, hX1, hk1, hO1⟩
 have R1 := Lib.hid hR1
 have X1 := Lib.hid hX1
 have O1 := Lib.hid hO1
 have H1 := Lib.hid h1
 clear hR1 hX1 hO1 h1
 go_wp2_with fail
 refine Calls.mono (order2_any g n cap y1 c sw k1 tl d w2 R1.out hn hn2 (by have := H1.out; omega) hc X1.out (by omega) hg) ?_
 rintro e w3 ⟨x2, y2, k2, rfl, h2, hR2, hX2, hk2, hO2⟩
 have R2 := Lib.hid hR2
 have X2 := Lib.hid hX2
 have O2 := Lib.hid hO2
 have H2 := Lib.hid h2
 clear hR2 hX2 hO2 h2
 go_wp2_with fail
 refine Calls.mono (order2_any g n cap x1 x2 sw k2 tl d w3 R2.out hn hn2 (by have := H1.out; omega) (by have := H1.out; have := H2.out; omega) X2.out (by omega) hg) ?_
 rintro e w4 ⟨x3, y3, k3, rfl, h3, hR3, hX3, hk3, hO3⟩
 have R3 := Lib.hid hR3
 have X3 := Lib.hid hX3
 have O3 := Lib.hid hO3
 have H3 := Lib.hid h3
 clear hR3 hX3 hO3 h3
 go_wp2_with fail
 go_ret
 exact ⟨y3, k3, rfl, by have := H1.out; have := H2.out; have := H3.out; unfold Of3; omega, R3.out, X3.out, by omega, Tch.trans O1.out (Tch.trans O2.out O3.out)⟩
set_option maxHeartbeats 4000000 in
theorem medAdj_any (g n cap a sw : Nat) (k : Nat) (tl : List Value) (d : Array Nat) (w : World) (hR : RowAt w g tl d) (hn : d.size = n) (hn2 : n ≤ 256) (ha : 1 ≤ a) (hb : a + 1 < n) (hX : SBox w sw 3 #[.int .i64 k]) (hk : k ≤ 90) (hg : g ≠ sw) :
   Calls Tryz.prog 185 #[.slice (some ⟨g, 0, none⟩) n cap, .int .i64 a, .pointer (some ⟨sw, 0, none⟩)] w fun e w' => ∃ x k' : Nat, e = .returned (.int .i64 x) ∧ (a - 1 ≤ x ∧ x ≤ a + 1) ∧ RowAt w' g tl d ∧ SBox w' sw 3 #[.int .i64 k'] ∧ k' ≤ k + 3 ∧ One sw w w' := by
 obtain ⟨a0, rfl⟩ : ∃ a0, a = a0 + 1 := ⟨a - 1, by omega⟩
 have HM := Lib.hid (median_any g n cap a0 (a0 + 1) (a0 + 2) sw k tl d w hR hn hn2 (by omega) (by omega) (by omega) hX hk hg)
 clear hR hX hn hg
 have e2 : ((a0 + 2 : Nat) : Int) = (a0 : Int) + 1 + 1 := by omega
 have e1 : ((a0 + 1 : Nat) : Int) = (a0 : Int) + 1 := by omega
 rw [e2, e1] at HM
 clear e1 e2
 go_enter Tryz.func185, Tryz.ntmps185
 go_wp2_with fail
 refine Calls.mono HM.out ?_
 rintro e w2 ⟨x, k', rfl, h, r⟩
 have RR := Lib.hid r
 have H := Lib.hid h
 clear r h
 go_wp2_with fail
 go_ret
 exact ⟨x, k', rfl, by have := H.out; unfold Of3 at this; omega, RR.out⟩
end Go.Proofs.YtmfhnhnmdeabeaaGreat.So
end
section
namespace Go.Proofs.YtmfhnhnmdeabeaaGreat.So
open Go.RowKit Go.Shelf Tr
def PivR (g a b : Nat) (tl : List Value) (d : Array Nat) (w : World) (e : Ending) (w' : World) : Prop := ∃ x h : Nat, e = .returned (.tuple #[.int .i64 x, .int .i64 h]) ∧ (a ≤ x ∧ x < b) ∧ h ≤ 2 ∧ RowAt w' g tl d ∧ One g w w'
theorem PivR.mk' {g a b : Nat} {tl : List Value} {d : Array Nat} {w w' : World} {x h : Nat} (h1 : a ≤ x ∧ x < b) (h2 : h ≤ 2) (h3 : RowAt w' g tl d) (h4 : One g w w') : PivR g a b tl d w (.returned (.tuple #[.int .i64 (x : Int), .int .i64 (h : Int)])) w' := ⟨x, h, rfl, h1, h2, h3, h4⟩
set_option maxHeartbeats 8000000 in
theorem piv_any (g n cap a b : Nat) (tl : List Value) (d : Array Nat) (w : World) (hR : RowAt w g tl d) (hn : d.size = n) (hn2 : n ≤ 256) (hab : a < b) (hb : b ≤ n) :
   Calls Tryz.prog 163 #[.slice (some ⟨g, 0, none⟩) n cap, .int .i64 a, .int .i64 b] w (PivR g a b tl d w) := by
 have HR := Lib.hid hR
 have HN := Lib.hid hn
 obtain ⟨l, hl⟩ : ∃ l, l = b - a := ⟨_, rfl⟩
 obtain ⟨q, hq⟩ : ∃ q, q = l / 4 := ⟨_, rfl⟩
 obtain ⟨i, hi⟩ : ∃ i, i = a + q := ⟨_, rfl⟩
 obtain ⟨j, hj⟩ : ∃ j, j = a + q * 2 := ⟨_, rfl⟩
 obtain ⟨k, hk⟩ : ∃ k, k = a + q * 3 := ⟨_, rfl⟩
 have el : (b : Int) - (a : Int) = (l : Int) := by omega
 have eq4 : (l : Int).tdiv 4 = (q : Int) := by rw [hq]; rfl
 have ei : (a : Int) + (q : Int) = (i : Int) := by omega
 have ej : (a : Int) + (q : Int) * 2 = (j : Int) := by omega
 have ek : (a : Int) + (q : Int) * 3 = (k : Int) := by omega
 have AA := Lib.hid (And.intro hl (And.intro hq (And.intro hi (And.intro hj hk))))
 have bb : l ≤ 256 ∧ q ≤ 64 ∧ i ≤ 600 ∧ j ≤ 600 ∧ k ≤ 600 := by omega
 obtain ⟨b1, b2, b3, b4, b5⟩ := bb
 have X0 := Lib.hid (SBox.new w 3 #[.int .i64 0])
 have R0 := Lib.hid (show RowAt (w.alloc (.cells #[.int .i64 0] 3)) g tl d from SBox.alloc HR.out _)
 have B0 := Lib.hid ((Below.refl w.heap.size w).alloc (Nat.le_refl _) (.cells #[.int .i64 0] 3))
 have GS := Lib.hid (show g ≠ w.heap.size by have := HR.out.lt; omega)
 have c0 := X0.out.cell 0
 simp only [List.getElem?_toArray, List.getElem?_cons_zero] at c0
 have l0 := X0.out.lt
 clear hR hn hl hq hi hj hk
 go_enter Tryz.func163, Tryz.ntmps163
 by_cases h8 : 8 ≤ l
 · have t8 : (8 : Int) ≤ l := by omega
   by_cases h50 : 50 ≤ l
   · have t50 : (50 : Int) ≤ l := by omega
     clear c0 l0
     go_wp2_with fail
     refine Calls.mono (medAdj_any g n cap i w.heap.size 0 tl d _ R0.out HN.out hn2 (by have := AA.out; omega) (by have := AA.out; omega) X0.out (by omega) GS.out) ?_
     rintro e w2 ⟨x1, k1, rfl, h1, hR1, hX1, hk1, hO1⟩
     have R1 := Lib.hid hR1
     have X1 := Lib.hid hX1
     have O1 := Lib.hid hO1
     have H1 := Lib.hid h1
     clear hR1 hX1 hO1 h1
     go_wp2_with fail
     refine Calls.mono (medAdj_any g n cap j w.heap.size k1 tl d _ R1.out HN.out hn2 (by have := AA.out; omega) (by have := AA.out; omega) X1.out (by omega) GS.out) ?_
     rintro e w3 ⟨x2, k2, rfl, h2, hR2, hX2, hk2, hO2⟩
     have R2 := Lib.hid hR2
     have X2 := Lib.hid hX2
     have O2 := Lib.hid hO2
     have H2 := Lib.hid h2
     clear hR2 hX2 hO2 h2
     go_wp2_with fail
     refine Calls.mono (medAdj_any g n cap k w.heap.size k2 tl d _ R2.out HN.out hn2 (by have := AA.out; omega) (by have := AA.out; omega) X2.out (by omega) GS.out) ?_
     rintro e w4 ⟨x3, k3, rfl, h3, hR3, hX3, hk3, hO3⟩
     have R3 := Lib.hid hR3
     have X3 := Lib.hid hX3
     have O3 := Lib.hid hO3
     have H3 := Lib.hid h3
     clear hR3 hX3 hO3 h3
     go_wp2_with fail
     refine Calls.mono (median_any g n cap x1 x2 x3 w.heap.size k3 tl d _ R3.out HN.out hn2 (by have := AA.out; have := H1.out; omega) (by have := AA.out; have := H2.out; omega) (by have := AA.out; have := H3.out; omega) X3.out (by omega) GS.out) ?_
     rintro e w5 ⟨x4, k4, rfl, h4, hR4, hX4, hk4, hO4⟩
     have R4 := Lib.hid hR4
     have X4 := Lib.hid hX4
     have O4 := Lib.hid hO4
     have H4 := Lib.hid h4
     clear hR4 hX4 hO4 h4
     have PB := Lib.hid (show a ≤ x4 ∧ x4 < b by have := AA.out; have := H1.out; have := H2.out; have := H3.out; have := H4.out; unfold Of3 at this; omega)
     have O5 := Lib.hid (show One g w w5 from Tch.ext (Tch.of B0.out) (Tch.trans O1.out (Tch.trans O2.out (Tch.trans O3.out O4.out))) (fun c hc => .inr (by rw [hc]; exact Nat.le_refl _)))
     have c0 := X4.out.cell 0
     simp only [List.getElem?_toArray, List.getElem?_cons_zero] at c0
     have l0 := X4.out.lt
     by_cases z0 : k4 = 0
     · subst z0
       go_wp2_with fail
       go_ret2
       exact PivR.mk' PB.out (show 1 ≤ 2 by omega) R4.out O5.out
     · by_cases z12 : k4 = 12
       · subst z12
         go_wp2_with fail
         go_ret2
         exact PivR.mk' PB.out (show 2 ≤ 2 by omega) R4.out O5.out
       · have t0 : ((k4 : Int) == 0) = false := by simp; omega
         have t1 : ((k4 : Int) == 12) = false := by simp; omega
         clear z0 z12
         go_wp2_with fail
         go_ret2
         exact PivR.mk' PB.out (show 0 ≤ 2 by omega) R4.out O5.out
   · have t50 : ¬ (50 : Int) ≤ l := by omega
     clear c0 l0
     go_wp2_with fail
     refine Calls.mono (median_any g n cap i j k w.heap.size 0 tl d _ R0.out HN.out hn2 (by have := AA.out; omega) (by have := AA.out; omega) (by have := AA.out; omega) X0.out (by omega) GS.out) ?_
     rintro e w5 ⟨x4, k4, rfl, h4, hR4, hX4, hk4, hO4⟩
     have R4 := Lib.hid hR4
     have X4 := Lib.hid hX4
     have O4 := Lib.hid hO4
     have H4 := Lib.hid h4
     clear hR4 hX4 hO4 h4
     have PB := Lib.hid (show a ≤ x4 ∧ x4 < b by have := AA.out; have := H4.out; unfold Of3 at this; omega)
     have O5 := Lib.hid (show One g w w5 from Tch.ext (Tch.of B0.out) O4.out (fun c hc => .inr (by rw [hc]; exact Nat.le_refl _)))
     have c0 := X4.out.cell 0
     simp only [List.getElem?_toArray, List.getElem?_cons_zero] at c0
     have l0 := X4.out.lt
     by_cases z0 : k4 = 0
     · subst z0
       go_wp2_with fail
       go_ret2
       exact PivR.mk' PB.out (show 1 ≤ 2 by omega) R4.out O5.out
     · by_cases z12 : k4 = 12
       · subst z12
         go_wp2_with fail
         go_ret2
         exact PivR.mk' PB.out (show 2 ≤ 2 by omega) R4.out O5.out
       · have t0 : ((k4 : Int) == 0) = false := by simp; omega
         have t1 : ((k4 : Int) == 12) = false := by simp; omega
         clear z0 z12
         go_wp2_with fail
         go_ret2
         exact PivR.mk' PB.out (show 0 ≤ 2 by omega) R4.out O5.out
 · have t8 : ¬ (8 : Int) ≤ l := by omega
   go_wp2_with fail
   go_ret2
   exact PivR.mk' (by have := AA.out; omega) (show 1 ≤ 2 by omega) R0.out (Tch.of B0.out)
end Go.Proofs.YtmfhnhnmdeabeaaGreat.So
end
