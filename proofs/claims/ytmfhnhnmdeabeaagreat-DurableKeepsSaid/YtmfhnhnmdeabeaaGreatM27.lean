/- The reference of layer 18 (tree): Below. -/
import Derived.Test.YtmfhnhnmdeabeaaGreatM26
set_option linter.unusedVariables false
set_option linter.unusedSimpArgs false
set_option maxRecDepth 100000
section
namespace Go.Proofs.YtmfhnhnmdeabeaaGreat.Re
open Go.RowKit Go.Shelf Go.Maps Oct Path Tr
variable {R g room q : Nat} {S : T} {es : Nat → List Ent} {pa : Nat → Option Addr} {ca : Nat → Nat}
theorem w_sub {x i : Nat} (h : x = i + 1) (hx : x ≤ 256) : IntKind.u32.wrap ((x : Int) - 1) = i := by simp [IntKind.wrap, IntKind.bits, IntKind.signed]; omega
theorem RtM.cellsX {W : World} (h : RtM W R g room q S es pa ca) {x i : Nat} (hx : x = i + 1) (hi : i < room) : Cells4 W g i (S.n x) (es i) (pa i) (ca i) := by
 rw [hx]; exact h.cells hi
set_option maxHeartbeats 400000 in
theorem kind18 (W : World) (h : RtM W R g room q S es pa ca) (x : Nat) (h1 : 1 ≤ x) (h2 : x ≤ room) :
   Calls Tryz.prog 77 #[.pointer (some ⟨R, 0, none⟩), .int .u32 x] W fun e w' => e = .returned (.int .u8 (S.n x).kind) ∧ w' = W := by
 obtain ⟨i, hx⟩ : ∃ i, x = i + 1 := ⟨x - 1, by omega⟩
 have hi : i < room := by omega
 have hr := h.rm.2
 have h0 := h.topC
 have w1 := w_sub hx (by omega)
 obtain ⟨c0, c1, c2, c3, f⟩ := h.cellsX hx hi
 clear h hx c1 c2 c3 f h1 h2
 go_enter Tryz.func77, Tryz.ntmps77
 go_wp2_with fail
 go_ret
 exact ⟨rfl, rfl⟩
set_option maxHeartbeats 400000 in
theorem there18 (W : World) (h : RtM W R g room q S es pa ca) (x : Nat) (hx32 : x < 4294967296) :
   Calls Tryz.prog 74 #[.pointer (some ⟨R, 0, none⟩), .int .u32 x] W fun e w' => e = .returned (.bool (!((S.n x).kind == 0))) ∧ w' = W := by
 have hr := h.rm.2
 have h0 := h.topC
 have wr : IntKind.u32.wrap (room : Int) = room := by simp [IntKind.wrap, IntKind.bits, IntKind.signed]; omega
 have hrng := h.rng x
 by_cases hk : (S.n x).kind = 0
 · by_cases hin : 1 ≤ x ∧ x ≤ room
   · obtain ⟨i, hx⟩ : ∃ i, x = i + 1 := ⟨x - 1, by omega⟩
     have hi : i < room := by omega
     have t1 : (1 : Int) ≤ x := by omega
     have t2 : (x : Int) ≤ room := by omega
     have w1 := w_sub hx (by omega)
     obtain ⟨c0, c1, c2, c3, f⟩ := h.cellsX hx hi
     rw [hk] at c0 ⊢
     clear h hx c1 c2 c3 f hrng hk hin
     go_enter Tryz.func74, Tryz.ntmps74
     go_wp2_with fail
     go_ret
     exact ⟨rfl, rfl⟩
   · rw [hk]
     clear hrng hk
     by_cases h1 : 1 ≤ x
     · have t1 : (1 : Int) ≤ x := by omega
       have t2 : ¬ (x : Int) ≤ room := by omega
       clear h hin
       go_enter Tryz.func74, Tryz.ntmps74
       go_wp2_with fail
       go_ret
       exact ⟨rfl, rfl⟩
     · have t1 : ¬ (1 : Int) ≤ x := by omega
       clear h hin
       go_enter Tryz.func74, Tryz.ntmps74
       go_wp2_with fail
       go_ret
       exact ⟨rfl, rfl⟩
 · obtain ⟨h1, h2⟩ := hrng hk
   obtain ⟨i, hx⟩ : ∃ i, x = i + 1 := ⟨x - 1, by omega⟩
   have hi : i < room := by omega
   have t1 : (1 : Int) ≤ x := by omega
   have t2 : (x : Int) ≤ room := by omega
   have w1 := w_sub hx (by omega)
   obtain ⟨c0, c1, c2, c3, f⟩ := h.cellsX hx hi
   obtain ⟨k, hk2⟩ : ∃ k, (S.n x).kind = k := ⟨_, rfl⟩
   rw [hk2] at c0 hk ⊢
   have t3 : ((k : Int) != 0) = true := by simp; omega
   have t4 : (k == 0) = false := by simp; omega
   rw [t4]
   clear h hx c1 c2 c3 f hrng hk2 hk h1 h2 t4
   go_enter Tryz.func74, Tryz.ntmps74
   go_wp2_with fail
   go_ret
   exact ⟨rfl, rfl⟩
def filE (S : T) (x : Nat) : Nat := if (S.n x).kind = 0 then 3 else if (S.n x).kind = 2 then 181 else 0
set_option maxHeartbeats 400000 in
theorem file18 (W : World) (h : RtM W R g room q S es pa ca) (x : Nat) (hx32 : x < 4294967296) :
   Calls Tryz.prog 76 #[.pointer (some ⟨R, 0, none⟩), .int .u32 x] W fun e w' => e = .returned (.int .i64 (filE S x)) ∧ w' = W := by
 have H := Lib.hid h
 have HK := Lib.hid (h.rng x)
 have TH := Lib.hid (there18 W h x hx32)
 clear h
 go_enter Tryz.func76, Tryz.ntmps76
 go_wp2_with fail
 refine Calls.mono TH.out ?_
 rintro e w' ⟨rfl, rfl⟩
 by_cases hk : (S.n x).kind = 0
 · have E := Lib.hid (show filE S x = 3 by unfold filE; rw [if_pos hk])
   rw [hk]
   go_wp2_with fail
   go_ret
   exact ⟨by rw [E.out]; rfl, rfl⟩
 · have K := Lib.hid (kind18 w' H.out x (HK.out hk).1 (HK.out hk).2)
   have t4 : ((S.n x).kind == 0) = false := by simpa using hk
   rw [t4]
   clear t4
   by_cases h2 : (S.n x).kind = 2
   · have E := Lib.hid (show filE S x = 181 by unfold filE; rw [if_neg hk, if_pos h2])
     rw [h2] at K
     clear hk h2
     go_wp2_with fail
     refine Calls.mono K.out ?_
     rintro e w' ⟨rfl, rfl⟩
     go_wp2_with fail
     go_ret
     exact ⟨by rw [E.out]; rfl, rfl⟩
   · have E := Lib.hid (show filE S x = 0 by unfold filE; rw [if_neg hk, if_neg h2])
     have t5 : (((S.n x).kind : Int) == 2) = false := by simp; omega
     clear hk h2
     go_wp2_with fail
     refine Calls.mono K.out ?_
     rintro e w' ⟨rfl, rfl⟩
     go_wp2_with fail
     go_ret
     exact ⟨by rw [E.out]; rfl, rfl⟩
set_option maxHeartbeats 400000 in
theorem at18 (wz : World) (h : RtM wz R g room q S es pa ca) (x i : Nat) (hx : x = i + 1) (hi : i < room) (s : ByteArray) :
   Calls Tryz.prog 73 #[.pointer (some ⟨R, 0, none⟩), .int .u32 x, .string s] wz fun e w' => ∃ k, e = .returned (.int .i64 k) ∧ AtAns (es i) s k ∧ w' = wz := by
 have hr := h.rm.2
 have h0 := h.topC
 have w1 := w_sub hx (by omega)
 obtain ⟨c0, c1, c2, c3, f⟩ := h.cellsX hx hi
 have hq := (h.cap i hi).2
 have hq2 := h.q1
 have HE := Lib.hid (fun (k : Nat) (e : Ent) (he : (es i)[k]? = some e) => h.entC hi he)
 obtain ⟨r, hr2⟩ : ∃ r, es i = r := ⟨_, rfl⟩
 obtain ⟨p, hp⟩ : ∃ p, pa i = p := ⟨_, rfl⟩
 rw [hr2, hp] at HE c1
 rw [hr2] at hq ⊢
 obtain ⟨n, hn⟩ : ∃ n, r.length = n := ⟨_, rfl⟩
 rw [hn] at hq c1
 have HN := Lib.hid hn
 clear h hx c0 c2 c3 f hr2 hp hn
 go_enter Tryz.func73, Tryz.ntmps73
 go_wp2_with fail
 go_loopw [8] (fun s8 wr => ∃ k : Nat, k ≤ n ∧ s8 = .int .i64 k ∧ (∀ (j : Nat) (e : Ent), j < k → r[j]? = some e → e.1 ≠ s) ∧ wr = wz) (fun s8 _ => n - (intOf s8).toNat)
 case atStart => exact ⟨0, Nat.zero_le _, rfl, fun j e hj => absurd hj (Nat.not_lt_zero _), rfl⟩
 case round =>
   obtain ⟨k, hk, rfl, hno, rfl⟩ := hrel
   have NO := Lib.hid hno
   clear hno
   rcases Nat.lt_or_ge k n with hlt | hge
   · have t1 : (k : Int) < n := by omega
     obtain ⟨e, he⟩ : ∃ e : Ent, r[k]? = some e := ⟨_, List.getElem?_eq_getElem (by rw [HN.out]; exact hlt)⟩
     obtain ⟨b, rfl, hb1, hb2, d0, d1⟩ := HE.out k e he
     obtain ⟨t, y⟩ := e
     simp only at d0 d1
     have HX := Lib.hid he
     clear he hb2 d1
     by_cases hs : t = s
     · subst hs
       go_wp2_with fail
       go_ret
       exact ⟨k, rfl, .inr ⟨k, y, HX.out, rfl⟩, rfl⟩
     · have t2 : (t.toList == s.toList) = false := by
         rw [toList_L, toList_L]
         simpa using fun q => hs (L_inj q)
       go_wp2_with fail
       go_roundw
       case rel =>
         refine ⟨k + 1, by omega, by go_num, fun j e hj hje => ?_, by trivial⟩
         rcases Nat.lt_or_ge j k with q | q
         · exact NO.out j e q hje
         · have : j = k := by omega
           subst this
           rw [HX.out] at hje
           cases hje
           exact hs
       case measure => simp [intOf]; omega
   · have e : k = n := by omega
     subst e
     go_wp2_with fail
     go_ret
     exact ⟨_, rfl, .inl ⟨rfl, fun j e he => NO.out j e (by have := (List.getElem?_eq_some_iff.1 he).1; rw [HN.out] at this; exact this) he⟩, rfl⟩
end Go.Proofs.YtmfhnhnmdeabeaaGreat.Re
end
section
namespace Go.Proofs.YtmfhnhnmdeabeaaGreat.Re
open Go.RowKit Go.Shelf Go.Maps Oct Path Tr
variable {R g room q : Nat} {S : T} {es : Nat → List Ent} {pa : Nat → Option Addr} {ca : Nat → Nat}
theorem bel_trans {S : T} {a b c : Nat} (h1 : Bel S a b) (h2 : Bel S b c) : Bel S a c := by
 induction h2 with
 | here => exact h1
 | up d h _ ih => exact .up d h ih
theorem bel_down {S : T} (hI : Inv room S) {top d : Nat} (ht : 1 ≤ top) : Bel S top d ↔ d = top ∨ ∃ s, S.l top s ≠ 0 ∧ (S.n (S.l top s)).kind = 2 ∧ Bel S (S.l top s) d := by
 constructor
 · intro h
   induction h with
   | here => exact .inl rfl
   | up d h _ ih =>
     right
     rcases ih with e | ⟨s, h1, h2, h3⟩
     · obtain ⟨a, b, s, hs⟩ := hI.up_ent h
       rw [e] at hs
       refine ⟨s, ?_, ?_, ?_⟩
       · rw [hs]
         intro e0
         subst e0
         have := hI.zero
         omega
       · rw [hs]; exact a
       · rw [hs]; exact .here
     · exact ⟨s, h1, h2, .up d h h3⟩
 · rintro (rfl | ⟨s, h1, h2, h3⟩)
   · exact .here
   · have e := hI.one top s h2
     exact bel_trans (.up _ (by rw [e]; omega) (by rw [e]; exact .here)) h3
theorem rk_bound (rk : Nat → Nat) : ∀ n : Nat, ∃ N, ∀ x, x ≤ n → rk x ≤ N
 | 0 => ⟨rk 0, fun x hx => by rw [Nat.le_zero.1 hx]; exact Nat.le_refl _⟩
 | n + 1 => by
   obtain ⟨N, h⟩ := rk_bound rk n
   refine ⟨N + rk (n + 1), fun x hx => ?_⟩
   rcases Nat.lt_or_ge n x with q | q
   · rw [show x = n + 1 by omega]; omega
   · have := h x q; omega
set_option maxHeartbeats 400000 in
theorem below18 (wz : World) (h : RtM wz R g room q S es pa ca) (hI : Inv room S) (rk : Nat → Nat) (hrk : ∀ x, (S.n x).up ≠ 0 → rk (S.n x).up < rk x) (N : Nat) (hN : ∀ x, x ≤ room → rk x ≤ N) (dir : Nat) :
   ∀ m top : Nat, 1 ≤ top → top ≤ room → N ≤ rk top + m → ∀ b : Bool, (b = true ↔ Bel S top dir) →
     Calls Tryz.prog 120 #[.pointer (some ⟨R, 0, none⟩), .int .u32 dir, .int .u32 top] wz fun e w' => e = .returned (.bool b) ∧ w' = wz := by
 intro m
 induction m using Nat.strongRecOn with
 | ind m ih =>
 intro top h1 h2 hm b hb
 have IH := Lib.hid ih
 have HB := Lib.hid hb
 have HM := Lib.hid hm
 have HRK := Lib.hid hrk
 have HNN := Lib.hid hN
 have HI := Lib.hid hI
 have H := Lib.hid h
 clear ih hb hm hrk hN hI
 by_cases e : dir = top
 · subst e
   have e : b = true := HB.out.2 .here
   subst e
   clear h
   go_enter Tryz.func120, Tryz.ntmps120
   go_wp2_with fail
   go_ret
   exact ⟨rfl, rfl⟩
 have t0 : ((dir : Int) == top) = false := by simp; omega
 have HNE := Lib.hid e
 clear e
 obtain ⟨i, hx⟩ : ∃ i, top = i + 1 := ⟨top - 1, by omega⟩
 have hi : i < room := by omega
 have hr := h.rm.2
 have h0 := h.topC
 have w1 := w_sub hx (by omega)
 obtain ⟨c0, c1, c2, c3, f⟩ := h.cellsX hx hi
 have hq := (h.cap i hi).2
 have hq2 := h.q1
 have HE := Lib.hid (fun (k : Nat) (e : Ent) (he : (es i)[k]? = some e) => h.entC hi he)
 have HER := Lib.hid (fun (k : Nat) (e : Ent) (he : (es i)[k]? = some e) => h.entR hi he)
 rw [← hx] at HER
 have LI : Hid (Listing (S.l top) (es i)) := Lib.hid (by rw [hx]; exact h.rows.lst i hi)
 obtain ⟨r, hr2⟩ : ∃ r, es i = r := ⟨_, rfl⟩
 obtain ⟨p, hp⟩ : ∃ p, pa i = p := ⟨_, rfl⟩
 rw [hr2, hp] at HE c1
 rw [hr2] at hq HER LI
 obtain ⟨n, hn⟩ : ∃ n, r.length = n := ⟨_, rfl⟩
 rw [hn] at hq c1
 have HN := Lib.hid hn
 clear h hx c0 c2 c3 f hr2 hp hn
 go_enter Tryz.func120, Tryz.ntmps120
 go_wp2_with fail
 go_loopw [8] (fun s8 wr => ∃ k : Nat, k ≤ n ∧ s8 = .int .i64 k ∧ (∀ (j : Nat) (e : Ent), j < k → r[j]? = some e → ¬ ((S.n e.2).kind = 2 ∧ Bel S e.2 dir)) ∧ wr = wz) (fun s8 _ => n - (intOf s8).toNat)
 case atStart => exact ⟨0, Nat.zero_le _, rfl, fun j e hj => absurd hj (Nat.not_lt_zero _), rfl⟩
 case round =>
   obtain ⟨k, hk, rfl, hno, rfl⟩ := hrel
   have NO := Lib.hid hno
   clear hno
   rcases Nat.lt_or_ge k n with hlt | hge
   · have t1 : (k : Int) < n := by omega
     obtain ⟨e, he⟩ : ∃ e : Ent, r[k]? = some e := ⟨_, List.getElem?_eq_getElem (by rw [HN.out]; exact hlt)⟩
     obtain ⟨b', rfl, hb1, hb2, d0, d1⟩ := HE.out k e he
     obtain ⟨e1, e2, e3⟩ := HER.out k e he
     obtain ⟨t, y⟩ := e
     simp only at d0 d1 e1 e2 e3
     have HX := Lib.hid he
     have E1 := Lib.hid e1
     have hyk := (HI.out.ent top (L t) (by rw [e1]; exact e2)).1
     rw [e1] at hyk
     obtain ⟨y1, y2⟩ := H.out.rng y hyk
     have KI := Lib.hid (kind18 wr H.out y y1 y2)
     clear he hb2 d0 e1 e3 hyk
     by_cases hy2 : (S.n y).kind = 2
     · rw [hy2] at KI
       have HY := Lib.hid hy2
       have hup := HI.out.one top (L t) (by rw [E1.out]; exact hy2)
       rw [E1.out] at hup
       have hlt2 := HRK.out y (by rw [hup]; omega)
       rw [hup] at hlt2
       have hle2 := HNN.out y y2
       have hm2 := HM.out
       have hmm : m - 1 < m := by omega
       have hmn : N ≤ rk y + (m - 1) := by omega
       by_cases hbel : Bel S y dir
       · have BL := Lib.hid (IH.out (m - 1) hmm y y1 y2 hmn true (by simp [hbel]))
         have e : b = true := HB.out.2 ((bel_down HI.out h1).2 (.inr ⟨L t, by rw [E1.out]; exact e2, by rw [E1.out]; exact HY.out, by rw [E1.out]; exact hbel⟩))
         subst e
         clear hy2 hup hlt2 hle2 hm2 hmm hmn hbel
         go_wp2_with fail
         refine Calls.mono KI.out ?_
         rintro e w' ⟨rfl, rfl⟩
         go_wp2_with fail
         refine Calls.mono BL.out ?_
         rintro e w' ⟨rfl, rfl⟩
         go_wp2_with fail
         go_ret
         exact ⟨rfl, rfl⟩
       · have BL := Lib.hid (IH.out (m - 1) hmm y y1 y2 hmn false (by simp [hbel]))
         have HBL := Lib.hid hbel
         clear hy2 hup hlt2 hle2 hm2 hmm hmn hbel
         go_wp2_with fail
         refine Calls.mono KI.out ?_
         rintro e w' ⟨rfl, rfl⟩
         go_wp2_with fail
         refine Calls.mono BL.out ?_
         rintro e w' ⟨rfl, rfl⟩
         go_wp2_with fail
         go_roundw
         case rel =>
           refine ⟨k + 1, by omega, by go_num, fun j e hj hje => ?_, by trivial⟩
           rcases Nat.lt_or_ge j k with q | q
           · exact NO.out j e q hje
           · have : j = k := by omega
             subst this
             rw [HX.out] at hje
             cases hje
             exact fun hh => HBL.out hh.2
         case measure => simp [intOf]; omega
     · have t5 : (((S.n y).kind : Int) == 2) = false := by simp; omega
       have HY := Lib.hid hy2
       clear hy2
       go_wp2_with fail
       refine Calls.mono KI.out ?_
       rintro e w' ⟨rfl, rfl⟩
       go_wp2_with fail
       go_roundw
       case rel =>
         refine ⟨k + 1, by omega, by go_num, fun j e hj hje => ?_, by trivial⟩
         rcases Nat.lt_or_ge j k with q | q
         · exact NO.out j e q hje
         · have : j = k := by omega
           subst this
           rw [HX.out] at hje
           cases hje
           exact fun hh => HY.out hh.1
       case measure => simp [intOf]; omega
   · have e : k = n := by omega
     subst e
     have e : b = false := by
       cases b
       · rfl
       · rcases (bel_down HI.out h1).1 (HB.out.1 rfl) with e | ⟨s, g1, g2, g3⟩
         · exact absurd e HNE.out
         · have hs := (H.out.rows.nm top s g1).2.2
           obtain ⟨j, hj⟩ := List.mem_iff_getElem?.1 ((LI.out.2 (B s, S.l top s)).2 ⟨by rw [L_B], g1, hs⟩)
           exact absurd ⟨g2, g3⟩ (NO.out j _ (by have := (List.getElem?_eq_some_iff.1 hj).1; rw [HN.out] at this; exact this) hj)
     subst e
     go_wp2_with fail
     go_ret
     exact ⟨rfl, rfl⟩
end Go.Proofs.YtmfhnhnmdeabeaaGreat.Re
end
