/- slices.Sort at numbers of 32 bits: pdqsortOrdered. -/
import Derived.Test.YtmfhnhnmdeabeaaGreatM15
import Derived.Test.YtmfhnhnmdeabeaaGreatM16
import Derived.Test.YtmfhnhnmdeabeaaGreatM17
import Derived.Test.YtmfhnhnmdeabeaaGreatM18
import Derived.Deep.LoopGhost
import Derived.Deep.DeepCutAuto
set_option linter.unusedVariables false
set_option linter.unusedSimpArgs false
set_option maxRecDepth 100000
section
namespace Go.Proofs.YtmfhnhnmdeabeaaGreat.So
open Go.RowKit Go.Shelf Tr
def PdqR (g : Nat) (tl : List Value) (a b : Nat) (d : Array Nat) (w : World) (e : Ending) (w' : World) : Prop := e = .returned (.tuple #[]) ∧ ∃ d', Sort.PermIn a b d d' ∧ Sort.SortedIn ltN a b d' ∧ RowAt w' g tl d' ∧ One g w w'
theorem PdqR.of {g a b u v : Nat} {tl : List Value} {d dk d' : Array Nat} {w w' : World} (h : Fin a b u v d dk) (hb : b ≤ d.size) (h1 : Sort.PermIn u v dk d') (h2 : Sort.SortedIn ltN u v d') (h3 : RowAt w' g tl d') (h4 : One g w w') : PdqR g tl a b d w (.returned (.tuple #[])) w' :=
 ⟨rfl, d', (h.done hb h1 h2).1, (h.done hb h1 h2).2, h3, h4⟩
set_option maxHeartbeats 4000000 in
theorem pdq_any (g n cap : Nat) (hn2 : n ≤ 256) (tl : List Value) : ∀ (N a b lim : Nat) (d : Array Nat) (w : World), b - a < N → RowAt w g tl d → d.size = n → a ≤ b → b ≤ n → lim ≤ 64 → Sort.Below ltN a b d →
   Calls Tryz.prog 140 #[.slice (some ⟨g, 0, none⟩) n cap, .int .i64 a, .int .i64 b, .int .i64 lim] w (PdqR g tl a b d w) := by
 intro N
 induction N with
 | zero => intro a b lim d w h; exact absurd h (Nat.not_lt_zero _)
 | succ N ih =>
   intro a b lim d w hN hR hn hab hb hlim hBel
   have HR := Lib.hid hR
   have HN := Lib.hid hn
   have HBE := Lib.hid hBel
   have IH := Lib.hid ih
   have HB := Lib.hid (show b ≤ d.size by omega)
   clear hR hn hBel ih
   go_enter Tryz.func140, Tryz.ntmps140
   go_wp2_with fail
   go_loopg [1, 2, 3, 8, 9] (b - a) (fun k s1 s2 s3 s8 s9 wr => ∃ (u v lm : Nat) (wb wp : Bool) (dk : Array Nat), s1 = .int .i64 u ∧ s2 = .int .i64 v ∧ s3 = .int .i64 lm ∧ s8 = .bool wb ∧ s9 = .bool wp ∧ v - u ≤ k ∧ k ≤ b - a ∧ lm ≤ 64 ∧ Fin a b u v d dk ∧ RowAt wr g tl dk ∧ One g w wr)
   case atStart => exact ⟨a, b, lim, true, true, d, rfl, rfl, rfl, rfl, rfl, Nat.le_refl _, Nat.le_refl _, hlim, Fin.start hab HBE.out, HR.out, Tch.refl _ _⟩
   case round =>
     obtain ⟨u, v, lm, wb, wp, dk, rfl, rfl, rfl, rfl, rfl, hk, hkb, hlm, hF, hRk, hOk⟩ := hrel
     have RK := Lib.hid hRk
     have OK := Lib.hid hOk
     have FK := Lib.hid hF
     have buv : u ≤ v ∧ v ≤ b := ⟨hF.uv, hF.vb⟩
     obtain ⟨len, hlen⟩ : ∃ len, len = v - u := ⟨_, rfl⟩
     have el : (v : Int) - (u : Int) = (len : Int) := by omega
     have LE := Lib.hid hlen
     have l256 : len ≤ 256 := by omega
     clear hRk hOk hF hlen
     by_cases h12 : len ≤ 12
     · have t12 : (len : Int) ≤ 12 := by omega
       go_wp2_with fail
       refine Calls.mono (ins_any g n cap u v tl dk _ RK.out (by rw [FK.out.size]; exact HN.out) hn2 (by omega) (by omega)) ?_
       rintro e w2 ⟨rfl, hR2, hO2⟩
       have R2 := Lib.hid hR2
       have O2 := Lib.hid hO2
       clear hR2 hO2
       go_wp2_with fail
       refine bodyPost_ret (results_none rfl _ _ _) rfl ?_
       have h := Sort.insertionSort_holds (lt := ltN) swo dk u v (by omega) (by rw [FK.out.size]; have := HB.out; omega)
       exact PdqR.of FK.out HB.out h.1 h.2 R2.out (Tch.trans OK.out O2.out)
     · have t12 : ¬ (len : Int) ≤ 12 := by omega
       by_cases hl0 : lm = 0
       · subst hl0
         go_wp2_with fail
         refine Calls.mono (heap_any g n cap u v tl dk _ RK.out (by rw [FK.out.size]; exact HN.out) hn2 (by omega) (by omega)) ?_
         rintro e w2 ⟨rfl, hR2, hO2⟩
         have R2 := Lib.hid hR2
         have O2 := Lib.hid hO2
         clear hR2 hO2
         go_wp2_with fail
         refine bodyPost_ret (results_none rfl _ _ _) rfl ?_
         have h := Sort.heapSort_holds (lt := ltN) swo dk u v (by omega) (by rw [FK.out.size]; have := HB.out; omega)
         exact PdqR.of FK.out HB.out h.1 h.2 R2.out (Tch.trans OK.out O2.out)
       · have tl0 : ((lm : Int) == 0) = false := by simp; omega
         go_upto_if 35 with fail
         go_cut [3] (fun s3 wx => ∃ (lm2 : Nat) (dk2 : Array Nat), s3 = .int .i64 lm2 ∧ lm2 ≤ 64 ∧ Fin a b u v d dk2 ∧ RowAt wx g tl dk2 ∧ One g w wx)
         case first =>
           rcases wb with _ | _
           · go_wp2_with fail
             refine Calls.mono (brk_any g n cap u v tl dk _ RK.out (by rw [FK.out.size]; exact HN.out) hn2 (by omega) (by omega)) ?_
             rintro e w2 ⟨rfl, d2, hP2, hR2, hO2⟩
             have P2 := Lib.hid hP2
             have R2 := Lib.hid hR2
             have O2 := Lib.hid hO2
             clear hR2 hO2 hP2
             go_wp2_with fail
             go_meet
             case rel => exact ⟨lm - 1, d2, by simp; omega, by omega, FK.out.turn HB.out P2.out, R2.out, Tch.trans OK.out O2.out⟩
           · go_wp2_with fail
             go_meet
             case rel => exact ⟨lm, dk, rfl, by omega, FK.out, RK.out, OK.out⟩
         case rest =>
           obtain ⟨lm2, dk2, rfl, hlm2, hF2, hR2, hO2⟩ := hcut
           have R2 := Lib.hid hR2
           have O2 := Lib.hid hO2
           have F2 := Lib.hid hF2
           clear hR2 hO2 hF2 t12 tl0
           have h12' : 12 < len := by omega
           go_wp2_with fail
           refine Calls.mono (piv_any g n cap u v tl dk2 _ R2.out (by rw [F2.out.size]; exact HN.out) hn2 (by omega) (by omega)) ?_
           rintro e w3 ⟨x, h, rfl, hx, hh, hR3, hO3⟩
           have R3 := Lib.hid hR3
           have O3 := Lib.hid (Tch.trans O2.out hO3)
           clear hR3 hO3
           go_upto_if 50 with fail
           go_cut [11, 12] (fun s11 s12 wx => ∃ (q h2 : Nat) (dk3 : Array Nat), s11 = .int .i64 q ∧ s12 = .int .i64 h2 ∧ u ≤ q ∧ q < v ∧ h2 ≤ 2 ∧ Fin a b u v d dk3 ∧ RowAt wx g tl dk3 ∧ One g w wx)
           case first =>
             by_cases hh2 : h = 2
             · subst hh2
               obtain ⟨y, hy⟩ : ∃ y, y = x - u := ⟨_, rfl⟩
               obtain ⟨z, hz⟩ : ∃ z, z = v - 1 - y := ⟨_, rfl⟩
               have v1 : (v : Int) - 1 = ((v - 1 : Nat) : Int) := by omega
               have ey : (x : Int) - (u : Int) = (y : Int) := by omega
               have ez : ((v - 1 : Nat) : Int) - (y : Int) = (z : Int) := by omega
               have QZ := Lib.hid (show u ≤ z ∧ z < v by omega)
               clear hy hz
               go_wp2_with fail
               refine Calls.mono (rev_any g n cap u v tl dk2 _ R3.out (by rw [F2.out.size]; exact HN.out) hn2 (by omega) (by omega)) ?_
               rintro e w4 ⟨rfl, d4, hP4, hR4, hO4⟩
               have P4 := Lib.hid hP4
               have R4 := Lib.hid hR4
               have O4 := Lib.hid hO4
               clear hR4 hO4 hP4
               go_wp2_with fail
               go_meet
               case rel => exact ⟨z, 1, d4, by first | rfl | (simp; omega), rfl, QZ.out.1, QZ.out.2, by omega, F2.out.turn HB.out P4.out, R4.out, Tch.trans O3.out O4.out⟩
             · have th : ((h : Int) == 2) = false := by simp; omega
               go_wp2_with fail
               go_meet
               case rel => exact ⟨x, h, dk2, rfl, rfl, hx.1, hx.2, hh, F2.out, R3.out, O3.out⟩
           case rest =>
             obtain ⟨q, h2, dk3, rfl, rfl, hq1, hq2, hh2, hF3, hR4, hO4⟩ := hcut
             have R4 := Lib.hid hR4
             have O4 := Lib.hid hO4
             have F3 := Lib.hid hF3
             clear hR4 hO4 hF3
             go_upto_region 15 with fail
             go_cut [68] (fun c wx => ∃ y : Bool, c = .bool y ∧ RowAt wx g tl dk3 ∧ One g w wx)
             case first =>
               rcases wb with _ | _ <;> rcases wp with _ | _
               all_goals (by_cases hh3 : h2 = 1)
               all_goals first | subst hh3 | (have th : ((h2 : Int) == 1) = false := by simp; omega)
               all_goals go_wp2_with fail
               all_goals go_meet
               all_goals exact ⟨_, rfl, R4.out, O4.out⟩
             case rest =>
               obtain ⟨y, rfl, hR5, hO5⟩ := hcut
               have R5 := Lib.hid hR5
               have O5 := Lib.hid hO5
               clear hR5 hO5
               go_upto_if 68 with fail
               go_cut [] (fun wx => ∃ dk4, Fin a b u v d dk4 ∧ RowAt wx g tl dk4 ∧ One g w wx)
               case first =>
                 rcases y with _ | _
                 · go_wp2_with fail
                   go_meet
                   case rel => exact ⟨dk3, F3.out, R5.out, O5.out⟩
                 · go_wp2_with fail
                   refine Calls.mono (par_eq g n cap u v tl dk3 _ R5.out (by rw [F3.out.size]; exact HN.out) hn2 (by omega) (by omega)) ?_
                   rintro e w4 ⟨rfl, hR6, hO6⟩
                   have hS := Sort.partialInsertionSort_holds (lt := ltN) swo dk3 u v (by omega) (by rw [F3.out.size]; have := HB.out; omega)
                   obtain ⟨P, hP⟩ : ∃ P, Sort.partialInsertionSort ltN dk3 u v = P := ⟨_, rfl⟩
                   rw [hP] at hR6 hS ⊢
                   obtain ⟨d4, y4⟩ := P
                   have R6 := Lib.hid hR6
                   have O6 := Lib.hid (Tch.trans O5.out hO6)
                   have S6 := Lib.hid hS
                   clear hR6 hO6 hS hP
                   rcases y4 with _ | _
                   · go_wp2_with fail
                     go_meet
                     case rel => exact ⟨d4, F3.out.turn HB.out (S6.out F3.out.below).1, R6.out, O6.out⟩
                   · go_wp2_with fail
                     refine bodyPost_ret (results_none rfl _ _ _) rfl ?_
                     exact PdqR.of F3.out HB.out (S6.out F3.out.below).1 ((S6.out F3.out.below).2 (by first | rfl | trivial)) R6.out O6.out
               case rest =>
                 obtain ⟨dk4, hF4, hR6, hO6⟩ := hcut
                 have R6 := Lib.hid hR6
                 have O6 := Lib.hid hO6
                 have F4 := Lib.hid hF4
                 clear hR6 hO6 hF4
                 have sz := F4.out.size
                 by_cases hu : 0 < u
                 · have tu : (u : Int) > 0 := by omega
                   have eu : (u : Int) - 1 = ((u - 1 : Nat) : Int) := by omega
                   have z1 : ((u - 1 : Nat) : Int) < n := by omega
                   have z2 : (q : Int) < n := by omega
                   have c1 := fun m0 => (R6.out.drewN m0).cell (i := u - 1) (by have := HN.out; omega)
                   have c2 := fun m0 => (R6.out.drewN m0).cell (i := q) (by have := HN.out; omega)
                   obtain ⟨x, hx⟩ : ∃ x, dk4[u - 1]! = x := ⟨_, rfl⟩
                   obtain ⟨y, hy⟩ : ∃ y, dk4[q]! = y := ⟨_, rfl⟩
                   rw [hx] at c1
                   rw [hy] at c2
                   have XY := Lib.hid (And.intro hx hy)
                   have hl := R6.out.lt
                   obtain ⟨u1, hu1⟩ : ∃ u1, u - 1 = u1 := ⟨_, rfl⟩
                   rw [hu1] at eu z1 c1
                   clear hx hy
                   go_wp2_with fail
                   go_quiet ((go_at_call 166; exact Calls.quiet_of_same (turn (less_any x y _))))
                   rcases hxy : ltN x y with _ | _
                   · have HX := Lib.hid hxy
                     clear hxy
                     obtain ⟨w7, hw7⟩ : ∃ w7, wc.drewN nq = w7 := ⟨_, rfl⟩
                     have R7 := Lib.hid (show RowAt w7 g tl dk4 by rw [← hw7]; exact R6.out.drewN _)
                     have O7 := Lib.hid (show One g w w7 by rw [← hw7]; exact Tch.trans O6.out (One.drewN _))
                     rw [hw7]
                     clear hw7 c1 c2 hl
                     go_wp2_with fail
                     refine Calls.mono (eql_any g n cap u v q tl dk4 _ R7.out (by rw [F4.out.size]; exact HN.out) hn2 (by omega) (by omega) hq1 hq2) ?_
                     rintro e w8 ⟨m, d6, rfl, hE6, hR8, hO8⟩
                     have R8 := Lib.hid hR8
                     have O8 := Lib.hid (Tch.trans O7.out hO8)
                     have E6 := Lib.hid hE6
                     have hm1 : u < m := hE6.am
                     have hm2 : m ≤ v := hE6.mb
                     have F8 := Lib.hid (F4.out.eql HB.out (by omega) hE6 (by rw [XY.out.1, XY.out.2]; exact HX.out))
                     clear hR8 hO8 hE6
                     go_wp2_with fail
                     go_roundg (v - m)
                     case measure => omega
                     case rel => exact ⟨m, v, lm2, _, _, d6, rfl, rfl, rfl, rfl, rfl, Nat.le_refl _, by omega, hlm2, F8.out, R8.out, O8.out⟩
                   · clear hxy
                     obtain ⟨w7, hw7⟩ : ∃ w7, wc.drewN nq = w7 := ⟨_, rfl⟩
                     have R7 := Lib.hid (show RowAt w7 g tl dk4 by rw [← hw7]; exact R6.out.drewN _)
                     have O7 := Lib.hid (show One g w w7 by rw [← hw7]; exact Tch.trans O6.out (One.drewN _))
                     rw [hw7]
                     clear hw7 c1 c2 hl
                     go_wp2_with fail
                     obtain ⟨l8, hl8⟩ : ∃ l8, l8 = len / 8 := ⟨_, rfl⟩
                     have t8 : (len : Int).tdiv 8 = (l8 : Int) := by rw [hl8]; rfl
                     have bl8 : l8 ≤ 256 := by omega
                     clear hl8
                     refine Calls.mono (part_any g n cap u v q tl dk4 _ R7.out (by rw [F4.out.size]; exact HN.out) hn2 (by omega) (by omega) hq1 hq2) ?_
                     rintro e w8 ⟨m, d6, ap, rfl, hP6, hR8, hO8⟩
                     have R8 := Lib.hid hR8
                     have O8 := Lib.hid (Tch.trans O7.out hO8)
                     have P6 := Lib.hid hP6
                     have hPa : u ≤ m := hP6.am
                     have hPb : m + 1 ≤ v := hP6.mb
                     have S6 := Lib.hid (show d6.size = d.size by rw [hP6.perm.1, F4.out.size])
                     clear hR8 hO8 hP6
                     obtain ⟨a1, ha1⟩ : ∃ a1, a1 = m - u := ⟨_, rfl⟩
                     obtain ⟨a2, ha2⟩ : ∃ a2, a2 = v - m := ⟨_, rfl⟩
                     have e1 : (m : Int) - (u : Int) = (a1 : Int) := by omega
                     have e2 : (v : Int) - (m : Int) = (a2 : Int) := by omega
                     obtain ⟨m1, hm1⟩ : ∃ m1, m1 = m + 1 := ⟨_, rfl⟩
                     have em : (m : Int) + 1 = (m1 : Int) := by omega
                     have bm1 : m1 ≤ 256 := by omega
                     have b1 : a1 ≤ 256 := by omega
                     have b2 : a2 ≤ 256 := by omega
                     have AA := Lib.hid (And.intro ha1 (And.intro ha2 hm1))
                     have HN6 := Lib.hid (show u ≤ m ∧ m + 1 ≤ v ∧ v - u < N + 1 by omega)
                     clear ha1 ha2 hm1
                     go_upto_if 113 with fail
                     by_cases hlr : m - u < v - m
                     · have tlr : (a1 : Int) < (a2 : Int) := by have := AA.out.1; have := AA.out.2.1; omega
                       go_wp2_with fail
                       refine Calls.mono (IH.out u m lm2 d6 _ (by have := HN6.out; omega) R8.out (by rw [S6.out]; exact HN.out) hPa (by omega) hlm2 (F4.out.belowL HB.out P6.out)) ?_
                       rintro e w9 ⟨rfl, d7, hP7, hS7, hR9, hO9⟩
                       have R9 := Lib.hid hR9
                       have O9 := Lib.hid (Tch.trans O8.out hO9)
                       have F9 := Lib.hid (F4.out.left HB.out P6.out hP7 hS7)
                       clear hR9 hO9 hP7 hS7
                       go_wp2_with fail
                       go_roundg (v - (m + 1))
                       case measure => omega
                       case rel => exact ⟨m1, v, lm2, _, ap, d7, rfl, rfl, rfl, rfl, rfl, by have := AA.out.2.2; omega, by omega, hlm2, by rw [AA.out.2.2]; exact F9.out, R9.out, O9.out⟩
                     · have tlr : ¬ (a1 : Int) < (a2 : Int) := by have := AA.out.1; have := AA.out.2.1; omega
                       go_wp2_with fail
                       refine Calls.mono (IH.out m1 v lm2 d6 _ (by have := HN6.out; have := AA.out.2.2; omega) R8.out (by rw [S6.out]; exact HN.out) (by have := AA.out.2.2; omega) (by omega) hlm2 (by rw [AA.out.2.2]; exact Fin.belowR P6.out)) ?_
                       rintro e w9 ⟨rfl, d7, hP7, hS7, hR9, hO9⟩
                       have R9 := Lib.hid hR9
                       have O9 := Lib.hid (Tch.trans O8.out hO9)
                       have F9 := Lib.hid (F4.out.right HB.out P6.out (by rw [← AA.out.2.2]; exact hP7) (by rw [← AA.out.2.2]; exact hS7))
                       clear hR9 hO9 hP7 hS7
                       go_wp2_with fail
                       go_roundg (m - u)
                       case measure => omega
                       case rel => exact ⟨u, m, lm2, _, ap, d7, rfl, rfl, rfl, rfl, rfl, Nat.le_refl _, by omega, hlm2, F9.out, R9.out, O9.out⟩
                 · have tu : ¬ (u : Int) > 0 := by omega
                   go_wp2_with fail
                   go_quiet (fail)
                   obtain ⟨w7, hw7⟩ : ∃ w7, wc.drewN nq = w7 := ⟨_, rfl⟩
                   have R7 := Lib.hid (show RowAt w7 g tl dk4 by rw [← hw7]; exact R6.out.drewN _)
                   have O7 := Lib.hid (show One g w w7 by rw [← hw7]; exact Tch.trans O6.out (One.drewN _))
                   rw [hw7]
                   clear hw7
                   go_wp2_with fail
                   obtain ⟨l8, hl8⟩ : ∃ l8, l8 = len / 8 := ⟨_, rfl⟩
                   have t8 : (len : Int).tdiv 8 = (l8 : Int) := by rw [hl8]; rfl
                   have bl8 : l8 ≤ 256 := by omega
                   clear hl8
                   refine Calls.mono (part_any g n cap u v q tl dk4 _ R7.out (by rw [F4.out.size]; exact HN.out) hn2 (by omega) (by omega) hq1 hq2) ?_
                   rintro e w8 ⟨m, d6, ap, rfl, hP6, hR8, hO8⟩
                   have R8 := Lib.hid hR8
                   have O8 := Lib.hid (Tch.trans O7.out hO8)
                   have P6 := Lib.hid hP6
                   have hPa : u ≤ m := hP6.am
                   have hPb : m + 1 ≤ v := hP6.mb
                   have S6 := Lib.hid (show d6.size = d.size by rw [hP6.perm.1, F4.out.size])
                   clear hR8 hO8 hP6
                   obtain ⟨a1, ha1⟩ : ∃ a1, a1 = m - u := ⟨_, rfl⟩
                   obtain ⟨a2, ha2⟩ : ∃ a2, a2 = v - m := ⟨_, rfl⟩
                   have e1 : (m : Int) - (u : Int) = (a1 : Int) := by omega
                   have e2 : (v : Int) - (m : Int) = (a2 : Int) := by omega
                   obtain ⟨m1, hm1⟩ : ∃ m1, m1 = m + 1 := ⟨_, rfl⟩
                   have em : (m : Int) + 1 = (m1 : Int) := by omega
                   have bm1 : m1 ≤ 256 := by omega
                   have b1 : a1 ≤ 256 := by omega
                   have b2 : a2 ≤ 256 := by omega
                   have AA := Lib.hid (And.intro ha1 (And.intro ha2 hm1))
                   have HN6 := Lib.hid (show u ≤ m ∧ m + 1 ≤ v ∧ v - u < N + 1 by omega)
                   clear ha1 ha2 hm1
                   go_upto_if 113 with fail
                   by_cases hlr : m - u < v - m
                   · have tlr : (a1 : Int) < (a2 : Int) := by have := AA.out.1; have := AA.out.2.1; omega
                     go_wp2_with fail
                     refine Calls.mono (IH.out u m lm2 d6 _ (by have := HN6.out; omega) R8.out (by rw [S6.out]; exact HN.out) hPa (by omega) hlm2 (F4.out.belowL HB.out P6.out)) ?_
                     rintro e w9 ⟨rfl, d7, hP7, hS7, hR9, hO9⟩
                     have R9 := Lib.hid hR9
                     have O9 := Lib.hid (Tch.trans O8.out hO9)
                     have F9 := Lib.hid (F4.out.left HB.out P6.out hP7 hS7)
                     clear hR9 hO9 hP7 hS7
                     go_wp2_with fail
                     go_roundg (v - (m + 1))
                     case measure => omega
                     case rel => exact ⟨m1, v, lm2, _, ap, d7, rfl, rfl, rfl, rfl, rfl, by have := AA.out.2.2; omega, by omega, hlm2, by rw [AA.out.2.2]; exact F9.out, R9.out, O9.out⟩
                   · have tlr : ¬ (a1 : Int) < (a2 : Int) := by have := AA.out.1; have := AA.out.2.1; omega
                     go_wp2_with fail
                     refine Calls.mono (IH.out m1 v lm2 d6 _ (by have := HN6.out; have := AA.out.2.2; omega) R8.out (by rw [S6.out]; exact HN.out) (by have := AA.out.2.2; omega) (by omega) hlm2 (by rw [AA.out.2.2]; exact Fin.belowR P6.out)) ?_
                     rintro e w9 ⟨rfl, d7, hP7, hS7, hR9, hO9⟩
                     have R9 := Lib.hid hR9
                     have O9 := Lib.hid (Tch.trans O8.out hO9)
                     have F9 := Lib.hid (F4.out.right HB.out P6.out (by rw [← AA.out.2.2]; exact hP7) (by rw [← AA.out.2.2]; exact hS7))
                     clear hR9 hO9 hP7 hS7
                     go_wp2_with fail
                     go_roundg (m - u)
                     case measure => omega
                     case rel => exact ⟨u, m, lm2, _, ap, d7, rfl, rfl, rfl, rfl, rfl, Nat.le_refl _, by omega, hlm2, F9.out, R9.out, O9.out⟩
end Go.Proofs.YtmfhnhnmdeabeaaGreat.So
end
