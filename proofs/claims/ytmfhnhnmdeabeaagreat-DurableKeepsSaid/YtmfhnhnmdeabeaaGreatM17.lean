/- slices.Sort at numbers of 32 bits: partitionEqualOrdered. -/
import Derived.Test.YtmfhnhnmdeabeaaGreatM15
set_option linter.unusedVariables false
set_option linter.unusedSimpArgs false
set_option maxRecDepth 100000
section
namespace Go.Proofs.YtmfhnhnmdeabeaaGreat.So
open Go.RowKit Go.Shelf Tr
set_option maxHeartbeats 4000000 in
theorem eql_any (g n cap a b q : Nat) (tl : List Value) (d : Array Nat) (w : World) (hR : RowAt w g tl d) (hn : d.size = n) (hn2 : n ≤ 256) (hab : a < b) (hb : b ≤ n) (hq : a ≤ q) (hq2 : q < b) :
   Calls Tryz.prog 167 #[.slice (some ⟨g, 0, none⟩) n cap, .int .i64 a, .int .i64 b, .int .i64 q] w fun e w' => ∃ m d', e = .returned (.int .i64 (m : Nat)) ∧ Equal a b m d[q]! d d' ∧ RowAt w' g tl d' ∧ One g w w' := by
 have HR := Lib.hid hR
 have HN := Lib.hid hn
 obtain ⟨x1, y1, ⟨c1, c2, f1, f2, ⟨v3, c3⟩, f3, l1⟩, hS⟩ := hR.swp (i := a) (j := q) (by omega) (by omega)
 have hM := Mid.start (lo := fun x => !ltN d[q]! x) (hi := fun x => ltN d[q]! x) (d := d) (by omega) hab hq hq2
 have ep : (Sort.swp d a q)[a]! = d[q]! := by
   by_cases e : a = q
   · subst e; exact Sort.swp_right d a a (by omega)
   · exact Sort.swp_left d a q (by omega) e
 rw [ep] at hM
 obtain ⟨p, hp⟩ : ∃ p, d[q]! = p := ⟨_, rfl⟩
 rw [hp] at hM ⊢
 obtain ⟨d0, hd0⟩ : ∃ d0, Sort.swp d a q = d0 := ⟨_, rfl⟩
 rw [hd0] at hS hM
 have RS0 := Lib.hid hS
 have M0 := Lib.hid hM
 have z0 : (0 : Int) ≤ (a : Int) := by omega
 have z1 : (a : Int) < n := by omega
 have z2 : (0 : Int) ≤ (q : Int) := by omega
 have z3 : (q : Int) < n := by omega
 clear hR hn hS hM ep hp hd0
 go_enter Tryz.func167, Tryz.ntmps167
 go_wp2_with fail
 go_region
 obtain ⟨w1, hw1⟩ : ∃ w1, ((w.setCell ⟨g, a, none⟩ (.int .u32 (y1 : Int))).setCell ⟨g, q, none⟩ (.int .u32 (x1 : Int))).drew = w1 := ⟨_, rfl⟩
 have R1 := Lib.hid (show RowAt w1 g tl d0 by rw [← hw1]; exact RS0.out)
 have O1 := Lib.hid (show One g w w1 by rw [← hw1]; exact Tch.trans One.swap Tch.drew)
 rw [hw1]
 clear hw1 c1 c2 f1 f2 c3 f3 l1
 go_wp2_with fail
 go_loopw [9, 10] (fun s9 s10 wr => ∃ (i j : Nat) (dk : Array Nat), s9 = .int .i64 i ∧ s10 = .int .i64 j ∧ RowAt wr g tl dk ∧ One g w wr ∧ Mid (fun x => !ltN p x) (fun x => ltN p x) a b i j d dk p) (fun s9 s10 _ => (intOf s10).toNat)
 case atStart => exact ⟨a + 1, b - 1, d0, by first | rfl | simp, by first | rfl | (simp; omega), R1.out, O1.out, M0.out⟩
 case round =>
   obtain ⟨i, j, dk, rfl, rfl, hRk, hOk, hMk⟩ := hrel
   have RK := Lib.hid hRk
   have OK := Lib.hid hOk
   have MK := Lib.hid hMk
   have bk : a + 1 ≤ i ∧ i ≤ j + 1 ∧ j < b := ⟨hMk.ai, hMk.ij, hMk.jb⟩
   clear hRk hOk hMk
   go_wp2_with fail
   go_loopw [9] (fun su wq => ∃ i : Nat, su = .int .i64 i ∧ RowAt wq g tl dk ∧ One g w wq ∧ Mid (fun x => !ltN p x) (fun x => ltN p x) a b i j d dk p) (fun su _ => j + 1 - (intOf su).toNat)
   case atStart => exact ⟨i, rfl, RK.out, OK.out, MK.out⟩
   case round =>
     obtain ⟨i, rfl, hR, hO, hM⟩ := hrel
     have RU := Lib.hid hR
     have OU := Lib.hid hO
     have MU := Lib.hid hM
     have bi : a + 1 ≤ i ∧ i ≤ j + 1 ∧ j < b := ⟨hM.ai, hM.ij, hM.jb⟩
     clear hR hO hM
     by_cases h1 : i ≤ j
     · have t1 : (i : Int) ≤ j := by omega
       have c1 := fun m0 => (RU.out.drewN m0).cell (i := i) (by have := MU.out.perm.1; have := HN.out; omega)
       have c0 := fun m0 => (RU.out.drewN m0).cell (i := a) (by have := MU.out.perm.1; have := HN.out; omega)
       rw [MU.out.pv] at c0
       obtain ⟨x, hx⟩ : ∃ x, dk[i]! = x := ⟨_, rfl⟩
       rw [hx] at c1
       have XX := Lib.hid hx
       have q1 : (i : Int) < n := by omega
       have hl := RU.out.lt
       clear hx
       go_wp2_with fail
       go_quiet ((go_at_call 166; exact Calls.quiet_of_same (turn (less_any p x _))))
       rcases hxp : ltN p x with _ | _
       · have HX := Lib.hid hxp
         clear hxp
         go_wp2_with fail
         go_roundw
         case rel => exact ⟨i + 1, by first | rfl | simp, RU.out.drewN _, Tch.trans OU.out (One.drewN _), MU.out.up h1 (by rw [XX.out]; simpa using HX.out)⟩
         case measure => first | (simp [intOf]; done) | (simp [intOf]; omega)
       · have HX := Lib.hid hxp
         clear hxp
         obtain ⟨w3, hw3⟩ : ∃ w3, wr.drewN nq = w3 := ⟨_, rfl⟩
         have RK3 := Lib.hid (show RowAt w3 g tl dk by rw [← hw3]; exact RU.out.drewN _)
         have OK3 := Lib.hid (show One g w w3 by rw [← hw3]; exact Tch.trans OU.out (One.drewN _))
         rw [hw3]
         clear hw3 c1 c0 hl
         go_wp2_with fail
         go_loopw [10] (fun sv wq => ∃ j0 : Nat, sv = .int .i64 j0 ∧ j0 ≤ j ∧ RowAt wq g tl dk ∧ One g w wq ∧ Mid (fun x => !ltN p x) (fun x => ltN p x) a b i j0 d dk p) (fun sv _ => (intOf sv).toNat)
         case atStart => exact ⟨j, rfl, Nat.le_refl _, RK3.out, OK3.out, MU.out⟩
         case round =>
           obtain ⟨j, rfl, hjj, hR, hO, hM⟩ := hrel
           have RV := Lib.hid hR
           have OV := Lib.hid hO
           have MV := Lib.hid hM
           have bj : i ≤ j + 1 ∧ j < b := ⟨hM.ij, hM.jb⟩
           clear hR hO hM
           by_cases h2 : i ≤ j
           · have t2 : (i : Int) ≤ j := by omega
             have c1 := fun m0 => (RV.out.drewN m0).cell (i := j) (by have := MV.out.perm.1; have := HN.out; omega)
             have c0 := fun m0 => (RV.out.drewN m0).cell (i := a) (by have := MV.out.perm.1; have := HN.out; omega)
             rw [MV.out.pv] at c0
             obtain ⟨y, hy⟩ : ∃ y, dk[j]! = y := ⟨_, rfl⟩
             rw [hy] at c1
             have YY := Lib.hid hy
             have q3 : (j : Int) < n := by omega
             have ej : (j : Int) - 1 = ((j - 1 : Nat) : Int) := by omega
             have hl := RV.out.lt
             clear hy
             go_wp2_with fail
             go_quiet ((go_at_call 166; exact Calls.quiet_of_same (turn (less_any p y _))))
             rcases hyp : ltN p y with _ | _
             · have HY := Lib.hid hyp
               clear hyp
               have hij : i < j := by
                 rcases Nat.lt_or_ge i j with h | h
                 · exact h
                 · exfalso
                   obtain rfl : i = j := by omega
                   have e1 := XX.out
                   rw [YY.out] at e1
                   have e2 := HX.out
                   have e3 := HY.out
                   rw [e1] at e3
                   rw [e2] at e3
                   cases e3
               obtain ⟨w4, hw4⟩ : ∃ w4, wr.drewN nq = w4 := ⟨_, rfl⟩
               have R4 := Lib.hid (show RowAt w4 g tl dk by rw [← hw4]; exact RV.out.drewN _)
               have O4 := Lib.hid (show One g w w4 by rw [← hw4]; exact Tch.trans OV.out (One.drewN _))
               rw [hw4]
               clear hw4 c1 c0 hl
               have MS := Lib.hid (MV.out.swap (by have := HN.out; omega) hij (by simp [XX.out, HX.out]) (by simp [YY.out, HY.out]))
               obtain ⟨x0, y0, ⟨s1, s2, s3, s4, ⟨s5, s6⟩, s7, s8⟩, hS⟩ := R4.out.swp (i := i) (j := j) (by have := MV.out.perm.1; have := HN.out; omega) (by have := MV.out.perm.1; have := HN.out; omega)
               obtain ⟨d2, hd2⟩ : ∃ d2, Sort.swp dk i j = d2 := ⟨_, rfl⟩
               rw [hd2] at hS MS
               have RS := Lib.hid hS
               clear hS hd2 hij
               have p0 : (0 : Int) ≤ (i : Int) := by omega
               have p2 : (0 : Int) ≤ (j : Int) := by omega
               have p1 : (i : Int) < n := by omega
               have p3 : (j : Int) < n := by omega
               go_wp2_with fail
               go_region
               obtain ⟨w5, hw5⟩ : ∃ w5, ((w4.setCell ⟨g, i, none⟩ (.int .u32 (y0 : Int))).setCell ⟨g, j, none⟩ (.int .u32 (x0 : Int))).drew = w5 := ⟨_, rfl⟩
               have R5 := Lib.hid (show RowAt w5 g tl d2 by rw [← hw5]; exact RS.out)
               have O5 := Lib.hid (show One g w w5 by rw [← hw5]; exact Tch.trans O4.out (Tch.trans One.swap Tch.drew))
               rw [hw5]
               clear hw5 s1 s2 s3 s4 s5 s6 s7 s8
               have tt : ¬ (j : Int) < (i : Int) := by omega
               go_wp2_with fail
               go_roundw
               case rel => exact ⟨i + 1, j - 1, d2, by first | rfl | simp, by first | rfl | (simp; omega), R5.out, O5.out, MS.out⟩
               case measure => first | (simp [intOf]; done) | (simp [intOf]; omega)
             · have HY := Lib.hid hyp
               clear hyp
               go_wp2_with fail
               go_roundw
               case rel => exact ⟨j - 1, by first | rfl | (simp; omega), by omega, RV.out.drewN _, Tch.trans OV.out (One.drewN _), MV.out.down h2 (by rw [YY.out]; simpa using HY.out)⟩
               case measure => first | (simp [intOf]; done) | (simp [intOf]; omega)
           · have t2 : ¬ (i : Int) ≤ j := by omega
             go_wp2_with fail
             go_quiet (fail)
             go_wp2_with fail
             have RE := Lib.hid (RV.out.drewN nq)
             have OE := Lib.hid (show One g w (wr.drewN nq) from Tch.trans OV.out (One.drewN _))
             obtain ⟨w4, hw4⟩ : ∃ w4, wr.drewN nq = w4 := ⟨_, rfl⟩
             rw [hw4] at RE OE ⊢
             clear hw4
             have ME := MV
             have tt : (j : Int) < (i : Int) := by omega
             have PE := Lib.hid (ME.out.equal (by omega))
             go_wp2_with fail
             go_ret
             exact ⟨i, _, rfl, PE.out, RE.out, OE.out⟩
     · have t1 : ¬ (i : Int) ≤ j := by omega
       go_wp2_with fail
       go_quiet (fail)
       obtain ⟨w3, hw3⟩ : ∃ w3, wr.drewN nq = w3 := ⟨_, rfl⟩
       have RK3 := Lib.hid (show RowAt w3 g tl dk by rw [← hw3]; exact RU.out.drewN _)
       have OK3 := Lib.hid (show One g w w3 by rw [← hw3]; exact Tch.trans OU.out (One.drewN _))
       rw [hw3]
       clear hw3
       go_wp2_with fail
       go_loopw [10] (fun sv wq => sv = .int .i64 j ∧ RowAt wq g tl dk ∧ One g w wq) (fun sv _ => 0)
       case atStart => exact ⟨rfl, RK3.out, OK3.out⟩
       case round =>
         obtain ⟨rfl, hR, hO⟩ := hrel
         have RV := Lib.hid hR
         have OV := Lib.hid hO
         have MV := MU
         clear hR hO
         have t2 : ¬ (i : Int) ≤ j := by omega
         go_wp2_with fail
         go_quiet (fail)
         go_wp2_with fail
         have RE := Lib.hid (RV.out.drewN nq)
         have OE := Lib.hid (show One g w (wr.drewN nq) from Tch.trans OV.out (One.drewN _))
         obtain ⟨w4, hw4⟩ : ∃ w4, wr.drewN nq = w4 := ⟨_, rfl⟩
         rw [hw4] at RE OE ⊢
         clear hw4
         have ME := MV
         have tt : (j : Int) < (i : Int) := by omega
         have PE := Lib.hid (ME.out.equal (by omega))
         go_wp2_with fail
         go_ret
         exact ⟨i, _, rfl, PE.out, RE.out, OE.out⟩
end Go.Proofs.YtmfhnhnmdeabeaaGreat.So
end
