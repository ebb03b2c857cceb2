/- slices.Sort at numbers of 32 bits: partitionOrdered. -/
import Derived.Test.YtmfhnhnmdeabeaaGreatM15
set_option linter.unusedVariables false
set_option linter.unusedSimpArgs false
set_option maxRecDepth 100000
section
namespace Go.Proofs.YtmfhnhnmdeabeaaGreat.So
open Go.RowKit Go.Shelf Tr
set_option maxHeartbeats 8000000 in
theorem part_any (g n cap a b q : Nat) (tl : List Value) (d : Array Nat) (w : World) (hR : RowAt w g tl d) (hn : d.size = n) (hn2 : n ≤ 256) (hab : a < b) (hb : b ≤ n) (hq : a ≤ q) (hq2 : q < b) :
   Calls Tryz.prog 168 #[.slice (some ⟨g, 0, none⟩) n cap, .int .i64 a, .int .i64 b, .int .i64 q] w fun e w' => ∃ m d' ap, e = .returned (.tuple #[.int .i64 (m : Nat), .bool ap]) ∧ Parted a b m d d' ∧ RowAt w' g tl d' ∧ One g w w' := by
 have HN := Lib.hid hn
 obtain ⟨x1, y1, ⟨c1, c2, f1, f2, ⟨v3, c3⟩, f3, l1⟩, hS⟩ := hR.swp (i := a) (j := q) (by omega) (by omega)
 obtain ⟨p, hp⟩ : ∃ p, (Sort.swp d a q)[a]! = p := ⟨_, rfl⟩
 have hM := Mid.start (lo := fun x => ltN x p) (hi := fun x => !ltN x p) (d := d) (by omega) hab hq hq2
 rw [hp] at hM
 obtain ⟨d0, hd0⟩ : ∃ d0, Sort.swp d a q = d0 := ⟨_, rfl⟩
 rw [hd0] at hS hM
 obtain ⟨i, hi⟩ : ∃ i, a + 1 = i := ⟨_, rfl⟩
 obtain ⟨j, hj⟩ : ∃ j, b - 1 = j := ⟨_, rfl⟩
 rw [hi, hj] at hM
 have ei : (a : Int) + 1 = (i : Int) := by omega
 have ejb : (b : Int) - 1 = (j : Int) := by omega
 have bk : a + 1 ≤ i ∧ i ≤ j + 1 ∧ j < b := ⟨hM.ai, hM.ij, hM.jb⟩
 have RS0 := Lib.hid hS
 have MK := Lib.hid hM
 have z0 : (0 : Int) ≤ (a : Int) := by omega
 have z1 : (a : Int) < n := by omega
 have z2 : (0 : Int) ≤ (q : Int) := by omega
 have z3 : (q : Int) < n := by omega
 clear hR hn hS hM hp hd0 hi hj
 go_enter Tryz.func168, Tryz.ntmps168
 go_wp2_with fail
 go_region
 obtain ⟨w1, hw1⟩ : ∃ w1, ((w.setCell ⟨g, a, none⟩ (.int .u32 (y1 : Int))).setCell ⟨g, q, none⟩ (.int .u32 (x1 : Int))).drew = w1 := ⟨_, rfl⟩
 have RK := Lib.hid (show RowAt w1 g tl d0 by rw [← hw1]; exact RS0.out)
 have OK := Lib.hid (show One g w w1 by rw [← hw1]; exact Tch.trans One.swap Tch.drew)
 rw [hw1]
 clear hw1 c1 c2 f1 f2 c3 f3 l1
 go_wp2_with fail
 go_loopw [10] (fun su wq => ∃ i : Nat, su = .int .i64 i ∧ RowAt wq g tl d0 ∧ One g w wq ∧ Mid (fun x => ltN x p) (fun x => !ltN x p) a b i j d d0 p) (fun su _ => j + 1 - (intOf su).toNat)
 case atStart => exact ⟨i, rfl, RK.out, OK.out, MK.out⟩
 case round =>
   obtain ⟨i, rfl, hR, hO, hM⟩ := hrel
   have RU := Lib.hid hR
   have OU := Lib.hid hO
   have MU := Lib.hid hM
   have bi : a + 1 ≤ i ∧ i ≤ j + 1 ∧ j < b := ⟨hM.ai, hM.ij, hM.jb⟩
   clear hR hO hM
   by_cases h1 : i ≤ j
   · have t1 : (i : Int) ≤ j := by omega
     have c1 := fun m0 => (RU.out.drewN m0).cell (i := i) (by have := MU.out.perm.1; have := HN.out; omega)
     have c0 := fun m0 => (RU.out.drewN m0).cell (i := a) (by have := MU.out.perm.1; have := HN.out; omega)
     rw [MU.out.pv] at c0
     obtain ⟨x, hx⟩ : ∃ x, d0[i]! = x := ⟨_, rfl⟩
     rw [hx] at c1
     have XX := Lib.hid hx
     have q1 : (i : Int) < n := by omega
     have hl := RU.out.lt
     clear hx
     go_wp2_with fail
     go_quiet ((go_at_call 166; exact Calls.quiet_of_same (turn (less_any x p _))))
     rcases hxp : ltN x p with _ | _
     · have HX := Lib.hid hxp
       clear hxp
       obtain ⟨w3, hw3⟩ : ∃ w3, wr.drewN nq = w3 := ⟨_, rfl⟩
       have RK3 := Lib.hid (show RowAt w3 g tl d0 by rw [← hw3]; exact RU.out.drewN _)
       have OK3 := Lib.hid (show One g w w3 by rw [← hw3]; exact Tch.trans OU.out (One.drewN _))
       rw [hw3]
       clear hw3 c1 c0 hl
       go_wp2_with fail
       go_loopw [11] (fun sv wq => ∃ j0 : Nat, sv = .int .i64 j0 ∧ j0 ≤ j ∧ RowAt wq g tl d0 ∧ One g w wq ∧ Mid (fun x => ltN x p) (fun x => !ltN x p) a b i j0 d d0 p) (fun sv _ => (intOf sv).toNat)
       case atStart => exact ⟨j, rfl, Nat.le_refl _, RK3.out, OK3.out, MU.out⟩
       case round =>
         obtain ⟨j, rfl, hjj, hR, hO, hM⟩ := hrel
         have RV := Lib.hid hR
         have OV := Lib.hid hO
         have MV := Lib.hid hM
         have bj : i ≤ j + 1 ∧ j < b := ⟨hM.ij, hM.jb⟩
         clear hR hO hM
         by_cases h2 : i ≤ j
         · have t2 : (i : Int) ≤ j := by omega
           have c1 := fun m0 => (RV.out.drewN m0).cell (i := j) (by have := MV.out.perm.1; have := HN.out; omega)
           have c0 := fun m0 => (RV.out.drewN m0).cell (i := a) (by have := MV.out.perm.1; have := HN.out; omega)
           rw [MV.out.pv] at c0
           obtain ⟨y, hy⟩ : ∃ y, d0[j]! = y := ⟨_, rfl⟩
           rw [hy] at c1
           have YY := Lib.hid hy
           have q3 : (j : Int) < n := by omega
           have ej : (j : Int) - 1 = ((j - 1 : Nat) : Int) := by omega
           have hl := RV.out.lt
           clear hy
           go_wp2_with fail
           go_quiet ((go_at_call 166; exact Calls.quiet_of_same (turn (less_any y p _))))
           rcases hyp : ltN y p with _ | _
           · have HY := Lib.hid hyp
             clear hyp
             go_wp2_with fail
             go_roundw
             case rel => exact ⟨j - 1, by first | rfl | (simp; omega), by omega, RV.out.drewN _, Tch.trans OV.out (One.drewN _), MV.out.down h2 (by rw [YY.out]; simpa using HY.out)⟩
             case measure => first | (simp [intOf]; done) | (simp [intOf]; omega)
           · have HY := Lib.hid hyp
             clear hyp
             have hij : i < j := by
               rcases Nat.lt_or_ge i j with h | h
               · exact h
               · exfalso
                 obtain rfl : i = j := by omega
                 have e1 := XX.out
                 rw [YY.out] at e1
                 have e2 := HX.out
                 have e3 := HY.out
                 rw [e1] at e3
                 rw [e2] at e3
                 cases e3
             obtain ⟨w4, hw4⟩ : ∃ w4, wr.drewN nq = w4 := ⟨_, rfl⟩
             have R4 := Lib.hid (show RowAt w4 g tl d0 by rw [← hw4]; exact RV.out.drewN _)
             have O4 := Lib.hid (show One g w w4 by rw [← hw4]; exact Tch.trans OV.out (One.drewN _))
             rw [hw4]
             clear hw4 c1 c0 hl
             have MS := Lib.hid (MV.out.swap (by have := HN.out; omega) hij (by simp [XX.out, HX.out]) (by simp [YY.out, HY.out]))
             obtain ⟨x0, y0, ⟨s1, s2, s3, s4, ⟨s5, s6⟩, s7, s8⟩, hS⟩ := R4.out.swp (i := i) (j := j) (by have := MV.out.perm.1; have := HN.out; omega) (by have := MV.out.perm.1; have := HN.out; omega)
             obtain ⟨d2, hd2⟩ : ∃ d2, Sort.swp d0 i j = d2 := ⟨_, rfl⟩
             rw [hd2] at hS MS
             have RS := Lib.hid hS
             clear hS hd2 hij
             have p0 : (0 : Int) ≤ (i : Int) := by omega
             have p2 : (0 : Int) ≤ (j : Int) := by omega
             have p1 : (i : Int) < n := by omega
             have p3 : (j : Int) < n := by omega
             go_wp2_with fail
             go_region
             obtain ⟨w5, hw5⟩ : ∃ w5, ((w4.setCell ⟨g, i, none⟩ (.int .u32 (y0 : Int))).setCell ⟨g, j, none⟩ (.int .u32 (x0 : Int))).drew = w5 := ⟨_, rfl⟩
             have R5 := Lib.hid (show RowAt w5 g tl d2 by rw [← hw5]; exact RS.out)
             have O5 := Lib.hid (show One g w w5 by rw [← hw5]; exact Tch.trans O4.out (Tch.trans One.swap Tch.drew))
             rw [hw5]
             clear hw5 s1 s2 s3 s4 s5 s6 s7 s8
             go_wp2_with fail
             go_loopw [10, 11] (fun s9 s10 wr => ∃ (i j : Nat) (dk : Array Nat), s9 = .int .i64 i ∧ s10 = .int .i64 j ∧ RowAt wr g tl dk ∧ One g w wr ∧ Mid (fun x => ltN x p) (fun x => !ltN x p) a b i j d dk p) (fun s9 s10 _ => (intOf s10).toNat)
             case atStart => exact ⟨i + 1, j - 1, d2, by first | rfl | simp, by first | rfl | (simp; omega), R5.out, O5.out, MS.out⟩
             case round =>
               clear RK OK MK RU OU MU RV OV MV RK3 OK3 R4 O4 R5 O5 MS RS XX YY HX HY
               obtain ⟨i, j, dk, rfl, rfl, hRk, hOk, hMk⟩ := hrel
               have RK := Lib.hid hRk
               have OK := Lib.hid hOk
               have MK := Lib.hid hMk
               have bk : a + 1 ≤ i ∧ i ≤ j + 1 ∧ j < b := ⟨hMk.ai, hMk.ij, hMk.jb⟩
               clear hRk hOk hMk
               go_wp2_with fail
               go_loopw [10] (fun su wq => ∃ i : Nat, su = .int .i64 i ∧ RowAt wq g tl dk ∧ One g w wq ∧ Mid (fun x => ltN x p) (fun x => !ltN x p) a b i j d dk p) (fun su _ => j + 1 - (intOf su).toNat)
               case atStart => exact ⟨i, rfl, RK.out, OK.out, MK.out⟩
               case round =>
                 obtain ⟨i, rfl, hR, hO, hM⟩ := hrel
                 have RU := Lib.hid hR
                 have OU := Lib.hid hO
                 have MU := Lib.hid hM
                 have bi : a + 1 ≤ i ∧ i ≤ j + 1 ∧ j < b := ⟨hM.ai, hM.ij, hM.jb⟩
                 clear hR hO hM
                 by_cases h1 : i ≤ j
                 · have t1 : (i : Int) ≤ j := by omega
                   have c1 := fun m0 => (RU.out.drewN m0).cell (i := i) (by have := MU.out.perm.1; have := HN.out; omega)
                   have c0 := fun m0 => (RU.out.drewN m0).cell (i := a) (by have := MU.out.perm.1; have := HN.out; omega)
                   rw [MU.out.pv] at c0
                   obtain ⟨x, hx⟩ : ∃ x, dk[i]! = x := ⟨_, rfl⟩
                   rw [hx] at c1
                   have XX := Lib.hid hx
                   have q1 : (i : Int) < n := by omega
                   have hl := RU.out.lt
                   clear hx
                   go_wp2_with fail
                   go_quiet ((go_at_call 166; exact Calls.quiet_of_same (turn (less_any x p _))))
                   rcases hxp : ltN x p with _ | _
                   · have HX := Lib.hid hxp
                     clear hxp
                     obtain ⟨w3, hw3⟩ : ∃ w3, wr.drewN nq = w3 := ⟨_, rfl⟩
                     have RK3 := Lib.hid (show RowAt w3 g tl dk by rw [← hw3]; exact RU.out.drewN _)
                     have OK3 := Lib.hid (show One g w w3 by rw [← hw3]; exact Tch.trans OU.out (One.drewN _))
                     rw [hw3]
                     clear hw3 c1 c0 hl
                     go_wp2_with fail
                     go_loopw [11] (fun sv wq => ∃ j0 : Nat, sv = .int .i64 j0 ∧ j0 ≤ j ∧ RowAt wq g tl dk ∧ One g w wq ∧ Mid (fun x => ltN x p) (fun x => !ltN x p) a b i j0 d dk p) (fun sv _ => (intOf sv).toNat)
                     case atStart => exact ⟨j, rfl, Nat.le_refl _, RK3.out, OK3.out, MU.out⟩
                     case round =>
                       obtain ⟨j, rfl, hjj, hR, hO, hM⟩ := hrel
                       have RV := Lib.hid hR
                       have OV := Lib.hid hO
                       have MV := Lib.hid hM
                       have bj : i ≤ j + 1 ∧ j < b := ⟨hM.ij, hM.jb⟩
                       clear hR hO hM
                       by_cases h2 : i ≤ j
                       · have t2 : (i : Int) ≤ j := by omega
                         have c1 := fun m0 => (RV.out.drewN m0).cell (i := j) (by have := MV.out.perm.1; have := HN.out; omega)
                         have c0 := fun m0 => (RV.out.drewN m0).cell (i := a) (by have := MV.out.perm.1; have := HN.out; omega)
                         rw [MV.out.pv] at c0
                         obtain ⟨y, hy⟩ : ∃ y, dk[j]! = y := ⟨_, rfl⟩
                         rw [hy] at c1
                         have YY := Lib.hid hy
                         have q3 : (j : Int) < n := by omega
                         have ej : (j : Int) - 1 = ((j - 1 : Nat) : Int) := by omega
                         have hl := RV.out.lt
                         clear hy
                         go_wp2_with fail
                         go_quiet ((go_at_call 166; exact Calls.quiet_of_same (turn (less_any y p _))))
                         rcases hyp : ltN y p with _ | _
                         · have HY := Lib.hid hyp
                           clear hyp
                           go_wp2_with fail
                           go_roundw
                           case rel => exact ⟨j - 1, by first | rfl | (simp; omega), by omega, RV.out.drewN _, Tch.trans OV.out (One.drewN _), MV.out.down h2 (by rw [YY.out]; simpa using HY.out)⟩
                           case measure => first | (simp [intOf]; done) | (simp [intOf]; omega)
                         · have HY := Lib.hid hyp
                           clear hyp
                           have hij : i < j := by
                             rcases Nat.lt_or_ge i j with h | h
                             · exact h
                             · exfalso
                               obtain rfl : i = j := by omega
                               have e1 := XX.out
                               rw [YY.out] at e1
                               have e2 := HX.out
                               have e3 := HY.out
                               rw [e1] at e3
                               rw [e2] at e3
                               cases e3
                           obtain ⟨w4, hw4⟩ : ∃ w4, wr.drewN nq = w4 := ⟨_, rfl⟩
                           have R4 := Lib.hid (show RowAt w4 g tl dk by rw [← hw4]; exact RV.out.drewN _)
                           have O4 := Lib.hid (show One g w w4 by rw [← hw4]; exact Tch.trans OV.out (One.drewN _))
                           rw [hw4]
                           clear hw4 c1 c0 hl
                           have MS := Lib.hid (MV.out.swap (by have := HN.out; omega) hij (by simp [XX.out, HX.out]) (by simp [YY.out, HY.out]))
                           obtain ⟨x0, y0, ⟨s1, s2, s3, s4, ⟨s5, s6⟩, s7, s8⟩, hS⟩ := R4.out.swp (i := i) (j := j) (by have := MV.out.perm.1; have := HN.out; omega) (by have := MV.out.perm.1; have := HN.out; omega)
                           obtain ⟨d2, hd2⟩ : ∃ d2, Sort.swp dk i j = d2 := ⟨_, rfl⟩
                           rw [hd2] at hS MS
                           have RS := Lib.hid hS
                           clear hS hd2 hij
                           have p0 : (0 : Int) ≤ (i : Int) := by omega
                           have p2 : (0 : Int) ≤ (j : Int) := by omega
                           have p1 : (i : Int) < n := by omega
                           have p3 : (j : Int) < n := by omega
                           go_wp2_with fail
                           go_region
                           obtain ⟨w5, hw5⟩ : ∃ w5, ((w4.setCell ⟨g, i, none⟩ (.int .u32 (y0 : Int))).setCell ⟨g, j, none⟩ (.int .u32 (x0 : Int))).drew = w5 := ⟨_, rfl⟩
                           have R5 := Lib.hid (show RowAt w5 g tl d2 by rw [← hw5]; exact RS.out)
                           have O5 := Lib.hid (show One g w w5 by rw [← hw5]; exact Tch.trans O4.out (Tch.trans One.swap Tch.drew))
                           rw [hw5]
                           clear hw5 s1 s2 s3 s4 s5 s6 s7 s8
                           have tt : ¬ (j : Int) < (i : Int) := by omega
                           go_wp2_with fail
                           go_roundw
                           case rel => exact ⟨i + 1, j - 1, d2, by first | rfl | simp, by first | rfl | (simp; omega), R5.out, O5.out, MS.out⟩
                           case measure => first | (simp [intOf]; done) | (simp [intOf]; omega)
                       · have t2 : ¬ (i : Int) ≤ j := by omega
                         go_wp2_with fail
                         go_quiet (fail)
                         go_wp2_with fail
                         have RE := Lib.hid (RV.out.drewN nq)
                         have OE := Lib.hid (show One g w (wr.drewN nq) from Tch.trans OV.out (One.drewN _))
                         obtain ⟨w4, hw4⟩ : ∃ w4, wr.drewN nq = w4 := ⟨_, rfl⟩
                         rw [hw4] at RE OE ⊢
                         clear hw4
                         have ME := MV
                         have tt : (j : Int) < (i : Int) := by omega
                         have PD := Lib.hid (ME.out.parted (by have := HN.out; omega) (show j < i by omega))
                         obtain ⟨x6, y6, ⟨s1, s2, s3, s4, ⟨s5, s6⟩, s7, s8⟩, hS6⟩ := RE.out.swp (i := j) (j := a) (by have := ME.out.perm.1; have := HN.out; have := ME.out.jb; omega) (by have := ME.out.perm.1; have := HN.out; omega)
                         obtain ⟨d6, hd6⟩ : ∃ d6, Sort.swp dk j a = d6 := ⟨_, rfl⟩
                         rw [hd6] at hS6 PD
                         have RS6 := Lib.hid hS6
                         have p0 : (0 : Int) ≤ (j : Int) := by omega
                         have p1 : (j : Int) < n := by have := ME.out.jb; omega
                         have p2 : (0 : Int) ≤ (a : Int) := by omega
                         have p3 : (a : Int) < n := by omega
                         clear hS6 hd6
                         go_wp2_with fail
                         go_region
                         obtain ⟨w6, hw6⟩ : ∃ w6, ((w4.setCell ⟨g, j, none⟩ (.int .u32 (y6 : Int))).setCell ⟨g, a, none⟩ (.int .u32 (x6 : Int))).drew = w6 := ⟨_, rfl⟩
                         have R6 := Lib.hid (show RowAt w6 g tl d6 by rw [← hw6]; exact RS6.out)
                         have O6 := Lib.hid (show One g w w6 by rw [← hw6]; exact Tch.trans OE.out (Tch.trans One.swap Tch.drew))
                         rw [hw6]
                         clear hw6 s1 s2 s3 s4 s5 s6 s7 s8
                         go_wp2_with fail
                         go_ret2
                         exact ⟨j, d6, _, rfl, PD.out, R6.out, O6.out⟩
                   · have HX := Lib.hid hxp
                     clear hxp
                     go_wp2_with fail
                     go_roundw
                     case rel => exact ⟨i + 1, by first | rfl | simp, RU.out.drewN _, Tch.trans OU.out (One.drewN _), MU.out.up h1 (by rw [XX.out]; simpa using HX.out)⟩
                     case measure => first | (simp [intOf]; done) | (simp [intOf]; omega)
                 · have t1 : ¬ (i : Int) ≤ j := by omega
                   go_wp2_with fail
                   go_quiet (fail)
                   obtain ⟨w3, hw3⟩ : ∃ w3, wr.drewN nq = w3 := ⟨_, rfl⟩
                   have RK3 := Lib.hid (show RowAt w3 g tl dk by rw [← hw3]; exact RU.out.drewN _)
                   have OK3 := Lib.hid (show One g w w3 by rw [← hw3]; exact Tch.trans OU.out (One.drewN _))
                   rw [hw3]
                   clear hw3
                   go_wp2_with fail
                   go_loopw [11] (fun sv wq => sv = .int .i64 j ∧ RowAt wq g tl dk ∧ One g w wq) (fun sv _ => 0)
                   case atStart => exact ⟨rfl, RK3.out, OK3.out⟩
                   case round =>
                     obtain ⟨rfl, hR, hO⟩ := hrel
                     have RV := Lib.hid hR
                     have OV := Lib.hid hO
                     have MV := MU
                     clear hR hO
                     have t2 : ¬ (i : Int) ≤ j := by omega
                     go_wp2_with fail
                     go_quiet (fail)
                     go_wp2_with fail
                     have RE := Lib.hid (RV.out.drewN nq)
                     have OE := Lib.hid (show One g w (wr.drewN nq) from Tch.trans OV.out (One.drewN _))
                     obtain ⟨w4, hw4⟩ : ∃ w4, wr.drewN nq = w4 := ⟨_, rfl⟩
                     rw [hw4] at RE OE ⊢
                     clear hw4
                     have ME := MV
                     have tt : (j : Int) < (i : Int) := by omega
                     have PD := Lib.hid (ME.out.parted (by have := HN.out; omega) (show j < i by omega))
                     obtain ⟨x6, y6, ⟨s1, s2, s3, s4, ⟨s5, s6⟩, s7, s8⟩, hS6⟩ := RE.out.swp (i := j) (j := a) (by have := ME.out.perm.1; have := HN.out; have := ME.out.jb; omega) (by have := ME.out.perm.1; have := HN.out; omega)
                     obtain ⟨d6, hd6⟩ : ∃ d6, Sort.swp dk j a = d6 := ⟨_, rfl⟩
                     rw [hd6] at hS6 PD
                     have RS6 := Lib.hid hS6
                     have p0 : (0 : Int) ≤ (j : Int) := by omega
                     have p1 : (j : Int) < n := by have := ME.out.jb; omega
                     have p2 : (0 : Int) ≤ (a : Int) := by omega
                     have p3 : (a : Int) < n := by omega
                     clear hS6 hd6
                     go_wp2_with fail
                     go_region
                     obtain ⟨w6, hw6⟩ : ∃ w6, ((w4.setCell ⟨g, j, none⟩ (.int .u32 (y6 : Int))).setCell ⟨g, a, none⟩ (.int .u32 (x6 : Int))).drew = w6 := ⟨_, rfl⟩
                     have R6 := Lib.hid (show RowAt w6 g tl d6 by rw [← hw6]; exact RS6.out)
                     have O6 := Lib.hid (show One g w w6 by rw [← hw6]; exact Tch.trans OE.out (Tch.trans One.swap Tch.drew))
                     rw [hw6]
                     clear hw6 s1 s2 s3 s4 s5 s6 s7 s8
                     go_wp2_with fail
                     go_ret2
                     exact ⟨j, d6, _, rfl, PD.out, R6.out, O6.out⟩
         · have t2 : ¬ (i : Int) ≤ j := by omega
           go_wp2_with fail
           go_quiet (fail)
           go_wp2_with fail
           have RE := Lib.hid (RV.out.drewN nq)
           have OE := Lib.hid (show One g w (wr.drewN nq) from Tch.trans OV.out (One.drewN _))
           obtain ⟨w4, hw4⟩ : ∃ w4, wr.drewN nq = w4 := ⟨_, rfl⟩
           rw [hw4] at RE OE ⊢
           clear hw4
           have ME := MV
           have tt : (j : Int) < (i : Int) := by omega
           have PD := Lib.hid (ME.out.parted (by have := HN.out; omega) (show j < i by omega))
           obtain ⟨x6, y6, ⟨s1, s2, s3, s4, ⟨s5, s6⟩, s7, s8⟩, hS6⟩ := RE.out.swp (i := j) (j := a) (by have := ME.out.perm.1; have := HN.out; have := ME.out.jb; omega) (by have := ME.out.perm.1; have := HN.out; omega)
           obtain ⟨d6, hd6⟩ : ∃ d6, Sort.swp d0 j a = d6 := ⟨_, rfl⟩
           rw [hd6] at hS6 PD
           have RS6 := Lib.hid hS6
           have p0 : (0 : Int) ≤ (j : Int) := by omega
           have p1 : (j : Int) < n := by have := ME.out.jb; omega
           have p2 : (0 : Int) ≤ (a : Int) := by omega
           have p3 : (a : Int) < n := by omega
           clear hS6 hd6
           go_wp2_with fail
           go_region
           obtain ⟨w6, hw6⟩ : ∃ w6, ((w4.setCell ⟨g, j, none⟩ (.int .u32 (y6 : Int))).setCell ⟨g, a, none⟩ (.int .u32 (x6 : Int))).drew = w6 := ⟨_, rfl⟩
           have R6 := Lib.hid (show RowAt w6 g tl d6 by rw [← hw6]; exact RS6.out)
           have O6 := Lib.hid (show One g w w6 by rw [← hw6]; exact Tch.trans OE.out (Tch.trans One.swap Tch.drew))
           rw [hw6]
           clear hw6 s1 s2 s3 s4 s5 s6 s7 s8
           go_wp2_with fail
           go_ret2
           exact ⟨j, d6, _, rfl, PD.out, R6.out, O6.out⟩
     · have HX := Lib.hid hxp
       clear hxp
       go_wp2_with fail
       go_roundw
       case rel => exact ⟨i + 1, by first | rfl | simp, RU.out.drewN _, Tch.trans OU.out (One.drewN _), MU.out.up h1 (by rw [XX.out]; simpa using HX.out)⟩
       case measure => first | (simp [intOf]; done) | (simp [intOf]; omega)
   · have t1 : ¬ (i : Int) ≤ j := by omega
     go_wp2_with fail
     go_quiet (fail)
     obtain ⟨w3, hw3⟩ : ∃ w3, wr.drewN nq = w3 := ⟨_, rfl⟩
     have RK3 := Lib.hid (show RowAt w3 g tl d0 by rw [← hw3]; exact RU.out.drewN _)
     have OK3 := Lib.hid (show One g w w3 by rw [← hw3]; exact Tch.trans OU.out (One.drewN _))
     rw [hw3]
     clear hw3
     go_wp2_with fail
     go_loopw [11] (fun sv wq => sv = .int .i64 j ∧ RowAt wq g tl d0 ∧ One g w wq) (fun sv _ => 0)
     case atStart => exact ⟨rfl, RK3.out, OK3.out⟩
     case round =>
       obtain ⟨rfl, hR, hO⟩ := hrel
       have RV := Lib.hid hR
       have OV := Lib.hid hO
       have MV := MU
       clear hR hO
       have t2 : ¬ (i : Int) ≤ j := by omega
       go_wp2_with fail
       go_quiet (fail)
       go_wp2_with fail
       have RE := Lib.hid (RV.out.drewN nq)
       have OE := Lib.hid (show One g w (wr.drewN nq) from Tch.trans OV.out (One.drewN _))
       obtain ⟨w4, hw4⟩ : ∃ w4, wr.drewN nq = w4 := ⟨_, rfl⟩
       rw [hw4] at RE OE ⊢
       clear hw4
       have ME := MV
       have tt : (j : Int) < (i : Int) := by omega
       have PD := Lib.hid (ME.out.parted (by have := HN.out; omega) (show j < i by omega))
       obtain ⟨x6, y6, ⟨s1, s2, s3, s4, ⟨s5, s6⟩, s7, s8⟩, hS6⟩ := RE.out.swp (i := j) (j := a) (by have := ME.out.perm.1; have := HN.out; have := ME.out.jb; omega) (by have := ME.out.perm.1; have := HN.out; omega)
       obtain ⟨d6, hd6⟩ : ∃ d6, Sort.swp d0 j a = d6 := ⟨_, rfl⟩
       rw [hd6] at hS6 PD
       have RS6 := Lib.hid hS6
       have p0 : (0 : Int) ≤ (j : Int) := by omega
       have p1 : (j : Int) < n := by have := ME.out.jb; omega
       have p2 : (0 : Int) ≤ (a : Int) := by omega
       have p3 : (a : Int) < n := by omega
       clear hS6 hd6
       go_wp2_with fail
       go_region
       obtain ⟨w6, hw6⟩ : ∃ w6, ((w4.setCell ⟨g, j, none⟩ (.int .u32 (y6 : Int))).setCell ⟨g, a, none⟩ (.int .u32 (x6 : Int))).drew = w6 := ⟨_, rfl⟩
       have R6 := Lib.hid (show RowAt w6 g tl d6 by rw [← hw6]; exact RS6.out)
       have O6 := Lib.hid (show One g w w6 by rw [← hw6]; exact Tch.trans OE.out (Tch.trans One.swap Tch.drew))
       rw [hw6]
       clear hw6 s1 s2 s3 s4 s5 s6 s7 s8
       go_wp2_with fail
       go_ret2
       exact ⟨j, d6, _, rfl, PD.out, R6.out, O6.out⟩
end Go.Proofs.YtmfhnhnmdeabeaaGreat.So
end
