/- slices.Sort at numbers of 32 bits: partialInsertionSortOrdered. -/
import Derived.Test.YtmfhnhnmdeabeaaGreatM15
set_option linter.unusedVariables false
set_option linter.unusedSimpArgs false
set_option maxRecDepth 100000
section
namespace Go.Proofs.YtmfhnhnmdeabeaaGreat.So
open Go.RowKit Go.Shelf Tr
theorem scan_more {d : Array Nat} {b i : Nat} (h : i < b) (h2 : ltN d[i]! d[i - 1]! = false) : Sort.scanSorted ltN d b i = Sort.scanSorted ltN d b (i + 1) := by
 conv => lhs; unfold Sort.scanSorted
 rw [if_pos (by simp [h, h2])]
theorem scan_end {d : Array Nat} {b i : Nat} (h : ¬ i < b ∨ ltN d[i]! d[i - 1]! = true) : Sort.scanSorted ltN d b i = i := by
 unfold Sort.scanSorted
 rw [if_neg (by rcases h with h | h <;> simp [h])]
theorem down_more {d : Array Nat} {j : Nat} (h : 1 ≤ j) (h2 : ltN d[j]! d[j - 1]! = true) : Sort.shiftDown ltN j d = Sort.shiftDown ltN (j - 1) (Sort.swp d j (j - 1)) := by
 obtain ⟨j, rfl⟩ : ∃ k, j = k + 1 := ⟨j - 1, by omega⟩
 simp only [Nat.add_sub_cancel] at h2 ⊢
 conv => lhs; unfold Sort.shiftDown
 rw [h2]; simp
theorem down_end {d : Array Nat} {j : Nat} (h : j = 0 ∨ ltN d[j]! d[j - 1]! = false) : Sort.shiftDown ltN j d = d := by
 cases j with
 | zero => rfl
 | succ j =>
   rcases h with h | h
   · omega
   · simp only [Nat.add_sub_cancel] at h
     unfold Sort.shiftDown
     rw [h]; simp
theorem up_more {d : Array Nat} {b j : Nat} (h : j < b) (h2 : ltN d[j]! d[j - 1]! = true) : Sort.shiftUp ltN b j d = Sort.shiftUp ltN b (j + 1) (Sort.swp d j (j - 1)) := by
 conv => lhs; unfold Sort.shiftUp
 rw [if_pos h, h2]; simp
theorem up_end {d : Array Nat} {b j : Nat} (h : ¬ j < b ∨ ltN d[j]! d[j - 1]! = false) : Sort.shiftUp ltN b j d = d := by
 unfold Sort.shiftUp
 rcases h with h | h
 · rw [if_neg h]
 · split
   · rw [h]; simp
   · rfl
def stepD (a b i : Nat) (d : Array Nat) : Array Nat :=
 let d1 := Sort.swp d i (i - 1)
 let d2 := if i - a ≥ 2 then Sort.shiftDown ltN (i - 1) d1 else d1
 if b - i ≥ 2 then Sort.shiftUp ltN b (i + 1) d2 else d2
theorem pi_true {a b s i : Nat} {d : Array Nat} (h : Sort.scanSorted ltN d b i = b) : Sort.partialIns ltN a b (s + 1) i d = (d, true) := by
 unfold Sort.partialIns
 simp only [h, if_true]
theorem pi_false {a b s i : Nat} {d : Array Nat} (h : Sort.scanSorted ltN d b i ≠ b) (h2 : b - a < 50) : Sort.partialIns ltN a b (s + 1) i d = (d, false) := by
 unfold Sort.partialIns
 simp only [h, if_false, h2, if_true]
theorem pi_step {a b s i i2 : Nat} {d : Array Nat} (h : Sort.scanSorted ltN d b i = i2) (h1 : i2 ≠ b) (h2 : ¬ b - a < 50) : Sort.partialIns ltN a b (s + 1) i d = Sort.partialIns ltN a b s i2 (stepD a b i2 d) := by
 conv => lhs; unfold Sort.partialIns
 simp only [h, h1, if_false, h2]
 rfl
theorem size_down : ∀ (j : Nat) (d : Array Nat), (Sort.shiftDown ltN j d).size = d.size
 | 0, d => rfl
 | j + 1, d => by
   unfold Sort.shiftDown
   split
   · rfl
   · rw [size_down j, size_swp]
set_option maxHeartbeats 1500000 in
theorem par_eq (g n cap a b : Nat) (tl : List Value) (d : Array Nat) (w : World) (hR : RowAt w g tl d) (hn : d.size = n) (hn2 : n ≤ 256) (hab : a < b) (hb : b ≤ n) :
   Calls Tryz.prog 165 #[.slice (some ⟨g, 0, none⟩) n cap, .int .i64 a, .int .i64 b] w fun e w' => e = .returned (.bool (Sort.partialInsertionSort ltN d a b).2) ∧ RowAt w' g tl (Sort.partialInsertionSort ltN d a b).1 ∧ One g w w' := by
 have HR := Lib.hid hR
 have HN := Lib.hid hn
 obtain ⟨P, hP⟩ : ∃ P, Sort.partialIns ltN a b 5 (a + 1) d = P := ⟨_, rfl⟩
 rw [show Sort.partialInsertionSort ltN d a b = P from hP]
 have PP := Lib.hid hP
 clear hR hn hP
 go_enter Tryz.func165, Tryz.ntmps165
 go_wp2_with fail
 go_loopw [7, 8] (fun s7 s8 wr => ∃ (i st : Nat) (dk : Array Nat), s7 = .int .i64 i ∧ s8 = .int .i64 st ∧ a + 1 ≤ i ∧ i ≤ b ∧ st ≤ 5 ∧ dk.size = n ∧ RowAt wr g tl dk ∧ One g w wr ∧ Sort.partialIns ltN a b (5 - st) i dk = P) (fun s7 s8 _ => 5 - (intOf s8).toNat)
 case atStart => exact ⟨a + 1, 0, d, by simp, rfl, Nat.le_refl _, by omega, by omega, HN.out, HR.out, Tch.refl _ _, PP.out⟩
 case round =>
   obtain ⟨i0, st, dk, rfl, rfl, hi1, hi2, hst, hds, hRk, hOk, heq⟩ := hrel
   have RK := Lib.hid hRk
   have OK := Lib.hid hOk
   have DS := Lib.hid hds
   have EQ := Lib.hid heq
   clear hRk hOk hds heq
   by_cases h0 : st < 5
   · have t0 : (st : Int) < 5 := by omega
     go_wp2_with fail
     go_loopw [7] (fun s7 wq => ∃ i : Nat, s7 = .int .i64 i ∧ a + 1 ≤ i ∧ i ≤ b ∧ RowAt wq g tl dk ∧ One g w wq ∧ Sort.scanSorted ltN dk b i = Sort.scanSorted ltN dk b i0) (fun s7 _ => b - (intOf s7).toNat)
     case atStart => exact ⟨i0, rfl, hi1, hi2, RK.out, OK.out, rfl⟩
     case round =>
       obtain ⟨i, rfl, hia, hib, hRi, hOi, hsc⟩ := hrel
       have RI0 := Lib.hid hRi
       have OI0 := Lib.hid hOi
       have SC0 := Lib.hid hsc
       clear hRi hOi hsc
       by_cases h1 : i < b
       · have t1 : (i : Int) < b := by omega
         have c1 := fun m0 => (RI0.out.drewN m0).cell (i := i) (by have := DS.out; omega)
         have c0 := fun m0 => (RI0.out.drewN m0).cell (i := i - 1) (by have := DS.out; omega)
         have q0 : (0 : Int) ≤ (i : Nat) := by omega
         have q1 : ((i : Nat) : Int) < n := by omega
         have q2 : (0 : Int) ≤ ((i - 1 : Nat) : Int) := by omega
         have q3 : ((i - 1 : Nat) : Int) < n := by omega
         have e1 : ((i : Nat) : Int) - 1 = ((i - 1 : Nat) : Int) := by omega
         have hl := RI0.out.lt
         obtain ⟨x, hx⟩ : ∃ x, dk[i]! = x := ⟨_, rfl⟩
         obtain ⟨y, hy⟩ : ∃ y, dk[i - 1]! = y := ⟨_, rfl⟩
         rw [hx] at c1
         rw [hy] at c0
         have XY := Lib.hid (And.intro hx hy)
         clear hx hy
         go_wp2_with fail
         go_quiet ((go_at_call 166; exact Calls.quiet_of_same (turn (less_any x y _))))
         rcases hxy : ltN x y with _ | _
         · have H2 := Lib.hid hxy
           clear hxy
           go_wp2_with fail
           go_roundw
           case rel => exact ⟨i + 1, by first | rfl | simp, by omega, by omega, RI0.out.drewN _, Tch.trans OI0.out (One.drewN _), by rw [← scan_more h1 (by rw [XY.out.1, XY.out.2]; exact H2.out)]; exact SC0.out⟩
           case measure => first | (simp [intOf]; done) | (simp [intOf]; omega)
         · have H2 := Lib.hid hxy
           clear hxy
           have SC := Lib.hid (show Sort.scanSorted ltN dk b i0 = i by rw [← SC0.out, scan_end (.inr (by rw [XY.out.1, XY.out.2]; exact H2.out))])
           have RI1 := Lib.hid (RI0.out.drewN nq)
           have OI1 := Lib.hid (show One g w (wr.drewN nq) from Tch.trans OI0.out (One.drewN _))
           obtain ⟨w3, hw3⟩ : ∃ w3, wr.drewN nq = w3 := ⟨_, rfl⟩
           rw [hw3] at RI1 OI1 ⊢
           clear hw3 c1 c0 hl XY q0 q1 q2 q3 e1 H2
           have t2 : ((i : Int) == (b : Int)) = false := by simp; omega
           by_cases h5 : b - a < 50
           · have t5 : (b : Int) - (a : Int) < 50 := by omega
             go_wp2_with fail
             go_ret
             have hP := EQ.out
             rw [show 5 - st = 4 - st + 1 by omega, pi_false (by rw [SC.out]; omega) h5] at hP
             rw [← hP]
             exact ⟨rfl, RI1.out, OI1.out⟩
           · have t5 : ¬ (b : Int) - (a : Int) < 50 := by omega
             have RI := RI1
             have OI := OI1
             clear RI1 OI1
             go_wp2_with fail
             obtain ⟨x0, y0, ⟨s1, s2, s3, s4, ⟨s5, s6⟩, s7, s8⟩, hS⟩ := RI.out.swp (i := i) (j := i - 1) (by have := DS.out; omega) (by have := DS.out; omega)
             obtain ⟨d1, hd1⟩ : ∃ d1, Sort.swp dk i (i - 1) = d1 := ⟨_, rfl⟩
             rw [hd1] at hS
             have p0 : (0 : Int) ≤ (i : Int) := by omega
             have p1 : (i : Int) < n := by omega
             have p2 : (0 : Int) ≤ ((i - 1 : Nat) : Int) := by omega
             have p3 : ((i - 1 : Nat) : Int) < n := by omega
             have p4 : (i : Int) - 1 = ((i - 1 : Nat) : Int) := by omega
             have RS := Lib.hid hS
             have DS1 := Lib.hid (show d1.size = n by rw [← hd1, size_swp]; exact DS.out)
             have D1 := Lib.hid hd1
             clear hS hd1
             go_region
             obtain ⟨w4, hw4⟩ : ∃ w4, ((w3.setCell ⟨g, i, none⟩ (.int .u32 (y0 : Int))).setCell ⟨g, i - 1, none⟩ (.int .u32 (x0 : Int))).drew = w4 := ⟨_, rfl⟩
             have R1 := Lib.hid (show RowAt w4 g tl d1 by rw [← hw4]; exact RS.out)
             have O1 := Lib.hid (show One g w w4 by rw [← hw4]; exact Tch.trans OI.out (Tch.trans One.swap Tch.drew))
             rw [hw4]
             clear hw4 s1 s2 s3 s4 s5 s6 s7 s8 p0 p1 p2 p3 p4
             by_cases h3 : 2 ≤ i - a
             · have t3 : (2 : Int) ≤ (i : Int) - (a : Int) := by omega
               go_wp2_with fail
               go_loopw [9] (fun s9 wq => ∃ (j : Nat) (dj : Array Nat), s9 = .int .i64 j ∧ j < i ∧ dj.size = n ∧ RowAt wq g tl dj ∧ One g w wq ∧ Sort.shiftDown ltN j dj = Sort.shiftDown ltN (i - 1) d1) (fun s9 _ => (intOf s9).toNat)
               case atStart => exact ⟨i - 1, d1, by simp; omega, by omega, DS1.out, R1.out, O1.out, rfl⟩
               case round =>
                 obtain ⟨j, dj, rfl, hj, hdj, hRj, hOj, heqj⟩ := hrel
                 have RJ := Lib.hid hRj
                 have OJ := Lib.hid hOj
                 have DJ := Lib.hid hdj
                 have EJ := Lib.hid heqj
                 clear hRj hOj hdj heqj
                 by_cases h2 : 1 ≤ j
                 · have t2 : (1 : Int) ≤ j := by omega
                   have c1 := fun m0 => (RJ.out.drewN m0).cell (i := j) (by have := DJ.out; omega)
                   have c0 := fun m0 => (RJ.out.drewN m0).cell (i := j - 1) (by have := DJ.out; omega)
                   have q0 : (0 : Int) ≤ (j : Nat) := by omega
                   have q1 : ((j : Nat) : Int) < n := by omega
                   have q2 : (0 : Int) ≤ ((j - 1 : Nat) : Int) := by omega
                   have q3 : ((j - 1 : Nat) : Int) < n := by omega
                   have e1 : ((j : Nat) : Int) - 1 = ((j - 1 : Nat) : Int) := by omega
                   have hl := RJ.out.lt
                   obtain ⟨x, hx⟩ : ∃ x, dj[j]! = x := ⟨_, rfl⟩
                   obtain ⟨y, hy⟩ : ∃ y, dj[j - 1]! = y := ⟨_, rfl⟩
                   rw [hx] at c1
                   rw [hy] at c0
                   have XY := Lib.hid (And.intro hx hy)
                   clear hx hy
                   go_wp2_with fail
                   go_quiet ((go_at_call 166; exact Calls.quiet_of_same (turn (less_any x y _))))
                   rcases hxy : ltN x y with _ | _
                   · have H2 := Lib.hid hxy
                     clear hxy
                     have R2 := Lib.hid (RJ.out.drewN nq)
                     have O2 := Lib.hid (show One g w (wr.drewN nq) from Tch.trans OJ.out (One.drewN _))
                     have E2 := Lib.hid (show dj = (if i - a ≥ 2 then Sort.shiftDown ltN (i - 1) d1 else d1) by rw [if_pos (by omega), ← EJ.out, down_end (.inr (by rw [XY.out.1, XY.out.2]; exact H2.out))])
                     obtain ⟨w6, hw6⟩ : ∃ w6, wr.drewN nq = w6 := ⟨_, rfl⟩
                     rw [hw6] at R2 O2 ⊢
                     clear hw6 c1 c0 hl
                     have DS2 := Lib.hid (show dj.size = n by rw [E2.out]; split <;> first | (rw [size_down]; exact DS1.out) | exact DS1.out)
                     by_cases h4 : 2 ≤ b - i
                     · have t4 : (2 : Int) ≤ (b : Int) - (i : Int) := by omega
                       go_wp2_with fail
                       go_loopw [10] (fun s9 wq => ∃ (j : Nat) (dm : Array Nat), s9 = .int .i64 j ∧ i < j ∧ j ≤ b ∧ dm.size = n ∧ RowAt wq g tl dm ∧ One g w wq ∧ Sort.shiftUp ltN b j dm = Sort.shiftUp ltN b (i + 1) dj) (fun s9 _ => b - (intOf s9).toNat)
                       case atStart => exact ⟨i + 1, dj, by simp, by omega, by omega, DS2.out, R2.out, O2.out, rfl⟩
                       case round =>
                         obtain ⟨k, dk4, rfl, hk1, hk2, hdk, hRk, hOk, heqk⟩ := hrel
                         have RL := Lib.hid hRk
                         have OL := Lib.hid hOk
                         have DL := Lib.hid hdk
                         have EL := Lib.hid heqk
                         clear hRk hOk hdk heqk
                         by_cases h5 : k < b
                         · have t5 : (k : Int) < b := by omega
                           have g1 := fun m0 => (RL.out.drewN m0).cell (i := k) (by have := DL.out; omega)
                           have g0 := fun m0 => (RL.out.drewN m0).cell (i := k - 1) (by have := DL.out; omega)
                           have r0 : (0 : Int) ≤ (k : Nat) := by omega
                           have r1 : ((k : Nat) : Int) < n := by omega
                           have r2 : (0 : Int) ≤ ((k - 1 : Nat) : Int) := by omega
                           have r3 : ((k - 1 : Nat) : Int) < n := by omega
                           have r4 : ((k : Nat) : Int) - 1 = ((k - 1 : Nat) : Int) := by omega
                           have hl4 := RL.out.lt
                           obtain ⟨u, hx⟩ : ∃ x, dk4[k]! = x := ⟨_, rfl⟩
                           obtain ⟨v, hy⟩ : ∃ y, dk4[k - 1]! = y := ⟨_, rfl⟩
                           rw [hx] at g1
                           rw [hy] at g0
                           have UV := Lib.hid (And.intro hx hy)
                           clear hx hy
                           go_wp2_with fail
                           go_quiet ((go_at_call 166; exact Calls.quiet_of_same (turn (less_any u v _))))
                           rcases huv : ltN u v with _ | _
                           · have H5 := Lib.hid huv
                             clear huv
                             have ED := Lib.hid (show dk4 = stepD a b i dk by unfold stepD; simp only; rw [D1.out, if_pos h4, ← E2.out, ← EL.out, up_end (.inr (by rw [UV.out.1, UV.out.2]; exact H5.out))])
                             go_wp2_with fail
                             go_roundw
                             case rel => exact ⟨i, st + 1, dk4, rfl, by first | rfl | simp, by omega, by omega, by omega, DL.out, RL.out.drewN _, Tch.trans OL.out (One.drewN _), by have h := EQ.out; rw [show 5 - st = 5 - (st + 1) + 1 by omega, pi_step SC.out (by omega) (by omega), ← ED.out] at h; exact h⟩
                             case measure => first | (simp [intOf]; done) | (simp [intOf]; omega)
                           · have H5 := Lib.hid huv
                             clear huv
                             have f5 := fun m => (RL.out.drewN m).free k
                             have f6 := fun m => (RL.out.drewN m).free (k - 1)
                             go_wp2_with fail
                             go_region
                             go_wp2_with fail
                             go_roundw
                             case rel =>
                               have h := (RL.out.drewN nq).drew.swap (i := k) (j := k - 1) (by have := DL.out; omega) (by have := DL.out; omega)
                               rw [UV.out.1, UV.out.2] at h
                               exact ⟨k + 1, Sort.swp dk4 k (k - 1), by first | rfl | simp, by omega, by omega, by rw [size_swp]; exact DL.out, h, Tch.trans OL.out (Tch.trans (One.drewN _) (Tch.trans Tch.drew One.swap)), by rw [← up_more h5 (by rw [UV.out.1, UV.out.2]; exact H5.out)]; exact EL.out⟩
                             case measure => first | (simp [intOf]; done) | (simp [intOf]; omega)
                         · have t5 : ¬ (k : Int) < b := by omega
                           have ED := Lib.hid (show dk4 = stepD a b i dk by unfold stepD; simp only; rw [D1.out, if_pos h4, ← E2.out, ← EL.out, up_end (.inl h5)])
                           go_wp2_with fail
                           go_roundw
                           case rel => exact ⟨i, st + 1, dk4, rfl, by first | rfl | simp, by omega, by omega, by omega, DL.out, RL.out, OL.out, by have h := EQ.out; rw [show 5 - st = 5 - (st + 1) + 1 by omega, pi_step SC.out (by omega) (by omega), ← ED.out] at h; exact h⟩
                           case measure => first | (simp [intOf]; done) | (simp [intOf]; omega)
                     · have t4 : ¬ (2 : Int) ≤ (b : Int) - (i : Int) := by omega
                       have ED := Lib.hid (show dj = stepD a b i dk by unfold stepD; simp only; rw [D1.out, if_neg h4]; exact E2.out)
                       go_wp2_with fail
                       go_roundw
                       case rel => exact ⟨i, st + 1, dj, rfl, by first | rfl | simp, by omega, by omega, by omega, DS2.out, R2.out, O2.out, by have h := EQ.out; rw [show 5 - st = 5 - (st + 1) + 1 by omega, pi_step SC.out (by omega) (by omega), ← ED.out] at h; exact h⟩
                       case measure => first | (simp [intOf]; done) | (simp [intOf]; omega)
                   · have H2 := Lib.hid hxy
                     clear hxy
                     have f1 := fun k => (RJ.out.drewN k).free j
                     have f0 := fun k => (RJ.out.drewN k).free (j - 1)
                     go_wp2_with fail
                     go_region
                     go_wp2_with fail
                     go_roundw
                     case rel =>
                       have h := (RJ.out.drewN nq).drew.swap (i := j) (j := j - 1) (by have := DJ.out; omega) (by have := DJ.out; omega)
                       rw [XY.out.1, XY.out.2] at h
                       exact ⟨j - 1, Sort.swp dj j (j - 1), by first | rfl | (simp; omega), by omega, by rw [size_swp]; exact DJ.out, h, Tch.trans OJ.out (Tch.trans (One.drewN _) (Tch.trans Tch.drew One.swap)), by rw [← down_more h2 (by rw [XY.out.1, XY.out.2]; exact H2.out)]; exact EJ.out⟩
                     case measure => first | (simp [intOf]; done) | (simp [intOf]; omega)
                 · obtain rfl : j = 0 := by omega
                   have R2 := RJ
                   have O2 := OJ
                   have E2 := Lib.hid (show dj = (if i - a ≥ 2 then Sort.shiftDown ltN (i - 1) d1 else d1) by rw [if_pos (by omega), ← EJ.out]; rfl)
                   obtain ⟨w6, hw6⟩ : ∃ w6, wr = w6 := ⟨_, rfl⟩
                   rw [hw6] at R2 O2 ⊢
                   clear hw6
                   have DS2 := Lib.hid (show dj.size = n by rw [E2.out]; split <;> first | (rw [size_down]; exact DS1.out) | exact DS1.out)
                   by_cases h4 : 2 ≤ b - i
                   · have t4 : (2 : Int) ≤ (b : Int) - (i : Int) := by omega
                     go_wp2_with fail
                     go_loopw [10] (fun s9 wq => ∃ (j : Nat) (dm : Array Nat), s9 = .int .i64 j ∧ i < j ∧ j ≤ b ∧ dm.size = n ∧ RowAt wq g tl dm ∧ One g w wq ∧ Sort.shiftUp ltN b j dm = Sort.shiftUp ltN b (i + 1) dj) (fun s9 _ => b - (intOf s9).toNat)
                     case atStart => exact ⟨i + 1, dj, by simp, by omega, by omega, DS2.out, R2.out, O2.out, rfl⟩
                     case round =>
                       obtain ⟨k, dk4, rfl, hk1, hk2, hdk, hRk, hOk, heqk⟩ := hrel
                       have RL := Lib.hid hRk
                       have OL := Lib.hid hOk
                       have DL := Lib.hid hdk
                       have EL := Lib.hid heqk
                       clear hRk hOk hdk heqk
                       by_cases h5 : k < b
                       · have t5 : (k : Int) < b := by omega
                         have g1 := fun m0 => (RL.out.drewN m0).cell (i := k) (by have := DL.out; omega)
                         have g0 := fun m0 => (RL.out.drewN m0).cell (i := k - 1) (by have := DL.out; omega)
                         have r0 : (0 : Int) ≤ (k : Nat) := by omega
                         have r1 : ((k : Nat) : Int) < n := by omega
                         have r2 : (0 : Int) ≤ ((k - 1 : Nat) : Int) := by omega
                         have r3 : ((k - 1 : Nat) : Int) < n := by omega
                         have r4 : ((k : Nat) : Int) - 1 = ((k - 1 : Nat) : Int) := by omega
                         have hl4 := RL.out.lt
                         obtain ⟨u, hx⟩ : ∃ x, dk4[k]! = x := ⟨_, rfl⟩
                         obtain ⟨v, hy⟩ : ∃ y, dk4[k - 1]! = y := ⟨_, rfl⟩
                         rw [hx] at g1
                         rw [hy] at g0
                         have UV := Lib.hid (And.intro hx hy)
                         clear hx hy
                         go_wp2_with fail
                         go_quiet ((go_at_call 166; exact Calls.quiet_of_same (turn (less_any u v _))))
                         rcases huv : ltN u v with _ | _
                         · have H5 := Lib.hid huv
                           clear huv
                           have ED := Lib.hid (show dk4 = stepD a b i dk by unfold stepD; simp only; rw [D1.out, if_pos h4, ← E2.out, ← EL.out, up_end (.inr (by rw [UV.out.1, UV.out.2]; exact H5.out))])
                           go_wp2_with fail
                           go_roundw
                           case rel => exact ⟨i, st + 1, dk4, rfl, by first | rfl | simp, by omega, by omega, by omega, DL.out, RL.out.drewN _, Tch.trans OL.out (One.drewN _), by have h := EQ.out; rw [show 5 - st = 5 - (st + 1) + 1 by omega, pi_step SC.out (by omega) (by omega), ← ED.out] at h; exact h⟩
                           case measure => first | (simp [intOf]; done) | (simp [intOf]; omega)
                         · have H5 := Lib.hid huv
                           clear huv
                           have f5 := fun m => (RL.out.drewN m).free k
                           have f6 := fun m => (RL.out.drewN m).free (k - 1)
                           go_wp2_with fail
                           go_region
                           go_wp2_with fail
                           go_roundw
                           case rel =>
                             have h := (RL.out.drewN nq).drew.swap (i := k) (j := k - 1) (by have := DL.out; omega) (by have := DL.out; omega)
                             rw [UV.out.1, UV.out.2] at h
                             exact ⟨k + 1, Sort.swp dk4 k (k - 1), by first | rfl | simp, by omega, by omega, by rw [size_swp]; exact DL.out, h, Tch.trans OL.out (Tch.trans (One.drewN _) (Tch.trans Tch.drew One.swap)), by rw [← up_more h5 (by rw [UV.out.1, UV.out.2]; exact H5.out)]; exact EL.out⟩
                           case measure => first | (simp [intOf]; done) | (simp [intOf]; omega)
                       · have t5 : ¬ (k : Int) < b := by omega
                         have ED := Lib.hid (show dk4 = stepD a b i dk by unfold stepD; simp only; rw [D1.out, if_pos h4, ← E2.out, ← EL.out, up_end (.inl h5)])
                         go_wp2_with fail
                         go_roundw
                         case rel => exact ⟨i, st + 1, dk4, rfl, by first | rfl | simp, by omega, by omega, by omega, DL.out, RL.out, OL.out, by have h := EQ.out; rw [show 5 - st = 5 - (st + 1) + 1 by omega, pi_step SC.out (by omega) (by omega), ← ED.out] at h; exact h⟩
                         case measure => first | (simp [intOf]; done) | (simp [intOf]; omega)
                   · have t4 : ¬ (2 : Int) ≤ (b : Int) - (i : Int) := by omega
                     have ED := Lib.hid (show dj = stepD a b i dk by unfold stepD; simp only; rw [D1.out, if_neg h4]; exact E2.out)
                     go_wp2_with fail
                     go_roundw
                     case rel => exact ⟨i, st + 1, dj, rfl, by first | rfl | simp, by omega, by omega, by omega, DS2.out, R2.out, O2.out, by have h := EQ.out; rw [show 5 - st = 5 - (st + 1) + 1 by omega, pi_step SC.out (by omega) (by omega), ← ED.out] at h; exact h⟩
                     case measure => first | (simp [intOf]; done) | (simp [intOf]; omega)
             · have t3 : ¬ (2 : Int) ≤ (i : Int) - (a : Int) := by omega
               have R2 := R1
               have O2 := O1
               have E2 := Lib.hid (show d1 = (if i - a ≥ 2 then Sort.shiftDown ltN (i - 1) d1 else d1) by rw [if_neg h3])
               have DS2 := Lib.hid (show d1.size = n by rw [E2.out]; split <;> first | (rw [size_down]; exact DS1.out) | exact DS1.out)
               by_cases h4 : 2 ≤ b - i
               · have t4 : (2 : Int) ≤ (b : Int) - (i : Int) := by omega
                 go_wp2_with fail
                 go_loopw [10] (fun s9 wq => ∃ (j : Nat) (dm : Array Nat), s9 = .int .i64 j ∧ i < j ∧ j ≤ b ∧ dm.size = n ∧ RowAt wq g tl dm ∧ One g w wq ∧ Sort.shiftUp ltN b j dm = Sort.shiftUp ltN b (i + 1) d1) (fun s9 _ => b - (intOf s9).toNat)
                 case atStart => exact ⟨i + 1, d1, by simp, by omega, by omega, DS2.out, R2.out, O2.out, rfl⟩
                 case round =>
                   obtain ⟨k, dk4, rfl, hk1, hk2, hdk, hRk, hOk, heqk⟩ := hrel
                   have RL := Lib.hid hRk
                   have OL := Lib.hid hOk
                   have DL := Lib.hid hdk
                   have EL := Lib.hid heqk
                   clear hRk hOk hdk heqk
                   by_cases h5 : k < b
                   · have t5 : (k : Int) < b := by omega
                     have g1 := fun m0 => (RL.out.drewN m0).cell (i := k) (by have := DL.out; omega)
                     have g0 := fun m0 => (RL.out.drewN m0).cell (i := k - 1) (by have := DL.out; omega)
                     have r0 : (0 : Int) ≤ (k : Nat) := by omega
                     have r1 : ((k : Nat) : Int) < n := by omega
                     have r2 : (0 : Int) ≤ ((k - 1 : Nat) : Int) := by omega
                     have r3 : ((k - 1 : Nat) : Int) < n := by omega
                     have r4 : ((k : Nat) : Int) - 1 = ((k - 1 : Nat) : Int) := by omega
                     have hl4 := RL.out.lt
                     obtain ⟨u, hx⟩ : ∃ x, dk4[k]! = x := ⟨_, rfl⟩
                     obtain ⟨v, hy⟩ : ∃ y, dk4[k - 1]! = y := ⟨_, rfl⟩
                     rw [hx] at g1
                     rw [hy] at g0
                     have UV := Lib.hid (And.intro hx hy)
                     clear hx hy
                     go_wp2_with fail
                     go_quiet ((go_at_call 166; exact Calls.quiet_of_same (turn (less_any u v _))))
                     rcases huv : ltN u v with _ | _
                     · have H5 := Lib.hid huv
                       clear huv
                       have ED := Lib.hid (show dk4 = stepD a b i dk by unfold stepD; simp only; rw [D1.out, if_pos h4, ← E2.out, ← EL.out, up_end (.inr (by rw [UV.out.1, UV.out.2]; exact H5.out))])
                       go_wp2_with fail
                       go_roundw
                       case rel => exact ⟨i, st + 1, dk4, rfl, by first | rfl | simp, by omega, by omega, by omega, DL.out, RL.out.drewN _, Tch.trans OL.out (One.drewN _), by have h := EQ.out; rw [show 5 - st = 5 - (st + 1) + 1 by omega, pi_step SC.out (by omega) (by omega), ← ED.out] at h; exact h⟩
                       case measure => first | (simp [intOf]; done) | (simp [intOf]; omega)
                     · have H5 := Lib.hid huv
                       clear huv
                       have f5 := fun m => (RL.out.drewN m).free k
                       have f6 := fun m => (RL.out.drewN m).free (k - 1)
                       go_wp2_with fail
                       go_region
                       go_wp2_with fail
                       go_roundw
                       case rel =>
                         have h := (RL.out.drewN nq).drew.swap (i := k) (j := k - 1) (by have := DL.out; omega) (by have := DL.out; omega)
                         rw [UV.out.1, UV.out.2] at h
                         exact ⟨k + 1, Sort.swp dk4 k (k - 1), by first | rfl | simp, by omega, by omega, by rw [size_swp]; exact DL.out, h, Tch.trans OL.out (Tch.trans (One.drewN _) (Tch.trans Tch.drew One.swap)), by rw [← up_more h5 (by rw [UV.out.1, UV.out.2]; exact H5.out)]; exact EL.out⟩
                       case measure => first | (simp [intOf]; done) | (simp [intOf]; omega)
                   · have t5 : ¬ (k : Int) < b := by omega
                     have ED := Lib.hid (show dk4 = stepD a b i dk by unfold stepD; simp only; rw [D1.out, if_pos h4, ← E2.out, ← EL.out, up_end (.inl h5)])
                     go_wp2_with fail
                     go_roundw
                     case rel => exact ⟨i, st + 1, dk4, rfl, by first | rfl | simp, by omega, by omega, by omega, DL.out, RL.out, OL.out, by have h := EQ.out; rw [show 5 - st = 5 - (st + 1) + 1 by omega, pi_step SC.out (by omega) (by omega), ← ED.out] at h; exact h⟩
                     case measure => first | (simp [intOf]; done) | (simp [intOf]; omega)
               · have t4 : ¬ (2 : Int) ≤ (b : Int) - (i : Int) := by omega
                 have ED := Lib.hid (show d1 = stepD a b i dk by unfold stepD; simp only; rw [D1.out, if_neg h4]; exact E2.out)
                 go_wp2_with fail
                 go_roundw
                 case rel => exact ⟨i, st + 1, d1, rfl, by first | rfl | simp, by omega, by omega, by omega, DS2.out, R2.out, O2.out, by have h := EQ.out; rw [show 5 - st = 5 - (st + 1) + 1 by omega, pi_step SC.out (by omega) (by omega), ← ED.out] at h; exact h⟩
                 case measure => first | (simp [intOf]; done) | (simp [intOf]; omega)
       · obtain rfl : i = b := by omega
         have t1 : ¬ (i : Int) < i := by omega
         have SC := Lib.hid (show Sort.scanSorted ltN dk i i0 = i by rw [← SC0.out, scan_end (.inl h1)])
         go_wp2_with fail
         go_quiet (fail)
         go_wp2_with fail
         go_ret
         have hP := EQ.out
         rw [show 5 - st = 4 - st + 1 by omega, pi_true SC.out] at hP
         rw [← hP]
         exact ⟨rfl, RI0.out.drewN _, Tch.trans OI0.out (One.drewN _)⟩
   · obtain rfl : st = 5 := by omega
     go_wp2_with fail
     go_ret
     rw [← EQ.out]
     exact ⟨rfl, RK.out, OK.out⟩
end Go.Proofs.YtmfhnhnmdeabeaaGreat.So
end
