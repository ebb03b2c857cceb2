/- slices.Sort at numbers of 32 bits: siftDownOrdered, heapSortOrdered. -/
import Derived.Test.YtmfhnhnmdeabeaaGreatM13
set_option linter.unusedVariables false
set_option linter.unusedSimpArgs false
set_option maxRecDepth 100000
section
namespace Go.Proofs.YtmfhnhnmdeabeaaGreat.So
open Go.RowKit Go.Shelf Tr
theorem sd_end {hi first root : Nat} {d : Array Nat} (h : hi ≤ 2 * root + 1) : Sort.siftDown ltN hi first root d = d := by
 unfold Sort.siftDown
 rw [dif_pos h]
theorem sd_1 {hi first root : Nat} {d : Array Nat} (h : 2 * root + 1 < hi) (h1 : (decide (2 * root + 1 + 1 < hi) && ltN d[first + (2 * root + 1)]! d[first + (2 * root + 1) + 1]!) = false) :
   Sort.siftDown ltN hi first root d = if ltN d[first + root]! d[first + (2 * root + 1)]! then Sort.siftDown ltN hi first (2 * root + 1) (Sort.swp d (first + root) (first + (2 * root + 1))) else d := by
 conv => lhs; unfold Sort.siftDown
 rw [dif_neg (by omega), h1]
 cases ltN d[first + root]! d[first + (2 * root + 1)]! <;> simp
theorem sd_2 {hi first root : Nat} {d : Array Nat} (h : 2 * root + 1 + 1 < hi) (h1 : ltN d[first + (2 * root + 1)]! d[first + (2 * root + 1) + 1]! = true) :
   Sort.siftDown ltN hi first root d = if ltN d[first + root]! d[first + (2 * root + 2)]! then Sort.siftDown ltN hi first (2 * root + 2) (Sort.swp d (first + root) (first + (2 * root + 2))) else d := by
 conv => lhs; unfold Sort.siftDown
 rw [dif_neg (by omega)]
 have e : (decide (2 * root + 1 + 1 < hi) && ltN d[first + (2 * root + 1)]! d[first + (2 * root + 1) + 1]!) = true := by simp [h, h1]
 rw [e]
 have h2 : 2 * root + 2 < hi := h
 cases ltN d[first + root]! d[first + (2 * root + 2)]! <;> simp [h2]
theorem sd_size (hi first : Nat) : ∀ (k root : Nat) (d : Array Nat), hi - root ≤ k → (Sort.siftDown ltN hi first root d).size = d.size
 | 0, root, d, h => by rw [sd_end (by omega)]
 | k + 1, root, d, h => by
   by_cases h1 : 2 * root + 1 < hi
   · rcases h2 : decide (2 * root + 1 + 1 < hi) && ltN d[first + (2 * root + 1)]! d[first + (2 * root + 1) + 1]! with _ | _
     · rw [sd_1 h1 h2]
       split
       · rw [sd_size hi first k _ _ (by omega), size_swp]
       · rfl
     · simp only [Bool.and_eq_true, decide_eq_true_eq] at h2
       rw [sd_2 h2.1 h2.2]
       split
       · rw [sd_size hi first k _ _ (by omega), size_swp]
       · rfl
   · rw [sd_end (by omega)]
set_option maxHeartbeats 8000000 in
theorem sift_any (g n cap lo hi first : Nat) (tl : List Value) (d : Array Nat) (w : World) (hR : RowAt w g tl d) (hn : d.size = n) (hn2 : n ≤ 256) (hb : first + hi ≤ n) (hlo : lo ≤ hi) :
   Calls Tryz.prog 182 #[.slice (some ⟨g, 0, none⟩) n cap, .int .i64 lo, .int .i64 hi, .int .i64 first] w fun e w' => e = .returned (.tuple #[]) ∧ RowAt w' g tl (Sort.siftDown ltN hi first lo d) ∧ One g w w' := by
 have HR := Lib.hid hR
 have HN := Lib.hid hn
 clear hR hn
 go_enter Tryz.func182, Tryz.ntmps182
 go_wp2_with fail
 go_loopw [8] (fun s8 wr => ∃ (root : Nat) (dk : Array Nat), s8 = .int .i64 root ∧ root ≤ hi ∧ dk.size = n ∧ RowAt wr g tl dk ∧ One g w wr ∧ Sort.siftDown ltN hi first root dk = Sort.siftDown ltN hi first lo d) (fun s8 _ => hi - (intOf s8).toNat)
 case atStart => exact ⟨lo, d, rfl, hlo, HN.out, HR.out, Tch.refl _ _, rfl⟩
 case round =>
   obtain ⟨root, dk, rfl, hro, hds, hRk, hOk, heq⟩ := hrel
   have RK := Lib.hid hRk
   have OK := Lib.hid hOk
   have DS := Lib.hid hds
   have EQ := Lib.hid heq
   clear hRk hOk hds heq
   obtain ⟨c1, hc1⟩ : ∃ c1, c1 = 2 * root + 1 := ⟨_, rfl⟩
   have e0 : 2 * (root : Int) + 1 = (c1 : Int) := by omega
   by_cases h1 : c1 < hi
   · have t1 : ¬ (hi : Int) ≤ (c1 : Int) := by omega
     obtain ⟨c2, hc2⟩ : ∃ c2, c2 = c1 + 1 := ⟨_, rfl⟩
     obtain ⟨pr, hpr⟩ : ∃ pr, pr = first + root := ⟨_, rfl⟩
     obtain ⟨p1, hp1⟩ : ∃ p1, p1 = first + c1 := ⟨_, rfl⟩
     obtain ⟨p2, hp2⟩ : ∃ p2, p2 = first + c2 := ⟨_, rfl⟩
     have ea : (first : Int) + (root : Int) = (pr : Int) := by omega
     have eb : (first : Int) + (c1 : Int) = (p1 : Int) := by omega
     have ec : (c1 : Int) + 1 = (c2 : Int) := by omega
     have ed : (p1 : Int) + 1 = (p2 : Int) := by omega
     have ef : (first : Int) + (c2 : Int) = (p2 : Int) := by omega
     have hl := RK.out.lt
     have k1 := fun k => (RK.out.drewN k).cell (i := pr) (by have := DS.out; omega)
     have k2 := fun k => (RK.out.drewN k).cell (i := p1) (by have := DS.out; omega)
     obtain ⟨x, hx⟩ : ∃ x, dk[pr]! = x := ⟨_, rfl⟩
     obtain ⟨y, hy⟩ : ∃ y, dk[p1]! = y := ⟨_, rfl⟩
     rw [hx] at k1
     rw [hy] at k2
     have XY := Lib.hid (And.intro hx hy)
     have q1 : (0 : Int) ≤ (pr : Int) := by omega
     have q2 : (pr : Int) < n := by omega
     have q3 : (0 : Int) ≤ (p1 : Int) := by omega
     have q4 : (p1 : Int) < n := by omega
     have H1 := Lib.hid h1
     have CC := Lib.hid (And.intro hc1 (And.intro hc2 (And.intro hpr (And.intro hp1 hp2))))
     have LE := Lib.hid (And.intro hb (And.intro hro hn2))
     have bb : root ≤ 256 ∧ c1 ≤ 600 ∧ c2 ≤ 600 ∧ pr ≤ 600 ∧ p1 ≤ 600 ∧ p2 ≤ 600 ∧ n ≤ 256 ∧ first ≤ 256 := by omega
     obtain ⟨b1, b2, b3, b4, b5, b6, b7, b8⟩ := bb
     clear hc1 hc2 hpr hp1 hp2 hb hro hlo
     clear hx hy h1
     go_wp2_with fail
     by_cases h2 : c2 < hi
     · have t2 : (c2 : Int) < hi := by omega
       have k3 := fun k => (RK.out.drewN k).cell (i := p2) (by have := DS.out; have := CC.out; have := LE.out; omega)
       obtain ⟨z, hz⟩ : ∃ z, dk[p2]! = z := ⟨_, rfl⟩
       rw [hz] at k3
       have ZZ := Lib.hid hz
       have q5 : (0 : Int) ≤ (p2 : Int) := by omega
       have q6 : (p2 : Int) < n := by have := CC.out; have := LE.out; omega
       have H2 := Lib.hid h2
       clear hz h2
       go_quiet ((go_at_call 166; exact Calls.quiet_of_same (turn (less_any y z _))))
       rcases hyz : ltN y z with _ | _
       · have H3 := Lib.hid hyz
         clear hyz
         go_wp2_with fail
         obtain ⟨w5, hw5⟩ : ∃ w5, wr.drewN nq = w5 := ⟨_, rfl⟩
         have R5 := Lib.hid (show RowAt w5 g tl dk by rw [← hw5]; exact RK.out.drewN _)
         have O5 := Lib.hid (show One g w w5 by rw [← hw5]; exact Tch.trans OK.out (One.drewN _))
         rw [hw5]
         clear hw5 k1 k2 hl
         have hl := R5.out.lt
         have K1 := fun k => (R5.out.drewN k).cell (i := pr) (by have := DS.out; have := CC.out; have := LE.out; have := H1.out; omega)
         have K2 := fun k => (R5.out.drewN k).cell (i := p1) (by have := DS.out; have := CC.out; have := LE.out; have := H1.out; have := H2.out; omega)
         rw [XY.out.1] at K1
         rw [XY.out.2] at K2
         go_quiet ((go_at_call 166; exact Calls.quiet_of_same (turn (less_any x y _))))
         rcases hxy : ltN x y with _ | _
         · have H4 := Lib.hid hxy
           clear hxy
           go_wp2_with fail
           refine bodyPost_ret (results_none rfl _ _ _) rfl ?_
           refine ⟨rfl, ?_, Tch.trans O5.out (One.drewN _)⟩
           obtain ⟨rfl, rfl, rfl, rfl, rfl⟩ := CC.out
           rw [← EQ.out, sd_1 H1.out (by rw [XY.out.2, show first + (2 * root + 1) + 1 = first + (2 * root + 1 + 1) from rfl, ZZ.out, H3.out]; simp), XY.out.1, XY.out.2, H4.out]
           exact R5.out.drewN _
         · have H4 := Lib.hid hxy
           clear hxy
           have f1 := fun k => (R5.out.drewN k).free pr
           have f2 := fun k => (R5.out.drewN k).free p1
           go_wp2_with fail
           go_region
           go_wp2_with fail
           go_roundw
           case rel =>
             have h := ((R5.out.drewN nq).drew).swap (i := pr) (j := p1) (by have := DS.out; have := H1.out; have := CC.out; have := LE.out; omega) (by have := DS.out; have := H1.out; have := H2.out; have := CC.out; have := LE.out; omega)
             rw [XY.out.1, XY.out.2] at h
             refine ⟨c1, Sort.swp dk pr p1, rfl, by have := H1.out; have := H2.out; have := CC.out; omega, by rw [size_swp]; exact DS.out, h, Tch.trans O5.out (Tch.trans (One.drewN _) (Tch.trans Tch.drew One.swap)), ?_⟩
             obtain ⟨rfl, rfl, rfl, rfl, rfl⟩ := CC.out
             have h5 := EQ.out
             rw [sd_1 H1.out (by rw [XY.out.2, show first + (2 * root + 1) + 1 = first + (2 * root + 1 + 1) from rfl, ZZ.out, H3.out]; simp), XY.out.1, XY.out.2, H4.out] at h5
             exact h5
           case measure => simp [intOf]; have := H1.out; have := H2.out; have := CC.out; omega
       · have H3 := Lib.hid hyz
         clear hyz
         go_wp2_with fail
         obtain ⟨w5, hw5⟩ : ∃ w5, wr.drewN nq = w5 := ⟨_, rfl⟩
         have R5 := Lib.hid (show RowAt w5 g tl dk by rw [← hw5]; exact RK.out.drewN _)
         have O5 := Lib.hid (show One g w w5 by rw [← hw5]; exact Tch.trans OK.out (One.drewN _))
         rw [hw5]
         clear hw5 k1 k2 hl
         have hl := R5.out.lt
         have K1 := fun k => (R5.out.drewN k).cell (i := pr) (by have := DS.out; have := CC.out; have := LE.out; have := H1.out; omega)
         have K2 := fun k => (R5.out.drewN k).cell (i := p2) (by have := DS.out; have := CC.out; have := LE.out; have := H1.out; have := H2.out; omega)
         rw [XY.out.1] at K1
         rw [ZZ.out] at K2
         go_quiet ((go_at_call 166; exact Calls.quiet_of_same (turn (less_any x z _))))
         rcases hxy : ltN x z with _ | _
         · have H4 := Lib.hid hxy
           clear hxy
           go_wp2_with fail
           refine bodyPost_ret (results_none rfl _ _ _) rfl ?_
           refine ⟨rfl, ?_, Tch.trans O5.out (One.drewN _)⟩
           obtain ⟨rfl, rfl, rfl, rfl, rfl⟩ := CC.out
           rw [← EQ.out, sd_2 H2.out (by rw [XY.out.2, show first + (2 * root + 1) + 1 = first + (2 * root + 1 + 1) from rfl, ZZ.out]; exact H3.out), XY.out.1, ZZ.out, H4.out]
           exact R5.out.drewN _
         · have H4 := Lib.hid hxy
           clear hxy
           have f1 := fun k => (R5.out.drewN k).free pr
           have f2 := fun k => (R5.out.drewN k).free p2
           go_wp2_with fail
           go_region
           go_wp2_with fail
           go_roundw
           case rel =>
             have h := ((R5.out.drewN nq).drew).swap (i := pr) (j := p2) (by have := DS.out; have := H1.out; have := CC.out; have := LE.out; omega) (by have := DS.out; have := H1.out; have := H2.out; have := CC.out; have := LE.out; omega)
             rw [XY.out.1, ZZ.out] at h
             refine ⟨c2, Sort.swp dk pr p2, rfl, by have := H1.out; have := H2.out; have := CC.out; omega, by rw [size_swp]; exact DS.out, h, Tch.trans O5.out (Tch.trans (One.drewN _) (Tch.trans Tch.drew One.swap)), ?_⟩
             obtain ⟨rfl, rfl, rfl, rfl, rfl⟩ := CC.out
             have h5 := EQ.out
             rw [sd_2 H2.out (by rw [XY.out.2, show first + (2 * root + 1) + 1 = first + (2 * root + 1 + 1) from rfl, ZZ.out]; exact H3.out), XY.out.1, ZZ.out, H4.out] at h5
             exact h5
           case measure => simp [intOf]; have := H1.out; have := H2.out; have := CC.out; omega
     · have t2 : ¬ (c2 : Int) < hi := by omega
       have H2 := Lib.hid h2
       clear h2
       go_quiet (fail)
       go_wp2_with fail
       obtain ⟨w5, hw5⟩ : ∃ w5, wr.drewN nq = w5 := ⟨_, rfl⟩
       have R5 := Lib.hid (show RowAt w5 g tl dk by rw [← hw5]; exact RK.out.drewN _)
       have O5 := Lib.hid (show One g w w5 by rw [← hw5]; exact Tch.trans OK.out (One.drewN _))
       rw [hw5]
       clear hw5 k1 k2 hl
       have hl := R5.out.lt
       have K1 := fun k => (R5.out.drewN k).cell (i := pr) (by have := DS.out; have := CC.out; have := LE.out; have := H1.out; omega)
       have K2 := fun k => (R5.out.drewN k).cell (i := p1) (by have := DS.out; have := CC.out; have := LE.out; have := H1.out; have := H2.out; omega)
       rw [XY.out.1] at K1
       rw [XY.out.2] at K2
       go_quiet ((go_at_call 166; exact Calls.quiet_of_same (turn (less_any x y _))))
       rcases hxy : ltN x y with _ | _
       · have H4 := Lib.hid hxy
         clear hxy
         go_wp2_with fail
         refine bodyPost_ret (results_none rfl _ _ _) rfl ?_
         refine ⟨rfl, ?_, Tch.trans O5.out (One.drewN _)⟩
         obtain ⟨rfl, rfl, rfl, rfl, rfl⟩ := CC.out
         rw [← EQ.out, sd_1 H1.out (by simp; intro h; have := H2.out; omega), XY.out.1, XY.out.2, H4.out]
         exact R5.out.drewN _
       · have H4 := Lib.hid hxy
         clear hxy
         have f1 := fun k => (R5.out.drewN k).free pr
         have f2 := fun k => (R5.out.drewN k).free p1
         go_wp2_with fail
         go_region
         go_wp2_with fail
         go_roundw
         case rel =>
           have h := ((R5.out.drewN nq).drew).swap (i := pr) (j := p1) (by have := DS.out; have := H1.out; have := CC.out; have := LE.out; omega) (by have := DS.out; have := H1.out; have := H2.out; have := CC.out; have := LE.out; omega)
           rw [XY.out.1, XY.out.2] at h
           refine ⟨c1, Sort.swp dk pr p1, rfl, by have := H1.out; have := H2.out; have := CC.out; omega, by rw [size_swp]; exact DS.out, h, Tch.trans O5.out (Tch.trans (One.drewN _) (Tch.trans Tch.drew One.swap)), ?_⟩
           obtain ⟨rfl, rfl, rfl, rfl, rfl⟩ := CC.out
           have h5 := EQ.out
           rw [sd_1 H1.out (by simp; intro h; have := H2.out; omega), XY.out.1, XY.out.2, H4.out] at h5
           exact h5
         case measure => simp [intOf]; have := H1.out; have := H2.out; have := CC.out; omega
   · have t1 : (hi : Int) ≤ (c1 : Int) := by omega
     have B1 := Lib.hid (And.intro h1 hc1)
     have b2 : c1 ≤ 600 := by omega
     clear h1 hc1
     go_wp2_with fail
     go_end0
     exact ⟨rfl, by rw [← EQ.out, sd_end (by have := B1.out; omega)]; exact RK.out, OK.out⟩
set_option maxHeartbeats 8000000 in
theorem heap_any (g n cap a b : Nat) (tl : List Value) (d : Array Nat) (w : World) (hR : RowAt w g tl d) (hn : d.size = n) (hn2 : n ≤ 256) (hab : a ≤ b) (hb : b ≤ n) :
   Calls Tryz.prog 161 #[.slice (some ⟨g, 0, none⟩) n cap, .int .i64 a, .int .i64 b] w fun e w' => e = .returned (.tuple #[]) ∧ RowAt w' g tl (Sort.heapSort ltN d a b) ∧ One g w w' := by
 have HR := Lib.hid hR
 have HN := Lib.hid hn
 obtain ⟨hi, hhi⟩ : ∃ hi, hi = b - a := ⟨_, rfl⟩
 obtain ⟨m, hm⟩ : ∃ m, m = (hi - 1) / 2 := ⟨_, rfl⟩
 have eh : (b : Int) - (a : Int) = (hi : Int) := by omega
 have em : ((hi : Int) - 1).tdiv 2 = (m : Int) := by
   rcases Nat.eq_zero_or_pos hi with h | h
   · subst h; subst hm; rfl
   · have e : (hi : Int) - 1 = ((hi - 1 : Nat) : Int) := by omega
     rw [e, hm]; rfl
 have hm2 : m ≤ hi := by omega
 have hah : a + hi ≤ n := by omega
 have HH := Lib.hid (And.intro hhi hm)
 clear hR hn hhi hm
 go_enter Tryz.func161, Tryz.ntmps161
 go_wp2_with fail
 go_loopw [9] (fun s9 wr => ∃ (k : Nat) (z : Int) (dk : Array Nat), s9 = .int .i64 z ∧ z = (k : Int) - 1 ∧ k ≤ m + 1 ∧ dk.size = n ∧ RowAt wr g tl dk ∧ One g w wr ∧ Sort.heapBuild ltN hi a k dk = Sort.heapBuild ltN hi a (m + 1) d) (fun s9 _ => (intOf s9 + 1).toNat)
 case atStart => exact ⟨m + 1, (m : Int), d, rfl, by omega, Nat.le_refl _, HN.out, HR.out, Tch.refl _ _, rfl⟩
 case round =>
   obtain ⟨k, z, dk, rfl, hz, hk, hds, hRk, hOk, heq⟩ := hrel
   have RK := Lib.hid hRk
   have OK := Lib.hid hOk
   have DS := Lib.hid hds
   have EQ := Lib.hid heq
   clear hRk hOk hds heq
   rcases k with _ | i
   · obtain rfl : z = -1 := by omega
     clear hz
     go_wp2_with fail
     have EQ2 := Lib.hid (show dk = Sort.heapBuild ltN hi a (m + 1) d from EQ.out)
     clear EQ
     go_loopw [10] (fun s9 wr => ∃ (k : Nat) (z : Int) (dj : Array Nat), s9 = .int .i64 z ∧ z = (k : Int) - 1 ∧ k ≤ hi ∧ dj.size = n ∧ RowAt wr g tl dj ∧ One g w wr ∧ Sort.heapPop ltN a k dj = Sort.heapPop ltN a hi dk) (fun s9 _ => (intOf s9 + 1).toNat)
     case atStart => exact ⟨hi, (hi : Int) - 1, dk, rfl, rfl, Nat.le_refl _, DS.out, RK.out, OK.out, rfl⟩
     case round =>
       obtain ⟨k, z, dj, rfl, hz, hk, hds, hRk, hOk, heq⟩ := hrel
       have RJ := Lib.hid hRk
       have OJ := Lib.hid hOk
       have DJ := Lib.hid hds
       have EJ := Lib.hid heq
       clear hRk hOk hds heq
       rcases k with _ | i
       · obtain rfl : z = -1 := by omega
         clear hz
         go_wp2_with fail
         go_end0
         refine ⟨rfl, ?_, OJ.out⟩
         have e : dj = Sort.heapSort ltN d a b := by
           have h : dj = Sort.heapPop ltN a hi dk := EJ.out
           rw [h, EQ2.out]
           unfold Sort.heapSort
           rw [HH.out.2, HH.out.1]
         rw [← e]; exact RJ.out
       · obtain rfl : z = (i : Int) := by omega
         obtain ⟨p, hp⟩ : ∃ p, p = a + i := ⟨_, rfl⟩
         have ep : (a : Int) + (i : Int) = (p : Int) := by omega
         have hl := RJ.out.lt
         have c1 := RJ.out.drew.cell (i := a) (by have := DJ.out; omega)
         have c2 := RJ.out.drew.cell (i := p) (by have := DJ.out; omega)
         have f1 := RJ.out.drew.free a
         have f2 := RJ.out.drew.free p
         obtain ⟨x, hx⟩ : ∃ x, dj[a]! = x := ⟨_, rfl⟩
         obtain ⟨y, hy⟩ : ∃ y, dj[p]! = y := ⟨_, rfl⟩
         rw [hx] at c1
         rw [hy] at c2
         have q1 : (0 : Int) ≤ (a : Int) := by omega
         have q2 : (a : Int) < n := by omega
         have q3 : (0 : Int) ≤ (p : Int) := by omega
         have q4 : (p : Int) < n := by omega
         have HS := Lib.hid (show RowAt ((wr.drew.setCell ⟨g, a, none⟩ (.int .u32 y)).setCell ⟨g, p, none⟩ (.int .u32 x)) g tl (Sort.swp dj a p) by
           have h := RJ.out.drew.swap (i := a) (j := p) (by have := DJ.out; omega) (by have := DJ.out; omega)
           rw [hx, hy] at h
           exact h)
         have hS3 : RowAt (wr.setCell ⟨g, a, none⟩ (.int .u32 y)) g tl (dj.setIfInBounds a y) := RJ.out.set (by have := DJ.out; omega) y
         have c3 := hS3.cell (i := p) (by have := DJ.out; simp; omega)
         have f3 := hS3.free p
         have l3 := hS3.lt
         clear hS3
         have PP := Lib.hid hp
         have HK := Lib.hid hk
         clear hx hy hp hz hk
         have hk : i < hi := by have := HK.out; omega
         go_wp2_with fail
         go_region
         go_wp2_with fail
         refine Calls.mono (sift_any g n cap 0 i a tl _ _ HS.out (by rw [size_swp]; exact DJ.out) hn2 (by omega) (by omega)) ?_
         rintro e w5 ⟨rfl, hR5, hO5⟩
         have R5 := Lib.hid hR5
         have O5 := Lib.hid hO5
         clear hR5 hO5 c1 c2 f1 f2 c3 f3 l3
         go_wp2_with fail
         go_roundw
         case rel => exact ⟨i, (i : Int) - 1, Sort.siftDown ltN i a 0 (Sort.swp dj a p), by first | rfl | simp, rfl, by omega, by rw [sd_size _ _ _ _ _ (Nat.le_refl _), size_swp]; exact DJ.out, R5.out, Tch.trans OJ.out (Tch.trans Tch.drew (Tch.trans One.swap O5.out)), by have h := EJ.out; rw [← h, PP.out]; rfl⟩
         case measure => first | (simp [intOf]; done) | (simp [intOf]; omega)
   · obtain rfl : z = (i : Int) := by omega
     have HK := Lib.hid hk
     have HZ := Lib.hid hz
     have b9 : i ≤ 600 := by omega
     clear hk hz
     go_wp2_with fail
     refine Calls.mono (sift_any g n cap i hi a tl _ _ RK.out DS.out hn2 hah (by have := HK.out; omega)) ?_
     rintro e w5 ⟨rfl, hR5, hO5⟩
     have R5 := Lib.hid hR5
     have O5 := Lib.hid hO5
     clear hR5 hO5
     go_wp2_with fail
     go_roundw
     case rel => exact ⟨i, (i : Int) - 1, Sort.siftDown ltN hi a i dk, by first | rfl | simp, rfl, by have := HK.out; omega, by rw [sd_size _ _ _ _ _ (Nat.le_refl _)]; exact DS.out, R5.out, Tch.trans OK.out O5.out, by have h := EQ.out; rw [← h]; rfl⟩
     case measure => first | (simp [intOf]; done) | (simp [intOf]; omega)
end Go.Proofs.YtmfhnhnmdeabeaaGreat.So
end
