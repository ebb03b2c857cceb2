/- The reference of layer 32: Closed, of what is kept of a row. -/
import Derived.Test.YtmfhnhnmdeabeaaGreatM48
import Derived.Test.YtmfhnhnmdeabeaaGreatM47
set_option linter.unusedVariables false
set_option linter.unusedSimpArgs false
set_option maxRecDepth 100000
section
namespace Go.Proofs.YtmfhnhnmdeabeaaGreat.Re
open Go.RowKit Go.Shelf Go.Maps Oct Path Tr
def plcK (m : List (Rc × Bool)) (i : Nat) : List Nat := (List.range i).filter fun j => (m[j]?).any (·.2)
theorem plc_next {m : List (Rc × Bool)} {i : Nat} {y : Rc × Bool} (h : m[i]? = some y) : plcK m (i + 1) = plcK m i ++ (if y.2 then [i] else []) := by
 unfold plcK
 rw [List.range_succ, List.filter_append]
 congr 1
 rw [List.filter_cons, h]
 simp
theorem plc_len (m : List (Rc × Bool)) (i : Nat) : (plcK m i).length ≤ i := by
 unfold plcK
 exact Nat.le_trans (List.length_filter_le _ _) (by simp)
theorem plc_lt {m : List (Rc × Bool)} {n k : Nat} (h : k ∈ plcK m n) : k < n := by
 unfold plcK at h
 have := (List.mem_filter.1 h).1
 simpa using this
theorem cnt_le (m : List (Rc × Bool)) (i : Nat) : cntK m i ≤ (m.take i).length := by
 unfold cntK keptL
 rw [List.length_map]
 exact List.length_filter_le _ _
theorem plc_closed {m : List (Rc × Bool)} {xs : List Rc} {n : Nat} (hC : ClM m) (hmap : m.map (·.1) = xs) (hn : xs.length = n) (i k : Nat) (x y : Rc) (hik : i < k) (hx : xs[i]? = some x) (hy : xs[k]? = some y) (hk : k ∈ plcK m n) (hi : i ∉ plcK m n) : meet x y = false := by
 subst hmap
 rw [List.getElem?_map] at hx hy
 obtain ⟨⟨x', bx⟩, hmx, ex⟩ := Option.map_eq_some_iff.1 hx
 obtain ⟨⟨y', b2⟩, hmy, ey⟩ := Option.map_eq_some_iff.1 hy
 simp only at ex ey
 subst ex
 subst ey
 have hkn := plc_lt hk
 unfold plcK at hk hi
 have h1 := (List.mem_filter.1 hk).2
 rw [hmy] at h1
 simp only [Option.any_some] at h1
 have h2 : bx = false := by
   cases bx
   · rfl
   · exact absurd (List.mem_filter.2 ⟨by simp; omega, by rw [hmx]; rfl⟩) hi
 obtain ⟨hil, hie⟩ := List.getElem?_eq_some_iff.1 hmx
 obtain ⟨hkl, hke⟩ := List.getElem?_eq_some_iff.1 hmy
 have := List.pairwise_iff_getElem.1 hC i k hil hkl hik
 rw [hie, hke] at this
 exact this h2 h1
set_option maxHeartbeats 4000000 in
theorem rclosed32_ok (wz : World) (xs : List Rc) (hm : ∀ r ∈ xs, May r) (hm2 : ∀ r ∈ xs, Tr.May r) (hlen : xs.length ≤ 100) (p p2 : Option Addr) (g o cap g2 o2 cap2 : Nat) (hR : LV wz p g o xs) (hg : g < wz.heap.size) (st : List Nat) (hR2 : LV wz p2 g2 o2 (keptL (maskK st xs))) (hg2 : g2 < wz.heap.size) :
   Calls Tryz.prog 10 #[.slice p xs.length cap, .slice p2 (keptL (maskK st xs)).length cap2] wz fun e w' => e = .returned (.bool true) ∧ Below wz.heap.size wz w' := by
 obtain ⟨m, hmm⟩ : ∃ m, maskK st xs = m := ⟨_, rfl⟩
 have hC := maskK_cl st xs
 have hmap := maskK_map st xs
 rw [hmm] at hR2 hC hmap ⊢
 clear hmm
 have HR := Lib.hid hR
 have HR2 := Lib.hid hR2
 have HC := Lib.hid hC
 have HMP := Lib.hid hmap
 have HM := Lib.hid hm
 have MMAY : Hid (∀ y ∈ m, Tr.May y.1) := Lib.hid (fun y hy => hm2 y.1 (by rw [← hmap]; exact List.mem_map_of_mem hy))
 obtain ⟨i0, hi0, hz⟩ := Option.map_eq_some_iff.1 info_I
 have hz0 : i0.zero = some (.int .i64 0) := congrArg (fun t => t.1) hz
 have hz1 : i0.size = 1 := congrArg (fun t => t.2.1) hz
 have hz2 : i0.bytes = 8 := congrArg (fun t => t.2.2) hz
 clear hz
 have HM2 := Lib.hid hm2
 obtain ⟨n, hn⟩ : ∃ n, xs.length = n := ⟨_, rfl⟩
 obtain ⟨q, hq⟩ : ∃ q, (keptL m).length = q := ⟨_, rfl⟩
 rw [hn] at hlen ⊢
 rw [hq] at ⊢
 have HN := Lib.hid hn
 have HQ := Lib.hid hq
 clear hR hR2 hC hmap hm hm2 hn hq
 go_enter Tryz.func10, Tryz.ntmps10
 go_wp2_with fail
 go_loopw [5, 6, 7] (fun s5 s6 s7 wr => ∃ i : Nat, s7 = .int .i64 i ∧ i ≤ n ∧ s6 = .int .i64 (cntK m i) ∧ wr.ownsRow wz.heap.size 3 1 s5 (plcK m i).length ((plcK m i).map encI) ∧ Below wz.heap.size wz wr) (fun s5 s6 s7 _ => n - (intOf s7).toNat)
 case atStart => exact ⟨0, rfl, Nat.zero_le _, rfl, World.ownsRow_nil _ _ _ _, Below.refl _ _⟩
 case round =>
   obtain ⟨i, rfl, hi, rfl, hO, hB⟩ := hrel
   have OO := Lib.hid hO
   have BB := Lib.hid hB
   clear hO hB
   rcases Nat.lt_or_ge i n with hlt | hge
   · have t1 : (i : Int) < n := by omega
     obtain ⟨x, hx⟩ : ∃ x, xs[i]? = some x := ⟨_, List.getElem?_eq_getElem (by rw [HN.out]; exact hlt)⟩
     obtain ⟨b, hb⟩ : ∃ b, m[i]? = some (x, b) := by
       have h1 := hx
       rw [← HMP.out, List.getElem?_map] at h1
       obtain ⟨y, hy, e⟩ := Option.map_eq_some_iff.1 h1
       exact ⟨y.2, by rw [hy, ← e]⟩
     obtain ⟨rfl, l1, A⟩ := (LV.below HR.out hg BB.out).at12 hx
     obtain ⟨a0, a1, a2, a3, a4, a5, a6, a7, a8, a9, a10, a11⟩ := A
     have CN := Lib.hid (cnt_next hb)
     have PN := Lib.hid (plc_next hb)
     have HX := Lib.hid hx
     have HBB := Lib.hid hb
     have CL := Lib.hid (cnt_le m i)
     clear hx
     obtain ⟨c, hc⟩ : ∃ c, cntK m i = c := ⟨_, rfl⟩
     have HCC := Lib.hid hc
     rw [hc] at CN CL ⊢
     clear hc hb
     cases b
     · have CZ : Hid (Value.int .i64 (c : Nat) = .int .i64 (cntK m (i + 1))) := Lib.hid (by rw [CN.out]; rfl)
       have PZ : Hid (plcK m (i + 1) = plcK m i) := Lib.hid (by rw [PN.out]; simp)
       rcases Nat.lt_or_ge c q with hcq | hcq
       · have t2 : (c : Int) < q := by omega
         obtain ⟨k, hk⟩ : ∃ k, (keptL m)[c]? = some k := ⟨_, List.getElem?_eq_getElem (by rw [HQ.out]; exact hcq)⟩
         have MISS : Hid (x ≠ k) := Lib.hid (kept_miss MMAY.out HC.out HBB.out (by rw [HCC.out]; exact hk))
         obtain ⟨rfl, l2, D⟩ := (LV.below HR2.out hg2 BB.out).at12 hk
         obtain ⟨d0, d1, d2, d3, d4, d5, d6, d7, d8, d9, d10, d11⟩ := D
         clear hk
         by_cases e0 : x.stamp = k.stamp
         case neg =>
           have tj : ((x.stamp : Int) == k.stamp) = false := by simp; omega
           clear e0
           go_wp2_with fail
           go_quiet (fail)
           go_wp2_with fail
           go_roundw
           case rel => exact ⟨i + 1, by go_num, by omega, CZ.out, by rw [PZ.out]; exact own_later drewN_below OO.out, BB.out.trans (Below.mono drewN_below BB.out.size)⟩
           case measure => simp [intOf]; omega
         by_cases e1 : x.op = k.op
         case neg =>
           rw [← e0] at d0
           have tj : ((x.op : Int) == k.op) = false := by simp; omega
           clear e0 e1
           go_wp2_with fail
           go_quiet (fail)
           go_wp2_with fail
           go_roundw
           case rel => exact ⟨i + 1, by go_num, by omega, CZ.out, by rw [PZ.out]; exact own_later drewN_below OO.out, BB.out.trans (Below.mono drewN_below BB.out.size)⟩
           case measure => simp [intOf]; omega
         by_cases e2 : x.dir = k.dir
         case neg =>
           rw [← e0] at d0
           rw [← e1] at d1
           have tj : ((x.dir : Int) == k.dir) = false := by simp; omega
           clear e0 e1 e2
           go_wp2_with fail
           go_quiet (fail)
           go_wp2_with fail
           go_roundw
           case rel => exact ⟨i + 1, by go_num, by omega, CZ.out, by rw [PZ.out]; exact own_later drewN_below OO.out, BB.out.trans (Below.mono drewN_below BB.out.size)⟩
           case measure => simp [intOf]; omega
         by_cases e3 : x.name = k.name
         case neg =>
           rw [← e0] at d0
           rw [← e1] at d1
           rw [← e2] at d2
           have tj : ((B x.name).toList == (B k.name).toList) = false := by
             rw [toList_L, toList_L, L_B, L_B]
             simpa using e3
           clear e0 e1 e2 e3
           go_wp2_with fail
           go_quiet (fail)
           go_wp2_with fail
           go_roundw
           case rel => exact ⟨i + 1, by go_num, by omega, CZ.out, by rw [PZ.out]; exact own_later drewN_below OO.out, BB.out.trans (Below.mono drewN_below BB.out.size)⟩
           case measure => simp [intOf]; omega
         by_cases e4 : x.ino = k.ino
         case neg =>
           rw [← e0] at d0
           rw [← e1] at d1
           rw [← e2] at d2
           rw [← e3] at d3
           have tj : ((x.ino : Int) == k.ino) = false := by simp; omega
           clear e0 e1 e2 e3 e4
           go_wp2_with fail
           go_quiet (fail)
           go_wp2_with fail
           go_roundw
           case rel => exact ⟨i + 1, by go_num, by omega, CZ.out, by rw [PZ.out]; exact own_later drewN_below OO.out, BB.out.trans (Below.mono drewN_below BB.out.size)⟩
           case measure => simp [intOf]; omega
         by_cases e5 : x.kind = k.kind
         case neg =>
           rw [← e0] at d0
           rw [← e1] at d1
           rw [← e2] at d2
           rw [← e3] at d3
           rw [← e4] at d4
           have tj : ((x.kind : Int) == k.kind) = false := by simp; omega
           clear e0 e1 e2 e3 e4 e5
           go_wp2_with fail
           go_quiet (fail)
           go_wp2_with fail
           go_roundw
           case rel => exact ⟨i + 1, by go_num, by omega, CZ.out, by rw [PZ.out]; exact own_later drewN_below OO.out, BB.out.trans (Below.mono drewN_below BB.out.size)⟩
           case measure => simp [intOf]; omega
         by_cases e6 : x.dir2 = k.dir2
         case neg =>
           rw [← e0] at d0
           rw [← e1] at d1
           rw [← e2] at d2
           rw [← e3] at d3
           rw [← e4] at d4
           rw [← e5] at d5
           have tj : ((x.dir2 : Int) == k.dir2) = false := by simp; omega
           clear e0 e1 e2 e3 e4 e5 e6
           go_wp2_with fail
           go_quiet (fail)
           go_wp2_with fail
           go_roundw
           case rel => exact ⟨i + 1, by go_num, by omega, CZ.out, by rw [PZ.out]; exact own_later drewN_below OO.out, BB.out.trans (Below.mono drewN_below BB.out.size)⟩
           case measure => simp [intOf]; omega
         by_cases e7 : x.name2 = k.name2
         case neg =>
           rw [← e0] at d0
           rw [← e1] at d1
           rw [← e2] at d2
           rw [← e3] at d3
           rw [← e4] at d4
           rw [← e5] at d5
           rw [← e6] at d6
           have tj : ((B x.name2).toList == (B k.name2).toList) = false := by
             rw [toList_L, toList_L, L_B, L_B]
             simpa using e7
           clear e0 e1 e2 e3 e4 e5 e6 e7
           go_wp2_with fail
           go_quiet (fail)
           go_wp2_with fail
           go_roundw
           case rel => exact ⟨i + 1, by go_num, by omega, CZ.out, by rw [PZ.out]; exact own_later drewN_below OO.out, BB.out.trans (Below.mono drewN_below BB.out.size)⟩
           case measure => simp [intOf]; omega
         by_cases e8 : x.old = k.old
         case neg =>
           rw [← e0] at d0
           rw [← e1] at d1
           rw [← e2] at d2
           rw [← e3] at d3
           rw [← e4] at d4
           rw [← e5] at d5
           rw [← e6] at d6
           rw [← e7] at d7
           have tj : ((x.old : Int) == k.old) = false := by simp; omega
           clear e0 e1 e2 e3 e4 e5 e6 e7 e8
           go_wp2_with fail
           go_quiet (fail)
           go_wp2_with fail
           go_roundw
           case rel => exact ⟨i + 1, by go_num, by omega, CZ.out, by rw [PZ.out]; exact own_later drewN_below OO.out, BB.out.trans (Below.mono drewN_below BB.out.size)⟩
           case measure => simp [intOf]; omega
         by_cases e9 : x.size = k.size
         case neg =>
           rw [← e0] at d0
           rw [← e1] at d1
           rw [← e2] at d2
           rw [← e3] at d3
           rw [← e4] at d4
           rw [← e5] at d5
           rw [← e6] at d6
           rw [← e7] at d7
           rw [← e8] at d8
           have tj : ((x.size : Int) == k.size) = false := by simp; omega
           clear e0 e1 e2 e3 e4 e5 e6 e7 e8 e9
           go_wp2_with fail
           go_quiet (fail)
           go_wp2_with fail
           go_roundw
           case rel => exact ⟨i + 1, by go_num, by omega, CZ.out, by rw [PZ.out]; exact own_later drewN_below OO.out, BB.out.trans (Below.mono drewN_below BB.out.size)⟩
           case measure => simp [intOf]; omega
         by_cases e10 : x.page = k.page
         case neg =>
           rw [← e0] at d0
           rw [← e1] at d1
           rw [← e2] at d2
           rw [← e3] at d3
           rw [← e4] at d4
           rw [← e5] at d5
           rw [← e6] at d6
           rw [← e7] at d7
           rw [← e8] at d8
           rw [← e9] at d9
           have tj : ((x.page : Int) == k.page) = false := by simp; omega
           clear e0 e1 e2 e3 e4 e5 e6 e7 e8 e9 e10
           go_wp2_with fail
           go_quiet (fail)
           go_wp2_with fail
           go_roundw
           case rel => exact ⟨i + 1, by go_num, by omega, CZ.out, by rw [PZ.out]; exact own_later drewN_below OO.out, BB.out.trans (Below.mono drewN_below BB.out.size)⟩
           case measure => simp [intOf]; omega
         by_cases e11 : x.data = k.data
         case neg =>
           rw [← e0] at d0
           rw [← e1] at d1
           rw [← e2] at d2
           rw [← e3] at d3
           rw [← e4] at d4
           rw [← e5] at d5
           rw [← e6] at d6
           rw [← e7] at d7
           rw [← e8] at d8
           rw [← e9] at d9
           rw [← e10] at d10
           have tj : ((B x.data).toList == (B k.data).toList) = false := by
             rw [toList_L, toList_L, L_B, L_B]
             simpa using e11
           clear e0 e1 e2 e3 e4 e5 e6 e7 e8 e9 e10 e11
           go_wp2_with fail
           go_quiet (fail)
           go_wp2_with fail
           go_roundw
           case rel => exact ⟨i + 1, by go_num, by omega, CZ.out, by rw [PZ.out]; exact own_later drewN_below OO.out, BB.out.trans (Below.mono drewN_below BB.out.size)⟩
           case measure => simp [intOf]; omega
         exact absurd (by cases x; cases k; simp_all) MISS.out
       · have t2 : ¬ (c : Int) < q := by omega
         have t3 : decide ((c : Int) < q) = false := decide_eq_false t2
         have t4 : ¬ c < q := by omega
         have t5 : decide (c < q) = false := decide_eq_false t4
         go_wp2_with fail
         go_quiet (fail)
         go_wp2_with fail
         go_roundw
         case rel => exact ⟨i + 1, by go_num, by omega, CZ.out, by rw [PZ.out]; exact own_later drewN_below OO.out, BB.out.trans (Below.mono drewN_below BB.out.size)⟩
         case measure => simp [intOf]; omega
     · have hk : (keptL m)[c]? = some x := by rw [← HCC.out]; exact kept_hit HBB.out
       have hcq : c < q := by have := (List.getElem?_eq_some_iff.1 hk).1; rw [HQ.out] at this; exact this
       have t2 : (c : Int) < q := by omega
       obtain ⟨rfl, l2, D⟩ := (LV.below HR2.out hg2 BB.out).at12 hk
       obtain ⟨d0, d1, d2, d3, d4, d5, d6, d7, d8, d9, d10, d11⟩ := D
       have CZ : Hid (cntK m (i + 1) = c + 1) := Lib.hid (by rw [CN.out]; rfl)
       have PZ : Hid (plcK m (i + 1) = plcK m i ++ [i]) := Lib.hid (by rw [PN.out]; simp)
       have PL := Lib.hid (plc_len m i)
       have hc100 : c ≤ 100 := by have := CL.out; rw [List.length_take] at this; omega
       clear hk
       go_wp2_with fail
       go_quiet (fail)
       obtain ⟨wd, hwd⟩ : ∃ wd, wr.drewN nq = wd := ⟨_, rfl⟩
       have B2 : Hid (Below wz.heap.size wz wd) := Lib.hid (by rw [← hwd]; exact BB.out.trans (Below.mono drewN_below BB.out.size))
       have O2 := Lib.hid (own_later (W2 := wr.drewN nq) drewN_below OO.out)
       rw [hwd] at O2
       rw [hwd]
       clear hwd
       have hpl := PL.out
       go_wp2_with (at_builtin; go_must (refine wpList_append_lies _ rfl _ _ 66 rfl wz.heap.size 3 i0 (.int .i64 0) 1 8 Tryz.underlying66 hi0 hz0 hz1 hz2 rfl (by decide) _ _ _ rfl (O2.out.alloc _) ⟨wd.heap.size, 0, none⟩ 1 1 [.int .i64 i] rfl rfl (news_box (SBox.new wd 3 #[.int .i64 i])) (by intro u hu; simp at hu; subst hu; rfl) (by decide) (by unfold maxLen; omega) (by omega) (by have := B2.out.size; simp; omega) _ rfl ?_; intro g3 cap3 W3 hown hgrow _ _; have O3 := Lib.hid hown; have B3 := Lib.hid ((B2.out.alloc B2.out.size (.cells #[.int .i64 i] 3)).grown hgrow (by have := B2.out.size; simp; omega) (fun q e => (O2.out.lt q e).1)); clear hown hgrow))
       go_roundw
       case rel => exact ⟨i + 1, by go_num, by omega, by rw [CZ.out]; go_num, by rw [PZ.out]; simpa [encI] using O3.out, B3.out⟩
       case measure => simp [intOf]; omega
   · have e : i = n := by omega
     subst e
     have eq : cntK m i = q := by rw [← HQ.out, ← cnt_all, ← HN.out, ← HMP.out, List.length_map]
     rw [eq]
     obtain ⟨p5, c5, rfl, hrow⟩ := RowI.of OO.out
     have PL := plc_len m i
     have RC := Lib.hid (rclosed25_ok wr xs HM.out (by rw [HN.out]; exact hlen) p p5 g o cap c5 wz.heap.size (LV.below HR.out hg BB.out) (Nat.lt_of_lt_of_le hg BB.out.size) (plcK m i) hrow (by omega) (fun k hk => by rw [HN.out]; exact plc_lt hk) (plc_closed HC.out HMP.out HN.out))
     rw [HN.out] at RC
     clear hrow eq PL
     go_wp2_with fail
     refine Calls.mono RC.out ?_
     rintro e w2 ⟨rfl, hb⟩
     have B2 := Lib.hid (BB.out.trans (hb.mono BB.out.size))
     clear hb
     go_wp2_with fail
     go_ret
     exact ⟨rfl, B2.out⟩
end Go.Proofs.YtmfhnhnmdeabeaaGreat.Re
end
