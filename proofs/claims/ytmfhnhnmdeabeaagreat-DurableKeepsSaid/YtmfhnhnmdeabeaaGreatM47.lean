/- The reference of layer 25: Closed, of places that are closed. -/
import Derived.Test.YtmfhnhnmdeabeaaGreatM36
import Derived.Test.YtmfhnhnmdeabeaaGreatM34
import Derived.Test.YtmfhnhnmdeabeaaGreatM46
import Derived.Deep.OwnRows
set_option linter.unusedVariables false
set_option linter.unusedSimpArgs false
set_option maxRecDepth 100000
section
namespace Go.Proofs.YtmfhnhnmdeabeaaGreat.Re
open Go.RowKit Go.Shelf Go.Maps Oct Path Tr
theorem LV.at12 {W : World} {p : Option Addr} {g o : Nat} {xs : List Rc} (h : LV W p g o xs) {i : Nat} {x : Rc} (hx : xs[i]? = some x) : p = some ⟨g, o, none⟩ ∧ g < W.heap.size ∧ Cells12 W g (o + i * 12) x := by
 have hn : xs ≠ [] := fun e => by rw [e] at hx; cases hx
 exact ⟨(h hn).1, (h hn).2.lt, (h hn).2.cells hx⟩
set_option maxHeartbeats 800000 in
theorem rsame_ok (wz : World) (xs : List Rc) (p1 p2 : Option Addr) (g1 o1 g2 o2 c1 c2 : Nat) (h1 : LV wz p1 g1 o1 xs) (h2 : LV wz p2 g2 o2 xs) (hlen : xs.length ≤ 100) :
   Calls Tryz.prog 13 #[.slice p1 xs.length c1, .slice p2 xs.length c2] wz fun e w' => e = .returned (.bool true) ∧ Below wz.heap.size wz w' := by
 have H1 := Lib.hid h1
 have H2 := Lib.hid h2
 have HL := Lib.hid hlen
 obtain ⟨n, hn⟩ : ∃ n, xs.length = n := ⟨_, rfl⟩
 rw [hn] at HL ⊢
 have HN := Lib.hid hn
 clear h1 h2 hlen hn
 go_enter Tryz.func13, Tryz.ntmps13
 go_wp2_with fail
 go_loopw [5] (fun s5 wr => ∃ i : Nat, i ≤ n ∧ s5 = .int .i64 i ∧ Below wz.heap.size wz wr) (fun s5 _ => n - (intOf s5).toNat)
 case atStart => exact ⟨0, Nat.zero_le _, rfl, Below.refl _ _⟩
 case round =>
   obtain ⟨i, hi, rfl, hB⟩ := hrel
   have BW := Lib.hid hB
   clear hB
   have hl100 := HL.out
   rcases Nat.lt_or_ge i n with hlt | hge
   · have hli : (i : Int) < n := by omega
     obtain ⟨x, hx⟩ : ∃ x, xs[i]? = some x := ⟨_, List.getElem?_eq_getElem (by rw [HN.out]; exact hlt)⟩
     obtain ⟨rfl, l1, A⟩ := (LV.below H1.out (H1.out.at12 hx).2.1 BW.out).at12 hx
     obtain ⟨rfl, l2, D⟩ := (LV.below H2.out (H2.out.at12 hx).2.1 BW.out).at12 hx
     have HX := Lib.hid hx
     clear hx
     obtain ⟨a0, a1, a2, a3, a4, a5, a6, a7, a8, a9, a10, a11⟩ := A
     obtain ⟨d0, d1, d2, d3, d4, d5, d6, d7, d8, d9, d10, d11⟩ := D
     go_wp2_with fail
     go_quiet (fail)
     go_wp2_with fail
     go_roundw
     case rel => exact ⟨i + 1, by omega, by go_num, BW.out.trans (Below.mono drewN_below BW.out.size)⟩
     case measure => simp [intOf]; omega
   · have e : i = n := by omega
     subst e
     go_wp2_with fail
     go_ret
     exact ⟨rfl, BW.out⟩
end Go.Proofs.YtmfhnhnmdeabeaaGreat.Re
end
section
namespace Go.Proofs.YtmfhnhnmdeabeaaGreat.Re
open Go.RowKit Go.Shelf Go.Maps Oct Path Tr
theorem info_b : (Tryz.prog.info? 4).map (fun i => (i.zero, i.size, i.bytes)) = some (some (.bool false), 1, 1) := by kernel_rfl
theorem run_madeB (n : Nat) (hn : n ≤ 1099511627776) (w : World) : (Instr.makeSlice 123 (.int .i64 (n : Int)) (.int .i64 (n : Int))).run Tryz.prog w =
   .ok (.slice (some ⟨w.heap.size, 0, none⟩) n n) (w.alloc (.cells (madeCells #[.bool false] n) 4)) := by
 obtain ⟨i0, hi, hz0, hz1, hz2⟩ := info_parts info_b
 have h := run_make (P := Tryz.prog) w 123 4 i0 (.bool false) Tryz.underlying123 hi hz0 .i64 .i64 (n : Int) (n : Int) (by omega) (Int.le_refl _) (by rw [hz2]; omega) (by omega)
 simpa [hz1, Value.cells] using h
theorem rowIs_later {W W' : World} {g n : Nat} {t : TypeId} {f : Nat → Value} (h : W.rowIs g t n f) (hb : Below W.heap.size W W') : W'.rowIs g t n f := h.of_block (hb.block g h.lt)
set_option maxHeartbeats 400000 in
theorem rclosed25_ok (wz : World) (xs : List Rc) (hm : ∀ r ∈ xs, May r) (hlen : xs.length ≤ 100) (p p2 : Option Addr) (g o cap c2 base : Nat) (hR : LV wz p g o xs) (hg : g < wz.heap.size) (ks : List Nat) (hks : RowI wz base p2 ks) (hkl : ks.length ≤ 100) (hk : ∀ k ∈ ks, k < xs.length)
   (hC : ∀ i k x y, i < k → xs[i]? = some x → xs[k]? = some y → k ∈ ks → i ∉ ks → meet x y = false) :
   Calls Tryz.prog 29 #[.slice p xs.length cap, .slice p2 ks.length c2] wz fun e w' => e = .returned (.bool true) ∧ Below wz.heap.size wz w' := by
 have HM := Lib.hid hm
 have HR := Lib.hid hR
 have HK := Lib.hid hks
 have HC := Lib.hid hC
 have HLT := Lib.hid hk
 obtain ⟨n, hn⟩ : ∃ n, xs.length = n := ⟨_, rfl⟩
 obtain ⟨m, hm2⟩ : ∃ m, ks.length = m := ⟨_, rfl⟩
 rw [hn] at hlen ⊢
 rw [hm2] at hkl ⊢
 rw [hn] at HLT
 have HN := Lib.hid hn
 have HN2 := Lib.hid hm2
 have HG := Lib.hid hg
 have hmk := run_madeB n (by omega) wz
 clear hm hR hks hC hk hn hm2 hg
 go_enter Tryz.func29, Tryz.ntmps29
 go_wp2_with fail
 have B0 := Lib.hid ((Below.refl _ wz).alloc (Nat.le_refl _) (.cells (madeCells #[.bool false] n) 4))
 have Q0 := Lib.hid (World.rowIs_made wz (.bool false) n 4)
 obtain ⟨gB, hgB⟩ : ∃ gB, wz.heap.size = gB := ⟨_, rfl⟩
 rw [hgB] at Q0 ⊢
 have GB := Lib.hid hgB
 clear hmk hgB
 go_loopw [6] (fun s6 wr => ∃ i : Nat, i ≤ m ∧ s6 = .int .i64 i ∧ Below gB wz wr ∧ wr.rowIs gB 4 n (fun j => .bool ((ks.take i).contains j))) (fun s6 _ => m - (intOf s6).toNat)
 case atStart => exact ⟨0, Nat.zero_le _, rfl, by rw [← GB.out]; exact B0.out, by simpa using Q0.out⟩
 case round =>
   obtain ⟨i, hi, rfl, hB, hQ⟩ := hrel
   have B1 := Lib.hid (show Below wz.heap.size wz wr by rw [GB.out]; exact hB)
   have Q1 := Lib.hid hQ
   clear hB hQ
   rcases Nat.lt_or_ge i m with hlt | hge
   · have hli : (i : Int) < m := by omega
     obtain ⟨k, hk⟩ : ∃ k, ks[i]? = some k := ⟨_, List.getElem?_eq_getElem (by rw [HN2.out]; exact hlt)⟩
     obtain ⟨g2, rfl, _, hgl, hc⟩ := HK.out i k hk
     have hc2 := (B1.out.cell (p := ⟨g2, i, none⟩) hgl).trans hc
     have hgl2 := Nat.lt_of_lt_of_le hgl B1.out.size
     have hkn := HLT.out k (List.mem_of_getElem? hk)
     have k0 : (0 : Int) ≤ k := by omega
     have kn : (k : Int) < n := by omega
     have qc := Q1.out.cell hkn
     have qf := Q1.out.frozen k
     have ql := Q1.out.lt
     have HK1 := Lib.hid hk
     clear hc hk
     go_wp2_with fail
     go_roundw
     case rel =>
       refine ⟨i + 1, by omega, by go_num, by have := B1.out; rw [GB.out] at this; exact this.setCell (Nat.le_refl _) _, (Q1.out.set k (.bool true)).congr fun j hj => ?_⟩
       have e : ks.take (i + 1) = ks.take i ++ [k] := take_snoc HK1.out
       rw [e]
       by_cases hjk : j = k
       · rw [if_pos hjk]
         simp [hjk]
       · rw [if_neg hjk]
         simp [hjk]
     case measure => simp [intOf]; omega
   · have e : m = i := by omega
     have Q2 : Hid (wr.rowIs gB 4 n (fun j => .bool (ks.contains j))) := Lib.hid (by have := Q1.out; rw [List.take_of_length_le (by rw [HN2.out]; omega)] at this; exact this)
     clear Q0 Q1 B0
     subst e
     go_wp2_with fail
     go_loopw [7] (fun s7 w2 => ∃ k : Nat, k ≤ n ∧ s7 = .int .i64 k ∧ Below wz.heap.size wz w2 ∧ w2.rowIs gB 4 n (fun j => .bool (ks.contains j))) (fun s7 _ => n - (intOf s7).toNat)
     case atStart => exact ⟨0, Nat.zero_le _, rfl, B1.out, Q2.out⟩
     case round =>
       obtain ⟨k, hk, rfl, hB, hQ⟩ := hrel
       have B3 := Lib.hid hB
       have Q3 := Lib.hid hQ
       clear hB hQ
       rcases Nat.lt_or_ge k n with hlk | hgk
       · have hlk2 : (k : Int) < n := by omega
         go_wp2_with fail
         go_loopw [8] (fun s8 w4 => ∃ i : Nat, i ≤ k ∧ s8 = .int .i64 i ∧ Below wz.heap.size wz w4 ∧ w4.rowIs gB 4 n (fun j => .bool (ks.contains j))) (fun s8 _ => k - (intOf s8).toNat)
         case atStart => exact ⟨0, Nat.zero_le _, rfl, B3.out, Q3.out⟩
         case round =>
           obtain ⟨i, hi, rfl, hB, hQ⟩ := hrel
           have B5 := Lib.hid hB
           have Q5 := Lib.hid hQ
           clear hB hQ
           rcases Nat.lt_or_ge i k with hlt | hge
           · have hlt2 : (i : Int) < k := by omega
             have hin : (i : Int) < n := by omega
             have qk := Q5.out.cell hlk
             have qi := Q5.out.cell (show i < n by omega)
             have ql := Q5.out.lt
             obtain ⟨bk, hbk⟩ : ∃ bk, ks.contains k = bk := ⟨_, rfl⟩
             obtain ⟨bi, hbi⟩ : ∃ bi, ks.contains i = bi := ⟨_, rfl⟩
             simp only [hbk] at qk
             simp only [hbi] at qi
             have HBK := Lib.hid hbk
             have HBI := Lib.hid hbi
             clear hbk hbi
             cases bk
             · go_wp2_with fail
               go_quiet (fail)
               go_wp2_with fail
               go_roundw
               case rel => exact ⟨i + 1, by omega, by go_num, B5.out.trans (Below.mono drewN_below B5.out.size), rowIs_later Q5.out drewN_below⟩
               case measure => simp [intOf]; omega
             · cases bi
               · obtain ⟨x, hx⟩ : ∃ x, xs[i]? = some x := ⟨_, List.getElem?_eq_getElem (by rw [HN.out]; omega)⟩
                 obtain ⟨y, hy⟩ : ∃ y, xs[k]? = some y := ⟨_, List.getElem?_eq_getElem (by rw [HN.out]; omega)⟩
                 have MF := Lib.hid (HC.out i k x y hlt hx hy (List.contains_iff_mem.1 HBK.out) (fun hm => by have := List.contains_iff_mem.2 hm; rw [HBI.out] at this; cases this))
                 have MM := Lib.hid (fun W => rmeet_ok x y (HM.out x (List.mem_of_getElem? hx)) (HM.out y (List.mem_of_getElem? hy)) W)
                 unfold recV recC at MM
                 have hL := LV.below HR.out HG.out B5.out
                 obtain ⟨hp0, _, _⟩ := hL.at12 hx
                 subst hp0
                 have RX := Lib.hid (fun (W : World) (h : Below wr.heap.size wr W) => ((LV.later hL h).at12 hx).2)
                 have RY := Lib.hid (fun (W : World) (h : Below wr.heap.size wr W) => ((LV.later hL h).at12 hy).2)
                 have QK : Hid (∀ (W : World), Below wr.heap.size wr W → W.cell? ⟨gB, k, none⟩ = some (.bool true) ∧ gB < W.heap.size) := Lib.hid (fun W h => ⟨by have := (rowIs_later Q5.out h).cell hlk; simp only [HBK.out] at this; exact this, (rowIs_later Q5.out h).lt⟩)
                 have QI : Hid (∀ (W : World), Below wr.heap.size wr W → W.cell? ⟨gB, i, none⟩ = some (.bool false) ∧ gB < W.heap.size) := Lib.hid (fun W h => ⟨by have := (rowIs_later Q5.out h).cell (show i < n by omega); simp only [HBI.out] at this; exact this, (rowIs_later Q5.out h).lt⟩)
                 clear hx hy hL qk qi ql
                 go_wp2_with fail
                 refine wp_region_phi (by kernel_rfl) (fun | 0 => some 49 | 1 => some 50 | 2 => some 51 | 3 => some 52 | 4 => some 53 | 5 => some 54 | 6 => some 55 | 7 => some 56 | 8 => some 57 | 9 => some 58 | 10 => some 59 | 11 => some 60 | 12 => some 61 | 13 => some 62 | 14 => some 63 | 15 => some 64 | 16 => some 65 | 17 => some 66 | 18 => some 67 | 19 => some 68 | 20 => some 69 | 21 => some 70 | _ => none) (fun a => ∃ x49 x50 x51 x52 x53 x54 x55 x56 x57 x58 x59 x60 x61 x62 x63 x64 x65 x66 x67 x68 x69 x70 : Value, a = ⟨#[Value.slice (some { block := g, off := o }) n cap, Value.slice p2 m c2, undef, undef, u4, Value.slice (some { block := gB, off := 0 }) n n, Value.int IntKind.i64 ↑m, Value.int IntKind.i64 ↑k, Value.int IntKind.i64 ↑i, Value.slice (some { block := g, off := o }) n cap, Value.int IntKind.i64 ↑n, Value.slice (some { block := gB, off := 0 }) n n, Value.int IntKind.i64 ↑m, Value.slice p2 m c2, Value.int IntKind.i64 ↑m, Value.bool false, u16, u17, u18, u19, u20, u21, u22, u23, u24, u25, u26, u27, u28, u29, u30, u31, u32, u33, u34, u35, u36, u37, Value.int IntKind.i64 ↑k, Value.slice (some { block := g, off := o }) n cap, Value.int IntKind.i64 ↑n, Value.bool true, u42, u43, Value.int IntKind.i64 ↑i, Value.int IntKind.i64 ↑k, Value.bool true, u47, u48, x49, x50, x51, x52, x53, x54, x55, x56, x57, x58, x59, x60, x61, x62, x63, x64, x65, x66, x67, x68, x69, x70], []⟩) (fun _ W => Below wr.heap.size wr W) (fun _ _ _ => True) (fun | 0 => (fun v w => v = .slice (some ⟨gB, 0, none⟩) n n) | 1 => (fun v w => v = .int .i64 k) | 2 => (fun v w => v = .pointer (some ⟨gB, k, none⟩)) | 3 => (fun v w => v = .bool true) | 4 => (fun v w => v = .bool true) | 5 => (fun v w => v = .slice (some ⟨gB, 0, none⟩) n n) | 6 => (fun v w => v = .int .i64 i) | 7 => (fun v w => v = .pointer (some ⟨gB, i, none⟩)) | 8 => (fun v w => v = .bool false) | 9 => (fun v w => v = .bool true) | 10 => (fun v w => v = .bool true) | 11 => (fun v w => v = .bool true) | 12 => (fun v w => v = .slice (some ⟨g, o, none⟩) n cap) | 13 => (fun v w => v = .int .i64 i) | 14 => (fun v w => v = .pointer (some ⟨g, o + i * 12, none⟩)) | 15 => (fun v w => v = .agg #[.int .u64 x.stamp, .int .u8 x.op, .int .u32 x.dir, .string (B x.name), .int .u32 x.ino, .int .u8 x.kind, .int .u32 x.dir2, .string (B x.name2), .int .u32 x.old, .int .u32 x.size, .int .i64 x.page, .string (B x.data)]) | 16 => (fun v w => v = .slice (some ⟨g, o, none⟩) n cap) | 17 => (fun v w => v = .int .i64 k) | 18 => (fun v w => v = .pointer (some ⟨g, o + k * 12, none⟩)) | 19 => (fun v w => v = .agg #[.int .u64 y.stamp, .int .u8 y.op, .int .u32 y.dir, .string (B y.name), .int .u32 y.ino, .int .u8 y.kind, .int .u32 y.dir2, .string (B y.name2), .int .u32 y.old, .int .u32 y.size, .int .i64 y.page, .string (B y.data)]) | 20 => (fun v w => v = .bool false) | 21 => (fun v w => v = .bool false) | _ => (fun _ _ => True)) (by kernel_rfl) ?stb (by kernel_rfl) ?AA ⟨_, _, _, _, _, _, _, _, _, _, _, _, _, _, _, _, _, _, _, _, _, _, rfl⟩ ?G0 ?step ?done
                 case stb =>
                   intro i j v w1 w2 hi hj hij hw hp hs
                   have hi : i < 22 := hi
                   match j, hp with
                   | 0, hp | 1, hp | 2, hp | 3, hp | 4, hp | 5, hp | 6, hp | 7, hp | 8, hp | 9, hp | 10, hp | 11, hp | 12, hp | 13, hp | 14, hp | 15, hp | 16, hp | 17, hp | 18, hp | 19, hp | 20, hp | 21, hp => exact hp
                   | j + 22, _ => exact trivial
                 case AA =>
                   rintro i a v hi ⟨_, _, _, _, _, _, _, _, _, _, _, _, _, _, _, _, _, _, _, _, _, _, rfl⟩
                   match i, hi with
                   | 0, _ | 1, _ | 2, _ | 3, _ | 4, _ | 5, _ | 6, _ | 7, _ | 8, _ | 9, _ | 10, _ | 11, _ | 12, _ | 13, _ | 14, _ | 15, _ | 16, _ | 17, _ | 18, _ | 19, _ | 20, _ | 21, _ => exact ⟨⟨_, _, _, _, _, _, _, _, _, _, _, _, _, _, _, _, _, _, _, _, _, _, rfl⟩, fun t h => by cases h <;> exact of_decide_eq_true rfl⟩
                   | i + 22, hi => exact absurd hi (by simp)
                 case G0 => exact (Below.refl _ _).drew
                 case step =>
                   rintro i a w1 lst hi ⟨x49, x50, x51, x52, x53, x54, x55, x56, x57, x58, x59, x60, x61, x62, x63, x64, x65, x66, x67, x68, x69, x70, rfl⟩ hl hG hp
                   refine wpOp_via (fun K hK => ?_)
                   match i, hi with
                   | 0, _ =>
                     refine wpOp_at (by rfl) rfl ?_
                     go_simp
                     exact hK _ _ ⟨_, rfl, hG, trivial, rfl⟩
                   | 1, _ =>
                     refine wpOp_at (by rfl) rfl ?_
                     go_simp
                     exact hK _ _ ⟨_, rfl, hG, trivial, rfl⟩
                   | 2, _ =>
                     obtain rfl : x49 = _ := hp 0 (by kernel_rfl)
                     obtain rfl : x50 = _ := hp 1 (by kernel_rfl)
                     refine wpOp_at (by rfl) rfl ?_
                     go_simp
                     exact hK _ _ ⟨_, rfl, hG, trivial, rfl⟩
                   | 3, _ =>
                     obtain rfl : x51 = _ := hp 2 (by kernel_rfl)
                     obtain ⟨qk, ql⟩ := QK.out _ hG
                     refine wpOp_at (by rfl) rfl ?_
                     go_simp
                     exact hK _ _ ⟨_, rfl, hG, trivial, rfl⟩
                   | 4, _ =>
                     obtain rfl : x52 = _ := hp 3 (by kernel_rfl)
                     refine wpOp_at (by rfl) rfl ?_
                     go_simp
                     exact hK _ _ ⟨_, rfl, hG, trivial, rfl⟩
                   | 5, _ =>
                     obtain rfl : x53 = _ := hp 4 (by kernel_rfl)
                     refine wpOp_on (by rfl) (by kernel_rfl) ?_
                     go_simp
                     exact hK _ _ ⟨_, rfl, hG, trivial, rfl⟩
                   | 6, _ =>
                     obtain rfl : x53 = _ := hp 4 (by kernel_rfl)
                     refine wpOp_on (by rfl) (by kernel_rfl) ?_
                     go_simp
                     exact hK _ _ ⟨_, rfl, hG, trivial, rfl⟩
                   | 7, _ =>
                     obtain rfl : x53 = _ := hp 4 (by kernel_rfl)
                     obtain rfl : x54 = _ := hp 5 (by kernel_rfl)
                     obtain rfl : x55 = _ := hp 6 (by kernel_rfl)
                     refine wpOp_on (by rfl) (by kernel_rfl) ?_
                     go_simp
                     exact hK _ _ ⟨_, rfl, hG, trivial, rfl⟩
                   | 8, _ =>
                     obtain rfl : x53 = _ := hp 4 (by kernel_rfl)
                     obtain rfl : x56 = _ := hp 7 (by kernel_rfl)
                     obtain ⟨qi, ql⟩ := QI.out _ hG
                     refine wpOp_on (by rfl) (by kernel_rfl) ?_
                     go_simp
                     exact hK _ _ ⟨_, rfl, hG, trivial, rfl⟩
                   | 9, _ =>
                     obtain rfl : x53 = _ := hp 4 (by kernel_rfl)
                     obtain rfl : x57 = _ := hp 8 (by kernel_rfl)
                     refine wpOp_on (by rfl) (by kernel_rfl) ?_
                     go_simp
                     exact hK _ _ ⟨_, rfl, hG, trivial, rfl⟩
                   | 10, _ =>
                     obtain rfl : x53 = _ := hp 4 (by kernel_rfl)
                     obtain rfl : x58 = _ := hp 9 (by kernel_rfl)
                     refine wpOp_at (by rfl) rfl ?_
                     go_simp
                     exact hK _ _ ⟨_, rfl, hG, trivial, rfl⟩
                   | 11, _ =>
                     obtain rfl : x59 = _ := hp 10 (by kernel_rfl)
                     refine wpOp_at (by rfl) rfl ?_
                     go_simp
                     exact hK _ _ ⟨_, rfl, hG, trivial, rfl⟩
                   | 12, _ =>
                     obtain rfl : x60 = _ := hp 11 (by kernel_rfl)
                     refine wpOp_on (by rfl) (by kernel_rfl) ?_
                     go_simp
                     exact hK _ _ ⟨_, rfl, hG, trivial, rfl⟩
                   | 13, _ =>
                     obtain rfl : x60 = _ := hp 11 (by kernel_rfl)
                     refine wpOp_on (by rfl) (by kernel_rfl) ?_
                     go_simp
                     exact hK _ _ ⟨_, rfl, hG, trivial, rfl⟩
                   | 14, _ =>
                     obtain rfl : x60 = _ := hp 11 (by kernel_rfl)
                     obtain rfl : x61 = _ := hp 12 (by kernel_rfl)
                     obtain rfl : x62 = _ := hp 13 (by kernel_rfl)
                     refine wpOp_on (by rfl) (by kernel_rfl) ?_
                     go_simp
                     exact hK _ _ ⟨_, rfl, hG, trivial, rfl⟩
                   | 15, _ =>
                     obtain rfl : x60 = _ := hp 11 (by kernel_rfl)
                     obtain rfl : x63 = _ := hp 14 (by kernel_rfl)
                     obtain ⟨gl, d0, d1, d2, d3, d4, d5, d6, d7, d8, d9, d10, d11⟩ := RX.out _ hG
                     refine wpOp_on (by rfl) (by kernel_rfl) ?_
                     go_simp
                     exact hK _ _ ⟨_, rfl, hG, trivial, rfl⟩
                   | 16, _ =>
                     obtain rfl : x60 = _ := hp 11 (by kernel_rfl)
                     refine wpOp_on (by rfl) (by kernel_rfl) ?_
                     go_simp
                     exact hK _ _ ⟨_, rfl, hG, trivial, rfl⟩
                   | 17, _ =>
                     obtain rfl : x60 = _ := hp 11 (by kernel_rfl)
                     refine wpOp_on (by rfl) (by kernel_rfl) ?_
                     go_simp
                     exact hK _ _ ⟨_, rfl, hG, trivial, rfl⟩
                   | 18, _ =>
                     obtain rfl : x60 = _ := hp 11 (by kernel_rfl)
                     obtain rfl : x65 = _ := hp 16 (by kernel_rfl)
                     obtain rfl : x66 = _ := hp 17 (by kernel_rfl)
                     refine wpOp_on (by rfl) (by kernel_rfl) ?_
                     go_simp
                     exact hK _ _ ⟨_, rfl, hG, trivial, rfl⟩
                   | 19, _ =>
                     obtain rfl : x60 = _ := hp 11 (by kernel_rfl)
                     obtain rfl : x67 = _ := hp 18 (by kernel_rfl)
                     obtain ⟨gl, d0, d1, d2, d3, d4, d5, d6, d7, d8, d9, d10, d11⟩ := RY.out _ hG
                     refine wpOp_on (by rfl) (by kernel_rfl) ?_
                     go_simp
                     exact hK _ _ ⟨_, rfl, hG, trivial, rfl⟩
                   | 20, _ =>
                     obtain rfl : x60 = _ := hp 11 (by kernel_rfl)
                     obtain rfl : x64 = _ := hp 15 (by kernel_rfl)
                     obtain rfl : x68 = _ := hp 19 (by kernel_rfl)
                     refine wpOp_on (by rfl) (by kernel_rfl) ?_
                     go_simp
                     refine Calls.mono (MM.out _) ?_
                     rintro e w2 ⟨⟨q, rfl, hq⟩, h2⟩
                     have hq0 : q = false := by
                       cases q with
                       | false => rfl
                       | true => rw [MF.out] at hq; exact absurd (hq rfl) (by decide)
                     subst hq0
                     exact hK _ _ ⟨_, rfl, hG.trans (h2.mono hG.size), trivial, rfl⟩
                   | 21, _ =>
                     obtain rfl : x60 = _ := hp 11 (by kernel_rfl)
                     obtain rfl : x69 = _ := hp 20 (by kernel_rfl)
                     refine wpOp_at (by rfl) rfl ?_
                     go_simp
                     exact hK _ _ ⟨_, rfl, hG, trivial, rfl⟩
                   | i + 22, hi => exact absurd hi (by simp)
                 case done =>
                   rintro a0 w8 lst hl ⟨x49, x50, x51, x52, x53, x54, x55, x56, x57, x58, x59, x60, x61, x62, x63, x64, x65, x66, x67, x68, x69, x70, rfl⟩ hG hp
                   obtain rfl : x70 = _ := hp 21 (by decide)
                   have B8 := Lib.hid (B5.out.trans (hG.mono B5.out.size))
                   have Q8 := Lib.hid (rowIs_later Q5.out hG)
                   clear hG hp
                   go_wp2_with fail
                   go_roundw
                   case rel => exact ⟨i + 1, by omega, by go_num, B8.out, Q8.out⟩
                   case measure => simp [intOf]; omega
               · go_wp2_with fail
                 go_quiet (fail)
                 go_wp2_with fail
                 go_roundw
                 case rel => exact ⟨i + 1, by omega, by go_num, B5.out.trans (Below.mono drewN_below B5.out.size), rowIs_later Q5.out drewN_below⟩
                 case measure => simp [intOf]; omega
           · have e : i = k := by omega
             subst e
             go_wp2_with fail
             exact ⟨⟨i + 1, by omega, by go_num, B5.out, Q5.out⟩, by simp [intOf]; omega⟩
       · have e : k = n := by omega
         subst e
         go_wp2_with fail
         go_ret
         exact ⟨rfl, B3.out⟩
end Go.Proofs.YtmfhnhnmdeabeaaGreat.Re
end
