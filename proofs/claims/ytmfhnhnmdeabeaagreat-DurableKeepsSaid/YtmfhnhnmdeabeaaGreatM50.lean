/- The reference of layer 22 (rec): unlink, over the reference's tree. -/
import Derived.Test.YtmfhnhnmdeabeaaGreatM26
import Derived.Test.YtmfhnhnmdeabeaaGreatM30
import Derived.Test.YtmfhnhnmdeabeaaGreatM29
import Derived.Test.YtmfhnhnmdeabeaaGreatM05
import Derived.Test.YtmfhnhnmdeabeaaGreatM31
set_option linter.unusedVariables false
set_option linter.unusedSimpArgs false
set_option maxRecDepth 100000
section
namespace Go.Proofs.YtmfhnhnmdeabeaaGreat.Re
open Go.RowKit Go.Shelf Go.Maps Oct Path Tr
variable {R g room q : Nat} {S : T}
def Mem (a b : Nd) : Prop := a.kind = b.kind ∧ a.data = b.data ∧ a.held = b.held
theorem Mem.rfl' (a : Nd) : Mem a a := ⟨rfl, rfl, rfl⟩
theorem RtA.mem {W : World} {S' : T} (h : RtA W R g room q S) (hl : S'.l = S.l) (hn : ∀ x, Mem (S'.n x) (S.n x)) : RtA W R g room q S' := h.congr hl hn
theorem free_lose (hI : Inv room S) {d x : Nat} {s : Nm} (hx : S.l d s = x) (hx0 : x ≠ 0) (y : Nat) : Mem (setN S.n x (lose (S.n x)) y) ((freS ⟨S.n, setL S.l d s 0⟩ x).n y) := by
 obtain ⟨hk, h1⟩ := hI.ent d s (by rw [hx]; exact hx0)
 rw [hx] at hk h1
 by_cases hyx : y = x
 · subst hyx
   rw [setN_same]
   have hk2 := hI.k2 y
   have hcase : (S.n y).kind = 1 ∨ (S.n y).kind = 2 := by omega
   rcases hcase with hk1 | hk1
   · have hc := (hI.cnt y hk1).del (N := S.n) hx (Ne.symm hx0)
     have hz := hc.zero
     have el : lose (S.n y) = if (S.n y).held = 0 ∧ (S.n y).links - 1 = 0 then Nd.no else { S.n y with links := (S.n y).links - 1 } := by
       unfold lose fre
       rw [if_neg (by omega)]
     rw [el]
     by_cases hh : (S.n y).held = 0
     · by_cases hl : (S.n y).links - 1 = 0
       · rw [freS_yes ⟨h1, hz.1 hl, hh⟩, if_pos ⟨hh, hl⟩]
         simp only [setN_same]
         exact Mem.rfl' _
       · rw [freS_no (fun q => hl (hz.2 q.2.1)), if_neg (fun q => hl q.2)]
         exact ⟨rfl, rfl, rfl⟩
     · rw [freS_no (S := ⟨S.n, setL S.l d s 0⟩) (fun q => hh q.2.2), if_neg (fun q => hh q.1)]
       exact ⟨rfl, rfl, rfl⟩
   · have hn : ¬ Nam ⟨S.n, setL S.l d s 0⟩ y := by
       rintro ⟨d', s', he⟩
       simp only [setL] at he
       split at he
       · exact hx0 he.symm
       · rename_i hne
         have e1 := hI.one d s (by rw [hx]; exact hk1)
         have e2 := hI.one d' s' (by rw [he]; exact hk1)
         rw [hx] at e1
         rw [he] at e2
         have ed : d' = d := by omega
         subst ed
         have := hI.one2 d' s s' (by rw [hx]; exact hk1) (by rw [hx, he])
         exact hne ⟨rfl, this.symm⟩
     rw [freS_yes ⟨h1, hn, (hI.dr y hk1).1⟩]
     unfold lose
     rw [if_pos hk1]
     simp only [setN_same]
     exact Mem.rfl' _
 · rw [setN_other _ _ hyx, freS_kind hyx]
   exact Mem.rfl' _
theorem ren_l (S : T) (dir tt x o : Nat) (s s2 : Nm) : setL (setL (ren0 S tt s2 o).l dir s 0) tt s2 x = setL (setL S.l dir s 0) tt s2 x := by
 unfold ren0
 split
 · rfl
 · rw [freS_l]
   funext a b
   simp only [setL]
   grind
theorem ren_n (hI : Inv room S) (tt x o : Nat) (s2 : Nm) (ho : S.l tt s2 = o) (hox : o ≠ x) (v : Nd) (hv : Mem v (S.n x)) (y : Nat) : Mem (setN (if o = 0 then S.n else setN S.n o (lose (S.n o))) x v y) ((ren0 S tt s2 o).n y) := by
 unfold ren0
 by_cases h0 : o = 0
 · rw [if_pos h0, if_pos h0]
   by_cases e : y = x
   · subst e; rw [setN_same]; exact hv
   · rw [setN_other _ _ e]; exact Mem.rfl' _
 · rw [if_neg h0, if_neg h0]
   by_cases e : y = x
   · subst e
     rw [setN_same, freS_kind (fun q => hox q.symm)]
     exact hv
   · rw [setN_other _ _ e]
     exact free_lose hI ho h0 y
theorem cnt_links (hI : Inv room S) {es : Nat → List Ent} (hr : Rows18 room S es) {x : Nat} (hk : (S.n x).kind = 1) : cntN x es room = (S.n x).links :=
 (hr.cnt (by have := hI.rng x (by omega); omega)).uniq (hI.cnt x hk)
end Go.Proofs.YtmfhnhnmdeabeaaGreat.Re
end
section
namespace Go.Proofs.YtmfhnhnmdeabeaaGreat.Re
open Go.RowKit Go.Shelf Go.Maps Oct Path Tr
variable {R g room q : Nat} {S : T} {es : Nat → List Ent} {pa : Nat → Option Addr} {ca : Nat → Nat}
def staV (S : T) (es : Nat → List Ent) (room x : Nat) : Value := if (S.n x).kind = 0 then .agg #[.int .u32 0, .int .u8 0, .int .i64 0, .int .u32 0] else .agg #[.int .u32 x, .int .u8 (S.n x).kind, .int .i64 (lnkV S es x room), .int .u32 (S.n x).data.length]
set_option maxHeartbeats 400000 in
theorem stat18 (wz : World) (h : RtM wz R g room q S es pa ca) (x : Nat) (hx32 : x < 4294967296) :
   Calls Tryz.prog 44 #[.pointer (some ⟨R, 0, none⟩), .int .u32 x] wz fun e w' => e = .returned (.tuple #[staV S es room x, .int .i64 (if (S.n x).kind = 0 then 3 else 0 : Nat)]) ∧ Below wz.heap.size wz w' := by
 have H := Lib.hid h
 have TH := Lib.hid (fun W hb => there18 W (h.later hb) x hx32)
 have hg0 := h.g_lt
 have hR0 := h.top.lt
 clear h
 go_enter Tryz.func44, Tryz.ntmps44
 go_wp2_with fail
 have B1 := Lib.hid ((Below.refl _ wz).alloc (Nat.le_refl _) (.cells #[.int .u32 0, .int .u8 0, .int .i64 0, .int .u32 0] 69))
 have X0 := Lib.hid (SBox.new wz 69 #[.int .u32 0, .int .u8 0, .int .i64 0, .int .u32 0])
 refine Calls.mono (TH.out _ B1.out) ?_
 rintro e w' ⟨rfl, rfl⟩
 by_cases hk : (S.n x).kind = 0
 · have HK := Lib.hid hk
   rw [hk]
   clear hk
   go_wp2_with fail
   have h9 := fill4 X0.out (.int .u32 0) (.int .u8 0) (.int .i64 0) (.int .u32 0)
   have K0 := h9.cell 0
   have K1 := h9.cell 1
   have K2 := h9.cell 2
   have K3 := h9.cell 3
   simp only [List.getElem?_toArray, List.getElem?_cons_zero, List.getElem?_cons_succ] at K0 K1 K2 K3
   have Kl := h9.lt
   exact bodyPost_ret (v := .tuple #[.agg #[.int .u32 0, .int .u8 0, .int .i64 0, .int .u32 0], .int .i64 3]) (by simp [results, Tryz.results44, go_sem, K0, K1, K2, K3]) rfl ⟨by simp [staV, HK.out], (Below.refl _ wz).alloc (Nat.le_refl _) _⟩
 · have HK := Lib.hid hk
   obtain ⟨x1, x2⟩ := H.out.rng x hk
   have LK := Lib.hid (fun W hb => links18 W (H.out.later hb) x x1 x2)
   obtain ⟨i, hx⟩ : ∃ i, x = i + 1 := ⟨x - 1, by omega⟩
   have hi : i < room := by omega
   have hrm := H.out.rm.2
   have w1 := w_sub hx (by omega)
   have h0 := H.out.topC
   obtain ⟨c0, c1, c2, c3, f⟩ := H.out.cellsX hx hi
   have hdt := H.out.dt x
   have t4 : ((S.n x).kind == 0) = false := by simpa using hk
   rw [t4]
   obtain ⟨ln, hln⟩ : ∃ ln, (S.n x).data.length = ln := ⟨_, rfl⟩
   have sB : (B (S.n x).data).size = ln := by rw [size_B, hln]
   rw [hln] at hdt
   have t6 : IntKind.u32.wrap (ln : Int) = ln := by simp [IntKind.wrap, IntKind.bits, IntKind.signed]; omega
   have HLN := Lib.hid hln
   clear t4 hk hx f hln
   go_wp2_with fail
   have BW := Lib.hid (((Below.refl wz.heap.size wz).alloc (Nat.le_refl _) (.cells #[.int .u32 0, .int .u8 0, .int .i64 0, .int .u32 0] 69)).alloc (by simp) (.cells #[.int .u8 (S.n x).kind, .slice (pa i) (es i).length (ca i), .string (B (S.n x).data), .int .i64 (S.n x).held] 82))
   have XS := Lib.hid (X0.out.alloc (.cells #[.int .u8 (S.n x).kind, .slice (pa i) (es i).length (ca i), .string (B (S.n x).data), .int .i64 (S.n x).held] 82))
   have XN : Hid (SBox ((wz.alloc (.cells #[.int .u32 0, .int .u8 0, .int .i64 0, .int .u32 0] 69)).alloc (.cells #[.int .u8 (S.n x).kind, .slice (pa i) (es i).length (ca i), .string (B (S.n x).data), .int .i64 (S.n x).held] 82)) (wz.heap.size + 1) 82 #[.int .u8 (S.n x).kind, .slice (pa i) (es i).length (ca i), .string (B (S.n x).data), .int .i64 (S.n x).held]) := Lib.hid (by simpa using SBox.new (wz.alloc (.cells #[.int .u32 0, .int .u8 0, .int .i64 0, .int .u32 0] 69)) 82 #[.int .u8 (S.n x).kind, .slice (pa i) (es i).length (ca i), .string (B (S.n x).data), .int .i64 (S.n x).held])
   generalize (wz.alloc (.cells #[.int .u32 0, .int .u8 0, .int .i64 0, .int .u32 0] 69)).alloc (.cells #[.int .u8 (S.n x).kind, .slice (pa i) (es i).length (ca i), .string (B (S.n x).data), .int .i64 (S.n x).held] 82) = W0 at BW XS XN ⊢
   have T6 := Lib.hid t6
   have SB := Lib.hid sB
   clear t6 sB h0 c0 c1 c2 c3 w1
   refine wp_region_phi2 (by kernel_rfl) (fun | 0 => some 20 | 1 => some 21 | 2 => some 22 | 3 => some 23 | 4 => some 24 | 5 => some 25 | 6 => some 26 | 7 => some 27 | 8 => some 28 | 9 => some 29 | 10 => some 30 | 11 => none | 12 => some 5 | _ => none) (fun a => ∃ x5 x20 x21 x22 x23 x24 x25 x26 x27 x28 x29 x30 : Value, a = ⟨#[.pointer (some ⟨R, 0, none⟩), .int .u32 x, undef, undef, .pointer (some ⟨wz.heap.size, 0, none⟩), x5, .pointer (some ⟨wz.heap.size + 1, 0, none⟩), .pointer (some ⟨R, 0, none⟩), .int .u32 x, .bool true, .bool false, undef, .pointer (some ⟨R, 0, none⟩), .pointer (some ⟨R, 0, none⟩), .pointer (some ⟨R, 0, none⟩), .slice (some ⟨g, 0, none⟩) room room, .int .u32 x, .int .u32 i, .pointer (some ⟨g, i * 4, none⟩), .agg #[.int .u8 (S.n x).kind, .slice (pa i) (es i).length (ca i), .string (B (S.n x).data), .int .i64 (S.n x).held], x20, x21, x22, x23, x24, x25, x26, x27, x28, x29, x30], []⟩) (fun lst w => (lst 11 = false → w = W0.drew) ∧ (lst 11 = true → SBox w wz.heap.size 69 #[.int .u32 x, .int .u8 (S.n x).kind, .int .i64 (lnkV S es x room), .int .u32 ln] ∧ Below wz.heap.size wz w)) (fun _ _ _ => True) (fun | 0 => (fun v w => v = .int .u32 x) | 1 => (fun v w => v = .pointer (some ⟨wz.heap.size + 1, 0, none⟩)) | 2 => (fun v w => v = .int .u8 (S.n x).kind) | 3 => (fun v w => v = .pointer (some ⟨R, 0, none⟩)) | 4 => (fun v w => v = .int .u32 x) | 5 => (fun v w => v = .int .i64 (lnkV S es x room)) | 6 => (fun v w => v = .pointer (some ⟨wz.heap.size + 1, 2, none⟩)) | 7 => (fun v w => v = .string (B (S.n x).data)) | 8 => (fun v w => v = .int .i64 ln) | 9 => (fun v w => v = .int .u32 ln) | 10 => (fun v w => v = .agg #[.int .u32 x, .int .u8 (S.n x).kind, .int .i64 (lnkV S es x room), .int .u32 ln]) | 11 => (fun v w => v = undef) | 12 => (fun v w => v = .int .i64 0) | _ => (fun _ _ => True)) (by kernel_rfl) ?stb (by kernel_rfl) ?AA ⟨_, _, _, _, _, _, _, _, _, _, _, _, rfl⟩ ?G0 ?step ?done
   case stb =>
     intro i j v w1 w2 hi hj hij hw hp hs
     have hi : i < 13 := hi
     match j, hp with
     | 0, hp | 1, hp | 2, hp | 3, hp | 4, hp | 5, hp | 6, hp | 7, hp | 8, hp | 9, hp | 10, hp | 11, hp | 12, hp => exact hp
     | j + 13, _ => exact trivial
   case AA =>
     rintro i a v hi ⟨_, _, _, _, _, _, _, _, _, _, _, _, rfl⟩
     match i, hi with
     | 0, _ | 1, _ | 2, _ | 3, _ | 4, _ | 5, _ | 6, _ | 7, _ | 8, _ | 9, _ | 10, _ | 11, _ | 12, _ => exact ⟨⟨_, _, _, _, _, _, _, _, _, _, _, _, rfl⟩, fun t h => by cases h <;> exact of_decide_eq_true rfl⟩
     | i + 13, hi => exact absurd hi (by simp)
   case G0 => exact ⟨fun _ => rfl, fun qq => by cases qq⟩
   case step =>
     rintro i a w1 lst hi ⟨x5, x20, x21, x22, x23, x24, x25, x26, x27, x28, x29, x30, rfl⟩ hl hcl hG hp
     refine wpOp_via (fun K hK => ?_)
     match i, hi with
     | 0, _ =>
       have h11 : lst 11 = false := not_done hcl hl (by decide : 11 < 13) (by kernel_rfl)
       obtain rfl := hG.1 h11
       refine wpOp_at (by rfl) rfl ?_
       go_simp
       exact hK _ _ ⟨_, rfl, ⟨fun _ => rfl, fun qq => by change lst 11 = true at qq; rw [h11] at qq; cases qq⟩, trivial, rfl⟩
     | 1, _ =>
       have h11 : lst 11 = false := not_done hcl hl (by decide : 11 < 13) (by kernel_rfl)
       obtain rfl := hG.1 h11
       refine wpOp_at (by rfl) rfl ?_
       go_simp
       exact hK _ _ ⟨_, rfl, ⟨fun _ => rfl, fun qq => by change lst 11 = true at qq; rw [h11] at qq; cases qq⟩, trivial, rfl⟩
     | 2, _ =>
       have h11 : lst 11 = false := not_done hcl hl (by decide : 11 < 13) (by kernel_rfl)
       obtain rfl := hG.1 h11
       have hs := XN.out.drew
       have X0 := hs.cell 0
       have X1 := hs.cell 1
       have X2 := hs.cell 2
       have X3 := hs.cell 3
       simp only [List.getElem?_toArray, List.getElem?_cons_zero, List.getElem?_cons_succ] at X0 X1 X2 X3
       have Xl := hs.lt
       have Xl := hs.lt
       clear hs
       obtain rfl : x21 = _ := hp 1 (by kernel_rfl)
       refine wpOp_at (by rfl) rfl ?_
       go_simp
       exact hK _ _ ⟨_, rfl, ⟨fun _ => rfl, fun qq => by change lst 11 = true at qq; rw [h11] at qq; cases qq⟩, trivial, rfl⟩
     | 3, _ =>
       have h11 : lst 11 = false := not_done hcl hl (by decide : 11 < 13) (by kernel_rfl)
       obtain rfl := hG.1 h11
       refine wpOp_at (by rfl) rfl ?_
       go_simp
       exact hK _ _ ⟨_, rfl, ⟨fun _ => rfl, fun qq => by change lst 11 = true at qq; rw [h11] at qq; cases qq⟩, trivial, rfl⟩
     | 4, _ =>
       have h11 : lst 11 = false := not_done hcl hl (by decide : 11 < 13) (by kernel_rfl)
       obtain rfl := hG.1 h11
       refine wpOp_at (by rfl) rfl ?_
       go_simp
       exact hK _ _ ⟨_, rfl, ⟨fun _ => rfl, fun qq => by change lst 11 = true at qq; rw [h11] at qq; cases qq⟩, trivial, rfl⟩
     | 5, _ =>
       have h11 : lst 11 = false := not_done hcl hl (by decide : 11 < 13) (by kernel_rfl)
       obtain rfl := hG.1 h11
       obtain rfl : x23 = _ := hp 3 (by kernel_rfl)
       obtain rfl : x24 = _ := hp 4 (by kernel_rfl)
       refine wpOp_at (by rfl) rfl ?_
       go_simp
       refine Calls.mono (LK.out _ BW.out.drew) ?_
       rintro e w2 ⟨rfl, rfl⟩
       exact hK _ _ ⟨_, rfl, ⟨fun _ => rfl, fun qq => by change lst 11 = true at qq; rw [h11] at qq; cases qq⟩, trivial, rfl⟩
     | 6, _ =>
       have h11 : lst 11 = false := not_done hcl hl (by decide : 11 < 13) (by kernel_rfl)
       obtain rfl := hG.1 h11
       refine wpOp_at (by rfl) rfl ?_
       go_simp
       exact hK _ _ ⟨_, rfl, ⟨fun _ => rfl, fun qq => by change lst 11 = true at qq; rw [h11] at qq; cases qq⟩, trivial, rfl⟩
     | 7, _ =>
       have h11 : lst 11 = false := not_done hcl hl (by decide : 11 < 13) (by kernel_rfl)
       obtain rfl := hG.1 h11
       have hs := XN.out.drew
       have X0 := hs.cell 0
       have X1 := hs.cell 1
       have X2 := hs.cell 2
       have X3 := hs.cell 3
       simp only [List.getElem?_toArray, List.getElem?_cons_zero, List.getElem?_cons_succ] at X0 X1 X2 X3
       have Xl := hs.lt
       have Xl := hs.lt
       clear hs
       obtain rfl : x26 = _ := hp 6 (by kernel_rfl)
       refine wpOp_at (by rfl) rfl ?_
       go_simp
       exact hK _ _ ⟨_, rfl, ⟨fun _ => rfl, fun qq => by change lst 11 = true at qq; rw [h11] at qq; cases qq⟩, trivial, rfl⟩
     | 8, _ =>
       have h11 : lst 11 = false := not_done hcl hl (by decide : 11 < 13) (by kernel_rfl)
       obtain rfl := hG.1 h11
       have sB := SB.out
       obtain rfl : x27 = _ := hp 7 (by kernel_rfl)
       refine wpOp_at (by rfl) rfl ?_
       go_simp
       exact hK _ _ ⟨_, rfl, ⟨fun _ => rfl, fun qq => by change lst 11 = true at qq; rw [h11] at qq; cases qq⟩, trivial, rfl⟩
     | 9, _ =>
       have h11 : lst 11 = false := not_done hcl hl (by decide : 11 < 13) (by kernel_rfl)
       obtain rfl := hG.1 h11
       have t6 := T6.out
       obtain rfl : x28 = _ := hp 8 (by kernel_rfl)
       refine wpOp_at (by rfl) rfl ?_
       go_simp
       exact hK _ _ ⟨_, rfl, ⟨fun _ => rfl, fun qq => by change lst 11 = true at qq; rw [h11] at qq; cases qq⟩, trivial, rfl⟩
     | 10, _ =>
       have h11 : lst 11 = false := not_done hcl hl (by decide : 11 < 13) (by kernel_rfl)
       obtain rfl := hG.1 h11
       obtain rfl : x20 = _ := hp 0 (by kernel_rfl)
       obtain rfl : x22 = _ := hp 2 (by kernel_rfl)
       obtain rfl : x25 = _ := hp 5 (by kernel_rfl)
       obtain rfl : x29 = _ := hp 9 (by kernel_rfl)
       refine wpOp_at (by rfl) rfl ?_
       go_simp
       exact hK _ _ ⟨_, rfl, ⟨fun _ => rfl, fun qq => by change lst 11 = true at qq; rw [h11] at qq; cases qq⟩, trivial, rfl⟩
     | 11, _ =>
       obtain rfl : x30 = _ := hp 10 (by kernel_rfl)
       have h11 := hl
       obtain rfl := hG.1 h11
       have hs := XS.out
       have X0 := hs.cell 0
       have X1 := hs.cell 1
       have X2 := hs.cell 2
       have X3 := hs.cell 3
       simp only [List.getElem?_toArray, List.getElem?_cons_zero, List.getElem?_cons_succ] at X0 X1 X2 X3
       have Xl := hs.lt
       have F0 := hs.free 0
       have F1 := hs.free 1
       have F2 := hs.free 2
       have F3 := hs.free 3
       have Xl := hs.lt
       have FB := (fill4 hs (.int .u32 x) (.int .u8 (S.n x).kind) (.int .i64 (lnkV S es x room)) (.int .u32 ln)).drew
       have FL := (fill4_below BW.out (Nat.le_refl wz.heap.size) (.int .u32 x) (.int .u8 (S.n x).kind) (.int .i64 (lnkV S es x room)) (.int .u32 ln)).drew
       have HFB := Lib.hid FB
       have HFL := Lib.hid FL
       clear hs FB FL
       refine wpOp_at (by rfl) rfl ?_
       go_simp
       exact hK _ _ ⟨undef, rfl, ⟨(fun qq => by cases qq), fun _ => ⟨HFB.out, HFL.out⟩⟩, trivial, rfl⟩
     | 12, _ =>
       refine wpOp_at (by rfl) rfl ?_
       go_simp
       exact hK _ _ ⟨_, rfl, ⟨fun qq => hG.1 qq, fun qq => hG.2 qq⟩, trivial, rfl⟩
     | i + 13, hi => exact absurd hi (by simp)
   case done =>
     rintro a w8 lst hl ⟨x5, x20, x21, x22, x23, x24, x25, x26, x27, x28, x29, x30, rfl⟩ hG hp
     obtain ⟨hA, hB⟩ := hG.2 (hl 11 (by decide))
     obtain rfl : x5 = _ := hp 12 (by decide)
     have HB := Lib.hid hB
     have K0 := hA.cell 0
     have K1 := hA.cell 1
     have K2 := hA.cell 2
     have K3 := hA.cell 3
     simp only [List.getElem?_toArray, List.getElem?_cons_zero, List.getElem?_cons_succ] at K0 K1 K2 K3
     have Kl := hA.lt
     clear hp hG hl hA hB
     go_wp2_with fail
     exact bodyPost_ret (v := .tuple #[.agg #[.int .u32 x, .int .u8 (S.n x).kind, .int .i64 (lnkV S es x room), .int .u32 ln], .int .i64 0]) (by simp [results, Tryz.results44, go_sem, K0, K1, K2, K3]) rfl ⟨by simp [staV, HK.out, HLN.out], HB.out⟩
end Go.Proofs.YtmfhnhnmdeabeaaGreat.Re
end
section
namespace Go.Proofs.YtmfhnhnmdeabeaaGreat.Re
open Go.RowKit Go.Shelf Go.Maps Oct Path Tr
variable {R g room q : Nat} {S : T} {es : Nat → List Ent} {pa : Nat → Option Addr} {ca : Nat → Nat}
theorem name_max {s : Nm} (h : isName s = true) : (B s).size ≤ maxLen := by
 have : s.length ≤ 27 := by
   unfold isName at h
   simp at h
   omega
 rw [size_B]
 unfold maxLen
 omega
set_option maxHeartbeats 400000 in
theorem unlink22 (wz : World) (h : RtM wz R g room q S es pa ca) (hI : Inv room S) (r : Rc) (hm : May r) (ho : r.op = 3) :
   Calls Tryz.prog 40 #[.pointer (some ⟨R, 0, none⟩), recV r] wz (ErAns g wz (Ok room r S) fun w' => RtA w' R g room q (next r S)) := by
 obtain ⟨m1, m2, m3⟩ := hm.ent (by rw [ho]; rfl)
 have mk := hm.knd (by rw [ho]; rfl)
 have mi := hm.ino
 have HM3 := Lib.hid m3
 have LK := Lib.hid (fun W hb => look18 W (h.later hb) r.dir (by omega) (B r.name) (name_max m3) m3)
 have UN := Lib.hid (fun W hb => unlink18 W (h.later hb) hI r.dir (by omega) (B r.name) (name_max m3) m3)
 have RM := Lib.hid (fun W hb => rmdir18 W (h.later hb) hI r.dir (by omega) (B r.name) (name_max m3) m3)
 rw [L_B] at LK UN RM
 have HI := Lib.hid hI
 have HO := Lib.hid ho
 have B0 := Lib.hid ((Below.refl wz.heap.size wz).alloc (Nat.le_refl _) (.cells (recC r) 39))
 have hg := h.g_lt
 have hR := h.top.lt
 clear h hm ho m3 hI
 unfold recV recC
 unfold recC at B0
 go_enter Tryz.func40, Tryz.ntmps40
 go_wp2_with fail
 refine Calls.mono (LK.out _ B0.out) ?_
 rintro e w2 ⟨rfl, rfl⟩
 by_cases he : lkE S r.dir r.name = 0
 · obtain ⟨h2, hl, hv⟩ := lkE_ok he
   rw [he, hv]
   obtain ⟨x, hx⟩ : ∃ x, S.l r.dir r.name = x := ⟨_, rfl⟩
   rw [hx] at hl ⊢
   simp only [hx] at UN RM
   have H2 := Lib.hid h2
   have HX := Lib.hid hx
   have HL := Lib.hid hl
   clear he hv h2 hx hl
   by_cases hxi : x = r.ino
   · have HXI := Lib.hid hxi
     rw [hxi]
     clear hxi
     rcases mk with mk | mk
     · have MK := Lib.hid mk
       have kb : ((r.kind : Int) == 2) = false := by rw [mk]; rfl
       clear mk
       go_wp2_with fail
       refine Calls.mono (UN.out _ B0.out) ?_
       rintro e w3 ⟨v, er, rfl, hT, hf⟩
       have HF := Lib.hid hf
       have HT := Lib.hid hT
       clear hf hT
       go_wp2_with fail
       go_ret
       refine ⟨er, rfl, (Tr.Tch.of B0.out).trans HT.out, fun e0 => ?_⟩
       obtain ⟨⟨p1, p2, p3⟩, p4⟩ := HF.out e0
       have hx : S.l r.dir r.name = r.ino := by rw [HX.out, HXI.out]
       have hi0 : r.ino ≠ 0 := by omega
       rw [HXI.out] at p3 p4
       refine ⟨?_, ?_⟩
       · rw [ok_3 HO.out]
         exact ⟨H2.out, hx, hi0, by rw [p3, MK.out], fun t => HI.out.noL _ t (by omega)⟩
       · show RtA w3 R g room q (next r S)
         rw [next_3 HO.out]
         refine p4.mem ?_ fun y => free_lose HI.out hx hi0 y
         rw [freS_l]
     · have MK := Lib.hid mk
       have kb : ((r.kind : Int) == 2) = true := by rw [mk]; rfl
       clear mk
       go_wp2_with fail
       refine Calls.mono (RM.out _ B0.out) ?_
       rintro e w3 ⟨v, er, rfl, hT, hf⟩
       have HF := Lib.hid hf
       have HT := Lib.hid hT
       clear hf hT
       go_wp2_with fail
       go_ret
       refine ⟨er, rfl, (Tr.Tch.of B0.out).trans HT.out, fun e0 => ?_⟩
       obtain ⟨⟨p1, p2, p3, p5⟩, p4⟩ := HF.out e0
       have hx : S.l r.dir r.name = r.ino := by rw [HX.out, HXI.out]
       have hi0 : r.ino ≠ 0 := by omega
       rw [HXI.out] at p3 p4 p5
       refine ⟨?_, ?_⟩
       · rw [ok_3 HO.out]
         exact ⟨H2.out, hx, hi0, by rw [p3, MK.out], p5⟩
       · show RtA w3 R g room q (next r S)
         rw [next_3 HO.out]
         refine p4.mem ?_ fun y => free_lose HI.out hx hi0 y
         rw [freS_l]
   · have t1 : ((x : Int) != r.ino) = true := by simp; omega
     clear hxi mk
     go_wp2_with fail
     go_ret
     exact ErAns.no (by decide) (Tr.Tch.of B0.out)
 · have t1 : ((lkE S r.dir r.name : Int) != 0) = true := by simp; omega
   have HE := Lib.hid he
   clear he mk
   go_wp2_with fail
   go_ret
   exact ErAns.no HE.out (Tr.Tch.of B0.out)
set_option maxHeartbeats 400000 in
theorem rename22 (wz : World) (h : RtM wz R g room q S es pa ca) (hI : Inv room S) (hq : q < 1000) (r : Rc) (hm : May r) (ho : r.op = 4) :
   Calls Tryz.prog 41 #[.pointer (some ⟨R, 0, none⟩), recV r] wz (ErAns g wz (Ok room r S) fun w' => RtA w' R g room (q + 1) (next r S)) := by
 obtain ⟨m1, m2, m3⟩ := hm.ent (by rw [ho]; rfl)
 have mk := hm.knd (by rw [ho]; rfl)
 obtain ⟨n1, n2, n3, n4⟩ := hm.mov (by rw [ho]; rfl)
 have mi := hm.ino
 have LK := Lib.hid (fun W hb => look18 W (h.later hb) r.dir (by omega) (B r.name) (name_max m3) m3)
 have LK2 := Lib.hid (fun W hb => look18 W (h.later hb) r.dir2 (by omega) (B r.name2) (name_max n3) n3)
 have RN := Lib.hid (fun W hb hdk hx => rename18 W (h.later hb) hI r.dir r.dir2 r.ino (by omega) (by omega) (B r.name) (B r.name2) (name_max m3) (name_max n3) m3 n3 hq hdk hx (by omega))
 rw [L_B] at LK LK2
 simp only [L_B] at RN
 have H := Lib.hid h
 have HI := Lib.hid hI
 have HO := Lib.hid ho
 have HMK := Lib.hid mk
 have B0 := Lib.hid ((Below.refl wz.heap.size wz).alloc (Nat.le_refl _) (.cells (recC r) 39))
 have X0 := Lib.hid (SBox.new wz 39 (recC r))
 have hg := h.g_lt
 have hR := h.top.lt
 clear h hm ho m3 n3 hI mk
 unfold recV recC
 unfold recC at B0 X0
 go_enter Tryz.func41, Tryz.ntmps41
 go_wp2_with fail
 refine Calls.mono (LK.out _ B0.out) ?_
 rintro e w2 ⟨rfl, rfl⟩
 by_cases he : lkE S r.dir r.name = 0
 · obtain ⟨h2, hl, hv⟩ := lkE_ok he
   rw [he, hv]
   obtain ⟨x, hx⟩ : ∃ x, S.l r.dir r.name = x := ⟨_, rfl⟩
   rw [hx] at hl ⊢
   have H2 := Lib.hid h2
   have HX := Lib.hid hx
   have HL := Lib.hid hl
   have hk := (HI.out.ent r.dir r.name (by rw [hx]; exact hl)).1
   rw [hx] at hk
   obtain ⟨x1, x2⟩ := H.out.rng x hk
   have hrm := H.out.rm.2
   have ST := Lib.hid (fun W hb => stat18 W (H.out.later hb) x (by omega))
   rw [show staV S es room x = .agg #[.int .u32 x, .int .u8 (S.n x).kind, .int .i64 (lnkV S es x room), .int .u32 (S.n x).data.length] by unfold staV; rw [if_neg hk], if_neg hk] at ST
   clear he hv h2 hx hl hk
   go_wp2_with fail
   refine Calls.mono (ST.out _ B0.out) ?_
   rintro e w3 ⟨rfl, hb⟩
   have B3 := Lib.hid (B0.out.trans (hb.mono B0.out.size))
   have X3 := X0.out.later hb
   have hl3 := hb.size
   have hX3l := X3.lt
   have C0 := X3.cell 0
   have C1 := X3.cell 1
   have C2 := X3.cell 2
   have C3 := X3.cell 3
   have C4 := X3.cell 4
   have C5 := X3.cell 5
   have C6 := X3.cell 6
   have C7 := X3.cell 7
   have C8 := X3.cell 8
   have C9 := X3.cell 9
   have C10 := X3.cell 10
   have C11 := X3.cell 11
   simp only [List.getElem?_toArray, List.getElem?_cons_zero, List.getElem?_cons_succ] at C0 C1 C2 C3 C4 C5 C6 C7 C8 C9 C10 C11
   have Cl := X3.lt
   have XX := Lib.hid X3
   clear X3 hb
   go_wp2_with fail
   have B4 := Lib.hid (B3.out.alloc B3.out.size (.cells #[.int .u32 x, .int .u8 (S.n x).kind, .int .i64 (lnkV S es x room), .int .u32 (S.n x).data.length] 69))
   refine Calls.mono (LK2.out _ B4.out) ?_
   rintro e w4 ⟨rfl, rfl⟩
   by_cases hxi : x = r.ino
   · subst hxi
     by_cases hkk : (S.n r.ino).kind = r.kind
     · have HKK := Lib.hid hkk
       have tk : (((S.n r.ino).kind : Int) != r.kind) = false := by rw [hkk]; simp
       clear hkk
       by_cases hold : lkV S r.dir2 r.name2 = r.old
       · have HOLD := Lib.hid hold
         rw [hold]
         clear hold
         go_wp2_with fail
         refine Calls.mono (RN.out _ B4.out H2.out HX.out) ?_
         rintro e w5 ⟨er, rfl, hT, hf⟩
         have HF := Lib.hid hf
         have HT := Lib.hid hT
         clear hf hT
         go_wp2_with fail
         go_ret
         refine ⟨er, rfl, (Tr.Tch.of B4.out).trans HT.out, fun e0 => ?_⟩
         obtain ⟨⟨p1, p2, p3⟩, p4⟩ := HF.out e0
         have hold : S.l r.dir2 r.name2 = r.old := by have := HOLD.out; unfold lkV at this; rw [if_pos p1] at this; exact this
         have hi0 : r.ino ≠ 0 := by omega
         rw [hold] at p3 p4
         rw [HKK.out] at p2 p3
         refine ⟨?_, ?_⟩
         · rw [ok_4 HO.out]
           exact ⟨H2.out, HX.out, hi0, HKK.out, p1, hold, p2, p3⟩
         · show RtA w5 R g room (q + 1) (next r S)
           rw [next_4 HO.out]
           unfold renS at p4
           by_cases hoi : r.old = r.ino
           · rw [if_pos hoi] at p4 ⊢
             exact p4
           · rw [if_neg hoi] at p4 ⊢
             refine p4.mem ?_ fun y => ren_n HI.out r.dir2 r.ino r.old r.name2 hold hoi _ ?_ y
             · exact (ren_l S r.dir r.dir2 r.ino r.old r.name r.name2).symm
             · split
               · exact ⟨rfl, rfl, rfl⟩
               · exact Mem.rfl' _
       · have t1 : ((lkV S r.dir2 r.name2 : Int) != r.old) = true := by simp; omega
         clear hold
         go_wp2_with fail
         go_ret
         exact ErAns.no (by decide) (Tr.Tch.of B4.out)
     · have t1 : (((S.n r.ino).kind : Int) != r.kind) = true := by simp; omega
       clear hkk
       go_wp2_with fail
       go_ret
       exact ErAns.no (by decide) (Tr.Tch.of B4.out)
   · have t1 : ((x : Int) != r.ino) = true := by simp; omega
     clear hxi
     go_wp2_with fail
     go_ret
     exact ErAns.no (by decide) (Tr.Tch.of B4.out)
 · have t1 : ((lkE S r.dir r.name : Int) != 0) = true := by simp; omega
   have HE := Lib.hid he
   clear he
   go_wp2_with fail
   go_ret
   exact ErAns.no HE.out (Tr.Tch.of B0.out)
end Go.Proofs.YtmfhnhnmdeabeaaGreat.Re
end
