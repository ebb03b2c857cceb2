/- The law's has and paged (layer 32). -/
import Derived.Test.YtmfhnhnmdeabeaaGreatM34
import Derived.Deep.RegionHeld3
import Derived.Laws.EntriesVeiled
set_option linter.unusedVariables false
set_option linter.unusedSimpArgs false
set_option maxRecDepth 100000
section
namespace Go.Proofs.YtmfhnhnmdeabeaaGreat.Re
open Go.RowKit Go.Shelf Go.Maps Oct Path Tr
variable {E : TL} {room q : Nat} {S : T}
theorem run_zero0 (n : Nat) (w : World) : (convert 128 9 (.slice (some ⟨w.heap.size, 0, none⟩) n n)).run Tryz.prog (w.alloc (.cells (madeCells #[.int .u8 0] n) 5)) = .ok (.string (B (List.replicate n 0))) (w.alloc (.cells (madeCells #[.int .u8 0] n) 5)) := by
 have r0 := World.rowIs_made w (.int .u8 0) n 5
 have h := run_back (w.alloc (.cells (madeCells #[.int .u8 0] n) 5)) w.heap.size n (List.replicate n 0) _ (by rw [List.length_replicate]; exact r0) (fun j hj => by simp)
 rw [List.length_replicate] at h
 exact h
theorem Puts.later {W W' : World} {mB oB mb base nn : Nat} {c : Nm → Nat} {ss : List Nm} {p : Option Addr} {cap : Nat} (h : Puts W mB oB mb base nn c ss p cap) (hb : Below W.heap.size W W') : Puts W' mB oB mb base nn c ss p cap :=
 ⟨h.m.later hb, h.o.later hb, h.map.later hb, own_later hb h.row, h.mem, h.le, h.len, h.lo.1, h.lo.2.1, h.lo.2.2.1, Nat.le_trans h.lo.2.2.2.1 hb.size, h.lo.2.2.2.2⟩
def Put1 (w w' : World) (mB oB mb base nn : Nat) (ss : List Nm) (p : Option Addr) (cap : Nat) (s : Nm) : Prop :=
 ∃ c' ss' p' cap', Puts w' mB oB mb base (nn + 1) c' ss' p' cap' ∧ s ∈ ss' ∧ (∀ t ∈ ss, t ∈ ss') ∧ Tch (fun x => x = mb ∨ x = oB ∨ (Value.slice p ss.length cap).ownBlock = some x) w w' ∧ (∀ x, (Value.slice p' ss'.length cap').ownBlock = some x → (Value.slice p ss.length cap).ownBlock = some x ∨ w.heap.size ≤ x)
theorem Put1.after {w w1 w' : World} {mB oB mb base nn : Nat} {ss : List Nm} {p : Option Addr} {cap : Nat} {s : Nm} (hb : Below w.heap.size w w1) (h : Put1 w1 w' mB oB mb base nn ss p cap s) : Put1 w w' mB oB mb base nn ss p cap s := by
 obtain ⟨c', ss', p', cap', a, b, c, d, e⟩ := h
 exact ⟨c', ss', p', cap', a, b, c, (Tch.of hb).trans d, fun x hx => (e x hx).imp id (fun h => Nat.le_trans hb.size h)⟩
def seen (S : T) (x k : Nat) : Option Nm := if readE S x k = 0 then some (pageB (S.n x).data k) else none
set_option maxHeartbeats 4000000 in
theorem statesLook_ok (x k : Nat) (hx : x < 4294967296) (hk : k < 36) (tB iB kB pB mB oB mb base nn : Nat) (c : Nm → Nat) (ss : List Nm) (p : Option Addr) (cap : Nat) (wz : World) (h : Puts wz mB oB mb base nn c ss p cap) (hn : nn ≤ 1000) (hT : TreeAt wz E room q S)
   (ht : SBox wz tB 27 #[.pointer (some ⟨E.t, 0, none⟩)]) (hi : SBox wz iB 37 #[.int .u32 x]) (hkb : SBox wz kB 3 #[.int .i64 k]) (hp : SBox wz pB 130 #[.func (.func 70) #[] #[.pointer (some ⟨mB, 0, none⟩), .pointer (some ⟨oB, 0, none⟩)]]) :
   Calls Tryz.prog 71 #[.pointer (some ⟨tB, 0, none⟩), .pointer (some ⟨iB, 0, none⟩), .pointer (some ⟨kB, 0, none⟩), .pointer (some ⟨pB, 0, none⟩)] wz fun e w' => e = .returned (.tuple #[]) ∧
     ((seen S x k = none ∧ Below wz.heap.size wz w') ∨ ∃ s, seen S x k = some s ∧ Put1 wz w' mB oB mb base nn ss p cap s) := by
 have RD := Lib.hid (read_any wz hT x k hx)
 have HP := Lib.hid h
 have PB := Lib.hid hp
 have X0 := ht.cell 0
 simp only [List.getElem?_toArray, List.getElem?_cons_zero, List.getElem?_cons_succ] at X0
 have Xl := ht.lt
 have Y0 := hi.cell 0
 simp only [List.getElem?_toArray, List.getElem?_cons_zero, List.getElem?_cons_succ] at Y0
 have Yl := hi.lt
 have Z0 := hkb.cell 0
 simp only [List.getElem?_toArray, List.getElem?_cons_zero, List.getElem?_cons_succ] at Z0
 have Zl := hkb.lt
 have hsn : readE S x k = 0 → readS S x k = readP (S.n x).data k := fun h0 => by unfold readS; rw [if_pos h0]; rfl
 have HSN := Lib.hid hsn
 obtain ⟨er, her⟩ : ∃ er, readE S x k = er := ⟨_, rfl⟩
 obtain ⟨s, hs⟩ : ∃ s, readS S x k = s := ⟨_, rfl⟩
 rw [her, hs] at RD
 have HE := Lib.hid her
 have HS := Lib.hid hs
 clear ht hi hkb hp h hT hsn her hs
 go_enter Tryz.func71, Tryz.ntmps71
 go_wp2_with fail
 refine Calls.mono RD.out ?_
 rintro e w1 ⟨rfl, hb⟩
 have B1 := Lib.hid hb
 have P1 := Lib.hid (HP.out.later hb)
 have hX := PB.out.later hb
 clear X0 Xl Y0 Yl Z0 Zl hb RD
 by_cases h0 : er = 0
 · have e1 : s = readP (S.n x).data k := by rw [← HS.out]; exact HSN.out (by rw [HE.out, h0])
   have hl : s.length ≤ 64 := by rw [e1]; unfold readP; simp; omega
   have PG := Lib.hid (show s ++ List.replicate (64 - s.length) 0 = pageB (S.n x).data k by rw [e1]; exact pad_readP _ _)
   clear e1
   obtain ⟨m, hm⟩ : ∃ m, 64 - s.length = m := ⟨_, rfl⟩
   rw [hm] at PG
   have wz0 : IntKind.i64.wrap ((64 : Int) - ((B s).size : Int)) = (m : Int) := by
     rw [size_B, show (64 : Int) - (s.length : Int) = (m : Int) by omega]
     exact IntWalk.i64_in _ (by omega)
   have hmk := run_made m (by omega) w1.drew
   have hzz := run_zero0 m w1.drew
   have EC := Lib.hid (show B s ++ B (List.replicate m 0) = B (pageB (S.n x).data k) by rw [← PG.out, append_B]; rfl)
   have LG := Lib.hid (length_pageB (S.n x).data k)
   have SN := Lib.hid (show seen S x k = some (pageB (S.n x).data k) by unfold seen; rw [HE.out, if_pos h0])
   subst h0
   generalize pageB (S.n x).data k = pg at *
   have hX0 := hX.cell 0
   have hXl := hX.lt
   simp only [List.getElem?_toArray, List.getElem?_cons_zero] at hX0
   have hXb := hX
   have HL := Lib.hid (And.intro hm hl)
   clear hX hm hl
   go_wp2_with fail
   have PW := Lib.hid (fun V (hb : Below w1.heap.size w1 V) => put_ok pg (by have := LG.out; omega) mB oB mb base nn c ss p cap V (P1.out.later hb) hn)
   have PB2 := Lib.hid hXb
   have WZ := Lib.hid wz0
   have MK := Lib.hid hmk
   have ZZ := Lib.hid hzz
   have HZ := Lib.hid (show ¬ 9223372036854775807 < (B s).size + (B (List.replicate m 0)).size by rw [size_B, size_B, List.length_replicate]; have := HL.out; omega)
   clear hXb wz0 hmk hzz hX0 hXl
   refine wp_region_phi2 (by kernel_rfl) (fun | 0 => some 15 | 1 => some 16 | 2 => some 17 | 3 => some 18 | 4 => some 19 | 5 => some 20 | 6 => some 21 | 7 => some 22 | 8 => some 23 | _ => none) (fun a => ∃ x15 x16 x17 x18 x19 x20 x21 x22 x23 : Value, a = ⟨#[.pointer (some ⟨tB, 0, none⟩), .pointer (some ⟨iB, 0, none⟩), .pointer (some ⟨kB, 0, none⟩), .pointer (some ⟨pB, 0, none⟩), .string (B s), .int .i64 0, .tuple #[.string (B s), .int .i64 0], .pointer (some ⟨E.t, 0, none⟩), .int .u32 x, .int .i64 k, .tuple #[.string (B s), .int .i64 0], .string (B s), .int .i64 0, .int .i64 0, .bool true, x15, x16, x17, x18, x19, x20, x21, x22, x23], []⟩) (fun lst V => (lst 8 = false → Below w1.heap.size w1 V) ∧ (lst 5 = false → V = w1.drew) ∧ (lst 5 = true → lst 8 = false → V = (w1.drew.alloc (.cells (madeCells #[.int .u8 0] m) 5))) ∧ (lst 8 = true → Put1 w1 V mB oB mb base nn ss p cap pg)) (fun i a b => a.heap.size ≤ b.heap.size) (fun | 0 => (fun v w => v = Value.func (.func 70) #[] #[.pointer (some ⟨mB, 0, none⟩), .pointer (some ⟨oB, 0, none⟩)]) | 1 => (fun v w => v = Value.string (B s)) | 2 => (fun v w => v = Value.string (B s)) | 3 => (fun v w => v = Value.int .i64 (B s).size) | 4 => (fun v w => v = Value.int .i64 m) | 5 => (fun v w => v = Value.slice (some ⟨w1.heap.size, 0, none⟩) m m ∧ w1.heap.size < w.heap.size) | 6 => (fun v w => v = Value.string (B (List.replicate m 0)) ∧ w1.heap.size < w.heap.size) | 7 => (fun v w => v = Value.string (B pg) ∧ w1.heap.size < w.heap.size) | 8 => (fun v w => v = Value.tuple #[]) | _ => (fun _ _ => True)) (by kernel_rfl) ?stb (by kernel_rfl) ?AA ⟨_, _, _, _, _, _, _, _, _, rfl⟩ ?G0 ?step ?done
   case stb =>
     intro i j v wa wb hi hj hij hw hp hs
     have hi : i < 9 := hi
     match j, hp with
     | 0, hp | 1, hp | 2, hp | 3, hp | 4, hp => exact hp
     | 5, hp =>
       exact ⟨hp.1, Nat.lt_of_lt_of_le hp.2 hs⟩
     | 6, hp =>
       exact ⟨hp.1, Nat.lt_of_lt_of_le hp.2 hs⟩
     | 7, hp =>
       exact ⟨hp.1, Nat.lt_of_lt_of_le hp.2 hs⟩
     | 8, hp => exact hp
     | j + 9, _ => exact trivial
   case AA =>
     rintro i a v hi ⟨_, _, _, _, _, _, _, _, _, rfl⟩
     match i, hi with
     | 0, _ | 1, _ | 2, _ | 3, _ | 4, _ | 5, _ | 6, _ | 7, _ | 8, _ => exact ⟨⟨_, _, _, _, _, _, _, _, _, rfl⟩, fun t h => by cases h <;> exact of_decide_eq_true rfl⟩
     | i + 9, hi => exact absurd hi (by simp)
   case G0 => exact ⟨fun _ => (Below.refl _ _).drew, fun _ => rfl, (fun q => by cases q), (fun q => by cases q)⟩
   case step =>
     rintro i a wv lst hi ⟨x15, x16, x17, x18, x19, x20, x21, x22, x23, rfl⟩ hl hcl hG hp
     refine wpOp_via (fun K hK => ?_)
     match i, hi with
     | 0, _ =>
       obtain ⟨g0, g1, g2, g3⟩ := hG
       have G1 := Lib.hid g1
       have G2 := Lib.hid g2
       clear g1 g2
       have n8 : lst 8 = false := by
         cases h : lst 8 with
         | false => rfl
         | true => exact absurd (hcl 8 0 (by show 8 < 9; decide) h (by kernel_rfl)) (by rw [hl]; decide)
       have hc := (PB2.out.later (g0 n8)).cell 0
       have hcl2 := (PB2.out.later (g0 n8)).lt
       simp only [List.getElem?_toArray, List.getElem?_cons_zero] at hc
       refine wpOp_at (by rfl) rfl ?_
       go_simp
       exact hK _ _ ⟨_, rfl, ⟨fun q => g0 (by simpa using q), fun q => G1.out (by simpa using q), fun q r => G2.out (by simpa using q) (by simpa using r), fun q => g3 (by simpa using q)⟩, Nat.le_refl _, rfl⟩
     | 1, _ =>
       obtain ⟨g0, g1, g2, g3⟩ := hG
       have G1 := Lib.hid g1
       have G2 := Lib.hid g2
       clear g1 g2
       refine wpOp_at (by rfl) rfl ?_
       go_simp
       exact hK _ _ ⟨_, rfl, ⟨fun q => g0 (by simpa using q), fun q => G1.out (by simpa using q), fun q r => G2.out (by simpa using q) (by simpa using r), fun q => g3 (by simpa using q)⟩, Nat.le_refl _, rfl⟩
     | 2, _ =>
       obtain ⟨g0, g1, g2, g3⟩ := hG
       have G1 := Lib.hid g1
       have G2 := Lib.hid g2
       clear g1 g2
       refine wpOp_at (by rfl) rfl ?_
       go_simp
       exact hK _ _ ⟨_, rfl, ⟨fun q => g0 (by simpa using q), fun q => G1.out (by simpa using q), fun q r => G2.out (by simpa using q) (by simpa using r), fun q => g3 (by simpa using q)⟩, Nat.le_refl _, rfl⟩
     | 3, _ =>
       obtain ⟨g0, g1, g2, g3⟩ := hG
       have G1 := Lib.hid g1
       have G2 := Lib.hid g2
       clear g1 g2
       obtain rfl : x17 = _ := hp 2 (by kernel_rfl)
       refine wpOp_at (by rfl) rfl ?_
       go_simp
       exact hK _ _ ⟨_, rfl, ⟨fun q => g0 (by simpa using q), fun q => G1.out (by simpa using q), fun q r => G2.out (by simpa using q) (by simpa using r), fun q => g3 (by simpa using q)⟩, Nat.le_refl _, rfl⟩
     | 4, _ =>
       obtain ⟨g0, g1, g2, g3⟩ := hG
       have G1 := Lib.hid g1
       have G2 := Lib.hid g2
       clear g1 g2
       obtain rfl : x18 = _ := hp 3 (by kernel_rfl)
       have wz0 := WZ.out
       refine wpOp_at (by rfl) rfl ?_
       go_simp
       exact hK _ _ ⟨_, rfl, ⟨fun q => g0 (by simpa using q), fun q => G1.out (by simpa using q), fun q r => G2.out (by simpa using q) (by simpa using r), fun q => g3 (by simpa using q)⟩, Nat.le_refl _, rfl⟩
     | 5, _ =>
       obtain ⟨g0, g1, g2, g3⟩ := hG
       have G1 := Lib.hid g1
       have G2 := Lib.hid g2
       clear g1 g2
       have n5 := hl
       have n8 : lst 8 = false := by
         cases h : lst 8 with
         | false => rfl
         | true => exact absurd (hcl 8 5 (by show 8 < 9; decide) h (by kernel_rfl)) (by rw [hl]; decide)
       obtain rfl := G1.out n5
       obtain rfl : x19 = _ := hp 4 (by kernel_rfl)
       have hmk := MK.out
       refine wpOp_at (by rfl) rfl ?_
       go_simp
       exact hK _ _ ⟨_, rfl, ⟨fun _ => (Below.refl _ w1).drew.alloc (Nat.le_refl _) _, fun q => absurd q (by simp), fun _ _ => rfl, fun q => absurd (show lst 8 = true by simpa using q) (by rw [n8]; decide)⟩, by simp, rfl, by simp⟩
     | 6, _ =>
       obtain ⟨g0, g1, g2, g3⟩ := hG
       have G1 := Lib.hid g1
       have G2 := Lib.hid g2
       clear g1 g2
       have n8 : lst 8 = false := by
         cases h : lst 8 with
         | false => rfl
         | true => exact absurd (hcl 8 6 (by show 8 < 9; decide) h (by kernel_rfl)) (by rw [hl]; decide)
       obtain ⟨e20, hsz⟩ := hp 5 (by kernel_rfl)
       change x20 = _ at e20
       subst e20
       have y5 : lst 5 = true := by
         cases h : lst 5 with
         | true => rfl
         | false => rw [G1.out h] at hsz; exact absurd hsz (Nat.lt_irrefl _)
       have e9 := G2.out y5 n8
       have E9 := Lib.hid e9
       have hzz : (convert 128 9 (.slice (some ⟨w1.heap.size, 0, none⟩) m m)).run Tryz.prog wv = .ok (.string (B (List.replicate m 0))) wv := by rw [e9]; exact ZZ.out
       have SZ := Lib.hid hsz
       clear e9 hsz
       refine wpOp_at (by rfl) rfl ?_
       go_simp
       exact hK _ _ ⟨_, rfl, ⟨fun q => g0 (by simpa using q), fun q => G1.out (by simpa using q), fun q r => G2.out (by simpa using q) (by simpa using r), fun q => g3 (by simpa using q)⟩, Nat.le_refl _, rfl, SZ.out⟩
     | 7, _ =>
       obtain ⟨g0, g1, g2, g3⟩ := hG
       have G1 := Lib.hid g1
       have G2 := Lib.hid g2
       clear g1 g2
       obtain rfl : x16 = _ := hp 1 (by kernel_rfl)
       obtain ⟨e21, hsz⟩ := hp 6 (by kernel_rfl)
       change x21 = _ at e21
       subst e21
       have SZ := Lib.hid hsz
       clear hsz
       have ec := EC.out
       have hz9 := HZ.out
       refine wpOp_at (by rfl) rfl ?_
       go_simp
       exact hK _ _ ⟨_, rfl, ⟨fun q => g0 (by simpa using q), fun q => G1.out (by simpa using q), fun q r => G2.out (by simpa using q) (by simpa using r), fun q => g3 (by simpa using q)⟩, Nat.le_refl _, rfl, SZ.out⟩
     | 8, _ =>
       obtain ⟨g0, g1, g2, g3⟩ := hG
       have G1 := Lib.hid g1
       have G2 := Lib.hid g2
       clear g1 g2
       have n8 := hl
       obtain rfl : x15 = _ := hp 0 (by kernel_rfl)
       obtain ⟨e22, hsz⟩ := hp 7 (by kernel_rfl)
       change x22 = _ at e22
       subst e22
       have SZ := Lib.hid hsz
       clear hsz
       refine wpOp_at (by rfl) rfl ?_
       go_simp
       refine (PW.out _ (g0 n8)).mono ?_
       rintro e w8 ⟨rfl, h8⟩
       have h9 := Put1.after (g0 n8) h8
       have hsz8 : wv.heap.size ≤ w8.heap.size := by
         obtain ⟨_, _, _, _, _, _, _, hT, _⟩ := h8
         exact hT.size
       have y5 : lst 5 = true := by
         cases h : lst 5 with
         | true => rfl
         | false => have hsz := SZ.out; rw [G1.out h] at hsz; exact absurd hsz (Nat.lt_irrefl _)
       exact hK _ _ ⟨_, rfl, ⟨fun q => absurd q (by simp), fun q => absurd (show lst 5 = false by simpa using q) (by rw [y5]; decide), fun _ q => absurd q (by simp), fun _ => h9⟩, hsz8, rfl⟩
     | i + 9, hi => exact absurd hi (by simp)
   case done =>
     rintro a w8 lst hl ⟨x15, x16, x17, x18, x19, x20, x21, x22, x23, rfl⟩ ⟨_, _, _, g3⟩ hp
     have H8 := Lib.hid (g3 (hl 8 (by show 8 < 9; decide)))
     clear g3 hp
     go_wp2_with fail
     go_end0
     exact ⟨rfl, .inr ⟨pg, SN.out, Put1.after B1.out H8.out⟩⟩
 · have t1 : ((er : Int) == 0) = false := by simp; omega
   have t2 : decide (er = 0) = false := by simpa using h0
   have N0 := Lib.hid h0
   clear h0 hX
   go_wp2_with fail
   go_end0
   exact ⟨rfl, .inl ⟨by unfold seen; rw [HE.out, if_neg N0.out], B1.out⟩⟩
end Go.Proofs.YtmfhnhnmdeabeaaGreat.Re
end
section
namespace Go.Proofs.YtmfhnhnmdeabeaaGreat.Re
open Go.RowKit Go.Shelf Go.Maps Oct Path Tr
variable {E : TL} {room : Nat}
structure SR (wz W : World) (E' : TL) (room q' : Nat) (S : T) (x k tB nn : Nat) (c : Nm → Nat) (ss : List Nm) (p : Option Addr) (cap : Nat) : Prop where
 t : SBox W tB 27 #[.pointer (some ⟨E'.t, 0, none⟩)]
 i : SBox W wz.heap.size 37 #[.int .u32 x]
 k : SBox W (wz.heap.size + 1) 3 #[.int .i64 k]
 pf : SBox W (tB + 3) 130 #[.func (.func 70) #[] #[.pointer (some ⟨tB + 2, 0, none⟩), .pointer (some ⟨wz.heap.size + 2, 0, none⟩)]]
 puts : Puts W (tB + 2) (wz.heap.size + 2) (tB + 1) (tB + 4) nn c ss p cap
 tree : TreeAt W E' room q' S
 O : ∀ z, E'.O z → ((wz.heap.size + 3 ≤ z ∧ z < tB) ∨ tB + 4 ≤ z) ∧ z < W.heap.size ∧ (Value.slice p ss.length cap).ownBlock ≠ some z
 be : Below wz.heap.size wz W
 tz : wz.heap.size + 3 ≤ tB
theorem SR.own {wz W : World} {E' : TL} {room q' : Nat} {S : T} {x k tB nn : Nat} {c : Nm → Nat} {ss : List Nm} {p : Option Addr} {cap : Nat} (h : SR wz W E' room q' S x k tB nn c ss p cap) {z : Nat} (hz : (Value.slice p ss.length cap).ownBlock = some z) : tB + 4 ≤ z ∧ z < W.heap.size := by
 have h1 := (row_cells h.puts.row hz).1
 obtain ⟨ob, h2, _⟩ := (row_cells h.puts.row hz).2
 exact ⟨h1, (Array.getElem?_eq_some_iff.1 h2).1⟩
theorem SR.later {wz W W' : World} {E' : TL} {room q' : Nat} {S : T} {x k tB nn : Nat} {c : Nm → Nat} {ss : List Nm} {p : Option Addr} {cap : Nat} (h : SR wz W E' room q' S x k tB nn c ss p cap) (hb : Below W.heap.size W W') : SR wz W' E' room q' S x k tB nn c ss p cap :=
 ⟨h.t.later hb, h.i.later hb, h.k.later hb, h.pf.later hb, h.puts.later hb, h.tree.later hb, fun z hz => ⟨(h.O z hz).1, Nat.lt_of_lt_of_le (h.O z hz).2.1 hb.size, (h.O z hz).2.2⟩, h.be.trans (hb.mono h.be.size), h.tz⟩
theorem SR.put {wz W W' : World} {E' : TL} {room q' : Nat} {S : T} {x k tB nn : Nat} {c : Nm → Nat} {ss : List Nm} {p : Option Addr} {cap : Nat} {s : Nm} (h : SR wz W E' room q' S x k tB nn c ss p cap) (hp : Put1 W W' (tB + 2) (wz.heap.size + 2) (tB + 1) (tB + 4) nn ss p cap s) :
   ∃ c' ss' p' cap', SR wz W' E' room q' S x k tB (nn + 1) c' ss' p' cap' ∧ s ∈ ss' ∧ ∀ t ∈ ss, t ∈ ss' := by
 obtain ⟨c', ss', p', cap', a, b, d, ht, ho⟩ := hp
 have tz := h.tz
 have own := fun z hz => h.own (z := z) hz
 have ne : ∀ z, z < tB + 4 → z ≠ tB + 1 → z ≠ wz.heap.size + 2 → ¬ (z = tB + 1 ∨ z = wz.heap.size + 2 ∨ (Value.slice p ss.length cap).ownBlock = some z) := fun z h1 h2 h3 e => by
   rcases e with e | e | e
   · exact h2 e
   · exact h3 e
   · have := (own z e).1; omega
 refine ⟨c', ss', p', cap', ⟨Tch.box ht h.t (ne _ (by omega) (by omega) (by omega)), Tch.box ht h.i (ne _ (by omega) (by omega) (by omega)), Tch.box ht h.k (ne _ (by omega) (by omega) (by omega)), Tch.box ht h.pf (ne _ (by omega) (by omega) (by omega)), a, ?_, fun z hz => ⟨(h.O z hz).1, Nat.lt_of_lt_of_le (h.O z hz).2.1 ht.size, fun e => ?_⟩, ?_, tz⟩, b, d⟩
 · refine h.tree.blocks fun z hz hO => ht.block z hz fun e => ?_
   have h1 := h.O z hO
   rcases e with e | e | e
   · omega
   · omega
   · exact h1.2.2 e
 · have h1 := h.O z hz
   rcases ho z e with h2 | h2
   · exact h1.2.2 h2
   · omega
 · exact h.be.trans (ht.below fun z hz => ⟨by have := h.be.size; omega, fun e => by
     rcases e with e | e | e
     · omega
     · omega
     · have := (own z e).1; omega⟩)
theorem SR.swap {wz W W1 W2 : World} {E' E2 E3 : TL} {room q' q2 : Nat} {S S3 : T} {x k tB nn : Nat} {c : Nm → Nat} {ss : List Nm} {p : Option Addr} {cap : Nat} (h : SR wz W E' room q' S x k tB nn c ss p cap) (hb : Below W.heap.size W W1) (hO : ∀ z, E2.O z → W.heap.size ≤ z) (hp : Pl W1 W2 E2 E3 room q2 S3) :
   SR wz (W2.setCell ⟨tB, 0, none⟩ (.pointer (some ⟨E3.t, 0, none⟩))) E3 room q2 S3 x k tB nn c ss p cap ∧ Below tB W W2 := by
 have tz := h.tz
 have h1 := h.later hb
 have lo := h.puts.lo.2.2.2.1
 have hb2 : Below W.heap.size W W2 := hb.trans (hp.tch.below fun z hz => ⟨by have := hb.size; omega, fun e => by have := hO z e; omega⟩)
 have h2 := h.later hb2
 have oE : ∀ z, E3.O z → W.heap.size ≤ z := fun z hz => (hp.new z hz).elim (hO z) (fun h => Nat.le_trans hb.size h)
 have own := fun z hz => h.own (z := z) hz
 have ht : Tch (fun z => z = tB) W2 (W2.setCell ⟨tB, 0, none⟩ (.pointer (some ⟨E3.t, 0, none⟩))) := Tch.cell rfl
 refine ⟨⟨?_, Tch.box ht h2.i (by omega), Tch.box ht h2.k (by omega), Tch.box ht h2.pf (by omega), ?_, ?_, fun z hz => ⟨.inr (by have := oE z hz; omega), Nat.lt_of_lt_of_le (hp.lt z hz) ht.size, fun e => by have := oE z hz; have := (own z e).2; omega⟩, ?_, tz⟩, hb2.mono (by omega)⟩
 · have := h2.t.set 0 (.pointer (some ⟨E3.t, 0, none⟩))
   simpa using this
 · have q := h2.puts
   exact ⟨Tch.box ht q.m (by omega), Tch.box ht q.o (by omega), q.map.block (ht.block _ q.map.lt (by omega)), row_tch q.row (by omega) ht, q.mem, q.le, q.len, q.lo.1, q.lo.2.1, q.lo.2.2.1, Nat.le_trans q.lo.2.2.2.1 ht.size, q.lo.2.2.2.2⟩
 · exact hp.at_.blocks fun z hz hO => ht.block z hz (by have := oE z hO; omega)
 · exact h2.be.setCell (by show wz.heap.size ≤ tB; omega) _
theorem SR.look {wz W : World} {E' : TL} {room q' : Nat} {S : T} {x k tB nn : Nat} {c : Nm → Nat} {ss : List Nm} {p : Option Addr} {cap : Nat} (h : SR wz W E' room q' S x k tB nn c ss p cap) (hx : x < 4294967296) (hk : k < 36) (hn : nn ≤ 1000) :
   Calls Tryz.prog 71 #[.pointer (some ⟨tB, 0, none⟩), .pointer (some ⟨wz.heap.size, 0, none⟩), .pointer (some ⟨wz.heap.size + 1, 0, none⟩), .pointer (some ⟨tB + 3, 0, none⟩)] W fun e w' => e = .returned (.tuple #[]) ∧ ∃ nn' c' ss' p' cap', nn' ≤ nn + 1 ∧ SR wz w' E' room q' S x k tB nn' c' ss' p' cap' ∧ (∀ s, seen S x k = some s → s ∈ ss') ∧ ∀ t ∈ ss, t ∈ ss' := by
 refine (statesLook_ok x k hx hk tB wz.heap.size (wz.heap.size + 1) (tB + 3) (tB + 2) (wz.heap.size + 2) (tB + 1) (tB + 4) nn c ss p cap W h.puts hn h.tree h.t h.i h.k h.pf).mono ?_
 rintro e w' ⟨rfl, ⟨h1, h2⟩ | ⟨s, h1, h2⟩⟩
 · exact ⟨rfl, nn, c, ss, p, cap, Nat.le_succ _, h.later h2, (fun s hs => by rw [h1] at hs; cases hs), fun t ht => ht⟩
 · obtain ⟨c', ss', p', cap', a, b, d⟩ := h.put h2
   exact ⟨rfl, nn + 1, c', ss', p', cap', Nat.le_refl _, a, (fun t ht => by rw [h1] at ht; cases ht; exact b), d⟩
set_option maxHeartbeats 8000000 in
theorem states_ok (wz : World) (hT : TreeAt wz E room 0 rootT) (h2 : 2 ≤ room) (xs : List Rc) (hp : Plays room xs rootT) (hm : ∀ r ∈ xs, May r) (hlen : xs.length ≤ 100) (p : Option Addr) (g o cap : Nat) (hg : g < wz.heap.size) (hR : LV wz p g o xs) (x k : Nat) (hx : x < 4294967296) (hk : k < 36) :
   Calls Tryz.prog 33 #[.pointer (some ⟨E.t, 0, none⟩), .int .u32 x, .int .i64 k, .slice p xs.length cap] wz fun e w' => ∃ (v : Value) (ss : List Nm), e = .returned v ∧ w'.ownsRow wz.heap.size 9 1 v ss.length (ss.map strV) ∧ (∀ i, i ≤ xs.length → ∀ s, seen (run (xs.take i) rootT) x k = some s → s ∈ ss) ∧ Below wz.heap.size wz w' := by
 have hmm := @run_makeMap Tryz.prog
 have HP := Lib.hid hp
 have HM := Lib.hid hm
 have HR := Lib.hid hR
 have IV := Lib.hid (inv_root h2)
 have B0 := ((Below.refl _ wz).alloc (Nat.le_refl _) (.cells #[.int .u32 x] 37)).alloc (by simp) (.cells #[.int .i64 k] 3)
 have B1 := B0.alloc B0.size (.cells #[.slice none 0 0] 75)
 have HE := Lib.hid (held_root _ (hT.later B1) h2)
 have BX := Lib.hid (((SBox.new wz 37 #[.int .u32 x]).alloc (.cells #[.int .i64 k] 3)).alloc (.cells #[.slice none 0 0] 75))
 have BY := Lib.hid ((show SBox ((wz.alloc (.cells #[.int .u32 x] 37)).alloc (.cells #[.int .i64 k] 3)) (wz.heap.size + 1) 3 #[.int .i64 k] from by simpa using SBox.new (wz.alloc (.cells #[.int .u32 x] 37)) 3 #[.int .i64 k]).alloc (.cells #[.slice none 0 0] 75))
 have BZ := Lib.hid (show SBox (((wz.alloc (.cells #[.int .u32 x] 37)).alloc (.cells #[.int .i64 k] 3)).alloc (.cells #[.slice none 0 0] 75)) (wz.heap.size + 2) 75 #[.slice none 0 0] from by simpa using SBox.new ((wz.alloc (.cells #[.int .u32 x] 37)).alloc (.cells #[.int .i64 k] 3)) 75 #[.slice none 0 0])
 have BB := Lib.hid B1
 have S3 := Lib.hid (show (((wz.alloc (.cells #[.int .u32 x] 37)).alloc (.cells #[.int .i64 k] 3)).alloc (.cells #[.slice none 0 0] 75)).heap.size = wz.heap.size + 3 by simp)
 clear hT hp hm hR B0 B1
 obtain ⟨n, hn⟩ : ∃ n, xs.length = n := ⟨_, rfl⟩
 rw [hn] at hlen ⊢
 have HN := Lib.hid hn
 clear hn
 go_enter Tryz.func33, Tryz.ntmps33
 go_wp2_with fail
 refine Calls.mono HE.out ?_
 rintro e w1 ⟨E1, rfl, hT1, hO1, hb1⟩
 have T1 := Lib.hid hT1
 have O1 := Lib.hid hO1
 have B1 := Lib.hid hb1
 clear hT1 hO1 hb1 HE
 go_wp2_with fail
 have sz1 : wz.heap.size + 3 ≤ w1.heap.size := by have := B1.out.size; rw [S3.out] at this; exact this
 have a1 := (Below.refl _ w1).alloc (Nat.le_refl _) (.cells #[.pointer (some ⟨E1.t, 0, none⟩)] 27)
 have a2 := a1.alloc a1.size (.map #[] 0)
 have a3 := a2.alloc a2.size (.cells #[.map (some (w1.heap.size + 1))] 129)
 have a4 := a3.alloc a3.size (.cells #[.func (.func 70) #[] #[.pointer (some ⟨w1.heap.size + 1 + 1, 0, none⟩), .pointer (some ⟨wz.heap.size + 1 + 1, 0, none⟩)]] 130)
 have SR0 : Hid (SR wz ((((w1.alloc (.cells #[.pointer (some ⟨E1.t, 0, none⟩)] 27)).alloc (.map #[] 0)).alloc (.cells #[.map (some (w1.heap.size + 1))] 129)).alloc (.cells #[.func (.func 70) #[] #[.pointer (some ⟨w1.heap.size + 1 + 1, 0, none⟩), .pointer (some ⟨wz.heap.size + 1 + 1, 0, none⟩)]] 130)) E1 room 0 rootT x k w1.heap.size 0 (fun _ => 0) [] none 0) := Lib.hid (by
   have hb := B1.out.trans (a4.mono B1.out.size)
   refine ⟨(((SBox.new w1 _ _).alloc _).alloc _).alloc _, BX.out.later hb, BY.out.later hb, ?_, ⟨?_, BZ.out.later hb, ?_, World.ownsRow_nil _ _ _ _, fun s hs => absurd rfl hs, fun s => Nat.le_refl _, Nat.le_refl _, by omega, by omega, by omega, by simp, by omega⟩, T1.out.later a4, fun z hz => ⟨.inl ⟨by have := (O1.out z hz).1; rw [S3.out] at this; exact this, (O1.out z hz).2⟩, Nat.lt_of_lt_of_le (O1.out z hz).2 a4.size, fun e => by cases e⟩, BB.out.trans (hb.mono BB.out.size), sz1⟩
   · simpa using SBox.new (((w1.alloc (.cells #[.pointer (some ⟨E1.t, 0, none⟩)] 27)).alloc (.map #[] 0)).alloc (.cells #[.map (some (w1.heap.size + 1))] 129)) 130 #[.func (.func 70) #[] #[.pointer (some ⟨w1.heap.size + 1 + 1, 0, none⟩), .pointer (some ⟨wz.heap.size + 1 + 1, 0, none⟩)]]
   · have := (SBox.new ((w1.alloc (.cells #[.pointer (some ⟨E1.t, 0, none⟩)] 27)).alloc (.map #[] 0)) 129 #[.map (some (w1.heap.size + 1))]).alloc (.cells #[.func (.func 70) #[] #[.pointer (some ⟨w1.heap.size + 1 + 1, 0, none⟩), .pointer (some ⟨wz.heap.size + 1 + 1, 0, none⟩)]] 130)
     simpa using this
   · have h := ((VMap.new (w1.alloc (.cells #[.pointer (some ⟨E1.t, 0, none⟩)] 27)) 9).alloc (.cells #[.map (some (w1.heap.size + 1))] 129)).alloc (.cells #[.func (.func 70) #[] #[.pointer (some ⟨w1.heap.size + 1 + 1, 0, none⟩), .pointer (some ⟨wz.heap.size + 1 + 1, 0, none⟩)]] 130)
     rw [show (fun _ => none : Lit → Option Value) = strF (cS fun _ => 0) from by funext l; cases l <;> rfl] at h
     simpa using h)
 clear a1 a2 a3 a4 T1 O1 B1 BX BY BZ BB S3
 generalize ((((w1.alloc (.cells #[.pointer (some ⟨E1.t, 0, none⟩)] 27)).alloc (.map #[] 0)).alloc (.cells #[.map (some (w1.heap.size + 1))] 129)).alloc (.cells #[.func (.func 70) #[] #[.pointer (some ⟨w1.heap.size + 1 + 1, 0, none⟩), .pointer (some ⟨wz.heap.size + 1 + 1, 0, none⟩)]] 130)) = wB at *
 obtain ⟨tB, htB⟩ : ∃ tB, w1.heap.size = tB := ⟨_, rfl⟩
 rw [htB] at SR0 sz1 ⊢
 clear htB
 refine Calls.mono (SR0.out.look hx hk (by decide)) ?_
 rintro e w2 ⟨rfl, nn1, c1, ss1, p1, cp1, hn1, hs1, hm1, _⟩
 have SR1 := Lib.hid hs1
 have MM1 := Lib.hid hm1
 have N1 := Lib.hid hn1
 clear hs1 hm1 hn1 SR0
 go_wp2_with fail
 go_loopw [27] (fun s27 wr => ∃ (i nn q' : Nat) (E' : TL) (c : Nm → Nat) (ss : List Nm) (pp : Option Addr) (cp : Nat), s27 = .int .i64 i ∧ i ≤ n ∧ nn ≤ i + 1 ∧ q' ≤ i ∧ SR wz wr E' room q' (run (xs.take i) rootT) x k tB nn c ss pp cp ∧ ∀ j, j ≤ i → ∀ s, seen (run (xs.take j) rootT) x k = some s → s ∈ ss) (fun s27 _ => n - (intOf s27).toNat)
 case atStart => exact ⟨0, nn1, 0, E1, c1, ss1, p1, cp1, rfl, Nat.zero_le _, N1.out, Nat.le_refl _, SR1.out, fun j hj s hs => by
   have e : j = 0 := by omega
   subst e
   exact MM1.out s hs⟩
 case round =>
   obtain ⟨i, nn, q2, E2, c, ss, pp, cp, rfl, hi, hnn, hq2, hS, hMM⟩ := hrel
   have S2 := Lib.hid hS
   have M2 := Lib.hid hMM
   have Q2 := Lib.hid hq2
   have N2 := Lib.hid hnn
   clear hS hMM hq2 hnn
   rcases Nat.lt_or_ge i n with hlt | hge
   · have hlx : i < xs.length := by have := HN.out; omega
     have hne : xs ≠ [] := fun e => by rw [e] at hlx; simp at hlx
     obtain ⟨rfl, hR1⟩ := HR.out hne
     obtain ⟨r, hr⟩ : ∃ r, xs[i]? = some r := ⟨_, List.getElem?_eq_getElem hlx⟩
     have hR2 := hR1.blocks (S2.out.be.block g hg)
     obtain ⟨d0, d1, d2, d3, d4, d5, d6, d7, d8, d9, d10, d11⟩ := hR2.cells hr
     have hgl := hR2.lt
     have PA := Lib.hid (plays_at IV.out HP.out hr)
     have hal := (Below.refl _ wr).alloc (Nat.le_refl _) (.cells #[.int .u64 r.stamp, .int .u8 r.op, .int .u32 r.dir, .string (B r.name), .int .u32 r.ino, .int .u8 r.kind, .int .u32 r.dir2, .string (B r.name2), .int .u32 r.old, .int .u32 r.size, .int .i64 r.page, .string (B r.data)] 39)
     have hX := S2.out.t
     have X0 := hX.cell 0
     simp only [List.getElem?_toArray, List.getElem?_cons_zero, List.getElem?_cons_succ] at X0
     have Xl := hX.lt
     have CP := Lib.hid (copy_any _ (S2.out.tree.later hal) PA.out.2.2)
     have AL := Lib.hid hal
     have MR := Lib.hid (HM.out r (List.mem_of_getElem? hr))
     clear hne hR1 hR2 hr hlx hal hX
     go_wp2_with fail
     refine Calls.mono CP.out ?_
     rintro e w3 ⟨E3, rfl, hT3, hO3, hb3⟩
     have B3 := Lib.hid (AL.out.trans (hb3.mono AL.out.size))
     have hY := (SBox.new wr 39 #[.int .u64 r.stamp, .int .u8 r.op, .int .u32 r.dir, .string (B r.name), .int .u32 r.ino, .int .u8 r.kind, .int .u32 r.dir2, .string (B r.name2), .int .u32 r.old, .int .u32 r.size, .int .i64 r.page, .string (B r.data)]).later hb3
     have Y0 := hY.cell 0
     have Y1 := hY.cell 1
     have Y2 := hY.cell 2
     have Y3 := hY.cell 3
     have Y4 := hY.cell 4
     have Y5 := hY.cell 5
     have Y6 := hY.cell 6
     have Y7 := hY.cell 7
     have Y8 := hY.cell 8
     have Y9 := hY.cell 9
     have Y10 := hY.cell 10
     have Y11 := hY.cell 11
     simp only [List.getElem?_toArray, List.getElem?_cons_zero, List.getElem?_cons_succ] at Y0 Y1 Y2 Y3 Y4 Y5 Y6 Y7 Y8 Y9 Y10 Y11
     have Yl := hY.lt
     have PK := Lib.hid (play_ok w3 hT3.tight (fun z hz => (hT3.tight_sub hz).2) PA.out.2.2 (by have := Q2.out; omega) r MR.out PA.out.1)
     have O3 := Lib.hid (show ∀ z, (tightL E3 (run (xs.take i) rootT)).O z → wr.heap.size ≤ z from fun z hz => by have := hO3 z (hT3.tight_sub hz).1; simp at this; omega)
     rw [show (tightL E3 (run (xs.take i) rootT)).t = E3.t from rfl] at PK
     unfold recV recC at PK
     clear hY hT3 hO3 hb3 CP d0 d1 d2 d3 d4 d5 d6 d7 d8 d9 d10 d11 hgl X0 Xl
     go_wp2_with fail
     refine Calls.mono PK.out ?_
     rintro e w4 ⟨rfl, hpl⟩
     obtain ⟨E4, p4⟩ := hpl
     have SW := Lib.hid (S2.out.swap B3.out O3.out p4)
     have et := p4.t
     have hX := (S2.out.later (B3.out.trans (p4.tch.below fun z hz => ⟨by have := B3.out.size; omega, fun e => by have := O3.out z e; omega⟩))).t
     have F0 := hX.free 0
     have X0 := hX.cell 0
     simp only [List.getElem?_toArray, List.getElem?_cons_zero, List.getElem?_cons_succ] at X0
     have Xl := hX.lt
     clear hX Y0 Y1 Y2 Y3 Y4 Y5 Y6 Y7 Y8 Y9 Y10 Y11 Yl PK p4
     rw [show (tightL E3 (run (xs.take i) rootT)).t = E3.t from rfl] at et
     rw [et] at SW
     clear et
     go_wp2_with fail
     refine Calls.mono (SW.out.1.look hx hk (by have := N2.out; omega)) ?_
     rintro e w5 ⟨rfl, nn5, c5, ss5, p5, cp5, hn5, hs5, hm5, hsub5⟩
     have S5 := Lib.hid hs5
     have M5 := Lib.hid hm5
     have U5 := Lib.hid hsub5
     have N5 := Lib.hid hn5
     clear hs5 hm5 hn5 hsub5 X0 Xl F0
     go_wp2_with fail
     go_roundw
     case rel =>
       refine ⟨i + 1, nn5, q2 + 1, E4, c5, ss5, p5, cp5, by go_num, by omega, by have := N5.out; have := N2.out; omega, by have := Q2.out; omega, by rw [PA.out.2.1]; exact S5.out, fun j hj s hs => ?_⟩
       by_cases e : j = i + 1
       · subst e
         rw [PA.out.2.1] at hs
         exact M5.out s hs
       · exact U5.out s (M2.out j (by omega) s hs)
     case measure => first | (simp [intOf]; done) | (simp [intOf]; omega)
   · have e : i = n := by omega
     subst e
     have hX := S2.out.pf
     have X0 := hX.cell 0
     simp only [List.getElem?_toArray, List.getElem?_cons_zero, List.getElem?_cons_succ] at X0
     have Xl := hX.lt
     clear hX
     go_wp2_with fail
     refine wp_region_phi2 (by kernel_rfl) (fun | 0 => some 41 | 1 => some 42 | 2 => some 43 | 3 => some 44 | _ => none) (fun a => ∃ x41 x42 x43 x44 : Value, a = ⟨#[Value.pointer (some { block := E.t, off := 0 }), Value.int IntKind.u32 ↑x, Value.int IntKind.i64 ↑k, Value.slice p i cap, undef, Value.pointer (some { block := wz.heap.size, off := 0 }), Value.pointer (some { block := wz.heap.size + 1, off := 0 }), undef, Value.pointer (some { block := wz.heap.size + 1 + 1, off := 0 }), Value.pointer (some { block := tB, off := 0 }), Value.pointer (some { block := tB + 1 + 1, off := 0 }), Value.pointer (some { block := tB + 1 + 1 + 1, off := 0 }), Value.func (Fn.func 71) #[] #[Value.pointer (some { block := tB, off := 0 }), Value.pointer (some { block := wz.heap.size, off := 0 }), Value.pointer (some { block := wz.heap.size + 1, off := 0 }), Value.pointer (some { block := tB + 1 + 1 + 1, off := 0 })], undef, u14, u15, Value.pointer (some { block := E.t, off := 0 }), Value.bool false, Value.pointer (some { block := E.t, off := 0 }), Value.pointer (some { block := E1.t, off := 0 }), Value.map (some (tB + 1)), Value.func (Fn.func 70) #[] #[Value.pointer (some { block := tB + 1 + 1, off := 0 }), Value.pointer (some { block := wz.heap.size + 1 + 1, off := 0 })], Value.func (Fn.func 71) #[] #[Value.pointer (some { block := tB, off := 0 }), Value.pointer (some { block := wz.heap.size, off := 0 }), Value.pointer (some { block := wz.heap.size + 1, off := 0 }), Value.pointer (some { block := tB + 1 + 1 + 1, off := 0 })], Value.func (Fn.func 71) #[] #[Value.pointer (some { block := tB, off := 0 }), Value.pointer (some { block := wz.heap.size, off := 0 }), Value.pointer (some { block := wz.heap.size + 1, off := 0 }), Value.pointer (some { block := tB + 1 + 1 + 1, off := 0 })], Value.tuple #[], Value.slice p i cap, Value.int IntKind.i64 ↑i, Value.int IntKind.i64 ↑i, Value.bool false, u29, u30, u31, u32, u33, u34, u35, u36, u37, u38, u39, u40, x41, x42, x43, x44, undef], []⟩) (fun lst V => (lst 3 = false → Below wr.heap.size wr V) ∧ (lst 1 = false → V = wr.drew) ∧ (lst 1 = true → lst 3 = false → V = (wr.drew.alloc (.cells (madeCells #[.int .u8 0] 64) 5))) ∧ (lst 3 = true → ∃ c9 ss9 p9 cap9, SR wz V E2 room q2 (run (xs.take i) rootT) x k tB (nn + 1) c9 ss9 p9 cap9 ∧ ∀ t ∈ ss, t ∈ ss9)) (fun i a b => a.heap.size ≤ b.heap.size) (fun | 0 => (fun v w => v = Value.func (.func 70) #[] #[.pointer (some ⟨tB + 1 + 1, 0, none⟩), .pointer (some ⟨wz.heap.size + 1 + 1, 0, none⟩)]) | 1 => (fun v w => v = Value.slice (some ⟨wr.heap.size, 0, none⟩) 64 64 ∧ wr.heap.size < w.heap.size) | 2 => (fun v w => v = Value.string (B (List.replicate 64 0)) ∧ wr.heap.size < w.heap.size) | 3 => (fun v w => v = Value.tuple #[]) | _ => (fun _ _ => True)) (by kernel_rfl) ?stb (by kernel_rfl) ?AA ⟨_, _, _, _, rfl⟩ ?G0 ?step ?done
     case stb =>
       intro i0 j v wa wb hi hj hij hw hp hs
       have hi : i0 < 4 := hi
       match j, hp with
       | 0, hp => exact hp
       | 1, hp =>
         exact ⟨hp.1, Nat.lt_of_lt_of_le hp.2 hs⟩
       | 2, hp =>
         exact ⟨hp.1, Nat.lt_of_lt_of_le hp.2 hs⟩
       | 3, hp => exact hp
       | j + 4, _ => exact trivial
     case AA =>
       rintro i0 a v hi ⟨_, _, _, _, rfl⟩
       match i0, hi with
       | 0, _ | 1, _ | 2, _ | 3, _ => exact ⟨⟨_, _, _, _, rfl⟩, fun t h => by cases h <;> exact of_decide_eq_true rfl⟩
       | i0 + 4, hi => exact absurd hi (by simp)
     case G0 => exact ⟨fun _ => (Below.refl _ _).drew, fun _ => rfl, (fun q => by cases q), (fun q => by cases q)⟩
     case step =>
       rintro i0 a wv lst hi ⟨x41, x42, x43, x44, rfl⟩ hl hcl hG hp
       refine wpOp_via (fun K hK => ?_)
       match i0, hi with
       | 0, _ =>
         obtain ⟨g0, g1, g2, g3⟩ := hG
         have G1 := Lib.hid g1
         have G2 := Lib.hid g2
         clear g1 g2
         have n3 : lst 3 = false := by
           cases h : lst 3 with
           | false => rfl
           | true => exact absurd (hcl 3 0 (by show 3 < 4; decide) h (by kernel_rfl)) (by rw [hl]; decide)
         have hc : wv.cell? ⟨tB + 1 + 1 + 1, 0, none⟩ = some (.func (.func 70) #[] #[.pointer (some ⟨tB + 1 + 1, 0, none⟩), .pointer (some ⟨wz.heap.size + 1 + 1, 0, none⟩)]) := ((S2.out.later (g0 n3)).pf).cell 0
         have hcl2 : tB + 1 + 1 + 1 < wv.heap.size := ((S2.out.later (g0 n3)).pf).lt
         refine wpOp_at (by rfl) rfl ?_
         go_simp
         exact hK _ _ ⟨_, rfl, ⟨fun q => g0 (by simpa using q), fun q => G1.out (by simpa using q), fun q r => G2.out (by simpa using q) (by simpa using r), fun q => g3 (by simpa using q)⟩, Nat.le_refl _, rfl⟩
       | 1, _ =>
         obtain ⟨g0, g1, g2, g3⟩ := hG
         have G1 := Lib.hid g1
         have G2 := Lib.hid g2
         clear g1 g2
         have n1 := hl
         have n3 : lst 3 = false := by
           cases h : lst 3 with
           | false => rfl
           | true => exact absurd (hcl 3 1 (by show 3 < 4; decide) h (by kernel_rfl)) (by rw [hl]; decide)
         obtain rfl := G1.out n1
         have hmk := run_made 64 (by decide) wr.drew
         refine wpOp_at (by rfl) rfl ?_
         go_simp
         exact hK _ _ ⟨_, rfl, ⟨fun _ => (Below.refl _ wr).drew.alloc (Nat.le_refl _) _, fun q => absurd q (by simp), fun _ _ => rfl, fun q => absurd (show lst 3 = true by simpa using q) (by rw [n3]; decide)⟩, by simp, rfl, by simp⟩
       | 2, _ =>
         obtain ⟨g0, g1, g2, g3⟩ := hG
         have G1 := Lib.hid g1
         have G2 := Lib.hid g2
         clear g1 g2
         have n3 : lst 3 = false := by
           cases h : lst 3 with
           | false => rfl
           | true => exact absurd (hcl 3 2 (by show 3 < 4; decide) h (by kernel_rfl)) (by rw [hl]; decide)
         obtain ⟨e42, hsz⟩ := hp 1 (by kernel_rfl)
         change x42 = _ at e42
         subst e42
         have y1 : lst 1 = true := by
           cases h : lst 1 with
           | true => rfl
           | false => rw [G1.out h] at hsz; exact absurd hsz (Nat.lt_irrefl _)
         have e9 := G2.out y1 n3
         have hzz : (convert 128 9 (.slice (some ⟨wr.heap.size, 0, none⟩) 64 64)).run Tryz.prog wv = .ok (.string (B (List.replicate 64 0))) wv := by rw [e9]; exact run_zero0 64 wr.drew
         have SZ := Lib.hid hsz
         clear e9 hsz
         refine wpOp_at (by rfl) rfl ?_
         go_simp
         exact hK _ _ ⟨_, rfl, ⟨fun q => g0 (by simpa using q), fun q => G1.out (by simpa using q), fun q r => G2.out (by simpa using q) (by simpa using r), fun q => g3 (by simpa using q)⟩, Nat.le_refl _, rfl, SZ.out⟩
       | 3, _ =>
         obtain ⟨g0, g1, g2, g3⟩ := hG
         have G1 := Lib.hid g1
         have G2 := Lib.hid g2
         clear g1 g2
         have n3 := hl
         obtain rfl : x41 = _ := hp 0 (by kernel_rfl)
         obtain ⟨e43, hsz⟩ := hp 2 (by kernel_rfl)
         change x43 = _ at e43
         subst e43
         have SZ := Lib.hid hsz
         clear hsz
         have SL := Lib.hid (S2.out.later (g0 n3))
         refine wpOp_at (by rfl) rfl ?_
         go_simp
         refine (put_ok (List.replicate 64 0) (by simp) (tB + 2) (wz.heap.size + 2) (tB + 1) (tB + 4) nn c ss pp cp wv SL.out.puts (by have := N2.out; omega)).mono ?_
         rintro e w8 ⟨rfl, h8⟩
         obtain ⟨c9, ss9, p9, cap9, z1, _, z3⟩ := SL.out.put h8
         have hsz8 : wv.heap.size ≤ w8.heap.size := by
           obtain ⟨_, _, _, _, _, _, _, hT, _⟩ := h8
           exact hT.size
         have y1 : lst 1 = true := by
           cases h : lst 1 with
           | true => rfl
           | false => have hsz := SZ.out; rw [G1.out h] at hsz; exact absurd hsz (Nat.lt_irrefl _)
         exact hK _ _ ⟨_, rfl, ⟨fun q => absurd q (by simp), fun q => absurd (show lst 1 = false by simpa using q) (by rw [y1]; decide), fun _ q => absurd q (by simp), fun _ => ⟨c9, ss9, p9, cap9, z1, z3⟩⟩, hsz8, rfl⟩
       | i0 + 4, hi => exact absurd hi (by simp)
     case done =>
       rintro a w8 lst hl ⟨x41, x42, x43, x44, rfl⟩ ⟨_, _, _, g3⟩ hp
       obtain ⟨c9, ss9, p9, cap9, hs9, hm9⟩ := g3 (hl 3 (by show 3 < 4; decide))
       have S9 := Lib.hid hs9
       have M9 := Lib.hid hm9
       have hO := hs9.puts.o
       clear g3 hp hs9 hm9
       have Z0 : w8.cell? ⟨wz.heap.size + 1 + 1, 0, none⟩ = some (.slice p9 ss9.length cap9) := hO.cell 0
       have Zl : wz.heap.size + 1 + 1 < w8.heap.size := hO.lt
       have Zf : w8.frozen? ⟨wz.heap.size + 1 + 1, 0, none⟩ = false := hO.free 0
       clear hO
       go_wp2_with fail
       have hS := S9.out.puts.o.set 0 (.slice p9 ss9.length cap9)
       have kS : (w8.setCell ⟨wz.heap.size + 1 + 1, 0, none⟩ (.slice p9 ss9.length cap9)).cell? ⟨wz.heap.size + 1 + 1, 0, none⟩ = some (.slice p9 ss9.length cap9) := hS.cell 0
       refine bodyPost_ret (v := .slice p9 ss9.length cap9) (by simp [results, Tryz.results33, go_sem, kS]) rfl ⟨_, ss9, rfl, ?_, fun j hj s hs => M9.out s (M2.out j hj s hs), ?_⟩
       · exact row_lower (S9.out.puts.row.setCell_below (a := ⟨wz.heap.size + 1 + 1, 0, none⟩) (by show wz.heap.size + 1 + 1 < tB + 4; omega) _) (by omega)
       · exact S9.out.be.setCell (by show wz.heap.size ≤ wz.heap.size + 1 + 1; omega) _
end Go.Proofs.YtmfhnhnmdeabeaaGreat.Re
end
section
namespace Go.Proofs.YtmfhnhnmdeabeaaGreat.Re
open Go.RowKit Go.Shelf Go.Maps Oct Path Tr
variable {E EA EB : TL} {room qA qB : Nat} {S : T}
def RowT (W : World) (base : Nat) (p : Option Addr) (ss : List Nm) : Prop := ∀ (i : Nat) (s : Nm), ss[i]? = some s → ∃ g2, p = some ⟨g2, 0, none⟩ ∧ base ≤ g2 ∧ g2 < W.heap.size ∧ W.cell? ⟨g2, i, none⟩ = some (.string (B s))
theorem RowT.of {W : World} {base : Nat} {v : Value} {ss : List Nm} (h : W.ownsRow base 9 1 v ss.length (ss.map strV)) : ∃ p cap, v = .slice p ss.length cap ∧ RowT W base p ss := by
 rcases Nat.eq_zero_or_pos ss.length with h0 | h0
 · rcases h.2 with ⟨rfl, _⟩ | ⟨g, cap, cur, rfl, _⟩
   · exact ⟨none, 0, by rw [h0], fun i y hy => by rw [List.eq_nil_of_length_eq_zero h0] at hy; cases hy⟩
   · exact ⟨_, cap, rfl, fun i y hy => by rw [List.eq_nil_of_length_eq_zero h0] at hy; cases hy⟩
 · obtain ⟨g, cap, rfl, h1, h2⟩ := h.form h0
   refine ⟨_, cap, rfl, fun i y hy => ⟨g, rfl, h1, h2, ?_⟩⟩
   have hi := (List.getElem?_eq_some_iff.1 hy).1
   rw [h.cellAt i (by omega)]
   simp [hy, strV]
def hitT (s t : Nm) : Bool := decide (s.length ≤ t.length) && t.take s.length == s
set_option maxHeartbeats 4000000 in
theorem hasp_yes (wz : World) (ss : List Nm) (s : Nm) (p : Option Addr) (cap base j : Nat) (t : Nm) (hR : RowT wz base p ss) (hj : ss[j]? = some t) (hh : hitT s t = true) (hl : ss.length ≤ 9223372036854775807) :
   Calls Tryz.prog 32 #[.slice p ss.length cap, .string (B s)] wz fun e w' => e = .returned (.bool true) ∧ Below wz.heap.size wz w' := by
 have HR := Lib.hid hR
 have HJ := Lib.hid hj
 have HH := Lib.hid hh
 clear hR hj hh
 obtain ⟨n, hn⟩ : ∃ n, ss.length = n := ⟨_, rfl⟩
 rw [hn] at hl ⊢
 have HN := Lib.hid hn
 clear hn
 go_enter Tryz.func32, Tryz.ntmps32
 go_wp2_with fail
 go_loopw [5] (fun s5 wr => ∃ i : Nat, s5 = .int .i64 i ∧ i ≤ j ∧ wr = wz) (fun s5 _ => n - (intOf s5).toNat)
 case atStart => exact ⟨0, rfl, Nat.zero_le _, rfl⟩
 case round =>
   obtain ⟨i, rfl, hi, rfl⟩ := hrel
   have hjn : j < n := by have := (List.getElem?_eq_some_iff.1 HJ.out).1; have := HN.out; omega
   obtain ⟨u, hu⟩ : ∃ u, ss[i]? = some u := ⟨_, List.getElem?_eq_getElem (by have := HN.out; omega)⟩
   obtain ⟨g2, rfl, _, hgl, hc⟩ := HR.out i u hu
   have HU := Lib.hid hu
   clear hu
   have hil : (i : Int) < n := by omega
   have HI := Lib.hid hi
   by_cases h64 : s.length ≤ u.length
   · have t1 : decide (((B s).size : Int) ≤ ((B u).size : Int)) = true := by rw [size_B, size_B]; simp; omega
     have e3 : (B u).extract 0 (B s).size = B (u.take s.length) := by rw [ex_front, L_B, size_B]
     have h65 : (B s).size ≤ (B u).size := by rw [size_B, size_B]; exact h64
     by_cases h66 : u.take s.length = s
     · rw [h66] at e3
       go_wp2_with fail
       go_ret
       exact ⟨rfl, Below.refl _ _⟩
     · have NE : ((B (u.take s.length)).toList == (B s).toList) = false := by
         rw [toList_L, toList_L, L_B, L_B]
         simpa using h66
       have NI : i ≠ j := fun e => by
         have h1 := HU.out
         rw [e, HJ.out] at h1
         cases h1
         have h2 := HH.out
         unfold hitT at h2
         simp only [Bool.and_eq_true, beq_iff_eq] at h2
         exact h66 h2.2
       clear h66
       have NH := Lib.hid NI
       clear NI
       go_wp2_with fail
       exact ⟨⟨i + 1, rfl, by have := NH.out; have := HI.out; omega, trivial⟩, by simp only [intOf]; omega⟩
   · have t1 : decide (((B u).size : Int) ≥ ((B s).size : Int)) = false := by rw [size_B, size_B]; simp; omega
     have NI : i ≠ j := fun e => by
       have h1 := HU.out
       rw [e, HJ.out] at h1
       cases h1
       have h2 := HH.out
       unfold hitT at h2
       simp only [Bool.and_eq_true, decide_eq_true_eq] at h2
       exact h64 h2.1
     have NH := Lib.hid NI
     clear NI
     go_wp2_with fail
     exact ⟨⟨i + 1, rfl, by have := NH.out; have := HI.out; omega, trivial⟩, by simp only [intOf]; omega⟩
set_option maxHeartbeats 400000 in
theorem paged_ok {SA : T} (wz : World) (hA : TreeAt wz EA room qA SA) (hI : Inv room SA) (hB : TreeAt wz EB room 0 rootT) (h2 : 2 ≤ room) (xs : List Rc) (hp : Plays room xs rootT) (hm : ∀ r ∈ xs, May r) (hlen : xs.length ≤ 100) (p : Option Addr) (g o cap : Nat) (hg : g < wz.heap.size) (hR : LV wz p g o xs)
   (hY : ∀ x ∈ inos SA, ∀ k : Nat, k * 64 < (SA.n x).data.length → readE SA x k = 0 ∧ ∃ i u, i ≤ xs.length ∧ seen (run (xs.take i) rootT) x k = some u ∧ hitT (readS SA x k) u = true) :
   Calls Tryz.prog 11 #[.pointer (some ⟨EA.t, 0, none⟩), .pointer (some ⟨EB.t, 0, none⟩), .slice p xs.length cap] wz fun e w' => e = .returned (.bool true) ∧ Below wz.heap.size wz w' := by
 have AA := Lib.hid (all_any wz hA hI)
 have HA := Lib.hid hA
 have SS := Lib.hid (fun (W : World) (h : Below wz.heap.size wz W) (x k : Nat) (hx : x < 4294967296) (hk : k < 36) => states_ok W (hB.later h) h2 xs hp hm hlen p g o cap (by have := h.size; omega) (LV.later hR h) x k hx hk)
 have L1 := Lib.hid (inos_len SA)
 have HS := Lib.hid (fun x (h : x ∈ inos SA) (W : World) (h1 : TreeAt W EA room qA SA) => stat_any W h1 x (by have := inos_lt h; omega))
 have HE := Lib.hid (fun x (h : x ∈ inos SA) => show statV SA x = .agg #[.int .u32 x, .int .u8 (SA.n x).kind, .int .i64 (SA.n x).links, .int .u32 (SA.n x).data.length] ∧ errB ((SA.n x).kind == 0) 3 = 0 from ⟨by unfold statV; rw [if_neg (inos_kind h)], by simp [errB, inos_kind h]⟩)
 have HR := Lib.hid (fun (W : World) (h : TreeAt W EA room qA SA) (x : Nat) (hx : x ∈ inos SA) (k : Int) => read_any W h x k (by have := inos_lt hx; omega))
 have HD := Lib.hid (fun x => hA.dt x)
 have HX := Lib.hid (fun x (h : x ∈ inos SA) => inos_lt h)
 have HY := Lib.hid hY
 generalize inos SA = ys at *
 clear hA hI hB hp hm hR hY
 go_enter Tryz.func11, Tryz.ntmps11
 go_wp2_with fail
 refine Calls.mono AA.out ?_
 rintro e w1 ⟨v, rfl, hr, hb⟩
 obtain ⟨p1, c1, rfl, hU1⟩ := RowU.of hr
 have U1 := Lib.hid hU1
 have B1 := Lib.hid hb
 have hl := L1.out
 clear hr hU1 hb AA
 go_wp2_with fail
 go_loopw [8] (fun s8 wr => ∃ i : Nat, s8 = .int .i64 i ∧ i ≤ ys.length ∧ Below wz.heap.size wz wr ∧ RowU wr wz.heap.size p1 ys) (fun s8 _ => ys.length - (intOf s8).toNat)
 case atStart => exact ⟨0, rfl, Nat.zero_le _, B1.out, U1.out⟩
 case round =>
   obtain ⟨i, rfl, hi, hB5, hU5⟩ := hrel
   have B5 := Lib.hid hB5
   have U5 := Lib.hid hU5
   clear hB5 hU5
   rcases Nat.lt_or_ge i ys.length with hlt | hge
   · obtain ⟨y, hy⟩ : ∃ y, ys[i]? = some y := ⟨_, List.getElem?_eq_getElem hlt⟩
     obtain ⟨g2, rfl, hgb, hgl, hc⟩ := U5.out i y hy
     have HM := Lib.hid (List.mem_of_getElem? hy)
     have GB := Lib.hid hgb
     have GY := Lib.hid hy
     clear hy hgb
     obtain ⟨e1, e2⟩ := HE.out y HM.out
     have S1 := Lib.hid (HS.out y HM.out _ (HA.out.later B5.out))
     rw [e1, e2] at S1
     have HD2 := Lib.hid (HD.out y)
     clear e1 e2
     have HY2 := Lib.hid (HY.out y HM.out)
     obtain ⟨m, hm⟩ : ∃ m, (SA.n y).data.length = m := ⟨_, rfl⟩
     rw [hm] at S1 HD2 HY2
     clear hm
     go_wp2_with fail
     refine Calls.mono S1.out ?_
     rintro e w6 ⟨rfl, hb⟩
     have B6 := Lib.hid (B5.out.trans (hb.mono B5.out.size))
     have U6 := Lib.hid (U5.out.later hb)
     clear hb hc hgl S1
     go_wp2_with fail
     have hal := (Below.refl _ w6).alloc (Nat.le_refl _) (.cells #[.int .u32 y, .int .u8 (SA.n y).kind, .int .i64 (SA.n y).links, .int .u32 m] 69)
     have X7 := Lib.hid (SBox.new w6 69 #[.int .u32 y, .int .u8 (SA.n y).kind, .int .i64 (SA.n y).links, .int .u32 m])
     have B7 := Lib.hid (B6.out.trans (hal.mono B6.out.size))
     have U7 := Lib.hid (U6.out.later hal)
     clear hal
     obtain ⟨sB, hsB⟩ : ∃ sB, w6.heap.size = sB := ⟨_, rfl⟩
     rw [hsB] at X7 ⊢
     clear hsB
     go_loopw [11] (fun s11 wr => ∃ k : Nat, s11 = .int .i64 k ∧ k ≤ 36 ∧ Below wz.heap.size wz wr ∧ RowU wr wz.heap.size (some ⟨g2, 0, none⟩) ys ∧ SBox wr sB 69 #[.int .u32 y, .int .u8 (SA.n y).kind, .int .i64 (SA.n y).links, .int .u32 m]) (fun s11 _ => 37 - (intOf s11).toNat)
     case atStart => exact ⟨0, rfl, Nat.zero_le _, B7.out, U7.out, X7.out⟩
     case round =>
       obtain ⟨k, rfl, hk, hB8, hU8, hX8⟩ := hrel
       have B8 := Lib.hid hB8
       have U8 := Lib.hid hU8
       have X8 := Lib.hid hX8
       obtain ⟨g3, eg, _, hgl, hc⟩ := hU8 i y GY.out
       cases eg
       have K0 := hX8.cell 0
       have K1 := hX8.cell 1
       have K2 := hX8.cell 2
       have K3 := hX8.cell 3
       simp only [List.getElem?_toArray, List.getElem?_cons_zero, List.getElem?_cons_succ] at K0 K1 K2 K3
       have Kl := hX8.lt
       clear hB8 hU8 hX8
       rcases Nat.lt_or_ge (k * 64) m with hlt2 | hge2
       · have km : (k : Int) * 64 < m := by omega
         have k36 : k < 36 := by have := HD2.out; omega
         have R9 := Lib.hid (HR.out _ (HA.out.later B8.out) y HM.out k)
         have Y9 := Lib.hid (HY2.out k hlt2)
         rw [Y9.out.1] at R9
         obtain ⟨t, ht⟩ : ∃ t, readS SA y k = t := ⟨_, rfl⟩
         rw [ht] at R9 Y9
         clear ht
         go_wp2_with fail
         refine Calls.mono R9.out ?_
         rintro e w9 ⟨rfl, hb⟩
         have B9 := Lib.hid (B8.out.trans (hb.mono B8.out.size))
         have U9 := Lib.hid (U8.out.later hb)
         have X9 := Lib.hid (X8.out.later hb)
         obtain ⟨g4, eg, _, hgl, hc⟩ := U9.out i y GY.out
         cases eg
         have S9 := Lib.hid (SS.out w9 B9.out y k (by have := HX.out y HM.out; omega) k36)
         clear hb K0 K1 K2 K3 Kl
         go_wp2_with fail
         refine Calls.mono S9.out ?_
         rintro e w10 ⟨v, ss, rfl, hv, hss, hb⟩
         obtain ⟨p2, c2, rfl, hT2⟩ := RowT.of hv
         obtain ⟨_, i3, u3, hi3, hs3, ht3⟩ := Y9.out
         obtain ⟨j3, hj3⟩ := List.mem_iff_getElem?.1 (hss i3 hi3 u3 hs3)
         have H10 := Lib.hid (hasp_yes w10 ss t p2 c2 _ j3 u3 hT2 hj3 ht3 (by
           rcases hv.2 with ⟨_, h0⟩ | ⟨g, cap, cur, _, _, _, h1, h2, _⟩
           · omega
           · unfold maxLen at h2; omega))
         have B10 := Lib.hid (B9.out.trans (hb.mono B9.out.size))
         have U10 := Lib.hid (U9.out.later hb)
         have X10 := Lib.hid (X9.out.later hb)
         clear hb hv hss hs3 hj3 hT2 ht3 hc
         go_wp2_with fail
         refine Calls.mono H10.out ?_
         rintro e w11 ⟨rfl, hb⟩
         have B11 := Lib.hid (B10.out.trans (hb.mono B10.out.size))
         have U11 := Lib.hid (U10.out.later hb)
         have X11 := Lib.hid (X10.out.later hb)
         clear hb
         go_wp2_with fail
         go_roundw
         case rel => exact ⟨k + 1, by go_num, by omega, B11.out, U11.out, X11.out⟩
         case measure => first | (simp [intOf]; done) | (simp [intOf]; omega)
       · have km : ¬ ((k : Int) * 64 < m) := by omega
         go_wp2_with fail
         exact ⟨⟨i + 1, by go_num, by omega, B8.out, U8.out⟩, by simp [intOf]; omega⟩
   · have e : i = ys.length := by omega
     subst e
     go_wp2_with fail
     go_ret
     exact ⟨rfl, B5.out⟩
end Go.Proofs.YtmfhnhnmdeabeaaGreat.Re
end
