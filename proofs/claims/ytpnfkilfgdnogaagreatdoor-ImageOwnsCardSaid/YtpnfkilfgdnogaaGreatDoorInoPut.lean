/- Layer 7 (inode): Put: an inode's bytes. -/
import Derived.Test.YtpnfkilfgdnogaaGreatDoorInoCheck
namespace Go.Proofs.YtpnfkilfgdnogaaGreatDoor.Ino
set_option linter.unusedVariables false
set_option linter.unusedSimpArgs false
open Go.RowKit Go.Shelf Go.Maps Oct Geo
theorem check_any (x : InoT) (w : World) (hx : x.Ok) : Calls Tryz.prog 107 #[x.val] w fun e w' => e = .returned (.int .i64 0) ∧ Below w.heap.size w w' := by
  rcases hx with rfl | h
  · exact check_none w
  · exact check_used x w h
theorem old_of_box {W : World} {g : Nat} {t : TypeId} {cs : List Value} (h : SBox W g t cs.toArray) : ∀ b, some (⟨g, 0, none⟩ : Addr) = some b → ∀ j u, cs[j]? = some u → W.cell? (b.add j) = some u := fun b e j u hu => by
  cases e
  exact World.news_of_block h j u hu
theorem SBox.at_ {W : World} {N : Nat} {t : TypeId} {cs : Array Value} (h : W.heap.size = N) : SBox (W.alloc (.cells cs t)) N t cs := by
  rw [← h]
  exact SBox.new W t cs
theorem cells_of {W : World} {base n g cap : Nat} {t : TypeId} {xs : List Value} {l : List Nat} (h : W.ownsRow base t 1 (.slice (some ⟨g, 0, none⟩) n cap) n xs) (e : xs = l.map u16V) : ∀ i (hi : i < l.length), W.cell? ⟨g, 0 + i, none⟩ = some (.int .u16 l[i]) := fun i hi => by
  subst e
  obtain ⟨cur, h1, h2, _⟩ := own_box h
  rw [Nat.zero_add, h1.cell i]
  refine h2 i _ ?_
  rw [List.getElem?_map, List.getElem?_eq_getElem hi]
  rfl
theorem one_u16 {l : List Nat} : ∀ u ∈ l.map u16V, u.oneCell' = true := fun u hu => by
  obtain ⟨n, _, rfl⟩ := List.mem_map.1 hu
  rfl
def KeepP (V : World) (b : Nat) (cs : Array Value) (W : World) : Prop := Below V.heap.size V W ∧ SBox W b 43 cs
theorem KeepP.to {V W W' : World} {b : Nat} {cs : Array Value} {v0 v1 v2 v7 : Value} (h : W.cell? ⟨b, 0, none⟩ = some v0 ∧ W.cell? ⟨b, 1, none⟩ = some v1 ∧ W.cell? ⟨b, 2, none⟩ = some v2 ∧ W.cell? ⟨b, 7, none⟩ = some v7 ∧ KeepP V b cs W) (hb : Below W.heap.size W W') :
    W'.cell? ⟨b, 0, none⟩ = some v0 ∧ W'.cell? ⟨b, 1, none⟩ = some v1 ∧ W'.cell? ⟨b, 2, none⟩ = some v2 ∧ W'.cell? ⟨b, 7, none⟩ = some v7 ∧ KeepP V b cs W' :=
  ⟨(hb.cell (p := ⟨b, 0, none⟩) h.2.2.2.2.2.lt).trans h.1, (hb.cell (p := ⟨b, 1, none⟩) h.2.2.2.2.2.lt).trans h.2.1, (hb.cell (p := ⟨b, 2, none⟩) h.2.2.2.2.2.lt).trans h.2.2.1, (hb.cell (p := ⟨b, 7, none⟩) h.2.2.2.2.2.lt).trans h.2.2.2.1, h.2.2.2.2.1.trans (hb.mono h.2.2.2.2.1.size), h.2.2.2.2.2.later hb⟩
theorem KeepP.grown {V W W' : World} {b : Nat} {cs : Array Value} {v0 v1 v2 v7 : Value} (hg : W.grownBy W' none) (h : W.cell? ⟨b, 0, none⟩ = some v0 ∧ W.cell? ⟨b, 1, none⟩ = some v1 ∧ W.cell? ⟨b, 2, none⟩ = some v2 ∧ W.cell? ⟨b, 7, none⟩ = some v7 ∧ KeepP V b cs W) :
    W'.cell? ⟨b, 0, none⟩ = some v0 ∧ W'.cell? ⟨b, 1, none⟩ = some v1 ∧ W'.cell? ⟨b, 2, none⟩ = some v2 ∧ W'.cell? ⟨b, 7, none⟩ = some v7 ∧ KeepP V b cs W' := KeepP.to h (grown_below hg)
theorem KeepP.later {V W W' : World} {b : Nat} {cs : Array Value} {v0 v1 v2 v7 : Value} (hb : Below W.heap.size W W') (h : W.cell? ⟨b, 0, none⟩ = some v0 ∧ W.cell? ⟨b, 1, none⟩ = some v1 ∧ W.cell? ⟨b, 2, none⟩ = some v2 ∧ W.cell? ⟨b, 7, none⟩ = some v7 ∧ KeepP V b cs W) :
    W'.cell? ⟨b, 0, none⟩ = some v0 ∧ W'.cell? ⟨b, 1, none⟩ = some v1 ∧ W'.cell? ⟨b, 2, none⟩ = some v2 ∧ W'.cell? ⟨b, 7, none⟩ = some v7 ∧ KeepP V b cs W' := KeepP.to h hb
theorem dirs_cells {V W : World} {b : Nat} {k0 k1 k2 d0 d1 d2 d3 i : Value} {A0 A1 A2 A3 : Prop} (h : A0 ∧ A1 ∧ A2 ∧ A3 ∧ KeepP V b #[k0, k1, k2, d0, d1, d2, d3, i] W) : ∀ p, some (⟨b, 3, none⟩ : Addr) = some p → ∀ j u, [d0, d1, d2, d3][j]? = some u → W.cell? (p.add j) = some u := fun p e j u hu => by
  cases e
  have hc := h.2.2.2.2.2
  match j, hu with
  | 0, hu => exact (hc.cell 3).trans hu
  | 1, hu => exact (hc.cell 4).trans hu
  | 2, hu => exact (hc.cell 5).trans hu
  | 3, hu => exact (hc.cell 6).trans hu
set_option maxRecDepth 100000 in
set_option maxHeartbeats 4000000 in
theorem put_ino (x : InoT) (w : World) (hx : x.Ok) : Calls Tryz.prog 63 #[x.val] w fun e w' => e = .returned (.tuple #[.string (inoB x), .int .i64 0]) ∧ Below w.heap.size w w' := by
  obtain ⟨i0, hi, hz0, hz1, hz2⟩ := info_parts info_u16
  have CK := Lib.hid (fun W => check_any x W hx)
  have PD := Lib.hid (fun W => pad_any (B (putL2 x.nums)) 32 W (by rw [size_B, putL2_len]; simp [InoT.nums]) (by omega))
  have PT := Lib.hid (fun b o cap W hb hc => put_any x.nums b o cap W (by simp [InoT.nums]) (Ok.nums_lt hx) hb hc)
  have hsz := Ok.size_lt hx
  have hnl := Ok.nums_lt hx
  have HE := Lib.hid (show B (L (B (putL2 x.nums)) ++ nil0 (32 - (B (putL2 x.nums)).size)) = inoB x by
    unfold inoB
    rw [L_B, size_B, putL2_len]
    rfl)
  clear hx
  obtain ⟨kind, links, size, d0, d1, d2, d3, ind⟩ := x
  simp only at hsz
  have k1 : kind < 65536 := hnl kind (by simp [InoT.nums])
  have k2 : links < 65536 := hnl links (by simp [InoT.nums])
  clear hnl
  have HN := Lib.hid (show [Value.int .u16 kind, .int .u16 links, .int .u16 size, .int .u16 0] ++ [Value.int .u16 d0, .int .u16 d1, .int .u16 d2, .int .u16 d3, .int .u16 ind] = (InoT.nums ⟨kind, links, size, d0, d1, d2, d3, ind⟩).map u16V by
    have e1 : size % 65536 = size := by omega
    have e2 : size / 65536 = 0 := by omega
    simp only [InoT.nums, e1, e2]
    rfl)
  unfold InoT.val at *
  have hX := SBox.new w 43 (InoT.cells ⟨kind, links, size, d0, d1, d2, d3, ind⟩)
  have HB := Lib.hid ((Below.refl _ w).alloc (Nat.le_refl _) (.cells (InoT.cells ⟨kind, links, size, d0, d1, d2, d3, ind⟩) 43))
  unfold InoT.cells at hX HB
  simp only at hX HB CK
  have HX := Lib.hid hX
  have X0 := hX.cell 0
  have X1 := hX.cell 1
  have X2 := hX.cell 2
  have X3 := hX.cell 3
  have X4 := hX.cell 4
  have X5 := hX.cell 5
  have X6 := hX.cell 6
  have X7 := hX.cell 7
  simp only [List.getElem?_toArray, List.getElem?_cons_zero, List.getElem?_cons_succ] at X0 X1 X2 X3 X4 X5 X6 X7
  have Xl := hX.lt
  clear hX
  go_enter Tryz.func63, Tryz.ntmps63
  go_wp2_with fail
  refine (CK.out _).mono ?_
  rintro e w1 ⟨rfl, b1⟩
  have hX := HX.out.later b1
  have HB1 := Lib.hid (HB.out.trans (b1.mono HB.out.size))
  have HX1 := Lib.hid hX
  clear X0 X1 X2 X3 X4 X5 X6 X7 Xl b1
  have Y0 := hX.cell 0
  have Y1 := hX.cell 1
  have Y2 := hX.cell 2
  have Y3 := hX.cell 3
  have Y4 := hX.cell 4
  have Y5 := hX.cell 5
  have Y6 := hX.cell 6
  have Y7 := hX.cell 7
  simp only [List.getElem?_toArray, List.getElem?_cons_zero, List.getElem?_cons_succ] at Y0 Y1 Y2 Y3 Y4 Y5 Y6 Y7
  have Yl := hX.lt
  clear hX
  have u0 : IntKind.u16.wrap (kind : Int) = kind := wrap_u16 kind k1
  have u1 : IntKind.u16.wrap (size : Int) = size := wrap_u16 size (by omega)
  have u2 : (size : Int) / 65536 = 0 := by omega
  have u3 : IntKind.u16.wrap 0 = 0 := by decide
  go_wp2_with fail
  go_region_held3 (fun W => W.cell? ⟨w.heap.size, 0, none⟩ = some (.int .u8 kind) ∧ W.cell? ⟨w.heap.size, 1, none⟩ = some (.int .u16 links) ∧ W.cell? ⟨w.heap.size, 2, none⟩ = some (.int .u32 size) ∧ W.cell? ⟨w.heap.size, 7, none⟩ = some (.int .u16 ind) ∧ KeepP w1 w.heap.size #[.int .u8 kind, .int .u16 links, .int .u32 size, .int .u16 d0, .int .u16 d1, .int .u16 d2, .int .u16 d3, .int .u16 ind] W)
    (first | exact KeepP.later (by assumption) (by assumption) | exact KeepP.grown (by assumption) (by assumption) | exact KeepP.to (by assumption) ((Below.refl _ _).alloc (Nat.le_refl _) _) | exact ⟨Y0, Y1, Y2, Y7, Below.refl _ _, HX1.out⟩ | exact ⟨Y0, Y1, Y2, Y7, (Below.refl _ _).drew, HX1.out.drew⟩)
    (first
      | (refine step_append_grows (by rfl) (.tmp 25) (.tmp 28) 87 (by rfl) 39 i0 (.int .u16 0) 1 2 Tryz.underlying87 hi hz0 hz1 hz2 rfl (by decide) (some ⟨w.heap.size, 3, none⟩) 4 4 [.int .u16 d0, .int .u16 d1, .int .u16 d2, .int .u16 d3] (by rfl) (by simp) rfl (dirs_cells (by assumption)) _ 1 1 [.int .u16 ind] (by rfl) rfl (by first | exact World.news_of_block (SBox.at_ (by simp)) | exact World.news_of_block (SBox.alloc (SBox.at_ (by simp)) _)) (fun u hu => by simp at hu; subst hu; rfl) (by decide) (by unfold maxLen; omega) (by omega) ?_; intro v2 w2 hown2 hg2; obtain ⟨g2, cap2, rfl, hlt2⟩ := own_form hown2 (by decide))
      | (refine step_append_grows (by rfl) (.tmp 23) (.tmp 29) 87 (by rfl) 39 i0 (.int .u16 0) 1 2 Tryz.underlying87 hi hz0 hz1 hz2 rfl (by decide) (some ⟨_, 0, none⟩) 4 4 [.int .u16 kind, .int .u16 links, .int .u16 size, .int .u16 0] (by rfl) (by simp) rfl (by first | exact old_of_box (SBox.at_ (by simp)) | exact old_of_box (SBox.drew (SBox.at_ (by simp))) | exact old_of_box (SBox.kept (SBox.drew (SBox.at_ (by simp))) hg2 (by simp)) | exact old_of_box (SBox.kept (SBox.drew (SBox.alloc (SBox.at_ (by simp)) _)) hg2 (by simp)) | exact old_of_box (SBox.kept (SBox.at_ (by simp)) hg2 (by simp)) | exact old_of_box (SBox.kept (SBox.alloc (SBox.at_ (by simp)) _) hg2 (by simp))) _ 5 cap2 [.int .u16 d0, .int .u16 d1, .int .u16 d2, .int .u16 d3, .int .u16 ind] (by rfl) rfl (by first | exact hown2.cells (g := g2) rfl | exact (hown2.alloc _).cells (g := g2) rfl) (fun u hu => by simp at hu; rcases hu with rfl | rfl | rfl | rfl | rfl <;> rfl) (by decide) (by unfold maxLen; omega) (by omega) ?_; intro v3 w3 hown3 hg3; obtain ⟨g3, cap3, rfl, hlt3⟩ := own_form hown3 (by decide))
      | (go_at_call 108; refine (PT.out g3 0 cap3 _ hlt3 (cells_of hown3 HN.out)).mono ?_; rintro e w4 ⟨rfl, b4⟩))
  all_goals
    rename_i hS
    have HB5 := Lib.hid (HB1.out.trans (hS.2.2.2.2.1.mono HB1.out.size))
    clear hS
    go_wp2_with fail
    refine (PD.out _).mono ?_
    rintro e w5 ⟨rfl, b5⟩
    have HB6 := Lib.hid (HB5.out.trans (b5.mono HB5.out.size))
    clear b5
    go_wp2
    go_ret2
    exact ⟨by rw [HE.out]; rfl, HB6.out⟩
end Go.Proofs.YtpnfkilfgdnogaaGreatDoor.Ino
