/- Layer 37, the document's answer: ReadLine. -/
import Derived.Test.YtkljcgopikdjjaaGreatDoorM36
import Derived.Test.YtkljcgopikdjjaaGreatDoorM34
import Derived.Test.YtkljcgopikdjjaaGreatDoorM35
import Derived.Test.YtkljcgopikdjjaaGreatDoorM07
import Derived.BigRegion
import Derived.Deep.RegionHeld3
import Derived.Deep.Cut
set_option linter.unusedVariables false
set_option linter.unusedSimpArgs false
set_option maxRecDepth 100000
section
namespace Go.Proofs.YtkljcgopikdjjaaGreatDoor.Tx
set_option maxRecDepth 100000
set_option maxHeartbeats 1000000
open Go.RowKit Go.Shelf Go.Maps Oct
theorem val_len (key : List UInt8) : ∀ l : List UInt8, (valL key l).length ≤ l.length := by
 intro l
 induction l with
 | nil => simp [valL]
 | cons c r ih =>
   simp only [valL]
   split
   · have := (List.takeWhile_prefix ne32 (l := (c :: r).drop key.length)).length_le
     rw [List.length_drop] at this;omega
   · simp; omega
theorem untext_len : ∀ (n : Nat) (l : List UInt8), l.length ≤ n → (untextL l).length ≤ l.length := by
 intro n
 induction n with
 | zero =>
   intro l h;cases l with
   | nil => simp [untextL]
   | cons c r => simp at h
 | succ n ih =>
   intro l h;cases l with
   | nil => simp [untextL]
   | cons c r =>
     by_cases hc : c = 37
     · subst hc
       match r with
       | [] => simp [untextL]
       | [a] => rw [untext_end2]; have := ih [a] (by simp at h ⊢; omega); simp at this ⊢; omega
       | a :: b :: r' =>
         rw [untext_37];have := ih r' (by simp at h; omega)
         simp
         omega
     · rw [untext_st hc]
       have := ih r (by simp at h; omega)
       simp
       omega
def fv (s : ByteArray) (k : Nat) : List UInt8 := valL (keyL (nm k)) (L s)
theorem fv_len (s : ByteArray) (k : Nat) : (fv s k).length ≤ s.size := by
 have := val_len (keyL (nm k)) (L s);rw [len_L] at this;exact this
theorem rdv (s : ByteArray) (k : Nat) (hs : s.size ≤ 100000) (hk : (nm k).length ≤ 10) (w : World) : Calls Tryz.prog 55 #[.string s, .string (B (nm k))] w fun e w' => e = .returned (.string (B (fv s k))) ∧ Below w.heap.size w w' :=
 (value_any s (nm k) hs hk w).mono fun e w' h => ⟨h.1, by rw [← h.2]; exact Below.refl _ _⟩
theorem rdu (s : ByteArray) (k : Nat) (hs : s.size ≤ 100000) (w : World) : Calls Tryz.prog 56 #[.string (B (fv s k))] w fun e w' => e = .returned (.string (B (untextL (fv s k)))) ∧ Below w.heap.size w w' := by
 have h := untext_any (B (fv s k)) w (by rw [size_B]; have := fv_len s k; omega);rw [L_B] at h;exact h
theorem rdn (s : ByteArray) (k : Nat) (hs : s.size ≤ 100000) (w : World) (hl : Lay w) : Calls Tryz.prog 57 #[.string (B (fv s k))] w fun e w' => e = .returned (.int .i64 (unnumL (fv s k))) ∧ Below w.heap.size w w' :=
 unnum_any (fv s k) (by have := fv_len s k; omega) w hl
structure GrR (i : Nat) (w w' : World) : Prop where
 bel : i ≠ 16 → Below w.heap.size w w'
 box : ∀ p, (∃ y, MBox w p y) → ∃ y, MBox w' p y
theorem GrR.of {i : Nat} {w w' : World} (h : Below w.heap.size w w') : GrR i w w' := ⟨fun _ => h, fun p ⟨y, hy⟩ => ⟨y, SBox.later hy h⟩⟩
theorem GrR.store {w : World} {p : Nat} {y : M} (h : MBox w p y) (x : M) : GrR 16 w (w.setRow p x.cells) := ⟨fun e => absurd rfl e, fun q ⟨z, hz⟩ => by
 by_cases hq : q = p
 · subst hq; exact ⟨x, SBox.setRow h _⟩
 · exact ⟨z, box_oth hz hq (tchRow w p _)⟩⟩
theorem info_Cmd : (Tryz.prog.info? 40).map (·.size) = some 12 := by kernel_rfl
theorem vals_cells (s : ByteArray) : (valsL (L s)).cells = #[.int .u8 0, .int .i64 (unnumL (fv s 0)), .int .i64 (unnumL (fv s 1)), .int .u32 (unnumL (fv s 2) % 4294967296), .int .u8 (callOf (fv s 3)), .string (B (untextL (fv s 4))), .string (B (untextL (fv s 5))), .int .i64 (unnumL (fv s 6)), .int .i64 (unnumL (fv s 7)), .int .u32 (unnumL (fv s 8) % 4294967296), .string (B (untextL (fv s 9))), .string (B (untextL (fv s 10)))] := by
 have e2 : ((unnumL (fv s 2) % 4294967296).toNat : Int) = unnumL (fv s 2) % 4294967296 := by omega
 have e8 : ((unnumL (fv s 8) % 4294967296).toNat : Int) = unnumL (fv s 8) % 4294967296 := by omega
 rw [← e2, ← e8]
 rfl
set_option maxHeartbeats 4000000 in
theorem rreadline_any (s : ByteArray) (hs : s.size ≤ 20000) (w : World) (hl : Lay w) :
   Calls Tryz.prog 23 #[.string s] w fun e w' => e = rdAns (stepL mayM (L s)) ∧ Below w.heap.size w w' := by
 have V := Lib.hid (fun k (hk : (nm k).length ≤ 10) W => rdv s k (by omega) hk W);have V0 := Lib.hid (V.out 0 (by decide)); have V1 := Lib.hid (V.out 1 (by decide)); have V2 := Lib.hid (V.out 2 (by decide)); have V3 := Lib.hid (V.out 3 (by decide)); have V4 := Lib.hid (V.out 4 (by decide)); have V5 := Lib.hid (V.out 5 (by decide)); have V6 := Lib.hid (V.out 6 (by decide)); have V7 := Lib.hid (V.out 7 (by decide)); have V8 := Lib.hid (V.out 8 (by decide)); have V9 := Lib.hid (V.out 9 (by decide)); have V10 := Lib.hid (V.out 10 (by decide));have U4 := Lib.hid (rdu s 4 (by omega)); have U5 := Lib.hid (rdu s 5 (by omega)); have U9 := Lib.hid (rdu s 9 (by omega)); have U10 := Lib.hid (rdu s 10 (by omega));have N0 := Lib.hid (rdn s 0 (by omega)); have N1 := Lib.hid (rdn s 1 (by omega)); have N2 := Lib.hid (rdn s 2 (by omega)); have N6 := Lib.hid (rdn s 6 (by omega)); have N7 := Lib.hid (rdn s 7 (by omega)); have N8 := Lib.hid (rdn s 8 (by omega));have D3 := Lib.hid (fun W => rcall_any (fv s 3) W);clear V;change Hid (∀ W, Calls _ _ #[.string s, .string ⟨#[99, 111, 114, 101]⟩] W _) at V0;change Hid (∀ W, Calls _ _ #[.string s, .string ⟨#[110]⟩] W _) at V1;change Hid (∀ W, Calls _ _ #[.string s, .string ⟨#[105, 110, 111]⟩] W _) at V2;change Hid (∀ W, Calls _ _ #[.string s, .string ⟨#[100, 111]⟩] W _) at V3;change Hid (∀ W, Calls _ _ #[.string s, .string ⟨#[112, 97, 116, 104]⟩] W _) at V4;change Hid (∀ W, Calls _ _ #[.string s, .string ⟨#[116, 111]⟩] W _) at V5;change Hid (∀ W, Calls _ _ #[.string s, .string ⟨#[102, 100]⟩] W _) at V6;change Hid (∀ W, Calls _ _ #[.string s, .string ⟨#[112, 97, 103, 101]⟩] W _) at V7;change Hid (∀ W, Calls _ _ #[.string s, .string ⟨#[115, 105, 122, 101]⟩] W _) at V8;change Hid (∀ W, Calls _ _ #[.string s, .string ⟨#[100, 97, 116, 97]⟩] W _) at V9;change Hid (∀ W, Calls _ _ #[.string s, .string ⟨#[116, 101, 120, 116]⟩] W _) at V10;have hx := SBox.new w 40 zeroC;have B0 := (Below.refl w.heap.size w).alloc (Nat.le_refl _) (.cells zeroC 40);have BB := Lib.hid B0;have ZB := Lib.hid hx;have HL := Lib.hid hl;clear hx B0 hl;unfold zeroC M.zero M.cells at BB ZB;have hST := Lib.hid (refL_step (L s));have hVI := Lib.hid (fun k => vals_in (L s) k)
 go_enter Tryz.func23, Tryz.ntmps23
 go_wp2_with fail;refine (V3.out _).mono ?_;rintro e w1 ⟨rfl, b1⟩
 replace BB := Lib.hid (BB.out.trans (b1.mono BB.out.size))
 replace ZB := Lib.hid (ZB.out.later b1)
 clear b1;go_wp2_with fail;refine (D3.out _).mono ?_;rintro e w1 ⟨rfl, b1⟩
 replace BB := Lib.hid (BB.out.trans (b1.mono BB.out.size))
 replace ZB := Lib.hid (ZB.out.later b1)
 clear b1;go_wp2_with fail;refine (V4.out _).mono ?_;rintro e w1 ⟨rfl, b1⟩
 replace BB := Lib.hid (BB.out.trans (b1.mono BB.out.size))
 replace ZB := Lib.hid (ZB.out.later b1)
 clear b1;go_wp2_with fail;refine (U4.out _).mono ?_;rintro e w1 ⟨rfl, b1⟩
 replace BB := Lib.hid (BB.out.trans (b1.mono BB.out.size))
 replace ZB := Lib.hid (ZB.out.later b1)
 clear b1;go_wp2_with fail;refine (V5.out _).mono ?_;rintro e w1 ⟨rfl, b1⟩
 replace BB := Lib.hid (BB.out.trans (b1.mono BB.out.size))
 replace ZB := Lib.hid (ZB.out.later b1)
 clear b1;go_wp2_with fail;refine (U5.out _).mono ?_;rintro e w1 ⟨rfl, b1⟩
 replace BB := Lib.hid (BB.out.trans (b1.mono BB.out.size))
 replace ZB := Lib.hid (ZB.out.later b1)
 clear b1;go_wp2_with fail;refine (V6.out _).mono ?_;rintro e w1 ⟨rfl, b1⟩
 replace BB := Lib.hid (BB.out.trans (b1.mono BB.out.size))
 replace ZB := Lib.hid (ZB.out.later b1)
 clear b1;go_wp2_with fail;refine (N6.out _ (HL.out.later BB.out)).mono ?_;rintro e w1 ⟨rfl, b1⟩
 replace BB := Lib.hid (BB.out.trans (b1.mono BB.out.size))
 replace ZB := Lib.hid (ZB.out.later b1)
 clear b1;go_wp2_with fail;refine (V7.out _).mono ?_;rintro e w1 ⟨rfl, b1⟩
 replace BB := Lib.hid (BB.out.trans (b1.mono BB.out.size))
 replace ZB := Lib.hid (ZB.out.later b1)
 clear b1;go_wp2_with fail;refine (N7.out _ (HL.out.later BB.out)).mono ?_;rintro e w1 ⟨rfl, b1⟩
 replace BB := Lib.hid (BB.out.trans (b1.mono BB.out.size))
 replace ZB := Lib.hid (ZB.out.later b1)
 clear b1;go_wp2_with fail;refine (V8.out _).mono ?_;rintro e w1 ⟨rfl, b1⟩
 replace BB := Lib.hid (BB.out.trans (b1.mono BB.out.size))
 replace ZB := Lib.hid (ZB.out.later b1)
 clear b1;go_wp2_with fail;refine (N8.out _ (HL.out.later BB.out)).mono ?_;rintro e w1 ⟨rfl, b1⟩
 replace BB := Lib.hid (BB.out.trans (b1.mono BB.out.size))
 replace ZB := Lib.hid (ZB.out.later b1)
 clear b1;go_wp2_with fail;refine (V9.out _).mono ?_;rintro e w1 ⟨rfl, b1⟩
 replace BB := Lib.hid (BB.out.trans (b1.mono BB.out.size))
 replace ZB := Lib.hid (ZB.out.later b1)
 clear b1;go_wp2_with fail;refine (U9.out _).mono ?_;rintro e w1 ⟨rfl, b1⟩
 replace BB := Lib.hid (BB.out.trans (b1.mono BB.out.size))
 replace ZB := Lib.hid (ZB.out.later b1)
 clear b1;go_wp2_with fail;have hc := SBox.new w1 38 #[.int .u8 (callOf (fv s 3)), .string (B (untextL (fv s 4))), .string (B (untextL (fv s 5))), .int .i64 (unnumL (fv s 6)), .int .i64 (unnumL (fv s 7)), .int .u32 (unnumL (fv s 8) % 4294967296), .string (B (untextL (fv s 9)))];have hcB := (Below.refl w1.heap.size w1).alloc (Nat.le_refl _) (.cells #[.int .u8 (callOf (fv s 3)), .string (B (untextL (fv s 4))), .string (B (untextL (fv s 5))), .int .i64 (unnumL (fv s 6)), .int .i64 (unnumL (fv s 7)), .int .u32 (unnumL (fv s 8) % 4294967296), .string (B (untextL (fv s 9)))] 38);have HCB := Lib.hid hc;have BB2 := Lib.hid (BB.out.trans (hcB.mono BB.out.size));have ZB2 := Lib.hid (ZB.out.later hcB);have hcl := hc.lt;have VC := Lib.hid (vals_cells s);clear hc hcB BB ZB V3 D3 V4 U4 V5 U5 V6 N6 V7 N7 V8 N8 V9 U9
 generalize (w1.alloc (.cells #[.int .u8 (callOf (fv s 3)), .string (B (untextL (fv s 4))), .string (B (untextL (fv s 5))), .int .i64 (unnumL (fv s 6)), .int .i64 (unnumL (fv s 7)), .int .u32 (unnumL (fv s 8) % 4294967296), .string (B (untextL (fv s 9)))] 38)) = wz at *
 generalize w1.heap.size = bc at *
 refine wp_region_phi3 (by kernel_rfl) (fun | 0 => some 32 | 1 => some 33 | 2 => some 34 | 3 => some 35 | 4 => some 36 | 5 => some 37 | 6 => some 38 | 7 => some 39 | 8 => some 40 | 9 => some 41 | 10 => some 42 | 11 => some 43 | 12 => some 44 | 13 => some 45 | 14 => some 46 | 15 => some 5 | 16 => none | _ => none) (fun a => ∃ x5 x32 x33 x34 x35 x36 x37 x38 x39 x40 x41 x42 x43 x44 x45 x46 : Value, a = ⟨#[.string s, undef, .pointer (some ⟨w.heap.size, 0, none⟩), .int .i64 0, .pointer (some ⟨bc, 0, none⟩), x5, undef, undef, undef, .string s, .string (B (fv s 3)), .int .u8 (callOf (fv s 3)), .string s, .string (B (fv s 4)), .string (B (untextL (fv s 4))), .string s, .string (B (fv s 5)), .string (B (untextL (fv s 5))), .string s, .string (B (fv s 6)), .int .i64 (unnumL (fv s 6)), .string s, .string (B (fv s 7)), .int .i64 (unnumL (fv s 7)), .string s, .string (B (fv s 8)), .int .i64 (unnumL (fv s 8)), .int .u32 (unnumL (fv s 8) % 4294967296), .string s, .string (B (fv s 9)), .string (B (untextL (fv s 9))), .agg #[.int .u8 (callOf (fv s 3)), .string (B (untextL (fv s 4))), .string (B (untextL (fv s 5))), .int .i64 (unnumL (fv s 6)), .int .i64 (unnumL (fv s 7)), .int .u32 (unnumL (fv s 8) % 4294967296), .string (B (untextL (fv s 9)))], x32, x33, x34, x35, x36, x37, x38, x39, x40, x41, x42, x43, x44, x45, x46, undef, undef, undef, undef, undef, undef, undef, undef, undef, undef, undef, undef, undef, undef, undef, undef, undef, undef, undef, undef], []⟩) (fun lst W' => Below wz.heap.size wz W') (GrR) (fun | 0 => (fun f w => f 0 = Value.string s) | 1 => (fun f w => f 1 = Value.string (B (fv s 0))) | 2 => (fun f w => f 2 = Value.int .i64 (unnumL (fv s 0))) | 3 => (fun f w => f 3 = Value.string s) | 4 => (fun f w => f 4 = Value.string (B (fv s 1))) | 5 => (fun f w => f 5 = Value.int .i64 (unnumL (fv s 1))) | 6 => (fun f w => f 6 = Value.string s) | 7 => (fun f w => f 7 = Value.string (B (fv s 2))) | 8 => (fun f w => f 8 = Value.int .i64 (unnumL (fv s 2))) | 9 => (fun f w => f 9 = Value.int .u32 (unnumL (fv s 2) % 4294967296)) | 10 => (fun f w => f 10 = Value.agg #[.int .u8 (callOf (fv s 3)), .string (B (untextL (fv s 4))), .string (B (untextL (fv s 5))), .int .i64 (unnumL (fv s 6)), .int .i64 (unnumL (fv s 7)), .int .u32 (unnumL (fv s 8) % 4294967296), .string (B (untextL (fv s 9)))]) | 11 => (fun f w => f 11 = Value.string s) | 12 => (fun f w => f 12 = Value.string (B (fv s 10))) | 13 => (fun f w => f 13 = Value.string (B (untextL (fv s 10)))) | 14 => (fun f w => f 14 = Value.agg #[.int .u8 0, .int .i64 (unnumL (fv s 0)), .int .i64 (unnumL (fv s 1)), .int .u32 (unnumL (fv s 2) % 4294967296), .int .u8 (callOf (fv s 3)), .string (B (untextL (fv s 4))), .string (B (untextL (fv s 5))), .int .i64 (unnumL (fv s 6)), .int .i64 (unnumL (fv s 7)), .int .u32 (unnumL (fv s 8) % 4294967296), .string (B (untextL (fv s 9))), .string (B (untextL (fv s 10)))]) | 15 => (fun f w => ∃ p, f 15 = Value.pointer (some ⟨p, 0, none⟩) ∧ wz.heap.size ≤ p ∧ ∃ y, MBox w p y) | 16 => (fun f w => ∃ p, f 15 = Value.pointer (some ⟨p, 0, none⟩) ∧ wz.heap.size ≤ p ∧ MBox w p (valsL (L s))) | _ => (fun _ _ => True)) (by kernel_rfl) ?stb ?dep (by kernel_rfl) ?AA ⟨_, _, _, _, _, _, _, _, _, _, _, _, _, _, _, _, rfl⟩ ?G0 ?step ?done
 case stb =>
   intro i j v w1 w2 hi hj hij hw hp hs;have hi : i < 17 := hi
   match j, hp with
   | 0, hp | 1, hp | 2, hp | 3, hp | 4, hp | 5, hp | 6, hp | 7, hp | 8, hp | 9, hp | 10, hp | 11, hp | 12, hp | 13, hp | 14, hp => exact hp
   | 15, hp =>
     obtain ⟨p, h1, h2, h3⟩ := hp;exact ⟨p, h1, h2, hs.box p h3⟩
   | 16, hp =>
     obtain ⟨p, h1, h2, h3⟩ := hp;exact ⟨p, h1, h2, SBox.later h3 (hs.bel hij)⟩
   | j + 17, _ => exact trivial
 case dep =>
   intro j f g w hj hfg hp;have hj : j < 17 := hj
   match j, hp, hfg with
   | 0, hp, hfg =>
     have hq : f 0 = Value.string s := hp;rw [hfg 0 (by show 0 < 17; decide) (by first | exact .inl rfl | exact .inr (by kernel_rfl))] at hq;exact hq
   | 1, hp, hfg =>
     have hq : f 1 = Value.string (B (fv s 0)) := hp;rw [hfg 1 (by show 1 < 17; decide) (by first | exact .inl rfl | exact .inr (by kernel_rfl))] at hq;exact hq
   | 2, hp, hfg =>
     have hq : f 2 = Value.int .i64 (unnumL (fv s 0)) := hp;rw [hfg 2 (by show 2 < 17; decide) (by first | exact .inl rfl | exact .inr (by kernel_rfl))] at hq;exact hq
   | 3, hp, hfg =>
     have hq : f 3 = Value.string s := hp;rw [hfg 3 (by show 3 < 17; decide) (by first | exact .inl rfl | exact .inr (by kernel_rfl))] at hq;exact hq
   | 4, hp, hfg =>
     have hq : f 4 = Value.string (B (fv s 1)) := hp;rw [hfg 4 (by show 4 < 17; decide) (by first | exact .inl rfl | exact .inr (by kernel_rfl))] at hq;exact hq
   | 5, hp, hfg =>
     have hq : f 5 = Value.int .i64 (unnumL (fv s 1)) := hp;rw [hfg 5 (by show 5 < 17; decide) (by first | exact .inl rfl | exact .inr (by kernel_rfl))] at hq;exact hq
   | 6, hp, hfg =>
     have hq : f 6 = Value.string s := hp;rw [hfg 6 (by show 6 < 17; decide) (by first | exact .inl rfl | exact .inr (by kernel_rfl))] at hq;exact hq
   | 7, hp, hfg =>
     have hq : f 7 = Value.string (B (fv s 2)) := hp;rw [hfg 7 (by show 7 < 17; decide) (by first | exact .inl rfl | exact .inr (by kernel_rfl))] at hq;exact hq
   | 8, hp, hfg =>
     have hq : f 8 = Value.int .i64 (unnumL (fv s 2)) := hp;rw [hfg 8 (by show 8 < 17; decide) (by first | exact .inl rfl | exact .inr (by kernel_rfl))] at hq;exact hq
   | 9, hp, hfg =>
     have hq : f 9 = Value.int .u32 (unnumL (fv s 2) % 4294967296) := hp;rw [hfg 9 (by show 9 < 17; decide) (by first | exact .inl rfl | exact .inr (by kernel_rfl))] at hq;exact hq
   | 10, hp, hfg =>
     have hq : f 10 = Value.agg #[.int .u8 (callOf (fv s 3)), .string (B (untextL (fv s 4))), .string (B (untextL (fv s 5))), .int .i64 (unnumL (fv s 6)), .int .i64 (unnumL (fv s 7)), .int .u32 (unnumL (fv s 8) % 4294967296), .string (B (untextL (fv s 9)))] := hp;rw [hfg 10 (by show 10 < 17; decide) (by first | exact .inl rfl | exact .inr (by kernel_rfl))] at hq;exact hq
   | 11, hp, hfg =>
     have hq : f 11 = Value.string s := hp;rw [hfg 11 (by show 11 < 17; decide) (by first | exact .inl rfl | exact .inr (by kernel_rfl))] at hq;exact hq
   | 12, hp, hfg =>
     have hq : f 12 = Value.string (B (fv s 10)) := hp;rw [hfg 12 (by show 12 < 17; decide) (by first | exact .inl rfl | exact .inr (by kernel_rfl))] at hq;exact hq
   | 13, hp, hfg =>
     have hq : f 13 = Value.string (B (untextL (fv s 10))) := hp;rw [hfg 13 (by show 13 < 17; decide) (by first | exact .inl rfl | exact .inr (by kernel_rfl))] at hq;exact hq
   | 14, hp, hfg =>
     have hq : f 14 = Value.agg #[.int .u8 0, .int .i64 (unnumL (fv s 0)), .int .i64 (unnumL (fv s 1)), .int .u32 (unnumL (fv s 2) % 4294967296), .int .u8 (callOf (fv s 3)), .string (B (untextL (fv s 4))), .string (B (untextL (fv s 5))), .int .i64 (unnumL (fv s 6)), .int .i64 (unnumL (fv s 7)), .int .u32 (unnumL (fv s 8) % 4294967296), .string (B (untextL (fv s 9))), .string (B (untextL (fv s 10)))] := hp;rw [hfg 14 (by show 14 < 17; decide) (by first | exact .inl rfl | exact .inr (by kernel_rfl))] at hq;exact hq
   | 15, hp, hfg =>
     have hq : ∃ p, f 15 = Value.pointer (some ⟨p, 0, none⟩) ∧ wz.heap.size ≤ p ∧ ∃ y, MBox w p y := hp;rw [hfg 15 (by show 15 < 17; decide) (by first | exact .inl rfl | exact .inr (by kernel_rfl))] at hq;exact hq
   | 16, hp, hfg =>
     have hq : ∃ p, f 15 = Value.pointer (some ⟨p, 0, none⟩) ∧ wz.heap.size ≤ p ∧ MBox w p (valsL (L s)) := hp;rw [hfg 15 (by show 15 < 17; decide) (by first | exact .inl rfl | exact .inr (by kernel_rfl))] at hq;exact hq
   | j + 17, _, _ => exact trivial
 case AA =>
   rintro i a v hi ⟨_, _, _, _, _, _, _, _, _, _, _, _, _, _, _, _, rfl⟩
   match i, hi with
   | 0, _ | 1, _ | 2, _ | 3, _ | 4, _ | 5, _ | 6, _ | 7, _ | 8, _ | 9, _ | 10, _ | 11, _ | 12, _ | 13, _ | 14, _ | 15, _ | 16, _ => exact ⟨⟨_, _, _, _, _, _, _, _, _, _, _, _, _, _, _, _, rfl⟩, fun t h => by cases h <;> exact of_decide_eq_true rfl⟩
   | i + 17, hi => exact absurd hi (by simp)
 case G0 => exact (Below.refl _ _).drew
 case step =>
   rintro i a w1 lst hi ⟨x5, x32, x33, x34, x35, x36, x37, x38, x39, x40, x41, x42, x43, x44, x45, x46, rfl⟩ hl hcl hG hp;refine wpOp_via (fun K hK => ?_)
   match i, hi with
   | 0, _ =>
     have hb := hG;refine wpOp_at (by rfl) rfl ?_;go_simp;exact hK _ _ ⟨_, rfl, hb, GrR.of (Below.refl _ _), rfl⟩
   | 1, _ =>
     have hb := hG;obtain rfl : x32 = _ := hp 0 (by kernel_rfl);refine wpOp_at (by rfl) rfl ?_;go_simp;refine (V0.out _).mono ?_;rintro e w9 ⟨rfl, b9⟩;exact hK _ _ ⟨_, rfl, hb.trans (b9.mono hb.size), GrR.of b9, rfl⟩
   | 2, _ =>
     have hb := hG;obtain rfl : x33 = _ := hp 1 (by kernel_rfl);refine wpOp_at (by rfl) rfl ?_;go_simp;refine (N0.out _ (HL.out.later (BB2.out.trans (hb.mono BB2.out.size)))).mono ?_;rintro e w9 ⟨rfl, b9⟩;exact hK _ _ ⟨_, rfl, hb.trans (b9.mono hb.size), GrR.of b9, rfl⟩
   | 3, _ =>
     have hb := hG;refine wpOp_at (by rfl) rfl ?_;go_simp;exact hK _ _ ⟨_, rfl, hb, GrR.of (Below.refl _ _), rfl⟩
   | 4, _ =>
     have hb := hG;obtain rfl : x35 = _ := hp 3 (by kernel_rfl);refine wpOp_at (by rfl) rfl ?_;go_simp;refine (V1.out _).mono ?_;rintro e w9 ⟨rfl, b9⟩;exact hK _ _ ⟨_, rfl, hb.trans (b9.mono hb.size), GrR.of b9, rfl⟩
   | 5, _ =>
     have hb := hG;obtain rfl : x36 = _ := hp 4 (by kernel_rfl);refine wpOp_at (by rfl) rfl ?_;go_simp;refine (N1.out _ (HL.out.later (BB2.out.trans (hb.mono BB2.out.size)))).mono ?_;rintro e w9 ⟨rfl, b9⟩;exact hK _ _ ⟨_, rfl, hb.trans (b9.mono hb.size), GrR.of b9, rfl⟩
   | 6, _ =>
     have hb := hG;refine wpOp_at (by rfl) rfl ?_;go_simp;exact hK _ _ ⟨_, rfl, hb, GrR.of (Below.refl _ _), rfl⟩
   | 7, _ =>
     have hb := hG;obtain rfl : x38 = _ := hp 6 (by kernel_rfl);refine wpOp_at (by rfl) rfl ?_;go_simp;refine (V2.out _).mono ?_;rintro e w9 ⟨rfl, b9⟩;exact hK _ _ ⟨_, rfl, hb.trans (b9.mono hb.size), GrR.of b9, rfl⟩
   | 8, _ =>
     have hb := hG;obtain rfl : x39 = _ := hp 7 (by kernel_rfl);refine wpOp_at (by rfl) rfl ?_;go_simp;refine (N2.out _ (HL.out.later (BB2.out.trans (hb.mono BB2.out.size)))).mono ?_;rintro e w9 ⟨rfl, b9⟩;exact hK _ _ ⟨_, rfl, hb.trans (b9.mono hb.size), GrR.of b9, rfl⟩
   | 9, _ =>
     have hb := hG;obtain rfl : x40 = _ := hp 8 (by kernel_rfl);refine wpOp_at (by rfl) rfl ?_;go_simp;exact hK _ _ ⟨_, rfl, hb, GrR.of (Below.refl _ _), rfl⟩
   | 10, _ =>
     have hb := hG;have hc2 := HCB.out.later hb;have c0 := hc2.cell 0; have c1 := hc2.cell 1; have c2 := hc2.cell 2; have c3 := hc2.cell 3; have c4 := hc2.cell 4; have c5 := hc2.cell 5; have c6 := hc2.cell 6;simp only [List.getElem?_toArray, List.getElem?_cons_zero, List.getElem?_cons_succ] at c0 c1 c2 c3 c4 c5 c6;refine wpOp_at (by rfl) rfl ?_;go_simp;exact hK _ _ ⟨_, rfl, hb, GrR.of (Below.refl _ _), rfl⟩
   | 11, _ =>
     have hb := hG;refine wpOp_at (by rfl) rfl ?_;go_simp;exact hK _ _ ⟨_, rfl, hb, GrR.of (Below.refl _ _), rfl⟩
   | 12, _ =>
     have hb := hG;obtain rfl : x43 = _ := hp 11 (by kernel_rfl);refine wpOp_at (by rfl) rfl ?_;go_simp;refine (V10.out _).mono ?_;rintro e w9 ⟨rfl, b9⟩;exact hK _ _ ⟨_, rfl, hb.trans (b9.mono hb.size), GrR.of b9, rfl⟩
   | 13, _ =>
     have hb := hG;obtain rfl : x44 = _ := hp 12 (by kernel_rfl);refine wpOp_at (by rfl) rfl ?_;go_simp;refine (U10.out _).mono ?_;rintro e w9 ⟨rfl, b9⟩;exact hK _ _ ⟨_, rfl, hb.trans (b9.mono hb.size), GrR.of b9, rfl⟩
   | 14, _ =>
     have hb := hG;obtain rfl : x34 = _ := hp 2 (by kernel_rfl);obtain rfl : x37 = _ := hp 5 (by kernel_rfl);obtain rfl : x41 = _ := hp 9 (by kernel_rfl);obtain rfl : x42 = _ := hp 10 (by kernel_rfl);obtain rfl : x45 = _ := hp 13 (by kernel_rfl);refine wpOp_at (by rfl) rfl ?_;go_simp;exact hK _ _ ⟨_, rfl, hb, GrR.of (Below.refl _ _), rfl⟩
   | 15, _ =>
     have hb := hG;have hsz := hb.size;refine wpOp_at (by rfl) rfl ?_;go_simp;exact hK _ _ ⟨_, rfl, hb.alloc hb.size _, GrR.of ((Below.refl _ _).alloc (Nat.le_refl _) _), w1.heap.size, rfl, hsz, M.zero, SBox.new _ _ _⟩
   | 16, _ =>
     have hb := hG;obtain ⟨p, e5, hpz, y, hy⟩ := hp 15 (by kernel_rfl);change x5 = _ at e5;subst e5;obtain rfl : x46 = _ := hp 14 (by kernel_rfl);refine wpOp_at (by rfl) rfl ?_;refine wp_store_row _ _ _ rfl p #[.int .u8 0, .int .i64 (unnumL (fv s 0)), .int .i64 (unnumL (fv s 1)), .int .u32 (unnumL (fv s 2) % 4294967296), .int .u8 (callOf (fv s 3)), .string (B (untextL (fv s 4))), .string (B (untextL (fv s 5))), .int .i64 (unnumL (fv s 6)), .int .i64 (unnumL (fv s 7)), .int .u32 (unnumL (fv s 8) % 4294967296), .string (B (untextL (fv s 9))), .string (B (untextL (fv s 10)))] rfl rfl _ _ hy info_Cmd rfl (by rw [← VC.out]; exact cells_one _) ?_;exact hK _ _ ⟨undef, rfl, hb.trans ((tchRow w1 p _).below fun i hi => ⟨Nat.lt_of_lt_of_le hi hb.size, fun e => by omega⟩), by have h := GrR.store hy (valsL (L s)); rw [VC.out] at h; exact h, p, rfl, hpz, by show SBox _ p _ (valsL (L s)).cells; rw [VC.out]; exact SBox.setRow hy _⟩
   | i + 17, hi => exact absurd hi (by simp)
 case done =>
   rintro a9 w9 lst hl ⟨x5, x32, x33, x34, x35, x36, x37, x38, x39, x40, x41, x42, x43, x44, x45, x46, rfl⟩ hb hp;obtain ⟨p, e5, hpz, hy⟩ := hp 16 (by decide);change x5 = _ at e5;subst e5;clear hp;have hX5 := vals_in (L s) 0;obtain ⟨X, hXe⟩ : ∃ X, X = valsL (L s) := ⟨_, rfl⟩
   have hXsz : X.size ≤ 100000 := by
     rw [hXe]
     have q : ∀ k, (untextL (fv s k)).length ≤ 20000 := fun k => by
       have h1 := untext_len _ (fv s k) (Nat.le_refl _);have h2 := fv_len s k;omega
     have q4 := q 4; have q5 := q 5; have q9 := q 9; have q10 := q 10;show (untextL (fv s 4)).length + (untextL (fv s 5)).length + (untextL (fv s 9)).length + (untextL (fv s 10)).length ≤ 100000;omega
   have hXd : X.d ≤ 15 := by
     rw [hXe];show callOf (fv s 3) ≤ 15
     by_cases h : callOf (fv s 3) = 0
     · omega
     · exact (callOf_some h).2
   have hXk : X.k = 0 := by rw [hXe]; rfl
   have HST2 : Hid (stepL mayM (L s) = tryR mayM (L s) X 0 7) := Lib.hid (by rw [← hST.out, hXe]; rfl);rw [← hXe] at hy;have BB3 := Lib.hid (BB2.out.trans (hb.mono BB2.out.size));have ZB3 := Lib.hid (ZB2.out.later hb);have hzl := ZB2.out.lt
   have hXX0 : ({ X with k := 0 } : M) = X := by
     cases X;simp only at hXk;subst hXk
     rfl
   have hy0 : ∃ kk, MBox w9 p { X with k := kk } := ⟨0, by rw [hXX0]; exact hy⟩;clear hXX0;have HY := Lib.hid hy0;clear hb hy hy0 hST hVI VC hX5
   generalize hXX : valsL (L s) = XX at *
   clear hXX hXe
   go_wp2
   go_loopw [6] (fun i wr => ∃ k : Nat, k ≤ 7 ∧ i = .int .u8 k ∧ (∃ kk, MBox wr p { X with k := kk }) ∧ Below w.heap.size w wr ∧ SBox wr w.heap.size 40 zeroC ∧ tryR mayM (L s) X 0 7 = tryR mayM (L s) X k (7 - k)) (fun i _ => 7 - (intOf i).toNat)
   case atStart => exact ⟨0, by omega, rfl, HY.out, BB3.out, ZB3.out, rfl⟩
   case round =>
     obtain ⟨k, hk, rfl, ⟨kk, hmb⟩, hbr, hzr, htr⟩ := hrel;have hne : w.heap.size ≠ p := by omega
     by_cases h7 : k < 7
     · have h7i : (k : Int) < 7 := by omega
       have f0 := SBox.free hmb 0;have hset : MBox (wr.setCell ⟨p, 0, none⟩ (.int .u8 k)) p { X with k := k } := SBox.set hmb 0 (.int .u8 k);have htc : Tch (fun q => q = p) wr (wr.setCell ⟨p, 0, none⟩ (.int .u8 k)) := Tch.cell (O := fun q => q = p) rfl;have hzs : SBox (wr.setCell ⟨p, 0, none⟩ (.int .u8 k)) w.heap.size 40 zeroC := (htc.block _ hzr.lt hne).trans hzr;have hbs : Below w.heap.size w (wr.setCell ⟨p, 0, none⟩ (.int .u8 k)) := hbr.trans (htc.below fun i hi => ⟨Nat.lt_of_lt_of_le hi hbr.size, fun e => by omega⟩);have LN := Lib.hid (rline_any { X with k := k } (wr.setCell ⟨p, 0, none⟩ (.int .u8 k)) (HL.out.later hbs) (by show k < 256; omega) (by show X.d < 256; omega) hXsz)
       have hstep : tryR mayM (L s) X k (7 - k) = if mayM { X with k := k } = true ∧ lineL { X with k := k } = L s then some { X with k := k } else tryR mayM (L s) X (k + 1) (7 - (k + 1)) := by
         rw [show 7 - k = (7 - (k + 1)) + 1 by omega]
         rfl
       have hcl := hmb;unfold MBox M.cells at hcl;have A0 := hcl.cell 0;have A1 := hcl.cell 1;have A2 := hcl.cell 2;have A3 := hcl.cell 3;have A4 := hcl.cell 4;have A5 := hcl.cell 5;have A6 := hcl.cell 6;have A7 := hcl.cell 7;have A8 := hcl.cell 8;have A9 := hcl.cell 9;have A10 := hcl.cell 10;have A11 := hcl.cell 11;simp only [List.getElem?_toArray, List.getElem?_cons_zero, List.getElem?_cons_succ] at A0 A1 A2 A3 A4 A5 A6 A7 A8 A9 A10 A11;have Al := hcl.lt;have HSET := Lib.hid hset;have HZS := Lib.hid hzs;have HBS := Lib.hid hbs;have HTR := Lib.hid (htr.trans hstep);have hwsz : (wr.setCell ⟨p, 0, none⟩ (.int .u8 k)).heap.size = wr.heap.size := by simp
       obtain ⟨Y, hY⟩ : ∃ Y : M, Y = { X with k := k } := ⟨_, rfl⟩;have HYE := Lib.hid hY;rw [← hY] at HTR HSET LN;have HV : Hid (Y.val = .agg #[.int .u8 k, .int .i64 X.co, .int .i64 X.n, .int .u32 X.ino, .int .u8 X.d, .string (B X.p), .string (B X.p2), .int .i64 X.fd, .int .i64 X.pg, .int .u32 X.sz, .string (B X.da), .string (B X.t)]) := Lib.hid (by rw [hY]; rfl);rw [HV.out] at LN;have w7 : IntKind.u8.wrap ((k : Int) + 1) = ((k + 1 : Nat) : Int) := by rw [IntKind.wrap_u8']; omega
       clear hmb hbr hzr htr hset htc hzs hbs hstep hcl hY
       by_cases hm : mayM Y = true
       · have hLV : lineV Y = .tuple #[.string (B (lineL Y)), .int .i64 0] := by unfold lineV; rw [if_pos hm]
         rw [hLV] at LN
         by_cases hq : lineL Y = L s
         · have E9 : Hid (stepL mayM (L s) = some Y) := Lib.hid (by rw [HST2.out, HTR.out, if_pos ⟨hm, hq⟩])
           have q1 : ((B (lineL Y)).toList == s.toList) = true := by rw [hq]; show ((B (L s)).toList == s.toList) = true; rw [B_L]; simp
           clear HTR hq hLV hm;go_wp2_with fail;refine LN.out.mono ?_;rintro e w5 ⟨rfl, hb5⟩;have hP5 : MBox w5 p Y := SBox.later HSET.out hb5;have hZ5 := HZS.out.later hb5;have HB5 := Lib.hid (HBS.out.trans (hb5.mono HBS.out.size));unfold MBox M.cells at hP5;have HZZ := Lib.hid hZ5;unfold zeroC M.zero M.cells at hZ5;have hP6 := hP5;have P0 := hP6.cell 0;have P1 := hP6.cell 1;have P2 := hP6.cell 2;have P3 := hP6.cell 3;have P4 := hP6.cell 4;have P5 := hP6.cell 5;have P6 := hP6.cell 6;have P7 := hP6.cell 7;have P8 := hP6.cell 8;have P9 := hP6.cell 9;have P10 := hP6.cell 10;have P11 := hP6.cell 11;simp only [List.getElem?_toArray, List.getElem?_cons_zero, List.getElem?_cons_succ] at P0 P1 P2 P3 P4 P5 P6 P7 P8 P9 P10 P11;have Pl := hP6.lt;have Z0 := hZ5.cell 0;have Z1 := hZ5.cell 1;have Z2 := hZ5.cell 2;have Z3 := hZ5.cell 3;have Z4 := hZ5.cell 4;have Z5 := hZ5.cell 5;have Z6 := hZ5.cell 6;have Z7 := hZ5.cell 7;have Z8 := hZ5.cell 8;have Z9 := hZ5.cell 9;have Z10 := hZ5.cell 10;have Z11 := hZ5.cell 11;simp only [List.getElem?_toArray, List.getElem?_cons_zero, List.getElem?_cons_succ] at Z0 Z1 Z2 Z3 Z4 Z5 Z6 Z7 Z8 Z9 Z10 Z11;have Zl := hZ5.lt;have F0 := hZ5.free 0;have F1 := hZ5.free 1;have F2 := hZ5.free 2;have F3 := hZ5.free 3;have F4 := hZ5.free 4;have F5 := hZ5.free 5;have F6 := hZ5.free 6;have F7 := hZ5.free 7;have F8 := hZ5.free 8;have F9 := hZ5.free 9;have F10 := hZ5.free 10;have F11 := hZ5.free 11;clear hb5 A0 A1 A2 A3 A4 A5 A6 A7 A8 A9 A10 A11 Al f0 LN HSET HZS HBS;go_wp2_with fail;have HF := Lib.hid (fillM_box (show MBox w5 w.heap.size M.zero from HZZ.out) Y);have HT := Lib.hid (fillM_tch w5 w.heap.size Y);have hsw := HB5.out.size;change bodyPost _ _ _ _ _ (fillM w5 w.heap.size Y);have hb9 : Below w.heap.size w (fillM w5 w.heap.size Y) := HB5.out.trans (HT.out.below fun i hi => ⟨by omega, by omega⟩);have hX9 := HF.out;unfold M.cells at hX9
           generalize fillM w5 w.heap.size Y = w99 at *
           have G0 := hX9.cell 0;have G1 := hX9.cell 1;have G2 := hX9.cell 2;have G3 := hX9.cell 3;have G4 := hX9.cell 4;have G5 := hX9.cell 5;have G6 := hX9.cell 6;have G7 := hX9.cell 7;have G8 := hX9.cell 8;have G9 := hX9.cell 9;have G10 := hX9.cell 10;have G11 := hX9.cell 11;simp only [List.getElem?_toArray, List.getElem?_cons_zero, List.getElem?_cons_succ] at G0 G1 G2 G3 G4 G5 G6 G7 G8 G9 G10 G11;have Gl := hX9.lt;refine bodyPost_ret (v := .tuple #[Y.val, .int .i64 0]) ?_ rfl ⟨by rw [E9.out]; rfl, hb9⟩
           simp [results, Tryz.f23, go_sem, G0, G1, G2, G3, G4, G5, G6, G7, G8, G9, G10, G11, M.val, M.cells, M.zero]
         · have E9 : Hid (tryR mayM (L s) X 0 7 = tryR mayM (L s) X (k + 1) (7 - (k + 1))) := Lib.hid (by rw [HTR.out, if_neg (fun h => hq h.2)])
           have q1 : ((B (lineL Y)).toList == s.toList) = false := by
             rw [Path.toList_L, L_B, Path.toList_L]
             simpa using hq
           clear HTR hq hLV hm;go_wp2_with fail;refine LN.out.mono ?_;rintro e w5 ⟨rfl, hb5⟩;have R5 := Lib.hid (And.intro (show MBox w5 p { X with k := k } from by rw [← HYE.out]; exact SBox.later HSET.out hb5) (And.intro (HBS.out.trans (hb5.mono HBS.out.size)) (HZS.out.later hb5)));clear hb5;go_wp2_with fail;exact ⟨⟨k + 1, by omega, by go_num, ⟨k, R5.out.1⟩, R5.out.2.1, R5.out.2.2, E9.out⟩, by simp [intOf]; omega⟩
       · have hLV : lineV Y = .tuple #[.string ⟨#[]⟩, .int .i64 2] := by unfold lineV; rw [if_neg hm]
         rw [hLV] at LN;have E9 : Hid (tryR mayM (L s) X 0 7 = tryR mayM (L s) X (k + 1) (7 - (k + 1))) := Lib.hid (by rw [HTR.out, if_neg (fun h => hm h.1)]);clear HTR hLV hm;go_wp2_with fail;refine LN.out.mono ?_;rintro e w5 ⟨rfl, hb5⟩;have R5 := Lib.hid (And.intro (show MBox w5 p { X with k := k } from by rw [← HYE.out]; exact SBox.later HSET.out hb5) (And.intro (HBS.out.trans (hb5.mono HBS.out.size)) (HZS.out.later hb5)));clear hb5;go_wp2_with fail;exact ⟨⟨k + 1, by omega, by go_num, ⟨k, R5.out.1⟩, R5.out.2.1, R5.out.2.2, E9.out⟩, by simp [intOf]; omega⟩
     · have hk7 : k = 7 := by omega
       subst hk7;have E9 : Hid (stepL mayM (L s) = none) := Lib.hid (by rw [HST2.out, htr]; rfl);have HBR := Lib.hid hbr;have HZR := Lib.hid hzr;have hZ5 := hzr;unfold zeroC M.zero M.cells at hZ5;have Z0 := hZ5.cell 0;have Z1 := hZ5.cell 1;have Z2 := hZ5.cell 2;have Z3 := hZ5.cell 3;have Z4 := hZ5.cell 4;have Z5 := hZ5.cell 5;have Z6 := hZ5.cell 6;have Z7 := hZ5.cell 7;have Z8 := hZ5.cell 8;have Z9 := hZ5.cell 9;have Z10 := hZ5.cell 10;have Z11 := hZ5.cell 11;simp only [List.getElem?_toArray, List.getElem?_cons_zero, List.getElem?_cons_succ] at Z0 Z1 Z2 Z3 Z4 Z5 Z6 Z7 Z8 Z9 Z10 Z11;have Zl := hZ5.lt;have F0 := hZ5.free 0;have F1 := hZ5.free 1;have F2 := hZ5.free 2;have F3 := hZ5.free 3;have F4 := hZ5.free 4;have F5 := hZ5.free 5;have F6 := hZ5.free 6;have F7 := hZ5.free 7;have F8 := hZ5.free 8;have F9 := hZ5.free 9;have F10 := hZ5.free 10;have F11 := hZ5.free 11;clear hZ5 hbr htr hzr hmb;go_wp2_with fail;have HF := Lib.hid (fillM_box (show MBox wr w.heap.size M.zero from HZR.out) M.zero);have HT := Lib.hid (fillM_tch wr w.heap.size M.zero);have hsw := HBR.out.size;change bodyPost _ _ _ _ _ (fillM wr w.heap.size M.zero);have hb9 : Below w.heap.size w (fillM wr w.heap.size M.zero) := HBR.out.trans (HT.out.below fun i hi => ⟨by omega, by omega⟩);have hX9 := HF.out;unfold M.cells at hX9
       generalize fillM wr w.heap.size M.zero = w99 at *
       have G0 := hX9.cell 0;have G1 := hX9.cell 1;have G2 := hX9.cell 2;have G3 := hX9.cell 3;have G4 := hX9.cell 4;have G5 := hX9.cell 5;have G6 := hX9.cell 6;have G7 := hX9.cell 7;have G8 := hX9.cell 8;have G9 := hX9.cell 9;have G10 := hX9.cell 10;have G11 := hX9.cell 11;simp only [List.getElem?_toArray, List.getElem?_cons_zero, List.getElem?_cons_succ] at G0 G1 G2 G3 G4 G5 G6 G7 G8 G9 G10 G11;have Gl := hX9.lt;refine bodyPost_ret (v := .tuple #[M.zero.val, .int .i64 7]) ?_ rfl ⟨by rw [E9.out]; rfl, hb9⟩
       simp [results, Tryz.f23, go_sem, G0, G1, G2, G3, G4, G5, G6, G7, G8, G9, G10, G11, M.val, M.cells, M.zero]
end Go.Proofs.YtkljcgopikdjjaaGreatDoor.Tx
end
