/- Layer 37, the document's answer: Line. -/
import Derived.Test.YtkljcgopikdjjaaGreatDoorM32
import Derived.Test.YtkljcgopikdjjaaGreatDoorM33
import Derived.Test.YtkljcgopikdjjaaGreatDoorM34
set_option linter.unusedVariables false
set_option linter.unusedSimpArgs false
set_option maxRecDepth 100000
section
namespace Go.Proofs.YtkljcgopikdjjaaGreatDoor.Tx
set_option maxRecDepth 100000
set_option maxHeartbeats 1000000
open Go.RowKit Go.Shelf Go.Maps Oct
noncomputable def lineV (x : M) : Value := if mayM x = true then .tuple #[.string (B (lineL x)), .int .i64 0] else .tuple #[.string ⟨#[]⟩, .int .i64 2]
theorem rline_any (x : M) (w : World) (hl : Lay w) (hk : x.k < 256) (hd : x.d < 256) (hsz : x.size ≤ 100000) :
   Calls Tryz.prog 15 #[x.val] w fun e w' => e = .returned (lineV x) ∧ Below w.heap.size w w' := by
 have h1 := SBox.new w 40 x.cells;have B0 := Lib.hid ((Below.refl w.heap.size w).alloc (Nat.le_refl _) (.cells x.cells 40));have HX := Lib.hid h1;have HL := Lib.hid hl;have MY := Lib.hid (fun W => may36 x W hk hd hsz);cases hm : mayM x with
 | false =>
   have E : Hid (lineV x = .tuple #[.string ⟨#[]⟩, .int .i64 2]) := Lib.hid (by unfold lineV; rw [hm]; rfl);rw [hm] at MY;unfold M.val M.cells at *;have X0 := h1.cell 0;have X1 := h1.cell 1;have X2 := h1.cell 2;have X3 := h1.cell 3;have X4 := h1.cell 4;have X5 := h1.cell 5;have X6 := h1.cell 6;have X7 := h1.cell 7;have X8 := h1.cell 8;have X9 := h1.cell 9;have X10 := h1.cell 10;have X11 := h1.cell 11;simp only [List.getElem?_toArray, List.getElem?_cons_zero, List.getElem?_cons_succ] at X0 X1 X2 X3 X4 X5 X6 X7 X8 X9 X10 X11;have Xl := h1.lt;clear h1 hm hl
   go_enter Tryz.func15, Tryz.ntmps15
   go_wp2_with fail;refine (MY.out _).mono ?_;rintro e w2 ⟨rfl, hb2⟩;have HB2 := Lib.hid (B0.out.trans (hb2.mono B0.out.size));clear hb2;go_wp2_with fail;go_ret2;exact ⟨by rw [E.out]; rfl, HB2.out⟩
 | true =>
   have hg := may_good x (may_in x hm) hm;have E : Hid (lineV x = .tuple #[.string (B (lineL x)), .int .i64 0]) := Lib.hid (by unfold lineV; rw [hm]; rfl);have TD := Lib.hid (fun W h => told_any x (may_in x hm) hk hg.d15 hsz W h);rw [hm] at MY;unfold M.val M.cells at *;have X0 := h1.cell 0;have X1 := h1.cell 1;have X2 := h1.cell 2;have X3 := h1.cell 3;have X4 := h1.cell 4;have X5 := h1.cell 5;have X6 := h1.cell 6;have X7 := h1.cell 7;have X8 := h1.cell 8;have X9 := h1.cell 9;have X10 := h1.cell 10;have X11 := h1.cell 11;simp only [List.getElem?_toArray, List.getElem?_cons_zero, List.getElem?_cons_succ] at X0 X1 X2 X3 X4 X5 X6 X7 X8 X9 X10 X11;have Xl := h1.lt;clear h1 hm hl hg
   go_enter Tryz.func15, Tryz.ntmps15
   go_wp2_with fail;refine (MY.out _).mono ?_;rintro e w2 ⟨rfl, hb2⟩;have hx2 := HX.out.later hb2;have HB2 := Lib.hid (B0.out.trans (hb2.mono B0.out.size));clear hb2 X0 X1 X2 X3 X4 X5 X6 X7 X8 X9 X10 X11 Xl;have Y0 := hx2.cell 0;have Y1 := hx2.cell 1;have Y2 := hx2.cell 2;have Y3 := hx2.cell 3;have Y4 := hx2.cell 4;have Y5 := hx2.cell 5;have Y6 := hx2.cell 6;have Y7 := hx2.cell 7;have Y8 := hx2.cell 8;have Y9 := hx2.cell 9;have Y10 := hx2.cell 10;have Y11 := hx2.cell 11;simp only [List.getElem?_toArray, List.getElem?_cons_zero, List.getElem?_cons_succ] at Y0 Y1 Y2 Y3 Y4 Y5 Y6 Y7 Y8 Y9 Y10 Y11;have Yl := hx2.lt;clear hx2;go_wp2_with fail;refine (TD.out _ (HL.out.later HB2.out)).mono ?_;rintro e w3 ⟨rfl, hb3⟩;have HB3 := Lib.hid (HB2.out.trans (hb3.mono HB2.out.size));clear hb3;go_wp2_with fail;go_ret2;exact ⟨by rw [E.out]; rfl, HB3.out⟩
end Go.Proofs.YtkljcgopikdjjaaGreatDoor.Tx
end
