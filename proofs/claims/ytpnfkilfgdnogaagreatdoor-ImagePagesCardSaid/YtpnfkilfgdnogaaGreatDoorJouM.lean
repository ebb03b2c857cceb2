/- Layer 4 (journal): Commit, walked. -/
import Derived.Test.YtpnfkilfgdnogaaGreatDoorImgB
import Derived.Test.YtpnfkilfgdnogaaGreatDoorDevWrite
import Derived.Test.YtpnfkilfgdnogaaGreatDoorCrcM
import Derived.Test.YtpnfkilfgdnogaaGreatDoorDirM
import Derived.Deep.Cut
import Derived.Deep.RegionLawGrows
import Derived.Deep.CutBlock
import Derived.Deep.CutRange
import Derived.Deep.RegionHeld3
import Derived.Test.YtpnfkilfgdnogaaGreatDoorTxWrite
import Derived.Test.YtpnfkilfgdnogaaGreatDoorOctetSplit
import Derived.WalkMore
import Derived.Deep.QuietTactic
import Derived.BigQuiet
import Derived.StillTailTactics

/- Layers 3 and 4: a device whose waiting writes are told by their texts alone: Write, Flush; numbers and heads of a journal. -/
section
namespace Go.Proofs.YtpnfkilfgdnogaaGreatDoor.Jou
set_option linter.unusedVariables false
set_option linter.unusedSimpArgs false
open Go.RowKit Go.Shelf Go.Maps Oct Dev Crc
/-- What waits: by sector, the text. -/
abbrev Wait := Nat → Option ByteArray
def noW : Wait := fun _ => none
def DV (W : World) (b : DevB) (hard : List ByteArray) (P : Wait) (k : Nat) : Prop := ∃ pd : Pend, DevAt W b hard pd k ∧ ∀ i : Nat, (pd (i : Int)).map (fun e => e.2.2) = P i
def upW (P : Wait) (i : Nat) (s : ByteArray) : Wait := fun y => if y = i then some s else P y
/-- What was kept, with what waited laid over it. -/
def ovr (hard : List ByteArray) (P : Wait) : List ByteArray := hard.mapIdx fun i s => (P i).getD s
theorem ovr_len (hard : List ByteArray) (P : Wait) : (ovr hard P).length = hard.length := by simp [ovr]
theorem ovr_get (hard : List ByteArray) (P : Wait) (i : Nat) (h : i < hard.length) : (ovr hard P)[i]'(by rw [ovr_len]; exact h) = (P i).getD hard[i] := by simp [ovr]
section
variable {b : DevB} {hard : List ByteArray} {P : Wait} {k : Nat}
theorem DV.later {W W' : World} (h : DV W b hard P k) (hb : Below W.heap.size W W') : DV W' b hard P k := by
  obtain ⟨pd, h1, h2⟩ := h
  exact ⟨pd, h1.later hb, h2⟩
theorem DV.dev {W : World} (h : DV W b hard P k) : ∃ cap, hard.length ≤ cap ∧ SBox W b.p 107 (devCells b hard.length cap k) := by
  obtain ⟨pd, h1, _⟩ := h
  exact h1.dev
theorem DV.len {W : World} (h : DV W b hard P k) : hard.length ≤ 4096 := by
  obtain ⟨pd, h1, _⟩ := h
  exact h1.len
theorem dv_of {W : World} (h : DevAt W b hard (fun _ => none) k) : DV W b hard noW k := ⟨_, h, fun _ => rfl⟩
theorem DV.bare {W : World} (h : DV W b hard noW k) : DevAt W b hard (fun _ => none) k := by
  obtain ⟨pd, h1, h2⟩ := h
  have e : pd = fun _ => none := by
    funext x
    cases hx : pd x with
    | none => rfl
    | some e =>
      obtain ⟨i, rfl, _⟩ := h1.dom x e hx
      have := h2 i
      rw [hx] at this
      cases this
  rw [e] at h1
  exact h1
theorem dv_write (i : Nat) (s : ByteArray) (w : World) (h : DV w b hard P k) (hi : i < hard.length) (hp : P i = none) (hs : s.size = 64) (hk : k < 1099511627776) :
    Calls Tryz.prog 96 #[.pointer (some ⟨b.p, 0, none⟩), .int .i64 i, .string s] w fun e w' => e = .returned (.int .i64 0) ∧ DV w' b hard (upW P i s) (k + 1) ∧ Tch (fun c => c = b.p ∨ c = b.m) w w' := by
  obtain ⟨pd, h1, h2⟩ := h
  have h0 : pd (i : Int) = none := by
    have := h2 i
    rw [hp] at this
    cases e : pd (i : Int) with
    | none => rfl
    | some x => rw [e] at this; cases this
  refine (write_new i s w h1 hi h0 hs hk).mono ?_
  rintro e w' ⟨rfl, bl, cap, g, t⟩
  refine ⟨rfl, ⟨_, g, fun y => ?_⟩, t⟩
  unfold putP upW
  by_cases q : y = i
  · rw [if_pos q, if_pos (by rw [q])]
    rfl
  · rw [if_neg q, if_neg (by omega)]
    exact h2 y
theorem dv_flush (w : World) (h : DV w b hard P k) (hk : k ≤ 1099511627776) :
    Calls Tryz.prog 97 #[.pointer (some ⟨b.p, 0, none⟩)] w fun e w' => e = .returned (.int .i64 0) ∧ DV w' b (ovr hard P) noW k ∧ Tch (fun c => c = b.g ∨ c = b.m) w w' := by
  obtain ⟨pd, h1, h2⟩ := h
  refine (flush_any w h1 hk).mono ?_
  rintro e w' ⟨rfl, ss, hks, g, t⟩
  refine ⟨rfl, ?_, t⟩
  have hmem : ∀ x : Int, x ∉ ss → pd x = none := fun x hx => by
    cases e : pd x with
    | none => rfl
    | some y => exact absurd ((hks.2 x).2 (by unfold rowF; rw [e]; rfl)) hx
  have e1 : flushP pd ss = fun _ => none := by
    funext y
    unfold flushP
    by_cases q : y ∈ ss
    · rw [if_pos q]
    · rw [if_neg q, hmem y q]
  have e2 : flushH hard pd ss = ovr hard P := by
    refine List.ext_getElem? (fun i => ?_)
    by_cases hi : i < hard.length
    · rw [flushH_get (fun x e hx => by obtain ⟨j, hj, _⟩ := h1.dom x e hx; exact ⟨j, hj⟩) ss hard i hi, List.getElem?_eq_getElem (by rw [ovr_len]; exact hi), ovr_get _ _ _ hi]
      have e3 : (if (i : Int) ∈ ss then pd i else none) = pd i := by
        by_cases q : (i : Int) ∈ ss
        · rw [if_pos q]
        · rw [if_neg q, hmem _ q]
      rw [e3, ← h2 i]
      cases pd (i : Int) <;> rfl
    · rw [List.getElem?_eq_none (by rw [flushH_len]; omega), List.getElem?_eq_none (by rw [ovr_len]; omega)]
  rw [e1, e2] at g
  exact dv_of g
end
set_option maxRecDepth 100000 in
theorem num_any (v n : Nat) (w : World) (hn : n ≤ 8) (hv : v < 256 ^ n) : Calls Tryz.prog 165 #[.int .u64 v, .int .i64 n] w fun e w' => e = .returned (.string (B (numL v n))) ∧ Below w.heap.size w w' := by
  have NU := Lib.hid (num_ok v n w hn hv)
  clear hv
  go_enter Tryz.func165, Tryz.ntmps165
  go_wp2_with fail
  refine NU.out.mono ?_
  rintro e w1 ⟨rfl, b1⟩
  go_wp2
  go_ret
  exact ⟨rfl, b1⟩
/-- A head: how many transactions, how many sectors that are not done. -/
def headL (gen c : Nat) : List UInt8 := [108, 117, 110, 106] ++ numL gen 8 ++ numL c 2
def headS (gen c : Nat) : ByteArray := padB (B (sealL (headL gen c))) 64
theorem headS_size (gen c : Nat) : (headS gen c).size = 64 := by
  unfold headS padB
  rw [size_B, List.length_append, List.length_replicate, L_B]
  have e : (B (sealL (headL gen c))).size = 18 := by
    rw [size_B]
    unfold sealL headL
    simp [len_numL]
  rw [← size_B, e]
theorem magicJ_size : (⟨#[108, 117, 110, 106]⟩ : ByteArray).size = 4 := rfl
set_option maxRecDepth 100000 in
set_option maxHeartbeats 400000 in
theorem head_any (gen c : Nat) (w : World) (hg : gen < 18446744073709551616) (hc : c < 65536) : Calls Tryz.prog 167 #[.int .u64 gen, .int .i64 c] w fun e w' => e = .returned (.string (headS gen c)) ∧ Below w.heap.size w w' := by
  have N8 := Lib.hid (fun W => num_any gen 8 W (by omega) (by simpa using hg))
  have N2 := Lib.hid (fun W => num_any c 2 W (by omega) (by simpa using hc))
  have SE := Lib.hid (fun W => seal_any ((⟨#[108, 117, 110, 106]⟩ : ByteArray) ++ B (numL gen 8) ++ B (numL c 2)) W (by rw [ByteArray.size_append, ByteArray.size_append, size_B, size_B, len_numL, len_numL, magicJ_size]; omega))
  have PD := Lib.hid (fun W => pad_ok (B (sealL (headL gen c))) 64 W (by omega) (by rw [size_B]; unfold sealL headL; simp [len_numL]))
  have e : L ((⟨#[108, 117, 110, 106]⟩ : ByteArray) ++ B (numL gen 8) ++ B (numL c 2)) = headL gen c := by
    have e0 : (⟨#[108, 117, 110, 106]⟩ : ByteArray) = B [108, 117, 110, 106] := rfl
    rw [e0, append_B, append_B, L_B, L_B, L_B, L_B]
    rfl
  rw [e] at SE
  rw [show padB (B (sealL (headL gen c))) 64 = headS gen c from rfl] at PD
  generalize B (sealL (headL gen c)) = sd at *
  generalize headS gen c = hd at *
  have z8 : (B (numL gen 8)).size = 8 := by rw [size_B, len_numL]
  have z2 : (B (numL c 2)).size = 2 := by rw [size_B, len_numL]
  have z4 := magicJ_size
  generalize B (numL gen 8) = n8 at *
  generalize B (numL c 2) = n2 at *
  clear e hg
  go_enter Tryz.func167, Tryz.ntmps167
  go_wp2_with fail
  refine (N8.out _).mono ?_
  rintro e w1 ⟨rfl, b1⟩
  have B1 := Lib.hid b1
  clear b1
  go_wp2_with fail
  refine (N2.out _).mono ?_
  rintro e w2 ⟨rfl, b2⟩
  have B2 := Lib.hid (B1.out.trans (b2.mono B1.out.size))
  clear b2
  go_wp2_with fail
  refine (SE.out _).mono ?_
  rintro e w3 ⟨rfl, b3⟩
  have B3 := Lib.hid (B2.out.trans (b3.mono B2.out.size))
  clear b3
  go_wp2_with fail
  refine (PD.out _).mono ?_
  rintro e w4 ⟨rfl, b4⟩
  have B4 := Lib.hid (B3.out.trans (b4.mono B3.out.size))
  clear b4
  go_wp2
  go_ret
  exact ⟨rfl, B4.out⟩
/-- Sectors and their texts, in memory. -/
abbrev Puts := List (Nat × ByteArray)
def PutsAt (W : World) (g : Nat) (l : Puts) : Prop := ∀ j (h : j < l.length), W.cell? ⟨g, j * 2, none⟩ = some (.int .i64 (l[j]'h).1) ∧ W.cell? ⟨g, j * 2 + 1, none⟩ = some (.string (l[j]'h).2)
theorem PutsAt.later {W W' : World} {g : Nat} {l : Puts} (h : PutsAt W g l) (hg : g < W.heap.size) (hb : Below W.heap.size W W') : PutsAt W' g l := fun j hj => ⟨(hb.cell (p := ⟨g, j * 2, none⟩) hg).trans (h j hj).1, (hb.cell (p := ⟨g, j * 2 + 1, none⟩) hg).trans (h j hj).2⟩
/-- Cells that lie in another block are kept. -/
theorem cell_block {W W' : World} {g i : Nat} (hb : W'.heap[g]? = W.heap[g]?) : W'.cell? ⟨g, i, none⟩ = W.cell? ⟨g, i, none⟩ := by
  unfold World.cell?
  rw [hb]
theorem PutsAt.block {W W' : World} {g : Nat} {l : Puts} (h : PutsAt W g l) (hb : W'.heap[g]? = W.heap[g]?) : PutsAt W' g l := fun j hj => ⟨(cell_block hb).trans (h j hj).1, (cell_block hb).trans (h j hj).2⟩
end Go.Proofs.YtpnfkilfgdnogaaGreatDoor.Jou
end

/- Layer 4 (journal): a transaction under way: mark, done. -/
section
namespace Go.Proofs.YtpnfkilfgdnogaaGreatDoor.Jou
set_option linter.unusedVariables false
set_option linter.unusedSimpArgs false
open Go.RowKit Go.Shelf Go.Maps Oct Dev Crc
def WkAt (W : World) (wk j gen g len cap : Nat) : Prop := SBox W wk 211 #[.pointer (some ⟨j, 0, none⟩), .int .u64 gen, .slice (some ⟨g, 0, none⟩) len cap]
theorem keepW {w W W' : World} {j wk g len cap fr gen : Nat} {b : DevB} (hjl : j < w.heap.size) (hwl : wk < w.heap.size)
    (h : W.cell? ⟨j, 0, none⟩ = some (.pointer (some ⟨b.p, 0, none⟩)) ∧ W.cell? ⟨j, 1, none⟩ = some (.int .i64 fr) ∧ W.cell? ⟨wk, 0, none⟩ = some (.pointer (some ⟨j, 0, none⟩)) ∧ W.cell? ⟨wk, 1, none⟩ = some (.int .u64 gen) ∧ W.cell? ⟨wk, 2, none⟩ = some (.slice (some ⟨g, 0, none⟩) len cap) ∧ Tch (fun c => c = b.p ∨ c = b.m) w W) (T : Tch (fun c => c = b.p ∨ c = b.m) W W') (hj : j ≠ b.p ∧ j ≠ b.m) (hw : wk ≠ b.p ∧ wk ≠ b.m) :
    W'.cell? ⟨j, 0, none⟩ = some (.pointer (some ⟨b.p, 0, none⟩)) ∧ W'.cell? ⟨j, 1, none⟩ = some (.int .i64 fr) ∧ W'.cell? ⟨wk, 0, none⟩ = some (.pointer (some ⟨j, 0, none⟩)) ∧ W'.cell? ⟨wk, 1, none⟩ = some (.int .u64 gen) ∧ W'.cell? ⟨wk, 2, none⟩ = some (.slice (some ⟨g, 0, none⟩) len cap) ∧ Tch (fun c => c = b.p ∨ c = b.m) w W' := by
  obtain ⟨h1, h2, h3, h4, h5, h6⟩ := h
  have ej : W'.heap[j]? = W.heap[j]? := T.block _ (Nat.lt_of_lt_of_le hjl h6.size) (fun e => e.elim hj.1 hj.2)
  have ew : W'.heap[wk]? = W.heap[wk]? := T.block _ (Nat.lt_of_lt_of_le hwl h6.size) (fun e => e.elim hw.1 hw.2)
  exact ⟨(cell_block ej).trans h1, (cell_block ej).trans h2, (cell_block ew).trans h3, (cell_block ew).trans h4, (cell_block ew).trans h5, h6.trans T⟩
set_option maxRecDepth 100000 in
set_option maxHeartbeats 1000000 in
theorem mark_any (wk j g fr n gen0 gen len cap k : Nat) (b : DevB) (hard : List ByteArray) (P : Wait) (w : World) (hJ : JouAt w j b fr n gen0) (hW : WkAt w wk j gen g len cap) (hD : DV w b hard P k) (hfr : fr < hard.length) (hP : P fr = none) (hg : gen < 18446744073709551616) (hl : len < 65536) (hk : k < 1099511627776) (hj : j ≠ b.p ∧ j ≠ b.m) (hw : wk ≠ b.p ∧ wk ≠ b.m) :
    Calls Tryz.prog 124 #[.pointer (some ⟨wk, 0, none⟩)] w fun e w' => e = .returned (.int .i64 0) ∧ DV w' b hard (upW P fr (headS gen len)) (k + 1) ∧ Tch (fun c => c = b.p ∨ c = b.m) w w' := by
  have HE := Lib.hid (fun W => head_any gen len W hg hl)
  have WR := Lib.hid (fun W (h : DV W b hard P k) => dv_write (hard := hard) (P := P) fr (headS gen len) W h hfr hP (headS_size _ _) hk)
  unfold JouAt at hJ
  unfold WkAt at hW
  have HD := Lib.hid hD
  have J0 := hJ.cell 0
  have J1 := hJ.cell 1
  have J2 := hJ.cell 2
  have J3 := hJ.cell 3
  have J4 := hJ.cell 4
  simp only [List.getElem?_toArray, List.getElem?_cons_zero, List.getElem?_cons_succ] at J0 J1 J2 J3 J4
  have Jl := hJ.lt
  have X0 := hW.cell 0
  have X1 := hW.cell 1
  have X2 := hW.cell 2
  simp only [List.getElem?_toArray, List.getElem?_cons_zero, List.getElem?_cons_succ] at X0 X1 X2
  have Xl := hW.lt
  clear hJ hW hD
  generalize headS gen len = hd at *
  go_enter Tryz.func124, Tryz.ntmps124
  go_wp2_with fail
  go_region_held3 (fun W => W.cell? ⟨j, 0, none⟩ = some (.pointer (some ⟨b.p, 0, none⟩)) ∧ W.cell? ⟨j, 1, none⟩ = some (.int .i64 fr) ∧ W.cell? ⟨wk, 0, none⟩ = some (.pointer (some ⟨j, 0, none⟩)) ∧ W.cell? ⟨wk, 1, none⟩ = some (.int .u64 gen) ∧ W.cell? ⟨wk, 2, none⟩ = some (.slice (some ⟨g, 0, none⟩) len cap) ∧ Tch (fun c => c = b.p ∨ c = b.m) w W)
    (first | exact keepW Jl Xl (by assumption) (Tch.of_below b9) hj hw | exact keepW Jl Xl (by assumption) t9 hj hw | exact ⟨J0, J1, X0, X1, X2, Tch.of_below (Below.refl _ _).drew⟩ | exact ⟨J0, J1, X0, X1, X2, Tch.of_below (Below.refl _ _)⟩)
    (first
      | (go_at_call 167; refine (HE.out _).mono ?_; rintro e w9 ⟨rfl, b9⟩; have HD9 := Lib.hid (HD.out.later ((Below.refl _ w).drew.trans b9)))
      | (go_at_call 96; refine (WR.out _ HD9.out).mono ?_; rintro e w9 ⟨rfl, hd9, t9⟩))
  rename_i hS
  have T9 := hS.2.2.2.2.2
  clear hS
  go_wp2
  go_ret
  exact ⟨rfl, hd9, T9⟩
set_option maxRecDepth 100000 in
set_option maxHeartbeats 1000000 in
theorem done_any (wk j g fr n gen0 gen len cap k : Nat) (b : DevB) (hard : List ByteArray) (P : Wait) (w : World) (hJ : JouAt w j b fr n gen0) (hW : WkAt w wk j gen g len cap) (hD : DV w b hard P k) (hfr : fr < hard.length) (hP : P fr = none) (hg : gen < 18446744073709551616) (hk : k < 1099511627776) (hj : j ≠ b.p ∧ j ≠ b.m) (hw : wk ≠ b.p ∧ wk ≠ b.m) :
    Calls Tryz.prog 126 #[.pointer (some ⟨wk, 0, none⟩)] w fun e w' => e = .returned (.int .i64 0) ∧ DV w' b hard (upW P fr (headS gen 0)) (k + 1) ∧ Tch (fun c => c = b.p ∨ c = b.m) w w' := by
  have HE := Lib.hid (fun W => head_any gen 0 W hg (by omega))
  have WR := Lib.hid (fun W (h : DV W b hard P k) => dv_write (hard := hard) (P := P) fr (headS gen 0) W h hfr hP (headS_size _ _) hk)
  unfold JouAt at hJ
  unfold WkAt at hW
  have HD := Lib.hid hD
  have J0 := hJ.cell 0
  have J1 := hJ.cell 1
  have J2 := hJ.cell 2
  have J3 := hJ.cell 3
  have J4 := hJ.cell 4
  simp only [List.getElem?_toArray, List.getElem?_cons_zero, List.getElem?_cons_succ] at J0 J1 J2 J3 J4
  have Jl := hJ.lt
  have X0 := hW.cell 0
  have X1 := hW.cell 1
  have X2 := hW.cell 2
  simp only [List.getElem?_toArray, List.getElem?_cons_zero, List.getElem?_cons_succ] at X0 X1 X2
  have Xl := hW.lt
  clear hJ hW hD
  generalize headS gen 0 = hd at *
  go_enter Tryz.func126, Tryz.ntmps126
  go_wp2_with fail
  go_region_held3 (fun W => W.cell? ⟨j, 0, none⟩ = some (.pointer (some ⟨b.p, 0, none⟩)) ∧ W.cell? ⟨j, 1, none⟩ = some (.int .i64 fr) ∧ W.cell? ⟨wk, 0, none⟩ = some (.pointer (some ⟨j, 0, none⟩)) ∧ W.cell? ⟨wk, 1, none⟩ = some (.int .u64 gen) ∧ W.cell? ⟨wk, 2, none⟩ = some (.slice (some ⟨g, 0, none⟩) len cap) ∧ Tch (fun c => c = b.p ∨ c = b.m) w W)
    (first | exact keepW Jl Xl (by assumption) (Tch.of_below b9) hj hw | exact keepW Jl Xl (by assumption) t9 hj hw | exact ⟨J0, J1, X0, X1, X2, Tch.of_below (Below.refl _ _).drew⟩ | exact ⟨J0, J1, X0, X1, X2, Tch.of_below (Below.refl _ _)⟩)
    (first
      | (go_at_call 167; refine (HE.out _).mono ?_; rintro e w9 ⟨rfl, b9⟩; have HD9 := Lib.hid (HD.out.later ((Below.refl _ w).drew.trans b9)))
      | (go_at_call 96; refine (WR.out _ HD9.out).mono ?_; rintro e w9 ⟨rfl, hd9, t9⟩))
  rename_i hS
  have T9 := hS.2.2.2.2.2
  clear hS
  go_wp2
  go_ret
  exact ⟨rfl, hd9, T9⟩
end Go.Proofs.YtpnfkilfgdnogaaGreatDoor.Jou
end

/- Layer 4 (journal): record's put, lay. -/
section
namespace Go.Proofs.YtpnfkilfgdnogaaGreatDoor.Jou
set_option linter.unusedVariables false
set_option linter.unusedSimpArgs false
open Go.RowKit Go.Shelf Go.Maps Oct Dev Crc
theorem boxT {W : World} {c d : Nat} {t t' : TypeId} {cs cs' : Array Value} (h : SBox W c t cs) (h' : SBox W d t' cs') (ht : t ≠ t') : c ≠ d := fun e => by
  subst e
  have h1 : W.heap[c]? = some (.cells cs t (0, 0)) := h
  have h2 : W.heap[c]? = some (.cells cs' t' (0, 0)) := h'
  rw [h1] at h2
  cases h2
  exact ht rfl
/-- A box of another type is not the device's. -/
theorem DevAt.box {W W' : World} {b : DevB} {hard : List ByteArray} {pd : Pend} {k c : Nat} {t : TypeId} {cs : Array Value} (h : DevAt W b hard pd k) (hX : SBox W c t cs) (h1 : t ≠ 9) (h2 : t ≠ 107) (T : Tch (fun x => x = c) W W') : DevAt W' b hard pd k := by
  have hX' : W.heap[c]? = some (.cells cs t (0, 0)) := hX
  have key : ∀ (d : Nat) (cs' : Array Value) (t' : TypeId), t ≠ t' → W.heap[d]? = some (.cells cs' t' (0, 0)) → W'.heap[d]? = W.heap[d]? := fun d cs' t' ht hd => T.block d (Array.getElem?_eq_some_iff.1 hd).1 (fun e => boxT hX hd ht e.symm)
  obtain ⟨⟨cap, g0, g1⟩, g2, g3, g4, g5, g6⟩ := h
  have str : ∀ {g : Nat} {l : List ByteArray}, StrRow W g l → StrRow W' g l := fun hs => by
    obtain ⟨cs', c1, c2⟩ := hs
    exact ⟨cs', (key _ _ _ h1 c1).trans c1, c2⟩
  refine ⟨⟨cap, g0, (key _ _ _ h2 g1).trans g1⟩, str g2, g3.block (T.block _ g3.lt (fun e => g3.ne hX' e.symm)), fun x e hx => ⟨str (g4 x e hx).1, (g4 x e hx).2⟩, g5, g6⟩
theorem DV.box {W W' : World} {b : DevB} {hard : List ByteArray} {P : Wait} {k c : Nat} {t : TypeId} {cs : Array Value} (h : DV W b hard P k) (hX : SBox W c t cs) (h1 : t ≠ 9) (h2 : t ≠ 107) (T : Tch (fun x => x = c) W W') : DV W' b hard P k := by
  obtain ⟨pd, g1, g2⟩ := h
  exact ⟨pd, DevAt.box g1 hX h1 h2 T, g2⟩
theorem DV.ne {W : World} {b : DevB} {hard : List ByteArray} {P : Wait} {k c : Nat} {t : TypeId} {cs : Array Value} (h : DV W b hard P k) (hX : SBox W c t cs) (h1 : t ≠ 9) (h2 : t ≠ 107) : c ≠ b.p ∧ c ≠ b.m ∧ c ≠ b.g := by
  obtain ⟨pd, g1, _⟩ := h
  have hX' : W.heap[c]? = some (.cells cs t (0, 0)) := hX
  obtain ⟨cap, _, gd⟩ := g1.dev
  obtain ⟨cs', c1, _⟩ := g1.row
  exact ⟨boxT hX gd h2, g1.map.ne hX', boxT hX c1 h1⟩
theorem wrap_nat (n : Nat) (h : n ≤ 100000) : IntKind.i64.wrap (n : Int) = n := by
  have h1 : (2 : Int) ^ IntKind.i64.bits = 18446744073709551616 := by decide
  have h2 : (2 : Int) ^ (IntKind.i64.bits - 1) = 9223372036854775808 := by decide
  unfold IntKind.wrap
  rw [h1, h2]
  simp only []
  rw [Int.emod_eq_of_lt (by omega) (by omega), if_neg]
  intro q
  simp at q
  omega
theorem keepC {S : Nat → Prop} {W W' : World} (T : Tch S W W') {c i : Nat} (hl : c < W.heap.size) (hn : ¬ S c) {v : Value} (h : W.cell? ⟨c, i, none⟩ = some v) : W'.cell? ⟨c, i, none⟩ = some v := (cell_block (T.block _ hl hn)).trans h
theorem SBox.tch {S : Nat → Prop} {W W' : World} {c : Nat} {t : TypeId} {cs : Array Value} (h : SBox W c t cs) (T : Tch S W W') (hn : ¬ S c) : SBox W' c t cs := (T.block _ h.lt hn).trans h
theorem keepR {w W W' : World} {at_ wb wk j : Nat} {va : Value} {b : DevB} (la : at_ < w.heap.size) (lb : wb < w.heap.size) (lw : wk < w.heap.size) (lj : j < w.heap.size)
    (h : W.cell? ⟨at_, 0, none⟩ = some va ∧ W.cell? ⟨wb, 0, none⟩ = some (.pointer (some ⟨wk, 0, none⟩)) ∧ W.cell? ⟨wk, 0, none⟩ = some (.pointer (some ⟨j, 0, none⟩)) ∧ W.cell? ⟨j, 0, none⟩ = some (.pointer (some ⟨b.p, 0, none⟩)) ∧ Tch (fun c => c = b.p ∨ c = b.m) w W) (T : Tch (fun c => c = b.p ∨ c = b.m) W W')
    (na : at_ ≠ b.p ∧ at_ ≠ b.m) (nb : wb ≠ b.p ∧ wb ≠ b.m) (nw : wk ≠ b.p ∧ wk ≠ b.m) (nj : j ≠ b.p ∧ j ≠ b.m) :
    W'.cell? ⟨at_, 0, none⟩ = some va ∧ W'.cell? ⟨wb, 0, none⟩ = some (.pointer (some ⟨wk, 0, none⟩)) ∧ W'.cell? ⟨wk, 0, none⟩ = some (.pointer (some ⟨j, 0, none⟩)) ∧ W'.cell? ⟨j, 0, none⟩ = some (.pointer (some ⟨b.p, 0, none⟩)) ∧ Tch (fun c => c = b.p ∨ c = b.m) w W' := by
  obtain ⟨h1, h2, h3, h4, h5⟩ := h
  have hs := h5.size
  exact ⟨keepC T (by omega) (fun e => e.elim na.1 na.2) h1, keepC T (by omega) (fun e => e.elim nb.1 nb.2) h2, keepC T (by omega) (fun e => e.elim nw.1 nw.2) h3, keepC T (by omega) (fun e => e.elim nj.1 nj.2) h4, h5.trans T⟩
set_option maxRecDepth 100000 in
set_option maxHeartbeats 1000000 in
theorem put_any (at_ wb wk j g fr n gen0 gen len cap k at0 : Nat) (s : ByteArray) (b : DevB) (hard : List ByteArray) (P : Wait) (w : World) (hA : SBox w at_ 3 #[.int .i64 at0]) (hWB : SBox w wb 209 #[.pointer (some ⟨wk, 0, none⟩)]) (hJ : JouAt w j b fr n gen0) (hW : WkAt w wk j gen g len cap) (hD : DV w b hard P k) (hat : at0 < hard.length) (hP : P at0 = none) (hs : s.size ≤ 64) (hk : k < 1099511627776) :
    Calls Tryz.prog 163 #[.string s, .pointer (some ⟨at_, 0, none⟩), .pointer (some ⟨wb, 0, none⟩)] w fun e w' => e = .returned (.int .i64 0) ∧ DV w' b hard (upW P at0 (padB s 64)) (k + 1) ∧ SBox w' at_ 3 #[.int .i64 (at0 + 1 : Nat)] ∧ Tch (fun c => c = at_ ∨ c = b.p ∨ c = b.m) w w' := by
  have hlen := hD.len
  have PD := Lib.hid (fun W => pad_ok s 64 W (by omega) hs)
  have h64 : (padB s 64).size = 64 := by
    unfold padB
    rw [size_B, List.length_append, List.length_replicate, len_L]
    omega
  have WR := Lib.hid (fun W (h : DV W b hard P k) => dv_write (hard := hard) (P := P) at0 (padB s 64) W h hat hP h64 hk)
  generalize padB s 64 = ps at *
  unfold JouAt at hJ
  unfold WkAt at hW
  have nA := hD.ne hA (by decide) (by decide)
  have nB := hD.ne hWB (by decide) (by decide)
  have nW := hD.ne hW (by decide) (by decide)
  have nJ := hD.ne hJ (by decide) (by decide)
  have eAB : wb ≠ at_ := boxT hWB hA (by decide)
  have eAW : wk ≠ at_ := boxT hW hA (by decide)
  have eAJ : j ≠ at_ := boxT hJ hA (by decide)
  have HA := Lib.hid hA
  have HB := Lib.hid hWB
  have HJ := Lib.hid hJ
  have HW := Lib.hid hW
  have HD := Lib.hid hD
  clear hA hWB hJ hW hD
  go_enter Tryz.func163, Tryz.ntmps163
  go_wp2_with fail
  refine (PD.out _).mono ?_
  rintro e w1 ⟨rfl, b1⟩
  have hA1 := HA.out.later b1
  have HA1 := Lib.hid hA1
  have A0 := hA1.cell 0
  simp only [List.getElem?_toArray, List.getElem?_cons_zero, List.getElem?_cons_succ] at A0
  have Al := hA1.lt
  have F0 := hA1.free 0
  have T2 : Tch (fun c => c = at_) w1 (w1.setCell ⟨at_, 0, none⟩ (.int .i64 ((at0 : Int) + 1))) := Tch.set _ rfl
  have hA2 : SBox (w1.setCell ⟨at_, 0, none⟩ (.int .i64 ((at0 : Int) + 1))) at_ 3 #[.int .i64 ((at0 : Int) + 1)] := hA1.set 0 _
  have hB2 := SBox.tch (HB.out.later b1) T2 eAB
  have hW2 := SBox.tch (HW.out.later b1) T2 eAW
  have hJ2 := SBox.tch (HJ.out.later b1) T2 eAJ
  have HA2 := Lib.hid hA2
  have HD2 := Lib.hid (DV.box (HD.out.later b1) hA1 (by decide) (by decide) T2)
  have HT2 := Lib.hid ((Tch.of_below (S := fun c => c = at_ ∨ c = b.p ∨ c = b.m) b1).trans (T2.mono (fun c e => .inl e)))
  have P0 := hA2.cell 0
  simp only [List.getElem?_toArray, List.getElem?_cons_zero, List.getElem?_cons_succ] at P0
  have Pl := hA2.lt
  have Q0 := hB2.cell 0
  simp only [List.getElem?_toArray, List.getElem?_cons_zero, List.getElem?_cons_succ] at Q0
  have Ql := hB2.lt
  have X0 := hW2.cell 0
  have X1 := hW2.cell 1
  have X2 := hW2.cell 2
  simp only [List.getElem?_toArray, List.getElem?_cons_zero, List.getElem?_cons_succ] at X0 X1 X2
  have Xl := hW2.lt
  have J0 := hJ2.cell 0
  have J1 := hJ2.cell 1
  have J2 := hJ2.cell 2
  have J3 := hJ2.cell 3
  have J4 := hJ2.cell 4
  simp only [List.getElem?_toArray, List.getElem?_cons_zero, List.getElem?_cons_succ] at J0 J1 J2 J3 J4
  have Jl := hJ2.lt
  clear hA1 hA2 hB2 hW2 hJ2 T2 b1
  obtain ⟨w2, hw2⟩ : ∃ W, w1.setCell ⟨at_, 0, none⟩ (.int .i64 ((at0 : Int) + 1)) = W := ⟨_, rfl⟩
  rw [hw2] at HA2 HD2 HT2 P0 Q0 X0 X1 X2 J0 J1 J2 J3 J4 Pl Ql Xl Jl
  have e0 : IntKind.i64.wrap (at0 : Int) = at0 := wrap_nat at0 (by omega)
  go_wp2_with fail
  go_region_held3 (fun W => W.cell? ⟨at_, 0, none⟩ = some (.int .i64 ((at0 : Int) + 1)) ∧ W.cell? ⟨wb, 0, none⟩ = some (.pointer (some ⟨wk, 0, none⟩)) ∧ W.cell? ⟨wk, 0, none⟩ = some (.pointer (some ⟨j, 0, none⟩)) ∧ W.cell? ⟨j, 0, none⟩ = some (.pointer (some ⟨b.p, 0, none⟩)) ∧ Tch (fun c => c = b.p ∨ c = b.m) w2 W)
    (first | exact keepR Pl Ql Xl Jl (by assumption) t9 ⟨nA.1, nA.2.1⟩ ⟨nB.1, nB.2.1⟩ ⟨nW.1, nW.2.1⟩ ⟨nJ.1, nJ.2.1⟩ | exact ⟨P0, Q0, X0, J0, Tch.of_below (Below.refl _ _).drew⟩ | exact ⟨P0, Q0, X0, J0, Tch.of_below (Below.refl _ _)⟩)
    (first
      | (go_at_call 96; with_reducible refine (WR.out _ (HD2.out.later (Below.refl _ _).drew)).mono ?_; rintro e w9 ⟨rfl, hd9, t9⟩))
  clear e0
  rename_i hS
  obtain ⟨h1, _, _, _, h5⟩ := hS
  go_wp2
  go_ret
  refine ⟨rfl, hd9, ?_, HT2.out.trans (h5.mono (fun c e => .inr e))⟩
  have e1 : ((at0 + 1 : Nat) : Int) = (at0 : Int) + 1 := by omega
  rw [e1]
  exact SBox.tch HA2.out h5 (fun e => e.elim nA.1 nA.2.1)
/-- What is laid, one sector behind the other. -/
def layW (P : Wait) (l : Puts) : Wait := l.foldl (fun P x => upW P x.1 x.2) P
theorem layW_snoc (P : Wait) (l : Puts) (x : Nat × ByteArray) : layW P (l ++ [x]) = upW (layW P l) x.1 x.2 := by
  unfold layW
  rw [List.foldl_append]
  rfl
theorem layW_ne {q : Nat} : ∀ (l : Puts) (P : Wait), (∀ x ∈ l, x.1 ≠ q) → layW P l q = P q
  | [], P, _ => rfl
  | x :: l, P, h => by
    have e : layW P (x :: l) = layW (upW P x.1 x.2) l := rfl
    rw [e, layW_ne l _ (fun y hy => h y (List.mem_cons_of_mem _ hy))]
    exact if_neg (Ne.symm (h x (List.mem_cons_self ..)))
theorem keepL {w W W' : World} {xb wk j : Nat} {v0 v1 : Value} {b : DevB} (lx : xb < w.heap.size) (lw : wk < w.heap.size) (lj : j < w.heap.size)
    (h : W.cell? ⟨xb, 0, none⟩ = some v0 ∧ W.cell? ⟨xb, 1, none⟩ = some v1 ∧ W.cell? ⟨wk, 0, none⟩ = some (.pointer (some ⟨j, 0, none⟩)) ∧ W.cell? ⟨j, 0, none⟩ = some (.pointer (some ⟨b.p, 0, none⟩)) ∧ Tch (fun c => c = b.p ∨ c = b.m) w W) (T : Tch (fun c => c = b.p ∨ c = b.m) W W')
    (nx : xb ≠ b.p ∧ xb ≠ b.m) (nw : wk ≠ b.p ∧ wk ≠ b.m) (nj : j ≠ b.p ∧ j ≠ b.m) :
    W'.cell? ⟨xb, 0, none⟩ = some v0 ∧ W'.cell? ⟨xb, 1, none⟩ = some v1 ∧ W'.cell? ⟨wk, 0, none⟩ = some (.pointer (some ⟨j, 0, none⟩)) ∧ W'.cell? ⟨j, 0, none⟩ = some (.pointer (some ⟨b.p, 0, none⟩)) ∧ Tch (fun c => c = b.p ∨ c = b.m) w W' := by
  obtain ⟨h1, h2, h3, h4, h5⟩ := h
  have hs := h5.size
  exact ⟨keepC T (by omega) (fun e => e.elim nx.1 nx.2) h1, keepC T (by omega) (fun e => e.elim nx.1 nx.2) h2, keepC T (by omega) (fun e => e.elim nw.1 nw.2) h3, keepC T (by omega) (fun e => e.elim nj.1 nj.2) h4, h5.trans T⟩
theorem PutsAt.tch {S : Nat → Prop} {W W' : World} {g : Nat} {l : Puts} (h : PutsAt W g l) (T : Tch S W W') (hl : g < W.heap.size) (hn : ¬ S g) : PutsAt W' g l := h.block (T.block _ hl hn)
set_option maxRecDepth 100000 in
set_option maxHeartbeats 1000000 in
theorem lay_any (wk j g fr n gen0 gen cap k : Nat) (l : Puts) (b : DevB) (hard : List ByteArray) (P : Wait) (w : World) (hJ : JouAt w j b fr n gen0) (hW : WkAt w wk j gen g l.length cap) (hL : PutsAt w g l) (hg : g < w.heap.size) (hgn : g ≠ b.p ∧ g ≠ b.m) (hD : DV w b hard P k) (hd : (l.map Prod.fst).Nodup) (hl : ∀ x ∈ l, x.1 < hard.length ∧ P x.1 = none ∧ x.2.size = 64) (hlen : l.length ≤ 4096) (hk : k + 4096 < 1099511627776) :
    Calls Tryz.prog 125 #[.pointer (some ⟨wk, 0, none⟩)] w fun e w' => e = .returned (.int .i64 0) ∧ DV w' b hard (layW P l) (k + l.length) ∧ Tch (fun c => c = b.p ∨ c = b.m) w w' := by
  unfold JouAt at hJ
  unfold WkAt at hW
  have hhl := hD.len
  have nW := hD.ne hW (by decide) (by decide)
  have nJ := hD.ne hJ (by decide) (by decide)
  have HJ := Lib.hid hJ
  have HW := Lib.hid hW
  have HD := Lib.hid hD
  have HL := Lib.hid hL
  have X0 := hW.cell 0
  have X1 := hW.cell 1
  have X2 := hW.cell 2
  simp only [List.getElem?_toArray, List.getElem?_cons_zero, List.getElem?_cons_succ] at X0 X1 X2
  have Xl := hW.lt
  clear hJ hW hD hL
  go_enter Tryz.func125, Tryz.ntmps125
  go_wp2_with fail
  go_loopw [11] (fun c wr => ∃ q : Nat, q ≤ l.length ∧ c = .int .i64 q ∧ DV wr b hard (layW P (l.take q)) (k + q) ∧ Tch (fun c => c = b.p ∨ c = b.m) w wr) (fun c _ => l.length - (intOf c).toNat)
  case atStart => exact ⟨0, Nat.zero_le _, rfl, HD.out, Tch.of_below (Below.refl _ _)⟩
  case round =>
    obtain ⟨q, hq, rfl, hDr, hTr⟩ := hrel
    by_cases hlt : q < l.length
    · have hLr := HL.out.tch hTr hg (fun e => e.elim hgn.1 hgn.2)
      obtain ⟨c0, c1⟩ := hLr q hlt
      obtain ⟨m1, m2, m3⟩ := hl _ (List.getElem_mem hlt)
      have hPq : layW P (l.take q) l[q].1 = none := by
        rw [layW_ne _ _ (fun x hx e => ?_)]
        · exact m2
        · obtain ⟨i, hi, rfl⟩ := List.mem_iff_getElem.1 hx
          rw [List.length_take] at hi
          rw [List.getElem_take] at e
          have hp := List.pairwise_iff_getElem.1 hd i q (by rw [List.length_map]; omega) (by rw [List.length_map]; exact hlt) (by omega)
          rw [List.getElem_map, List.getElem_map] at hp
          exact hp e
      have hsn : layW P (l.take (q + 1)) = upW (layW P (l.take q)) l[q].1 l[q].2 := by rw [List.take_succ_eq_append_getElem hlt, layW_snoc]
      have WR := Lib.hid (fun W (h : DV W b hard (layW P (l.take q)) (k + q)) => dv_write l[q].1 l[q].2 W h m1 hPq m3 (by omega))
      rw [← hsn] at WR
      generalize hP1 : layW P (l.take (q + 1)) = P1 at *
      have HP1 := Lib.hid hP1
      clear hP1
      generalize layW P (l.take q) = P0 at *
      generalize l[q] = x at *
      obtain ⟨xs, xd⟩ := x
      simp only at c0 c1 m1 m3 WR
      have hWr := SBox.tch HW.out hTr (fun e => e.elim nW.1 nW.2.1)
      have hJr := SBox.tch HJ.out hTr (fun e => e.elim nJ.1 nJ.2.1)
      have hX6 := SBox.new wr 143 #[.int .i64 xs, .string xd]
      have hD6 := hDr.later ((Below.refl _ wr).alloc (Nat.le_refl _) (.cells #[.int .i64 xs, .string xd] 143))
      have hT6 := hTr.trans (Tch.of_below ((Below.refl _ wr).alloc (Nat.le_refl _) (.cells #[.int .i64 xs, .string xd] 143)))
      have hW6 := hWr.alloc (.cells #[.int .i64 xs, .string xd] 143)
      have hJ6 := hJr.alloc (.cells #[.int .i64 xs, .string xd] 143)
      have nX := hD6.ne hX6 (by decide) (by decide)
      have HD6 := Lib.hid hD6
      have HT6 := Lib.hid hT6
      have Y0 := hX6.cell 0
      have Y1 := hX6.cell 1
      simp only [List.getElem?_toArray, List.getElem?_cons_zero, List.getElem?_cons_succ] at Y0 Y1
      have Yl := hX6.lt
      have V0 := hW6.cell 0
      have V1 := hW6.cell 1
      have V2 := hW6.cell 2
      simp only [List.getElem?_toArray, List.getElem?_cons_zero, List.getElem?_cons_succ] at V0 V1 V2
      have Vl := hW6.lt
      have J0 := hJ6.cell 0
      have J1 := hJ6.cell 1
      have J2 := hJ6.cell 2
      have J3 := hJ6.cell 3
      have J4 := hJ6.cell 4
      simp only [List.getElem?_toArray, List.getElem?_cons_zero, List.getElem?_cons_succ] at J0 J1 J2 J3 J4
      have Jl := hJ6.lt
      have q0 : (0 : Int) ≤ q := by omega
      have q3 : (q : Int) < l.length := by omega
      clear hLr hX6 hD6 hT6 hW6 hJ6 hWr hJr hDr hTr hPq hsn m2
      go_upto_region 4 with fail
      go_region_held3 (fun W => W.cell? ⟨wr.heap.size, 0, none⟩ = some (.int .i64 xs) ∧ W.cell? ⟨wr.heap.size, 1, none⟩ = some (.string xd) ∧ W.cell? ⟨wk, 0, none⟩ = some (.pointer (some ⟨j, 0, none⟩)) ∧ W.cell? ⟨j, 0, none⟩ = some (.pointer (some ⟨b.p, 0, none⟩)) ∧ Tch (fun c => c = b.p ∨ c = b.m) (wr.alloc (.cells #[.int .i64 xs, .string xd] 143)) W)
        (first | exact keepL Yl Vl Jl (by assumption) t9 ⟨nX.1, nX.2.1⟩ ⟨nW.1, nW.2.1⟩ ⟨nJ.1, nJ.2.1⟩ | exact ⟨Y0, Y1, V0, J0, Tch.of_below (Below.refl _ _).drew⟩ | exact ⟨Y0, Y1, V0, J0, Tch.of_below (Below.refl _ _)⟩)
        (first
          | (go_at_call 96; with_reducible refine (WR.out _ (HD6.out.later (Below.refl _ _).drew)).mono ?_; rintro e w9 ⟨rfl, hd9, t9⟩))
      rename_i hS
      obtain ⟨_, _, _, _, h5⟩ := hS
      have HD9 := Lib.hid hd9
      have HT9 := Lib.hid (HT6.out.trans h5)
      clear hd9 h5 t9 Y0 Y1 V0 V1 V2 J0 J1 J2 J3 J4
      go_wp2_with fail
      go_roundw
      case rel => exact ⟨q + 1, by omega, by go_num, by rw [← Nat.add_assoc, HP1.out]; exact HD9.out, HT9.out⟩
      case measure => simp [intOf]; omega
    · obtain rfl : q = l.length := by omega
      rw [List.take_length] at hDr
      have HD9 := Lib.hid hDr
      have HT9 := Lib.hid hTr
      clear hDr hTr
      go_wp2
      go_ret
      exact ⟨rfl, HD9.out, HT9.out⟩
end Go.Proofs.YtpnfkilfgdnogaaGreatDoor.Jou
end

/- Layer 4 (journal): record. -/
section
namespace Go.Proofs.YtpnfkilfgdnogaaGreatDoor.Jou
set_option linter.unusedVariables false
set_option linter.unusedSimpArgs false
open Go.RowKit Go.Shelf Go.Maps Oct Dev Crc
/-- Where the sectors belong, as bytes. -/
def listL (l : Puts) : List UInt8 := l.flatMap fun x => numL x.1 2
theorem listL_snoc (l : Puts) (x : Nat × ByteArray) : listL (l ++ [x]) = listL l ++ numL x.1 2 := by simp [listL]
theorem listL_len (l : Puts) : (listL l).length = 2 * l.length := by
  induction l with
  | nil => rfl
  | cons x r ih =>
    have e : listL (x :: r) = numL x.1 2 ++ listL r := rfl
    rw [e, List.length_append, len_numL, ih, List.length_cons]
    omega
/-- The area's sectors, behind the head. -/
def recRows (l : Puts) : List ByteArray := (chunks 64 (listL l)).map (fun c => padB (B c) 64) ++ l.map Prod.snd
def rowW (P : Wait) (a : Nat) : List ByteArray → Wait
  | [] => P
  | s :: r => rowW (upW P a s) (a + 1) r
theorem rowW_snoc : ∀ (l : List ByteArray) (P : Wait) (a : Nat) (s : ByteArray), rowW P a (l ++ [s]) = upW (rowW P a l) (a + l.length) s
  | [], P, a, s => rfl
  | x :: r, P, a, s => by
    have e : rowW P a (x :: r ++ [s]) = rowW (upW P a x) (a + 1) (r ++ [s]) := rfl
    rw [e, rowW_snoc r, List.length_cons]
    have e2 : rowW P a (x :: r) = rowW (upW P a x) (a + 1) r := rfl
    rw [e2]
    congr 1
    omega
theorem rowW_ne : ∀ (l : List ByteArray) (P : Wait) (a q : Nat), (q < a ∨ a + l.length ≤ q) → rowW P a l q = P q
  | [], P, a, q, _ => rfl
  | x :: r, P, a, q, h => by
    have e : rowW P a (x :: r) = rowW (upW P a x) (a + 1) r := rfl
    rw [List.length_cons] at h
    rw [e, rowW_ne r _ _ q (by omega)]
    exact if_neg (by omega)
theorem chunksF_le (n : Nat) (hn : 1 ≤ n) : ∀ (f : Nat) (l : List UInt8), ∀ c ∈ chunksF n f l, c.length ≤ n
  | 0, l, c, h => by cases h
  | f + 1, l, c, h => by
    rw [chunksF] at h
    split at h
    · cases h
    · rcases List.mem_cons.1 h with rfl | h
      · rw [List.length_take]
        omega
      · exact chunksF_le n hn f _ c h
theorem chunksF_len (n : Nat) (hn : 1 ≤ n) : ∀ (f : Nat) (l : List UInt8), l.length ≤ f → (chunksF n f l).length = (l.length + n - 1) / n
  | 0, l, h => by
    have e : l.length = 0 := by omega
    rw [e]
    show 0 = _
    rw [Nat.div_eq_of_lt (by omega)]
  | f + 1, l, h => by
    rw [chunksF]
    by_cases e : l.length = 0
    · rw [if_pos e, e]
      show 0 = _
      rw [Nat.div_eq_of_lt (by omega)]
    · rw [if_neg e, List.length_cons, chunksF_len n hn f _ (by rw [List.length_drop]; omega), List.length_drop]
      rcases Nat.lt_or_ge l.length n with q | q
      · have e1 : l.length - n + n - 1 = n - 1 := by omega
        have e2 : l.length + n - 1 = (l.length - 1) + n := by omega
        rw [e1, Nat.div_eq_of_lt (by omega), e2, Nat.add_div_right _ (by omega), Nat.div_eq_of_lt (by omega)]
      · have e2 : l.length + n - 1 = (l.length - n + n - 1) + n := by omega
        rw [e2, Nat.add_div_right _ (by omega)]
theorem recRows_len (l : Puts) : (recRows l).length = (2 * l.length + 63) / 64 + l.length := by
  unfold recRows chunks
  rw [List.length_append, List.length_map, List.length_map, chunksF_len 64 (by omega) _ _ (Nat.le_refl _), listL_len]
  rfl
theorem padB_full {s : ByteArray} (h : s.size = 64) : padB s 64 = s := by
  unfold padB
  rw [h]
  show B (L s ++ []) = s
  rw [List.append_nil, B_L]
theorem tch_new {S : Nat → Prop} {w X Y : World} {a : Nat} (h : Tch S w X) (g : Tch (fun c => c = a ∨ S c) X Y) (ha : w.heap.size ≤ a) : Tch S w Y :=
  ⟨g.os.trans h.os, g.tape.trans h.tape, g.output.trans h.output, Nat.le_trans h.size g.size, fun c hc hs => (g.block c (Nat.lt_of_lt_of_le hc h.size) (fun e => e.elim (fun q => by omega) hs)).trans (h.block c hc hs)⟩
/-- A cell of this value lies in no such box. -/
theorem cell_ne {W : World} {c d i : Nat} {t : TypeId} {cs : Array Value} {v : Value} (hX : SBox W c t cs) (h : W.cell? ⟨d, i, none⟩ = some v) (hv : ∀ k : Nat, cs[k]? ≠ some v) : d ≠ c := fun e => by
  subst e
  rw [hX.cell i] at h
  exact hv i h
/-- So many sectors of the area are written. -/
def PutSt (w : World) (b : DevB) (hard : List ByteArray) (k fr wk : Nat) (rows : List ByteArray) (W : World) : Prop :=
  DV W b hard (rowW noW (fr + 1) rows) (k + rows.length) ∧ SBox W (w.heap.size + 1) 3 #[.int .i64 (fr + 1 + rows.length : Nat)] ∧ SBox W w.heap.size 209 #[.pointer (some ⟨wk, 0, none⟩)] ∧ Tch (fun c => c = b.p ∨ c = b.m) w W
theorem PutSt.later {w W W' : World} {b : DevB} {hard : List ByteArray} {k fr wk : Nat} {rows : List ByteArray} (h : PutSt w b hard k fr wk rows W) (hb : Below W.heap.size W W') : PutSt w b hard k fr wk rows W' := ⟨h.1.later hb, h.2.1.later hb, h.2.2.1.later hb, h.2.2.2.trans (Tch.of_below hb)⟩
theorem put_step (wk j g fr n gen0 gen len cap k : Nat) (rows : List ByteArray) (s : ByteArray) (b : DevB) (hard : List ByteArray) (w W : World) (hJ : JouAt w j b fr n gen0) (hW : WkAt w wk j gen g len cap) (nW : wk ≠ b.p ∧ wk ≠ b.m) (nJ : j ≠ b.p ∧ j ≠ b.m) (h : PutSt w b hard k fr wk rows W) (hs : s.size ≤ 64) (hr : fr + 1 + rows.length < hard.length) (hk : k + rows.length < 1099511627776) :
    Calls Tryz.prog 163 #[.string s, .pointer (some ⟨w.heap.size + 1, 0, none⟩), .pointer (some ⟨w.heap.size, 0, none⟩)] W fun e W' => e = .returned (.int .i64 0) ∧ PutSt w b hard k fr wk (rows ++ [padB s 64]) W' ∧ Tch (fun c => c = w.heap.size + 1 ∨ c = b.p ∨ c = b.m) W W' := by
  obtain ⟨h1, h2, h3, h4⟩ := h
  unfold JouAt at hJ
  unfold WkAt at hW
  have hJ2 : JouAt W j b fr n gen0 := SBox.tch hJ h4 (fun e => e.elim nJ.1 nJ.2)
  have hW2 : WkAt W wk j gen g len cap := SBox.tch hW h4 (fun e => e.elim nW.1 nW.2)
  have hne : w.heap.size ≠ w.heap.size + 1 := by omega
  have n3 := h1.ne h3 (by decide) (by decide)
  refine (put_any (w.heap.size + 1) w.heap.size wk j g fr n gen0 gen len cap (k + rows.length) (fr + 1 + rows.length) s b hard _ W h2 h3 hJ2 hW2 h1 hr (by rw [rowW_ne _ _ _ _ (.inr (Nat.le_refl _))]; rfl) hs hk).mono ?_
  rintro e W' ⟨rfl, g1, g2, g3⟩
  refine ⟨rfl, ⟨?_, ?_, SBox.tch h3 g3 (fun e => e.elim hne (fun e => e.elim n3.1 n3.2.1)), tch_new h4 g3 (by omega)⟩, g3⟩
  · rw [rowW_snoc, List.length_append]
    exact g1
  · rw [List.length_append]
    exact g2
set_option maxRecDepth 100000 in
set_option maxHeartbeats 2000000 in
theorem record_any (wk j g fr n gen0 gen cap k : Nat) (l : Puts) (b : DevB) (hard : List ByteArray) (w : World) (hJ : JouAt w j b fr n gen0) (hW : WkAt w wk j gen g l.length cap) (hL : PutsAt w g l) (hg : g < w.heap.size) (hgn : g ≠ b.p ∧ g ≠ b.m) (hD : DV w b hard noW k) (hl : ∀ x ∈ l, x.1 < 65536 ∧ x.2.size = 64) (hlen : l.length ≤ 4096) (hn : 1 + (recRows l).length ≤ n) (hfr : fr + n ≤ hard.length) (hk : k + 20000 < 1099511627776) :
    Calls Tryz.prog 123 #[.pointer (some ⟨wk, 0, none⟩)] w fun e w' => e = .returned (.int .i64 0) ∧ DV w' b hard (rowW noW (fr + 1) (recRows l)) (k + (recRows l).length) ∧ Tch (fun c => c = b.p ∨ c = b.m) w w' := by
  unfold JouAt at hJ
  unfold WkAt at hW
  have hhl := hD.len
  have nW := hD.ne hW (by decide) (by decide)
  have nJ := hD.ne hJ (by decide) (by decide)
  have HJ := Lib.hid hJ
  have HW := Lib.hid hW
  have HL := Lib.hid hL
  have hX1 := SBox.new w 209 #[.pointer (some ⟨wk, 0, none⟩)]
  have hX2 := hX1.alloc (.cells #[.int .i64 ((fr : Int) + 1)] 3)
  have hA2 := SBox.new (w.alloc (.cells #[.pointer (some ⟨wk, 0, none⟩)] 209)) 3 #[.int .i64 ((fr : Int) + 1)]
  rw [World.size_alloc] at hA2
  have hB2 := ((Below.refl _ w).alloc (Nat.le_refl _) (.cells #[.pointer (some ⟨wk, 0, none⟩)] 209)).alloc (by simp) (.cells #[.int .i64 ((fr : Int) + 1)] 3)
  have HX2 := Lib.hid hX2
  have HA2 := Lib.hid hA2
  have HB2 := Lib.hid hB2
  have HD := Lib.hid hD
  have X0 := hX1.cell 0
  simp only [List.getElem?_toArray, List.getElem?_cons_zero, List.getElem?_cons_succ] at X0
  have Xl := hX1.lt
  have V0 := hW.cell 0
  have V1 := hW.cell 1
  have V2 := hW.cell 2
  simp only [List.getElem?_toArray, List.getElem?_cons_zero, List.getElem?_cons_succ] at V0 V1 V2
  have Vl := hW.lt
  have J0 := hJ.cell 0
  have J1 := hJ.cell 1
  have J2 := hJ.cell 2
  have J3 := hJ.cell 3
  have J4 := hJ.cell 4
  simp only [List.getElem?_toArray, List.getElem?_cons_zero, List.getElem?_cons_succ] at J0 J1 J2 J3 J4
  have Jl := hJ.lt
  clear hJ hW hD hL hX1 hX2 hA2 hB2
  have NU := Lib.hid (fun (x : Nat) W (h : x < 65536) => num_any x 2 W (by omega) (by simpa using h))
  go_enter Tryz.func123, Tryz.ntmps123
  go_wp2_with fail
  go_loopw [5, 30] (fun t c wr => ∃ q : Nat, q ≤ l.length ∧ c = .int .i64 q ∧ t = .string (B (listL (l.take q))) ∧ Below ((w.alloc (.cells #[.pointer (some ⟨wk, 0, none⟩)] 209)).alloc (.cells #[.int .i64 ((fr : Int) + 1)] 3)).heap.size ((w.alloc (.cells #[.pointer (some ⟨wk, 0, none⟩)] 209)).alloc (.cells #[.int .i64 ((fr : Int) + 1)] 3)) wr) (fun _ c _ => l.length - (intOf c).toNat)
  case atStart => exact ⟨0, Nat.zero_le _, rfl, rfl, Below.refl _ _⟩
  case round =>
    obtain ⟨q, hq, rfl, rfl, hB⟩ := hrel
    have HBr := Lib.hid (HB2.out.trans (hB.mono HB2.out.size))
    have HBq := Lib.hid hB
    have hBq := hB
    clear hB
    by_cases hlt : q < l.length
    · have hLr := HL.out.later hg HBr.out
      obtain ⟨c0, c1⟩ := hLr q hlt
      obtain ⟨m1, m2⟩ := hl _ (List.getElem_mem hlt)
      have hsn : listL (l.take (q + 1)) = listL (l.take q) ++ numL l[q].1 2 := by rw [List.take_succ_eq_append_getElem hlt, listL_snoc]
      have HSN := Lib.hid hsn
      have hz : (B (listL (l.take q))).size ≤ 8192 := by
        rw [size_B, listL_len, List.length_take]
        omega
      have z2 : (B (numL l[q].1 2)).size = 2 := by rw [size_B, len_numL]
      have AP : Hid (B (listL (l.take q)) ++ B (numL l[q].1 2) = B (listL (l.take (q + 1)))) := Lib.hid (by rw [append_B, L_B, L_B, hsn])
      have NX := Lib.hid (fun W => NU.out l[q].1 W m1)
      generalize B (listL (l.take q)) = s0 at *
      generalize B (numL l[q].1 2) = ns at *
      generalize l[q] = x at *
      obtain ⟨xs, xd⟩ := x
      simp only at c0 c1 m1 m2 NX
      have hX6 := SBox.new wr 143 #[.int .i64 xs, .string xd]
      have HB6 := Lib.hid (HBq.out.alloc HBq.out.size (.cells #[.int .i64 xs, .string xd] 143))
      have Y0 := hX6.cell 0
      have Y1 := hX6.cell 1
      simp only [List.getElem?_toArray, List.getElem?_cons_zero, List.getElem?_cons_succ] at Y0 Y1
      have Yl := hX6.lt
      have q0 : (0 : Int) ≤ q := by omega
      have q3 : (q : Int) < l.length := by omega
      clear hLr hX6 hsn HSN hBq
      go_wp2_with fail
      refine (NX.out _).mono ?_
      rintro e w7 ⟨rfl, b7⟩
      have HB7 := Lib.hid (HB6.out.trans (b7.mono HB6.out.size))
      clear b7
      go_wp2_with fail
      go_roundw
      case rel => exact ⟨q + 1, by omega, by go_num, by rw [AP.out], HB7.out⟩
      case measure => simp [intOf]; omega
    · obtain rfl : q = l.length := by omega
      rw [List.take_length]
      have SP := Lib.hid (fun W => split_ok (B (listL l)) 64 W (by rw [size_B, listL_len]; omega) (by omega) (by omega))
      unfold SplitPost at SP
      rw [L_B] at SP
      clear HBq NU
      generalize B (listL l) = sl at *
      go_wp2_with fail
      refine (SP.out _).mono ?_
      rintro e w5 ⟨v, rfl, hS, b5⟩
      obtain ⟨ps, hps⟩ : ∃ ps, (chunks 64 (listL l)).map B = ps := ⟨_, rfl⟩
      rw [hps] at hS
      have hp64 : ∀ s ∈ ps, s.size ≤ 64 := fun s hs => by
        rw [← hps] at hs
        obtain ⟨c, hc, rfl⟩ := List.mem_map.1 hs
        rw [size_B]
        exact chunksF_le 64 (by omega) _ _ c hc
      have hrows : recRows l = ps.map (fun s => padB s 64) ++ l.map Prod.snd := by
        unfold recRows
        rw [← hps, List.map_map]
        rfl
      obtain ⟨ao, cap2, rfl, hcell⟩ : ∃ ao cap2, v = .slice ao ps.length cap2 ∧ (ps.length = 0 ∨ ∃ d o, ao = some ⟨d, o, none⟩ ∧ d < w5.heap.size ∧ ∀ j (h : j < ps.length), w5.cell? ⟨d, o + j, none⟩ = some (.string ps[j])) := by
        rcases hS with ⟨rfl, rfl⟩ | ⟨d, o, c, rfl, _, h1, h2⟩ | ⟨a, c, rfl, rfl⟩
        · exact ⟨none, 0, rfl, .inl rfl⟩
        · exact ⟨_, c, rfl, .inr ⟨d, o, rfl, h1, h2⟩⟩
        · exact ⟨_, c, rfl, .inl rfl⟩
      have hHB5 := HBr.out.trans (b5.mono HBr.out.size)
      have hP5 : PutSt w b hard k fr wk [] w5 := ⟨(HD.out.later hHB5), HA2.out.later (hBq.trans (b5.mono hBq.size)), HX2.out.later (hBq.trans (b5.mono hBq.size)), Tch.of_below hHB5⟩
      have HP5 := Lib.hid hP5
      have HB5 := Lib.hid hHB5
      have HRW := Lib.hid hrows
      have hpl : (ps.map (fun s => padB s 64)).length + l.length = (recRows l).length := by rw [hrows, List.length_append, List.length_map, List.length_map]
      rw [List.length_map] at hpl
      have PS := Lib.hid (fun (rows : List ByteArray) (s : ByteArray) W (h : PutSt w b hard k fr wk rows W) (hs : s.size ≤ 64) (hr : rows.length < (recRows l).length) => put_step wk j g fr n gen0 gen l.length cap k rows s b hard w W HJ.out HW.out ⟨nW.1, nW.2.1⟩ ⟨nJ.1, nJ.2.1⟩ h hs (by omega) (by omega))
      have HC := Lib.hid hcell
      have HP64 := Lib.hid hp64
      clear hS b5 hcell hps hHB5 hP5 hrows hp64 SP X0 Xl V0 V1 V2 Vl J0 J1 J2 J3 J4 Jl
      go_wp2_with fail
      go_loopw [48] (fun c wr => ∃ q : Nat, q ≤ ps.length ∧ c = .int .i64 q ∧ PutSt w b hard k fr wk ((ps.take q).map (fun s => padB s 64)) wr ∧ (ps.length = 0 ∨ ∃ d o, ao = some ⟨d, o, none⟩ ∧ d < wr.heap.size ∧ ∀ j (h : j < ps.length), wr.cell? ⟨d, o + j, none⟩ = some (.string ps[j]))) (fun c _ => ps.length - (intOf c).toNat)
      case atStart => exact ⟨0, Nat.zero_le _, rfl, HP5.out, HC.out⟩
      case round =>
        obtain ⟨q, hq, rfl, hPr, hcr⟩ := hrel
        have HPr := Lib.hid hPr
        by_cases hlt : q < ps.length
        · obtain ⟨d, o, rfl, hdl, hcs⟩ := hcr.resolve_left (by omega)
          have c0 := hcs q hlt
          have hsn : (ps.take (q + 1)).map (fun s => padB s 64) = (ps.take q).map (fun s => padB s 64) ++ [padB ps[q] 64] := by rw [List.take_succ_eq_append_getElem hlt, List.map_append]; rfl
          have ml : ((ps.take q).map (fun s => padB s 64)).length = q := by rw [List.length_map, List.length_take]; omega
          have PQ := PS.out _ ps[q] wr HPr.out (HP64.out _ (List.getElem_mem hlt)) (by rw [ml]; omega)
          rw [← hsn] at PQ
          have nd1 : d ≠ w.heap.size + 1 := cell_ne hPr.2.1 c0 (fun k e => by
            match k with
            | 0 => cases e
            | k + 1 => cases e)
          obtain ⟨cap0, _, hdv⟩ := hPr.1.dev
          have nd2 : d ≠ b.p := cell_ne hdv c0 (fun k e => by
            unfold devCells at e
            match k with
            | 0 => cases e
            | 1 => cases e
            | 2 => cases e
            | 3 => cases e
            | 4 => cases e
            | 5 => cases e
            | k + 6 => cases e)
          have nd3 : d ≠ b.m := fun e => by
            obtain ⟨pd, hpd, _⟩ := hPr.1
            obtain ⟨es, ck, hm⟩ := hpd.map.isMap
            rw [e] at c0
            unfold World.cell? at c0
            rw [hm] at c0
            cases c0
          have PQ := Lib.hid PQ
          have HCS := Lib.hid hcs
          have q0 : (0 : Int) ≤ q := by omega
          have q3 : (q : Int) < ps.length := by omega
          clear hPr hcr hcs hsn
          generalize ps[q] = s at *
          go_wp2_with fail
          refine PQ.out.mono ?_
          rintro e w7 ⟨rfl, hP7, t7⟩
          have HP7 := Lib.hid hP7
          have HC7 := Lib.hid (fun j (h : j < ps.length) => keepC (i := o + j) t7 hdl (fun e => e.elim nd1 (fun e => e.elim nd2 nd3)) (HCS.out j h))
          have hd7 := Nat.lt_of_lt_of_le hdl t7.size
          clear hP7 t7
          go_wp2_with fail
          go_roundw
          case rel => exact ⟨q + 1, by omega, by go_num, HP7.out, .inr ⟨d, o, rfl, hd7, HC7.out⟩⟩
          case measure => simp [intOf]; omega
        · obtain rfl : q = ps.length := by omega
          rw [List.take_length] at HPr
          have hp1 : (ps.map (fun s => padB s 64)).length = ps.length := List.length_map ..
          generalize ps.map (fun s => padB s 64) = rows1 at *
          clear hPr hcr HC HP5
          have HP6 := HPr.out
          have hX6 := HP6.2.2.1
          have hW6 : SBox wr wk 211 #[.pointer (some ⟨j, 0, none⟩), .int .u64 gen, .slice (some ⟨g, 0, none⟩) l.length cap] := SBox.tch HW.out HP6.2.2.2 (fun e => e.elim nW.1 nW.2.1)
          have X0 := hX6.cell 0
          simp only [List.getElem?_toArray, List.getElem?_cons_zero, List.getElem?_cons_succ] at X0
          have Xl := hX6.lt
          have V0 := hW6.cell 0
          have V1 := hW6.cell 1
          have V2 := hW6.cell 2
          simp only [List.getElem?_toArray, List.getElem?_cons_zero, List.getElem?_cons_succ] at V0 V1 V2
          have Vl := hW6.lt
          clear HP6 hX6 hW6
          go_wp2_with fail
          go_loopw [64] (fun c wq => ∃ q : Nat, q ≤ l.length ∧ c = .int .i64 q ∧ PutSt w b hard k fr wk (rows1 ++ (l.take q).map Prod.snd) wq) (fun c _ => l.length - (intOf c).toNat)
          case atStart => exact ⟨0, Nat.zero_le _, rfl, by simpa using HPr.out⟩
          case round =>
            obtain ⟨q, hq, rfl, hPq⟩ := hrel
            have HPq := Lib.hid hPq
            by_cases hlt : q < l.length
            · have hLr := HL.out.tch hPq.2.2.2 hg (fun e => e.elim hgn.1 hgn.2)
              obtain ⟨c0, c1⟩ := hLr q hlt
              obtain ⟨_, m2⟩ := hl _ (List.getElem_mem hlt)
              have hsn : rows1 ++ (l.take (q + 1)).map Prod.snd = (rows1 ++ (l.take q).map Prod.snd) ++ [padB l[q].2 64] := by
                rw [padB_full m2, List.take_succ_eq_append_getElem hlt, List.map_append, List.append_assoc]
                rfl
              have ml : (rows1 ++ (l.take q).map Prod.snd).length = ps.length + q := by rw [List.length_append, List.length_map, List.length_take, hp1]; omega
              have hPq6 := hPq.later ((Below.refl _ wr).alloc (Nat.le_refl _) (.cells #[.int .i64 l[q].1, .string l[q].2] 143))
              have PQ := PS.out _ l[q].2 _ hPq6 (by omega) (by rw [ml]; omega)
              rw [← hsn] at PQ
              have PQ := Lib.hid PQ
              have hX7 := SBox.new wr 143 #[.int .i64 l[q].1, .string l[q].2]
              have Y0 := hX7.cell 0
              have Y1 := hX7.cell 1
              simp only [List.getElem?_toArray, List.getElem?_cons_zero, List.getElem?_cons_succ] at Y0 Y1
              have Yl := hX7.lt
              have q0 : (0 : Int) ≤ q := by omega
              have q3 : (q : Int) < l.length := by omega
              clear hLr hPq hsn hX7 hPq6
              generalize l[q] = x at *
              obtain ⟨xs, xd⟩ := x
              simp only at c0 c1 m2 Y0 Y1
              go_wp2_with fail
              refine PQ.out.mono ?_
              rintro e w7 ⟨rfl, hP7, t7⟩
              have HP7 := Lib.hid hP7
              clear hP7 t7
              go_wp2_with fail
              go_roundw
              case rel => exact ⟨q + 1, by omega, by go_num, HP7.out⟩
              case measure => simp [intOf]; omega
            · obtain rfl : q = l.length := by omega
              rw [List.take_length, ← HRW.out] at hPq
              have HP9 := Lib.hid hPq
              clear hPq HPq
              go_wp2
              go_ret
              exact ⟨rfl, HP9.out.1, HP9.out.2.2.2⟩
end Go.Proofs.YtpnfkilfgdnogaaGreatDoor.Jou
end

/- Layer 4 (journal): run, of the eight steps of a commit. -/
section
namespace Go.Proofs.YtpnfkilfgdnogaaGreatDoor.Jou
set_option linter.unusedVariables false
set_option linter.unusedSimpArgs false
open Go.RowKit Go.Shelf Go.Maps Oct Dev Crc
set_option maxRecDepth 100000 in
set_option maxHeartbeats 2000000 in
theorem run_8 (d wk p : Nat) (R : Nat → World → Prop) (w : World) (hR : R 0 w) (hl : ∀ q W, R q W → d < W.heap.size) (c0 : ∀ W, R 0 W → W.cell? ⟨d, 0, none⟩ = some (.func (.func 123) #[.pointer (some ⟨wk, 0, none⟩)] #[])) (c1 : ∀ W, R 1 W → W.cell? ⟨d, 1, none⟩ = some (.func (.func 97) #[.pointer (some ⟨p, 0, none⟩)] #[])) (c2 : ∀ W, R 2 W → W.cell? ⟨d, 2, none⟩ = some (.func (.func 124) #[.pointer (some ⟨wk, 0, none⟩)] #[])) (c3 : ∀ W, R 3 W → W.cell? ⟨d, 3, none⟩ = some (.func (.func 97) #[.pointer (some ⟨p, 0, none⟩)] #[])) (c4 : ∀ W, R 4 W → W.cell? ⟨d, 4, none⟩ = some (.func (.func 125) #[.pointer (some ⟨wk, 0, none⟩)] #[])) (c5 : ∀ W, R 5 W → W.cell? ⟨d, 5, none⟩ = some (.func (.func 97) #[.pointer (some ⟨p, 0, none⟩)] #[])) (c6 : ∀ W, R 6 W → W.cell? ⟨d, 6, none⟩ = some (.func (.func 126) #[.pointer (some ⟨wk, 0, none⟩)] #[])) (c7 : ∀ W, R 7 W → W.cell? ⟨d, 7, none⟩ = some (.func (.func 97) #[.pointer (some ⟨p, 0, none⟩)] #[])) (h0 : ∀ W, R 0 W → Calls Tryz.prog 123 #[.pointer (some ⟨wk, 0, none⟩)] W fun e W' => e = .returned (.int .i64 0) ∧ R 1 W') (h1 : ∀ W, R 1 W → Calls Tryz.prog 97 #[.pointer (some ⟨p, 0, none⟩)] W fun e W' => e = .returned (.int .i64 0) ∧ R 2 W') (h2 : ∀ W, R 2 W → Calls Tryz.prog 124 #[.pointer (some ⟨wk, 0, none⟩)] W fun e W' => e = .returned (.int .i64 0) ∧ R 3 W') (h3 : ∀ W, R 3 W → Calls Tryz.prog 97 #[.pointer (some ⟨p, 0, none⟩)] W fun e W' => e = .returned (.int .i64 0) ∧ R 4 W') (h4 : ∀ W, R 4 W → Calls Tryz.prog 125 #[.pointer (some ⟨wk, 0, none⟩)] W fun e W' => e = .returned (.int .i64 0) ∧ R 5 W') (h5 : ∀ W, R 5 W → Calls Tryz.prog 97 #[.pointer (some ⟨p, 0, none⟩)] W fun e W' => e = .returned (.int .i64 0) ∧ R 6 W') (h6 : ∀ W, R 6 W → Calls Tryz.prog 126 #[.pointer (some ⟨wk, 0, none⟩)] W fun e W' => e = .returned (.int .i64 0) ∧ R 7 W') (h7 : ∀ W, R 7 W → Calls Tryz.prog 97 #[.pointer (some ⟨p, 0, none⟩)] W fun e W' => e = .returned (.int .i64 0) ∧ R 8 W') :
    Calls Tryz.prog 122 #[.slice (some ⟨d, 0, none⟩) 8 8] w fun e w' => e = .returned (.int .i64 0) ∧ R 8 w' := by
  have C0 := Lib.hid c0
  have H0 := Lib.hid h0
  have C1 := Lib.hid c1
  have H1 := Lib.hid h1
  have C2 := Lib.hid c2
  have H2 := Lib.hid h2
  have C3 := Lib.hid c3
  have H3 := Lib.hid h3
  have C4 := Lib.hid c4
  have H4 := Lib.hid h4
  have C5 := Lib.hid c5
  have H5 := Lib.hid h5
  have C6 := Lib.hid c6
  have H6 := Lib.hid h6
  have C7 := Lib.hid c7
  have H7 := Lib.hid h7
  have HR := Lib.hid hR
  have HL := Lib.hid hl
  clear c0 c1 c2 c3 c4 c5 c6 c7 h0 h1 h2 h3 h4 h5 h6 h7 hR hl
  go_enter Tryz.func122, Tryz.ntmps122
  go_wp2_with fail
  go_step3
  go_wp2_with fail
  go_step3
  go_wp2_with fail
  go_loopw [2, 7] (fun e c wr => ∃ q : Nat, q ≤ 8 ∧ c = .int .i64 q ∧ e = .int .i64 0 ∧ R q wr) (fun _ c _ => 8 - (intOf c).toNat)
  case atStart => exact ⟨0, by omega, rfl, rfl, HR.out⟩
  case round =>
    obtain ⟨q, hq, rfl, rfl, hr⟩ := hrel
    rcases (by omega : q = 0 ∨ q = 1 ∨ q = 2 ∨ q = 3 ∨ q = 4 ∨ q = 5 ∨ q = 6 ∨ q = 7 ∨ q = 8) with rfl | rfl | rfl | rfl | rfl | rfl | rfl | rfl | rfl
    · have x0 := C0.out _ hr
      have K := Lib.hid (H0.out _ hr)
      have xl := HL.out _ _ hr
      clear hr
      go_wp2_with fail
      refine K.out.mono ?_
      rintro e w7 ⟨rfl, h7⟩
      have H7 := Lib.hid h7
      clear h7
      go_wp2_with fail
      go_roundw
      case rel => exact ⟨1, by omega, by go_num, rfl, H7.out⟩
      case measure => simp [intOf]
    · have x0 := C1.out _ hr
      have K := Lib.hid (H1.out _ hr)
      have xl := HL.out _ _ hr
      clear hr
      go_wp2_with fail
      refine K.out.mono ?_
      rintro e w7 ⟨rfl, h7⟩
      have H7 := Lib.hid h7
      clear h7
      go_wp2_with fail
      go_roundw
      case rel => exact ⟨2, by omega, by go_num, rfl, H7.out⟩
      case measure => simp [intOf]
    · have x0 := C2.out _ hr
      have K := Lib.hid (H2.out _ hr)
      have xl := HL.out _ _ hr
      clear hr
      go_wp2_with fail
      refine K.out.mono ?_
      rintro e w7 ⟨rfl, h7⟩
      have H7 := Lib.hid h7
      clear h7
      go_wp2_with fail
      go_roundw
      case rel => exact ⟨3, by omega, by go_num, rfl, H7.out⟩
      case measure => simp [intOf]
    · have x0 := C3.out _ hr
      have K := Lib.hid (H3.out _ hr)
      have xl := HL.out _ _ hr
      clear hr
      go_wp2_with fail
      refine K.out.mono ?_
      rintro e w7 ⟨rfl, h7⟩
      have H7 := Lib.hid h7
      clear h7
      go_wp2_with fail
      go_roundw
      case rel => exact ⟨4, by omega, by go_num, rfl, H7.out⟩
      case measure => simp [intOf]
    · have x0 := C4.out _ hr
      have K := Lib.hid (H4.out _ hr)
      have xl := HL.out _ _ hr
      clear hr
      go_wp2_with fail
      refine K.out.mono ?_
      rintro e w7 ⟨rfl, h7⟩
      have H7 := Lib.hid h7
      clear h7
      go_wp2_with fail
      go_roundw
      case rel => exact ⟨5, by omega, by go_num, rfl, H7.out⟩
      case measure => simp [intOf]
    · have x0 := C5.out _ hr
      have K := Lib.hid (H5.out _ hr)
      have xl := HL.out _ _ hr
      clear hr
      go_wp2_with fail
      refine K.out.mono ?_
      rintro e w7 ⟨rfl, h7⟩
      have H7 := Lib.hid h7
      clear h7
      go_wp2_with fail
      go_roundw
      case rel => exact ⟨6, by omega, by go_num, rfl, H7.out⟩
      case measure => simp [intOf]
    · have x0 := C6.out _ hr
      have K := Lib.hid (H6.out _ hr)
      have xl := HL.out _ _ hr
      clear hr
      go_wp2_with fail
      refine K.out.mono ?_
      rintro e w7 ⟨rfl, h7⟩
      have H7 := Lib.hid h7
      clear h7
      go_wp2_with fail
      go_roundw
      case rel => exact ⟨7, by omega, by go_num, rfl, H7.out⟩
      case measure => simp [intOf]
    · have x0 := C7.out _ hr
      have K := Lib.hid (H7.out _ hr)
      have xl := HL.out _ _ hr
      clear hr
      go_wp2_with fail
      refine K.out.mono ?_
      rintro e w7 ⟨rfl, h7⟩
      have H7 := Lib.hid h7
      clear h7
      go_wp2_with fail
      go_roundw
      case rel => exact ⟨8, by omega, by go_num, rfl, H7.out⟩
      case measure => simp [intOf]
    · have H7 := Lib.hid hr
      clear hr
      go_wp2
      rw [Exit.noGoto_ret]
      go_ret
      exact ⟨rfl, H7.out⟩
end Go.Proofs.YtpnfkilfgdnogaaGreatDoor.Jou
end

/- Layer 4 (journal): why, of a transaction that can be. -/
section
namespace Go.Proofs.YtpnfkilfgdnogaaGreatDoor.Jou
set_option linter.unusedVariables false
set_option linter.unusedSimpArgs false
open Go.RowKit Go.Shelf Go.Maps Oct Dev Crc
theorem below_drewNJ {w W : World} {n : Nat} (h : Below n w W) : ∀ m, Below n w (W.drewN m)
  | 0 => h
  | m + 1 => (below_drewNJ h m).drew
theorem dv_len (b : DevB) (hard : List ByteArray) (P : Wait) (k : Nat) (W : World) (m : Nat) (h : DV W b hard P k) : Calls Tryz.prog 92 #[.pointer (some ⟨b.p, 0, none⟩)] (W.drewN m) fun e w' => e = .returned (.int .i64 hard.length) ∧ w' = W.drewN m := by
  obtain ⟨pd, h1, _⟩ := h
  refine (len_any _ (h1.later (below_drewNJ (Below.refl _ _) m))).mono ?_
  rintro e w' ⟨rfl, rfl⟩
  exact ⟨rfl, rfl⟩
/-- A transaction that can be. -/
structure Fits (hard : List ByteArray) (fr n : Nat) (l : Puts) : Prop where
  lt : ∀ x ∈ l, x.1 < hard.length
  size : ∀ x ∈ l, x.2.size = 64
  out : ∀ x ∈ l, x.1 < fr ∨ fr + n ≤ x.1
  len : l.length ≤ mostN n
set_option maxRecDepth 100000 in
set_option maxHeartbeats 2000000 in
theorem why_any (j g fr n gen0 cap k : Nat) (l : Puts) (b : DevB) (hard : List ByteArray) (P : Wait) (w : World) (hJ : JouAt w j b fr n gen0) (hL : PutsAt w g l) (hg : g < w.heap.size) (hD : DV w b hard P k) (hf : Fits hard fr n l) (hl4 : l.length ≤ 4096) (hn : n ≤ 4096) (hfr : fr ≤ 4096) :
    Calls Tryz.prog 121 #[.pointer (some ⟨j, 0, none⟩), .slice (some ⟨g, 0, none⟩) l.length cap] w fun e w' => e = .returned (.int .i64 0) ∧ Below w.heap.size w w' := by
  have hhl := hD.len
  have HJ := Lib.hid hJ
  have HL := Lib.hid hL
  have HD := Lib.hid hD
  have MX := Lib.hid (fun W (h : Below w.heap.size w W) => max_any j b fr n gen0 W (SBox.later HJ.out h) (by omega))
  unfold JouAt at hJ
  clear hJ hL hD
  go_enter Tryz.func121, Tryz.ntmps121
  go_wp2_with fail
  go_loopw [11] (fun c wr => ∃ q : Nat, q ≤ l.length ∧ c = .int .i64 q ∧ Below w.heap.size w wr) (fun c _ => l.length - (intOf c).toNat)
  case atStart => exact ⟨0, Nat.zero_le _, rfl, Below.refl _ _⟩
  case round =>
    obtain ⟨q, hq, rfl, hB⟩ := hrel
    have HBr := Lib.hid hB
    by_cases hlt : q < l.length
    · have hLr := HL.out.later hg hB
      obtain ⟨c0, c1⟩ := hLr q hlt
      have m1 := hf.lt _ (List.getElem_mem hlt)
      have m2 := hf.size _ (List.getElem_mem hlt)
      generalize l[q] = x at *
      obtain ⟨xs, xd⟩ := x
      simp only at c0 c1 m1 m2
      have hX6 := SBox.new wr 143 #[.int .i64 xs, .string xd]
      have hB6 := hB.alloc hB.size (.cells #[.int .i64 xs, .string xd] 143)
      have hJ6 : SBox _ j 185 _ := SBox.later HJ.out hB6
      have LN := Lib.hid (fun m => dv_len b hard P k _ m (HD.out.later hB6))
      have HB6 := Lib.hid hB6
      have Y0 := hX6.cell 0
      have Y1 := hX6.cell 1
      simp only [List.getElem?_toArray, List.getElem?_cons_zero, List.getElem?_cons_succ] at Y0 Y1
      have Yl := hX6.lt
      have J0 := hJ6.cell 0
      have J1 := hJ6.cell 1
      have J2 := hJ6.cell 2
      have J3 := hJ6.cell 3
      have J4 := hJ6.cell 4
      simp only [List.getElem?_toArray, List.getElem?_cons_zero, List.getElem?_cons_succ] at J0 J1 J2 J3 J4
      have Jl := hJ6.lt
      have q0 : (0 : Int) ≤ q := by omega
      have q3 : (q : Int) < l.length := by omega
      have t1 : decide ((xs : Int) < 0) = false := by simp
      have t2 : decide ((hard.length : Int) ≤ (xs : Int)) = false := by simp; omega
      have t2b : decide (hard.length ≤ xs) = false := by simp; omega
      have t3 : ((xd.size : Int) != 64) = false := by simp; omega
      clear hLr hX6 hB hB6 hJ6
      go_upto_region 4 with fail
      go_quiet ((go_at_call 92; exact Calls.quiet_of_same (LN.out _)))
      have HB7 := Lib.hid (below_drewNJ HB6.out nq)
      go_wp2_with fail
      go_roundw
      case rel => exact ⟨q + 1, by omega, by go_num, HB7.out⟩
      case measure => simp [intOf]; omega
    · obtain rfl : q = l.length := by omega
      clear hB
      go_wp2_with fail
      go_loopw [37] (fun c wr => ∃ q : Nat, q ≤ l.length ∧ c = .int .i64 q ∧ Below w.heap.size w wr) (fun c _ => l.length - (intOf c).toNat)
      case atStart => exact ⟨0, Nat.zero_le _, rfl, HBr.out⟩
      case round =>
        obtain ⟨q, hq, rfl, hB⟩ := hrel
        have HBr := Lib.hid hB
        by_cases hlt : q < l.length
        · have hLr := HL.out.later hg hB
          obtain ⟨c0, c1⟩ := hLr q hlt
          have m1 := hf.lt _ (List.getElem_mem hlt)
          have m2 := hf.out _ (List.getElem_mem hlt)
          generalize l[q] = x at *
          obtain ⟨xs, xd⟩ := x
          simp only at c0 c1 m1 m2
          have hX6 := SBox.new wr 143 #[.int .i64 xs, .string xd]
          have hB6 := hB.alloc hB.size (.cells #[.int .i64 xs, .string xd] 143)
          have hJ6 : SBox _ j 185 _ := SBox.later HJ.out hB6
          have HB6 := Lib.hid hB6
          have Y0 := hX6.cell 0
          have Y1 := hX6.cell 1
          simp only [List.getElem?_toArray, List.getElem?_cons_zero, List.getElem?_cons_succ] at Y0 Y1
          have Yl := hX6.lt
          have J0 := hJ6.cell 0
          have J1 := hJ6.cell 1
          have J2 := hJ6.cell 2
          have J3 := hJ6.cell 3
          have J4 := hJ6.cell 4
          simp only [List.getElem?_toArray, List.getElem?_cons_zero, List.getElem?_cons_succ] at J0 J1 J2 J3 J4
          have Jl := hJ6.lt
          have q0 : (0 : Int) ≤ q := by omega
          have q3 : (q : Int) < l.length := by omega
          clear hLr hX6 hB hB6 hJ6
          rcases Nat.lt_or_ge xs fr with hx | hx
          · have t1 : decide ((fr : Int) ≤ (xs : Int)) = false := by simp; omega
            have t2 : decide (fr ≤ xs) = false := by simp; omega
            go_upto_region 10 with fail
            go_quiet (fail)
            have HB7 := Lib.hid (below_drewNJ HB6.out nq)
            go_wp2_with fail
            go_roundw
            case rel => exact ⟨q + 1, by omega, by go_num, HB7.out⟩
            case measure => simp [intOf]; omega
          · have t1 : (fr : Int) ≤ (xs : Int) := by omega
            have t2 : decide ((xs : Int) < (fr : Int) + (n : Int)) = false := by simp; omega
            go_upto_region 10 with fail
            go_quiet (fail)
            have HB7 := Lib.hid (below_drewNJ HB6.out nq)
            go_wp2_with fail
            go_roundw
            case rel => exact ⟨q + 1, by omega, by go_num, HB7.out⟩
            case measure => simp [intOf]; omega
        · obtain rfl : q = l.length := by omega
          have ML := hf.len
          have MX2 := Lib.hid (MX.out _ HBr.out)
          have t1 : decide ((mostN n : Int) < (l.length : Int)) = false := by simp; omega
          clear hB
          go_wp2_with fail
          refine MX2.out.mono ?_
          rintro e w9 ⟨rfl, rfl⟩
          go_wp2
          go_ret
          exact ⟨rfl, HBr.out⟩
end Go.Proofs.YtpnfkilfgdnogaaGreatDoor.Jou
end

/- Layer 4 (journal): Commit. -/
section
namespace Go.Proofs.YtpnfkilfgdnogaaGreatDoor.Jou
set_option linter.unusedVariables false
set_option linter.unusedSimpArgs false
open Go.RowKit Go.Shelf Go.Maps Oct Dev Crc
/-- What a commit leaves on the device. -/
def com1 (hard : List ByteArray) (fr : Nat) (l : Puts) : List ByteArray := ovr hard (rowW noW (fr + 1) (recRows l))
def com2 (hard : List ByteArray) (fr gen : Nat) (l : Puts) : List ByteArray := ovr (com1 hard fr l) (upW noW fr (headS gen l.length))
def com3 (hard : List ByteArray) (fr gen : Nat) (l : Puts) : List ByteArray := ovr (com2 hard fr gen l) (layW noW l)
def com4 (hard : List ByteArray) (fr gen : Nat) (l : Puts) : List ByteArray := ovr (com3 hard fr gen l) (upW noW fr (headS gen 0))
theorem com_len (hard : List ByteArray) (fr gen : Nat) (l : Puts) : (com1 hard fr l).length = hard.length ∧ (com2 hard fr gen l).length = hard.length ∧ (com3 hard fr gen l).length = hard.length ∧ (com4 hard fr gen l).length = hard.length := by
  unfold com4 com3 com2 com1
  simp only [ovr_len, and_self]
def S3 (b : DevB) (c : Nat) : Prop := c = b.p ∨ c = b.m ∨ c = b.g
/-- Between two steps. -/
def Stp (w : World) (b : DevB) (d : Nat) (fv : Array Value) (hard : List ByteArray) (P : Wait) (k : Nat) (W : World) : Prop := SBox W d 134 fv ∧ DV W b hard P k ∧ Tch (S3 b) w W
theorem tch_pm {b : DevB} {W W' : World} (h : Tch (fun c => c = b.p ∨ c = b.m) W W') : Tch (S3 b) W W' := h.mono (fun c e => e.elim .inl (fun q => .inr (.inl q)))
theorem tch_gm {b : DevB} {W W' : World} (h : Tch (fun c => c = b.g ∨ c = b.m) W W') : Tch (S3 b) W W' := h.mono (fun c e => e.elim (fun q => .inr (.inr q)) (fun q => .inr (.inl q)))
theorem Stp.next {w : World} {b : DevB} {d : Nat} {fv : Array Value} {hard hard' : List ByteArray} {P P' : Wait} {k k' : Nat} {W W' : World} (h : Stp w b d fv hard P k W) (hD : DV W' b hard' P' k') (T : Tch (S3 b) W W') : Stp w b d fv hard' P' k' W' := by
  obtain ⟨h1, h2, h3⟩ := h
  have n := h2.ne h1 (by decide) (by decide)
  exact ⟨SBox.tch h1 T (fun e => e.elim n.1 (fun e => e.elim n.2.1 n.2.2)), hD, h3.trans T⟩
section
variable {w W : World} {b : DevB} {d k wk j g fr n gen0 gen cap : Nat} {fv : Array Value} {hard : List ByteArray} {P : Wait} {l : Puts}
theorem Stp.flush (h : Stp w b d fv hard P k W) (hk : k ≤ 1099511627776) : Calls Tryz.prog 97 #[.pointer (some ⟨b.p, 0, none⟩)] W fun e W' => e = .returned (.int .i64 0) ∧ Stp w b d fv (ovr hard P) noW k W' := by
  refine (dv_flush W h.2.1 hk).mono ?_
  rintro e W' ⟨rfl, g1, g2⟩
  exact ⟨rfl, h.next g1 (tch_gm g2)⟩
/-- The eight steps' functions. -/
def fvs (wk : Nat) (b : DevB) : Array Value := #[.func (.func 123) #[.pointer (some ⟨wk, 0, none⟩)] #[], .func (.func 97) #[.pointer (some ⟨b.p, 0, none⟩)] #[], .func (.func 124) #[.pointer (some ⟨wk, 0, none⟩)] #[], .func (.func 97) #[.pointer (some ⟨b.p, 0, none⟩)] #[], .func (.func 125) #[.pointer (some ⟨wk, 0, none⟩)] #[], .func (.func 97) #[.pointer (some ⟨b.p, 0, none⟩)] #[], .func (.func 126) #[.pointer (some ⟨wk, 0, none⟩)] #[], .func (.func 97) #[.pointer (some ⟨b.p, 0, none⟩)] #[]]
/-- What holds after so many steps. -/
def RunSt (w : World) (b : DevB) (d wk fr gen k : Nat) (hard : List ByteArray) (l : Puts) : Nat → World → Prop
  | 0 => Stp w b d (fvs wk b) hard noW k
  | 1 => Stp w b d (fvs wk b) hard (rowW noW (fr + 1) (recRows l)) (k + (recRows l).length)
  | 2 => Stp w b d (fvs wk b) (com1 hard fr l) noW (k + (recRows l).length)
  | 3 => Stp w b d (fvs wk b) (com1 hard fr l) (upW noW fr (headS gen l.length)) (k + (recRows l).length + 1)
  | 4 => Stp w b d (fvs wk b) (com2 hard fr gen l) noW (k + (recRows l).length + 1)
  | 5 => Stp w b d (fvs wk b) (com2 hard fr gen l) (layW noW l) (k + (recRows l).length + 1 + l.length)
  | 6 => Stp w b d (fvs wk b) (com3 hard fr gen l) noW (k + (recRows l).length + 1 + l.length)
  | 7 => Stp w b d (fvs wk b) (com3 hard fr gen l) (upW noW fr (headS gen 0)) (k + (recRows l).length + 1 + l.length + 1)
  | 8 => Stp w b d (fvs wk b) (com4 hard fr gen l) noW (k + (recRows l).length + 1 + l.length + 1)
  | _ => fun _ => False
theorem runSt_box {q : Nat} (h : RunSt w b d wk fr gen k hard l q W) : SBox W d 134 (fvs wk b) := by
  match q, h with
  | 0, h => exact h.1
  | 1, h => exact h.1
  | 2, h => exact h.1
  | 3, h => exact h.1
  | 4, h => exact h.1
  | 5, h => exact h.1
  | 6, h => exact h.1
  | 7, h => exact h.1
  | 8, h => exact h.1
  | q + 9, h => exact h.elim
/-- The steps, run. -/
theorem run_com (w : World) (hJ : JouAt w j b fr n gen0) (hW : WkAt w wk j gen g l.length cap) (hL : PutsAt w g l) (hg : g < w.heap.size) (hgn : g ≠ b.p ∧ g ≠ b.m ∧ g ≠ b.g) (hd : (l.map Prod.fst).Nodup) (hf : Fits hard fr n l) (h16 : hard.length ≤ 4096) (hrow : 1 + (recRows l).length ≤ n) (hfr : fr + n ≤ hard.length) (hgen : gen < 18446744073709551616) (hk : k + 30000 < 1099511627776) (hl4 : l.length ≤ 4096) (hr8 : (recRows l).length ≤ 8192) (nJ : j ≠ b.p ∧ j ≠ b.m ∧ j ≠ b.g) (nW : wk ≠ b.p ∧ wk ≠ b.m ∧ wk ≠ b.g) (h0 : RunSt w b d wk fr gen k hard l 0 W) :
    Calls Tryz.prog 122 #[.slice (some ⟨d, 0, none⟩) 8 8] W fun e W' => e = .returned (.int .i64 0) ∧ RunSt w b d wk fr gen k hard l 8 W' := by
  obtain ⟨e1, e2, e3, e4⟩ := com_len hard fr gen l
  have jW : ∀ {V : World}, Tch (S3 b) w V → JouAt V j b fr n gen0 := fun {V} T => SBox.tch (show SBox w j 185 _ from hJ) T (fun e => e.elim nJ.1 (fun e => e.elim nJ.2.1 nJ.2.2))
  have wW : ∀ {V : World}, Tch (S3 b) w V → WkAt V wk j gen g l.length cap := fun {V} T => SBox.tch (show SBox w wk 211 _ from hW) T (fun e => e.elim nW.1 (fun e => e.elim nW.2.1 nW.2.2))
  have lW : ∀ {V : World}, Tch (S3 b) w V → PutsAt V g l := fun {V} T => hL.tch T hg (fun e => e.elim hgn.1 (fun e => e.elim hgn.2.1 hgn.2.2))
  have gW : ∀ {V : World}, Tch (S3 b) w V → g < V.heap.size := fun {V} T => Nat.lt_of_lt_of_le hg T.size
  have cellQ : ∀ (q i : Nat) (v : Value) (V : World), (fvs wk b)[i]? = some v → RunSt w b d wk fr gen k hard l q V → V.cell? ⟨d, i, none⟩ = some v := fun q i v V hv h => ((runSt_box h).cell i).trans hv
  refine run_8 d wk b.p (RunSt w b d wk fr gen k hard l) W h0 (fun q V h => (runSt_box h).lt) (fun V h => cellQ 0 0 _ V rfl h) (fun V h => cellQ 1 1 _ V rfl h) (fun V h => cellQ 2 2 _ V rfl h) (fun V h => cellQ 3 3 _ V rfl h) (fun V h => cellQ 4 4 _ V rfl h) (fun V h => cellQ 5 5 _ V rfl h) (fun V h => cellQ 6 6 _ V rfl h) (fun V h => cellQ 7 7 _ V rfl h) ?_ ?_ ?_ ?_ ?_ ?_ ?_ ?_
  · intro V h
    refine (record_any wk j g fr n gen0 gen cap k l b hard V (jW h.2.2) (wW h.2.2) (lW h.2.2) (gW h.2.2) ⟨hgn.1, hgn.2.1⟩ h.2.1 (fun x hx => ⟨by have := hf.lt x hx; omega, hf.size x hx⟩) hl4 hrow hfr (by omega)).mono ?_
    rintro e V' ⟨rfl, g1, g2⟩
    exact ⟨rfl, Stp.next h g1 (tch_pm g2)⟩
  · intro V h
    exact Stp.flush h (by omega)
  · intro V h
    refine (mark_any wk j g fr n gen0 gen l.length cap (k + (recRows l).length) b (com1 hard fr l) noW V (jW h.2.2) (wW h.2.2) h.2.1 (by rw [e1]; omega) rfl hgen (by omega) (by omega) ⟨nJ.1, nJ.2.1⟩ ⟨nW.1, nW.2.1⟩).mono ?_
    rintro e V' ⟨rfl, g1, g2⟩
    exact ⟨rfl, Stp.next h g1 (tch_pm g2)⟩
  · intro V h
    exact Stp.flush h (by omega)
  · intro V h
    refine (lay_any wk j g fr n gen0 gen cap (k + (recRows l).length + 1) l b (com2 hard fr gen l) noW V (jW h.2.2) (wW h.2.2) (lW h.2.2) (gW h.2.2) ⟨hgn.1, hgn.2.1⟩ h.2.1 hd (fun x hx => ⟨by rw [e2]; exact hf.lt x hx, rfl, hf.size x hx⟩) hl4 (by omega)).mono ?_
    rintro e V' ⟨rfl, g1, g2⟩
    exact ⟨rfl, Stp.next h g1 (tch_pm g2)⟩
  · intro V h
    exact Stp.flush h (by omega)
  · intro V h
    refine (done_any wk j g fr n gen0 gen l.length cap (k + (recRows l).length + 1 + l.length) b (com3 hard fr gen l) noW V (jW h.2.2) (wW h.2.2) h.2.1 (by rw [e3]; omega) rfl hgen (by omega) ⟨nJ.1, nJ.2.1⟩ ⟨nW.1, nW.2.1⟩).mono ?_
    rintro e V' ⟨rfl, g1, g2⟩
    exact ⟨rfl, Stp.next h g1 (tch_pm g2)⟩
  · intro V h
    exact Stp.flush h (by omega)
end
end Go.Proofs.YtpnfkilfgdnogaaGreatDoor.Jou
end

/- Layer 4 (journal): Commit, walked. -/
section
namespace Go.Proofs.YtpnfkilfgdnogaaGreatDoor.Jou
set_option linter.unusedVariables false
set_option linter.unusedSimpArgs false
open Go.RowKit Go.Shelf Go.Maps Oct Dev Crc
theorem keepJ {w W W' : World} {j p : Nat} (lj : j < w.heap.size) (h : W.cell? ⟨j, 0, none⟩ = some (.pointer (some ⟨p, 0, none⟩)) ∧ Below w.heap.size w W) (hb : Below W.heap.size W W') : W'.cell? ⟨j, 0, none⟩ = some (.pointer (some ⟨p, 0, none⟩)) ∧ Below w.heap.size w W' :=
  ⟨(hb.cell (p := ⟨j, 0, none⟩) (Nat.lt_of_lt_of_le lj h.2.size)).trans h.1, h.2.trans (hb.mono h.2.size)⟩
set_option maxRecDepth 100000 in
set_option maxHeartbeats 2000000 in
theorem commit_any (j g fr n gen cap k : Nat) (l : Puts) (b : DevB) (hard : List ByteArray) (w : World) (hJ : JouAt w j b fr n gen) (hL : PutsAt w g l) (hg : g < w.heap.size) (hgn : g ≠ b.p ∧ g ≠ b.m ∧ g ≠ b.g) (hD : DV w b hard noW k) (hd : (l.map Prod.fst).Nodup) (hf : Fits hard fr n l) (hn : n ≤ 256) (hfr : fr + n ≤ hard.length) (hrow : 1 + (recRows l).length ≤ n) (hgen : gen + 1 < 18446744073709551616) (hk : k + 30000 < 1099511627776) (hl4 : l.length ≤ 256) :
    Calls Tryz.prog 74 #[.pointer (some ⟨j, 0, none⟩), .slice (some ⟨g, 0, none⟩) l.length cap] w fun e w' => e = .returned (.tuple #[.int .u64 (gen + 1 : Nat), .int .i64 0]) ∧ JouAt w' j b fr n (gen + 1) ∧ DV w' b (com4 hard fr (gen + 1) l) noW (k + (recRows l).length + 1 + l.length + 1) ∧ Tch (fun c => S3 b c ∨ c = j) w w' := by
  have hhl := hD.len
  have nJ := hD.ne (show SBox w j 185 _ from hJ) (by decide) (by decide)
  have WY := Lib.hid (why_any j g fr n gen cap k l b hard noW w hJ hL hg hD hf (by omega) (by omega) (by omega))
  have HJ := Lib.hid hJ
  have HL := Lib.hid hL
  have HD := Lib.hid hD
  unfold JouAt at hJ
  have jl := hJ.lt
  clear hJ hL hD
  go_enter Tryz.func74, Tryz.ntmps74
  go_wp2_with fail
  refine WY.out.mono ?_
  rintro e w1 ⟨rfl, b1⟩
  have hJ1 : SBox w1 j 185 _ := SBox.later HJ.out b1
  have B1 := Lib.hid b1
  have ge : ((gen + 1 : Nat) : Int) = (gen : Int) + 1 := by omega
  have hg64 : (gen : Int) + 1 < 18446744073709551616 := by omega
  have B2 : Below w.heap.size w (w1.alloc (.cells #[.pointer (some ⟨j, 0, none⟩), .int .u64 ((gen : Int) + 1), .slice (some ⟨g, 0, none⟩) l.length cap] 211)).drew := (b1.alloc b1.size _).drew
  have hJ2 : SBox (w1.alloc (.cells #[.pointer (some ⟨j, 0, none⟩), .int .u64 ((gen : Int) + 1), .slice (some ⟨g, 0, none⟩) l.length cap] 211)).drew j 185 _ := SBox.drew (hJ1.alloc (.cells #[.pointer (some ⟨j, 0, none⟩), .int .u64 ((gen : Int) + 1), .slice (some ⟨g, 0, none⟩) l.length cap] 211))
  have hW2 : SBox (w1.alloc (.cells #[.pointer (some ⟨j, 0, none⟩), .int .u64 ((gen : Int) + 1), .slice (some ⟨g, 0, none⟩) l.length cap] 211)).drew w1.heap.size 211 #[.pointer (some ⟨j, 0, none⟩), .int .u64 ((gen : Int) + 1), .slice (some ⟨g, 0, none⟩) l.length cap] := SBox.drew (SBox.new w1 _ _)
  have I0 := hJ1.cell 0
  have I1 := hJ1.cell 1
  have I2 := hJ1.cell 2
  have I3 := hJ1.cell 3
  have I4 := hJ1.cell 4
  simp only [List.getElem?_toArray, List.getElem?_cons_zero, List.getElem?_cons_succ] at I0 I1 I2 I3 I4
  have Il := hJ1.lt
  clear hJ1 b1
  go_upto_region 7 with fail
  generalize (w1.alloc (.cells #[.pointer (some ⟨j, 0, none⟩), .int .u64 ((gen : Int) + 1), .slice (some ⟨g, 0, none⟩) l.length cap] 211)) = wA at *
  refine wp_region_still_tail 28 (by kernel_rfl) (by kernel_rfl) ?_
  simp only [List.take_succ_cons, List.take_zero, List.drop_succ_cons, List.drop_zero]
  have hz : ({ heap := wA.heap, tape := wA.tape, drawn := wA.drawn + 1, os := wA.os, output := wA.output } : World) = wA.drew := rfl
  simp only [hz]
  clear hz
  generalize wA.drew = w2 at *
  have J0 := hJ2.cell 0
  have J1 := hJ2.cell 1
  have J2 := hJ2.cell 2
  have J3 := hJ2.cell 3
  have J4 := hJ2.cell 4
  simp only [List.getElem?_toArray, List.getElem?_cons_zero, List.getElem?_cons_succ] at J0 J1 J2 J3 J4
  have Jl := hJ2.lt
  have HW2 := Lib.hid hW2
  have HJ2 := Lib.hid hJ2
  have HB2 := Lib.hid B2
  clear hJ2 hW2 B2 I0 I1 I2 I3 I4
  repeat still_step
  refine wpStill_nil ?_
  have hWk : WkAt w2 w1.heap.size j (gen + 1) g l.length cap := by
    unfold WkAt
    rw [ge]
    exact HW2.out
  have nW := (HD.out.later HB2.out).ne HW2.out (by decide) (by decide)
  have RN := Lib.hid (run_com (wk := w1.heap.size) (d := w2.heap.size) (k := k) (gen := gen + 1) (gen0 := gen) (cap := cap) (W := w2.alloc (.cells (fvs w1.heap.size b) 134)) w2 HJ2.out hWk (HL.out.later hg HB2.out) (Nat.lt_of_lt_of_le hg HB2.out.size) hgn hd hf hhl hrow hfr (by omega) hk (by omega) (by omega) ⟨nJ.1, nJ.2.1, nJ.2.2⟩ ⟨nW.1, nW.2.1, nW.2.2⟩ ⟨SBox.new w2 _ _, (HD.out.later HB2.out).later ((Below.refl _ w2).alloc (Nat.le_refl _) _), Tch.of_below ((Below.refl _ w2).alloc (Nat.le_refl _) _)⟩)
  unfold fvs at RN
  clear hWk
  go_wp2_with fail
  refine RN.out.mono ?_
  rintro e w9 ⟨rfl, h9⟩
  have T9 := Lib.hid h9.2.2
  have D9 := Lib.hid h9.2.1
  have hJ9 := SBox.tch HJ2.out T9.out (fun e => e.elim nJ.1 (fun e => e.elim nJ.2.1 nJ.2.2))
  have hW9 := SBox.tch HW2.out T9.out (fun e => e.elim nW.1 (fun e => e.elim nW.2.1 nW.2.2))
  have HJ9 := Lib.hid hJ9
  have I0 := hJ9.cell 0
  have I1 := hJ9.cell 1
  have I2 := hJ9.cell 2
  have I3 := hJ9.cell 3
  have I4 := hJ9.cell 4
  simp only [List.getElem?_toArray, List.getElem?_cons_zero, List.getElem?_cons_succ] at I0 I1 I2 I3 I4
  have Il := hJ9.lt
  have F0 := hJ9.free 0
  have F1 := hJ9.free 1
  have F2 := hJ9.free 2
  have F3 := hJ9.free 3
  have F4 := hJ9.free 4
  have V0 := hW9.cell 0
  have V1 := hW9.cell 1
  have V2 := hW9.cell 2
  simp only [List.getElem?_toArray, List.getElem?_cons_zero, List.getElem?_cons_succ] at V0 V1 V2
  have Vl := hW9.lt
  clear h9 hJ9 hW9 RN J0 J1 J2 J3 J4
  go_wp2
  go_ret2
  have TS : Tch (fun c => c = j) w9 (w9.setCell ⟨j, 3, none⟩ (.int .u64 ((gen : Int) + 1))) := Tch.set _ rfl
  refine ⟨by rw [ge]; rfl, ?_, DV.box D9.out HJ9.out (by decide) (by decide) TS, (Tch.of_below HB2.out).trans ((T9.out.mono (fun c e => .inl e)).trans (TS.mono (fun c e => .inr e)))⟩
  unfold JouAt
  rw [ge]
  exact HJ9.out.set 3 _
end Go.Proofs.YtpnfkilfgdnogaaGreatDoor.Jou
end
