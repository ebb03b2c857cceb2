/- Layer 11 (image): there, put, Block. -/
import Derived.Test.YtpnfkilfgdnogaaGreatDoorImg
import Derived.Test.YtpnfkilfgdnogaaGreatDoorBitsFill
import Derived.Test.YtpnfkilfgdnogaaGreatDoorInoM
import Derived.Test.YtpnfkilfgdnogaaGreatDoorJournalR
section
namespace Go.Proofs.YtpnfkilfgdnogaaGreatDoor.Img
set_option linter.unusedVariables false
set_option linter.unusedSimpArgs false
open Go.RowKit Go.Shelf Go.Maps Oct Dev Jou Tx Geo
theorem readT_put (f : Wrote) (hard : List ByteArray) (i q : Nat) (s : ByteArray) : readT (putW f i s) hard q = if q = i then s else readT f hard q := by
  unfold readT putW
  by_cases e : q = i
  · subst e
    simp
  · have e2 : ¬ (q : Int) = (i : Int) := by omega
    simp [e, e2]
theorem ImAt.wrote {W W' : World} {E : Im} {f : Wrote} {nn nn' q : Nat} {s : ByteArray} (h : ImAt W E f nn) (hJ : TJ W' E.T E.b E.hard E.k (putW f q s) nn' 1 E.j) (hT : Tch (fun c => c = E.T.m) W W') (hz : s.size = 64) : ImAt W' E (putW f q s) nn' := by
  refine ⟨?_, hJ, h.len, fun x hx => ?_⟩
  · exact (hT.block _ h.img.lt (h.tj.tx.map.ne h.img)).trans h.img
  · rw [readT_put]
    by_cases e : x = q
    · rw [if_pos e]
      exact hz
    · rw [if_neg e]
      exact h.sec x hx
def FullE (E : Im) (Z : Nat → Prop) : Prop := ∃ L : List Nat, L.Nodup ∧ (∀ q ∈ L, Z q) ∧ mostN E.j < L.length
theorem FullE.mono {E : Im} {Z Z' : Nat → Prop} (h : FullE E Z) (hz : ∀ q, Z q → Z' q) : FullE E Z' := by
  obtain ⟨L, h1, h2, h3⟩ := h
  exact ⟨L, h1, fun q hq => hz q (h2 q hq), h3⟩
theorem FullE.no {E : Im} {Z : Nat → Prop} (h : FullE E Z) (M : List Nat) (hM : ∀ q, Z q → q ∈ M) (hl : M.length ≤ mostN E.j) : False := by
  obtain ⟨L, h1, h2, h3⟩ := h
  have := List.Nodup.length_le_of_subset h1 (fun q hq => hM q (h2 q hq))
  omega
abbrev Secs := Nat → ByteArray
def upd (D : Secs) (i : Nat) (s : ByteArray) : Secs := fun q => if q = i then s else D q
theorem upd_same (D : Secs) (i : Nat) (s : ByteArray) : upd D i s i = s := if_pos rfl
theorem upd_ne (D : Secs) {i q : Nat} (s : ByteArray) (h : q ≠ i) : upd D i s q = D q := if_neg h
def IS (W : World) (E : Im) (D : Secs) (Z : Nat → Prop) : Prop :=
  ∃ f nn, ImAt W E f nn ∧ (∀ q, q < E.hard.length → readT f E.hard q = D q) ∧ ∀ x : Int, (f x).isSome = true → ∃ q : Nat, x = q ∧ q < E.hard.length ∧ Z q
section
variable {E : Im} {D : Secs} {Z : Nat → Prop} {Q : Prop} {W W' : World}
theorem IS.later (h : IS W E D Z) (hb : Below W.heap.size W W') : IS W' E D Z := by
  obtain ⟨f, nn, h1, h2⟩ := h
  exact ⟨f, nn, h1.later hb, h2⟩
theorem IS.mono (h : IS W E D Z) {Z' : Nat → Prop} (hz : ∀ q, Z q → Z' q) : IS W E D Z' := by
  obtain ⟨f, nn, h1, h2, h3⟩ := h
  exact ⟨f, nn, h1, h2, fun x hx => by obtain ⟨q, e, hl, hq⟩ := h3 x hx; exact ⟨q, e, hl, hz q hq⟩⟩
theorem IS.ext (h : IS W E D Z) {D' : Secs} (hd : ∀ q, q < E.hard.length → D q = D' q) : IS W E D' Z := by
  obtain ⟨f, nn, h1, h2, h3⟩ := h
  exact ⟨f, nn, h1, fun q hq => (h2 q hq).trans (hd q hq), h3⟩
theorem IS.sec (h : IS W E D Z) {q : Nat} (hq : q < E.hard.length) : (D q).size = 64 := by
  obtain ⟨f, nn, h1, h2, h3⟩ := h
  rw [← h2 q hq]
  exact h1.sec q hq
theorem IS.len (h : IS W E D Z) : E.hard.length = (szL E.i E.bl E.j).sum := by
  obtain ⟨f, nn, h1, _⟩ := h
  exact h1.len
theorem IS.len4 (h : IS W E D Z) : E.hard.length ≤ 4096 := by
  obtain ⟨f, nn, h1, _⟩ := h
  exact h1.tj.tx.dev.len
theorem IS.img (h : IS W E D Z) : SBox W E.M 119 #[.pointer (some ⟨E.T.p, 0, none⟩), .int .i64 E.i, .int .i64 E.bl, .int .i64 E.j] := by
  obtain ⟨f, nn, h1, _⟩ := h
  exact h1.img
def Wr (E : Im) (D' : Secs) (Z : Nat → Prop) (w w' : World) : Prop := IS w' E D' Z ∧ Tch (fun c => c = E.T.m) w w'
def Shown (E : Im) (W : World) : Prop := ∃ D Z, IS W E D Z
theorem Shown.later (h : Shown E W) (hb : Below W.heap.size W W') : Shown E W' := by
  obtain ⟨D, Z, h⟩ := h
  exact ⟨D, Z, h.later hb⟩
def Fu (E : Im) (Q : Prop) (w w' : World) : Prop := (Q ∧ (Shown E w → Shown E w')) ∧ Tch (fun c => c = E.T.m) w w'
theorem Wr.pre {w0 w w' : World} {D' : Secs} (h : Wr E D' Z w w') (hb : Below w0.heap.size w0 w) : Wr E D' Z w0 w' := ⟨h.1, (Tch.of_below hb).trans h.2⟩
theorem Fu.pre {w0 w w' : World} (h : Fu E Q w w') (hb : Below w0.heap.size w0 w) : Fu E Q w0 w' := ⟨⟨h.1.1, fun q => h.1.2 (q.later hb)⟩, (Tch.of_below hb).trans h.2⟩
theorem Wr.then_ {w0 w w' : World} {D' D1 : Secs} (h : Wr E D' Z w w') (h0 : Wr E D1 Z w0 w) : Wr E D' Z w0 w' := ⟨h.1, h0.2.trans h.2⟩
theorem Fu.then_ {w0 w w' : World} {D1 : Secs} (h : Fu E Q w w') (h0 : Wr E D1 Z w0 w) : Fu E Q w0 w' := ⟨⟨h.1.1, fun _ => h.1.2 ⟨_, _, h0.1⟩⟩, h0.2.trans h.2⟩
theorem Wr.post {w w' w2 : World} {D' : Secs} (h : Wr E D' Z w w') (hb : Below w'.heap.size w' w2) : Wr E D' Z w w2 := ⟨h.1.later hb, h.2.trans (Tch.of_below hb)⟩
theorem Fu.post {w w' w2 : World} (h : Fu E Q w w') (hb : Below w'.heap.size w' w2) : Fu E Q w w2 := ⟨⟨h.1.1, fun q => (h.1.2 q).later hb⟩, h.2.trans (Tch.of_below hb)⟩
theorem Fu.of_below {w w' : World} (q : Q) (hb : Below w.heap.size w w') : Fu E Q w w' := ⟨⟨q, fun h => h.later hb⟩, Tch.of_below hb⟩
theorem read_is (i : Nat) (w : World) (h : IS w E D Z) (hi : i < E.hard.length) : Calls Tryz.prog 57 #[.pointer (some ⟨E.T.p, 0, none⟩), .int .i64 i] w fun e w' => e = .returned (.tuple #[.string (D i), .int .i64 0]) ∧ Below w.heap.size w w' := by
  obtain ⟨f, nn, h1, h2, h3⟩ := h
  have h4 := Tx.read_any i w h1.tj.tx hi
  rw [h2 i hi] at h4
  exact h4
theorem wrote_is {f : Wrote} {nn nn' i : Nat} {s : ByteArray} {w w' : World} (h1 : ImAt w E f nn) (h2 : ∀ q, q < E.hard.length → readT f E.hard q = D q) (h3 : ∀ x : Int, (f x).isSome = true → ∃ q : Nat, x = q ∧ q < E.hard.length ∧ Z q)
    (hi : i < E.hard.length) (hz : Z i) (hs : s.size = 64) (r1 : TJ w' E.T E.b E.hard E.k (putW f i s) nn' 1 E.j) (r2 : Tch (fun c => c = E.T.m) w w') : Wr E (upd D i s) Z w w' := by
  refine ⟨⟨putW f i s, _, h1.wrote r1 r2 hs, fun q hq => ?_, fun x hx => ?_⟩, r2⟩
  · rw [readT_put]
    unfold upd
    by_cases e : q = i
    · rw [if_pos e, if_pos e]
    · rw [if_neg e, if_neg e]
      exact h2 q hq
  · unfold putW at hx
    by_cases e : x = (i : Int)
    · exact ⟨i, e, hi, hz⟩
    · rw [if_neg e] at hx
      exact h3 x hx
theorem noRoom_is {f : Wrote} {i : Nat} (h3 : ∀ x : Int, (f x).isSome = true → ∃ q : Nat, x = q ∧ q < E.hard.length ∧ Z q) (hz : Z i) (h : NoRoom f i E.j) : FullE E Z := by
  obtain ⟨hf, ss, hk, hl⟩ := h
  have hm : ∀ a ∈ ss, ∃ q : Nat, a = q ∧ Z q := fun a ha => by
    obtain ⟨q, e, _, hq⟩ := h3 a (by have := (hk.2 a).1 ha; unfold strF at this; simpa using this)
    exact ⟨q, e, hq⟩
  refine ⟨i :: ss.map Int.toNat, List.nodup_cons.2 ⟨?_, ?_⟩, ?_, by simp; omega⟩
  · intro hc
    obtain ⟨a, ha, e⟩ := List.mem_map.1 hc
    obtain ⟨q, rfl, _⟩ := hm a ha
    have e2 : q = i := by simpa using e
    subst e2
    have := (hk.2 _).1 ha
    unfold strF at this
    rw [hf] at this
    cases this
  · refine List.pairwise_map.2 (hk.1.imp_of_mem fun {a c} ha hc hne e => hne ?_)
    obtain ⟨p, rfl, _⟩ := hm a ha
    obtain ⟨q, rfl, _⟩ := hm c hc
    have e2 : p = q := by simpa using e
    rw [e2]
  · intro q hq
    rcases List.mem_cons.1 hq with rfl | hq
    · exact hz
    · obtain ⟨a, ha, rfl⟩ := List.mem_map.1 hq
      obtain ⟨p, rfl, hp⟩ := hm a ha
      simpa using hp
theorem write_is (i : Nat) (s : ByteArray) (w : World) (h : IS w E D Z) (hj : E.j ≤ 256) (hi : i < E.hard.length) (hs : s.size = 64) (hz : Z i) (hQ : FullE E Z → Q) :
    Calls Tryz.prog 106 #[.pointer (some ⟨E.T.p, 0, none⟩), .int .i64 i, .string s] w (Out (.int .i64 0) (.int .i64 4) (Wr E (upd D i s) Z w) (Fu E Q w)) := by
  obtain ⟨f, nn, h1, h2, h3⟩ := h
  refine (write_or i s w h1.tj hi hs hj (fun x hx => by obtain ⟨q, e, hl, _⟩ := h3 x hx; exact ⟨q, e, hl⟩)).mono ?_
  rintro e w' (⟨rfl, ⟨nn', r1⟩, r2⟩ | ⟨rfl, r1, r2⟩)
  · exact .inl ⟨rfl, wrote_is h1 h2 h3 hi hz hs r1 r2⟩
  · exact .inr ⟨rfl, Fu.of_below (hQ (noRoom_is h3 hz r1)) r2⟩
theorem patch_is (i at_ : Nat) (t : ByteArray) (w : World) (h : IS w E D Z) (hj : E.j ≤ 256) (hi : i < E.hard.length) (hs : at_ + t.size ≤ 64) (hz : Z i) (hQ : FullE E Z → Q) :
    Calls Tryz.prog 64 #[.pointer (some ⟨E.T.p, 0, none⟩), .int .i64 i, .int .i64 at_, .string t] w (Out (.int .i64 0) (.int .i64 4) (Wr E (upd D i (patchS (D i) at_ t)) Z w) (Fu E Q w)) := by
  have h64 := h.sec hi
  obtain ⟨f, nn, h1, h2, h3⟩ := h
  have P := patch_or i at_ t w h1.tj hi (by rw [h2 i hi]; exact h64) hs hj (fun x hx => by obtain ⟨q, e, hl, _⟩ := h3 x hx; exact ⟨q, e, hl⟩)
  rw [h2 i hi] at P
  refine P.mono ?_
  rintro e w' (⟨rfl, ⟨nn', r1⟩, r2⟩ | ⟨rfl, r1, r2⟩)
  · exact .inl ⟨rfl, wrote_is h1 h2 h3 hi hz ((patchS_size (by omega)).trans h64) r1 r2⟩
  · exact .inr ⟨rfl, Fu.of_below (hQ (noRoom_is h3 hz r1)) r2⟩
theorem part_is (p : Nat) (w : World) (hs : Small E) (h : IS w E D Z) (hp : p = 2 ∨ p = 3) :
    Calls Tryz.prog 54 #[.pointer (some ⟨E.M, 0, none⟩), .int .i64 p] w fun e w' => e = .returned (.tuple #[.string (D (fr E p)), .int .i64 (fr E p), .int .i64 0]) ∧ Below w.heap.size w w' := by
  obtain ⟨f, nn, h1, h2, h3⟩ := h
  have hv := hs.vals
  have hlt : fr E p < E.hard.length := by rw [h1.len]; rcases hp with rfl | rfl <;> omega
  have P := part_any E f nn p w hs h1 hp
  rw [h2 _ hlt] at P
  exact P
end
end Go.Proofs.YtpnfkilfgdnogaaGreatDoor.Img
end
section
namespace Go.Proofs.YtpnfkilfgdnogaaGreatDoor.Img
set_option linter.unusedVariables false
set_option linter.unusedSimpArgs false
open Go.RowKit Go.Shelf Go.Maps Oct Dev Jou Tx Geo
theorem ext_all (s : ByteArray) (n : Nat) (h : s.size = n) : s.extract 0 n = s := by
  subst h
  exact ByteArray.extract_zero_size
section
variable {E : Im} {D : Secs} {Z : Nat → Prop} {Q : Prop}
theorem fr_lt {w : World} {p : Nat} (hs : Small E) (h : IS w E D Z) (hp : p = 2 ∨ p = 3) : fr E p < E.hard.length := by
  have hv := hs.vals
  rw [h.len]; rcases hp with rfl | rfl <;> omega
set_option maxRecDepth 100000 in
theorem is_is (p n : Nat) (w : World) (hs : Small E) (h : IS w E D Z) (hp : p = 2 ∨ p = 3) (hn : n < 512) :
    Calls Tryz.prog 89 #[.pointer (some ⟨E.M, 0, none⟩), .int .i64 p, .int .i64 n] w fun e w' => e = .returned (.tuple #[.bool (bitB (D (fr E p)) n), .int .i64 0]) ∧ Below w.heap.size w w' := by
  have hsz := h.sec (fr_lt hs h hp)
  have PA := Lib.hid (part_is p w hs h hp)
  have GE := Lib.hid (fun W => get_yes (D (fr E p)) n W (by omega) (by omega))
  clear h
  generalize D (fr E p) = s at *
  generalize fr E p = q at *
  go_enter Tryz.func89, Tryz.ntmps89
  go_wp2_with fail
  refine PA.out.mono ?_
  rintro e w1 ⟨rfl, b1⟩
  go_wp2_with fail
  refine (GE.out _).mono ?_
  rintro e w9 ⟨rfl, rfl⟩
  go_wp2
  go_ret2
  exact ⟨rfl, b1⟩
set_option maxRecDepth 100000 in
set_option maxHeartbeats 1000000 in
theorem mark_is (p n : Nat) (on : Bool) (w : World) (hs : Small E) (h : IS w E D Z) (hp : p = 2 ∨ p = 3) (hn : n < 512) (hz : Z (fr E p)) (hQ : FullE E Z → Q) :
    Calls Tryz.prog 62 #[.pointer (some ⟨E.M, 0, none⟩), .int .i64 p, .int .i64 n, .bool on] w (Out (.int .i64 0) (.int .i64 4) (Wr E (upd D (fr E p) (setB (D (fr E p)) n on)) Z w) (Fu E Q w)) := by
  have hj := hs.hj
  have hlt := fr_lt hs h hp
  have hsz := h.sec hlt
  have hl := h.len4
  have PA := Lib.hid (part_is p w hs h hp)
  have SE := Lib.hid (fun W => set_yes (D (fr E p)) n on W (by omega) (by omega))
  have hz2 : (setB (D (fr E p)) n on).size = 64 := by rw [size_setB]; exact hsz
  have WR := Lib.hid (fun W (h : IS W E D Z) => write_is (fr E p) (setB (D (fr E p)) n on) W h (by omega) hlt hz2 hz hQ)
  have H := Lib.hid h
  clear h hz hQ
  generalize setB (D (fr E p)) n on = s2 at *
  generalize D (fr E p) = s at *
  generalize fr E p = q at *
  go_enter Tryz.func62, Tryz.ntmps62
  go_wp2_with fail
  refine PA.out.mono ?_
  rintro e w1 ⟨rfl, b1⟩
  go_wp2_with fail
  refine (SE.out _).mono ?_
  rintro e w2 ⟨rfl, b2⟩
  have B2 := Lib.hid (b1.trans (b2.mono b1.size))
  clear b1 b2
  have d0 : (n : Int) / 512 = 0 := by omega
  go_wp2_with fail
  have ex := ext_all s2 64 hz2
  have hX := (H.out.later B2.out).img
  have hX := hX.drew
  have V0 := hX.cell 0
  have V1 := hX.cell 1
  have V2 := hX.cell 2
  have V3 := hX.cell 3
  simp only [List.getElem?_toArray, List.getElem?_cons_zero, List.getElem?_cons_succ] at V0 V1 V2 V3
  have Vl := hX.lt
  clear hX
  have wz0 : IntKind.i64.wrap (q : Int) = q := IntWalk.i64_in _ (by omega)
  have wz1 : IntKind.i64.wrap ((q : Int) + 0) = q := IntWalk.i64_in _ (by omega)
  have u0 : IntKind.i64.wrap 0 = 0 := by decide
  have u1 : IntKind.i64.wrap 1 = 1 := by decide
  have u2 : IntKind.i64.wrap 64 = 64 := by decide
  have u3 : IntKind.i64.wrap (1 * 64) = 64 := by decide
  have ez : (0 : Int).toNat = 0 := rfl
  have e6 : (64 : Int).toNat = 64 := rfl
  refine wp_region_still_tail 15 (by kernel_rfl) (by kernel_rfl) ?_
  simp only [List.take_succ_cons, List.take_zero, List.drop_succ_cons, List.drop_zero]
  change wpStill _ _ w2.drew _ _ _
  generalize w2.drew = W3 at *
  repeat still_step
  refine wpStill_nil ?_
  change wpList _ _ _ _ _ w2.drew
  have WR2 := Lib.hid (WR.out _ (H.out.later B2.out.drew))
  have HB3 := Lib.hid B2.out.drew
  generalize w2.drew = W4 at *
  go_wp2_with fail
  refine WR2.out.mono ?_
  rintro e w5 (⟨rfl, G5⟩ | ⟨rfl, G5⟩)
  · have G5 := Lib.hid (G5.pre HB3.out)
    go_wp2
    go_ret
    exact .inl ⟨rfl, G5.out⟩
  · have G5 := Lib.hid (G5.pre HB3.out)
    go_wp2
    go_ret
    exact .inr ⟨rfl, G5.out⟩
set_option maxRecDepth 100000 in
theorem taken_is (n : Nat) (w : World) (hs : Small E) (h : IS w E D Z) (h1 : 1 ≤ n) (hn : n ≤ E.i) :
    Calls Tryz.prog 61 #[.pointer (some ⟨E.M, 0, none⟩), .int .u32 n] w fun e w' => e = .returned (.tuple #[.bool (bitB (D (fr E 2)) n), .int .i64 0]) ∧ Below w.heap.size w w' := by
  have hi := hs.hi
  have IN := Lib.hid (fun W => Geo.inode_any E.i E.bl E.j n W hs.may h1 hn)
  have IS_ := Lib.hid (fun W (h : IS W E D Z) => is_is 2 n W hs h (.inl rfl) (by omega))
  unfold geoV at IN
  generalize bitB (D (fr E 2)) n = bb at *
  have H := Lib.hid h
  have hX := h.img
  have X0 := hX.cell 0
  have X1 := hX.cell 1
  have X2 := hX.cell 2
  have X3 := hX.cell 3
  simp only [List.getElem?_toArray, List.getElem?_cons_zero, List.getElem?_cons_succ] at X0 X1 X2 X3
  have Xl := hX.lt
  clear hX h
  go_enter Tryz.func61, Tryz.ntmps61
  go_wp2_with fail
  refine (IN.out _).mono ?_
  rintro e w1 ⟨rfl, b1⟩
  have B1 := Lib.hid b1
  clear b1
  go_wp2_with fail
  refine (IS_.out _ (H.out.later B1.out)).mono ?_
  rintro e w2 ⟨rfl, b2⟩
  go_wp2
  go_ret2
  exact ⟨rfl, B1.out.trans (b2.mono B1.out.size)⟩
set_option maxRecDepth 100000 in
theorem take_is (n : Nat) (w : World) (hs : Small E) (h : IS w E D Z) (h1 : 1 ≤ n) (hn : n ≤ E.i) (hb : bitB (D (fr E 2)) n = false) (hz : Z (fr E 2)) (hQ : FullE E Z → Q) :
    Calls Tryz.prog 19 #[.pointer (some ⟨E.M, 0, none⟩), .int .u32 n] w (Out (.int .i64 0) (.int .i64 4) (Wr E (upd D (fr E 2) (setB (D (fr E 2)) n true)) Z w) (Fu E Q w)) := by
  have hi := hs.hi
  have TK := Lib.hid (taken_is n w hs h h1 hn)
  rw [hb] at TK
  have MK := Lib.hid (fun W (h : IS W E D Z) => mark_is 2 n true W hs h (.inl rfl) (by omega) hz hQ)
  have H := Lib.hid h
  generalize upd D (fr E 2) (setB (D (fr E 2)) n true) = f2 at *
  clear h hb hz hQ
  go_enter Tryz.func19, Tryz.ntmps19
  go_wp2_with fail
  refine TK.out.mono ?_
  rintro e w1 ⟨rfl, b1⟩
  have H2 := Lib.hid (H.out.later b1)
  have B1 := Lib.hid b1
  clear b1
  go_wp2_with fail
  refine (MK.out _ H2.out).mono ?_
  rintro e w2 (⟨rfl, G⟩ | ⟨rfl, G⟩)
  · have G := Lib.hid (G.pre B1.out)
    go_wp2
    go_ret
    exact .inl ⟨rfl, G.out⟩
  · have G := Lib.hid (G.pre B1.out)
    go_wp2
    go_ret
    exact .inr ⟨rfl, G.out⟩
set_option maxRecDepth 100000 in
theorem takenBlock_is (n : Nat) (w : World) (hs : Small E) (h : IS w E D Z) (h1 : 1 ≤ n) (hn : n ≤ E.bl) :
    Calls Tryz.prog 37 #[.pointer (some ⟨E.M, 0, none⟩), .int .u16 n] w fun e w' => e = .returned (.tuple #[.bool (bitB (D (fr E 3)) n), .int .i64 0]) ∧ Below w.heap.size w w' := by
  have hi := hs.hb
  have IN := Lib.hid (fun W => Geo.block_any E.i E.bl E.j n W hs.may h1 hn)
  have IS_ := Lib.hid (fun W (h : IS W E D Z) => is_is 3 n W hs h (.inr rfl) (by omega))
  unfold geoV at IN
  generalize bitB (D (fr E 3)) n = bb at *
  have H := Lib.hid h
  have hX := h.img
  have X0 := hX.cell 0
  have X1 := hX.cell 1
  have X2 := hX.cell 2
  have X3 := hX.cell 3
  simp only [List.getElem?_toArray, List.getElem?_cons_zero, List.getElem?_cons_succ] at X0 X1 X2 X3
  have Xl := hX.lt
  clear hX h
  go_enter Tryz.func37, Tryz.ntmps37
  go_wp2_with fail
  refine (IN.out _).mono ?_
  rintro e w1 ⟨rfl, b1⟩
  have B1 := Lib.hid b1
  clear b1
  go_wp2_with fail
  refine (IS_.out _ (H.out.later B1.out)).mono ?_
  rintro e w2 ⟨rfl, b2⟩
  go_wp2
  go_ret2
  exact ⟨rfl, B1.out.trans (b2.mono B1.out.size)⟩
set_option maxRecDepth 100000 in
theorem giveBlock_is (n : Nat) (w : World) (hs : Small E) (h : IS w E D Z) (h1 : 1 ≤ n) (hn : n ≤ E.bl) (hb : bitB (D (fr E 3)) n = true) (hz : Z (fr E 3)) (hQ : FullE E Z → Q) :
    Calls Tryz.prog 38 #[.pointer (some ⟨E.M, 0, none⟩), .int .u16 n] w (Out (.int .i64 0) (.int .i64 4) (Wr E (upd D (fr E 3) (setB (D (fr E 3)) n false)) Z w) (Fu E Q w)) := by
  have hi := hs.hb
  have TK := Lib.hid (takenBlock_is n w hs h h1 hn)
  rw [hb] at TK
  have MK := Lib.hid (fun W (h : IS W E D Z) => mark_is 3 n false W hs h (.inr rfl) (by omega) hz hQ)
  have H := Lib.hid h
  generalize upd D (fr E 3) (setB (D (fr E 3)) n false) = f2 at *
  clear h hb hz hQ
  go_enter Tryz.func38, Tryz.ntmps38
  go_wp2_with fail
  refine TK.out.mono ?_
  rintro e w1 ⟨rfl, b1⟩
  have H2 := Lib.hid (H.out.later b1)
  have B1 := Lib.hid b1
  clear b1
  go_wp2_with fail
  refine (MK.out _ H2.out).mono ?_
  rintro e w2 (⟨rfl, G⟩ | ⟨rfl, G⟩)
  · have G := Lib.hid (G.pre B1.out)
    go_wp2
    go_ret
    exact .inl ⟨rfl, G.out⟩
  · have G := Lib.hid (G.pre B1.out)
    go_wp2
    go_ret
    exact .inr ⟨rfl, G.out⟩
end
end Go.Proofs.YtpnfkilfgdnogaaGreatDoor.Img
end
section
namespace Go.Proofs.YtpnfkilfgdnogaaGreatDoor.Img
set_option linter.unusedVariables false
set_option linter.unusedSimpArgs false
open Go.RowKit Go.Shelf Go.Maps Oct Dev Jou Tx Geo Ino
def tq (E : Im) (n : Nat) : Nat := fr E 4 + (n - 1) / 2
def io_ (n : Nat) : Nat := (n - 1) % 2 * 32
def InoIs (E : Im) (D : Secs) (n : Nat) (x : InoT) : Prop := (D (tq E n)).extract (io_ n) (io_ n + 32) = inoB x
def setIno (E : Im) (D : Secs) (n : Nat) (x : InoT) : Secs := upd D (tq E n) (patchS (D (tq E n)) (io_ n) (inoB x))
section
variable {E : Im} {D : Secs} {Z : Nat → Prop} {Q : Prop}
theorem tq_lt {n : Nat} (hs : Small E) (hl : E.hard.length = (szL E.i E.bl E.j).sum) (h1 : 1 ≤ n) (hn : n ≤ E.i) : tq E n < E.hard.length := by
  have hv := hs.vals
  unfold tq
  rw [hl]
  omega
theorem patch_same (s t : ByteArray) (a : Nat) (h : a + t.size ≤ s.size) : (patchS s a t).extract a (a + t.size) = t := by
  apply L_inj
  rw [ext_B, L_B]
  unfold patchS
  rw [append_B, append_B, ext_B, ext_B]
  simp only [L_B, List.drop_zero, Nat.sub_zero]
  have h1 : (List.take a (L s)).length = a := by rw [List.length_take, len_L]; omega
  rw [List.append_assoc, List.drop_append_of_le_length (by omega), List.drop_of_length_le (by omega), List.nil_append, Nat.add_sub_cancel_left, List.take_append_of_le_length (by rw [len_L]; omega)]
  exact List.take_of_length_le (by rw [len_L]; omega)
theorem patch_before (s t : ByteArray) (a b c : Nat) (h : a + t.size ≤ s.size) (hc : c ≤ a) : (patchS s a t).extract b c = s.extract b c := by
  apply L_inj
  rw [ext_B, ext_B, L_B, L_B]
  unfold patchS
  rw [append_B, append_B, ext_B, ext_B]
  simp only [L_B, List.drop_zero, Nat.sub_zero]
  apply List.ext_getElem?
  intro k
  simp only [List.getElem?_take, List.getElem?_drop]
  by_cases hk : k < c - b
  · rw [if_pos hk, if_pos hk, List.append_assoc, List.getElem?_append_left (by rw [List.length_take, len_L]; omega), List.getElem?_take, if_pos (by omega)]
  · rw [if_neg hk, if_neg hk]
theorem patch_after (s t : ByteArray) (a b c : Nat) (h : a + t.size ≤ s.size) (hb : a + t.size ≤ b) : (patchS s a t).extract b c = s.extract b c := by
  apply L_inj
  rw [ext_B, ext_B, L_B, L_B]
  unfold patchS
  rw [append_B, append_B, ext_B, ext_B]
  simp only [L_B, List.drop_zero, Nat.sub_zero]
  apply List.ext_getElem?
  intro k
  simp only [List.getElem?_take, List.getElem?_drop]
  by_cases hk : k < c - b
  · rw [if_pos hk, if_pos hk, List.getElem?_append_right (by rw [List.length_append, List.length_take, len_L, len_L]; omega), List.length_append, List.length_take, len_L, len_L]
    simp only [List.getElem?_take, List.getElem?_drop]
    by_cases h3 : b + k - (min a s.size + t.size) < s.size - (a + t.size)
    · rw [if_pos h3]
      congr 1
      omega
    · rw [if_neg h3, List.getElem?_eq_none (by rw [len_L]; omega)]
  · rw [if_neg hk, if_neg hk]
theorem setIno_same {n : Nat} {x : InoT} (h : (D (tq E n)).size = 64) : InoIs E (setIno E D n x) n x := by
  unfold InoIs setIno
  rw [upd_same]
  have e := patch_same (D (tq E n)) (inoB x) (io_ n) (by rw [inoB_size, h]; unfold io_; omega)
  rw [inoB_size] at e
  exact e
theorem setIno_other {n m : Nat} {x y : InoT} (h : (D (tq E n)).size = 64) (h1 : 1 ≤ n) (h2 : 1 ≤ m) (hne : n ≠ m) (hy : InoIs E D m y) : InoIs E (setIno E D n x) m y := by
  unfold InoIs setIno at *
  by_cases hq : tq E m = tq E n
  · rw [hq, upd_same]
    rw [hq] at hy
    have hz := inoB_size x
    by_cases hlt : io_ n < io_ m
    · rw [patch_after _ _ _ _ _ (by rw [hz, h]; unfold io_; omega) (by rw [hz]; unfold io_ at *; omega)]
      exact hy
    · rw [patch_before _ _ _ _ _ (by rw [hz, h]; unfold io_; omega) (by unfold io_ tq at *; omega)]
      exact hy
  · rw [upd_ne _ _ hq]
    exact hy
theorem InoIs.upd {n q : Nat} {x : InoT} {s : ByteArray} (h : InoIs E D n x) (hq : tq E n ≠ q) : InoIs E (upd D q s) n x := by
  unfold InoIs at *
  rw [upd_ne _ _ hq]
  exact h
theorem setIno_q {n q : Nat} {x : InoT} (hq : q ≠ tq E n) : setIno E D n x q = D q := upd_ne _ _ hq
set_option maxRecDepth 100000 in
set_option maxHeartbeats 2000000 in
theorem inode_is (n : Nat) (x : InoT) (w : World) (hs : Small E) (h : IS w E D Z) (h1 : 1 ≤ n) (hn : n ≤ E.i) (hx : InoIs E D n x) (ho : x.Ok) :
    Calls Tryz.prog 15 #[.pointer (some ⟨E.M, 0, none⟩), .int .u32 n] w fun e w' => e = .returned (.tuple #[x.val, .int .i64 0]) ∧ Below w.heap.size w w' := by
  have hlt := tq_lt hs h.len h1 hn
  have hl := h.len4
  have hsz := h.sec hlt
  have IN := Lib.hid (fun W => Geo.inode_any E.i E.bl E.j n W hs.may h1 hn)
  have RD := Lib.hid (fun W (h : IS W E D Z) => read_is (tq E n) W h hlt)
  have GE := Lib.hid (fun W => get_ino x W ho)
  unfold geoV at IN
  rw [show fromG E.i E.bl E.j 4 + (n - 1) / 2 = tq E n from rfl, show (n - 1) % 2 * 32 = io_ n from rfl] at IN
  have ht : io_ n ≤ 32 := by unfold io_; omega
  unfold InoIs at hx
  have H := Lib.hid h
  have hX := h.img
  have X0 := hX.cell 0
  have X1 := hX.cell 1
  have X2 := hX.cell 2
  have X3 := hX.cell 3
  simp only [List.getElem?_toArray, List.getElem?_cons_zero, List.getElem?_cons_succ] at X0 X1 X2 X3
  have Xl := hX.lt
  clear hX h ho
  obtain ⟨kind, links, size, d0, d1, d2, d3, ind⟩ := x
  generalize inoB ⟨kind, links, size, d0, d1, d2, d3, ind⟩ = s32 at *
  unfold InoT.val at *
  generalize D (tq E n) = s at *
  generalize tq E n = q at *
  generalize io_ n = o at *
  have HB0 := Lib.hid ((Below.refl _ w).alloc (Nat.le_refl _) (.cells #[.int .u8 0, .int .u16 0, .int .u32 0, .int .u16 0, .int .u16 0, .int .u16 0, .int .u16 0, .int .u16 0] 43))
  have HY0 := Lib.hid (SBox.new w 43 #[.int .u8 0, .int .u16 0, .int .u32 0, .int .u16 0, .int .u16 0, .int .u16 0, .int .u16 0, .int .u16 0])
  have q1 : (o : Int) ≤ 64 := by omega
  have q2 : (o : Int) + 32 ≤ s.size := by omega
  have q3 : o + 32 ≤ s.size := by omega
  have q4 : o + 32 ≤ 64 := by omega
  go_enter Tryz.func15, Tryz.ntmps15
  go_wp2_with fail
  refine (IN.out _).mono ?_
  rintro e w1 ⟨rfl, b1⟩
  have B1 := Lib.hid (HB0.out.trans (b1.mono HB0.out.size))
  have H1 := Lib.hid (H.out.later B1.out)
  have HY1 := Lib.hid (HY0.out.later b1)
  have hX := H1.out.img
  have Y0 := hX.cell 0
  have Y1 := hX.cell 1
  have Y2 := hX.cell 2
  have Y3 := hX.cell 3
  simp only [List.getElem?_toArray, List.getElem?_cons_zero, List.getElem?_cons_succ] at Y0 Y1 Y2 Y3
  have Yl := hX.lt
  clear hX b1 X0 X1 X2 X3 Xl
  go_wp2_with fail
  refine (RD.out _ H1.out).mono ?_
  rintro e w2 ⟨rfl, b2⟩
  have B2 := Lib.hid (B1.out.trans (b2.mono B1.out.size))
  have HY2 := Lib.hid (HY1.out.later b2)
  clear b2 Y0 Y1 Y2 Y3 Yl
  go_wp2_with fail
  refine (GE.out _).mono ?_
  rintro e w3 ⟨rfl, b3⟩
  have B3 := Lib.hid (B2.out.trans (b3.mono B2.out.size))
  have HY3 := Lib.hid (HY2.out.later b3)
  have hX := HY3.out
  clear b3
  have X0 := hX.cell 0
  have X1 := hX.cell 1
  have X2 := hX.cell 2
  have X3 := hX.cell 3
  have X4 := hX.cell 4
  have X5 := hX.cell 5
  have X6 := hX.cell 6
  have X7 := hX.cell 7
  simp only [List.getElem?_toArray, List.getElem?_cons_zero, List.getElem?_cons_succ] at X0 X1 X2 X3 X4 X5 X6 X7
  have Xl := hX.lt
  have F0 := hX.free 0
  have F1 := hX.free 1
  have F2 := hX.free 2
  have F3 := hX.free 3
  have F4 := hX.free 4
  have F5 := hX.free 5
  have F6 := hX.free 6
  have F7 := hX.free 7
  clear hX
  go_wp2
  have h9 := fill8 HY3.out (.int .u8 kind) (.int .u16 links) (.int .u32 size) (.int .u16 d0) (.int .u16 d1) (.int .u16 d2) (.int .u16 d3) (.int .u16 ind)
  have hb9 : Below w.heap.size w (fillI w3 w.heap.size (.int .u8 kind) (.int .u16 links) (.int .u32 size) (.int .u16 d0) (.int .u16 d1) (.int .u16 d2) (.int .u16 d3) (.int .u16 ind)) := fillI_below B3.out (Nat.le_refl _)
  unfold fillI at h9 hb9
  have k0 := h9.cell 0
  have k1 := h9.cell 1
  have k2 := h9.cell 2
  have k3 := h9.cell 3
  have k4 := h9.cell 4
  have k5 := h9.cell 5
  have k6 := h9.cell 6
  have k7 := h9.cell 7
  simp only [List.getElem?_toArray, List.getElem?_cons_zero, List.getElem?_cons_succ] at k0 k1 k2 k3 k4 k5 k6 k7
  exact bodyPost_ret (v := .tuple #[.agg #[.int .u8 kind, .int .u16 links, .int .u32 size, .int .u16 d0, .int .u16 d1, .int .u16 d2, .int .u16 d3, .int .u16 ind], .int .i64 0]) (by simp [results, Tryz.results15, go_sem, k0, k1, k2, k3, k4, k5, k6, k7]) rfl ⟨rfl, hb9⟩
set_option maxRecDepth 100000 in
set_option maxHeartbeats 2000000 in
theorem setInode_is (n : Nat) (x : InoT) (w : World) (hs : Small E) (h : IS w E D Z) (h1 : 1 ≤ n) (hn : n ≤ E.i) (ho : x.Ok) (hz : Z (tq E n)) (hQ : FullE E Z → Q) :
    Calls Tryz.prog 20 #[.pointer (some ⟨E.M, 0, none⟩), .int .u32 n, x.val] w (Out (.int .i64 0) (.int .i64 4) (Wr E (setIno E D n x) Z w) (Fu E Q w)) := by
  have hj := hs.hj
  have hlt := tq_lt hs h.len h1 hn
  have hl := h.len4
  have IN := Lib.hid (fun W => Geo.inode_any E.i E.bl E.j n W hs.may h1 hn)
  have PU := Lib.hid (fun W => put_ino x W ho)
  have PA := Lib.hid (fun W (h : IS W E D Z) => patch_is (tq E n) (io_ n) (inoB x) W h (by omega) hlt (by rw [inoB_size]; unfold io_; omega) hz hQ)
  unfold geoV at IN
  rw [show fromG E.i E.bl E.j 4 + (n - 1) / 2 = tq E n from rfl, show (n - 1) % 2 * 32 = io_ n from rfl] at IN
  unfold setIno
  have ht : io_ n ≤ 32 := by unfold io_; omega
  have H := Lib.hid h
  have hX := h.img
  have X0 := hX.cell 0
  have X1 := hX.cell 1
  have X2 := hX.cell 2
  have X3 := hX.cell 3
  simp only [List.getElem?_toArray, List.getElem?_cons_zero, List.getElem?_cons_succ] at X0 X1 X2 X3
  have Xl := hX.lt
  clear hX h hz hQ
  generalize upd D (tq E n) (patchS (D (tq E n)) (io_ n) (inoB x)) = D2 at *
  generalize tq E n = q at *
  generalize io_ n = o at *
  unfold InoT.val at *
  obtain ⟨kind, links, size, d0, d1, d2, d3, ind⟩ := x
  generalize inoB ⟨kind, links, size, d0, d1, d2, d3, ind⟩ = s32 at *
  have HB0 := Lib.hid ((Below.refl _ w).alloc (Nat.le_refl _) (.cells #[.int .u8 kind, .int .u16 links, .int .u32 size, .int .u16 d0, .int .u16 d1, .int .u16 d2, .int .u16 d3, .int .u16 ind] 43))
  have HY0 := Lib.hid (SBox.new w 43 #[.int .u8 kind, .int .u16 links, .int .u32 size, .int .u16 d0, .int .u16 d1, .int .u16 d2, .int .u16 d3, .int .u16 ind])
  go_enter Tryz.func20, Tryz.ntmps20
  go_wp2_with fail
  refine (IN.out _).mono ?_
  rintro e w1 ⟨rfl, b1⟩
  have B1 := Lib.hid (HB0.out.trans (b1.mono HB0.out.size))
  have HY1 := HY0.out.later b1
  have H1 := Lib.hid (H.out.later B1.out)
  have X0 := HY1.cell 0
  have X1 := HY1.cell 1
  have X2 := HY1.cell 2
  have X3 := HY1.cell 3
  have X4 := HY1.cell 4
  have X5 := HY1.cell 5
  have X6 := HY1.cell 6
  have X7 := HY1.cell 7
  simp only [List.getElem?_toArray, List.getElem?_cons_zero, List.getElem?_cons_succ] at X0 X1 X2 X3 X4 X5 X6 X7
  have Xl := HY1.lt
  clear HY1 b1
  go_wp2_with fail
  refine (PU.out _).mono ?_
  rintro e w2 ⟨rfl, b2⟩
  have B2 := Lib.hid (B1.out.trans (b2.mono B1.out.size))
  have H2 := Lib.hid (H.out.later B2.out)
  have hX := H2.out.img
  clear X0 X1 X2 X3 X4 X5 X6 X7 Xl b2
  have X0 := hX.cell 0
  have X1 := hX.cell 1
  have X2 := hX.cell 2
  have X3 := hX.cell 3
  simp only [List.getElem?_toArray, List.getElem?_cons_zero, List.getElem?_cons_succ] at X0 X1 X2 X3
  have Xl := hX.lt
  clear hX
  go_wp2_with fail
  refine (PA.out _ H2.out).mono ?_
  rintro e w3 (⟨rfl, G⟩ | ⟨rfl, G⟩)
  · have G := Lib.hid (G.pre B2.out)
    go_wp2
    go_ret
    exact .inl ⟨rfl, G.out⟩
  · have G := Lib.hid (G.pre B2.out)
    go_wp2
    go_ret
    exact .inr ⟨rfl, G.out⟩
end
end Go.Proofs.YtpnfkilfgdnogaaGreatDoor.Img
end
section
namespace Go.Proofs.YtpnfkilfgdnogaaGreatDoor.Img
set_option linter.unusedVariables false
set_option linter.unusedSimpArgs false
open Go.RowKit Go.Shelf Go.Maps Oct Dev Jou Tx Geo Ino
def dq (E : Im) (b : Nat) : Nat := fr E 5 + b - 1
theorem dq_lt {E : Im} {b : Nat} (hs : Small E) (hl : E.hard.length = (szL E.i E.bl E.j).sum) (h1 : 1 ≤ b) (hb : b ≤ E.bl) : dq E b < E.hard.length := by
  have hv := hs.vals
  unfold dq
  rw [hl]
  omega
section
variable {E : Im} {D : Secs} {Z : Nat → Prop} {Q : Prop}
set_option maxRecDepth 100000 in
set_option maxHeartbeats 2000000 in
theorem there_is (n : Nat) (x : InoT) (w : World) (hs : Small E) (h : IS w E D Z) (h1 : 1 ≤ n) (hn : n ≤ E.i) (hx : InoIs E D n x) (ho : x.Ok) :
    Calls Tryz.prog 59 #[.pointer (some ⟨E.M, 0, none⟩), .int .u32 n] w fun e w' => e = .returned (.tuple #[x.val, .int .i64 (if x.kind = 0 then 3 else 0)]) ∧ Below w.heap.size w w' := by
  have IN := Lib.hid (fun W (h : IS W E D Z) => inode_is n x W hs h h1 hn hx ho)
  have H := Lib.hid h
  clear h hx ho
  obtain ⟨kind, links, size, d0, d1, d2, d3, ind⟩ := x
  unfold InoT.val at *
  have HB0 := Lib.hid ((Below.refl _ w).alloc (Nat.le_refl _) (.cells #[.int .u8 0, .int .u16 0, .int .u32 0, .int .u16 0, .int .u16 0, .int .u16 0, .int .u16 0, .int .u16 0] 43))
  have HY0 := Lib.hid (SBox.new w 43 #[.int .u8 0, .int .u16 0, .int .u32 0, .int .u16 0, .int .u16 0, .int .u16 0, .int .u16 0, .int .u16 0])
  have HP := Lib.hid (H.out.later HB0.out)
  by_cases hk : kind = 0
  · subst hk
    go_enter Tryz.func59, Tryz.ntmps59
    go_wp2_with fail
    refine (IN.out _ HP.out).mono ?_
    rintro e w1 ⟨rfl, b1⟩
    have B1 := Lib.hid ((HB0.out.trans (b1.mono HB0.out.size)).alloc (Nat.le_trans HB0.out.size b1.size) (.cells #[.int .u8 0, .int .u16 links, .int .u32 size, .int .u16 d0, .int .u16 d1, .int .u16 d2, .int .u16 d3, .int .u16 ind] 43))
    have HY1 := Lib.hid ((HY0.out.later b1).alloc (.cells #[.int .u8 0, .int .u16 links, .int .u32 size, .int .u16 d0, .int .u16 d1, .int .u16 d2, .int .u16 d3, .int .u16 ind] 43))
    have hX := HY1.out
    clear b1
    have X0 := hX.cell 0
    have X1 := hX.cell 1
    have X2 := hX.cell 2
    have X3 := hX.cell 3
    have X4 := hX.cell 4
    have X5 := hX.cell 5
    have X6 := hX.cell 6
    have X7 := hX.cell 7
    simp only [List.getElem?_toArray, List.getElem?_cons_zero, List.getElem?_cons_succ] at X0 X1 X2 X3 X4 X5 X6 X7
    have Xl := hX.lt
    have F0 := hX.free 0
    have F1 := hX.free 1
    have F2 := hX.free 2
    have F3 := hX.free 3
    have F4 := hX.free 4
    have F5 := hX.free 5
    have F6 := hX.free 6
    have F7 := hX.free 7
    clear hX
    go_wp2
    have h9 := fill8 HY1.out (.int .u8 0) (.int .u16 links) (.int .u32 size) (.int .u16 d0) (.int .u16 d1) (.int .u16 d2) (.int .u16 d3) (.int .u16 ind)
    have hb9 := fillI_below (v0 := .int .u8 0) (v1 := .int .u16 links) (v2 := .int .u32 size) (v3 := .int .u16 d0) (v4 := .int .u16 d1) (v5 := .int .u16 d2) (v6 := .int .u16 d3) (v7 := .int .u16 ind) B1.out (Nat.le_refl _)
    unfold fillI at h9 hb9
    have k0 := h9.cell 0
    have k1 := h9.cell 1
    have k2 := h9.cell 2
    have k3 := h9.cell 3
    have k4 := h9.cell 4
    have k5 := h9.cell 5
    have k6 := h9.cell 6
    have k7 := h9.cell 7
    simp only [List.getElem?_toArray, List.getElem?_cons_zero, List.getElem?_cons_succ] at k0 k1 k2 k3 k4 k5 k6 k7
    exact bodyPost_ret (v := .tuple #[.agg #[.int .u8 0, .int .u16 links, .int .u32 size, .int .u16 d0, .int .u16 d1, .int .u16 d2, .int .u16 d3, .int .u16 ind], .int .i64 3]) (by simp [results, Tryz.results59, go_sem, k0, k1, k2, k3, k4, k5, k6, k7]) rfl ⟨rfl, hb9⟩
  · have hk0 : ((kind : Int) == 0) = false := by simp; omega
    go_enter Tryz.func59, Tryz.ntmps59
    go_wp2_with fail
    refine (IN.out _ HP.out).mono ?_
    rintro e w1 ⟨rfl, b1⟩
    have B1 := Lib.hid ((HB0.out.trans (b1.mono HB0.out.size)).alloc (Nat.le_trans HB0.out.size b1.size) (.cells #[.int .u8 kind, .int .u16 links, .int .u32 size, .int .u16 d0, .int .u16 d1, .int .u16 d2, .int .u16 d3, .int .u16 ind] 43))
    have HY1 := Lib.hid ((HY0.out.later b1).alloc (.cells #[.int .u8 kind, .int .u16 links, .int .u32 size, .int .u16 d0, .int .u16 d1, .int .u16 d2, .int .u16 d3, .int .u16 ind] 43))
    have hX := HY1.out
    clear b1
    have X0 := hX.cell 0
    have X1 := hX.cell 1
    have X2 := hX.cell 2
    have X3 := hX.cell 3
    have X4 := hX.cell 4
    have X5 := hX.cell 5
    have X6 := hX.cell 6
    have X7 := hX.cell 7
    simp only [List.getElem?_toArray, List.getElem?_cons_zero, List.getElem?_cons_succ] at X0 X1 X2 X3 X4 X5 X6 X7
    have Xl := hX.lt
    have F0 := hX.free 0
    have F1 := hX.free 1
    have F2 := hX.free 2
    have F3 := hX.free 3
    have F4 := hX.free 4
    have F5 := hX.free 5
    have F6 := hX.free 6
    have F7 := hX.free 7
    clear hX
    go_wp2
    have h9 := fill8 HY1.out (.int .u8 kind) (.int .u16 links) (.int .u32 size) (.int .u16 d0) (.int .u16 d1) (.int .u16 d2) (.int .u16 d3) (.int .u16 ind)
    have hb9 := fillI_below (v0 := .int .u8 kind) (v1 := .int .u16 links) (v2 := .int .u32 size) (v3 := .int .u16 d0) (v4 := .int .u16 d1) (v5 := .int .u16 d2) (v6 := .int .u16 d3) (v7 := .int .u16 ind) B1.out (Nat.le_refl _)
    unfold fillI at h9 hb9
    have k0 := h9.cell 0
    have k1 := h9.cell 1
    have k2 := h9.cell 2
    have k3 := h9.cell 3
    have k4 := h9.cell 4
    have k5 := h9.cell 5
    have k6 := h9.cell 6
    have k7 := h9.cell 7
    simp only [List.getElem?_toArray, List.getElem?_cons_zero, List.getElem?_cons_succ] at k0 k1 k2 k3 k4 k5 k6 k7
    exact bodyPost_ret (v := .tuple #[.agg #[.int .u8 kind, .int .u16 links, .int .u32 size, .int .u16 d0, .int .u16 d1, .int .u16 d2, .int .u16 d3, .int .u16 ind], .int .i64 0]) (by simp [results, Tryz.results59, go_sem, k0, k1, k2, k3, k4, k5, k6, k7]) rfl ⟨by simp [hk], hb9⟩
set_option maxRecDepth 100000 in
theorem put_is (b : Nat) (s : ByteArray) (w : World) (hs : Small E) (h : IS w E D Z) (h1 : 1 ≤ b) (hb : b ≤ E.bl) (h64 : s.size = 64) (hz : Z (dq E b)) (hQ : FullE E Z → Q) :
    Calls Tryz.prog 68 #[.pointer (some ⟨E.M, 0, none⟩), .int .u16 b, .string s] w (Out (.int .i64 0) (.int .i64 4) (Wr E (upd D (dq E b) s) Z w) (Fu E Q w)) := by
  have hj := hs.hj
  have hlt := dq_lt hs h.len h1 hb
  have hl := h.len4
  have BL := Lib.hid (fun W => Geo.block_any E.i E.bl E.j b W hs.may h1 hb)
  have WR := Lib.hid (fun W (h : IS W E D Z) => write_is (dq E b) s W h (by omega) hlt h64 hz hQ)
  unfold geoV at BL
  rw [show fromG E.i E.bl E.j 5 + b - 1 = dq E b from rfl] at BL
  generalize dq E b = q at *
  have H := Lib.hid h
  have hX := h.img
  have X0 := hX.cell 0
  have X1 := hX.cell 1
  have X2 := hX.cell 2
  have X3 := hX.cell 3
  simp only [List.getElem?_toArray, List.getElem?_cons_zero, List.getElem?_cons_succ] at X0 X1 X2 X3
  have Xl := hX.lt
  clear hX h hz hQ
  go_enter Tryz.func68, Tryz.ntmps68
  go_wp2_with fail
  refine (BL.out _).mono ?_
  rintro e w1 ⟨rfl, b1⟩
  have B1 := Lib.hid b1
  have H1 := Lib.hid (H.out.later B1.out)
  have hX := H1.out.img
  clear X0 X1 X2 X3 Xl b1
  have X0 := hX.cell 0
  have X1 := hX.cell 1
  have X2 := hX.cell 2
  have X3 := hX.cell 3
  simp only [List.getElem?_toArray, List.getElem?_cons_zero, List.getElem?_cons_succ] at X0 X1 X2 X3
  have Xl := hX.lt
  clear hX
  go_wp2_with fail
  refine (WR.out _ H1.out).mono ?_
  rintro e w3 (⟨rfl, G⟩ | ⟨rfl, G⟩)
  · have G := Lib.hid (G.pre B1.out)
    go_wp2
    go_ret
    exact .inl ⟨rfl, G.out⟩
  · have G := Lib.hid (G.pre B1.out)
    go_wp2
    go_ret
    exact .inr ⟨rfl, G.out⟩
def blkD (E : Im) (D : Secs) (b : Nat) : Secs := upd (upd D (fr E 3) (setB (D (fr E 3)) b true)) (dq E b) zS
set_option maxRecDepth 100000 in
set_option maxHeartbeats 1000000 in
theorem block_is (b : Nat) (w : World) (hs : Small E) (h : IS w E D Z) (hL : leastB (D (fr E 3)) (E.bl + 1 : Nat) false = (b, true)) (h1 : 1 ≤ b) (hb : b ≤ E.bl) (hz3 : Z (fr E 3)) (hz : Z (dq E b)) (hQ : FullE E Z → Q) :
    Calls Tryz.prog 39 #[.pointer (some ⟨E.M, 0, none⟩)] w (Out (.tuple #[.int .u16 b, .int .i64 0]) (.tuple #[.int .u16 0, .int .i64 4]) (Wr E (blkD E D b) Z w) (Fu E Q w)) := by
  have hbl := hs.hb
  have hsz := h.sec (fr_lt hs h (.inr rfl))
  have PA := Lib.hid (part_is 3 w hs h (.inr rfl))
  have LE := Lib.hid (fun W => least_any (D (fr E 3)) (E.bl + 1 : Nat) false W (by omega))
  rw [hL] at LE
  have MK := Lib.hid (fun W (h : IS W E D Z) => mark_is 3 b true W hs h (.inr rfl) (by omega) hz3 hQ)
  have PU := Lib.hid (fun W (h : IS W E (upd D (fr E 3) (setB (D (fr E 3)) b true)) Z) => put_is b zS W hs h h1 hb rfl hz hQ)
  unfold blkD
  have H := Lib.hid h
  clear h hL hz hz3 hQ
  generalize upd (upd D (fr E 3) (setB (D (fr E 3)) b true)) (dq E b) zS = D2 at *
  generalize upd D (fr E 3) (setB (D (fr E 3)) b true) = D1 at *
  generalize D (fr E 3) = s at *
  generalize fr E 3 = q at *
  have ub : IntKind.u16.wrap (b : Int) = b := wrap_u16 b (by omega)
  have ul : ((E.bl + 1 : Nat) : Int) = (E.bl : Int) + 1 := by push_cast; rfl
  rw [ul] at LE
  clear ul
  go_enter Tryz.func39, Tryz.ntmps39
  go_wp2_with fail
  refine PA.out.mono ?_
  rintro e w1 ⟨rfl, b1⟩
  have B1 := Lib.hid b1
  have H1 := Lib.hid (H.out.later B1.out)
  have hX := H1.out.img
  clear b1
  have X0 := hX.cell 0
  have X1 := hX.cell 1
  have X2 := hX.cell 2
  have X3 := hX.cell 3
  simp only [List.getElem?_toArray, List.getElem?_cons_zero, List.getElem?_cons_succ] at X0 X1 X2 X3
  have Xl := hX.lt
  clear hX
  go_wp2_with fail
  refine (LE.out _).mono ?_
  rintro e w2 ⟨rfl, b2⟩
  have B2 := Lib.hid (B1.out.trans (b2.mono B1.out.size))
  have H2 := Lib.hid (H.out.later B2.out)
  clear b2 X0 X1 X2 X3 Xl
  go_wp2_with fail
  refine (MK.out _ H2.out).mono ?_
  rintro e w3 (⟨rfl, G⟩ | ⟨rfl, G⟩)
  · have G := Lib.hid (G.pre B2.out)
    go_wp2_with fail
    refine (zero_any _).mono ?_
    rintro e w4 ⟨rfl, b4⟩
    have G4 := Lib.hid (G.out.post b4)
    clear b4
    go_wp2_with fail
    refine (PU.out _ G4.out.1).mono ?_
    rintro e w5 (⟨rfl, G5⟩ | ⟨rfl, G5⟩)
    · have G5 := Lib.hid (G5.then_ G4.out)
      go_wp2
      go_ret2
      exact .inl ⟨rfl, G5.out⟩
    · have G5 := Lib.hid (G5.then_ G4.out)
      go_wp2
      go_ret2
      exact .inr ⟨rfl, G5.out⟩
  · have G := Lib.hid (G.pre B2.out)
    go_wp2
    go_ret2
    exact .inr ⟨rfl, G.out⟩
set_option maxRecDepth 100000 in
theorem block_none (w : World) (hs : Small E) (h : IS w E D Z) (hL : (leastB (D (fr E 3)) (E.bl + 1 : Nat) false).2 = false) :
    Calls Tryz.prog 39 #[.pointer (some ⟨E.M, 0, none⟩)] w fun e w' => e = .returned (.tuple #[.int .u16 0, .int .i64 4]) ∧ Below w.heap.size w w' := by
  have hbl := hs.hb
  have hsz := h.sec (fr_lt hs h (.inr rfl))
  have PA := Lib.hid (part_is 3 w hs h (.inr rfl))
  have LE := Lib.hid (fun W => least_any (D (fr E 3)) (E.bl + 1 : Nat) false W (by omega))
  rw [hL] at LE
  have H := Lib.hid h
  clear h hL
  generalize (leastB (D (fr E 3)) (E.bl + 1 : Nat) false).1 = b at *
  generalize D (fr E 3) = s at *
  generalize fr E 3 = q at *
  have ul : ((E.bl + 1 : Nat) : Int) = (E.bl : Int) + 1 := by push_cast; rfl
  rw [ul] at LE
  clear ul
  go_enter Tryz.func39, Tryz.ntmps39
  go_wp2_with fail
  refine PA.out.mono ?_
  rintro e w1 ⟨rfl, b1⟩
  have B1 := Lib.hid b1
  have H1 := Lib.hid (H.out.later B1.out)
  have hX := H1.out.img
  clear b1
  have X0 := hX.cell 0
  have X1 := hX.cell 1
  have X2 := hX.cell 2
  have X3 := hX.cell 3
  simp only [List.getElem?_toArray, List.getElem?_cons_zero, List.getElem?_cons_succ] at X0 X1 X2 X3
  have Xl := hX.lt
  clear hX
  go_wp2_with fail
  refine (LE.out _).mono ?_
  rintro e w2 ⟨rfl, b2⟩
  have B2 := Lib.hid (B1.out.trans (b2.mono B1.out.size))
  clear b2 X0 X1 X2 X3 Xl
  go_wp2
  go_ret2
  exact ⟨rfl, B2.out⟩
end
end Go.Proofs.YtpnfkilfgdnogaaGreatDoor.Img
end
