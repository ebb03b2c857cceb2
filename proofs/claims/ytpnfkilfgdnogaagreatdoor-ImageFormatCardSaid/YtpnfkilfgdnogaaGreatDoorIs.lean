/- Layer 11 (image): the disk that an image shows, sector by sector; what is written, or that there is no room. -/
import Derived.Test.YtpnfkilfgdnogaaGreatDoorImg
import Derived.Test.YtpnfkilfgdnogaaGreatDoorBitsFill
namespace Go.Proofs.YtpnfkilfgdnogaaGreatDoor.Img
set_option linter.unusedVariables false
set_option linter.unusedSimpArgs false
open Go.RowKit Go.Shelf Go.Maps Oct Dev Jou Tx Geo
theorem readT_put (f : Wrote) (hard : List ByteArray) (i q : Nat) (s : ByteArray) : readT (putW f i s) hard q = if q = i then s else readT f hard q := by
  unfold readT putW
  by_cases e : q = i
  · subst e
    simp
  · have e2 : ¬ (q : Int) = (i : Int) := by omega
    simp [e, e2]
theorem ImAt.wrote {W W' : World} {E : Im} {f : Wrote} {nn nn' q : Nat} {s : ByteArray} (h : ImAt W E f nn) (hJ : TJ W' E.T E.b E.hard E.k (putW f q s) nn' 1 E.j) (hT : Tch (fun c => c = E.T.m) W W') (hz : s.size = 64) : ImAt W' E (putW f q s) nn' := by
  refine ⟨?_, hJ, h.len, fun x hx => ?_⟩
  · exact (hT.block _ h.img.lt (h.tj.tx.map.ne h.img)).trans h.img
  · rw [readT_put]
    by_cases e : x = q
    · rw [if_pos e]
      exact hz
    · rw [if_neg e]
      exact h.sec x hx
/-- There is no room: more sectors than the journal takes. -/
def FullE (E : Im) (Z : Nat → Prop) : Prop := ∃ L : List Nat, L.Nodup ∧ (∀ q ∈ L, Z q) ∧ mostN E.j < L.length
theorem FullE.mono {E : Im} {Z Z' : Nat → Prop} (h : FullE E Z) (hz : ∀ q, Z q → Z' q) : FullE E Z' := by
  obtain ⟨L, h1, h2, h3⟩ := h
  exact ⟨L, h1, fun q hq => hz q (h2 q hq), h3⟩
theorem FullE.no {E : Im} {Z : Nat → Prop} (h : FullE E Z) (M : List Nat) (hM : ∀ q, Z q → q ∈ M) (hl : M.length ≤ mostN E.j) : False := by
  obtain ⟨L, h1, h2, h3⟩ := h
  have := List.Nodup.length_le_of_subset h1 (fun q hq => hM q (h2 q hq))
  omega
abbrev Secs := Nat → ByteArray
def upd (D : Secs) (i : Nat) (s : ByteArray) : Secs := fun q => if q = i then s else D q
theorem upd_same (D : Secs) (i : Nat) (s : ByteArray) : upd D i s i = s := if_pos rfl
theorem upd_ne (D : Secs) {i q : Nat} (s : ByteArray) (h : q ≠ i) : upd D i s q = D q := if_neg h
/-- The image shows this disk; Z: the sectors that may have been written. -/
def IS (W : World) (E : Im) (D : Secs) (Z : Nat → Prop) : Prop :=
  ∃ f nn, ImAt W E f nn ∧ (∀ q, q < E.hard.length → readT f E.hard q = D q) ∧ ∀ x : Int, (f x).isSome = true → ∃ q : Nat, x = q ∧ q < E.hard.length ∧ Z q
section
variable {E : Im} {D : Secs} {Z : Nat → Prop} {Q : Prop} {W W' : World}
theorem IS.later (h : IS W E D Z) (hb : Below W.heap.size W W') : IS W' E D Z := by
  obtain ⟨f, nn, h1, h2⟩ := h
  exact ⟨f, nn, h1.later hb, h2⟩
theorem IS.mono (h : IS W E D Z) {Z' : Nat → Prop} (hz : ∀ q, Z q → Z' q) : IS W E D Z' := by
  obtain ⟨f, nn, h1, h2, h3⟩ := h
  exact ⟨f, nn, h1, h2, fun x hx => by obtain ⟨q, e, hl, hq⟩ := h3 x hx; exact ⟨q, e, hl, hz q hq⟩⟩
theorem IS.ext (h : IS W E D Z) {D' : Secs} (hd : ∀ q, q < E.hard.length → D q = D' q) : IS W E D' Z := by
  obtain ⟨f, nn, h1, h2, h3⟩ := h
  exact ⟨f, nn, h1, fun q hq => (h2 q hq).trans (hd q hq), h3⟩
theorem IS.sec (h : IS W E D Z) {q : Nat} (hq : q < E.hard.length) : (D q).size = 64 := by
  obtain ⟨f, nn, h1, h2, h3⟩ := h
  rw [← h2 q hq]
  exact h1.sec q hq
theorem IS.len (h : IS W E D Z) : E.hard.length = (szL E.i E.bl E.j).sum := by
  obtain ⟨f, nn, h1, _⟩ := h
  exact h1.len
theorem IS.len4 (h : IS W E D Z) : E.hard.length ≤ 4096 := by
  obtain ⟨f, nn, h1, _⟩ := h
  exact h1.tj.tx.dev.len
theorem IS.img (h : IS W E D Z) : SBox W E.M 119 #[.pointer (some ⟨E.T.p, 0, none⟩), .int .i64 E.i, .int .i64 E.bl, .int .i64 E.j] := by
  obtain ⟨f, nn, h1, _⟩ := h
  exact h1.img
/-- What was written .. -/
def Wr (E : Im) (D' : Secs) (Z : Nat → Prop) (w w' : World) : Prop := IS w' E D' Z ∧ Tch (fun c => c = E.T.m) w w'
/-- .. or no room. -/
def Fu (E : Im) (Q : Prop) (w w' : World) : Prop := Q ∧ Tch (fun c => c = E.T.m) w w'
theorem Wr.pre {w0 w w' : World} {D' : Secs} (h : Wr E D' Z w w') (hb : Below w0.heap.size w0 w) : Wr E D' Z w0 w' := ⟨h.1, (Tch.of_below hb).trans h.2⟩
theorem Fu.pre {w0 w w' : World} (h : Fu E Q w w') (hb : Below w0.heap.size w0 w) : Fu E Q w0 w' := ⟨h.1, (Tch.of_below hb).trans h.2⟩
theorem Wr.then_ {w0 w w' : World} {D' D1 : Secs} (h : Wr E D' Z w w') (h0 : Wr E D1 Z w0 w) : Wr E D' Z w0 w' := ⟨h.1, h0.2.trans h.2⟩
theorem Fu.then_ {w0 w w' : World} {D1 : Secs} (h : Fu E Q w w') (h0 : Wr E D1 Z w0 w) : Fu E Q w0 w' := ⟨h.1, h0.2.trans h.2⟩
theorem Wr.post {w w' w2 : World} {D' : Secs} (h : Wr E D' Z w w') (hb : Below w'.heap.size w' w2) : Wr E D' Z w w2 := ⟨h.1.later hb, h.2.trans (Tch.of_below hb)⟩
theorem Fu.post {w w' w2 : World} (h : Fu E Q w w') (hb : Below w'.heap.size w' w2) : Fu E Q w w2 := ⟨h.1, h.2.trans (Tch.of_below hb)⟩
theorem read_is (i : Nat) (w : World) (h : IS w E D Z) (hi : i < E.hard.length) : Calls Tryz.prog 57 #[.pointer (some ⟨E.T.p, 0, none⟩), .int .i64 i] w fun e w' => e = .returned (.tuple #[.string (D i), .int .i64 0]) ∧ Below w.heap.size w w' := by
  obtain ⟨f, nn, h1, h2, h3⟩ := h
  have h4 := Tx.read_any i w h1.tj.tx hi
  rw [h2 i hi] at h4
  exact h4
theorem wrote_is {f : Wrote} {nn nn' i : Nat} {s : ByteArray} {w w' : World} (h1 : ImAt w E f nn) (h2 : ∀ q, q < E.hard.length → readT f E.hard q = D q) (h3 : ∀ x : Int, (f x).isSome = true → ∃ q : Nat, x = q ∧ q < E.hard.length ∧ Z q)
    (hi : i < E.hard.length) (hz : Z i) (hs : s.size = 64) (r1 : TJ w' E.T E.b E.hard E.k (putW f i s) nn' 1 E.j) (r2 : Tch (fun c => c = E.T.m) w w') : Wr E (upd D i s) Z w w' := by
  refine ⟨⟨putW f i s, _, h1.wrote r1 r2 hs, fun q hq => ?_, fun x hx => ?_⟩, r2⟩
  · rw [readT_put]
    unfold upd
    by_cases e : q = i
    · rw [if_pos e, if_pos e]
    · rw [if_neg e, if_neg e]
      exact h2 q hq
  · unfold putW at hx
    by_cases e : x = (i : Int)
    · exact ⟨i, e, hi, hz⟩
    · rw [if_neg e] at hx
      exact h3 x hx
theorem noRoom_is {f : Wrote} {i : Nat} (h3 : ∀ x : Int, (f x).isSome = true → ∃ q : Nat, x = q ∧ q < E.hard.length ∧ Z q) (hz : Z i) (h : NoRoom f i E.j) : FullE E Z := by
  obtain ⟨hf, ss, hk, hl⟩ := h
  have hm : ∀ a ∈ ss, ∃ q : Nat, a = q ∧ Z q := fun a ha => by
    obtain ⟨q, e, _, hq⟩ := h3 a (by have := (hk.2 a).1 ha; unfold strF at this; simpa using this)
    exact ⟨q, e, hq⟩
  refine ⟨i :: ss.map Int.toNat, List.nodup_cons.2 ⟨?_, ?_⟩, ?_, by simp; omega⟩
  · intro hc
    obtain ⟨a, ha, e⟩ := List.mem_map.1 hc
    obtain ⟨q, rfl, _⟩ := hm a ha
    have e2 : q = i := by simpa using e
    subst e2
    have := (hk.2 _).1 ha
    unfold strF at this
    rw [hf] at this
    cases this
  · refine List.pairwise_map.2 (hk.1.imp_of_mem fun {a c} ha hc hne e => hne ?_)
    obtain ⟨p, rfl, _⟩ := hm a ha
    obtain ⟨q, rfl, _⟩ := hm c hc
    have e2 : p = q := by simpa using e
    rw [e2]
  · intro q hq
    rcases List.mem_cons.1 hq with rfl | hq
    · exact hz
    · obtain ⟨a, ha, rfl⟩ := List.mem_map.1 hq
      obtain ⟨p, rfl, hp⟩ := hm a ha
      simpa using hp
theorem write_is (i : Nat) (s : ByteArray) (w : World) (h : IS w E D Z) (hj : E.j ≤ 256) (hi : i < E.hard.length) (hs : s.size = 64) (hz : Z i) (hQ : FullE E Z → Q) :
    Calls Tryz.prog 106 #[.pointer (some ⟨E.T.p, 0, none⟩), .int .i64 i, .string s] w (Out (.int .i64 0) (.int .i64 4) (Wr E (upd D i s) Z w) (Fu E Q w)) := by
  obtain ⟨f, nn, h1, h2, h3⟩ := h
  refine (write_or i s w h1.tj hi hs hj (fun x hx => by obtain ⟨q, e, hl, _⟩ := h3 x hx; exact ⟨q, e, hl⟩)).mono ?_
  rintro e w' (⟨rfl, ⟨nn', r1⟩, r2⟩ | ⟨rfl, r1, r2⟩)
  · exact .inl ⟨rfl, wrote_is h1 h2 h3 hi hz hs r1 r2⟩
  · exact .inr ⟨rfl, hQ (noRoom_is h3 hz r1), Tch.of_below r2⟩
theorem patch_is (i at_ : Nat) (t : ByteArray) (w : World) (h : IS w E D Z) (hj : E.j ≤ 256) (hi : i < E.hard.length) (hs : at_ + t.size ≤ 64) (hz : Z i) (hQ : FullE E Z → Q) :
    Calls Tryz.prog 64 #[.pointer (some ⟨E.T.p, 0, none⟩), .int .i64 i, .int .i64 at_, .string t] w (Out (.int .i64 0) (.int .i64 4) (Wr E (upd D i (patchS (D i) at_ t)) Z w) (Fu E Q w)) := by
  have h64 := h.sec hi
  obtain ⟨f, nn, h1, h2, h3⟩ := h
  have P := patch_or i at_ t w h1.tj hi (by rw [h2 i hi]; exact h64) hs hj (fun x hx => by obtain ⟨q, e, hl, _⟩ := h3 x hx; exact ⟨q, e, hl⟩)
  rw [h2 i hi] at P
  refine P.mono ?_
  rintro e w' (⟨rfl, ⟨nn', r1⟩, r2⟩ | ⟨rfl, r1, r2⟩)
  · exact .inl ⟨rfl, wrote_is h1 h2 h3 hi hz ((patchS_size (by omega)).trans h64) r1 r2⟩
  · exact .inr ⟨rfl, hQ (noRoom_is h3 hz r1), Tch.of_below r2⟩
theorem part_is (p : Nat) (w : World) (hs : Small E) (h : IS w E D Z) (hp : p = 2 ∨ p = 3) :
    Calls Tryz.prog 54 #[.pointer (some ⟨E.M, 0, none⟩), .int .i64 p] w fun e w' => e = .returned (.tuple #[.string (D (fr E p)), .int .i64 (fr E p), .int .i64 0]) ∧ Below w.heap.size w w' := by
  obtain ⟨f, nn, h1, h2, h3⟩ := h
  have hv := hs.vals
  have hlt : fr E p < E.hard.length := by rw [h1.len]; rcases hp with rfl | rfl <;> omega
  have P := part_any E f nn p w hs h1 hp
  rw [h2 _ hlt] at P
  exact P
end
end Go.Proofs.YtpnfkilfgdnogaaGreatDoor.Img
