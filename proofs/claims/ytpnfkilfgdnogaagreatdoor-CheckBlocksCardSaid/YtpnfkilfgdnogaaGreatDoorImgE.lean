/- Layer 11's law ImageOwns, plain: Resize keeps the owners. -/
import Derived.Test.YtpnfkilfgdnogaaGreatDoorImgA
import Derived.Test.YtpnfkilfgdnogaaGreatDoorImgC
section
namespace Go.Proofs.YtpnfkilfgdnogaaGreatDoor.Img
set_option linter.unusedVariables false
set_option linter.unusedSimpArgs false
open Go.RowKit Go.Shelf Go.Maps Oct Dev Jou Tx Geo Ino Bm
theorem nzs_vals (l : List Nat) (a : Nat) : ∀ m, ((nzs l a m).map fun k => l.getD k 0) = ((l.drop a).take m).filter (fun v => decide (v ≠ 0))
  | 0 => by simp [nzs]
  | m + 1 => by
    rw [nzs_succ, List.map_append, nzs_vals l a m, List.take_add_one, List.filter_append]
    congr 1
    rw [List.getElem?_drop]
    cases h : l[a + m]? with
    | none => simp [List.getD, h]
    | some v =>
      by_cases hv : v = 0
      · simp [List.getD, h, hv]
      · simp [List.getD, h, hv]
theorem freeD_eq (x : InoT) (p : Nat) : freeD x p = ((dirL x).drop p).filter (fun v => decide (v ≠ 0)) := by
  unfold freeD
  rw [nzs_vals, List.take_of_length_le]
  simp [dirL]
theorem freeV_eq {vs : List Nat} (p : Nat) (hl : vs.length = 32) : freeV vs p = (vs.drop (p - 4)).filter (fun v => decide (v ≠ 0)) := by
  unfold freeV
  rw [nzs_vals, List.take_of_length_le]
  simp [hl]
def blks (x : InoT) (vs : List Nat) : List Nat := cutFree x vs 0
theorem blks_eq {x : InoT} {vs : List Nat} (hl : vs.length = 32) : blks x vs = ((dirL x).filter (fun v => decide (v ≠ 0)) ++ vs.filter (fun v => decide (v ≠ 0))) ++ if x.ind = 0 then [] else [x.ind] := by
  unfold blks cutFree
  rw [freeD_eq, freeV_eq 0 hl]
  by_cases h : x.ind = 0
  · simp [h]
  · simp [h]
theorem mem_blks {x : InoT} {vs : List Nat} (hl : vs.length = 32) (b : Nat) : b ∈ blks x vs ↔ b ≠ 0 ∧ (b ∈ dirL x ∨ b ∈ vs ∨ b = x.ind) := by
  rw [blks_eq hl]
  by_cases h : x.ind = 0
  · simp only [h, if_true, List.append_nil, List.mem_append, List.mem_filter, decide_eq_true_eq]
    constructor
    · rintro (⟨h1, h2⟩ | ⟨h1, h2⟩)
      · exact ⟨h2, .inl h1⟩
      · exact ⟨h2, .inr (.inl h1)⟩
    · rintro ⟨h1, h2 | h2 | h2⟩
      · exact .inl ⟨h2, h1⟩
      · exact .inr ⟨h2, h1⟩
      · exact absurd h2 h1
  · simp only [h, if_false, List.mem_append, List.mem_filter, decide_eq_true_eq, List.mem_singleton]
    constructor
    · rintro ((⟨h1, h2⟩ | ⟨h1, h2⟩) | h1)
      · exact ⟨h2, .inl h1⟩
      · exact ⟨h2, .inr (.inl h1)⟩
      · exact ⟨by rw [h1]; exact h, .inr (.inr h1)⟩
    · rintro ⟨h1, h2 | h2 | h2⟩
      · exact .inl (.inl ⟨h2, h1⟩)
      · exact .inl (.inr ⟨h2, h1⟩)
      · exact .inr h2
structure Owns (E : Im) (D : Secs) (ino : Nat → InoT) (vs : Nat → List Nat) : Prop where
  is : ∀ n, 1 ≤ n → n ≤ E.i → InoIs E D n (ino n)
  ok : ∀ n, 1 ≤ n → n ≤ E.i → (ino n).Ok
  ing : ∀ n, 1 ≤ n → n ≤ E.i → InG E.bl (ino n)
  ind : ∀ n, 1 ≤ n → n ≤ E.i → IndIs E D (ino n).ind (vs n)
  bit : ∀ b, 1 ≤ b → b ≤ E.bl → (bitB (D (fr E 3)) b = true ↔ ∃ n, 1 ≤ n ∧ n ≤ E.i ∧ b ∈ blks (ino n) (vs n))
  zero : bitB (D (fr E 3)) 0 = true
  one : ∀ n m b, 1 ≤ n → n ≤ E.i → 1 ≤ m → m ≤ E.i → b ∈ blks (ino n) (vs n) → b ∈ blks (ino m) (vs m) → n = m
  once : ∀ n, 1 ≤ n → n ≤ E.i → (blks (ino n) (vs n)).Nodup
def put_ {A : Type} (f : Nat → A) (n : Nat) (y : A) : Nat → A := fun m => if m = n then y else f m
theorem put_same {A : Type} (f : Nat → A) (n : Nat) (y : A) : put_ f n y n = y := if_pos rfl
theorem put_ne {A : Type} (f : Nat → A) {n m : Nat} (y : A) (h : m ≠ n) : put_ f n y m = f m := if_neg h
theorem Owns.step {E : Im} {D D' : Secs} {ino : Nat → InoT} {vs : Nat → List Nat} (h : Owns E D ino vs) (n : Nat) (y : InoT) (us : List Nat) (h1 : 1 ≤ n) (hn : n ≤ E.i)
    (a1 : InoIs E D' n y) (a2 : ∀ m, 1 ≤ m → m ≤ E.i → m ≠ n → InoIs E D' m (ino m)) (b1 : y.Ok) (b2 : InG E.bl y) (b3 : IndIs E D' y.ind us) (b4 : ∀ m, 1 ≤ m → m ≤ E.i → m ≠ n → IndIs E D' (ino m).ind (vs m))
    (c : ∀ b, 1 ≤ b → b ≤ E.bl → (bitB (D' (fr E 3)) b = true ↔ b ∈ blks y us ∨ (bitB (D (fr E 3)) b = true ∧ b ∉ blks (ino n) (vs n)))) (d : bitB (D' (fr E 3)) 0 = true)
    (e : ∀ b ∈ blks y us, b ∈ blks (ino n) (vs n) ∨ (1 ≤ b ∧ b ≤ E.bl ∧ bitB (D (fr E 3)) b = false)) (f : (blks y us).Nodup) : Owns E D' (put_ ino n y) (put_ vs n us) := by
  have no : ∀ m b, 1 ≤ m → m ≤ E.i → m ≠ n → b ∈ blks y us → b ∉ blks (ino m) (vs m) := by
    intro m b m1 m2 mn hb hm
    rcases e b hb with h2 | ⟨g1, g2, h2⟩
    · exact mn (h.one m n b m1 m2 h1 hn hm h2)
    · have := (h.bit b g1 g2).2 ⟨m, m1, m2, hm⟩
      rw [h2] at this
      cases this
  refine ⟨?_, ?_, ?_, ?_, ?_, d, ?_, ?_⟩
  · intro m m1 m2
    by_cases q : m = n
    · subst q; rw [put_same]; exact a1
    · rw [put_ne _ _ q]; exact a2 m m1 m2 q
  · intro m m1 m2
    by_cases q : m = n
    · subst q; rw [put_same]; exact b1
    · rw [put_ne _ _ q]; exact h.ok m m1 m2
  · intro m m1 m2
    by_cases q : m = n
    · subst q; rw [put_same]; exact b2
    · rw [put_ne _ _ q]; exact h.ing m m1 m2
  · intro m m1 m2
    by_cases q : m = n
    · subst q; rw [put_same, put_same]; exact b3
    · rw [put_ne _ _ q, put_ne _ _ q]; exact b4 m m1 m2 q
  · intro b g1 g2
    rw [c b g1 g2]
    constructor
    · rintro (hb | ⟨hb, hx⟩)
      · exact ⟨n, h1, hn, by rw [put_same, put_same]; exact hb⟩
      · obtain ⟨m, m1, m2, hm⟩ := (h.bit b g1 g2).1 hb
        have q : m ≠ n := fun q => hx (q ▸ hm)
        exact ⟨m, m1, m2, by rw [put_ne _ _ q, put_ne _ _ q]; exact hm⟩
    · rintro ⟨m, m1, m2, hm⟩
      by_cases q : m = n
      · subst q
        rw [put_same, put_same] at hm
        exact .inl hm
      · rw [put_ne _ _ q, put_ne _ _ q] at hm
        exact .inr ⟨(h.bit b g1 g2).2 ⟨m, m1, m2, hm⟩, fun hx => q (h.one m n b m1 m2 h1 hn hm hx)⟩
  · intro m k b m1 m2 k1 k2 hm hk
    by_cases q : m = n
    · by_cases r : k = n
      · rw [q, r]
      · subst q
        rw [put_same, put_same] at hm
        rw [put_ne _ _ r, put_ne _ _ r] at hk
        exact absurd hk (no k b k1 k2 r hm)
    · rw [put_ne _ _ q, put_ne _ _ q] at hm
      by_cases r : k = n
      · subst r
        rw [put_same, put_same] at hk
        exact absurd hm (no m b m1 m2 q hk)
      · rw [put_ne _ _ r, put_ne _ _ r] at hk
        exact h.one m k b m1 m2 k1 k2 hm hk
  · intro m m1 m2
    by_cases q : m = n
    · subst q; rw [put_same, put_same]; exact f
    · rw [put_ne _ _ q, put_ne _ _ q]; exact h.once m m1 m2
end Go.Proofs.YtpnfkilfgdnogaaGreatDoor.Img
end
section
namespace Go.Proofs.YtpnfkilfgdnogaaGreatDoor.Img
set_option linter.unusedVariables false
set_option linter.unusedSimpArgs false
open Go.RowKit Go.Shelf Go.Maps Oct Dev Jou Tx Geo Ino Bm
theorem ino_zero : inoB noIno = B (List.replicate 32 0) := by kernel_rfl
theorem z_ext (a : Nat) (h : a ≤ 32) : zS.extract a (a + 32) = inoB noIno := by
  rw [ino_zero]
  apply L_inj
  unfold zS
  rw [ext_B]
  simp only [L_B, List.drop_replicate, List.take_replicate]
  congr 1
  omega
theorem root_two : rootS.extract 32 64 = inoB noIno := by kernel_rfl
theorem fmt_ino (E : Im) (hs : Small E) (n : Nat) (h2 : 2 ≤ n) (hn : n ≤ E.i) : InoIs E (fmtS E.i E.bl E.j) n noIno := by
  have hi := hs.hi
  have hb := hs.hb
  have hv := hs.vals
  have k2 : fromG E.i E.bl E.j 2 = fr E 2 := rfl
  have k3 : fromG E.i E.bl E.j 3 = fr E 3 := rfl
  have k4 : fromG E.i E.bl E.j 4 = fr E 4 := rfl
  unfold InoIs
  by_cases hn2 : n = 2
  · subst hn2
    have ht : tq E 2 = fromG E.i E.bl E.j 4 := by unfold tq fr; omega
    rw [ht]
    have e : fmtS E.i E.bl E.j (fromG E.i E.bl E.j 4) = rootS := by unfold fmtS; rw [if_pos rfl]
    rw [e]
    exact root_two
  · have e : fmtS E.i E.bl E.j (tq E n) = zS := by
      have kt : tq E n = fr E 4 + (n - 1) / 2 := rfl
      unfold fmtS
      rw [if_neg (by omega), if_neg (by omega), if_neg (by omega), if_neg (by omega)]
    rw [e]
    exact z_ext _ (by unfold io_; omega)
theorem blks_no : blks noIno zs32 = [] ∧ blks rootT zs32 = [] := ⟨by kernel_rfl, by kernel_rfl⟩
def inoF : Nat → InoT := put_ (fun _ => noIno) 1 rootT
theorem blks_F (n : Nat) : blks (inoF n) zs32 = [] := by
  unfold inoF put_
  split
  · exact blks_no.2
  · exact blks_no.1
theorem owns_fmt (E : Im) (hs : Small E) : Owns E (fmtS E.i E.bl E.j) inoF (fun _ => zs32) := by
  obtain ⟨_, f3, f4⟩ := fmt_at E E.i E.bl E.j hs rfl rfl rfl
  have hcase : ∀ n, inoF n = rootT ∨ inoF n = noIno := fun n => by
    unfold inoF put_
    split
    · exact .inl rfl
    · exact .inr rfl
  refine ⟨?_, ?_, ?_, ?_, ?_, ?_, ?_, ?_⟩
  · intro n h1 hn
    by_cases q : n = 1
    · subst q
      exact root_is E E.i E.bl E.j f4
    · have e : inoF n = noIno := put_ne _ _ q
      rw [e]
      exact fmt_ino E hs n (by omega) hn
  · intro n h1 hn
    rcases hcase n with e | e <;> rw [e]
    · exact rootT_ok
    · exact .inl rfl
  · intro n h1 hn
    rcases hcase n with e | e <;> rw [e] <;> exact ⟨Nat.zero_le _, Nat.zero_le _, Nat.zero_le _, Nat.zero_le _, Nat.zero_le _⟩
  · intro n h1 hn
    rcases hcase n with e | e <;> rw [e] <;> exact indIs_zero E _
  · intro b g1 g2
    rw [f3, bit_one]
    constructor
    · intro h
      have h := of_decide_eq_true h
      omega
    · rintro ⟨n, _, _, hb⟩
      rw [blks_F] at hb
      cases hb
  · rw [f3, bit_one]
    rfl
  · intro n m b _ _ _ _ hb _
    rw [blks_F] at hb
    cases hb
  · intro n _ _
    rw [blks_F]
    exact List.nodup_nil
end Go.Proofs.YtpnfkilfgdnogaaGreatDoor.Img
end
section
namespace Go.Proofs.YtpnfkilfgdnogaaGreatDoor.Img
set_option linter.unusedVariables false
set_option linter.unusedSimpArgs false
open Go.RowKit Go.Shelf Go.Maps Oct Dev Jou Tx Geo Ino Bm
section
variable {E : Im} {D : Secs}
theorem q_tq3 (hs : Small E) (n : Nat) : tq E n ≠ fr E 3 := by
  have hv := hs.vals
  unfold tq
  omega
theorem q_dq3 (hs : Small E) {b : Nat} (h : 1 ≤ b) : dq E b ≠ fr E 3 := by
  have hv := hs.vals
  unfold dq
  omega
theorem q_dqt (hs : Small E) {b n : Nat} (h : 1 ≤ b) (h1 : 1 ≤ n) (hn : n ≤ E.i) : dq E b ≠ tq E n := by
  have hv := hs.vals
  unfold dq tq
  omega
theorem dq_inj (hs : Small E) {a b : Nat} (ha : 1 ≤ a) (hb : 1 ≤ b) (h : dq E a = dq E b) : a = b := by
  unfold dq at h
  omega
theorem ind_frame {D' : Secs} {ind : Nat} {vs : List Nat} (h : IndIs E D ind vs) (hd : ind ≠ 0 → D' (dq E ind) = D (dq E ind)) : IndIs E D' ind vs := ⟨h.len, h.lt, h.no, fun h0 => (hd h0).trans (h.has h0)⟩
theorem ind_eq {i j : Nat} {vs : List Nat} (h : IndIs E D j vs) (e : i = j) : IndIs E D i vs := by rw [e]; exact h
theorem Owns.setIno {ino : Nat → InoT} {vs : Nat → List Nat} (h : Owns E D ino vs) (hs : Small E) (n : Nat) (y : InoT) (h1 : 1 ≤ n) (hn : n ≤ E.i) (hsz : (D (tq E n)).size = 64) (hy : y.Ok) (hr : y.row = (ino n).row) : Owns E (setIno E D n y) (put_ ino n y) (put_ vs n (vs n)) := by
  have hf : Img.setIno E D n y (fr E 3) = D (fr E 3) := setIno_q (q_tq3 hs n).symm
  have hq : ∀ k, k ≠ 0 → Img.setIno E D n y (dq E k) = D (dq E k) := fun k hk => setIno_q (q_dqt hs (by omega) h1 hn)
  obtain ⟨k, l, s, d0, d1, d2, d3, i⟩ := y
  have hb : blks ⟨k, l, s, d0, d1, d2, d3, i⟩ (vs n) = blks (ino n) (vs n) := by
    have hl := (h.ind n h1 hn).len
    rw [blks_eq hl, blks_eq hl]
    generalize ino n = x at *
    obtain ⟨k', l', s', e0, e1, e2, e3, i'⟩ := x
    simp only [InoT.row, List.cons.injEq, and_true] at hr
    obtain ⟨rfl, rfl, rfl, rfl, rfl⟩ := hr
    rfl
  have hrow : d0 = (ino n).d0 ∧ d1 = (ino n).d1 ∧ d2 = (ino n).d2 ∧ d3 = (ino n).d3 ∧ i = (ino n).ind := by simpa [InoT.row] using hr
  refine h.step n _ (vs n) h1 hn (setIno_same hsz) (fun m m1 m2 q => setIno_other hsz h1 m1 (Ne.symm q) (h.is m m1 m2)) hy ?_ ?_ ?_ ?_ ?_ ?_ ?_
  · have g := h.ing n h1 hn
    unfold InG at g ⊢
    simp only
    rw [hrow.1, hrow.2.1, hrow.2.2.1, hrow.2.2.2.1, hrow.2.2.2.2]
    exact g
  · exact ind_eq (ind_frame (h.ind n h1 hn) (fun k0 => hq _ k0)) hrow.2.2.2.2
  · intro m m1 m2 q
    exact ind_frame (h.ind m m1 m2) (fun k0 => hq _ k0)
  · intro b g1 g2
    rw [hf, hb]
    constructor
    · intro hbit
      by_cases hx : b ∈ blks (ino n) (vs n)
      · exact .inl hx
      · exact .inr ⟨hbit, hx⟩
    · rintro (hx | ⟨hx, _⟩)
      · exact (h.bit b g1 g2).2 ⟨n, h1, hn, hx⟩
      · exact hx
  · rw [hf]
    exact h.zero
  · intro b hx
    rw [hb] at hx
    exact .inl hx
  · rw [hb]
    exact h.once n h1 hn
end
end Go.Proofs.YtpnfkilfgdnogaaGreatDoor.Img
end
section
namespace Go.Proofs.YtpnfkilfgdnogaaGreatDoor.Img
set_option linter.unusedVariables false
set_option linter.unusedSimpArgs false
open Go.RowKit Go.Shelf Go.Maps Oct Dev Jou Tx Geo Ino Bm
section
variable {E : Im} {D : Secs} {ino : Nat → InoT} {vs : Nat → List Nat}
theorem Owns.notInd (h : Owns E D ino vs) (n b : Nat) (h1 : 1 ≤ n) (hn : n ≤ E.i) (hb : b ≠ 0) (hm : b ∈ dirL (ino n) ∨ b ∈ vs n) : ∀ m, 1 ≤ m → m ≤ E.i → (ino m).ind ≠ b := by
  intro m m1 m2 e
  have hl := (h.ind n h1 hn).len
  have b1 : b ∈ blks (ino n) (vs n) := (mem_blks hl b).2 ⟨hb, hm.elim .inl (fun q => .inr (.inl q))⟩
  have b2 : b ∈ blks (ino m) (vs m) := (mem_blks (h.ind m m1 m2).len b).2 ⟨hb, .inr (.inr e.symm)⟩
  obtain rfl := h.one n m b h1 hn m1 m2 b1 b2
  have hd := h.once n h1 hn
  rw [blks_eq hl] at hd
  have h0 : (ino n).ind ≠ 0 := by rw [e]; exact hb
  rw [if_neg h0, List.nodup_append] at hd
  refine hd.2.2 b ?_ (ino n).ind (List.mem_singleton.2 rfl) e.symm
  rw [List.mem_append, List.mem_filter, List.mem_filter]
  rcases hm with q | q
  · exact .inl ⟨q, by simpa using hb⟩
  · exact .inr ⟨q, by simpa using hb⟩
theorem Owns.data (h : Owns E D ino vs) (hs : Small E) (b : Nat) (s : ByteArray) (h1 : 1 ≤ b) (hb : ∀ m, 1 ≤ m → m ≤ E.i → (ino m).ind ≠ b) : Owns E (upd D (dq E b) s) ino vs := by
  have hf : upd D (dq E b) s (fr E 3) = D (fr E 3) := upd_ne _ _ (q_dq3 hs h1).symm
  refine ⟨fun n n1 n2 => (h.is n n1 n2).upd (q_dqt hs h1 n1 n2).symm, h.ok, h.ing, fun n n1 n2 => ind_frame (h.ind n n1 n2) (fun k => upd_ne _ _ (fun e => hb n n1 n2 (dq_inj hs (by omega) h1 e))), ?_, ?_, h.one, h.once⟩
  · rw [hf]
    exact h.bit
  · rw [hf]
    exact h.zero
end
end Go.Proofs.YtpnfkilfgdnogaaGreatDoor.Img
end
section
namespace Go.Proofs.YtpnfkilfgdnogaaGreatDoor.Img
set_option linter.unusedVariables false
set_option linter.unusedSimpArgs false
open Go.RowKit Go.Shelf Go.Maps Oct Dev Jou Tx Geo Ino Bm
def nz (v : Nat) : Bool := decide (v ≠ 0)
theorem set_perm : ∀ (l : List Nat) (p b : Nat), l[p]? = some 0 → b ≠ 0 → ((l.set p b).filter nz).Perm (b :: l.filter nz)
  | [], p, b, h, hb => by simp at h
  | v :: r, 0, b, h, hb => by
    have h : v = 0 := by simpa using h
    subst h
    have e : nz b = true := by simpa [nz] using hb
    have e0 : nz 0 = false := rfl
    rw [List.set_cons_zero, List.filter_cons, if_pos e, List.filter_cons, e0]
    exact List.Perm.refl _
  | v :: r, p + 1, b, h, hb => by
    have ih := set_perm r p b (by simpa using h) hb
    rw [List.set_cons_succ, List.filter_cons, List.filter_cons]
    by_cases e : nz v = true
    · rw [if_pos e, if_pos e]
      exact (ih.cons v).trans (List.Perm.swap b v _)
    · rw [if_neg e, if_neg e]
      exact ih
theorem blks_lo {x : InoT} {vs : List Nat} {p b : Nat} (hl : vs.length = 32) (hp : p < 4) (hz : pageB x vs p = 0) (hb : b ≠ 0) : (blks (setDir x p b) vs).Perm (b :: blks x vs) := by
  have h0 : (dirL x)[p]? = some 0 := by
    unfold pageB allB at hz
    match p, hp with
    | 0, _ => simpa [dirL] using hz
    | 1, _ => simpa [dirL] using hz
    | 2, _ => simpa [dirL] using hz
    | 3, _ => simpa [dirL] using hz
  have h1 : dirL (setDir x p b) = (dirL x).set p b := by
    match p, hp with
    | 0, _ => rfl
    | 1, _ => rfl
    | 2, _ => rfl
    | 3, _ => rfl
  have h2 : (setDir x p b).ind = x.ind := by
    match p, hp with
    | 0, _ => rfl
    | 1, _ => rfl
    | 2, _ => rfl
    | 3, _ => rfl
  rw [blks_eq hl, blks_eq hl, h1, h2, List.append_assoc, List.append_assoc]
  exact (set_perm (dirL x) p b h0 hb).append_right _
theorem blks_hi {x : InoT} {vs : List Nat} {k b : Nat} (hl : vs.length = 32) (hz : vs[k]? = some 0) (hb : b ≠ 0) : (blks x (vs.set k b)).Perm (b :: blks x vs) := by
  rw [blks_eq (by rw [List.length_set]; exact hl), blks_eq hl]
  refine List.Perm.trans ?_ (List.Perm.refl (b :: ((dirL x).filter nz ++ vs.filter nz ++ if x.ind = 0 then [] else [x.ind])))
  have h1 := (set_perm vs k b hz hb).append_left ((dirL x).filter nz)
  have h2 := h1.append_right (if x.ind = 0 then [] else [x.ind])
  refine h2.trans ?_
  rw [← List.cons_append]
  exact List.Perm.append_right _ List.perm_middle
theorem blks_new {x : InoT} {vs : List Nat} {b : Nat} (hl : vs.length = 32) (h0 : x.ind = 0) (hb : b ≠ 0) : (blks { x with ind := b } vs).Perm (b :: blks x vs) := by
  rw [blks_eq hl, blks_eq hl, if_pos h0, if_neg hb, List.append_nil]
  exact List.perm_append_comm
section
variable {E : Im} {D D' : Secs} {ino : Nat → InoT} {vs : Nat → List Nat}
theorem Owns.take (h : Owns E D ino vs) (n b : Nat) (y : InoT) (us : List Nat) (h1 : 1 ≤ n) (hn : n ≤ E.i) (hb1 : 1 ≤ b) (hb2 : b ≤ E.bl) (hp : (blks y us).Perm (b :: blks (ino n) (vs n))) (hbit : bitB (D (fr E 3)) b = false) (hsz : (D (fr E 3)).size = 64) (h3 : D' (fr E 3) = setB (D (fr E 3)) b true) (hbl : E.bl ≤ 60)
    (a1 : InoIs E D' n y) (a2 : ∀ m, 1 ≤ m → m ≤ E.i → m ≠ n → InoIs E D' m (ino m)) (b1 : y.Ok) (b2 : InG E.bl y) (b3 : IndIs E D' y.ind us) (b4 : ∀ m, 1 ≤ m → m ≤ E.i → m ≠ n → IndIs E D' (ino m).ind (vs m)) : Owns E D' (put_ ino n y) (put_ vs n us) := by
  have hset : ∀ k, bitB (D' (fr E 3)) k = if k = b then true else bitB (D (fr E 3)) k := fun k => by rw [h3]; exact bitB_setB _ b k true (by omega)
  have hnot : b ∉ blks (ino n) (vs n) := fun hx => by
    have := (h.bit b hb1 hb2).2 ⟨n, h1, hn, hx⟩
    rw [hbit] at this
    cases this
  refine h.step n y us h1 hn a1 a2 b1 b2 b3 b4 ?_ ?_ ?_ ?_
  · intro k k1 k2
    rw [hset, hp.mem_iff, List.mem_cons]
    by_cases e : k = b
    · simp [e]
    · rw [if_neg e]
      constructor
      · intro hk
        by_cases hx : k ∈ blks (ino n) (vs n)
        · exact .inl (.inr hx)
        · exact .inr ⟨hk, hx⟩
      · rintro ((q | q) | q)
        · exact absurd q e
        · exact (h.bit k k1 k2).2 ⟨n, h1, hn, q⟩
        · exact q.1
  · rw [hset, if_neg (by omega)]
    exact h.zero
  · intro k hk
    rw [hp.mem_iff, List.mem_cons] at hk
    rcases hk with rfl | hk
    · exact .inr ⟨hb1, hb2, hbit⟩
    · exact .inl hk
  · rw [hp.nodup_iff, List.nodup_cons]
    exact ⟨hnot, h.once n h1 hn⟩
end
end Go.Proofs.YtpnfkilfgdnogaaGreatDoor.Img
end
section
namespace Go.Proofs.YtpnfkilfgdnogaaGreatDoor.Img
set_option linter.unusedVariables false
set_option linter.unusedSimpArgs false
open Go.RowKit Go.Shelf Go.Maps Oct Dev Jou Tx Geo Ino Bm
theorem pageB_mem {x : InoT} {vs : List Nat} {p : Nat} (h : pageB x vs p ≠ 0) : pageB x vs p ∈ dirL x ∨ pageB x vs p ∈ vs := by
  unfold pageB at *
  have hm : (allB x vs).getD p 0 ∈ allB x vs := by
    rw [List.getD_eq_getElem?_getD] at *
    cases e : (allB x vs)[p]? with
    | none => rw [e] at h; exact absurd rfl h
    | some v => exact List.mem_of_getElem? e
  have e : allB x vs = dirL x ++ vs := rfl
  rw [e, List.mem_append] at hm
  rw [e]
  exact hm
theorem setDir_ing {x : InoT} {p b bl : Nat} (hp : p < 4) (g : InG bl x) (hb : b ≤ bl) : InG bl (setDir x p b) := by
  unfold InG at g ⊢
  match p, hp with
  | 0, _ => exact ⟨hb, g.2⟩
  | 1, _ => exact ⟨g.1, hb, g.2.2⟩
  | 2, _ => exact ⟨g.1, g.2.1, hb, g.2.2.2⟩
  | 3, _ => exact ⟨g.1, g.2.1, g.2.2.1, hb, g.2.2.2.2⟩
theorem setDir_ind {x : InoT} {p b : Nat} (hp : p < 4) : (setDir x p b).ind = x.ind := by
  match p, hp with
  | 0, _ => rfl
  | 1, _ => rfl
  | 2, _ => rfl
  | 3, _ => rfl
section
variable {E : Im} {D : Secs} {ino : Nat → InoT} {vs : Nat → List Nat}
theorem blkD_fr (hs : Small E) {b : Nat} (h : 1 ≤ b) : blkD E D b (fr E 3) = setB (D (fr E 3)) b true := by
  unfold blkD
  rw [upd_ne _ _ (q_dq3 hs h).symm]
  exact if_pos rfl
theorem blkD_ne (hs : Small E) {b q : Nat} (h3 : q ≠ fr E 3) (h : q ≠ dq E b) : blkD E D b q = D q := by
  unfold blkD
  rw [upd_ne _ _ h, upd_ne _ _ h3]
theorem Owns.have_ (h : Owns E D ino vs) (hs : Small E) (n p : Nat) (s : ByteArray) (h1 : 1 ≤ n) (hn : n ≤ E.i) (hsz : (D (tq E n)).size = 64) (hb : pageB (ino n) (vs n) p ≠ 0) :
    Owns E (upd (Img.setIno E D n (ino n)) (dq E (pageB (ino n) (vs n) p)) s) (put_ ino n (ino n)) (put_ vs n (vs n)) := by
  have g := h.setIno hs n (ino n) h1 hn hsz (h.ok n h1 hn) rfl
  refine g.data hs _ s (by omega) ?_
  have k := g.notInd n (pageB (ino n) (vs n) p) h1 hn hb
  rw [put_same, put_same] at k
  exact k (pageB_mem hb)
theorem Owns.lo (h : Owns E D ino vs) (hs : Small E) (n p b : Nat) (s : ByteArray) (h1 : 1 ≤ n) (hn : n ≤ E.i) (hsz : (D (tq E n)).size = 64) (hs3 : (D (fr E 3)).size = 64) (hp : p < 4) (hz : pageB (ino n) (vs n) p = 0) (hb1 : 1 ≤ b) (hb2 : b ≤ E.bl) (hbit : bitB (D (fr E 3)) b = false) (hy : (setDir (ino n) p b).Ok) :
    Owns E (upd (Img.setIno E (blkD E D b) n (setDir (ino n) p b)) (dq E b) s) (put_ ino n (setDir (ino n) p b)) (put_ vs n (vs n)) := by
  have hl := (h.ind n h1 hn).len
  have hnt : ∀ m, 1 ≤ m → m ≤ E.i → blkD E D b (tq E m) = D (tq E m) := fun m m1 m2 => blkD_ne hs (q_tq3 hs m) (q_dqt hs hb1 m1 m2).symm
  have hfree : ∀ m, 1 ≤ m → m ≤ E.i → (ino m).ind ≠ b := fun m m1 m2 e => by
    have := (h.bit b hb1 hb2).2 ⟨m, m1, m2, (mem_blks (h.ind m m1 m2).len b).2 ⟨by omega, .inr (.inr e.symm)⟩⟩
    rw [hbit] at this
    cases this
  have hid : ∀ m, 1 ≤ m → m ≤ E.i → (ino m).ind ≠ 0 → upd (Img.setIno E (blkD E D b) n (setDir (ino n) p b)) (dq E b) s (dq E (ino m).ind) = D (dq E (ino m).ind) := fun m m1 m2 k => by
    have hk : 1 ≤ (ino m).ind := by omega
    have hne : dq E (ino m).ind ≠ dq E b := fun e => hfree m m1 m2 (dq_inj hs hk hb1 e)
    rw [upd_ne _ _ hne, setIno_q (q_dqt hs hk h1 hn), blkD_ne hs (q_dq3 hs hk) hne]
  have hnt' : ∀ m, 1 ≤ m → m ≤ E.i → ((blkD E D b) (tq E m)) = D (tq E m) := hnt
  have hi := setDir_ind (x := ino n) (b := b) hp
  refine h.take n b _ (vs n) h1 hn hb1 hb2 (blks_lo hl hp hz (by omega)) hbit hs3 ?_ hs.hb ?_ ?_ hy ?_ ?_ ?_
  · rw [upd_ne _ _ (q_dq3 hs hb1).symm, setIno_q (q_tq3 hs n).symm, blkD_fr hs hb1]
  · exact (setIno_same (by rw [hnt n h1 hn]; exact hsz)).upd (q_dqt hs hb1 h1 hn).symm
  · intro m m1 m2 q
    refine (setIno_other (by rw [hnt n h1 hn]; exact hsz) h1 m1 (Ne.symm q) ?_).upd (q_dqt hs hb1 m1 m2).symm
    have g := h.is m m1 m2
    unfold InoIs at g ⊢
    rw [hnt m m1 m2]
    exact g
  · exact setDir_ing hp (h.ing n h1 hn) hb2
  · exact ind_eq (ind_frame (h.ind n h1 hn) (fun k => hid n h1 hn k)) hi
  · exact fun m m1 m2 q => ind_frame (h.ind m m1 m2) (fun k => hid m m1 m2 k)
end
end Go.Proofs.YtpnfkilfgdnogaaGreatDoor.Img
end
section
namespace Go.Proofs.YtpnfkilfgdnogaaGreatDoor.Img
set_option linter.unusedVariables false
set_option linter.unusedSimpArgs false
open Go.RowKit Go.Shelf Go.Maps Oct Dev Jou Tx Geo Ino Bm
theorem leastL_get (m : Int) (on : Bool) (k : Nat) : ∀ l, leastL m on l = (k, true) → (k, on) ∈ l ∧ (k : Int) < m
  | [], h => by simp [leastL] at h
  | x :: l, h => by
    rw [leastL] at h
    by_cases h1 : m ≤ x.1
    · rw [if_pos h1] at h
      simp at h
    · rw [if_neg h1] at h
      by_cases h2 : x.2 = on
      · rw [if_pos h2] at h
        have e : x.1 = k := (Prod.mk.inj h).1
        refine ⟨?_, by omega⟩
        rw [← e, ← h2]
        exact List.mem_cons_self ..
      · rw [if_neg h2] at h
        obtain ⟨a, b⟩ := leastL_get m on k l h
        exact ⟨List.mem_cons_of_mem _ a, b⟩
theorem leastB_get {s : ByteArray} {m k : Nat} (h : leastB s (m : Int) false = (k, true)) : k < m ∧ bitB s k = false := by
  obtain ⟨a, b⟩ := leastL_get (m : Int) false k _ h
  refine ⟨by omega, ?_⟩
  unfold upto at a
  rw [List.mem_map] at a
  obtain ⟨j, _, e⟩ := a
  have e1 : j = k := (Prod.mk.inj e).1
  have e2 : bitB s j = false := (Prod.mk.inj e).2
  rw [← e1]
  exact e2
section
variable {E : Im} {D D' : Secs} {ino : Nat → InoT} {vs : Nat → List Nat}
theorem Owns.takes (h : Owns E D ino vs) (n : Nat) (l : List Nat) (y : InoT) (us : List Nat) (h1 : 1 ≤ n) (hn : n ≤ E.i) (hl : ∀ b ∈ l, 1 ≤ b ∧ b ≤ E.bl ∧ bitB (D (fr E 3)) b = false) (hnd : l.Nodup) (hp : (blks y us).Perm (l ++ blks (ino n) (vs n))) (hset : ∀ k, bitB (D' (fr E 3)) k = if k ∈ l then true else bitB (D (fr E 3)) k)
    (a1 : InoIs E D' n y) (a2 : ∀ m, 1 ≤ m → m ≤ E.i → m ≠ n → InoIs E D' m (ino m)) (b1 : y.Ok) (b2 : InG E.bl y) (b3 : IndIs E D' y.ind us) (b4 : ∀ m, 1 ≤ m → m ≤ E.i → m ≠ n → IndIs E D' (ino m).ind (vs m)) : Owns E D' (put_ ino n y) (put_ vs n us) := by
  have hnot : ∀ b ∈ l, b ∉ blks (ino n) (vs n) := fun b hb hx => by
    have g := hl b hb
    have := (h.bit b g.1 g.2.1).2 ⟨n, h1, hn, hx⟩
    rw [g.2.2] at this
    cases this
  refine h.step n y us h1 hn a1 a2 b1 b2 b3 b4 ?_ ?_ ?_ ?_
  · intro k k1 k2
    rw [hset, hp.mem_iff, List.mem_append]
    by_cases e : k ∈ l
    · simp [e]
    · rw [if_neg e]
      constructor
      · intro hk
        by_cases hx : k ∈ blks (ino n) (vs n)
        · exact .inl (.inr hx)
        · exact .inr ⟨hk, hx⟩
      · rintro ((q | q) | q)
        · exact absurd q e
        · exact (h.bit k k1 k2).2 ⟨n, h1, hn, q⟩
        · exact q.1
  · rw [hset, if_neg (fun q => by have := (hl 0 q).1; omega)]
    exact h.zero
  · intro k hk
    rw [hp.mem_iff, List.mem_append] at hk
    rcases hk with q | hk
    · exact .inr (hl k q)
    · exact .inl hk
  · rw [hp.nodup_iff, List.nodup_append]
    exact ⟨hnd, h.once n h1 hn, fun a ha b hb e => hnot a ha (e ▸ hb)⟩
theorem Owns.free (h : Owns E D ino vs) (b : Nat) (hb1 : 1 ≤ b) (hb2 : b ≤ E.bl) (hbit : bitB (D (fr E 3)) b = false) : ∀ m, 1 ≤ m → m ≤ E.i → b ∉ blks (ino m) (vs m) := fun m m1 m2 hm => by
  have := (h.bit b hb1 hb2).2 ⟨m, m1, m2, hm⟩
  rw [hbit] at this
  cases this
theorem Owns.freeInd (h : Owns E D ino vs) (b : Nat) (hb1 : 1 ≤ b) (hb2 : b ≤ E.bl) (hbit : bitB (D (fr E 3)) b = false) : ∀ m, 1 ≤ m → m ≤ E.i → (ino m).ind ≠ b := fun m m1 m2 e =>
  h.free b hb1 hb2 hbit m m1 m2 ((mem_blks (h.ind m m1 m2).len b).2 ⟨by omega, .inr (.inr e.symm)⟩)
theorem Owns.inds (h : Owns E D ino vs) (n m : Nat) (h1 : 1 ≤ n) (hn : n ≤ E.i) (m1 : 1 ≤ m) (m2 : m ≤ E.i) (hi : (ino n).ind ≠ 0) (e : (ino m).ind = (ino n).ind) : m = n :=
  h.one m n (ino n).ind m1 m2 h1 hn ((mem_blks (h.ind m m1 m2).len _).2 ⟨hi, .inr (.inr e.symm)⟩) ((mem_blks (h.ind n h1 hn).len _).2 ⟨hi, .inr (.inr rfl)⟩)
theorem Owns.hi (h : Owns E D ino vs) (hs : Small E) (n p b : Nat) (s : ByteArray) (D4 : Secs) (hD : upd (blkD E D b) (dq E (ino n).ind) (tellS ((vs n).set (p - 4) b)) = D4) (h1 : 1 ≤ n) (hn : n ≤ E.i) (hsz : (D (tq E n)).size = 64) (hs3 : (D (fr E 3)).size = 64) (h4 : 4 ≤ p) (hp : p < 36) (hi : (ino n).ind ≠ 0) (hz : pageB (ino n) (vs n) p = 0) (hb1 : 1 ≤ b) (hb2 : b ≤ E.bl) (hbit : bitB (D (fr E 3)) b = false) :
    Owns E (upd (Img.setIno E D4 n (ino n)) (dq E b) s) (put_ ino n (ino n)) (put_ vs n ((vs n).set (p - 4) b)) := by
  have hl := (h.ind n h1 hn).len
  have hfree := h.freeInd b hb1 hb2 hbit
  have hi1 : 1 ≤ (ino n).ind := by omega
  have ht4 : ∀ m, 1 ≤ m → m ≤ E.i → D4 (tq E m) = D (tq E m) := fun m m1 m2 => by
    rw [← hD, upd_ne _ _ (q_dqt hs hi1 m1 m2).symm, blkD_ne hs (q_tq3 hs m) (q_dqt hs hb1 m1 m2).symm]
  have h34 : D4 (fr E 3) = setB (D (fr E 3)) b true := by
    rw [← hD, upd_ne _ _ (q_dq3 hs hi1).symm, blkD_fr hs hb1]
  have hd4 : ∀ m, 1 ≤ m → m ≤ E.i → m ≠ n → (ino m).ind ≠ 0 → D4 (dq E (ino m).ind) = D (dq E (ino m).ind) := fun m m1 m2 q k => by
    have k1 : 1 ≤ (ino m).ind := by omega
    have e1 : dq E (ino m).ind ≠ dq E (ino n).ind := fun e => q (h.inds n m h1 hn m1 m2 hi (dq_inj hs k1 hi1 e))
    have e2 : dq E (ino m).ind ≠ dq E b := fun e => hfree m m1 m2 (dq_inj hs k1 hb1 e)
    rw [← hD, upd_ne _ _ e1, blkD_ne hs (q_dq3 hs k1) e2]
  have hdn : D4 (dq E (ino n).ind) = tellS ((vs n).set (p - 4) b) := by rw [← hD, upd_same]
  clear hD
  obtain ⟨hq, hv⟩ := pageB_hi (x := ino n) (vs := vs n) h4 hl hp
  have hz' : (vs n)[p - 4]? = some 0 := by rw [List.getElem?_eq_getElem hq, ← hv, hz]
  refine h.take n b (ino n) _ h1 hn hb1 hb2 (blks_hi hl hz' (by omega)) hbit hs3 ?_ hs.hb ?_ ?_ (h.ok n h1 hn) (h.ing n h1 hn) ?_ ?_
  · rw [upd_ne _ _ (q_dq3 hs hb1).symm, setIno_q (q_tq3 hs n).symm, h34]
  · exact (setIno_same (by rw [ht4 n h1 hn]; exact hsz)).upd (q_dqt hs hb1 h1 hn).symm
  · intro m m1 m2 q
    refine (setIno_other (by rw [ht4 n h1 hn]; exact hsz) h1 m1 (Ne.symm q) ?_).upd (q_dqt hs hb1 m1 m2).symm
    have g := h.is m m1 m2
    unfold InoIs at g ⊢
    rw [ht4 m m1 m2]
    exact g
  · have g := h.ind n h1 hn
    refine ⟨by rw [List.length_set]; exact hl, fun v hv => ?_, fun k => absurd k hi, fun _ => ?_⟩
    · rcases List.mem_or_eq_of_mem_set hv with q | q
      · exact g.lt v q
      · rw [q]; exact hb2
    · have e2 : dq E (ino n).ind ≠ dq E b := fun e => hfree n h1 hn (dq_inj hs hi1 hb1 e)
      rw [upd_ne _ _ e2, setIno_q (q_dqt hs hi1 h1 hn), hdn, tellS_full (by rw [List.length_set]; exact hl)]
  · intro m m1 m2 q
    refine ind_frame (h.ind m m1 m2) (fun k => ?_)
    have k1 : 1 ≤ (ino m).ind := by omega
    have e2 : dq E (ino m).ind ≠ dq E b := fun e => hfree m m1 m2 (dq_inj hs k1 hb1 e)
    rw [upd_ne _ _ e2, setIno_q (q_dqt hs k1 h1 hn), hd4 m m1 m2 q k]
theorem Owns.new (h : Owns E D ino vs) (hs : Small E) (n p d b : Nat) (s : ByteArray) (D2 D4 : Secs) (hD2 : upd (blkD E D d) (dq E d) (tellS []) = D2) (hD : upd (blkD E D2 b) (dq E d) (tellS ((List.replicate 32 0).set (p - 4) b)) = D4) (h1 : 1 ≤ n) (hn : n ≤ E.i) (hsz : (D (tq E n)).size = 64) (hs3 : (D (fr E 3)).size = 64) (h4 : 4 ≤ p) (hp : p < 36) (hi : (ino n).ind = 0) (hd1 : 1 ≤ d) (hd2 : d ≤ E.bl) (hdb : bitB (D (fr E 3)) d = false) (hb1 : 1 ≤ b) (hb2 : b ≤ E.bl) (hbit : bitB (D2 (fr E 3)) b = false) (hy : ({ ino n with ind := d } : InoT).Ok) :
    Owns E (upd (Img.setIno E D4 n { ino n with ind := d }) (dq E b) s) (put_ ino n { ino n with ind := d }) (put_ vs n ((List.replicate 32 0).set (p - 4) b)) := by
  have hl := (h.ind n h1 hn).len
  have hbl := hs.hb
  have hvz : vs n = List.replicate 32 0 := (h.ind n h1 hn).no hi
  have h32 : D2 (fr E 3) = setB (D (fr E 3)) d true := by rw [← hD2, upd_ne _ _ (q_dq3 hs hd1).symm, blkD_fr hs hd1]
  have hb2k : ∀ k, bitB (D2 (fr E 3)) k = if k = d then true else bitB (D (fr E 3)) k := fun k => by rw [h32]; exact bitB_setB _ _ _ _ (by omega)
  have hbd : b ≠ d := fun e => by
    rw [hb2k, if_pos e] at hbit
    cases hbit
  rw [hb2k, if_neg hbd] at hbit
  have hfb := h.freeInd b hb1 hb2 hbit
  have hfd := h.freeInd d hd1 hd2 hdb
  have e2 : dq E d ≠ dq E b := fun e => hbd (dq_inj hs hd1 hb1 e).symm
  have ht4 : ∀ m, 1 ≤ m → m ≤ E.i → D4 (tq E m) = D (tq E m) := fun m m1 m2 => by
    rw [← hD, upd_ne _ _ (q_dqt hs hd1 m1 m2).symm, blkD_ne hs (q_tq3 hs m) (q_dqt hs hb1 m1 m2).symm, ← hD2, upd_ne _ _ (q_dqt hs hd1 m1 m2).symm, blkD_ne hs (q_tq3 hs m) (q_dqt hs hd1 m1 m2).symm]
  have h34 : D4 (fr E 3) = setB (D2 (fr E 3)) b true := by
    rw [← hD, upd_ne _ _ (q_dq3 hs hd1).symm, blkD_fr hs hb1]
  have hd4 : ∀ m, 1 ≤ m → m ≤ E.i → (ino m).ind ≠ 0 → D4 (dq E (ino m).ind) = D (dq E (ino m).ind) := fun m m1 m2 k => by
    have k1 : 1 ≤ (ino m).ind := by omega
    have e1 : dq E (ino m).ind ≠ dq E d := fun e => hfd m m1 m2 (dq_inj hs k1 hd1 e)
    have e3 : dq E (ino m).ind ≠ dq E b := fun e => hfb m m1 m2 (dq_inj hs k1 hb1 e)
    rw [← hD, upd_ne _ _ e1, blkD_ne hs (q_dq3 hs k1) e3, ← hD2, upd_ne _ _ e1, blkD_ne hs (q_dq3 hs k1) e1]
  have hdn : D4 (dq E d) = tellS ((List.replicate 32 0).set (p - 4) b) := by rw [← hD, upd_same]
  have hk3 : ∀ k, bitB (D4 (fr E 3)) k = if k ∈ [b, d] then true else bitB (D (fr E 3)) k := fun k => by
    rw [h34, bitB_setB _ _ _ _ (by rw [h32, size_setB]; omega), hb2k]
    simp only [List.mem_cons, List.not_mem_nil, or_false]
    by_cases q : k = b
    · rw [if_pos q, if_pos (.inl q)]
    · by_cases r : k = d
      · rw [if_neg q, if_pos r, if_pos (.inr r)]
      · rw [if_neg q, if_neg r, if_neg (fun t => t.elim q r)]
  clear hD hD2
  have hz' : (List.replicate 32 0)[p - 4]? = some 0 := by rw [List.getElem?_replicate, if_pos (by omega)]
  refine h.takes n [b, d] _ _ h1 hn ?_ (by simp [hbd]) ?_ ?_ ?_ ?_ hy ?_ ?_ ?_
  · intro k hk
    simp only [List.mem_cons, List.not_mem_nil, or_false] at hk
    rcases hk with rfl | rfl
    · exact ⟨hb1, hb2, hbit⟩
    · exact ⟨hd1, hd2, hdb⟩
  · refine (blks_hi (List.length_replicate ..) hz' (by omega)).trans ?_
    rw [hvz]
    exact (blks_new (List.length_replicate ..) hi (by omega)).cons b
  · intro k
    rw [upd_ne _ _ (q_dq3 hs hb1).symm, setIno_q (q_tq3 hs n).symm]
    exact hk3 k
  · exact (setIno_same (by rw [ht4 n h1 hn]; exact hsz)).upd (q_dqt hs hb1 h1 hn).symm
  · intro m m1 m2 q
    refine (setIno_other (by rw [ht4 n h1 hn]; exact hsz) h1 m1 (Ne.symm q) ?_).upd (q_dqt hs hb1 m1 m2).symm
    have g := h.is m m1 m2
    unfold InoIs at g ⊢
    rw [ht4 m m1 m2]
    exact g
  · have g := h.ing n h1 hn
    unfold InG at g ⊢
    exact ⟨g.1, g.2.1, g.2.2.1, g.2.2.2.1, hd2⟩
  · refine ⟨by rw [List.length_set, List.length_replicate], fun v hv => ?_, fun k => absurd k (show d ≠ 0 by omega), fun _ => ?_⟩
    · rcases List.mem_or_eq_of_mem_set hv with q | q
      · rw [List.eq_of_mem_replicate q]; omega
      · rw [q]; exact hb2
    · show (upd (Img.setIno E D4 n _) (dq E b) s) (dq E d) = _
      rw [upd_ne _ _ e2, setIno_q (q_dqt hs hd1 h1 hn), hdn, tellS_full (by rw [List.length_set, List.length_replicate])]
  · intro m m1 m2 q
    refine ind_frame (h.ind m m1 m2) (fun k => ?_)
    have k1 : 1 ≤ (ino m).ind := by omega
    have e3 : dq E (ino m).ind ≠ dq E b := fun e => hfb m m1 m2 (dq_inj hs k1 hb1 e)
    rw [upd_ne _ _ e3, setIno_q (q_dqt hs k1 h1 hn), hd4 m m1 m2 k]
end
theorem okRow_set {n p b : Nat} {l : List Nat} (h : okRow n l) (hp : p < n) (hb : b ∉ l) : okRow n (l.set p b) := by
  intro k v hk hv
  rw [List.getElem?_set] at hk
  by_cases e : p = k
  · subst e
    rw [if_pos rfl] at hk
    split at hk
    · have hk : b = v := by simpa using hk
      subst hk
      refine ⟨hp, fun j hj => ?_⟩
      rw [List.getElem?_set, if_neg (by omega)]
      exact fun q => hb (List.mem_of_getElem? q)
    · cases hk
  · rw [if_neg e] at hk
    have g := h k v hk hv
    refine ⟨g.1, fun j hj => ?_⟩
    rw [List.getElem?_set]
    by_cases q : p = j
    · rw [if_pos q]
      split
      · exact fun r => hb (by have r : b = v := by simpa using r
                              rw [r]; exact List.mem_of_getElem? hk)
      · exact fun r => by cases r
    · rw [if_neg q]
      exact g.2 j hj
end Go.Proofs.YtpnfkilfgdnogaaGreatDoor.Img
end
section
namespace Go.Proofs.YtpnfkilfgdnogaaGreatDoor.Img
set_option linter.unusedVariables false
set_option linter.unusedSimpArgs false
open Go.RowKit Go.Shelf Go.Maps Oct Dev Jou Tx Geo Ino Bm
theorem cutVs_gen : ∀ (l : List Nat) (q : Nat), (l.mapIdx fun k v => if q ≤ k then 0 else v).filter nz = (l.take q).filter nz
  | [], q => by simp
  | v :: l, 0 => by
    have ih := cutVs_gen l 0
    have e : (fun (i : Nat) (w : Nat) => if 0 ≤ i + 1 then 0 else w) = fun i w => if 0 ≤ i then 0 else w := by funext i w; simp
    rw [List.mapIdx_cons, e, List.filter_cons, if_neg (by simp [nz]), ih]
    simp
  | v :: l, q + 1 => by
    have ih := cutVs_gen l q
    have e : (fun (i : Nat) (w : Nat) => if q + 1 ≤ i + 1 then 0 else w) = fun i w => if q ≤ i then 0 else w := by funext i w; simp
    rw [List.mapIdx_cons, e, List.take_succ_cons, List.filter_cons, List.filter_cons, ih]
    simp
theorem cutVs_nz (vs : List Nat) (p : Nat) : (cutVs vs p).filter nz = (vs.take (p - 4)).filter nz := by
  have e : (fun (k : Nat) (v : Nat) => if p ≤ k + 4 then 0 else v) = fun k v => if p - 4 ≤ k then 0 else v := by
    funext k v
    by_cases h : p ≤ k + 4
    · rw [if_pos h, if_pos (by omega)]
    · rw [if_neg h, if_neg (by omega)]
  unfold cutVs
  rw [e]
  exact cutVs_gen vs (p - 4)
theorem zeros_nz (n : Nat) : (List.replicate n 0).filter nz = [] := by
  rw [List.filter_eq_nil_iff]
  intro a ha
  rw [List.eq_of_mem_replicate ha]
  simp [nz]
theorem cutDir_nz (x : InoT) (p : Nat) : (dirL (cutDir x p)).filter nz = ((dirL x).take p).filter nz := by
  match p with
  | 0 => rfl
  | 1 =>
    show List.filter nz ([x.d0] ++ List.replicate 3 0) = List.filter nz [x.d0]
    rw [List.filter_append, zeros_nz, List.append_nil]
  | 2 =>
    show List.filter nz ([x.d0, x.d1] ++ List.replicate 2 0) = List.filter nz [x.d0, x.d1]
    rw [List.filter_append, zeros_nz, List.append_nil]
  | 3 =>
    show List.filter nz ([x.d0, x.d1, x.d2] ++ List.replicate 1 0) = List.filter nz [x.d0, x.d1, x.d2]
    rw [List.filter_append, zeros_nz, List.append_nil]
  | p + 4 =>
    have e : cutDir x (p + 4) = x := by
      obtain ⟨k, l, s, d0, d1, d2, d3, i⟩ := x
      simp [cutDir]
    rw [e, List.take_of_length_le (by simp [dirL])]
theorem cutEnd_dir (x : InoT) (p : Nat) : dirL (cutEnd x p) = dirL (cutDir x p) := by
  unfold cutEnd
  split <;> rfl
theorem cutV_len {x : InoT} {vs : List Nat} {p : Nat} (hl : vs.length = 32) : (cutV x vs p).length = 32 := by
  unfold cutV
  split
  · exact List.length_replicate ..
  · rw [cutVs_len, hl]
theorem split_nz (l : List Nat) (p : Nat) : l.filter nz = (l.take p).filter nz ++ (l.drop p).filter nz := by
  rw [← List.filter_append, List.take_append_drop]
theorem cut_perm {x : InoT} {vs : List Nat} (p : Nat) (hl : vs.length = 32) (h0 : x.ind = 0 → vs = List.replicate 32 0) : (blks x vs).Perm (cutFree x vs p ++ blks (cutEnd x p) (cutV x vs p)) := by
  have e1 : (dirL x).filter nz = ((dirL x).take p).filter nz ++ ((dirL x).drop p).filter nz := split_nz _ _
  have e2 : vs.filter nz = (vs.take (p - 4)).filter nz ++ (vs.drop (p - 4)).filter nz := split_nz _ _
  rw [blks_eq hl, blks_eq (cutV_len hl), cutEnd_dir]
  unfold cutFree
  rw [freeD_eq, freeV_eq p hl]
  show List.Perm (((dirL x).filter nz ++ vs.filter nz) ++ _) (((((dirL x).drop p).filter nz ++ (vs.drop (p - 4)).filter nz) ++ _) ++ (((dirL (cutDir x p)).filter nz ++ (cutV x vs p).filter nz) ++ _))
  rw [cutDir_nz, e1, e2, List.perm_iff_count]
  intro b
  by_cases hc : x.ind ≠ 0 ∧ p ≤ 4
  · have ei : (cutEnd x p).ind = 0 := by unfold cutEnd; rw [if_pos hc]
    have ev : (cutV x vs p).filter nz = [] := by unfold cutV; rw [if_pos hc]; exact zeros_nz 32
    have ep : p - 4 = 0 := by omega
    rw [if_pos hc, if_neg hc.1, if_pos ei, ev, ep]
    simp only [List.count_append, List.take_zero, List.filter_nil, List.count_nil, List.drop_zero]
    omega
  · have ei : (cutEnd x p).ind = x.ind := by unfold cutEnd; rw [if_neg hc]; rfl
    have ev : (cutV x vs p).filter nz = (vs.take (p - 4)).filter nz := by unfold cutV; rw [if_neg hc]; exact cutVs_nz vs p
    rw [if_neg hc, ei, ev]
    simp only [List.count_append, List.count_nil]
    omega
theorem freeV_nil {vs : List Nat} {p : Nat} (hl : vs.length = 32) (h : freeV vs p = []) : cutVs vs p = vs := by
  rw [freeV_eq p hl, List.filter_eq_nil_iff] at h
  refine List.ext_getElem (cutVs_len vs p) (fun k k1 k2 => ?_)
  rw [cutVs_get k2]
  by_cases hp : p ≤ k + 4
  · rw [if_pos hp]
    have hm : vs[k] ∈ vs.drop (p - 4) := by
      rw [List.mem_iff_getElem]
      exact ⟨k - (p - 4), by rw [List.length_drop]; omega, by rw [List.getElem_drop]; congr 1; omega⟩
    have h2 := h _ hm
    have e : vs[k] = 0 := Classical.byContradiction fun q => h2 (decide_eq_true q)
    exact e.symm
  · rw [if_neg hp]
theorem cutVs_zero (p : Nat) : cutVs (List.replicate 32 0) p = List.replicate 32 0 := by
  refine List.ext_getElem (by rw [cutVs_len]) (fun k k1 k2 => ?_)
  rw [cutVs_get k2, List.getElem_replicate]
  split <;> rfl
theorem cutVs_mem {vs : List Nat} {p v : Nat} (h : v ∈ cutVs vs p) : v = 0 ∨ v ∈ vs := by
  obtain ⟨k, k1, rfl⟩ := List.mem_iff_getElem.1 h
  rw [cutVs_len] at k1
  rw [cutVs_get k1]
  split
  · exact .inl rfl
  · exact .inr (List.getElem_mem k1)
theorem cutEnd_ing {bl p : Nat} {x : InoT} (g : InG bl x) : InG bl (cutEnd x p) := by
  have hk : InG bl (cutDir x p) := by
    unfold InG cutDir at *
    refine ⟨?_, ?_, ?_, ?_, g.2.2.2.2⟩
    · show (if p ≤ 0 then 0 else x.d0) ≤ bl
      split
      · exact Nat.zero_le _
      · exact g.1
    · show (if p ≤ 1 then 0 else x.d1) ≤ bl
      split
      · exact Nat.zero_le _
      · exact g.2.1
    · show (if p ≤ 2 then 0 else x.d2) ≤ bl
      split
      · exact Nat.zero_le _
      · exact g.2.2.1
    · show (if p ≤ 3 then 0 else x.d3) ≤ bl
      split
      · exact Nat.zero_le _
      · exact g.2.2.2.1
  unfold cutEnd
  split
  · unfold InG at *
    exact ⟨hk.1, hk.2.1, hk.2.2.1, hk.2.2.2.1, Nat.zero_le _⟩
  · exact hk
theorem cutEnd_row (x : InoT) (p k v : Nat) (h : (cutEnd x p).row[k]? = some v) (hv : v ≠ 0) : x.row[k]? = some v ∧ k < p := by
  have aux : ∀ (q d : Nat), (if p ≤ q then 0 else d) = v → d = v ∧ q < p := fun q d e => by
    by_cases hq : p ≤ q
    · rw [if_pos hq] at e
      exact absurd e.symm hv
    · rw [if_neg hq] at e
      exact ⟨e, by omega⟩
  have key : ∀ i, (i = x.ind ∨ i = 0) → (i = x.ind → i ≠ 0 → 4 < p) → ([if p ≤ 0 then 0 else x.d0, if p ≤ 1 then 0 else x.d1, if p ≤ 2 then 0 else x.d2, if p ≤ 3 then 0 else x.d3, i] : List Nat)[k]? = some v → x.row[k]? = some v ∧ k < p := by
    intro i hi h4 h
    unfold InoT.row
    match k with
    | 0 =>
      have g := aux 0 x.d0 (by simpa using h)
      exact ⟨by simp [g.1], g.2⟩
    | 1 =>
      have g := aux 1 x.d1 (by simpa using h)
      exact ⟨by simp [g.1], g.2⟩
    | 2 =>
      have g := aux 2 x.d2 (by simpa using h)
      exact ⟨by simp [g.1], g.2⟩
    | 3 =>
      have g := aux 3 x.d3 (by simpa using h)
      exact ⟨by simp [g.1], g.2⟩
    | 4 =>
      have g : i = v := by simpa using h
      rcases hi with q | q
      · exact ⟨by simp [← q, g], h4 q (by rw [g]; exact hv)⟩
      · exact absurd (g.symm.trans q) hv
    | k + 5 => simp at h
  unfold cutEnd at h
  by_cases hc : x.ind ≠ 0 ∧ p ≤ 4
  · rw [if_pos hc] at h
    exact key 0 (.inr rfl) (fun e h0 => absurd rfl h0) h
  · rw [if_neg hc] at h
    exact key x.ind (.inl rfl) (fun e h0 => Classical.byContradiction fun h4 => hc ⟨h0, by omega⟩) h
theorem cutEnd_ok {x : InoT} {s : Nat} (h : x.Used) (hs : s ≤ 2304) (hd : x.kind = 2 → s % 64 = 0) : (sized (cutEnd x (pagesN s)) s).Ok := by
  have ek : (sized (cutEnd x (pagesN s)) s).kind = x.kind := by unfold sized cutEnd; split <;> rfl
  have el : (sized (cutEnd x (pagesN s)) s).links = x.links := by unfold sized cutEnd; split <;> rfl
  have er : (sized (cutEnd x (pagesN s)) s).row = (cutEnd x (pagesN s)).row := rfl
  refine .inr ⟨by rw [ek]; exact h.kind, by rw [el]; exact h.links, hs, by rw [ek]; exact hd, ?_, ?_⟩
  · intro k v hk hv
    rw [er] at hk
    have g := cutEnd_row x _ k v hk hv
    refine ⟨g.2, fun j hj hq => ?_⟩
    rw [er] at hq
    exact (h.row k v g.1 hv).2 j hj (cutEnd_row x _ j v hq hv).1
  · intro v hv
    rw [er] at hv
    obtain ⟨k, k1, e⟩ := List.mem_iff_getElem.1 hv
    by_cases h0 : v = 0
    · omega
    · exact h.lt v (List.mem_of_getElem? (cutEnd_row x _ k v (by rw [List.getElem?_eq_getElem k1, e]) h0).1)
end Go.Proofs.YtpnfkilfgdnogaaGreatDoor.Img
end
section
namespace Go.Proofs.YtpnfkilfgdnogaaGreatDoor.Img
set_option linter.unusedVariables false
set_option linter.unusedSimpArgs false
open Go.RowKit Go.Shelf Go.Maps Oct Dev Jou Tx Geo Ino Bm
section
variable {E : Im}
theorem giveL_ne {q : Nat} (h : q ≠ fr E 3) : ∀ (l : List Nat) (D : Secs), giveL E D l q = D q
  | [], D => rfl
  | b :: l, D => by
    have e : giveL E D (b :: l) = giveL E (giveD E D b) l := rfl
    rw [e, giveL_ne h l]
    exact upd_ne _ _ h
theorem giveL_bit : ∀ (l : List Nat) (D : Secs), (D (fr E 3)).size = 64 → (∀ b ∈ l, b < 512) → ∀ k, bitB (giveL E D l (fr E 3)) k = if k ∈ l then false else bitB (D (fr E 3)) k
  | [], D, _, _, k => by
    rw [if_neg (by simp)]
    rfl
  | b :: l, D, h, hl, k => by
    have hg : giveD E D b (fr E 3) = setB (D (fr E 3)) b false := upd_same _ _ _
    have ih := giveL_bit l (giveD E D b) (by rw [hg, size_setB]; exact h) (fun c hc => hl c (List.mem_cons_of_mem _ hc)) k
    have e : giveL E D (b :: l) = giveL E (giveD E D b) l := rfl
    have hb := hl b (List.mem_cons_self ..)
    rw [e, ih, hg, bitB_setB _ _ _ _ (by omega)]
    by_cases q : k ∈ l
    · rw [if_pos q, if_pos (List.mem_cons_of_mem _ q)]
    · rw [if_neg q]
      by_cases r : k = b
      · rw [if_pos r, if_pos (by rw [r]; exact List.mem_cons_self ..)]
      · rw [if_neg r, if_neg (fun t => (List.mem_cons.1 t).elim r q)]
theorem cutSec_q {D : Secs} {x : InoT} {vs : List Nat} {p q : Nat} (h0 : x.ind = 0 → vs = List.replicate 32 0) (hq : x.ind ≠ 0 → q ≠ dq E x.ind) : cutSec E D x vs p q = D q := by
  unfold cutSec
  split
  · rfl
  · split
    · rfl
    · next h =>
      have hi : x.ind ≠ 0 := fun e => h (by rw [h0 e]; exact freeV_zero p)
      exact upd_ne _ _ (hq hi)
theorem blankD_q {D : Secs} {b fm q : Nat} (h : b ≠ 0 → q ≠ dq E b) : blankD E D b fm q = D q := by
  unfold blankD
  split
  · rfl
  · next hb => exact upd_ne _ _ (h hb)
theorem ind_ne {y : InoT} {us : List Nat} {b : Nat} (hl : us.length = 32) (hd : (blks y us).Nodup) (hb : b ≠ 0) (hm : b ∈ dirL y ∨ b ∈ us) : y.ind ≠ b := by
  intro e
  rw [blks_eq hl] at hd
  have h0 : y.ind ≠ 0 := by rw [e]; exact hb
  rw [if_neg h0, List.nodup_append] at hd
  refine hd.2.2 b ?_ y.ind (List.mem_singleton.2 rfl) e.symm
  rw [List.mem_append, List.mem_filter, List.mem_filter]
  rcases hm with q | q
  · exact .inl ⟨q, by simpa using hb⟩
  · exact .inr ⟨q, by simpa using hb⟩
end
section
variable {E : Im} {D : Secs} {ino : Nat → InoT} {vs : Nat → List Nat}
theorem Owns.blk_le (h : Owns E D ino vs) {n b : Nat} (h1 : 1 ≤ n) (hn : n ≤ E.i) (hb : b ∈ blks (ino n) (vs n)) : 1 ≤ b ∧ b ≤ E.bl := by
  have g := (mem_blks (h.ind n h1 hn).len b).1 hb
  have gi := h.ing n h1 hn
  unfold InG at gi
  refine ⟨by omega, ?_⟩
  rcases g.2 with q | q | q
  · unfold dirL at q
    simp only [List.mem_cons, List.not_mem_nil, or_false] at q
    omega
  · exact (h.ind n h1 hn).lt b q
  · omega
theorem Owns.blk_bit (h : Owns E D ino vs) {n b : Nat} (h1 : 1 ≤ n) (hn : n ≤ E.i) (hb : b ∈ blks (ino n) (vs n)) : bitB (D (fr E 3)) b = true := by
  have g := h.blk_le h1 hn hb
  exact (h.bit b g.1 g.2).2 ⟨n, h1, hn, hb⟩
theorem Owns.cut (h : Owns E D ino vs) (n p : Nat) (h1 : 1 ≤ n) (hn : n ≤ E.i) : (cutFree (ino n) (vs n) p ++ blks (cutEnd (ino n) p) (cutV (ino n) (vs n) p)).Nodup ∧ ∀ b, b ∈ blks (ino n) (vs n) ↔ (b ∈ cutFree (ino n) (vs n) p ∨ b ∈ blks (cutEnd (ino n) p) (cutV (ino n) (vs n) p)) := by
  have g := h.ind n h1 hn
  have hp := cut_perm p g.len g.no
  refine ⟨hp.nodup_iff.1 (h.once n h1 hn), fun b => ?_⟩
  rw [hp.mem_iff, List.mem_append]
theorem Owns.sec3 (h : Owns E D ino vs) (hs : Small E) (n p : Nat) (h1 : 1 ≤ n) (hn : n ≤ E.i) : cutSec E D (ino n) (vs n) p (fr E 3) = D (fr E 3) :=
  cutSec_q (h.ind n h1 hn).no (fun k => (q_dq3 hs (by omega)).symm)
theorem Owns.hfr (h : Owns E D ino vs) (hs : Small E) (n p : Nat) (h1 : 1 ≤ n) (hn : n ≤ E.i) (hs3 : (D (fr E 3)).size = 64) : ∀ k (hk : k < (cutFree (ino n) (vs n) p).length), 1 ≤ (cutFree (ino n) (vs n) p)[k] ∧ (cutFree (ino n) (vs n) p)[k] ≤ E.bl ∧ bitB ((giveL E (cutSec E D (ino n) (vs n) p) ((cutFree (ino n) (vs n) p).take k)) (fr E 3)) (cutFree (ino n) (vs n) p)[k] = true := by
  intro k hk
  obtain ⟨hnd, hm⟩ := h.cut n p h1 hn
  have hb : (cutFree (ino n) (vs n) p)[k] ∈ blks (ino n) (vs n) := (hm _).2 (.inl (List.getElem_mem hk))
  have hle := h.blk_le h1 hn hb
  have hbl := hs.hb
  have hc3 := h.sec3 hs n p h1 hn
  have hbit := h.blk_bit h1 hn hb
  have hno : (cutFree (ino n) (vs n) p)[k] ∉ (cutFree (ino n) (vs n) p).take k := by
    intro hmem
    obtain ⟨j, hj, e⟩ := List.mem_iff_getElem.1 hmem
    rw [List.length_take] at hj
    rw [List.getElem_take] at e
    exact List.pairwise_iff_getElem.1 (List.nodup_append.1 hnd).1 j k (by omega) hk (by omega) e
  refine ⟨hle.1, hle.2, ?_⟩
  rw [giveL_bit _ _ (by rw [hc3]; exact hs3) (fun c hc => ?_), hc3, if_neg hno]
  · exact hbit
  · have := h.blk_le h1 hn ((hm c).2 (.inl (List.mem_of_mem_take hc)))
    omega
theorem Owns.hyv (h : Owns E D ino vs) (hs : Small E) (n p : Nat) (h1 : 1 ≤ n) (hn : n ≤ E.i) : IndIs E (giveL E (cutSec E D (ino n) (vs n) p) (cutFree (ino n) (vs n) p)) (cutEnd (ino n) p).ind (cutV (ino n) (vs n) p) := by
  have g := h.ind n h1 hn
  refine ⟨cutV_len g.len, fun v hv => ?_, fun e => ?_, fun e => ?_⟩
  · unfold cutV at hv
    split at hv
    · rw [List.eq_of_mem_replicate hv]
      exact Nat.zero_le _
    · rcases cutVs_mem hv with q | q
      · rw [q]
        exact Nat.zero_le _
      · exact g.lt v q
  · unfold cutV
    split
    · rfl
    · next hc =>
      have ei : (cutEnd (ino n) p).ind = (ino n).ind := by unfold cutEnd; rw [if_neg hc]; rfl
      rw [g.no (ei.symm.trans e), cutVs_zero]
  · by_cases hc : (ino n).ind ≠ 0 ∧ p ≤ 4
    · have ei : (cutEnd (ino n) p).ind = 0 := by unfold cutEnd; rw [if_pos hc]
      exact absurd ei e
    · have ei : (cutEnd (ino n) p).ind = (ino n).ind := by unfold cutEnd; rw [if_neg hc]; rfl
      rw [ei] at e ⊢
      have hv : cutV (ino n) (vs n) p = cutVs (vs n) p := by unfold cutV; rw [if_neg hc]
      rw [hv, giveL_ne (q_dq3 hs (by omega))]
      unfold cutSec
      rw [if_neg hc]
      split
      · next hf =>
        rw [freeV_nil g.len hf]
        exact g.has e
      · rw [upd_same, tellS_full (by rw [cutVs_len]; exact g.len)]
theorem Owns.rsz (h : Owns E D ino vs) (hs : Small E) (n s : Nat) (h1 : 1 ≤ n) (hn : n ≤ E.i) (hsz : (D (tq E n)).size = 64) (hs3 : (D (fr E 3)).size = 64) (hu : (ino n).Used) (hl : s ≤ 2304) (hd : (ino n).kind = 2 → s % 64 = 0) :
    Owns E (rszD E D n (ino n) (vs n) s) (put_ ino n (sized (cutEnd (ino n) (pagesN s)) s)) (put_ vs n (cutV (ino n) (vs n) (pagesN s))) := by
  have g := h.ind n h1 hn
  have hy := cutEnd_ok hu hl hd
  have hyi : InG E.bl (sized (cutEnd (ino n) (pagesN s)) s) := cutEnd_ing (p := pagesN s) (h.ing n h1 hn)
  have hyv : IndIs E _ (sized (cutEnd (ino n) (pagesN s)) s).ind _ := h.hyv hs n (pagesN s) h1 hn
  have hct : (cutFree (ino n) (vs n) (pagesN s) ++ blks (sized (cutEnd (ino n) (pagesN s)) s) (cutV (ino n) (vs n) (pagesN s))).Nodup ∧ ∀ b, b ∈ blks (ino n) (vs n) ↔ (b ∈ cutFree (ino n) (vs n) (pagesN s) ∨ b ∈ blks (sized (cutEnd (ino n) (pagesN s)) s) (cutV (ino n) (vs n) (pagesN s))) := h.cut n (pagesN s) h1 hn
  have hbl := hs.hb
  have hc3 := h.sec3 hs n (pagesN s) h1 hn
  have hg3 : ∀ k, bitB (giveL E (cutSec E D (ino n) (vs n) (pagesN s)) (cutFree (ino n) (vs n) (pagesN s)) (fr E 3)) k = if k ∈ cutFree (ino n) (vs n) (pagesN s) then false else bitB (D (fr E 3)) k := fun k => by
    rw [giveL_bit _ _ (by rw [hc3]; exact hs3) (fun c hc => ?_), hc3]
    have := h.blk_le h1 hn ((hct.2 c).2 (.inl hc))
    omega
  have hgq : ∀ q, q ≠ fr E 3 → ((ino n).ind ≠ 0 → q ≠ dq E (ino n).ind) → giveL E (cutSec E D (ino n) (vs n) (pagesN s)) (cutFree (ino n) (vs n) (pagesN s)) q = D q := fun q q3 qi => by
    rw [giveL_ne q3, cutSec_q g.no qi]
  have hus := cutV_len (x := ino n) (p := pagesN s) g.len
  unfold rszD
  generalize giveL E (cutSec E D (ino n) (vs n) (pagesN s)) (cutFree (ino n) (vs n) (pagesN s)) = Dg at *
  generalize cutFree (ino n) (vs n) (pagesN s) = fre at *
  generalize cutV (ino n) (vs n) (pagesN s) = us at *
  generalize sized (cutEnd (ino n) (pagesN s)) s = y at *
  obtain ⟨hnd, hm⟩ := hct
  have hyn : (blks y us).Nodup := (List.nodup_append.1 hnd).2.1
  have hbm : rszB y us s ≠ 0 → rszB y us s ∈ dirL y ∨ rszB y us s ∈ us := fun k => by
    unfold rszB at k ⊢
    split at k
    · exact absurd rfl k
    · next q => rw [if_neg q]; exact pageB_mem k
  generalize rszB y us s = b at *
  have hbb : b ≠ 0 → b ∈ blks (ino n) (vs n) := fun k => (hm b).2 (.inr ((mem_blks hus b).2 ⟨k, (hbm k).elim .inl (fun q => .inr (.inl q))⟩))
  have hbi : b ≠ 0 → y.ind ≠ b := fun k => ind_ne hus hyn k (hbm k)
  have ht : ∀ m, 1 ≤ m → m ≤ E.i → blankD E Dg b (s % 64) (tq E m) = D (tq E m) := fun m m1 m2 => by
    rw [blankD_q (fun k => (q_dqt hs (by omega) m1 m2).symm), hgq _ (q_tq3 hs m) (fun k => (q_dqt hs (by omega) m1 m2).symm)]
  have h3 : blankD E Dg b (s % 64) (fr E 3) = Dg (fr E 3) := blankD_q (fun k => (q_dq3 hs (by omega)).symm)
  refine h.step n y us h1 hn (setIno_same (by rw [ht n h1 hn]; exact hsz)) ?_ hy hyi ?_ ?_ ?_ ?_ ?_ hyn
  · intro m m1 m2 q
    refine setIno_other (by rw [ht n h1 hn]; exact hsz) h1 m1 (Ne.symm q) ?_
    have e := h.is m m1 m2
    unfold InoIs at e ⊢
    rw [ht m m1 m2]
    exact e
  · refine ind_frame hyv (fun k => ?_)
    have k1 : 1 ≤ y.ind := by omega
    rw [setIno_q (q_dqt hs k1 h1 hn), blankD_q (fun kb e => hbi kb (dq_inj hs k1 (by omega) e))]
  · intro m m1 m2 q
    refine ind_frame (h.ind m m1 m2) (fun k => ?_)
    have k1 : 1 ≤ (ino m).ind := by omega
    have km : (ino m).ind ∈ blks (ino m) (vs m) := (mem_blks (h.ind m m1 m2).len _).2 ⟨k, .inr (.inr rfl)⟩
    rw [setIno_q (q_dqt hs k1 h1 hn), blankD_q (fun kb e => ?_), hgq _ (q_dq3 hs k1) (fun kn e => ?_)]
    · exact q (h.inds n m h1 hn m1 m2 kn (dq_inj hs k1 (by omega) e))
    · have e := dq_inj hs k1 (by omega) e
      exact q (h.one m n b m1 m2 h1 hn (e ▸ km) (hbb kb))
  · intro k k1 k2
    rw [setIno_q (q_tq3 hs n).symm, h3, hg3]
    have hdj : k ∈ fre → k ∉ blks y us := fun a c => (List.nodup_append.1 hnd).2.2 k a k c rfl
    by_cases hf : k ∈ fre
    · rw [if_pos hf]
      constructor
      · intro q
        cases q
      · rintro (q | q)
        · exact absurd q (hdj hf)
        · exact absurd ((hm k).2 (.inl hf)) q.2
    · rw [if_neg hf]
      constructor
      · intro q
        by_cases r : k ∈ blks y us
        · exact .inl r
        · exact .inr ⟨q, fun t => ((hm k).1 t).elim hf r⟩
      · rintro (q | q)
        · exact h.blk_bit h1 hn ((hm k).2 (.inr q))
        · exact q.1
  · rw [setIno_q (q_tq3 hs n).symm, h3, hg3, if_neg (fun q => ?_)]
    · exact h.zero
    · have := (h.blk_le h1 hn ((hm 0).2 (.inl q))).1
      omega
  · intro k hk
    exact .inl ((hm k).2 (.inr hk))
end
end Go.Proofs.YtpnfkilfgdnogaaGreatDoor.Img
end
