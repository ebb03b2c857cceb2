/- Proves Rows.PathTellsSaid: for every two texts and every row of texts the law PathTells returns true and its arguments read as before. No further conditions. -/
import Derived.Test.YtfdclifdemajfaaRows
import Derived.Test.YtfdclifdemajfaaRefUnder
import Derived.Test.YtfdclifdemajfaaAppStrs
import Derived.Carry
import Derived.WalkKit
import Derived.ProofKit
import Derived.OpenShut
import Derived.ShutString
import Derived.ChangeOld
import Derived.Below
import Derived.SizedLaws
namespace Go.Proofs.Ytfdclifdemajfaa.pathTells
open Go.ChangeShapes Go.WideShapes Go.ChangeAt Go.RowKit
open Go.ChangeMaps (open_string shut_string)
set_option linter.unusedVariables false

open Oct Path

set_option maxRecDepth 100000 in
set_option maxHeartbeats 1000000 in
theorem walk_big (s t : ByteArray) (vl : Value) (hs : s.size ≤ 140737488351232) (ht : t.size ≤ 140737488351232) (h : 4096 < s.size + t.size) (w : World) :
    Calls Try.prog 8 #[.string s, .string t, vl] w fun e w' => e = .returned (.bool true) ∧ Below w.heap.size w w' := by
  have t0 : decide (4096 < (s.size : Int) + (t.size : Int)) = true := decide_eq_true (by omega)
  go_enter Try.func8, Try.ntmps8
  go_wp2_with fail
  refine (alive17 _).mono ?_
  rintro e w1 ⟨rfl, b1⟩
  go_wp2
  go_ret
  exact ⟨rfl, b1⟩
set_option maxRecDepth 100000 in
set_option maxHeartbeats 1000000 in
theorem walk_long (s t : ByteArray) (vl : Value) (ps : List ByteArray) (w : World) (h1 : Strs w vl ps) (z1 : ∀ p ∈ ps, p.size ≤ 140737488351232) (hl : longB ps = true) (h : s.size + t.size ≤ 4096) :
    Calls Try.prog 8 #[.string s, .string t, vl] w fun e w' => e = .returned (.bool true) ∧ Below w.heap.size w w' := by
  have t0 : decide (4096 < (s.size : Int) + (t.size : Int)) = false := decide_eq_false (by omega)
  have LP := Lib.hid (long_any vl ps w h1 z1)
  rw [hl] at LP
  clear h1 hl z1
  go_enter Try.func8, Try.ntmps8
  go_wp2_with fail
  refine LP.out.mono ?_
  rintro e w1 ⟨rfl, rfl⟩
  go_wp2_with fail
  refine (alive17 _).mono ?_
  rintro e w1 ⟨rfl, b1⟩
  go_wp2
  go_ret
  exact ⟨rfl, b1⟩


theorem last_strs {w : World} {v : Value} {D : List (List UInt8)} {N : List UInt8} (h : Strs w v ((D ++ [N]).map B)) :
    ∃ g og cg, v = .slice (some ⟨g, og, none⟩) (D.length + 1) cg ∧ D.length + 1 ≤ cg ∧ g < w.heap.size ∧ w.cell? ⟨g, og + D.length, none⟩ = some (.string (B N)) ∧ Strs w (.slice (some ⟨g, og, none⟩) D.length cg) (D.map B) := by
  have el : ((D ++ [N]).map B).length = D.length + 1 := by simp
  rcases strs_cases h with ⟨_, _, _, e0⟩ | ⟨g, og, cg, hv, hlg, hgb, hgx⟩
  · simp at e0
  have hlast := hgx D.length (by rw [el]; omega)
  have eN : ((D ++ [N]).map B)[D.length]'(by rw [el]; omega) = B N := by simp
  rw [eN] at hlast
  rw [el] at hv
  rw [el] at hlg
  refine ⟨g, og, cg, hv, hlg.2, hgb, hlast, ?_⟩
  by_cases hd : D = []
  · subst hd
    exact .inr (.inr ⟨_, cg, rfl, rfl⟩)
  · refine .inr (.inl ⟨g, og, cg, by simp, ⟨by simp; omega, by simp; omega⟩, hgb, fun j hj => ?_⟩)
    have hj2 : j < D.length := by simpa using hj
    rw [hgx j (by rw [el]; omega)]
    simp [List.getElem_append_left, hj2]


set_option maxRecDepth 100000 in
set_option maxHeartbeats 4000000 in
theorem walk_small (s t : ByteArray) (vl : Value) (ps : List ByteArray) (w : World) (h1 : Strs w vl ps) (z1 : ∀ p ∈ ps, p.size ≤ 140737488351232) (hl : longB ps = false) (h : s.size + t.size ≤ 4096) :
    Calls Try.prog 8 #[.string s, .string t, vl] w fun e w' => e = .returned (.bool true) ∧ Below w.heap.size w w' := by
  have t0 : decide (4096 < (s.size : Int) + (t.size : Int)) = false := decide_eq_false (by omega)
  have LP := Lib.hid (long_any vl ps w h1 z1)
  have f1 := long_facts hl
  have hn := f1.1
  rw [hl] at LP
  have SA := Lib.hid (fun W => split_any s W (by unfold maxLen; omega))
  have SR := Lib.hid (fun W => rs_any s W (by unfold maxLen; omega))
  have JP := Lib.hid (fun W v h => join_any v ps W h (fun p hp => by have := f1.2 p hp; unfold maxLen; omega) (by omega))
  have JR := Lib.hid (fun W v h => rjoin_any v ps W h (fun p hp => by have := f1.2 p hp; unfold maxLen; omega) (by omega))
  unfold jres at JP JR
  have PA := Lib.hid (fun W => parent_any s W (by unfold maxLen; omega))
  have UA := Lib.hid (fun W => under_any s t W (by omega) (by omega))
  have UR := Lib.hid (fun W => ru_any s t W (by unfold maxLen; omega) (by unfold maxLen; omega))
  have NA := Lib.hid (fun W => name_any s W (by unfold maxLen; omega))
  have NR := Lib.hid (fun W => rname_any s W (by unfold maxLen; omega))
  have S1 := Lib.hid h1
  have HN := Lib.hid hn
  clear h1 hl z1 f1
  go_enter Try.func8, Try.ntmps8
  go_wp2_with fail
  refine LP.out.mono ?_
  rintro e w1 ⟨rfl, rfl⟩
  go_wp2_with fail
  refine (SA.out _).mono ?_
  rintro e w1 ⟨va, rfl, ha, b1⟩
  have HA := Lib.hid ha
  clear ha
  go_wp2_with fail
  refine (SR.out _).mono ?_
  rintro e w2 ⟨vb, rfl, hb, b2⟩
  have HA2 := Lib.hid (HA.out.below b2)
  have HB := Lib.hid hb
  have b12 := b1.trans (b2.mono b1.size)
  clear hb b1 b2 HA
  go_wp2_with (at_builtin; refine wpList_append_strs rfl (.tmp 41) rfl _ ps rfl (S1.out.below b12) (Nat.le_trans HN.out (by decide)) ?_; intro vo wo howno bo)
  have SO := Lib.hid (strs_own howno (Nat.le_trans HN.out (by decide)))
  have b13 := b12.trans (bo.mono b12.size)
  have HA3 := Lib.hid (HA2.out.below bo)
  have HB3 := Lib.hid (HB.out.below bo)
  clear b12 bo howno HA2 HB
  go_wp2_with fail
  refine (JP.out _ _ SO.out).mono ?_
  rintro e w4 ⟨rfl, b4⟩
  have b14 := b13.trans (b4.mono b13.size)
  go_wp2_with fail
  refine (JR.out _ _ (S1.out.below b14)).mono ?_
  rintro e w5 ⟨rfl, rfl⟩
  go_wp2_with fail
  refine (PA.out _).mono ?_
  rintro e w6 ⟨vd, rfl, hd, b6⟩
  have b16 := b14.trans (b6.mono b14.size)
  have b46 := b4.trans (b6.mono b4.size)
  have HA6 := Lib.hid (HA3.out.below b46)
  have HB6 := Lib.hid (HB3.out.below b46)
  have SO6 := Lib.hid (SO.out.below b46)
  have HD := Lib.hid hd
  clear b13 b14 b4 b6 b46 hd HA3 HB3 SO
  generalize B (joinS (ps.map L)) = x
  generalize joinE (ps.map L) = jE
  have tx : (x.toList == x.toList) = true := by simp
  have tj : (jE != jE) = false := by simp
  have te : (splitE (L s) != splitE (L s)) = false := by simp
  go_wp2_with fail
  refine (same17_any va vb _ _ _ HA6.out HB6.out).mono ?_
  rintro e w7 ⟨rfl, b7⟩
  rw [show decide ((splitN (L s)).map B = (splitN (L s)).map B) = true by simp]
  have b17 := b16.trans (b7.mono b16.size)
  go_wp2_with fail
  refine (same17_any vo vl ps ps _ (SO6.out.below b7) (S1.out.below b17)).mono ?_
  rintro e w8 ⟨rfl, b8⟩
  rw [show decide (ps = ps) = true by simp]
  go_wp2_with fail
  refine (UA.out _).mono ?_
  rintro e w9 ⟨rfl, b9⟩
  go_wp2_with fail
  refine (UR.out _).mono ?_
  rintro e w10 ⟨rfl, b10⟩
  generalize underB (L s) (L t) = z
  have tz : (z != z) = false := by simp
  obtain ⟨y, hy⟩ : ∃ y, isName (L s) = y := ⟨_, rfl⟩
  have ty : (nameE (L s) == 0) = y := by rw [← hy]; unfold nameE; cases isName (L s) <;> rfl
  have HY := Lib.hid hy
  have tyy : (y != y) = false := by simp
  clear hy
  go_wp2_with fail
  refine (NA.out _).mono ?_
  rintro e w11 ⟨rfl, b11⟩
  go_wp2_with fail
  refine (NR.out _).mono ?_
  rintro e w12 ⟨rfl, rfl⟩
  rw [HY.out]
  have b7e := b7.trans ((b8.trans ((b9.trans ((b10.trans (b11.mono b10.size)).mono b9.size)).mono b8.size)).mono b7.size)
  have bE := b16.trans (b7e.mono b16.size)
  have HDE := Lib.hid (HD.out.below b7e)
  have HBE := Lib.hid (HB6.out.below b7e)
  clear b7e b7 b8 b9 b10 b11 b16 b17 HD HB6 HA6 SO6
  by_cases hf : splitE (L s) = 0
  · have en : splitN (L s) = namesL (L s) := by unfold splitN; rw [if_pos hf]
    have h8 := (splitE_ok hf).few
    rw [en] at HBE
    by_cases h0 : namesL (L s) = []
    · have pe : parE (L s) = 2 := by unfold parE; rw [if_pos hf, if_pos h0]
      have pn : ¬ parE (L s) = 0 := by rw [pe]; decide
      have hd0 := HDE.out
      rw [show parD (L s) = [] by unfold parD; rw [if_neg pn]] at hd0
      obtain ⟨ao, cap, hv2⟩ := strs_form hd0
      simp only [List.map_nil, List.length_nil] at hv2
      subst hv2
      have hb0 := HBE.out
      rw [h0] at hb0
      obtain ⟨ao2, cap2, hv3⟩ := strs_form hb0
      simp only [List.map_nil, List.length_nil] at hv3
      subst hv3
      rw [show B (parN (L s)) = ⟨#[]⟩ by unfold parN; rw [if_neg pn]; rfl, pe, hf]
      clear hd0 hb0 pe pn hf h0 h8 en HDE HBE te
      go_wp2_with fail
      refine (alive17 _).mono ?_
      rintro e wn ⟨rfl, bn⟩
      go_wp2
      go_ret
      exact ⟨rfl, bE.trans (bn.mono bE.size)⟩
    · have pe : parE (L s) = 0 := by unfold parE; rw [if_pos hf, if_neg h0]
      have pp := (par_parts pe).1
      rw [← pp] at HBE h8
      rw [pe, hf]
      generalize parD (L s) = D at *
      generalize parN (L s) = N at *
      have hb0 := HBE.out
      obtain ⟨g, og, cg, rfl, hcap, hgb, hlast, hbD⟩ := last_strs hb0
      have HDB := Lib.hid hbD
      have hD8 : D.length ≤ 8 := by simp at h8; omega
      clear hb0 hbD h0 pe pp en hf te h8 HBE
      generalize B N = nm at *
      have tn : (nm.toList == nm.toList) = true := by simp
      generalize D.length = n at *
      go_wp2_with fail
      refine (same17_any vd _ (D.map B) (D.map B) _ HDE.out (HDB.out)).mono ?_
      rintro e w13 ⟨rfl, b13⟩
      rw [show decide (D.map B = D.map B) = true by simp]
      have hl13 : w13.cell? ⟨g, og + n, none⟩ = some (.string nm) := by rw [b13.cell (p := ⟨g, og + n, none⟩) hgb]; exact hlast
      have bF := bE.trans (b13.mono bE.size)
      clear b13 bE hlast HDB HDE
      go_wp2_with fail
      refine (alive17 _).mono ?_
      rintro e wn ⟨rfl, bn⟩
      go_wp2
      go_ret
      exact ⟨rfl, bF.trans (bn.mono bF.size)⟩
  · have tf : (splitE (L s) != 0) = true := by simpa using hf
    have pe : parE (L s) = splitE (L s) := by unfold parE; rw [if_neg hf]
    have pn : ¬ parE (L s) = 0 := by rw [pe]; exact hf
    have hd0 := HDE.out
    rw [show parD (L s) = [] by unfold parD; rw [if_neg pn]] at hd0
    obtain ⟨ao, cap, hv2⟩ := strs_form hd0
    simp only [List.map_nil, List.length_nil] at hv2
    subst hv2
    rw [show B (parN (L s)) = ⟨#[]⟩ by unfold parN; rw [if_neg pn]; rfl, pe]
    have tee : (splitE (L s) == splitE (L s)) = true := by simp
    clear hd0 pe pn hf HDE
    go_wp2_with fail
    refine (alive17 _).mono ?_
    rintro e wn ⟨rfl, bn⟩
    go_wp2
    go_ret
    exact ⟨rfl, bE.trans (bn.mono bE.size)⟩


theorem walk (a0 a1 : ByteArray) (v2 : Value) (p2 : List ByteArray) (W : World) (z0 : a0.size ≤ 140737488351232) (z1 : a1.size ≤ 140737488351232) (s2 : Strs W v2 p2) (z2 : ∀ p ∈ p2, p.size ≤ 140737488351232) :
    Calls Try.prog 8 #[.string a0, .string a1, v2] W fun e w' => e = .returned (.bool true) ∧ Below W.heap.size W w' := by
  by_cases h : 4096 < a0.size + a1.size
  · exact walk_big a0 a1 v2 z0 z1 h W
  · by_cases hl : longB p2 = true
    · exact walk_long a0 a1 v2 p2 W s2 z2 hl (by omega)
    · exact walk_small a0 a1 v2 p2 W s2 z2 (by simpa using hl) (by omega)

theorem own : ownKnob Try.prog.godebug = none := by kernel_rfl
theorem laidOut : laidOutB Try.prog = true := by kernel_rfl
set_option maxRecDepth 100000 in
theorem lifted (os : Os) (started : os.Started) (H : Type) (enc : TypeId × Value → H) :
    ReturnsInHanded {} Try.checked os 8 .any (Rows.pathTellsSpec.pre6 enc Try.prog Try.f8 Rows.pathTellsRow.domain false) (Rows.pathTellsSpec.post enc Try.prog Try.f8 false true false false) := by
  refine returnsInHanded_of_change_sized (C := Try.checked) own started (by kernel_rfl) Try.func8
    (ChangeSpec.witness6 (enc := enc) (C := Try.checked) false ⟨#[], #[.string ByteArray.empty, .string ByteArray.empty, .slice none 0 0], []⟩ 8 (by kernel_rfl) (by kernel_rfl) (by kernel_rfl) (by kernel_rfl)) ?_
  intro W base args ds gs before hval0 hW hcnd hsz0 _
  have hval : ∀ (j : Nat) t v, Try.f8.params[j]? = some t → args[j]? = some v → Value.okWide Try.prog W .any base t v := hval0
  have hW' := hW
  obtain ⟨p, q, hA0, hV, rfl, hfz, hnd⟩ := hW
  have hA : DataW.TrodAll enc Try.prog W 0 (fun _ => true) true Try.f8.params.toList args.toList ds p := hA0
  have hsz : (DataW.weightsEach Try.prog (Try.f8.params.toList ++ Rows.pathTellsSpec.plain.varTypes Try.prog) (ds ++ gs)).all (· ≤ reachBytes) = true := hsz0
  rw [Try.params8] at hA hval hsz
  obtain ⟨v0, vs0, d0, ds0, p0, q0, hargs, rfl, rfl, h0, r0⟩ := trodAll_cons hA
  obtain ⟨v1, vs1, d1, ds1, p1, q1, rfl, rfl, rfl, h1, r1⟩ := trodAll_cons r0
  obtain ⟨v2, vs2, d2, ds2, p2, q2, rfl, rfl, rfl, h2, r2⟩ := trodAll_cons r1
  obtain ⟨rfl, rfl, rfl⟩ := trodAll_nil r2
  obtain rfl : args = #[v0, v1, v2] := by cases args; simp_all
  obtain ⟨rfl, rfl⟩ := trodVars_none hV
  obtain ⟨a0, rfl, rfl, rfl, w0⟩ := open_string Try.underlying9 (hval 0 9 v0 rfl rfl) h0
  obtain ⟨a1, rfl, rfl, rfl, w1⟩ := open_string Try.underlying9 (hval 1 9 v1 rfl rfl) h1
  obtain ⟨a2, len2, cap2, rfl⟩ := okWide_slice Try.underlying40 (hval 2 40 v2 rfl rfl)
  have k2 := h2
  have lt2 : ∀ x ∈ p2, x.block < W.heap.size := by obtain ⟨m, hm⟩ := k2; exact DataW.trod_lt m _ _ _ hm
  obtain ⟨l2, s2, z2⟩ := open_strs h2 hsz (j := 2) rfl rfl
  have z0 : a0.size ≤ 140737488351232 := sized_string hsz (j := 0) (t := 9) rfl rfl
  have z1 : a1.size ≤ 140737488351232 := sized_string hsz (j := 1) (t := 9) rfl rfl
  clear hA0 hval0
  simp only [List.append_nil] at hW'
  refine (walk a0 a1 _ l2 W z0 z1 s2 z2).mono fun e W' ⟨he, bel⟩ => ?_
  subst he
  exact ⟨_, rfl, _, _, _, [], _, [], hW', trodAll_mk1 (shut_bool Try.underlying4 _), (trodAll_cons_mk (shut_string Try.underlying9 w0) (trodAll_cons_mk (shut_string Try.underlying9 w1) (trodAll_cons_mk (Below.trod laidOut (by kernel_rfl) (of_decide_eq_true (by kernel_rfl)) k2 bel lt2) trodAll_mk0))), rfl, bel.frame _, fun h => by cases h⟩

theorem over : Rows.pathTellsRow.holds Try.pinned (OpenSpec.ofChange Rows.pathTellsSpec) :=
  OpenClaim.holds_of_wide 8 Try.f8 rfl rfl rfl rfl rfl rfl rfl ⟨rfl, rfl, rfl, rfl, rfl⟩ rfl rfl rfl rfl rfl (by kernel_rfl) Try.func8 (by kernel_rfl)
    (of_decide_eq_true (by kernel_rfl)) (by unfold Func.isWrapper; first | (rw [if_pos (by decide +kernel)]; kernel_rfl) | (rw [if_neg (by decide +kernel)]; exact ⟨rfl, rfl⟩))
    (fun os started H enc _ => lifted os started H enc)

theorem proved : Rows.PathTellsSaid := over

end Go.Proofs.Ytfdclifdemajfaa.pathTells
