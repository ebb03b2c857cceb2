/- Proves Rows.PathBackSaid: for every two rows of texts and every text the law PathBack returns true and its arguments read as before. No further conditions. -/
import Derived.Test.YtfdclifdemajfaaRows
import Derived.Test.YtfdclifdemajfaaPathSame
import Derived.Test.YtfdclifdemajfaaPathLaws
import Derived.Test.YtfdclifdemajfaaStrArgs
import Derived.Carry
import Derived.WalkKit
import Derived.ProofKit
import Derived.OpenShut
import Derived.ShutString
import Derived.ChangeOld
import Derived.Below
import Derived.SizedLaws
namespace Go.Proofs.Ytfdclifdemajfaa.pathBack
open Go.ChangeShapes Go.WideShapes Go.ChangeAt Go.RowKit
open Go.ChangeMaps (open_string shut_string)
set_option linter.unusedVariables false

open Oct Path

theorem map_BL (ps : List (List UInt8)) : (ps.map B).map L = ps := by rw [List.map_map]; exact List.map_id _
theorem map_LB (ps : List ByteArray) : (ps.map L).map B = ps := by rw [List.map_map]; exact List.map_id _

theorem back1 {P : List (List UInt8)} (h : joinE P = 0) : splitE (joinS P) = 0 ∧ splitN (joinS P) = P := by
  obtain ⟨h1, h2⟩ := ok_path h
  rw [joinS_ok h]
  have e := ok_splitE h1
  exact ⟨e, by unfold splitN; rw [if_pos e, h2]⟩
theorem back2 {P Q : List (List UInt8)} (h : joinE P = 0) (g : joinE Q = 0) (e : joinS P = joinS Q) : P = Q := by
  rw [← (back1 h).2, e, (back1 g).2]
theorem back3 {l : List UInt8} (h : splitE l = 0) : joinE (splitN l) = 0 ∧ joinS (splitN l) = l := by
  obtain ⟨h1, h2⟩ := join_names (splitE_ok h)
  have e : splitN l = namesL l := by unfold splitN; rw [if_pos h]
  rw [e]
  exact ⟨h1, by rw [joinS_ok h1, h2]⟩
theorem LB_inj {x y : ByteArray} (h : L x = L y) : x = y := by rw [← B_L x, h, B_L]

theorem join_back (s : ByteArray) (v : Value) (W : World) (hs : s.size ≤ 4096) (hse : splitE (L s) = 0) (h : Strs W v ((splitN (L s)).map B)) :
    Calls Try.prog 39 #[v] W fun e w' => e = .returned (.tuple #[.string s, .int .i64 0]) ∧ Below W.heap.size W w' := by
  obtain ⟨k1, k2⟩ := back3 hse
  have z := joinE_zero k1
  have := join_any v _ W h (fun p hp => by
    obtain ⟨x, hx, rfl⟩ := List.mem_map.1 hp
    have := (isName_noSlash (z.1 x hx)).2.2.2
    rw [size_B]; unfold maxLen; omega) (by rw [List.length_map]; have := z.2.1; omega)
  unfold jres at this
  rw [map_BL, k1, k2, B_L] at this
  exact this
theorem split_join (ps : List ByteArray) (W : World) (h : joinE (ps.map L) = 0) :
    Calls Try.prog 37 #[.string (B (joinS (ps.map L)))] W fun x w' => ∃ v, x = .returned (.tuple #[v, .int .i64 0]) ∧ Strs w' v ps ∧ Below W.heap.size W w' := by
  have z := (joinE_zero h).2.2
  have b := back1 h
  have := ex_split (B (joinS (ps.map L))) W (ps.map L) 0 (by rw [size_B, joinS_ok h]; unfold maxLen; omega) (by rw [L_B]; exact b.1) (by rw [L_B]; exact b.2)
  rw [map_LB] at this
  exact this
theorem same_paths (ps qs : List ByteArray) (h : joinE (ps.map L) = 0) (g : joinE (qs.map L) = 0) : ((B (joinS (ps.map L))).toList == (B (joinS (qs.map L))).toList) = decide (ps = qs) := by
  rw [toList_L, toList_L, L_B, L_B, Bool.eq_iff_iff]
  simp only [beq_iff_eq, decide_eq_true_eq]
  constructor
  · intro e
    have := back2 h g e
    rw [← map_LB ps, this, map_LB]
  · rintro rfl; rfl

set_option maxRecDepth 100000 in
set_option maxHeartbeats 1000000 in
theorem walk_big (va vb : Value) (s : ByteArray) (hs : s.size ≤ 140737488351232) (h : 4096 < s.size) (w : World) :
    Calls Try.prog 9 #[va, vb, .string s] w fun e w' => e = .returned (.bool true) ∧ Below w.heap.size w w' := by
  go_enter Try.func9, Try.ntmps9
  go_wp2_with fail
  refine (alive17 _).mono ?_
  rintro e w1 ⟨rfl, b1⟩
  go_wp2
  go_ret
  exact ⟨rfl, b1⟩
set_option maxRecDepth 100000 in
set_option maxHeartbeats 1000000 in
theorem walk_long1 (va vb : Value) (ps : List ByteArray) (s : ByteArray) (w : World) (h1 : Strs w va ps) (z1 : ∀ p ∈ ps, p.size ≤ 140737488351232) (hl : longB ps = true) (hs : s.size ≤ 4096) :
    Calls Try.prog 9 #[va, vb, .string s] w fun e w' => e = .returned (.bool true) ∧ Below w.heap.size w w' := by
  have t0 : decide (4096 < (s.size : Int)) = false := by simp; omega
  have LP := Lib.hid (long_any va ps w h1 z1)
  rw [hl] at LP
  clear h1 hl z1
  go_enter Try.func9, Try.ntmps9
  go_wp2_with fail
  refine LP.out.mono ?_
  rintro e w1 ⟨rfl, rfl⟩
  go_wp2_with fail
  refine (alive17 _).mono ?_
  rintro e w1 ⟨rfl, b1⟩
  go_wp2
  go_ret
  exact ⟨rfl, b1⟩
set_option maxRecDepth 100000 in
set_option maxHeartbeats 1000000 in
theorem walk_long2 (va vb : Value) (ps qs : List ByteArray) (s : ByteArray) (w : World) (h1 : Strs w va ps) (z1 : ∀ p ∈ ps, p.size ≤ 140737488351232) (hl : longB ps = false) (h2 : Strs w vb qs) (z2 : ∀ p ∈ qs, p.size ≤ 140737488351232) (hl2 : longB qs = true) (hs : s.size ≤ 4096) :
    Calls Try.prog 9 #[va, vb, .string s] w fun e w' => e = .returned (.bool true) ∧ Below w.heap.size w w' := by
  have t0 : decide (4096 < (s.size : Int)) = false := by simp; omega
  have LP := Lib.hid (long_any va ps w h1 z1)
  have LQ := Lib.hid (long_any vb qs w h2 z2)
  rw [hl] at LP
  rw [hl2] at LQ
  clear h1 hl z1 h2 hl2 z2
  go_enter Try.func9, Try.ntmps9
  go_wp2_with fail
  refine LP.out.mono ?_
  rintro e w1 ⟨rfl, rfl⟩
  go_wp2_with fail
  refine LQ.out.mono ?_
  rintro e w1 ⟨rfl, rfl⟩
  go_wp2_with fail
  refine (alive17 _).mono ?_
  rintro e w1 ⟨rfl, b1⟩
  go_wp2
  go_ret
  exact ⟨rfl, b1⟩

set_option maxRecDepth 100000 in
set_option maxHeartbeats 4000000 in
theorem walk_small (va vb : Value) (ps qs : List ByteArray) (s : ByteArray) (w : World) (h1 : Strs w va ps) (z1 : ∀ p ∈ ps, p.size ≤ 140737488351232) (hl : longB ps = false) (h2 : Strs w vb qs) (z2 : ∀ p ∈ qs, p.size ≤ 140737488351232) (hl2 : longB qs = false) (hs : s.size ≤ 4096) :
    Calls Try.prog 9 #[va, vb, .string s] w fun e w' => e = .returned (.bool true) ∧ Below w.heap.size w w' := by
  have t0 : decide (4096 < (s.size : Int)) = false := by simp; omega
  have LP := Lib.hid (long_any va ps w h1 z1)
  have LQ := Lib.hid (long_any vb qs w h2 z2)
  have f1 := long_facts hl
  have f2 := long_facts hl2
  have JP := Lib.hid (join_any va ps w h1 (fun p hp => by have := f1.2 p hp; unfold maxLen; omega) (by omega))
  have JQ := Lib.hid (fun W h => join_any vb qs W h (fun p hp => by have := f2.2 p hp; unfold maxLen; omega) (by omega))
  have SS := Lib.hid (fun W => split_any s W (by unfold maxLen; omega))
  unfold jres at JP JQ
  rw [hl] at LP
  rw [hl2] at LQ
  have S1 := Lib.hid h1
  have S2 := Lib.hid h2
  clear h1 hl z1 h2 hl2 z2 f1 f2
  go_enter Try.func9, Try.ntmps9
  go_wp2_with fail
  refine LP.out.mono ?_
  rintro e w1 ⟨rfl, rfl⟩
  go_wp2_with fail
  refine LQ.out.mono ?_
  rintro e w1 ⟨rfl, rfl⟩
  go_wp2_with fail
  refine JP.out.mono ?_
  rintro e w3 ⟨rfl, b3⟩
  go_wp2_with fail
  refine (JQ.out _ (S2.out.below b3)).mono ?_
  rintro e w4 ⟨rfl, b4⟩
  have b34 := b3.trans (b4.mono b3.size)
  clear b3 b4 JP JQ LP LQ
  by_cases he : joinE (ps.map L) = 0
  · have HE := Lib.hid he
    have SPL := Lib.hid (fun W => split_join ps W he)
    rw [he]
    clear he
    go_wp2_with fail
    refine (SPL.out _).mono ?_
    rintro e w5 ⟨v5, rfl, hv5, b5⟩
    have b35 := b34.trans (b5.mono b34.size)
    have HV5 := Lib.hid hv5
    clear b34 b5 hv5 SPL
    go_wp2_with fail
    refine (same17_any v5 va ps ps _ HV5.out (S1.out.below b35)).mono ?_
    rintro e w6 ⟨rfl, b6⟩
    rw [show decide (ps = ps) = true by simp]
    have b36 := b35.trans (b6.mono b35.size)
    clear b35 b6 HV5
    by_cases hf : joinE (qs.map L) = 0
    · have TE := Lib.hid (same_paths ps qs HE.out hf)
      rw [hf]
      clear hf
      have te := TE.out
      generalize B (joinS (ps.map L)) = x at te ⊢
      generalize B (joinS (qs.map L)) = y at te ⊢
      obtain ⟨z, hz⟩ : ∃ z, decide (ps = qs) = z := ⟨_, rfl⟩
      rw [hz] at te
      have HZ := Lib.hid hz
      have tz : (z != z) = false := by simp
      clear hz
      go_wp2_with fail
      refine (same17_any va vb ps qs _ (S1.out.below b36) (S2.out.below b36)).mono ?_
      rintro e w7 ⟨rfl, b7⟩
      have bX := b36.trans (b7.mono b36.size)
      rw [HZ.out]
      clear b36 b7
      go_wp2_with fail
      refine (SS.out _).mono ?_
      rintro e wp ⟨v, rfl, hv, bp⟩
      have bq := bX.trans (bp.mono bX.size)
      clear bp bX
      by_cases hse : splitE (L s) = 0
      · have HJ := Lib.hid (join_back s v wp hs hse hv)
        rw [hse]
        clear hse hv
        have ts : (s.toList == s.toList) = true := by simp
        go_wp2_with fail
        refine HJ.out.mono ?_
        rintro e wj ⟨rfl, bj⟩
        go_wp2_with fail
        refine (alive17 _).mono ?_
        rintro e wn ⟨rfl, bn⟩
        go_wp2
        go_ret
        exact ⟨rfl, bq.trans ((bj.trans (bn.mono bj.size)).mono bq.size)⟩
      · have e0 : splitN (L s) = [] := by unfold splitN; rw [if_neg hse]
        rw [e0] at hv
        obtain ⟨ao, cap, hv2⟩ := strs_form hv
        simp only [List.map_nil, List.length_nil] at hv2
        subst hv2
        have t9 : (splitE (L s) != 0) = true := by simpa using hse
        clear hse e0 hv
        go_wp2_with fail
        refine (alive17 _).mono ?_
        rintro e wn ⟨rfl, bn⟩
        go_wp2
        go_ret
        exact ⟨rfl, bq.trans (bn.mono bq.size)⟩
    · have tf : (joinE (qs.map L) == 0) = false := by simpa using hf
      clear hf
      have bX := b36
      clear b36
      go_wp2_with fail
      refine (SS.out _).mono ?_
      rintro e wp ⟨v, rfl, hv, bp⟩
      have bq := bX.trans (bp.mono bX.size)
      clear bp bX
      by_cases hse : splitE (L s) = 0
      · have HJ := Lib.hid (join_back s v wp hs hse hv)
        rw [hse]
        clear hse hv
        have ts : (s.toList == s.toList) = true := by simp
        go_wp2_with fail
        refine HJ.out.mono ?_
        rintro e wj ⟨rfl, bj⟩
        go_wp2_with fail
        refine (alive17 _).mono ?_
        rintro e wn ⟨rfl, bn⟩
        go_wp2
        go_ret
        exact ⟨rfl, bq.trans ((bj.trans (bn.mono bj.size)).mono bq.size)⟩
      · have e0 : splitN (L s) = [] := by unfold splitN; rw [if_neg hse]
        rw [e0] at hv
        obtain ⟨ao, cap, hv2⟩ := strs_form hv
        simp only [List.map_nil, List.length_nil] at hv2
        subst hv2
        have t9 : (splitE (L s) != 0) = true := by simpa using hse
        clear hse e0 hv
        go_wp2_with fail
        refine (alive17 _).mono ?_
        rintro e wn ⟨rfl, bn⟩
        go_wp2
        go_ret
        exact ⟨rfl, bq.trans (bn.mono bq.size)⟩
  · have te : (joinE (ps.map L) == 0) = false := by simpa using he
    clear he
    have bX := b34
    clear b34
    go_wp2_with fail
    refine (SS.out _).mono ?_
    rintro e wp ⟨v, rfl, hv, bp⟩
    have bq := bX.trans (bp.mono bX.size)
    clear bp bX
    by_cases hse : splitE (L s) = 0
    · have HJ := Lib.hid (join_back s v wp hs hse hv)
      rw [hse]
      clear hse hv
      have ts : (s.toList == s.toList) = true := by simp
      go_wp2_with fail
      refine HJ.out.mono ?_
      rintro e wj ⟨rfl, bj⟩
      go_wp2_with fail
      refine (alive17 _).mono ?_
      rintro e wn ⟨rfl, bn⟩
      go_wp2
      go_ret
      exact ⟨rfl, bq.trans ((bj.trans (bn.mono bj.size)).mono bq.size)⟩
    · have e0 : splitN (L s) = [] := by unfold splitN; rw [if_neg hse]
      rw [e0] at hv
      obtain ⟨ao, cap, hv2⟩ := strs_form hv
      simp only [List.map_nil, List.length_nil] at hv2
      subst hv2
      have t9 : (splitE (L s) != 0) = true := by simpa using hse
      clear hse e0 hv
      go_wp2_with fail
      refine (alive17 _).mono ?_
      rintro e wn ⟨rfl, bn⟩
      go_wp2
      go_ret
      exact ⟨rfl, bq.trans (bn.mono bq.size)⟩

theorem walk (a0 a1 : Value) (p0 p1 : List ByteArray) (a2 : ByteArray) (W : World) (s0 : Strs W a0 p0) (z0 : ∀ p ∈ p0, p.size ≤ 140737488351232) (s1 : Strs W a1 p1) (z1 : ∀ p ∈ p1, p.size ≤ 140737488351232) (z2 : a2.size ≤ 140737488351232) :
    Calls Try.prog 9 #[a0, a1, .string a2] W fun e w' => e = .returned (.bool true) ∧ Below W.heap.size W w' := by
  by_cases h : 4096 < a2.size
  · exact walk_big a0 a1 a2 z2 h W
  · cases h0 : longB p0 with
    | true => exact walk_long1 a0 a1 p0 a2 W s0 z0 h0 (by omega)
    | false => cases h1 : longB p1 with
      | true => exact walk_long2 a0 a1 p0 p1 a2 W s0 z0 h0 s1 z1 h1 (by omega)
      | false => exact walk_small a0 a1 p0 p1 a2 W s0 z0 h0 s1 z1 h1 (by omega)

theorem own : ownKnob Try.prog.godebug = none := by kernel_rfl
theorem laidOut : laidOutB Try.prog = true := by kernel_rfl
set_option maxRecDepth 100000 in
theorem lifted (os : Os) (started : os.Started) (H : Type) (enc : TypeId × Value → H) :
    ReturnsInHanded {} Try.checked os 9 .any (Rows.pathBackSpec.pre6 enc Try.prog Try.f9 Rows.pathBackRow.domain false) (Rows.pathBackSpec.post enc Try.prog Try.f9 false true false false) := by
  refine returnsInHanded_of_change_sized (C := Try.checked) own started (by kernel_rfl) Try.func9
    (ChangeSpec.witness6 (enc := enc) (C := Try.checked) false ⟨#[], #[.slice none 0 0, .slice none 0 0, .string ByteArray.empty], []⟩ 8 (by kernel_rfl) (by kernel_rfl) (by kernel_rfl) (by kernel_rfl)) ?_
  intro W base args ds gs before hval0 hW hcnd hsz0 _
  have hval : ∀ (j : Nat) t v, Try.f9.params[j]? = some t → args[j]? = some v → Value.okWide Try.prog W .any base t v := hval0
  have hW' := hW
  obtain ⟨p, q, hA0, hV, rfl, hfz, hnd⟩ := hW
  have hA : DataW.TrodAll enc Try.prog W 0 (fun _ => true) true Try.f9.params.toList args.toList ds p := hA0
  have hsz : (DataW.weightsEach Try.prog (Try.f9.params.toList ++ Rows.pathBackSpec.plain.varTypes Try.prog) (ds ++ gs)).all (· ≤ reachBytes) = true := hsz0
  rw [Try.params9] at hA hval hsz
  obtain ⟨v0, vs0, d0, ds0, p0, q0, hargs, rfl, rfl, h0, r0⟩ := trodAll_cons hA
  obtain ⟨v1, vs1, d1, ds1, p1, q1, rfl, rfl, rfl, h1, r1⟩ := trodAll_cons r0
  obtain ⟨v2, vs2, d2, ds2, p2, q2, rfl, rfl, rfl, h2, r2⟩ := trodAll_cons r1
  obtain ⟨rfl, rfl, rfl⟩ := trodAll_nil r2
  obtain rfl : args = #[v0, v1, v2] := by cases args; simp_all
  obtain ⟨rfl, rfl⟩ := trodVars_none hV
  obtain ⟨a0, len0, cap0, rfl⟩ := okWide_slice Try.underlying40 (hval 0 40 v0 rfl rfl)
  have k0 := h0
  have lt0 : ∀ x ∈ p0, x.block < W.heap.size := by obtain ⟨m, hm⟩ := k0; exact DataW.trod_lt m _ _ _ hm
  obtain ⟨l0, s0, z0⟩ := open_strs h0 hsz (j := 0) rfl rfl
  obtain ⟨a1, len1, cap1, rfl⟩ := okWide_slice Try.underlying40 (hval 1 40 v1 rfl rfl)
  have k1 := h1
  have lt1 : ∀ x ∈ p1, x.block < W.heap.size := by obtain ⟨m, hm⟩ := k1; exact DataW.trod_lt m _ _ _ hm
  obtain ⟨l1, s1, z1⟩ := open_strs h1 hsz (j := 1) rfl rfl
  obtain ⟨a2, rfl, rfl, rfl, w2⟩ := open_string Try.underlying9 (hval 2 9 v2 rfl rfl) h2
  have z2 : a2.size ≤ 140737488351232 := sized_string hsz (j := 2) (t := 9) rfl rfl
  clear hA0 hval0
  simp only [List.append_nil] at hW'
  refine (walk _ _ l0 l1 a2 W s0 z0 s1 z1 z2).mono fun e W' ⟨he, bel⟩ => ?_
  subst he
  exact ⟨_, rfl, _, _, _, [], _, [], hW', trodAll_mk1 (shut_bool Try.underlying4 _), (trodAll_cons_mk (Below.trod laidOut (by kernel_rfl) (of_decide_eq_true (by kernel_rfl)) k0 bel lt0) (trodAll_cons_mk (Below.trod laidOut (by kernel_rfl) (of_decide_eq_true (by kernel_rfl)) k1 bel lt1) (trodAll_cons_mk (shut_string Try.underlying9 w2) trodAll_mk0))), rfl, bel.frame _, fun h => by cases h⟩

theorem over : Rows.pathBackRow.holds Try.pinned (OpenSpec.ofChange Rows.pathBackSpec) :=
  OpenClaim.holds_of_wide 9 Try.f9 rfl rfl rfl rfl rfl rfl rfl ⟨rfl, rfl, rfl, rfl, rfl⟩ rfl rfl rfl rfl rfl (by kernel_rfl) Try.func9 (by kernel_rfl)
    (of_decide_eq_true (by kernel_rfl)) (by unfold Func.isWrapper; first | (rw [if_pos (by decide +kernel)]; kernel_rfl) | (rw [if_neg (by decide +kernel)]; exact ⟨rfl, rfl⟩))
    (fun os started H enc _ => lifted os started H enc)

theorem proved : Rows.PathBackSaid := over

end Go.Proofs.Ytfdclifdemajfaa.pathBack
