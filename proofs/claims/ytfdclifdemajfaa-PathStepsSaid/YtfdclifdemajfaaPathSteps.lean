/- Proves Rows.PathStepsSaid: for every row of texts and every text the law PathSteps returns true and its arguments read as before. No further conditions. -/
import Derived.Test.YtfdclifdemajfaaRows
import Derived.Test.YtfdclifdemajfaaPathSame
import Derived.Test.YtfdclifdemajfaaPathLaws
import Derived.Test.YtfdclifdemajfaaAppStrs
import Derived.Carry
import Derived.WalkKit
import Derived.ProofKit
import Derived.OpenShut
import Derived.ShutString
import Derived.ChangeOld
import Derived.Below
import Derived.SizedLaws
namespace Go.Proofs.Ytfdclifdemajfaa.pathSteps
open Go.ChangeShapes Go.WideShapes Go.ChangeAt Go.RowKit
open Go.ChangeMaps (open_string shut_string)
set_option linter.unusedVariables false

open Oct Path

theorem map_LB (ps : List ByteArray) : (ps.map L).map B = ps := by rw [List.map_map]; exact List.map_id _

theorem steps {P : List (List UInt8)} {N : List UInt8} (h : joinE (P ++ [N]) = 0) : joinE P = 0 ∧ parE (joinS (P ++ [N])) = 0 ∧ parD (joinS (P ++ [N])) = P ∧ parN (joinS (P ++ [N])) = N ∧
    underB (joinS P) (joinS (P ++ [N])) = true ∧ underB [47] (joinS (P ++ [N])) = true ∧ underB (joinS (P ++ [N])) (joinS P) = false := by
  obtain ⟨h1, h2⟩ := ok_path h
  have e := ok_splitE h1
  rw [← joinS_ok h] at h1 h2 e
  have j1 : joinE P = 0 := join_prefix (List.prefix_append P [N]) (by simp) h
  have pe : parE (joinS (P ++ [N])) = 0 := by unfold parE; rw [if_pos e, h2, if_neg (by simp)]
  have pd : parD (joinS (P ++ [N])) = P := by unfold parD; rw [if_pos pe, h2]; simp
  have pn : parN (joinS (P ++ [N])) = N := by unfold parN; rw [if_pos pe, h2]; simp
  obtain ⟨_, _, _, k1, k2⟩ := parent_law pe
  rw [pd] at k1 k2
  exact ⟨j1, pe, pd, pn, k1, by rw [under_root, e]; rfl, k2⟩

set_option maxRecDepth 100000 in
set_option maxHeartbeats 1000000 in
theorem walk_many (ao : Option Addr) (n cap : Nat) (s : ByteArray) (hn : n ≤ 8796093022208) (h : 20 < n) (w : World) :
    Calls Try.prog 11 #[.slice ao n cap, .string s] w fun e w' => e = .returned (.bool true) ∧ Below w.heap.size w w' := by
  have t0 : decide (20 < (n : Int)) = true := by simp; omega
  go_enter Try.func11, Try.ntmps11
  go_wp2_with fail
  refine (alive17 _).mono ?_
  rintro e w1 ⟨rfl, b1⟩
  go_wp2
  go_ret
  exact ⟨rfl, b1⟩
set_option maxRecDepth 100000 in
set_option maxHeartbeats 1000000 in
theorem walk_long (ao : Option Addr) (n cap : Nat) (s : ByteArray) (hs : s.size ≤ 140737488351232) (h : n ≤ 20) (h2 : 300 < s.size) (w : World) :
    Calls Try.prog 11 #[.slice ao n cap, .string s] w fun e w' => e = .returned (.bool true) ∧ Below w.heap.size w w' := by
  have t0 : decide (20 < (n : Int)) = false := by simp; omega
  have t1 : decide (300 < (s.size : Int)) = true := by simp; omega
  go_enter Try.func11, Try.ntmps11
  go_wp2_with fail
  refine (alive17 _).mono ?_
  rintro e w1 ⟨rfl, b1⟩
  go_wp2
  go_ret
  exact ⟨rfl, b1⟩

set_option maxRecDepth 100000 in
set_option maxHeartbeats 4000000 in
theorem walk_small (ao : Option Addr) (cap : Nat) (ps : List ByteArray) (s : ByteArray) (w : World) (h1 : Strs w (.slice ao ps.length cap) ps) (z1 : ∀ p ∈ ps, p.size ≤ 140737488351232) (hn : ps.length ≤ 20) (hs : s.size ≤ 300) :
    Calls Try.prog 11 #[.slice ao ps.length cap, .string s] w fun e w' => e = .returned (.bool true) ∧ Below w.heap.size w w' := by
  have t0 : decide (20 < (ps.length : Int)) = false := by simp; omega
  have t1 : decide (300 < (s.size : Int)) = false := by simp; omega
  have JP := Lib.hid (fun W v h => join_any v ps W h (fun p hp => by have := z1 p hp; unfold maxLen; omega) (by omega))
  have JQ := Lib.hid (fun W v h => join_any v (ps ++ [s]) W h (fun p hp => by
    rcases List.mem_append.1 hp with h | h
    · have := z1 p h; unfold maxLen; omega
    · simp at h; subst h; unfold maxLen; omega) (by simp; omega))
  have eQ : (ps ++ [s]).map L = ps.map L ++ [L s] := by simp
  rw [eQ] at JQ
  unfold jres at JP JQ
  have S1 := Lib.hid h1
  have HN := Lib.hid hn
  obtain ⟨i0, hi, hz0, hz1, hz2⟩ := info_parts info_str
  clear h1 z1 eQ
  go_enter Try.func11, Try.ntmps11
  go_wp2_with (at_builtin; refine wpList_append_strs rfl (.tmp 22) rfl _ ps rfl S1.out (Nat.le_trans HN.out (by decide)) ?_; intro va wa howna ba)
  refine (JP.out _ _ (strs_own howna (Nat.le_trans HN.out (by decide)))).mono ?_
  rintro e w2 ⟨rfl, b2⟩
  have bA := ba.trans (b2.mono ba.size)
  clear howna ba b2
  go_wp2_with (first | (at_builtin; refine wpList_append_strs rfl (.tmp 28) rfl _ ps rfl (S1.out.below bA) (Nat.le_trans HN.out (by decide)) ?_; intro vb wb howb bb) | (at_builtin; refine wpList_append_lies _ rfl (.tmp 29) (.tmp 31) 40 rfl w2.heap.size 9 i0 (.string ⟨#[]⟩) 1 16 Try.underlying40 hi hz0 hz1 hz2 rfl (by decide) _ ps.length (ps.map Value.string) rfl (howb.alloc _) ⟨wb.heap.size, 0, none⟩ 1 1 [.string s] rfl rfl (cell_one_new _ _ _) (by simp [Value.oneCell']) (by decide) (by unfold maxLen; omega) (by omega) (by have := bb.size; simp; omega) _ rfl ?_; intro g capg w3 hown3 hgrow hat hlt))
  have bg : Below w2.heap.size w2 w3 := (bb.alloc bb.size _).grown hgrow (by have := bb.size; simp; omega) (fun k e => (howb.lt k e).1)
  refine (JQ.out _ _ (strs_two rfl hown3 (Nat.le_trans HN.out (by decide)))).mono ?_
  rintro e w4 ⟨rfl, b4⟩
  have bX := bA.trans ((bg.trans (b4.mono bg.size)).mono bA.size)
  clear bA bg b4 hown3 hgrow hat hlt howb bb JP JQ
  by_cases hf : joinE (ps.map L ++ [L s]) = 0
  · obtain ⟨j1, p1, p2, p3, u1, u2, u3⟩ := steps hf
    have zq := (joinE_zero hf).2.2
    have zp := (joinE_zero j1).2.2
    rw [← joinS_ok hf] at zq
    rw [← joinS_ok j1] at zp
    obtain ⟨x, hx⟩ : ∃ x, x = B (joinS (ps.map L)) := ⟨_, rfl⟩
    obtain ⟨y, hy⟩ : ∃ y, y = B (joinS (ps.map L ++ [L s])) := ⟨_, rfl⟩
    have lx : L x = joinS (ps.map L) := by rw [hx, L_B]
    have ly : L y = joinS (ps.map L ++ [L s]) := by rw [hy, L_B]
    have sx : x.size ≤ 1000 := by rw [hx, size_B]; omega
    have sy : y.size ≤ 1000 := by rw [hy, size_B]; omega
    rw [hf, j1, ← hx, ← hy]
    rw [← lx, ← ly] at u1 u3
    rw [← ly] at p1 p2 p3 u2
    have PA := Lib.hid (fun W => ex_parent y W (ps.map L) (L s) (by unfold maxLen; omega) p1 p2 p3)
    rw [map_LB, B_L] at PA
    have U1 := Lib.hid (fun W => ex_under x y true W sx sy u1)
    have U2 := Lib.hid (fun W => ex_under ⟨#[47]⟩ y true W (by decide) sy u2)
    have U3 := Lib.hid (fun W => ex_under y x false W sy sx u3)
    clear hf j1 p1 p2 p3 u1 u2 u3 zq zp hx hy lx ly sx sy
    have ts : (s.toList == s.toList) = true := by simp
    go_wp2_with fail
    refine (PA.out _).mono ?_
    rintro e w5 ⟨v5, rfl, hv5, b5⟩
    have HV := Lib.hid hv5
    have bY := bX.trans (b5.mono bX.size)
    clear hv5 b5 bX
    go_wp2_with fail
    refine (same17_any _ _ ps ps _ HV.out (S1.out.below bY)).mono ?_
    rintro e w6 ⟨rfl, b6⟩
    rw [show decide (ps = ps) = true by simp]
    go_wp2_with fail
    refine (U1.out _).mono ?_
    rintro e w7 ⟨rfl, b7⟩
    go_wp2_with fail
    refine (U2.out _).mono ?_
    rintro e w8 ⟨rfl, b8⟩
    go_wp2_with fail
    refine (U3.out _).mono ?_
    rintro e w9 ⟨rfl, b9⟩
    go_wp2_with fail
    refine (alive17 _).mono ?_
    rintro e w10 ⟨rfl, b10⟩
    go_wp2
    go_ret
    exact ⟨rfl, bY.trans ((b6.trans ((b7.trans ((b8.trans ((b9.trans (b10.mono b9.size)).mono b8.size)).mono b7.size)).mono b6.size)).mono bY.size)⟩
  · have tf : (joinE (ps.map L ++ [L s]) != 0) = true := by simpa using hf
    have eb : B (joinS (ps.map L ++ [L s])) = ⟨#[]⟩ := by unfold joinS; rw [if_neg hf]; rfl
    rw [eb]
    clear hf eb
    go_wp2_with fail
    refine (alive17 _).mono ?_
    rintro e w10 ⟨rfl, b10⟩
    go_wp2
    go_ret
    exact ⟨rfl, bX.trans (b10.mono bX.size)⟩

theorem walk (a0 : Value) (p0 : List ByteArray) (a1 : ByteArray) (W : World) (s0 : Strs W a0 p0) (z0 : ∀ p ∈ p0, p.size ≤ 140737488351232) (z1 : a1.size ≤ 140737488351232) :
    Calls Try.prog 11 #[a0, .string a1] W fun e w' => e = .returned (.bool true) ∧ Below W.heap.size W w' := by
  have hl := strs_len s0
  obtain ⟨ao, cap, rfl⟩ := strs_form s0
  by_cases h : 20 < p0.length
  · exact walk_many ao p0.length cap a1 hl h W
  · by_cases h2 : 300 < a1.size
    · exact walk_long ao p0.length cap a1 z1 (by omega) h2 W
    · exact walk_small ao cap p0 a1 W s0 z0 (by omega) (by omega)

theorem own : ownKnob Try.prog.godebug = none := by kernel_rfl
theorem laidOut : laidOutB Try.prog = true := by kernel_rfl
set_option maxRecDepth 100000 in
theorem lifted (os : Os) (started : os.Started) (H : Type) (enc : TypeId × Value → H) :
    ReturnsInHanded {} Try.checked os 11 .any (Rows.pathStepsSpec.pre6 enc Try.prog Try.f11 Rows.pathStepsRow.domain false) (Rows.pathStepsSpec.post enc Try.prog Try.f11 false true false false) := by
  refine returnsInHanded_of_change_sized (C := Try.checked) own started (by kernel_rfl) Try.func11
    (ChangeSpec.witness6 (enc := enc) (C := Try.checked) false ⟨#[], #[.slice none 0 0, .string ByteArray.empty], []⟩ 8 (by kernel_rfl) (by kernel_rfl) (by kernel_rfl) (by kernel_rfl)) ?_
  intro W base args ds gs before hval0 hW hcnd hsz0 _
  have hval : ∀ (j : Nat) t v, Try.f11.params[j]? = some t → args[j]? = some v → Value.okWide Try.prog W .any base t v := hval0
  have hW' := hW
  obtain ⟨p, q, hA0, hV, rfl, hfz, hnd⟩ := hW
  have hA : DataW.TrodAll enc Try.prog W 0 (fun _ => true) true Try.f11.params.toList args.toList ds p := hA0
  have hsz : (DataW.weightsEach Try.prog (Try.f11.params.toList ++ Rows.pathStepsSpec.plain.varTypes Try.prog) (ds ++ gs)).all (· ≤ reachBytes) = true := hsz0
  rw [Try.params11] at hA hval hsz
  obtain ⟨v0, vs0, d0, ds0, p0, q0, hargs, rfl, rfl, h0, r0⟩ := trodAll_cons hA
  obtain ⟨v1, vs1, d1, ds1, p1, q1, rfl, rfl, rfl, h1, r1⟩ := trodAll_cons r0
  obtain ⟨rfl, rfl, rfl⟩ := trodAll_nil r1
  obtain rfl : args = #[v0, v1] := by cases args; simp_all
  obtain ⟨rfl, rfl⟩ := trodVars_none hV
  obtain ⟨a0, len0, cap0, rfl⟩ := okWide_slice Try.underlying40 (hval 0 40 v0 rfl rfl)
  have k0 := h0
  have lt0 : ∀ x ∈ p0, x.block < W.heap.size := by obtain ⟨m, hm⟩ := k0; exact DataW.trod_lt m _ _ _ hm
  obtain ⟨l0, s0, z0⟩ := open_strs h0 hsz (j := 0) rfl rfl
  obtain ⟨a1, rfl, rfl, rfl, w1⟩ := open_string Try.underlying9 (hval 1 9 v1 rfl rfl) h1
  have z1 : a1.size ≤ 140737488351232 := sized_string hsz (j := 1) (t := 9) rfl rfl
  clear hA0 hval0
  simp only [List.append_nil] at hW'
  refine (walk _ l0 a1 W s0 z0 z1).mono fun e W' ⟨he, bel⟩ => ?_
  subst he
  exact ⟨_, rfl, _, _, _, [], _, [], hW', trodAll_mk1 (shut_bool Try.underlying4 _), (trodAll_cons_mk (Below.trod laidOut (by kernel_rfl) (of_decide_eq_true (by kernel_rfl)) k0 bel lt0) (trodAll_cons_mk (shut_string Try.underlying9 w1) trodAll_mk0)), rfl, bel.frame _, fun h => by cases h⟩

theorem over : Rows.pathStepsRow.holds Try.pinned (OpenSpec.ofChange Rows.pathStepsSpec) :=
  OpenClaim.holds_of_wide 11 Try.f11 rfl rfl rfl rfl rfl rfl rfl ⟨rfl, rfl, rfl, rfl, rfl⟩ rfl rfl rfl rfl rfl (by kernel_rfl) Try.func11 (by kernel_rfl)
    (of_decide_eq_true (by kernel_rfl)) (by unfold Func.isWrapper; first | (rw [if_pos (by decide +kernel)]; kernel_rfl) | (rw [if_neg (by decide +kernel)]; exact ⟨rfl, rfl⟩))
    (fun os started H enc _ => lifted os started H enc)

theorem proved : Rows.PathStepsSaid := over

end Go.Proofs.Ytfdclifdemajfaa.pathSteps
