/- Proves Rows.PathUnderSaid: for every three texts the law PathUnder returns true and its arguments read as before. No further conditions. -/
import Derived.Test.YtfdclifdemajfaaRows
import Derived.Test.YtfdclifdemajfaaPathSame
import Derived.Test.YtfdclifdemajfaaPathLaws
import Derived.Laws.AppendOwnNone
import Derived.Deep.Cut
import Derived.WalkKit
import Derived.ProofKit
import Derived.OpenShut
import Derived.ShutString
import Derived.ChangeOld
import Derived.Below
import Derived.SizedLaws
namespace Go.Proofs.Ytfdclifdemajfaa.pathUnder
open Go.ChangeShapes Go.WideShapes Go.ChangeAt Go.RowKit
open Go.ChangeMaps (open_string shut_string)
set_option linter.unusedVariables false

open Oct Path

theorem map_BL (ps : List (List UInt8)) : (ps.map B).map L = ps := by rw [List.map_map]; exact List.map_id _
theorem map_LB (ps : List ByteArray) : (ps.map L).map B = ps := by rw [List.map_map]; exact List.map_id _

set_option maxRecDepth 100000 in
set_option maxHeartbeats 1000000 in
theorem walk_big (a b c : ByteArray) (ha : a.size ≤ 140737488351232) (hb : b.size ≤ 140737488351232) (hc : c.size ≤ 140737488351232) (h : 4096 < a.size + b.size + c.size) (w : World) :
    Calls Try.prog 10 #[.string a, .string b, .string c] w fun e w' => e = .returned (.bool true) ∧ Below w.heap.size w w' := by
  go_enter Try.func10, Try.ntmps10
  go_wp2_with fail
  refine (alive17 _).mono ?_
  rintro e w1 ⟨rfl, b1⟩
  go_wp2
  go_ret
  exact ⟨rfl, b1⟩

/-- The texts that two appends have made. -/
theorem strs_two {w : World} {base : Nat} {v : Value} {ps : List ByteArray} {x : ByteArray} {k : Nat} (hk : k = ps.length + 1) (h : w.ownsRow base 9 1 v k (ps.map Value.string ++ [.string x])) (hl : ps.length ≤ 1000) : Strs w v (ps ++ [x]) := by
  subst hk
  exact strs_own (own_snoc h) (by simp; omega)
theorem news_of {w : World} {b off : Nat} {ps : List ByteArray} (hx : ∀ j (h : j < ps.length), w.cell? ⟨b, off + j, none⟩ = some (.string ps[j])) : ∀ j u, (ps.map Value.string)[j]? = some u → w.cell? ((⟨b, off, none⟩ : Addr).add j) = some u := fun j u hj => by
  obtain ⟨h1, rfl⟩ := List.getElem?_eq_some_iff.1 hj
  rw [List.length_map] at h1
  have e1 : ((⟨b, off, none⟩ : Addr).add j) = ⟨b, off + j, none⟩ := by unfold Addr.add; split <;> simp_all
  rw [e1, hx j h1, List.getElem_map]
theorem one_cell (ps : List ByteArray) : ∀ u ∈ ps.map Value.string, u.oneCell' = true := fun u hu => by
  obtain ⟨p, _, rfl⟩ := List.mem_map.1 hu
  rfl


set_option maxRecDepth 100000 in
set_option maxHeartbeats 4000000 in
theorem walk_small (a b c : ByteArray) (h : a.size + b.size + c.size ≤ 4096) (w : World) :
    Calls Try.prog 10 #[.string a, .string b, .string c] w fun e w' => e = .returned (.bool true) ∧ Below w.heap.size w w' := by
  have t0 : decide (4096 < (a.size : Int) + (b.size : Int) + (c.size : Int)) = false := by simp; omega
  have SA := Lib.hid (fun W => split_any a W (by unfold maxLen; omega))
  have PA := Lib.hid (fun W => parent_any a W (by unfold maxLen; omega))
  have UAA := Lib.hid (fun W => under_any a a W (by omega) (by omega))
  have UR := Lib.hid (fun W => under_any ⟨#[47]⟩ a W (by decide) (by omega))
  have UAB := Lib.hid (fun W => under_any a b W (by omega) (by omega))
  have UBA := Lib.hid (fun W => under_any b a W (by omega) (by omega))
  have UBC := Lib.hid (fun W => under_any b c W (by omega) (by omega))
  have UAC := Lib.hid (fun W => under_any a c W (by omega) (by omega))
  rw [under_self] at UAA
  rw [show L ⟨#[47]⟩ = [47] from rfl, under_root] at UR
  go_enter Try.func10, Try.ntmps10
  go_wp2_with fail
  refine (SA.out _).mono ?_
  rintro e w1 ⟨v0, rfl, hv0, b1⟩
  clear hv0
  go_wp2_with fail
  refine (UAA.out _).mono ?_
  rintro e w2 ⟨rfl, b2⟩
  have b12 := b1.trans (b2.mono b1.size)
  obtain ⟨z, hz1, hz2⟩ : ∃ z : Bool, (splitE (L a) == 0) = z ∧ decide (splitE (L a) = 0) = z := ⟨decide (splitE (L a) = 0), by rw [Bool.eq_iff_iff]; simp, rfl⟩
  have HZ2 := Lib.hid hz2
  rw [hz2]
  have tz : (z != z) = false := by simp
  clear hz2 b1 b2
  go_wp2_with fail
  refine (UR.out _).mono ?_
  rintro e w3 ⟨rfl, b3⟩
  have b13 := b12.trans (b3.mono b12.size)
  rw [HZ2.out]
  clear b12 b3
  go_upto_region 6 with fail
  go_cut [56] from 16 (fun s wx => s = .bool false ∧ Below w.heap.size w wx)
  case first =>
    go_wp2_with fail
    refine (UAB.out _).mono ?_
    rintro e w4 ⟨rfl, b4⟩
    have b14 := b13.trans (b4.mono b13.size)
    clear b13 b4
    cases hp : underB (L a) (L b) with
    | false =>
      clear hp
      go_wp2_with fail
      go_meet
      case rel => exact ⟨rfl, b14⟩
    | true =>
      have HP := Lib.hid hp
      clear hp
      go_wp2_with fail
      refine (UBA.out _).mono ?_
      rintro e w5 ⟨rfl, b5⟩
      have b15 := b14.trans (b5.mono b14.size)
      clear b14 b5
      have hq : underB (L b) (L a) = false ∨ (underB (L b) (L a) = true ∧ (a.toList == b.toList) = true) := by
        cases hq : underB (L b) (L a) with
        | false => exact .inl rfl
        | true =>
          have e := under_both HP.out hq
          exact .inr ⟨rfl, by rw [toList_L, toList_L, e]; simp⟩
      rcases hq with hq | ⟨hq, teq⟩
      · rw [hq]
        clear hq
        go_wp2_with fail
        go_meet
        case rel => exact ⟨rfl, b15⟩
      · rw [hq]
        clear hq
        go_wp2_with fail
        go_meet
        case rel => exact ⟨rfl, b15⟩
  case rest =>
    obtain ⟨rfl, b20⟩ := hcut
    clear b13
    obtain ⟨w20, hw20⟩ : ∃ w20, w20 = wc := ⟨_, rfl⟩
    rw [← hw20] at b20 ⊢
    clear hw20
    go_upto_region 8 with fail
    go_cut [70] from 16 (fun s wx => s = .bool false ∧ Below w.heap.size w wx)
    case first =>
      go_wp2_with fail
      refine (UAB.out _).mono ?_
      rintro e w4 ⟨rfl, b4⟩
      have b14 := b20.trans (b4.mono b20.size)
      clear b20 b4
      cases hp : underB (L a) (L b) with
      | false =>
        clear hp
        go_wp2_with fail
        go_meet
        case rel => exact ⟨rfl, b14⟩
      | true =>
        have HP := Lib.hid hp
        clear hp
        go_wp2_with fail
        refine (UBC.out _).mono ?_
        rintro e w5 ⟨rfl, b5⟩
        have b15 := b14.trans (b5.mono b14.size)
        clear b14 b5
        have hr : underB (L b) (L c) = false ∨ (underB (L b) (L c) = true ∧ underB (L a) (L c) = true) := by
          cases hr : underB (L b) (L c) with
          | false => exact .inl rfl
          | true => exact .inr ⟨rfl, under_trans HP.out hr⟩
        rcases hr with hr | ⟨hr, hr2⟩
        · rw [hr]
          clear hr
          go_wp2_with fail
          go_meet
          case rel => exact ⟨rfl, b15⟩
        · rw [hr]
          rw [hr2] at UAC
          clear hr hr2
          go_wp2_with fail
          refine (UAC.out _).mono ?_
          rintro e w6 ⟨rfl, b6⟩
          have b16 := b15.trans (b6.mono b15.size)
          go_wp2_with fail
          go_meet
          case rel => exact ⟨rfl, b16⟩
    case rest =>
      obtain ⟨rfl, bX⟩ := hcut
      clear b20
      obtain ⟨wX, hwX⟩ : ∃ wX, wX = wc := ⟨_, rfl⟩
      rw [← hwX] at bX ⊢
      clear hwX
      go_wp2_with fail
      refine (PA.out _).mono ?_
      rintro e wp ⟨v, rfl, hv, bp⟩
      have bq := bX.trans (bp.mono bX.size)
      by_cases hpar : parE (L a) = 0
      · obtain ⟨j1, j2, j3, j4, j5⟩ := parent_law hpar
        rw [hpar]
        have HPD := Lib.hid (show (parD (L a)).length ≤ 8 from (joinE_zero j1).2.1)
        obtain ⟨D, hD⟩ : ∃ D, D = parD (L a) := ⟨_, rfl⟩
        obtain ⟨N, hN⟩ : ∃ N, N = parN (L a) := ⟨_, rfl⟩
        rw [← hD] at hv j1 j2 j3 j4 j5 HPD
        rw [← hN] at j2 j3 ⊢
        have hDl := HPD.out
        obtain ⟨ps, hps⟩ : ∃ ps, ps = D.map B := ⟨_, rfl⟩
        have hlD : ps.length ≤ 8 := by rw [hps, List.length_map]; exact hDl
        rw [← hps] at hv
        have zs : ∀ p ∈ ps, p.size ≤ maxLen := fun p hp => by
          rw [hps] at hp
          obtain ⟨x, hx, rfl⟩ := List.mem_map.1 hp
          have := (isName_noSlash ((joinE_zero j1).1 x hx)).2.2.2
          rw [size_B]; unfold maxLen; omega
        have zs2 : ∀ p ∈ ps ++ [B N], p.size ≤ maxLen := fun p hp => by
          rcases List.mem_append.1 hp with h | h
          · exact zs p h
          · simp at h; subst h
            have := (isName_noSlash ((joinE_zero j2).1 N (by simp))).2.2.2
            rw [size_B]; unfold maxLen; omega
        have J1 := Lib.hid (fun (W : World) (h : Strs W v ps) => join_any v ps W h zs)
        have ej1 : jres (ps.map L) = .tuple #[.string (B (joinS D)), .int .i64 0] := by unfold jres; rw [hps, map_BL, j1]
        rw [ej1] at J1
        have J2 := Lib.hid (fun (W : World) (u : Value) (h : Strs W u (ps ++ [B N])) => join_any u (ps ++ [B N]) W h zs2)
        have ej2 : jres ((ps ++ [B N]).map L) = .tuple #[.string a, .int .i64 0] := by
          unfold jres
          rw [List.map_append, hps, map_BL]
          show Value.tuple #[.string (B (joinS (D ++ [N]))), .int .i64 (joinE (D ++ [N]))] = _
          rw [j2, j3, B_L]
        rw [ej2] at J2
        have zu : (B (joinS D)).size ≤ 1099511627776 := by rw [size_B, joinS_ok j1]; have := (joinE_zero j1).2.2; omega
        have U1 := Lib.hid (fun W => under_any (B (joinS D)) a W zu (by omega))
        have U2 := Lib.hid (fun W => under_any a (B (joinS D)) W (by omega) zu)
        rw [L_B, j4] at U1
        rw [L_B, j5] at U2
        clear ej1 ej2 zs zs2 zu j1 j2 j3 j4 j5 hD hN hps HPD hDl
        generalize B (joinS D) = up at *
        go_wp2_with fail
        refine (J1.out _ hv).mono ?_
        rintro e wj ⟨rfl, bj⟩
        have hvj := hv.below bj
        have bj2 := bq.trans (bj.mono bq.size)
        clear hv
        obtain ⟨i0, hi, hz0, hz1, hz2⟩ := info_parts info_str
        rcases hvj with ⟨rfl, e0⟩ | ⟨x, ox, cx, rfl, hlx, hxb, hx⟩
        · subst e0
          have hone : Hid (∀ g cap w1, w1.ownsRow wj.heap.size 9 1 (.slice (some ⟨g, 0, none⟩) 1 cap) 1 [Value.string (B N)] → Strs w1 (.slice (some ⟨g, 0, none⟩) 1 cap) ([] ++ [B N])) := Lib.hid (fun g cap w1 h => strs_two (ps := []) rfl h (by simp))
          go_wp2_with (first | (at_builtin; refine wpList_append_own_none rfl (.const (.slice none 0 0)) (.tmp 86) 40 rfl wj.heap.size 9 i0 1 Try.underlying40 hi _ 0 [] rfl (World.ownsRow_nil _ _ _ _) rfl ?_) | (at_builtin; refine wpList_append_lies _ rfl (.tmp 87) (.tmp 89) 40 rfl wj.heap.size 9 i0 (.string ⟨#[]⟩) 1 16 Try.underlying40 hi hz0 hz1 hz2 rfl (by decide) _ 0 [] rfl (World.ownsRow_nil _ _ _ _) ⟨wj.heap.size, 0, none⟩ 1 1 [.string (B N)] rfl rfl (cell_one_new _ _ _) (by simp [Value.oneCell']) (by decide) (by unfold maxLen; omega) (by omega) (by simp) _ rfl ?_; intro g cap w1 hown1 hgrow hat hlt))
          have bg : Below wj.heap.size wj w1 := ((Below.refl _ wj).alloc (Nat.le_refl _) _).grown hgrow (by simp) (fun k e => by cases e)
          refine (J2.out _ _ (hone.out _ _ _ hown1)).mono ?_
          rintro e wk ⟨rfl, bk⟩
          have bk2 := bj2.trans ((bg.trans (bk.mono bg.size)).mono bj2.size)
          go_wp2_with fail
          refine (U1.out _).mono ?_
          rintro e wl ⟨rfl, bl⟩
          go_wp2_with fail
          refine (U2.out _).mono ?_
          rintro e wm ⟨rfl, bm⟩
          go_wp2_with fail
          refine (alive17 _).mono ?_
          rintro e wn ⟨rfl, bn⟩
          go_wp2
          go_ret
          exact ⟨rfl, bk2.trans ((bl.trans ((bm.trans (bn.mono bm.size)).mono bl.size)).mono bk2.size)⟩
        · have hnews := news_of hx
          have hoc := one_cell ps
          have HNW := Lib.hid hnews
          have HOC := Lib.hid hoc
          have hxb2 := hxb
          clear hx hnews hoc
          go_wp2_with (first | (at_builtin; refine wpList_append_own _ rfl (.const (.slice none 0 0)) (.tmp 86) 40 rfl wj.heap.size 9 i0 (.string ⟨#[]⟩) 1 16 Try.underlying40 hi hz0 hz1 hz2 rfl (by decide) _ 0 [] rfl (World.ownsRow_nil _ _ _ _) ⟨x, ox, none⟩ ps.length cx (ps.map Value.string) rfl (by simp) HNW.out HOC.out (by unfold maxLen; omega) (by omega) (by simp) ?_; intro va wa howna hgrowa _) | (at_builtin; refine wpList_append_lies _ rfl (.tmp 87) (.tmp 89) 40 rfl wj.heap.size 9 i0 (.string ⟨#[]⟩) 1 16 Try.underlying40 hi hz0 hz1 hz2 rfl (by decide) _ (0 + ps.length) ([] ++ ps.map Value.string) rfl (howna.alloc _) ⟨wa.heap.size, 0, none⟩ 1 1 [.string (B N)] rfl rfl (cell_one_new _ _ _) (by simp [Value.oneCell']) (by decide) (by unfold maxLen; omega) (by omega) (by have := hgrowa.size; simp; omega) _ rfl ?_; intro g cap w1 hown1 hgrow hat hlt))
          have bg1 : Below wj.heap.size wj wa := (Below.refl _ wj).grown hgrowa (Nat.le_refl _) (fun k e => by cases e)
          have bg : Below wj.heap.size wj w1 := (bg1.alloc bg1.size _).grown hgrow (by have := bg1.size; simp; omega) (fun k e => (howna.lt k e).1)
          have hsj : Strs w1 (.slice (some ⟨g, 0, none⟩) (ps.length + 1) cap) (ps ++ [B N]) := strs_two (ps := ps) (k := ps.length + 1) rfl (by simpa using hown1) (by omega)
          refine (J2.out _ _ hsj).mono ?_
          rintro e wk ⟨rfl, bk⟩
          have bk2 := bj2.trans ((bg.trans (bk.mono bg.size)).mono bj2.size)
          go_wp2_with fail
          refine (U1.out _).mono ?_
          rintro e wl ⟨rfl, bl⟩
          go_wp2_with fail
          refine (U2.out _).mono ?_
          rintro e wm ⟨rfl, bm⟩
          go_wp2_with fail
          refine (alive17 _).mono ?_
          rintro e wn ⟨rfl, bn⟩
          go_wp2
          go_ret
          exact ⟨rfl, bk2.trans ((bl.trans ((bm.trans (bn.mono bm.size)).mono bl.size)).mono bk2.size)⟩
      · have t9 : (parE (L a) != 0) = true := by simpa using hpar
        clear hpar
        go_wp2_with fail
        refine (alive17 _).mono ?_
        rintro e w9 ⟨rfl, b9⟩
        go_wp2
        go_ret
        exact ⟨rfl, bq.trans (b9.mono bq.size)⟩

theorem walk (a0 a1 a2 : ByteArray) (w0 : a0.size ≤ 140737488351232) (w1 : a1.size ≤ 140737488351232) (w2 : a2.size ≤ 140737488351232) (w : World) :
    Calls Try.prog 10 #[.string a0, .string a1, .string a2] w fun e w' => e = .returned (.bool true) ∧ Below w.heap.size w w' := by
  by_cases h : 4096 < a0.size + a1.size + a2.size
  · exact walk_big a0 a1 a2 w0 w1 w2 h w
  · exact walk_small a0 a1 a2 (by omega) w

theorem own : ownKnob Try.prog.godebug = none := by kernel_rfl
set_option maxRecDepth 100000 in
theorem lifted (os : Os) (started : os.Started) (H : Type) (enc : TypeId × Value → H) :
    ReturnsInHanded {} Try.checked os 10 .any (Rows.pathUnderSpec.pre6 enc Try.prog Try.f10 Rows.pathUnderRow.domain false) (Rows.pathUnderSpec.post enc Try.prog Try.f10 false true false false) := by
  refine returnsInHanded_of_change_sized (C := Try.checked) own started (by kernel_rfl) Try.func10
    (ChangeSpec.witness6 (enc := enc) (C := Try.checked) false ⟨#[], #[.string ByteArray.empty, .string ByteArray.empty, .string ByteArray.empty], []⟩ 8 (by kernel_rfl) (by kernel_rfl) (by kernel_rfl) (by kernel_rfl)) ?_
  intro W base args ds gs before hval0 hW hcnd hsz0 _
  have hval : ∀ (j : Nat) t v, Try.f10.params[j]? = some t → args[j]? = some v → Value.okWide Try.prog W .any base t v := hval0
  have hW' := hW
  obtain ⟨p, q, hA0, hV, rfl, hfz, hnd⟩ := hW
  have hA : DataW.TrodAll enc Try.prog W 0 (fun _ => true) true Try.f10.params.toList args.toList ds p := hA0
  have hsz : (DataW.weightsEach Try.prog (Try.f10.params.toList ++ Rows.pathUnderSpec.plain.varTypes Try.prog) (ds ++ gs)).all (· ≤ reachBytes) = true := hsz0
  rw [Try.params10] at hA hval hsz
  obtain ⟨v0, vs0, d0, ds0, p0, q0, hargs, rfl, rfl, h0, r0⟩ := trodAll_cons hA
  obtain ⟨v1, vs1, d1, ds1, p1, q1, rfl, rfl, rfl, h1, r1⟩ := trodAll_cons r0
  obtain ⟨v2, vs2, d2, ds2, p2, q2, rfl, rfl, rfl, h2, r2⟩ := trodAll_cons r1
  obtain ⟨rfl, rfl, rfl⟩ := trodAll_nil r2
  obtain rfl : args = #[v0, v1, v2] := by cases args; simp_all
  obtain ⟨rfl, rfl⟩ := trodVars_none hV
  obtain ⟨a0, rfl, rfl, rfl, w0⟩ := open_string Try.underlying9 (hval 0 9 v0 rfl rfl) h0
  obtain ⟨a1, rfl, rfl, rfl, w1⟩ := open_string Try.underlying9 (hval 1 9 v1 rfl rfl) h1
  obtain ⟨a2, rfl, rfl, rfl, w2⟩ := open_string Try.underlying9 (hval 2 9 v2 rfl rfl) h2
  have z0 : a0.size ≤ 140737488351232 := sized_string hsz (j := 0) (t := 9) rfl rfl
  have z1 : a1.size ≤ 140737488351232 := sized_string hsz (j := 1) (t := 9) rfl rfl
  have z2 : a2.size ≤ 140737488351232 := sized_string hsz (j := 2) (t := 9) rfl rfl
  clear hA0 hval0
  simp only [List.append_nil] at hW'
  refine (walk a0 a1 a2 z0 z1 z2 W).mono fun e W' ⟨he, bel⟩ => ?_
  subst he
  exact ⟨_, rfl, _, _, _, [], _, [], hW', trodAll_mk1 (shut_bool Try.underlying4 _), (trodAll_cons_mk (shut_string Try.underlying9 w0) (trodAll_cons_mk (shut_string Try.underlying9 w1) (trodAll_cons_mk (shut_string Try.underlying9 w2) trodAll_mk0))), rfl, bel.frame _, fun h => by cases h⟩

theorem over : Rows.pathUnderRow.holds Try.pinned (OpenSpec.ofChange Rows.pathUnderSpec) :=
  OpenClaim.holds_of_wide 10 Try.f10 rfl rfl rfl rfl rfl rfl rfl ⟨rfl, rfl, rfl, rfl, rfl⟩ rfl rfl rfl rfl rfl (by kernel_rfl) Try.func10 (by kernel_rfl)
    (of_decide_eq_true (by kernel_rfl)) (by unfold Func.isWrapper; first | (rw [if_pos (by decide +kernel)]; kernel_rfl) | (rw [if_neg (by decide +kernel)]; exact ⟨rfl, rfl⟩))
    (fun os started H enc _ => lifted os started H enc)

theorem proved : Rows.PathUnderSaid := over

end Go.Proofs.Ytfdclifdemajfaa.pathUnder
