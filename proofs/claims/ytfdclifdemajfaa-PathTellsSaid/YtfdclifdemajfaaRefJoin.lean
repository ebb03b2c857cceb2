/- The reference's Join of layer 17. -/
import Derived.Test.YtfdclifdemajfaaRefName
namespace Go.Proofs.Ytfdclifdemajfaa.Path
open Go.RowKit
open Oct
set_option linter.unusedVariables false

theorem tail_nil {ns : List (List UInt8)} (h : tailL ns = []) : ns = [] := by
  cases ns with
  | nil => rfl
  | cons n r => rw [tailL_cons] at h; simp at h
theorem jres_bad {ns : List (List UInt8)} {x : List UInt8} (hx : x ∈ ns) (h : isName x = false) : jres ns = .tuple #[.string ⟨#[]⟩, .int .i64 2] := by
  unfold jres joinS
  rw [joinE_bad hx h]; rfl
theorem jres_five {ns : List (List UInt8)} (h : AllNames ns) (h2 : 8 < ns.length ∨ 255 < (tailL ns).length) : jres ns = .tuple #[.string ⟨#[]⟩, .int .i64 5] := by
  have e : joinE ns = 5 := by
    rw [joinE_names h, if_pos]
    rcases h2 with h2 | h2
    · exact .inl h2
    · refine .inr ?_
      unfold pathL
      split
      · rename_i e; rw [e] at h2; simp [tailL] at h2
      · exact h2
  unfold jres joinS
  rw [e]; rfl
theorem jres_ok {ns : List (List UInt8)} (h : AllNames ns) (h1 : ns.length ≤ 8) (h2 : (tailL ns).length ≤ 255) : jres ns = .tuple #[.string (B (pathL ns)), .int .i64 0] := by
  have e : joinE ns = 0 := by
    rw [joinE_names h, if_neg]
    rintro (h3 | h3)
    · omega
    · unfold pathL at h3
      split at h3
      · simp at h3
      · omega
  unfold jres joinS
  rw [if_pos e, e]

theorem tail_snoc (ps : List ByteArray) (k : Nat) (h : k < ps.length) (t : ByteArray) (ht : L t = tailL ((ps.take k).map L)) : L (t ++ ⟨#[47]⟩ ++ ps[k]) = tailL ((ps.take (k + 1)).map L) := by
  rw [List.take_succ_eq_append_getElem h, List.map_append, tailL_append, ← ht]
  show (t ++ ⟨#[47]⟩ ++ ps[k]).data.toList = _
  simp [tailL, L]

set_option maxRecDepth 100000 in
set_option maxHeartbeats 400000 in
theorem rjoin_nil (a : Option Addr) (c : Nat) (w : World) : Calls Try.prog 40 #[.slice a 0 c] w fun e w' => e = .returned (jres []) ∧ w = w' := by
  go_enter Try.func40, Try.ntmps40
  go_wp2
  go_loop [4, 5] (fun s i => s = .string ⟨#[]⟩ ∧ i = .int .i64 0) (fun _ _ => 0)
  case atStart => exact ⟨rfl, rfl⟩
  case round =>
    obtain ⟨rfl, rfl⟩ := hrel
    go_wp2
    go_ret2
    exact ⟨rfl, rfl⟩

set_option maxRecDepth 100000 in
set_option maxHeartbeats 1000000 in
theorem rjoin_row (b off cap : Nat) (ps : List ByteArray) (w : World) (hl : ps.length ≤ 1000) (hz : ∀ p ∈ ps, p.size ≤ maxLen)
    (hx : ∀ j (h : j < ps.length), w.cell? ⟨b, off + j, none⟩ = some (.string ps[j])) :
    Calls Try.prog 40 #[.slice (some ⟨b, off, none⟩) ps.length cap] w fun e w' => e = .returned (jres (ps.map L)) ∧ w = w' := by
  have HX := Lib.hid hx
  have HZ := Lib.hid hz
  clear hx hz
  obtain ⟨u, hu⟩ : ∃ u, u = jres (ps.map L) := ⟨_, rfl⟩
  rw [← hu]
  have HU := Lib.hid hu
  clear hu
  go_enter Try.func40, Try.ntmps40
  go_wp2
  go_loop [4, 5] (fun s i => ∃ (k : Nat) (t : ByteArray), k ≤ ps.length ∧ i = .int .i64 k ∧ s = .string t ∧ t.size ≤ 28 * k ∧ Hid (L t = tailL ((ps.take k).map L)) ∧ Hid (AllNames ((ps.take k).map L))) (fun _ i => ps.length - (intOf i).toNat)
  case atStart => exact ⟨0, ⟨#[]⟩, Nat.zero_le _, rfl, rfl, Nat.le_refl 0, Lib.hid rfl, Lib.hid (fun x hx => by simp at hx)⟩
  case round =>
    obtain ⟨k, t, hk, rfl, rfl, ht, HT, HA⟩ := hrel
    by_cases hlt : k < ps.length
    · have c1 := HX.out k hlt
      have RN := Lib.hid (rname_any ps[k] w (HZ.out _ (List.getElem_mem hlt)))
      have HS := Lib.hid (tail_snoc ps k hlt t HT.out)
      cases hi : isName (L ps[k]) with
      | false =>
        have HR : Hid (u = .tuple #[.string ⟨#[]⟩, .int .i64 2]) := Lib.hid (by rw [HU.out]; exact jres_bad (List.mem_map_of_mem (List.getElem_mem hlt)) hi)
        rw [hi] at RN
        clear hi
        generalize ps[k] = p at *
        go_wp2_with fail
        refine RN.out.mono ?_
        rintro e w' ⟨rfl, rfl⟩
        go_wp2
        go_ret2
        exact ⟨by rw [HR.out]; rfl, rfl⟩
      | true =>
        have hp := (isName_noSlash hi).2.2.2
        rw [len_L] at hp
        have HB : Hid (AllNames ((ps.take (k + 1)).map L)) := Lib.hid (by
          intro x hx
          rw [List.take_succ_eq_append_getElem hlt, List.map_append] at hx
          rcases List.mem_append.1 hx with hx | hx
          · exact HA.out x hx
          · simp at hx; rw [hx]; exact hi)
        rw [hi] at RN
        clear hi
        generalize ps[k] = p at *
        have z1 : t.size + (⟨#[47]⟩ : ByteArray).size ≤ 28 * k + 1 := by show t.size + 1 ≤ _; omega
        have z2 : (t ++ ⟨#[47]⟩).size + p.size ≤ 28 * (k + 1) := by rw [ByteArray.size_append]; show t.size + 1 + p.size ≤ _; omega
        have z3 : (t ++ ⟨#[47]⟩ ++ p).size ≤ 28 * (k + 1) := by rw [ByteArray.size_append]; exact z2
        go_wp2_with fail
        refine RN.out.mono ?_
        rintro e w' ⟨rfl, rfl⟩
        go_wp2
        go_round
        case rel => exact ⟨k + 1, _, by omega, by go_num, rfl, z3, HS, HB⟩
        case measure => simp [intOf]; omega
    · have ek : ps.take k = ps := List.take_of_length_le (by omega)
      rw [ek] at HT HA
      clear ek
      have hsz : t.size = (tailL (ps.map L)).length := by rw [← HT.out, len_L]
      by_cases h8 : 8 < ps.length
      · have HR : Hid (u = .tuple #[.string ⟨#[]⟩, .int .i64 5]) := Lib.hid (by rw [HU.out]; exact jres_five HA.out (.inl (by rw [List.length_map]; exact h8)))
        have d1 : decide (8 < (ps.length : Int)) = true := decide_eq_true (by omega)
        clear hsz
        go_wp2
        go_ret2
        exact ⟨by rw [HR.out]; rfl, rfl⟩
      · have d1 : decide (8 < (ps.length : Int)) = false := decide_eq_false (by omega)
        have d1' : decide (8 < ps.length) = false := decide_eq_false (by omega)
        by_cases h255 : 255 < t.size
        · have HR : Hid (u = .tuple #[.string ⟨#[]⟩, .int .i64 5]) := Lib.hid (by rw [HU.out]; exact jres_five HA.out (.inr (by omega)))
          have d2 : decide (255 < (t.size : Int)) = true := decide_eq_true (by omega)
          clear hsz
          go_wp2
          go_ret2
          exact ⟨by rw [HR.out]; rfl, rfl⟩
        · have d2 : decide (255 < (t.size : Int)) = false := decide_eq_false (by omega)
          have d2' : decide (255 < t.size) = false := decide_eq_false (by omega)
          have HR : Hid (u = .tuple #[.string (B (pathL (ps.map L))), .int .i64 0]) := Lib.hid (by rw [HU.out]; exact jres_ok HA.out (by rw [List.length_map]; omega) (by omega))
          by_cases h0 : t.size = 0
          · have e := is_empty h0
            have HP : Hid (pathL (ps.map L) = [47]) := Lib.hid (by unfold pathL; rw [if_pos (tail_nil (List.eq_nil_of_length_eq_zero (by omega)))])
            clear hsz h0
            subst e
            go_wp2
            go_ret2
            exact ⟨by rw [HR.out, HP.out]; rfl, rfl⟩
          · have hne := empty_no (s := t) (by omega)
            have HP : Hid (B (pathL (ps.map L)) = t) := Lib.hid (by
              unfold pathL
              rw [if_neg (fun e => h0 (by rw [hsz, e]; rfl)), ← HT.out, B_L])
            clear hsz
            go_wp2
            go_ret2
            exact ⟨by rw [HR.out, HP.out]; rfl, rfl⟩

theorem rjoin_any (v : Value) (ps : List ByteArray) (w : World) (h : Strs w v ps) (hz : ∀ p ∈ ps, p.size ≤ maxLen) (hn : ps.length ≤ 1000) :
    Calls Try.prog 40 #[v] w fun e w' => e = .returned (jres (ps.map L)) ∧ w = w' := by
  rcases strs_cases h with ⟨_, _, rfl, rfl⟩ | ⟨b, off, cap, rfl, ⟨hl, hcap⟩, hb, hx⟩
  · exact rjoin_nil _ _ w
  · exact rjoin_row b off cap ps w hn hz hx
end Go.Proofs.Ytfdclifdemajfaa.Path
