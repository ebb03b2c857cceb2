/- The walks of path.Split (every text), Join, Parent, Under. -/
import Derived.Test.YtfdclifdemajfaaPathSplit2
namespace Go.Proofs.Ytfdclifdemajfaa.Path
set_option linter.unusedVariables false
open Go.RowKit Oct

set_option maxRecDepth 100000 in
set_option maxHeartbeats 400000 in
theorem split_long (s : ByteArray) (w : World) (hs : s.size ≤ maxLen) (h : 255 < s.size) :
    Calls Try.prog 37 #[.string s] w (SplitRes (L s) w) := by
  unfold maxLen at hs
  have HE : Hid (splitE (L s) = 5) := Lib.hid (by unfold splitE; rw [if_pos (by rw [len_L]; exact h)])
  go_enter Try.func37, Try.ntmps37
  go_wp2
  refine bodyPost_ret (v := .tuple #[.slice none 0 0, .int .i64 5]) (by simp [results, Try.results37, go_sem]) rfl ⟨_, by rw [HE.out], .inl ⟨rfl, ?_⟩, ?_⟩
  · unfold splitN; rw [HE.out]; rfl
  · exact ((Below.refl _ w).alloc (Nat.le_refl _) _).alloc (by simp) _

set_option maxRecDepth 100000 in
set_option maxHeartbeats 400000 in
theorem split_form (s : ByteArray) (w : World) (h : s.size ≤ 255) (hh : headSlash (L s) = false) :
    Calls Try.prog 37 #[.string s] w (SplitRes (L s) w) := by
  have HE : Hid (splitE (L s) = 7) := Lib.hid (by unfold splitE; rw [if_neg (by rw [len_L]; omega), if_pos hh])
  have hd : decide (255 < s.size) = false := by simp; omega
  have hd' : decide (255 < (s.size : Int)) = false := by simp; omega
  have C1 := Lib.hid (fun W => (Try.strings_HasPrefix s ⟨#[47]⟩ W))
  have hp : Lib.hasPrefix s.data.toList (⟨#[47]⟩ : ByteArray).data.toList = false := by
    have e : s.data.toList = L s := rfl
    rw [e]
    cases hL : L s with
    | nil => rfl
    | cons c l =>
      rw [hL] at hh
      unfold Lib.hasPrefix
      simp only [headSlash] at hh
      simp [List.isPrefixOf] 
      intro e2
      rw [← e2] at hh
      simp at hh
  have HP := Lib.hid hp
  clear hp hh
  go_enter Try.func37, Try.ntmps37
  go_wp2_with fail
  refine (C1.out _).mono ?_
  rintro e w' ⟨rfl, rfl⟩
  rw [HP.out]
  go_wp2
  refine bodyPost_ret (v := .tuple #[.slice none 0 0, .int .i64 7]) (by simp [results, Try.results37, go_sem]) rfl ⟨_, by rw [HE.out], .inl ⟨rfl, ?_⟩, ?_⟩
  · unfold splitN; rw [HE.out]; rfl
  · exact ((Below.refl _ w).alloc (Nat.le_refl _) _).alloc (by simp) _

/-- path.Split, whatever the text. -/
theorem split_any (s : ByteArray) (w : World) (hs : s.size ≤ maxLen) : Calls Try.prog 37 #[.string s] w (SplitRes (L s) w) := by
  by_cases h : 255 < s.size
  · exact split_long s w hs h
  · cases hh : headSlash (L s) with
    | false => exact split_form s w (by omega) hh
    | true =>
      have : ∃ r, L s = 47 :: r := by
        cases hL : L s with
        | nil => rw [hL] at hh; simp [headSlash] at hh
        | cons c r => rw [hL] at hh; simp [headSlash] at hh; exact ⟨r, by rw [hh]⟩
      obtain ⟨r, hr⟩ := this
      exact callsIn_wide.1 (split_main_in Fence.wide 4 (Lib.hid rfl) rfl (Nat.le_refl _) s r (Lib.hid hr) (by omega) w)

/-- What Join answers. -/
def joinE (ns : List (List UInt8)) : Int := if ns.all isName = false then 2 else if 8 < ns.length ∨ 255 < (pathL ns).length then 5 else 0
def joinS (ns : List (List UInt8)) : List UInt8 := if joinE ns = 0 then pathL ns else []
theorem join_path (ns : List (List UInt8)) : 47 :: Lib.join ns [47] = pathL ns := by
  unfold pathL
  cases ns with
  | nil => rfl
  | cons n ns =>
    rw [if_neg (List.cons_ne_nil n ns), Lib.join_cons, tailL_cons]
    rfl
theorem tail_len : ∀ ns : List (List UInt8), (∀ n ∈ ns, n.length ≤ 27) → (tailL ns).length ≤ 28 * ns.length
  | [], _ => by simp [tailL]
  | n :: ns, h => by
    have h1 := h n (by simp)
    have h2 := tail_len ns (fun m hm => h m (by simp [hm]))
    rw [tailL_cons, List.length_append, List.length_cons, List.length_cons]
    omega
theorem path_len (ns : List (List UInt8)) (h : AllNames ns) : (pathL ns).length ≤ 28 * ns.length + 1 := by
  unfold pathL
  split
  · simp
  · have := tail_len ns (fun n hn => (isName_noSlash (h n hn)).2.2.2)
    omega
theorem joinE_bad {ns : List (List UInt8)} {x : List UInt8} (hx : x ∈ ns) (h : isName x = false) : joinE ns = 2 := by
  have h6 : ns.all isName = false := by
    rw [Bool.eq_false_iff]
    intro e
    have := List.all_eq_true.1 e x hx
    rw [h] at this
    simp at this
  unfold joinE
  rw [if_pos h6]
theorem joinE_names {ns : List (List UInt8)} (h : AllNames ns) : joinE ns = if 8 < ns.length ∨ 255 < (pathL ns).length then 5 else 0 := by
  have h6 : ns.all isName = true := List.all_eq_true.2 h
  unfold joinE
  rw [if_neg (by rw [h6]; simp)]
def jres (ns : List (List UInt8)) : Value := .tuple #[.string (B (joinS ns)), .int .i64 (joinE ns)]

set_option maxRecDepth 100000 in
set_option maxHeartbeats 400000 in
theorem join_nil (a : Option Addr) (c : Nat) (w : World) : Calls Try.prog 39 #[.slice a 0 c] w fun e w' => e = .returned (jres []) ∧ Below w.heap.size w w' := by
  have E := Lib.hid (show jres [] = .tuple #[.string ⟨#[47]⟩, .int .i64 0] from by rfl)
  rw [E.out]
  go_enter Try.func39, Try.ntmps39
  go_wp2
  go_loop [10] (fun i => i = .int .i64 0) (fun _ => 0)
  case atStart => rfl
  case round =>
    obtain rfl := hrel
    go_wp2_with fail
    refine (Try.strings_Join_none a c ⟨#[47]⟩ _).mono ?_
    rintro e w' ⟨rfl, rfl⟩
    go_wp2
    go_ret2
    exact ⟨rfl, Below.refl _ _⟩

set_option maxRecDepth 100000 in
set_option maxHeartbeats 1000000 in
theorem join_row (b off cap : Nat) (ps : List ByteArray) (w : World) (hl : ps.length ≤ 1099511627776) (hcap : ps.length ≤ cap) (hb : b < w.heap.size) (hz : ∀ p ∈ ps, p.size ≤ maxLen)
    (hx : ∀ j (h : j < ps.length), w.cell? ⟨b, off + j, none⟩ = some (.string ps[j])) :
    Calls Try.prog 39 #[.slice (some ⟨b, off, none⟩) ps.length cap] w fun e w' => e = .returned (jres (ps.map L)) ∧ Below w.heap.size w w' := by
  have HX := Lib.hid hx
  have HZ := Lib.hid hz
  clear hx hz
  obtain ⟨J, hJ⟩ : ∃ J, J = jres (ps.map L) := ⟨_, rfl⟩
  rw [← hJ]
  have HJ := Lib.hid hJ
  clear hJ
  go_enter Try.func39, Try.ntmps39
  go_wp2
  go_loopw [10] (fun i wr => ∃ k : Nat, k ≤ ps.length ∧ i = .int .i64 k ∧ Hid (AllNames ((ps.take k).map L)) ∧ Below w.heap.size w wr) (fun i _ => ps.length - (intOf i).toNat)
  case atStart => exact ⟨0, Nat.zero_le _, rfl, Lib.hid (fun x hx => by simp at hx), Below.refl _ _⟩
  case round =>
    obtain ⟨k, hk, rfl, HN, hB⟩ := hrel
    by_cases hlt : k < ps.length
    · have hc : wr.cell? ⟨b, off + k, none⟩ = some (.string ps[k]) := (hB.cell (p := ⟨b, off + k, none⟩) hb).trans (HX.out k hlt)
      have NX : Hid (∀ W', Calls Try.prog 45 #[.string ps[k]] W' fun e w' => e = .returned (.int .i64 (nameE (L ps[k]))) ∧ Below W'.heap.size W' w') := Lib.hid (fun W' => name_any ps[k] W' (HZ.out _ (List.getElem_mem hlt)))
      have hmem : L ps[k] ∈ ps.map L := List.mem_map.2 ⟨ps[k], List.getElem_mem hlt, rfl⟩
      have HM := Lib.hid hmem
      have HT := Lib.hid (show (ps.take (k + 1)).map L = (ps.take k).map L ++ [L ps[k]] by rw [List.take_succ_eq_append_getElem hlt, List.map_append]; rfl)
      clear hmem
      generalize ps[k] = p at *
      go_wp2_with fail
      refine (NX.out _).mono ?_
      rintro e w1 ⟨rfl, b1⟩
      have hB1 := hB.trans (b1.mono hB.size)
      by_cases hn : isName (L p) = true
      · rw [nameE_ok hn]
        have HN2 : Hid (AllNames ((ps.take (k + 1)).map L)) := Lib.hid (by
          rw [HT.out]
          intro y hy
          rcases List.mem_append.1 hy with h | h
          · exact HN.out y h
          · simp at h; subst h; exact hn)
        clear hn
        go_wp2
        go_roundw
        case rel => exact ⟨k + 1, by omega, by go_num, HN2, hB1⟩
        case measure => simp [intOf]; omega
      · have hn' : isName (L p) = false := by simpa using hn
        rw [nameE_no hn']
        have HE := Lib.hid (joinE_bad HM.out hn')
        clear hn hn'
        go_wp2
        go_ret2
        refine ⟨?_, hB1⟩
        rw [HJ.out]
        unfold jres joinS
        rw [HE.out]
        rfl
    · have HA : Hid (AllNames (ps.map L)) := Lib.hid (by have := HN.out; rw [List.take_of_length_le (by omega)] at this; exact this)
      have hpl := path_len _ HA.out
      rw [List.length_map] at hpl
      have hjl := congrArg List.length (join_path (ps.map L))
      rw [List.length_cons] at hjl
      have C := Lib.hid (Try.strings_Join b off cap ps ⟨#[47]⟩ wr (fun j x hj => by
        obtain ⟨hj2, rfl⟩ := List.getElem?_eq_some_iff.1 hj
        exact (hB.cell (p := ⟨b, off + j, none⟩) hb).trans (HX.out j hj2)) (Nat.lt_of_lt_of_le hb hB.size) (by omega) hcap (by
        show (Lib.join (ps.map L) [47]).length ≤ _
        omega))
      go_wp2_with fail
      refine (C.out).mono ?_
      rintro e w1 ⟨rfl, b1⟩
      have hB1 := hB.trans (b1.mono hB.size)
      obtain ⟨q, hq⟩ : ∃ q, q = B (Lib.join (ps.map L) [47]) := ⟨_, rfl⟩
      have eq1 : (⟨(Lib.join (ps.map (·.data.toList)) (⟨#[47]⟩ : ByteArray).data.toList).toArray⟩ : ByteArray) = q := by rw [hq]; rfl
      rw [eq1]
      clear eq1
      have hqz : q.size ≤ 28 * ps.length + 1 := by rw [hq, size_B]; omega
      have hqs : (⟨#[47]⟩ : ByteArray).size + q.size ≤ 9223372036854775807 := by
        have : (⟨#[47]⟩ : ByteArray).size = 1 := rfl
        rw [this]; omega
      have HQ := Lib.hid (show (⟨#[47]⟩ ++ q : ByteArray) = B (pathL (ps.map L)) by
        rw [hq, ← join_path, show (⟨#[47]⟩ : ByteArray) = B [47] from rfl, B_append]; rfl)
      have hqp : (pathL (ps.map L)).length = 1 + q.size := by rw [hq, size_B]; omega
      have HQP := Lib.hid hqp
      clear hq hjl hqp hpl
      have EJ := Lib.hid (joinE_names HA.out)
      have hcase : (decide (8 < (ps.length : Int)) = true ∧ joinE (ps.map L) = 5) ∨ (decide (8 < (ps.length : Int)) = false ∧ decide (255 < 1 + (q.size : Int)) = true ∧ joinE (ps.map L) = 5) ∨ (decide (8 < (ps.length : Int)) = false ∧ decide (255 < 1 + (q.size : Int)) = false ∧ joinE (ps.map L) = 0) := by
        rw [EJ.out, HQP.out, List.length_map]
        by_cases h8 : 8 < ps.length
        · exact .inl ⟨by simp; omega, by rw [if_pos (.inl h8)]⟩
        · by_cases h9 : 255 < 1 + q.size
          · exact .inr (.inl ⟨by simp; omega, by simp; omega, by rw [if_pos (.inr h9)]⟩)
          · exact .inr (.inr ⟨by simp; omega, by simp; omega, by rw [if_neg (by omega)]⟩)
      rcases hcase with ⟨t1, e5⟩ | ⟨t1, t2, e5⟩ | ⟨t1, t2, e0⟩
      · have E5 := Lib.hid e5
        clear e5
        go_wp2
        go_ret2
        refine ⟨?_, hB1⟩
        rw [HJ.out]
        unfold jres joinS
        rw [E5.out]
        rfl
      · have E5 := Lib.hid e5
        clear e5
        go_wp2
        go_ret2
        refine ⟨?_, hB1⟩
        rw [HJ.out]
        unfold jres joinS
        rw [E5.out]
        rfl
      · have E0 := Lib.hid e0
        clear e0
        go_wp2
        go_ret2
        refine ⟨?_, hB1⟩
        rw [HJ.out]
        unfold jres joinS
        rw [E0.out, if_pos rfl, ← HQ.out]
        rfl

/-- path.Join, whatever the texts. -/
theorem join_any (v : Value) (ps : List ByteArray) (w : World) (h : Strs w v ps) (hz : ∀ p ∈ ps, p.size ≤ maxLen) (hn : ps.length ≤ 1099511627776) :
    Calls Try.prog 39 #[v] w fun e w' => e = .returned (jres (ps.map L)) ∧ Below w.heap.size w w' := by
  rcases strs_cases h with ⟨_, _, rfl, rfl⟩ | ⟨b, off, cap, rfl, ⟨hl, hcap⟩, hb, hx⟩
  · exact join_nil _ _ w
  · exact join_row b off cap ps w hn hcap hb hz hx
end Go.Proofs.Ytfdclifdemajfaa.Path
