/- Layer 7 (inode): got: the numbers of bytes. -/
import Derived.Test.YtpnfkilfgdnogaaGreatDoorInoP
import Derived.Test.YtpnfkilfgdnogaaGreatDoorGeoRead
import Derived.Deep.AppendLies
import Derived.Laws.CopyOwn
namespace Go.Proofs.YtpnfkilfgdnogaaGreatDoor.Ino
set_option linter.unusedVariables false
set_option linter.unusedSimpArgs false
open Go.RowKit Go.Shelf Oct Geo
theorem own_base {W : World} {base g size n : Nat} {t : TypeId} {v : Value} {xs : List Value} (h : W.ownsRow base t size v n xs) (hg : v.ownBlock = some g) : base ≤ g := by
  rcases h.2 with ⟨rfl, _⟩ | ⟨g', cap, cur, rfl, hb, _⟩
  · simp [Value.ownBlock] at hg
  · have e : g' = g := by simpa [Value.ownBlock] using hg
    omega
def u16V (n : Nat) : Value := .int .u16 n
theorem info_u16 : (Tryz.prog.info? 39).map (fun i => (i.zero, i.size, i.bytes)) = some (some (.int .u16 0), 1, 2) := by kernel_rfl
theorem wrap_u16 (n : Nat) (h : n < 65536) : IntKind.u16.wrap (n : Int) = n := by
  simp [IntKind.wrap, IntKind.bits, IntKind.signed]
  omega
set_option maxRecDepth 100000 in
set_option maxHeartbeats 1000000 in
theorem got_any (vs : List Nat) (w : World) (hl : vs.length ≤ 64) (hv : ∀ v ∈ vs, v < 65536) :
    Calls Tryz.prog 104 #[.string (B (putL2 vs))] w fun e w' => ∃ v, e = .returned v ∧ w'.ownsRow w.heap.size 39 1 v vs.length (vs.map u16V) ∧ Below w.heap.size w w' := by
  obtain ⟨i0, hi, hz0, hz1, hz2⟩ := info_parts info_u16
  have HV := Lib.hid hv
  clear hv
  go_enter Tryz.func104, Tryz.ntmps104
  go_wp2_with fail
  go_loopw [0, 2, 3, 4] (fun s l _ _ wr => ∃ m : Nat, m ≤ vs.length ∧ s = .string (B (putL2 (vs.drop m))) ∧ wr.ownsRow w.heap.size 39 1 l m ((vs.take m).map u16V) ∧ Below w.heap.size w wr) (fun s _ _ _ _ => match s with | .string b => b.size | _ => 0)
  case atStart => exact ⟨0, Nat.zero_le _, rfl, World.ownsRow_nil _ _ _ _, Below.refl _ _⟩
  case round =>
    obtain ⟨m, hm, rfl, hown, hB⟩ := hrel
    have hsz : (B (putL2 (vs.drop m))).size = 2 * (vs.length - m) := by rw [size_B, putL2_len, List.length_drop]
    by_cases hlt : m < vs.length
    · have hvm := HV.out vs[m] (List.getElem_mem hlt)
      have e1 : (B (putL2 (vs.drop m))).extract 0 2 = B (numL vs[m] 2) := by
        rw [ext_B, L_B, List.drop_zero, List.drop_eq_getElem_cons hlt]
        exact congrArg B (putL2_head _ _)
      have e2 : (B (putL2 (vs.drop m))).extract 2 (B (putL2 (vs.drop m))).size = B (putL2 (vs.drop (m + 1))) := by
        rw [ext_B, L_B, hsz]
        have e := putL2_drop (vs.drop m) 1
        rw [List.drop_drop] at e
        rw [show 2 * 1 = 2 from rfl] at e
        rw [e, List.take_of_length_le (by rw [putL2_len, List.length_drop]; omega)]
      have GE := Lib.hid (fun W => get_ok (B (numL vs[m] 2)) W (by rw [size_B, len_numL]; omega))
      rw [L_B, valL_num2 hvm] at GE
      have wz := wrap_u16 vs[m] hvm
      have hge : 2 ≤ (B (putL2 (vs.drop m))).size := by omega
      obtain ⟨s2, hs2⟩ : ∃ s, B (putL2 (vs.drop (m + 1))) = s := ⟨_, rfl⟩
      rw [hs2] at e2
      have E2 := Lib.hid hs2
      have HB := Lib.hid hB
      have hsn : (vs.take (m + 1)).map u16V = (vs.take m).map u16V ++ [u16V vs[m]] := by
        rw [List.take_add_one, List.getElem?_eq_getElem hlt, List.map_append]
        rfl
      obtain ⟨xs, hxs⟩ : ∃ s, (vs.take m).map u16V = s := ⟨_, rfl⟩
      rw [hxs] at hsn hown
      have HO := Lib.hid hown
      have HSN := Lib.hid hsn
      have HS2 := Lib.hid (show s2.size < (B (putL2 (vs.drop m))).size by rw [← hs2, hsz, size_B, putL2_len, List.length_drop]; omega)
      have HBs := Lib.hid hB.size
      clear hown hB hsn hsz hxs hs2
      generalize B (putL2 (vs.drop m)) = s1 at *
      generalize vs[m] = x at *
      go_wp2_with fail
      refine (GE.out _).mono ?_
      rintro e w9 ⟨rfl, rfl⟩
      go_wp2_with (at_builtin; refine wpList_append_own _ rfl _ _ 87 rfl w.heap.size 39 i0 (.int .u16 0) 1 2 Tryz.underlying87 hi hz0 hz1 hz2 rfl (by decide) _ _ _ rfl (HO.out.alloc _) ⟨wr.heap.size, 0, none⟩ 1 1 [u16V x] rfl rfl ?c1 ?c2 (by unfold maxLen; omega) (by omega) (by have := HBs.out; simp; omega) ?_)
      case c1 => exact World.news_of_block (SBox.new wr 39 #[u16V x])
      case c2 => intro u hu; simp at hu; subst hu; rfl
      intro v1 w1 hown1 hg1 hne1
      have HO1 := Lib.hid hown1
      have HB1 := Lib.hid ((HB.out.alloc HBs.out (.cells #[u16V x] 39)).grown hg1 (by have := HBs.out; simp; omega) (fun g hg => own_base HO.out hg))
      clear hown1 hg1 hne1
      go_wp2_with fail
      go_roundw
      case rel => exact ⟨m + 1, by omega, by rw [E2.out], by rw [HSN.out]; exact HO1.out, HB1.out⟩
      case measure => exact HS2.out
    · obtain rfl : m = vs.length := by omega
      have h0 : (B (putL2 (vs.drop vs.length))).size = 0 := by rw [hsz]; omega
      rw [List.take_length] at hown
      have HO := Lib.hid hown
      have HB := Lib.hid hB
      clear hown hB hsz
      generalize B (putL2 (vs.drop vs.length)) = s1 at *
      go_wp2_with fail
      go_ret
      exact ⟨_, rfl, HO.out, HB.out⟩
end Go.Proofs.YtpnfkilfgdnogaaGreatDoor.Ino
