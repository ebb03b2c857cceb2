/- Layer 9 (bmap): the iterator that takes the blocks of a row, and makes them nought. -/
import Derived.Test.YtpnfkilfgdnogaaGreatDoorBmapG
import Derived.Test.YtpnfkilfgdnogaaGreatDoorRange2
namespace Go.Proofs.YtpnfkilfgdnogaaGreatDoor.Bm
set_option linter.unusedVariables false
set_option linter.unusedSimpArgs false
open Go.RowKit Go.Shelf Go.Maps Oct Dev Jou Tx Geo Ino Img
/-- The cells, of which k from o + a on are nought. -/
def zeroA (cs : Array Value) (o a : Nat) : Nat → Array Value
  | 0 => cs
  | k + 1 => (zeroA cs o a k).setIfInBounds (o + (a + k)) (.int .u16 0)
theorem zeroA_size (cs : Array Value) (o a : Nat) : ∀ k, (zeroA cs o a k).size = cs.size
  | 0 => rfl
  | k + 1 => by simp [zeroA, zeroA_size cs o a k]
theorem zeroA_get (cs : Array Value) (o a : Nat) : ∀ (k i : Nat), (zeroA cs o a k)[i]? = if o + a ≤ i ∧ i < o + a + k ∧ i < cs.size then some (.int .u16 0) else cs[i]?
  | 0, i => by
    rw [if_neg (by omega)]
    rfl
  | k + 1, i => by
    rw [zeroA, Array.getElem?_setIfInBounds, zeroA_size, zeroA_get cs o a k i]
    by_cases e : o + (a + k) = i
    · subst e
      rw [if_pos rfl]
      by_cases hs : o + (a + k) < cs.size
      · rw [if_pos hs, if_pos (by omega)]
      · rw [if_neg hs, if_neg (by omega), Array.getElem?_eq_none (by omega)]
    · rw [if_neg e]
      by_cases hc : o + a ≤ i ∧ i < o + a + k ∧ i < cs.size
      · rw [if_pos hc, if_pos (by omega)]
      · rw [if_neg hc, if_neg (by omega)]
/-- The places from a on, m of them, whose number is not 0. -/
def nzs (l : List Nat) (a m : Nat) : List Nat := (List.range' a m).filter fun k => l.getD k 0 != 0
theorem nzs_succ (l : List Nat) (a m : Nat) : nzs l a (m + 1) = nzs l a m ++ if l.getD (a + m) 0 = 0 then [] else [a + m] := by
  unfold nzs
  rw [List.range'_1_concat, List.filter_append]
  congr 1
  by_cases h : l.getD (a + m) 0 = 0
  · rw [if_pos h, List.filter_cons_of_neg (by simpa using h)]
    rfl
  · rw [if_neg h, List.filter_cons_of_pos (by simpa using h)]
    rfl
/-- Where the row lies, and where the two boxes of the closure. -/
structure RowB where
  b : Nat
  o : Nat
  t : TypeId
  cs : Array Value
  l : List Nat
  a : Nat
def RowB.Ok (r : RowB) : Prop := ∀ i (h : i < r.l.length), r.cs[r.o + i]? = some (.int .u16 r.l[i])
/-- What a round must leave. -/
def KpS (S : Nat → TypeId → Prop) (X Y : World) : Prop := ∀ c t cs, S c t → SBox X c t cs → SBox Y c t cs
theorem KpS.trans {S : Nat → TypeId → Prop} {X Y Z : World} (h : KpS S X Y) (g : KpS S Y Z) : KpS S X Z := fun c t cs hc hs => g c t cs hc (h c t cs hc hs)
def keepT (b : Nat) (t : TypeId) (fB lB : Nat) (c : Nat) (u : TypeId) : Prop := (c = b ∧ u = t) ∨ (c = fB ∧ u = 3) ∨ (c = lB ∧ u = 87)
def NxT (r : RowB) (pre : List Nat) (x : Nat) (W : World) : Prop := x < r.l.length ∧ r.a ≤ x ∧ r.l.getD x 0 ≠ 0 ∧ pre = nzs r.l r.a (x - r.a) ∧ SBox W r.b r.t (zeroA r.cs r.o r.a (x - r.a + 1))
def FinT (r : RowB) (xs : List Nat) (W : World) : Prop := xs = nzs r.l r.a (r.l.length - r.a) ∧ SBox W r.b r.t (zeroA r.cs r.o r.a (r.l.length - r.a))
def encT (l : List Nat) (x : Nat) : Array Value := #[.int .u16 (l.getD x 0 : Nat)]
theorem taken_any (a : Addr) (n cap : Nat) (f : Int) (w : World) : Calls Tryz.prog 113 #[.slice (some a) n cap, .int .i64 f] w fun e w' => e = .returned (.func (.func 158) #[] #[.pointer (some ⟨w.heap.size + 1, 0, none⟩), .pointer (some ⟨w.heap.size, 0, none⟩)]) ∧ (w.alloc (.cells #[.slice (some a) n cap] 87)).alloc (.cells #[.int .i64 f] 3) = w' := by
  go_enter Tryz.func113, Tryz.ntmps113
  go_wp2
  go_ret
  exact ⟨rfl, rfl⟩
set_option maxRecDepth 100000 in
set_option maxHeartbeats 1000000 in
theorem taken_seq (n : Nat) (hn : 1 ≤ n) (r : RowB) (hr : r.Ok) (cap : Nat) (f : Int) (ha : r.a = f.toNat) (hf : f ≤ 1000) (hl : r.l.length ≤ 1000) (w : World) (fB lB : Nat) (hF : SBox w fB 3 #[.int .i64 f]) (hL : SBox w lB 87 #[.slice (some ⟨r.b, r.o, none⟩) r.l.length cap]) (hR : SBox w r.b r.t r.cs) (hbl : r.b ≠ lB) (hbf : r.b ≠ fB) :
    SeqRel2 Fence.wide n Tryz.prog 158 #[.pointer (some ⟨fB, 0, none⟩), .pointer (some ⟨lB, 0, none⟩)] (encT r.l) (Tch (fun c => c = r.b)) (KpS (keepT r.b r.t fB lB)) (NxT r) (FinT r) w := by
  intro l J Jx W hW hJ hJx hY h0
  have hF0 := hF.later hW
  have hL0 := hL.later hW
  have hR0 := hR.later hW
  have f0 := hF0.cell 0
  have fl := hF0.lt
  simp only [List.getElem?_toArray, List.getElem?_cons_zero] at f0
  refine callsIn_of_wp Tryz.func158 rfl trivial ?_ rfl
  simp only [Tryz.ntmps158, List.size_toArray, List.length_cons, List.length_nil, Nat.reduceAdd, Nat.reduceSub, Array.replicate_succ, Array.replicate_zero, List.push_toArray, List.append_toArray, List.nil_append, List.cons_append]
  have hln : r.l.length ≤ 9223372036854775807 := by omega
  have hka : r.a ≤ 1000 := by omega
  clear hF0 hF hL hR
  gi_wp2
  clear f0 fl
  have mx : max f 0 = ((r.a : Nat) : Int) := by rw [ha]; omega
  gi_loopw [4] (fun c wr => ∃ k : Nat, r.a ≤ k ∧ (k ≤ r.l.length ∨ k = r.a) ∧ c = .int .i64 k ∧ J (nzs r.l r.a (k - r.a)) wr ∧ SBox wr r.b r.t (zeroA r.cs r.o r.a (k - r.a)) ∧ SBox wr lB 87 #[.slice (some ⟨r.b, r.o, none⟩) r.l.length cap]) (fun c _ => r.l.length - (intOf c).toNat)
  case atStart => exact ⟨r.a, Nat.le_refl _, .inr rfl, by rw [mx], by rw [Nat.sub_self]; exact h0, by rw [Nat.sub_self]; exact hR0, hL0⟩
  case round =>
    obtain ⟨k, hk, hk2, rfl, hJk, hRk, hLk⟩ := hrel
    clear h0 hR0 hL0 mx
    by_cases hlt : k < r.l.length
    · have L0 := hLk.cell 0
      have Ll := hLk.lt
      simp only [List.getElem?_toArray, List.getElem?_cons_zero] at L0
      have c1 : wr.cell? ⟨r.b, r.o + k, none⟩ = some (.int .u16 (r.l[k] : Nat)) := (hRk.cell _).trans (by rw [zeroA_get, if_neg (by omega)]; exact hr k hlt)
      have f1 := hRk.free (r.o + k)
      have bl := hRk.lt
      have q0 : (0 : Int) ≤ k := by omega
      have q1 : (k : Int) < r.l.length := by omega
      have e1 : r.a + (k - r.a) = k := by omega
      have e2 : k + 1 - r.a = k - r.a + 1 := by omega
      have hgd : r.l.getD k 0 = r.l[k] := by rw [List.getD_eq_getElem?_getD, List.getElem?_eq_getElem hlt]; rfl
      have hR3 : SBox (wr.setCell ⟨r.b, r.o + k, none⟩ (.int .u16 0)) r.b r.t (zeroA r.cs r.o r.a (k - r.a + 1)) := by
        have h := hRk.set (r.o + k) (.int .u16 0)
        rw [zeroA, e1]
        exact h
      have hL3 := Lib.hid (hLk.other (c := r.b) (i := r.o + k) (.int .u16 0) hbl.symm)
      have hJ3 := hJ _ _ _ hJk (Tch.set (S := fun c => c = r.b) (c := r.b) (i := r.o + k) (.int .u16 0) rfl)
      have HR3 := Lib.hid hR3
      have hns := nzs_succ r.l r.a (k - r.a)
      rw [e1, hgd] at hns
      clear hRk hLk hJk
      by_cases hz : r.l[k] = 0
      · have hz2 : ((r.l[k] : Nat) : Int) = 0 := by omega
        rw [if_pos hz, List.append_nil] at hns
        rw [hz2] at c1
        have HJ3 := Lib.hid hJ3
        clear hJ3 hR3 hY hJ hJx
        gi_wp2
        refine ⟨(fun f h => by cases h), ?_⟩
        gi_wp2
        go_roundw
        case rel => exact ⟨k + 1, by omega, .inl (by omega), by simp, by rw [e2, hns]; exact HJ3.out, by rw [e2]; exact HR3.out, hL3.out⟩
        case measure => simp [intOf]; omega
      · have hz2 : (((r.l[k] : Nat) : Int) != 0) = true := by simp; omega
        rw [if_neg hz] at hns
        obtain ⟨fn, tmps, assign, body, hy, hRn⟩ := hY _ k _ hJ3 ⟨hlt, hk, by rw [hgd]; exact hz, rfl, hR3⟩
        unfold encT at hy
        rw [hgd] at hy
        clear hJ3 hR3
        generalize r.l[k] = x at *
        gi_wp2
        refine hRn.mono ?_
        rintro e W4 (⟨rfl, hJ4, hk4⟩ | ⟨rfl, hJx4⟩)
        · have hR4 := Lib.hid (hk4 _ _ _ (.inl ⟨rfl, rfl⟩) HR3.out)
          have hL4 := Lib.hid (hk4 _ _ _ (.inr (.inr ⟨rfl, rfl⟩)) hL3.out)
          have HJ4 := Lib.hid hJ4
          clear hJ4 hk4
          gi_wp2
          go_roundw
          case rel => exact ⟨k + 1, by omega, .inl (by omega), by simp, by rw [e2, hns]; exact HJ4.out, by rw [e2]; exact hR4.out, hL4.out⟩
          case measure => first | omega | (simp [Go.RowKit.intOf]; omega) | (show r.l.length - ((k : Int) + 1).toNat < r.l.length - (k : Int).toNat; omega)
        · gi_wp2
          refine bodyPost_ret (results_none rfl _ _ _) rfl ?_
          exact ⟨⟨_, rfl⟩, .inr ⟨_, hJx4⟩⟩
    · have L0 := hLk.cell 0
      have Ll := hLk.lt
      simp only [List.getElem?_toArray, List.getElem?_cons_zero] at L0
      have q1 : ¬ (k : Int) < r.l.length := by omega
      have e1 : k - r.a = r.l.length - r.a := by omega
      rw [e1] at hRk hJk
      have HR := Lib.hid hRk
      have HJ := Lib.hid hJk
      clear hRk hJk hY hJ hJx hLk
      gi_wp2
      go_end0
      exact ⟨⟨_, rfl⟩, .inl ⟨_, ⟨rfl, HR.out⟩, HJ.out⟩⟩
end Go.Proofs.YtpnfkilfgdnogaaGreatDoor.Bm
