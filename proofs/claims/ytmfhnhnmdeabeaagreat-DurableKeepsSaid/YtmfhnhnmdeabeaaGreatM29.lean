/- The reference of layer 18 (tree): Unlink, Rmdir, Stat. -/
import Derived.Test.YtmfhnhnmdeabeaaGreatM28
import Derived.Deep.AppendLies
import Derived.Deep.RegionLaw
set_option linter.unusedVariables false
set_option linter.unusedSimpArgs false
set_option maxRecDepth 100000
section
namespace Go.Proofs.YtmfhnhnmdeabeaaGreat.Re
open Go.RowKit Go.Shelf Go.Maps Oct Path Tr
variable {R g room q : Nat} {S : T} {es : Nat → List Ent} {pa : Nat → Option Addr} {ca : Nat → Nat}
theorem setL_row (l : Nat → Nm → Nat) (x : Nat) (s : Nm) (y : Nat) (t : Nm) : setL l x s y x t = if t = s then y else l x t := by simp [setL]
theorem grown_below {w w' : World} {v : Value} {base : Nat} {n : Nat} {xs : List Value} {t : TypeId} {k : Nat} (hg : w.grownBy w' v.ownBlock) (ho : w.ownsRow base t k v n xs) (hb : base ≤ w.heap.size) : Below base w w' :=
 (Below.refl base w).grown hg hb fun c hc => (ho.lt c hc).1
theorem srcE_new (w : World) (s : ByteArray) (y : Nat) : SrcE (w.alloc (.cells #[.string s, .int .u32 y] 147)) (.slice (some ⟨w.heap.size, 0, none⟩) 1 1) [(s, y)] := by
 have X := SBox.new w 147 #[.string s, .int .u32 y]
 refine .inr ⟨w.heap.size, 0, 1, rfl, by simp, fun j v hv => ?_⟩
 rw [Nat.zero_add, X.cell j]
 match j, hv with
 | 0, hv => exact hv
 | 1, hv => exact hv
 | j + 2, hv => simp [encE] at hv
theorem srcA {W : World} {g : Nat} {p : Option Addr} {c n : Nat} {r : List Ent} (h : ERow W g p c r) (b : Nat) (hp : p = some ⟨b, 0, none⟩) (hn : r.length = n) (k : Nat) (hk : k ≤ n) (rt : List Ent) (ht : r.take k = rt) (W' : World) (hb : Below W.heap.size W W') : SrcE W' (.slice (some ⟨b, 0, none⟩) k c) rt := by
 have := (h.src (k := 0) (m := k) (c' := c) b hp (by omega)).later hb
 rw [Nat.zero_mul, List.drop_zero, ht] at this
 exact this
theorem srcN {W : World} {g : Nat} {p : Option Addr} {c : Nat} {r : List Ent} (h : ERow W g p c r) (b : Nat) (hp : p = some ⟨b, 0, none⟩) (rd : List Ent) (hd : rd = []) (W' : World) (hb : Below W.heap.size W W') (o c' : Nat) : SrcE W' (.slice (some ⟨b, o, none⟩) 0 c') rd := by
 subst hd
 rcases h with ⟨h1, _⟩ | ⟨b', h1, h2, _⟩
 · rw [h1] at hp; cases hp
 · rw [h1] at hp
   cases hp
   exact .inr ⟨b, o, c', rfl, Nat.lt_of_lt_of_le h2 hb.size, fun j v hv => by simp at hv⟩
theorem srcD {W : World} {g : Nat} {p : Option Addr} {c n : Nat} {r : List Ent} (h : ERow W g p c r) (b : Nat) (hp : p = some ⟨b, 0, none⟩) (hn : r.length = n) (k : Nat) (hk : k ≤ n) (rd : List Ent) (ht : r.drop k = rd) (W' : World) (hb : Below W.heap.size W W') : SrcE W' (.slice (some ⟨b, k * 2, none⟩) (n - k) (c - k)) rd := by
 have := (h.src (k := k) (m := n - k) (c' := c - k) b hp (by omega)).later hb
 rw [List.take_of_length_le (by rw [List.length_drop]; omega), ht] at this
 exact this
set_option maxHeartbeats 400000 in
theorem add18 (wz : World) (h : RtM wz R g room q S es pa ca) (x i : Nat) (hx : x = i + 1) (hi : i < room) (s : ByteArray) (hs : s.size ≤ maxLen) (y : Nat) (hy : 1 ≤ y) (hl : S.l x (L s) = 0) (hq : q < 1000) :
   Calls Tryz.prog 75 #[.pointer (some ⟨R, 0, none⟩), .int .u32 x, .string s, .int .u32 y] wz fun e w' => e = .returned (.tuple #[]) ∧ RtA w' R g room (q + 1) ⟨S.n, setL S.l x (L s) y⟩ ∧ Tr.Tch (fun b => b = g) wz w' := by
 have hr2 := h.rm.2
 have h0 := h.topC
 have w1 := w_sub hx (by omega)
 have hg := h.g_lt
 obtain ⟨c0, c1, c2, c3, f⟩ := h.cellsX hx hi
 have hcap := h.cap i hi
 have hq2 := h.q1
 have HE := Lib.hid (fun (k : Nat) (e : Ent) (he : (es i)[k]? = some e) => h.entC hi he)
 have HR := Lib.hid (h.row i hi)
 have HLI := Lib.hid (h.rows.lst i hi)
 have ST := Lib.hid (fun (W : World) (hb : Below wz.heap.size wz W) (r : List Ent) (p : Option Addr) (c : Nat) (hr : ERow W g p c r) (hc : r.length ≤ c ∧ r.length ≤ q + 1) (hli : Listing (setL S.l x (L s) y x) r) =>
   set18 W (h.later hb) x i hx hi r p c (q + 1) hr hc ⟨by omega, by omega⟩ (setL S.l x (L s) y) (fun d hd => by funext t; simp [setL, hd]) hli (fun t ht => by
     rw [setL_row] at ht
     split at ht
     · rename_i e; rw [e]; exact hs
     · exact (h.rows.nm x t ht).2.2))
 rw [← hx] at HLI
 obtain ⟨r, hr⟩ : ∃ r, es i = r := ⟨_, rfl⟩
 obtain ⟨p, hp⟩ : ∃ p, pa i = p := ⟨_, rfl⟩
 obtain ⟨c, hc⟩ : ∃ c, ca i = c := ⟨_, rfl⟩
 rw [hr, hp] at HE c1
 rw [hr, hp, hc] at HR
 rw [hr] at HLI
 rw [hr, hc] at hcap
 rw [hc] at c1
 obtain ⟨n, hn⟩ : ∃ n, r.length = n := ⟨_, rfl⟩
 rw [hn] at hcap c1
 have HN := Lib.hid hn
 have HC := Lib.hid hcap
 have HS := Lib.hid (And.intro hs hl)
 have hn1 : n ≤ 1000 := by omega
 clear h hx c0 c2 c3 f hr hp hc hn hcap hs hl
 go_enter Tryz.func75, Tryz.ntmps75
 go_wp2_with fail
 go_loopw [9] (fun s9 wr => ∃ k : Nat, k ≤ n ∧ s9 = .int .i64 k ∧ (∀ (j : Nat) (e : Ent), j < k → r[j]? = some e → L e.1 < L s) ∧ wr = wz) (fun s9 _ => n - (intOf s9).toNat)
 case atStart => exact ⟨0, Nat.zero_le _, rfl, fun j e hj => absurd hj (Nat.not_lt_zero _), rfl⟩
 case round =>
   obtain ⟨k, hk, rfl, hno, rfl⟩ := hrel
   have NO := Lib.hid hno
   clear hno
   have way : (k < n ∧ ∃ e : Ent, r[k]? = some e ∧ L e.1 < L s) ∨ (∀ e : Ent, r[k]? = some e → ¬ L e.1 < L s) := by
     rcases Nat.lt_or_ge k n with hlt | hge
     · obtain ⟨e, he⟩ : ∃ e : Ent, r[k]? = some e := ⟨_, List.getElem?_eq_getElem (by rw [HN.out]; exact hlt)⟩
       by_cases q : L e.1 < L s
       · exact .inl ⟨hlt, e, he, q⟩
       · exact .inr fun e' h' => by rw [he] at h'; cases h'; exact q
     · exact .inr fun e' h' => by have := (List.getElem?_eq_some_iff.1 h').1; rw [HN.out] at this; omega
   rcases way with ⟨hlt, e, he, hle⟩ | hend
   · have t1 : (k : Int) < n := by omega
     obtain ⟨b, rfl, hb1, hb2, d0, d1⟩ := HE.out k e he
     obtain ⟨t, z⟩ := e
     simp only at d0 d1
     have HX := Lib.hid he
     have HLE := Lib.hid hle
     have t2 : Op.bytesLess t.toList s.toList = true := by rw [Go.Proofs.bytesLess_eq, toList_L, toList_L]; exact decide_eq_true hle
     clear he hb2 d1 hle
     go_wp2_with fail
     go_roundw
     case rel =>
       refine ⟨k + 1, by omega, by go_num, fun j e hj hje => ?_, by trivial⟩
       rcases Nat.lt_or_ge j k with q | q
       · exact NO.out j e q hje
       · have : j = k := by omega
         subst this
         rw [HX.out] at hje
         cases hje
         exact HLE.out
     case measure => simp [intOf]; omega
   · have HEND := Lib.hid hend
     clear hend
     have hguard : (k = n) ∨ (k < n ∧ ∃ e : Ent, r[k]? = some e ∧ Op.bytesLess e.1.toList s.toList = false) := by
       rcases Nat.lt_or_ge k n with hlt | hge
       · obtain ⟨e, he⟩ : ∃ e : Ent, r[k]? = some e := ⟨_, List.getElem?_eq_getElem (by rw [HN.out]; exact hlt)⟩
         exact .inr ⟨hlt, e, he, by rw [Go.Proofs.bytesLess_eq, toList_L, toList_L]; exact decide_eq_false (HEND.out e he)⟩
       · exact .inl (by omega)
     have AP : Hid (Listing (setL S.l x (L s) y x) (r.take k ++ [(s, y)] ++ r.drop k)) := Lib.hid (Listing.add HLI.out HS.out.2 (by omega) HS.out.1 (by rw [HN.out]; exact hk) NO.out HEND.out (fun t => setL_row S.l x (L s) y t))
     obtain ⟨rt, hrt⟩ : ∃ rt, r.take k = rt := ⟨_, rfl⟩
     obtain ⟨rd, hrd⟩ : ∃ rd, r.drop k = rd := ⟨_, rfl⟩
     have LL : Hid (rt.length = k ∧ rd.length = n - k) := Lib.hid ⟨by rw [← hrt, List.length_take, HN.out]; omega, by rw [← hrd, List.length_drop, HN.out]⟩
     rw [hrt, hrd] at AP
     obtain ⟨rn, hrn⟩ : ∃ rn, rt ++ [(s, y)] = rn := ⟨_, rfl⟩
     rw [hrn] at AP
     obtain ⟨rf, hrf⟩ : ∃ rf, rn ++ rd = rf := ⟨_, rfl⟩
     rw [hrf] at AP
     have LN : Hid (rn.length = k + 1) := Lib.hid (by rw [← hrn, List.length_append, LL.out.1]; rfl)
     have LF : Hid (rf.length ≤ q + 1) := Lib.hid (by rw [← hrf, List.length_append, LN.out, LL.out.2]; have := HC.out.2; omega)
     have HT := Lib.hid hrt
     have HD := Lib.hid hrd
     have HRN := Lib.hid hrn
     have HRF := Lib.hid hrf
     clear hrt hrd hrn hrf
     rcases hguard with hkn | ⟨hlt, e, he, hless⟩
     · subst hkn
       rcases HR.out with ⟨rfl, hr0, rfl⟩ | ⟨b, rfl, hbl, hbg, hbc⟩
       · have e : k = 0 := by rw [← HN.out, hr0]; rfl
         subst e
         have HR0 := Lib.hid hr0
         clear hr0
         have S1 : Hid (∀ W, Below wr.heap.size wr W → SrcE W (.slice none 0 0) rt) := Lib.hid (fun W hb => .inl ⟨rfl, by rw [← HT.out]; rfl⟩)
         have S2 : Hid (∀ W, Below wr.heap.size wr W → SrcE W (.slice none 0 0) rd) := Lib.hid (fun W hb => .inl ⟨rfl, by rw [← HD.out]; exact HR0.out⟩)
         have B0 := Lib.hid (Below.refl wr.heap.size wr)
         have A1 : Hid (wr.ownsRow wr.heap.size 147 2 (.slice none 0 0) ([] : List Ent).length (([] : List Ent).flatMap encE)) := Lib.hid (World.ownsRow_nil _ _ _ _)
         go_wp2_with (at_builtin; refine wpList_appE rfl _ _ rfl wr.heap.size _ [] rt rfl A1.out (S1.out wr B0.out) ?b1 (Nat.le_refl _) rt rfl ?_)
         case b1 => rw [LL.out.1]; simp only [List.length_nil, List.length_cons]; omega
         intro v1 w2 hown1 hg1
         have B2 := Lib.hid (grown_below hg1 A1.out (Nat.le_refl _))
         have A2 := Lib.hid hown1
         clear hown1 hg1
         go_wp2_with (at_builtin; refine wpList_appE rfl _ _ rfl wr.heap.size v1 rt [(s, y)] rfl (A2.out.alloc _) (srcE_new _ _ _) ?b2 (Nat.le_trans B2.out.size (by simp)) rn HRN.out ?_)
         case b2 => rw [LL.out.1]; simp only [List.length_nil, List.length_cons]; omega
         intro v2 w3 hown2 hg2
         have B3 := Lib.hid ((B2.out.alloc B2.out.size (.cells #[.string s, .int .u32 y] 147)).trans (grown_below hg2 (A2.out.alloc _) (Nat.le_trans B2.out.size (by simp))))
         have A3 := Lib.hid hown2
         clear hown2 hg2
         go_wp2_with (at_builtin; refine wpList_appE rfl _ _ rfl wr.heap.size v2 rn rd rfl A3.out (S2.out w3 B3.out) ?b3 B3.out.size rf HRF.out ?_)
         case b3 => rw [LN.out, LL.out.2]; omega
         intro v3 w4 hown3 hg3
         have B4 := Lib.hid (B3.out.trans (grown_below hg3 A3.out B3.out.size))
         obtain ⟨p', c', rfl, hrow, hc'⟩ := ERow.own hown3 hg
         have SET := Lib.hid (ST.out w4 B4.out _ p' c' hrow ⟨hc', LF.out⟩ AP.out)
         clear hown3 hg3 hrow hc'
         go_wp2_with fail
         refine Calls.mono SET.out ?_
         rintro e w5 ⟨rfl, hA, hT⟩
         go_wp2_with fail
         go_end0
         exact ⟨rfl, hA, (Tr.Tch.of B4.out).trans hT⟩
       · have S1 := Lib.hid (srcA HR.out b rfl HN.out k (Nat.le_refl _) rt HT.out)
         have S2 := Lib.hid (srcN HR.out b rfl rd (by have := LL.out.2; rw [Nat.sub_self] at this; exact List.eq_nil_of_length_eq_zero this))
         have hkc := HC.out.1
         clear hbc hbl hbg
         rcases Nat.lt_or_eq_of_le hkc with hkc2 | hkc2
         · have hkc3 : c - k ≠ 0 := by omega
           have B0 := Lib.hid (Below.refl wr.heap.size wr)
           have A1 : Hid (wr.ownsRow wr.heap.size 147 2 (.slice none 0 0) ([] : List Ent).length (([] : List Ent).flatMap encE)) := Lib.hid (World.ownsRow_nil _ _ _ _)
           go_wp2_with (at_builtin; refine wpList_appE rfl _ _ rfl wr.heap.size _ [] rt rfl A1.out (S1.out wr B0.out) ?b1 (Nat.le_refl _) rt rfl ?_)
           case b1 => rw [LL.out.1]; simp only [List.length_nil, List.length_cons]; omega
           intro v1 w2 hown1 hg1
           have B2 := Lib.hid (grown_below hg1 A1.out (Nat.le_refl _))
           have A2 := Lib.hid hown1
           clear hown1 hg1
           go_wp2_with (at_builtin; refine wpList_appE rfl _ _ rfl wr.heap.size v1 rt [(s, y)] rfl (A2.out.alloc _) (srcE_new _ _ _) ?b2 (Nat.le_trans B2.out.size (by simp)) rn HRN.out ?_)
           case b2 => rw [LL.out.1]; simp only [List.length_nil, List.length_cons]; omega
           intro v2 w3 hown2 hg2
           have B3 := Lib.hid ((B2.out.alloc B2.out.size (.cells #[.string s, .int .u32 y] 147)).trans (grown_below hg2 (A2.out.alloc _) (Nat.le_trans B2.out.size (by simp))))
           have A3 := Lib.hid hown2
           clear hown2 hg2
           go_wp2_with (at_builtin; refine wpList_appE rfl _ _ rfl wr.heap.size v2 rn rd rfl A3.out (S2.out w3 B3.out _ _) ?b3 B3.out.size rf HRF.out ?_)
           case b3 => rw [LN.out, LL.out.2]; omega
           intro v3 w4 hown3 hg3
           have B4 := Lib.hid (B3.out.trans (grown_below hg3 A3.out B3.out.size))
           obtain ⟨p', c', rfl, hrow, hc'⟩ := ERow.own hown3 hg
           have SET := Lib.hid (ST.out w4 B4.out _ p' c' hrow ⟨hc', LF.out⟩ AP.out)
           clear hown3 hg3 hrow hc'
           go_wp2_with fail
           refine Calls.mono SET.out ?_
           rintro e w5 ⟨rfl, hA, hT⟩
           go_wp2_with fail
           go_end0
           exact ⟨rfl, hA, (Tr.Tch.of B4.out).trans hT⟩
         · subst hkc2
           have B0 := Lib.hid (Below.refl wr.heap.size wr)
           have A1 : Hid (wr.ownsRow wr.heap.size 147 2 (.slice none 0 0) ([] : List Ent).length (([] : List Ent).flatMap encE)) := Lib.hid (World.ownsRow_nil _ _ _ _)
           go_wp2_with (at_builtin; refine wpList_appE rfl _ _ rfl wr.heap.size _ [] rt rfl A1.out (S1.out wr B0.out) ?b1 (Nat.le_refl _) rt rfl ?_)
           case b1 => rw [LL.out.1]; simp only [List.length_nil, List.length_cons]; omega
           intro v1 w2 hown1 hg1
           have B2 := Lib.hid (grown_below hg1 A1.out (Nat.le_refl _))
           have A2 := Lib.hid hown1
           clear hown1 hg1
           go_wp2_with (at_builtin; refine wpList_appE rfl _ _ rfl wr.heap.size v1 rt [(s, y)] rfl (A2.out.alloc _) (srcE_new _ _ _) ?b2 (Nat.le_trans B2.out.size (by simp)) rn HRN.out ?_)
           case b2 => rw [LL.out.1]; simp only [List.length_nil, List.length_cons]; omega
           intro v2 w3 hown2 hg2
           have B3 := Lib.hid ((B2.out.alloc B2.out.size (.cells #[.string s, .int .u32 y] 147)).trans (grown_below hg2 (A2.out.alloc _) (Nat.le_trans B2.out.size (by simp))))
           have A3 := Lib.hid hown2
           clear hown2 hg2
           go_wp2_with (at_builtin; refine wpList_appE rfl _ _ rfl wr.heap.size v2 rn rd rfl A3.out (S2.out w3 B3.out _ _) ?b3 B3.out.size rf HRF.out ?_)
           case b3 => rw [LN.out, LL.out.2]; omega
           intro v3 w4 hown3 hg3
           have B4 := Lib.hid (B3.out.trans (grown_below hg3 A3.out B3.out.size))
           obtain ⟨p', c', rfl, hrow, hc'⟩ := ERow.own hown3 hg
           have SET := Lib.hid (ST.out w4 B4.out _ p' c' hrow ⟨hc', LF.out⟩ AP.out)
           clear hown3 hg3 hrow hc'
           go_wp2_with fail
           refine Calls.mono SET.out ?_
           rintro e w5 ⟨rfl, hA, hT⟩
           go_wp2_with fail
           go_end0
           exact ⟨rfl, hA, (Tr.Tch.of B4.out).trans hT⟩
     · rcases HR.out with ⟨_, hr0, _⟩ | ⟨b, rfl, hbl, hbg, hbc⟩
       · rw [hr0] at he
         cases he
       · have S1 := Lib.hid (srcA HR.out b rfl HN.out k hk rt HT.out)
         have S2 := Lib.hid (srcD HR.out b rfl HN.out k hk rd HD.out)
         have hkc := HC.out.1
         have hkc2 : k ≤ c := by omega
         have t1 : (k : Int) < n := by omega
         obtain ⟨b', hb', _, _, d0, _⟩ := HE.out k e he
         cases hb'
         clear hbc hbl hbg he
         have B0 := Lib.hid (Below.refl wr.heap.size wr)
         have A1 : Hid (wr.ownsRow wr.heap.size 147 2 (.slice none 0 0) ([] : List Ent).length (([] : List Ent).flatMap encE)) := Lib.hid (World.ownsRow_nil _ _ _ _)
         go_wp2_with (at_builtin; refine wpList_appE rfl _ _ rfl wr.heap.size _ [] rt rfl A1.out (S1.out wr B0.out) ?b1 (Nat.le_refl _) rt rfl ?_)
         case b1 => rw [LL.out.1]; simp only [List.length_nil, List.length_cons]; omega
         intro v1 w2 hown1 hg1
         have B2 := Lib.hid (grown_below hg1 A1.out (Nat.le_refl _))
         have A2 := Lib.hid hown1
         clear hown1 hg1
         go_wp2_with (at_builtin; refine wpList_appE rfl _ _ rfl wr.heap.size v1 rt [(s, y)] rfl (A2.out.alloc _) (srcE_new _ _ _) ?b2 (Nat.le_trans B2.out.size (by simp)) rn HRN.out ?_)
         case b2 => rw [LL.out.1]; simp only [List.length_nil, List.length_cons]; omega
         intro v2 w3 hown2 hg2
         have B3 := Lib.hid ((B2.out.alloc B2.out.size (.cells #[.string s, .int .u32 y] 147)).trans (grown_below hg2 (A2.out.alloc _) (Nat.le_trans B2.out.size (by simp))))
         have A3 := Lib.hid hown2
         clear hown2 hg2
         go_wp2_with (at_builtin; refine wpList_appE rfl _ _ rfl wr.heap.size v2 rn rd rfl A3.out (S2.out w3 B3.out) ?b3 B3.out.size rf HRF.out ?_)
         case b3 => rw [LN.out, LL.out.2]; omega
         intro v3 w4 hown3 hg3
         have B4 := Lib.hid (B3.out.trans (grown_below hg3 A3.out B3.out.size))
         obtain ⟨p', c', rfl, hrow, hc'⟩ := ERow.own hown3 hg
         have SET := Lib.hid (ST.out w4 B4.out _ p' c' hrow ⟨hc', LF.out⟩ AP.out)
         clear hown3 hg3 hrow hc'
         go_wp2_with fail
         refine Calls.mono SET.out ?_
         rintro e w5 ⟨rfl, hA, hT⟩
         go_wp2_with fail
         go_end0
         exact ⟨rfl, hA, (Tr.Tch.of B4.out).trans hT⟩
end Go.Proofs.YtmfhnhnmdeabeaaGreat.Re
end
section
namespace Go.Proofs.YtmfhnhnmdeabeaaGreat.Re
open Go.RowKit Go.Shelf Go.Maps Oct Path Tr
variable {R g room q : Nat} {S : T} {es : Nat → List Ent} {pa : Nat → Option Addr} {ca : Nat → Nat}
theorem own_nilgrown {w w' : World} {B : Nat} {v : Value} {n : Nat} {xs : List Value} {t : TypeId} {k : Nat} (hg : w.grownBy w' (Value.ownBlock (.slice none 0 0))) (h : w.ownsRow B t k v n xs) : w'.ownsRow B t k v n xs := by
 refine h.kept hg ?_
 cases hv : v.ownBlock with
 | none => exact .inl rfl
 | some c => exact .inr (fun e => by cases e)
theorem nilgrown_below {w w' : World} {B : Nat} (hg : w.grownBy w' (Value.ownBlock (.slice none 0 0))) (hb : B ≤ w.heap.size) : Below B w w' := (Below.refl B w).grown hg hb fun c hc => by cases hc
theorem srcI {W : World} {g : Nat} {p : Option Addr} {c n : Nat} {r : List Ent} (h : ERow W g p c r) (b : Nat) (hp : p = some ⟨b, 0, none⟩) (hn : r.length = n) (k : Nat) (hk : k < n) (hc : n ≤ c) (rd : List Ent) (ht : r.drop (k + 1) = rd) (W' : World) (hb : Below W.heap.size W W') : SrcE W' (.slice (if c = k + 1 then some ⟨b, 0, none⟩ else some ⟨b, (k + 1) * 2, none⟩) (n - (k + 1)) (c - (k + 1))) rd := by
 by_cases q : c = k + 1
 · rw [if_pos q, show n - (k + 1) = 0 by omega]
   exact srcN h b hp rd (by rw [← ht, List.drop_of_length_le (by omega)]) W' hb _ _
 · rw [if_neg q]
   exact srcD h b hp hn (k + 1) (by omega) rd ht W' hb
theorem own_tch {w w' : World} {B g : Nat} {v : Value} {n : Nat} {xs : List Value} {t : TypeId} {k : Nat} (hT : Tr.Tch (fun b => b = g) w w') (h : w.ownsRow B t k v n xs) (hg : g < B) : w'.ownsRow B t k v n xs := by
 refine h.kept (row := some g) ⟨hT.os, hT.tape, hT.output, hT.size, fun c hc hn => hT.block c hc (fun e => hn (by rw [e]))⟩ ?_
 cases hv : v.ownBlock with
 | none => exact .inl rfl
 | some c => exact .inr (fun e => by have := (h.lt c hv).1; cases e; omega)
theorem not_done {ops : Array Oper} {lst : Nat → Bool} {i j : Nat} (hcl : ∀ j k, j < ops.size → lst j = true → waitsT ops j k = true → lst k = true) (hl : lst i = false) (hj : j < ops.size) (hw : waitsT ops j i = true) : lst j = false := by
 cases h : lst j with
 | false => rfl
 | true => rw [hcl j i hj h hw] at hl; cases hl
theorem wp_appE {w : World} {o : Oper} {a : Act} {K : Act → World → Prop} {Q : Exit → Act → World → Prop} (s x : Operand)
   (ho : o.op = .call { callee := .builtin .append, args := #[s, x], argTypes := #[80, 80] })
   (base : Nat) (v : Value) (es r : List Ent) (hs : a.eval s = v) (hown : w.ownsRow base 147 2 v es.length (es.flatMap encE)) (hx : SrcE w (a.eval x) r) (hn : es.length + r.length ≤ 100000) (hbase : base ≤ w.heap.size) (r2 : List Ent) (hr2 : es ++ r = r2)
   (h : ∀ v' w', w'.ownsRow base 147 2 v' r2.length (r2.flatMap encE) → w.grownBy w' v.ownBlock → (∀ u, w.ownsRow base 147 2 u es.length (es.flatMap encE) → w'.ownsRow base 147 2 u es.length (es.flatMap encE)) → K (a.put o.dst v') w') : o.wp Tryz.prog a w K Q := by
 subst hr2
 obtain ⟨i0, hi, hz⟩ := Option.map_eq_some_iff.1 info_E
 have hz0 : i0.zero = some (.agg #[.string ⟨#[]⟩, .int .u32 0]) := congrArg (fun t => t.1) hz
 have hz1 : i0.size = 2 := congrArg (fun t => t.2.1) hz
 have hz2 : i0.bytes = 24 := congrArg (fun t => t.2.2) hz
 rcases hx with ⟨e, rfl⟩ | ⟨b, o', c, e, hb, hc⟩
 · have hrun := run_append_owned_none (P := Tryz.prog) (w := w) base 80 o.type 147 i0 2 Tryz.underlying80 hi v es.length (es.flatMap encE) hown
   unfold Oper.wp
   simp [execOp, ho, resolve, invoke, builtin, hs, e, hrun, Result.andThen]
   exact h v w (by simpa using hown) ⟨rfl, rfl, rfl, Nat.le_refl _, fun _ _ _ => rfl⟩ fun _ h => h
 · have hnews : ∀ j u, (r.flatMap encE)[j]? = some u → w.cell? ((⟨b, o', none⟩ : Addr).add j) = some u := fun j u hu => by
     rw [show (⟨b, o', none⟩ : Addr).add j = ⟨b, o' + j, none⟩ by unfold Addr.add; split <;> simp_all]
     exact hc j u hu
   have hone : ∀ u ∈ r.flatMap encE, u.oneCell' = true := fun u hu => by
     obtain ⟨y, _, hy⟩ := List.mem_flatMap.1 hu
     simp only [encE, List.mem_cons, List.not_mem_nil, or_false] at hy
     rcases hy with rfl | rfl <;> rfl
   obtain ⟨v', w', hrun, h1, h2, _⟩ := run_append_own (P := Tryz.prog) w base 80 o.type 147 i0 _ 2 24 Tryz.underlying80 hi hz0 hz1 hz2 rfl (by decide) v es.length (es.flatMap encE) hown ⟨b, o', none⟩ r.length c (r.flatMap encE) (fm_len r) hnews hone (by unfold maxLen; omega) (by omega) hbase
   have hkeep : ∀ u, w.ownsRow base 147 2 u es.length (es.flatMap encE) → w'.ownsRow base 147 2 u es.length (es.flatMap encE) := by
     intro u hu
     rcases hown.2 with ⟨rfl, _⟩ | ⟨gg, cap, cur, rfl, hbg, hgc, hnc, hcm, hcs, htake⟩
     · exact own_nilgrown h2 hu
     · by_cases hroom : es.length + r.length ≤ cap
       · have hr := run_append_room (P := Tryz.prog) w 80 o.type 147 i0 Tryz.underlying80 hi gg es.length cap cur hgc ⟨b, o', none⟩ r.length c (r.flatMap encE) (by rw [hz1, fm_len]) hnews hone hroom (by rw [hz1, fm_len, hcs]; omega)
         rw [hrun] at hr
         simp only [Result.ok.injEq] at hr
         obtain ⟨_, rfl⟩ := hr
         rcases hu.2 with ⟨rfl, h0⟩ | ⟨g2, cap2, cur2, rfl, hbg2, hgc2, hnc2, hcm2, hcs2, htake2⟩
         · exact ⟨hu.1, .inl ⟨rfl, h0⟩⟩
         · by_cases hgg : g2 = gg
           · subst hgg
             rw [hgc] at hgc2
             cases hgc2
             refine ⟨hu.1, .inr ⟨g2, cap2, _, rfl, hbg2, setRow_heap w g2 cur _ 147 _ hgc, hnc2, hcm2, ?_, ?_⟩⟩
             · simp only [List.size_toArray, List.length_append, List.length_take, List.length_drop, Array.length_toList, fm_len, hz1]
               omega
             · simp only [hz1, List.append_assoc]
               rw [List.take_append_of_le_length (by simp only [List.length_take, Array.length_toList]; omega), List.take_take, Nat.min_self]
               exact htake
           · refine hu.kept h2 (.inr ?_)
             simp only [Value.ownBlock, ne_eq, Option.some.injEq]
             exact hgg
       · have holds : ∀ j u, (es.flatMap encE)[j]? = some u → w.cell? ((⟨gg, 0, none⟩ : Addr).add j) = some u := hown.cells (g := gg) rfl
         have hr := run_append_grow (P := Tryz.prog) w 80 o.type 147 i0 _ Tryz.underlying80 hi hz0 ⟨gg, 0, none⟩ es.length cap (es.flatMap encE) (by rw [hz1, fm_len]) holds ⟨b, o', none⟩ r.length c (r.flatMap encE) (by rw [hz1, fm_len]) hnews (by omega) (by omega) (growslice_fits (by omega) (by rw [hz2]; omega))
         rw [hrun] at hr
         simp only [Result.ok.injEq] at hr
         obtain ⟨_, rfl⟩ := hr
         exact hu.kept (row := none) ⟨rfl, rfl, rfl, by simp, fun k hk _ => Below.heap_alloc w.drew _ k hk⟩ (by cases hv : u.ownBlock <;> simp)
   unfold Oper.wp
   simp only [execOp, ho, resolve, invoke, builtin, Sem.run_bind, Sem.run_pure, Result.andThen_ok, List.map_toArray, List.map_cons, List.map_nil, hs, e, hrun]
   exact h v' w' (by rw [List.length_append, List.flatMap_append]; exact h1) h2 hkeep
set_option maxHeartbeats 800000 in
theorem del18 (wz : World) (h : RtM wz R g room q S es pa ca) (x i : Nat) (hx : x = i + 1) (hi : i < room) (s : ByteArray) (hs : s.size ≤ maxLen) (hl : S.l x (L s) ≠ 0) :
   Calls Tryz.prog 119 #[.pointer (some ⟨R, 0, none⟩), .int .u32 x, .string s] wz fun e w' => e = .returned (.tuple #[]) ∧ RtA w' R g room q ⟨S.n, setL S.l x (L s) 0⟩ ∧ Tr.Tch (fun b => b = g) wz w' := by
 have AT := Lib.hid (at18 wz h x i hx hi s)
 have hr2 := h.rm.2
 have h0 := h.topC
 have w1 := w_sub hx (by omega)
 have hg := h.g_lt
 obtain ⟨c0, c1, c2, c3, f⟩ := h.cellsX hx hi
 have hcap := h.cap i hi
 have hq2 := h.q1
 have HR := Lib.hid (h.row i hi)
 have HLI := Lib.hid (h.rows.lst i hi)
 have ST := Lib.hid (fun (W : World) (hb : Below wz.heap.size wz W) (r : List Ent) (p : Option Addr) (c : Nat) (hr : ERow W g p c r) (hc : r.length ≤ c ∧ r.length ≤ q) (hli : Listing (setL S.l x (L s) 0 x) r) =>
   set18 W (h.later hb) x i hx hi r p c q hr hc ⟨Nat.le_refl _, h.q1⟩ (setL S.l x (L s) 0) (fun d hd => by funext t; simp [setL, hd]) hli (fun t ht => by
     rw [setL_row] at ht
     split at ht
     · exact absurd rfl ht
     · exact (h.rows.nm x t ht).2.2))
 rw [← hx] at HLI
 obtain ⟨r, hr⟩ : ∃ r, es i = r := ⟨_, rfl⟩
 obtain ⟨p, hp⟩ : ∃ p, pa i = p := ⟨_, rfl⟩
 obtain ⟨c, hc⟩ : ∃ c, ca i = c := ⟨_, rfl⟩
 rw [hr, hp] at c1
 rw [hr, hp, hc] at HR
 rw [hr] at HLI AT
 rw [hr, hc] at hcap
 rw [hc] at c1
 obtain ⟨n, hn⟩ : ∃ n, r.length = n := ⟨_, rfl⟩
 rw [hn] at hcap c1
 have HN := Lib.hid hn
 have HC := Lib.hid hcap
 have HS := Lib.hid (And.intro hs hl)
 have hn1 : n ≤ 1000 := by omega
 clear h hx c0 c2 c3 f hr hp hc hn hcap hs hl
 go_enter Tryz.func119, Tryz.ntmps119
 go_wp2_with fail
 refine Calls.mono AT.out ?_
 rintro e w' ⟨k', rfl, ha, rfl⟩
 obtain ⟨k, hk, rfl⟩ := ha.yes HLI.out HS.out.1 HS.out.2
 have hkn : k < n := by have := (List.getElem?_eq_some_iff.1 hk).1; rw [HN.out] at this; exact this
 have AP : Hid (Listing (setL S.l x (L s) 0 x) (r.take k ++ r.drop (k + 1))) := Lib.hid (Listing.del HLI.out hk (fun t => setL_row S.l x (L s) 0 t))
 obtain ⟨rt, hrt⟩ : ∃ rt, r.take k = rt := ⟨_, rfl⟩
 obtain ⟨rd, hrd⟩ : ∃ rd, r.drop (k + 1) = rd := ⟨_, rfl⟩
 have LL : Hid (rt.length = k ∧ rd.length = n - (k + 1)) := Lib.hid ⟨by rw [← hrt, List.length_take, HN.out]; omega, by rw [← hrd, List.length_drop, HN.out]⟩
 rw [hrt, hrd] at AP
 obtain ⟨rf, hrf⟩ : ∃ rf, rt ++ rd = rf := ⟨_, rfl⟩
 rw [hrf] at AP
 have LF : Hid (rf.length ≤ q) := Lib.hid (by rw [← hrf, List.length_append, LL.out.1, LL.out.2]; have := HC.out.2; omega)
 have HT := Lib.hid hrt
 have HD := Lib.hid hrd
 have HRF := Lib.hid hrf
 rcases HR.out with ⟨_, hr0, _⟩ | ⟨b, rfl, hbl, hbg, hbc⟩
 · rw [hr0] at hk
   cases hk
 have hkc := HC.out.1
 have hkc2 : k ≤ c := by omega
 have hkn2 : (k : Int) < n := by omega
 have S1 := Lib.hid (srcA HR.out b rfl HN.out k (by omega) rt HT.out)
 have A1 : Hid (∀ W : World, W.ownsRow w'.heap.size 147 2 (.slice none 0 0) ([] : List Ent).length (([] : List Ent).flatMap encE)) := Lib.hid (fun _ => World.ownsRow_nil _ _ _ _)
 have GB0 := Lib.hid hg
 clear ha hk hrt hrd hrf hbc hbl hbg AT hg
 obtain ⟨B, hBB⟩ : ∃ B, w'.heap.size = B := ⟨_, rfl⟩
 have BB := Lib.hid hBB
 have GB : Hid (g < B) := Lib.hid (by rw [← hBB]; exact GB0.out)
 clear hBB
 have S2 := Lib.hid (srcI HR.out b rfl HN.out k hkn HC.out.1 rd HD.out)
 have t3 : ((k : Int) + 1) ≤ n := by omega
 have t4 : k + 1 ≤ c := by omega
 have t6 : IntKind.i64.wrap ((k : Int) + 1) = (k : Int) + 1 := IntWalk.i64_in _ (by omega)
 go_wp2_with fail
 refine wp_region_phi2 (by kernel_rfl) (fun | 0 => some 21 | 1 => some 22 | 2 => some 23 | 3 => some 24 | 4 => some 25 | 5 => some 26 | 6 => some 27 | 7 => some 28 | 8 => some 29 | 9 => some 30 | 10 => some 31 | 11 => some 32 | _ => none) (fun a => ∃ x21 x22 x23 x24 x25 x26 x27 x28 x29 x30 x31 x32 : Value, a = ⟨#[.pointer (some ⟨R, 0, none⟩), .int .u32 x, .string s, undef, undef, undef, .int .i64 k, .slice (some ⟨b, 0, none⟩) n c, .pointer (some ⟨R, 0, none⟩), .int .u32 x, .string s, .int .i64 k, .pointer (some ⟨R, 0, none⟩), .pointer (some ⟨R, 0, none⟩), .pointer (some ⟨R, 0, none⟩), .slice (some ⟨g, 0, none⟩) room room, .int .u32 x, .int .u32 i, .pointer (some ⟨g, i * 4, none⟩), .pointer (some ⟨g, i * 4 + 1, none⟩), .slice (some ⟨b, 0, none⟩) n c, x21, x22, x23, x24, x25, x26, x27, x28, x29, x30, x31, x32], []⟩) (fun lst w => (lst 11 = false → Below B w' w) ∧ (lst 11 = true → RtA w R g room q ⟨S.n, setL S.l x (L s) 0⟩ ∧ Tr.Tch (fun b => b = g) w' w)) (fun i w1 w2 => (∀ v, w1.ownsRow B 147 2 v rt.length (rt.flatMap encE) → w2.ownsRow B 147 2 v rt.length (rt.flatMap encE)) ∧ (i = 10 ∨ ∀ v, w1.ownsRow B 147 2 v rf.length (rf.flatMap encE) → w2.ownsRow B 147 2 v rf.length (rf.flatMap encE))) (fun | 0 => (fun v w => v = .pointer (some ⟨R, 0, none⟩)) | 1 => (fun v w => v = .int .u32 x) | 2 => (fun v w => v = .slice (some ⟨b, 0, none⟩) n c) | 3 => (fun v w => v = .int .i64 k) | 4 => (fun v w => v = .slice (some ⟨b, 0, none⟩) k c) | 5 => (fun v w => w.ownsRow B 147 2 v rt.length (rt.flatMap encE)) | 6 => (fun v w => v = .slice (some ⟨b, 0, none⟩) n c) | 7 => (fun v w => v = .int .i64 k) | 8 => (fun v w => v = .int .i64 ((k : Int) + 1)) | 9 => (fun v w => v = .slice (if c = k + 1 then some ⟨b, 0, none⟩ else some ⟨b, (k + 1) * 2, none⟩) (n - (k + 1)) (c - (k + 1))) | 10 => (fun v w => w.ownsRow B 147 2 v rf.length (rf.flatMap encE)) | 11 => (fun v w => True) | _ => (fun _ _ => True)) (by kernel_rfl) ?stb (by kernel_rfl) ?AA ⟨_, _, _, _, _, _, _, _, _, _, _, _, rfl⟩ ?G0 ?step ?done
 case stb =>
   intro i j v w1 w2 hi hj hij hw hp hs
   have hi : i < 12 := hi
   match j, hp with
   | 0, hp | 1, hp | 2, hp | 3, hp | 4, hp => exact hp
   | 5, hp =>
     exact hs.1 v hp
   | 6, hp | 7, hp | 8, hp | 9, hp => exact hp
   | 10, hp =>
     rcases hs.2 with e | hs2
     · exact absurd e hij
     · exact hs2 v hp
   | 11, hp =>
     exact trivial
   | j + 12, _ => exact trivial
 case AA =>
   rintro i a v hi ⟨_, _, _, _, _, _, _, _, _, _, _, _, rfl⟩
   match i, hi with
   | 0, _ | 1, _ | 2, _ | 3, _ | 4, _ | 5, _ | 6, _ | 7, _ | 8, _ | 9, _ | 10, _ | 11, _ => exact ⟨⟨_, _, _, _, _, _, _, _, _, _, _, _, rfl⟩, fun t h => by cases h <;> exact of_decide_eq_true rfl⟩
   | i + 12, hi => exact absurd hi (by simp)
 case G0 => exact ⟨fun _ => by rw [← BB.out]; exact (Below.refl _ _).drew, fun qq => by cases qq⟩
 case step =>
   rintro i a w1 lst hi ⟨x21, x22, x23, x24, x25, x26, x27, x28, x29, x30, x31, x32, rfl⟩ hl hcl hG hp
   refine wpOp_via (fun K hK => ?_)
   match i, hi with
   | 0, _ =>
     have h11 : lst 11 = false := not_done hcl hl (by decide : 11 < 12) (by kernel_rfl)
     have hB := hG.1 h11
     have hG2 := hG
     clear hG
     refine wpOp_at (by rfl) rfl ?_
     go_simp
     exact hK _ _ ⟨_, rfl, ⟨fun _ => hB, fun qq => by change lst 11 = true at qq; rw [h11] at qq; cases qq⟩, ⟨fun v h => h, .inr fun v h => h⟩, rfl⟩
   | 1, _ =>
     have h11 : lst 11 = false := not_done hcl hl (by decide : 11 < 12) (by kernel_rfl)
     have hB := hG.1 h11
     have hG2 := hG
     clear hG
     refine wpOp_at (by rfl) rfl ?_
     go_simp
     exact hK _ _ ⟨_, rfl, ⟨fun _ => hB, fun qq => by change lst 11 = true at qq; rw [h11] at qq; cases qq⟩, ⟨fun v h => h, .inr fun v h => h⟩, rfl⟩
   | 2, _ =>
     have h11 : lst 11 = false := not_done hcl hl (by decide : 11 < 12) (by kernel_rfl)
     have hB := hG.1 h11
     have hG2 := hG
     clear hG
     refine wpOp_at (by rfl) rfl ?_
     go_simp
     exact hK _ _ ⟨_, rfl, ⟨fun _ => hB, fun qq => by change lst 11 = true at qq; rw [h11] at qq; cases qq⟩, ⟨fun v h => h, .inr fun v h => h⟩, rfl⟩
   | 3, _ =>
     have h11 : lst 11 = false := not_done hcl hl (by decide : 11 < 12) (by kernel_rfl)
     have hB := hG.1 h11
     have hG2 := hG
     clear hG
     refine wpOp_at (by rfl) rfl ?_
     go_simp
     exact hK _ _ ⟨_, rfl, ⟨fun _ => hB, fun qq => by change lst 11 = true at qq; rw [h11] at qq; cases qq⟩, ⟨fun v h => h, .inr fun v h => h⟩, rfl⟩
   | 4, _ =>
     have h11 : lst 11 = false := not_done hcl hl (by decide : 11 < 12) (by kernel_rfl)
     have hB := hG.1 h11
     have hG2 := hG
     clear hG
     obtain rfl : x23 = _ := hp 2 (by kernel_rfl)
     obtain rfl : x24 = _ := hp 3 (by kernel_rfl)
     refine wpOp_at (by rfl) rfl ?_
     go_simp
     exact hK _ _ ⟨_, rfl, ⟨fun _ => hB, fun qq => by change lst 11 = true at qq; rw [h11] at qq; cases qq⟩, ⟨fun v h => h, .inr fun v h => h⟩, rfl⟩
   | 5, _ =>
     have h11 : lst 11 = false := not_done hcl hl (by decide : 11 < 12) (by kernel_rfl)
     have hB := hG.1 h11
     have hG2 := hG
     clear hG
     obtain rfl : x25 = _ := hp 4 (by kernel_rfl)
     refine wpOp_at (by rfl) rfl ?_
     refine wp_appE (.const (.slice none 0 0)) _ rfl B (.slice none 0 0) [] rt rfl (World.ownsRow_nil _ _ _ _) (S1.out w1 (by rw [BB.out]; exact hB)) (by rw [LL.out.1]; simp only [List.length_nil]; omega) (by have := hB.size; rw [← BB.out]; exact this) rt rfl ?_
     intro v1 w2 ho hg1 hk1
     exact hK _ _ ⟨_, rfl, ⟨fun _ => hB.trans (nilgrown_below hg1 (by have := hB.size; have := BB.out; omega)), fun qq => by change lst 11 = true at qq; rw [h11] at qq; cases qq⟩, ⟨fun v h => own_nilgrown hg1 h, .inr fun v h => own_nilgrown hg1 h⟩, ho⟩
   | 6, _ =>
     have h11 : lst 11 = false := not_done hcl hl (by decide : 11 < 12) (by kernel_rfl)
     have hB := hG.1 h11
     have hG2 := hG
     clear hG
     refine wpOp_at (by rfl) rfl ?_
     go_simp
     exact hK _ _ ⟨_, rfl, ⟨fun _ => hB, fun qq => by change lst 11 = true at qq; rw [h11] at qq; cases qq⟩, ⟨fun v h => h, .inr fun v h => h⟩, rfl⟩
   | 7, _ =>
     have h11 : lst 11 = false := not_done hcl hl (by decide : 11 < 12) (by kernel_rfl)
     have hB := hG.1 h11
     have hG2 := hG
     clear hG
     refine wpOp_at (by rfl) rfl ?_
     go_simp
     exact hK _ _ ⟨_, rfl, ⟨fun _ => hB, fun qq => by change lst 11 = true at qq; rw [h11] at qq; cases qq⟩, ⟨fun v h => h, .inr fun v h => h⟩, rfl⟩
   | 8, _ =>
     have h11 : lst 11 = false := not_done hcl hl (by decide : 11 < 12) (by kernel_rfl)
     have hB := hG.1 h11
     have hG2 := hG
     clear hG
     obtain rfl : x28 = _ := hp 7 (by kernel_rfl)
     refine wpOp_at (by rfl) rfl ?_
     go_simp
     exact hK _ _ ⟨_, rfl, ⟨fun _ => hB, fun qq => by change lst 11 = true at qq; rw [h11] at qq; cases qq⟩, ⟨fun v h => h, .inr fun v h => h⟩, rfl⟩
   | 9, _ =>
     have h11 : lst 11 = false := not_done hcl hl (by decide : 11 < 12) (by kernel_rfl)
     have hB := hG.1 h11
     have hG2 := hG
     clear hG
     obtain rfl : x27 = _ := hp 6 (by kernel_rfl)
     obtain rfl : x29 = _ := hp 8 (by kernel_rfl)
     refine wpOp_at (by rfl) rfl ?_
     go_simp
     exact hK _ _ ⟨_, rfl, ⟨fun _ => hB, fun qq => by change lst 11 = true at qq; rw [h11] at qq; cases qq⟩, ⟨fun v h => h, .inr fun v h => h⟩, rfl⟩
   | 10, _ =>
     have h11 : lst 11 = false := not_done hcl hl (by decide : 11 < 12) (by kernel_rfl)
     have hB := hG.1 h11
     have hG2 := hG
     clear hG
     obtain rfl : x30 = _ := hp 9 (by kernel_rfl)
     have ho := hp 5 (by kernel_rfl)
     change w1.ownsRow B 147 2 x26 rt.length (rt.flatMap encE) at ho
     refine wpOp_at (by rfl) rfl ?_
     refine wp_appE _ _ rfl B x26 rt rd rfl ho (S2.out w1 (by rw [BB.out]; exact hB)) (by rw [LL.out.1, LL.out.2]; omega) (by have := hB.size; rw [← BB.out]; exact this) rf HRF.out ?_
     intro v1 w2 ho2 hg1 hk1
     exact hK _ _ ⟨_, rfl, ⟨fun _ => hB.trans (grown_below hg1 ho (by have := hB.size; have := BB.out; omega)), fun qq => by change lst 11 = true at qq; rw [h11] at qq; cases qq⟩, ⟨hk1, .inl rfl⟩, ho2⟩
   | 11, _ =>
     have h11 := hl
     have hB := hG.1 h11
     have hG2 := hG
     clear hG
     obtain rfl : x21 = _ := hp 0 (by kernel_rfl)
     obtain rfl : x22 = _ := hp 1 (by kernel_rfl)
     have ho := hp 10 (by kernel_rfl)
     change w1.ownsRow B 147 2 x31 rf.length (rf.flatMap encE) at ho
     obtain ⟨p', c', rfl, hrow, hc'⟩ := ERow.own ho GB.out
     have SET := Lib.hid (ST.out w1 (by rw [BB.out]; exact hB) _ p' c' hrow ⟨hc', LF.out⟩ AP.out)
     clear hrow hc'
     refine wpOp_at (by rfl) rfl ?_
     go_simp
     refine Calls.mono SET.out ?_
     rintro e w2 ⟨rfl, hA, hT⟩
     exact hK _ _ ⟨_, rfl, ⟨(fun qq => by cases qq), fun _ => ⟨hA, (Tr.Tch.of (by rw [BB.out]; exact hB)).trans hT⟩⟩, ⟨fun v h => own_tch hT h GB.out, .inr fun v h => own_tch hT h GB.out⟩, trivial⟩
   | i + 12, hi => exact absurd hi (by simp)
 case done =>
   rintro a w8 lst hl ⟨x21, x22, x23, x24, x25, x26, x27, x28, x29, x30, x31, x32, rfl⟩ hG hp
   obtain ⟨hA, hT⟩ := hG.2 (hl 11 (by decide))
   clear hp hG hl
   go_wp2_with fail
   go_end0
   exact ⟨rfl, hA, hT⟩
end Go.Proofs.YtmfhnhnmdeabeaaGreat.Re
end
section
namespace Go.Proofs.YtmfhnhnmdeabeaaGreat.Re
open Go.RowKit Go.Shelf Go.Maps Oct Path Tr
variable {R g room q : Nat} {S : T} {es : Nat → List Ent} {pa : Nat → Option Addr} {ca : Nat → Nat}
def TuAns (g : Nat) (wz : World) (P : Prop) (Fin : World → Prop) (e : Ending) (w' : World) : Prop := ∃ v er : Nat, e = .returned (.tuple #[.int .u32 v, .int .i64 er]) ∧ Tr.Tch (fun b => b = g) wz w' ∧ (er = 0 → P ∧ Fin w')
theorem TuAns.no {g : Nat} {wz w' : World} {P : Prop} {Fin : World → Prop} {v er : Nat} (h : er ≠ 0) (hT : Tr.Tch (fun b => b = g) wz w') : TuAns g wz P Fin (.returned (.tuple #[.int .u32 v, .int .i64 er])) w' := ⟨v, er, rfl, hT, fun e => absurd e h⟩
theorem TuAns.yes {g : Nat} {wz w' : World} {P : Prop} {Fin : World → Prop} {v : Nat} (hT : Tr.Tch (fun b => b = g) wz w') (hP : P) (hF : Fin w') : TuAns g wz P Fin (.returned (.tuple #[.int .u32 v, .int .i64 0])) w' := ⟨v, 0, rfl, hT, fun _ => ⟨hP, hF⟩⟩
theorem lkE_ok {S : T} {x : Nat} {s : Nm} (h : lkE S x s = 0) : (S.n x).kind = 2 ∧ S.l x s ≠ 0 ∧ lkV S x s = S.l x s := by
 unfold lkE at h
 split at h
 · cases h
 · split at h
   · rename_i h2
     split at h
     · cases h
     · rename_i h3
       exact ⟨h2, h3, by unfold lkV; rw [if_pos h2]⟩
   · cases h
set_option maxHeartbeats 400000 in
theorem unlink18 (wz : World) (h : RtM wz R g room q S es pa ca) (hI : Inv room S) (dir : Nat) (hd : dir < 4294967296) (s : ByteArray) (hs : s.size ≤ maxLen) (hn : isName (L s) = true) :
   Calls Tryz.prog 81 #[.pointer (some ⟨R, 0, none⟩), .int .u32 dir, .string s] wz
     (TuAns g wz ((S.n dir).kind = 2 ∧ S.l dir (L s) ≠ 0 ∧ (S.n (S.l dir (L s))).kind = 1) fun w' => RtA w' R g room q (freS ⟨S.n, setL S.l dir (L s) 0⟩ (S.l dir (L s)))) := by
 have LK := Lib.hid (look18 wz h dir hd s hs hn)
 have H := Lib.hid h
 have HI := Lib.hid hI
 have HS := Lib.hid hs
 clear h hI hs hn
 go_enter Tryz.func81, Tryz.ntmps81
 go_wp2_with fail
 refine Calls.mono LK.out ?_
 rintro e w' ⟨rfl, rfl⟩
 by_cases he : lkE S dir (L s) = 0
 · obtain ⟨h2, hl, hv⟩ := lkE_ok he
   rw [he, hv]
   obtain ⟨x, hx⟩ : ∃ x, S.l dir (L s) = x := ⟨_, rfl⟩
   rw [hx] at hl ⊢
   have hk := (HI.out.ent dir (L s) (by rw [hx]; exact hl)).1
   rw [hx] at hk
   obtain ⟨x1, x2⟩ := H.out.rng x hk
   have KI := Lib.hid (kind18 w' H.out x x1 x2)
   obtain ⟨d1, d2⟩ := H.out.rng dir (by omega)
   have DE := Lib.hid (del18 w' H.out dir (dir - 1) (by omega) (by omega) s HS.out (by rw [hx]; exact hl))
   have H2 := Lib.hid h2
   have HX := Lib.hid hx
   have HL := Lib.hid hl
   have NL := Lib.hid (HI.out.noL x)
   have HK := Lib.hid hk
   clear he hv h2 hx hl hk
   go_wp2_with fail
   refine Calls.mono KI.out ?_
   rintro e w' ⟨rfl, rfl⟩
   by_cases hk2 : (S.n x).kind = 2
   · rw [hk2]
     go_wp2_with fail
     go_ret2
     exact TuAns.no (by decide) (Tr.Tch.refl _ _)
   · have hk1 : (S.n x).kind = 1 := by have := H.out.kd x; have := HK.out; omega
     rw [hk1]
     have HK1 := Lib.hid hk1
     have NL2 : Hid (∀ t, setL S.l dir (L s) 0 x t = 0) := Lib.hid (fun t => by
       unfold setL
       split
       · rfl
       · exact NL.out t hk2)
     clear hk2 hk1
     go_wp2_with fail
     refine Calls.mono DE.out ?_
     rintro e w2 ⟨rfl, ⟨es', pa', ca', hM⟩, hT⟩
     have FR := Lib.hid (free18 w2 hM x x1 x2 NL2.out)
     have T2 := Lib.hid hT
     clear hM hT
     go_wp2_with fail
     refine Calls.mono FR.out ?_
     rintro e w3 ⟨rfl, hA, hT⟩
     go_wp2_with fail
     go_ret2
     refine TuAns.yes (T2.out.trans hT) ⟨H2.out, by rw [HX.out]; exact HL.out, by rw [HX.out]; exact HK1.out⟩ ?_
     rw [HX.out]
     exact hA
 · have t1 : ((lkE S dir (L s) : Int) != 0) = true := by simp; omega
   have HE := Lib.hid he
   clear he
   go_wp2_with fail
   go_ret2
   exact TuAns.no HE.out (Tr.Tch.refl _ _)
set_option maxHeartbeats 400000 in
theorem rmdir18 (wz : World) (h : RtM wz R g room q S es pa ca) (hI : Inv room S) (dir : Nat) (hd : dir < 4294967296) (s : ByteArray) (hs : s.size ≤ maxLen) (hn : isName (L s) = true) :
   Calls Tryz.prog 80 #[.pointer (some ⟨R, 0, none⟩), .int .u32 dir, .string s] wz
     (TuAns g wz ((S.n dir).kind = 2 ∧ S.l dir (L s) ≠ 0 ∧ (S.n (S.l dir (L s))).kind = 2 ∧ ∀ t, S.l (S.l dir (L s)) t = 0) fun w' => RtA w' R g room q (freS ⟨S.n, setL S.l dir (L s) 0⟩ (S.l dir (L s)))) := by
 have LK := Lib.hid (look18 wz h dir hd s hs hn)
 have H := Lib.hid h
 have HI := Lib.hid hI
 have HS := Lib.hid hs
 clear h hI hs hn
 go_enter Tryz.func80, Tryz.ntmps80
 go_wp2_with fail
 refine Calls.mono LK.out ?_
 rintro e w' ⟨rfl, rfl⟩
 by_cases he : lkE S dir (L s) = 0
 · obtain ⟨h2, hl, hv⟩ := lkE_ok he
   rw [he, hv]
   obtain ⟨x, hx⟩ : ∃ x, S.l dir (L s) = x := ⟨_, rfl⟩
   rw [hx] at hl ⊢
   have hk := (HI.out.ent dir (L s) (by rw [hx]; exact hl)).1
   rw [hx] at hk
   obtain ⟨x1, x2⟩ := H.out.rng x hk
   have KI := Lib.hid (kind18 w' H.out x x1 x2)
   obtain ⟨d1, d2⟩ := H.out.rng dir (by omega)
   have DE := Lib.hid (del18 w' H.out dir (dir - 1) (by omega) (by omega) s HS.out (by rw [hx]; exact hl))
   have H2 := Lib.hid h2
   have HX := Lib.hid hx
   have HL := Lib.hid hl
   obtain ⟨i, hxi⟩ : ∃ i, x = i + 1 := ⟨x - 1, by omega⟩
   have hi : i < room := by omega
   have hrm := H.out.rm.2
   have w1 := w_sub hxi (by omega)
   have h0 := H.out.topC
   have LI : Hid (Listing (S.l x) (es i)) := Lib.hid (by rw [hxi]; exact H.out.rows.lst i hi)
   obtain ⟨c0, c1, c2, c3, f⟩ := H.out.cellsX hxi hi
   have HQ := Lib.hid (H.out.cap i hi)
   have NMX := Lib.hid (H.out.rows.nm x)
   clear he hv h2 hx hl hk hxi c0 c2 c3 f
   go_wp2_with fail
   refine Calls.mono KI.out ?_
   rintro e w' ⟨rfl, rfl⟩
   by_cases hk2 : (S.n x).kind = 2
   · rw [hk2]
     have HK2 := Lib.hid hk2
     clear hk2
     by_cases hz : es i = []
     · have NL : Hid (∀ t, S.l x t = 0) := Lib.hid (fun t => Classical.byContradiction fun ht => by
         have := (LI.out.2 (B t, S.l x t)).2 ⟨by rw [L_B], ht, (NMX.out t ht).2.2⟩
         rw [hz] at this
         cases this)
       have NL2 : Hid (∀ t, setL S.l dir (L s) 0 x t = 0) := Lib.hid (fun t => by
         unfold setL
         split
         · rfl
         · exact NL.out t)
       rw [hz] at c1
       rw [List.length_nil] at c1
       clear hz
       go_wp2_with fail
       refine Calls.mono DE.out ?_
       rintro e w2 ⟨rfl, ⟨es', pa', ca', hM⟩, hT⟩
       have FR := Lib.hid (free18 w2 hM x x1 x2 NL2.out)
       have T2 := Lib.hid hT
       clear hM hT
       go_wp2_with fail
       refine Calls.mono FR.out ?_
       rintro e w3 ⟨rfl, hA, hT⟩
       go_wp2_with fail
       go_ret2
       refine TuAns.yes (T2.out.trans hT) ⟨H2.out, by rw [HX.out]; exact HL.out, by rw [HX.out]; exact HK2.out, by rw [HX.out]; exact NL.out⟩ ?_
       rw [HX.out]
       exact hA
     · have hlen : 0 < (es i).length := List.length_pos_iff.2 hz
       obtain ⟨n, hn⟩ : ∃ n, (es i).length = n := ⟨_, rfl⟩
       rw [hn] at c1 hlen
       have t2 : (0 : Int) < n := by omega
       clear hz hn
       go_wp2_with fail
       go_ret2
       exact TuAns.no (by decide) (Tr.Tch.refl _ _)
   · have t5 : (((S.n x).kind : Int) != 2) = true := by simp; omega
     clear hk2
     go_wp2_with fail
     go_ret2
     exact TuAns.no (by decide) (Tr.Tch.refl _ _)
 · have t1 : ((lkE S dir (L s) : Int) != 0) = true := by simp; omega
   have HE := Lib.hid he
   clear he
   go_wp2_with fail
   go_ret2
   exact TuAns.no HE.out (Tr.Tch.refl _ _)
end Go.Proofs.YtmfhnhnmdeabeaaGreat.Re
end
