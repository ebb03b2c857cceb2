/- The reference of layer 18 (tree): Drop, Write, Stat. -/
import Derived.Test.YtmfhnhnmdeabeaaGreatM27
import Derived.Laws.AppendOwnNone
import Derived.Test.YtmfhnhnmdeabeaaGreatM02
import Derived.StillTailTactics
set_option linter.unusedVariables false
set_option linter.unusedSimpArgs false
set_option maxRecDepth 100000
section
namespace Go.Proofs.YtmfhnhnmdeabeaaGreat.Re
open Go.RowKit Go.Shelf Go.Maps Oct Path Tr
variable {R g room q : Nat} {S : T} {es : Nat → List Ent} {pa : Nat → Option Addr} {ca : Nat → Nat}
def SrcE (W : World) (x : Value) (r : List Ent) : Prop :=
 (x = .slice none 0 0 ∧ r = []) ∨ ∃ b o c, x = .slice (some ⟨b, o, none⟩) r.length c ∧ b < W.heap.size ∧ ∀ j v, (r.flatMap encE)[j]? = some v → W.cell? ⟨b, o + j, none⟩ = some v
theorem SrcE.later {W W' : World} {x : Value} {r : List Ent} (h : SrcE W x r) (hb : Below W.heap.size W W') : SrcE W' x r := by
 rcases h with h | ⟨b, o, c, h1, h2, h3⟩
 · exact .inl h
 · exact .inr ⟨b, o, c, h1, Nat.lt_of_lt_of_le h2 hb.size, fun j v hv => (hb.cell (p := ⟨b, o + j, none⟩) h2).trans (h3 j v hv)⟩
theorem wpList_appE {w : World} {ops : Array Oper} {rest : List Oper} {o : Oper} {a : Act} {Q : Exit → Act → World → Prop} (hgd : o.guard = none) (s x : Operand)
   (ho : o.op = .call { callee := .builtin .append, args := #[s, x], argTypes := #[80, 80] })
   (base : Nat) (v : Value) (es r : List Ent) (hs : a.eval s = v) (hown : w.ownsRow base 147 2 v es.length (es.flatMap encE)) (hx : SrcE w (a.eval x) r) (hn : es.length + r.length ≤ 100000) (hbase : base ≤ w.heap.size) (r2 : List Ent) (hr2 : es ++ r = r2)
   (h : ∀ v' w', w'.ownsRow base 147 2 v' r2.length (r2.flatMap encE) → w.grownBy w' v.ownBlock → wpList Tryz.prog ops Q rest (a.put o.dst v') w') : wpList Tryz.prog ops Q (o :: rest) a w := by
 subst hr2
 obtain ⟨i0, hi, hz⟩ := Option.map_eq_some_iff.1 info_E
 have hz0 : i0.zero = some (.agg #[.string ⟨#[]⟩, .int .u32 0]) := congrArg (fun t => t.1) hz
 have hz1 : i0.size = 2 := congrArg (fun t => t.2.1) hz
 have hz2 : i0.bytes = 24 := congrArg (fun t => t.2.2) hz
 rcases hx with ⟨e, rfl⟩ | ⟨b, o', c, e, hb, hc⟩
 · refine wpList_append_own_none hgd s x _ ho base 147 i0 2 Tryz.underlying80 hi v es.length (es.flatMap encE) hs hown e ?_
   refine h v w (by simpa using hown) ⟨rfl, rfl, rfl, Nat.le_refl _, fun _ _ _ => rfl⟩
 · refine wpList_append_own w hgd s x _ ho base 147 i0 _ 2 24 Tryz.underlying80 hi hz0 hz1 hz2 rfl (by decide) v es.length (es.flatMap encE) hs hown ⟨b, o', none⟩ r.length c (r.flatMap encE) e (fm_len r) (fun j u hu => ?_) (fun u hu => ?_) (by unfold maxLen; omega) (by omega) hbase (fun v' w' h1 h2 _ => h v' w' ?_ h2)
   · rw [show (⟨b, o', none⟩ : Addr).add j = ⟨b, o' + j, none⟩ by unfold Addr.add; split <;> simp_all]
     exact hc j u hu
   · obtain ⟨y, _, hy⟩ := List.mem_flatMap.1 hu
     simp only [encE, List.mem_cons, List.not_mem_nil, or_false] at hy
     rcases hy with rfl | rfl <;> rfl
   · rw [List.length_append, List.flatMap_append]
     exact h1
theorem ERow.own {w : World} {base g : Nat} {v : Value} {r : List Ent} (h : w.ownsRow base 147 2 v r.length (r.flatMap encE)) (hg : g < base) : ∃ p c, v = .slice p r.length c ∧ ERow w g p c r ∧ r.length ≤ c := by
 have h0 := h
 rcases h.2 with ⟨rfl, e⟩ | ⟨b, c, cur, rfl, hb, hc, hl, _⟩
 · have : r = [] := List.eq_nil_of_length_eq_zero e
   subst this
   exact ⟨none, 0, rfl, .inl ⟨rfl, rfl, rfl⟩, Nat.le_refl _⟩
 · refine ⟨_, c, rfl, .inr ⟨b, rfl, (Array.getElem?_eq_some_iff.1 hc).1, by omega, fun j v hv => ?_⟩, hl⟩
   have hj := (List.getElem?_eq_some_iff.1 hv).1
   rw [fm_len] at hj
   rw [h0.cellAt j hj]
   exact hv
theorem ERow.src {W : World} {g : Nat} {p : Option Addr} {c k m c' : Nat} {r : List Ent} (h : ERow W g p c r) (b : Nat) (hp : p = some ⟨b, 0, none⟩) (hm : k + m ≤ r.length) : SrcE W (.slice (some ⟨b, k * 2, none⟩) m c') ((r.drop k).take m) := by
 rcases h with ⟨h1, _⟩ | ⟨b', h1, h2, h3, h4⟩
 · rw [h1] at hp; cases hp
 · rw [h1] at hp
   cases hp
   have hlen : ((r.drop k).take m).length = m := by rw [List.length_take, List.length_drop]; omega
   refine .inr ⟨b, k * 2, c', by rw [hlen], h2, fun j v hv => h4 _ _ ?_⟩
   have hj := (List.getElem?_eq_some_iff.1 hv).1
   rw [fm_len, hlen] at hj
   rw [fm_get] at hv ⊢
   rw [List.getElem?_take, if_pos (by omega), List.getElem?_drop] at hv
   rw [show (k * 2 + j) / 2 = k + j / 2 by omega, show (k * 2 + j) % 2 = j % 2 by omega]
   exact hv
theorem setN_self (f : Nat → Nd) (x : Nat) : setN f x (f x) = f := by
 funext y
 unfold setN
 split
 · rename_i h; rw [h]
 · rfl
set_option maxHeartbeats 400000 in
theorem set18 (wz : World) (h : RtM wz R g room q S es pa ca) (x i : Nat) (hx : x = i + 1) (hi : i < room) (r : List Ent) (p : Option Addr) (c q' : Nat) (hr : ERow wz g p c r) (hc : r.length ≤ c ∧ r.length ≤ q') (hq : q ≤ q' ∧ q' ≤ 1000)
   (l' : Nat → Nm → Nat) (hl : ∀ d, d ≠ x → l' d = S.l d) (hli : Listing (l' x) r) (hnm : ∀ s, l' x s ≠ 0 → s.length ≤ maxLen) :
   Calls Tryz.prog 118 #[.pointer (some ⟨R, 0, none⟩), .int .u32 x, .slice p r.length c] wz fun e w' => e = .returned (.tuple #[]) ∧ RtA w' R g room q' ⟨S.n, l'⟩ ∧ Tr.Tch (fun b => b = g) wz w' := by
 have H := Lib.hid h
 have HR := Lib.hid hr
 have hr2 := h.rm.2
 have h0 := h.topC
 have w1 := w_sub hx (by omega)
 have hg := h.g_lt
 have hR := h.top.lt
 obtain ⟨c0, c1, c2, c3, f⟩ := h.cellsX hx hi
 have f0 := f (i * 4)
 have f1 := f (i * 4 + 1)
 have f2 := f (i * 4 + 2)
 have f3 := f (i * 4 + 3)
 have HX := Lib.hid hx
 have FIN := Lib.hid (h.put hi (S.n x) l' r p c q' hq (fun d hd => hl d (by rw [hx]; exact hd)) (by rw [← hx]; exact hli) (by rw [← hx]; exact hnm) hr hc (h.kd x) (h.dt x) (h.hd x))
 rw [← hx, setN_self] at FIN
 clear h hr hx hc hq hl hli hnm f
 go_enter Tryz.func118, Tryz.ntmps118
 go_wp2_with fail
 go_region
 all_goals go_wp2_with fail
 all_goals go_end0
 all_goals exact ⟨rfl, ⟨_, _, _, FIN.out.later (((Below.refl _ _).alloc (Nat.le_refl _) _).drew)⟩, (st4_tch _ _ _ _ _ _ _).trans (Tr.Tch.of (((Below.refl _ _).alloc (Nat.le_refl _) _).drew))⟩
set_option maxHeartbeats 400000 in
theorem put18 (wz : World) (h : RtM wz R g room q S es pa ca) (x i : Nat) (hx : x = i + 1) (hi : i < room) (s : Nm) (hs : s.length ≤ 2304) :
   Calls Tryz.prog 83 #[.pointer (some ⟨R, 0, none⟩), .int .u32 x, .string (B s)] wz fun e w' => e = .returned (.tuple #[]) ∧ RtA w' R g room q ⟨setN S.n x { S.n x with data := s }, S.l⟩ ∧ Tr.Tch (fun b => b = g) wz w' := by
 have hr2 := h.rm.2
 have h0 := h.topC
 have w1 := w_sub hx (by omega)
 have hg := h.g_lt
 have hR := h.top.lt
 obtain ⟨c0, c1, c2, c3, f⟩ := h.cellsX hx hi
 have f0 := f (i * 4)
 have f1 := f (i * 4 + 1)
 have f2 := f (i * 4 + 2)
 have f3 := f (i * 4 + 3)
 have FIN := Lib.hid (h.put hi { S.n x with data := s } S.l (es i) (pa i) (ca i) q ⟨Nat.le_refl _, h.q1⟩ (fun _ _ => rfl) (h.rows.lst i hi) (fun t ht => (h.rows.nm _ t ht).2.2) (h.row i hi) (h.cap i hi) (h.kd x) hs (h.hd x))
 rw [← hx] at FIN
 clear h hx f hs
 go_enter Tryz.func83, Tryz.ntmps83
 go_wp2_with fail
 go_region
 all_goals go_wp2_with fail
 all_goals go_end0
 all_goals exact ⟨rfl, ⟨_, _, _, FIN.out.later (((Below.refl _ _).alloc (Nat.le_refl _) _).drew)⟩, (st4_tch _ _ _ _ _ _ _).trans (Tr.Tch.of (((Below.refl _ _).alloc (Nat.le_refl _) _).drew))⟩
end Go.Proofs.YtmfhnhnmdeabeaaGreat.Re
end
section
namespace Go.Proofs.YtmfhnhnmdeabeaaGreat.Re
open Go.RowKit Go.Shelf Go.Maps Oct Path Tr
variable {R g room q : Nat} {S : T} {es : Nat → List Ent} {pa : Nat → Option Addr} {ca : Nat → Nat}
set_option maxHeartbeats 400000 in
theorem named18 (wz : World) (h : RtM wz R g room q S es pa ca) (x : Nat) (hx : x ≠ 0) (b : Bool) (hb : b = true ↔ Nam S x) :
   Calls Tryz.prog 121 #[.pointer (some ⟨R, 0, none⟩), .int .u32 x] wz fun e w' => e = .returned (.bool b) ∧ w' = wz := by
 have hr := h.rm.2
 have h0 := h.topC
 rw [h.rows.nam hx] at hb
 have HB := Lib.hid hb
 have H := Lib.hid h
 clear h hx hb
 go_enter Tryz.func121, Tryz.ntmps121
 go_wp2_with fail
 go_loopw [5] (fun s5 wr => ∃ i : Nat, i ≤ room ∧ s5 = .int .i64 i ∧ (∀ (j k : Nat) (e : Ent), j < i → (es j)[k]? = some e → e.2 ≠ x) ∧ wr = wz) (fun s5 _ => room - (intOf s5).toNat)
 case atStart => exact ⟨0, Nat.zero_le _, rfl, fun j k e hj => absurd hj (Nat.not_lt_zero _), rfl⟩
 case round =>
   obtain ⟨i, hi, rfl, hno, rfl⟩ := hrel
   have NO := Lib.hid hno
   clear hno
   rcases Nat.lt_or_ge i room with hlt | hge
   · have t1 : (i : Int) < room := by omega
     obtain ⟨c0, c1, c2, c3, f⟩ := H.out.cells hlt
     have hq := (H.out.cap i hlt).2
     have hq2 := H.out.q1
     have HE := Lib.hid (fun (k : Nat) (e : Ent) (he : (es i)[k]? = some e) => H.out.entC hlt he)
     obtain ⟨r, hr2⟩ : ∃ r, es i = r := ⟨_, rfl⟩
     obtain ⟨p, hp⟩ : ∃ p, pa i = p := ⟨_, rfl⟩
     rw [hr2, hp] at HE c1
     rw [hr2] at hq
     obtain ⟨n, hn⟩ : ∃ n, r.length = n := ⟨_, rfl⟩
     rw [hn] at hq c1
     have HN := Lib.hid hn
     have HR2 := Lib.hid hr2
     clear c0 c2 c3 f hr2 hp hn
     go_wp2_with fail
     go_loopw [6] (fun s6 w2 => ∃ k : Nat, k ≤ n ∧ s6 = .int .i64 k ∧ (∀ (j : Nat) (e : Ent), j < k → r[j]? = some e → e.2 ≠ x) ∧ w2 = wr) (fun s6 _ => n - (intOf s6).toNat)
     case atStart => exact ⟨0, Nat.zero_le _, rfl, fun j e hj => absurd hj (Nat.not_lt_zero _), rfl⟩
     case round =>
       obtain ⟨k, hk, rfl, hno, rfl⟩ := hrel
       have NI := Lib.hid hno
       clear hno
       rcases Nat.lt_or_ge k n with hkl | hkg
       · have t2 : (k : Int) < n := by omega
         obtain ⟨e, he⟩ : ∃ e : Ent, r[k]? = some e := ⟨_, List.getElem?_eq_getElem (by rw [HN.out]; exact hkl)⟩
         obtain ⟨b, rfl, hb1, hb2, d0, d1⟩ := HE.out k e he
         obtain ⟨t, y⟩ := e
         simp only at d0 d1
         have HX := Lib.hid he
         clear he hb2 d0
         by_cases hs : y = x
         · subst hs
           go_wp2_with fail
           go_ret
           refine ⟨?_, by trivial⟩
           rw [HB.out.2 ⟨i, hlt, k, _, by rw [HR2.out]; exact HX.out, rfl⟩]
           rfl
         · have t3 : ((y : Int) == x) = false := by simp; omega
           go_wp2_with fail
           go_roundw
           case rel =>
             refine ⟨k + 1, by omega, by go_num, fun j e hj hje => ?_, by trivial⟩
             rcases Nat.lt_or_ge j k with q | q
             · exact NI.out j e q hje
             · have : j = k := by omega
               subst this
               rw [HX.out] at hje
               cases hje
               exact hs
           case measure => simp [intOf]; omega
       · have e : k = n := by omega
         subst e
         go_wp2_with fail
         go_roundw
         case rel =>
           refine ⟨i + 1, by omega, by go_num, fun j m e hj hje => ?_, by trivial⟩
           rcases Nat.lt_or_ge j i with q | q
           · exact NO.out j m e q hje
           · have : j = i := by omega
             subst this
             rw [HR2.out] at hje
             exact NI.out m e (by have := (List.getElem?_eq_some_iff.1 hje).1; rw [HN.out] at this; exact this) hje
         case measure => simp [intOf]; omega
   · have e : i = room := by omega
     subst e
     go_wp2_with fail
     go_ret
     refine ⟨?_, by trivial⟩
     have hbf : b = false := by
       cases b
       · rfl
       · obtain ⟨j, hj, k, e, he, hx⟩ := HB.out.1 rfl
         exact absurd hx (NO.out j k e hj he)
     rw [hbf]
     rfl
def lnkV (S : T) (es : Nat → List Ent) (x room : Nat) : Nat := if (S.n x).kind = 2 then 1 else cntN x es room
set_option maxHeartbeats 400000 in
theorem links18 (wz : World) (h : RtM wz R g room q S es pa ca) (x : Nat) (h1 : 1 ≤ x) (h2 : x ≤ room) :
   Calls Tryz.prog 78 #[.pointer (some ⟨R, 0, none⟩), .int .u32 x] wz fun e w' => e = .returned (.int .i64 (lnkV S es x room)) ∧ w' = wz := by
 have K := Lib.hid (kind18 wz h x h1 h2)
 have hr := h.rm.2
 have h0 := h.topC
 have H := Lib.hid h
 clear h h1 h2
 go_enter Tryz.func78, Tryz.ntmps78
 go_wp2_with fail
 refine Calls.mono K.out ?_
 rintro e w' ⟨rfl, rfl⟩
 by_cases hk : (S.n x).kind = 2
 · have E := Lib.hid (show lnkV S es x room = 1 by unfold lnkV; rw [if_pos hk])
   rw [hk]
   go_wp2_with fail
   go_ret
   exact ⟨by rw [E.out]; rfl, rfl⟩
 have E := Lib.hid (show lnkV S es x room = cntN x es room by unfold lnkV; rw [if_neg hk])
 have t5 : (((S.n x).kind : Int) == 2) = false := by simp; omega
 clear hk
 have QN := Lib.hid (fun i (hi : i ≤ room) => cntN_le x es q i (fun j hj => (H.out.cap j (by omega)).2))
 go_wp2_with fail
 go_loopw [5, 6] (fun s5 s6 wr => ∃ i : Nat, i ≤ room ∧ s6 = .int .i64 i ∧ s5 = .int .i64 (cntN x es i) ∧ wr = w') (fun s5 s6 _ => room - (intOf s6).toNat)
 case atStart => exact ⟨0, Nat.zero_le _, rfl, rfl, rfl⟩
 case round =>
   obtain ⟨i, hi, rfl, rfl, rfl⟩ := hrel
   rcases Nat.lt_or_ge i room with hlt | hge
   · have t1 : (i : Int) < room := by omega
     obtain ⟨c0, c1, c2, c3, f⟩ := H.out.cells hlt
     have hq := (H.out.cap i hlt).2
     have hq2 := H.out.q1
     have HE := Lib.hid (fun (k : Nat) (e : Ent) (he : (es i)[k]? = some e) => H.out.entC hlt he)
     have hcn := QN.out i hi
     have hcm : i * q ≤ 256 * 1000 := Nat.mul_le_mul (by omega) hq2
     have HS : Hid (cntN x es (i + 1) = cntN x es i + cntR x (es i)) := Lib.hid rfl
     obtain ⟨cn, hcn2⟩ : ∃ cn, cntN x es i = cn := ⟨_, rfl⟩
     obtain ⟨r, hr2⟩ : ∃ r, es i = r := ⟨_, rfl⟩
     obtain ⟨p, hp⟩ : ∃ p, pa i = p := ⟨_, rfl⟩
     rw [hr2, hp] at HE c1
     rw [hr2] at hq HS
     rw [hcn2] at hcn HS ⊢
     obtain ⟨n, hn⟩ : ∃ n, r.length = n := ⟨_, rfl⟩
     rw [hn] at hq c1
     have HN := Lib.hid hn
     have HR2 := Lib.hid hr2
     have HCN : Hid (cn ≤ 256000) := Lib.hid (by omega)
     clear c0 c2 c3 f hr2 hp hn hcn2 hcn hcm
     go_wp2_with fail
     go_loopw [5, 7] (fun s5 s7 w2 => ∃ k : Nat, k ≤ n ∧ s7 = .int .i64 k ∧ (∃ c : Nat, c = cn + cntR x (r.take k) ∧ c ≤ 256000 + k ∧ s5 = .int .i64 c) ∧ w2 = wr) (fun s5 s7 _ => n - (intOf s7).toNat)
     case atStart => exact ⟨0, Nat.zero_le _, rfl, ⟨cn, rfl, HCN.out, rfl⟩, rfl⟩
     case round =>
       obtain ⟨k, hk, rfl, ⟨c, hc, hcl, rfl⟩, rfl⟩ := hrel
       have HC := Lib.hid hc
       clear hc
       rcases Nat.lt_or_ge k n with hkl | hkg
       · have t2 : (k : Int) < n := by omega
         obtain ⟨e, he⟩ : ∃ e : Ent, r[k]? = some e := ⟨_, List.getElem?_eq_getElem (by rw [HN.out]; exact hkl)⟩
         obtain ⟨b, rfl, hb1, hb2, d0, d1⟩ := HE.out k e he
         have CT := Lib.hid (cntR_take x he)
         obtain ⟨t, y⟩ := e
         simp only at d0 d1 CT
         have HX := Lib.hid he
         clear he hb2 d0
         by_cases hs : y = x
         · subst hs
           go_wp2_with fail
           go_roundw
           case rel =>
             refine ⟨k + 1, by omega, by go_num, ⟨c + 1, ?_, by omega, by go_num⟩, by trivial⟩
             have := CT.out
             simp only [if_true] at this
             rw [this, HC.out]
             omega
           case measure => simp [intOf]; omega
         · have t3 : ((y : Int) == x) = false := by simp; omega
           go_wp2_with fail
           go_roundw
           case rel =>
             refine ⟨k + 1, by omega, by go_num, ⟨c, ?_, by omega, by go_num⟩, by trivial⟩
             have := CT.out
             simp only [if_neg hs] at this
             rw [this, HC.out]
             omega
           case measure => simp [intOf]; omega
       · have e : k = n := by omega
         subst e
         have hcf : c = cntN x es (i + 1) := by
           have := HC.out
           rw [List.take_of_length_le (by rw [HN.out]; exact Nat.le_refl _)] at this
           rw [HS.out, this]
         go_wp2_with fail
         go_roundw
         case rel => exact ⟨i + 1, by omega, by go_num, by rw [← hcf], by trivial⟩
         case measure => simp [intOf]; omega
   · have e : i = room := by omega
     subst e
     go_wp2_with fail
     go_ret
     exact ⟨by rw [E.out]; rfl, rfl⟩
end Go.Proofs.YtmfhnhnmdeabeaaGreat.Re
end
section
namespace Go.Proofs.YtmfhnhnmdeabeaaGreat.Re
open Go.RowKit Go.Shelf Go.Maps Oct Path Tr
variable {R g room q : Nat} {S : T} {es : Nat → List Ent} {pa : Nat → Option Addr} {ca : Nat → Nat}
def dirE (S : T) (x : Nat) : Nat := if (S.n x).kind = 0 then 3 else if (S.n x).kind = 2 then 0 else 180
def lkE (S : T) (x : Nat) (s : Nm) : Nat := if (S.n x).kind = 0 then 3 else if (S.n x).kind = 2 then (if S.l x s = 0 then 3 else 0) else 180
def lkV (S : T) (x : Nat) (s : Nm) : Nat := if (S.n x).kind = 2 then S.l x s else 0
set_option maxHeartbeats 400000 in
theorem dir18 (W : World) (h : RtM W R g room q S es pa ca) (x : Nat) (hx32 : x < 4294967296) (s : ByteArray) (hs : s.size ≤ maxLen) (hn : isName (L s) = true) :
   Calls Tryz.prog 72 #[.pointer (some ⟨R, 0, none⟩), .int .u32 x, .string s] W fun e w' => e = .returned (.int .i64 (dirE S x)) ∧ w' = W := by
 have H := Lib.hid h
 have HK := Lib.hid (h.rng x)
 have TH := Lib.hid (there18 W h x hx32)
 have NM := Lib.hid (rname_any s W hs)
 rw [hn] at NM
 clear h hn hs
 go_enter Tryz.func72, Tryz.ntmps72
 go_wp2_with fail
 refine Calls.mono NM.out ?_
 rintro e w' ⟨rfl, rfl⟩
 go_wp2_with fail
 refine Calls.mono TH.out ?_
 rintro e w' ⟨rfl, rfl⟩
 by_cases hk : (S.n x).kind = 0
 · have E := Lib.hid (show dirE S x = 3 by unfold dirE; rw [if_pos hk])
   rw [hk]
   go_wp2_with fail
   go_ret
   exact ⟨by rw [E.out]; rfl, rfl⟩
 · have K := Lib.hid (kind18 w' H.out x (HK.out hk).1 (HK.out hk).2)
   have t4 : ((S.n x).kind == 0) = false := by simpa using hk
   rw [t4]
   clear t4
   by_cases h2 : (S.n x).kind = 2
   · have E := Lib.hid (show dirE S x = 0 by unfold dirE; rw [if_neg hk, if_pos h2])
     rw [h2] at K
     clear hk h2
     go_wp2_with fail
     refine Calls.mono K.out ?_
     rintro e w' ⟨rfl, rfl⟩
     go_wp2_with fail
     go_ret
     exact ⟨by rw [E.out]; rfl, rfl⟩
   · have E := Lib.hid (show dirE S x = 180 by unfold dirE; rw [if_neg hk, if_neg h2])
     have t5 : (((S.n x).kind : Int) != 2) = true := by simp; omega
     clear hk h2
     go_wp2_with fail
     refine Calls.mono K.out ?_
     rintro e w' ⟨rfl, rfl⟩
     go_wp2_with fail
     go_ret
     exact ⟨by rw [E.out]; rfl, rfl⟩
set_option maxHeartbeats 400000 in
theorem look18 (W : World) (h : RtM W R g room q S es pa ca) (x : Nat) (hx32 : x < 4294967296) (s : ByteArray) (hs : s.size ≤ maxLen) (hn : isName (L s) = true) :
   Calls Tryz.prog 79 #[.pointer (some ⟨R, 0, none⟩), .int .u32 x, .string s] W fun e w' => e = .returned (.tuple #[.int .u32 (lkV S x (L s)), .int .i64 (lkE S x (L s))]) ∧ w' = W := by
 have H := Lib.hid h
 have HK := Lib.hid (h.rng x)
 have DI := Lib.hid (dir18 W h x hx32 s hs hn)
 have HS := Lib.hid hs
 clear h hn hs
 go_enter Tryz.func79, Tryz.ntmps79
 go_wp2_with fail
 refine Calls.mono DI.out ?_
 rintro e w' ⟨rfl, rfl⟩
 by_cases hk : (S.n x).kind = 0
 · have E := Lib.hid (show lkE S x (L s) = 3 ∧ lkV S x (L s) = 0 by unfold lkE lkV; rw [if_pos hk, if_neg (by omega)]; exact ⟨rfl, rfl⟩)
   rw [show dirE S x = 3 by unfold dirE; rw [if_pos hk]]
   clear hk
   go_wp2_with fail
   go_ret2
   exact ⟨by rw [E.out.1, E.out.2]; rfl, rfl⟩
 · obtain ⟨k1, k2⟩ := HK.out hk
   by_cases h2 : (S.n x).kind = 2
   · have E := Lib.hid (show lkE S x (L s) = (if S.l x (L s) = 0 then 3 else 0) ∧ lkV S x (L s) = S.l x (L s) by unfold lkE lkV; rw [if_neg hk, if_pos h2, if_pos h2]; exact ⟨rfl, rfl⟩)
     rw [show dirE S x = 0 by unfold dirE; rw [if_neg hk, if_pos h2]]
     obtain ⟨i, hx⟩ : ∃ i, x = i + 1 := ⟨x - 1, by omega⟩
     have hi : i < room := by omega
     have AT := Lib.hid (at18 w' H.out x i hx hi s)
     have LI : Hid (Listing (S.l x) (es i)) := Lib.hid (by rw [hx]; exact H.out.rows.lst i hi)
     have hrm := H.out.rm.2
     have w1 := w_sub hx (by omega)
     have h0 := H.out.topC
     obtain ⟨c0, c1, c2, c3, f⟩ := H.out.cellsX hx hi
     have HE := Lib.hid (fun (k : Nat) (e : Ent) (he : (es i)[k]? = some e) => H.out.entC hi he)
     clear hk h2 hx k1 k2 c0 c2 c3 f
     go_wp2_with fail
     refine Calls.mono AT.out ?_
     rintro e w' ⟨k, rfl, ha, rfl⟩
     by_cases hl : S.l x (L s) = 0
     · have := ha.no LI.out HS.out hl
       subst this
       have E2 := Lib.hid hl
       clear ha hl
       go_wp2_with fail
       go_ret2
       exact ⟨by rw [E.out.1, E.out.2, E2.out]; rfl, rfl⟩
     · obtain ⟨m, hm, rfl⟩ := ha.yes LI.out HS.out hl
       have E2 := Lib.hid hl
       obtain ⟨b, hp, hb1, hb2, d0, d1⟩ := HE.out m _ hm
       rw [hp] at c1
       have hml := (List.getElem?_eq_some_iff.1 hm).1
       obtain ⟨n, hn⟩ : ∃ n, (es i).length = n := ⟨_, rfl⟩
       rw [hn] at c1 hml
       have t1 : ((m : Int) < 0) = False := by simp
       clear ha hm hl hn hp hb2 d0
       simp only at d1
       go_wp2_with fail
       go_ret2
       exact ⟨by rw [E.out.1, E.out.2, if_neg E2.out]; rfl, rfl⟩
   · have E := Lib.hid (show lkE S x (L s) = 180 ∧ lkV S x (L s) = 0 by unfold lkE lkV; rw [if_neg hk, if_neg h2, if_neg h2]; exact ⟨rfl, rfl⟩)
     rw [show dirE S x = 180 by unfold dirE; rw [if_neg hk, if_neg h2]]
     clear hk h2
     go_wp2_with fail
     go_ret2
     exact ⟨by rw [E.out.1, E.out.2]; rfl, rfl⟩
theorem freS_no {S : T} {x : Nat} (h : ¬ (x ≠ 1 ∧ ¬ Nam S x ∧ (S.n x).held = 0)) : freS S x = S := by unfold freS; rw [if_neg h]
theorem freS_yes {S : T} {x : Nat} (h : x ≠ 1 ∧ ¬ Nam S x ∧ (S.n x).held = 0) : freS S x = ⟨setN S.n x Nd.no, S.l⟩ := by unfold freS; rw [if_pos h]
set_option maxHeartbeats 400000 in
theorem free18 (wz : World) (h : RtM wz R g room q S es pa ca) (x : Nat) (h1 : 1 ≤ x) (h2 : x ≤ room) (hl : ∀ s, S.l x s = 0) :
   Calls Tryz.prog 85 #[.pointer (some ⟨R, 0, none⟩), .int .u32 x] wz fun e w' => e = .returned (.tuple #[]) ∧ RtA w' R g room q (freS S x) ∧ Tr.Tch (fun b => b = g) wz w' := by
 have H := Lib.hid h
 obtain ⟨i, hx⟩ : ∃ i, x = i + 1 := ⟨x - 1, by omega⟩
 have hi : i < room := by omega
 have hr2 := h.rm.2
 have h0 := h.topC
 have w1 := w_sub hx (by omega)
 have hg := h.g_lt
 obtain ⟨c0, c1, c2, c3, f⟩ := h.cellsX hx hi
 have f0 := f (i * 4)
 have f1 := f (i * 4 + 1)
 have f2 := f (i * 4 + 2)
 have f3 := f (i * 4 + 3)
 have HX := Lib.hid hx
 have HL := Lib.hid hl
 have NA := Lib.hid (fun b (hb : b = true ↔ Nam S x) => named18 wz h x (by omega) b hb)
 clear h hx hl f
 by_cases hx1 : x = 1
 · subst hx1
   rw [freS_no (fun h => h.1 rfl)]
   go_enter Tryz.func85, Tryz.ntmps85
   go_wp2_with fail
   go_end0
   exact ⟨rfl, ⟨es, pa, ca, H.out⟩, Tr.Tch.refl _ _⟩
 · have t1 : ((x : Int) != 1) = true := by simp; omega
   have HX1 := Lib.hid hx1
   clear hx1
   by_cases hn : Nam S x
   · have N := Lib.hid (NA.out true (by simp [hn]))
     rw [freS_no (fun h => h.2.1 hn)]
     clear hn
     go_enter Tryz.func85, Tryz.ntmps85
     go_wp2_with fail
     refine Calls.mono N.out ?_
     rintro e w' ⟨rfl, rfl⟩
     go_wp2_with fail
     go_end0
     exact ⟨rfl, ⟨es, pa, ca, H.out⟩, Tr.Tch.refl _ _⟩
   · have N := Lib.hid (NA.out false (by simp [hn]))
     have HN := Lib.hid hn
     clear hn
     by_cases hh : (S.n x).held = 0
     · rw [freS_yes ⟨HX1.out, HN.out, hh⟩]
       rw [hh] at c3
       clear hh
       go_enter Tryz.func85, Tryz.ntmps85
       go_wp2_with fail
       refine Calls.mono N.out ?_
       rintro e w' ⟨rfl, rfl⟩
       go_wp2_with fail
       go_end0
       have := H.out.put hi Nd.no S.l [] none 0 q ⟨Nat.le_refl _, H.out.q1⟩ (fun _ _ => rfl) (Listing.nil _ (by rw [← HX.out]; exact HL.out)) (fun s hs => absurd (by rw [← HX.out]; exact HL.out s) hs) (.inl ⟨rfl, rfl, rfl⟩) ⟨Nat.zero_le _, Nat.zero_le _⟩ (by decide) (by decide) (by decide)
       rw [← HX.out] at this
       exact ⟨rfl, ⟨_, _, _, this⟩, st4_tch _ _ _ _ _ _ _⟩
     · rw [freS_no (fun h => hh h.2.2)]
       have t3 : (((S.n x).held : Int) == 0) = false := by simp; omega
       clear hh
       go_enter Tryz.func85, Tryz.ntmps85
       go_wp2_with fail
       refine Calls.mono N.out ?_
       rintro e w' ⟨rfl, rfl⟩
       go_wp2_with fail
       go_end0
       exact ⟨rfl, ⟨es, pa, ca, H.out⟩, Tr.Tch.refl _ _⟩
end Go.Proofs.YtmfhnhnmdeabeaaGreat.Re
end
section
namespace Go.Proofs.YtmfhnhnmdeabeaaGreat.Re
open Go.RowKit Go.Shelf Go.Maps Oct Path Tr
variable {R g room q : Nat} {S : T} {es : Nat → List Ent} {pa : Nat → Option Addr} {ca : Nat → Nat}
theorem run_zero18 (n : Nat) (w : World) : (convert 128 9 (.slice (some ⟨w.heap.size, 0, none⟩) n n)).run Tryz.prog (w.alloc (.cells (madeCells #[.int .u8 0] n) 5)) = .ok (.string (B (List.replicate n 0))) (w.alloc (.cells (madeCells #[.int .u8 0] n) 5)) := by
 have r0 := World.rowIs_made w (.int .u8 0) n 5
 have h := run_back (w.alloc (.cells (madeCells #[.int .u8 0] n) 5)) w.heap.size n (List.replicate n 0) _ (by rw [List.length_replicate]; exact r0) (fun j hj => by simp)
 rw [List.length_replicate] at h
 exact h
set_option maxHeartbeats 400000 in
theorem long18 (W : World) (s : ByteArray) (n : Nat) (hs : s.size ≤ 100000) (hn : n ≤ 100000) :
   Calls Tryz.prog 84 #[.string s, .int .i64 n] W fun e w' => e = .returned (.string (B (resz (L s) n))) ∧ Below W.heap.size W w' := by
 have hl := len_L s
 by_cases h : n ≤ s.size
 · have t1 : (n : Int) ≤ s.size := by omega
   have E : Hid (s.extract 0 n = B (resz (L s) n)) := Lib.hid (by
     rw [ex_front]
     unfold resz
     rw [hl, show n - s.size = 0 by omega]
     simp)
   clear hl
   go_enter Tryz.func84, Tryz.ntmps84
   go_wp2_with fail
   go_ret
   exact ⟨by rw [← E.out]; rfl, Below.refl _ _⟩
 · have t1 : ¬ (n : Int) ≤ s.size := by omega
   obtain ⟨m, hm⟩ : ∃ m, n - s.size = m := ⟨_, rfl⟩
   have wz0 : IntKind.i64.wrap ((n : Int) - (s.size : Int)) = (m : Int) := by
     rw [show (n : Int) - (s.size : Int) = (m : Int) by omega]
     exact IntWalk.i64_in _ (by omega)
   have hmk := run_made m (by omega) W
   have hzz := run_zero18 m W
   have hz2 : ¬ 9223372036854775807 < s.size + (B (List.replicate m 0)).size := by rw [size_B, List.length_replicate]; omega
   have E : Hid (s ++ B (List.replicate m 0) = B (resz (L s) n)) := Lib.hid (by
     rw [append_B]
     unfold resz
     rw [hl, hm, List.take_of_length_le (by rw [hl]; omega)]
     rfl)
   clear hl hm h
   go_enter Tryz.func84, Tryz.ntmps84
   go_wp2_with fail
   go_ret
   exact ⟨by rw [← E.out]; rfl, (Below.refl _ _).alloc (Nat.le_refl _) _⟩
def ErAns (g : Nat) (wz : World) (P : Prop) (Fin : World → Prop) (e : Ending) (w' : World) : Prop := ∃ er : Nat, e = .returned (.int .i64 er) ∧ Tr.Tch (fun b => b = g) wz w' ∧ (er = 0 → P ∧ Fin w')
theorem ErAns.no {g : Nat} {wz w' : World} {P : Prop} {Fin : World → Prop} {er : Nat} (h : er ≠ 0) (hT : Tr.Tch (fun b => b = g) wz w') : ErAns g wz P Fin (.returned (.int .i64 er)) w' := ⟨er, rfl, hT, fun e => absurd e h⟩
theorem ErAns.yes {g : Nat} {wz w' : World} {P : Prop} {Fin : World → Prop} (hT : Tr.Tch (fun b => b = g) wz w') (hP : P) (hF : Fin w') : ErAns g wz P Fin (.returned (.int .i64 0)) w' := ⟨0, rfl, hT, fun _ => ⟨hP, hF⟩⟩
theorem filE_ok {S : T} {x : Nat} (hk : (S.n x).kind ≤ 2) (h : filE S x = 0) : (S.n x).kind = 1 := by
 unfold filE at h
 split at h
 · cases h
 · split at h
   · cases h
   · omega
theorem resz_len (s : Nm) (n : Nat) : (resz s n).length = n := by unfold resz; simp; omega
set_option maxHeartbeats 400000 in
theorem resize18 (wz : World) (h : RtM wz R g room q S es pa ca) (x : Nat) (hx32 : x < 4294967296) (size : Nat) (hs : size ≤ 2304) :
   Calls Tryz.prog 42 #[.pointer (some ⟨R, 0, none⟩), .int .u32 x, .int .u32 size] wz (ErAns g wz ((S.n x).kind = 1) fun w' => RtA w' R g room q ⟨setN S.n x { S.n x with data := resz (S.n x).data size }, S.l⟩) := by
 have FI := Lib.hid (file18 wz h x hx32)
 have H := Lib.hid h
 clear h
 go_enter Tryz.func42, Tryz.ntmps42
 go_wp2_with fail
 refine Calls.mono FI.out ?_
 rintro e w' ⟨rfl, rfl⟩
 by_cases hf : filE S x = 0
 · have hk := filE_ok (H.out.kd x) hf
   have HK := Lib.hid hk
   obtain ⟨k1, k2⟩ := H.out.rng x (by omega)
   obtain ⟨i, hx⟩ : ∃ i, x = i + 1 := ⟨x - 1, by omega⟩
   have hi : i < room := by omega
   have hrm := H.out.rm.2
   have w1 := w_sub hx (by omega)
   have h0 := H.out.topC
   obtain ⟨c0, c1, c2, c3, f⟩ := H.out.cellsX hx hi
   have LO := Lib.hid (long18 w' (B (S.n x).data) size (by have := H.out.dt x; rw [size_B]; omega) (by omega))
   have PU := Lib.hid (fun (W : World) (hb : Below w'.heap.size w' W) => put18 W (H.out.later hb) x i hx hi (resz (S.n x).data size) (by rw [resz_len]; exact hs))
   rw [hf]
   have t2 : ¬ (2304 : Int) < size := by omega
   have t3 : IntKind.i64.wrap (size : Int) = size := IntWalk.i64_in _ (by omega)
   clear hf hk hx c0 c1 c3 f k1 k2
   go_wp2_with fail
   refine Calls.mono LO.out ?_
   rintro e w2 ⟨rfl, hb⟩
   rw [L_B]
   have B2 := Lib.hid hb
   clear hb
   go_wp2_with fail
   refine Calls.mono (PU.out w2 B2.out) ?_
   rintro e w3 ⟨rfl, hA, hT⟩
   go_wp2_with fail
   go_ret
   exact ErAns.yes ((Tr.Tch.of B2.out).trans hT) HK.out hA
 · have t1 : ((filE S x : Int) != 0) = true := by simp; omega
   have HF := Lib.hid hf
   clear hf
   go_wp2_with fail
   go_ret
   exact ErAns.no HF.out (Tr.Tch.refl _ _)
set_option maxHeartbeats 400000 in
theorem hold18 (wz : World) (h : RtM wz R g room q S es pa ca) (x : Nat) (hx32 : x < 4294967296) (hh : (S.n x).held = 0) :
   Calls Tryz.prog 38 #[.pointer (some ⟨R, 0, none⟩), .int .u32 x] wz (ErAns g wz ((S.n x).kind = 1) fun w' => RtA w' R g room q ⟨setN S.n x { S.n x with held := 1 }, S.l⟩) := by
 have FI := Lib.hid (file18 wz h x hx32)
 have H := Lib.hid h
 have HH := Lib.hid hh
 clear h hh
 go_enter Tryz.func38, Tryz.ntmps38
 go_wp2_with fail
 refine Calls.mono FI.out ?_
 rintro e w' ⟨rfl, rfl⟩
 by_cases hf : filE S x = 0
 · have hk := filE_ok (H.out.kd x) hf
   have HK := Lib.hid hk
   obtain ⟨k1, k2⟩ := H.out.rng x (by omega)
   obtain ⟨i, hx⟩ : ∃ i, x = i + 1 := ⟨x - 1, by omega⟩
   have hi : i < room := by omega
   have hrm := H.out.rm.2
   have w1 := w_sub hx (by omega)
   have h0 := H.out.topC
   have hg := H.out.g_lt
   have hR := H.out.top.lt
   obtain ⟨c0, c1, c2, c3, f⟩ := H.out.cellsX hx hi
   have f0 := f (i * 4)
   have f1 := f (i * 4 + 1)
   have f2 := f (i * 4 + 2)
   have f3 := f (i * 4 + 3)
   have FIN := Lib.hid (H.out.put hi { S.n x with held := 1 } S.l (es i) (pa i) (ca i) q ⟨Nat.le_refl _, H.out.q1⟩ (fun _ _ => rfl) (H.out.rows.lst i hi) (fun t ht => (H.out.rows.nm _ t ht).2.2) (H.out.row i hi) (H.out.cap i hi) (H.out.kd x) (H.out.dt x) (Nat.le_refl _))
   rw [← hx] at FIN
   rw [hf]
   rw [HH.out] at c3
   clear hf hk hx f k1 k2
   go_wp2_with fail
   go_region
   all_goals go_wp2_with fail
   all_goals go_ret
   all_goals exact ErAns.yes ((st4_tch _ _ _ _ _ _ _).trans (Tr.Tch.of (((Below.refl _ _).alloc (Nat.le_refl _) _).drew))) HK.out ⟨_, _, _, FIN.out.later (((Below.refl _ _).alloc (Nat.le_refl _) _).drew)⟩
 · have t1 : ((filE S x : Int) != 0) = true := by simp; omega
   have HF := Lib.hid hf
   clear hf
   go_wp2_with fail
   go_ret
   exact ErAns.no HF.out (Tr.Tch.refl _ _)
end Go.Proofs.YtmfhnhnmdeabeaaGreat.Re
end
section
namespace Go.Proofs.YtmfhnhnmdeabeaaGreat.Re
open Go.RowKit Go.Shelf Go.Maps Oct Path Tr
variable {R g room q : Nat} {S : T} {es : Nat → List Ent} {pa : Nat → Option Addr} {ca : Nat → Nat}
set_option maxHeartbeats 400000 in
theorem drop18 (wz : World) (h : RtM wz R g room q S es pa ca) (x : Nat) (hx32 : x < 4294967296) (hno : ∀ s, S.l x s = 0) :
   Calls Tryz.prog 45 #[.pointer (some ⟨R, 0, none⟩), .int .u32 x] wz (ErAns g wz ((S.n x).kind ≠ 0 ∧ (S.n x).held ≠ 0) fun w' => RtA w' R g room q (freS ⟨setN S.n x { S.n x with held := 0 }, S.l⟩ x)) := by
 have TH := Lib.hid (there18 wz h x hx32)
 have H := Lib.hid h
 have HN := Lib.hid hno
 clear h hno
 go_enter Tryz.func45, Tryz.ntmps45
 go_wp2_with fail
 refine Calls.mono TH.out ?_
 rintro e w' ⟨rfl, rfl⟩
 by_cases hk : (S.n x).kind = 0
 · rw [hk]
   go_wp2_with fail
   go_ret
   exact ErAns.no (by decide) (Tr.Tch.refl _ _)
 · have HK := Lib.hid hk
   obtain ⟨k1, k2⟩ := H.out.rng x hk
   obtain ⟨i, hx⟩ : ∃ i, x = i + 1 := ⟨x - 1, by omega⟩
   have hi : i < room := by omega
   have hrm := H.out.rm.2
   have w1 := w_sub hx (by omega)
   have h0 := H.out.topC
   have hg := H.out.g_lt
   have hR := H.out.top.lt
   obtain ⟨c0, c1, c2, c3, f⟩ := H.out.cellsX hx hi
   have f0 := f (i * 4)
   have f1 := f (i * 4 + 1)
   have f2 := f (i * 4 + 2)
   have f3 := f (i * 4 + 3)
   have FIN := Lib.hid (H.out.put hi { S.n x with held := 0 } S.l (es i) (pa i) (ca i) q ⟨Nat.le_refl _, H.out.q1⟩ (fun _ _ => rfl) (H.out.rows.lst i hi) (fun t ht => (H.out.rows.nm _ t ht).2.2) (H.out.row i hi) (H.out.cap i hi) (H.out.kd x) (H.out.dt x) (Nat.zero_le _))
   rw [← hx] at FIN
   have hd1 := H.out.hd x
   have t4 : ((S.n x).kind == 0) = false := by simpa using hk
   rw [t4]
   clear t4 hk hx f
   by_cases hh : (S.n x).held = 0
   · rw [hh] at c3
     clear hh
     go_wp2_with fail
     go_ret
     exact ErAns.no (by decide) (Tr.Tch.refl _ _)
   · have e1 : (S.n x).held = 1 := by omega
     have HH := Lib.hid hh
     rw [e1] at c3
     have FR := Lib.hid (fun W (hb : Below _ _ W) => free18 W (FIN.out.later hb) x k1 k2 HN.out)
     clear hh e1 hd1
     go_wp2_with fail
     go_region
     go_wp2_with fail
     refine Calls.mono (FR.out _ (((Below.refl _ _).alloc (Nat.le_refl _) _).drew)) ?_
     rintro e w5 ⟨rfl, hA, hT⟩
     go_wp2_with fail
     go_ret
     exact ErAns.yes (((st4_tch _ _ _ _ _ _ _).trans (Tr.Tch.of (((Below.refl _ _).alloc (Nat.le_refl _) _).drew))).trans hT) ⟨HK.out, HH.out⟩ hA
theorem wr_len {s : Nm} {p : Nat} {d : Nm} (hs : s.length ≤ 2304) (hp : p < 36) (hd : d.length = 64) : (wr s p d).length ≤ 2304 := by
 unfold wr
 simp only [List.length_append, List.length_take, List.length_drop, resz_len, hd]
 omega
set_option maxHeartbeats 400000 in
theorem write18 (wz : World) (h : RtM wz R g room q S es pa ca) (x : Nat) (hx32 : x < 4294967296) (page : Nat) (hp : page < 36) (d : ByteArray) (hd : d.size = 64) :
   Calls Tryz.prog 43 #[.pointer (some ⟨R, 0, none⟩), .int .u32 x, .int .i64 page, .string d] wz (ErAns g wz ((S.n x).kind = 1) fun w' => RtA w' R g room q ⟨setN S.n x { S.n x with data := wr (S.n x).data page (L d) }, S.l⟩) := by
 have FI := Lib.hid (file18 wz h x hx32)
 have H := Lib.hid h
 clear h
 go_enter Tryz.func43, Tryz.ntmps43
 go_wp2_with fail
 refine Calls.mono FI.out ?_
 rintro e w' ⟨rfl, rfl⟩
 by_cases hf : filE S x = 0
 · have hk := filE_ok (H.out.kd x) hf
   have HK := Lib.hid hk
   obtain ⟨k1, k2⟩ := H.out.rng x (by omega)
   obtain ⟨i, hx⟩ : ∃ i, x = i + 1 := ⟨x - 1, by omega⟩
   have hi : i < room := by omega
   have hrm := H.out.rm.2
   have w1 := w_sub hx (by omega)
   have h0 := H.out.topC
   obtain ⟨c0, c1, c2, c3, f⟩ := H.out.cellsX hx hi
   have hdt := H.out.dt x
   obtain ⟨s, hs⟩ : ∃ s, (S.n x).data = s := ⟨_, rfl⟩
   rw [hs] at c2 hdt
   obtain ⟨fr, hfr⟩ : ∃ fr, page * 64 = fr := ⟨_, rfl⟩
   obtain ⟨tt, hto⟩ : ∃ tt, fr + 64 = tt := ⟨_, rfl⟩
   obtain ⟨mx, hmx⟩ : ∃ mx, max s.length tt = mx := ⟨_, rfl⟩
   have LO := Lib.hid (long18 w' (B s) mx (by rw [size_B]; omega) (by omega))
   rw [L_B] at LO
   obtain ⟨u, hu⟩ : ∃ u, resz s mx = u := ⟨_, rfl⟩
   rw [hu] at LO
   have ul : u.length = mx := by rw [← hu, resz_len]
   have E : Hid (wr (S.n x).data page (L d) = u.take fr ++ L d ++ u.drop tt) := Lib.hid (by
     unfold wr
     rw [hs, len_L, hd, hfr, hto, hmx, hu])
   have PU := Lib.hid (fun (W : World) (hb : Below w'.heap.size w' W) => put18 W (H.out.later hb) x i hx hi (wr (S.n x).data page (L d)) (wr_len (by rw [hs]; exact hdt) hp hd))
   rw [E.out] at PU
   have EX1 : (B u).extract 0 fr = B (u.take fr) := by rw [ex_front, L_B]
   have EX2 : (B u).extract tt mx = B (u.drop tt) := by
     have := ex_rest (B u) tt
     rw [size_B, ul, L_B] at this
     exact this
   have t2 : (page : Int) < 36 := by omega
   have t3 : IntKind.i64.wrap ((page : Int) * 64) = fr := by rw [show (page : Int) * 64 = (fr : Int) by omega]; exact IntWalk.i64_in _ (by omega)
   have t4 : IntKind.i64.wrap ((fr : Int) + 64) = (tt : Int) := by rw [show (fr : Int) + 64 = (tt : Int) by omega]; exact IntWalk.i64_in _ (by omega)
   have T5 : Hid (max ((s.length : Nat) : Int) (tt : Int) = (mx : Int)) := Lib.hid (by omega)
   rw [hf]
   have sB := size_B s
   have sU := size_B u
   rw [ul] at sU
   have hm1 : tt ≤ mx := by omega
   have hm2 : fr ≤ mx := by omega
   have hm3 : (tt : Int) ≤ mx := by omega
   have hm4 : (fr : Int) ≤ mx := by omega
   have hz1 : ¬ 9223372036854775807 < (B (u.take fr)).size + 64 := by rw [size_B, List.length_take]; omega
   have hz2 : ¬ 9223372036854775807 < (B (u.take fr) ++ d).size + (B (u.drop tt)).size := by rw [ByteArray.size_append, size_B, size_B, List.length_take, List.length_drop, hd]; omega
   have hz3 : ¬ 9223372036854775807 < (B (u.take fr)).size + 64 + (B (u.drop tt)).size := by rw [size_B, size_B, List.length_take, List.length_drop]; omega
   have EF : Hid (B (u.take fr) ++ d ++ B (u.drop tt) = B (u.take fr ++ L d ++ u.drop tt)) := Lib.hid (by rw [append_B, append_B, L_B, L_B, L_B])
   clear hf hk hx c0 c1 c3 f k1 k2 hs hu ul hmx hfr hto
   go_wp2_with fail
   rw [T5.out]
   refine Calls.mono LO.out ?_
   rintro e w2 ⟨rfl, hb⟩
   have B2 := Lib.hid hb
   clear hb
   go_wp2_with fail
   go_still_tail 11, (by kernel_rfl)
   change wpList _ _ _ _ _ w2.drew
   have B3 := Lib.hid (B2.out.drew)
   generalize w2.drew = w3 at B3 ⊢
   go_wp2_with fail
   rw [EF.out]
   refine Calls.mono (PU.out w3 B3.out) ?_
   rintro e w4 ⟨rfl, hA, hT⟩
   go_wp2_with fail
   go_ret
   rw [← E.out] at hA
   exact ErAns.yes ((Tr.Tch.of B3.out).trans hT) HK.out hA
 · have t1 : ((filE S x : Int) != 0) = true := by simp; omega
   have HF := Lib.hid hf
   clear hf
   go_wp2_with fail
   go_ret
   exact ErAns.no HF.out (Tr.Tch.refl _ _)
end Go.Proofs.YtmfhnhnmdeabeaaGreat.Re
end
