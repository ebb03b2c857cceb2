/- The law of layer 32: DurableKeeps. -/
import Derived.Test.YtmfhnhnmdeabeaaGreatM52
import Derived.Test.YtmfhnhnmdeabeaaGreatM49
import Derived.Test.YtmfhnhnmdeabeaaGreatM36
set_option linter.unusedVariables false
set_option linter.unusedSimpArgs false
set_option maxRecDepth 100000
section
namespace Go.Proofs.YtmfhnhnmdeabeaaGreat.Re
open Go.RowKit Go.Shelf Go.Maps Oct Path Tr
theorem RwR.lv {W : World} {p : Option Addr} {rs : List Rw} (h : RwR W p rs) (hm : ∀ r ∈ rs, 0 ≤ r.page) (h0 : 0 < W.heap.size) : ∃ g o, g < W.heap.size ∧ LV W p g o (rs.map Rw.rc) := by
 cases rs with
 | nil => exact ⟨0, 0, h0, fun hn => absurd rfl hn⟩
 | cons r0 rest =>
   obtain ⟨g, o, rfl, hg, _⟩ := h 0 r0 rfl
   refine ⟨g, o, hg, fun _ => ⟨rfl, ⟨fun i x hx j c hc => ?_, hg⟩⟩⟩
   rw [List.getElem?_map] at hx
   obtain ⟨r, hr, rfl⟩ := Option.map_eq_some_iff.1 hx
   obtain ⟨g', o', e, _, hcell⟩ := h i r hr
   cases e
   refine hcell j c ?_
   rw [rwC_rc (hm r (List.mem_of_getElem? hr))]
   exact hc
theorem info_W : (Tryz.prog.info? 36).map (fun i => (i.zero, i.size, i.bytes)) = some (some (.int .u64 0), 1, 8) := by kernel_rfl
def encW (k : Nat) : Value := .int .u64 k
theorem StV.own {W : World} {base : Nat} {v : Value} {st : List Nat} (h : W.ownsRow base 36 1 v st.length (st.map encW)) : ∃ p cap, v = .slice p st.length cap ∧ StV W p st := by
 have h0 := h
 rcases h.2 with ⟨rfl, e⟩ | ⟨g, cap, cur, rfl, h1, h2, h3, h4, _⟩
 · exact ⟨none, 0, by rw [e], fun hn => absurd (List.eq_nil_of_length_eq_zero e) hn⟩
 · refine ⟨_, cap, rfl, fun _ => ⟨g, 0, rfl, (Array.getElem?_eq_some_iff.1 h2).1, fun j x hj => ?_⟩⟩
   have hjl := (List.getElem?_eq_some_iff.1 hj).1
   rw [Nat.zero_add, h0.cellAt j (by omega)]
   simp [hj, encW]
structure Row32 (nn : Nat) (xs : List Rc) (n cap : Nat) : Prop where
 may : ∀ r ∈ xs, May r
 tr : ∀ r ∈ xs, Tr.May r
 len : xs.length = n
 n30 : n ≤ 30
 cap : n ≤ cap
 pl : Plays nn xs rootT
 h2 : 2 ≤ nn ∧ nn ≤ 256
set_option maxHeartbeats 1000000 in
theorem law32 (wz : World) (i8 : Nat) (hi8 : i8 < 256) (rs : List Rw) (hIn : ∀ r ∈ rs, r.In) (p : Option Addr) (cap : Nat) (hR : RwR wz p rs) (hcap : rs.length ≤ cap) (hl : rs.length ≤ 9223372036854775807) (st : List Nat) (ps : Option Addr) (cs : Nat) (hS : StV wz ps st) :
   Calls Tryz.prog 3 #[.int .u8 i8, .slice p rs.length cap, .slice ps st.length cs] wz fun e w' => e = .returned (.bool true) ∧ Below wz.heap.size wz w' := by
 have AL := Lib.hid (fun W => alive_ok W)
 have LG := Lib.hid (long_any wz rs p cap hR hl)
 have HR := Lib.hid hR
 have HS := Lib.hid hS
 obtain ⟨k, hk⟩ : ∃ k, i8 % 20 = k := ⟨_, rfl⟩
 obtain ⟨nn, hnn⟩ : ∃ nn, 2 + k = nn := ⟨_, rfl⟩
 have NB : Hid (2 ≤ nn ∧ nn ≤ 256) := Lib.hid (by omega)
 have PL := Lib.hid (fun W hb (hl : rs.length ≤ 100) => plays25 W rs hIn p cap (hR.later hb) hl nn NB.out.1 NB.out.2)
 have tm : Int.tmod (i8 : Int) 20 = (k : Int) := by
   rw [Int.tmod_eq_emod_of_nonneg (Int.natCast_nonneg _)]
   omega
 have wa : IntKind.i64.wrap (i8 : Int) = i8 := IntWalk.i64_in _ (by omega)
 have wb : IntKind.i64.wrap (2 + (k : Int)) = (nn : Int) := by rw [show 2 + (k : Int) = (nn : Int) by omega]; exact IntWalk.i64_in _ (by omega)
 obtain ⟨n, hn⟩ : ∃ n, rs.length = n := ⟨_, rfl⟩
 obtain ⟨m, hm⟩ : ∃ m, st.length = m := ⟨_, rfl⟩
 rw [hn] at hcap hl LG PL ⊢
 rw [hm]
 have HN := Lib.hid hn
 have HM := Lib.hid hm
 clear hR hS hIn hk hnn hn hm
 go_enter Tryz.func3, Tryz.ntmps3
 go_wp2_with fail
 refine Calls.mono LG.out ?_
 rintro e w1 ⟨⟨b, rfl⟩, hb⟩
 have B1 := Lib.hid hb
 clear hb
 cases b
 case true =>
   go_wp2_with fail
   refine Calls.mono (AL.out _) ?_
   rintro e w9 ⟨rfl, hb⟩
   have B9 := Lib.hid (B1.out.trans (hb.mono B1.out.size))
   clear hb
   go_wp2_with fail
   go_ret
   exact ⟨rfl, B9.out⟩
 rcases Nat.lt_or_ge 30 n with h30 | h30
 · have t1 : (30 : Int) < n := by omega
   go_wp2_with fail
   refine Calls.mono (AL.out _) ?_
   rintro e w9 ⟨rfl, hb⟩
   have B9 := Lib.hid (B1.out.trans (hb.mono B1.out.size))
   clear hb
   go_wp2_with fail
   go_ret
   exact ⟨rfl, B9.out⟩
 have t1 : ¬ (30 : Int) < n := by omega
 rcases Nat.lt_or_ge 20 m with h20 | h20
 · have t2 : (20 : Int) < m := by omega
   go_wp2_with fail
   refine Calls.mono (AL.out _) ?_
   rintro e w9 ⟨rfl, hb⟩
   have B9 := Lib.hid (B1.out.trans (hb.mono B1.out.size))
   clear hb
   go_wp2_with fail
   go_ret
   exact ⟨rfl, B9.out⟩
 have t2 : ¬ (20 : Int) < m := by omega
 go_wp2_with fail
 refine Calls.mono (PL.out _ B1.out (by omega)) ?_
 rintro e w2 ⟨b, rfl, hb, hB⟩
 have B2 := Lib.hid (B1.out.trans (hB.mono B1.out.size))
 have HB := Lib.hid hb
 clear hb hB PL
 cases b
 · go_wp2_with fail
   refine Calls.mono (AL.out _) ?_
   rintro e w9 ⟨rfl, hb⟩
   have B9 := Lib.hid (B2.out.trans (hb.mono B2.out.size))
   clear hb
   go_wp2_with fail
   go_ret
   exact ⟨rfl, B9.out⟩
 obtain ⟨hmay, hplay⟩ := HB.out rfl
 have RR : Hid (Row32 nn (rs.map Rw.rc) n cap) := Lib.hid {
   may := fun r hr => by obtain ⟨x, hx, rfl⟩ := List.mem_map.1 hr; exact (hmay x hx).1
   tr := fun r hr => by obtain ⟨x, hx, rfl⟩ := List.mem_map.1 hr; exact may_tr (hmay x hx).1
   len := by rw [List.length_map, HN.out]
   n30 := h30
   cap := hcap
   pl := hplay
   h2 := NB.out }
 have PG := Lib.hid (fun r hr => (hmay r hr).2)
 have ST20 : Hid (st.length ≤ 20) := Lib.hid (by rw [HM.out]; exact h20)
 clear hmay hplay HB wa tm wb t1 t2
 go_wp2_with fail
 refine Calls.mono (new_any nn w2 NB.out.1 NB.out.2) ?_
 rintro e w3 ⟨E1, rfl, hT, hO, hb⟩
 have B3 := Lib.hid (B2.out.trans (hb.mono B2.out.size))
 have T3 := Lib.hid hT
 have hsz : 0 < w3.heap.size := by have := hT.top.lt; omega
 obtain ⟨g, o, hg, hLV⟩ := RwR.lv (HR.out.later B3.out) PG.out hsz
 obtain ⟨xs, hxs⟩ : ∃ xs, rs.map Rw.rc = xs := ⟨_, rfl⟩
 rw [hxs] at RR hLV
 have L3 := Lib.hid hLV
 have G3 := Lib.hid hg
 have S3 := Lib.hid (HS.out.later B3.out)
 have IV := Lib.hid (inv_root NB.out.1)
 have XL := Lib.hid RR.out.len
 have X100 : Hid (xs.length ≤ 100) := Lib.hid (by rw [RR.out.len]; have := RR.out.n30; omega)
 have S1000 : Hid (st.length ≤ 1000) := Lib.hid (by have := ST20.out; omega)
 have KO := Lib.hid (kept_ok xs RR.out.may X100.out st S1000.out p ps g o cap cs (by rw [XL.out]; exact RR.out.cap) w3 hg hLV (HS.out.later B3.out))
 rw [XL.out, HM.out] at KO
 clear hT hO hb hsz hg hLV hxs PG
 go_wp2_with fail
 refine Calls.mono KO.out ?_
 rintro e w4 ⟨v, rfl, hv, hb⟩
 obtain ⟨K, hK⟩ : ∃ K, keptL (maskK st xs) = K := ⟨_, rfl⟩
 have HK := Lib.hid hK
 rw [hK] at hv
 obtain ⟨p4, cap4, g4, rfl, hcap4, hL4, hg4⟩ := LV.own hv
 have KP : Hid (Plays nn K rootT) := Lib.hid (by rw [← hK]; exact kept_all IV.out RR.out.pl st)
 have KM : Hid (∀ r ∈ K, May r) := Lib.hid (fun r hr => RR.out.may r (kept_sub (by rw [hK]; exact hr)))
 have KL : Hid (K.length ≤ 100) := Lib.hid (by rw [← hK]; exact Nat.le_trans (kept_len st xs) X100.out)
 have B4 := Lib.hid (B3.out.trans (hb.mono B3.out.size))
 have T4 := Lib.hid (T3.out.later hb)
 have L4 := Lib.hid (LV.later L3.out hb)
 have G4 := Lib.hid (Nat.lt_of_lt_of_le G3.out hb.size)
 have S4 := Lib.hid (S3.out.later hb)
 have P4 := Lib.hid (durPlay_ok w4 T4.out NB.out.1 K KP.out KM.out KL.out p4 g4 0 cap4 hL4)
 have Q4 := Lib.hid hL4
 have GG4 := Lib.hid hg4
 clear hv hb hK hL4 hg4 hcap4 KO T3 L3 G3 S3
 go_wp2_with fail
 refine Calls.mono P4.out ?_
 rintro e w5 ⟨E5, q5, rfl, hT, hO, hb⟩
 have B5 := Lib.hid (B4.out.trans (hb.mono B4.out.size))
 have T5 := Lib.hid (T4.out.later hb)
 have U5 := Lib.hid hT
 have L5 := Lib.hid (LV.later L4.out hb)
 have G5 := Lib.hid (Nat.lt_of_lt_of_le G4.out hb.size)
 have S5 := Lib.hid (S4.out.later hb)
 have GG5 : Hid (g4 < w5.heap.size) := Lib.hid (by have := hO E5.t hT.own.1; have := GG4.out; omega)
 have Q5 : Hid (LV w5 p4 g4 0 K) := Lib.hid (fun hn => ⟨(Q4.out hn).1, (Q4.out hn).2.later hb⟩)
 have CL := Lib.hid (rclosed32_ok w5 xs RR.out.may RR.out.tr X100.out p p4 g o cap g4 0 cap4 L5.out G5.out st (by rw [HK.out]; exact Q5.out) GG5.out)
 rw [HK.out, XL.out] at CL
 clear hT hO hb P4 T4 L4 G4 S4 Q4 GG4
 go_wp2_with fail
 refine Calls.mono CL.out ?_
 rintro e w6 ⟨rfl, hb⟩
 have B6 := Lib.hid (B5.out.trans (hb.mono B5.out.size))
 have T6 := Lib.hid (T5.out.later hb)
 have U6 := Lib.hid (U5.out.later hb)
 have L6 := Lib.hid (LV.later L5.out hb)
 have G6 := Lib.hid (Nat.lt_of_lt_of_le G5.out hb.size)
 have S6 := Lib.hid (S5.out.later hb)
 have IK : Hid (Inv nn (ridT (run K rootT))) := Lib.hid (inv_dropAll (inv_run IV.out KP.out) _)
 have HY := page_state IV.out RR.out.pl RR.out.tr st (by rw [HK.out]; exact U6.out.dt)
 rw [HK.out] at HY
 have PA := Lib.hid (paged_ok w6 U6.out IK.out T6.out NB.out.1 xs RR.out.pl RR.out.may X100.out p g o cap G6.out L6.out HY)
 rw [XL.out] at PA
 clear hb HY CL T5 U5 L5 G5 S5 Q5 GG5
 go_wp2_with fail
 refine Calls.mono PA.out ?_
 rintro e w7 ⟨rfl, hb⟩
 have B7 := Lib.hid (B6.out.trans (hb.mono B6.out.size))
 have T7 := Lib.hid (T6.out.later hb)
 have U7 := Lib.hid (U6.out.later hb)
 have L7 := Lib.hid (LV.later L6.out hb)
 have G7 := Lib.hid (Nat.lt_of_lt_of_le G6.out hb.size)
 have S7 := Lib.hid (S6.out.later hb)
 have EX := Lib.hid (explains_ok (EB := E5) (qB := q5) w7 T7.out NB.out.1 xs RR.out.pl RR.out.may X100.out st S1000.out p ps g o cap cs (by rw [XL.out]; exact RR.out.cap) G7.out L7.out S7.out (by rw [HK.out]; exact U7.out))
 rw [XL.out, HM.out] at EX
 clear hb PA T6 U6 L6 G6 S6
 go_wp2_with fail
 refine Calls.mono EX.out ?_
 rintro e w8 ⟨rfl, hb⟩
 have B8 := Lib.hid (B7.out.trans (hb.mono B7.out.size))
 have T8 := Lib.hid (T7.out.later hb)
 have L8 := Lib.hid (LV.later L7.out hb)
 have G8 := Lib.hid (Nat.lt_of_lt_of_le G7.out hb.size)
 clear hb EX T7 U7 L7 G7 S7
 have h30 := RR.out.n30
 obtain ⟨i0, hi0, hz⟩ := Option.map_eq_some_iff.1 info_W
 have hz0 : i0.zero = some (.int .u64 0) := congrArg (fun t => t.1) hz
 have hz1 : i0.size = 1 := congrArg (fun t => t.2.1) hz
 have hz2 : i0.bytes = 8 := congrArg (fun t => t.2.2) hz
 clear hz
 go_wp2_with fail
 go_loopw [13, 14] (fun s13 s14 wr => ∃ i : Nat, i ≤ n ∧ s14 = .int .i64 i ∧ wr.ownsRow w8.heap.size 36 1 s13 (xs.take i).length (((xs.take i).map (·.stamp)).map encW) ∧ Below w8.heap.size w8 wr) (fun s13 s14 _ => n - (intOf s14).toNat)
 case atStart => exact ⟨0, Nat.zero_le _, rfl, World.ownsRow_nil _ _ _ _, Below.refl _ _⟩
 case round =>
   obtain ⟨i, hi, rfl, hO, hB⟩ := hrel
   have OO := Lib.hid hO
   have BB := Lib.hid hB
   clear hO hB
   rcases Nat.lt_or_ge i n with hlt | hge
   · have t1 : (i : Int) < n := by omega
     obtain ⟨x, hx⟩ : ∃ x, xs[i]? = some x := ⟨_, List.getElem?_eq_getElem (by rw [XL.out]; exact hlt)⟩
     obtain ⟨rfl, l1, A⟩ := (LV.below L8.out G8.out BB.out).at12 hx
     have a0 := A.c0
     have PT : Hid (xs.take (i + 1) = xs.take i ++ [x]) := Lib.hid (take_snoc hx)
     have LT : Hid ((xs.take i).length = i) := Lib.hid (by rw [List.length_take, XL.out]; omega)
     have hlt2 := LT.out
     clear A hx
     go_wp2_with (at_builtin; go_must (refine wpList_append_lies _ rfl _ _ 23 rfl w8.heap.size 36 i0 (.int .u64 0) 1 8 Tryz.underlying23 hi0 hz0 hz1 hz2 rfl (by decide) _ _ _ rfl (OO.out.alloc _) ⟨wr.heap.size, 0, none⟩ 1 1 [.int .u64 x.stamp] rfl rfl (news_box (SBox.new wr 36 #[.int .u64 x.stamp])) (by intro u hu; simp at hu; subst hu; rfl) (by decide) (by unfold maxLen; omega) (by omega) (by have := BB.out.size; simp; omega) _ rfl ?_; intro g3 cap3 W3 hown hgrow _ _; have O3 := Lib.hid hown; have B3' := Lib.hid ((BB.out.alloc BB.out.size (.cells #[.int .u64 x.stamp] 36)).grown hgrow (by have := BB.out.size; simp; omega) (fun q e => (OO.out.lt q e).1)); clear hown hgrow))
     go_roundw
     case rel =>
       refine ⟨i + 1, by omega, by go_num, ?_, B3'.out⟩
       have h3 := O3.out
       rw [LT.out] at h3
       rw [PT.out, List.length_append, LT.out, List.map_append, List.map_append]
       exact h3
     case measure => simp [intOf]; omega
   · have e : i = n := by omega
     subst e
     have hO := OO.out
     rw [List.take_of_length_le (by rw [XL.out]; exact Nat.le_refl _)] at hO
     obtain ⟨sts, hsts⟩ : ∃ sts, xs.map (·.stamp) = sts := ⟨_, rfl⟩
     have hsl : sts.length = xs.length := by rw [← hsts, List.length_map]
     rw [hsts, ← hsl] at hO
     obtain ⟨p9, cap9, rfl, hS9⟩ := StV.own hO
     have SL : Hid (sts.length = i) := Lib.hid (by rw [hsl, XL.out])
     have S9 := Lib.hid hS9
     have EVE : Hid (keptL (maskK sts xs) = xs) := Lib.hid (kept_every sts xs fun r hr => by rw [← hsts]; exact List.mem_map_of_mem hr)
     have S1001 : Hid (sts.length ≤ 1000) := Lib.hid (by rw [SL.out]; omega)
     rw [SL.out]
     have B9 := Lib.hid (B8.out.trans (BB.out.mono B8.out.size))
     have T9 := Lib.hid (T8.out.later BB.out)
     have L9 := Lib.hid (LV.later L8.out BB.out)
     have G9 := Lib.hid (Nat.lt_of_lt_of_le G8.out BB.out.size)
     have P9 := Lib.hid (durPlay_ok wr T9.out NB.out.1 xs RR.out.pl RR.out.may X100.out p g o cap L9.out)
     rw [XL.out] at P9
     clear hO hsts hsl hS9
     go_wp2_with fail
     refine Calls.mono P9.out ?_
     rintro e w10 ⟨EB, qB, rfl, hT, hO, hb⟩
     have B10 := Lib.hid (B9.out.trans (hb.mono B9.out.size))
     have T10 := Lib.hid (T9.out.later hb)
     have U10 := Lib.hid hT
     have L10 := Lib.hid (LV.later L9.out hb)
     have G10 := Lib.hid (Nat.lt_of_lt_of_le G9.out hb.size)
     have S10 := Lib.hid (S9.out.later hb)
     have KO := Lib.hid (kept_ok xs RR.out.may X100.out sts S1001.out p p9 g o cap cap9 (by rw [XL.out]; exact RR.out.cap) w10 G10.out L10.out S10.out)
     rw [XL.out, SL.out, EVE.out] at KO
     clear hT hO hb P9 T9 L9 G9 S9
     go_wp2_with fail
     refine Calls.mono KO.out ?_
     rintro e w11 ⟨v, rfl, hv, hb⟩
     obtain ⟨p11, cap11, g11, rfl, hcap11, hL11, hg11⟩ := LV.own hv
     have B11 := Lib.hid (B10.out.trans (hb.mono B10.out.size))
     have T11 := Lib.hid (T10.out.later hb)
     have U11 := Lib.hid (U10.out.later hb)
     have L11 := Lib.hid (LV.later L10.out hb)
     have G11 := Lib.hid (Nat.lt_of_lt_of_le G10.out hb.size)
     have S11 := Lib.hid (S10.out.later hb)
     have SM := Lib.hid (rsame_ok w11 xs p11 p g11 0 g o cap11 cap hL11 L11.out X100.out)
     rw [XL.out] at SM ⊢
     clear hv hb hL11 hg11 hcap11 KO T10 U10 L10 G10 S10
     go_wp2_with fail
     refine Calls.mono SM.out ?_
     rintro e w12 ⟨rfl, hb⟩
     have B12 := Lib.hid (B11.out.trans (hb.mono B11.out.size))
     have T12 := Lib.hid (T11.out.later hb)
     have U12 := Lib.hid (U11.out.later hb)
     have L12 := Lib.hid (LV.later L11.out hb)
     have G12 := Lib.hid (Nat.lt_of_lt_of_le G11.out hb.size)
     have S12 := Lib.hid (S11.out.later hb)
     have EX := Lib.hid (explains_ok (EB := EB) (qB := qB) w12 T12.out NB.out.1 xs RR.out.pl RR.out.may X100.out sts S1001.out p p9 g o cap cap9 (by rw [XL.out]; exact RR.out.cap) G12.out L12.out S12.out (by rw [EVE.out]; exact U12.out))
     rw [XL.out, SL.out] at EX
     clear hb SM T11 U11 L11 G11 S11
     go_wp2_with fail
     refine Calls.mono EX.out ?_
     rintro e w13 ⟨rfl, hb⟩
     have B13 := Lib.hid (B12.out.trans (hb.mono B12.out.size))
     clear hb EX T12 U12 L12 G12 S12
     go_wp2_with fail
     refine Calls.mono (AL.out _) ?_
     rintro e w14 ⟨rfl, hb⟩
     have B14 := Lib.hid (B13.out.trans (hb.mono B13.out.size))
     clear hb
     go_wp2_with fail
     go_ret
     exact ⟨rfl, B14.out⟩
end Go.Proofs.YtmfhnhnmdeabeaaGreat.Re
end
