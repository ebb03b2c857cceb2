/- The law of layer 32: its arguments, opened: any records, any stamps. -/
import Derived.Test.YtmfhnhnmdeabeaaGreatM51
import Derived.Test.YtmfhnhnmdeabeaaGreatM48
import Derived.Test.YtmfhnhnmdeabeaaGreatM44
import Derived.Test.YtmfhnhnmdeabeaaGreatM33
import Derived.Laws.MakeOwn
import Derived.Test.YtmfhnhnmdeabeaaGreatM34
import Derived.WalkKit
import Derived.ProofKit
import Derived.Deep.Slices
import Derived.Deep.Fields
import Derived.ChangeSame
import Derived.ChangeSlices
import Derived.SizedLaws
import Derived.OpenShut
import Derived.ChangeOld
import Derived.Below
set_option linter.unusedVariables false
set_option linter.unusedSimpArgs false
set_option maxRecDepth 100000
section
namespace Go.Proofs.YtmfhnhnmdeabeaaGreat.Re
open Go.RowKit Go.Shelf Go.Maps Oct Path Tr
variable {R g room q : Nat} {S : T} {es : Nat → List Ent} {pa : Nat → Option Addr} {ca : Nat → Nat}
theorem info_Nd : (Tryz.prog.info? 82).map (fun i => (i.zero, i.size, i.bytes)) = some (some (.agg #[.int .u8 0, .slice none 0 0, .string ⟨#[]⟩, .int .i64 0]), 4, 56) := by kernel_rfl
def z4 : Array Value := #[.int .u8 0, .slice none 0 0, .string ⟨#[]⟩, .int .i64 0]
theorem run_made18 (n : Nat) (hn : n ≤ 1000) (w : World) : (Instr.makeSlice 77 (.int .i64 (n : Int)) (.int .i64 (n : Int))).run Tryz.prog w =
   .ok (.slice (some ⟨w.heap.size, 0, none⟩) n n) (w.alloc (.cells (madeCells z4 (n * 4)) 82)) := by
 obtain ⟨i0, hi, hz0, hz1, hz2⟩ := info_parts info_Nd
 have h := run_make (P := Tryz.prog) w 77 82 i0 _ Tryz.underlying77 hi hz0 .i64 .i64 (n : Int) (n : Int) (by omega) (Int.le_refl _) (by rw [hz2]; omega) (by omega)
 simpa [hz1, Value.cells, z4] using h
theorem made4 (n i j : Nat) (hi : i < n) (hj : j < 4) : (madeCells z4 (n * 4))[i * 4 + j]? = z4[j]? := by
 have h1 : i * 4 + j < n * 4 := by omega
 have h2 : (i * 4 + j) % 4 = j := by omega
 have h3 : z4.size = 4 := rfl
 simp [madeCells, h1, h3, h2]
 rw [getElem!_pos z4 j (by rw [h3]; exact hj), Array.getElem?_eq_getElem (by rw [h3]; exact hj)]
def noT : T := ⟨fun _ => Nd.no, fun _ _ => 0⟩
theorem new_empty (wz : World) (n : Nat) (h1 : 1 ≤ n) (h2 : n ≤ 256) : RtM ((wz.alloc (.cells (madeCells z4 (n * 4)) 82)).alloc (.cells #[.slice (some ⟨wz.heap.size, 0, none⟩) n n] 79)) (wz.heap.size + 1) wz.heap.size n 0 noT (fun _ => []) (fun _ => none) (fun _ => 0) where
 top := by simpa using SBox.new (wz.alloc (.cells (madeCells z4 (n * 4)) 82)) 79 #[.slice (some ⟨wz.heap.size, 0, none⟩) n n]
 ne := by omega
 tab := by
   refine ⟨_, (SBox.new wz 82 (madeCells z4 (n * 4))).alloc _, by rw [size_madeCells], fun i hi j v hv => ?_⟩
   have hj : j < 4 := by have := (List.getElem?_eq_some_iff.1 hv).1; simpa [ndC] using this
   rw [made4 n i j hi hj, ← hv]
   match j, hj with
   | 0, _ => rfl
   | 1, _ => rfl
   | 2, _ => rfl
   | 3, _ => rfl
 row := fun _ _ => .inl ⟨rfl, rfl, rfl⟩
 cap := fun _ _ => ⟨Nat.le_refl _, Nat.le_refl _⟩
 rows := ⟨fun _ _ => Listing.nil _ (fun _ => rfl), fun d s h => absurd rfl h⟩
 rm := ⟨h1, h2⟩
 q1 := by omega
 dt := fun _ => by show 0 ≤ 2304; omega
 hd := fun _ => by show 0 ≤ 1; omega
 kd := fun _ => by show 0 ≤ 2; omega
 rng := fun x h => absurd rfl h
set_option maxHeartbeats 400000 in
theorem new18 (wz : World) (n : Nat) (h1 : 1 ≤ n) (h2 : n ≤ 256) :
   Calls Tryz.prog 14 #[.int .i64 n] wz fun e w' => e = .returned (.pointer (some ⟨wz.heap.size + 1, 0, none⟩)) ∧ RtA w' (wz.heap.size + 1) wz.heap.size n 0 rootT ∧ Below wz.heap.size wz w' := by
 have hmk := run_made18 n (by omega) wz
 have M := new_empty wz n h1 h2
 have FIN := Lib.hid (M.put (i := 0) (by omega) ⟨2, 1, 0, 0, []⟩ (fun _ _ => 0) [] none 0 0 ⟨Nat.le_refl _, by omega⟩ (fun _ _ => rfl) (Listing.nil _ (fun _ => rfl)) (fun s h => absurd rfl h) (.inl ⟨rfl, rfl, rfl⟩) ⟨Nat.le_refl _, Nat.le_refl _⟩ (by show 2 ≤ 2; omega) (by show 0 ≤ 2304; omega) (by show 0 ≤ 1; omega))
 obtain ⟨c0, c1, c2, c3, f⟩ := M.cells (i := 0) (by omega)
 have f0 := f 0
 have f1 := f 1
 have f2 := f 2
 have f3 := f 3
 have h0 := M.topC
 have BB := Lib.hid (((Below.refl wz.heap.size wz).alloc (Nat.le_refl _) (.cells (madeCells z4 (n * 4)) 82)).alloc (by simp) (.cells #[.slice (some ⟨wz.heap.size, 0, none⟩) n n] 79))
 have hg := M.g_lt
 have n1 : (0 : Int) < n := by omega
 simp only [Nat.zero_mul, Nat.zero_add] at c0 c1 c2 c3
 clear M f
 go_enter Tryz.func14, Tryz.ntmps14
 go_upto_region 2 with (fail)
 generalize (wz.alloc (.cells (madeCells z4 (n * 4)) 82)).alloc (.cells #[.slice (some ⟨wz.heap.size, 0, none⟩) n n] 79) = W0 at FIN BB c0 c1 c2 c3 f0 f1 f2 f3 h0 hg ⊢
 go_wp2_with fail
 go_ret
 refine ⟨rfl, ⟨_, _, _, FIN.out⟩, ?_⟩
 exact BB.out.trans ((((Below.refl _ _).setCell (p := ⟨wz.heap.size, 0, none⟩) (Nat.le_refl _) _).setCell (p := ⟨wz.heap.size, 1, none⟩) (Nat.le_refl _) _).setCell (p := ⟨wz.heap.size, 2, none⟩) (Nat.le_refl _) _ |>.setCell (p := ⟨wz.heap.size, 3, none⟩) (Nat.le_refl _) _)
end Go.Proofs.YtmfhnhnmdeabeaaGreat.Re
end
section
namespace Go.Proofs.YtmfhnhnmdeabeaaGreat.Re
open Go.RowKit Go.Shelf Go.Maps Oct Path Tr
theorem may_tr {r : Rc} (h : May r) : Tr.May r := ⟨h.op.1, h.op.2, h.ino.1, fun o => h.knd (by rcases o with o | o | o <;> rw [o] <;> rfl)⟩
def PlAns (n : Nat) (rs : List Rw) (wz : World) (e : Ending) (w' : World) : Prop := ∃ b, e = .returned (.bool b) ∧ (b = true → (∀ r ∈ rs, May r.rc ∧ 0 ≤ r.page) ∧ Plays n (rs.map Rw.rc) rootT) ∧ Below wz.heap.size wz w'
theorem PlAns.no {n : Nat} {rs : List Rw} {wz w' : World} (h : Below wz.heap.size wz w') : PlAns n rs wz (.returned (.bool false)) w' := ⟨false, rfl, (fun h => by cases h), h⟩
theorem PlAns.yes {n : Nat} {rs : List Rw} {wz w' : World} (hm : ∀ r ∈ rs, May r.rc ∧ 0 ≤ r.page) (hp : Plays n (rs.map Rw.rc) rootT) (h : Below wz.heap.size wz w') : PlAns n rs wz (.returned (.bool true)) w' := ⟨true, rfl, (fun _ => ⟨hm, hp⟩), h⟩
theorem tch_below {g n : Nat} {w0 w w' : World} (hb : Below n w0 w) (hT : Tr.Tch (fun b => b = g) w w') (hg : n ≤ g) (hn : n ≤ w.heap.size) : Below n w0 w' :=
 hb.trans (hT.below fun i hi => ⟨Nat.lt_of_lt_of_le hi hn, fun e => by omega⟩)
structure PlSt (n : Nat) (rs : List Rw) (wz W : World) (R g i : Nat) : Prop where
 a : RtA W R g n i (run ((rs.take i).map Rw.rc) rootT)
 p : Plays n ((rs.take i).map Rw.rc) rootT
 m : ∀ r ∈ rs.take i, May r.rc ∧ 0 ≤ r.page
 b : Below wz.heap.size wz W
set_option maxHeartbeats 400000 in
theorem plays25 (wz : World) (rs : List Rw) (hIn : ∀ r ∈ rs, r.In) (p : Option Addr) (cap : Nat) (hR : RwR wz p rs) (hl : rs.length ≤ 100) (n : Nat) (h2 : 2 ≤ n) (h256 : n ≤ 256) :
   Calls Tryz.prog 5 #[.int .i64 n, .slice p rs.length cap] wz (PlAns n rs wz) := by
 have HIN := Lib.hid hIn
 have HR := Lib.hid hR
 have NE := Lib.hid (new18 wz n (by omega) h256)
 have IV := Lib.hid (inv_root h2)
 obtain ⟨m, hm⟩ : ∃ m, rs.length = m := ⟨_, rfl⟩
 rw [hm] at hl ⊢
 have HN := Lib.hid hm
 clear hR hIn hm
 go_enter Tryz.func5, Tryz.ntmps5
 go_wp2_with fail
 refine Calls.mono NE.out ?_
 rintro e w1 ⟨rfl, hA, hB⟩
 have P0 : Hid (PlSt n rs wz w1 (wz.heap.size + 1) wz.heap.size 0) := Lib.hid ⟨by rw [List.take_zero]; exact hA, by simp [Plays], (fun r hr => by simp at hr), hB⟩
 clear hA hB
 go_wp2_with fail
 go_loopw [6] (fun s6 wr => ∃ i : Nat, i ≤ m ∧ s6 = .int .i64 i ∧ PlSt n rs wz wr (wz.heap.size + 1) wz.heap.size i) (fun s6 _ => m - (intOf s6).toNat)
 case atStart => exact ⟨0, Nat.zero_le _, rfl, P0.out⟩
 case round =>
   obtain ⟨i, hi, rfl, hP⟩ := hrel
   have PS := Lib.hid hP
   clear hP
   rcases Nat.lt_or_ge i m with hlt | hge
   · have t1 : (i : Int) < m := by omega
     obtain ⟨r, hr⟩ : ∃ r, rs[i]? = some r := ⟨_, List.getElem?_eq_getElem (by rw [HN.out]; exact hlt)⟩
     have HRI := Lib.hid hr
     have MY := Lib.hid (fun W => rmay_any r (HIN.out r (List.mem_of_getElem? hr)) W)
     obtain ⟨g, o, rfl, hg, hc⟩ := (HR.out.later PS.out.b) i r hr
     have C0 : Hid (∀ W, Below wr.heap.size wr W → ∀ (j : Nat) (c : Value), (rwC r)[j]? = some c → W.cell? ⟨g, o + i * 12 + j, none⟩ = some c) := Lib.hid (fun W hb j c hj => (hb.cell (p := ⟨g, o + i * 12 + j, none⟩) hg).trans (hc j c hj))
     unfold rwC at MY
     clear hc hr hg
     have D := C0.out wr (Below.refl _ _)
     have d0 := D 0 _ rfl
     have d1 := D 1 _ rfl
     have d2 := D 2 _ rfl
     have d3 := D 3 _ rfl
     have d4 := D 4 _ rfl
     have d5 := D 5 _ rfl
     have d6 := D 6 _ rfl
     have d7 := D 7 _ rfl
     have d8 := D 8 _ rfl
     have d9 := D 9 _ rfl
     have d10 := D 10 _ rfl
     have d11 := D 11 _ rfl
     simp only [Nat.add_zero] at d0
     clear D
     go_wp2_with fail
     refine Calls.mono (MY.out _) ?_
     rintro e w2 ⟨b, rfl, hb, hB⟩
     have HB := Lib.hid hb
     have B2 := Lib.hid hB
     clear hb hB d0 d1 d2 d3 d4 d5 d6 d7 d8 d9 d10 d11
     cases b
     · go_wp2_with fail
       go_ret
       exact PlAns.no (PS.out.b.trans (B2.out.mono PS.out.b.size))
     · obtain ⟨hmay, hpg⟩ := HB.out rfl
       have B3 := Lib.hid (PS.out.b.trans (B2.out.mono PS.out.b.size))
       have IV2 := Lib.hid (inv_run IV.out PS.out.p)
       have PL := Lib.hid (play22 w2 (PS.out.a.later B2.out) IV2.out (by omega) r.rc hmay)
       unfold recV at PL
       rw [← rwC_rc hpg] at PL
       unfold rwC at PL
       have MM := Lib.hid (And.intro hmay hpg)
       have D := C0.out w2 B2.out
       have d0 := D 0 _ rfl
       have d1 := D 1 _ rfl
       have d2 := D 2 _ rfl
       have d3 := D 3 _ rfl
       have d4 := D 4 _ rfl
       have d5 := D 5 _ rfl
       have d6 := D 6 _ rfl
       have d7 := D 7 _ rfl
       have d8 := D 8 _ rfl
       have d9 := D 9 _ rfl
       have d10 := D 10 _ rfl
       have d11 := D 11 _ rfl
       simp only [Nat.add_zero] at d0
       clear D hmay hpg
       go_wp2_with fail
       refine Calls.mono PL.out ?_
       rintro e w3 ⟨er, rfl, hT, hf⟩
       have HF := Lib.hid hf
       have B4 := Lib.hid (tch_below B3.out hT (Nat.le_refl _) B3.out.size)
       clear hf hT d0 d1 d2 d3 d4 d5 d6 d7 d8 d9 d10 d11
       by_cases e0 : er = 0
       · subst e0
         obtain ⟨hok, hA⟩ := HF.out rfl
         have e : rs.take (i + 1) = rs.take i ++ [r] := take_snoc HRI.out
         have NX : Hid (PlSt n rs wz w3 (wz.heap.size + 1) wz.heap.size (i + 1)) := Lib.hid (by
           refine ⟨?_, ?_, ?_, B4.out⟩
           · rw [e, List.map_append, run_append]
             exact hA
           · rw [e, List.map_append]
             exact plays_append.2 ⟨PS.out.p, may_tr MM.out.1, hok, trivial⟩
           · rw [e]
             intro x hx
             rcases List.mem_append.1 hx with hx | hx
             · exact PS.out.m x hx
             · rw [List.mem_singleton.1 hx]; exact MM.out)
         clear hok hA e
         go_wp2_with fail
         go_roundw
         case rel => exact ⟨i + 1, by omega, by go_num, NX.out⟩
         case measure => simp [intOf]; omega
       · have t5 : ((er : Int) != 0) = true := by simp; omega
         clear e0
         go_wp2_with fail
         go_ret
         exact PlAns.no B4.out
   · have e : i = m := by omega
     subst e
     have FP := Lib.hid PS.out.p
     have FM := Lib.hid PS.out.m
     rw [List.take_of_length_le (by rw [HN.out]; exact Nat.le_refl _)] at FP FM
     go_wp2_with fail
     go_ret
     exact PlAns.yes FM.out FP.out PS.out.b
end Go.Proofs.YtmfhnhnmdeabeaaGreat.Re
end
section
namespace Go.Proofs.YtmfhnhnmdeabeaaGreat.Re
open Go.ChangeShapes Go.WideShapes Go.Deep Go.RowKit Go.ChangeAt
open Oct Tr
theorem mem_weightsAll {H : Type} {P : Program} {e : TypeId} {x : DataW H} {k : Nat} : ∀ {es : List (DataW H)}, x ∈ es → k ∈ x.weights P e → k ∈ DataW.weightsAll P e es
 | y :: r, h, hk => by
   show k ∈ DataW.weights P e y ++ DataW.weightsAll P e r
   rcases List.mem_cons.1 h with h1 | h1
   · subst h1; exact List.mem_append_left _ hk
   · exact List.mem_append_right _ (mem_weightsAll h1 hk)
theorem cells_rec : Tryz.prog.cellsOf 39 = 12 := by kernel_rfl
theorem wf_rng {k : IntKind} {n : Int} (h : (Lit.int k n).wf = true) : k.min ≤ n ∧ n ≤ k.max := by
 simp only [Lit.wf, Bool.and_eq_true, decide_eq_true_eq] at h
 exact h
theorem block_of_cell {W : World} {a : Addr} {v : Value} (h : W.cell? a = some v) : a.block < W.heap.size ∧ a.spot = none := by
 unfold World.cell? at h
 split at h
 · rename_i hh
   refine ⟨(Array.getElem?_eq_some_iff.1 hh).1, ?_⟩
   cases hs : a.spot with
   | none => rfl
   | some z => simp [hs] at h
 · cases h
def recD {H : Type} (x : Rw) : DataW H := .agg [.lit (.int .u64 x.stamp), .lit (.int .u8 x.op), .lit (.int .u32 x.dir), .lit (.string (L x.name)), .lit (.int .u32 x.ino), .lit (.int .u8 x.kind), .lit (.int .u32 x.dir2), .lit (.string (L x.name2)), .lit (.int .u32 x.old), .lit (.int .u32 x.size), .lit (.int .i64 x.page), .lit (.string (L x.data))]
set_option maxHeartbeats 1000000 in
theorem open_rec {H : Type} {enc : TypeId × Value → H} {W : World} {base fuel : Nat} {spare : Nat → Bool} {held : Bool} {cs : List Value} {x : DataW H × List MemPlace} (h : DataW.trod enc Tryz.prog W base spare held fuel 39 cs = some x) :
   ∃ r : Rw, cs = (rwC r).toList ∧ x.1 = recD r ∧ r.stamp < 18446744073709551616 := by
 obtain ⟨xs, n, _, rfl, hl, hlen, hf⟩ := DataW.trod_struct Tryz.underlying39 h
 rw [cells_rec] at hl
 match cs, hl with
 | [c0, c1, c2, c3, c4, c5, c6, c7, c8, c9, c10, c11], _ =>
 match xs, hlen with
 | [y0, y1, y2, y3, y4, y5, y6, y7, y8, y9, y10, y11], _ =>
 have o8 : Tryz.prog.cellsOf 5 = 1 := by kernel_rfl
 have o32 : Tryz.prog.cellsOf 37 = 1 := by kernel_rfl
 have o64 : Tryz.prog.cellsOf 36 = 1 := by kernel_rfl
 have oi : Tryz.prog.cellsOf 3 = 1 := by kernel_rfl
 have os : Tryz.prog.cellsOf 9 = 1 := by kernel_rfl
 have t0 := hf 0 _ rfl
 have t1 := hf 1 _ rfl
 have t2 := hf 2 _ rfl
 have t3 := hf 3 _ rfl
 have t4 := hf 4 _ rfl
 have t5 := hf 5 _ rfl
 have t6 := hf 6 _ rfl
 have t7 := hf 7 _ rfl
 have t8 := hf 8 _ rfl
 have t9 := hf 9 _ rfl
 have t10 := hf 10 _ rfl
 have t11 := hf 11 _ rfl
 simp only [o8, o32, o64, oi, os, List.drop_zero, List.drop_succ_cons, List.take_succ_cons, List.take_zero, List.getElem?_cons_zero, List.getElem?_cons_succ] at t0 t1 t2 t3 t4 t5 t6 t7 t8 t9 t10 t11
 obtain ⟨n0, e0, rfl, w0⟩ := DataW.trod_int Tryz.underlying36 t0
 obtain ⟨n1, e1, rfl, w1⟩ := DataW.trod_int Tryz.underlying5 t1
 obtain ⟨n2, e2, rfl, w2⟩ := DataW.trod_int Tryz.underlying37 t2
 obtain ⟨s3, e3, rfl, w3⟩ := DataW.trod_string Tryz.underlying9 t3
 obtain ⟨n4, e4, rfl, w4⟩ := DataW.trod_int Tryz.underlying37 t4
 obtain ⟨n5, e5, rfl, w5⟩ := DataW.trod_int Tryz.underlying5 t5
 obtain ⟨n6, e6, rfl, w6⟩ := DataW.trod_int Tryz.underlying37 t6
 obtain ⟨s7, e7, rfl, w7⟩ := DataW.trod_string Tryz.underlying9 t7
 obtain ⟨n8, e8, rfl, w8⟩ := DataW.trod_int Tryz.underlying37 t8
 obtain ⟨n9, e9, rfl, w9⟩ := DataW.trod_int Tryz.underlying37 t9
 obtain ⟨n10, e10, rfl, w10⟩ := DataW.trod_int Tryz.underlying3 t10
 obtain ⟨s11, e11, rfl, w11⟩ := DataW.trod_string Tryz.underlying9 t11
 obtain rfl := (List.cons.inj e0).1
 obtain rfl := (List.cons.inj e1).1
 obtain rfl := (List.cons.inj e2).1
 obtain rfl := (List.cons.inj e3).1
 obtain rfl := (List.cons.inj e4).1
 obtain rfl := (List.cons.inj e5).1
 obtain rfl := (List.cons.inj e6).1
 obtain rfl := (List.cons.inj e7).1
 obtain rfl := (List.cons.inj e8).1
 obtain rfl := (List.cons.inj e9).1
 obtain rfl := (List.cons.inj e10).1
 obtain rfl := (List.cons.inj e11).1
 have r0 : 0 ≤ n0 ∧ n0 ≤ 18446744073709551615 := wf_rng w0
 have r1 : 0 ≤ n1 ∧ n1 ≤ 255 := wf_rng w1
 have r2 : 0 ≤ n2 ∧ n2 ≤ 4294967295 := wf_rng w2
 have r4 : 0 ≤ n4 ∧ n4 ≤ 4294967295 := wf_rng w4
 have r5 : 0 ≤ n5 ∧ n5 ≤ 255 := wf_rng w5
 have r6 : 0 ≤ n6 ∧ n6 ≤ 4294967295 := wf_rng w6
 have r8 : 0 ≤ n8 ∧ n8 ≤ 4294967295 := wf_rng w8
 have r9 : 0 ≤ n9 ∧ n9 ≤ 4294967295 := wf_rng w9
 obtain ⟨m0, rfl⟩ := Int.eq_ofNat_of_zero_le r0.1
 obtain ⟨m1, rfl⟩ := Int.eq_ofNat_of_zero_le r1.1
 obtain ⟨m2, rfl⟩ := Int.eq_ofNat_of_zero_le r2.1
 obtain ⟨m4, rfl⟩ := Int.eq_ofNat_of_zero_le r4.1
 obtain ⟨m5, rfl⟩ := Int.eq_ofNat_of_zero_le r5.1
 obtain ⟨m6, rfl⟩ := Int.eq_ofNat_of_zero_le r6.1
 obtain ⟨m8, rfl⟩ := Int.eq_ofNat_of_zero_le r8.1
 obtain ⟨m9, rfl⟩ := Int.eq_ofNat_of_zero_le r9.1
 exact ⟨⟨m0, m1, m2, s3, m4, m5, m6, s7, m8, m9, n10, s11⟩, rfl, rfl, by show m0 < _; omega⟩
theorem open_recs {H : Type} {enc : TypeId × Value → H} {W : World} {p : List MemPlace} {d : DataW H} {ds : List (DataW H)} {ts : List TypeId} {j : Nat} {a : Option Addr} {len cap : Nat}
   (h : DataW.Trod enc Tryz.prog W 0 (fun _ => true) true 22 (.slice a len cap) d p)
   (hsz : (DataW.weightsEach Tryz.prog ts ds).all (· ≤ reachBytes) = true) (ht : ts[j]? = some 22) (hd : ds[j]? = some d) :
   ∃ rs : List Rw, rs.length = len ∧ len ≤ cap ∧ len ≤ 9223372036854775807 ∧ RwR W a rs ∧ ∀ r ∈ rs, r.In := by
 obtain ⟨fuel, hf⟩ := h
 rcases open_slice Tryz.underlying22 hf with ⟨hcs, _⟩ | ⟨x, l, c, m, n, D, Pl, hcs, hb, hl, hm, hmm, hx, hi⟩
 · simp [Value.cells] at hcs
   obtain ⟨rfl, rfl, rfl⟩ := hcs
   exact ⟨[], rfl, Nat.le_refl _, by omega, fun i r hr => by simp at hr, by simp⟩
 · simp [Value.cells] at hcs
   obtain ⟨rfl, rfl, rfl⟩ := hcs
   simp only [if_true] at hmm
   subst hmm
   have key : ∀ i, ∃ s : Rw, i < len → (∀ (k : Nat) (c : Value), (rwC s)[k]? = some c → W.cell? (x.add (i * 12 + k)) = some c) ∧ D i = recD s ∧ s.stamp < 18446744073709551616 := fun i => by
     by_cases hil : i < len
     · obtain ⟨cs', hc, ht'⟩ := hi i (by omega)
       rw [cells_rec] at hc
       obtain ⟨_, hcl, hat⟩ := World.cells?_some hc
       obtain ⟨r, hr1, hr2, hr3⟩ := open_rec ht'
       refine ⟨r, fun _ => ⟨fun k c hk => ?_, hr2, hr3⟩⟩
       have hk12 : k < 12 := by have := (Array.getElem?_eq_some_iff.1 hk).1; simpa [rwC] using this
       have := hat k (by omega)
       rw [Go.Deep.add_add, hr1] at this
       rw [this]
       simpa using hk
     · exact ⟨⟨0, 0, 0, ⟨#[]⟩, 0, 0, 0, ⟨#[]⟩, 0, 0, 0, ⟨#[]⟩⟩, fun h => absurd h hil⟩
   obtain ⟨f, hF⟩ := Classical.axiomOfChoice key
   obtain ⟨rfl, _⟩ := Prod.mk.inj hx
   have hel : ((List.range len).map f).length = len := by simp
   refine ⟨(List.range len).map f, hel, hl, by unfold maxLen at hm; omega, ?_, ?_⟩
   · intro q r hr
     have hq : q < len := by have := (List.getElem?_eq_some_iff.1 hr).1; rw [hel] at this; exact this
     have er : r = f q := by
       rw [List.getElem?_map, List.getElem?_range hq] at hr
       simpa using hr.symm
     subst er
     have hc0 := (hF 0 (by omega)).1 0 _ rfl
     obtain ⟨b, off, spot⟩ := x
     have e0 : (⟨b, off, spot⟩ : Addr).add (0 * 12 + 0) = ⟨b, off, spot⟩ := by unfold Addr.add; simp
     rw [e0] at hc0
     have hb2 := block_of_cell hc0
     simp only at hb2
     obtain ⟨hb1, hs⟩ := hb2
     subst hs
     refine ⟨b, off, rfl, hb1, fun k c hk => ?_⟩
     have := (hF q hq).1 k c hk
     have ea : (⟨b, off, none⟩ : Addr).add (q * 12 + k) = ⟨b, off + (q * 12 + k), none⟩ := by unfold Addr.add; split <;> simp_all
     rw [ea] at this
     rw [Nat.add_assoc]
     exact this
   · intro y hy
     obtain ⟨q, hq, rfl⟩ := List.mem_map.1 hy
     obtain ⟨_, hD, hst⟩ := hF q (List.mem_range.1 hq)
     have big : ∀ k : Nat, k ∈ (recD (H := H) (f q)).weights Tryz.prog 39 → k ≤ maxLen := fun k hw => by
       rw [← hD] at hw
       have hmem : k ∈ (DataW.slice (List.map D (List.range len)) (List.map (fun j => D (len + j)) (List.range (m - len)))).weights Tryz.prog 22 := by
         simp only [DataW.weights, Tryz.underlying22]
         exact List.mem_cons_of_mem _ (List.mem_append_left _ (mem_weightsAll (List.mem_map_of_mem hq) hw))
       have := List.all_eq_true.1 hsz _ (DataW.weights_mem_each ht hd _ hmem)
       have := of_decide_eq_true this
       unfold maxLen
       simp [reachBytes] at this
       omega
     refine ⟨hst, big _ ?_, big _ ?_, big _ ?_⟩ <;>
     · simp only [recD, DataW.weights, Tryz.underlying39]
       simp [len_L, DataW.weights, DataW.weightsEach]
theorem open_stamps {H : Type} {enc : TypeId × Value → H} {W : World} {p : List MemPlace} {d : DataW H} {a : Option Addr} {len cap : Nat}
   (h : DataW.Trod enc Tryz.prog W 0 (fun _ => true) true 23 (.slice a len cap) d p) :
   ∃ st : List Nat, st.length = len ∧ StV W a st := by
 obtain ⟨fuel, hf⟩ := h
 rcases open_ints Tryz.underlying23 Tryz.underlying36 (by kernel_rfl) hf with ⟨hcs, _⟩ | ⟨x, l, c, zs, hcs, _, hl, hm, hz, hx, hcell, hw⟩
 · simp [Value.cells] at hcs
   obtain ⟨rfl, rfl, rfl⟩ := hcs
   exact ⟨[], rfl, fun h => absurd rfl h⟩
 · simp [Value.cells] at hcs
   obtain ⟨rfl, rfl, rfl⟩ := hcs
   simp at hz
   have hz2 : ∀ i, i < zs.length → ∃ k : Nat, zs.getD i 0 = (k : Int) := fun i hi => by
     have h1 : zs.getD i 0 ∈ zs := by
       rw [List.getD_eq_getElem?_getD, List.getElem?_eq_getElem hi]
       exact List.getElem_mem hi
     have r0 : 0 ≤ zs.getD i 0 ∧ zs.getD i 0 ≤ 18446744073709551615 := wf_rng (hw _ h1)
     obtain ⟨k, hk⟩ := Int.eq_ofNat_of_zero_le r0.1
     exact ⟨k, hk⟩
   have hel : ((List.range len).map fun i => (zs.getD i 0).toNat).length = len := by simp
   refine ⟨(List.range len).map fun i => (zs.getD i 0).toNat, hel, fun hn => ?_⟩
   have hpos : 0 < len := by
     rcases Nat.eq_zero_or_pos len with h0 | h0
     · subst h0; simp at hn
     · exact h0
   have hc0 := hcell 0 (by omega)
   obtain ⟨b, off, spot⟩ := x
   have e0 : (⟨b, off, spot⟩ : Addr).add 0 = ⟨b, off, spot⟩ := by unfold Addr.add; simp
   rw [e0] at hc0
   have hb2 := block_of_cell hc0
   simp only at hb2
   obtain ⟨hb1, hs⟩ := hb2
   subst hs
   refine ⟨b, off, rfl, hb1, fun j y hj => ?_⟩
   have hjl : j < len := by have := (List.getElem?_eq_some_iff.1 hj).1; rw [hel] at this; exact this
   have ey : y = (zs.getD j 0).toNat := by
     rw [List.getElem?_map, List.getElem?_range hjl] at hj
     simpa using hj.symm
   obtain ⟨k, hk⟩ := hz2 j (by omega)
   have := hcell j (by omega)
   have ea : (⟨b, off, none⟩ : Addr).add j = ⟨b, off + j, none⟩ := by unfold Addr.add; split <;> simp_all
   rw [ea, hk] at this
   rw [ey, hk]
   simpa using this
end Go.Proofs.YtmfhnhnmdeabeaaGreat.Re
end
