/- Layer 22 (rec): the seven acts, of a record that can be played. -/
import Derived.Test.YtmfhnhnmdeabeaaGreatM20
set_option linter.unusedVariables false
set_option linter.unusedSimpArgs false
set_option maxRecDepth 100000
section
namespace Go.Proofs.YtmfhnhnmdeabeaaGreat.Re
open Go.RowKit Go.Shelf Go.Maps Oct Path Tr
variable {E : TL} {room q : Nat} {S : T}
structure Act0 (wz W : World) (E : TL) (room q : Nat) (S : T) (r : Rc) : Prop where
 box : SBox W wz.heap.size 117 (actC E.t r)
 tree : TreeAt W E room q S
 be : Below wz.heap.size wz W
 lt : ∀ c, E.O c → c < wz.heap.size
theorem Act0.new {wz : World} {r : Rc} (h : TreeAt wz E room q S) (hO : ∀ c, E.O c → c < wz.heap.size) : Act0 wz (wz.alloc (.cells (actC E.t r) 117)) E room q S r :=
 ⟨SBox.new _ _ _, h.alloc _, (Below.refl _ _).alloc (Nat.le_refl _) _, hO⟩
theorem Act0.later {wz W W' : World} {r : Rc} (h : Act0 wz W E room q S r) (hb : Below W.heap.size W W') : Act0 wz W' E room q S r :=
 ⟨h.box.later hb, h.tree.later hb, h.be.trans (hb.mono h.be.size), h.lt⟩
theorem Act0.pl {wz W W' : World} {r : Rc} {E' : TL} {q' : Nat} {S' : T} (h : Act0 wz W E room q S r) (hp : Pl W W' E E' room q' S') : SBox W' wz.heap.size 117 (actC E.t r) :=
 Tch.box hp.tch h.box fun e => by have := h.lt _ e; omega
theorem Act0.pls {wz W W' : World} {r : Rc} {q' : Nat} {S' : T} (h : Act0 wz W E room q S r) (hp : Pls W W' E room q' S') : Pls wz W' E room q' S' := by
 obtain ⟨E', p⟩ := hp
 exact ⟨E', p.t, fun c hc => (p.new c hc).elim .inl (fun h2 => .inr (Nat.le_trans h.be.size h2)), p.lt, p.at_, (Tch.of h.be).trans p.tch⟩
theorem make_do (wz : World) (hT : TreeAt wz E room q S) (hI : Inv room S) (hq : q < 100000) (r : Rc) (hm : May r) (ho : Ok room r S) (h1 : r.op = 1) :
   Calls Tryz.prog 131 #[.pointer (some ⟨E.t, 0, none⟩), .int .u32 r.dir, .string (B r.name), .int .u8 r.kind, .int .u32 r.ino] wz fun e w' => e = .returned (.int .i64 0) ∧ Pls wz w' E room (q + 1) ⟨setN S.n r.ino (gain ⟨r.kind, r.kind / 2, 0, 0, []⟩ r.dir), setL S.l r.dir r.name r.ino⟩ := by
 have a1 := (hm.ent (by rw [h1]; rfl)).2.2
 have a2 := hm.knd (by rw [h1]; rfl)
 unfold Ok at ho
 rw [if_pos h1] at ho
 obtain ⟨o1, o2, o3, o4, o5⟩ := ho
 have e0 : makeE S room r.dir (B r.name) r.kind r.ino = 0 := by
   unfold makeE
   refine firstE_all _ fun e he => ?_
   simp only [List.mem_cons, List.not_mem_nil, or_false] at he
   rcases he with rfl | rfl | rfl | rfl | rfl | rfl | rfl
   · simp [errB, L_B, a1]
   · rcases a2 with a2 | a2 <;> simp [errB, a2]
   · simp [errB]; omega
   · simp [errB, o1]
   · simp [errB, o1]
   · simp [errB, L_B, o2]
   · simp [errB, o3]
 refine (makeAt_any wz hT hI hq r.dir (B r.name) r.kind r.ino hm.name (by have := hm.dir; omega) (by have := hm.ino; omega)).mono ?_
 rintro e w' ⟨rfl, h⟩
 refine ⟨by rw [e0]; rfl, ?_⟩
 unfold makeS at h
 rw [if_pos e0, L_B] at h
 exact Pls.did h
set_option maxHeartbeats 4000000 in
theorem made_ok (wz : World) (hT : TreeAt wz E room q S) (hO : ∀ c, E.O c → c < wz.heap.size) (hI : Inv room S) (hq : q < 100000) (r : Rc) (hm : May r) (ho : Ok room r S) (h1 : r.op = 1) :
   Calls Tryz.prog 105 #[actV E.t r] wz fun e w' => e = .returned (.int .i64 0) ∧ Pls wz w' E room (q + 1) (next r S) := by
 have A0 := Lib.hid (Act0.new (r := r) hT hO)
 have MD := Lib.hid (fun (W : World) (h : TreeAt W E room q S) => make_do (q := q) W h hI hq r hm ho h1)
 have hk := hm.knd (by rw [h1]; rfl)
 have NX := Lib.hid (next_make (S := S) h1 hk)
 have hi := hm.ino
 have K2 := Lib.hid hk
 clear hT hO hI hm ho h1
 unfold actC at A0
 unfold actV actC
 go_enter Tryz.func105, Tryz.ntmps105
 go_wp2_with fail
 refine Calls.mono (MD.out _ A0.out.tree) ?_
 rintro e w1 ⟨rfl, hp⟩
 obtain ⟨E1, p1⟩ := hp
 have hB := A0.out.pl p1
 unfold actC at hB
 have P1 := Lib.hid p1
 have et := p1.t
 have V0 := hB.cell 0
 have V1 := hB.cell 1
 have V2 := hB.cell 2
 have V3 := hB.cell 3
 have V4 := hB.cell 4
 have V5 := hB.cell 5
 have V6 := hB.cell 6
 have V7 := hB.cell 7
 have V8 := hB.cell 8
 have V9 := hB.cell 9
 have V10 := hB.cell 10
 have V11 := hB.cell 11
 have V12 := hB.cell 12
 simp only [List.getElem?_toArray, List.getElem?_cons_zero, List.getElem?_cons_succ] at V0 V1 V2 V3 V4 V5 V6 V7 V8 V9 V10 V11 V12
 have Vl := hB.lt
 clear hB p1
 rcases hk with hk | hk
 · have k2 : ((r.kind : Int) == 2) = false := by rw [hk]; rfl
   have k3 : decide ((r.kind : Int) = 2) = false := by rw [hk]; rfl
   have HK := Lib.hid hk
   rw [← et] at V0
   clear hk et
   go_wp2_with fail
   refine Calls.mono (hold_any _ P1.out.at_ r.ino (by omega) (by show (setN S.n r.ino _ r.ino).held < 100000; rw [setN_same]; unfold gain; split <;> (show (0 : Nat) < 100000; decide))) ?_
   rintro e w2 ⟨rfl, h2, h3⟩
   have HE : fileE ⟨setN S.n r.ino (gain ⟨r.kind, r.kind / 2, 0, 0, []⟩ r.dir), setL S.l r.dir r.name r.ino⟩ r.ino = 0 := by
     rw [HK.out]
     simp [fileE, firstE, errB, setN_same, gain]
   rw [HE]
   have PP := Lib.hid (show Pls wz w2 E room (q + 1) (next r S) from A0.out.pls (P1.out.then_ (by
     rw [NX.out, if_pos HK.out]
     exact Pls.of h2 h3)))
   clear h2 h3
   go_wp2_with fail
   go_ret
   exact ⟨rfl, PP.out⟩
 · have k2 : ((r.kind : Int) == 2) = true := by rw [hk]; rfl
   have k3 : decide ((r.kind : Int) = 2) = true := by rw [hk]; rfl
   have HK := Lib.hid hk
   clear hk et
   go_wp2_with fail
   go_ret
   refine ⟨rfl, ?_⟩
   rw [NX.out, if_neg (by rw [HK.out]; decide)]
   exact A0.out.pls ⟨E1, P1.out⟩
set_option maxHeartbeats 4000000 in
theorem link_ok (wz : World) (hT : TreeAt wz E room q S) (hO : ∀ c, E.O c → c < wz.heap.size) (hI : Inv room S) (hq : q < 100000) (r : Rc) (hm : May r) (ho : Ok room r S) (h2 : r.op = 2) :
   Calls Tryz.prog 106 #[actV E.t r] wz fun e w' => e = .returned (.int .i64 0) ∧ Pls wz w' E room (q + 1) (next r S) := by
 have A0 := Lib.hid (Act0.new (r := r) hT hO)
 have a1 := (hm.ent (by rw [h2]; rfl)).2.2
 unfold Ok at ho
 rw [if_neg (by omega), if_pos h2] at ho
 obtain ⟨o1, o2, o3, o4⟩ := ho
 have e0 : linkE S r.dir (B r.name) r.ino = 0 := by
   unfold linkE
   refine firstE_all _ fun e he => ?_
   simp only [List.mem_cons, List.not_mem_nil, or_false] at he
   rcases he with rfl | rfl | rfl | rfl | rfl | rfl
   · simp [errB, L_B, a1]
   · simp [errB, o1, o3]
   · simp [errB, o1]
   · simp [errB, o3]
   · simp [errB, L_B, o2]
   · simp [errB]; omega
 have NX : Hid (linkS S r.dir (B r.name) r.ino = next r S) := Lib.hid (by
   unfold linkS next
   rw [if_pos e0, if_neg (by omega), if_pos h2, L_B]
   unfold gain
   rw [if_neg (by omega)])
 have LK := Lib.hid (fun (W : World) (h : TreeAt W E room q S) => link_any (q := q) W h hI hq r.dir (B r.name) r.ino hm.name (by have := hm.dir; omega) (by have := hm.ino; omega))
 rw [e0] at LK
 clear hT hO hI hm h2 o1 o2 o3 o4 a1 e0
 unfold actC at A0
 unfold actV actC
 go_enter Tryz.func106, Tryz.ntmps106
 go_wp2_with fail
 refine Calls.mono (LK.out _ A0.out.tree) ?_
 rintro e w1 ⟨rfl, h1, h3⟩
 have H := Lib.hid (And.intro h1 h3)
 clear h1 h3
 go_wp2_with fail
 go_ret
 refine ⟨rfl, A0.out.pls (Pls.of ?_ H.out.2)⟩
 rw [← NX.out]
 exact H.out.1
set_option maxHeartbeats 4000000 in
theorem look_ok (wz : World) (hT : TreeAt wz E room q S) (r : Rc) (hm : May r) (h1 : (S.n r.dir).kind = 2) (h2 : S.l r.dir r.name = r.ino) (hn : isName r.name = true) :
   Calls Tryz.prog 133 #[actV E.t r] wz fun e w' => e = .returned (.int .i64 0) ∧ Below wz.heap.size wz w' := by
 have hB := (Below.refl _ wz).alloc (Nat.le_refl _) (.cells (actC E.t r) 117)
 have BX := Lib.hid (SBox.new wz 117 (actC E.t r))
 have T1 := Lib.hid (hT.later hB)
 have B1 := Lib.hid hB
 have hi := hm.ino
 have lo := lookE_ok (S := S) hn h1 (by rw [h2]; omega)
 rw [h2] at lo
 have LK := Lib.hid (fun (W : World) (h : TreeAt W E room q S) => look_any (q := q) r.dir (B r.name) W h hm.name (by have := hm.dir; omega))
 rw [L_B, lo.1, lo.2] at LK
 clear hT hm h1 h2 hn hB lo
 unfold actC at BX B1 T1
 unfold actV actC
 go_enter Tryz.func133, Tryz.ntmps133
 go_wp2_with fail
 refine Calls.mono (LK.out _ T1.out) ?_
 rintro e w1 ⟨rfl, hb⟩
 have hX := BX.out.later hb
 have V0 := hX.cell 0
 have V1 := hX.cell 1
 have V2 := hX.cell 2
 have V3 := hX.cell 3
 have V4 := hX.cell 4
 have V5 := hX.cell 5
 have V6 := hX.cell 6
 have V7 := hX.cell 7
 have V8 := hX.cell 8
 have V9 := hX.cell 9
 have V10 := hX.cell 10
 have V11 := hX.cell 11
 have V12 := hX.cell 12
 simp only [List.getElem?_toArray, List.getElem?_cons_zero, List.getElem?_cons_succ] at V0 V1 V2 V3 V4 V5 V6 V7 V8 V9 V10 V11 V12
 have Vl := hX.lt
 have B2 := Lib.hid (B1.out.trans (hb.mono B1.out.size))
 clear hX hb BX LK T1
 go_wp2_with fail
 go_ret
 exact ⟨rfl, B2.out⟩
set_option maxHeartbeats 4000000 in
theorem actUnlink_ok (wz : World) (hT : TreeAt wz E room q S) (hO : ∀ c, E.O c → c < wz.heap.size) (hI : Inv room S) (r : Rc) (hm : May r) (ho : Ok room r S) (h3 : r.op = 3) :
   Calls Tryz.prog 107 #[actV E.t r] wz fun e w' => e = .returned (.int .i64 0) ∧ Pls wz w' E room q (next r S) := by
 have A0 := Lib.hid (Act0.new (r := r) hT hO)
 have a1 := (hm.ent (by rw [h3]; rfl)).2.2
 have a2 := hm.knd (by rw [h3]; rfl)
 unfold Ok at ho
 rw [if_neg (by omega), if_neg (by omega), if_pos h3] at ho
 obtain ⟨o1, o2, o3, o4, o5⟩ := ho
 have NX : Hid (cutS S r.dir r.name r.ino = next r S) := Lib.hid (by
   rw [cut_lose hI o2 o3]
   unfold next
   rw [if_neg (by omega), if_neg (by omega), if_pos h3])
 have LK := Lib.hid (fun (W : World) (h : TreeAt W E room q S) => look_ok (q := q) (E := E) W h r hm o1 o2 a1)
 have UL := Lib.hid (fun (W : World) (h : TreeAt W E room q S) hk => unlink_ok (q := q) W h hI r.dir (B r.name) r.ino hm.name (by have := hm.dir; omega) a1 o1 o2 o3 hk)
 have RM := Lib.hid (fun (W : World) (h : TreeAt W E room q S) hk => rmdir_ok (q := q) W h hI r.dir (B r.name) r.ino hm.name (by have := hm.dir; omega) a1 o1 o2 o3 hk o5)
 have K := Lib.hid o4
 clear hT hO hI hm h3 o1 o2 o3 o4 o5 a1
 unfold actC at A0
 unfold actV actC at LK
 unfold actV actC
 go_enter Tryz.func107, Tryz.ntmps107
 go_wp2_with fail
 refine Calls.mono (LK.out _ A0.out.tree) ?_
 rintro e w1 ⟨rfl, hb⟩
 have A1 := Lib.hid (A0.out.later hb)
 have hX := A1.out.box
 unfold actC at hX
 have V0 := hX.cell 0
 have V1 := hX.cell 1
 have V2 := hX.cell 2
 have V3 := hX.cell 3
 have V4 := hX.cell 4
 have V5 := hX.cell 5
 have V6 := hX.cell 6
 have V7 := hX.cell 7
 have V8 := hX.cell 8
 have V9 := hX.cell 9
 have V10 := hX.cell 10
 have V11 := hX.cell 11
 have V12 := hX.cell 12
 simp only [List.getElem?_toArray, List.getElem?_cons_zero, List.getElem?_cons_succ] at V0 V1 V2 V3 V4 V5 V6 V7 V8 V9 V10 V11 V12
 have Vl := hX.lt
 clear hX hb A0 LK
 rcases a2 with a2 | a2
 · have t1 : ((r.kind : Int) == 2) = false := by rw [a2]; rfl
   have t2 : decide ((r.kind : Int) = 2) = false := by rw [a2]; rfl
   have UL2 := Lib.hid (UL.out _ A1.out.tree (by rw [K.out, a2]; decide))
   clear a2 UL RM K
   go_wp2_with fail
   refine Calls.mono UL2.out ?_
   rintro e w2 ⟨rfl, h1, h2⟩
   have H := Lib.hid (And.intro h1 h2)
   clear h1 h2
   go_wp2_with fail
   go_ret
   exact ⟨rfl, A1.out.pls (Pls.of (by rw [← NX.out]; exact H.out.1) H.out.2)⟩
 · have t1 : ((r.kind : Int) == 2) = true := by rw [a2]; rfl
   have t2 : decide ((r.kind : Int) = 2) = true := by rw [a2]; rfl
   have RM2 := Lib.hid (RM.out _ A1.out.tree (by rw [K.out, a2]))
   clear a2 UL RM K
   go_wp2_with fail
   refine Calls.mono RM2.out ?_
   rintro e w2 ⟨rfl, h1, h2⟩
   have H := Lib.hid (And.intro h1 h2)
   clear h1 h2
   go_wp2_with fail
   go_ret
   exact ⟨rfl, A1.out.pls (Pls.of (by rw [← NX.out]; exact H.out.1) H.out.2)⟩
set_option maxHeartbeats 4000000 in
theorem size_ok (wz : World) (hT : TreeAt wz E room q S) (hO : ∀ c, E.O c → c < wz.heap.size) (r : Rc) (hm : May r) (ho : Ok room r S) (h5 : r.op = 5) :
   Calls Tryz.prog 109 #[actV E.t r] wz fun e w' => e = .returned (.int .i64 0) ∧ Pls wz w' E room q (next r S) := by
 have A0 := Lib.hid (Act0.new (r := r) hT hO)
 unfold Ok at ho
 rw [if_neg (by omega), if_neg (by omega), if_neg (by omega), if_neg (by omega), if_pos h5] at ho
 have NX : Hid (setD S r.ino (resz (S.n r.ino).data r.size) = next r S) := Lib.hid (by
   unfold next
   rw [if_neg (by omega), if_neg (by omega), if_neg (by omega), if_neg (by omega), if_pos h5]
   rfl)
 have RS := Lib.hid (fun (W : World) (h : TreeAt W E room q S) => resize_ok (q := q) (E := E) (room := room) (S := S) W h r.ino r.size (by have := hm.ino; omega) ho (hm.siz (by rw [h5]; rfl)))
 clear hT hO hm ho h5
 unfold actC at A0
 unfold actV actC
 go_enter Tryz.func109, Tryz.ntmps109
 go_wp2_with fail
 refine Calls.mono (RS.out _ A0.out.tree) ?_
 rintro e w1 ⟨rfl, h1, h3⟩
 have H := Lib.hid (And.intro h1 h3)
 clear h1 h3
 go_wp2_with fail
 go_ret
 refine ⟨rfl, A0.out.pls (Pls.of ?_ H.out.2)⟩
 rw [← NX.out]
 exact H.out.1
set_option maxHeartbeats 4000000 in
theorem page_ok (wz : World) (hT : TreeAt wz E room q S) (hO : ∀ c, E.O c → c < wz.heap.size) (r : Rc) (hm : May r) (ho : Ok room r S) (h6 : r.op = 6) :
   Calls Tryz.prog 110 #[actV E.t r] wz fun e w' => e = .returned (.int .i64 0) ∧ Pls wz w' E room q (next r S) := by
 have A0 := Lib.hid (Act0.new (r := r) hT hO)
 unfold Ok at ho
 rw [if_neg (by omega), if_neg (by omega), if_neg (by omega), if_neg (by omega), if_neg (by omega), if_pos h6] at ho
 have hd := hm.dat (by rw [h6]; rfl)
 have NX : Hid (setD (setD S r.ino (wr (S.n r.ino).data r.page r.data)) r.ino (resz ((setD S r.ino (wr (S.n r.ino).data r.page r.data)).n r.ino).data r.size) = next r S) := Lib.hid (by
   have ss : ∀ a b, setN (setN S.n r.ino a) r.ino b = setN S.n r.ino b := fun a b => by funext y; by_cases ey : y = r.ino <;> simp [setN, ey]
   unfold next setD
   rw [if_neg (by omega), if_neg (by omega), if_neg (by omega), if_neg (by omega), if_neg (by omega), if_pos h6]
   simp only [setN_same, ss])
 have WR := Lib.hid (fun (W : World) (h : TreeAt W E room q S) => write_ok (q := q) (E := E) (room := room) (S := S) W h r.ino r.page (B r.data) (by have := hm.ino; omega) ho hd.1 (by rw [size_B, hd.2]; decide) (by rw [size_B, hd.2]; decide))
 rw [L_B] at WR
 have RS := Lib.hid (fun (W : World) (h : TreeAt W E room q (setD S r.ino (wr (S.n r.ino).data r.page r.data))) => resize_ok (q := q) (E := E) (room := room) (S := setD S r.ino (wr (S.n r.ino).data r.page r.data)) W h r.ino r.size (by have := hm.ino; omega) (by unfold setD; simp only [setN_same]; exact ho) (hm.siz (by rw [h6]; rfl)))
 have HL := Lib.hid hO
 clear hT hO hm ho h6 hd
 unfold actC at A0
 unfold actV actC
 go_enter Tryz.func110, Tryz.ntmps110
 go_wp2_with fail
 refine Calls.mono (WR.out _ A0.out.tree) ?_
 rintro e w1 ⟨rfl, h1, h3⟩
 have hX := Tch.box h3 A0.out.box (fun e => by have := HL.out _ e; omega)
 unfold actC at hX
 have V0 := hX.cell 0
 have V1 := hX.cell 1
 have V2 := hX.cell 2
 have V3 := hX.cell 3
 have V4 := hX.cell 4
 have V5 := hX.cell 5
 have V6 := hX.cell 6
 have V7 := hX.cell 7
 have V8 := hX.cell 8
 have V9 := hX.cell 9
 have V10 := hX.cell 10
 have V11 := hX.cell 11
 have V12 := hX.cell 12
 simp only [List.getElem?_toArray, List.getElem?_cons_zero, List.getElem?_cons_succ] at V0 V1 V2 V3 V4 V5 V6 V7 V8 V9 V10 V11 V12
 have Vl := hX.lt
 have H := Lib.hid (And.intro h1 h3)
 clear hX h1 h3 WR
 go_wp2_with fail
 refine Calls.mono (RS.out _ H.out.1) ?_
 rintro e w2 ⟨rfl, h1, h3⟩
 have H2 := Lib.hid (And.intro h1 (H.out.2.trans h3))
 clear h1 h3
 go_wp2_with fail
 go_ret
 refine ⟨rfl, A0.out.pls (Pls.of ?_ H2.out.2)⟩
 rw [← NX.out]
 exact H2.out.1
set_option maxHeartbeats 4000000 in
theorem actFree_ok (wz : World) (hT : TreeAt wz E room q S) (hO : ∀ c, E.O c → c < wz.heap.size) (hI : Inv room S) (r : Rc) (hm : May r) (ho : Ok room r S) (h7 : r.op = 7) :
   Calls Tryz.prog 111 #[actV E.t r] wz fun e w' => e = .returned (.int .i64 0) ∧ Pls wz w' E room q (next r S) := by
 have A0 := Lib.hid (Act0.new (r := r) hT hO)
 unfold Ok at ho
 rw [if_neg (by omega), if_neg (by omega), if_neg (by omega), if_neg (by omega), if_neg (by omega), if_neg (by omega)] at ho
 have NX : Hid (dropS S r.ino = next r S) := Lib.hid (by
   rw [drop_fre hI ho.1 ho.2.2]
   unfold next
   rw [if_neg (by omega), if_neg (by omega), if_neg (by omega), if_neg (by omega), if_neg (by omega), if_neg (by omega)])
 have ST := Lib.hid (fun (W : World) (h : TreeAt W E room q S) => stat_any (q := q) (E := E) (room := room) (S := S) W h r.ino (by have := hm.ino; omega))
 have e1 : statV S r.ino = .agg #[.int .u32 r.ino, .int .u8 1, .int .i64 0, .int .u32 (S.n r.ino).data.length] := by
   unfold statV
   rw [if_neg (by omega), ho.1, ho.2.1]; rfl
 have e2 : errB ((S.n r.ino).kind == 0) 3 = 0 := by simp [errB, ho.1]
 have e3 : dropE S r.ino = 0 := by simp [dropE, firstE, errB, ho.1, ho.2.2]
 rw [e1, e2] at ST
 have DR := Lib.hid (fun (W : World) (h : TreeAt W E room q S) => drop_any (q := q) (E := E) (room := room) (S := S) W h r.ino (by have := hm.ino; omega))
 rw [e3] at DR
 clear hT hO hI hm ho h7 e1 e2 e3
 unfold actC at A0
 unfold actV actC
 go_enter Tryz.func111, Tryz.ntmps111
 go_wp2_with fail
 refine Calls.mono (ST.out _ A0.out.tree) ?_
 rintro e w1 ⟨rfl, hb⟩
 have A1 := Lib.hid (A0.out.later hb)
 have hX := A1.out.box
 unfold actC at hX
 have V0 := hX.cell 0
 have V1 := hX.cell 1
 have V2 := hX.cell 2
 have V3 := hX.cell 3
 have V4 := hX.cell 4
 have V5 := hX.cell 5
 have V6 := hX.cell 6
 have V7 := hX.cell 7
 have V8 := hX.cell 8
 have V9 := hX.cell 9
 have V10 := hX.cell 10
 have V11 := hX.cell 11
 have V12 := hX.cell 12
 simp only [List.getElem?_toArray, List.getElem?_cons_zero, List.getElem?_cons_succ] at V0 V1 V2 V3 V4 V5 V6 V7 V8 V9 V10 V11 V12
 have Vl := hX.lt
 clear hX hb A0 ST
 go_wp2_with fail
 refine Calls.mono (DR.out _ (A1.out.tree.alloc _)) ?_
 rintro e w2 ⟨rfl, h1, h2⟩
 have H := Lib.hid (And.intro h1 h2)
 clear h1 h2
 go_wp2_with fail
 go_ret
 exact ⟨rfl, (A1.out.later ((Below.refl _ _).alloc (Nat.le_refl _) _)).pls (Pls.of (by rw [← NX.out]; exact H.out.1) H.out.2)⟩
set_option maxHeartbeats 4000000 in
theorem actRename_ok (wz : World) (hT : TreeAt wz E room q S) (hO : ∀ c, E.O c → c < wz.heap.size) (hI : Inv room S) (hq : q < 100000) (r : Rc) (hm : May r) (ho : Ok room r S) (h4 : r.op = 4) :
   Calls Tryz.prog 108 #[actV E.t r] wz fun e w' => e = .returned (.int .i64 0) ∧ Pls wz w' E room (q + 1) (next r S) := by
 have A0 := Lib.hid (Act0.new (r := r) hT hO)
 have a1 := (hm.ent (by rw [h4]; rfl)).2.2
 have a3 := hm.mov (by rw [h4]; rfl)
 have a2 := hm.knd (by rw [h4]; rfl)
 have NX := Lib.hid (next_move hI h4 ho a2)
 rw [ok_4 h4] at ho
 obtain ⟨o1, o2, o3, o4, o5, o6, o7, o8⟩ := ho
 have LK := Lib.hid (fun (W : World) (h : TreeAt W E room q S) => look_ok (q := q) (E := E) W h r hm o1 o2 a1)
 have ST := Lib.hid (fun (W : World) (h : TreeAt W E room q S) => stat_any (q := q) (E := E) (room := room) (S := S) W h r.ino (by have := hm.ino; omega))
 have e1 : statV S r.ino = .agg #[.int .u32 r.ino, .int .u8 r.kind, .int .i64 (S.n r.ino).links, .int .u32 (S.n r.ino).data.length] := by
   unfold statV
   rw [if_neg (by omega), o4]
 have e2 : errB ((S.n r.ino).kind == 0) 3 = 0 := by
   have : ((S.n r.ino).kind == 0) = false := by rw [o4]; simp; omega
   rw [this]; rfl
 rw [e1, e2] at ST
 have LKA := fun (W : World) (h : TreeAt W E room q S) => look_any (q := q) r.dir2 (B r.name2) W h hm.name2 (by have := hm.dir2; omega)
 rw [L_B] at LKA
 have LK0 : Hid (r.old = 0 → ∀ (W : World), TreeAt W E room q S → Calls Tryz.prog 18 #[.pointer (some ⟨E.t, 0, none⟩), .int .u32 r.dir2, .string (B r.name2)] W fun e w' => e = .returned (.tuple #[.int .u32 0, .int .i64 3]) ∧ Below W.heap.size W w') := Lib.hid fun h0 W h => by
   have l0 : lookE S r.dir2 r.name2 = 3 := by unfold lookE; rw [if_neg (by rw [a3.2.2.1]; decide), if_neg (by omega), if_neg (by omega), if_pos (by omega)]
   have l1 : lookI S r.dir2 r.name2 = 0 := by unfold lookI; rw [if_neg (by omega)]
   have := LKA W h
   rw [l0, l1] at this
   exact this
 have LK1 : Hid (¬ r.old = 0 → ∀ (W : World), TreeAt W E room q S → Calls Tryz.prog 18 #[.pointer (some ⟨E.t, 0, none⟩), .int .u32 r.dir2, .string (B r.name2)] W fun e w' => e = .returned (.tuple #[.int .u32 r.old, .int .i64 0]) ∧ Below W.heap.size W w') := Lib.hid fun h0 W h => by
   have lo := lookE_ok (S := S) a3.2.2.1 o5 (by omega)
   have := LKA W h
   rw [lo.1, lo.2, o6] at this
   exact this
 have RN := Lib.hid (fun (W : World) (h : TreeAt W E room q S) => rename_ok (q := q) W h hI hq r.dir (B r.name) r.dir2 (B r.name2) r.ino r.old hm.name hm.name2 (by have := hm.dir; omega) (by have := hm.dir2; omega) ⟨a1, a3.2.2.1, o1, o5, o2, o3, o6, fun hk => o7 (by omega), fun x y => ⟨by rw [(o8 x y).1, o4], (o8 x y).2⟩⟩)
 simp only [L_B] at RN
 clear hT hO hI hm h4 o1 o2 o3 o4 o5 o6 o7 o8 a1 a2 a3 e1 e2 LKA hq
 unfold actC at A0
 unfold actV actC at LK
 unfold actV actC
 go_enter Tryz.func108, Tryz.ntmps108
 go_wp2_with fail
 refine Calls.mono (LK.out _ A0.out.tree) ?_
 rintro e w1 ⟨rfl, hb⟩
 have A1 := Lib.hid (A0.out.later hb)
 have hX := A1.out.box
 unfold actC at hX
 have V0 := hX.cell 0
 have V1 := hX.cell 1
 have V2 := hX.cell 2
 have V3 := hX.cell 3
 have V4 := hX.cell 4
 have V5 := hX.cell 5
 have V6 := hX.cell 6
 have V7 := hX.cell 7
 have V8 := hX.cell 8
 have V9 := hX.cell 9
 have V10 := hX.cell 10
 have V11 := hX.cell 11
 have V12 := hX.cell 12
 simp only [List.getElem?_toArray, List.getElem?_cons_zero, List.getElem?_cons_succ] at V0 V1 V2 V3 V4 V5 V6 V7 V8 V9 V10 V11 V12
 have Vl := hX.lt
 clear hX hb A0 LK
 go_wp2_with fail
 refine Calls.mono (ST.out _ A1.out.tree) ?_
 rintro e w2 ⟨rfl, hb⟩
 have A2 := Lib.hid (A1.out.later hb)
 have hX := A2.out.box
 unfold actC at hX
 clear V0 V1 V2 V3 V4 V5 V6 V7 V8 V9 V10 V11 V12 Vl
 have V0 := hX.cell 0
 have V1 := hX.cell 1
 have V2 := hX.cell 2
 have V3 := hX.cell 3
 have V4 := hX.cell 4
 have V5 := hX.cell 5
 have V6 := hX.cell 6
 have V7 := hX.cell 7
 have V8 := hX.cell 8
 have V9 := hX.cell 9
 have V10 := hX.cell 10
 have V11 := hX.cell 11
 have V12 := hX.cell 12
 simp only [List.getElem?_toArray, List.getElem?_cons_zero, List.getElem?_cons_succ] at V0 V1 V2 V3 V4 V5 V6 V7 V8 V9 V10 V11 V12
 have Vl := hX.lt
 clear hX hb A1 ST
 go_wp2_with fail
 clear V0 V1 V2 V3 V4 V5 V6 V7 V8 V9 V10 V11 V12 Vl
 by_cases h0 : r.old = 0
 · skip
   have LKX := Lib.hid (LK0.out h0)
   refine Calls.mono (LKX.out _ (A2.out.tree.alloc _)) ?_
   rintro e w3 ⟨rfl, hb⟩
   have A3 := Lib.hid ((A2.out.later ((Below.refl _ _).alloc (Nat.le_refl _) _)).later hb)
   have hX := A3.out.box
   unfold actC at hX
   have V0 := hX.cell 0
   have V1 := hX.cell 1
   have V2 := hX.cell 2
   have V3 := hX.cell 3
   have V4 := hX.cell 4
   have V5 := hX.cell 5
   have V6 := hX.cell 6
   have V7 := hX.cell 7
   have V8 := hX.cell 8
   have V9 := hX.cell 9
   have V10 := hX.cell 10
   have V11 := hX.cell 11
   have V12 := hX.cell 12
   simp only [List.getElem?_toArray, List.getElem?_cons_zero, List.getElem?_cons_succ] at V0 V1 V2 V3 V4 V5 V6 V7 V8 V9 V10 V11 V12
   have Vl := hX.lt
   have hY := (SBox.new w2 69 #[.int .u32 r.ino, .int .u8 r.kind, .int .i64 (S.n r.ino).links, .int .u32 (S.n r.ino).data.length]).later hb
   have Y0 := hY.cell 0
   have Y1 := hY.cell 1
   have Y2 := hY.cell 2
   have Y3 := hY.cell 3
   simp only [List.getElem?_toArray, List.getElem?_cons_zero, List.getElem?_cons_succ] at Y0 Y1 Y2 Y3
   have Yl := hY.lt
   clear hX hY hb LKX
   have V9b := V9
   rw [h0] at V9b
   clear V9
   have RN2 := Lib.hid (RN.out _ A3.out.tree)
   clear LK0 LK1 RN
   clear h0
   go_wp2_with fail
   refine Calls.mono RN2.out ?_
   rintro e w4 ⟨rfl, h1, h2⟩
   have H := Lib.hid (And.intro h1 h2)
   clear h1 h2
   go_wp2_with fail
   go_ret
   exact ⟨rfl, A3.out.pls (Pls.of (by rw [NX.out]; exact H.out.1) H.out.2)⟩
 · skip
   have LKX := Lib.hid (LK1.out h0)
   refine Calls.mono (LKX.out _ (A2.out.tree.alloc _)) ?_
   rintro e w3 ⟨rfl, hb⟩
   have A3 := Lib.hid ((A2.out.later ((Below.refl _ _).alloc (Nat.le_refl _) _)).later hb)
   have hX := A3.out.box
   unfold actC at hX
   have V0 := hX.cell 0
   have V1 := hX.cell 1
   have V2 := hX.cell 2
   have V3 := hX.cell 3
   have V4 := hX.cell 4
   have V5 := hX.cell 5
   have V6 := hX.cell 6
   have V7 := hX.cell 7
   have V8 := hX.cell 8
   have V9 := hX.cell 9
   have V10 := hX.cell 10
   have V11 := hX.cell 11
   have V12 := hX.cell 12
   simp only [List.getElem?_toArray, List.getElem?_cons_zero, List.getElem?_cons_succ] at V0 V1 V2 V3 V4 V5 V6 V7 V8 V9 V10 V11 V12
   have Vl := hX.lt
   have hY := (SBox.new w2 69 #[.int .u32 r.ino, .int .u8 r.kind, .int .i64 (S.n r.ino).links, .int .u32 (S.n r.ino).data.length]).later hb
   have Y0 := hY.cell 0
   have Y1 := hY.cell 1
   have Y2 := hY.cell 2
   have Y3 := hY.cell 3
   simp only [List.getElem?_toArray, List.getElem?_cons_zero, List.getElem?_cons_succ] at Y0 Y1 Y2 Y3
   have Yl := hY.lt
   clear hX hY hb LKX
   have t8 : ((r.old : Int) != r.old) = false := by simp
   have RN2 := Lib.hid (RN.out _ A3.out.tree)
   clear LK0 LK1 RN
   clear h0
   go_wp2_with fail
   refine Calls.mono RN2.out ?_
   rintro e w4 ⟨rfl, h1, h2⟩
   have H := Lib.hid (And.intro h1 h2)
   clear h1 h2
   go_wp2_with fail
   go_ret
   exact ⟨rfl, A3.out.pls (Pls.of (by rw [NX.out]; exact H.out.1) H.out.2)⟩
end Go.Proofs.YtmfhnhnmdeabeaaGreat.Re
end
