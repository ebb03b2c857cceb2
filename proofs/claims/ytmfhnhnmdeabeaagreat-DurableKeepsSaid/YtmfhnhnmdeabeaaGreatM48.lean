/- The law of layer 32, plain: which record of a row is the next that is kept. -/
import Derived.Test.YtmfhnhnmdeabeaaGreatM36
import Derived.Test.YtmfhnhnmdeabeaaGreatM47
import Derived.Test.YtmfhnhnmdeabeaaGreatM35
set_option linter.unusedVariables false
set_option linter.unusedSimpArgs false
set_option maxRecDepth 100000
section
namespace Go.Proofs.YtmfhnhnmdeabeaaGreat.Re
open Go.RowKit Go.Shelf Go.Maps Oct Path Tr
def RwR (W : World) (p : Option Addr) (rs : List Rw) : Prop := ∀ (i : Nat) (r : Rw), rs[i]? = some r → ∃ g o, p = some ⟨g, o, none⟩ ∧ g < W.heap.size ∧ ∀ (j : Nat) (c : Value), (rwC r)[j]? = some c → W.cell? ⟨g, o + i * 12 + j, none⟩ = some c
theorem RwR.later {W W' : World} {p : Option Addr} {rs : List Rw} (h : RwR W p rs) (hb : Below W.heap.size W W') : RwR W' p rs := fun i r hr => by
 obtain ⟨g, o, rfl, hg, hc⟩ := h i r hr
 refine ⟨g, o, rfl, Nat.lt_of_lt_of_le hg hb.size, fun j c hj => ?_⟩
 rw [← hc j c hj]
 unfold World.cell?
 rw [hb.block g hg]
def BoolAns (wz : World) (e : Ending) (w' : World) : Prop := (∃ b, e = .returned (.bool b)) ∧ Below wz.heap.size wz w'
theorem BoolAns.of {wz w' : World} {b : Bool} (h : Below wz.heap.size wz w') : BoolAns wz (.returned (.bool b)) w' := ⟨⟨b, rfl⟩, h⟩
set_option maxHeartbeats 400000 in
theorem long_any (wz : World) (rs : List Rw) (p : Option Addr) (cap : Nat) (hR : RwR wz p rs) (hl : rs.length ≤ 9223372036854775807) :
   Calls Tryz.prog 4 #[.slice p rs.length cap] wz (BoolAns wz) := by
 have HR := Lib.hid hR
 obtain ⟨n, hn⟩ : ∃ n, rs.length = n := ⟨_, rfl⟩
 rw [hn] at hl ⊢
 have HN := Lib.hid hn
 clear hR hn
 go_enter Tryz.func4, Tryz.ntmps4
 go_wp2_with fail
 go_loopw [3, 4] (fun s3 s4 wr => ∃ (z : Int) (i : Nat), s3 = .int .i64 z ∧ s4 = .int .i64 i ∧ i ≤ n ∧ i ≤ 100 ∧ Below wz.heap.size wz wr) (fun s3 s4 _ => 100 - (intOf s4).toNat)
 case atStart => exact ⟨0, 0, rfl, rfl, Nat.zero_le _, Nat.zero_le _, Below.refl _ _⟩
 case round =>
   obtain ⟨z, i, rfl, rfl, hi, hi2, hB⟩ := hrel
   have B1 := Lib.hid hB
   clear hB
   rcases Nat.lt_or_ge i n with hlt | hge
   · have t1 : (i : Int) < n := by omega
     rcases Nat.lt_or_ge i 100 with h1 | h1
     · have t2 : (i : Int) < 100 := by omega
       obtain ⟨r, hr⟩ : ∃ r, rs[i]? = some r := ⟨_, List.getElem?_eq_getElem (by rw [HN.out]; exact hlt)⟩
       obtain ⟨g, o, rfl, hg, hc⟩ := (HR.out.later B1.out) i r hr
       have c3 : wr.cell? ⟨g, o + i * 12 + 3, none⟩ = some (.string r.name) := hc 3 _ rfl
       have c7 : wr.cell? ⟨g, o + i * 12 + 7, none⟩ = some (.string r.name2) := hc 7 _ rfl
       have c11 : wr.cell? ⟨g, o + i * 12 + 11, none⟩ = some (.string r.data) := hc 11 _ rfl
       clear hc hr
       go_wp2_with fail
       go_quiet (fail)
       go_wp2_with fail
       go_roundw
       case rel => exact ⟨_, i + 1, rfl, by go_num, by omega, by omega, B1.out.trans (Below.mono drewN_below B1.out.size)⟩
       case measure => simp [intOf]; omega
     · have t2 : ¬ (i : Int) < 100 := by omega
       have t3 : decide ((i : Int) < 100) = false := decide_eq_false t2
       by_cases h60 : 60 < n
       · have t4 : 60 < (n : Int) := by omega
         go_wp2_with fail
         go_ret
         exact BoolAns.of B1.out
       · omega
   · have t1 : ¬ (i : Int) < n := by omega
     have t3 : decide ((i : Int) < n) = false := decide_eq_false t1
     by_cases h60 : 60 < n
     · have t4 : 60 < (n : Int) := by omega
       go_wp2_with fail
       go_ret
       exact BoolAns.of B1.out
     · have t4 : ¬ 60 < (n : Int) := by omega
       go_wp2_with fail
       go_ret
       exact BoolAns.of B1.out
end Go.Proofs.YtmfhnhnmdeabeaaGreat.Re
end
section
namespace Go.Proofs.YtmfhnhnmdeabeaaGreat.Re
open Go.RowKit Go.Shelf Go.Maps Oct Path Tr
theorem kept_every (st : List Nat) : ∀ xs : List Rc, (∀ r ∈ xs, r.stamp ∈ st) → keptL (maskK st xs) = xs
 | [], _ => rfl
 | r :: l, h => by
   have ih := kept_every st l fun q hq => h q (List.mem_cons_of_mem _ hq)
   have hc : st.contains r.stamp = true := List.contains_iff_mem.2 (h r (List.mem_cons_self ..))
   unfold keptL at ih ⊢
   simp only [maskK, hc, Bool.true_or, List.filter_cons_of_pos, List.map_cons]
   rw [ih]
theorem hit_page (d : Nm) (k : Nat) : hitT (readP d k) (pageB d k) = true := by
 rw [readP_page]
 unfold hitT
 simp only [List.length_take, length_pageB, Bool.and_eq_true, decide_eq_true_eq, beq_iff_eq]
 refine ⟨by omega, ?_⟩
 rw [show min (min 64 (d.length - k * 64)) 64 = min 64 (d.length - k * 64) by omega]
variable {room : Nat}
theorem fre_keep (v : Nd) (h : (fre v).kind ≠ 0) : (fre v).kind = v.kind ∧ (fre v).data = v.data := by
 unfold fre at h ⊢
 by_cases q : v.held = 0 ∧ v.links = 0
 · rw [if_pos q] at h
   exact absurd rfl h
 · rw [if_neg q]
   exact ⟨rfl, rfl⟩
theorem drop_keep {S : T} (hI : Inv room S) (y x : Nat) (h : ((dropS S y).n x).kind ≠ 0) : ((dropS S y).n x).kind = (S.n x).kind ∧ ((dropS S y).n x).data = (S.n x).data := by
 by_cases h0 : dropE S y = 0
 · obtain ⟨h1, h2⟩ := dropE_ok h0
   have hk := hI.k2 y
   have h3 : (S.n y).kind = 1 := by
     by_cases h : (S.n y).kind = 2
     · exact absurd (hI.dr y h).1 h2
     · omega
   rw [drop_fre hI h3 h2] at h ⊢
   by_cases hxy : x = y
   · subst hxy
     have e : ∀ v : Nd, setN S.n x v x = v := fun v => if_pos rfl
     simp only [e] at h ⊢
     exact fre_keep _ h
   · simp [setN, hxy]
 · have e : dropS S y = S := by
     unfold dropS
     rw [if_neg h0]
   rw [e]
   exact ⟨rfl, rfl⟩
theorem dropAll_keep {S : T} (hI : Inv room S) (l : List Nat) (x : Nat) (h : ((dropAll S l).n x).kind ≠ 0) : ((dropAll S l).n x).kind = (S.n x).kind ∧ ((dropAll S l).n x).data = (S.n x).data := by
 induction l generalizing S with
 | nil => exact ⟨rfl, rfl⟩
 | cons y l ih =>
   obtain ⟨a, b⟩ := ih (inv_drop hI y) h
   have a1 : ((dropAll S (y :: l)).n x).kind = ((dropS S y).n x).kind := a
   have hk : ((dropS S y).n x).kind ≠ 0 := by rw [← a1]; exact h
   obtain ⟨c, d⟩ := drop_keep hI y x hk
   exact ⟨a1.trans c, (show ((dropAll S (y :: l)).n x).data = ((dropS S y).n x).data from b).trans d⟩
theorem page_state {xs : List Rc} (hI : Inv room rootT) (hp : Plays room xs rootT) (hm : ∀ r ∈ xs, Tr.May r) (st : List Nat) (hdt : ∀ x, ((ridT (run (keptL (maskK st xs)) rootT)).n x).data.length ≤ 2304) :
   ∀ x ∈ inos (ridT (run (keptL (maskK st xs)) rootT)), ∀ k : Nat, k * 64 < ((ridT (run (keptL (maskK st xs)) rootT)).n x).data.length → readE (ridT (run (keptL (maskK st xs)) rootT)) x k = 0 ∧ ∃ i u, i ≤ xs.length ∧ seen (run (xs.take i) rootT) x k = some u ∧ hitT (readS (ridT (run (keptL (maskK st xs)) rootT)) x k) u = true := by
 intro x hx k hk
 have hK := inv_run hI (kept_all hI hp st)
 have hR : Inv room (ridT (run (keptL (maskK st xs)) rootT)) := inv_dropAll hK _
 have hk0 := inos_kind hx
 obtain ⟨e1, e2⟩ := dropAll_keep hK (inos (run (keptL (maskK st xs)) rootT)) x hk0
 change ((ridT (run (keptL (maskK st xs)) rootT)).n x).kind = _ at e1
 change ((ridT (run (keptL (maskK st xs)) rootT)).n x).data = _ at e2
 obtain ⟨j, hj, e3⟩ := kept_inode hI (m := maskK st xs) (by rw [maskK_map]; exact hp) (cl_of (fun y hy => hm y.1 (by rw [← maskK_map st xs]; exact List.mem_map_of_mem hy)) (maskK_cl st xs)) x
 rw [maskK_map] at e3
 have hlen : (maskK st xs).length = xs.length := by rw [← List.length_map (f := (·.1)), maskK_map]
 have hkd : ((ridT (run (keptL (maskK st xs)) rootT)).n x).kind ≠ 2 := fun h => by
   rw [(hR.dr x h).2.2] at hk
   simp at hk
 have hd := hdt x
 have key : ∀ S' : T, (S'.n x).kind = ((ridT (run (keptL (maskK st xs)) rootT)).n x).kind → readE S' x k = 0 := fun S' h => by
   unfold readE
   rw [h]
   have a : (((ridT (run (keptL (maskK st xs)) rootT)).n x).kind == 0) = false := by simpa using hk0
   have b : (((ridT (run (keptL (maskK st xs)) rootT)).n x).kind == 2) = false := by simpa using hkd
   have c : (decide ((k : Int) < 0) || decide (36 ≤ (k : Int))) = false := by simp; omega
   rw [a, b, c]
   rfl
 have r0 := key _ rfl
 have r1 := key (run (xs.take j) rootT) (by rw [← e3, ← e1])
 refine ⟨r0, j, pageB ((run (xs.take j) rootT).n x).data k, by omega, by unfold seen; rw [if_pos r1], ?_⟩
 unfold readS
 rw [if_pos r0, ← e3, ← e2]
 exact hit_page _ _
end Go.Proofs.YtmfhnhnmdeabeaaGreat.Re
end
section
namespace Go.Proofs.YtmfhnhnmdeabeaaGreat.Re
open Go.RowKit Go.Shelf Go.Maps Oct Path Tr
theorem keptL_append (a b : List (Rc × Bool)) : keptL (a ++ b) = keptL a ++ keptL b := by simp [keptL]
def cntK (m : List (Rc × Bool)) (i : Nat) : Nat := (keptL (m.take i)).length
theorem cut_at {m : List (Rc × Bool)} {i : Nat} {y : Rc × Bool} (h : m[i]? = some y) : m = m.take i ++ (y :: m.drop (i + 1)) := by
 rw [← drop_cons h, List.take_append_drop]
theorem kept_hit {m : List (Rc × Bool)} {i : Nat} {x : Rc} (h : m[i]? = some (x, true)) : (keptL m)[cntK m i]? = some x := by
 have e : keptL m = keptL (m.take i) ++ keptL ((x, true) :: m.drop (i + 1)) := by rw [← keptL_append, ← cut_at h]
 unfold cntK
 rw [e, List.getElem?_append_right (Nat.le_refl _), Nat.sub_self]
 rfl
theorem kept_miss {m : List (Rc × Bool)} (hm : ∀ y ∈ m, Tr.May y.1) (hC : ClM m) {i : Nat} {x k : Rc} (h : m[i]? = some (x, false)) (hk : (keptL m)[cntK m i]? = some k) : x ≠ k := fun e => by
 subst e
 have e : keptL m = keptL (m.take i) ++ keptL ((x, false) :: m.drop (i + 1)) := by rw [← keptL_append, ← cut_at h]
 unfold cntK at hk
 rw [e, List.getElem?_append_right (Nat.le_refl _)] at hk
 have hx : x ∈ keptL (m.drop (i + 1)) := List.mem_of_getElem? (show (keptL (m.drop (i + 1)))[_]? = some x from hk)
 obtain ⟨y, hy, hyx⟩ := List.mem_map.1 hx
 rw [List.mem_filter] at hy
 have hp : ClM (m.take i ++ ((x, false) :: m.drop (i + 1))) := by rw [← cut_at h]; exact hC
 unfold ClM at hp
 have h2 := (List.pairwise_cons.1 (List.pairwise_append.1 hp).2.1).1 y hy.1 rfl hy.2
 simp only at h2
 rw [hyx, meet_self (hm (x, false) (List.mem_of_getElem? h))] at h2
 cases h2
theorem cnt_next {m : List (Rc × Bool)} {i : Nat} {y : Rc × Bool} (h : m[i]? = some y) : cntK m (i + 1) = cntK m i + (if y.2 then 1 else 0) := by
 unfold cntK
 rw [take_snoc h, keptL_append, List.length_append]
 obtain ⟨a, b⟩ := y
 cases b <;> rfl
theorem cnt_all (m : List (Rc × Bool)) : cntK m m.length = (keptL m).length := by
 unfold cntK
 rw [List.take_length]
end Go.Proofs.YtmfhnhnmdeabeaaGreat.Re
end
