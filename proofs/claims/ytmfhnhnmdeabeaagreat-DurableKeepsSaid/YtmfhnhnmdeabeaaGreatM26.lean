/- The reference of layer 22: Of, ino, May: of any record. -/
import Derived.Test.YtmfhnhnmdeabeaaGreatM19
import Derived.Ground.SlsfProg
import Derived.Ground.SlgnProg
import Derived.Ground.SlgqProg
import Derived.Shelf.SlSortCmp.NoneTotal
import Derived.Shelf.SlicesE.Index
import Derived.Shelf.SlicesQ.Equal
import Derived.Shelf.SlicesQ.Reverse
import Derived.Test.YtmfhnhnmdeabeaaGreatProg
import Derived.Sort.Walk0
import Derived.Sort.OwnSorted
import Derived.StringKeys
import Derived.Test.YtmfhnhnmdeabeaaGreatM02
import Derived.Test.YtmfhnhnmdeabeaaGreatM20
set_option linter.unusedVariables false
set_option linter.unusedSimpArgs false
set_option maxRecDepth 100000
section
namespace Go.Proofs.YtmfhnhnmdeabeaaGreat.So
open Go.RowKit Go.Shelf Tr
theorem bits_le {n : Nat} (h : n ≤ 256) : Lib.bitLen n ≤ 64 := by
 have : ∀ l : _root_.Fin 257, Lib.bitLen l.val ≤ 64 := by decide +kernel
 exact this ⟨n, by omega⟩
set_option maxHeartbeats 4000000 in
theorem sort_any (g n cap : Nat) (hn0 : 0 < n) (hn2 : n ≤ 256) (tl : List Value) (d : Array Nat) (w : World) (hR : RowAt w g tl d) (hn : d.size = n) :
   Calls Tryz.prog 113 #[.slice (some ⟨g, 0, none⟩) n cap] w (PdqR g tl 0 n d w) := by
 have HR := Lib.hid hR
 have HN := Lib.hid hn
 have LN := Lib.hid (Tryz.bits_Len (n : Int) w (by omega) (by omega))
 obtain ⟨m, hm⟩ : ∃ m, Lib.bitLen n = m := ⟨_, rfl⟩
 have b64 : m ≤ 64 := by rw [← hm]; exact bits_le hn2
 have EM := Lib.hid hm
 clear hR hn hm
 go_enter Tryz.func113, Tryz.ntmps113
 go_wp2_with fail
 refine Calls.mono LN.out ?_
 rintro e w9 ⟨rfl, rfl⟩
 rw [Int.toNat_natCast, EM.out]
 go_wp2_with fail
 refine Calls.mono (pdq_any g n cap hn2 tl (n + 1) 0 n m d _ (by omega) HR.out HN.out (by omega) (Nat.le_refl _) b64 (.inl rfl)) ?_
 rintro e w2 ⟨rfl, d', h1, h2, h3, h4⟩
 have R2 := Lib.hid (show PdqR g tl 0 n d w9 (.returned (.tuple #[])) w2 from ⟨rfl, d', h1, h2, h3, h4⟩)
 clear h1 h2 h3 h4
 go_wp2_with fail
 refine bodyPost_ret (results_none rfl _ _ _) rfl ?_
 exact R2.out
theorem sorted_list {n : Nat} {ss : List Nat} {d : Array Nat} (hl : ss.length = n) (hnd : ss.Nodup) (hP : Sort.PermIn 0 n ss.toArray d) (hS : Sort.SortedIn ltN 0 n d) : d.toList.Pairwise (· < ·) ∧ (∀ x, x ∈ d.toList ↔ x ∈ ss) ∧ d.size = n := by
 have hz : d.size = n := by rw [hP.1]; simpa using hl
 have hp : d.toList.Perm ss := by
   have h := hP.2.2
   rw [show d.extract 0 n = d by rw [← hz]; simp, show ss.toArray.extract 0 n = ss.toArray by rw [← hl]; simp] at h
   exact h
 have hn : d.toList.Nodup := hp.symm.nodup hnd
 refine ⟨List.pairwise_iff_getElem.2 fun i j hi hj hij => ?_, fun x => hp.mem_iff, hz⟩
 have h := hS i j (Nat.zero_le _) hij (by simp at hj; omega)
 have hi' : i < d.size := by simpa using hi
 have hj' : j < d.size := by simpa using hj
 rw [lt_no] at h
 simp only [hi', hj', getElem!_pos] at h
 have hne : d[i] ≠ d[j] := fun e => by
   have := (List.getElem_inj (h₀ := hi) (h₁ := hj) hn).1 (by simpa using e)
   omega
 simp only [Array.getElem_toList]
 omega
set_option maxHeartbeats 4000000 in
theorem sorted_any {b nn Bm : Nat} {g : Nat → Option Value} (w : World) (hX : SBox w Bm 51 #[.map (some b)]) (hm : VMap w 37 b nn (natF .u32 g)) (hr : ∀ x, (g x).isSome = true → 1 ≤ x ∧ x ≤ 256) (x0 : Nat) (h0 : (g x0).isSome = true) :
   Calls Tryz.prog 63 #[.func (.func 114) #[] #[.pointer (some ⟨Bm, 0, none⟩)]] w fun e w' => ∃ (v : Value) (ss : List Nat), e = .returned v ∧ (ss.Pairwise (· < ·) ∧ ∀ x, x ∈ ss ↔ (g x).isSome = true) ∧ w'.ownsRow w.heap.size 37 1 v ss.length (ss.map enc32) ∧ Below w.heap.size w w' := by
 have CO := Lib.hid (callsIn_wide.1 (collect_in 3 (by omega) 114 #[.pointer (some ⟨Bm, 0, none⟩)] (fun _ _ => rfl) _ w (keys_seq 1 (by omega) w hX hm hr)))
 have HR := Lib.hid hr
 have H0 := Lib.hid h0
 clear hX hm hr h0
 go_enter Tryz.func63, Tryz.ntmps63
 go_wp2_with fail
 refine Calls.mono CO.out ?_
 rintro e w2 ⟨v, ss, rfl, ⟨hnd, hmem⟩, hO, hB⟩
 have len : ss.length ≤ 256 := few hnd fun x hx => HR.out x ((hmem x).1 hx)
 have hpos : 0 < ss.length := List.length_pos_of_mem ((hmem x0).2 H0.out)
 obtain ⟨n, hn⟩ : ∃ n, ss.length = n := ⟨_, rfl⟩
 rw [hn] at len hpos hO
 obtain ⟨hlen, ⟨_, e0⟩ | ⟨gb, cap, cur, rfl, hgb, hheap, hcap, hmax, hsz, htk⟩⟩ := hO
 · omega
 have hcur : cur = ((ss.toArray.toList.map enc32) ++ cur.toList.drop n).toArray := by
   apply Array.ext'
   simp only [Nat.mul_one] at htk
   simp only [← htk, List.take_append_drop]
 have R2 := Lib.hid (show RowAt w2 gb (cur.toList.drop n) ss.toArray by unfold RowAt SBox; rw [← hcur]; exact hheap)
 have NN := Lib.hid (And.intro hnd (And.intro hmem hn))
 have B2 := Lib.hid (And.intro hB hgb)
 have SZ := Lib.hid (And.intro hsz (And.intro hcap hmax))
 obtain ⟨tl, htl⟩ : ∃ tl, cur.toList.drop n = tl := ⟨_, rfl⟩
 have LT := Lib.hid (show n + tl.length = cap by rw [← htl]; simp; omega)
 rw [htl] at R2
 clear hnd hmem hn hB hgb hsz hcap hmax hheap htk hcur htl hlen
 go_wp2_with fail
 refine Calls.mono (sort_any gb n cap hpos len tl ss.toArray _ R2.out (by simpa using NN.out.2.2)) ?_
 rintro e w3 ⟨rfl, d', h1, h2, h3, h4⟩
 obtain ⟨k1, k2, k3⟩ := sorted_list NN.out.2.2 NN.out.1 h1 h2
 have FIN := Lib.hid (show w3.ownsRow w.heap.size 37 1 (.slice (some ⟨gb, 0, none⟩) n cap) d'.toList.length (d'.toList.map enc32) from by
   refine ⟨by simp, .inr ⟨gb, cap, _, by simp [k3], B2.out.2, h3, by simpa [k3] using SZ.out.2.1, SZ.out.2.2, by simp [k3, LT.out], by simp⟩⟩)
 have K := Lib.hid (And.intro k1 k2)
 have BE := Lib.hid (B2.out.1.trans (Tch.below h4 fun i hi => ⟨Nat.lt_of_lt_of_le hi B2.out.1.size, fun e => by have := B2.out.2; omega⟩))
 clear h1 h2 h3 h4 k1 k2 k3
 go_wp2_with fail
 go_ret
 exact ⟨_, d'.toList, rfl, ⟨K.out.1, fun x => (K.out.2 x).trans (NN.out.2.1 x)⟩, FIN.out, BE.out⟩
end Go.Proofs.YtmfhnhnmdeabeaaGreat.So
end
section
namespace Go.Proofs.YtmfhnhnmdeabeaaGreat.Tr
open Go.RowKit Go.Shelf Go.Maps Oct Path
def inos (S : T) : List Nat := ((List.range 257).filter fun x => (S.n x).kind != 0)
theorem inos_mem {room : Nat} {S : T} (hI : Inv room S) (hr : room ≤ 256) (x : Nat) : x ∈ inos S ↔ (S.n x).kind ≠ 0 := by
 unfold inos
 simp only [List.mem_filter, List.mem_range, bne_iff_ne, ne_eq, and_iff_right_iff_imp]
 intro h
 have := hI.rng x h
 omega
theorem inos_up (S : T) : (inos S).Pairwise (· < ·) := List.Pairwise.filter _ List.pairwise_lt_range
theorem up_eq : ∀ {l k : List Nat}, l.Pairwise (· < ·) → k.Pairwise (· < ·) → (∀ x, x ∈ l ↔ x ∈ k) → l = k
 | [], [], _, _, _ => rfl
 | [], y :: k, _, _, h => by have := (h y).2 (by simp); cases this
 | x :: l, [], _, _, h => by have := (h x).1 (by simp); cases this
 | x :: l, y :: k, h1, h2, h => by
   obtain ⟨a1, a2⟩ := List.pairwise_cons.1 h1
   obtain ⟨b1, b2⟩ := List.pairwise_cons.1 h2
   have e : x = y := by
     rcases List.mem_cons.1 ((h x).1 (by simp)) with e | e
     · exact e
     · rcases List.mem_cons.1 ((h y).2 (by simp)) with e2 | e2
       · exact e2.symm
       · have := a1 _ e2; have := b1 _ e; omega
   subst e
   rw [up_eq a2 b2 fun z => ⟨fun hz => by
     rcases List.mem_cons.1 ((h z).1 (by simp [hz])) with e | e
     · subst e; have := a1 _ hz; omega
     · exact e, fun hz => by
     rcases List.mem_cons.1 ((h z).2 (by simp [hz])) with e | e
     · subst e; have := b1 _ hz; omega
     · exact e⟩]
theorem row_lower {base base' n size : Nat} {e : TypeId} {v : Value} {xs : List Value} {W : World} (h : W.ownsRow base e size v n xs) (hb : base' ≤ base) : W.ownsRow base' e size v n xs := by
 obtain ⟨h1, h2 | ⟨g, cap, cur, h3, h4, h5⟩⟩ := h
 · exact ⟨h1, .inl h2⟩
 · exact ⟨h1, .inr ⟨g, cap, cur, h3, Nat.le_trans hb h4, h5⟩⟩
variable {E : TL} {room q : Nat} {S : T}
set_option maxHeartbeats 4000000 in
theorem all_any (w : World) (hT : TreeAt w E room q S) (hI : Inv room S) :
   Calls Tryz.prog 27 #[.pointer (some ⟨E.t, 0, none⟩)] w fun e w' => ∃ v : Value, e = .returned v ∧ w'.ownsRow w.heap.size 37 1 v (inos S).length ((inos S).map enc32) ∧ Below w.heap.size w w' := by
 have HT := Lib.hid hT
 have HI := Lib.hid hI
 have hY := hT.top
 have Y0 := hY.cell 0
 have Y1 := hY.cell 1
 simp only [List.getElem?_toArray, List.getElem?_cons_zero, List.getElem?_cons_succ] at Y0 Y1
 have Yl := hY.lt
 clear hY hT hI
 go_enter Tryz.func27, Tryz.ntmps27
 go_wp2_with fail
 refine Calls.mono (keys_any E.m w) ?_
 rintro e w2 ⟨rfl, rfl⟩
 have B2 := Lib.hid ((Below.refl w.heap.size w).alloc (Nat.le_refl _) (.cells #[.map (some E.m)] 51))
 have SZ := Lib.hid (show (w.alloc (.cells #[.map (some E.m)] 51)).heap.size = w.heap.size + 1 by simp)
 have SO := Lib.hid (So.sorted_any (w.alloc (.cells #[.map (some E.m)] 51)) (SBox.new w _ _) (HT.out.later B2.out).map (fun x hx => by
   have hk : (S.n x).kind ≠ 0 := fun e => by simp [nodeF, e] at hx
   have := HI.out.rng x hk; have := HT.out.rm; omega) 1 (by simp [nodeF, HI.out.root.1]))
 go_wp2_with fail
 refine Calls.mono SO.out ?_
 rintro e w3 ⟨v, ss, rfl, ⟨hup, hmem⟩, hO, hB⟩
 have e : ss = inos S := up_eq hup (inos_up S) fun x => by
   rw [hmem, inos_mem HI.out HT.out.rm]
   unfold nodeF
   split <;> simp [*]
 subst e
 have O3 := Lib.hid hO
 have B3 := Lib.hid (B2.out.trans (hB.mono (by rw [SZ.out]; omega)))
 clear hO hB hup hmem
 go_wp2_with fail
 go_ret
 exact ⟨v, rfl, row_lower O3.out (by rw [SZ.out]; omega), B3.out⟩
end Go.Proofs.YtmfhnhnmdeabeaaGreat.Tr
end
section
namespace Go.Proofs
open Go.Shelf
def Tryz.laySF_ren : Go.Shelf.Ren := ⟨fun | 6 => 126 | 15 => 141 | 14 => 143 | 28 => 169 | 29 => 170 | 20 => 172 | 21 => 173 | 22 => 174 | 23 => 175 | 24 => 176 | 25 => 177 | 26 => 178 | 27 => 179 | 46 => 188 | 47 => 183 | 48 => 184 | 49 => 189 | 50 => 190 | 57 => 192 | n => n, fun | 22 => 80 | 24 => 147 | 25 => 165 | 3 => 3 | 39 => 170 | 0 => 0 | 53 => 37 | 55 => 36 | 4 => 4 | 46 => 181 | 45 => 180 | 50 => 48 | 5 => 5 | 9 => 9 | 66 => 193 | 70 => 197 | 76 => 201 | 77 => 202 | n => n, fun | n => n⟩
theorem Tryz.laySF : Go.Proofs.SlLaysF0.n6 Tryz.prog Tryz.laySF_ren := {
 mixed := by kernel_rfl
 f6 := ⟨Tryz.f126.name, by decide, Tryz.func126.trans (congrArg some (by kernel_rfl))⟩
 f14 := ⟨Tryz.f143.name, by decide, Tryz.func143.trans (congrArg some (by kernel_rfl))⟩
 f15 := Tryz.func141.trans (congrArg some (by kernel_rfl))
 f20 := ⟨Tryz.f172.name, by decide, Tryz.func172.trans (congrArg some (by kernel_rfl))⟩
 f21 := ⟨Tryz.f173.name, by decide, Tryz.func173.trans (congrArg some (by kernel_rfl))⟩
 f22 := ⟨Tryz.f174.name, by decide, Tryz.func174.trans (congrArg some (by kernel_rfl))⟩
 f23 := ⟨Tryz.f175.name, by decide, Tryz.func175.trans (congrArg some (by kernel_rfl))⟩
 f24 := ⟨Tryz.f176.name, by decide, Tryz.func176.trans (congrArg some (by kernel_rfl))⟩
 f25 := ⟨Tryz.f177.name, by decide, Tryz.func177.trans (congrArg some (by kernel_rfl))⟩
 f26 := ⟨Tryz.f178.name, by decide, Tryz.func178.trans (congrArg some (by kernel_rfl))⟩
 f27 := ⟨Tryz.f179.name, by decide, Tryz.func179.trans (congrArg some (by kernel_rfl))⟩
 f28 := Tryz.func169.trans (congrArg some (by kernel_rfl))
 f29 := Tryz.func170.trans (congrArg some (by kernel_rfl))
 f46 := ⟨Tryz.f188.name, by decide, Tryz.func188.trans (congrArg some (by kernel_rfl))⟩
 f47 := Tryz.func183.trans (congrArg some (by kernel_rfl))
 f48 := Tryz.func184.trans (congrArg some (by kernel_rfl))
 f49 := ⟨Tryz.f189.name, by decide, Tryz.func189.trans (congrArg some (by kernel_rfl))⟩
 f50 := ⟨Tryz.f190.name, by decide, Tryz.func190.trans (congrArg some (by kernel_rfl))⟩
 f57 := ⟨Tryz.f192.name, by decide, Tryz.func192.trans (congrArg some (by kernel_rfl))⟩
 t0 := Tryz.underlying0
 a0 := Tryz.isAgg0
 z0 := Tryz.sizeOf0
 v0 := Tryz.zeroValue0
 t3 := Tryz.underlying3
 a3 := Tryz.isAgg3
 z3 := Tryz.sizeOf3
 v3 := Tryz.zeroValue3
 t4 := Tryz.underlying4
 a4 := Tryz.isAgg4
 z4 := Tryz.sizeOf4
 v4 := Tryz.zeroValue4
 t5 := Tryz.underlying5
 a5 := Tryz.isAgg5
 z5 := Tryz.sizeOf5
 v5 := Tryz.zeroValue5
 t9 := Tryz.underlying9
 a9 := Tryz.isAgg9
 z9 := Tryz.sizeOf9
 v9 := Tryz.zeroValue9
 t22 := Tryz.underlying80
 a22 := Tryz.isAgg80
 z22 := Tryz.sizeOf80
 v22 := Tryz.zeroValue80
 t25 := Tryz.underlying165
 a25 := Tryz.isAgg165
 z25 := Tryz.sizeOf165
 v25 := Tryz.zeroValue165
 t39 := Tryz.underlying170
 a39 := Tryz.isAgg170
 z39 := Tryz.sizeOf170
 v39 := Tryz.zeroValue170
 t45 := Tryz.underlying180
 a45 := Tryz.isAgg180
 z45 := Tryz.sizeOf180
 v45 := Tryz.zeroValue180
 t46 := Tryz.underlying181
 a46 := Tryz.isAgg181
 z46 := Tryz.sizeOf181
 v46 := Tryz.zeroValue181
 t50 := Tryz.underlying48
 a50 := Tryz.isAgg48
 z50 := Tryz.sizeOf48
 v50 := Tryz.zeroValue48
 t53 := Tryz.underlying37
 a53 := Tryz.isAgg37
 z53 := Tryz.sizeOf37
 v53 := Tryz.zeroValue37
 t55 := Tryz.underlying36
 a55 := Tryz.isAgg36
 z55 := Tryz.sizeOf36
 v55 := Tryz.zeroValue36
 t66 := Tryz.underlying193
 a66 := Tryz.isAgg193
 z66 := Tryz.sizeOf193
 v66 := Tryz.zeroValue193
 t70 := Tryz.underlying197
 a70 := Tryz.isAgg197
 z70 := Tryz.sizeOf197
 v70 := Tryz.zeroValue197
 t76 := Tryz.underlying201
 a76 := Tryz.isAgg201
 z76 := Tryz.sizeOf201
 v76 := Tryz.zeroValue201
 t77 := Tryz.underlying202
 a77 := Tryz.isAgg202
 z77 := Tryz.sizeOf202
 v77 := Tryz.zeroValue202 }
def Tryz.layEU_ren : Go.Shelf.Ren := ⟨fun | 33 => 52 | n => n, fun | 22 => 63 | 23 => 37 | 4 => 4 | 3 => 3 | 0 => 0 | n => n, fun | n => n⟩
theorem Tryz.layEU : Go.Proofs.SlLaysE.n33 Tryz.prog Tryz.layEU_ren := {
 mixed := by kernel_rfl
 f33 := ⟨Tryz.f52.name, by decide, Tryz.func52.trans (congrArg some (by kernel_rfl))⟩
 t0 := Tryz.underlying0
 a0 := Tryz.isAgg0
 z0 := Tryz.sizeOf0
 v0 := Tryz.zeroValue0
 t3 := Tryz.underlying3
 a3 := Tryz.isAgg3
 z3 := Tryz.sizeOf3
 v3 := Tryz.zeroValue3
 t4 := Tryz.underlying4
 a4 := Tryz.isAgg4
 z4 := Tryz.sizeOf4
 v4 := Tryz.zeroValue4
 t22 := Tryz.underlying63
 a22 := Tryz.isAgg63
 z22 := Tryz.sizeOf63
 v22 := Tryz.zeroValue63
 a23 := Tryz.isAgg37
 z23 := Tryz.sizeOf37 }
def Tryz.layEE_ren : Go.Shelf.Ren := ⟨fun | 8 => 97 | n => n, fun | 22 => 80 | 24 => 147 | 4 => 4 | 3 => 3 | 0 => 0 | n => n, fun | n => n⟩
theorem Tryz.layEE : Go.Proofs.SlLaysQ.n8 Tryz.prog Tryz.layEE_ren := {
 mixed := by kernel_rfl
 f8 := ⟨Tryz.f97.name, by decide, Tryz.func97.trans (congrArg some (by kernel_rfl))⟩
 t0 := Tryz.underlying0
 a0 := Tryz.isAgg0
 z0 := Tryz.sizeOf0
 v0 := Tryz.zeroValue0
 t3 := Tryz.underlying3
 a3 := Tryz.isAgg3
 z3 := Tryz.sizeOf3
 v3 := Tryz.zeroValue3
 t4 := Tryz.underlying4
 a4 := Tryz.isAgg4
 z4 := Tryz.sizeOf4
 v4 := Tryz.zeroValue4
 t22 := Tryz.underlying80
 a22 := Tryz.isAgg80
 z22 := Tryz.sizeOf80
 v22 := Tryz.zeroValue80 }
def Tryz.layRV_ren : Go.Shelf.Ren := ⟨fun | 35 => 24 | n => n, fun | 22 => 22 | 23 => 39 | 3 => 3 | 4 => 4 | 0 => 0 | n => n, fun | n => n⟩
theorem Tryz.layRV : Go.Proofs.SlLaysE0.n35 Tryz.prog Tryz.layRV_ren := {
 mixed := by kernel_rfl
 f35 := ⟨Tryz.f24.name, by decide, Tryz.func24.trans (congrArg some (by kernel_rfl))⟩
 t0 := Tryz.underlying0
 a0 := Tryz.isAgg0
 z0 := Tryz.sizeOf0
 v0 := Tryz.zeroValue0
 t3 := Tryz.underlying3
 a3 := Tryz.isAgg3
 z3 := Tryz.sizeOf3
 v3 := Tryz.zeroValue3
 t4 := Tryz.underlying4
 a4 := Tryz.isAgg4
 z4 := Tryz.sizeOf4
 v4 := Tryz.zeroValue4
 t22 := Tryz.underlying22
 a22 := Tryz.isAgg22
 z22 := Tryz.sizeOf22
 v22 := Tryz.zeroValue22 }
def Tryz.layCT_ren : Go.Shelf.Ren := ⟨fun | 31 => 22 | 29 => 56 | n => n, fun | 22 => 23 | 23 => 36 | 4 => 4 | 3 => 3 | 0 => 0 | n => n, fun | n => n⟩
theorem Tryz.layCT : Go.Proofs.SlLaysE.n31 Tryz.prog Tryz.layCT_ren := {
 mixed := by kernel_rfl
 f29 := ⟨Tryz.f56.name, by decide, Tryz.func56.trans (congrArg some (by kernel_rfl))⟩
 f31 := ⟨Tryz.f22.name, by decide, Tryz.func22.trans (congrArg some (by kernel_rfl))⟩
 t0 := Tryz.underlying0
 a0 := Tryz.isAgg0
 z0 := Tryz.sizeOf0
 v0 := Tryz.zeroValue0
 t3 := Tryz.underlying3
 a3 := Tryz.isAgg3
 z3 := Tryz.sizeOf3
 v3 := Tryz.zeroValue3
 t4 := Tryz.underlying4
 a4 := Tryz.isAgg4
 z4 := Tryz.sizeOf4
 v4 := Tryz.zeroValue4
 t22 := Tryz.underlying23
 a22 := Tryz.isAgg23
 z22 := Tryz.sizeOf23
 v22 := Tryz.zeroValue23
 a23 := Tryz.isAgg36
 z23 := Tryz.sizeOf36 }
end Go.Proofs
end
section
namespace Go.Proofs.YtmfhnhnmdeabeaaGreat.Tr
open Go.RowKit Go.Shelf Go.Maps Oct Path
def sCmp (x y : List UInt8) : Int := if Op.bytesLess x y then -1 else if x == y then 0 else 1
theorem nanS_any (x : ByteArray) (w : World) : Calls Tryz.prog 144 #[.string x] w fun e w' => e = .returned (.bool false) ∧ w = w' := by
 go_enter Tryz.func144, Tryz.ntmps144
 go_wp2
 go_ret
 exact ⟨by simp, rfl⟩
theorem cmpS_any (x y : ByteArray) (w : World) : Calls Tryz.prog 128 #[.string x, .string y] w fun e w' => e = .returned (.int .i64 (sCmp x.toList y.toList)) ∧ w = w' := by
 obtain ⟨r, hr⟩ : ∃ r, sCmp x.toList y.toList = r := ⟨_, rfl⟩
 rw [hr]
 unfold sCmp at hr
 have HR := Lib.hid hr
 clear hr
 go_enter Tryz.func128, Tryz.ntmps128
 go_wp2_with fail
 refine (nanS_any x w).mono ?_
 rintro e w9 ⟨rfl, rfl⟩
 go_wp2_with fail
 refine (nanS_any y w).mono ?_
 rintro e w9 ⟨rfl, rfl⟩
 rcases hl : Op.bytesLess x.toList y.toList with _ | _
 · rcases he : x.toList == y.toList with _ | _
   · go_wp2_with fail
     go_ret
     exact ⟨by rw [← HR.out, hl, he]; rfl, rfl⟩
   · go_wp2_with fail
     go_ret
     exact ⟨by rw [← HR.out, hl, he]; rfl, rfl⟩
 · go_wp2_with fail
   go_ret
   exact ⟨by rw [← HR.out, hl]; rfl, rfl⟩
def encE (x : ByteArray × Nat) : List Value := [.string x.1, .int .u32 x.2]
theorem less_clo (x y : ByteArray × Nat) (W : World) : Calls Tryz.prog 127 #[.agg #[.string x.1, .int .u32 x.2], .agg #[.string y.1, .int .u32 y.2]] W fun e w' => e = .returned (.int .i64 (sCmp x.1.toList y.1.toList)) ∧ ∃ q os', w' = Go.Sort.grow (W.drewN q) os' := by
 have hcon := fun W' => cmpS_any x.1 y.1 W'
 generalize sCmp x.1.toList y.1.toList = r at hcon ⊢
 go_enter Tryz.func127, Tryz.ntmps127
 go_wp2_with (go_at_call 128; refine (hcon _).mono ?_; rintro e w' ⟨rfl, rfl⟩)
 go_ret
 exact ⟨rfl, 0, _, by rw [Go.Sort.alloc_eq_grow, Go.Sort.alloc_eq_grow, Go.Sort.grow_grow]; rfl⟩
theorem ltE (x y : ByteArray × Nat) : Go.Proofs.ltOf (fun x y : ByteArray × Nat => sCmp x.1.toList y.1.toList) x y = decide (x.1.toList < y.1.toList) := by
 rw [← Go.Proofs.bytesLess_eq]
 cases h : Op.bytesLess x.1.toList y.1.toList <;> cases h2 : (x.1.toList == y.1.toList) <;> simp [Go.Proofs.ltOf, sCmp, h] <;> simp at h2 <;> simp [h2]
theorem swoE : Go.Sort.SWO (Go.Proofs.ltOf (fun x y : ByteArray × Nat => sCmp x.1.toList y.1.toList)) where
 irrefl x := by rw [ltE]; simp
 trans x y z h1 h2 := by
   rw [ltE] at *
   simp only [decide_eq_true_eq] at *
   exact List.lt_trans h1 h2
 ntrans x y z h1 h2 := by
   rw [ltE] at *
   simp only [decide_eq_false_iff_not, List.not_lt] at *
   exact List.le_trans h2 h1
end Go.Proofs.YtmfhnhnmdeabeaaGreat.Tr
end
section
namespace Go.Proofs.YtmfhnhnmdeabeaaGreat.Tr
open Go.RowKit Go.Shelf Go.Maps Oct Path
abbrev Ent := ByteArray × Nat
theorem fm_get : ∀ (es : List Ent) (t : Nat), (es.flatMap encE)[t]? = (es[t / 2]?).map fun x => (encE x)[t % 2]!
 | [], t => by simp
 | x :: es, 0 => by simp [encE]
 | x :: es, 1 => by simp [encE]
 | x :: es, t + 2 => by
   have h := fm_get es t
   rw [show (t + 2) / 2 = t / 2 + 1 by omega, show (t + 2) % 2 = t % 2 by omega, List.getElem?_cons_succ, ← h]
   simp [encE]
theorem fm_len (es : List Ent) : (es.flatMap encE).length = es.length * 2 := by
 induction es with
 | nil => rfl
 | cons x es ih => rw [List.flatMap_cons, List.length_append, ih, List.length_cons]; simp only [encE, List.length_cons, List.length_nil]; omega
theorem flat_list (es : List Ent) : (Go.Sort.flatK encE 2 es.toArray).toList = es.flatMap encE := by
 apply List.ext_getElem (by rw [fm_len]; simp)
 intro t h1 h2
 have h3 : t < es.length * 2 := by rw [fm_len] at h2; exact h2
 have h4 := Go.Sort.get_flatK encE 2 es.toArray t (by simpa using h3)
 have h5 := fm_get es t
 have h6 : t / 2 < es.length := by omega
 rw [List.getElem?_eq_getElem h2, List.getElem?_eq_getElem h6] at h5
 simp only [Option.map_some, Option.some.injEq] at h5
 rw [h5]
 have h7 : t < (Go.Sort.flatK encE 2 es.toArray).size := by simpa using h3
 rw [getElem!_pos _ t h7] at h4
 simp only [Array.getElem_toList]
 rw [h4]
 simp [h6]
theorem holds_row {w : World} {g : Nat} {cur : Array Value} {e : TypeId} {es : List Ent} (hb : w.heap[g]? = some (.cells cur e (0, 0))) (ht : cur.toList.take (es.length * 2) = es.flatMap encE) : Go.Sort.HoldsK encE 2 w g 0 es.toArray := by
 intro j hj
 have hj' : j < es.length * 2 := by simpa using hj
 refine ⟨?_, by simp [World.frozen?, hb]⟩
 have h1 : (cur.toList.take (es.length * 2))[j]? = (es.flatMap encE)[j]? := by rw [ht]
 rw [List.getElem?_take_of_lt hj', ← flat_list] at h1
 simp only [World.cell?, hb, Nat.zero_add]
 simp only [Option.isSome_none, Bool.false_eq_true, if_false]
 rw [← Array.getElem?_toList, h1, Array.getElem?_toList, Array.getElem?_eq_getElem hj, getElem!_pos _ j hj]
 rfl
theorem heap_row {w : World} {g n : Nat} {os : Array Obj} {cur : Array Value} {e : TypeId} {fr : Nat × Nat} (F : Array Value) (hb : w.heap[g]? = some (.cells cur e fr)) :
   (Go.Sort.grow (Go.Sort.putRow id (Go.Sort.ahead w n) g 0 F) os).heap[g]? = some (.cells (Go.Sort.putCells id 0 F cur) e fr) := by
 have hg : g < w.heap.size := (Array.getElem?_eq_some_iff.1 hb).1
 rw [Go.Sort.heap_grow_old _ _ (by simpa using hg)]
 simp [Go.Sort.putRow, Go.Sort.mapBlock, Go.Sort.ahead, Array.getElem?_modify, hb, Go.Sort.onCells]
theorem tch_row {w : World} {g n : Nat} {os : Array Obj} (F : Array Value) : So.One g w (Go.Sort.grow (Go.Sort.putRow id (Go.Sort.ahead w n) g 0 F) os) := by
 refine ⟨rfl, rfl, rfl, by simp, fun k hk hne => ?_⟩
 rw [Go.Sort.heap_grow_old _ _ (by simpa using hk)]
 have : g ≠ k := fun e => hne e.symm
 simp [Go.Sort.putRow, Go.Sort.mapBlock, Go.Sort.ahead, Array.getElem?_modify, this]
theorem take_row (cur F : Array Value) (h : F.size ≤ cur.size) : (Go.Sort.putCells id 0 F cur).toList.take F.size = F.toList := by
 apply List.ext_getElem?
 intro j
 by_cases hj : j < F.size
 · rw [List.getElem?_take_of_lt hj, Array.getElem?_toList]
   simp [Go.Sort.putCells, hj, show j < cur.size by omega]
 · rw [List.getElem?_take_eq_none (by omega), List.getElem?_eq_none (by simp; omega)]
theorem sortE_any (base : Nat) (v : Value) (es : List Ent) (w : World) (hO : w.ownsRow base 147 2 v es.length (es.flatMap encE)) (hsz : es.length < 4611686018427387904) :
   Calls Tryz.prog 126 #[v, .func (.func 127) #[] #[]] w fun e w' => e = .returned (.tuple #[]) ∧ ∃ es' : List Ent, es'.Perm es ∧ (∀ i j (hi : i < es'.length) (hj : j < es'.length), i < j → ¬ es'[j].1.toList < es'[i].1.toList) ∧ w'.ownsRow base 147 2 v es'.length (es'.flatMap encE) ∧ Below base w w' := by
 obtain ⟨hlen, ⟨rfl, h0⟩ | ⟨g, cap, cur, rfl, hbase, hb, h1, h2, h3, h4⟩⟩ := hO
 · have hcon := AnyF.slices_SortFunc_none (P := Tryz.prog) (ρ := Tryz.laySF_ren) Tryz.laySF none 0 (.func (.func 127) #[] #[]) w
   refine Calls.mono hcon ?_
   rintro e w' ⟨rfl, rfl⟩
   have e0 : es = [] := List.eq_nil_of_length_eq_zero h0
   subst e0
   exact ⟨rfl, [], List.Perm.refl _, fun i j hi => absurd hi (by simp), ⟨by simp, .inl ⟨rfl, rfl⟩⟩, Below.refl _ _⟩
 · have hg : g < w.heap.size := (Array.getElem?_eq_some_iff.1 hb).1
   have eg : ∀ args w, (callFunc 127 args).run Tryz.prog w = .ok (.enter 127 args) w := enters_of Tryz.func127 (by kernel_rfl) rfl
   have hcon := AnyQ.slices_SortFunc (P := Tryz.prog) (ρ := Tryz.laySF_ren) Tryz.laySF 2 Tryz.isAgg147 Tryz.sizeOf147 encE (fun _ => rfl) (fun x v hv => by simp [encE] at hv; rcases hv with rfl | rfl <;> rfl) (fun x y => sCmp x.1.toList y.1.toList) swoE 127 #[] g 0 cap es.toArray w eg (fun _ _ _ _ x y => less_clo x y _) (holds_row hb h4) hg (by simpa using hsz)
   refine Calls.mono hcon ?_
   rintro e w' ⟨rfl, d', n, os, hp, hs, rfl⟩
   have hz : d'.size = es.length := by rw [hp.1]; simp
   have hperm : d'.toList.Perm es := by
     have h := hp.2.2
     simp only [List.size_toArray] at h
     rw [show d'.extract 0 es.length = d' by rw [← hz]; simp, show es.toArray.extract 0 es.length = es.toArray by simp] at h
     exact h
   have hF : (Go.Sort.flatK encE 2 d').toList = d'.toList.flatMap encE := by have := flat_list d'.toList; simpa using this
   have hFs : (Go.Sort.flatK encE 2 d').size = es.length * 2 := by simp [hz]
   refine ⟨rfl, d'.toList, hperm, fun i j hi hj hij => ?_, ⟨by rw [fm_len], .inr ⟨g, cap, _, by simp [hz], hbase, heap_row _ hb, by simpa [hz] using h1, h2, by simp [Go.Sort.putCells, h3], ?_⟩⟩, Tch.below (tch_row _) fun i hi => ⟨by omega, fun e => by omega⟩⟩
   · have h := hs i j (Nat.zero_le _) hij (by simpa [hz] using hj)
     rw [ltE] at h
     have hi' : i < d'.size := by simpa using hi
     have hj' : j < d'.size := by simpa using hj
     rw [getElem!_pos d' i hi', getElem!_pos d' j hj'] at h
     simpa using h
   · rw [show d'.toList.length * 2 = (Go.Sort.flatK encE 2 d').size by simp, take_row _ _ (by rw [hFs, h3]; omega), hF]
end Go.Proofs.YtmfhnhnmdeabeaaGreat.Tr
end
section
namespace Go.Proofs.YtmfhnhnmdeabeaaGreat.Tr
open Go.RowKit Go.Shelf Go.Maps Oct Path
variable {E : TL} {room q : Nat} {S : T}
theorem info_E : (Tryz.prog.info? 147).map (fun i => (i.zero, i.size, i.bytes)) = some (some (.agg #[.string ⟨#[]⟩, .int .u32 0]), 2, 24) := by kernel_rfl
theorem same_str (a b : List UInt8) : (Lit.string a).sameKey (.string b) = decide (a = b) := by
 unfold Lit.sameKey
 by_cases h : a = b
 · simp [h]
 · simp [h]
theorem news_box {W : World} {b : Nat} {t : TypeId} {cs : Array Value} (h : SBox W b t cs) : ∀ (j : Nat) (u : Value), cs.toList[j]? = some u → W.cell? ((⟨b, 0, none⟩ : Addr).add j) = some u := by
 intro j u hu
 have e : ((⟨b, 0, none⟩ : Addr).add j) = ⟨b, j, none⟩ := by unfold Addr.add; simp; omega
 rw [e, h.cell j]
 simpa using hu
structure Came (l : Nm → Nat) (left : Lit → Bool) (es : List Ent) : Prop where
 nd : (es.map fun e => L e.1).Nodup
 is : ∀ e ∈ es, l (L e.1) = e.2 ∧ e.2 ≠ 0 ∧ e.1.size ≤ maxLen ∧ left (.string (L e.1)) = false
 all : ∀ s : ByteArray, s.size ≤ maxLen → l (L s) ≠ 0 → left (.string (L s)) = false → (s, l (L s)) ∈ es
theorem Came.more {l : Nm → Nat} {left : Lit → Bool} {es : List Ent} (h : Came l left es) {s : ByteArray} (hs : s.size ≤ maxLen) (h0 : l (L s) ≠ 0) (hl : left (.string (L s)) = true) : Came l (fun x => left x && !x.sameKey (.string (L s))) (es ++ [(s, l (L s))]) where
 nd := by
   rw [List.map_append]
   refine List.nodup_append.2 ⟨h.nd, by simp, fun a ha c hc => ?_⟩
   simp at hc
   subst hc
   intro e
   subst e
   obtain ⟨y, hy, e⟩ := List.mem_map.1 ha
   have := (h.is y hy).2.2.2
   rw [e, hl] at this
   cases this
 is e he := by
   rcases List.mem_append.1 he with he | he
   · have k := h.is e he
     exact ⟨k.1, k.2.1, k.2.2.1, by simp [k.2.2.2]⟩
   · simp at he
     subst he
     exact ⟨rfl, h0, hs, by simp [same_str]⟩
 all t ht h1 h2 := by
   simp only [same_str, Bool.and_eq_false_iff, Bool.not_eq_false', decide_eq_true_eq] at h2
   rcases h2 with h2 | h2
   · exact List.mem_append_left _ (h.all t ht h1 h2)
   · rw [L_inj h2]; simp
def Listing (l : Nm → Nat) (es : List Ent) : Prop := es.Pairwise (fun a b => L a.1 < L b.1) ∧ ∀ e : Ent, e ∈ es ↔ l (L e.1) = e.2 ∧ e.2 ≠ 0 ∧ e.1.size ≤ maxLen
theorem Listing.nil (l : Nm → Nat) (h : ∀ s, l s = 0) : Listing l [] := ⟨List.Pairwise.nil, fun e => ⟨fun h => (by cases h), fun ⟨h1, h2, _⟩ => absurd (h1.symm.trans (h _)) h2⟩⟩
theorem Listing.eq {l : Nm → Nat} : ∀ {a b : List Ent}, Listing l a → Listing l b → a = b := by
 have go : ∀ {a b : List Ent}, a.Pairwise (fun a b => L a.1 < L b.1) → b.Pairwise (fun a b => L a.1 < L b.1) → (∀ x, x ∈ a ↔ x ∈ b) → a = b := by
   intro a
   induction a with
   | nil =>
     intro b _ _ h
     cases b with
     | nil => rfl
     | cons y k => have := (h y).2 (by simp); cases this
   | cons x l ih =>
     intro b h1 h2 h
     cases b with
     | nil => have := (h x).1 (by simp); cases this
     | cons y k =>
       obtain ⟨a1, a2⟩ := List.pairwise_cons.1 h1
       obtain ⟨b1, b2⟩ := List.pairwise_cons.1 h2
       have e : x = y := by
         rcases List.mem_cons.1 ((h x).1 (by simp)) with e | e
         · exact e
         · rcases List.mem_cons.1 ((h y).2 (by simp)) with e2 | e2
           · exact e2.symm
           · exact absurd (b1 _ e) (List.lt_asymm (a1 _ e2))
       subst e
       rw [ih a2 b2 fun z => ⟨fun hz => by
         rcases List.mem_cons.1 ((h z).1 (by simp [hz])) with e | e
         · subst e; exact absurd (a1 _ hz) (List.lt_irrefl _)
         · exact e, fun hz => by
         rcases List.mem_cons.1 ((h z).2 (by simp [hz])) with e | e
         · subst e; exact absurd (b1 _ hz) (List.lt_irrefl _)
         · exact e⟩]
 intro a b ha hb
 exact go ha.1 hb.1 fun x => (ha.2 x).trans (hb.2 x).symm
theorem Came.done {l : Nm → Nat} {left : Lit → Bool} {es es' : List Ent} (h : Came l left es) (hl : ∀ k, left k = false) (hp : es'.Perm es) (hs : ∀ i j (hi : i < es'.length) (hj : j < es'.length), i < j → ¬ es'[j].1.toList < es'[i].1.toList) : Listing l es' := by
 have hnd : (es'.map fun e => L e.1).Nodup := (hp.map _).symm.nodup h.nd
 refine ⟨List.pairwise_iff_getElem.2 fun i j hi hj hij => ?_, fun e => hp.mem_iff.trans ⟨fun he => ⟨(h.is e he).1, (h.is e he).2.1, (h.is e he).2.2.1⟩, fun ⟨h1, h2, h3⟩ => ?_⟩⟩
 · have h1 := hs i j hi hj hij
   rw [toList_L, toList_L] at h1
   have h2 : L es'[i].1 ≠ L es'[j].1 := fun e => by
     have := (List.getElem_inj (h₀ := by simpa using hi) (h₁ := by simpa using hj) hnd).1 (by simpa using e)
     omega
   rcases List.le_iff_lt_or_eq.1 (List.not_lt.1 h1) with h3 | h3
   · exact h3
   · exact absurd h3 h2
 · have := h.all e.1 h3 (by rw [h1]; exact h2) (hl _)
   rw [h1] at this
   exact this
theorem ent_some {l : Nm → Nat} {kl : Lit} {v : Value} (h : strF (entF l) kl = some v) : ∃ s, kl = .string s ∧ l s ≠ 0 ∧ v = .int .u32 (l s : Nat) := by
 cases kl <;> simp [strF] at h
 rename_i s
 unfold entF at h
 split at h
 · cases h
 · exact ⟨s, rfl, by assumption, by cases h; rfl⟩
theorem Came.few {W : World} {b : Nat} {l : Nm → Nat} {left : Lit → Bool} {es : List Ent} (h : Came l left es) (hm : VMap W 9 b q (strF (entF l))) : es.length ≤ q := by
 obtain ⟨ks, _, _, k3, hlen, _⟩ := hm.len kStr Tryz.underlying98 3
 have h1 := len_le (es.map fun e => Lit.string (L e.1)) ks (by
   have h2 : (es.map fun e => Lit.string (L e.1)) = (es.map fun e => L e.1).map Lit.string := by simp
   rw [h2]
   exact List.Pairwise.map _ (fun a b hab e => hab (by cases e; rfl)) h.nd) (fun x hx => by
   obtain ⟨e, he, rfl⟩ := List.mem_map.1 hx
   obtain ⟨i1, i2, i3, _⟩ := h.is e he
   refine k3 _ ⟨.string e.1, keyS i3⟩ ?_
   rw [strF_at, entF, if_neg (by rw [i1]; exact i2)]
   rfl)
 simp at h1
 omega
def listE (S : T) (dir : Nat) : Nat := firstE [errB ([dir].any fun x => (S.n x).kind == 0) 3, errB ([dir].any fun x => !((S.n x).kind == 2)) 180]
theorem listE_ok {dir : Nat} (h : listE S dir = 0) : (S.n dir).kind = 2 := by
 unfold listE at h
 obtain ⟨h1, h⟩ := firstE_cons h
 obtain ⟨h2, h⟩ := firstE_cons h
 have h2 := errB_no h2 (by decide)
 simpa using h2
theorem listE_no {dir : Nat} (h : listE S dir ≠ 0) : (S.n dir).kind ≠ 2 := by
 intro e
 apply h
 unfold listE
 simp [e, errB, firstE]
theorem check_list (wz : World) (dir : Nat) (v1 v2 : Value) (b : Nat)
   (h1 : CloAt True (errB ([dir].any fun x => (S.n x).kind == 0) 3) v1 wz) (h2 : CloAt (([dir].any fun x => (S.n x).kind == 0) = false) (errB ([dir].any fun x => !((S.n x).kind == 2)) 180) v2 wz)
   (hb : SBox wz b 93 #[v1, v2]) :
   Calls Tryz.prog 46 #[.pointer (some ⟨E.t, 0, none⟩), .slice (some ⟨b, 0, none⟩) 2 2] wz fun e w' => e = .returned (.int .i64 (listE S dir : Nat)) ∧ Below wz.heap.size wz w' := by
 refine (check_clo E.t b [v1, v2] [errB ([dir].any fun x => (S.n x).kind == 0) 3, errB ([dir].any fun x => !((S.n x).kind == 2)) 180] wz (by simp) (by simp) hb ?_).mono ?_
 · intro i hi
   match i, hi with
   | 0, _ => exact h1.weak (fun _ => trivial)
   | 1, _ => exact h2.weak (fun hz => by have h := errB_no (hz 0 (by omega)) (by decide); simpa using h)
   | i + 2, hi => exact absurd hi (by simp)
 · rintro e w' ⟨rfl, hb⟩
   exact ⟨rfl, hb⟩
set_option maxHeartbeats 4000000 in
theorem list_any (wz : World) (hT : TreeAt wz E room q S) (hI : Inv room S) (dir : Nat) (hd : dir < 4294967296) :
   Calls Tryz.prog 96 #[.pointer (some ⟨E.t, 0, none⟩), .int .u32 dir] wz fun e w' => ∃ (v : Value) (es : List Ent) (er : Nat), e = .returned (.tuple #[v, .int .i64 er]) ∧ Listing (S.l dir) es ∧ w'.ownsRow wz.heap.size 147 2 v es.length (es.flatMap encE) ∧ Below wz.heap.size wz w' := by
 have HI := Lib.hid hI
 clear hI
 go_enter Tryz.func96, Tryz.ntmps96
 go_wp2_with fail
 have HT0 := Lib.hid hT
 clear hT
 refine Calls.mono (clo_there (n := 0) (xs := [dir]) ⟨wz.heap.size, rfl, Nat.zero_le _, SBox.new wz _ _⟩ (Nat.zero_le _) (HT0.out.alloc _) (by simpa using hd) (by simp)) ?_
 rintro e w3 ⟨u3, rfl, hu3, hb3⟩
 have B3 := Lib.hid (((Below.refl wz.heap.size wz).alloc (Nat.le_refl _) (.cells #[.int .u32 dir] 37)).trans (hb3.mono (by simp)))
 have C3 := Lib.hid hu3
 obtain ⟨f3, l3, rfl, _⟩ := hu3
 have T3 := Lib.hid (HT0.out.later B3.out)
 clear hb3
 go_wp2_with fail
 refine Calls.mono (clo_dirs (n := 0) (xs := [dir]) ⟨w3.heap.size, rfl, Nat.zero_le _, SBox.new w3 _ _⟩ (Nat.zero_le _) (T3.out.alloc _) (by simpa using hd) (by simp)) ?_
 rintro e w4 ⟨u4, rfl, hu4, hb4⟩
 have B4 := Lib.hid (((Below.refl w3.heap.size w3).alloc (Nat.le_refl _) (.cells #[.int .u32 dir] 37)).trans (hb4.mono (by simp)))
 have C4 := Lib.hid hu4
 obtain ⟨f4, l4, rfl, _⟩ := hu4
 have T4 := Lib.hid (T3.out.later B4.out)
 clear hb4
 have AL := Lib.hid ((Below.refl w4.heap.size w4).alloc (Nat.le_refl _) (.cells #[.func (.func f3) #[] l3, .func (.func f4) #[] l4] 93))
 have CK := Lib.hid (check_list (E := E) (S := S) (w4.alloc (.cells #[.func (.func f3) #[] l3, .func (.func f4) #[] l4] 93)) dir _ _ w4.heap.size
   ((C3.out.later B4.out).later AL.out) (C4.out.later AL.out) (SBox.new w4 _ _))
 have B04 := Lib.hid ((B3.out.trans (B4.out.mono B3.out.size)).trans (AL.out.mono (by have := B3.out.size; have := B4.out.size; omega)))
 have T6 := Lib.hid (T4.out.alloc (.cells #[.func (.func f3) #[] l3, .func (.func f4) #[] l4] 93))
 clear C3 C4 T3 T4 B3 B4 AL
 go_wp2_with fail
 refine Calls.mono CK.out ?_
 rintro e w2 ⟨rfl, hb6⟩
 have HB := Lib.hid (B04.out.trans (hb6.mono B04.out.size))
 have HT := Lib.hid (T6.out.later hb6)
 clear hb6 CK B04 T6
 by_cases h0 : listE S dir = 0
 · have H0 := Lib.hid h0
   have K2 := Lib.hid (listE_ok h0)
   have K0 := Lib.hid (show (S.n dir).kind ≠ 0 by rw [K2.out]; decide)
   rw [h0]
   clear h0
   have LI := HT.out.look_is hd K0.out
   have hY := HT.out.top
   have Y0 := hY.cell 0
   have Y1 := hY.cell 1
   simp only [List.getElem?_toArray, List.getElem?_cons_zero, List.getElem?_cons_succ] at Y0 Y1
   have Yl := hY.lt
   have hV := HT.out.nd dir K0.out
   have V0 := hV.cell 0
   have V1 := hV.cell 1
   have V2 := hV.cell 2
   have V3 := hV.cell 3
   have V4 := hV.cell 4
   have V5 := hV.cell 5
   have V6 := hV.cell 6
   simp only [List.getElem?_toArray, List.getElem?_cons_zero, List.getElem?_cons_succ] at V0 V1 V2 V3 V4 V5 V6
   have Vl := hV.lt
   obtain ⟨w3, cnt0, left0, hrun, hR0, hl0, hgr, hsz⟩ := (HT.out.ent dir K0.out).range kStr Tryz.underlying98
   have R0 := Lib.hid hR0
   have L0 := Lib.hid hl0
   have GR := Lib.hid hgr
   have SZ3 := Lib.hid hsz
   clear hY hV hR0 hl0 hgr hsz
   go_wp2_with fail
   have CAME := Lib.hid (show Came (S.l dir) left0 [] from ⟨by simp, fun e h => (by cases h), fun s hs h1 h2 => by
     have h := L0.out (.string (L s)) ⟨.string s, keyS hs⟩
     rw [h2, strF_at, entF, if_neg h1] at h
     cases h⟩)
   have B3 := Lib.hid (show Below wz.heap.size wz w3 from HB.out.trans ⟨GR.out.os, GR.out.tape, GR.out.output, GR.out.size, fun b hb => GR.out.block b (Nat.lt_of_lt_of_le hb HB.out.size) (by simp)⟩)
   obtain ⟨i0, hi, hz0, hz1, hz2⟩ := info_parts info_E
   have szw := HB.out.size
   have q8 := HT.out.q8
   clear hrun LI V0 V1 V2 V3 V4 V5 V6 Vl Y0 Y1 Yl L0
   go_loopw [4] (fun s4 wr => ∃ v left cnt es, v = s4 ∧ VRange wr 9 (E.A dir) w2.heap.size q (strF (entF (S.l dir))) left cnt ∧ Came (S.l dir) left es ∧ wr.ownsRow (w2.heap.size + 1) 147 2 v es.length (es.flatMap encE) ∧ w2.heap.size + 1 ≤ wr.heap.size ∧ Below wz.heap.size wz wr) (fun _ wr => wr.rangeLeft (E.A dir) w2.heap.size)
   case atStart => exact ⟨_, left0, cnt0, [], rfl, R0.out, CAME.out, World.ownsRow_nil _ _ _ _, Nat.le_of_eq SZ3.out.symm, B3.out⟩
   case round =>
     obtain ⟨v, left, cnt, es, rfl, hR, hC, hO, hz, hB⟩ := hrel
     have CC := Lib.hid hC
     have OO := Lib.hid hO
     have ZZ := Lib.hid hz
     have BB := Lib.hid hB
     have RR := Lib.hid hR
     have FW := Lib.hid (hC.few hR.vmap)
     rcases hR.next kStr 0 with ⟨rfl, hlf, hrun⟩ | ⟨key, val, kl, w8, cnt', hkey, hlk, hf, hrun, hR8, hlt, hgr, hsz, hen⟩
     · have LF := Lib.hid hlf
       clear hlf hR hC hO hz hB
       go_wp2_with fail
       refine Calls.mono (sortE_any (w2.heap.size + 1) _ es _ OO.out (by have := FW.out; omega)) ?_
       rintro e w9 ⟨rfl, es', h1, h2, h3, h4⟩
       have FIN := Lib.hid (And.intro (CC.out.done LF.out h1 h2) (And.intro (row_lower h3 (base' := wz.heap.size) (by omega)) (BB.out.trans (h4.mono (by omega)))))
       clear h1 h2 h3 h4
       go_wp2_with fail
       go_ret2
       exact ⟨_, es', 0, rfl, FIN.out.1, FIN.out.2.1, FIN.out.2.2⟩
     · obtain ⟨b, rfl, rfl, hbs⟩ := WideMaps.string_of_keyOf Tryz.underlying9 hkey
       obtain ⟨s, es0, hl0, rfl⟩ := ent_some hf
       cases es0
       obtain ⟨x, hx⟩ : ∃ x, S.l dir b.data.toList = x := ⟨_, rfl⟩
       have CM := Lib.hid (hC.more hbs hl0 hlk)
       have R8 := Lib.hid hR8
       have CN := Lib.hid hlt
       have G8 := Lib.hid hgr
       have S8 := Lib.hid hsz
       have hown8 : w8.ownsRow (w2.heap.size + 1) 147 2 v es.length (es.flatMap encE) := by
         refine hO.kept hgr ?_
         rcases hO.2 with ⟨rfl, _⟩ | ⟨g, cap, cur, rfl, hg, _⟩
         · exact .inl rfl
         · exact .inr (by simp [Value.ownBlock]; omega)
       have HVL := Lib.hid (show ∀ g, v.ownBlock = some g → w2.heap.size + 1 ≤ g from fun g e => (hO.lt g e).1)
       have B8 := Lib.hid (hB.grown hgr (by omega) (fun k e => by cases e; omega))
       rw [hx] at hrun hen hf
       have XX := Lib.hid hx
       have fw := hC.few hR.vmap
       clear hC hR8 hlt hgr hsz hR hO hz hB hf hkey hlk hl0 hbs hx
       go_wp2_with (at_builtin; refine wpList_append_own _ rfl _ _ 80 rfl (w2.heap.size + 1) 147 i0 (.agg #[.string ⟨#[]⟩, .int .u32 0]) 2 24 Tryz.underlying80 hi hz0 hz1 hz2 rfl (by decide) _ _ _ rfl (hown8.alloc _) ⟨w8.heap.size, 0, none⟩ 1 1 [.string b, .int .u32 x] rfl rfl (news_box (SBox.new w8 147 #[.string b, .int .u32 x])) (by intro u hu; simp at hu; rcases hu with rfl | rfl <;> rfl) (by unfold maxLen; omega) (by omega) (by have := ZZ.out; have := S8.out; simp; omega) ?_; intro v2 W2 hown2 hgrow2 _)
       obtain ⟨g2, cap2, rfl, hg2⟩ : ∃ g2 cap2, v2 = .slice (some ⟨g2, 0, none⟩) (es.length + 1) cap2 ∧ w2.heap.size + 1 ≤ g2 := by
         rcases hown2.2 with ⟨_, e0⟩ | ⟨g', cap', cur', rfl, hg, _⟩
         · omega
         · exact ⟨g', cap', rfl, hg⟩
       have R9 := Lib.hid ((R8.out.kept (Below.grown ((Below.refl w8.heap.size w8).alloc (Nat.le_refl _) (.cells #[.string b, .int .u32 x] 147))) (by simp) (by simp)).kept hgrow2 (fun e => by have := HVL.out _ e.symm; have := (HT.out.ent dir K0.out).lt; omega) (fun e => by have := HVL.out _ e.symm; omega))
       have FIN := Lib.hid (show W2.ownsRow (w2.heap.size + 1) 147 2 (.slice (some ⟨g2, 0, none⟩) (es.length + 1) cap2) (es ++ [(b, x)]).length ((es ++ [(b, x)]).flatMap encE) from by simpa [encE, List.flatMap_append] using hown2)
       have Z2 := Lib.hid (show w2.heap.size + 1 ≤ W2.heap.size by have h9 := hgrow2.size; have := ZZ.out; have := S8.out; simp at h9; omega)
       have B9 := Lib.hid ((B8.out.alloc B8.out.size (.cells #[.string b, .int .u32 x] 147)).grown hgrow2 (by have := B8.out.size; simp; omega) (fun k e => by have := HVL.out _ e; omega))
       clear hown2 hgrow2 hown8 hrun hen
       go_wp2_with fail
       go_roundw
       case rel => exact ⟨_, _, cnt', _, rfl, R9.out, by have h := CM.out; rw [show S.l dir (L b) = x from XX.out] at h; exact h, FIN.out, Z2.out, B9.out⟩
       case measure => rw [R9.out.left_eq, RR.out.left_eq]; exact CN.out
 · have t0 : ((listE S dir : Int) == 0) = false := by simp; omega
   have H0 := Lib.hid h0
   clear h0
   go_wp2_with fail
   go_ret2
   exact ⟨_, [], _, rfl, Listing.nil _ fun s => HI.out.noL dir s (listE_no H0.out), World.ownsRow_nil _ _ _ _, HB.out⟩
end Go.Proofs.YtmfhnhnmdeabeaaGreat.Tr
end
section
namespace Go.Proofs.YtmfhnhnmdeabeaaGreat.Re
open Go.RowKit Go.Shelf Go.Maps Oct Path Tr
def AtAns (es : List Ent) (s : ByteArray) (k : Int) : Prop := (k = -1 ∧ ∀ (j : Nat) (e : Ent), es[j]? = some e → e.1 ≠ s) ∨ ∃ (i : Nat) (x : Nat), es[i]? = some (s, x) ∧ k = i
theorem AtAns.no {l : Nm → Nat} {es : List Ent} {s : ByteArray} {k : Int} (h : Listing l es) (ha : AtAns es s k) (hs : s.size ≤ maxLen) (h0 : l (L s) = 0) : k = -1 := by
 rcases ha with ⟨e, _⟩ | ⟨i, x, hx, _⟩
 · exact e
 · have := (h.2 (s, x)).1 (List.mem_of_getElem? hx)
   exact absurd (this.1.symm.trans h0) this.2.1
theorem AtAns.yes {l : Nm → Nat} {es : List Ent} {s : ByteArray} {k : Int} (h : Listing l es) (ha : AtAns es s k) (hs : s.size ≤ maxLen) (h0 : l (L s) ≠ 0) : ∃ i : Nat, es[i]? = some (s, l (L s)) ∧ k = i := by
 rcases ha with ⟨_, e⟩ | ⟨i, x, hx, hk⟩
 · obtain ⟨j, hj⟩ := List.mem_iff_getElem?.1 ((h.2 (s, l (L s))).2 ⟨rfl, h0, hs⟩)
   exact absurd rfl (e j _ hj)
 · have := (h.2 (s, x)).1 (List.mem_of_getElem? hx)
   exact ⟨i, by rw [hx, this.1], hk⟩
theorem _root_.Go.Proofs.YtmfhnhnmdeabeaaGreat.Tr.Listing.del {l l' : Nm → Nat} {es : List Ent} {s : ByteArray} {x i : Nat} (h : Listing l es) (hi : es[i]? = some (s, x)) (hl : ∀ t, l' t = if t = L s then 0 else l t) : Listing l' (es.take i ++ es.drop (i + 1)) := by
 have hs : List.Sublist (es.take i ++ es.drop (i + 1)) es := by
   rw [← List.eraseIdx_eq_take_drop_succ]
   exact List.eraseIdx_sublist _ _
 refine ⟨h.1.sublist hs, fun e => ?_⟩
 obtain ⟨hlt, hei⟩ := List.getElem?_eq_some_iff.1 hi
 have hsplit : es = es.take i ++ (s, x) :: es.drop (i + 1) := by
   rw [← hei, List.getElem_cons_drop, List.take_append_drop]
 have hne : ∀ e ∈ es.take i ++ es.drop (i + 1), L e.1 ≠ L s := by
   intro e he q
   have hp := h.1
   rw [hsplit] at hp
   obtain ⟨p1, p2, p3⟩ := List.pairwise_append.1 hp
   obtain ⟨p4, _⟩ := List.pairwise_cons.1 p2
   rcases List.mem_append.1 he with he | he
   · have := p3 e he (s, x) (by simp)
     rw [q] at this
     exact List.lt_irrefl _ this
   · have := p4 e he
     rw [q] at this
     exact List.lt_irrefl _ this
 constructor
 · intro he
   obtain ⟨a, b, c⟩ := (h.2 e).1 (hs.subset he)
   exact ⟨by rw [hl, if_neg (hne e he)]; exact a, b, c⟩
 · intro ⟨a, b, c⟩
   rw [hl] at a
   split at a
   · exact absurd a.symm b
   · rename_i q
     have := (h.2 e).2 ⟨a, b, c⟩
     rw [hsplit] at this
     rcases List.mem_append.1 this with m | m
     · exact List.mem_append_left _ m
     · rcases List.mem_cons.1 m with m | m
       · rw [m] at q; exact absurd rfl q
       · exact List.mem_append_right _ m
theorem _root_.Go.Proofs.YtmfhnhnmdeabeaaGreat.Tr.Listing.add {l l' : Nm → Nat} {es : List Ent} {s : ByteArray} {x k : Nat} (h : Listing l es) (h0 : l (L s) = 0) (hx : x ≠ 0) (hs : s.size ≤ maxLen) (hk : k ≤ es.length) (hlt : ∀ (j : Nat) (e : Ent), j < k → es[j]? = some e → L e.1 < L s) (hge : ∀ (e : Ent), es[k]? = some e → ¬ L e.1 < L s) (hl : ∀ t, l' t = if t = L s then x else l t) : Listing l' (es.take k ++ [(s, x)] ++ es.drop k) := by
 have hno : ∀ e ∈ es, L e.1 ≠ L s := fun e he q => by
   have := (h.2 e).1 he
   rw [q, h0] at this
   exact this.2.1 this.1.symm
 have hdr : ∀ e ∈ es.drop k, L s < L e.1 := by
   intro e he
   have hp : es.Pairwise (fun a b => L a.1 < L b.1) := h.1
   obtain ⟨j, hj⟩ := List.mem_iff_getElem?.1 he
   rw [List.getElem?_drop] at hj
   have hkl : k < es.length := by have := (List.getElem?_eq_some_iff.1 hj).1; omega
   have hek := hge _ (List.getElem?_eq_getElem hkl)
   have hek2 : L s < L es[k].1 := by
     rcases List.le_iff_lt_or_eq.1 (List.not_lt.1 hek) with q | q
     · exact q
     · exact absurd q.symm (hno _ (List.getElem_mem hkl))
   rcases Nat.eq_zero_or_pos j with rfl | hj0
   · rw [Nat.add_zero, List.getElem?_eq_getElem hkl] at hj
     cases hj
     exact hek2
   · obtain ⟨hjl, hje⟩ := List.getElem?_eq_some_iff.1 hj
     have := List.pairwise_iff_getElem.1 hp k (k + j) hkl hjl (by omega)
     rw [hje] at this
     exact List.lt_trans hek2 this
 have htk : ∀ e ∈ es.take k, L e.1 < L s := by
   intro e he
   obtain ⟨j, hj⟩ := List.mem_iff_getElem?.1 he
   rw [List.getElem?_take] at hj
   split at hj
   · exact hlt j e (by assumption) hj
   · cases hj
 have hp : (es.take k ++ es.drop k).Pairwise (fun a b => L a.1 < L b.1) := by rw [List.take_append_drop]; exact h.1
 obtain ⟨p1, p2, p3⟩ := List.pairwise_append.1 hp
 refine ⟨?_, fun e => ?_⟩
 · rw [List.append_assoc]
   refine List.pairwise_append.2 ⟨p1, List.pairwise_cons.2 ⟨fun e he => hdr e he, p2⟩, fun a ha b hb => ?_⟩
   rcases List.mem_cons.1 hb with rfl | hb
   · exact htk a ha
   · exact p3 a ha b hb
 · have hm : e ∈ es.take k ++ [(s, x)] ++ es.drop k ↔ e = (s, x) ∨ e ∈ es := by
     conv => rhs; rw [← List.take_append_drop k es]
     simp only [List.mem_append, List.mem_singleton]
     constructor
     · rintro ((a | a) | a)
       · exact .inr (.inl a)
       · exact .inl a
       · exact .inr (.inr a)
     · rintro (a | a | a)
       · exact .inl (.inr a)
       · exact .inl (.inl a)
       · exact .inr a
   rw [hm]
   constructor
   · rintro (rfl | he)
     · exact ⟨by rw [hl]; simp, hx, hs⟩
     · obtain ⟨a, b, c⟩ := (h.2 e).1 he
       exact ⟨by rw [hl, if_neg (hno e he)]; exact a, b, c⟩
   · intro ⟨a, b, c⟩
     rw [hl] at a
     split at a
     · rename_i q
       left
       rw [show e = (e.1, e.2) from rfl, ← a, L_inj q]
     · exact .inr ((h.2 e).2 ⟨a, b, c⟩)
theorem _root_.Go.Proofs.YtmfhnhnmdeabeaaGreat.Tr.Listing.of_eq {l l' : Nm → Nat} {es : List Ent} (h : Listing l es) (he : l' = l) : Listing l' es := by rw [he]; exact h
def Nam (S : T) (x : Nat) : Prop := ∃ d s, S.l d s = x
structure Rows18 (room : Nat) (S : T) (es : Nat → List Ent) : Prop where
 lst : ∀ i, i < room → Listing (S.l (i + 1)) (es i)
 nm : ∀ d s, S.l d s ≠ 0 → 1 ≤ d ∧ d ≤ room ∧ s.length ≤ maxLen
theorem Rows18.nam {room : Nat} {S : T} {es : Nat → List Ent} (h : Rows18 room S es) {x : Nat} (hx : x ≠ 0) : Nam S x ↔ ∃ i, i < room ∧ ∃ (k : Nat) (e : Ent), (es i)[k]? = some e ∧ e.2 = x := by
 constructor
 · rintro ⟨d, s, rfl⟩
   obtain ⟨a, b, c⟩ := h.nm d s hx
   have := ((h.lst (d - 1) (by omega)).2 (B s, S.l d s)).2 ⟨by rw [L_B, show d - 1 + 1 = d by omega], hx, c⟩
   obtain ⟨k, hk⟩ := List.mem_iff_getElem?.1 this
   exact ⟨d - 1, by omega, k, _, hk, rfl⟩
 · rintro ⟨i, hi, k, e, he, rfl⟩
   exact ⟨i + 1, L e.1, ((h.lst i hi).2 e).1 (List.mem_of_getElem? he) |>.1⟩
def cntR (x : Nat) (es : List Ent) : Nat := (es.filter fun e => e.2 == x).length
def cntN (x : Nat) (es : Nat → List Ent) : Nat → Nat
 | 0 => 0
 | i + 1 => cntN x es i + cntR x (es i)
theorem cntR_take (x : Nat) {es : List Ent} {k : Nat} {e : Ent} (h : es[k]? = some e) : cntR x (es.take (k + 1)) = cntR x (es.take k) + (if e.2 = x then 1 else 0) := by
 unfold cntR
 rw [List.take_add_one, h, List.filter_append, List.length_append]
 by_cases q : e.2 = x
 · simp [q]
 · simp [q]
theorem cntR_le (x : Nat) (es : List Ent) : cntR x es ≤ es.length := List.length_filter_le _ _
theorem cntN_le (x : Nat) (es : Nat → List Ent) (q n : Nat) (h : ∀ i, i < n → (es i).length ≤ q) : cntN x es n ≤ n * q := by
 induction n with
 | zero => simp [cntN]
 | succ n ih =>
   have := ih fun i hi => h i (by omega)
   have h2 := h n (by omega)
   have h3 := cntR_le x (es n)
   simp only [cntN, Nat.succ_mul]
   omega
def lstN (x : Nat) (es : Nat → List Ent) : Nat → List (Nat × Nm)
 | 0 => []
 | i + 1 => lstN x es i ++ ((es i).filter fun e => e.2 == x).map fun e => (i + 1, L e.1)
theorem lstN_len (x : Nat) (es : Nat → List Ent) (n : Nat) : (lstN x es n).length = cntN x es n := by
 induction n with
 | zero => rfl
 | succ n ih => simp [lstN, cntN, cntR, ih]
theorem lstN_mem (x : Nat) (es : Nat → List Ent) (n : Nat) (d : Nat) (s : Nm) : (d, s) ∈ lstN x es n ↔ ∃ i, i < n ∧ d = i + 1 ∧ ∃ e ∈ es i, e.2 = x ∧ s = L e.1 := by
 induction n with
 | zero => simp [lstN]
 | succ n ih =>
   simp only [lstN, List.mem_append, ih, List.mem_map, List.mem_filter, beq_iff_eq, Prod.mk.injEq]
   constructor
   · rintro (⟨i, a, b⟩ | ⟨e, ⟨h1, h2⟩, h3, h4⟩)
     · exact ⟨i, by omega, b⟩
     · exact ⟨n, by omega, h3.symm, e, h1, h2, h4.symm⟩
   · rintro ⟨i, a, b, e, c, d, f⟩
     rcases Nat.lt_or_ge i n with q | q
     · exact .inl ⟨i, q, b, e, c, d, f⟩
     · have : i = n := by omega
       subst this
       exact .inr ⟨e, ⟨c, d⟩, b.symm, f.symm⟩
theorem lstN_nodup (x : Nat) (es : Nat → List Ent) (n : Nat) (h : ∀ i, i < n → (es i).Pairwise (fun a b => L a.1 < L b.1)) : (lstN x es n).Nodup := by
 induction n with
 | zero => simp [lstN]
 | succ n ih =>
   refine List.nodup_append.2 ⟨ih fun i hi => h i (by omega), ?_, ?_⟩
   · refine List.Pairwise.map _ ?_ ((h n (by omega)).filter _)
     intro a b hab e
     simp only [Prod.mk.injEq] at e
     rw [e.2] at hab
     exact List.lt_irrefl _ hab
   · intro a ha b hb e
     subst e
     obtain ⟨d, s⟩ := a
     obtain ⟨i, hi, hd, _⟩ := (lstN_mem x es n d s).1 ha
     obtain ⟨e, _, he⟩ := List.mem_map.1 hb
     simp only [Prod.mk.injEq] at he
     omega
theorem Rows18.cnt {room : Nat} {S : T} {es : Nat → List Ent} (h : Rows18 room S es) {x : Nat} (hx : x ≠ 0) : Cnt S x (cntN x es room) := by
 refine ⟨lstN x es room, lstN_nodup x es room fun i hi => (h.lst i hi).1, fun d s => ?_, lstN_len x es room⟩
 rw [lstN_mem]
 constructor
 · rintro ⟨i, hi, rfl, e, he, rfl, rfl⟩
   exact (((h.lst i hi).2 e).1 he).1
 · intro e
   obtain ⟨a, b, c⟩ := h.nm d s (by rw [e]; exact hx)
   exact ⟨d - 1, by omega, by omega, (B s, x), ((h.lst (d - 1) (by omega)).2 (B s, x)).2 ⟨by rw [L_B, show d - 1 + 1 = d by omega]; exact e, hx, c⟩, rfl, (L_B s).symm⟩
theorem _root_.Go.Proofs.YtmfhnhnmdeabeaaGreat.Tr.Cnt.uniq {S : T} {x a b : Nat} (ha : Cnt S x a) (hb : Cnt S x b) : a = b := by
 obtain ⟨la, na, ma, rfl⟩ := ha
 obtain ⟨lb, nb, mb, rfl⟩ := hb
 have : la.Perm lb := by
   rw [List.perm_ext_iff_of_nodup na nb]
   rintro ⟨d, s⟩
   rw [ma, mb]
 exact this.length_eq
theorem _root_.Go.Proofs.YtmfhnhnmdeabeaaGreat.Tr.Cnt.zero {S : T} {x k : Nat} (h : Cnt S x k) : k = 0 ↔ ¬ Nam S x := by
 constructor
 · rintro rfl ⟨d, s, hd⟩
   exact h.pos hd rfl
 · intro hn
   obtain ⟨l, _, m, rfl⟩ := h
   cases l with
   | nil => rfl
   | cons y l => exact absurd ⟨y.1, y.2, (m y.1 y.2).1 (by simp)⟩ hn
noncomputable def freS (S : T) (x : Nat) : T := open Classical in if x ≠ 1 ∧ ¬ Nam S x ∧ (S.n x).held = 0 then ⟨setN S.n x Nd.no, S.l⟩ else S
end Go.Proofs.YtmfhnhnmdeabeaaGreat.Re
end
section
namespace Go.Proofs.YtmfhnhnmdeabeaaGreat.Path
open Go.RowKit
open Oct
set_option maxHeartbeats 400000 in
theorem rname_long (s : ByteArray) (w : World) (hs : s.size ≤ maxLen) (h : 27 < s.size) :
   Calls Tryz.prog 36 #[.string s] w fun e w' => e = .returned (.bool false) ∧ w = w' := by
 unfold maxLen at hs
 have t0 : decide (s.size < 1) = false := decide_eq_false (by omega)
 have t0' : decide ((s.size : Int) < 1) = false := decide_eq_false (by omega)
 have t1 : decide (27 < (s.size : Int)) = true := by simp; omega
 go_enter Tryz.func36, Tryz.ntmps36
 go_wp2
 go_ret
 exact ⟨rfl, rfl⟩
set_option maxHeartbeats 400000 in
theorem rname_empty (w : World) :
   Calls Tryz.prog 36 #[.string ⟨#[]⟩] w fun e w' => e = .returned (.bool false) ∧ w = w' := by
 go_enter Tryz.func36, Tryz.ntmps36
 go_wp2
 go_ret
 exact ⟨rfl, rfl⟩
set_option maxHeartbeats 400000 in
theorem rname_dot (w : World) :
   Calls Tryz.prog 36 #[.string ⟨#[46]⟩] w fun e w' => e = .returned (.bool false) ∧ w = w' := by
 go_enter Tryz.func36, Tryz.ntmps36
 go_wp2
 go_ret
 exact ⟨rfl, rfl⟩
set_option maxHeartbeats 400000 in
theorem rname_dots (w : World) :
   Calls Tryz.prog 36 #[.string ⟨#[46, 46]⟩] w fun e w' => e = .returned (.bool false) ∧ w = w' := by
 go_enter Tryz.func36, Tryz.ntmps36
 go_wp2
 go_ret
 exact ⟨rfl, rfl⟩
theorem any_take_succ (s : ByteArray) (k : Nat) (h : k < s.size) : ((L s).take (k + 1)).any badC = (((L s).take k).any badC || badC s[k]) := by
 have h2 : k < (L s).length := by rw [len_L]; exact h
 rw [List.take_succ_eq_append_getElem h2, List.any_append]
 simp only [List.any_cons, List.any_nil, Bool.or_false]
 rfl
theorem any_hit (s : ByteArray) (k : Nat) (h : k < s.size) (hb : badC s[k] = true) : (L s).any badC = true :=
 List.any_eq_true.2 ⟨s[k], by
   have h2 : k < (L s).length := by rw [len_L]; exact h
   exact List.getElem_mem h2, hb⟩
set_option maxHeartbeats 400000 in
theorem rname_full (s : ByteArray) (w : World) (h0 : 0 < s.size) (h27 : s.size ≤ 27) (h1 : (s.toList == [46]) = false) (h2 : (s.toList == [46, 46]) = false) (b : Bool) (hb : Hid ((L s).any badC = b)) :
   Calls Tryz.prog 36 #[.string s] w fun e w' => e = .returned (.bool (!b)) ∧ w = w' := by
 have t0 : decide (s.size < 1) = false := decide_eq_false (by omega)
 have t0' : decide ((s.size : Int) < 1) = false := decide_eq_false (by omega)
 have t1 : decide (27 < (s.size : Int)) = false := by simp; omega
 go_enter Tryz.func36, Tryz.ntmps36
 go_wp2
 go_loop [3] (fun i => ∃ k : Nat, k ≤ s.size ∧ i = .int .i64 k ∧ Hid (((L s).take k).any badC = false)) (fun i => s.size - (intOf i).toNat)
 case atStart => exact ⟨0, Nat.zero_le _, rfl, Lib.hid (by simp)⟩
 case round =>
   obtain ⟨k, hk, rfl, HT⟩ := hrel
   by_cases hlt : k < s.size
   · by_cases c1 : s[k] = 47
     · have HB : Hid (b = true) := Lib.hid (by rw [← hb.out]; exact any_hit s k hlt (by rw [c1]; rfl))
       have q1 : ((s[k].toNat : Int) == 47) = true := by rw [c1]; rfl
       clear c1
       go_wp2
       go_ret
       exact ⟨by rw [HB.out]; rfl, rfl⟩
     · have q1 : ((s[k].toNat : Int) == 47) = false := by
         simp only [beq_eq_false_iff_ne, ne_eq]
         exact fun e => c1 (UInt8.toNat_inj.1 (by simpa using Int.ofNat.inj e))
       by_cases c2 : s[k] = 0
       · have HB : Hid (b = true) := Lib.hid (by rw [← hb.out]; exact any_hit s k hlt (by rw [c2]; rfl))
         have q2 : ((s[k].toNat : Int) == 0) = true := by rw [c2]; rfl
         clear c1 c2
         go_wp2
         go_ret
         exact ⟨by rw [HB.out]; rfl, rfl⟩
       · have q2 : ((s[k].toNat : Int) == 0) = false := by
           simp only [beq_eq_false_iff_ne, ne_eq]
           exact fun e => c2 (UInt8.toNat_inj.1 (by simpa using Int.ofNat.inj e))
         have HN : Hid (((L s).take (k + 1)).any badC = false) := Lib.hid (by
           rw [any_take_succ s k hlt, HT.out]
           unfold badC
           simp [c1, c2])
         clear c1 c2
         go_wp2
         go_round
         case rel => exact ⟨k + 1, by omega, by go_num, HN⟩
         case measure => simp [intOf]; omega
   · have HB : Hid (b = false) := Lib.hid (by
       rw [← hb.out]
       have := HT.out
       rw [List.take_of_length_le (by rw [len_L]; omega)] at this
       exact this)
     go_wp2
     go_ret
     exact ⟨by rw [HB.out]; rfl, rfl⟩
theorem rname_any (s : ByteArray) (w : World) (hs : s.size ≤ maxLen) :
   Calls Tryz.prog 36 #[.string s] w fun e w' => e = .returned (.bool (isName (L s))) ∧ w = w' := by
 have hl := len_L s
 by_cases h0 : s.size = 0
 · rw [is_empty h0]; exact rname_empty w
 · by_cases h27 : 27 < s.size
   · have e : isName (L s) = false := by
       unfold isName
       have : decide ((L s).length ≤ 27) = false := by simp; omega
       rw [this]; simp
     rw [e]
     exact rname_long s w hs h27
   · by_cases h1 : L s = [46]
     · have e : s = ⟨#[46]⟩ := L_inj h1
       rw [e]; exact rname_dot w
     · by_cases h2 : L s = [46, 46]
       · have e : s = ⟨#[46, 46]⟩ := L_inj h2
         rw [e]; exact rname_dots w
       · have h := rname_full s w (by omega) (by omega) (by rw [toList_L]; simpa using h1) (by rw [toList_L]; simpa using h2) _ (Lib.hid rfl)
         have e : isName (L s) = !(L s).any badC := by
           unfold isName
           rw [all_not_any]
           have a1 : decide (1 ≤ (L s).length) = true := by simp; omega
           have a2 : decide ((L s).length ≤ 27) = true := by simp; omega
           have a3 : (L s == [46]) = false := by simpa using h1
           have a4 : (L s == [46, 46]) = false := by simpa using h2
           rw [a1, a2, a3, a4]
           cases (L s).any badC <;> rfl
         rw [e]
         exact h
end Go.Proofs.YtmfhnhnmdeabeaaGreat.Path
end
section
namespace Go.Proofs.YtmfhnhnmdeabeaaGreat.Re
open Go.RowKit Go.Shelf Go.Maps Oct Path Tr
def upd {α : Type} (f : Nat → α) (i : Nat) (v : α) : Nat → α := fun j => if j = i then v else f j
theorem upd_same {α : Type} (f : Nat → α) (i : Nat) (v : α) : upd f i v i = v := by simp [upd]
theorem upd_other {α : Type} (f : Nat → α) {i j : Nat} (v : α) (h : j ≠ i) : upd f i v j = f j := by simp [upd, h]
def ERow (W : World) (g : Nat) (p : Option Addr) (c : Nat) (r : List Ent) : Prop :=
 (p = none ∧ r = [] ∧ c = 0) ∨ ∃ b, p = some ⟨b, 0, none⟩ ∧ b < W.heap.size ∧ b ≠ g ∧ ∀ j v, (r.flatMap encE)[j]? = some v → W.cell? ⟨b, j, none⟩ = some v
theorem ERow.blocks {W W' : World} {g : Nat} {p : Option Addr} {c : Nat} {r : List Ent} (h : ERow W g p c r) (hs : W.heap.size ≤ W'.heap.size) (hb : ∀ b, b < W.heap.size → b ≠ g → W'.heap[b]? = W.heap[b]?) : ERow W' g p c r := by
 rcases h with h | ⟨b, h1, h2, h3, h4⟩
 · exact .inl h
 · exact .inr ⟨b, h1, Nat.lt_of_lt_of_le h2 hs, h3, fun j v hv => (World.cell?_of_block (w := W) (hb b h2 h3)).trans (h4 j v hv)⟩
def ndC (nd : Nd) (r : List Ent) (p : Option Addr) (c : Nat) : List Value := [.int .u8 nd.kind, .slice p r.length c, .string (B nd.data), .int .i64 nd.held]
structure RtM (W : World) (R g room q : Nat) (S : T) (es : Nat → List Ent) (pa : Nat → Option Addr) (ca : Nat → Nat) : Prop where
 top : SBox W R 79 #[.slice (some ⟨g, 0, none⟩) room room]
 ne : R ≠ g
 tab : ∃ cs, SBox W g 82 cs ∧ cs.size = room * 4 ∧ ∀ i, i < room → ∀ j v, (ndC (S.n (i + 1)) (es i) (pa i) (ca i))[j]? = some v → cs[i * 4 + j]? = some v
 row : ∀ i, i < room → ERow W g (pa i) (ca i) (es i)
 cap : ∀ i, i < room → (es i).length ≤ ca i ∧ (es i).length ≤ q
 rows : Rows18 room S es
 rm : 1 ≤ room ∧ room ≤ 256
 q1 : q ≤ 1000
 dt : ∀ x, (S.n x).data.length ≤ 2304
 hd : ∀ x, (S.n x).held ≤ 1
 kd : ∀ x, (S.n x).kind ≤ 2
 rng : ∀ x, (S.n x).kind ≠ 0 → 1 ≤ x ∧ x ≤ room
structure Cells4 (W : World) (g i : Nat) (nd : Nd) (r : List Ent) (p : Option Addr) (c : Nat) : Prop where
 c0 : W.cell? ⟨g, i * 4, none⟩ = some (.int .u8 nd.kind)
 c1 : W.cell? ⟨g, i * 4 + 1, none⟩ = some (.slice p r.length c)
 c2 : W.cell? ⟨g, i * 4 + 2, none⟩ = some (.string (B nd.data))
 c3 : W.cell? ⟨g, i * 4 + 3, none⟩ = some (.int .i64 nd.held)
 f : ∀ j, W.frozen? ⟨g, j, none⟩ = false
section
variable {W W' : World} {R g room q : Nat} {S : T} {es : Nat → List Ent} {pa : Nat → Option Addr} {ca : Nat → Nat}
theorem RtM.cells (h : RtM W R g room q S es pa ca) {i : Nat} (hi : i < room) : Cells4 W g i (S.n (i + 1)) (es i) (pa i) (ca i) := by
 obtain ⟨cs, h1, h2, h3⟩ := h.tab
 have k := h3 i hi
 exact ⟨(h1.cell _).trans (k 0 _ rfl), (h1.cell _).trans (k 1 _ rfl), (h1.cell _).trans (k 2 _ rfl), (h1.cell _).trans (k 3 _ rfl), fun j => h1.free j⟩
theorem RtM.g_lt (h : RtM W R g room q S es pa ca) : g < W.heap.size := by
 obtain ⟨cs, h1, _⟩ := h.tab
 exact h1.lt
theorem RtM.blocks (h : RtM W R g room q S es pa ca) (hs : W.heap.size ≤ W'.heap.size) (hb : ∀ b, b < W.heap.size → W'.heap[b]? = W.heap[b]?) : RtM W' R g room q S es pa ca := by
 obtain ⟨cs, h1, h2, h3⟩ := h.tab
 exact { h with top := (hb _ h.top.lt).trans h.top, tab := ⟨cs, (hb _ h1.lt).trans h1, h2, h3⟩, row := fun i hi => (h.row i hi).blocks hs fun b hb1 _ => hb b hb1 }
theorem RtM.later (h : RtM W R g room q S es pa ca) (hb : Below W.heap.size W W') : RtM W' R g room q S es pa ca := h.blocks hb.size fun b hb1 => hb.block b hb1
theorem RtM.topC (h : RtM W R g room q S es pa ca) : W.cell? ⟨R, 0, none⟩ = some (.slice (some ⟨g, 0, none⟩) room room) := h.top.cell 0
theorem RtM.entC (h : RtM W R g room q S es pa ca) {i k : Nat} (hi : i < room) {e : Ent} (he : (es i)[k]? = some e) : ∃ b, pa i = some ⟨b, 0, none⟩ ∧ b < W.heap.size ∧ b ≠ g ∧ W.cell? ⟨b, k * 2, none⟩ = some (.string e.1) ∧ W.cell? ⟨b, k * 2 + 1, none⟩ = some (.int .u32 e.2) := by
 rcases h.row i hi with ⟨_, h2, _⟩ | ⟨b, h1, h2, h3, h4⟩
 · rw [h2] at he; cases he
 · refine ⟨b, h1, h2, h3, h4 _ _ ?_, h4 _ _ ?_⟩
   · rw [fm_get, show k * 2 / 2 = k by omega, he, show k * 2 % 2 = 0 by omega]
     rfl
   · rw [fm_get, show (k * 2 + 1) / 2 = k by omega, he, show (k * 2 + 1) % 2 = 1 by omega]
     rfl
theorem RtM.entR (h : RtM W R g room q S es pa ca) {i k : Nat} (hi : i < room) {e : Ent} (he : (es i)[k]? = some e) : S.l (i + 1) (L e.1) = e.2 ∧ e.2 ≠ 0 ∧ e.1.size ≤ maxLen := ((h.rows.lst i hi).2 e).1 (List.mem_of_getElem? he)
abbrev st4 (W : World) (g o : Nat) (v0 v1 v2 v3 : Value) : World := (((W.setCell ⟨g, o, none⟩ v0).setCell ⟨g, o + 1, none⟩ v1).setCell ⟨g, o + 2, none⟩ v2).setCell ⟨g, o + 3, none⟩ v3
theorem st4_tch (W : World) (g o : Nat) (v0 v1 v2 v3 : Value) : Tr.Tch (fun b => b = g) W (st4 W g o v0 v1 v2 v3) :=
 (((Tr.Tch.cell (O := fun b => b = g) (w := W) rfl).trans (Tr.Tch.cell rfl)).trans (Tr.Tch.cell rfl)).trans (Tr.Tch.cell rfl)
theorem RtM.put (h : RtM W R g room q S es pa ca) {i : Nat} (hi : i < room) (nd : Nd) (l' : Nat → Nm → Nat) (r : List Ent) (p : Option Addr) (c q' : Nat)
   (hq : q ≤ q' ∧ q' ≤ 1000) (hl : ∀ d, d ≠ i + 1 → l' d = S.l d) (hli : Listing (l' (i + 1)) r) (hnm : ∀ s, l' (i + 1) s ≠ 0 → s.length ≤ maxLen)
   (hr : ERow W g p c r) (hc : r.length ≤ c ∧ r.length ≤ q') (hk : nd.kind ≤ 2) (hd : nd.data.length ≤ 2304) (hh : nd.held ≤ 1) :
   RtM (st4 W g (i * 4) (.int .u8 nd.kind) (.slice p r.length c) (.string (B nd.data)) (.int .i64 nd.held)) R g room q' ⟨setN S.n (i + 1) nd, l'⟩ (upd es i r) (upd pa i p) (upd ca i c) := by
 obtain ⟨cs, h1, h2, h3⟩ := h.tab
 have hT := st4_tch W g (i * 4) (.int .u8 nd.kind) (.slice p r.length c) (.string (B nd.data)) (.int .i64 nd.held)
 refine { top := ?_, ne := h.ne, tab := ⟨_, (((h1.set _ _).set _ _).set _ _).set _ _, by simp [h2], ?_⟩, row := ?_, cap := ?_, rows := ⟨?_, ?_⟩, rm := h.rm, q1 := hq.2, dt := ?_, hd := ?_, kd := ?_, rng := ?_ }
 · exact (hT.block _ h.top.lt h.ne).trans h.top
 · intro m hm j v hv
   by_cases e : m = i
   · subst e
     have hj : j < 4 := by have := (List.getElem?_eq_some_iff.1 hv).1; simpa [ndC] using this
     simp only [upd_same, setN_same] at hv
     match j, hj with
     | 0, _ => simp [ndC] at hv; subst hv; simp [Array.getElem?_setIfInBounds]; omega
     | 1, _ => simp [ndC] at hv; subst hv; simp [Array.getElem?_setIfInBounds]; omega
     | 2, _ => simp [ndC] at hv; subst hv; simp [Array.getElem?_setIfInBounds]; omega
     | 3, _ => simp [ndC] at hv; subst hv; simp [Array.getElem?_setIfInBounds]; omega
   · have hj : j < 4 := by have := (List.getElem?_eq_some_iff.1 hv).1; simpa [ndC] using this
     simp only [upd_other _ _ e, setN_other _ _ (show m + 1 ≠ i + 1 by omega)] at hv
     simp only [Array.getElem?_setIfInBounds]
     rw [if_neg (by omega), if_neg (by omega), if_neg (by omega), if_neg (by omega)]
     exact h3 m hm j v hv
 · intro m hm
   by_cases e : m = i
   · subst e
     simp only [upd_same]
     exact hr.blocks hT.size fun b hb hn => hT.block b hb hn
   · simp only [upd_other _ _ e]
     exact (h.row m hm).blocks hT.size fun b hb hn => hT.block b hb hn
 · intro m hm
   by_cases e : m = i
   · subst e
     simp only [upd_same]
     exact hc
   · simp only [upd_other _ _ e]
     have := h.cap m hm
     omega
 · intro m hm
   by_cases e : m = i
   · subst e
     simp only [upd_same]
     exact hli
   · simp only [upd_other _ _ e]
     exact (h.rows.lst m hm).of_eq (hl _ (by omega))
 · intro d s hs
   by_cases e : d = i + 1
   · subst e
     exact ⟨by omega, by omega, hnm s hs⟩
   · simp only [hl d e] at hs
     exact h.rows.nm d s hs
 · intro x
   simp only [setN]
   split
   · exact hd
   · exact h.dt x
 · intro x
   simp only [setN]
   split
   · exact hh
   · exact h.hd x
 · intro x
   simp only [setN]
   split
   · exact hk
   · exact h.kd x
 · intro x hx
   simp only [setN] at hx
   split at hx
   · omega
   · exact h.rng x hx
end
def RtA (W : World) (R g room q : Nat) (S : T) : Prop := ∃ es pa ca, RtM W R g room q S es pa ca
section
variable {W W' : World} {R g room q : Nat} {S S' : T}
theorem RtA.later (h : RtA W R g room q S) (hb : Below W.heap.size W W') : RtA W' R g room q S := by
 obtain ⟨es, pa, ca, h⟩ := h
 exact ⟨es, pa, ca, h.later hb⟩
theorem RtA.lt (h : RtA W R g room q S) : R < W.heap.size ∧ g < W.heap.size ∧ R ≠ g := by
 obtain ⟨es, pa, ca, h⟩ := h
 exact ⟨h.top.lt, h.g_lt, h.ne⟩
theorem RtA.congr (h : RtA W R g room q S) (hl : S'.l = S.l) (hn : ∀ x, (S'.n x).kind = (S.n x).kind ∧ (S'.n x).data = (S.n x).data ∧ (S'.n x).held = (S.n x).held) : RtA W R g room q S' := by
 obtain ⟨es, pa, ca, h⟩ := h
 obtain ⟨cs, h1, h2, h3⟩ := h.tab
 refine ⟨es, pa, ca, { top := h.top, ne := h.ne, tab := ⟨cs, h1, h2, fun i hi j v hv => h3 i hi j v ?_⟩, row := h.row, cap := h.cap, rows := ⟨fun i hi => (h.rows.lst i hi).of_eq (by rw [hl]), fun d s hs => h.rows.nm d s (by rw [← hl]; exact hs)⟩, rm := h.rm, q1 := h.q1, dt := ?_, hd := ?_, kd := ?_, rng := ?_ }⟩
 · rw [← hv]
   unfold ndC
   rw [(hn (i + 1)).1, (hn (i + 1)).2.1, (hn (i + 1)).2.2]
 · intro x; rw [(hn x).2.1]; exact h.dt x
 · intro x; rw [(hn x).2.2]; exact h.hd x
 · intro x; rw [(hn x).1]; exact h.kd x
 · intro x hx; rw [(hn x).1] at hx; exact h.rng x hx
theorem RtA.mono (h : RtA W R g room q S) {q' : Nat} (hq : q ≤ q') (h1 : q' ≤ 1000) : RtA W R g room q' S := by
 obtain ⟨es, pa, ca, h⟩ := h
 exact ⟨es, pa, ca, { h with q1 := h1, cap := fun i hi => ⟨(h.cap i hi).1, Nat.le_trans (h.cap i hi).2 hq⟩ }⟩
end
end Go.Proofs.YtmfhnhnmdeabeaaGreat.Re
end
section
namespace Go.Proofs.YtmfhnhnmdeabeaaGreat.Re
open Go.RowKit Go.Shelf Go.Maps Oct Path Tr
structure Rw where
 stamp : Nat
 op : Nat
 dir : Nat
 name : ByteArray
 ino : Nat
 kind : Nat
 dir2 : Nat
 name2 : ByteArray
 old : Nat
 size : Nat
 page : Int
 data : ByteArray
def rwC (r : Rw) : Array Value := #[.int .u64 r.stamp, .int .u8 r.op, .int .u32 r.dir, .string r.name, .int .u32 r.ino, .int .u8 r.kind, .int .u32 r.dir2, .string r.name2, .int .u32 r.old, .int .u32 r.size, .int .i64 r.page, .string r.data]
def Rw.rc (r : Rw) : Rc := ⟨r.stamp, r.op, r.dir, L r.name, r.ino, r.kind, r.dir2, L r.name2, r.old, r.size, r.page.toNat, L r.data⟩
structure Rw.In (r : Rw) : Prop where
 stamp : r.stamp < 18446744073709551616
 name : r.name.size ≤ maxLen
 name2 : r.name2.size ≤ maxLen
 data : r.data.size ≤ maxLen
def MayAns (r : Rw) (wz : World) (e : Ending) (w' : World) : Prop := ∃ b, e = .returned (.bool b) ∧ (b = true → May r.rc ∧ 0 ≤ r.page) ∧ Below wz.heap.size wz w'
theorem MayAns.no {r : Rw} {wz w' : World} (h : Below wz.heap.size wz w') : MayAns r wz (.returned (.bool false)) w' := ⟨false, rfl, (fun h => by cases h), h⟩
theorem MayAns.yes {r : Rw} {wz w' : World} (hm : May r.rc) (hp : 0 ≤ r.page) (h : Below wz.heap.size wz w') : MayAns r wz (.returned (.bool true)) w' := ⟨true, rfl, (fun _ => ⟨hm, hp⟩), h⟩
theorem rwC_rc {r : Rw} (h : 0 ≤ r.page) : rwC r = recC r.rc := by
 unfold rwC recC Rw.rc
 simp only [B_L]
 rw [show ((r.page.toNat : Nat) : Int) = r.page from Int.toNat_of_nonneg h]
set_option maxHeartbeats 400000 in
theorem rino_ok (v : Nat) (w : World) : Calls Tryz.prog 35 #[.int .u32 v] w fun e w' => e = .returned (.bool (decide (1 ≤ v) && decide (v ≤ 256))) ∧ w = w' := by
 by_cases h1 : 1 ≤ v
 · have t1 : (1 : Int) ≤ v := by omega
   by_cases h2 : v ≤ 256
   · have t2 : (v : Int) ≤ 256 := by omega
     go_enter Tryz.func35, Tryz.ntmps35
     go_wp2_with fail
     go_ret
     exact ⟨by simp [h1, h2], rfl⟩
   · have t2 : ¬ (v : Int) ≤ 256 := by omega
     go_enter Tryz.func35, Tryz.ntmps35
     go_wp2_with fail
     go_ret
     exact ⟨by simp [h1, h2], rfl⟩
 · have t1 : ¬ (1 : Int) ≤ v := by omega
   go_enter Tryz.func35, Tryz.ntmps35
   go_wp2_with fail
   go_ret
   exact ⟨by simp [h1], rfl⟩
def ofV (o : Nat) : Value := .agg #[.bool (kEnt o), .bool (kKnd o), .bool (kMov o), .bool (kSiz o), .bool (kDat o)]
set_option maxHeartbeats 400000 in
theorem of_ok (o : Nat) (h : 1 ≤ o ∧ o ≤ 7) (w : World) : Calls Tryz.prog 34 #[.int .u8 o] w fun e w' => e = .returned (ofV o) ∧ Below w.heap.size w w' := by
 rcases (by omega : o = 1 ∨ o = 2 ∨ o = 3 ∨ o = 4 ∨ o = 5 ∨ o = 6 ∨ o = 7) with rfl | rfl | rfl | rfl | rfl | rfl | rfl
 · go_enter Tryz.func34, Tryz.ntmps34
   go_wp2_with fail
   have X := SBox.new w 84 #[.bool true, .bool true, .bool false, .bool false, .bool false]
   have k0 := X.cell 0
   have k1 := X.cell 1
   have k2 := X.cell 2
   have k3 := X.cell 3
   have k4 := X.cell 4
   simp only [List.getElem?_toArray, List.getElem?_cons_zero, List.getElem?_cons_succ] at k0 k1 k2 k3 k4
   exact bodyPost_ret (v := .agg #[.bool true, .bool true, .bool false, .bool false, .bool false]) (by simp [results, Tryz.results34, go_sem, k0, k1, k2, k3, k4]) rfl ⟨rfl, (Below.refl _ w).alloc (Nat.le_refl _) _⟩
 · go_enter Tryz.func34, Tryz.ntmps34
   go_wp2_with fail
   have X := SBox.new w 84 #[.bool true, .bool false, .bool false, .bool false, .bool false]
   have k0 := X.cell 0
   have k1 := X.cell 1
   have k2 := X.cell 2
   have k3 := X.cell 3
   have k4 := X.cell 4
   simp only [List.getElem?_toArray, List.getElem?_cons_zero, List.getElem?_cons_succ] at k0 k1 k2 k3 k4
   exact bodyPost_ret (v := .agg #[.bool true, .bool false, .bool false, .bool false, .bool false]) (by simp [results, Tryz.results34, go_sem, k0, k1, k2, k3, k4]) rfl ⟨rfl, (Below.refl _ w).alloc (Nat.le_refl _) _⟩
 · go_enter Tryz.func34, Tryz.ntmps34
   go_wp2_with fail
   have X := SBox.new w 84 #[.bool true, .bool true, .bool false, .bool false, .bool false]
   have k0 := X.cell 0
   have k1 := X.cell 1
   have k2 := X.cell 2
   have k3 := X.cell 3
   have k4 := X.cell 4
   simp only [List.getElem?_toArray, List.getElem?_cons_zero, List.getElem?_cons_succ] at k0 k1 k2 k3 k4
   exact bodyPost_ret (v := .agg #[.bool true, .bool true, .bool false, .bool false, .bool false]) (by simp [results, Tryz.results34, go_sem, k0, k1, k2, k3, k4]) rfl ⟨rfl, (Below.refl _ w).alloc (Nat.le_refl _) _⟩
 · go_enter Tryz.func34, Tryz.ntmps34
   go_wp2_with fail
   have X := SBox.new w 84 #[.bool true, .bool true, .bool true, .bool false, .bool false]
   have k0 := X.cell 0
   have k1 := X.cell 1
   have k2 := X.cell 2
   have k3 := X.cell 3
   have k4 := X.cell 4
   simp only [List.getElem?_toArray, List.getElem?_cons_zero, List.getElem?_cons_succ] at k0 k1 k2 k3 k4
   exact bodyPost_ret (v := .agg #[.bool true, .bool true, .bool true, .bool false, .bool false]) (by simp [results, Tryz.results34, go_sem, k0, k1, k2, k3, k4]) rfl ⟨rfl, (Below.refl _ w).alloc (Nat.le_refl _) _⟩
 · go_enter Tryz.func34, Tryz.ntmps34
   go_wp2_with fail
   have X := SBox.new w 84 #[.bool false, .bool false, .bool false, .bool true, .bool false]
   have k0 := X.cell 0
   have k1 := X.cell 1
   have k2 := X.cell 2
   have k3 := X.cell 3
   have k4 := X.cell 4
   simp only [List.getElem?_toArray, List.getElem?_cons_zero, List.getElem?_cons_succ] at k0 k1 k2 k3 k4
   exact bodyPost_ret (v := .agg #[.bool false, .bool false, .bool false, .bool true, .bool false]) (by simp [results, Tryz.results34, go_sem, k0, k1, k2, k3, k4]) rfl ⟨rfl, (Below.refl _ w).alloc (Nat.le_refl _) _⟩
 · go_enter Tryz.func34, Tryz.ntmps34
   go_wp2_with fail
   have X := SBox.new w 84 #[.bool false, .bool false, .bool false, .bool true, .bool true]
   have k0 := X.cell 0
   have k1 := X.cell 1
   have k2 := X.cell 2
   have k3 := X.cell 3
   have k4 := X.cell 4
   simp only [List.getElem?_toArray, List.getElem?_cons_zero, List.getElem?_cons_succ] at k0 k1 k2 k3 k4
   exact bodyPost_ret (v := .agg #[.bool false, .bool false, .bool false, .bool true, .bool true]) (by simp [results, Tryz.results34, go_sem, k0, k1, k2, k3, k4]) rfl ⟨rfl, (Below.refl _ w).alloc (Nat.le_refl _) _⟩
 · go_enter Tryz.func34, Tryz.ntmps34
   go_wp2_with fail
   have X := SBox.new w 84 #[.bool false, .bool false, .bool false, .bool false, .bool false]
   have k0 := X.cell 0
   have k1 := X.cell 1
   have k2 := X.cell 2
   have k3 := X.cell 3
   have k4 := X.cell 4
   simp only [List.getElem?_toArray, List.getElem?_cons_zero, List.getElem?_cons_succ] at k0 k1 k2 k3 k4
   exact bodyPost_ret (v := .agg #[.bool false, .bool false, .bool false, .bool false, .bool false]) (by simp [results, Tryz.results34, go_sem, k0, k1, k2, k3, k4]) rfl ⟨rfl, (Below.refl _ w).alloc (Nat.le_refl _) _⟩
end Go.Proofs.YtmfhnhnmdeabeaaGreat.Re
end
