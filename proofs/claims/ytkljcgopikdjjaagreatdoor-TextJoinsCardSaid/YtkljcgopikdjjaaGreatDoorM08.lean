/- Layer 20, plain: what was put is got, what is got is put. No program in sight. -/
import Derived.Test.YtkljcgopikdjjaaGreatDoorM06
import Derived.Test.YtkljcgopikdjjaaGreatDoorM07
import Derived.Lib.AppendIntMem
import Derived.Test.YtkljcgopikdjjaaGreatDoorM04
import Derived.Laws.StructEq
import Derived.Great.Walk
set_option linter.unusedVariables false
set_option linter.unusedSimpArgs false
set_option maxRecDepth 100000
section
namespace Go.Proofs.YtkljcgopikdjjaaGreatDoor.Call
open Go.RowKit Oct Path
theorem drop_d (x : C) (k : Nat) : (x.drop k).d = x.d := by unfold C.drop; split <;> rfl
theorem bareTo_d (x : C) (h : Int) : ∀ k, (x.bareTo h k).d = x.d
 | 0 => rfl
 | k + 1 => by
   rw [C.bareTo]
   split
   · rw [drop_d, bareTo_d x h k]
   · exact bareTo_d x h k
theorem check_any (x : C) (w : World) (hk : Kinds w) (hd : x.d < 256) (hp : x.p.size ≤ maxLen) (hp2 : x.p2.size ≤ maxLen) (hda : x.da.size ≤ maxLen) : Calls Tryz.prog 66 #[.agg x.cells] w fun e w' => e = .returned (.int .i64 x.checkE) ∧ Below w.heap.size w w' := by
 unfold C.checkE
 by_cases h1 : x.d < 1
 · rw [if_pos h1]; exact check_low x w hk hd h1
 rw [if_neg h1]
 by_cases h2 : 15 < x.d
 · rw [if_pos h2]; exact check_high x w hk hd h2
 rw [if_neg h2];have g1 : 1 ≤ x.d := by omega
 have g2 : x.d ≤ 15 := by omega
 by_cases h3 : x.bareTo (hasN x.d) 6 = C.zero x.d
 · rw [if_neg (by simpa using h3)]; exact check_main x w hk hd g1 g2 h3 hp hp2 hda
 rw [if_pos h3];obtain ⟨y, hy⟩ : ∃ y, x.bareTo (hasN x.d) 6 = y := ⟨_, rfl⟩;have hyd : y.d = x.d := by rw [← hy]; exact bareTo_d x _ 6
 rw [hy] at h3
 by_cases a0 : y.p = ⟨#[]⟩
 · by_cases a1 : y.p2 = ⟨#[]⟩
   · by_cases a2 : y.fd = 0
     · by_cases a3 : y.pg = 0
       · by_cases a4 : y.sz = 0
         · refine check_bare5 x y w hk hd g1 g2 hy hyd a0 a1 a2 a3 a4 (fun a5 => h3 ?_)
           obtain ⟨yd, yp, yp2, yfd, ypg, ysz, yda⟩ := y;simp only at hyd a0 a1 a2 a3 a4 a5;subst hyd a0 a1 a2 a3 a4 a5
           rfl
         · exact check_bare4 x y w hk hd g1 g2 hy hyd a0 a1 a2 a3 a4
       · exact check_bare3 x y w hk hd g1 g2 hy hyd a0 a1 a2 a3
     · exact check_bare2 x y w hk hd g1 g2 hy hyd a0 a1 a2
   · exact check_bare1 x y w hk hd g1 g2 hy hyd a0 a1
 · exact check_bare0 x y w hk hd g1 g2 hy hyd a0
end Go.Proofs.YtkljcgopikdjjaaGreatDoor.Call
end
section
namespace Go.Proofs.YtkljcgopikdjjaaGreatDoor.Tx
set_option maxRecDepth 100000
set_option maxHeartbeats 1000000
open Go.RowKit Go.Shelf Go.Maps Oct
theorem var_later {P : Program} {w w' : World} {n : String} {cs : Array Value} (h : w.var? P n = some cs) (hb : Below w.heap.size w w') : w'.var? P n = some cs := by
 unfold World.var? at h ⊢;cases hg : P.globalNamed n with
 | none => simp [hg] at h
 | some g =>
   simp only [hg, Option.bind_some] at h ⊢
   have hlt : g < w.heap.size := by
     rcases Nat.lt_or_ge g w.heap.size with h' | h'
     · exact h'
     · simp [Array.getElem?_eq_none h'] at h
   rw [hb.block g hlt];exact h
structure Lay (w : World) : Prop where
 kinds : Call.Kinds w
 tab : Lib.TabIs Tryz.prog w "internal/strconv.uint64pow10" .u64 Lib.pow10Tab
 es : ∃ tp p, w.var? Tryz.prog "strconv.ErrSyntax" = some #[.iface tp p]
 er : ∃ tp p, w.var? Tryz.prog "strconv.ErrRange" = some #[.iface tp p]
theorem Lay.later {w w' : World} (h : Lay w) (hb : Below w.heap.size w w') : Lay w' :=
 ⟨h.kinds.later hb, var_later h.tab hb, by obtain ⟨a, b, e⟩ := h.es; exact ⟨a, b, var_later e hb⟩, by obtain ⟨a, b, e⟩ := h.er; exact ⟨a, b, var_later e hb⟩⟩
theorem below_grow (w : World) (k : Nat) (os : Array Obj) : Below w.heap.size w (Sort.grow (w.drewN k) os) := Lib.below_grow w.heap.size w (Nat.le_refl _) k os
theorem fin_zero (w : World) (o : Obj) (dk : Array UInt8) (k : Nat) : ∃ os, (Sort.putRow (fun (b : UInt8) => Value.int .u8 (b.toNat : Int)) (w.alloc o) w.heap.size 0 dk).drewN k = Sort.grow (w.drewN k) os := by
 rw [Sort.alloc_eq_grow];obtain ⟨os', _, e⟩ := Sort.putRow_grow_new (fun (b : UInt8) => Value.int .u8 (b.toNat : Int)) w #[o] w.heap.size 0 dk (Nat.le_refl _);exact ⟨os', by rw [e]; rfl⟩
theorem itoa_any (n : Int) (h0 : -9223372036854775808 ≤ n) (h1 : n ≤ 9223372036854775807) (w : World) (hl : Lay w) :
   Calls Tryz.prog 29 #[.int .i64 n] w fun e w' => e = .returned (.string (B (Lib.itoa n))) ∧ Below w.heap.size w w' := by
 refine (Tryz.strconv_Itoa n h0 h1 w hl.tab).mono ?_;rintro e w' ⟨rfl, k, os, rfl⟩;exact ⟨rfl, below_grow w k os⟩
theorem fmtu_in (u : Nat) (hu : u < 4294967296) (w : World) (htab : Lib.TabIs Tryz.prog w "internal/strconv.uint64pow10" .u64 Lib.pow10Tab) :
   Calls Tryz.prog 156 #[.int .u64 u, .int .i64 10] w fun e w' => e = .returned (.string (B (Lib.decDigits u))) ∧ Below w.heap.size w w' := by
 by_cases hs : u < 100
 · have C := Lib.hid (fun W => Tryz.internal_strconv_small u hs W)
   have t1 : decide ((u : Int) < 100) = true := by simp; omega
   go_enter Tryz.func156, Tryz.ntmps156
   go_wp2_with fail;refine (C.out _).mono ?_;rintro e w' ⟨rfl, rfl⟩;go_wp2_with fail;go_ret;exact ⟨rfl, Below.refl _ _⟩
 · have hu1 : 1 ≤ u := by omega
   have hu64 : u < 18446744073709551616 := by omega
   have t1 : decide ((u : Int) < 100) = false := by simp; omega
   have hnd20 : Lib.nDigits u ≤ 20 := by have := Lib.numDigits_eq u hu1 hu64; split at this <;> omega
   have hal : Tryz.prog.arrayLen 185 = 24 := by simp [Program.arrayLen, Tryz.underlying185]
   have hsl : ∀ W, (Instr.sliceAt 185 (.pointer (some ⟨w.heap.size, 0, none⟩)) none (some (.int .i64 (Lib.nDigits u : Int))) none).run Tryz.prog W = .ok (.slice (some ⟨w.heap.size, 0, none⟩) (Lib.nDigits u) 24) W := fun W => by
     rw [run_sliceAt_array_h W 185 ⟨w.heap.size, 0, none⟩ (by simp [Program.arrayLen, Program.elem, Tryz.underlying185]) .i64 (Lib.nDigits u : Int) (by omega) (by rw [hal]; omega)];go_simp
   have hH0 := Lib.holds_zero0 w 185 (Lib.nDigits u) (by omega);have hfmt := Tryz.internal_strconv_formatBase10 w.heap.size 0 24 u (Array.replicate (Lib.nDigits u) 0) (w.alloc (.cells Lib.zeros24 185)) hH0 (by rw [Array.size_replicate]; exact Lib.lt_pow_nDigits u) hu64 (by rw [Array.size_replicate]; omega);rw [Array.size_replicate] at hfmt;have HD := Lib.hid (fun W h => Tryz.internal_strconv_numDigits u hu1 hu64 W h);have HT := Lib.hid (Lib.tabIs_alloc htab (.cells Lib.zeros24 185));have HF := Lib.hid hfmt;have HH0 := Lib.hid hH0;clear hH0 hal hfmt
   go_enter Tryz.func156, Tryz.ntmps156
   go_wp2_with fail;refine (HD.out _ HT.out).mono ?_;rintro e w' ⟨rfl, rfl⟩;go_wp2_with fail;refine HF.out.mono ?_;rintro e w' ⟨rfl, k, v', dk, rfl, hF⟩
   have hcv : (convert 56 9 (.slice (some ⟨w.heap.size, 0, none⟩) (Lib.nDigits u) 24)).run Tryz.prog ((Sort.putRow (fun (b : UInt8) => Value.int .u8 (b.toNat : Int)) (w.alloc (.cells Lib.zeros24 185)) w.heap.size 0 dk).drewN k) = .ok (.string ⟨(Lib.decDigits u).toArray⟩) ((Sort.putRow (fun (b : UInt8) => Value.int .u8 (b.toNat : Int)) (w.alloc (.cells Lib.zeros24 185)) w.heap.size 0 dk).drewN k) := by
     have h := run_convert_bytes_back (P := Tryz.prog) ((Sort.putRow (fun (b : UInt8) => Value.int .u8 (b.toNat : Int)) (w.alloc (.cells Lib.zeros24 185)) w.heap.size 0 dk).drewN k) 56 9 5 ⟨w.heap.size, 0, none⟩ 24 (Lib.decDigits u) Tryz.underlying56 Tryz.underlying5 Tryz.underlying9 (fun j hj => by
       rw [Lib.row_is_numeral hF j hj, Lib.add_plain, World.cell?_drewN];exact Sort.cell?_putRow (fun (b : UInt8) => Value.int .u8 (b.toNat : Int)) _ w.heap.size 0 _ dk HH0.out (by rw [hF.size, Array.size_replicate]) j (by rw [hF.size]; rw [Lib.decDigits_length] at hj; exact hj))
     rw [Lib.decDigits_length] at h;exact h
   go_wp2
   go_ret;obtain ⟨os, eo⟩ := fin_zero w (.cells Lib.zeros24 185) dk k;exact ⟨rfl, by rw [eo]; exact below_grow w k os⟩
theorem fmtu_any (u : Nat) (hu : u < 4294967296) (w : World) (hl : Lay w) :
   Calls Tryz.prog 117 #[.int .u64 u, .int .i64 10] w fun e w' => e = .returned (.string (B (Lib.decDigits u))) ∧ Below w.heap.size w w' := by
 have C := Lib.hid (fmtu_in u hu w hl.tab);clear hl
 go_enter Tryz.func117, Tryz.ntmps117
 go_wp2_with fail;refine C.out.mono ?_;rintro e w' ⟨rfl, hb⟩;have HB := Lib.hid hb;clear hb;go_wp2_with fail;go_ret;exact ⟨rfl, HB.out⟩
end Go.Proofs.YtkljcgopikdjjaaGreatDoor.Tx
end
section
namespace Go.Proofs.YtkljcgopikdjjaaGreatDoor.Tx
set_option maxRecDepth 100000
set_option maxHeartbeats 1000000
open Go.RowKit Go.Shelf Go.Maps Oct
def M.c (x : M) : Call.C := ⟨x.d, B x.p, B x.p2, x.fd, x.pg, x.sz, B x.da⟩
def M.cells (x : M) : Array Value := #[.int .u8 x.k, .int .i64 x.co, .int .i64 x.n, .int .u32 x.ino, .int .u8 x.d, .string (B x.p), .string (B x.p2), .int .i64 x.fd, .int .i64 x.pg, .int .u32 x.sz, .string (B x.da), .string (B x.t)]
def M.val (x : M) : Value := .agg x.cells
def MBox (w : World) (b : Nat) (x : M) : Prop := SBox w b 40 x.cells
theorem at0 (b : Nat) (w : World) : Calls Tryz.prog 68 #[ptr b] w fun e w' => e = .returned (.pointer (some ⟨b, 1, none⟩)) ∧ w = w' := by
 unfold ptr
 go_enter Tryz.func68, Tryz.ntmps68
 go_wp2
 go_ret;exact ⟨rfl, rfl⟩
theorem at1 (b : Nat) (w : World) : Calls Tryz.prog 69 #[ptr b] w fun e w' => e = .returned (.pointer (some ⟨b, 2, none⟩)) ∧ w = w' := by
 unfold ptr
 go_enter Tryz.func69, Tryz.ntmps69
 go_wp2
 go_ret;exact ⟨rfl, rfl⟩
theorem at2 (b : Nat) (w : World) : Calls Tryz.prog 71 #[ptr b] w fun e w' => e = .returned (.pointer (some ⟨b, 3, none⟩)) ∧ w = w' := by
 unfold ptr
 go_enter Tryz.func71, Tryz.ntmps71
 go_wp2
 go_ret;exact ⟨rfl, rfl⟩
theorem at4 (b : Nat) (w : World) : Calls Tryz.prog 74 #[ptr b] w fun e w' => e = .returned (.pointer (some ⟨b, 5, none⟩)) ∧ w = w' := by
 unfold ptr
 go_enter Tryz.func74, Tryz.ntmps74
 go_wp2
 go_ret;exact ⟨rfl, rfl⟩
theorem at5 (b : Nat) (w : World) : Calls Tryz.prog 75 #[ptr b] w fun e w' => e = .returned (.pointer (some ⟨b, 6, none⟩)) ∧ w = w' := by
 unfold ptr
 go_enter Tryz.func75, Tryz.ntmps75
 go_wp2
 go_ret;exact ⟨rfl, rfl⟩
theorem at6 (b : Nat) (w : World) : Calls Tryz.prog 76 #[ptr b] w fun e w' => e = .returned (.pointer (some ⟨b, 7, none⟩)) ∧ w = w' := by
 unfold ptr
 go_enter Tryz.func76, Tryz.ntmps76
 go_wp2
 go_ret;exact ⟨rfl, rfl⟩
theorem at7 (b : Nat) (w : World) : Calls Tryz.prog 77 #[ptr b] w fun e w' => e = .returned (.pointer (some ⟨b, 8, none⟩)) ∧ w = w' := by
 unfold ptr
 go_enter Tryz.func77, Tryz.ntmps77
 go_wp2
 go_ret;exact ⟨rfl, rfl⟩
theorem at8 (b : Nat) (w : World) : Calls Tryz.prog 78 #[ptr b] w fun e w' => e = .returned (.pointer (some ⟨b, 9, none⟩)) ∧ w = w' := by
 unfold ptr
 go_enter Tryz.func78, Tryz.ntmps78
 go_wp2
 go_ret;exact ⟨rfl, rfl⟩
theorem at9 (b : Nat) (w : World) : Calls Tryz.prog 79 #[ptr b] w fun e w' => e = .returned (.pointer (some ⟨b, 10, none⟩)) ∧ w = w' := by
 unfold ptr
 go_enter Tryz.func79, Tryz.ntmps79
 go_wp2
 go_ret;exact ⟨rfl, rfl⟩
theorem at10 (b : Nat) (w : World) : Calls Tryz.prog 80 #[ptr b] w fun e w' => e = .returned (.pointer (some ⟨b, 11, none⟩)) ∧ w = w' := by
 unfold ptr
 go_enter Tryz.func80, Tryz.ntmps80
 go_wp2
 go_ret;exact ⟨rfl, rfl⟩
def numTf (a : Nat) : Value := .func (.func 114) #[] #[ptr a]
def numHf (a : Nat) : Value := .func (.func 115) #[] #[ptr a]
def numAt (w : World) (a g : Nat) : Prop := SBox w a 121 #[.func (.func g) #[] #[]]
theorem num_any (s : ByteArray) (g : Nat) (w : World) : Calls Tryz.prog 67 #[.string s, .func (.func g) #[] #[]] w fun e w' => e = .returned (.agg #[.string s, numTf w.heap.size, numHf w.heap.size]) ∧ numAt w' w.heap.size g ∧ Below w.heap.size w w' := by
 have h1 := Lib.hid (SBox.new w 121 #[.func (.func g) #[] #[]]);have B1 := Lib.hid (((Below.refl w.heap.size w).alloc (Nat.le_refl _) (.cells #[.func (.func g) #[] #[]] 121)).alloc (by simp) (.cells #[.string s, .func (.func 114) #[] #[.pointer (some ⟨w.heap.size, 0, none⟩)], .func (.func 115) #[] #[.pointer (some ⟨w.heap.size, 0, none⟩)]] 79));have hmf : ∀ (fn : Fn) (first cap : Array Value) (w : World), (Instr.makeFunc fn first cap).run Tryz.prog w = .ok (.func fn first cap) w := fun _ _ _ _ => rfl;unfold numTf numHf numAt ptr
 go_enter Tryz.func67, Tryz.ntmps67
 go_wp2
 have k9 := SBox.new (w.alloc (.cells #[.func (.func g) #[] #[]] 121)) 79 #[.string s, .func (.func 114) #[] #[.pointer (some ⟨w.heap.size, 0, none⟩)], .func (.func 115) #[] #[.pointer (some ⟨w.heap.size, 0, none⟩)]];have k0 := k9.cell 0;have k1 := k9.cell 1;have k2 := k9.cell 2;simp only [List.getElem?_toArray, List.getElem?_cons_zero, List.getElem?_cons_succ, World.size_alloc] at k0 k1 k2;exact bodyPost_ret (v := .agg #[.string s, .func (.func 114) #[] #[.pointer (some ⟨w.heap.size, 0, none⟩)], .func (.func 115) #[] #[.pointer (some ⟨w.heap.size, 0, none⟩)]]) (by simp [results, Tryz.results67, go_sem, k0, k1, k2]) rfl ⟨rfl, h1.out.alloc _, B1.out⟩
def highTf (a : Nat) : Value := .func (.func 116) #[] #[ptr a]
def highHf (a : Nat) : Value := .func (.func 118) #[] #[ptr a]
def highAt (w : World) (a g : Nat) : Prop := SBox w a 124 #[.func (.func g) #[] #[]]
theorem high_any (s : ByteArray) (g : Nat) (w : World) : Calls Tryz.prog 70 #[.string s, .func (.func g) #[] #[]] w fun e w' => e = .returned (.agg #[.string s, highTf w.heap.size, highHf w.heap.size]) ∧ highAt w' w.heap.size g ∧ Below w.heap.size w w' := by
 have h1 := Lib.hid (SBox.new w 124 #[.func (.func g) #[] #[]]);have B1 := Lib.hid (((Below.refl w.heap.size w).alloc (Nat.le_refl _) (.cells #[.func (.func g) #[] #[]] 124)).alloc (by simp) (.cells #[.string s, .func (.func 116) #[] #[.pointer (some ⟨w.heap.size, 0, none⟩)], .func (.func 118) #[] #[.pointer (some ⟨w.heap.size, 0, none⟩)]] 79));have hmf : ∀ (fn : Fn) (first cap : Array Value) (w : World), (Instr.makeFunc fn first cap).run Tryz.prog w = .ok (.func fn first cap) w := fun _ _ _ _ => rfl;unfold highTf highHf highAt ptr
 go_enter Tryz.func70, Tryz.ntmps70
 go_wp2
 have k9 := SBox.new (w.alloc (.cells #[.func (.func g) #[] #[]] 124)) 79 #[.string s, .func (.func 116) #[] #[.pointer (some ⟨w.heap.size, 0, none⟩)], .func (.func 118) #[] #[.pointer (some ⟨w.heap.size, 0, none⟩)]];have k0 := k9.cell 0;have k1 := k9.cell 1;have k2 := k9.cell 2;simp only [List.getElem?_toArray, List.getElem?_cons_zero, List.getElem?_cons_succ, World.size_alloc] at k0 k1 k2;exact bodyPost_ret (v := .agg #[.string s, .func (.func 116) #[] #[.pointer (some ⟨w.heap.size, 0, none⟩)], .func (.func 118) #[] #[.pointer (some ⟨w.heap.size, 0, none⟩)]]) (by simp [results, Tryz.results70, go_sem, k0, k1, k2]) rfl ⟨rfl, h1.out.alloc _, B1.out⟩
def strTf (a : Nat) : Value := .func (.func 122) #[] #[ptr a]
def strHf (a : Nat) : Value := .func (.func 124) #[] #[ptr a]
def strAt (w : World) (a g : Nat) : Prop := SBox w a 128 #[.func (.func g) #[] #[]]
theorem str_any (s : ByteArray) (g : Nat) (w : World) : Calls Tryz.prog 73 #[.string s, .func (.func g) #[] #[]] w fun e w' => e = .returned (.agg #[.string s, strTf w.heap.size, strHf w.heap.size]) ∧ strAt w' w.heap.size g ∧ Below w.heap.size w w' := by
 have h1 := Lib.hid (SBox.new w 128 #[.func (.func g) #[] #[]]);have B1 := Lib.hid (((Below.refl w.heap.size w).alloc (Nat.le_refl _) (.cells #[.func (.func g) #[] #[]] 128)).alloc (by simp) (.cells #[.string s, .func (.func 122) #[] #[.pointer (some ⟨w.heap.size, 0, none⟩)], .func (.func 124) #[] #[.pointer (some ⟨w.heap.size, 0, none⟩)]] 79));have hmf : ∀ (fn : Fn) (first cap : Array Value) (w : World), (Instr.makeFunc fn first cap).run Tryz.prog w = .ok (.func fn first cap) w := fun _ _ _ _ => rfl;unfold strTf strHf strAt ptr
 go_enter Tryz.func73, Tryz.ntmps73
 go_wp2
 have k9 := SBox.new (w.alloc (.cells #[.func (.func g) #[] #[]] 128)) 79 #[.string s, .func (.func 122) #[] #[.pointer (some ⟨w.heap.size, 0, none⟩)], .func (.func 124) #[] #[.pointer (some ⟨w.heap.size, 0, none⟩)]];have k0 := k9.cell 0;have k1 := k9.cell 1;have k2 := k9.cell 2;simp only [List.getElem?_toArray, List.getElem?_cons_zero, List.getElem?_cons_succ, World.size_alloc] at k0 k1 k2;exact bodyPost_ret (v := .agg #[.string s, .func (.func 122) #[] #[.pointer (some ⟨w.heap.size, 0, none⟩)], .func (.func 124) #[] #[.pointer (some ⟨w.heap.size, 0, none⟩)]]) (by simp [results, Tryz.results73, go_sem, k0, k1, k2]) rfl ⟨rfl, h1.out.alloc _, B1.out⟩
def whichT : Value := .func (.func 119) #[] #[]
def whichH : Value := .func (.func 121) #[] #[]
theorem which_any (w : World) : Calls Tryz.prog 72 #[] w fun e w' => e = .returned (.agg #[.string ⟨#[100, 111]⟩, whichT, whichH]) ∧ Below w.heap.size w w' := by
 have B1 := Lib.hid ((Below.refl w.heap.size w).alloc (Nat.le_refl _) (.cells #[.string ⟨#[100, 111]⟩, .func (.func 119) #[] #[], .func (.func 121) #[] #[]] 79));unfold whichT whichH
 go_enter Tryz.func72, Tryz.ntmps72
 go_wp2
 have k9 := SBox.new (w) 79 #[.string ⟨#[100, 111]⟩, .func (.func 119) #[] #[], .func (.func 121) #[] #[]];have k0 := k9.cell 0;have k1 := k9.cell 1;have k2 := k9.cell 2;simp only [List.getElem?_toArray, List.getElem?_cons_zero, List.getElem?_cons_succ] at k0 k1 k2;exact bodyPost_ret (v := .agg #[.string ⟨#[100, 111]⟩, .func (.func 119) #[] #[], .func (.func 121) #[] #[]]) (by simp [results, Tryz.results72, go_sem, k0, k1, k2]) rfl ⟨rfl, B1.out⟩
end Go.Proofs.YtkljcgopikdjjaaGreatDoor.Tx
end
section
namespace Go.Proofs.YtkljcgopikdjjaaGreatDoor.Tx
set_option maxRecDepth 100000
set_option maxHeartbeats 2000000
open Go.RowKit Go.Shelf Go.Maps Oct
end Go.Proofs.YtkljcgopikdjjaaGreatDoor.Tx
end
section
namespace Go.Proofs.YtkljcgopikdjjaaGreatDoor.Call
open Go.RowKit Oct Path
def C.putTo (x : C) (h : Int) : Nat → List UInt8
 | 0 => [UInt8.ofNat x.d]
 | k + 1 => if hasB h (bitOf k) then x.putTo h k ++ x.put k else x.putTo h k
def C.keep (x : C) (h : Int) (k : Nat) : C :=
 ⟨x.d, if 0 < k ∧ hasB h 1 = true then x.p else ⟨#[]⟩, if 1 < k ∧ hasB h 2 = true then x.p2 else ⟨#[]⟩, if 2 < k ∧ hasB h 4 = true then x.fd else 0, if 3 < k ∧ hasB h 8 = true then x.pg else 0, if 4 < k ∧ hasB h 16 = true then x.sz else 0, if 5 < k ∧ hasB h 32 = true then x.da else ⟨#[]⟩⟩
theorem bare_six (x : C) (h : Int) : x.bareTo h 6 = ⟨x.d, if hasB h 1 = true then ⟨#[]⟩ else x.p, if hasB h 2 = true then ⟨#[]⟩ else x.p2, if hasB h 4 = true then 0 else x.fd, if hasB h 8 = true then 0 else x.pg, if hasB h 16 = true then 0 else x.sz, if hasB h 32 = true then ⟨#[]⟩ else x.da⟩ := by
 obtain ⟨d, p, p2, fd, pg, sz, da⟩ := x;simp only [C.bareTo, bitOf];cases hasB h 1 <;> cases hasB h 2 <;> cases hasB h 4 <;> cases hasB h 8 <;> cases hasB h 16 <;> cases hasB h 32 <;> rfl
theorem bare_keep (x : C) (h : Int) : x.bareTo h 6 = C.zero x.d ↔ x.keep h 6 = x := by
 rw [bare_six];obtain ⟨d, p, p2, fd, pg, sz, da⟩ := x;simp only [C.zero, C.keep, C.mk.injEq, true_and];cases hasB h 1 <;> cases hasB h 2 <;> cases hasB h 4 <;> cases hasB h 8 <;> cases hasB h 16 <;> cases hasB h 32 <;> simp [eq_comm]
structure C.Fits (x : C) : Prop where
 p : x.p.size ≤ 255
 p2 : x.p2.size ≤ 255
 fd0 : 0 ≤ x.fd
 fd : x.fd ≤ 255
 pg0 : 0 ≤ x.pg
 pg : x.pg ≤ 255
 sz : x.sz < 4294967296
 da : x.da.size ≤ 255
theorem check_yes {x : C} (h : x.checkE = 0) : 1 ≤ x.d ∧ x.d ≤ 15 ∧ x.keep (hasN x.d) 6 = x ∧ x.e1 = 0 ∧ x.e2 = 0 ∧ x.bad = false := by
 unfold C.checkE at h
 split at h
 · exact absurd h (by decide)
 split at h
 · exact absurd h (by decide)
 split at h
 · exact absurd h (by decide)
 rename_i h1 h2 h3
 unfold C.restE at h
 split at h
 · rename_i h4; exact absurd h h4
 split at h
 · rename_i h4; exact absurd h h4
 split at h
 · exact absurd h (by decide)
 rename_i h4 h5 h6
 exact ⟨by omega, by omega, (bare_keep x _).1 (Decidable.not_not.1 h3), Decidable.not_not.1 h4, Decidable.not_not.1 h5, by simpa using h6⟩
theorem check_fits {x : C} (h : x.checkE = 0) : x.Fits := by
 obtain ⟨h1, h2, h3, h4, h5, h6⟩ := check_yes h;simp only [C.bad, Bool.or_eq_false_iff, decide_eq_false_iff_not] at h6;obtain ⟨⟨⟨⟨⟨⟨⟨_, a1⟩, a2⟩, a3⟩, a4⟩, _⟩, a5⟩, a6⟩ := h6;refine ⟨?_, ?_, by omega, by omega, by omega, by omega, by omega, by omega⟩
 · unfold C.e1 at h4
   cases hb : hasB (hasN x.d) 1 with
   | true => rw [hb, if_pos rfl] at h4; exact (splitE_ok h4).1
   | false =>
     have := congrArg C.p h3;simp only [C.keep, hb] at this;rw [← this, if_neg (by simp)]
     decide
 · unfold C.e2 at h5
   cases hb : hasB (hasN x.d) 2 with
   | true => rw [hb, if_pos rfl] at h5; exact (splitE_ok h5).1
   | false =>
     have := congrArg C.p2 h3;simp only [C.keep, hb] at this;rw [← this, if_neg (by simp)]
     decide
def C.bytes (x : C) : List UInt8 := x.putTo (hasN x.d) 6
end Go.Proofs.YtkljcgopikdjjaaGreatDoor.Call
end
