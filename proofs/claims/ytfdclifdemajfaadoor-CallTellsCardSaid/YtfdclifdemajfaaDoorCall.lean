/- Layer 20, the small functions: what a call has, its word; the table of fields; a call as a value; how each field goes away, out, and in. -/
import Derived.Test.YtfdclifdemajfaaDoorPathJoin
import Derived.StillTailTactics
import Derived.Laws.EntriesVeiled
import Derived.OneCell
namespace Go.Proofs.YtfdclifdemajfaaDoor.Call
set_option linter.unusedVariables false
open Go.RowKit Oct Path

/-- What a call has, as bits; its word. -/
def hasN : Nat → Int
  | 1 => 1 | 2 => 65 | 3 => 12 | 4 => 44 | 5 => 20 | 6 => 131 | 7 => 65 | 8 => 195 | 9 => 65 | 10 => 65 | 11 => 1 | 12 => 1 | 13 => 4 | 14 => 4 | _ => 0
def wordN : Nat → List UInt8
  | 1 => [111, 112, 101, 110] | 2 => [99, 114, 101, 97, 116, 101] | 3 => [114, 101, 97, 100] | 4 => [119, 114, 105, 116, 101] | 5 => [116, 114, 117, 110, 99]
  | 6 => [108, 105, 110, 107] | 7 => [117, 110, 108, 105, 110, 107] | 8 => [114, 101, 110, 97, 109, 101] | 9 => [109, 107, 100, 105, 114] | 10 => [114, 109, 100, 105, 114]
  | 11 => [108, 105, 115, 116] | 12 => [115, 116, 97, 116] | 13 => [99, 108, 111, 115, 101] | 14 => [102, 115, 121, 110, 99] | 15 => [115, 121, 110, 99] | _ => []
theorem has_over (d : Nat) (h : 15 < d) : hasN d = 0 := by
  match d, h with
  | d + 16, _ => rfl
theorem word_over (d : Nat) (h : 15 < d) : wordN d = [] := by
  match d, h with
  | d + 16, _ => rfl

/-- The table of calls lies in its block. -/
def Kinds (w : World) : Prop := 0 < w.heap.size ∧ ∀ d, d < 16 → w.cell? ⟨0, d * 2, none⟩ = some (.string (B (wordN d))) ∧ w.cell? ⟨0, d * 2 + 1, none⟩ = some (.int .i64 (hasN d))
theorem Kinds.below {w w' : World} {n : Nat} (h : Kinds w) (hn : 0 < n) (hb : Below n w w') : Kinds w' :=
  ⟨Nat.lt_of_lt_of_le h.1 hb.size, fun d hd => ⟨(hb.cell (p := ⟨0, d * 2, none⟩) hn).trans (h.2 d hd).1, (hb.cell (p := ⟨0, d * 2 + 1, none⟩) hn).trans (h.2 d hd).2⟩⟩
theorem Kinds.later {w w' : World} (h : Kinds w) (hb : Below w.heap.size w w') : Kinds w' := h.below h.1 hb

set_option maxRecDepth 100000 in
set_option maxHeartbeats 400000 in
theorem of_any (d : Nat) (w : World) (hk : Kinds w) (hd : d < 256) : Calls Tryd.prog 20 #[.int .u8 d] w fun e w' => e = .returned (.int .i64 (hasN d)) ∧ w = w' := by
  by_cases h : 15 < d
  · have t0 : decide (15 < (d : Int)) = true := by simp; omega
    rw [has_over d h]
    clear hk
    go_enter Tryd.func20, Tryd.ntmps20
    go_wp2
    go_ret
    exact ⟨rfl, rfl⟩
  · have t0 : decide (15 < (d : Int)) = false := by simp; omega
    have c := (hk.2 d (by omega)).2
    clear hk
    go_enter Tryd.func20, Tryd.ntmps20
    go_wp2
    go_ret
    exact ⟨rfl, rfl⟩
set_option maxRecDepth 100000 in
set_option maxHeartbeats 400000 in
theorem word_any (d : Nat) (w : World) (hk : Kinds w) (hd : d < 256) : Calls Tryd.prog 16 #[.int .u8 d] w fun e w' => e = .returned (.string (B (wordN d))) ∧ w = w' := by
  by_cases h : 15 < d
  · have t0 : decide (15 < (d : Int)) = true := by simp; omega
    rw [word_over d h]
    clear hk
    go_enter Tryd.func16, Tryd.ntmps16
    go_wp2
    go_ret
    exact ⟨rfl, rfl⟩
  · have t0 : decide (15 < (d : Int)) = false := by simp; omega
    have c := (hk.2 d (by omega)).1
    clear hk
    generalize B (wordN d) = v at *
    go_enter Tryd.func16, Tryd.ntmps16
    go_wp2
    go_ret
    exact ⟨rfl, rfl⟩

/-- A call. -/
structure C where
  d : Nat
  p : ByteArray
  p2 : ByteArray
  fd : Int
  pg : Int
  sz : Nat
  da : ByteArray
def C.cells (x : C) : Array Value := #[.int .u8 x.d, .string x.p, .string x.p2, .int .i64 x.fd, .int .i64 x.pg, .int .u32 x.sz, .string x.da]
def C.val (x : C) : Value := .agg x.cells
/-- A call in memory. -/
def Box (w : World) (b : Nat) (x : C) : Prop := w.heap[b]? = some (.cells x.cells 24 (0, 0))
theorem Box.lt {w : World} {b : Nat} {x : C} (h : Box w b x) : b < w.heap.size := lt_of_block h
theorem Box.free {w : World} {b : Nat} {x : C} (h : Box w b x) (i : Nat) : w.frozen? ⟨b, i, none⟩ = false := by
  unfold Box at h; simp [World.frozen?, h]
theorem Box.below {w w' : World} {n b : Nat} {x : C} (h : Box w b x) (hn : b < n) (hb : Below n w w') : Box w' b x := (hb.block b hn).trans h
theorem Box.alloc {w : World} {b : Nat} {x : C} (h : Box w b x) (o : Obj) : Box (w.alloc o) b x := (heap_alloc_old w o h.lt).trans h
theorem Box.other {w : World} {b : Nat} {x : C} (h : Box w b x) {c i : Nat} (v : Value) (hc : b ≠ c) : Box (w.setCell ⟨c, i, none⟩ v) b x := (heap_setCell_other w ⟨c, i, none⟩ b v hc).trans h
theorem Box.set {w : World} {b : Nat} {x y : C} (h : Box w b x) (i : Nat) (v : Value) (e : x.cells.setIfInBounds i v = y.cells) : Box (w.setCell ⟨b, i, none⟩ v) b y := by
  unfold Box
  rw [heap_setCell_same w b i _ _ v h, e]

theorem Box.c0 {w : World} {b : Nat} {x : C} (h : Box w b x) : w.cell? ⟨b, 0, none⟩ = some (.int .u8 x.d) := by
  unfold Box at h; simp [World.cell?, h, C.cells]
theorem Box.c1 {w : World} {b : Nat} {x : C} (h : Box w b x) : w.cell? ⟨b, 1, none⟩ = some (.string x.p) := by
  unfold Box at h; simp [World.cell?, h, C.cells]
theorem Box.c2 {w : World} {b : Nat} {x : C} (h : Box w b x) : w.cell? ⟨b, 2, none⟩ = some (.string x.p2) := by
  unfold Box at h; simp [World.cell?, h, C.cells]
theorem Box.c3 {w : World} {b : Nat} {x : C} (h : Box w b x) : w.cell? ⟨b, 3, none⟩ = some (.int .i64 x.fd) := by
  unfold Box at h; simp [World.cell?, h, C.cells]
theorem Box.c4 {w : World} {b : Nat} {x : C} (h : Box w b x) : w.cell? ⟨b, 4, none⟩ = some (.int .i64 x.pg) := by
  unfold Box at h; simp [World.cell?, h, C.cells]
theorem Box.c5 {w : World} {b : Nat} {x : C} (h : Box w b x) : w.cell? ⟨b, 5, none⟩ = some (.int .u32 x.sz) := by
  unfold Box at h; simp [World.cell?, h, C.cells]
theorem Box.c6 {w : World} {b : Nat} {x : C} (h : Box w b x) : w.cell? ⟨b, 6, none⟩ = some (.string x.da) := by
  unfold Box at h; simp [World.cell?, h, C.cells]

/-- The table of fields. -/
def rowF : Array Value := #[.int .i64 1, .func (.func 29) #[] #[], .func (.func 30) #[] #[], .func (.func 32) #[] #[], .int .i64 2, .func (.func 34) #[] #[], .func (.func 35) #[] #[], .func (.func 36) #[] #[], .int .i64 4, .func (.func 37) #[] #[], .func (.func 38) #[] #[], .func (.func 39) #[] #[], .int .i64 8, .func (.func 41) #[] #[], .func (.func 42) #[] #[], .func (.func 43) #[] #[], .int .i64 16, .func (.func 44) #[] #[], .func (.func 45) #[] #[], .func (.func 47) #[] #[], .int .i64 32, .func (.func 49) #[] #[], .func (.func 50) #[] #[], .func (.func 51) #[] #[]]
def Rows6 (w : World) (b : Nat) : Prop := w.heap[b]? = some (.cells rowF 47 (0, 0))
theorem Rows6.lt {w : World} {b : Nat} (h : Rows6 w b) : b < w.heap.size := lt_of_block h
theorem Rows6.below {w w' : World} {n b : Nat} (h : Rows6 w b) (hn : b < n) (hb : Below n w w') : Rows6 w' b := (hb.block b hn).trans h
theorem Rows6.alloc {w : World} {b : Nat} (h : Rows6 w b) (o : Obj) : Rows6 (w.alloc o) b := (heap_alloc_old w o h.lt).trans h
theorem Rows6.other {w : World} {b : Nat} (h : Rows6 w b) {c i : Nat} (v : Value) (hc : b ≠ c) : Rows6 (w.setCell ⟨c, i, none⟩ v) b := (heap_setCell_other w ⟨c, i, none⟩ b v hc).trans h
theorem Rows6.cell {w : World} {b : Nat} (h : Rows6 w b) (i : Nat) (hi : i < 24) : w.cell? ⟨b, i, none⟩ = rowF[i]? := by
  unfold Rows6 at h; simp [World.cell?, h]
set_option maxRecDepth 100000 in
set_option maxHeartbeats 400000 in
theorem fields_any (w : World) : Calls Tryd.prog 19 #[] w fun e w' => e = .returned (.slice (some ⟨w.heap.size, 0, none⟩) 6 6) ∧ w' = w.alloc (.cells rowF 47) := by
  go_enter Tryd.func19, Tryd.ntmps19
  go_wp2
  go_ret
  exact ⟨rfl, rfl⟩

def C.drop (x : C) : Nat → C
  | 0 => { x with p := ⟨#[]⟩ }
  | 1 => { x with p2 := ⟨#[]⟩ }
  | 2 => { x with fd := 0 }
  | 3 => { x with pg := 0 }
  | 4 => { x with sz := 0 }
  | 5 => { x with da := ⟨#[]⟩ }
  | _ => x
set_option maxHeartbeats 400000 in
theorem drop0 (b : Nat) (x : C) (w : World) (hb : Box w b x) : Calls Tryd.prog 29 #[.pointer (some ⟨b, 0, none⟩)] w fun e w' => e = .returned (.tuple #[]) ∧ w' = w.setCell ⟨b, 1, none⟩ (.string ⟨#[]⟩) := by
  have c := hb.c1
  have f := hb.free 1
  clear hb
  go_enter Tryd.func29, Tryd.ntmps29
  go_wp2
  go_end0
  exact ⟨rfl, rfl⟩

set_option maxHeartbeats 400000 in
theorem drop1 (b : Nat) (x : C) (w : World) (hb : Box w b x) : Calls Tryd.prog 34 #[.pointer (some ⟨b, 0, none⟩)] w fun e w' => e = .returned (.tuple #[]) ∧ w' = w.setCell ⟨b, 2, none⟩ (.string ⟨#[]⟩) := by
  have c := hb.c2
  have f := hb.free 2
  clear hb
  go_enter Tryd.func34, Tryd.ntmps34
  go_wp2
  go_end0
  exact ⟨rfl, rfl⟩

set_option maxHeartbeats 400000 in
theorem drop2 (b : Nat) (x : C) (w : World) (hb : Box w b x) : Calls Tryd.prog 37 #[.pointer (some ⟨b, 0, none⟩)] w fun e w' => e = .returned (.tuple #[]) ∧ w' = w.setCell ⟨b, 3, none⟩ (.int .i64 0) := by
  have c := hb.c3
  have f := hb.free 3
  clear hb
  go_enter Tryd.func37, Tryd.ntmps37
  go_wp2
  go_end0
  exact ⟨rfl, rfl⟩

set_option maxHeartbeats 400000 in
theorem drop3 (b : Nat) (x : C) (w : World) (hb : Box w b x) : Calls Tryd.prog 41 #[.pointer (some ⟨b, 0, none⟩)] w fun e w' => e = .returned (.tuple #[]) ∧ w' = w.setCell ⟨b, 4, none⟩ (.int .i64 0) := by
  have c := hb.c4
  have f := hb.free 4
  clear hb
  go_enter Tryd.func41, Tryd.ntmps41
  go_wp2
  go_end0
  exact ⟨rfl, rfl⟩

set_option maxHeartbeats 400000 in
theorem drop4 (b : Nat) (x : C) (w : World) (hb : Box w b x) : Calls Tryd.prog 44 #[.pointer (some ⟨b, 0, none⟩)] w fun e w' => e = .returned (.tuple #[]) ∧ w' = w.setCell ⟨b, 5, none⟩ (.int .u32 0) := by
  have c := hb.c5
  have f := hb.free 5
  clear hb
  go_enter Tryd.func44, Tryd.ntmps44
  go_wp2
  go_end0
  exact ⟨rfl, rfl⟩

set_option maxHeartbeats 400000 in
theorem drop5 (b : Nat) (x : C) (w : World) (hb : Box w b x) : Calls Tryd.prog 49 #[.pointer (some ⟨b, 0, none⟩)] w fun e w' => e = .returned (.tuple #[]) ∧ w' = w.setCell ⟨b, 6, none⟩ (.string ⟨#[]⟩) := by
  have c := hb.c6
  have f := hb.free 6
  clear hb
  go_enter Tryd.func49, Tryd.ntmps49
  go_wp2
  go_end0
  exact ⟨rfl, rfl⟩


/-- A text with its length ahead, put and got. -/
def textL (l : List UInt8) : List UInt8 := UInt8.ofNat l.length :: l
def takeL : List UInt8 → Option (List UInt8 × List UInt8)
  | [] => none
  | c :: r => if r.length < c.toNat then none else some (r.take c.toNat, r.drop c.toNat)
theorem nil_of {s : ByteArray} (h : ¬ 0 < s.size) : s = ⟨#[]⟩ := L_inj (List.eq_nil_of_length_eq_zero (by rw [len_L]; omega))
theorem ext_B (s : ByteArray) (a b : Nat) : s.extract a b = B (((L s).drop a).take (b - a)) := by
  apply L_inj
  rw [L_B]
  show (s.extract a b).data.toList = _
  rw [ByteArray.data_extract]
  simp [L, Array.toList_extract, List.extract_eq_take_drop]
theorem cons_of {s : ByteArray} (h : 0 < s.size) : L s = s[0] :: (L s).tail := by
  have h0 : 0 < (L s).length := by rw [len_L]; exact h
  have := List.drop_eq_getElem_cons h0
  rw [List.drop_zero, List.drop_one] at this
  exact this
set_option maxRecDepth 100000 in
set_option maxHeartbeats 400000 in
theorem text_ok (s : ByteArray) (w : World) (h : s.size ≤ 255) :
    Calls Tryd.prog 31 #[.string s] w fun e w' => e = .returned (.string (B (textL (L s)))) ∧ Below w.heap.size w w' := by
  have hone := run_one w (s.size : Int) (by omega) (by omega)
  have hz : (B [UInt8.ofNat s.size]).size + s.size ≤ 256 := by rw [size_B]; simp; omega
  have E := Lib.hid (show B [UInt8.ofNat s.size] ++ s = B (textL (L s)) by rw [append_B]; rfl)
  go_enter Tryd.func31, Tryd.ntmps31
  go_wp2
  go_ret
  refine ⟨?_, (Below.refl _ _).alloc (Nat.le_refl _) _⟩
  rw [← E.out]
  rfl

set_option maxRecDepth 100000 in
set_option maxHeartbeats 400000 in
theorem taken_nil (a : Addr) (w : World) : Calls Tryd.prog 33 #[.pointer (some a), .string ⟨#[]⟩] w fun e w' => e = .returned (.tuple #[.string ⟨#[]⟩, .bool false]) ∧ w = w' := by
  go_enter Tryd.func33, Tryd.ntmps33
  go_wp2
  go_ret2
  exact ⟨rfl, rfl⟩
set_option maxRecDepth 100000 in
set_option maxHeartbeats 400000 in
theorem taken_no (a : Addr) (s : ByteArray) (w : World) (hs : s.size ≤ maxLen) (h0 : 0 < s.size) (n : Nat) (hn : s[0].toNat = n) (hn8 : n < 256) (h : s.size ≤ n) : Calls Tryd.prog 33 #[.pointer (some a), .string s] w fun e w' => e = .returned (.tuple #[.string ⟨#[]⟩, .bool false]) ∧ w = w' := by
  unfold maxLen at hs
  have hne := empty_no h0
  have h1 : decide ((s.size : Int) ≤ (n : Int)) = true := by simp; omega
  go_enter Tryd.func33, Tryd.ntmps33
  go_wp2
  go_ret2
  exact ⟨rfl, rfl⟩
set_option maxRecDepth 100000 in
set_option maxHeartbeats 400000 in
theorem taken_ok (b o : Nat) (s t : ByteArray) (w : World) (hs : s.size ≤ maxLen) (h0 : 0 < s.size) (n : Nat) (hn : s[0].toNat = n) (h : n + 1 ≤ s.size) (hc : w.cell? ⟨b, o, none⟩ = some (.string t)) (hf : w.frozen? ⟨b, o, none⟩ = false) :
    Calls Tryd.prog 33 #[.pointer (some ⟨b, o, none⟩), .string s] w fun e w' => e = .returned (.tuple #[.string (B ((L s).drop (n + 1))), .bool true]) ∧ w' = w.setCell ⟨b, o, none⟩ (.string (B ((L s).tail.take n))) := by
  unfold maxLen at hs
  have hne := empty_no h0
  have h1 : decide ((s.size : Int) ≤ (n : Int)) = false := by simp; omega
  have h2 : (1 : Int) ≤ (s.size : Int) := by omega
  have E1 := Lib.hid (ext_B s 1 (n + 1))
  have E2 := Lib.hid (ex_rest s (n + 1))
  go_enter Tryd.func33, Tryd.ntmps33
  go_wp2
  go_ret2
  have e1 := E1.out
  rw [Nat.add_sub_cancel, List.drop_one] at e1
  rw [← e1, ← E2.out]
  exact ⟨rfl, rfl⟩
set_option maxRecDepth 100000 in
set_option maxHeartbeats 400000 in
theorem small_nil (a : Addr) (w : World) : Calls Tryd.prog 40 #[.pointer (some a), .string ⟨#[]⟩] w fun e w' => e = .returned (.tuple #[.string ⟨#[]⟩, .bool false]) ∧ w = w' := by
  go_enter Tryd.func40, Tryd.ntmps40
  go_wp2
  go_ret2
  exact ⟨rfl, rfl⟩
set_option maxRecDepth 100000 in
set_option maxHeartbeats 400000 in
theorem small_ok (b o : Nat) (s : ByteArray) (t : Int) (w : World) (hs : s.size ≤ maxLen) (h0 : 0 < s.size) (n : Nat) (hn : s[0].toNat = n) (hn8 : n < 256) (hc : w.cell? ⟨b, o, none⟩ = some (.int .i64 t)) (hf : w.frozen? ⟨b, o, none⟩ = false) :
    Calls Tryd.prog 40 #[.pointer (some ⟨b, o, none⟩), .string s] w fun e w' => e = .returned (.tuple #[.string (B (L s).tail), .bool true]) ∧ w' = w.setCell ⟨b, o, none⟩ (.int .i64 n) := by
  unfold maxLen at hs
  have hne := empty_no h0
  have h2 : (1 : Int) ≤ (s.size : Int) := by omega
  have E2 := Lib.hid (show s.extract 1 s.size = B (L s).tail by rw [ex_rest, List.drop_one])
  go_enter Tryd.func40, Tryd.ntmps40
  go_wp2
  go_ret2
  rw [← E2.out]
  exact ⟨rfl, rfl⟩

def C.get (x : C) : Nat → List UInt8 → Option (C × List UInt8)
  | 0, l => (takeL l).map fun t => ({ x with p := B t.1 }, t.2)
  | 1, l => (takeL l).map fun t => ({ x with p2 := B t.1 }, t.2)
  | 2, l => match l with | [] => none | c :: r => some ({ x with fd := c.toNat }, r)
  | 3, l => match l with | [] => none | c :: r => some ({ x with pg := c.toNat }, r)
  | 4, l => if l.length < 4 then none else some ({ x with sz := valL (l.take 4) }, l.drop 4)
  | 5, l => (takeL l).map fun t => ({ x with da := B t.1 }, t.2)
  | _, l => some (x, l)
def C.put (x : C) : Nat → List UInt8
  | 0 => textL (L x.p)
  | 1 => textL (L x.p2)
  | 2 => [UInt8.ofNat x.fd.toNat]
  | 3 => [UInt8.ofNat x.pg.toNat]
  | 4 => numL x.sz 4
  | 5 => textL (L x.da)
  | _ => []
/-- What a field's way in comes to. -/
def GetPost (k b : Nat) (x : C) (l : List UInt8) (w : World) (e : Ending) (w' : World) : Prop :=
  (x.get k l = none ∧ e = .returned (.tuple #[.string ⟨#[]⟩, .bool false]) ∧ w' = w) ∨
  ∃ y r v, x.get k l = some (y, r) ∧ e = .returned (.tuple #[.string (B r), .bool true]) ∧ w' = w.setCell ⟨b, k + 1, none⟩ v ∧ Box w' b y

set_option maxRecDepth 100000 in
set_option maxHeartbeats 400000 in
theorem get0 (b : Nat) (x : C) (s : ByteArray) (w : World) (hb : Box w b x) (hs : s.size ≤ maxLen) : Calls Tryd.prog 32 #[.pointer (some ⟨b, 0, none⟩), .string s] w (GetPost 0 b x (L s) w) := by
  have c := hb.c1
  have f := hb.free 1
  have HB := Lib.hid hb
  clear hb
  by_cases h0 : 0 < s.size
  · obtain ⟨n, hn⟩ : ∃ n, s[0].toNat = n := ⟨_, rfl⟩
    have hn8 : n < 256 := by rw [← hn]; exact s[0].toNat_lt
    have hL := cons_of h0
    by_cases h : s.size ≤ n
    · have TN := Lib.hid (taken_no ⟨b, 1, none⟩ s w hs h0 n hn hn8 h)
      have G : Hid (x.get 0 (L s) = none) := Lib.hid (by rw [hL]; simp only [C.get, takeL]; rw [if_pos (by rw [hn, List.length_tail, len_L]; omega)]; rfl)
      clear hn h0 hL hs h
      go_enter Tryd.func32, Tryd.ntmps32
      go_wp2_with fail
      refine TN.out.mono ?_
      rintro e w1 ⟨rfl, rfl⟩
      go_wp2
      go_ret2
      exact .inl ⟨G.out, rfl, rfl⟩
    · have TN := Lib.hid (taken_ok b 1 s _ w hs h0 n hn (by omega) c f)
      have G : Hid (x.get 0 (L s) = some ({ x with p := B ((L s).tail.take n) }, (L s).drop (n + 1))) := Lib.hid (by
        rw [hL]; simp only [C.get, takeL]; rw [if_neg (by rw [hn, List.length_tail, len_L]; omega), hn]; simp)
      clear hn h0 hL hs h
      go_enter Tryd.func32, Tryd.ntmps32
      go_wp2_with fail
      refine TN.out.mono ?_
      rintro e w1 ⟨rfl, rfl⟩
      go_wp2
      go_ret2
      exact .inr ⟨_, _, _, G.out, rfl, rfl, HB.out.set _ _ rfl⟩
  · obtain rfl := nil_of h0
    go_enter Tryd.func32, Tryd.ntmps32
    go_wp2_with fail
    refine (taken_nil _ _).mono ?_
    rintro e w1 ⟨rfl, rfl⟩
    go_wp2
    go_ret2
    exact .inl ⟨rfl, rfl, rfl⟩

set_option maxRecDepth 100000 in
set_option maxHeartbeats 400000 in
theorem get1 (b : Nat) (x : C) (s : ByteArray) (w : World) (hb : Box w b x) (hs : s.size ≤ maxLen) : Calls Tryd.prog 36 #[.pointer (some ⟨b, 0, none⟩), .string s] w (GetPost 1 b x (L s) w) := by
  have c := hb.c2
  have f := hb.free 2
  have HB := Lib.hid hb
  clear hb
  by_cases h0 : 0 < s.size
  · obtain ⟨n, hn⟩ : ∃ n, s[0].toNat = n := ⟨_, rfl⟩
    have hn8 : n < 256 := by rw [← hn]; exact s[0].toNat_lt
    have hL := cons_of h0
    by_cases h : s.size ≤ n
    · have TN := Lib.hid (taken_no ⟨b, 2, none⟩ s w hs h0 n hn hn8 h)
      have G : Hid (x.get 1 (L s) = none) := Lib.hid (by rw [hL]; simp only [C.get, takeL]; rw [if_pos (by rw [hn, List.length_tail, len_L]; omega)]; rfl)
      clear hn h0 hL hs h
      go_enter Tryd.func36, Tryd.ntmps36
      go_wp2_with fail
      refine TN.out.mono ?_
      rintro e w1 ⟨rfl, rfl⟩
      go_wp2
      go_ret2
      exact .inl ⟨G.out, rfl, rfl⟩
    · have TN := Lib.hid (taken_ok b 2 s _ w hs h0 n hn (by omega) c f)
      have G : Hid (x.get 1 (L s) = some ({ x with p2 := B ((L s).tail.take n) }, (L s).drop (n + 1))) := Lib.hid (by
        rw [hL]; simp only [C.get, takeL]; rw [if_neg (by rw [hn, List.length_tail, len_L]; omega), hn]; simp)
      clear hn h0 hL hs h
      go_enter Tryd.func36, Tryd.ntmps36
      go_wp2_with fail
      refine TN.out.mono ?_
      rintro e w1 ⟨rfl, rfl⟩
      go_wp2
      go_ret2
      exact .inr ⟨_, _, _, G.out, rfl, rfl, HB.out.set _ _ rfl⟩
  · obtain rfl := nil_of h0
    go_enter Tryd.func36, Tryd.ntmps36
    go_wp2_with fail
    refine (taken_nil _ _).mono ?_
    rintro e w1 ⟨rfl, rfl⟩
    go_wp2
    go_ret2
    exact .inl ⟨rfl, rfl, rfl⟩

set_option maxRecDepth 100000 in
set_option maxHeartbeats 400000 in
theorem get5 (b : Nat) (x : C) (s : ByteArray) (w : World) (hb : Box w b x) (hs : s.size ≤ maxLen) : Calls Tryd.prog 51 #[.pointer (some ⟨b, 0, none⟩), .string s] w (GetPost 5 b x (L s) w) := by
  have c := hb.c6
  have f := hb.free 6
  have HB := Lib.hid hb
  clear hb
  by_cases h0 : 0 < s.size
  · obtain ⟨n, hn⟩ : ∃ n, s[0].toNat = n := ⟨_, rfl⟩
    have hn8 : n < 256 := by rw [← hn]; exact s[0].toNat_lt
    have hL := cons_of h0
    by_cases h : s.size ≤ n
    · have TN := Lib.hid (taken_no ⟨b, 6, none⟩ s w hs h0 n hn hn8 h)
      have G : Hid (x.get 5 (L s) = none) := Lib.hid (by rw [hL]; simp only [C.get, takeL]; rw [if_pos (by rw [hn, List.length_tail, len_L]; omega)]; rfl)
      clear hn h0 hL hs h
      go_enter Tryd.func51, Tryd.ntmps51
      go_wp2_with fail
      refine TN.out.mono ?_
      rintro e w1 ⟨rfl, rfl⟩
      go_wp2
      go_ret2
      exact .inl ⟨G.out, rfl, rfl⟩
    · have TN := Lib.hid (taken_ok b 6 s _ w hs h0 n hn (by omega) c f)
      have G : Hid (x.get 5 (L s) = some ({ x with da := B ((L s).tail.take n) }, (L s).drop (n + 1))) := Lib.hid (by
        rw [hL]; simp only [C.get, takeL]; rw [if_neg (by rw [hn, List.length_tail, len_L]; omega), hn]; simp)
      clear hn h0 hL hs h
      go_enter Tryd.func51, Tryd.ntmps51
      go_wp2_with fail
      refine TN.out.mono ?_
      rintro e w1 ⟨rfl, rfl⟩
      go_wp2
      go_ret2
      exact .inr ⟨_, _, _, G.out, rfl, rfl, HB.out.set _ _ rfl⟩
  · obtain rfl := nil_of h0
    go_enter Tryd.func51, Tryd.ntmps51
    go_wp2_with fail
    refine (taken_nil _ _).mono ?_
    rintro e w1 ⟨rfl, rfl⟩
    go_wp2
    go_ret2
    exact .inl ⟨rfl, rfl, rfl⟩

set_option maxRecDepth 100000 in
set_option maxHeartbeats 400000 in
theorem get2 (b : Nat) (x : C) (s : ByteArray) (w : World) (hb : Box w b x) (hs : s.size ≤ maxLen) : Calls Tryd.prog 39 #[.pointer (some ⟨b, 0, none⟩), .string s] w (GetPost 2 b x (L s) w) := by
  have c := hb.c3
  have f := hb.free 3
  have HB := Lib.hid hb
  clear hb
  by_cases h0 : 0 < s.size
  · obtain ⟨n, hn⟩ : ∃ n, s[0].toNat = n := ⟨_, rfl⟩
    have hn8 : n < 256 := by rw [← hn]; exact s[0].toNat_lt
    have hL := cons_of h0
    have TN := Lib.hid (small_ok b 3 s _ w hs h0 n hn hn8 c f)
    have G : Hid (x.get 2 (L s) = some ({ x with fd := n }, (L s).tail)) := Lib.hid (by rw [hL]; simp only [C.get]; rw [hn]; simp)
    clear hn h0 hL hs
    go_enter Tryd.func39, Tryd.ntmps39
    go_wp2_with fail
    refine TN.out.mono ?_
    rintro e w1 ⟨rfl, rfl⟩
    go_wp2
    go_ret2
    exact .inr ⟨_, _, _, G.out, rfl, rfl, HB.out.set _ _ rfl⟩
  · obtain rfl := nil_of h0
    go_enter Tryd.func39, Tryd.ntmps39
    go_wp2_with fail
    refine (small_nil _ _).mono ?_
    rintro e w1 ⟨rfl, rfl⟩
    go_wp2
    go_ret2
    exact .inl ⟨rfl, rfl, rfl⟩

set_option maxRecDepth 100000 in
set_option maxHeartbeats 400000 in
theorem get3 (b : Nat) (x : C) (s : ByteArray) (w : World) (hb : Box w b x) (hs : s.size ≤ maxLen) : Calls Tryd.prog 43 #[.pointer (some ⟨b, 0, none⟩), .string s] w (GetPost 3 b x (L s) w) := by
  have c := hb.c4
  have f := hb.free 4
  have HB := Lib.hid hb
  clear hb
  by_cases h0 : 0 < s.size
  · obtain ⟨n, hn⟩ : ∃ n, s[0].toNat = n := ⟨_, rfl⟩
    have hn8 : n < 256 := by rw [← hn]; exact s[0].toNat_lt
    have hL := cons_of h0
    have TN := Lib.hid (small_ok b 4 s _ w hs h0 n hn hn8 c f)
    have G : Hid (x.get 3 (L s) = some ({ x with pg := n }, (L s).tail)) := Lib.hid (by rw [hL]; simp only [C.get]; rw [hn]; simp)
    clear hn h0 hL hs
    go_enter Tryd.func43, Tryd.ntmps43
    go_wp2_with fail
    refine TN.out.mono ?_
    rintro e w1 ⟨rfl, rfl⟩
    go_wp2
    go_ret2
    exact .inr ⟨_, _, _, G.out, rfl, rfl, HB.out.set _ _ rfl⟩
  · obtain rfl := nil_of h0
    go_enter Tryd.func43, Tryd.ntmps43
    go_wp2_with fail
    refine (small_nil _ _).mono ?_
    rintro e w1 ⟨rfl, rfl⟩
    go_wp2
    go_ret2
    exact .inl ⟨rfl, rfl, rfl⟩

set_option maxRecDepth 100000 in
set_option maxHeartbeats 400000 in
theorem get4 (b : Nat) (x : C) (s : ByteArray) (w : World) (hb : Box w b x) (hs : s.size ≤ maxLen) : Calls Tryd.prog 47 #[.pointer (some ⟨b, 0, none⟩), .string s] w (GetPost 4 b x (L s) w) := by
  unfold maxLen at hs
  have c := hb.c5
  have f := hb.free 5
  have HB := Lib.hid hb
  clear hb
  by_cases h0 : s.size < 4
  · have G : Hid (x.get 4 (L s) = none) := Lib.hid (by simp only [C.get]; rw [if_pos (by rw [len_L]; exact h0)])
    go_enter Tryd.func47, Tryd.ntmps47
    go_wp2
    go_ret2
    exact .inl ⟨G.out, rfl, rfl⟩
  · have G : Hid (x.get 4 (L s) = some ({ x with sz := valL ((L s).take 4) }, (L s).drop 4)) := Lib.hid (by simp only [C.get]; rw [if_neg (by rw [len_L]; exact h0)])
    have E1 := Lib.hid (ext_B s 0 4)
    have E2 := Lib.hid (ex_rest s 4)
    have GN := Lib.hid (fun W => get_ok (B ((L s).take 4)) W (by rw [size_B, List.length_take, len_L]; omega))
    rw [L_B] at GN
    have hv : valL ((L s).take 4) < 4294967296 := by
      have := valL_lt ((L s).take 4)
      have e : ((L s).take 4).length = 4 := by rw [List.length_take, len_L]; omega
      rw [e] at this
      exact this
    have q0 : (0 : Int) ≤ (s.size : Int) := by omega
    have q1 : (4 : Int) ≤ (s.size : Int) := by omega
    generalize valL ((L s).take 4) = v at *
    go_enter Tryd.func47, Tryd.ntmps47
    go_wp2_with fail
    rw [show s.extract 0 4 = B ((L s).take 4) from E1.out]
    refine (GN.out _).mono ?_
    rintro e w1 ⟨rfl, rfl⟩
    go_wp2
    go_ret2
    rw [E2.out]
    exact .inr ⟨_, _, _, G.out, rfl, rfl, HB.out.set _ _ rfl⟩

set_option maxRecDepth 100000 in
set_option maxHeartbeats 400000 in
theorem put0 (x : C) (w : World) (h : x.p.size ≤ 255) : Calls Tryd.prog 30 #[.agg x.cells] w fun e w' => e = .returned (.string (B (x.put 0))) ∧ Below w.heap.size w w' := by
  obtain ⟨d, p, p2, fd, pg, sz, da⟩ := x
  have TX := Lib.hid (fun W => text_ok p W h)
  simp only [C.put, C.cells]
  go_enter Tryd.func30, Tryd.ntmps30
  go_wp2_with fail
  refine (TX.out _).mono ?_
  rintro e w1 ⟨rfl, b1⟩
  go_wp2
  go_ret
  exact ⟨rfl, ((Below.refl _ _).alloc (Nat.le_refl _) _).trans (b1.mono (by simp))⟩

set_option maxRecDepth 100000 in
set_option maxHeartbeats 400000 in
theorem put1 (x : C) (w : World) (h : x.p2.size ≤ 255) : Calls Tryd.prog 35 #[.agg x.cells] w fun e w' => e = .returned (.string (B (x.put 1))) ∧ Below w.heap.size w w' := by
  obtain ⟨d, p, p2, fd, pg, sz, da⟩ := x
  have TX := Lib.hid (fun W => text_ok p2 W h)
  simp only [C.put, C.cells]
  go_enter Tryd.func35, Tryd.ntmps35
  go_wp2_with fail
  refine (TX.out _).mono ?_
  rintro e w1 ⟨rfl, b1⟩
  go_wp2
  go_ret
  exact ⟨rfl, ((Below.refl _ _).alloc (Nat.le_refl _) _).trans (b1.mono (by simp))⟩

set_option maxRecDepth 100000 in
set_option maxHeartbeats 400000 in
theorem put5 (x : C) (w : World) (h : x.da.size ≤ 255) : Calls Tryd.prog 50 #[.agg x.cells] w fun e w' => e = .returned (.string (B (x.put 5))) ∧ Below w.heap.size w w' := by
  obtain ⟨d, p, p2, fd, pg, sz, da⟩ := x
  have TX := Lib.hid (fun W => text_ok da W h)
  simp only [C.put, C.cells]
  go_enter Tryd.func50, Tryd.ntmps50
  go_wp2_with fail
  refine (TX.out _).mono ?_
  rintro e w1 ⟨rfl, b1⟩
  go_wp2
  go_ret
  exact ⟨rfl, ((Below.refl _ _).alloc (Nat.le_refl _) _).trans (b1.mono (by simp))⟩

set_option maxRecDepth 100000 in
set_option maxHeartbeats 400000 in
theorem put2 (x : C) (w : World) (h0 : 0 ≤ x.fd) (h : x.fd ≤ 255) : Calls Tryd.prog 38 #[.agg x.cells] w fun e w' => e = .returned (.string (B (x.put 2))) ∧ Below w.heap.size w w' := by
  obtain ⟨d, p, p2, fd, pg, sz, da⟩ := x
  simp only at h0 h
  simp only [C.put, C.cells]
  have hone := run_one (w.alloc (.cells #[.int .u8 d, .string p, .string p2, .int .i64 fd, .int .i64 pg, .int .u32 sz, .string da] 24)) fd h0 (by omega)
  rw [show (w.alloc (.cells #[.int .u8 d, .string p, .string p2, .int .i64 fd, .int .i64 pg, .int .u32 sz, .string da] 24)).heap.size = w.heap.size + 1 from by simp] at hone
  go_enter Tryd.func38, Tryd.ntmps38
  go_wp2
  go_ret
  exact ⟨rfl, ((Below.refl _ _).alloc (Nat.le_refl _) _).alloc (by simp) _⟩

set_option maxRecDepth 100000 in
set_option maxHeartbeats 400000 in
theorem put3 (x : C) (w : World) (h0 : 0 ≤ x.pg) (h : x.pg ≤ 255) : Calls Tryd.prog 42 #[.agg x.cells] w fun e w' => e = .returned (.string (B (x.put 3))) ∧ Below w.heap.size w w' := by
  obtain ⟨d, p, p2, fd, pg, sz, da⟩ := x
  simp only at h0 h
  simp only [C.put, C.cells]
  have hone := run_one (w.alloc (.cells #[.int .u8 d, .string p, .string p2, .int .i64 fd, .int .i64 pg, .int .u32 sz, .string da] 24)) pg h0 (by omega)
  rw [show (w.alloc (.cells #[.int .u8 d, .string p, .string p2, .int .i64 fd, .int .i64 pg, .int .u32 sz, .string da] 24)).heap.size = w.heap.size + 1 from by simp] at hone
  go_enter Tryd.func42, Tryd.ntmps42
  go_wp2
  go_ret
  exact ⟨rfl, ((Below.refl _ _).alloc (Nat.le_refl _) _).alloc (by simp) _⟩

set_option maxRecDepth 100000 in
set_option maxHeartbeats 400000 in
theorem put4 (x : C) (w : World) (h : x.sz < 4294967296) : Calls Tryd.prog 45 #[.agg x.cells] w fun e w' => e = .returned (.string (B (x.put 4))) ∧ Below w.heap.size w w' := by
  obtain ⟨d, p, p2, fd, pg, sz, da⟩ := x
  simp only at h
  simp only [C.put, C.cells]
  have NK := Lib.hid (fun W => num_ok sz 4 W (by omega) h)
  go_enter Tryd.func45, Tryd.ntmps45
  go_wp2_with fail
  refine (NK.out _).mono ?_
  rintro e w1 ⟨rfl, b1⟩
  go_wp2
  go_ret
  exact ⟨rfl, ((Below.refl _ _).alloc (Nat.le_refl _) _).trans (b1.mono (by simp))⟩

end Go.Proofs.YtfdclifdemajfaaDoor.Call
