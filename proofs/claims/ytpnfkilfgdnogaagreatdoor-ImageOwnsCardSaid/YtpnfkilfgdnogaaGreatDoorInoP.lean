/- Layer 7 (inode): an inode's numbers and bytes, plain. -/
import Derived.Test.YtpnfkilfgdnogaaGreatDoorInode0
namespace Go.Proofs.YtpnfkilfgdnogaaGreatDoor.Ino
set_option linter.unusedVariables false
set_option linter.unusedSimpArgs false
open Go.RowKit Go.Shelf Oct Geo
structure InoT where
  kind : Nat
  links : Nat
  size : Nat
  d0 : Nat
  d1 : Nat
  d2 : Nat
  d3 : Nat
  ind : Nat
def InoT.val (x : InoT) : Value := .agg #[.int .u8 x.kind, .int .u16 x.links, .int .u32 x.size, .int .u16 x.d0, .int .u16 x.d1, .int .u16 x.d2, .int .u16 x.d3, .int .u16 x.ind]
def InoT.cells (x : InoT) : Array Value := #[.int .u8 x.kind, .int .u16 x.links, .int .u32 x.size, .int .u16 x.d0, .int .u16 x.d1, .int .u16 x.d2, .int .u16 x.d3, .int .u16 x.ind]
def InoT.row (x : InoT) : List Nat := [x.d0, x.d1, x.d2, x.d3, x.ind]
def InoT.nums (x : InoT) : List Nat := [x.kind, x.links, x.size % 65536, x.size / 65536, x.d0, x.d1, x.d2, x.d3, x.ind]
/-- Its bytes. -/
def inoB (x : InoT) : ByteArray := B (putL2 x.nums ++ nil0 14)
/-- Blocks stand for pages that there are, each once. -/
def okRow (n : Nat) (l : List Nat) : Prop := ∀ k v, l[k]? = some v → v ≠ 0 → k < n ∧ ∀ j, j < k → l[j]? ≠ some v
def noIno : InoT := ⟨0, 0, 0, 0, 0, 0, 0, 0⟩
structure InoT.Used (x : InoT) : Prop where
  kind : x.kind = 1 ∨ x.kind = 2
  links : x.links ≤ 200
  size : x.size ≤ 2304
  dir : x.kind = 2 → x.size % 64 = 0
  row : okRow (pagesN x.size) x.row
  lt : ∀ v ∈ x.row, v < 65536
def InoT.Ok (x : InoT) : Prop := x = noIno ∨ x.Used
theorem putL2_app (a b : List Nat) : putL2 (a ++ b) = putL2 a ++ putL2 b := by simp [putL2]
theorem numL_zero (n : Nat) : numL 0 n = List.replicate n 0 := by
  induction n with
  | zero => rfl
  | succ n ih => rw [numL_succ, ih, List.replicate_succ']; simp
theorem putL2_zero (n : Nat) : putL2 (List.replicate n 0) = nil0 (2 * n) := by
  induction n with
  | zero => rfl
  | succ n ih =>
    rw [List.replicate_succ', putL2_snoc, ih, numL_zero]
    unfold nil0
    rw [List.replicate_append_replicate]
    rfl
theorem putL2_drop : ∀ (l : List Nat) (k : Nat), (putL2 l).drop (2 * k) = putL2 (l.drop k)
  | l, 0 => by simp
  | [], k + 1 => by simp [putL2]
  | v :: r, k + 1 => by
    have h := putL2_drop r k
    have e : putL2 (v :: r) = numL v 2 ++ putL2 r := rfl
    rw [e, List.drop_succ_cons, ← h, List.drop_append, len_numL]
    have e2 : (numL v 2).drop (2 * (k + 1)) = [] := List.drop_eq_nil_of_le (by rw [len_numL]; omega)
    rw [e2, List.nil_append]
    congr 1
theorem putL2_head (v : Nat) (r : List Nat) : (putL2 (v :: r)).take 2 = numL v 2 := by
  have e : putL2 (v :: r) = numL v 2 ++ putL2 r := rfl
  rw [e, List.take_append_of_le_length (by rw [len_numL]; omega), List.take_of_length_le (by rw [len_numL]; omega)]
theorem valL_num2 {v : Nat} (h : v < 65536) : valL (numL v 2) = v := by
  rw [valL_numL]
  exact Nat.mod_eq_of_lt h
theorem putL2_inj : ∀ {a b : List Nat}, a.length = b.length → (∀ v ∈ a, v < 65536) → (∀ v ∈ b, v < 65536) → putL2 a = putL2 b → a = b
  | [], [], _, _, _, _ => rfl
  | x :: a, y :: b, hl, ha, hb, h => by
    have h1 := congrArg (List.take 2) h
    rw [putL2_head, putL2_head] at h1
    have h2 : x = y := by rw [← valL_num2 (ha x (by simp)), ← valL_num2 (hb y (by simp)), h1]
    subst h2
    have h3 := congrArg (List.drop (2 * 1)) h
    rw [putL2_drop, putL2_drop] at h3
    have h4 := putL2_inj (a := a) (b := b) (by simpa using hl) (fun v hv => ha v (by simp [hv])) (fun v hv => hb v (by simp [hv])) (by simpa using h3)
    rw [h4]
theorem nums_row (x : InoT) : putL2 x.nums ++ nil0 14 = putL2 (x.nums ++ List.replicate 7 0) := by
  rw [putL2_app, putL2_zero]
theorem inoB_size (x : InoT) : (inoB x).size = 32 := by
  unfold inoB
  rw [size_B, List.length_append, putL2_len, nil0_len]
  rfl
theorem Used.nums_lt {x : InoT} (h : x.Used) : ∀ v ∈ x.nums, v < 65536 := by
  intro v hv
  have h1 := h.lt
  have h2 := h.links
  have h3 := h.size
  have h4 := h.kind
  unfold InoT.nums at hv
  unfold InoT.row at h1
  simp only [List.mem_cons, List.not_mem_nil, or_false] at hv h1
  rcases hv with rfl | rfl | rfl | rfl | rfl | rfl | rfl | rfl | rfl
  · omega
  · omega
  · omega
  · omega
  · exact h1 _ (by simp)
  · exact h1 _ (by simp)
  · exact h1 _ (by simp)
  · exact h1 _ (by simp)
  · exact h1 _ (by simp)
theorem Ok.nums_lt {x : InoT} (h : x.Ok) : ∀ v ∈ x.nums, v < 65536 := by
  rcases h with rfl | h
  · intro v hv
    simp [InoT.nums, noIno] at hv
    omega
  · exact Used.nums_lt h
theorem Ok.size_lt {x : InoT} (h : x.Ok) : x.size ≤ 2304 := by
  rcases h with rfl | h
  · simp [noIno]
  · exact h.size
theorem inoB_inj {x y : InoT} (hx : x.Ok) (hy : y.Ok) (h : inoB x = inoB y) : x = y := by
  have h1 : putL2 x.nums ++ nil0 14 = putL2 y.nums ++ nil0 14 := congrArg L h
  have h2 := putL2_inj (by rfl) (Ok.nums_lt hx) (Ok.nums_lt hy) (List.append_cancel_right h1)
  obtain ⟨a0, a1, a2, a3, a4, a5, a6, a7⟩ := x
  obtain ⟨b0, b1, b2, b3, b4, b5, b6, b7⟩ := y
  simp only [InoT.nums, List.cons.injEq] at h2
  obtain ⟨e0, e1, e2, e3, e4, e5, e6, e7, e8, _⟩ := h2
  have es : a2 = b2 := by omega
  subst e0 e1 es e4 e5 e6 e7 e8
  rfl
end Go.Proofs.YtpnfkilfgdnogaaGreatDoor.Ino
