/- Layer 20: Check, all cases joined. -/
import Derived.Test.YtfdclifdemajfaaDoorCallCheck2
namespace Go.Proofs.YtfdclifdemajfaaDoor.Call
set_option linter.unusedVariables false
open Go.RowKit Oct Path
theorem drop_d (x : C) (k : Nat) : (x.drop k).d = x.d := by unfold C.drop; split <;> rfl
theorem bareTo_d (x : C) (h : Int) : ∀ k, (x.bareTo h k).d = x.d
  | 0 => rfl
  | k + 1 => by
    rw [C.bareTo]
    split
    · rw [drop_d, bareTo_d x h k]
    · exact bareTo_d x h k
theorem check_any (x : C) (w : World) (hk : Kinds w) (hd : x.d < 256) (hp : x.p.size ≤ maxLen) (hp2 : x.p2.size ≤ maxLen) (hda : x.da.size ≤ maxLen) : Calls Tryd.prog 10 #[.agg x.cells] w fun e w' => e = .returned (.int .i64 x.checkE) ∧ Below w.heap.size w w' := by
  unfold C.checkE
  by_cases h1 : x.d < 1
  · rw [if_pos h1]; exact check_low x w hk hd h1
  rw [if_neg h1]
  by_cases h2 : 15 < x.d
  · rw [if_pos h2]; exact check_high x w hk hd h2
  rw [if_neg h2]
  have g1 : 1 ≤ x.d := by omega
  have g2 : x.d ≤ 15 := by omega
  by_cases h3 : x.bareTo (hasN x.d) 6 = C.zero x.d
  · rw [if_neg (by simpa using h3)]; exact check_main x w hk hd g1 g2 h3 hp hp2 hda
  rw [if_pos h3]
  obtain ⟨y, hy⟩ : ∃ y, x.bareTo (hasN x.d) 6 = y := ⟨_, rfl⟩
  have hyd : y.d = x.d := by rw [← hy]; exact bareTo_d x _ 6
  rw [hy] at h3
  by_cases a0 : y.p = ⟨#[]⟩
  · by_cases a1 : y.p2 = ⟨#[]⟩
    · by_cases a2 : y.fd = 0
      · by_cases a3 : y.pg = 0
        · by_cases a4 : y.sz = 0
          · refine check_bare5 x y w hk hd g1 g2 hy hyd a0 a1 a2 a3 a4 (fun a5 => h3 ?_)
            obtain ⟨yd, yp, yp2, yfd, ypg, ysz, yda⟩ := y
            simp only at hyd a0 a1 a2 a3 a4 a5
            subst hyd a0 a1 a2 a3 a4 a5
            rfl
          · exact check_bare4 x y w hk hd g1 g2 hy hyd a0 a1 a2 a3 a4
        · exact check_bare3 x y w hk hd g1 g2 hy hyd a0 a1 a2 a3
      · exact check_bare2 x y w hk hd g1 g2 hy hyd a0 a1 a2
    · exact check_bare1 x y w hk hd g1 g2 hy hyd a0 a1
  · exact check_bare0 x y w hk hd g1 g2 hy hyd a0
end Go.Proofs.YtfdclifdemajfaaDoor.Call
