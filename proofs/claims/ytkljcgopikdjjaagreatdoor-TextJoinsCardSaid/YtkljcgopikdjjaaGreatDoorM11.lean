/- Layer 36 (script): which steps may be. -/
import Derived.Test.YtkljcgopikdjjaaGreatDoorM09
set_option linter.unusedVariables false
set_option linter.unusedSimpArgs false
set_option maxRecDepth 100000
section
namespace Go.Proofs.YtkljcgopikdjjaaGreatDoor.Tx
set_option maxRecDepth 100000
set_option maxHeartbeats 1000000
open Go.RowKit Go.Shelf Go.Maps Oct
def MayP (x : M) : Prop := MayG (hasK x.k) (mostK x.k) (decide (x.k < 7)) x
open Classical in
noncomputable def mayM (x : M) : Bool := decide (MayP x)
theorem mayM_iff (x : M) : mayM x = true ↔ MayP x := by unfold mayM; simp
theorem kindF_get (k : Nat) : (kindF k).getD (kv 0 0 .nilFunc) = kv (hasK k) (mostK k) (if k < 7 then fnK k else .nilFunc) ∧ (kindF k).isSome = decide (k < 7) := by
 by_cases h : k < 7
 · rw [kind_at k h, if_pos h]
   simp [h]
 · rw [kind_no k h, if_neg h]
   match k, h with
   | k + 7, _ => simp [hasK, mostK]
theorem check_any (x : M) (w : World) (hl : Lay w) (hx : x.k < 256) (hd : x.d < 256) (hsz : x.size ≤ 100000) :
   Calls Tryz.prog 32 #[x.val] w fun e w' => e = .returned (.int .i64 (if mayM x = true then 0 else 2)) ∧ Below w.heap.size w w' := by
 have hg := kindF_get x.k
 have hfv : (#[Value.int .i64 (hasK x.k), .int .i64 (mostK x.k), (if x.k < 7 then fnK x.k else .nilFunc)].all (·.oneCell')) = true := by
   by_cases h : x.k < 7
   · rw [if_pos h]
     generalize x.k = k at *
     match k, h with
     | 0, _ | 1, _ | 2, _ | 3, _ | 4, _ | 5, _ | 6, _ => simp [fnK, Value.oneCell']
   · rw [if_neg h]; simp [Value.oneCell']
 refine (check_main x (hasK x.k) (mostK x.k) (if x.k < 7 then fnK x.k else .nilFunc) (decide (x.k < 7)) w hl hx hd hsz hfv (fun W m hv => ?_)).mono ?_
 · rw [kind_look x.k hx hv, hg.1, hg.2]
 · rintro e w' ⟨r, rfl, hr, hb⟩
   refine ⟨?_, hb⟩
   rcases hr with ⟨rfl, hm⟩ | ⟨rfl, hm⟩
   · rw [if_pos ((mayM_iff x).mpr hm)]
   · rw [if_neg (fun h => hm ((mayM_iff x).mp h))]
theorem hasB_bits : ∀ k, k < 7 → bitB (hasK k) 8 = decide (k = 0) := by decide
theorem checkE_d (c : Call.C) (h : c.checkE = 0) : c.d ≤ 15 := by
 unfold Call.C.checkE at h
 split at h
 · cases h
 · split at h
   · cases h
   · omega
theorem may_good (x : M) (hx : x.In) (h : mayM x = true) : x.Good := by
 have hm := (mayM_iff x).mp h;have hk : x.k < 7 := by simpa using hm.known
 refine ⟨hx, hk, ?_⟩;have e := hasB_bits x.k hk
 by_cases h0 : x.k = 0
 · have := checkE_d x.c (hm.ck (by rw [e]; simp [h0]))
   exact this
 · have hb := hm.b8
   rw [e] at hb;simp only [h0, decide_false, Bool.false_or, decide_eq_true_eq] at hb;have : x.d = 0 := congrArg Call.C.d hb;omega
end Go.Proofs.YtkljcgopikdjjaaGreatDoor.Tx
end
