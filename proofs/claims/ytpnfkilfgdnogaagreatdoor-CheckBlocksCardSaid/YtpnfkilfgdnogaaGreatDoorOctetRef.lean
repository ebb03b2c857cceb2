/- The walks of the reference's Bytes, Num and Get of layer 1. -/
import Derived.Test.YtpnfkilfgdnogaaGreatDoorOctet
namespace Go.Proofs.YtpnfkilfgdnogaaGreatDoor.Oct
open Go.RowKit
theorem run_one (W : World) (x : Int) (h0 : 0 ≤ x) (h1 : x < 256) : (convert 52 9 (.slice (some ⟨W.heap.size, 0, none⟩) 1 1)).run Tryz.prog (W.alloc (.cells #[.int .u8 x] 5)) =
    .ok (.string (B [UInt8.ofNat x.toNat])) (W.alloc (.cells #[.int .u8 x] 5)) := by
  have h := run_back (W.alloc (.cells #[.int .u8 x] 5)) W.heap.size 1 [UInt8.ofNat x.toNat] (fun _ => .int .u8 x) (World.rowIs_alloc W #[.int .u8 x] 5 _ (fun i hi => by
    have : i = 0 := by simp at hi; omega
    subst this; rfl)) (fun j hj => by
    have : j = 0 := by simp at hj; omega
    subst this
    simp only [List.getElem_cons_zero]
    rw [UInt8.toNat_ofNat', Nat.mod_eq_of_lt (by omega)]
    congr 1; omega)
  exact h
end Go.Proofs.YtpnfkilfgdnogaaGreatDoor.Oct
