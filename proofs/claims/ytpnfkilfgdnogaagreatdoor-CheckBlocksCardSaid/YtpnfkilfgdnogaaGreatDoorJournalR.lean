/- Layer 4 (journal): the header of a disk of noughts is none. -/
import Derived.Test.YtpnfkilfgdnogaaGreatDoorJournal0
import Derived.Test.YtpnfkilfgdnogaaGreatDoorCrcM
import Derived.Test.YtpnfkilfgdnogaaGreatDoorGeoM
namespace Go.Proofs.YtpnfkilfgdnogaaGreatDoor.Jou
set_option linter.unusedVariables false
set_option linter.unusedSimpArgs false
open Go.RowKit Go.Shelf Oct
def zS : ByteArray := B (List.replicate 64 0)
theorem ext_zero (n a b : Nat) (hb : b ≤ n) : (B (List.replicate n 0)).extract a b = B (List.replicate (b - a) 0) := by
  rw [Geo.ext_B, L_B, List.drop_replicate, List.take_replicate]
  congr 2
  omega
set_option maxRecDepth 100000 in
theorem read_zero (w : World) : Calls Tryz.prog 151 #[.string zS] w fun e w' => e = .returned (.tuple #[.int .u64 0, .int .i64 0]) ∧ Below w.heap.size w w' := by
  have x0 : zS.extract 0 18 = B (List.replicate 18 0) := ext_zero 64 0 18 (by omega)
  have hz : zS.size = 64 := by unfold zS; rw [size_B]; simp
  have hz18 : (B (List.replicate 18 0)).size = 18 := by rw [size_B]; simp
  have OP := Lib.hid (fun W => Crc.open_any (B (List.replicate 18 0)) W (by omega) (by omega))
  rw [L_B] at OP
  have x1 : (B (List.replicate 14 0)).extract 0 4 = B (List.replicate 4 0) := ext_zero 14 0 4 (by omega)
  have hz14 : (B (List.replicate 14 0)).size = 14 := by rw [size_B]; simp
  have u1 : ((B (List.replicate 4 0)).toList != (⟨#[108, 117, 110, 106]⟩ : ByteArray).toList) = true := by
    rw [ByteArray.toList_eq, ByteArray.toList_eq]
    decide
  have u2 : ((B (List.replicate 4 0)).toList == (⟨#[108, 117, 110, 106]⟩ : ByteArray).toList) = false := by
    rw [ByteArray.toList_eq, ByteArray.toList_eq]
    decide
  have u3 : decide ((B (List.replicate 4 0)).toList = (⟨#[108, 117, 110, 106]⟩ : ByteArray).toList) = false := by
    rw [ByteArray.toList_eq, ByteArray.toList_eq]
    decide
  have u4 : ((B (List.replicate 4 0)).toList == [108, 117, 110, 106]) = false := by
    rw [ByteArray.toList_eq]
    decide
  have u5 : ((B (List.replicate 4 0)).toList != [108, 117, 110, 106]) = true := by
    rw [ByteArray.toList_eq]
    decide
  unfold Crc.openL at OP
  rw [show (List.replicate 18 (0 : UInt8)).take ((List.replicate 18 (0 : UInt8)).length - 4) = List.replicate 14 0 from rfl] at OP
  by_cases hq : Crc.sealL (List.replicate 14 0) = List.replicate 18 0
  · rw [if_pos hq] at OP
    simp only at OP
    clear hq
    generalize B (List.replicate 18 0) = s18 at *
    generalize B (List.replicate 14 0) = s14 at *
    generalize B (List.replicate 4 0) = s4 at *
    generalize zS = zs at *
    go_enter Tryz.func151, Tryz.ntmps151
    go_wp2_with fail
    refine (OP.out _).mono ?_
    rintro e w1 ⟨rfl, b1⟩
    go_wp2
    go_ret2
    exact ⟨rfl, b1⟩
  · rw [if_neg hq] at OP
    simp only at OP
    clear hq
    generalize B (List.replicate 18 0) = s18 at *
    generalize zS = zs at *
    go_enter Tryz.func151, Tryz.ntmps151
    go_wp2_with fail
    refine (OP.out _).mono ?_
    rintro e w1 ⟨rfl, b1⟩
    go_wp2
    go_ret2
    exact ⟨rfl, b1⟩
end Go.Proofs.YtpnfkilfgdnogaaGreatDoor.Jou
