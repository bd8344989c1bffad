import Derived.Test.YtfnohnjnncjidaaGreatDoorTie
import Derived.Test.YtfnohnjnncjidaaGreatDoorCards
import Derived.SevenTiedAt
import Derived.LaidOnce
import Derived.Test.YtfnohnjnncjidaaGreatDoorQP12
import Derived.Test.YtfnohnjnncjidaaGreatDoorQP21
import Derived.Test.YtfnohnjnncjidaaGreatDoorQP26
import Derived.Test.YtfnohnjnncjidaaGreatDoorQP47
namespace Go.Proofs.YtfnohnjnncjidaaGreatDoor
open Go Pm Go.RowKit Go.ChangeShapes Go.WideShapes Go.ChangeAt
set_option linter.unusedSimpArgs false
set_option linter.unusedVariables false
set_option maxRecDepth 100000
theorem rd_u8 : Rd Tryz.prog 5 (fun n : Nat => [.v (.int .u8 n)]) (fun n => n < 256) :=
  (Rd.int Tryz.underlying5).map fun n h => by
    have : 0 ≤ n ∧ n ≤ 255 := by simpa [Lit.wf, IntKind.min, IntKind.max, IntKind.signed, IntKind.bits] using h
    exact ⟨n.toNat, by omega, by rw [Int.toNat_of_nonneg this.1]⟩
theorem rd_u16 : Rd Tryz.prog 100 (fun n : Nat => [.v (.int .u16 n)]) (fun n => n < 65536) :=
  (Rd.int Tryz.underlying100).map fun n h => by
    have : 0 ≤ n ∧ n ≤ 65535 := by simpa [Lit.wf, IntKind.min, IntKind.max, IntKind.signed, IntKind.bits] using h
    exact ⟨n.toNat, by omega, by rw [Int.toNat_of_nonneg this.1]⟩
theorem rd_u32 : Rd Tryz.prog 152 u32E (fun n => 0 ≤ n ∧ n < 4294967296) :=
  (Rd.int Tryz.underlying152).map fun n h => by
    have : 0 ≤ n ∧ n ≤ 4294967295 := by simpa [Lit.wf, IntKind.min, IntKind.max, IntKind.signed, IntKind.bits] using h
    exact ⟨n, by omega, rfl⟩
theorem rd_u32s : Rd Tryz.prog 55 (fun l => [u32s 0 l]) OKu :=
  (Rd.slice (sz := 1) Tryz.underlying55 (by kernel_rfl) (by decide) (by kernel_rfl) (fun _ => rfl) rd_u32).map fun l h => ⟨l, h.2, rfl⟩
theorem door_met (os : Os) (args : Array Value) : laidMetH Tryz.prog laidAll ((World.doorLaid Tryz.prog 25 os).forCall (fun _ _ => 0) ⟨#[], args, []⟩).memory :=
  laidMetH_of_parts3 (fuel := 8) (laidMet_of_run' 8 (by kernel_rfl) (by kernel_rfl)) (by kernel_rfl) (by kernel_rfl)
theorem doorLaid_os (P : Program) (n : Nat) (os : Os) : (World.doorLaid P n os).os = os := rfl
theorem door_os (os : Os) : (World.doorLaid Tryz.prog 25 os).os = os := doorLaid_os _ _ _
theorem door_shaped (os : Os) (args : Array Value) : ((World.doorLaid Tryz.prog 25 os).forCall (fun _ _ => 0) ⟨#[], args, []⟩).Shaped Tryz.prog := World.shaped_of_RefB (by kernel_rfl) (by kernel_rfl)
def zeroRo : Value := .agg #[.slice none 0 0, .slice none 0 0, .slice none 0 0, .slice none 0 0]
theorem rdv_round : RdV Tryz.prog 29 (roE 0) okRo := .struct Tryz.underlying29 rd_round
theorem rdv_u8 : RdV Tryz.prog 5 (fun n : Nat => .v (.int .u8 n)) (fun n => n < 256) := .one (cells_int Tryz.underlying5) rd_u8
theorem rdv_u16 : RdV Tryz.prog 100 (fun n : Nat => .v (.int .u16 n)) (fun n => n < 65536) := .one (cells_int Tryz.underlying100) rd_u16
theorem rdv_u32s : RdV Tryz.prog 55 (fun l => u32s 0 l) OKu := .one (cells_slice Tryz.underlying55) rd_u32s
end Go.Proofs.YtfnohnjnncjidaaGreatDoor
