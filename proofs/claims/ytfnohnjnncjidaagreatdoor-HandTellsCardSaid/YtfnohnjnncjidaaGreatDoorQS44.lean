import Derived.Test.YtfnohnjnncjidaaGreatDoorTie
import Derived.Test.YtfnohnjnncjidaaGreatDoorCards
import Derived.SevenTiedAt
import Derived.LaidOnce
import Derived.Test.YtfnohnjnncjidaaGreatDoorQS27
import Derived.Test.YtfnohnjnncjidaaGreatDoorQS29
import Derived.Test.YtfnohnjnncjidaaGreatDoorQS30
import Derived.Test.YtfnohnjnncjidaaGreatDoorQS40
namespace Go.Proofs.YtfnohnjnncjidaaGreatDoor
open Go Pm Go.RowKit Go.ChangeShapes Go.WideShapes Go.ChangeAt
set_option linter.unusedSimpArgs false
set_option linter.unusedVariables false
set_option maxRecDepth 100000
theorem rd_u8 : Rd Tryz.prog 5 (fun n : Nat => [.v (.int .u8 n)]) (fun n => n < 256) :=
  (Rd.int Tryz.underlying5).map fun n h => by
    have : 0 ≤ n ∧ n ≤ 255 := by simpa [Lit.wf, IntKind.min, IntKind.max, IntKind.signed, IntKind.bits] using h
    exact ⟨n.toNat, by omega, by rw [Int.toNat_of_nonneg this.1]⟩
theorem rd_cut : Rd Tryz.prog 31 cuC (fun c => 0 ≤ c.s ∧ c.s ≤ 255) :=
  (Rd.struct Tryz.underlying31 (by kernel_rfl) (by kernel_rfl) (.cons rd_int (.cons rd_u8 .nil))).map fun ⟨a, b, _⟩ ⟨h1, h2, _⟩ => ⟨⟨a, b⟩, ⟨Int.natCast_nonneg b, by have h3 : b < 256 := h2; show (b : Int) ≤ 255; omega⟩, rfl⟩
theorem door_met (os : Os) (args : Array Value) : laidMetH Tryz.prog laidAll ((World.doorLaid Tryz.prog 25 os).forCall (fun _ _ => 0) ⟨#[], args, []⟩).memory :=
  laidMetH_of_parts3 (fuel := 8) (laidMet_of_run' 8 (by kernel_rfl) (by kernel_rfl)) (by kernel_rfl) (by kernel_rfl)
theorem doorLaid_os (P : Program) (n : Nat) (os : Os) : (World.doorLaid P n os).os = os := rfl
theorem door_os (os : Os) : (World.doorLaid Tryz.prog 25 os).os = os := doorLaid_os _ _ _
theorem door_shaped (os : Os) (args : Array Value) : ((World.doorLaid Tryz.prog 25 os).forCall (fun _ _ => 0) ⟨#[], args, []⟩).Shaped Tryz.prog := World.shaped_of_RefB (by kernel_rfl) (by kernel_rfl)
def zeroRo : Value := .agg #[.slice none 0 0, .slice none 0 0, .slice none 0 0, .slice none 0 0]
theorem rdv_round : RdV Tryz.prog 29 (roE 0) okRo := .struct Tryz.underlying29 rd_round
theorem rdv_cut : RdV Tryz.prog 31 (fun c => .agg (cuC c)) (fun c => 0 ≤ c.s ∧ c.s ≤ 255) := .struct Tryz.underlying31 rd_cut
end Go.Proofs.YtfnohnjnncjidaaGreatDoor
