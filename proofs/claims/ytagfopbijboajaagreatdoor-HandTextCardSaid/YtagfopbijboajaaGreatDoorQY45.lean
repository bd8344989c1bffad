import Derived.Test.YtagfopbijboajaaGreatDoorTie
import Derived.Test.YtagfopbijboajaaGreatDoorCards
import Derived.SevenTiedAt
import Derived.LaidOnce
import Derived.Test.YtagfopbijboajaaGreatDoorQY12
import Derived.Test.YtagfopbijboajaaGreatDoorQY23
import Derived.Test.YtagfopbijboajaaGreatDoorQY24
import Derived.Test.YtagfopbijboajaaGreatDoorQY44
namespace Go.Proofs.YtagfopbijboajaaGreatDoor
open Go Pm Go.RowKit Go.ChangeShapes Go.WideShapes Go.ChangeAt
set_option linter.unusedSimpArgs false
set_option linter.unusedVariables false
set_option maxRecDepth 100000
theorem door_met (os : Os) (args : Array Value) : laidMetH Tryz.prog laidAll ((World.doorLaid Tryz.prog 25 os).forCall (fun _ _ => 0) ⟨#[], args, []⟩).memory :=
  laidMetH_of_parts3 (fuel := 8) (laidMet_of_run' 8 (by kernel_rfl) (by kernel_rfl)) (by kernel_rfl) (by kernel_rfl)
theorem doorLaid_os (P : Program) (n : Nat) (os : Os) : (World.doorLaid P n os).os = os := rfl
theorem door_os (os : Os) : (World.doorLaid Tryz.prog 25 os).os = os := doorLaid_os _ _ _
theorem door_shaped (os : Os) (args : Array Value) : ((World.doorLaid Tryz.prog 25 os).forCall (fun _ _ => 0) ⟨#[], args, []⟩).Shaped Tryz.prog := World.shaped_of_RefB (by kernel_rfl) (by kernel_rfl)
def zeroRo : Value := .agg #[.slice none 0 0, .slice none 0 0, .slice none 0 0, .slice none 0 0]
theorem rdv_round : RdV Tryz.prog 29 (roE 0) okRo := .struct Tryz.underlying29 rd_round
end Go.Proofs.YtagfopbijboajaaGreatDoor
