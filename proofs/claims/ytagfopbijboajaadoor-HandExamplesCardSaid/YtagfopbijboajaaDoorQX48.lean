import Derived.Test.YtagfopbijboajaaDoorTie
import Derived.Test.YtagfopbijboajaaDoorCards
import Derived.SevenTiedAt
import Derived.LaidOnce
import Derived.Test.YtagfopbijboajaaDoorQX12
import Derived.Test.YtagfopbijboajaaDoorQX23
import Derived.Test.YtagfopbijboajaaDoorQX27
import Derived.Test.YtagfopbijboajaaDoorQX47
namespace Go.Proofs.YtagfopbijboajaaDoor
open Go Pm Go.RowKit Go.ChangeShapes Go.WideShapes Go.ChangeAt
set_option linter.unusedSimpArgs false
set_option linter.unusedVariables false
set_option maxRecDepth 100000
theorem door_met (os : Os) (args : Array Value) : laidMetH Tryd.prog laidAll ((World.doorLaid Tryd.prog 25 os).forCall (fun _ _ => 0) ⟨#[], args, []⟩).memory :=
  laidMetH_of_parts3 (fuel := 8) (laidMet_of_run' 8 (by kernel_rfl) (by kernel_rfl)) (by kernel_rfl) (by kernel_rfl)
theorem doorLaid_os (P : Program) (n : Nat) (os : Os) : (World.doorLaid P n os).os = os := rfl
theorem door_os (os : Os) : (World.doorLaid Tryd.prog 25 os).os = os := doorLaid_os _ _ _
theorem door_shaped (os : Os) (args : Array Value) : ((World.doorLaid Tryd.prog 25 os).forCall (fun _ _ => 0) ⟨#[], args, []⟩).Shaped Tryd.prog := World.shaped_of_RefB (by kernel_rfl) (by kernel_rfl)
end Go.Proofs.YtagfopbijboajaaDoor
