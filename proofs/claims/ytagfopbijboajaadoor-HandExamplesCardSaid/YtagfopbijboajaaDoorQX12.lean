import Derived.Test.YtagfopbijboajaaDoorRows
import Derived.Test.YtagfopbijboajaaDoorQX10
import Derived.Test.YtagfopbijboajaaDoorQX11
namespace Go.Proofs.YtagfopbijboajaaDoor
open Go Pm
set_option linter.unusedSimpArgs false
set_option linter.unusedVariables false
theorem own_knob : ownKnob Tryd.prog.godebug = none := by kernel_rfl
theorem laid_out : laidOutB Tryd.prog = true := by kernel_rfl
end Go.Proofs.YtagfopbijboajaaDoor
