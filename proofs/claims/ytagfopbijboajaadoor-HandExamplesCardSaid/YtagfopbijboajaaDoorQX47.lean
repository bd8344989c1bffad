import Derived.Test.YtagfopbijboajaaDoorQX35
import Derived.Test.YtagfopbijboajaaDoorQX46
namespace Go.Proofs.YtagfopbijboajaaDoor
open Go Pm
set_option linter.unusedSimpArgs false
set_option linter.unusedVariables false
set_option maxHeartbeats 4000000
set_option maxRecDepth 100000
end Go.Proofs.YtagfopbijboajaaDoor
