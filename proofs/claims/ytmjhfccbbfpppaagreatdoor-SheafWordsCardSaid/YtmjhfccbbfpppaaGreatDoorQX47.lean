import Derived.Test.YtmjhfccbbfpppaaGreatDoorQX21
import Derived.Test.YtmjhfccbbfpppaaGreatDoorQX29
import Derived.Test.YtmjhfccbbfpppaaGreatDoorQX41
import Derived.Test.YtmjhfccbbfpppaaGreatDoorQX44
import Derived.Test.YtmjhfccbbfpppaaGreatDoorQX46
namespace Go.Proofs.YtmjhfccbbfpppaaGreatDoor
open Go Pm
set_option linter.unusedSimpArgs false
set_option linter.unusedVariables false
set_option maxHeartbeats 4000000
set_option maxRecDepth 100000
open Go Pm
set_option maxHeartbeats 4000000
set_option maxRecDepth 100000
open Go Pm
set_option maxHeartbeats 4000000
set_option maxRecDepth 100000
open Go Pm Go.RowKit Go.Sort
set_option maxHeartbeats 4000000
set_option maxRecDepth 100000
open Go Pm Go.RowKit Go.Sort
set_option maxHeartbeats 4000000
set_option maxRecDepth 100000
open Go Pm Go.RowKit Go.Sort
set_option maxHeartbeats 4000000
set_option maxRecDepth 100000
end Go.Proofs.YtmjhfccbbfpppaaGreatDoor
