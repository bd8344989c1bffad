import Derived.Test.YtmjhfccbbfpppaaGreatDoorQZ20
import Derived.Test.YtmjhfccbbfpppaaGreatDoorQZ30
import Derived.Test.YtmjhfccbbfpppaaGreatDoorQZ42
import Derived.Test.YtmjhfccbbfpppaaGreatDoorQZ43
import Derived.Test.YtmjhfccbbfpppaaGreatDoorQZ45
namespace Go.Proofs.YtmjhfccbbfpppaaGreatDoor
open Go Pm
set_option linter.unusedSimpArgs false
set_option linter.unusedVariables false
set_option maxHeartbeats 4000000
set_option maxRecDepth 100000
open Go Pm
set_option maxHeartbeats 4000000
set_option maxRecDepth 100000
open Go Pm
set_option maxHeartbeats 4000000
set_option maxRecDepth 100000
open Go Pm Go.RowKit Go.Sort
set_option maxHeartbeats 4000000
set_option maxRecDepth 100000
open Go Pm Go.RowKit Go.Sort
set_option maxHeartbeats 4000000
set_option maxRecDepth 100000
open Go Pm Go.RowKit Go.Sort
set_option maxHeartbeats 4000000
set_option maxRecDepth 100000
end Go.Proofs.YtmjhfccbbfpppaaGreatDoor
