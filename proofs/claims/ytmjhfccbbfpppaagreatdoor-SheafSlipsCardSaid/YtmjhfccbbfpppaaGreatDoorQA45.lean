import Derived.Test.YtmjhfccbbfpppaaGreatDoorQA17
import Derived.Test.YtmjhfccbbfpppaaGreatDoorQA24
import Derived.Test.YtmjhfccbbfpppaaGreatDoorQA40
import Derived.Test.YtmjhfccbbfpppaaGreatDoorQA41
import Derived.Test.YtmjhfccbbfpppaaGreatDoorQA44
namespace Go.Proofs.YtmjhfccbbfpppaaGreatDoor
open Go Pm
set_option linter.unusedSimpArgs false
set_option linter.unusedVariables false
set_option maxHeartbeats 4000000
set_option maxRecDepth 100000
open Go Pm
set_option maxHeartbeats 4000000
set_option maxRecDepth 100000
open Go Pm
set_option maxHeartbeats 4000000
set_option maxRecDepth 100000
open Go Pm Go.RowKit Go.Sort
set_option maxHeartbeats 4000000
set_option maxRecDepth 100000
open Go Pm Go.RowKit Go.Sort
set_option maxHeartbeats 4000000
set_option maxRecDepth 100000
open Go Pm Go.RowKit Go.Sort
set_option maxHeartbeats 4000000
set_option maxRecDepth 100000
end Go.Proofs.YtmjhfccbbfpppaaGreatDoor
