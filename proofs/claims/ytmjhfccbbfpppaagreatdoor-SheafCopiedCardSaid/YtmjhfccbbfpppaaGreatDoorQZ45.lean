import Derived.Test.YtmjhfccbbfpppaaGreatDoorQZ44
namespace Go.Proofs.YtmjhfccbbfpppaaGreatDoor
open Go Pm Go.RowKit Go.Sort
set_option linter.unusedSimpArgs false
set_option linter.unusedVariables false
set_option maxHeartbeats 4000000
set_option maxRecDepth 100000
end Go.Proofs.YtmjhfccbbfpppaaGreatDoor
