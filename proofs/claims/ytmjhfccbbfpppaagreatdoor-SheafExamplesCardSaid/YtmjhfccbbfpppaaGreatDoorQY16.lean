import Derived.Test.YtmjhfccbbfpppaaGreatDoorQY09
namespace Go.Proofs.YtmjhfccbbfpppaaGreatDoor
open Go Pm
set_option linter.unusedSimpArgs false
set_option linter.unusedVariables false
end Go.Proofs.YtmjhfccbbfpppaaGreatDoor
