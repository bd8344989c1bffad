import Derived.Test.YtmjhfccbbfpppaaGreatDoorRows
import Derived.Test.YtmjhfccbbfpppaaGreatDoorQY09
import Derived.Test.YtmjhfccbbfpppaaGreatDoorQY20
namespace Go.Proofs.YtmjhfccbbfpppaaGreatDoor
open Go Pm
set_option linter.unusedSimpArgs false
set_option linter.unusedVariables false
theorem e8f:ownKnob Tryz.prog.godebug=none:=by kernel_rfl
theorem e5v:laidOutB Tryz.prog=true:=by kernel_rfl
end Go.Proofs.YtmjhfccbbfpppaaGreatDoor
