import Derived.Test.YtmjhfccbbfpppaaGreatDoorQA23
import Derived.Test.YtmjhfccbbfpppaaGreatDoorQA28
import Derived.Test.YtmjhfccbbfpppaaGreatDoorQA31
namespace Go.Proofs.YtmjhfccbbfpppaaGreatDoor
open Go Pm
set_option linter.unusedSimpArgs false
set_option linter.unusedVariables false
set_option maxHeartbeats 4000000
set_option maxRecDepth 100000
instance:DecidableEq Rd:=fun a b=>by cases a;cases b;simp only [Rd.mk.injEq];infer_instance
instance:DecidableEq Cp:=fun a b=>by cases a;cases b;simp only [Cp.mk.injEq];infer_instance
open Go Pm
set_option maxHeartbeats 4000000
set_option maxRecDepth 100000
open Go Pm
set_option maxHeartbeats 4000000
set_option maxRecDepth 100000
open Go Pm
set_option maxHeartbeats 4000000
set_option maxRecDepth 100000
end Go.Proofs.YtmjhfccbbfpppaaGreatDoor
