import Derived.Test.YtmjhfccbbfpppaaGreatDoorQA26
namespace Go.Proofs.YtmjhfccbbfpppaaGreatDoor
open Go Pm
set_option linter.unusedSimpArgs false
set_option linter.unusedVariables false
set_option maxHeartbeats 4000000
set_option maxRecDepth 100000
instance:DecidableEq Ch:=fun a b=>by cases a;cases b;simp only [Ch.mk.injEq];infer_instance
instance:DecidableEq Hp:=fun a b=>by cases a;cases b;simp only [Hp.mk.injEq];infer_instance
instance:DecidableEq Sr:=fun a b=>by cases a;cases b;simp only [Sr.mk.injEq];infer_instance
instance:DecidableEq Se:=fun a b=>by cases a;cases b;simp only [Se.mk.injEq];infer_instance
instance:DecidableEq Ro:=fun a b=>by cases a;cases b;simp only [Ro.mk.injEq];infer_instance
open Go Pm
set_option maxHeartbeats 4000000
set_option maxRecDepth 100000
end Go.Proofs.YtmjhfccbbfpppaaGreatDoor
