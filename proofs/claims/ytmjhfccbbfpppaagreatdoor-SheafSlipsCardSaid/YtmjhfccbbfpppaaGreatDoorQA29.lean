import Derived.Test.YtmjhfccbbfpppaaGreatDoorQA10
import Derived.Test.YtmjhfccbbfpppaaGreatDoorQA14
import Derived.Test.YtmjhfccbbfpppaaGreatDoorQA17
import Derived.Test.YtmjhfccbbfpppaaGreatDoorQA18
import Derived.Test.YtmjhfccbbfpppaaGreatDoorQA23
import Derived.Test.YtmjhfccbbfpppaaGreatDoorQA24
namespace Go.Proofs.YtmjhfccbbfpppaaGreatDoor
open Go Pm
set_option linter.unusedSimpArgs false
set_option linter.unusedVariables false
set_option maxHeartbeats 4000000
set_option maxRecDepth 100000
open Go Pm
set_option maxHeartbeats 4000000
set_option maxRecDepth 100000
theorem e7a (a b:ByteArray):a0w [a,b]=a++(⟨#[32]⟩++b):=by
 refine b9y ?_
 rw [ByteArray.data_append,ByteArray.data_append,a0w,a6k]
 simp [List.intercalate]
theorem join_nil:a0w []=⟨#[]⟩:=rfl
theorem b2a (x:ByteArray):a0w [x]=x:=by
 refine b9y ?_
 rw [a0w,a6k];simp [List.intercalate]
theorem f0f (b:Nat) (l:List ByteArray) (h:∀ s ∈ l,s.size≤b):(a0w l).size≤(b+1) * l.length:=by
 rw [a6o];exact a9n b l h
open Go Pm
set_option maxHeartbeats 4000000
set_option maxRecDepth 100000
open Go Pm
set_option maxHeartbeats 4000000
set_option maxRecDepth 100000
end Go.Proofs.YtmjhfccbbfpppaaGreatDoor
