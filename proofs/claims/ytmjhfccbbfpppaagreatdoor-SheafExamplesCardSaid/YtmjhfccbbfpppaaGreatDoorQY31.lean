import Derived.Test.YtmjhfccbbfpppaaGreatDoorQY10
import Derived.Test.YtmjhfccbbfpppaaGreatDoorQY14
import Derived.Test.YtmjhfccbbfpppaaGreatDoorQY20
import Derived.Test.YtmjhfccbbfpppaaGreatDoorQY23
import Derived.Test.YtmjhfccbbfpppaaGreatDoorQY28
import Derived.Test.YtmjhfccbbfpppaaGreatDoorQY29
namespace Go.Proofs.YtmjhfccbbfpppaaGreatDoor
open Go Pm
set_option linter.unusedSimpArgs false
set_option linter.unusedVariables false
set_option maxHeartbeats 4000000
set_option maxRecDepth 100000
open Go Pm
set_option maxHeartbeats 4000000
set_option maxRecDepth 100000
theorem e4q (a b:ByteArray):a1o [a,b]=a++(⟨#[32]⟩++b):=by
 refine d8v ?_
 rw [ByteArray.data_append,ByteArray.data_append,a1o,c0m]
 simp [List.intercalate]
theorem e9d (b:Nat) (l:List ByteArray) (h:∀ s ∈ l,s.size≤b):(a1o l).size≤(b+1) * l.length:=by
 rw [a8d];exact b1i b l h
open Go Pm
set_option maxHeartbeats 4000000
set_option maxRecDepth 100000
open Go Pm
set_option maxHeartbeats 4000000
set_option maxRecDepth 100000
end Go.Proofs.YtmjhfccbbfpppaaGreatDoor
