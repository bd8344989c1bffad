import Derived.Test.YtmjhfccbbfpppaaGreatDoorQW09
import Derived.Test.YtmjhfccbbfpppaaGreatDoorQW13
import Derived.Test.YtmjhfccbbfpppaaGreatDoorQW19
import Derived.Test.YtmjhfccbbfpppaaGreatDoorQW22
import Derived.Test.YtmjhfccbbfpppaaGreatDoorQW27
import Derived.Test.YtmjhfccbbfpppaaGreatDoorQW28
namespace Go.Proofs.YtmjhfccbbfpppaaGreatDoor
open Go Pm
set_option linter.unusedSimpArgs false
set_option linter.unusedVariables false
set_option maxHeartbeats 4000000
set_option maxRecDepth 100000
open Go Pm
set_option maxHeartbeats 4000000
set_option maxRecDepth 100000
theorem e6x (a b:ByteArray):a1b [a,b]=a++(⟨#[32]⟩++b):=by
 refine c7l ?_
 rw [ByteArray.data_append,ByteArray.data_append,a1b,b0d]
 simp [List.intercalate]
theorem e9h:a1b []=⟨#[]⟩:=rfl
theorem d1y (x:ByteArray):a1b [x]=x:=by
 refine c7l ?_
 rw [a1b,b0d];simp [List.intercalate]
theorem f0s (b:Nat) (l:List ByteArray) (h:∀ s ∈ l,s.size≤b):(a1b l).size≤(b+1) * l.length:=by
 rw [a8q];exact b2n b l h
open Go Pm
set_option maxHeartbeats 4000000
set_option maxRecDepth 100000
open Go Pm
set_option maxHeartbeats 4000000
set_option maxRecDepth 100000
end Go.Proofs.YtmjhfccbbfpppaaGreatDoor
