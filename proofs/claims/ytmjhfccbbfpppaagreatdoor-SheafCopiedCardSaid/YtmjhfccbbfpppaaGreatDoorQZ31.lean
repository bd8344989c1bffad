import Derived.Test.YtmjhfccbbfpppaaGreatDoorQZ09
import Derived.Test.YtmjhfccbbfpppaaGreatDoorQZ13
import Derived.Test.YtmjhfccbbfpppaaGreatDoorQZ20
import Derived.Test.YtmjhfccbbfpppaaGreatDoorQZ27
import Derived.Test.YtmjhfccbbfpppaaGreatDoorQZ28
import Derived.Test.YtmjhfccbbfpppaaGreatDoorQZ30
namespace Go.Proofs.YtmjhfccbbfpppaaGreatDoor
open Go Pm
set_option linter.unusedSimpArgs false
set_option linter.unusedVariables false
set_option maxHeartbeats 4000000
set_option maxRecDepth 100000
open Go Pm
set_option maxHeartbeats 4000000
set_option maxRecDepth 100000
theorem e7y (a b:ByteArray):a0z [a,b]=a++(⟨#[32]⟩++b):=by
 refine b6d ?_
 rw [ByteArray.data_append,ByteArray.data_append,a0z,a6w]
 simp [List.intercalate]
theorem c9t:a0z []=⟨#[]⟩:=rfl
theorem b3m (x:ByteArray):a0z [x]=x:=by
 refine b6d ?_
 rw [a0z,a6w];simp [List.intercalate]
open Go Pm
set_option maxHeartbeats 4000000
set_option maxRecDepth 100000
open Go Pm
set_option maxHeartbeats 4000000
set_option maxRecDepth 100000
end Go.Proofs.YtmjhfccbbfpppaaGreatDoor
