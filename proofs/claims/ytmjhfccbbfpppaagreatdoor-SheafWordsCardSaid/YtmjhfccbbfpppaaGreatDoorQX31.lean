import Derived.Test.YtmjhfccbbfpppaaGreatDoorQX10
import Derived.Test.YtmjhfccbbfpppaaGreatDoorQX14
import Derived.Test.YtmjhfccbbfpppaaGreatDoorQX21
import Derived.Test.YtmjhfccbbfpppaaGreatDoorQX23
import Derived.Test.YtmjhfccbbfpppaaGreatDoorQX28
import Derived.Test.YtmjhfccbbfpppaaGreatDoorQX29
namespace Go.Proofs.YtmjhfccbbfpppaaGreatDoor
open Go Pm
set_option linter.unusedSimpArgs false
set_option linter.unusedVariables false
set_option maxHeartbeats 4000000
set_option maxRecDepth 100000
open Go Pm
set_option maxHeartbeats 4000000
set_option maxRecDepth 100000
theorem e7h (a b:ByteArray):a1d [a,b]=a++(⟨#[32]⟩++b):=by
 refine b5r ?_
 rw [ByteArray.data_append,ByteArray.data_append,a1d,a7e]
 simp [List.intercalate]
theorem c9l:a1d []=⟨#[]⟩:=rfl
theorem b4n (x:ByteArray):a1d [x]=x:=by
 refine b5r ?_
 rw [a1d,a7e];simp [List.intercalate]
open Go Pm
set_option maxHeartbeats 4000000
set_option maxRecDepth 100000
open Go Pm
set_option maxHeartbeats 4000000
set_option maxRecDepth 100000
end Go.Proofs.YtmjhfccbbfpppaaGreatDoor
