import Derived.Test.YtmjhfccbbfpppaaGreatDoorQY09
import Derived.Test.YtmjhfccbbfpppaaGreatDoorQY11
namespace Go.Proofs.YtmjhfccbbfpppaaGreatDoor
open Go Pm
set_option linter.unusedSimpArgs false
set_option linter.unusedVariables false
set_option maxHeartbeats 4000000
set_option maxRecDepth 100000
def g5j (l:List (List ByteArray)):Prop:=l.length≤1000∧∀ r ∈ l,r.length≤1000∧∀ s ∈ r,s.size≤100000
def f2c (t:List Ch):Prop:=t.length≤1000∧∀ c ∈ t,g5j c.lines
end Go.Proofs.YtmjhfccbbfpppaaGreatDoor
