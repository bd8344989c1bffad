import Derived.Test.YtmjhfccbbfpppaaGreatDoorQW37
import Derived.Test.YtmjhfccbbfpppaaGreatDoorQW39
import Derived.Test.YtmjhfccbbfpppaaGreatDoorQW41
namespace Go.Proofs.YtmjhfccbbfpppaaGreatDoor
open Go Pm
set_option linter.unusedSimpArgs false
set_option linter.unusedVariables false
set_option maxHeartbeats 4000000
set_option maxRecDepth 100000
def a5p (l:List ByteArray):List Si×Int:=if a0v l then (match a5f W0 l with
  |some s=>if s.1.all b5q then (s.1,0) else ([],31)
  |none=>([],111)) else ([],110)
theorem d1n (n:Nat) (k:Int):Pm.Sub (.tup [.v (.slice none 0 0),i64 k]) (.tup [sis n [],i64 k]):=Subs.tup (.cons (.nil _ _) (.cons (.refl _) .nil))
end Go.Proofs.YtmjhfccbbfpppaaGreatDoor
