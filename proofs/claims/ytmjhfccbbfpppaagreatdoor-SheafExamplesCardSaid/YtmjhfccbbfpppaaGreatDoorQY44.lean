import Derived.Test.YtmjhfccbbfpppaaGreatDoorQY38
import Derived.Test.YtmjhfccbbfpppaaGreatDoorQY40
import Derived.Test.YtmjhfccbbfpppaaGreatDoorQY42
namespace Go.Proofs.YtmjhfccbbfpppaaGreatDoor
open Go Pm
set_option linter.unusedSimpArgs false
set_option linter.unusedVariables false
set_option maxHeartbeats 4000000
set_option maxRecDepth 100000
def a7r (l:List ByteArray):List Si×Int:=if a1b l then (match a6o W0 l with
  |some s=>if s.1.all b7b then (s.1,0) else ([],31)
  |none=>([],111)) else ([],110)
theorem d1i (n:Nat) (k:Int):Pm.Sub (.tup [.v (.slice none 0 0),i64 k]) (.tup [sis n [],i64 k]):=Subs.tup (.cons (.nil _ _) (.cons (.refl _) .nil))
end Go.Proofs.YtmjhfccbbfpppaaGreatDoor
