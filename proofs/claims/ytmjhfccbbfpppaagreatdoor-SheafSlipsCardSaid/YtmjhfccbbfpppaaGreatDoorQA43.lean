import Derived.Test.YtmjhfccbbfpppaaGreatDoorQA37
import Derived.Test.YtmjhfccbbfpppaaGreatDoorQA41
import Derived.Test.YtmjhfccbbfpppaaGreatDoorQA42
namespace Go.Proofs.YtmjhfccbbfpppaaGreatDoor
open Go Pm
set_option linter.unusedSimpArgs false
set_option linter.unusedVariables false
set_option maxHeartbeats 4000000
set_option maxRecDepth 100000
def a6e (l:List ByteArray):List Si×Int:=if a1d l then (match a4i W0 l with
  |some s=>if s.1.all b1b then (s.1,0) else ([],31)
  |none=>([],111)) else ([],110)
theorem d1n (n:Nat) (k:Int):Pm.Sub (.tup [.v (.slice none 0 0),i64 k]) (.tup [sis n [],i64 k]):=Subs.tup (.cons (.nil _ _) (.cons (.refl _) .nil))
end Go.Proofs.YtmjhfccbbfpppaaGreatDoor
