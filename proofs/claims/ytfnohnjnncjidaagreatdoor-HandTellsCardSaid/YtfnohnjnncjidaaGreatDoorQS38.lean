import Derived.Test.YtfnohnjnncjidaaGreatDoorQS15
import Derived.Test.YtfnohnjnncjidaaGreatDoorQS34
namespace Go.Proofs.YtfnohnjnncjidaaGreatDoor
open Go Pm
set_option linter.unusedSimpArgs false
set_option linter.unusedVariables false
set_option maxHeartbeats 4000000
set_option maxRecDepth 100000
def chSl (c : Cu) (k : Nat) (ls : List (List ByteArray)) (n : Nat) : List Sl := (List.range n).map (slOf c k ls)
def allSl (c : Cu) (t : List Ch) : Nat → List Sl
  | 0 => []
  | k + 1 => allSl c t k ++ match t[k]? with
    | some ch => chSl c k ch.lines ch.lines.flatten.length
    | none => []
theorem allSl_succ (c : Cu) (t : List Ch) (k : Nat) (hk : k < t.length) : allSl c t (k + 1) = allSl c t k ++ chSl c k t[k].lines t[k].lines.flatten.length := by simp [allSl, hk]
end Go.Proofs.YtfnohnjnncjidaaGreatDoor
