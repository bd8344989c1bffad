import Derived.Test.YtppcbmpiphhphaaGreatDoorQU29
import Derived.Test.YtppcbmpiphhphaaGreatDoorQU38
namespace Go.Proofs.YtppcbmpiphhphaaGreatDoor
open Go Pm
set_option linter.unusedSimpArgs false
set_option linter.unusedVariables false
set_option maxHeartbeats 4000000
set_option maxRecDepth 100000
def kdN (s : ByteArray) : Nat := if s = omitS then 1 else if s = putS then 2 else if s = otherS then 3 else 0
def stepC (s : Option Cp) (name : ByteArray) (rest : List ByteArray) : Option (Cp × List ByteArray) := match s with
  | none => if name = copyS then match rest with
      | x :: r => (valueS x).map fun v => (⟨v, []⟩, r)
      | [] => none
    else none
  | some c => if name = copyS then none else if kdN name = 0 then none else if placeB rest then
      (if kdN name = 1 then some (⟨c.id, c.rds ++ [⟨nvS rest 0, nvS rest 1, nvS rest 2, 1, ⟨#[]⟩⟩]⟩, rest.drop 3) else match rest.drop 3 with
        | w :: r => if wordB w then some (⟨c.id, c.rds ++ [⟨nvS rest 0, nvS rest 1, nvS rest 2, UInt8.ofNat (kdN name), w⟩]⟩, r) else none
        | [] => none)
      else none
def stepG (s : Option Cp) (x : ByteArray) : Option Cp := match partsS x with
  | [] => none
  | name :: rest => match stepC s name rest with
    | some (c, []) => some c
    | _ => none
open Go Pm
set_option maxHeartbeats 4000000
set_option maxRecDepth 100000
open Go Pm
set_option maxHeartbeats 4000000
set_option maxRecDepth 100000
open Go Pm
set_option maxHeartbeats 4000000
set_option maxRecDepth 100000
open Go Pm Go.RowKit Go.Sort
set_option maxHeartbeats 4000000
set_option maxRecDepth 100000
end Go.Proofs.YtppcbmpiphhphaaGreatDoor
