import Derived.Test.YtppcbmpiphhphaaGreatDoorQU10
namespace Go.Proofs.YtppcbmpiphhphaaGreatDoor
open Go Pm
set_option linter.unusedSimpArgs false
set_option linter.unusedVariables false
def genL : List ByteArray → List Hk → List (List ByteArray)
  | cur, [] => [cur]
  | cur, c :: r => cur :: genL (madeL cur c) r
def genB : List ByteArray → List Hk → Bool
  | _, [] => true
  | cur, c :: r => (madeB cur c && rowsB (madeL cur c)) && genB (madeL cur c) r
def gb (s : Sh) : Bool := (decide (s.chg.length ≤ 11) && rowsB s.first) && genB s.first s.chg
def gl (s : Sh) : List (List ByteArray) := if gb s = true then genL s.first s.chg else []
end Go.Proofs.YtppcbmpiphhphaaGreatDoor
