import Derived.Test.YtmjhfccbbfpppaaGreatDoorQA24
import Derived.Test.YtmjhfccbbfpppaaGreatDoorQA36
namespace Go.Proofs.YtmjhfccbbfpppaaGreatDoor
open Go Pm
set_option linter.unusedSimpArgs false
set_option linter.unusedVariables false
set_option maxHeartbeats 4000000
set_option maxRecDepth 100000
def kdN (s:ByteArray):Nat:=if s=b7t then 1 else if s=e4x then 2 else if s=b0r then 3 else 0
def g4e (s:Option Cp) (name:ByteArray) (rest:List ByteArray):Option (Cp×List ByteArray):=match s with
 |none=>if name=b3k then match rest with
   |x::r=>(a5j x).map fun v=>(⟨v,[]⟩,r)
   |[]=>none
  else none
 |some c=>if name=b3k then none else if kdN name=0 then none else if a4d rest then
   (if kdN name=1 then some (⟨c.id,c.rds++[⟨nvS rest 0,nvS rest 1,nvS rest 2,1,⟨#[]⟩⟩]⟩,rest.drop 3) else match rest.drop 3 with
    |w::r=>if a1b w then some (⟨c.id,c.rds++[⟨nvS rest 0,nvS rest 1,nvS rest 2,UInt8.ofNat (kdN name),w⟩]⟩,r) else none
    |[]=>none)
   else none
def stepG (s:Option Cp) (x:ByteArray):Option Cp:=match a1l x with
 |[]=>none
 |name::rest=>match g4e s name rest with
  |some (c,[])=>some c
  |_=>none
open Go Pm
set_option maxHeartbeats 4000000
set_option maxRecDepth 100000
open Go Pm
set_option maxHeartbeats 4000000
set_option maxRecDepth 100000
open Go Pm
set_option maxHeartbeats 4000000
set_option maxRecDepth 100000
open Go Pm Go.RowKit Go.Sort
set_option maxHeartbeats 4000000
set_option maxRecDepth 100000
end Go.Proofs.YtmjhfccbbfpppaaGreatDoor
