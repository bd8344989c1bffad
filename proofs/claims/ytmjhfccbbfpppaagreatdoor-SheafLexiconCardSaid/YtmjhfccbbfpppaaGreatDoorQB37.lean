import Derived.Test.YtmjhfccbbfpppaaGreatDoorQB25
import Derived.Test.YtmjhfccbbfpppaaGreatDoorQB27
import Derived.Test.YtmjhfccbbfpppaaGreatDoorQB34
import Derived.Test.YtmjhfccbbfpppaaGreatDoorQB35
namespace Go.Proofs.YtmjhfccbbfpppaaGreatDoor
open Go Pm
set_option linter.unusedSimpArgs false
set_option linter.unusedVariables false
set_option maxHeartbeats 4000000
set_option maxRecDepth 100000
def kdN (s:ByteArray):Nat:=if s=b8o then 1 else if s=e5t then 2 else if s=b1j then 3 else 0
def g5u (s:Option Cp) (name:ByteArray) (rest:List ByteArray):Option (Cp×List ByteArray):=match s with
 |none=>if name=b3k then match rest with
   |x::r=>(a4d x).map fun v=>(⟨v,[]⟩,r)
   |[]=>none
  else none
 |some c=>if name=b3k then none else if kdN name=0 then none else if a6y rest then
   (if kdN name=1 then some (⟨c.id,c.rds++[⟨nvS rest 0,nvS rest 1,nvS rest 2,1,⟨#[]⟩⟩]⟩,rest.drop 3) else match rest.drop 3 with
    |w::r=>if a1f w then some (⟨c.id,c.rds++[⟨nvS rest 0,nvS rest 1,nvS rest 2,UInt8.ofNat (kdN name),w⟩]⟩,r) else none
    |[]=>none)
   else none
def stepG (s:Option Cp) (x:ByteArray):Option Cp:=match a1o x with
 |[]=>none
 |name::rest=>match g5u s name rest with
  |some (c,[])=>some c
  |_=>none
open Go Pm
open Go Pm
open Go Pm
open Go Pm Go.RowKit Go.Sort
open Go Pm
theorem g6b:b3e (.string ⟨#[98,101,102,111,114,101]⟩) (.string ⟨#[97,102,116,101,114]⟩)=false:=by decide
theorem g5y:b3e (.string ⟨#[97,102,116,101,114]⟩) (.string ⟨#[98,101,102,111,114,101]⟩)=false:=by decide
theorem g7a:b3e (.string ⟨#[97,102,116,101,114]⟩) (.string ⟨#[97,102,116,101,114]⟩)=true:=by decide
theorem g5k:b3e (.string ⟨#[98,101,102,111,114,101]⟩) (.string ⟨#[98,101,102,111,114,101]⟩)=true:=by decide
attribute [go_sem] g6b g5y g7a g5k
open Go Pm
open Go Pm Go.RowKit Go.Sort
open Go Pm
open Go Pm
open Go Pm
open Go Pm Go.RowKit Go.Sort
end Go.Proofs.YtmjhfccbbfpppaaGreatDoor
