import Derived.Test.YtmjhfccbbfpppaaGreatDoorQZ30
import Derived.Test.YtmjhfccbbfpppaaGreatDoorQZ38
import Derived.Test.YtmjhfccbbfpppaaGreatDoorQZ39
namespace Go.Proofs.YtmjhfccbbfpppaaGreatDoor
open Go Pm
set_option linter.unusedSimpArgs false
set_option linter.unusedVariables false
set_option maxHeartbeats 4000000
set_option maxRecDepth 100000
theorem g1h:b2u (.string ⟨#[98,101,102,111,114,101]⟩) (.string ⟨#[97,102,116,101,114]⟩)=false:=by decide
theorem g2i:b2u (.string ⟨#[97,102,116,101,114]⟩) (.string ⟨#[98,101,102,111,114,101]⟩)=false:=by decide
theorem g0g:b2u (.string ⟨#[97,102,116,101,114]⟩) (.string ⟨#[97,102,116,101,114]⟩)=true:=by decide
theorem f9z:b2u (.string ⟨#[98,101,102,111,114,101]⟩) (.string ⟨#[98,101,102,111,114,101]⟩)=true:=by decide
attribute [go_sem] g1h g2i g0g f9z
open Go Pm
set_option maxHeartbeats 4000000
set_option maxRecDepth 100000
open Go Pm Go.RowKit Go.Sort
set_option maxHeartbeats 4000000
set_option maxRecDepth 100000
end Go.Proofs.YtmjhfccbbfpppaaGreatDoor
