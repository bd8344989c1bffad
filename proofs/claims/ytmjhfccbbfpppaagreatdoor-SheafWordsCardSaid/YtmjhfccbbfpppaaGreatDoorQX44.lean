import Derived.Test.YtmjhfccbbfpppaaGreatDoorQX29
import Derived.Test.YtmjhfccbbfpppaaGreatDoorQX40
import Derived.Test.YtmjhfccbbfpppaaGreatDoorQX42
namespace Go.Proofs.YtmjhfccbbfpppaaGreatDoor
open Go Pm
set_option linter.unusedSimpArgs false
set_option linter.unusedVariables false
set_option maxHeartbeats 4000000
set_option maxRecDepth 100000
theorem g2g:b4a (.string ⟨#[98,101,102,111,114,101]⟩) (.string ⟨#[97,102,116,101,114]⟩)=false:=by decide
theorem g2v:b4a (.string ⟨#[97,102,116,101,114]⟩) (.string ⟨#[98,101,102,111,114,101]⟩)=false:=by decide
theorem g2o:b4a (.string ⟨#[97,102,116,101,114]⟩) (.string ⟨#[97,102,116,101,114]⟩)=true:=by decide
theorem g2b:b4a (.string ⟨#[98,101,102,111,114,101]⟩) (.string ⟨#[98,101,102,111,114,101]⟩)=true:=by decide
attribute [go_sem] g2g g2v g2o g2b
open Go Pm
set_option maxHeartbeats 4000000
set_option maxRecDepth 100000
open Go Pm Go.RowKit Go.Sort
set_option maxHeartbeats 4000000
set_option maxRecDepth 100000
end Go.Proofs.YtmjhfccbbfpppaaGreatDoor
