import Derived.Test.YtmjhfccbbfpppaaGreatDoorRows
import Derived.Test.YtmjhfccbbfpppaaGreatDoorChecked
import Derived.JoinedOf
import Derived.KernelRfl
import Derived.Test.YtmjhfccbbfpppaaGreatDoorQZ02
namespace Go.Proofs.YtmjhfccbbfpppaaGreatDoor
open Go
set_option maxRecDepth 100000
theorem g0v:joinedFacts Tryz.prog 4 Tryz.f4 Rows.sheafCopiedSpec Rows.sheafCopiedRow=true:=by
 have h2:Tryz.prog.liftsFinal=Rows.sheafCopiedRow.lifted:=c5n
 have h3:Tryz.prog.make=some Rows.sheafCopiedRow.make:=f0j
 unfold joinedFacts
 rw [d6r,h2,h3,d3v,c1f,d3c,f0w]
 change _=true
 kernel_rfl
end Go.Proofs.YtmjhfccbbfpppaaGreatDoor
