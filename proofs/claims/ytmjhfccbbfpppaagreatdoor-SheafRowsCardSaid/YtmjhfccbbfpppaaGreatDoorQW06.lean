import Derived.Test.YtmjhfccbbfpppaaGreatDoorRows
import Derived.Test.YtmjhfccbbfpppaaGreatDoorChecked
import Derived.JoinedOf
import Derived.KernelRfl
import Derived.Test.YtmjhfccbbfpppaaGreatDoorQW02
namespace Go.Proofs.YtmjhfccbbfpppaaGreatDoor
open Go
set_option maxRecDepth 100000
theorem g4x:joinedFacts Tryz.prog 5 Tryz.f5 Rows.sheafRowsSpec Rows.sheafRowsRow=true:=by
 have h2:Tryz.prog.liftsFinal=Rows.sheafRowsRow.lifted:=c8w
 have h3:Tryz.prog.make=some Rows.sheafRowsRow.make:=f7q
 unfold joinedFacts
 rw [e4m,h2,h3,d4v,c5v,d5i,f4w]
 change _=true
 kernel_rfl
end Go.Proofs.YtmjhfccbbfpppaaGreatDoor
