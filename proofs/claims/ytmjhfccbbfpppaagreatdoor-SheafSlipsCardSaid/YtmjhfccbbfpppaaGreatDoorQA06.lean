import Derived.Test.YtmjhfccbbfpppaaGreatDoorRows
import Derived.Test.YtmjhfccbbfpppaaGreatDoorChecked
import Derived.JoinedOf
import Derived.KernelRfl
import Derived.Test.YtmjhfccbbfpppaaGreatDoorQA02
namespace Go.Proofs.YtmjhfccbbfpppaaGreatDoor
open Go
set_option maxRecDepth 100000
theorem g4k:joinedFacts Tryz.prog 8 Tryz.f8 Rows.sheafSlipsSpec Rows.sheafSlipsRow=true:=by
 have h2:Tryz.prog.liftsFinal=Rows.sheafSlipsRow.lifted:=c6n
 have h3:Tryz.prog.make=some Rows.sheafSlipsRow.make:=f5q
 unfold joinedFacts
 rw [e2t,h2,h3,d4m,c5o,d2d,f3f]
 change _=true
 kernel_rfl
end Go.Proofs.YtmjhfccbbfpppaaGreatDoor
