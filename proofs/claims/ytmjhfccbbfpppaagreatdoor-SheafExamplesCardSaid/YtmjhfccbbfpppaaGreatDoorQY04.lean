import Derived.Test.YtmjhfccbbfpppaaGreatDoorRows
import Derived.Test.YtmjhfccbbfpppaaGreatDoorChecked
import Derived.JoinedOf
import Derived.KernelRfl
import Derived.Test.YtmjhfccbbfpppaaGreatDoorQY02
namespace Go.Proofs.YtmjhfccbbfpppaaGreatDoor
open Go
set_option maxRecDepth 100000
theorem g4s:joinedFacts Tryz.prog 6 Tryz.f6 Rows.sheafExamplesSpec Rows.sheafExamplesRow=true:=by
 have h2:Tryz.prog.liftsFinal=Rows.sheafExamplesRow.lifted:=c9h
 have h3:Tryz.prog.make=some Rows.sheafExamplesRow.make:=f3o
 unfold joinedFacts
 rw [d9g,h2,h3,d2s,c6c,d2u,f4y]
 change _=true
 kernel_rfl
end Go.Proofs.YtmjhfccbbfpppaaGreatDoor
