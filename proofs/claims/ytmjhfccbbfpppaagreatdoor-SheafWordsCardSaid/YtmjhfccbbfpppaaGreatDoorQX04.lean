import Derived.Test.YtmjhfccbbfpppaaGreatDoorRows
import Derived.Test.YtmjhfccbbfpppaaGreatDoorChecked
import Derived.JoinedOf
import Derived.KernelRfl
import Derived.Test.YtmjhfccbbfpppaaGreatDoorQX02
namespace Go.Proofs.YtmjhfccbbfpppaaGreatDoor
open Go
set_option maxRecDepth 100000
theorem g1j:joinedFacts Tryz.prog 3 Tryz.f3 Rows.sheafWordsSpec Rows.sheafWordsRow=true:=by
 have h2:Tryz.prog.liftsFinal=Rows.sheafWordsRow.lifted:=c6v
 have h3:Tryz.prog.make=some Rows.sheafWordsRow.make:=f1l
 unfold joinedFacts
 rw [e1k,h2,h3,d4f,c2n,d5a,f1d]
 change _=true
 kernel_rfl
end Go.Proofs.YtmjhfccbbfpppaaGreatDoor
