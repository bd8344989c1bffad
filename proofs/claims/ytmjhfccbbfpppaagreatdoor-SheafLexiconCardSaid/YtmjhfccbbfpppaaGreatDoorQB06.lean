import Derived.Test.YtmjhfccbbfpppaaGreatDoorRows
import Derived.Test.YtmjhfccbbfpppaaGreatDoorChecked
import Derived.JoinedOf
import Derived.KernelRfl
import Derived.Test.YtmjhfccbbfpppaaGreatDoorQB02
namespace Go.Proofs.YtmjhfccbbfpppaaGreatDoor
open Go
set_option maxRecDepth 100000
theorem g8b:joinedFacts Tryz.prog 7 Tryz.f7 Rows.sheafLexiconSpec Rows.sheafLexiconRow=true:=by
 have h2:Tryz.prog.liftsFinal=Rows.sheafLexiconRow.lifted:=c8y
 have h3:Tryz.prog.make=some Rows.sheafLexiconRow.make:=f5b
 unfold joinedFacts
 rw [d9a,h2,h3,d5a,c4a,d2w,f7o]
 change _=true
 kernel_rfl
end Go.Proofs.YtmjhfccbbfpppaaGreatDoor
