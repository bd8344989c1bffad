import Derived.Test.YtmjhfccbbfpppaaGreatDoorRows
import Derived.Test.YtmjhfccbbfpppaaGreatDoorChecked
import Derived.JoinedOf
import Derived.KernelRfl
namespace Go.Proofs.YtmjhfccbbfpppaaGreatDoor
open Go
set_option maxRecDepth 100000
theorem d9g:Tryz.prog.mayEnter=true:=by kernel_rfl
theorem c9h:Tryz.prog.liftsFinal=Rows.sheafRowsRow.lifted:=by kernel_rfl
theorem f3o:Tryz.prog.make=some Rows.sheafRowsRow.make:=by kernel_rfl
open Go
set_option maxRecDepth 100000
theorem d2s:Tryz.prog.inPlace 6=Rows.sheafExamplesRow.inPlace:=by kernel_rfl
theorem c6c:Tryz.prog.unfollowed 6=Rows.sheafExamplesRow.unfollowed:=by kernel_rfl
theorem d2u:Tryz.prog.recurses 6=Rows.sheafExamplesRow.recurses:=by kernel_rfl
theorem f4y:Tryz.prog.varsNamed 6=Rows.sheafExamplesRow.named:=by kernel_rfl
end Go.Proofs.YtmjhfccbbfpppaaGreatDoor
