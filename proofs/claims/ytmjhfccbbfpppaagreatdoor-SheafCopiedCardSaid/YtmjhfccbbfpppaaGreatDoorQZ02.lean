import Derived.Test.YtmjhfccbbfpppaaGreatDoorRows
import Derived.Test.YtmjhfccbbfpppaaGreatDoorChecked
import Derived.JoinedOf
import Derived.KernelRfl
namespace Go.Proofs.YtmjhfccbbfpppaaGreatDoor
open Go
set_option maxRecDepth 100000
theorem d6r:Tryz.prog.mayEnter=true:=by kernel_rfl
theorem c5n:Tryz.prog.liftsFinal=Rows.sheafRowsRow.lifted:=by kernel_rfl
theorem f0j:Tryz.prog.make=some Rows.sheafRowsRow.make:=by kernel_rfl
open Go
set_option maxRecDepth 100000
theorem d3v:Tryz.prog.inPlace 4=Rows.sheafCopiedRow.inPlace:=by kernel_rfl
theorem c1f:Tryz.prog.unfollowed 4=Rows.sheafCopiedRow.unfollowed:=by kernel_rfl
theorem d3c:Tryz.prog.recurses 4=Rows.sheafCopiedRow.recurses:=by kernel_rfl
theorem f0w:Tryz.prog.varsNamed 4=Rows.sheafCopiedRow.named:=by kernel_rfl
end Go.Proofs.YtmjhfccbbfpppaaGreatDoor
