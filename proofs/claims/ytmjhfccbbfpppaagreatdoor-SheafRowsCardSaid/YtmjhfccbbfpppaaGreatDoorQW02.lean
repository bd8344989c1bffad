import Derived.Test.YtmjhfccbbfpppaaGreatDoorRows
import Derived.Test.YtmjhfccbbfpppaaGreatDoorChecked
import Derived.JoinedOf
import Derived.KernelRfl
namespace Go.Proofs.YtmjhfccbbfpppaaGreatDoor
open Go
set_option maxRecDepth 100000
theorem e4m:Tryz.prog.mayEnter=true:=by kernel_rfl
theorem c8w:Tryz.prog.liftsFinal=Rows.sheafRowsRow.lifted:=by kernel_rfl
theorem f7q:Tryz.prog.make=some Rows.sheafRowsRow.make:=by kernel_rfl
open Go
set_option maxRecDepth 100000
theorem d4v:Tryz.prog.inPlace 5=Rows.sheafRowsRow.inPlace:=by kernel_rfl
theorem c5v:Tryz.prog.unfollowed 5=Rows.sheafRowsRow.unfollowed:=by kernel_rfl
theorem d5i:Tryz.prog.recurses 5=Rows.sheafRowsRow.recurses:=by kernel_rfl
theorem f4w:Tryz.prog.varsNamed 5=Rows.sheafRowsRow.named:=by kernel_rfl
end Go.Proofs.YtmjhfccbbfpppaaGreatDoor
