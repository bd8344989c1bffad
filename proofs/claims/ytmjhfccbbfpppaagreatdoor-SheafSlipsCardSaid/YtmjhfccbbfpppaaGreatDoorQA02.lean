import Derived.Test.YtmjhfccbbfpppaaGreatDoorRows
import Derived.Test.YtmjhfccbbfpppaaGreatDoorChecked
import Derived.JoinedOf
import Derived.KernelRfl
namespace Go.Proofs.YtmjhfccbbfpppaaGreatDoor
open Go
set_option maxRecDepth 100000
theorem e2t:Tryz.prog.mayEnter=true:=by kernel_rfl
theorem c6n:Tryz.prog.liftsFinal=Rows.sheafRowsRow.lifted:=by kernel_rfl
theorem f5q:Tryz.prog.make=some Rows.sheafRowsRow.make:=by kernel_rfl
open Go
set_option maxRecDepth 100000
theorem d4m:Tryz.prog.inPlace 8=Rows.sheafSlipsRow.inPlace:=by kernel_rfl
theorem c5o:Tryz.prog.unfollowed 8=Rows.sheafSlipsRow.unfollowed:=by kernel_rfl
theorem d2d:Tryz.prog.recurses 8=Rows.sheafSlipsRow.recurses:=by kernel_rfl
theorem f3f:Tryz.prog.varsNamed 8=Rows.sheafSlipsRow.named:=by kernel_rfl
end Go.Proofs.YtmjhfccbbfpppaaGreatDoor
