import Derived.Test.YtmjhfccbbfpppaaGreatDoorRows
import Derived.Test.YtmjhfccbbfpppaaGreatDoorChecked
import Derived.JoinedOf
import Derived.KernelRfl
namespace Go.Proofs.YtmjhfccbbfpppaaGreatDoor
open Go
set_option maxRecDepth 100000
theorem e1k:Tryz.prog.mayEnter=true:=by kernel_rfl
theorem c6v:Tryz.prog.liftsFinal=Rows.sheafRowsRow.lifted:=by kernel_rfl
theorem f1l:Tryz.prog.make=some Rows.sheafRowsRow.make:=by kernel_rfl
open Go
set_option maxRecDepth 100000
theorem d4f:Tryz.prog.inPlace 3=Rows.sheafWordsRow.inPlace:=by kernel_rfl
theorem c2n:Tryz.prog.unfollowed 3=Rows.sheafWordsRow.unfollowed:=by kernel_rfl
theorem d5a:Tryz.prog.recurses 3=Rows.sheafWordsRow.recurses:=by kernel_rfl
theorem f1d:Tryz.prog.varsNamed 3=Rows.sheafWordsRow.named:=by kernel_rfl
end Go.Proofs.YtmjhfccbbfpppaaGreatDoor
