import Derived.Test.YtmjhfccbbfpppaaGreatDoorRows
import Derived.Test.YtmjhfccbbfpppaaGreatDoorChecked
import Derived.JoinedOf
import Derived.KernelRfl
namespace Go.Proofs.YtmjhfccbbfpppaaGreatDoor
open Go
set_option maxRecDepth 100000
theorem d9a:Tryz.prog.mayEnter=true:=by kernel_rfl
theorem c8y:Tryz.prog.liftsFinal=Rows.sheafRowsRow.lifted:=by kernel_rfl
theorem f5b:Tryz.prog.make=some Rows.sheafRowsRow.make:=by kernel_rfl
open Go
theorem d5a:Tryz.prog.inPlace 7=Rows.sheafLexiconRow.inPlace:=by kernel_rfl
theorem c4a:Tryz.prog.unfollowed 7=Rows.sheafLexiconRow.unfollowed:=by kernel_rfl
theorem d2w:Tryz.prog.recurses 7=Rows.sheafLexiconRow.recurses:=by kernel_rfl
theorem f7o:Tryz.prog.varsNamed 7=Rows.sheafLexiconRow.named:=by kernel_rfl
end Go.Proofs.YtmjhfccbbfpppaaGreatDoor
