import Derived.Test.YtmjhfccbbfpppaaGreatDoorRows
import Derived.Test.YtmjhfccbbfpppaaGreatDoorQW08
import Derived.Test.YtmjhfccbbfpppaaGreatDoorQW19
namespace Go.Proofs.YtmjhfccbbfpppaaGreatDoor
open Go Pm
set_option linter.unusedSimpArgs false
set_option linter.unusedVariables false
theorem e3l:Rd Tryz.prog 9 a2j (fun s=>s.size≤140737488355328):=Rd.string Tryz.underlying9
theorem g3h:Rd Tryz.prog 3 (fun n:Int=>[i64 n]) (fun n=>(Lit.int .i64 n).wf=true):=Rd.int Tryz.underlying3
def d9f (l:List ByteArray):Prop:=l.length≤140737488355328∧∀ s ∈ l,s.size≤140737488355328
theorem d9g:Rd Tryz.prog 32 (fun l=>[a0h 0 l]) d9f:=Rd.slice (sz:=1) Tryz.underlying32 (by kernel_rfl) (by decide) (by kernel_rfl) (fun _=>rfl) e3l
def g3j (l:List (List ByteArray)):Prop:=l.length≤140737488355328∧∀ r ∈ l,d9f r
theorem f9s:Rd Tryz.prog 113 (fun l=>[lns 0 l]) g3j:=Rd.slice (sz:=1) Tryz.underlying113 (by kernel_rfl) (by decide) (by kernel_rfl) (fun _=>rfl) d9g
def g7f (c:Ch):Prop:=(Lit.int .i64 c.id).wf=true∧g3j c.lines
theorem g5x:Rd Tryz.prog 115 (chE 0) g7f :=
 (Rd.struct Tryz.underlying115 (by kernel_rfl) (by kernel_rfl) (.cons g3h (.cons f9s .nil))).map fun ⟨a,b,_⟩ ⟨h1,h2,_⟩=>⟨⟨a,b⟩,⟨h1,h2⟩,rfl⟩
def f6e (l:List Ch):Prop:=l.length≤140737488355328∧∀ c ∈ l,g7f c
theorem f9e:Rd Tryz.prog 22 (fun l=>[chs 0 l]) f6e:=Rd.slice (sz:=2) Tryz.underlying22 (by kernel_rfl) (by decide) (by kernel_rfl) (fun _=>rfl) g5x
theorem f7t:Rd Tryz.prog 24 (fun l:List Ch=>[chs 0 l]) f6e :=
 (Rd.struct Tryz.underlying24 (by kernel_rfl) (by kernel_rfl) (.cons f9e .nil)).map fun ⟨a,_⟩ ⟨h1,_⟩=>⟨a,h1,rfl⟩
theorem f1v:ownKnob Tryz.prog.godebug=none:=by kernel_rfl
theorem e9b:laidOutB Tryz.prog=true:=by kernel_rfl
end Go.Proofs.YtmjhfccbbfpppaaGreatDoor
