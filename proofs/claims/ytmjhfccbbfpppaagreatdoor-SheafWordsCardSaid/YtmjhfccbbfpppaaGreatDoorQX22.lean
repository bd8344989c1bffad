import Derived.Test.YtmjhfccbbfpppaaGreatDoorRows
import Derived.Test.YtmjhfccbbfpppaaGreatDoorQX09
import Derived.Test.YtmjhfccbbfpppaaGreatDoorQX20
namespace Go.Proofs.YtmjhfccbbfpppaaGreatDoor
open Go Pm
set_option linter.unusedSimpArgs false
set_option linter.unusedVariables false
theorem c5t:Rd Tryz.prog 9 a1t (fun s=>s.size≤140737488355328):=Rd.string Tryz.underlying9
theorem c2e:Rd Tryz.prog 3 (fun n:Int=>[i64 n]) (fun n=>(Lit.int .i64 n).wf=true):=Rd.int Tryz.underlying3
def e9g (l:List ByteArray):Prop:=l.length≤140737488355328∧∀ s ∈ l,s.size≤140737488355328
theorem f1e:Rd Tryz.prog 32 (fun l=>[a0n 0 l]) e9g:=Rd.slice (sz:=1) Tryz.underlying32 (by kernel_rfl) (by decide) (by kernel_rfl) (fun _=>rfl) c5t
def f7k (l:List (List ByteArray)):Prop:=l.length≤140737488355328∧∀ r ∈ l,e9g r
theorem f9g:Rd Tryz.prog 113 (fun l=>[lns 0 l]) f7k:=Rd.slice (sz:=1) Tryz.underlying113 (by kernel_rfl) (by decide) (by kernel_rfl) (fun _=>rfl) f1e
def g3d (c:Ch):Prop:=(Lit.int .i64 c.id).wf=true∧f7k c.lines
theorem g2k:Rd Tryz.prog 115 (chE 0) g3d :=
 (Rd.struct Tryz.underlying115 (by kernel_rfl) (by kernel_rfl) (.cons c2e (.cons f9g .nil))).map fun ⟨a,b,_⟩ ⟨h1,h2,_⟩=>⟨⟨a,b⟩,⟨h1,h2⟩,rfl⟩
def f3c (l:List Ch):Prop:=l.length≤140737488355328∧∀ c ∈ l,g3d c
theorem f7q:Rd Tryz.prog 22 (fun l=>[chs 0 l]) f3c:=Rd.slice (sz:=2) Tryz.underlying22 (by kernel_rfl) (by decide) (by kernel_rfl) (fun _=>rfl) g2k
theorem f0o:Rd Tryz.prog 24 (fun l:List Ch=>[chs 0 l]) f3c :=
 (Rd.struct Tryz.underlying24 (by kernel_rfl) (by kernel_rfl) (.cons f7q .nil)).map fun ⟨a,_⟩ ⟨h1,_⟩=>⟨a,h1,rfl⟩
theorem e6e:ownKnob Tryz.prog.godebug=none:=by kernel_rfl
theorem e6l:laidOutB Tryz.prog=true:=by kernel_rfl
end Go.Proofs.YtmjhfccbbfpppaaGreatDoor
