import Derived.Test.YtmjhfccbbfpppaaGreatDoorRows
import Derived.Test.YtmjhfccbbfpppaaGreatDoorQA08
namespace Go.Proofs.YtmjhfccbbfpppaaGreatDoor
open Go Pm
set_option linter.unusedSimpArgs false
set_option linter.unusedVariables false
theorem d8o:Rd Tryz.prog 9 a1z (fun s=>s.size≤140737488355328):=Rd.string Tryz.underlying9
theorem f0w:Rd Tryz.prog 3 (fun n:Int=>[i64 n]) (fun n=>(Lit.int .i64 n).wf=true):=Rd.int Tryz.underlying3
def f1t (l:List ByteArray):Prop:=l.length≤140737488355328∧∀ s ∈ l,s.size≤140737488355328
theorem f3d:Rd Tryz.prog 32 (fun l=>[a0o 0 l]) f1t:=Rd.slice (sz:=1) Tryz.underlying32 (by kernel_rfl) (by decide) (by kernel_rfl) (fun _=>rfl) d8o
def f9r (l:List (List ByteArray)):Prop:=l.length≤140737488355328∧∀ r ∈ l,f1t r
theorem f7h:Rd Tryz.prog 113 (fun l=>[lns 0 l]) f9r:=Rd.slice (sz:=1) Tryz.underlying113 (by kernel_rfl) (by decide) (by kernel_rfl) (fun _=>rfl) f3d
def g5b (c:Ch):Prop:=(Lit.int .i64 c.id).wf=true∧f9r c.lines
theorem g4f:Rd Tryz.prog 115 (chE 0) g5b :=
 (Rd.struct Tryz.underlying115 (by kernel_rfl) (by kernel_rfl) (.cons f0w (.cons f7h .nil))).map fun ⟨a,b,_⟩ ⟨h1,h2,_⟩=>⟨⟨a,b⟩,⟨h1,h2⟩,rfl⟩
def f4k (l:List Ch):Prop:=l.length≤140737488355328∧∀ c ∈ l,g5b c
theorem g0s:Rd Tryz.prog 22 (fun l=>[chs 0 l]) f4k:=Rd.slice (sz:=2) Tryz.underlying22 (by kernel_rfl) (by decide) (by kernel_rfl) (fun _=>rfl) g4f
theorem f5x:Rd Tryz.prog 24 (fun l:List Ch=>[chs 0 l]) f4k :=
 (Rd.struct Tryz.underlying24 (by kernel_rfl) (by kernel_rfl) (.cons g0s .nil)).map fun ⟨a,_⟩ ⟨h1,_⟩=>⟨a,h1,rfl⟩
theorem f0c:ownKnob Tryz.prog.godebug=none:=by kernel_rfl
theorem e9w:laidOutB Tryz.prog=true:=by kernel_rfl
end Go.Proofs.YtmjhfccbbfpppaaGreatDoor
