import Derived.Test.YtmjhfccbbfpppaaGreatDoorRows
import Derived.Test.YtmjhfccbbfpppaaGreatDoorQZ08
import Derived.Test.YtmjhfccbbfpppaaGreatDoorQZ20
namespace Go.Proofs.YtmjhfccbbfpppaaGreatDoor
open Go Pm
set_option linter.unusedSimpArgs false
set_option linter.unusedVariables false
theorem d8d:Rd Tryz.prog 9 a2e (fun s=>s.size≤140737488355328):=Rd.string Tryz.underlying9
theorem f7s:Rd Tryz.prog 3 (fun n:Int=>[i64 n]) (fun n=>(Lit.int .i64 n).wf=true):=Rd.int Tryz.underlying3
def e9c (l:List ByteArray):Prop:=l.length≤140737488355328∧∀ s ∈ l,s.size≤140737488355328
theorem f2v:Rd Tryz.prog 32 (fun l=>[a0p 0 l]) e9c:=Rd.slice (sz:=1) Tryz.underlying32 (by kernel_rfl) (by decide) (by kernel_rfl) (fun _=>rfl) d8d
def f5b (l:List (List ByteArray)):Prop:=l.length≤140737488355328∧∀ r ∈ l,e9c r
theorem f8s:Rd Tryz.prog 113 (fun l=>[lns 0 l]) f5b:=Rd.slice (sz:=1) Tryz.underlying113 (by kernel_rfl) (by decide) (by kernel_rfl) (fun _=>rfl) f2v
def g2q (c:Ch):Prop:=(Lit.int .i64 c.id).wf=true∧f5b c.lines
theorem g0z:Rd Tryz.prog 115 (chE 0) g2q :=
 (Rd.struct Tryz.underlying115 (by kernel_rfl) (by kernel_rfl) (.cons f7s (.cons f8s .nil))).map fun ⟨a,b,_⟩ ⟨h1,h2,_⟩=>⟨⟨a,b⟩,⟨h1,h2⟩,rfl⟩
def f0p (l:List Ch):Prop:=l.length≤140737488355328∧∀ c ∈ l,g2q c
theorem f8i:Rd Tryz.prog 22 (fun l=>[chs 0 l]) f0p:=Rd.slice (sz:=2) Tryz.underlying22 (by kernel_rfl) (by decide) (by kernel_rfl) (fun _=>rfl) g0z
theorem f0h:Rd Tryz.prog 24 (fun l:List Ch=>[chs 0 l]) f0p :=
 (Rd.struct Tryz.underlying24 (by kernel_rfl) (by kernel_rfl) (.cons f8i .nil)).map fun ⟨a,_⟩ ⟨h1,_⟩=>⟨a,h1,rfl⟩
theorem e6r:ownKnob Tryz.prog.godebug=none:=by kernel_rfl
theorem e3i:laidOutB Tryz.prog=true:=by kernel_rfl
end Go.Proofs.YtmjhfccbbfpppaaGreatDoor
