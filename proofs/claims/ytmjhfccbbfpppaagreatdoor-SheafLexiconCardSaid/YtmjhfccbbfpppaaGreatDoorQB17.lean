import Derived.Test.YtmjhfccbbfpppaaGreatDoorRows
import Derived.Shelf.SlSortCmp.WholeK
import Derived.Test.YtmjhfccbbfpppaaGreatDoorProg
import Derived.Test.YtmjhfccbbfpppaaGreatDoorQB08
import Derived.Test.YtmjhfccbbfpppaaGreatDoorQB16
namespace Go.Proofs.YtmjhfccbbfpppaaGreatDoor
open Go Pm
set_option linter.unusedSimpArgs false
set_option linter.unusedVariables false
theorem b0b:Rd Tryz.prog 9 a2c (fun s=>s.size≤140737488355328):=Rd.string Tryz.underlying9
theorem b6i:Rd Tryz.prog 3 (fun n:Int=>[i64 n]) (fun n=>(Lit.int .i64 n).wf=true):=Rd.int Tryz.underlying3
def f2i (l:List ByteArray):Prop:=l.length≤140737488355328∧∀ s ∈ l,s.size≤140737488355328
theorem f4j:Rd Tryz.prog 32 (fun l=>[a0q 0 l]) f2i:=Rd.slice (sz:=1) Tryz.underlying32 (by kernel_rfl) (by decide) (by kernel_rfl) (fun _=>rfl) b0b
def g0k (l:List (List ByteArray)):Prop:=l.length≤140737488355328∧∀ r ∈ l,f2i r
theorem g2y:Rd Tryz.prog 113 (fun l=>[lns 0 l]) g0k:=Rd.slice (sz:=1) Tryz.underlying113 (by kernel_rfl) (by decide) (by kernel_rfl) (fun _=>rfl) f4j
def g8f (c:Ch):Prop:=(Lit.int .i64 c.id).wf=true∧g0k c.lines
theorem g5n:Rd Tryz.prog 115 (chE 0) g8f :=
 (Rd.struct Tryz.underlying115 (by kernel_rfl) (by kernel_rfl) (.cons b6i (.cons g2y .nil))).map fun ⟨a,b,_⟩ ⟨h1,h2,_⟩=>⟨⟨a,b⟩,⟨h1,h2⟩,rfl⟩
def f3q (l:List Ch):Prop:=l.length≤140737488355328∧∀ c ∈ l,g8f c
theorem g0z:Rd Tryz.prog 22 (fun l=>[chs 0 l]) f3q:=Rd.slice (sz:=2) Tryz.underlying22 (by kernel_rfl) (by decide) (by kernel_rfl) (fun _=>rfl) g5n
theorem f7k:Rd Tryz.prog 24 (fun l:List Ch=>[chs 0 l]) f3q :=
 (Rd.struct Tryz.underlying24 (by kernel_rfl) (by kernel_rfl) (.cons g0z .nil)).map fun ⟨a,_⟩ ⟨h1,_⟩=>⟨a,h1,rfl⟩
theorem e9n:ownKnob Tryz.prog.godebug=none:=by kernel_rfl
theorem e6g:laidOutB Tryz.prog=true:=by kernel_rfl
end Go.Proofs.YtmjhfccbbfpppaaGreatDoor
namespace Go.Proofs
open Go.Shelf
def Tryz.laysSort_ren:Go.Shelf.Ren:=⟨fun|6=>257|15=>169|14=>279|28=>216|29=>217|20=>290|21=>291|22=>292|23=>293|24=>294|25=>295|26=>296|27=>297|46=>299|47=>252|48=>253|49=>300|50=>301|57=>303|n=>n,fun|22=>60|24=>178|25=>312|3=>3|39=>254|0=>0|53=>300|55=>302|4=>4|46=>294|45=>293|50=>283|5=>5|9=>9|66=>338|70=>227|76=>365|77=>366|n=>n,fun|n=>n⟩
theorem Tryz.laysSort:Go.Proofs.SlLaysF0.n6 Tryz.prog Tryz.laysSort_ren:={
 mixed:=by kernel_rfl
 f6:=⟨Tryz.f257.name,by decide,Tryz.func257.trans (congrArg some (by kernel_rfl))⟩
 f14:=⟨Tryz.f279.name,by decide,Tryz.func279.trans (congrArg some (by kernel_rfl))⟩
 f15:=Tryz.func169.trans (congrArg some (by kernel_rfl))
 f20:=⟨Tryz.f290.name,by decide,Tryz.func290.trans (congrArg some (by kernel_rfl))⟩
 f21:=⟨Tryz.f291.name,by decide,Tryz.func291.trans (congrArg some (by kernel_rfl))⟩
 f22:=⟨Tryz.f292.name,by decide,Tryz.func292.trans (congrArg some (by kernel_rfl))⟩
 f23:=⟨Tryz.f293.name,by decide,Tryz.func293.trans (congrArg some (by kernel_rfl))⟩
 f24:=⟨Tryz.f294.name,by decide,Tryz.func294.trans (congrArg some (by kernel_rfl))⟩
 f25:=⟨Tryz.f295.name,by decide,Tryz.func295.trans (congrArg some (by kernel_rfl))⟩
 f26:=⟨Tryz.f296.name,by decide,Tryz.func296.trans (congrArg some (by kernel_rfl))⟩
 f27:=⟨Tryz.f297.name,by decide,Tryz.func297.trans (congrArg some (by kernel_rfl))⟩
 f28:=Tryz.func216.trans (congrArg some (by kernel_rfl))
 f29:=Tryz.func217.trans (congrArg some (by kernel_rfl))
 f46:=⟨Tryz.f299.name,by decide,Tryz.func299.trans (congrArg some (by kernel_rfl))⟩
 f47:=Tryz.func252.trans (congrArg some (by kernel_rfl))
 f48:=Tryz.func253.trans (congrArg some (by kernel_rfl))
 f49:=⟨Tryz.f300.name,by decide,Tryz.func300.trans (congrArg some (by kernel_rfl))⟩
 f50:=⟨Tryz.f301.name,by decide,Tryz.func301.trans (congrArg some (by kernel_rfl))⟩
 f57:=⟨Tryz.f303.name,by decide,Tryz.func303.trans (congrArg some (by kernel_rfl))⟩
 t0:=Tryz.underlying0
 a0:=Tryz.isAgg0
 z0:=Tryz.sizeOf0
 v0:=Tryz.zeroValue0
 t3:=Tryz.underlying3
 a3:=Tryz.isAgg3
 z3:=Tryz.sizeOf3
 v3:=Tryz.zeroValue3
 t4:=Tryz.underlying4
 a4:=Tryz.isAgg4
 z4:=Tryz.sizeOf4
 v4:=Tryz.zeroValue4
 t5:=Tryz.underlying5
 a5:=Tryz.isAgg5
 z5:=Tryz.sizeOf5
 v5:=Tryz.zeroValue5
 t9:=Tryz.underlying9
 a9:=Tryz.isAgg9
 z9:=Tryz.sizeOf9
 v9:=Tryz.zeroValue9
 t22:=Tryz.underlying60
 a22:=Tryz.isAgg60
 z22:=Tryz.sizeOf60
 v22:=Tryz.zeroValue60
 t25:=Tryz.underlying312
 a25:=Tryz.isAgg312
 z25:=Tryz.sizeOf312
 v25:=Tryz.zeroValue312
 t39:=Tryz.underlying254
 a39:=Tryz.isAgg254
 z39:=Tryz.sizeOf254
 v39:=Tryz.zeroValue254
 t45:=Tryz.underlying293
 a45:=Tryz.isAgg293
 z45:=Tryz.sizeOf293
 v45:=Tryz.zeroValue293
 t46:=Tryz.underlying294
 a46:=Tryz.isAgg294
 z46:=Tryz.sizeOf294
 v46:=Tryz.zeroValue294
 t50:=Tryz.underlying283
 a50:=Tryz.isAgg283
 z50:=Tryz.sizeOf283
 v50:=Tryz.zeroValue283
 t53:=Tryz.underlying300
 a53:=Tryz.isAgg300
 z53:=Tryz.sizeOf300
 v53:=Tryz.zeroValue300
 t55:=Tryz.underlying302
 a55:=Tryz.isAgg302
 z55:=Tryz.sizeOf302
 v55:=Tryz.zeroValue302
 t66:=Tryz.underlying338
 a66:=Tryz.isAgg338
 z66:=Tryz.sizeOf338
 v66:=Tryz.zeroValue338
 t70:=Tryz.underlying227
 a70:=Tryz.isAgg227
 z70:=Tryz.sizeOf227
 v70:=Tryz.zeroValue227
 t76:=Tryz.underlying365
 a76:=Tryz.isAgg365
 z76:=Tryz.sizeOf365
 v76:=Tryz.zeroValue365
 t77:=Tryz.underlying366
 a77:=Tryz.isAgg366
 z77:=Tryz.sizeOf366
 v77:=Tryz.zeroValue366 }
end Go.Proofs
namespace Go.Proofs.YtmjhfccbbfpppaaGreatDoor
open Go Pm
def b4f (r:List ByteArray):Bool:=decide (15 < (r.length:Int)) || r.any fun s=>decide (40 < (s.size:Int))
def b4h (c:Ch):Bool:=decide (15 < (c.lines.length:Int)) || c.lines.any b4f
def b2b (t:List Ch):Bool:=decide (10 < (t.length:Int)) || t.any b4h
theorem d7d {r:List ByteArray} (h:b4f r=false):r.length≤15∧∀ s ∈ r,s.size≤40:=by
 simp only [b4f,Bool.or_eq_false_iff,decide_eq_false_iff_not,List.any_eq_false,decide_eq_true_eq] at h
 exact ⟨by omega,fun s hs=>by have:=h.2 s hs;omega⟩
theorem e1f {t:List Ch} (h:b2b t=false):OKt t:=by
 simp only [b2b,b4h,Bool.or_eq_false_iff,decide_eq_false_iff_not,List.any_eq_false,Bool.or_eq_true,not_or,decide_eq_true_eq,Bool.not_eq_true] at h
 refine ⟨by omega,fun c hc=>?_⟩
 obtain ⟨h1,h2⟩:=h.2 c hc
 have h3:∀ r ∈ c.lines,b4f r=false:=by simpa using h2
 exact ⟨by omega,fun r hr=>d7d (h3 r hr)⟩
end Go.Proofs.YtmjhfccbbfpppaaGreatDoor
