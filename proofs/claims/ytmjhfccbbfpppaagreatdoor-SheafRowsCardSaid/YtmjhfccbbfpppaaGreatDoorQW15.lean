import Derived.Test.YtmjhfccbbfpppaaGreatDoorQW08
namespace Go.Proofs.YtmjhfccbbfpppaaGreatDoor
open Go Pm
set_option linter.unusedSimpArgs false
set_option linter.unusedVariables false
def b5h (r:List ByteArray):Bool:=decide (15 < (r.length:Int)) || r.any fun s=>decide (40 < (s.size:Int))
def b5i (c:Ch):Bool:=decide (15 < (c.lines.length:Int)) || c.lines.any b5h
def b3q (t:List Ch):Bool:=decide (10 < (t.length:Int)) || t.any b5i
theorem e5h {r:List ByteArray} (h:b5h r=false):r.length≤15∧∀ s ∈ r,s.size≤40:=by
 simp only [b5h,Bool.or_eq_false_iff,decide_eq_false_iff_not,List.any_eq_false,decide_eq_true_eq] at h
 exact ⟨by omega,fun s hs=>by have:=h.2 s hs;omega⟩
theorem e4s {t:List Ch} (h:b3q t=false):OKt t:=by
 simp only [b3q,b5i,Bool.or_eq_false_iff,decide_eq_false_iff_not,List.any_eq_false,Bool.or_eq_true,not_or,decide_eq_true_eq,Bool.not_eq_true] at h
 refine ⟨by omega,fun c hc=>?_⟩
 obtain ⟨h1,h2⟩:=h.2 c hc
 have h3:∀ r ∈ c.lines,b5h r=false:=by simpa using h2
 exact ⟨by omega,fun r hr=>e5h (h3 r hr)⟩
end Go.Proofs.YtmjhfccbbfpppaaGreatDoor
