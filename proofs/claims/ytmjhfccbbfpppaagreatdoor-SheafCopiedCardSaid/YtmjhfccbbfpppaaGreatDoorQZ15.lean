import Derived.Test.YtmjhfccbbfpppaaGreatDoorQZ08
namespace Go.Proofs.YtmjhfccbbfpppaaGreatDoor
open Go Pm
set_option linter.unusedSimpArgs false
set_option linter.unusedVariables false
def b2r (r:List ByteArray):Bool:=decide (15 < (r.length:Int)) || r.any fun s=>decide (40 < (s.size:Int))
def b3a (c:Ch):Bool:=decide (15 < (c.lines.length:Int)) || c.lines.any b2r
def a9t (t:List Ch):Bool:=decide (10 < (t.length:Int)) || t.any b3a
theorem d6s {r:List ByteArray} (h:b2r r=false):r.length≤15∧∀ s ∈ r,s.size≤40:=by
 simp only [b2r,Bool.or_eq_false_iff,decide_eq_false_iff_not,List.any_eq_false,decide_eq_true_eq] at h
 exact ⟨by omega,fun s hs=>by have:=h.2 s hs;omega⟩
theorem c3m {t:List Ch} (h:a9t t=false):OKt t:=by
 simp only [a9t,b3a,Bool.or_eq_false_iff,decide_eq_false_iff_not,List.any_eq_false,Bool.or_eq_true,not_or,decide_eq_true_eq,Bool.not_eq_true] at h
 refine ⟨by omega,fun c hc=>?_⟩
 obtain ⟨h1,h2⟩:=h.2 c hc
 have h3:∀ r ∈ c.lines,b2r r=false:=by simpa using h2
 exact ⟨by omega,fun r hr=>d6s (h3 r hr)⟩
end Go.Proofs.YtmjhfccbbfpppaaGreatDoor
