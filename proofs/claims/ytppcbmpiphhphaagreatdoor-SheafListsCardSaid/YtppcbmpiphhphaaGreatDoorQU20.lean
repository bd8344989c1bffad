import Derived.Test.YtppcbmpiphhphaaGreatDoorQU10
namespace Go.Proofs.YtppcbmpiphhphaaGreatDoor
open Go Pm
set_option linter.unusedSimpArgs false
set_option linter.unusedVariables false
def gtLine (r : List ByteArray) : Bool := decide (15 < (r.length : Int)) || r.any fun s => decide (40 < (s.size : Int))
def gtChap (c : Ch) : Bool := decide (15 < (c.lines.length : Int)) || c.lines.any gtLine
def greatT (t : List Ch) : Bool := decide (10 < (t.length : Int)) || t.any gtChap
theorem gtLine_ok {r : List ByteArray} (h : gtLine r = false) : r.length ≤ 15 ∧ ∀ s ∈ r, s.size ≤ 40 := by
  simp only [gtLine, Bool.or_eq_false_iff, decide_eq_false_iff_not, List.any_eq_false, decide_eq_true_eq] at h
  exact ⟨by omega, fun s hs => by have := h.2 s hs; omega⟩
theorem greatT_ok {t : List Ch} (h : greatT t = false) : OKt t := by
  simp only [greatT, gtChap, Bool.or_eq_false_iff, decide_eq_false_iff_not, List.any_eq_false, Bool.or_eq_true, not_or, decide_eq_true_eq, Bool.not_eq_true] at h
  refine ⟨by omega, fun c hc => ?_⟩
  obtain ⟨h1, h2⟩ := h.2 c hc
  have h3 : ∀ r ∈ c.lines, gtLine r = false := by simpa using h2
  exact ⟨by omega, fun r hr => gtLine_ok (h3 r hr)⟩
end Go.Proofs.YtppcbmpiphhphaaGreatDoor
