import Derived.Test.YtagfopbijboajaaGreatDoorQY14
import Derived.Test.YtagfopbijboajaaGreatDoorQY20
import Derived.Test.YtagfopbijboajaaGreatDoorQY27
namespace Go.Proofs.YtagfopbijboajaaGreatDoor
open Go Pm
set_option linter.unusedSimpArgs false
set_option linter.unusedVariables false
set_option maxHeartbeats 4000000
set_option maxRecDepth 100000
def ints (lo : Nat) (l : List Int) : V := .lst lo 1 (l.map intE)
attribute [go_sem] ints
theorem flatMap_le {α β : Type} (f : α → List β) (b : Nat) : ∀ l : List α, (∀ x ∈ l, (f x).length ≤ b) → (l.flatMap f).length ≤ l.length * b
  | [], _ => by simp
  | x :: r, h => by
    have h1 := h x (by simp)
    have h2 := flatMap_le f b r (fun y hy => h y (by simp [hy]))
    simp only [List.flatMap_cons, List.length_append, List.length_cons, Nat.add_mul, Nat.one_mul]
    omega
theorem linesL_le {t : List Ch} (h : OKt t) : (linesL t).length ≤ 400 := by
  have : (linesL t).length ≤ t.length * 40 := flatMap_le Ch.lines 40 t (fun c hc => (h.2 c hc).1)
  have := h.1
  omega
theorem linesL_rows {t : List Ch} (h : OKt t) : ∀ r ∈ linesL t, r.length ≤ 15 ∧ ∀ s ∈ r, s.size ≤ 40 := by
  intro r hr
  obtain ⟨c, hc, hr⟩ := List.mem_flatMap.1 hr
  exact (h.2 c hc).2 r hr
theorem CheckR_ok (r : Ro) (hr : OKr r) : Gives Tryz.prog 31 [roE 0 r] (fun _ => i64 (roundE r)) := by
  refine pure_intro (ow := fun _ => false) Tryz.func31 Tryz.ntmps31 rfl (by kernel_rfl) (by simp) rfl (by decide) fun G hG hOw hNm hB => ?_; simp only [go_sem, hG, hOw]
  refine call_pureA (CheckT_ok r.text hr.t) ?_
  simp only [go_sem, hG, hOw]
  (repeat' with_reducible first | refine And.intro ?_ ?_ | intro _ | refine exP ?_ ?_); all_goals try omega
  · rename_i h
    cases hT : textB r.text with
    | true => simp [hT] at h
    | false => simp [roundE, hT]
  · rename_i h
    refine call_pureA (Round_ok r hr) ?_
    simp only [go_sem, hG, hOw]
    (repeat' with_reducible first | refine And.intro ?_ ?_ | intro _ | refine exP ?_ ?_); all_goals try omega
    all_goals rename_i h2
    all_goals cases hT : textB r.text with
      | false => simp [hT] at h
      | true => simp [roundE, hT, h2]
def lineR (r : Ro) (n : Int) : List ByteArray := if roundE r = 0 then if inB n 0 ((linesL r.text).length - 1) then ((linesL r.text)[n.toNat]?).getD [] else [] else []
def lineRE (r : Ro) (n : Int) : Int := if roundE r = 0 then if inB n 0 ((linesL r.text).length - 1) then 0 else 2 else roundE r
end Go.Proofs.YtagfopbijboajaaGreatDoor
