import Derived.Test.YtfnohnjnncjidaaGreatDoorQS25
import Derived.Test.YtfnohnjnncjidaaGreatDoorQS39
import Derived.Test.YtfnohnjnncjidaaGreatDoorQS42
import Derived.Test.YtfnohnjnncjidaaGreatDoorQS46
import Derived.Test.YtfnohnjnncjidaaGreatDoorQS48
namespace Go.Proofs.YtfnohnjnncjidaaGreatDoor
open Go Pm
set_option linter.unusedSimpArgs false
set_option linter.unusedVariables false
set_option maxHeartbeats 4000000
set_option maxRecDepth 100000
theorem HandTells_ok (r : Ro) (n : Int) (c : Cu) (hc : 0 ≤ c.s ∧ c.s ≤ 255) (day : Int) : Gives Tryz.prog 3 [roE 0 r, i64 n, .agg (cuC c), i64 day] (fun _ => bl true) := by
  refine pure_intro (ow := fun _ => false) Tryz.func3 Tryz.ntmps3 rfl (by kernel_rfl) (by simp) rfl (by decide) fun G hG hOw hNm hB => ?_; simp only [go_sem, hG, hOw]
  refine call_pureA (Great05_ok r) ?_
  simp only [go_sem, hG, hOw]
  intro hgr
  have hr := greatR_ok hgr
  refine call_pureA (Twin05_ok r hr) ?_
  simp only [go_sem, hG, hOw]
  (repeat' with_reducible first | refine And.intro ?_ ?_ | intro _ | refine exP ?_ ?_); all_goals try omega
  refine call_pureA (Explain_ok r hr n) ?_
  simp only [go_sem, hG, hOw]
  refine call_pureA (RExplain_ok r hr n) ?_
  simp only [go_sem, hG, hOw]
  refine call_pureA (Doubt_ok r hr c hc) ?_
  simp only [go_sem, hG, hOw]
  refine call_pureA (RDoubt_ok r hr c hc) ?_
  simp only [go_sem, hG, hOw]
  refine call_pureA (Assign_ok r hr day) ?_
  simp only [go_sem, hG, hOw]
  refine call_pureA (RAssign_ok r hr day) ?_
  simp only [go_sem, hG, hOw]
  (repeat' with_reducible first | refine And.intro ?_ ?_ | intro _ | refine exP ?_ ?_); all_goals try omega
  refine call_pureA (sf_self (explL r n)) ?_
  simp (maxSteps := 2000000) only [go_sem, hG, hOw, decide_true]
  (repeat' with_reducible first | refine And.intro ?_ ?_ | intro _ | refine exP ?_ ?_); all_goals try omega
  refine call_pureA (ss_self (doubtL r c)) ?_
  simp (maxSteps := 2000000) only [go_sem, hG, hOw, decide_true]
  (repeat' with_reducible first | refine And.intro ?_ ?_ | intro _ | refine exP ?_ ?_); all_goals try omega
  refine call_pureA (si_self (asgL r day)) ?_
  simp (maxSteps := 2000000) only [go_sem, hG, hOw, decide_true]
  (repeat' with_reducible first | refine And.intro ?_ ?_ | intro _ | refine exP ?_ ?_); all_goals try omega
  refine call_pureA (Same05_ok r r hr) ?_
  simp (maxSteps := 2000000) only [go_sem, hG, hOw, decide_true]
  try (repeat' with_reducible first | refine And.intro ?_ ?_ | intro _ | refine exP ?_ ?_); all_goals try omega
end Go.Proofs.YtfnohnjnncjidaaGreatDoor
