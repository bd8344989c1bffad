import Derived.Test.YtfnohnjnncjidaaGreatDoorQS17
import Derived.Test.YtfnohnjnncjidaaGreatDoorQS40
import Derived.Test.YtfnohnjnncjidaaGreatDoorQS41
namespace Go.Proofs.YtfnohnjnncjidaaGreatDoor
open Go Pm
set_option linter.unusedSimpArgs false
set_option linter.unusedVariables false
set_option maxHeartbeats 4000000
set_option maxRecDepth 100000
open Go Pm
set_option maxHeartbeats 4000000
set_option maxRecDepth 100000
theorem within03_ok (n lo hi : Int) : Gives Tryz.prog 89 [i64 n, i64 lo, i64 hi] (fun _ => bl (inB n lo hi)) := by
  refine pure_intro (ow := fun _ => false) Tryz.func89 Tryz.ntmps89 rfl (by kernel_rfl) (by simp) rfl (by decide) fun G hG hOw hNm hB => ?_; simp only [go_sem, hG, hOw]
  (repeat' with_reducible first | refine And.intro ?_ ?_ | intro _ | refine exP ?_ ?_); all_goals try omega
  all_goals (rename_i h; simp [inB, h])
theorem doubt_good {r : Ro} (hg : Good r) {c : Cu} (h : cutB c = true) : doubtE r c = 0 ∧ doubtL r c = dbtL c r.text (leftD r) (linesL r.text).length := by
  constructor
  · unfold doubtE; rw [if_pos hg.e, if_pos h]
  · unfold doubtL; rw [if_pos hg.e, if_pos h]
open Go Pm
set_option maxHeartbeats 4000000
set_option maxRecDepth 100000
end Go.Proofs.YtfnohnjnncjidaaGreatDoor
