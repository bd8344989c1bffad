import Derived.Test.YtppcbmpiphhphaaGreatDoorQU10
import Derived.Test.YtppcbmpiphhphaaGreatDoorQU13
namespace Go.Proofs.YtppcbmpiphhphaaGreatDoor
open Go Pm
set_option linter.unusedSimpArgs false
set_option linter.unusedVariables false
set_option maxHeartbeats 4000000
set_option maxRecDepth 100000
theorem in1L_ok (n lo hi : Int) : Gives Tryz.prog 119 [i64 n, .fp [i64 lo], .fp [i64 hi]] (fun _ => bl (decide (n < lo) || decide (hi < n))) := by
  refine pure_intro (ow := fun _ => false) Tryz.func119 Tryz.ntmps119 rfl (by kernel_rfl) (by simp) rfl (by decide) fun G hG hOw hNm hB => ?_; simp only [go_sem, hG, hOw]
  (repeat' with_reducible first | refine And.intro ?_ ?_ | intro _ | refine exP ?_ ?_); all_goals try omega
  · rename_i h; rw [decide_eq_false h]; rfl
  · rename_i h; rw [decide_eq_true h]; rfl
theorem inL_ok (lo hi : Int) (l : List Int) : Gives Tryz.prog 86 [i64 lo, i64 hi, .lst 0 1 (l.map intE)] (fun _ => bl (l.all fun n => inB n lo hi)) := by
  refine pure_intro (ow := fun _ => false) Tryz.func86 Tryz.ntmps86 rfl (by kernel_rfl) (by simp) rfl (by decide) fun G hG hOw hNm hB => ?_; simp only [go_sem, hG, hOw]
  refine call_frz (fun i => [3, 4].contains i) ?_
  simp only [go_sem, hG, hOw]
  refine call_pureA (ContainsFunc_Int _ [.fp [i64 lo], .fp [i64 hi]] (fun n => decide (n < lo) || decide (hi < n)) l rfl (fun x _ => in1L_ok x lo hi)) ?_
  simp only [go_sem, hG, hOw]
  rw [List.not_any_eq_all_not]
  congr 1
  funext n
  rw [Bool.eq_iff_iff]; simp [inB]
theorem inL_one (lo hi n : Int) : Gives Tryz.prog 86 [i64 lo, i64 hi, .lst 0 1 [[i64 n]]] (fun _ => bl (inB n lo hi)) := by
  have := inL_ok lo hi [n]
  simpa [intE] using this
theorem word1_ok (b : UInt8) : Gives Tryz.prog 121 [.v (.int .u8 b.toNat)] (fun _ => bl (!letterB b)) := by
  refine pure_intro (ow := fun _ => false) Tryz.func121 Tryz.ntmps121 rfl (by kernel_rfl) (by simp) rfl (by decide) fun G hG hOw hNm hB => ?_; simp only [go_sem, hG, hOw]
  (repeat' with_reducible first | refine And.intro ?_ ?_ | intro _ | refine exP ?_ ?_); all_goals try omega
  · rename_i h; simp [letterB]; intro; omega
  · rename_i h; simp [letterB]; omega
theorem word_ok (s : ByteArray) : Gives Tryz.prog 89 [.v (.string s)] (fun _ => bl (wordB s)) := by
  refine pure_intro (ow := fun _ => false) Tryz.func89 Tryz.ntmps89 rfl (by kernel_rfl) (by simp) rfl (by decide) fun G hG hOw hNm hB => ?_; simp only [go_sem, hG, hOw]
  refine call_pureA (inL_one 1 12 s.size) ?_
  simp only [go_sem, hG, hOw]
  (repeat' with_reducible first | refine And.intro ?_ ?_ | intro _ | refine exP ?_ ?_); all_goals try omega
  · rename_i h; simp [inB] at h; omega
  · rename_i h
    refine call_pureA (ContainsFunc_Byte _ [] (fun b => !letterB b) s.data.toList rfl (fun b _ => word1_ok b)) ?_
    simp only [go_sem, hG, hOw]
    unfold wordB; rw [h, Bool.and_true, List.not_any_eq_all_not]; simp
  · rename_i h; unfold wordB; rw [h, Bool.and_false]
end Go.Proofs.YtppcbmpiphhphaaGreatDoor
