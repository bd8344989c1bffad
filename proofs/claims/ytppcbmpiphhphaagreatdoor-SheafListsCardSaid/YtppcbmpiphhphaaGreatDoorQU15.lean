import Derived.Test.YtppcbmpiphhphaaGreatDoorQU13
import Derived.Test.YtppcbmpiphhphaaGreatDoorQU14
namespace Go.Proofs.YtppcbmpiphhphaaGreatDoor
open Go Pm
set_option linter.unusedSimpArgs false
set_option linter.unusedVariables false
set_option maxHeartbeats 4000000
set_option maxRecDepth 100000
theorem in1_ok (n lo hi : Int) : Gives Tryz.prog 64 [i64 n, .fp [i64 lo], .fp [i64 hi]] (fun _ => bl (decide (n < lo) || decide (hi < n))) := by
  refine pure_intro (ow := fun _ => false) Tryz.func64 Tryz.ntmps64 rfl (by kernel_rfl) (by simp) rfl (by decide) fun G hG hOw hNm hB => ?_; simp only [go_sem, hG, hOw]
  (repeat' with_reducible first | refine And.intro ?_ ?_ | intro _ | refine exP ?_ ?_); all_goals try omega
  · rename_i h; rw [decide_eq_false h]; rfl
  · rename_i h; rw [decide_eq_true h]; rfl
theorem in_ok (lo hi : Int) (l : List Int) : Gives Tryz.prog 22 [i64 lo, i64 hi, .lst 0 1 (l.map intE)] (fun _ => bl (l.all fun n => decide (lo ≤ n) && decide (n ≤ hi))) := by
  refine pure_intro (ow := fun _ => false) Tryz.func22 Tryz.ntmps22 rfl (by kernel_rfl) (by simp) rfl (by decide) fun G hG hOw hNm hB => ?_; simp only [go_sem, hG, hOw]
  refine call_frz (fun i => [3, 4].contains i) ?_
  simp only [go_sem, hG, hOw]
  refine call_pureA (ContainsFunc_Int _ [.fp [i64 lo], .fp [i64 hi]] (fun n => decide (n < lo) || decide (hi < n)) l rfl (fun x _ => in1_ok x lo hi)) ?_
  simp only [go_sem, hG, hOw]
  rw [List.not_any_eq_all_not]
  congr 1
  funext n
  rw [Bool.eq_iff_iff]; simp
theorem one1_ok (b : UInt8) : Gives Tryz.prog 128 [.v (.int .u8 b.toNat)] (fun _ => bl (!byteOK b)) := by
  refine pure_intro (ow := fun _ => false) Tryz.func128 Tryz.ntmps128 rfl (by kernel_rfl) (by simp) rfl (by decide) fun G hG hOw hNm hB => ?_; simp only [go_sem, hG, hOw]
  (repeat' with_reducible first | refine And.intro ?_ ?_ | intro _ | refine exP ?_ ?_); all_goals try omega
  · rename_i h; simp [byteOK]; intro; omega
  · rename_i h; simp [byteOK]; omega
theorem in_one (lo hi n : Int) : Gives Tryz.prog 22 [i64 lo, i64 hi, .lst 0 1 [[i64 n]]] (fun _ => bl (decide (lo ≤ n) && decide (n ≤ hi))) := by
  have := in_ok lo hi [n]
  simpa [intE] using this
theorem one_ok (s : ByteArray) : Gives Tryz.prog 102 [.v (.string s)] (fun _ => bl (rowB s)) := by
  refine pure_intro (ow := fun _ => false) Tryz.func102 Tryz.ntmps102 rfl (by kernel_rfl) (by simp) rfl (by decide) fun G hG hOw hNm hB => ?_; simp only [go_sem, hG, hOw]
  refine call_pureA (in_one 1 160 s.size) ?_
  simp only [go_sem, hG, hOw]
  (repeat' with_reducible first | refine And.intro ?_ ?_ | intro _ | refine exP ?_ ?_); all_goals try omega
  · rename_i h
    simp at h
    omega
  · rename_i h
    refine call_pureA (ContainsFunc_Byte _ [] (fun b => !byteOK b) s.data.toList rfl (fun b _ => one1_ok b)) ?_
    simp only [go_sem, hG, hOw]
    unfold rowB
    rw [h, List.not_any_eq_all_not]
    simp
  · rename_i h
    unfold rowB
    rw [h]; rfl
theorem Check1_ok (s : ByteArray) : Gives Tryz.prog 101 [.v (.string s)] (fun _ => bl (!rowB s)) := by
  refine pure_intro (ow := fun _ => false) Tryz.func101 Tryz.ntmps101 rfl (by kernel_rfl) (by simp) rfl (by decide) fun G hG hOw hNm hB => ?_; simp only [go_sem, hG, hOw]
  refine call_pureA (one_ok s) ?_
  simp only [go_sem, hG, hOw]
theorem Check_ok (l : List ByteArray) : Gives Tryz.prog 69 [strs 0 l] (fun _ => i64 (if rowsB l = true then 0 else 110)) := by
  refine pure_intro (ow := fun _ => false) Tryz.func69 Tryz.ntmps69 rfl (by kernel_rfl) (by simp) rfl (by decide) fun G hG hOw hNm hB => ?_; simp only [go_sem, hG, hOw]
  (repeat' with_reducible first | refine And.intro ?_ ?_ | intro _ | refine exP ?_ ?_); all_goals try omega
  · rename_i h
    refine call_pureA (ContainsFunc_Str _ [] (fun s => !rowB s) l rfl (fun s _ => Check1_ok s)) ?_
    simp only [go_sem, hG, hOw]
    have e : rowsB l = !(l.any fun s => !rowB s) := by
      unfold rowsB
      rw [List.not_any_eq_all_not, decide_eq_true (by omega), Bool.and_true]
      simp
    (repeat' with_reducible first | refine And.intro ?_ ?_ | intro _ | refine exP ?_ ?_); all_goals try omega
    · rename_i h2; rw [e, h2]; rfl
    · rename_i h2; rw [e, h2]; rfl
  · rename_i h
    unfold rowsB
    rw [decide_eq_false (by omega), Bool.and_false]; rfl
end Go.Proofs.YtppcbmpiphhphaaGreatDoor
