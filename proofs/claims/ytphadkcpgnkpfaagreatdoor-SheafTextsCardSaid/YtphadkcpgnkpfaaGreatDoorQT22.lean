import Derived.Test.YtphadkcpgnkpfaaGreatDoorQT10
import Derived.Test.YtphadkcpgnkpfaaGreatDoorQT19
namespace Go.Proofs.YtphadkcpgnkpfaaGreatDoor
open Go Pm
set_option linter.unusedSimpArgs false
set_option linter.unusedVariables false
set_option maxHeartbeats 4000000
set_option maxRecDepth 100000
theorem IndexFunc_Ln (k : FuncId) (cap : List V) (p : List ByteArray → Bool) (l : List (List ByteArray)) (hcap : all0 cap = true) (hf : ∀ x ∈ l, Gives Tryz.prog k ((lnE 0) x ++ cap) (fun _ => bl (p x))) :
    Gives Tryz.prog 136 [.lst 0 1 (l.map (lnE 0)), .fn (.func k) cap] (fun _ => i64 (idxOf p l)) := by
  refine pure_intro (ow := fun _ => false) Tryz.func136 Tryz.ntmps136 rfl (by kernel_rfl) (by simp) rfl (by decide) fun G hG hOw hNm hB => ?_; simp only [go_sem, hG, hOw]
  have hl := bd_lst hB (List.mem_cons_self ..)
  simp only [List.length_map] at hl
  refine semC_loop (fun i : Nat => St.of [(0, .lst 0 1 (l.map (lnE 0))), (1, .fn (.func k) cap), (7, i64 l.length), (8, i64 i)] []) (fun i => i ≤ l.length ∧ (l.take i).all (fun x => !p x) = true) (fun i => l.length - i) 0 (by simp) (entA [] (by (simp only [go_sem]) <;> simp [hcap]) (by (simp only [go_sem, entH, entH1, nilArr, obOK]) <;> simp [hcap])) ?_
  rintro i ⟨hi, hall⟩
  refine vc_sound _ _ _ ?_; simp only [go_sem, hG, hOw]
  (repeat' with_reducible first | refine And.intro ?_ ?_ | intro _ | refine exP ?_ ?_); all_goals try omega
  · rename_i hlt
    have hil : i < l.length := by omega
    refine call_pure (hf l[i] (List.getElem_mem hil)) (Subs.refl _) (by simp [allP, pureV, pure0, all0_allP hcap]) (by simp [chk, hG]) ?_
    simp only [go_sem, hG, hOw]
    (repeat' with_reducible first | refine And.intro ?_ ?_ | intro _ | refine exP ?_ ?_); all_goals try omega
    · rename_i hp
      exact (idxOf_at hil hall hp).symm
    · rename_i hp
      exact ⟨i + 1, ⟨by omega, all_take_succ hil hall (by rw [hp]; rfl)⟩, by omega, entA [] (by (simp only [go_sem]) <;> simp [hcap]) (by (simp only [go_sem, entH, entH1, nilArr, obOK]) <;> simp [hcap])⟩
  · rename_i hge
    rw [take_full hi hge] at hall
    exact (idxOf_no hall).symm
theorem ContainsFunc_Ln (k : FuncId) (cap : List V) (p : List ByteArray → Bool) (l : List (List ByteArray)) (hcap : all0 cap = true) (hf : ∀ x ∈ l, Gives Tryz.prog k ((lnE 0) x ++ cap) (fun _ => bl (p x))) :
    Gives Tryz.prog 116 [.lst 0 1 (l.map (lnE 0)), .fn (.func k) cap] (fun _ => bl (l.any p)) := by
  refine pure_intro (ow := fun _ => false) Tryz.func116 Tryz.ntmps116 rfl (by kernel_rfl) (by simp) rfl (by decide) fun G hG hOw hNm hB => ?_; simp only [go_sem, hG, hOw]
  refine call_pureA (IndexFunc_Ln k cap p l hcap hf) ?_
  simp only [go_sem, hG, hOw]
  rw [idxOf_any]
theorem in1L_ok (n lo hi : Int) : Gives Tryz.prog 74 [i64 n, .fp [i64 lo], .fp [i64 hi]] (fun _ => bl (decide (n < lo) || decide (hi < n))) := by
  refine pure_intro (ow := fun _ => false) Tryz.func74 Tryz.ntmps74 rfl (by kernel_rfl) (by simp) rfl (by decide) fun G hG hOw hNm hB => ?_; simp only [go_sem, hG, hOw]
  (repeat' with_reducible first | refine And.intro ?_ ?_ | intro _ | refine exP ?_ ?_); all_goals try omega
  · rename_i h; rw [decide_eq_false h]; rfl
  · rename_i h; rw [decide_eq_true h]; rfl
theorem inL_ok (lo hi : Int) (l : List Int) : Gives Tryz.prog 51 [i64 lo, i64 hi, .lst 0 1 (l.map intE)] (fun _ => bl (l.all fun n => inB n lo hi)) := by
  refine pure_intro (ow := fun _ => false) Tryz.func51 Tryz.ntmps51 rfl (by kernel_rfl) (by simp) rfl (by decide) fun G hG hOw hNm hB => ?_; simp only [go_sem, hG, hOw]
  refine call_frz (fun i => [3, 4].contains i) ?_
  simp only [go_sem, hG, hOw]
  refine call_pureA (ContainsFunc_Int _ [.fp [i64 lo], .fp [i64 hi]] (fun n => decide (n < lo) || decide (hi < n)) l rfl (fun x _ => in1L_ok x lo hi)) ?_
  simp only [go_sem, hG, hOw]
  rw [List.not_any_eq_all_not]
  congr 1
  funext n
  rw [Bool.eq_iff_iff]; simp [inB]
theorem inL_one (lo hi n : Int) : Gives Tryz.prog 51 [i64 lo, i64 hi, .lst 0 1 [[i64 n]]] (fun _ => bl (inB n lo hi)) := by
  have := inL_ok lo hi [n]
  simpa [intE] using this
theorem word1_ok (b : UInt8) : Gives Tryz.prog 76 [.v (.int .u8 b.toNat)] (fun _ => bl (!letterB b)) := by
  refine pure_intro (ow := fun _ => false) Tryz.func76 Tryz.ntmps76 rfl (by kernel_rfl) (by simp) rfl (by decide) fun G hG hOw hNm hB => ?_; simp only [go_sem, hG, hOw]
  (repeat' with_reducible first | refine And.intro ?_ ?_ | intro _ | refine exP ?_ ?_); all_goals try omega
  · rename_i h; simp [letterB]; intro; omega
  · rename_i h; simp [letterB]; omega
theorem word_ok (s : ByteArray) : Gives Tryz.prog 54 [.v (.string s)] (fun _ => bl (wordB s)) := by
  refine pure_intro (ow := fun _ => false) Tryz.func54 Tryz.ntmps54 rfl (by kernel_rfl) (by simp) rfl (by decide) fun G hG hOw hNm hB => ?_; simp only [go_sem, hG, hOw]
  refine call_pureA (inL_one 1 12 s.size) ?_
  simp only [go_sem, hG, hOw]
  (repeat' with_reducible first | refine And.intro ?_ ?_ | intro _ | refine exP ?_ ?_); all_goals try omega
  · rename_i h; simp [inB] at h; omega
  · rename_i h
    refine call_pureA (ContainsFunc_Byte _ [] (fun b => !letterB b) s.data.toList rfl (fun b _ => word1_ok b)) ?_
    simp only [go_sem, hG, hOw]
    unfold wordB; rw [h, Bool.and_true, List.not_any_eq_all_not]; simp
  · rename_i h; unfold wordB; rw [h, Bool.and_false]
end Go.Proofs.YtphadkcpgnkpfaaGreatDoor
