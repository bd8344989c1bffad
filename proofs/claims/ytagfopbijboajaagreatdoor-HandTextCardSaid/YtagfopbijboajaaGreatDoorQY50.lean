import Derived.Test.YtagfopbijboajaaGreatDoorQY45
import Derived.Test.YtagfopbijboajaaGreatDoorQY49
namespace Go.Proofs.YtagfopbijboajaaGreatDoor
open Go Pm Go.RowKit Go.ChangeShapes Go.WideShapes Go.ChangeAt
set_option linter.unusedSimpArgs false
set_option linter.unusedVariables false
set_option maxRecDepth 100000
theorem HandText_holds : Rows.HandTextSaid :=
  OpenClaim.holds_of_wide 3 Tryz.f3 rfl rfl rfl rfl rfl rfl rfl ⟨rfl, rfl, rfl, rfl, rfl⟩ rfl rfl rfl rfl rfl (by kernel_rfl) Tryz.func3 (by kernel_rfl)
    (of_decide_eq_true (by kernel_rfl)) (by unfold Func.isWrapper; first | (rw [if_pos (by decide +kernel)]; kernel_rfl) | (rw [if_neg (by decide +kernel)]; exact ⟨rfl, rfl⟩))
    (fun os started H enc _ => law_laid (C := Tryz.checked) (ts := [29]) (tb := 4) (s := Rows.handTextSpec) (laid := laidAll) globs_known Tryz.func3 (by kernel_rfl) (by kernel_rfl) Tryz.underlying4 rfl own_knob (by kernel_rfl) laid_out (by decide +kernel)
      (fun H ds h => by
        match ds, h with
        | [d1], _ => exact ⟨rfl, rfl, rfl⟩)
      (.cons rdv_round .nil)
      (fun ⟨r, _⟩ h => HandText_ok r) os started H enc
      (ChangeSpec.witness_shaped (enc := enc) (C := Tryz.checked) (os := os) (X := fun w _ => laidMetH Tryz.prog laidAll w) false (World.doorLaid Tryz.prog 25 os) #[zeroRo] 8 (door_os os) (door_shaped os _) (by kernel_rfl) (by kernel_rfl) (by kernel_rfl) (door_met os _)))
theorem HandText_card : Rows.HandTextCardSaid :=
  Claim7.holds_tied_plain_at .later [] [.funcs, .funcs] true Rows.handTextCard.stood.harness false
    HandText_holds (fun _ h => by cases h) (by kernel_rfl) (fun _ h => by cases h) handText_row_tie rfl ⟨rfl, rfl⟩ (by kernel_rfl) rfl
    (fun f fn hf hfn => by
      obtain rfl : f = 3 := Option.some.inj ((show Tryz.prog.funcNamed "postil/postillaw05.HandText" = some 3 by kernel_rfl).symm.trans hf) |>.symm
      obtain rfl : fn = Tryz.f3 := (Option.some.inj (Tryz.func3.symm.trans hfn)).symm
      exact ⟨by kernel_rfl, fun j t ht => by
        have hm : t ∈ [29] := by simpa using Array.mem_of_getElem? ht
        have hall : ([29].all fun u => !Tryz.prog.wantsStandIn u) = true := by kernel_rfl
        exact (show Tryz.prog.wantsStandIn t = false by simpa using List.all_eq_true.1 hall t hm)⟩)
    (by kernel_rfl)
end Go.Proofs.YtagfopbijboajaaGreatDoor
