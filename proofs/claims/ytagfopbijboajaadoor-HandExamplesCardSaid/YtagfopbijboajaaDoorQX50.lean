import Derived.Test.YtagfopbijboajaaDoorQX48
import Derived.Test.YtagfopbijboajaaDoorQX49
namespace Go.Proofs.YtagfopbijboajaaDoor
open Go Pm Go.RowKit Go.ChangeShapes Go.WideShapes Go.ChangeAt
set_option linter.unusedSimpArgs false
set_option linter.unusedVariables false
set_option maxRecDepth 100000
theorem HandExamples_holds : Rows.HandExamplesSaid :=
  OpenClaim.holds_of_wide 3 Tryd.f3 rfl rfl rfl rfl rfl rfl rfl ⟨rfl, rfl, rfl, rfl, rfl⟩ rfl rfl rfl rfl rfl (by kernel_rfl) Tryd.func3 (by kernel_rfl)
    (of_decide_eq_true (by kernel_rfl)) (by unfold Func.isWrapper; first | (rw [if_pos (by decide +kernel)]; kernel_rfl) | (rw [if_neg (by decide +kernel)]; exact ⟨rfl, rfl⟩))
    (fun os started H enc _ => law_laid (C := Tryd.checked) (ts := ([] : List TypeId)) (tb := 4) (s := Rows.handExamplesSpec) (laid := laidAll) globs_known Tryd.func3 (by kernel_rfl) (by kernel_rfl) Tryd.underlying4 rfl own_knob (by kernel_rfl) laid_out (by decide +kernel)
      (fun H ds h => by
        match ds, h with
        | [], _ => exact ⟨rfl, rfl, rfl⟩)
      .nil
      (fun _ _ => HandExamples_ok) os started H enc
      (ChangeSpec.witness_shaped (enc := enc) (C := Tryd.checked) (os := os) (X := fun w _ => laidMetH Tryd.prog laidAll w) false (World.doorLaid Tryd.prog 25 os) #[] 8 (door_os os) (door_shaped os _) (by kernel_rfl) (by kernel_rfl) (by kernel_rfl) (door_met os _)))
theorem HandExamples_card : Rows.HandExamplesCardSaid :=
  Claim7.holds_tied_plain_at .later [] [.funcs, .funcs] true Rows.handExamplesCard.stood.harness false
    HandExamples_holds (fun _ h => by cases h) (by kernel_rfl) (fun _ h => by cases h) handExamples_row_tie rfl ⟨rfl, rfl⟩ (by kernel_rfl) rfl
    (fun f fn hf hfn => by
      obtain rfl : f = 3 := Option.some.inj ((show Tryd.prog.funcNamed "postil/postillaw05.HandExamples" = some 3 by kernel_rfl).symm.trans hf) |>.symm
      obtain rfl : fn = Tryd.f3 := (Option.some.inj (Tryd.func3.symm.trans hfn)).symm
      exact ⟨by kernel_rfl, fun j t ht => by
        have hm : t ∈ ([] : List TypeId) := by simpa using Array.mem_of_getElem? ht
        have hall : (([] : List TypeId).all fun u => !Tryd.prog.wantsStandIn u) = true := by kernel_rfl
        exact (show Tryd.prog.wantsStandIn t = false by simpa using List.all_eq_true.1 hall t hm)⟩)
    (by kernel_rfl)
end Go.Proofs.YtagfopbijboajaaDoor
