/- The law SheafShelves is proved: for every shelf, all rows and every number, the call returns true, and each argument reads behind it as it read before. No condition. -/
import Derived.Test.YtgienbcekgokiaaR1
import Derived.Test.YtgienbcekgokiaaL1
namespace Go.Proofs.Ytgienbcekgokiaa
open Go Pm
set_option linter.unusedSimpArgs false
set_option linter.unusedVariables false
theorem SheafShelves_holds : Rows.SheafShelvesSaid :=
  OpenClaim.holds_of_wide 3 Try.f3 rfl rfl rfl rfl rfl rfl rfl ⟨rfl, rfl, rfl, rfl, rfl⟩ rfl rfl rfl rfl rfl (by kernel_rfl) Try.func3 (by kernel_rfl)
    (of_decide_eq_true (by kernel_rfl)) (by unfold Func.isWrapper; first | (rw [if_pos (by decide +kernel)]; kernel_rfl) | (rw [if_neg (by decide +kernel)]; exact ⟨rfl, rfl⟩))
    (fun os started H enc _ => law_lifted (C := Try.checked) (ts := [25, 22, 3]) (tb := 4) (s := Rows.sheafShelvesSpec) Try.func3 (by kernel_rfl) (by kernel_rfl) Try.underlying4 rfl own_knob (by kernel_rfl) laid_out (by decide +kernel)
      (fun H ds h => by
        match ds, h with
        | [d1, d2, d3], _ => exact ⟨rfl, rfl, rfl⟩)
      (.cons (.struct Try.underlying25 rd_shelf) (.cons (.one (cells_slice Try.underlying22) rd_strs) (.cons (.one (cells_int Try.underlying3) rd_int) .nil)))
      (fun ⟨s, l, n, _⟩ _ => SheafShelves_ok s l n) os started H enc
      (ChangeSpec.witness6 (enc := enc) (C := Try.checked) false ⟨#[], #[.agg #[.slice none 0 0, .slice none 0 0], .slice none 0 0, .int .i64 0], []⟩ 8 (by kernel_rfl) (by kernel_rfl) (by kernel_rfl) (by kernel_rfl)))
#print axioms SheafShelves_holds
end Go.Proofs.Ytgienbcekgokiaa
