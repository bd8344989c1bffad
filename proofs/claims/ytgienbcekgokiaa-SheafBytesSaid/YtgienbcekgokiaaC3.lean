/- The law SheafBytes is proved: for all rows and every text, the call returns true, and each argument reads behind it as it read before. No condition. -/
import Derived.Test.YtgienbcekgokiaaR1
import Derived.Test.YtgienbcekgokiaaL3
namespace Go.Proofs.Ytgienbcekgokiaa
open Go Pm
set_option linter.unusedSimpArgs false
set_option linter.unusedVariables false
theorem SheafBytes_holds : Rows.SheafBytesSaid :=
  OpenClaim.holds_of_wide 4 Try.f4 rfl rfl rfl rfl rfl rfl rfl ⟨rfl, rfl, rfl, rfl, rfl⟩ rfl rfl rfl rfl rfl (by kernel_rfl) Try.func4 (by kernel_rfl)
    (of_decide_eq_true (by kernel_rfl)) (by unfold Func.isWrapper; first | (rw [if_pos (by decide +kernel)]; kernel_rfl) | (rw [if_neg (by decide +kernel)]; exact ⟨rfl, rfl⟩))
    (fun os started H enc _ => law_lifted (C := Try.checked) (ts := [22, 9]) (tb := 4) (s := Rows.sheafBytesSpec) Try.func4 (by kernel_rfl) (by kernel_rfl) Try.underlying4 rfl own_knob (by kernel_rfl) laid_out (by decide +kernel)
      (fun H ds h => by
        match ds, h with
        | [d1, d2], _ => exact ⟨rfl, rfl, rfl⟩)
      (.cons (.one (cells_slice Try.underlying22) rd_strs) (.cons (.one (cells_string Try.underlying9) rd_string) .nil))
      (fun ⟨l, s, _⟩ _ => SheafBytes_ok l s) os started H enc
      (ChangeSpec.witness6 (enc := enc) (C := Try.checked) false ⟨#[], #[.slice none 0 0, .string .empty], []⟩ 8 (by kernel_rfl) (by kernel_rfl) (by kernel_rfl) (by kernel_rfl)))
#print axioms SheafBytes_holds
end Go.Proofs.Ytgienbcekgokiaa
