/- The law HandRounds is proved: for every round and all numbers, the call returns true, and each argument reads behind it as it read before. No condition. -/
import Derived.Test.YtgeldamcekjdgaaRH
import Derived.Test.YtgeldamcekjdgaaHL0
namespace Go.Proofs.Ytgeldamcekjdgaa
open Go Pm
set_option linter.unusedSimpArgs false
set_option linter.unusedVariables false
theorem HandRounds_holds : Rows.HandRoundsSaid :=
  OpenClaim.holds_of_wide 3 Try.f3 rfl rfl rfl rfl rfl rfl rfl ⟨rfl, rfl, rfl, rfl, rfl⟩ rfl rfl rfl rfl rfl (by kernel_rfl) Try.func3 (by kernel_rfl)
    (of_decide_eq_true (by kernel_rfl)) (by unfold Func.isWrapper; first | (rw [if_pos (by decide +kernel)]; kernel_rfl) | (rw [if_neg (by decide +kernel)]; exact ⟨rfl, rfl⟩))
    (fun os started H enc _ => law_lifted (C := Try.checked) (ts := [29, 3, 3]) (tb := 4) (s := Rows.handRoundsSpec) Try.func3 (by kernel_rfl) (by kernel_rfl) Try.underlying4 rfl own_knob (by kernel_rfl) laid_out (by decide +kernel)
      (fun H ds h => by
        match ds, h with
        | [d1, d2, d3], _ => exact ⟨rfl, rfl, rfl⟩)
      (.cons (.struct Try.underlying29 rd_round) (.cons (.one (cells_int Try.underlying3) rd_int) (.cons (.one (cells_int Try.underlying3) rd_int) .nil)))
      (fun ⟨r, n, k, _⟩ _ => HandRounds_ok r n k) os started H enc
      (ChangeSpec.witness6 (enc := enc) (C := Try.checked) false ⟨#[], #[.agg #[.slice none 0 0, .slice none 0 0, .slice none 0 0, .slice none 0 0], .int .i64 0, .int .i64 0], []⟩ 8 (by kernel_rfl) (by kernel_rfl) (by kernel_rfl) (by kernel_rfl)))
#print axioms HandRounds_holds
end Go.Proofs.Ytgeldamcekjdgaa
