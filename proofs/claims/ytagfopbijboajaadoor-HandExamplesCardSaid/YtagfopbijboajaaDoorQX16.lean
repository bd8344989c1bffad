import Derived.Test.YtagfopbijboajaaDoorQX10
import Derived.Test.YtagfopbijboajaaDoorQX13
namespace Go.Proofs.YtagfopbijboajaaDoor
open Go Pm
set_option linter.unusedSimpArgs false
set_option linter.unusedVariables false
set_option maxHeartbeats 4000000
set_option maxRecDepth 100000
open Go Pm
set_option maxHeartbeats 4000000
set_option maxRecDepth 100000
theorem linesL_step (t : List Ch) (k : Nat) (hk : k < t.length) : linesL (t.take (k + 1)) = linesL (t.take k) ++ t[k].lines := by
  unfold linesL
  rw [List.take_add_one, List.getElem?_eq_getElem hk, List.flatMap_append]; simp
theorem take_map_succ {α β : Type} (f : α → β) (l : List α) (k : Nat) (hk : k < l.length) : (l.map f).take (k + 1) = (l.map f).take k ++ [f l[k]] := by
  rw [List.take_add_one, List.getElem?_eq_getElem (by simpa using hk)]; simp
theorem linesL_len (t : List Ch) (ht : OKt t) (k : Nat) : (linesL (t.take k)).length ≤ 40 * k := by
  induction k with
  | zero => simp [linesL]
  | succ k ih =>
    by_cases hk : k < t.length
    · rw [linesL_step t k hk, List.length_append]
      have := (ht.2 _ (List.getElem_mem hk)).1
      omega
    · rw [List.take_of_length_le (by omega)] at ih ⊢
      omega
theorem linesL_all (t : List Ch) (ht : OKt t) : (linesL t).length ≤ 400 := by
  have := linesL_len t ht t.length
  rw [List.take_length] at this
  have := ht.1
  omega
end Go.Proofs.YtagfopbijboajaaDoor
