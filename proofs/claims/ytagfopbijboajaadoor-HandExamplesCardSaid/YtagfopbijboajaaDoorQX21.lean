import Derived.Test.YtagfopbijboajaaDoorQX16
namespace Go.Proofs.YtagfopbijboajaaDoor
open Go Pm
set_option linter.unusedSimpArgs false
set_option linter.unusedVariables false
set_option maxHeartbeats 4000000
set_option maxRecDepth 100000
theorem last_take {α : Type} (l : List α) (k : Nat) (hk : k ≤ l.length) (h : 0 < k) : (l.take k).getLast? = some (l[k - 1]'(by omega)) := by
  rw [List.getLast?_eq_getElem?, List.length_take, Nat.min_eq_left hk, List.getElem?_take, if_pos (by omega), List.getElem?_eq_getElem]
theorem last2_take {α : Type} (l : List α) (k : Nat) (hk : k ≤ l.length) (h : 1 < k) : (l.take k).dropLast.getLast? = some (l[k - 2]'(by omega)) := by
  have : (l.take k).dropLast = l.take (k - 1) := by rw [List.dropLast_eq_take, List.length_take, Nat.min_eq_left hk, List.take_take, Nat.min_eq_left (by omega)]
  rw [this, last_take l (k - 1) (by omega) (by omega)]
  congr 1
theorem last2_take01 {α : Type} (l : List α) (k : Nat) (h : k ≤ 1) : (l.take k).dropLast.getLast? = none := by
  have : (l.take k).length ≤ 1 := by rw [List.length_take]; omega
  match hm : l.take k, this with
  | [], _ => rfl
  | [x], _ => rfl
open Go Pm
set_option maxHeartbeats 4000000
set_option maxRecDepth 100000
open Go Pm
set_option maxHeartbeats 4000000
set_option maxRecDepth 100000
end Go.Proofs.YtagfopbijboajaaDoor
