/- What merging computes, in plain Lean. -/
import Derived.Test.YtgienbcekgokiaaSp2
namespace Go.Proofs.Ytgienbcekgokiaa
open Go Pm
set_option linter.unusedSimpArgs false
set_option linter.unusedVariables false
theorem hunkOf_bd (a b : List ByteArray) : 0 ≤ (hunkOf a b).lo ∧ 0 ≤ (hunkOf a b).drop ∧ (hunkOf a b).lo + (hunkOf a b).drop ≤ a.length ∧ (hunkOf a b).put.length ≤ b.length := by
  have h1 := cpl_le a b
  have h2 := cpl_le (a.drop (cpl a b)).reverse (b.drop (cpl a b)).reverse
  simp only [List.length_reverse, List.length_drop] at h2
  unfold hunkOf
  simp only [List.length_drop, List.length_take]
  omega
def mergeP (o a b : List ByteArray) : Hk × Hk := if (hunkOf o b).lo < (hunkOf o a).lo then (hunkOf o b, hunkOf o a) else (hunkOf o a, hunkOf o b)
theorem mergeP_bd (o a b : List ByteArray) : (0 ≤ (mergeP o a b).1.lo ∧ 0 ≤ (mergeP o a b).1.drop ∧ (mergeP o a b).1.lo + (mergeP o a b).1.drop ≤ o.length ∧ (mergeP o a b).1.put.length ≤ max a.length b.length) ∧
    (0 ≤ (mergeP o a b).2.lo ∧ 0 ≤ (mergeP o a b).2.drop ∧ (mergeP o a b).2.lo + (mergeP o a b).2.drop ≤ o.length ∧ (mergeP o a b).2.put.length ≤ max a.length b.length) := by
  have h1 := hunkOf_bd o a
  have h2 := hunkOf_bd o b
  unfold mergeP
  split <;> simp only <;> omega
def bothL (o : List ByteArray) (p : Hk × Hk) : List ByteArray := madeL (madeL o p.2) p.1
theorem madeB_of {o : List ByteArray} {h : Hk} (h1 : 0 ≤ h.lo) (h2 : 0 ≤ h.drop) (h3 : h.lo + h.drop ≤ o.length) : madeB o h = true := by
  unfold madeB
  simp only [Bool.and_eq_true, decide_eq_true_eq]
  omega
theorem madeL_ge {o : List ByteArray} {h : Hk} (hb : madeB o h = true) : h.lo ≤ (madeL o h).length ∧ (madeL o h).length ≤ o.length + h.put.length := by
  have hb' := hb
  simp only [madeB, Bool.and_eq_true, decide_eq_true_eq] at hb'
  simp only [madeL, hb, if_true, List.length_append, List.length_take, List.length_drop]
  omega
theorem bothB {o : List ByteArray} {p : Hk × Hk} (h1 : 0 ≤ p.1.lo ∧ 0 ≤ p.1.drop) (h2 : madeB o p.2 = true) (h : p.1.lo + p.1.drop < p.2.lo) : madeB (madeL o p.2) p.1 = true := by
  have := madeL_ge h2
  exact madeB_of h1.1 h1.2 (by omega)
def mergeE (o a b : List ByteArray) : Int :=
  if rowsB o = true ∧ rowsB a = true ∧ rowsB b = true then
    if o = a ∨ o = b ∨ a = b then 0
    else if (mergeP o a b).2.lo ≤ (mergeP o a b).1.lo + (mergeP o a b).1.drop then 113
    else if rowsB (bothL o (mergeP o a b)) = true then 0 else 110
  else 110
def mergeL (o a b : List ByteArray) : List ByteArray :=
  if mergeE o a b = 0 then if o = a then b else if o = b ∨ a = b then a else bothL o (mergeP o a b) else []
theorem merge_bad {o a b : List ByteArray} (h : ¬ (rowsB o = true ∧ rowsB a = true ∧ rowsB b = true)) : mergeE o a b = 110 ∧ mergeL o a b = [] := by
  have : mergeE o a b = 110 := by unfold mergeE; rw [if_neg h]
  exact ⟨this, by simp [mergeL, this]⟩
theorem merge_1 {o a b : List ByteArray} (h : rowsB o = true ∧ rowsB a = true ∧ rowsB b = true) (he : o = a) : mergeE o a b = 0 ∧ mergeL o a b = b := by
  have : mergeE o a b = 0 := by unfold mergeE; rw [if_pos h, if_pos (.inl he)]
  exact ⟨this, by unfold mergeL; rw [if_pos this, if_pos he]⟩
theorem merge_2 {o a b : List ByteArray} (h : rowsB o = true ∧ rowsB a = true ∧ rowsB b = true) (hn : ¬ o = a) (he : o = b ∨ a = b) : mergeE o a b = 0 ∧ mergeL o a b = a := by
  have : mergeE o a b = 0 := by unfold mergeE; rw [if_pos h, if_pos (.inr he)]
  exact ⟨this, by simp [mergeL, this, he, hn]⟩
theorem merge_3 {o a b : List ByteArray} (h : rowsB o = true ∧ rowsB a = true ∧ rowsB b = true) (hn : ¬ o = a) (hn' : ¬ (o = b ∨ a = b)) (he : (mergeP o a b).2.lo ≤ (mergeP o a b).1.lo + (mergeP o a b).1.drop) : mergeE o a b = 113 ∧ mergeL o a b = [] := by
  have : mergeE o a b = 113 := by unfold mergeE; rw [if_pos h, if_neg (fun h => h.elim hn hn'), if_pos he]
  exact ⟨this, by simp [mergeL, this]⟩
theorem merge_4 {o a b : List ByteArray} (h : rowsB o = true ∧ rowsB a = true ∧ rowsB b = true) (hn : ¬ o = a) (hn' : ¬ (o = b ∨ a = b)) (he : ¬ (mergeP o a b).2.lo ≤ (mergeP o a b).1.lo + (mergeP o a b).1.drop) (hr : rowsB (bothL o (mergeP o a b)) = false) : mergeE o a b = 110 ∧ mergeL o a b = [] := by
  have : mergeE o a b = 110 := by unfold mergeE; rw [if_pos h, if_neg (fun h => h.elim hn hn'), if_neg he, if_neg (by rw [hr]; decide)]
  exact ⟨this, by simp [mergeL, this]⟩
theorem merge_5 {o a b : List ByteArray} (h : rowsB o = true ∧ rowsB a = true ∧ rowsB b = true) (hn : ¬ o = a) (hn' : ¬ (o = b ∨ a = b)) (he : ¬ (mergeP o a b).2.lo ≤ (mergeP o a b).1.lo + (mergeP o a b).1.drop) (hr : rowsB (bothL o (mergeP o a b)) = true) : mergeE o a b = 0 ∧ mergeL o a b = bothL o (mergeP o a b) := by
  have : mergeE o a b = 0 := by unfold mergeE; rw [if_pos h, if_neg (fun h => h.elim hn hn'), if_neg he, if_pos hr]
  exact ⟨this, by simp [mergeL, this, hn, hn']⟩
def srt (x y : Hk) : List Hk := if y.lo < x.lo then [y, x] else [x, y]
theorem srt_mergeP (o a b : List ByteArray) : srt (hunkOf o a) (hunkOf o b) = [(mergeP o a b).1, (mergeP o a b).2] := by
  unfold srt mergeP; split <;> rfl
end Go.Proofs.Ytgienbcekgokiaa
