/- The document's answer: rounds. -/
import Derived.Test.YtgeldamcekjdgaaH2
namespace Go.Proofs.Ytgeldamcekjdgaa
open Go Pm
set_option linter.unusedSimpArgs false
set_option linter.unusedVariables false
set_option maxHeartbeats 4000000
set_option maxRecDepth 100000
theorem last_take {α : Type} (l : List α) (k : Nat) (hk : k ≤ l.length) (h : 0 < k) : (l.take k).getLast? = some (l[k - 1]'(by omega)) := by
  rw [List.getLast?_eq_getElem?, List.length_take, Nat.min_eq_left hk, List.getElem?_take, if_pos (by omega), List.getElem?_eq_getElem]
theorem last2_take {α : Type} (l : List α) (k : Nat) (hk : k ≤ l.length) (h : 1 < k) : (l.take k).dropLast.getLast? = some (l[k - 2]'(by omega)) := by
  have : (l.take k).dropLast = l.take (k - 1) := by rw [List.dropLast_eq_take, List.length_take, Nat.min_eq_left hk, List.take_take, Nat.min_eq_left (by omega)]
  rw [this, last_take l (k - 1) (by omega) (by omega)]
  congr 1
theorem last_take0 {α : Type} (l : List α) : (l.take 0).getLast? = none := rfl
theorem last2_take01 {α : Type} (l : List α) (k : Nat) (h : k ≤ 1) : (l.take k).dropLast.getLast? = none := by
  have : (l.take k).length ≤ 1 := by rw [List.length_take]; omega
  match hm : l.take k, this with
  | [], _ => rfl
  | [x], _ => rfl
theorem Round_share (r : Ro) {G : Gh} {Q : Exit → St → Prop} (hG : G.n = 215) (hOw : G.ow = fun _ => false) (hNm : G.nm = []) (m : Nat) (hml : m < r.shares.length) (e1 : inB r.shares[m].fr 0 r.shares[m].to = true) (e2 : ¬ ((linesL r.text).length : Int) ≤ r.shares[m].to)
    (e3 : inB r.shares[m].helper 0 (r.helpers.length - 1) = true) (e4 : inB r.shares[m].sent 0 400 = true) (hs : r.shares.length ≤ 12) :
    SemC Try.prog G (rgOf 21 Try.f41.body) (St.of [(1, .ptr 1 0), (6, i64 (linesL r.text).length), (7, i64 m), (8, .ptr 8 0)] [(1, .box (roC 0 r)), (8, .box (srE r.shares[m]))])
      (midQ G (fun b : Bool => St.of [(1, .ptr 1 0), (6, i64 (linesL r.text).length), (7, i64 m), (8, .ptr 8 0), (159, bl b)] [(1, .box (roC 0 r)), (8, .box (srE r.shares[m]))])
        (fun b => shareB (linesL r.text).length r.helpers.length (r.shares.take m) r.shares[m] = !b) Q) := by
  have hm : m ≤ r.shares.length := by omega
  unfold Try.f41
  simp only [rgOf, bkOf, rgO, bkO, orElse, Option.bind_some, Option.getD_some, reduceIte, Nat.reduceEqDiff, reduceCtorEq]
  have hsh : shareB (linesL r.text).length r.helpers.length (r.shares.take m) r.shares[m] = ((match (r.shares.take m).getLast? with
      | some q => decide (q.fr < r.shares[m].fr) && decide (q.to < r.shares[m].to)
      | none => true) && (match (r.shares.take m).dropLast.getLast? with
      | some q => decide (q.to < r.shares[m].fr)
      | none => true)) := by
    have q : decide (r.shares[m].to < ((linesL r.text).length : Int)) = true := by simp; omega
    unfold shareB
    rw [e1, e3, e4, q]
    rfl
  rcases (by omega : m = 0 ∨ m = 1 ∨ 2 ≤ m) with hm0 | hm1 | hm2
  · have p0 : decide (0 < (m : Int)) = false := by simp; omega
    have p1 : decide (1 < (m : Int)) = false := by simp; omega
    rw [last2_take01 _ _ (by omega : m ≤ 1)] at hsh
    have q1 : (r.shares.take m).getLast? = none := by rw [hm0]; rfl
    rw [q1] at hsh
    refine semC_draw0 mixed (by kernel_rfl) ?_
    simp (config := { maxSteps := 2000000 }) only [go_sem, hG, hOw, p0, p1, reduceIte, Nat.reduceLeDiff, Nat.le_refl, Nat.reduceEqDiff, Nat.reduceAdd, Nat.reduceLT, reduceCtorEq, Int.toNat_natCast]
    (repeat' (first | (with_reducible refine And.intro ?_ ?_) | (with_reducible intro _) | (with_reducible refine exP ?_ ?_))); all_goals (try omega)
    exact ⟨false, hsh, ent_of [(1, some 1), (8, some 8)] (by (simp only [go_sem, reduceIte, Nat.reduceLeDiff, Nat.le_refl, Nat.reduceEqDiff, Nat.reduceAdd, Nat.reduceLT, reduceCtorEq, Int.toNat_natCast]) <;> simp) (by (simp only [go_sem, entH, entH1, nilArr, obOK, reduceIte, Nat.reduceLeDiff, Nat.le_refl, Nat.reduceEqDiff, Nat.reduceAdd, Nat.reduceLT, reduceCtorEq, Int.toNat_natCast]) <;> simp) (by simp [injR, apart]) (by simp [coverR, usH]) (by simp [hNm, lkR, names])⟩
  · have p0 : decide (0 < (m : Int)) = true := by simp; omega
    have p1 : decide (1 < (m : Int)) = false := by simp; omega
    have x1 : ((m : Int) - 1).toNat = m - 1 := by omega
    rw [last2_take01 _ _ (by omega : m ≤ 1), last_take _ m hm (by omega)] at hsh
    refine semC_draw0 mixed (by kernel_rfl) ?_
    simp (config := { maxSteps := 2000000 }) only [go_sem, hG, hOw, p0, p1, x1, reduceIte, Nat.reduceLeDiff, Nat.le_refl, Nat.reduceEqDiff, Nat.reduceAdd, Nat.reduceLT, reduceCtorEq, Int.toNat_natCast]
    (repeat' (first | (with_reducible refine And.intro ?_ ?_) | (with_reducible intro _) | (with_reducible refine exP ?_ ?_))); all_goals (try omega)
    · exact ⟨false, by rw [hsh]; simp; omega, ent_of [(1, some 1), (8, some 8)] (by (simp only [go_sem, reduceIte, Nat.reduceLeDiff, Nat.le_refl, Nat.reduceEqDiff, Nat.reduceAdd, Nat.reduceLT, reduceCtorEq, Int.toNat_natCast]) <;> simp) (by (simp only [go_sem, entH, entH1, nilArr, obOK, reduceIte, Nat.reduceLeDiff, Nat.le_refl, Nat.reduceEqDiff, Nat.reduceAdd, Nat.reduceLT, reduceCtorEq, Int.toNat_natCast]) <;> simp) (by simp [injR, apart]) (by simp [coverR, usH]) (by simp [hNm, lkR, names])⟩
    · exact ⟨true, by rw [hsh]; simp; omega, ent_of [(1, some 1), (8, some 8)] (by (simp only [go_sem, reduceIte, Nat.reduceLeDiff, Nat.le_refl, Nat.reduceEqDiff, Nat.reduceAdd, Nat.reduceLT, reduceCtorEq, Int.toNat_natCast]) <;> simp) (by (simp only [go_sem, entH, entH1, nilArr, obOK, reduceIte, Nat.reduceLeDiff, Nat.le_refl, Nat.reduceEqDiff, Nat.reduceAdd, Nat.reduceLT, reduceCtorEq, Int.toNat_natCast]) <;> simp) (by simp [injR, apart]) (by simp [coverR, usH]) (by simp [hNm, lkR, names])⟩
    · exact ⟨true, by rw [hsh]; simp; omega, ent_of [(1, some 1), (8, some 8)] (by (simp only [go_sem, reduceIte, Nat.reduceLeDiff, Nat.le_refl, Nat.reduceEqDiff, Nat.reduceAdd, Nat.reduceLT, reduceCtorEq, Int.toNat_natCast]) <;> simp) (by (simp only [go_sem, entH, entH1, nilArr, obOK, reduceIte, Nat.reduceLeDiff, Nat.le_refl, Nat.reduceEqDiff, Nat.reduceAdd, Nat.reduceLT, reduceCtorEq, Int.toNat_natCast]) <;> simp) (by simp [injR, apart]) (by simp [coverR, usH]) (by simp [hNm, lkR, names])⟩
  · have p0 : decide (0 < (m : Int)) = true := by simp; omega
    have p1 : decide (1 < (m : Int)) = true := by simp; omega
    have x1 : ((m : Int) - 1).toNat = m - 1 := by omega
    have x2 : ((m : Int) - 2).toNat = m - 2 := by omega
    rw [last2_take _ m hm (by omega), last_take _ m hm (by omega)] at hsh
    refine semC_draw0 mixed (by kernel_rfl) ?_
    simp (config := { maxSteps := 2000000 }) only [go_sem, hG, hOw, p0, p1, x1, x2, reduceIte, Nat.reduceLeDiff, Nat.le_refl, Nat.reduceEqDiff, Nat.reduceAdd, Nat.reduceLT, reduceCtorEq, Int.toNat_natCast]
    (repeat' (first | (with_reducible refine And.intro ?_ ?_) | (with_reducible intro _) | (with_reducible refine exP ?_ ?_))); all_goals (try omega)
    · exact ⟨decide (r.shares[m].fr ≤ r.shares[m - 2].to), by
        rw [hsh]
        by_cases h : r.shares[m].fr ≤ r.shares[m - 2].to
        · simp [h]
        · simp [h]; omega, ent_of [(1, some 1), (8, some 8)] (by (simp only [go_sem, reduceIte, Nat.reduceLeDiff, Nat.le_refl, Nat.reduceEqDiff, Nat.reduceAdd, Nat.reduceLT, reduceCtorEq, Int.toNat_natCast]) <;> simp) (by (simp only [go_sem, entH, entH1, nilArr, obOK, reduceIte, Nat.reduceLeDiff, Nat.le_refl, Nat.reduceEqDiff, Nat.reduceAdd, Nat.reduceLT, reduceCtorEq, Int.toNat_natCast]) <;> simp) (by simp [injR, apart]) (by simp [coverR, usH]) (by simp [hNm, lkR, names])⟩
    · exact ⟨true, by rw [hsh]; simp; omega, ent_of [(1, some 1), (8, some 8)] (by (simp only [go_sem, reduceIte, Nat.reduceLeDiff, Nat.le_refl, Nat.reduceEqDiff, Nat.reduceAdd, Nat.reduceLT, reduceCtorEq, Int.toNat_natCast]) <;> simp) (by (simp only [go_sem, entH, entH1, nilArr, obOK, reduceIte, Nat.reduceLeDiff, Nat.le_refl, Nat.reduceEqDiff, Nat.reduceAdd, Nat.reduceLT, reduceCtorEq, Int.toNat_natCast]) <;> simp) (by simp [injR, apart]) (by simp [coverR, usH]) (by simp [hNm, lkR, names])⟩
    · exact ⟨true, by rw [hsh]; simp; omega, ent_of [(1, some 1), (8, some 8)] (by (simp only [go_sem, reduceIte, Nat.reduceLeDiff, Nat.le_refl, Nat.reduceEqDiff, Nat.reduceAdd, Nat.reduceLT, reduceCtorEq, Int.toNat_natCast]) <;> simp) (by (simp only [go_sem, entH, entH1, nilArr, obOK, reduceIte, Nat.reduceLeDiff, Nat.le_refl, Nat.reduceEqDiff, Nat.reduceAdd, Nat.reduceLT, reduceCtorEq, Int.toNat_natCast]) <;> simp) (by simp [injR, apart]) (by simp [coverR, usH]) (by simp [hNm, lkR, names])⟩
end Go.Proofs.Ytgeldamcekjdgaa
