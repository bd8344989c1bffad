import Derived.Test.YtagfopbijboajaaDoorQX32
import Derived.Test.YtagfopbijboajaaDoorQX33
namespace Go.Proofs.YtagfopbijboajaaDoor
open Go Pm
set_option linter.unusedSimpArgs false
set_option linter.unusedVariables false
set_option maxHeartbeats 4000000
set_option maxRecDepth 100000
set_option maxHeartbeats 4000000
set_option maxRecDepth 100000
theorem SamePairs_ok (l m : List (Int × Int)) : Gives Tryd.prog 21 [prs 0 l, prs 0 m] (fun _ => bl (decide (l = m))) := by
  refine pure_intro (ow := fun _ => false) Tryd.func21 Tryd.ntmps21 rfl (by kernel_rfl) (by simp) rfl (by decide) fun G hG hOw hNm hB => ?_; simp only [go_sem, hG, hOw]
  have hl := bd_lst hB (List.mem_cons_self ..)
  simp only [List.length_map] at hl
  refine ⟨fun h => ?_, fun h => ?_⟩
  · rw [decide_eq_false]
    rintro rfl
    simp at h
  have hlen : l.length = m.length := by omega
  refine semC_loop (fun k : Nat => St.of [(0, prs 0 l), (1, prs 0 m), (5, i64 k)] []) (fun k => k ≤ l.length ∧ l.take k = m.take k) (fun k => l.length - k) 0 (by simp) (ent_of0 (by (simp only [go_sem]) <;> simp) hNm) ?_
  rintro k ⟨hk, hall⟩
  refine vc_sound _ _ _ ?_; simp only [go_sem, hG, hOw]
  refine ⟨fun hlt => ?_, fun hge => ?_⟩
  · have hkl : k < l.length := by omega
    have hkm : k < m.length := by omega
    refine semC_draw0 mixed (by kernel_rfl) ?_
    simp only [go_sem, hG, hOw]
    (repeat' with_reducible first | refine And.intro ?_ ?_ | intro _ | refine exP ?_ ?_); all_goals try omega
    · rename_i h1
      rw [decide_eq_false]
      rintro rfl
      simp at h1
    · rename_i h1
      refine ⟨k + 1, ⟨by omega, ?_⟩, by omega, ent_of0 (by (simp only [go_sem]) <;> simp) hNm⟩
      have e : l[k] = m[k] := by
        have := h1
        simp at this
        exact Prod.ext this.1 this.2
      rw [List.take_add_one, List.take_add_one, hall, List.getElem?_eq_getElem (by omega), List.getElem?_eq_getElem (by omega), e]
  · rw [take_full hk hge, take_full (by omega) (by omega)] at hall
    rw [hall]; simp
open Go Pm
set_option maxHeartbeats 4000000
set_option maxRecDepth 100000
def prfL (d : Nat → Bool) : Nat → List (Int × Int) × Int
  | 0 => ([], -1)
  | k + 1 => if (decide ((prfL d k).2 < k) && d k) = true then ((prfL d k).1 ++ [((k : Int), (k : Int) + 1)], (k : Int) + 1) else prfL d k
def prf1 (d : Nat → Bool) (k : Nat) : List (Int × Int) := (prfL d k).1
def prf2 (d : Nat → Bool) (k : Nat) : Int := (prfL d k).2
theorem prf1_zero (d : Nat → Bool) : prf1 d 0 = [] := rfl
theorem prf2_zero (d : Nat → Bool) : prf2 d 0 = -1 := rfl
attribute [go_sem] prf1_zero prf2_zero
theorem prf_yes {d : Nat → Bool} {k : Nat} (h : prf2 d k < k) (h2 : d k = true) : prf1 d (k + 1) = prf1 d k ++ [((k : Int), (k : Int) + 1)] ∧ prf2 d (k + 1) = (k : Int) + 1 := by
  unfold prf2 at h
  have e : prfL d (k + 1) = ((prfL d k).1 ++ [((k : Int), (k : Int) + 1)], (k : Int) + 1) := by simp [prfL, h, h2]
  unfold prf1 prf2
  rw [e]; exact ⟨rfl, rfl⟩
theorem prf_no {d : Nat → Bool} {k : Nat} (h : ¬ (prf2 d k < k) ∨ d k = false) : prf1 d (k + 1) = prf1 d k ∧ prf2 d (k + 1) = prf2 d k := by
  unfold prf2 at h
  have e : prfL d (k + 1) = prfL d k := by
    rw [prfL, if_neg]
    rcases h with h | h <;> simp [h]
  unfold prf1 prf2
  rw [e]; exact ⟨rfl, rfl⟩
theorem prf2_le (d : Nat → Bool) (k : Nat) : -1 ≤ prf2 d k ∧ prf2 d k ≤ k := by
  induction k with
  | zero => simp [prf2, prfL]
  | succ k ih =>
    by_cases h : prf2 d k < k ∧ d k = true
    · rw [(prf_yes h.1 h.2).2]; omega
    · rw [(prf_no (by rcases Decidable.not_and_iff_or_not.1 h with h | h; exact .inl h; exact .inr (by simpa using h))).2]; omega
def proofL (r : Ro) : List (Int × Int) := if roundE r = 0 then prf1 (differI r) (r.shares.length - 1) else []
end Go.Proofs.YtagfopbijboajaaDoor
