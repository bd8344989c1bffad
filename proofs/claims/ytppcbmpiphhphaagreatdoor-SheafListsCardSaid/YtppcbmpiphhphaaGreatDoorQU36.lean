import Derived.Test.YtppcbmpiphhphaaGreatDoorQU17
import Derived.Test.YtppcbmpiphhphaaGreatDoorQU22
import Derived.Test.YtppcbmpiphhphaaGreatDoorQU31
namespace Go.Proofs.YtppcbmpiphhphaaGreatDoor
open Go Pm
set_option linter.unusedSimpArgs false
set_option linter.unusedVariables false
set_option maxHeartbeats 4000000
set_option maxRecDepth 100000
instance : DecidableEq Rd := fun a b => by cases a; cases b; simp only [Rd.mk.injEq]; infer_instance
instance : DecidableEq Cp := fun a b => by cases a; cases b; simp only [Cp.mk.injEq]; infer_instance
theorem rline_yes (t : List Ch) (ht : OKtB t) (a b : Int) (w : Int) (l : List ByteArray) (h : lineO t a b = some l) : Gives Tryz.prog 166 [txE 0 t, .agg [i64 a, i64 b, i64 w]] (fun _ => .tup [strs 0 l, bl true]) := by
  obtain ⟨ht1, ht2⟩ := ht
  unfold lineO at h
  split at h
  · rename_i hab
    obtain ⟨ha, hb⟩ := hab
    obtain ⟨a, rfl⟩ := Int.eq_ofNat_of_zero_le ha
    obtain ⟨b, rfl⟩ := Int.eq_ofNat_of_zero_le hb
    simp only [Int.toNat_natCast, Option.bind_eq_some_iff] at h
    obtain ⟨c, hc, hl⟩ := h
    obtain ⟨hat, rfl⟩ := List.getElem?_eq_some_iff.1 hc
    obtain ⟨hbl, rfl⟩ := List.getElem?_eq_some_iff.1 hl
    have ht3 := (ht2 _ (List.getElem_mem hat)).1
    have e1 : inB (a : Int) 0 ((t.length : Int) - 1) = true := by simp [inB]; omega
    have e2 : inB (b : Int) 0 ((t[a].lines.length : Int) - 1) = true := by simp [inB]; omega
    refine pure_intro (ow := fun _ => false) Tryz.func166 Tryz.ntmps166 rfl (by kernel_rfl) (by simp) rfl (by decide) fun G hG hOw hNm hB => ?_; simp only [go_sem, hG, hOw]
    refine semC_draw0 mixed (by kernel_rfl) ?_
    simp only [go_sem, hG, hOw]
    (repeat' with_reducible first | refine And.intro ?_ ?_ | intro _ | refine exP ?_ ?_); all_goals try omega
    refine ⟨_, callGivesA (within01_ok a 0 ((t.length : Int) - 1)), ?_⟩
    simp (maxSteps := 2000000) only [go_sem, hG, hOw, e1]
    (repeat' with_reducible first | refine And.intro ?_ ?_ | intro _ | refine exP ?_ ?_); all_goals try omega
    refine ⟨_, callGivesA (within01_ok b 0 ((t[a].lines.length : Int) - 1)), ?_⟩
    simp (maxSteps := 2000000) only [go_sem, hG, hOw, e2]
    (repeat' with_reducible first | refine And.intro ?_ ?_ | intro _ | refine exP ?_ ?_); all_goals try omega
    refine semC_draw0 mixed (by kernel_rfl) ?_
    simp only [go_sem, hG, hOw]
    (repeat' with_reducible first | refine And.intro ?_ ?_ | intro _ | refine exP ?_ ?_); all_goals try omega
  · cases h
theorem rline_no (t : List Ch) (ht : OKtB t) (a b : Int) (w : Int) (h : lineO t a b = none) : Gives Tryz.prog 166 [txE 0 t, .agg [i64 a, i64 b, i64 w]] (fun _ => .tup [strs 0 [], bl false]) := by
  obtain ⟨ht1, ht2⟩ := ht
  refine pure_intro (ow := fun _ => false) Tryz.func166 Tryz.ntmps166 rfl (by kernel_rfl) (by simp) rfl (by decide) fun G hG hOw hNm hB => ?_; simp only [go_sem, hG, hOw]
  refine semC_draw0 mixed (by kernel_rfl) ?_
  simp only [go_sem, hG, hOw]
  (repeat' with_reducible first | refine And.intro ?_ ?_ | intro _ | refine exP ?_ ?_); all_goals try omega
  refine ⟨_, callGivesA (within01_ok a 0 ((t.length : Int) - 1)), ?_⟩
  cases e1 : inB a 0 ((t.length : Int) - 1) with
  | false =>
    simp only [go_sem, hG, hOw]
    (repeat' with_reducible first | refine And.intro ?_ ?_ | intro _ | refine exP ?_ ?_); all_goals try omega
    exact Subs.tup (.cons (.nil _ _) (.cons (.refl _) .nil))
  | true =>
    have ha : 0 ≤ a ∧ a ≤ (t.length : Int) - 1 := by simpa [inB] using e1
    obtain ⟨ha0, ha1⟩ := ha
    obtain ⟨a, rfl⟩ := Int.eq_ofNat_of_zero_le ha0
    have hat : a < t.length := by omega
    have ht3 := (ht2 _ (List.getElem_mem hat)).1
    have e2 : inB b 0 ((t[a].lines.length : Int) - 1) = false := by
      cases e2 : inB b 0 ((t[a].lines.length : Int) - 1) with
      | false => rfl
      | true =>
        exfalso
        have hb : 0 ≤ b ∧ b ≤ (t[a].lines.length : Int) - 1 := by simpa [inB] using e2
        obtain ⟨b, rfl⟩ := Int.eq_ofNat_of_zero_le hb.1
        have hbl : b < t[a].lines.length := by omega
        simp [lineO, hat, hbl] at h
    simp only [go_sem, hG, hOw]
    (repeat' with_reducible first | refine And.intro ?_ ?_ | intro _ | refine exP ?_ ?_); all_goals try omega
    refine ⟨_, callGivesA (within01_ok b 0 ((t[a].lines.length : Int) - 1)), ?_⟩
    simp (maxSteps := 2000000) only [go_sem, hG, hOw, e2]
    (repeat' with_reducible first | refine And.intro ?_ ?_ | intro _ | refine exP ?_ ?_); all_goals try omega
    exact Subs.tup (.cons (.nil _ _) (.cons (.refl _) .nil))
open Go Pm
set_option maxHeartbeats 4000000
set_option maxRecDepth 100000
open Go Pm
set_option maxHeartbeats 4000000
set_option maxRecDepth 100000
open Go Pm
set_option maxHeartbeats 4000000
set_option maxRecDepth 100000
end Go.Proofs.YtppcbmpiphhphaaGreatDoor
