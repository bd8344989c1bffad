import Derived.Test.YtfnohnjnncjidaaGreatDoorQP34
import Derived.Test.YtfnohnjnncjidaaGreatDoorQP46
namespace Go.Proofs.YtfnohnjnncjidaaGreatDoor
open Go Pm
set_option linter.unusedSimpArgs false
set_option linter.unusedVariables false
set_option maxHeartbeats 4000000
set_option maxRecDepth 100000
def readyB (r : Ro) : Bool := !greatR r && decide (roundE r = 0)
theorem ready_good {r : Ro} (h : readyB r = true) : OKr r ∧ Good r := by
  simp only [readyB, Bool.and_eq_true, Bool.not_eq_true', decide_eq_true_eq] at h
  exact ⟨greatR_ok h.1, good_of (greatR_ok h.1) h.2⟩
theorem ready_ok (r : Ro) : Gives Tryz.prog 27 [roE 0 r] (fun _ => bl (readyB r)) := by
  cases hg : greatR r with
  | true =>
    rw [show readyB r = false by simp [readyB, hg]]
    refine pure_intro (ow := fun _ => false) Tryz.func27 Tryz.ntmps27 rfl (by kernel_rfl) (by simp) rfl (by decide) fun G hG hOw hNm hB => ?_; simp only [go_sem, hG, hOw]
    refine call_pure (Great05_ok r) (by first | exact Subs.refl _ | (repeat' (first | exact Subs.nil | exact Sub.refl _ | exact Sub.lo (Nat.zero_le _) | refine Subs.cons ?_ ?_ | refine Subs.agg ?_ | refine Subs.fp ?_ | refine Subs.tup ?_ | refine Sub.map (Nat.zero_le _) (fun _ => ?_)))) (by first | rfl | simp [allP, all0, pureV, pure0, *]) (by simp [chk, hG]) ?_
    simp (config := { maxSteps := 2000000 }) only [go_sem, hG, hOw, hg]
    try (repeat' (first | (with_reducible refine And.intro ?_ ?_) | (with_reducible intro _) | (with_reducible refine exP ?_ ?_))); all_goals (try omega)
  | false =>
    rw [show readyB r = decide (roundE r = 0) by simp [readyB, hg]]
    have hr := greatR_ok hg
    refine pure_intro (ow := fun _ => false) Tryz.func27 Tryz.ntmps27 rfl (by kernel_rfl) (by simp) rfl (by decide) fun G hG hOw hNm hB => ?_; simp only [go_sem, hG, hOw]
    refine call_pure (Great05_ok r) (by first | exact Subs.refl _ | (repeat' (first | exact Subs.nil | exact Sub.refl _ | exact Sub.lo (Nat.zero_le _) | refine Subs.cons ?_ ?_ | refine Subs.agg ?_ | refine Subs.fp ?_ | refine Subs.tup ?_ | refine Sub.map (Nat.zero_le _) (fun _ => ?_)))) (by first | rfl | simp [allP, all0, pureV, pure0, *]) (by simp [chk, hG]) ?_
    simp (config := { maxSteps := 2000000 }) only [go_sem, hG, hOw, hg]
    (repeat' (first | (with_reducible refine And.intro ?_ ?_) | (with_reducible intro _) | (with_reducible refine exP ?_ ?_))); all_goals (try omega)
    refine call_pure (CheckR_ok r hr) (by first | exact Subs.refl _ | (repeat' (first | exact Subs.nil | exact Sub.refl _ | exact Sub.lo (Nat.zero_le _) | refine Subs.cons ?_ ?_ | refine Subs.agg ?_ | refine Subs.fp ?_ | refine Subs.tup ?_ | refine Sub.map (Nat.zero_le _) (fun _ => ?_)))) (by first | rfl | simp [allP, all0, pureV, pure0, *]) (by simp [chk, hG]) ?_
    simp only [go_sem, hG, hOw]
    try (repeat' (first | (with_reducible refine And.intro ?_ ?_) | (with_reducible intro _) | (with_reducible refine exP ?_ ?_))); all_goals (try omega)
theorem has_ok (l : List Int) (n : Int) : Gives Tryz.prog 37 [ints 0 l, i64 n] (fun _ => bl (l.any fun x => decide (x = n))) := by
  refine pure_intro (ow := fun _ => false) Tryz.func37 Tryz.ntmps37 rfl (by kernel_rfl) (by simp) rfl (by decide) fun G hG hOw hNm hB => ?_; simp only [go_sem, hG, hOw]
  have hl := bd_lst hB (List.mem_cons_self ..)
  simp only [List.length_map] at hl
  (repeat' (first | (with_reducible refine And.intro ?_ ?_) | (with_reducible intro _) | (with_reducible refine exP ?_ ?_))); all_goals (try omega)
  refine semC_loop (fun k : Nat => St.of [(1, i64 n), (7, ints 0 l), (8, i64 l.length), (9, i64 k)] []) (fun k => k ≤ l.length ∧ (l.take k).all (fun x => !decide (x = n)) = true) (fun k => l.length - k) 0 (by simp) (ent_of0 (by (simp only [go_sem]) <;> simp) hNm) ?_
  rintro k ⟨hk, hall⟩
  refine vc_sound _ _ _ ?_; simp only [go_sem, hG, hOw]
  (repeat' (first | (with_reducible refine And.intro ?_ ?_) | (with_reducible intro _) | (with_reducible refine exP ?_ ?_))); all_goals (try omega)
  · rename_i hlt h1
    have hkl : k < l.length := by omega
    rw [any_true (p := fun x => decide (x = n)) hkl (by simpa using h1)]
  · rename_i hlt h1
    have hkl : k < l.length := by omega
    refine ⟨k + 1, ⟨by omega, ?_⟩, by omega, ent_of0 (by (simp only [go_sem]) <;> simp) hNm⟩
    rw [List.take_add_one, List.getElem?_eq_getElem hkl, List.all_append, hall]
    simpa using h1
  · rename_i hge
    rw [List.take_of_length_le (by omega)] at hall
    rw [any_of_take hall]
def u32E (x : Int) : List V := [.v (.int .u32 x)]
def u32s (lo : Nat) (l : List Int) : V := .lst lo 1 (l.map u32E)
attribute [go_sem] u32E u32s
theorem allOnes_u32s (l : List Int) : allOnes (l.map u32E) = true := allOnes_map (fun _ => rfl) l
attribute [go_sem] allOnes_u32s
def chooseI (by' : List Int) (i : Nat) : Int := if by'.length = 0 then 0 else getI by' (i % by'.length)
def OKu (l : List Int) : Prop := ∀ x ∈ l, 0 ≤ x ∧ x < 4294967296
theorem chooseI_bd {l : List Int} (h : OKu l) (i : Nat) : 0 ≤ chooseI l i ∧ chooseI l i < 4294967296 := by
  unfold chooseI
  split
  · simp
  · have hlt : i % l.length < l.length := Nat.mod_lt _ (by omega)
    rw [getI_at hlt]
    exact h _ (List.getElem_mem hlt)
theorem choose_ok (l : List Int) (h : OKu l) (i : Nat) (hi : i ≤ 1000000) : Gives Tryz.prog 28 [u32s 0 l, i64 i] (fun _ => i64 (chooseI l i)) := by
  have em : (i : Int) % (l.length : Int) = ((i % l.length : Nat) : Int) := by simp
  refine pure_intro (ow := fun _ => false) Tryz.func28 Tryz.ntmps28 rfl (by kernel_rfl) (by simp) rfl (by decide) fun G hG hOw hNm hB => ?_; simp only [go_sem, hG, hOw]
  have hl := bd_lst hB (List.mem_cons_self ..)
  simp only [List.length_map] at hl
  simp only [em, Int.toNat_natCast]
  have hml := Nat.mod_le i l.length
  (repeat' (first | (with_reducible refine And.intro ?_ ?_) | (with_reducible intro _) | (with_reducible refine exP ?_ ?_))); all_goals (try omega)
  · rename_i h0
    rw [show chooseI l i = 0 by unfold chooseI; rw [if_pos (by omega)]]
  · exact Nat.mod_lt _ (by omega)
  all_goals
    rename_i h0
    have hlt : i % l.length < l.length := Nat.mod_lt _ (by omega)
    have hx := h _ (List.getElem_mem hlt)
  · omega
  · omega
  · unfold chooseI
    rw [if_neg (by omega), getI_at hlt]
end Go.Proofs.YtfnohnjnncjidaaGreatDoor
