import Derived.Test.YtppcbmpiphhphaaGreatDoorQU12
import Derived.Test.YtppcbmpiphhphaaGreatDoorQU20
namespace Go.Proofs.YtppcbmpiphhphaaGreatDoor
open Go Pm
set_option linter.unusedSimpArgs false
set_option linter.unusedVariables false
set_option maxHeartbeats 4000000
set_option maxRecDepth 100000
theorem any_true {α : Type} {p : α → Bool} {l : List α} {k : Nat} (hk : k < l.length) (h : p l[k] = true) : l.any p = true := List.any_eq_true.2 ⟨l[k], List.getElem_mem hk, h⟩
theorem any_of_take {α : Type} {p : α → Bool} {l : List α} (h : l.all (fun x => !p x) = true) : l.any p = false := List.any_eq_false.2 fun x hx => by simpa using List.all_eq_true.1 h x hx
theorem Great01_ok (t : List Ch) : Gives Tryz.prog 4 [txE 0 t] (fun _ => bl (greatT t)) := by
  refine pure_intro (ow := fun _ => false) Tryz.func4 Tryz.ntmps4 rfl (by kernel_rfl) (by simp) rfl (by decide) fun G hG hOw hNm hB => ?_; simp only [go_sem, hG, hOw]
  have hb : t.length ≤ 140737488355328 ∧ ∀ c ∈ t, c.lines.length ≤ 140737488355328 ∧ ∀ r ∈ c.lines, r.length ≤ 140737488355328 := bd_chs (bd_agg (hB (txE 0 t) (by simp)) (chs 0 t) (by simp))
  obtain ⟨hb1, hb2⟩ := hb
  (repeat' with_reducible first | refine And.intro ?_ ?_ | intro _ | refine exP ?_ ?_); all_goals try omega
  · rename_i h; simp [greatT]; omega
  · rename_i h0
    refine semC_loop (fun k : Nat => St.of [(1, .ptr 1 0), (3, i64 k)] [(1, .box [chs 0 t])]) (fun k => k ≤ t.length ∧ (t.take k).all (fun x => !gtChap x) = true) (fun k => t.length - k) 0 (by simp) (entA [(1, some 1)]) ?_
    rintro k ⟨hk, hall⟩
    refine vc_sound _ _ _ ?_; simp only [go_sem, hG, hOw]
    (repeat' with_reducible first | refine And.intro ?_ ?_ | intro _ | refine exP ?_ ?_); all_goals try omega
    · rename_i hlt h1
      have hkl : k < t.length := by omega
      rw [greatT, any_true hkl (by simp [gtChap]; omega)]; simp
    · rename_i hlt h1
      have hkl : k < t.length := by omega
      obtain ⟨hc1, hc2⟩ := hb2 _ (List.getElem_mem hkl)
      have bad : gtChap t[k] = true → true = greatT t := fun h => by rw [greatT, any_true hkl h]; simp
      refine semC_loop (fun j : Nat => St.of [(1, .ptr 1 0), (3, i64 k), (4, i64 j)] [(1, .box [chs 0 t])]) (fun j => j ≤ t[k].lines.length ∧ (t[k].lines.take j).all (fun x => !gtLine x) = true) (fun j => t[k].lines.length - j) 0 (by simp) (entA [(1, some 1)]) ?_
      rintro j ⟨hj, hallj⟩
      refine vc_sound _ _ _ ?_; simp only [go_sem, hG, hOw]
      (repeat' with_reducible first | refine And.intro ?_ ?_ | intro _ | refine exP ?_ ?_); all_goals try omega
      · rename_i hlt2 h2
        have hjl : j < t[k].lines.length := by omega
        exact bad (by rw [gtChap, any_true hjl (by simp [gtLine]; omega)]; simp)
      · rename_i hlt2 h2
        have hjl : j < t[k].lines.length := by omega
        have hr1 := hc2 _ (List.getElem_mem hjl)
        refine semC_loop (fun w : Nat => St.of [(1, .ptr 1 0), (3, i64 k), (4, i64 j), (5, i64 w)] [(1, .box [chs 0 t])]) (fun w => w ≤ t[k].lines[j].length ∧ (t[k].lines[j].take w).all (fun s => !decide (40 < (s.size : Int))) = true) (fun w => t[k].lines[j].length - w) 0 (by simp) (entA [(1, some 1)]) ?_
        rintro w ⟨hw, hallw⟩
        refine vc_sound _ _ _ ?_; simp only [go_sem, hG, hOw]
        (repeat' with_reducible first | refine And.intro ?_ ?_ | intro _ | refine exP ?_ ?_); all_goals try omega
        · rename_i hlt3 h3
          have hwl : w < t[k].lines[j].length := by omega
          exact bad (by rw [gtChap, any_true hjl (by rw [gtLine, any_true hwl (by simp; omega)]; simp)]; simp)
        · rename_i hlt3 h3
          exact ⟨w + 1, ⟨by omega, all_take_succ (by omega) hallw (by simp; omega)⟩, by omega, entA [(1, some 1)]⟩
        · rename_i hge3
          rw [take_full hw hge3] at hallw
          exact ⟨j + 1, ⟨by omega, all_take_succ hjl hallj (by rw [gtLine, any_of_take hallw]; simp; omega)⟩, by omega, entA [(1, some 1)]⟩
      · rename_i hge2
        rw [take_full hj hge2] at hallj
        exact ⟨k + 1, ⟨by omega, all_take_succ hkl hall (by rw [gtChap, any_of_take hallj]; simp; omega)⟩, by omega, entA [(1, some 1)]⟩
    · rename_i hge
      rw [take_full hk hge] at hall
      rw [greatT, any_of_take hall]; simp; omega
end Go.Proofs.YtppcbmpiphhphaaGreatDoor
