import Derived.Test.YtagfopbijboajaaGreatDoorQY27
namespace Go.Proofs.YtagfopbijboajaaGreatDoor
open Go Pm
set_option linter.unusedSimpArgs false
set_option linter.unusedVariables false
set_option maxHeartbeats 4000000
set_option maxRecDepth 100000
theorem Great05_ok (r : Ro) : Gives Tryz.prog 30 [roE 0 r] (fun _ => bl (greatR r)) := by
  refine pure_intro (ow := fun _ => false) Tryz.func30 Tryz.ntmps30 rfl (by kernel_rfl) (by simp) rfl (by decide) fun G hG hOw hNm hB => ?_; simp only [go_sem, hG, hOw]
  have hb := bd_roC (bd_agg (hB (roE 0 r) (by simp)))
  obtain ⟨hx1, hx2⟩ := hb.x
  refine call_pureA (Great01_ok r.text) ?_
  simp only [go_sem, hG, hOw]
  (repeat' with_reducible first | refine And.intro ?_ ?_ | intro _ | refine exP ?_ ?_); all_goals try omega
  · simp [greatR]; omega
  · rename_i e1 e2 e3 e4
    refine semC_loop (fun k : Nat => St.of [(1, .ptr 1 0), (3, i64 k)] [(1, .box (roC 0 r))]) (fun k => k ≤ r.sheets.length ∧ (r.sheets.take k).all (fun x => !gtSheet x) = true) (fun k => r.sheets.length - k) 0 (by simp) (entA [(1, some 1)]) ?_
    rintro k ⟨hk, hall⟩
    refine vc_sound _ _ _ ?_; simp only [go_sem, hG, hOw]
    (repeat' with_reducible first | refine And.intro ?_ ?_ | intro _ | refine exP ?_ ?_); all_goals try omega
    · rename_i hlt h1
      have hkl : k < r.sheets.length := by omega
      rw [greatR, any_true hkl (by simp [gtSheet]; omega)]; simp
    · rename_i hlt h1
      have hkl : k < r.sheets.length := by omega
      obtain ⟨hc1, hc2⟩ := hx2 _ (List.getElem_mem hkl)
      have bad : gtSheet r.sheets[k] = true → true = greatR r := fun h => by rw [greatR, any_true hkl h]; simp
      refine semC_loop (fun j : Nat => St.of [(1, .ptr 1 0), (3, i64 k), (4, i64 j)] [(1, .box (roC 0 r))]) (fun j => j ≤ r.sheets[k].lines.length ∧ (r.sheets[k].lines.take j).all (fun x => !gtLine x) = true) (fun j => r.sheets[k].lines.length - j) 0 (by simp) (entA [(1, some 1)]) ?_
      rintro j ⟨hj, hallj⟩
      refine vc_sound _ _ _ ?_; simp only [go_sem, hG, hOw]
      (repeat' with_reducible first | refine And.intro ?_ ?_ | intro _ | refine exP ?_ ?_); all_goals try omega
      · rename_i hlt2 h2
        have hjl : j < r.sheets[k].lines.length := by omega
        exact bad (by rw [gtSheet, any_true hjl (by simp [gtLine]; omega)]; simp)
      · rename_i hlt2 h2
        have hjl : j < r.sheets[k].lines.length := by omega
        have hr1 := hc2 _ (List.getElem_mem hjl)
        refine semC_loop (fun w : Nat => St.of [(1, .ptr 1 0), (3, i64 k), (4, i64 j), (5, i64 w)] [(1, .box (roC 0 r))]) (fun w => w ≤ r.sheets[k].lines[j].length ∧ (r.sheets[k].lines[j].take w).all (fun s => !decide (40 < (s.size : Int))) = true) (fun w => r.sheets[k].lines[j].length - w) 0 (by simp) (entA [(1, some 1)]) ?_
        rintro w ⟨hw, hallw⟩
        refine vc_sound _ _ _ ?_; simp only [go_sem, hG, hOw]
        (repeat' with_reducible first | refine And.intro ?_ ?_ | intro _ | refine exP ?_ ?_); all_goals try omega
        · rename_i hlt3 h3
          have hwl : w < r.sheets[k].lines[j].length := by omega
          exact bad (by rw [gtSheet, any_true hjl (by rw [gtLine, any_true hwl (by simp; omega)]; simp)]; simp)
        · rename_i hlt3 h3
          exact ⟨w + 1, ⟨by omega, all_take_succ (by omega) hallw (by simp; omega)⟩, by omega, entA [(1, some 1)]⟩
        · rename_i hge3
          rw [take_full hw hge3] at hallw
          exact ⟨j + 1, ⟨by omega, all_take_succ hjl hallj (by rw [gtLine, any_of_take hallw]; simp; omega)⟩, by omega, entA [(1, some 1)]⟩
      · rename_i hge2
        rw [take_full hj hge2] at hallj
        exact ⟨k + 1, ⟨by omega, all_take_succ hkl hall (by rw [gtSheet, any_of_take hallj]; simp; omega)⟩, by omega, entA [(1, some 1)]⟩
    · rename_i hge
      rw [take_full hk hge] at hall
      rw [greatR, any_of_take hall, e1]; simp; omega
  · simp [greatR]; omega
  · simp [greatR]; omega
  · rename_i e1
    simp [greatR, e1]
open Go Pm
set_option maxHeartbeats 4000000
set_option maxRecDepth 100000
theorem TwinLines_ok (l : List (List ByteArray)) (hl : OKl l) : Gives Tryz.prog 35 [lns 0 l] (fun n => lns n l) := by
  refine pure_intro (ow := fun i => [17].contains i) Tryz.func35 Tryz.ntmps35 rfl (by kernel_rfl) (by simp) rfl (by decide) fun G hG hOw hNm hB => ?_; simp only [go_sem, hG, hOw]
  obtain ⟨hl1, hl2⟩ := hl
  refine semC_loop (fun k : Nat => St.of [(0, lns 0 l), (3, .own 9 0 k 1), (4, i64 k)] [(9, .arr 44 1 ((l.take k).map (lnE G.lo)))]) (fun k => k ≤ l.length) (fun k => l.length - k) 0 (by simp) (entA [(9, none)]) ?_
  rintro k hk
  have hmin : min k l.length = k := Nat.min_eq_left hk
  refine vc_sound _ _ _ ?_; simp only [go_sem, hG, hOw]
  (repeat' with_reducible first | refine And.intro ?_ ?_ | intro _ | refine exP ?_ ?_); all_goals try omega
  · rename_i hlt
    have hkl : k < l.length := by omega
    have := (hl2 _ (List.getElem_mem hkl)).1
    omega
  · rename_i hlt
    have hkl : k < l.length := by omega
    have := (hl2 _ (List.getElem_mem hkl)).1
    omega
  · rename_i hlt
    have hkl : k < l.length := by omega
    have h1 := take_snoc_map (lnE G.lo) l k hkl
    exact ⟨k + 1, by omega, by omega, entA [(9, some 19)] (by (simp only [go_sem]) <;> simp [h1,hmin,lnE,strs]) (by (simp only [go_sem, entH, entH1, nilArr, obOK]) <;> simp [h1,hmin,lnE,strs])⟩
  · rename_i hge
    obtain rfl : k = l.length := by omega
    simp only [List.take_length]
    exact .refl _
end Go.Proofs.YtagfopbijboajaaGreatDoor
