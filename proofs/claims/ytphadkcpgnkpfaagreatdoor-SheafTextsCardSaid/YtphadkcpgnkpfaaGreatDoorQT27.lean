import Derived.Test.YtphadkcpgnkpfaaGreatDoorQT26
namespace Go.Proofs.YtphadkcpgnkpfaaGreatDoor
open Go Pm
set_option linter.unusedSimpArgs false
set_option linter.unusedVariables false
set_option maxHeartbeats 4000000
set_option maxRecDepth 100000
theorem Twin01_ok (t : List Ch) (ht : OKt t) : Gives Tryz.prog 7 [txE 0 t] (fun n => txE n t) := by
  refine pure_intro (ow := fun i => [44].contains i) Tryz.func7 Tryz.ntmps7 rfl (by kernel_rfl) (by simp) rfl (by decide) fun G hG hOw hNm hB => ?_; simp only [go_sem, hG, hOw]
  obtain ⟨ht1, ht2⟩ := ht
  refine semC_loop (fun k : Nat => St.of [(1, .ptr 1 0), (2, .ptr 2 0), (3, .ptr 3 0), (4, i64 k)] [(1, .box [chs 0 t]), (2, .box [.v (.slice none 0 0)]), (3, .box [.own 9 0 k 2]), (9, .arr 55 2 ((t.take k).map (chE G.lo)))]) (fun k => k ≤ t.length) (fun k => t.length - k) 0 (by simp) (entA [(1, some 1), (2, some 2), (3, some 3), (9, none)]) ?_
  rintro k hk
  have hmin : min k t.length = k := Nat.min_eq_left hk
  refine vc_sound _ _ _ ?_; simp only [go_sem, hG, hOw]
  (repeat' with_reducible first | refine And.intro ?_ ?_ | intro _ | refine exP ?_ ?_); all_goals try omega
  · rename_i hlt
    have hkl : k < t.length := by omega
    obtain ⟨hc1, hc2⟩ := ht2 _ (List.getElem_mem hkl)
    have h0 := take_snoc_map (chE G.lo) t k hkl
    refine semC_cut (fun _ : Unit => St.of [(1, .ptr 1 0), (2, .ptr 2 0), (3, .ptr 3 0), (4, i64 k), (5, .ptr 5 0)] [(1, .box [chs 0 t]), (2, .box [.v (.slice none 0 0)]), (3, .box [.own 9 0 k 2]), (9, .arr 55 2 ((t.take k).map (chE G.lo))), (5, .box [i64 t[k].id, lns G.lo t[k].lines])]) (fun _ => True) ?_ ?_
    · refine semC_loop (fun j : Nat => St.of [(1, .ptr 1 0), (2, .ptr 2 0), (3, .ptr 3 0), (4, i64 k), (5, .ptr 5 0), (6, i64 j)] [(1, .box [chs 0 t]), (2, .box [.v (.slice none 0 0)]), (3, .box [.own 9 0 k 2]), (9, .arr 55 2 ((t.take k).map (chE G.lo))), (5, .box [i64 t[k].id, .own 8 0 j 1]), (8, .arr 28 1 ((t[k].lines.take j).map (lnE G.lo)))]) (fun j => j ≤ t[k].lines.length) (fun j => t[k].lines.length - j) 0 (by simp) (entA [(1, some 1), (2, some 2), (3, some 3), (9, some 9), (5, some 5), (8, none)] (by (simp only [go_sem]) <;> simp [chE]) (by (simp only [go_sem, entH, entH1, nilArr, obOK]) <;> simp [chE])) ?_
      rintro j hj
      have hmin2 : min j t[k].lines.length = j := Nat.min_eq_left hj
      refine vc_sound _ _ _ ?_; simp only [go_sem, hG, hOw]
      (repeat' with_reducible first | refine And.intro ?_ ?_ | intro _ | refine exP ?_ ?_); all_goals try omega
      · rename_i hlt2
        have hjl : j < t[k].lines.length := by omega
        have hr1 := (hc2 _ (List.getElem_mem hjl)).1
        have h1 := take_snoc_map (lnE G.lo) t[k].lines j hjl
        refine semC_drawT [(33, [5]), (46, [46, 8]), (47, [5])] mixed (by kernel_rfl) ?_
        simp only [go_sem, hG, hOw]
        (repeat' with_reducible first | refine And.intro ?_ ?_ | intro _ | refine exP ?_ ?_); all_goals try omega
        exact ⟨j + 1, by omega, by omega, entA [(1, some 1), (2, some 2), (3, some 3), (9, some 9), (5, some 5), (8, some 46)] (by (simp only [go_sem]) <;> simp [h1,hmin2,hmin,lnE,strs]) (by (simp only [go_sem, entH, entH1, nilArr, obOK]) <;> simp [h1,hmin2,hmin,lnE,strs])⟩
      · rename_i hge2
        have hj2 : j = t[k].lines.length := by omega
        subst hj2
        simp only [List.take_length]
        refine ⟨(), ent_frz (fun i => i == 8) ?_⟩
        exact entA [(1, some 1), (2, some 2), (3, some 3), (9, some 9), (5, some 5)]
    · rintro ⟨⟩ -
      simp only [go_sem, hG, hOw]
      (repeat' with_reducible first | refine And.intro ?_ ?_ | intro _ | refine exP ?_ ?_); all_goals try omega
      exact ⟨k + 1, by omega, by omega, entA [(1, some 1), (2, some 2), (3, some 3), (9, some 52)] (by (simp only [go_sem]) <;> simp [h0,hmin,chE,lns,i64]) (by (simp only [go_sem, entH, entH1, nilArr, obOK]) <;> simp [h0,hmin,chE,lns,i64])⟩
  · rename_i hge
    obtain rfl : k = t.length := by omega
    simp only [List.take_length]
    exact .refl _
end Go.Proofs.YtphadkcpgnkpfaaGreatDoor
