import Derived.Test.YtagfopbijboajaaGreatDoorQY21
import Derived.Test.YtagfopbijboajaaGreatDoorQY32
namespace Go.Proofs.YtagfopbijboajaaGreatDoor
open Go Pm
set_option linter.unusedSimpArgs false
set_option linter.unusedVariables false
set_option maxHeartbeats 4000000
set_option maxRecDepth 100000
def chA (t : List Ch) (j : Nat) : Ch := t.getD j ⟨0, []⟩
theorem chA_lt {t : List Ch} {j : Nat} (h : j < t.length) : chA t j = t[j] := by unfold chA; rw [List.getD_eq_getElem?_getD, List.getElem?_eq_getElem h]; rfl
def rowN (n : Nat) (c : Ch) : List V := [i64 c.id, .own n 0 c.lines.length 1]
def rw6 (t : List Ch) (a b c d e f : Nat) : Nat → List (List V)
  | 0 => []
  | 1 => [rowN a (chA t 0)]
  | 2 => [rowN a (chA t 0), rowN b (chA t 1)]
  | 3 => [rowN a (chA t 0), rowN b (chA t 1), rowN c (chA t 2)]
  | 4 => [rowN a (chA t 0), rowN b (chA t 1), rowN c (chA t 2), rowN d (chA t 3)]
  | 5 => [rowN a (chA t 0), rowN b (chA t 1), rowN c (chA t 2), rowN d (chA t 3), rowN e (chA t 4)]
  | 6 => [rowN a (chA t 0), rowN b (chA t 1), rowN c (chA t 2), rowN d (chA t 3), rowN e (chA t 4), rowN f (chA t 5)]
  | _ => []
def A6 (lo : Nat) (t : List Ch) (k j : Nat) : List (List V) := if j < k then (chA t j).lines.map (lnE lo) else []
def twF (lo : Nat) (t : List Ch) (k : Nat) : St := St.of [(1, .ptr 1 0), (2, .ptr 2 0), (3, .ptr 3 0), (4, i64 k)] [(1, .box [chs 0 t]), (2, .box [.v (.slice none 0 0)]), (3, .box [.own 9 0 k 2]), (9, .arx 46 2 (rw6 t 100 101 102 103 104 105 k)), (100, .arr 44 1 (A6 lo t k 0)), (101, .arr 44 1 (A6 lo t k 1)), (102, .arr 44 1 (A6 lo t k 2)), (103, .arr 44 1 (A6 lo t k 3)), (104, .arr 44 1 (A6 lo t k 4)), (105, .arr 44 1 (A6 lo t k 5))]
def twM (lo : Nat) (t : List Ch) : List (Nat × OB) := [(0, .arx 46 2 (rw6 t 1 2 3 4 5 6 t.length)), (1, .arr 44 1 (A6 lo t t.length 0)), (2, .arr 44 1 (A6 lo t t.length 1)), (3, .arr 44 1 (A6 lo t t.length 2)), (4, .arr 44 1 (A6 lo t t.length 3)), (5, .arr 44 1 (A6 lo t t.length 4)), (6, .arr 44 1 (A6 lo t t.length 5))]
theorem tn0 : Int.toNat (0 : Int) = 0 := rfl
theorem tn1 : Int.toNat (1 : Int) = 1 := rfl
theorem tn2 : Int.toNat (2 : Int) = 2 := rfl
theorem tn3 : Int.toNat (3 : Int) = 3 := rfl
theorem tn4 : Int.toNat (4 : Int) = 4 := rfl
theorem tn5 : Int.toNat (5 : Int) = 5 := rfl
theorem rw6_0 (t : List Ch) (a b c d e f : Nat) : rw6 t a b c d e f 0 = [] := rfl
theorem rw6_1 (t : List Ch) (a b c d e f : Nat) : rw6 t a b c d e f 1 = [rowN a (chA t 0)] := rfl
theorem rw6_2 (t : List Ch) (a b c d e f : Nat) : rw6 t a b c d e f 2 = [rowN a (chA t 0), rowN b (chA t 1)] := rfl
theorem rw6_3 (t : List Ch) (a b c d e f : Nat) : rw6 t a b c d e f 3 = [rowN a (chA t 0), rowN b (chA t 1), rowN c (chA t 2)] := rfl
theorem rw6_4 (t : List Ch) (a b c d e f : Nat) : rw6 t a b c d e f 4 = [rowN a (chA t 0), rowN b (chA t 1), rowN c (chA t 2), rowN d (chA t 3)] := rfl
theorem rw6_5 (t : List Ch) (a b c d e f : Nat) : rw6 t a b c d e f 5 = [rowN a (chA t 0), rowN b (chA t 1), rowN c (chA t 2), rowN d (chA t 3), rowN e (chA t 4)] := rfl
theorem rw6_6 (t : List Ch) (a b c d e f : Nat) : rw6 t a b c d e f 6 = [rowN a (chA t 0), rowN b (chA t 1), rowN c (chA t 2), rowN d (chA t 3), rowN e (chA t 4), rowN f (chA t 5)] := rfl
attribute [go_sem] rowN rw6_0 rw6_1 rw6_2 rw6_3 rw6_4 rw6_5 rw6_6 tn0 tn1 tn2 tn3 tn4 tn5
theorem Twin01_own (t : List Ch) (ht : OKt t) (h6 : t.length ≤ 6) : Tri Tryz.prog 34 [txE 0 t] [] (fun lo => .ret (.agg [.own 0 0 t.length 2]) (twM lo t)) := by
  unfold twM
  refine tri_intro (fun i => [44,51].contains i) Tryz.func34 Tryz.ntmps34 rfl (by kernel_rfl) (by simp) rfl (by decide) fun G hG hOw hNm => ?_; simp only [go_sem, hG, hOw]
  obtain ⟨ht1, ht2⟩ := ht
  refine semC_loop (twF G.lo t) (fun k => k ≤ t.length) (fun k => t.length - k) 0 (by simp) (by unfold twF; exact entA [(1, some 1), (2, some 2), (3, some 3), (9, none), (100, none), (101, none), (102, none), (103, none), (104, none), (105, none)] (by (simp only [go_sem]) <;> simp [A6]) (by (simp only [go_sem, entH, entH1, nilArr, obOK]) <;> simp [A6])) ?_
  exact fun k hk => match k, hk with
  | 0, hk => by
    unfold twF
    by_cases hlt : 0 < t.length
    · obtain ⟨hc1, hc2⟩ := ht2 _ (List.getElem_mem hlt)
      have hch : chA t 0 = t[0] := chA_lt hlt
      refine vc_sound _ _ _ ?_; simp only [go_sem, hG, hOw]
      refine ⟨fun _ => ?_, fun h => absurd (Int.ofNat_lt.2 hlt) h⟩
      (repeat' with_reducible first | refine And.intro ?_ ?_ | intro _ | refine exP ?_ ?_); all_goals try omega
      refine semC_cut (fun _ : Unit => St.of [(1, .ptr 1 0), (2, .ptr 2 0), (3, .ptr 3 0), (4, i64 (0 : Nat)), (5, .ptr 5 0)] [(1, .box [chs 0 t]), (2, .box [.v (.slice none 0 0)]), (3, .box [.own 9 0 0 2]), (9, .arx 46 2 (rw6 t 100 101 102 103 104 105 0)), (100, .arr 44 1 (A6 G.lo t 0 0)), (101, .arr 44 1 (A6 G.lo t 0 1)), (102, .arr 44 1 (A6 G.lo t 0 2)), (103, .arr 44 1 (A6 G.lo t 0 3)), (104, .arr 44 1 (A6 G.lo t 0 4)), (105, .arr 44 1 (A6 G.lo t 0 5)), (5, .box [i64 t[0].id, .own 8 0 t[0].lines.length 1]), (8, .arr 44 1 (t[0].lines.map (lnE G.lo)))]) (fun _ => True) ?_ ?_
      · refine semC_loop (fun j : Nat => St.of [(1, .ptr 1 0), (2, .ptr 2 0), (3, .ptr 3 0), (4, i64 (0 : Nat)), (5, .ptr 5 0), (6, i64 j)] [(1, .box [chs 0 t]), (2, .box [.v (.slice none 0 0)]), (3, .box [.own 9 0 0 2]), (9, .arx 46 2 (rw6 t 100 101 102 103 104 105 0)), (100, .arr 44 1 (A6 G.lo t 0 0)), (101, .arr 44 1 (A6 G.lo t 0 1)), (102, .arr 44 1 (A6 G.lo t 0 2)), (103, .arr 44 1 (A6 G.lo t 0 3)), (104, .arr 44 1 (A6 G.lo t 0 4)), (105, .arr 44 1 (A6 G.lo t 0 5)), (5, .box [i64 t[0].id, .own 8 0 j 1]), (8, .arr 44 1 ((t[0].lines.take j).map (lnE G.lo)))]) (fun j => j ≤ t[0].lines.length) (fun j => t[0].lines.length - j) 0 (by simp) (entA [(1, some 1), (2, some 2), (3, some 3), (9, some 9), (100, some 100), (101, some 101), (102, some 102), (103, some 103), (104, some 104), (105, some 105), (5, some 5), (8, none)] (by (simp only [go_sem]) <;> simp [A6]) (by (simp only [go_sem, entH, entH1, nilArr, obOK]) <;> simp [A6])) ?_
        rintro j hj
        have hmin2 : min j t[0].lines.length = j := Nat.min_eq_left hj
        refine vc_sound _ _ _ ?_; simp only [go_sem, hG, hOw]
        (repeat' with_reducible first | refine And.intro ?_ ?_ | intro _ | refine exP ?_ ?_); all_goals try omega
        · rename_i hlt2
          have hjl : j < t[0].lines.length := by omega
          have hr1 := (hc2 _ (List.getElem_mem hjl)).1
          have h1 := take_snoc_map (lnE G.lo) t[0].lines j hjl
          refine semC_drawT [(33, [5]), (46, [46, 8]), (47, [5])] mixed (by kernel_rfl) ?_
          simp only [go_sem, hG, hOw]
          (repeat' with_reducible first | refine And.intro ?_ ?_ | intro _ | refine exP ?_ ?_); all_goals try omega
          exact ⟨j + 1, by omega, by omega, entA [(1, some 1), (2, some 2), (3, some 3), (9, some 9), (100, some 100), (101, some 101), (102, some 102), (103, some 103), (104, some 104), (105, some 105), (5, some 5), (8, some 46)] (by (simp only [go_sem]) <;> simp [h1,hmin2,lnE,strs,A6]) (by (simp only [go_sem, entH, entH1, nilArr, obOK]) <;> simp [h1,hmin2,lnE,strs,A6])⟩
        · rename_i hge2
          have hj2 : j = t[0].lines.length := by omega
          subst hj2
          simp only [List.take_length]
          exact ⟨(), entA [(1, some 1), (2, some 2), (3, some 3), (9, some 9), (100, some 100), (101, some 101), (102, some 102), (103, some 103), (104, some 104), (105, some 105), (5, some 5), (8, some 8)] (by (simp only [go_sem]) <;> simp [A6]) (by (simp only [go_sem, entH, entH1, nilArr, obOK]) <;> simp [A6])⟩
      · rintro ⟨⟩ -
        simp only [go_sem, hG, hOw]
        refine ⟨by omega, ?_⟩
        refine appx_step (el := 46) (sz := 2) (x := .own 9 0 0 2) (y := .own 51 0 1 2) (l := rw6 t 100 101 102 103 104 105 0) (new := [[i64 t[0].id, .own 8 0 t[0].lines.length 1]]) (io := some 9) rfl ?_ ?_ rfl ?_ ?_ ?_ ?_ tb_sliceElem_22 (by kernel_rfl) tb_bytesK_46 (by decide) rfl (Nat.le_of_ble_eq_true rfl) (Nat.le_of_ble_eq_true rfl) ?_
        · simp [go_sem]
        · simp [go_sem]
        · rw [hG]; decide
        · simp [go_sem]
        · exact IsArrX.own 9 (rw6 t 100 101 102 103 104 105 0) (by simp [go_sem])
        · exact .box 51 _ (by simp [go_sem]) rfl
        simp only [go_sem, hG, hOw]
        (repeat' with_reducible first | refine And.intro ?_ ?_ | intro _ | refine exP ?_ ?_); all_goals try omega
        exact ⟨1, by omega, by omega, entA [(1, some 1), (2, some 2), (3, some 3), (9, some 52), (100, some 8), (101, some 101), (102, some 102), (103, some 103), (104, some 104), (105, some 105)] (by (simp only [go_sem]) <;> simp [hch,A6]) (by (simp only [go_sem, entH, entH1, nilArr, obOK]) <;> simp [hch,A6])⟩
    · have hK : t.length = 0 := by omega
      refine vc_sound _ _ _ ?_; simp only [go_sem, hG, hOw]
      refine ⟨fun h => absurd (Int.ofNat_lt.1 h) hlt, fun _ => ?_⟩
      simp only [hK]
      exact ⟨[(0, some 9), (1, some 100), (2, some 101), (3, some 102), (4, some 103), (5, some 104), (6, some 105)], by (simp only [EndT, go_sem, entH, entH1, nilArr, obOK, apart, injR, coverR]) <;> simp [A6]⟩
  | 1, hk => by
    unfold twF
    by_cases hlt : 1 < t.length
    · obtain ⟨hc1, hc2⟩ := ht2 _ (List.getElem_mem hlt)
      have hch : chA t 1 = t[1] := chA_lt hlt
      refine vc_sound _ _ _ ?_; simp only [go_sem, hG, hOw]
      refine ⟨fun _ => ?_, fun h => absurd (Int.ofNat_lt.2 hlt) h⟩
      (repeat' with_reducible first | refine And.intro ?_ ?_ | intro _ | refine exP ?_ ?_); all_goals try omega
      refine semC_cut (fun _ : Unit => St.of [(1, .ptr 1 0), (2, .ptr 2 0), (3, .ptr 3 0), (4, i64 (1 : Nat)), (5, .ptr 5 0)] [(1, .box [chs 0 t]), (2, .box [.v (.slice none 0 0)]), (3, .box [.own 9 0 1 2]), (9, .arx 46 2 (rw6 t 100 101 102 103 104 105 1)), (100, .arr 44 1 (A6 G.lo t 1 0)), (101, .arr 44 1 (A6 G.lo t 1 1)), (102, .arr 44 1 (A6 G.lo t 1 2)), (103, .arr 44 1 (A6 G.lo t 1 3)), (104, .arr 44 1 (A6 G.lo t 1 4)), (105, .arr 44 1 (A6 G.lo t 1 5)), (5, .box [i64 t[1].id, .own 8 0 t[1].lines.length 1]), (8, .arr 44 1 (t[1].lines.map (lnE G.lo)))]) (fun _ => True) ?_ ?_
      · refine semC_loop (fun j : Nat => St.of [(1, .ptr 1 0), (2, .ptr 2 0), (3, .ptr 3 0), (4, i64 (1 : Nat)), (5, .ptr 5 0), (6, i64 j)] [(1, .box [chs 0 t]), (2, .box [.v (.slice none 0 0)]), (3, .box [.own 9 0 1 2]), (9, .arx 46 2 (rw6 t 100 101 102 103 104 105 1)), (100, .arr 44 1 (A6 G.lo t 1 0)), (101, .arr 44 1 (A6 G.lo t 1 1)), (102, .arr 44 1 (A6 G.lo t 1 2)), (103, .arr 44 1 (A6 G.lo t 1 3)), (104, .arr 44 1 (A6 G.lo t 1 4)), (105, .arr 44 1 (A6 G.lo t 1 5)), (5, .box [i64 t[1].id, .own 8 0 j 1]), (8, .arr 44 1 ((t[1].lines.take j).map (lnE G.lo)))]) (fun j => j ≤ t[1].lines.length) (fun j => t[1].lines.length - j) 0 (by simp) (entA [(1, some 1), (2, some 2), (3, some 3), (9, some 9), (100, some 100), (101, some 101), (102, some 102), (103, some 103), (104, some 104), (105, some 105), (5, some 5), (8, none)] (by (simp only [go_sem]) <;> simp [A6]) (by (simp only [go_sem, entH, entH1, nilArr, obOK]) <;> simp [A6])) ?_
        rintro j hj
        have hmin2 : min j t[1].lines.length = j := Nat.min_eq_left hj
        refine vc_sound _ _ _ ?_; simp only [go_sem, hG, hOw]
        (repeat' with_reducible first | refine And.intro ?_ ?_ | intro _ | refine exP ?_ ?_); all_goals try omega
        · rename_i hlt2
          have hjl : j < t[1].lines.length := by omega
          have hr1 := (hc2 _ (List.getElem_mem hjl)).1
          have h1 := take_snoc_map (lnE G.lo) t[1].lines j hjl
          refine semC_drawT [(33, [5]), (46, [46, 8]), (47, [5])] mixed (by kernel_rfl) ?_
          simp only [go_sem, hG, hOw]
          (repeat' with_reducible first | refine And.intro ?_ ?_ | intro _ | refine exP ?_ ?_); all_goals try omega
          exact ⟨j + 1, by omega, by omega, entA [(1, some 1), (2, some 2), (3, some 3), (9, some 9), (100, some 100), (101, some 101), (102, some 102), (103, some 103), (104, some 104), (105, some 105), (5, some 5), (8, some 46)] (by (simp only [go_sem]) <;> simp [h1,hmin2,lnE,strs,A6]) (by (simp only [go_sem, entH, entH1, nilArr, obOK]) <;> simp [h1,hmin2,lnE,strs,A6])⟩
        · rename_i hge2
          have hj2 : j = t[1].lines.length := by omega
          subst hj2
          simp only [List.take_length]
          exact ⟨(), entA [(1, some 1), (2, some 2), (3, some 3), (9, some 9), (100, some 100), (101, some 101), (102, some 102), (103, some 103), (104, some 104), (105, some 105), (5, some 5), (8, some 8)] (by (simp only [go_sem]) <;> simp [A6]) (by (simp only [go_sem, entH, entH1, nilArr, obOK]) <;> simp [A6])⟩
      · rintro ⟨⟩ -
        simp only [go_sem, hG, hOw]
        refine ⟨by omega, ?_⟩
        refine appx_step (el := 46) (sz := 2) (x := .own 9 0 1 2) (y := .own 51 0 1 2) (l := rw6 t 100 101 102 103 104 105 1) (new := [[i64 t[1].id, .own 8 0 t[1].lines.length 1]]) (io := some 9) rfl ?_ ?_ rfl ?_ ?_ ?_ ?_ tb_sliceElem_22 (by kernel_rfl) tb_bytesK_46 (by decide) rfl (Nat.le_of_ble_eq_true rfl) (Nat.le_of_ble_eq_true rfl) ?_
        · simp [go_sem]
        · simp [go_sem]
        · rw [hG]; decide
        · simp [go_sem]
        · exact IsArrX.own 9 (rw6 t 100 101 102 103 104 105 1) (by simp [go_sem])
        · exact .box 51 _ (by simp [go_sem]) rfl
        simp only [go_sem, hG, hOw]
        (repeat' with_reducible first | refine And.intro ?_ ?_ | intro _ | refine exP ?_ ?_); all_goals try omega
        exact ⟨2, by omega, by omega, entA [(1, some 1), (2, some 2), (3, some 3), (9, some 52), (100, some 100), (101, some 8), (102, some 102), (103, some 103), (104, some 104), (105, some 105)] (by (simp only [go_sem]) <;> simp [hch,A6]) (by (simp only [go_sem, entH, entH1, nilArr, obOK]) <;> simp [hch,A6])⟩
    · have hK : t.length = 1 := by omega
      refine vc_sound _ _ _ ?_; simp only [go_sem, hG, hOw]
      refine ⟨fun h => absurd (Int.ofNat_lt.1 h) hlt, fun _ => ?_⟩
      simp only [hK]
      exact ⟨[(0, some 9), (1, some 100), (2, some 101), (3, some 102), (4, some 103), (5, some 104), (6, some 105)], by (simp only [EndT, go_sem, entH, entH1, nilArr, obOK, apart, injR, coverR]) <;> simp [A6]⟩
  | 2, hk => by
    unfold twF
    by_cases hlt : 2 < t.length
    · obtain ⟨hc1, hc2⟩ := ht2 _ (List.getElem_mem hlt)
      have hch : chA t 2 = t[2] := chA_lt hlt
      refine vc_sound _ _ _ ?_; simp only [go_sem, hG, hOw]
      refine ⟨fun _ => ?_, fun h => absurd (Int.ofNat_lt.2 hlt) h⟩
      (repeat' with_reducible first | refine And.intro ?_ ?_ | intro _ | refine exP ?_ ?_); all_goals try omega
      refine semC_cut (fun _ : Unit => St.of [(1, .ptr 1 0), (2, .ptr 2 0), (3, .ptr 3 0), (4, i64 (2 : Nat)), (5, .ptr 5 0)] [(1, .box [chs 0 t]), (2, .box [.v (.slice none 0 0)]), (3, .box [.own 9 0 2 2]), (9, .arx 46 2 (rw6 t 100 101 102 103 104 105 2)), (100, .arr 44 1 (A6 G.lo t 2 0)), (101, .arr 44 1 (A6 G.lo t 2 1)), (102, .arr 44 1 (A6 G.lo t 2 2)), (103, .arr 44 1 (A6 G.lo t 2 3)), (104, .arr 44 1 (A6 G.lo t 2 4)), (105, .arr 44 1 (A6 G.lo t 2 5)), (5, .box [i64 t[2].id, .own 8 0 t[2].lines.length 1]), (8, .arr 44 1 (t[2].lines.map (lnE G.lo)))]) (fun _ => True) ?_ ?_
      · refine semC_loop (fun j : Nat => St.of [(1, .ptr 1 0), (2, .ptr 2 0), (3, .ptr 3 0), (4, i64 (2 : Nat)), (5, .ptr 5 0), (6, i64 j)] [(1, .box [chs 0 t]), (2, .box [.v (.slice none 0 0)]), (3, .box [.own 9 0 2 2]), (9, .arx 46 2 (rw6 t 100 101 102 103 104 105 2)), (100, .arr 44 1 (A6 G.lo t 2 0)), (101, .arr 44 1 (A6 G.lo t 2 1)), (102, .arr 44 1 (A6 G.lo t 2 2)), (103, .arr 44 1 (A6 G.lo t 2 3)), (104, .arr 44 1 (A6 G.lo t 2 4)), (105, .arr 44 1 (A6 G.lo t 2 5)), (5, .box [i64 t[2].id, .own 8 0 j 1]), (8, .arr 44 1 ((t[2].lines.take j).map (lnE G.lo)))]) (fun j => j ≤ t[2].lines.length) (fun j => t[2].lines.length - j) 0 (by simp) (entA [(1, some 1), (2, some 2), (3, some 3), (9, some 9), (100, some 100), (101, some 101), (102, some 102), (103, some 103), (104, some 104), (105, some 105), (5, some 5), (8, none)] (by (simp only [go_sem]) <;> simp [A6]) (by (simp only [go_sem, entH, entH1, nilArr, obOK]) <;> simp [A6])) ?_
        rintro j hj
        have hmin2 : min j t[2].lines.length = j := Nat.min_eq_left hj
        refine vc_sound _ _ _ ?_; simp only [go_sem, hG, hOw]
        (repeat' with_reducible first | refine And.intro ?_ ?_ | intro _ | refine exP ?_ ?_); all_goals try omega
        · rename_i hlt2
          have hjl : j < t[2].lines.length := by omega
          have hr1 := (hc2 _ (List.getElem_mem hjl)).1
          have h1 := take_snoc_map (lnE G.lo) t[2].lines j hjl
          refine semC_drawT [(33, [5]), (46, [46, 8]), (47, [5])] mixed (by kernel_rfl) ?_
          simp only [go_sem, hG, hOw]
          (repeat' with_reducible first | refine And.intro ?_ ?_ | intro _ | refine exP ?_ ?_); all_goals try omega
          exact ⟨j + 1, by omega, by omega, entA [(1, some 1), (2, some 2), (3, some 3), (9, some 9), (100, some 100), (101, some 101), (102, some 102), (103, some 103), (104, some 104), (105, some 105), (5, some 5), (8, some 46)] (by (simp only [go_sem]) <;> simp [h1,hmin2,lnE,strs,A6]) (by (simp only [go_sem, entH, entH1, nilArr, obOK]) <;> simp [h1,hmin2,lnE,strs,A6])⟩
        · rename_i hge2
          have hj2 : j = t[2].lines.length := by omega
          subst hj2
          simp only [List.take_length]
          exact ⟨(), entA [(1, some 1), (2, some 2), (3, some 3), (9, some 9), (100, some 100), (101, some 101), (102, some 102), (103, some 103), (104, some 104), (105, some 105), (5, some 5), (8, some 8)] (by (simp only [go_sem]) <;> simp [A6]) (by (simp only [go_sem, entH, entH1, nilArr, obOK]) <;> simp [A6])⟩
      · rintro ⟨⟩ -
        simp only [go_sem, hG, hOw]
        refine ⟨by omega, ?_⟩
        refine appx_step (el := 46) (sz := 2) (x := .own 9 0 2 2) (y := .own 51 0 1 2) (l := rw6 t 100 101 102 103 104 105 2) (new := [[i64 t[2].id, .own 8 0 t[2].lines.length 1]]) (io := some 9) rfl ?_ ?_ rfl ?_ ?_ ?_ ?_ tb_sliceElem_22 (by kernel_rfl) tb_bytesK_46 (by decide) rfl (Nat.le_of_ble_eq_true rfl) (Nat.le_of_ble_eq_true rfl) ?_
        · simp [go_sem]
        · simp [go_sem]
        · rw [hG]; decide
        · simp [go_sem]
        · exact IsArrX.own 9 (rw6 t 100 101 102 103 104 105 2) (by simp [go_sem])
        · exact .box 51 _ (by simp [go_sem]) rfl
        simp only [go_sem, hG, hOw]
        (repeat' with_reducible first | refine And.intro ?_ ?_ | intro _ | refine exP ?_ ?_); all_goals try omega
        exact ⟨3, by omega, by omega, entA [(1, some 1), (2, some 2), (3, some 3), (9, some 52), (100, some 100), (101, some 101), (102, some 8), (103, some 103), (104, some 104), (105, some 105)] (by (simp only [go_sem]) <;> simp [hch,A6]) (by (simp only [go_sem, entH, entH1, nilArr, obOK]) <;> simp [hch,A6])⟩
    · have hK : t.length = 2 := by omega
      refine vc_sound _ _ _ ?_; simp only [go_sem, hG, hOw]
      refine ⟨fun h => absurd (Int.ofNat_lt.1 h) hlt, fun _ => ?_⟩
      simp only [hK]
      exact ⟨[(0, some 9), (1, some 100), (2, some 101), (3, some 102), (4, some 103), (5, some 104), (6, some 105)], by (simp only [EndT, go_sem, entH, entH1, nilArr, obOK, apart, injR, coverR]) <;> simp [A6]⟩
  | 3, hk => by
    unfold twF
    by_cases hlt : 3 < t.length
    · obtain ⟨hc1, hc2⟩ := ht2 _ (List.getElem_mem hlt)
      have hch : chA t 3 = t[3] := chA_lt hlt
      refine vc_sound _ _ _ ?_; simp only [go_sem, hG, hOw]
      refine ⟨fun _ => ?_, fun h => absurd (Int.ofNat_lt.2 hlt) h⟩
      (repeat' with_reducible first | refine And.intro ?_ ?_ | intro _ | refine exP ?_ ?_); all_goals try omega
      refine semC_cut (fun _ : Unit => St.of [(1, .ptr 1 0), (2, .ptr 2 0), (3, .ptr 3 0), (4, i64 (3 : Nat)), (5, .ptr 5 0)] [(1, .box [chs 0 t]), (2, .box [.v (.slice none 0 0)]), (3, .box [.own 9 0 3 2]), (9, .arx 46 2 (rw6 t 100 101 102 103 104 105 3)), (100, .arr 44 1 (A6 G.lo t 3 0)), (101, .arr 44 1 (A6 G.lo t 3 1)), (102, .arr 44 1 (A6 G.lo t 3 2)), (103, .arr 44 1 (A6 G.lo t 3 3)), (104, .arr 44 1 (A6 G.lo t 3 4)), (105, .arr 44 1 (A6 G.lo t 3 5)), (5, .box [i64 t[3].id, .own 8 0 t[3].lines.length 1]), (8, .arr 44 1 (t[3].lines.map (lnE G.lo)))]) (fun _ => True) ?_ ?_
      · refine semC_loop (fun j : Nat => St.of [(1, .ptr 1 0), (2, .ptr 2 0), (3, .ptr 3 0), (4, i64 (3 : Nat)), (5, .ptr 5 0), (6, i64 j)] [(1, .box [chs 0 t]), (2, .box [.v (.slice none 0 0)]), (3, .box [.own 9 0 3 2]), (9, .arx 46 2 (rw6 t 100 101 102 103 104 105 3)), (100, .arr 44 1 (A6 G.lo t 3 0)), (101, .arr 44 1 (A6 G.lo t 3 1)), (102, .arr 44 1 (A6 G.lo t 3 2)), (103, .arr 44 1 (A6 G.lo t 3 3)), (104, .arr 44 1 (A6 G.lo t 3 4)), (105, .arr 44 1 (A6 G.lo t 3 5)), (5, .box [i64 t[3].id, .own 8 0 j 1]), (8, .arr 44 1 ((t[3].lines.take j).map (lnE G.lo)))]) (fun j => j ≤ t[3].lines.length) (fun j => t[3].lines.length - j) 0 (by simp) (entA [(1, some 1), (2, some 2), (3, some 3), (9, some 9), (100, some 100), (101, some 101), (102, some 102), (103, some 103), (104, some 104), (105, some 105), (5, some 5), (8, none)] (by (simp only [go_sem]) <;> simp [A6]) (by (simp only [go_sem, entH, entH1, nilArr, obOK]) <;> simp [A6])) ?_
        rintro j hj
        have hmin2 : min j t[3].lines.length = j := Nat.min_eq_left hj
        refine vc_sound _ _ _ ?_; simp only [go_sem, hG, hOw]
        (repeat' with_reducible first | refine And.intro ?_ ?_ | intro _ | refine exP ?_ ?_); all_goals try omega
        · rename_i hlt2
          have hjl : j < t[3].lines.length := by omega
          have hr1 := (hc2 _ (List.getElem_mem hjl)).1
          have h1 := take_snoc_map (lnE G.lo) t[3].lines j hjl
          refine semC_drawT [(33, [5]), (46, [46, 8]), (47, [5])] mixed (by kernel_rfl) ?_
          simp only [go_sem, hG, hOw]
          (repeat' with_reducible first | refine And.intro ?_ ?_ | intro _ | refine exP ?_ ?_); all_goals try omega
          exact ⟨j + 1, by omega, by omega, entA [(1, some 1), (2, some 2), (3, some 3), (9, some 9), (100, some 100), (101, some 101), (102, some 102), (103, some 103), (104, some 104), (105, some 105), (5, some 5), (8, some 46)] (by (simp only [go_sem]) <;> simp [h1,hmin2,lnE,strs,A6]) (by (simp only [go_sem, entH, entH1, nilArr, obOK]) <;> simp [h1,hmin2,lnE,strs,A6])⟩
        · rename_i hge2
          have hj2 : j = t[3].lines.length := by omega
          subst hj2
          simp only [List.take_length]
          exact ⟨(), entA [(1, some 1), (2, some 2), (3, some 3), (9, some 9), (100, some 100), (101, some 101), (102, some 102), (103, some 103), (104, some 104), (105, some 105), (5, some 5), (8, some 8)] (by (simp only [go_sem]) <;> simp [A6]) (by (simp only [go_sem, entH, entH1, nilArr, obOK]) <;> simp [A6])⟩
      · rintro ⟨⟩ -
        simp only [go_sem, hG, hOw]
        refine ⟨by omega, ?_⟩
        refine appx_step (el := 46) (sz := 2) (x := .own 9 0 3 2) (y := .own 51 0 1 2) (l := rw6 t 100 101 102 103 104 105 3) (new := [[i64 t[3].id, .own 8 0 t[3].lines.length 1]]) (io := some 9) rfl ?_ ?_ rfl ?_ ?_ ?_ ?_ tb_sliceElem_22 (by kernel_rfl) tb_bytesK_46 (by decide) rfl (Nat.le_of_ble_eq_true rfl) (Nat.le_of_ble_eq_true rfl) ?_
        · simp [go_sem]
        · simp [go_sem]
        · rw [hG]; decide
        · simp [go_sem]
        · exact IsArrX.own 9 (rw6 t 100 101 102 103 104 105 3) (by simp [go_sem])
        · exact .box 51 _ (by simp [go_sem]) rfl
        simp only [go_sem, hG, hOw]
        (repeat' with_reducible first | refine And.intro ?_ ?_ | intro _ | refine exP ?_ ?_); all_goals try omega
        exact ⟨4, by omega, by omega, entA [(1, some 1), (2, some 2), (3, some 3), (9, some 52), (100, some 100), (101, some 101), (102, some 102), (103, some 8), (104, some 104), (105, some 105)] (by (simp only [go_sem]) <;> simp [hch,A6]) (by (simp only [go_sem, entH, entH1, nilArr, obOK]) <;> simp [hch,A6])⟩
    · have hK : t.length = 3 := by omega
      refine vc_sound _ _ _ ?_; simp only [go_sem, hG, hOw]
      refine ⟨fun h => absurd (Int.ofNat_lt.1 h) hlt, fun _ => ?_⟩
      simp only [hK]
      exact ⟨[(0, some 9), (1, some 100), (2, some 101), (3, some 102), (4, some 103), (5, some 104), (6, some 105)], by (simp only [EndT, go_sem, entH, entH1, nilArr, obOK, apart, injR, coverR]) <;> simp [A6]⟩
  | 4, hk => by
    unfold twF
    by_cases hlt : 4 < t.length
    · obtain ⟨hc1, hc2⟩ := ht2 _ (List.getElem_mem hlt)
      have hch : chA t 4 = t[4] := chA_lt hlt
      refine vc_sound _ _ _ ?_; simp only [go_sem, hG, hOw]
      refine ⟨fun _ => ?_, fun h => absurd (Int.ofNat_lt.2 hlt) h⟩
      (repeat' with_reducible first | refine And.intro ?_ ?_ | intro _ | refine exP ?_ ?_); all_goals try omega
      refine semC_cut (fun _ : Unit => St.of [(1, .ptr 1 0), (2, .ptr 2 0), (3, .ptr 3 0), (4, i64 (4 : Nat)), (5, .ptr 5 0)] [(1, .box [chs 0 t]), (2, .box [.v (.slice none 0 0)]), (3, .box [.own 9 0 4 2]), (9, .arx 46 2 (rw6 t 100 101 102 103 104 105 4)), (100, .arr 44 1 (A6 G.lo t 4 0)), (101, .arr 44 1 (A6 G.lo t 4 1)), (102, .arr 44 1 (A6 G.lo t 4 2)), (103, .arr 44 1 (A6 G.lo t 4 3)), (104, .arr 44 1 (A6 G.lo t 4 4)), (105, .arr 44 1 (A6 G.lo t 4 5)), (5, .box [i64 t[4].id, .own 8 0 t[4].lines.length 1]), (8, .arr 44 1 (t[4].lines.map (lnE G.lo)))]) (fun _ => True) ?_ ?_
      · refine semC_loop (fun j : Nat => St.of [(1, .ptr 1 0), (2, .ptr 2 0), (3, .ptr 3 0), (4, i64 (4 : Nat)), (5, .ptr 5 0), (6, i64 j)] [(1, .box [chs 0 t]), (2, .box [.v (.slice none 0 0)]), (3, .box [.own 9 0 4 2]), (9, .arx 46 2 (rw6 t 100 101 102 103 104 105 4)), (100, .arr 44 1 (A6 G.lo t 4 0)), (101, .arr 44 1 (A6 G.lo t 4 1)), (102, .arr 44 1 (A6 G.lo t 4 2)), (103, .arr 44 1 (A6 G.lo t 4 3)), (104, .arr 44 1 (A6 G.lo t 4 4)), (105, .arr 44 1 (A6 G.lo t 4 5)), (5, .box [i64 t[4].id, .own 8 0 j 1]), (8, .arr 44 1 ((t[4].lines.take j).map (lnE G.lo)))]) (fun j => j ≤ t[4].lines.length) (fun j => t[4].lines.length - j) 0 (by simp) (entA [(1, some 1), (2, some 2), (3, some 3), (9, some 9), (100, some 100), (101, some 101), (102, some 102), (103, some 103), (104, some 104), (105, some 105), (5, some 5), (8, none)] (by (simp only [go_sem]) <;> simp [A6]) (by (simp only [go_sem, entH, entH1, nilArr, obOK]) <;> simp [A6])) ?_
        rintro j hj
        have hmin2 : min j t[4].lines.length = j := Nat.min_eq_left hj
        refine vc_sound _ _ _ ?_; simp only [go_sem, hG, hOw]
        (repeat' with_reducible first | refine And.intro ?_ ?_ | intro _ | refine exP ?_ ?_); all_goals try omega
        · rename_i hlt2
          have hjl : j < t[4].lines.length := by omega
          have hr1 := (hc2 _ (List.getElem_mem hjl)).1
          have h1 := take_snoc_map (lnE G.lo) t[4].lines j hjl
          refine semC_drawT [(33, [5]), (46, [46, 8]), (47, [5])] mixed (by kernel_rfl) ?_
          simp only [go_sem, hG, hOw]
          (repeat' with_reducible first | refine And.intro ?_ ?_ | intro _ | refine exP ?_ ?_); all_goals try omega
          exact ⟨j + 1, by omega, by omega, entA [(1, some 1), (2, some 2), (3, some 3), (9, some 9), (100, some 100), (101, some 101), (102, some 102), (103, some 103), (104, some 104), (105, some 105), (5, some 5), (8, some 46)] (by (simp only [go_sem]) <;> simp [h1,hmin2,lnE,strs,A6]) (by (simp only [go_sem, entH, entH1, nilArr, obOK]) <;> simp [h1,hmin2,lnE,strs,A6])⟩
        · rename_i hge2
          have hj2 : j = t[4].lines.length := by omega
          subst hj2
          simp only [List.take_length]
          exact ⟨(), entA [(1, some 1), (2, some 2), (3, some 3), (9, some 9), (100, some 100), (101, some 101), (102, some 102), (103, some 103), (104, some 104), (105, some 105), (5, some 5), (8, some 8)] (by (simp only [go_sem]) <;> simp [A6]) (by (simp only [go_sem, entH, entH1, nilArr, obOK]) <;> simp [A6])⟩
      · rintro ⟨⟩ -
        simp only [go_sem, hG, hOw]
        refine ⟨by omega, ?_⟩
        refine appx_step (el := 46) (sz := 2) (x := .own 9 0 4 2) (y := .own 51 0 1 2) (l := rw6 t 100 101 102 103 104 105 4) (new := [[i64 t[4].id, .own 8 0 t[4].lines.length 1]]) (io := some 9) rfl ?_ ?_ rfl ?_ ?_ ?_ ?_ tb_sliceElem_22 (by kernel_rfl) tb_bytesK_46 (by decide) rfl (Nat.le_of_ble_eq_true rfl) (Nat.le_of_ble_eq_true rfl) ?_
        · simp [go_sem]
        · simp [go_sem]
        · rw [hG]; decide
        · simp [go_sem]
        · exact IsArrX.own 9 (rw6 t 100 101 102 103 104 105 4) (by simp [go_sem])
        · exact .box 51 _ (by simp [go_sem]) rfl
        simp only [go_sem, hG, hOw]
        (repeat' with_reducible first | refine And.intro ?_ ?_ | intro _ | refine exP ?_ ?_); all_goals try omega
        exact ⟨5, by omega, by omega, entA [(1, some 1), (2, some 2), (3, some 3), (9, some 52), (100, some 100), (101, some 101), (102, some 102), (103, some 103), (104, some 8), (105, some 105)] (by (simp only [go_sem]) <;> simp [hch,A6]) (by (simp only [go_sem, entH, entH1, nilArr, obOK]) <;> simp [hch,A6])⟩
    · have hK : t.length = 4 := by omega
      refine vc_sound _ _ _ ?_; simp only [go_sem, hG, hOw]
      refine ⟨fun h => absurd (Int.ofNat_lt.1 h) hlt, fun _ => ?_⟩
      simp only [hK]
      exact ⟨[(0, some 9), (1, some 100), (2, some 101), (3, some 102), (4, some 103), (5, some 104), (6, some 105)], by (simp only [EndT, go_sem, entH, entH1, nilArr, obOK, apart, injR, coverR]) <;> simp [A6]⟩
  | 5, hk => by
    unfold twF
    by_cases hlt : 5 < t.length
    · obtain ⟨hc1, hc2⟩ := ht2 _ (List.getElem_mem hlt)
      have hch : chA t 5 = t[5] := chA_lt hlt
      refine vc_sound _ _ _ ?_; simp only [go_sem, hG, hOw]
      refine ⟨fun _ => ?_, fun h => absurd (Int.ofNat_lt.2 hlt) h⟩
      (repeat' with_reducible first | refine And.intro ?_ ?_ | intro _ | refine exP ?_ ?_); all_goals try omega
      refine semC_cut (fun _ : Unit => St.of [(1, .ptr 1 0), (2, .ptr 2 0), (3, .ptr 3 0), (4, i64 (5 : Nat)), (5, .ptr 5 0)] [(1, .box [chs 0 t]), (2, .box [.v (.slice none 0 0)]), (3, .box [.own 9 0 5 2]), (9, .arx 46 2 (rw6 t 100 101 102 103 104 105 5)), (100, .arr 44 1 (A6 G.lo t 5 0)), (101, .arr 44 1 (A6 G.lo t 5 1)), (102, .arr 44 1 (A6 G.lo t 5 2)), (103, .arr 44 1 (A6 G.lo t 5 3)), (104, .arr 44 1 (A6 G.lo t 5 4)), (105, .arr 44 1 (A6 G.lo t 5 5)), (5, .box [i64 t[5].id, .own 8 0 t[5].lines.length 1]), (8, .arr 44 1 (t[5].lines.map (lnE G.lo)))]) (fun _ => True) ?_ ?_
      · refine semC_loop (fun j : Nat => St.of [(1, .ptr 1 0), (2, .ptr 2 0), (3, .ptr 3 0), (4, i64 (5 : Nat)), (5, .ptr 5 0), (6, i64 j)] [(1, .box [chs 0 t]), (2, .box [.v (.slice none 0 0)]), (3, .box [.own 9 0 5 2]), (9, .arx 46 2 (rw6 t 100 101 102 103 104 105 5)), (100, .arr 44 1 (A6 G.lo t 5 0)), (101, .arr 44 1 (A6 G.lo t 5 1)), (102, .arr 44 1 (A6 G.lo t 5 2)), (103, .arr 44 1 (A6 G.lo t 5 3)), (104, .arr 44 1 (A6 G.lo t 5 4)), (105, .arr 44 1 (A6 G.lo t 5 5)), (5, .box [i64 t[5].id, .own 8 0 j 1]), (8, .arr 44 1 ((t[5].lines.take j).map (lnE G.lo)))]) (fun j => j ≤ t[5].lines.length) (fun j => t[5].lines.length - j) 0 (by simp) (entA [(1, some 1), (2, some 2), (3, some 3), (9, some 9), (100, some 100), (101, some 101), (102, some 102), (103, some 103), (104, some 104), (105, some 105), (5, some 5), (8, none)] (by (simp only [go_sem]) <;> simp [A6]) (by (simp only [go_sem, entH, entH1, nilArr, obOK]) <;> simp [A6])) ?_
        rintro j hj
        have hmin2 : min j t[5].lines.length = j := Nat.min_eq_left hj
        refine vc_sound _ _ _ ?_; simp only [go_sem, hG, hOw]
        (repeat' with_reducible first | refine And.intro ?_ ?_ | intro _ | refine exP ?_ ?_); all_goals try omega
        · rename_i hlt2
          have hjl : j < t[5].lines.length := by omega
          have hr1 := (hc2 _ (List.getElem_mem hjl)).1
          have h1 := take_snoc_map (lnE G.lo) t[5].lines j hjl
          refine semC_drawT [(33, [5]), (46, [46, 8]), (47, [5])] mixed (by kernel_rfl) ?_
          simp only [go_sem, hG, hOw]
          (repeat' with_reducible first | refine And.intro ?_ ?_ | intro _ | refine exP ?_ ?_); all_goals try omega
          exact ⟨j + 1, by omega, by omega, entA [(1, some 1), (2, some 2), (3, some 3), (9, some 9), (100, some 100), (101, some 101), (102, some 102), (103, some 103), (104, some 104), (105, some 105), (5, some 5), (8, some 46)] (by (simp only [go_sem]) <;> simp [h1,hmin2,lnE,strs,A6]) (by (simp only [go_sem, entH, entH1, nilArr, obOK]) <;> simp [h1,hmin2,lnE,strs,A6])⟩
        · rename_i hge2
          have hj2 : j = t[5].lines.length := by omega
          subst hj2
          simp only [List.take_length]
          exact ⟨(), entA [(1, some 1), (2, some 2), (3, some 3), (9, some 9), (100, some 100), (101, some 101), (102, some 102), (103, some 103), (104, some 104), (105, some 105), (5, some 5), (8, some 8)] (by (simp only [go_sem]) <;> simp [A6]) (by (simp only [go_sem, entH, entH1, nilArr, obOK]) <;> simp [A6])⟩
      · rintro ⟨⟩ -
        simp only [go_sem, hG, hOw]
        refine ⟨by omega, ?_⟩
        refine appx_step (el := 46) (sz := 2) (x := .own 9 0 5 2) (y := .own 51 0 1 2) (l := rw6 t 100 101 102 103 104 105 5) (new := [[i64 t[5].id, .own 8 0 t[5].lines.length 1]]) (io := some 9) rfl ?_ ?_ rfl ?_ ?_ ?_ ?_ tb_sliceElem_22 (by kernel_rfl) tb_bytesK_46 (by decide) rfl (Nat.le_of_ble_eq_true rfl) (Nat.le_of_ble_eq_true rfl) ?_
        · simp [go_sem]
        · simp [go_sem]
        · rw [hG]; decide
        · simp [go_sem]
        · exact IsArrX.own 9 (rw6 t 100 101 102 103 104 105 5) (by simp [go_sem])
        · exact .box 51 _ (by simp [go_sem]) rfl
        simp only [go_sem, hG, hOw]
        (repeat' with_reducible first | refine And.intro ?_ ?_ | intro _ | refine exP ?_ ?_); all_goals try omega
        exact ⟨6, by omega, by omega, entA [(1, some 1), (2, some 2), (3, some 3), (9, some 52), (100, some 100), (101, some 101), (102, some 102), (103, some 103), (104, some 104), (105, some 8)] (by (simp only [go_sem]) <;> simp [hch,A6]) (by (simp only [go_sem, entH, entH1, nilArr, obOK]) <;> simp [hch,A6])⟩
    · have hK : t.length = 5 := by omega
      refine vc_sound _ _ _ ?_; simp only [go_sem, hG, hOw]
      refine ⟨fun h => absurd (Int.ofNat_lt.1 h) hlt, fun _ => ?_⟩
      simp only [hK]
      exact ⟨[(0, some 9), (1, some 100), (2, some 101), (3, some 102), (4, some 103), (5, some 104), (6, some 105)], by (simp only [EndT, go_sem, entH, entH1, nilArr, obOK, apart, injR, coverR]) <;> simp [A6]⟩
  | 6, hk => by
    unfold twF
    have hK : t.length = 6 := by omega
    refine vc_sound _ _ _ ?_; simp only [go_sem, hG, hOw]
    refine ⟨fun h => absurd (Int.ofNat_lt.1 h) (by omega), fun _ => ?_⟩
    simp only [hK]
    exact ⟨[(0, some 9), (1, some 100), (2, some 101), (3, some 102), (4, some 103), (5, some 104), (6, some 105)], by (simp only [EndT, go_sem, entH, entH1, nilArr, obOK, apart, injR, coverR]) <;> simp [A6]⟩
  | k + 7, hk => absurd hk (by omega)
end Go.Proofs.YtagfopbijboajaaGreatDoor
