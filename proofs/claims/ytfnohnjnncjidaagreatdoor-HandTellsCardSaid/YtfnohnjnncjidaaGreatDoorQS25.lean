import Derived.Test.YtfnohnjnncjidaaGreatDoorQS20
namespace Go.Proofs.YtfnohnjnncjidaaGreatDoor
open Go Pm
set_option linter.unusedSimpArgs false
set_option linter.unusedVariables false
set_option maxHeartbeats 4000000
set_option maxRecDepth 100000
theorem Great05_ok (r : Ro) : Gives Tryz.prog 14 [roE 0 r] (fun _ => bl (greatR r)) := by
  refine pure_intro (ow := fun _ => false) Tryz.func14 Tryz.ntmps14 rfl (by kernel_rfl) (by simp) rfl (by decide) fun G hG hOw hNm hB => ?_; simp only [go_sem, hG, hOw]
  have hb := bd_roC (bd_agg (hB (roE 0 r) (by simp)))
  obtain ⟨hx1, hx2⟩ := hb.x
  refine call_pureA (Great01_ok r.text) ?_
  simp only [go_sem, hG, hOw]
  (repeat' with_reducible first | refine And.intro ?_ ?_ | intro _ | refine exP ?_ ?_); all_goals try omega
  · simp [greatR]; omega
  · rename_i e1 e2 e3 e4
    refine semC_loop (fun k : Nat => St.of [(1, .ptr 1 0), (3, i64 k)] [(1, .box (roC 0 r))]) (fun k => k ≤ r.sheets.length ∧ (r.sheets.take k).all (fun x => !gtSheet x) = true) (fun k => r.sheets.length - k) 0 (by simp) (entA [(1, some 1)]) ?_
    rintro k ⟨hk, hall⟩
    refine vc_sound _ _ _ ?_; simp only [go_sem, hG, hOw]
    (repeat' with_reducible first | refine And.intro ?_ ?_ | intro _ | refine exP ?_ ?_); all_goals try omega
    · rename_i hlt h1
      have hkl : k < r.sheets.length := by omega
      rw [greatR, any_true hkl (by simp [gtSheet]; omega)]; simp
    · rename_i hlt h1
      have hkl : k < r.sheets.length := by omega
      obtain ⟨hc1, hc2⟩ := hx2 _ (List.getElem_mem hkl)
      have bad : gtSheet r.sheets[k] = true → true = greatR r := fun h => by rw [greatR, any_true hkl h]; simp
      refine semC_loop (fun j : Nat => St.of [(1, .ptr 1 0), (3, i64 k), (4, i64 j)] [(1, .box (roC 0 r))]) (fun j => j ≤ r.sheets[k].lines.length ∧ (r.sheets[k].lines.take j).all (fun x => !gtLine x) = true) (fun j => r.sheets[k].lines.length - j) 0 (by simp) (entA [(1, some 1)]) ?_
      rintro j ⟨hj, hallj⟩
      refine vc_sound _ _ _ ?_; simp only [go_sem, hG, hOw]
      (repeat' with_reducible first | refine And.intro ?_ ?_ | intro _ | refine exP ?_ ?_); all_goals try omega
      · rename_i hlt2 h2
        have hjl : j < r.sheets[k].lines.length := by omega
        exact bad (by rw [gtSheet, any_true hjl (by simp [gtLine]; omega)]; simp)
      · rename_i hlt2 h2
        have hjl : j < r.sheets[k].lines.length := by omega
        have hr1 := hc2 _ (List.getElem_mem hjl)
        refine semC_loop (fun w : Nat => St.of [(1, .ptr 1 0), (3, i64 k), (4, i64 j), (5, i64 w)] [(1, .box (roC 0 r))]) (fun w => w ≤ r.sheets[k].lines[j].length ∧ (r.sheets[k].lines[j].take w).all (fun s => !decide (40 < (s.size : Int))) = true) (fun w => r.sheets[k].lines[j].length - w) 0 (by simp) (entA [(1, some 1)]) ?_
        rintro w ⟨hw, hallw⟩
        refine vc_sound _ _ _ ?_; simp only [go_sem, hG, hOw]
        (repeat' with_reducible first | refine And.intro ?_ ?_ | intro _ | refine exP ?_ ?_); all_goals try omega
        · rename_i hlt3 h3
          have hwl : w < r.sheets[k].lines[j].length := by omega
          exact bad (by rw [gtSheet, any_true hjl (by rw [gtLine, any_true hwl (by simp; omega)]; simp)]; simp)
        · rename_i hlt3 h3
          exact ⟨w + 1, ⟨by omega, all_take_succ (by omega) hallw (by simp; omega)⟩, by omega, entA [(1, some 1)]⟩
        · rename_i hge3
          rw [take_full hw hge3] at hallw
          exact ⟨j + 1, ⟨by omega, all_take_succ hjl hallj (by rw [gtLine, any_of_take hallw]; simp; omega)⟩, by omega, entA [(1, some 1)]⟩
      · rename_i hge2
        rw [take_full hj hge2] at hallj
        exact ⟨k + 1, ⟨by omega, all_take_succ hkl hall (by rw [gtSheet, any_of_take hallj]; simp; omega)⟩, by omega, entA [(1, some 1)]⟩
    · rename_i hge
      rw [take_full hk hge] at hall
      rw [greatR, any_of_take hall, e1]; simp; omega
  · simp [greatR]; omega
  · simp [greatR]; omega
  · rename_i e1
    simp [greatR, e1]
open Go Pm
set_option maxHeartbeats 4000000
set_option maxRecDepth 100000
theorem TwinLines_ok (l : List (List ByteArray)) (hl : OKl l) : Gives Tryz.prog 31 [lns 0 l] (fun n => lns n l) := by
  refine pure_intro (ow := fun i => [17].contains i) Tryz.func31 Tryz.ntmps31 rfl (by kernel_rfl) (by simp) rfl (by decide) fun G hG hOw hNm hB => ?_; simp only [go_sem, hG, hOw]
  obtain ⟨hl1, hl2⟩ := hl
  refine semC_loop (fun k : Nat => St.of [(0, lns 0 l), (3, .own 9 0 k 1), (4, i64 k)] [(9, .arr 78 1 ((l.take k).map (lnE G.lo)))]) (fun k => k ≤ l.length) (fun k => l.length - k) 0 (by simp) (entA [(9, none)]) ?_
  rintro k hk
  have hmin : min k l.length = k := Nat.min_eq_left hk
  refine vc_sound _ _ _ ?_; simp only [go_sem, hG, hOw]
  (repeat' with_reducible first | refine And.intro ?_ ?_ | intro _ | refine exP ?_ ?_); all_goals try omega
  · rename_i hlt
    have hkl : k < l.length := by omega
    have := (hl2 _ (List.getElem_mem hkl)).1
    omega
  · rename_i hlt
    have hkl : k < l.length := by omega
    have := (hl2 _ (List.getElem_mem hkl)).1
    omega
  · rename_i hlt
    have hkl : k < l.length := by omega
    have h1 := take_snoc_map (lnE G.lo) l k hkl
    exact ⟨k + 1, by omega, by omega, entA [(9, some 19)] (by (simp only [go_sem]) <;> simp [h1,hmin,lnE,strs]) (by (simp only [go_sem, entH, entH1, nilArr, obOK]) <;> simp [h1,hmin,lnE,strs])⟩
  · rename_i hge
    obtain rfl : k = l.length := by omega
    simp only [List.take_length]
    exact .refl _
theorem Twin01_ok (t : List Ch) (ht : OKt t) : Gives Tryz.prog 54 [txE 0 t] (fun n => txE n t) := by
  refine pure_intro (ow := fun i => [44].contains i) Tryz.func54 Tryz.ntmps54 rfl (by kernel_rfl) (by simp) rfl (by decide) fun G hG hOw hNm hB => ?_; simp only [go_sem, hG, hOw]
  obtain ⟨ht1, ht2⟩ := ht
  refine semC_loop (fun k : Nat => St.of [(1, .ptr 1 0), (2, .ptr 2 0), (3, .ptr 3 0), (4, i64 k)] [(1, .box [chs 0 t]), (2, .box [.v (.slice none 0 0)]), (3, .box [.own 9 0 k 2]), (9, .arr 84 2 ((t.take k).map (chE G.lo)))]) (fun k => k ≤ t.length) (fun k => t.length - k) 0 (by simp) (entA [(1, some 1), (2, some 2), (3, some 3), (9, none)]) ?_
  rintro k hk
  have hmin : min k t.length = k := Nat.min_eq_left hk
  refine vc_sound _ _ _ ?_; simp only [go_sem, hG, hOw]
  (repeat' with_reducible first | refine And.intro ?_ ?_ | intro _ | refine exP ?_ ?_); all_goals try omega
  · rename_i hlt
    have hkl : k < t.length := by omega
    obtain ⟨hc1, hc2⟩ := ht2 _ (List.getElem_mem hkl)
    have h0 := take_snoc_map (chE G.lo) t k hkl
    refine semC_cut (fun _ : Unit => St.of [(1, .ptr 1 0), (2, .ptr 2 0), (3, .ptr 3 0), (4, i64 k), (5, .ptr 5 0)] [(1, .box [chs 0 t]), (2, .box [.v (.slice none 0 0)]), (3, .box [.own 9 0 k 2]), (9, .arr 84 2 ((t.take k).map (chE G.lo))), (5, .box [i64 t[k].id, lns G.lo t[k].lines])]) (fun _ => True) ?_ ?_
    · refine semC_loop (fun j : Nat => St.of [(1, .ptr 1 0), (2, .ptr 2 0), (3, .ptr 3 0), (4, i64 k), (5, .ptr 5 0), (6, i64 j)] [(1, .box [chs 0 t]), (2, .box [.v (.slice none 0 0)]), (3, .box [.own 9 0 k 2]), (9, .arr 84 2 ((t.take k).map (chE G.lo))), (5, .box [i64 t[k].id, .own 8 0 j 1]), (8, .arr 78 1 ((t[k].lines.take j).map (lnE G.lo)))]) (fun j => j ≤ t[k].lines.length) (fun j => t[k].lines.length - j) 0 (by simp) (entA [(1, some 1), (2, some 2), (3, some 3), (9, some 9), (5, some 5), (8, none)] (by (simp only [go_sem]) <;> simp [chE]) (by (simp only [go_sem, entH, entH1, nilArr, obOK]) <;> simp [chE])) ?_
      rintro j hj
      have hmin2 : min j t[k].lines.length = j := Nat.min_eq_left hj
      refine vc_sound _ _ _ ?_; simp only [go_sem, hG, hOw]
      (repeat' with_reducible first | refine And.intro ?_ ?_ | intro _ | refine exP ?_ ?_); all_goals try omega
      · rename_i hlt2
        have hjl : j < t[k].lines.length := by omega
        have hr1 := (hc2 _ (List.getElem_mem hjl)).1
        have h1 := take_snoc_map (lnE G.lo) t[k].lines j hjl
        refine semC_drawT [(33, [5]), (46, [46, 8]), (47, [5])] mixed (by kernel_rfl) ?_
        simp only [go_sem, hG, hOw]
        (repeat' with_reducible first | refine And.intro ?_ ?_ | intro _ | refine exP ?_ ?_); all_goals try omega
        exact ⟨j + 1, by omega, by omega, entA [(1, some 1), (2, some 2), (3, some 3), (9, some 9), (5, some 5), (8, some 46)] (by (simp only [go_sem]) <;> simp [h1,hmin2,hmin,lnE,strs]) (by (simp only [go_sem, entH, entH1, nilArr, obOK]) <;> simp [h1,hmin2,hmin,lnE,strs])⟩
      · rename_i hge2
        have hj2 : j = t[k].lines.length := by omega
        subst hj2
        simp only [List.take_length]
        refine ⟨(), ent_frz (fun i => i == 8) ?_⟩
        exact entA [(1, some 1), (2, some 2), (3, some 3), (9, some 9), (5, some 5)]
    · rintro ⟨⟩ -
      simp only [go_sem, hG, hOw]
      (repeat' with_reducible first | refine And.intro ?_ ?_ | intro _ | refine exP ?_ ?_); all_goals try omega
      exact ⟨k + 1, by omega, by omega, entA [(1, some 1), (2, some 2), (3, some 3), (9, some 52)] (by (simp only [go_sem]) <;> simp [h0,hmin,chE,lns,i64]) (by (simp only [go_sem, entH, entH1, nilArr, obOK]) <;> simp [h0,hmin,chE,lns,i64])⟩
  · rename_i hge
    obtain rfl : k = t.length := by omega
    simp only [List.take_length]
    exact .refl _
theorem Twin05_ok (r : Ro) (hr : OKr r) : Gives Tryz.prog 15 [roE 0 r] (fun n => roE n r) := by
  refine pure_intro (ow := fun i => [11,15].contains i) Tryz.func15 Tryz.ntmps15 rfl (by kernel_rfl) (by simp) rfl (by decide) fun G hG hOw hNm hB => ?_; simp only [go_sem, hG, hOw]
  have hh := hr.h
  have hs := hr.s
  obtain ⟨hx1, hx2⟩ := hr.x
  refine semC_draw0 mixed (by kernel_rfl) ?_
  simp only [go_sem, hG, hOw]
  refine ⟨_, callGivesA (Twin01_ok r.text hr.t), ?_⟩
  simp only [go_sem, hG, hOw]
  (repeat' with_reducible first | refine And.intro ?_ ?_ | intro _ | refine exP ?_ ?_); all_goals try omega
  refine semC_loop (fun k : Nat => St.of [(1, .ptr 1 0), (2, .ptr 2 0), (3, .ptr 3 0), (4, i64 k)] [(1, .box (roC 0 r)), (2, .box [.v (.slice none 0 0), .v (.slice none 0 0), .v (.slice none 0 0), .v (.slice none 0 0)]), (3, .box [chs G.lo r.text, hps G.lo r.helpers, srs G.lo r.shares, .own 9 0 k 2]), (9, .arr 59 2 ((r.sheets.take k).map (seE G.lo)))]) (fun k => k ≤ r.sheets.length) (fun k => r.sheets.length - k) 0 (by simp) (entA [(1, some 1), (2, some 2), (3, some 3), (9, none)]) ?_
  rintro k hk
  have hmin : min k r.sheets.length = k := Nat.min_eq_left hk
  refine vc_sound _ _ _ ?_; simp only [go_sem, hG, hOw]
  (repeat' with_reducible first | refine And.intro ?_ ?_ | intro _ | refine exP ?_ ?_); all_goals try omega
  · rename_i hlt
    have hkl : k < r.sheets.length := by omega
    have h0 := take_snoc_map (seE G.lo) r.sheets k hkl
    refine semC_draw0 mixed (by kernel_rfl) ?_
    simp only [go_sem, hG, hOw]
    (repeat' with_reducible first | refine And.intro ?_ ?_ | intro _ | refine exP ?_ ?_); all_goals try omega
    refine ⟨_, callGivesA (TwinLines_ok r.sheets[k].lines (hx2 _ (List.getElem_mem hkl))), ?_⟩
    simp only [go_sem, hG, hOw]
    (repeat' with_reducible first | refine And.intro ?_ ?_ | intro _ | refine exP ?_ ?_); all_goals try omega
    exact ⟨k + 1, by omega, by omega, entA [(1, some 1), (2, some 2), (3, some 3), (9, some 41)] (by (simp only [go_sem]) <;> simp [h0,hmin,seE,lns,bl]) (by (simp only [go_sem, entH, entH1, nilArr, obOK]) <;> simp [h0,hmin,seE,lns,bl])⟩
  · rename_i hge
    obtain rfl : k = r.sheets.length := by omega
    simp only [List.take_length]
    exact .refl _
open Go Pm
set_option maxHeartbeats 4000000
set_option maxRecDepth 100000
instance : DecidableEq Ch := fun a b => by cases a; cases b; simp only [Ch.mk.injEq]; infer_instance
instance : DecidableEq Hp := fun a b => by cases a; cases b; simp only [Hp.mk.injEq]; infer_instance
instance : DecidableEq Sr := fun a b => by cases a; cases b; simp only [Sr.mk.injEq]; infer_instance
instance : DecidableEq Se := fun a b => by cases a; cases b; simp only [Se.mk.injEq]; infer_instance
instance : DecidableEq Ro := fun a b => by cases a; cases b; simp only [Ro.mk.injEq]; infer_instance
theorem take_eq_succ {α : Type} {l m : List α} {k : Nat} (h : l.take k = m.take k) (hl : k < l.length) (hm : k < m.length) (e : l[k] = m[k]) : l.take (k + 1) = m.take (k + 1) := by
  rw [List.take_add_one, List.take_add_one, h, List.getElem?_eq_getElem hl, List.getElem?_eq_getElem hm, e]
theorem Same01_ok (a b : List Ch) (ha : OKt a) : Gives Tryz.prog 80 [txE 0 a, txE 0 b] (fun _ => bl (decide (a = b))) := by
  refine pure_intro (ow := fun _ => false) Tryz.func80 Tryz.ntmps80 rfl (by kernel_rfl) (by simp) rfl (by decide) fun G hG hOw hNm hB => ?_; simp only [go_sem, hG, hOw]
  obtain ⟨ha1, ha2⟩ := ha
  have no : a ≠ b → false = decide (a = b) := fun h => by rw [decide_eq_false h]
  (repeat' with_reducible first | refine And.intro ?_ ?_ | intro _ | refine exP ?_ ?_); all_goals try omega
  · rename_i h
    exact no (by rintro rfl; simp at h)
  · rename_i h
    have hlen : a.length = b.length := by omega
    refine semC_loop (fun k : Nat => St.of [(2, .ptr 2 0), (3, .ptr 3 0), (5, i64 k)] [(2, .box [chs 0 a]), (3, .box [chs 0 b])]) (fun k => k ≤ a.length ∧ a.take k = b.take k) (fun k => a.length - k) 0 (by simp) (entA [(2, some 2), (3, some 3)]) ?_
    rintro k ⟨hk, hall⟩
    refine vc_sound _ _ _ ?_; simp only [go_sem, hG, hOw]
    (repeat' with_reducible first | refine And.intro ?_ ?_ | intro _ | refine exP ?_ ?_); all_goals try omega
    · rename_i hlt
      have hkl : k < a.length := by omega
      have hkm : k < b.length := by omega
      obtain ⟨hc, _⟩ := ha2 _ (List.getElem_mem hkl)
      have nok : a[k] ≠ b[k] → a ≠ b := fun h e => h (by subst e; rfl)
      refine semC_draw0 mixed (by kernel_rfl) ?_
      simp only [go_sem, hG, hOw]
      (repeat' with_reducible first | refine And.intro ?_ ?_ | intro _ | refine exP ?_ ?_); all_goals try omega
      · rename_i h0 h1
        exact no (nok (fun e => by rw [e] at h1; simp at h1))
      · rename_i h1 h2
        have hlen2 : a[k].lines.length = b[k].lines.length := by omega
        refine semC_loop (fun j : Nat => St.of [(2, .ptr 2 0), (3, .ptr 3 0), (5, i64 k), (6, .ptr 6 0), (7, .ptr 7 0), (8, i64 j)] [(2, .box [chs 0 a]), (3, .box [chs 0 b]), (6, .box (chE 0 a[k])), (7, .box (chE 0 b[k]))]) (fun j => j ≤ a[k].lines.length ∧ a[k].lines.take j = b[k].lines.take j) (fun j => a[k].lines.length - j) 0 (by simp) (entA [(2, some 2), (3, some 3), (6, some 6), (7, some 7)]) ?_
        rintro j ⟨hj, hallj⟩
        refine vc_sound _ _ _ ?_; simp only [go_sem, hG, hOw]
        (repeat' with_reducible first | refine And.intro ?_ ?_ | intro _ | refine exP ?_ ?_); all_goals try omega
        · rename_i hlt2
          refine semC_draw0 mixed (by kernel_rfl) ?_
          simp only [go_sem, hG, hOw]
          (repeat' with_reducible first | refine And.intro ?_ ?_ | intro _ | refine exP ?_ ?_); all_goals try omega
          refine ⟨_, callGivesA (SameWords_ok a[k].lines[j] b[k].lines[j]), ?_⟩
          simp only [go_sem, hG, hOw]
          (repeat' with_reducible first | refine And.intro ?_ ?_ | intro _ | refine exP ?_ ?_); all_goals try omega
          · rename_i h3
            exact no (nok (fun e => h3 (by simp [e])))
          · rename_i h3
            exact ⟨j + 1, ⟨by omega, take_eq_succ hallj (by omega) (by omega) h3⟩, by omega, entA [(2, some 2), (3, some 3), (6, some 6), (7, some 7)]⟩
        · rename_i hge2
          rw [take_full hj hge2, take_full (by omega) (by omega)] at hallj
          refine ⟨k + 1, ⟨by omega, take_eq_succ hall hkl hkm ?_⟩, by omega, entA [(2, some 2), (3, some 3)]⟩
          revert h1 hallj
          cases a[k]; cases b[k]
          rintro rfl rfl; rfl
      · rename_i h1
        exact no (nok (fun e => h1 (by rw [e])))
    · rename_i hge
      rw [take_full hk hge, take_full (by omega) (by omega)] at hall
      simp [hall]
theorem Same05_ok (a b : Ro) (ha : OKr a) : Gives Tryz.prog 25 [roE 0 a, roE 0 b] (fun _ => bl (decide (a = b))) := by
  refine pure_intro (ow := fun _ => false) Tryz.func25 Tryz.ntmps25 rfl (by kernel_rfl) (by simp) rfl (by decide) fun G hG hOw hNm hB => ?_; simp only [go_sem, hG, hOw]
  have no : a ≠ b → false = decide (a = b) := fun h => by rw [decide_eq_false h]
  have hh := ha.h
  have hs := ha.s
  obtain ⟨hx1, hx2⟩ := ha.x
  refine call_pureA (Same01_ok a.text b.text ha.t) ?_
  simp only [go_sem, hG, hOw]
  (repeat' with_reducible first | refine And.intro ?_ ?_ | intro _ | refine exP ?_ ?_); all_goals try omega
  · rename_i e1 e2 e3 e4
    exact no (by rintro rfl; simp at e4)
  · rename_i e1 e2 e3 e4
    refine semC_cut (fun _ : Unit => St.of [(2, .ptr 2 0), (3, .ptr 3 0)] [(2, .box (roC 0 a)), (3, .box (roC 0 b))]) (fun _ => a.helpers = b.helpers) ?_ ?_
    · refine semC_loop (fun k : Nat => St.of [(2, .ptr 2 0), (3, .ptr 3 0), (5, i64 k)] [(2, .box (roC 0 a)), (3, .box (roC 0 b))]) (fun k => k ≤ a.helpers.length ∧ a.helpers.take k = b.helpers.take k) (fun k => a.helpers.length - k) 0 (by simp) (entA [(2, some 2), (3, some 3)]) ?_
      rintro k ⟨hk, hall⟩
      refine vc_sound _ _ _ ?_; simp only [go_sem, hG, hOw]
      (repeat' with_reducible first | refine And.intro ?_ ?_ | intro _ | refine exP ?_ ?_); all_goals try omega
      · rename_i hlt
        refine semC_draw0 mixed (by kernel_rfl) ?_
        simp only [go_sem, hG, hOw]
        (repeat' with_reducible first | refine And.intro ?_ ?_ | intro _ | refine exP ?_ ?_); all_goals try omega
        · rename_i h1
          exact no (by rintro rfl; simp at h1)
        · rename_i h1
          refine ⟨k + 1, ⟨by omega, take_eq_succ hall (by omega) (by omega) ?_⟩, by omega, entA [(2, some 2), (3, some 3)]⟩
          revert h1
          cases a.helpers[k]; cases b.helpers[k]
          simp
      · rename_i hge
        rw [take_full hk hge, take_full (by omega) (by omega)] at hall
        exact ⟨(), hall, entA [(2, some 2), (3, some 3)]⟩
    rintro ⟨⟩ e5
    simp only [go_sem, hG, hOw]
    refine semC_cut (fun _ : Unit => St.of [(2, .ptr 2 0), (3, .ptr 3 0)] [(2, .box (roC 0 a)), (3, .box (roC 0 b))]) (fun _ => a.shares = b.shares) ?_ ?_
    · refine semC_loop (fun k : Nat => St.of [(2, .ptr 2 0), (3, .ptr 3 0), (6, i64 k)] [(2, .box (roC 0 a)), (3, .box (roC 0 b))]) (fun k => k ≤ a.shares.length ∧ a.shares.take k = b.shares.take k) (fun k => a.shares.length - k) 0 (by simp) (entA [(2, some 2), (3, some 3)]) ?_
      rintro k ⟨hk, hall⟩
      refine vc_sound _ _ _ ?_; simp only [go_sem, hG, hOw]
      (repeat' with_reducible first | refine And.intro ?_ ?_ | intro _ | refine exP ?_ ?_); all_goals try omega
      · rename_i hlt
        refine semC_draw0 mixed (by kernel_rfl) ?_
        simp only [go_sem, hG, hOw]
        (repeat' with_reducible first | refine And.intro ?_ ?_ | intro _ | refine exP ?_ ?_); all_goals try omega
        · rename_i h1
          exact no (by rintro rfl; simp at h1)
        · rename_i h1
          refine ⟨k + 1, ⟨by omega, take_eq_succ hall (by omega) (by omega) ?_⟩, by omega, entA [(2, some 2), (3, some 3)]⟩
          revert h1
          cases a.shares[k]; cases b.shares[k]
          simp
      · rename_i hge
        rw [take_full hk hge, take_full (by omega) (by omega)] at hall
        exact ⟨(), hall, entA [(2, some 2), (3, some 3)]⟩
    rintro ⟨⟩ e6
    simp only [go_sem, hG, hOw]
    refine semC_loop (fun k : Nat => St.of [(2, .ptr 2 0), (3, .ptr 3 0), (7, i64 k)] [(2, .box (roC 0 a)), (3, .box (roC 0 b))]) (fun k => k ≤ a.sheets.length ∧ a.sheets.take k = b.sheets.take k) (fun k => a.sheets.length - k) 0 (by simp) (entA [(2, some 2), (3, some 3)]) ?_
    rintro k ⟨hk, hall⟩
    refine vc_sound _ _ _ ?_; simp only [go_sem, hG, hOw]
    (repeat' with_reducible first | refine And.intro ?_ ?_ | intro _ | refine exP ?_ ?_); all_goals try omega
    · rename_i hlt
      refine semC_draw0 mixed (by kernel_rfl) ?_
      simp only [go_sem, hG, hOw]
      (repeat' with_reducible first | refine And.intro ?_ ?_ | intro _ | refine exP ?_ ?_); all_goals try omega
      · rename_i h1
        refine ⟨_, callGivesA (SameLines_ok a.sheets[k].lines b.sheets[k].lines), ?_⟩
        simp only [go_sem, hG, hOw]
        (repeat' with_reducible first | refine And.intro ?_ ?_ | intro _ | refine exP ?_ ?_); all_goals try omega
        · rename_i h2
          exact no (by rintro rfl; simp at h2)
        · rename_i h2
          refine ⟨k + 1, ⟨by omega, take_eq_succ hall (by omega) (by omega) ?_⟩, by omega, entA [(2, some 2), (3, some 3)]⟩
          revert h1 h2
          cases a.sheets[k]; cases b.sheets[k]
          simp only [beq_iff_eq, Se.mk.injEq]
          exact And.intro
      · rename_i h1
        exact no (by rintro rfl; simp at h1)
    · rename_i hge
      rw [take_full hk hge, take_full (by omega) (by omega)] at hall
      have : a = b := by
        cases a; cases b
        simp only at e1 e5 e6 hall
        subst e1; subst e5; subst e6; subst hall; rfl
      simp [this]
  · rename_i e1 e2 e3
    exact no (by rintro rfl; simp at e3)
  · rename_i e1 e2
    exact no (by rintro rfl; simp at e2)
  · rename_i e1
    exact no (by rintro rfl; simp at e1)
end Go.Proofs.YtfnohnjnncjidaaGreatDoor
