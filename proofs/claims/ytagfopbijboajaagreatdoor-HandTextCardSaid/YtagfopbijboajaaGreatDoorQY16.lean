import Derived.Test.YtagfopbijboajaaGreatDoorQY10
import Derived.Test.YtagfopbijboajaaGreatDoorQY13
namespace Go.Proofs.YtagfopbijboajaaGreatDoor
open Go Pm
set_option linter.unusedSimpArgs false
set_option linter.unusedVariables false
set_option maxHeartbeats 4000000
set_option maxRecDepth 100000
theorem within01_ok (n lo hi : Int) : Gives Tryz.prog 100 [i64 n, i64 lo, i64 hi] (fun _ => bl (inB n lo hi)) := by
  unfold inB
  refine pure_intro (ow := fun _ => false) Tryz.func100 Tryz.ntmps100 rfl (by kernel_rfl) (by simp) rfl (by decide) fun G hG hOw hNm hB => ?_; simp only [go_sem, hG, hOw]
  exact ⟨fun h => by simp [h], fun h => by simp [h]⟩
theorem within05_ok (n lo hi : Int) : Gives Tryz.prog 88 [i64 n, i64 lo, i64 hi] (fun _ => bl (inB n lo hi)) := by
  unfold inB
  refine pure_intro (ow := fun _ => false) Tryz.func88 Tryz.ntmps88 rfl (by kernel_rfl) (by simp) rfl (by decide) fun G hG hOw hNm hB => ?_; simp only [go_sem, hG, hOw]
  exact ⟨fun h => by simp [h], fun h => by simp [h]⟩
theorem Word_ok (s : ByteArray) (hs : s.size ≤ 140737488355328) : Gives Tryz.prog 89 [.v (.string s)] (fun _ => bl (wordB s)) := by
  refine pure_intro (ow := fun _ => false) Tryz.func89 Tryz.ntmps89 rfl (by kernel_rfl) (by simp) rfl (by decide) fun G hG hOw hNm hB => ?_; simp only [go_sem, hG, hOw]
  have bad : ∀ j (h : j < s.size), letterB s[j] = false → false = wordB s := fun j h h' => by
    unfold wordB
    rw [all_false (l := s.data.toList) (k := j) (by simpa using h) (by rw [byte_at _ _ h]; exact h')]; rfl
  refine semC_loop (fun j : Nat => St.of [(0, .v (.string s)), (3, i64 j)] []) (fun j => j ≤ s.size ∧ (s.data.toList.take j).all letterB = true) (fun j => s.size - j) 0 (by simp) (ent_of0 (by (simp only [go_sem]) <;> simp) hNm) ?_
  rintro j ⟨hj, hall⟩
  refine vc_sound _ _ _ ?_; simp only [go_sem, hG, hOw]
  (repeat' with_reducible first | refine And.intro ?_ ?_ | intro _ | refine exP ?_ ?_); all_goals try omega
  · exact bad j (by omega) (by simp [letterB]; omega)
  · refine ⟨j + 1, ⟨by omega, all_take_succ (by simp; omega) hall ?_⟩, by omega, ent_of0 (by (simp only [go_sem]) <;> simp) hNm⟩
    rw [byte_at _ _ (by omega)]
    simp [letterB]; omega
  · exact bad j (by omega) (by simp [letterB]; omega)
  · rename_i hge
    refine call_pureA (within01_ok _ _ _) ?_
    simp only [go_sem, hG, hOw]
    rw [take_full (by simpa using hj) (by simpa using hge)] at hall
    unfold wordB
    rw [hall]; rfl
theorem Text_ok (t : List Ch) (ht : OKt t) : Gives Tryz.prog 87 [txE 0 t] (fun _ => bl (textB t)) := by
  refine pure_intro (ow := fun _ => false) Tryz.func87 Tryz.ntmps87 rfl (by kernel_rfl) (by simp) rfl (by decide) fun G hG hOw hNm hB => ?_; simp only [go_sem, hG, hOw]
  obtain ⟨ht1, ht2⟩ := ht
  refine call_pureA (within01_ok t.length 1 6) ?_
  simp only [go_sem, hG, hOw]
  (repeat' with_reducible first | refine And.intro ?_ ?_ | intro _ | refine exP ?_ ?_); all_goals try omega
  · rename_i h1
    unfold textB
    rw [h1]; rfl
  · rename_i h1
    have bad : ∀ k (h : k < t.length), chapB (t.take k) t[k] = false → false = textB t := fun k h h' => by
      unfold textB
      rw [allPre_bad h h', Bool.and_false]
    refine semC_loop (fun k : Nat => St.of [(1, .ptr 1 0), (3, i64 k)] [(1, .box [chs 0 t])]) (fun k => k ≤ t.length ∧ allPre chapB [] (t.take k) = true) (fun k => t.length - k) 0 (by simp [allPre]) (entA [(1, some 1)]) ?_
    rintro k ⟨hk, hall⟩
    refine vc_sound _ _ _ ?_; simp only [go_sem, hG, hOw]
    (repeat' with_reducible first | refine And.intro ?_ ?_ | intro _ | refine exP ?_ ?_); all_goals try omega
    · rename_i hlt
      have hkl : k < t.length := by omega
      obtain ⟨hc1, hc2⟩ := ht2 _ (List.getElem_mem hkl)
      refine call_pureA (within01_ok t[k].id 0 9999) ?_
      simp only [go_sem, hG, hOw]
      (repeat' with_reducible first | refine And.intro ?_ ?_ | intro _ | refine exP ?_ ?_); all_goals try omega
      · rename_i h2
        refine call_pureA (within01_ok t[k].lines.length 1 10) ?_
        simp only [go_sem, hG, hOw]
        (repeat' with_reducible first | refine And.intro ?_ ?_ | intro _ | refine exP ?_ ?_); all_goals try omega
        · rename_i h3
          exact bad k hkl (by unfold chapB; rw [h3, Bool.and_false]; rfl)
        · rename_i h3
          refine semC_loop (fun j : Nat => St.of [(1, .ptr 1 0), (3, i64 k), (4, .ptr 4 0), (5, i64 j)] [(1, .box [chs 0 t]), (4, .box [i64 t[k].id, lns 0 t[k].lines])]) (fun j => j ≤ k ∧ (t.take j).all (fun d => !decide (d.id = t[k].id)) = true) (fun j => k - j) 0 (by simp) (entA [(1, some 1), (4, some 4)]) ?_
          rintro j ⟨hj, hallj⟩
          refine vc_sound _ _ _ ?_; simp only [go_sem, hG, hOw]
          (repeat' with_reducible first | refine And.intro ?_ ?_ | intro _ | refine exP ?_ ?_); all_goals try omega
          · refine semC_draw0 mixed (by kernel_rfl) ?_
            simp only [go_sem, hG, hOw]
            (repeat' with_reducible first | refine And.intro ?_ ?_ | intro _ | refine exP ?_ ?_); all_goals try omega
            · rename_i hjk he
              refine bad k hkl ?_
              have : ((t.take k).any fun d => decide (d.id = t[k].id)) = true := List.any_eq_true.2 ⟨t[j], List.mem_take_iff_getElem.2 ⟨j, by omega, rfl⟩, by simp [he]⟩
              unfold chapB; rw [this]; simp
            · rename_i hjk he
              exact ⟨j + 1, ⟨by omega, all_take_succ (by omega) hallj (by simp [he])⟩, by omega, entA [(1, some 1), (4, some 4)]⟩
          · rename_i hjk
            have hjk : j = k := by omega
            subst hjk
            have hany : ((t.take j).any fun d => decide (d.id = t[j].id)) = false := by
              rw [List.any_eq_false]
              intro x hx
              simpa using List.all_eq_true.1 hallj x hx
            refine semC_loop (fun i : Nat => St.of [(1, .ptr 1 0), (3, i64 j), (4, .ptr 4 0), (6, i64 i)] [(1, .box [chs 0 t]), (4, .box [i64 t[j].id, lns 0 t[j].lines])]) (fun i => i ≤ t[j].lines.length ∧ (t[j].lines.take i).all lineB = true) (fun i => t[j].lines.length - i) 0 (by simp) (entA [(1, some 1), (4, some 4)]) ?_
            rintro i ⟨hi, halli⟩
            have badi : ∀ i (h : i < t[j].lines.length), lineB t[j].lines[i] = false → false = textB t := fun i h h' => bad j hkl (by unfold chapB; rw [all_false h h']; simp)
            refine vc_sound _ _ _ ?_; simp only [go_sem, hG, hOw]
            (repeat' with_reducible first | refine And.intro ?_ ?_ | intro _ | refine exP ?_ ?_); all_goals try omega
            · rename_i hlt2
              have hil : i < t[j].lines.length := by omega
              obtain ⟨hr1, hr2⟩ := hc2 _ (List.getElem_mem hil)
              refine call_pureA (within01_ok t[j].lines[i].length 1 10) ?_
              simp only [go_sem, hG, hOw]
              (repeat' with_reducible first | refine And.intro ?_ ?_ | intro _ | refine exP ?_ ?_); all_goals try omega
              · rename_i h5
                exact badi i hil (by unfold lineB; rw [h5]; rfl)
              · rename_i h5
                refine semC_loop (fun w : Nat => St.of [(1, .ptr 1 0), (3, i64 j), (4, .ptr 4 0), (6, i64 i), (7, i64 w)] [(1, .box [chs 0 t]), (4, .box [i64 t[j].id, lns 0 t[j].lines])]) (fun w => w ≤ t[j].lines[i].length ∧ (t[j].lines[i].take w).all wordB = true) (fun w => t[j].lines[i].length - w) 0 (by simp) (entA [(1, some 1), (4, some 4)]) ?_
                rintro w ⟨hw, hallw⟩
                refine vc_sound _ _ _ ?_; simp only [go_sem, hG, hOw]
                (repeat' with_reducible first | refine And.intro ?_ ?_ | intro _ | refine exP ?_ ?_); all_goals try omega
                · rename_i hlt3
                  have hwl : w < t[j].lines[i].length := by omega
                  refine call_pureA (Word_ok t[j].lines[i][w] (by have := hr2 _ (List.getElem_mem hwl); omega)) ?_
                  simp only [go_sem, hG, hOw]
                  (repeat' with_reducible first | refine And.intro ?_ ?_ | intro _ | refine exP ?_ ?_); all_goals try omega
                  · rename_i h6
                    exact badi i hil (by unfold lineB; rw [all_false hwl h6, Bool.and_false])
                  · rename_i h6
                    exact ⟨w + 1, ⟨by omega, all_take_succ hwl hallw h6⟩, by omega, entA [(1, some 1), (4, some 4)]⟩
                · rename_i hge3
                  rw [take_full hw hge3] at hallw
                  exact ⟨i + 1, ⟨by omega, all_take_succ hil halli (by unfold lineB; rw [h5, hallw]; rfl)⟩, by omega, entA [(1, some 1), (4, some 4)]⟩
            · rename_i hge2
              rw [take_full hi hge2] at halli
              refine ⟨j + 1, ⟨by omega, ?_⟩, by omega, entA [(1, some 1)]⟩
              rw [allPre_step _ _ _ hkl, hall]
              unfold chapB
              rw [h2, h3, hany, halli]; rfl
      · rename_i h2
        exact bad k hkl (by unfold chapB; rw [h2]; rfl)
    · rename_i hge
      rw [take_full hk hge] at hall
      unfold textB
      rw [h1, hall]; rfl
theorem CheckT_ok (t : List Ch) (ht : OKt t) : Gives Tryz.prog 59 [txE 0 t] (fun _ => i64 (if textB t then 0 else 10)) := by
  refine pure_intro (ow := fun _ => false) Tryz.func59 Tryz.ntmps59 rfl (by kernel_rfl) (by simp) rfl (by decide) fun G hG hOw hNm hB => ?_; simp only [go_sem, hG, hOw]
  refine call_pureA (Text_ok t ht) ?_
  simp only [go_sem, hG, hOw]
  (repeat' with_reducible first | refine And.intro ?_ ?_ | intro _ | refine exP ?_ ?_); all_goals try omega
  · rename_i h; rw [h]; rfl
  · rename_i h; rw [h]; rfl
open Go Pm
set_option maxHeartbeats 4000000
set_option maxRecDepth 100000
theorem linesL_step (t : List Ch) (k : Nat) (hk : k < t.length) : linesL (t.take (k + 1)) = linesL (t.take k) ++ t[k].lines := by
  unfold linesL
  rw [List.take_add_one, List.getElem?_eq_getElem hk, List.flatMap_append]; simp
theorem take_map_succ {α β : Type} (f : α → β) (l : List α) (k : Nat) (hk : k < l.length) : (l.map f).take (k + 1) = (l.map f).take k ++ [f l[k]] := by
  rw [List.take_add_one, List.getElem?_eq_getElem (by simpa using hk)]; simp
theorem linesL_len (t : List Ch) (ht : OKt t) (k : Nat) : (linesL (t.take k)).length ≤ 40 * k := by
  induction k with
  | zero => simp [linesL]
  | succ k ih =>
    by_cases hk : k < t.length
    · rw [linesL_step t k hk, List.length_append]
      have := (ht.2 _ (List.getElem_mem hk)).1
      omega
    · rw [List.take_of_length_le (by omega)] at ih ⊢
      omega
theorem linesL_all (t : List Ch) (ht : OKt t) : (linesL t).length ≤ 400 := by
  have := linesL_len t ht t.length
  rw [List.take_length] at this
  have := ht.1
  omega
theorem Lines_ok (t : List Ch) (ht : OKt t) : Gives Tryz.prog 8 [txE 0 t] (fun n => .lst n 1 ((linesL t).map (lnE 0))) := by
  have htt := ht
  obtain ⟨ht1, ht2⟩ := ht
  refine pure_intro (ow := fun _ => false) Tryz.func8 Tryz.ntmps8 rfl (by kernel_rfl) (by simp) rfl (by decide) fun G hG hOw hNm hB => ?_; simp only [go_sem, hG, hOw]
  refine semC_loop (fun k : Nat => St.of [(1, .ptr 1 0), (3, .own 9 0 (linesL (t.take k)).length 1), (4, i64 k)] [(1, .box [chs 0 t]), (9, .arr 44 1 ((linesL (t.take k)).map (lnE 0)))]) (fun k => k ≤ t.length) (fun k => t.length - k) 0 (by simp) (entA [(1, some 1), (9, none)] (by (simp only [go_sem]) <;> simp [linesL]) (by (simp only [go_sem, entH, entH1, nilArr, obOK]) <;> simp [linesL])) ?_
  rintro k hk
  refine vc_sound _ _ _ ?_; simp only [go_sem, hG, hOw]
  (repeat' with_reducible first | refine And.intro ?_ ?_ | intro _ | refine exP ?_ ?_); all_goals try omega
  · rename_i hlt
    have hkl : k < t.length := by omega
    obtain ⟨hc1, hc2⟩ := ht2 _ (List.getElem_mem hkl)
    have hlen := linesL_len t htt k
    refine semC_loop (fun j : Nat => St.of [(1, .ptr 1 0), (3, .own 9 0 (linesL (t.take k) ++ t[k].lines.take j).length 1), (4, i64 k), (5, i64 j)] [(1, .box [chs 0 t]), (9, .arr 44 1 ((linesL (t.take k) ++ t[k].lines.take j).map (lnE 0)))]) (fun j => j ≤ t[k].lines.length) (fun j => t[k].lines.length - j) 0 (by simp) (entA [(1, some 1), (9, some 9)]) ?_
    rintro j hj
    have hl2 : (linesL (t.take k) ++ t[k].lines.take j).length = (linesL (t.take k)).length + j := by rw [List.length_append, List.length_take]; omega
    refine vc_sound _ _ _ ?_; simp only [go_sem, hG, hOw]
    (repeat' with_reducible first | refine And.intro ?_ ?_ | intro _ | refine exP ?_ ?_); all_goals try omega
    · rename_i hlt2
      have hjl : j < t[k].lines.length := by omega
      have hmin : min j t[k].lines.length = j := Nat.min_eq_left hj
      have h1 := take_map_succ (lnE 0) t[k].lines j hjl
      have hmin2 : min (j + 1) t[k].lines.length = j + 1 := Nat.min_eq_left (by omega)
      exact ⟨j + 1, by omega, by omega, entA [(1, some 1), (9, some 35)] (by (simp only [go_sem]) <;> simp [h1,hmin,hmin2,Nat.add_assoc,lnE,strs]) (by (simp only [go_sem, entH, entH1, nilArr, obOK]) <;> simp [h1,hmin,hmin2,Nat.add_assoc,lnE,strs])⟩
    · rename_i hge2
      have hj2 : j = t[k].lines.length := by omega
      refine ⟨k + 1, by omega, by omega, ?_⟩
      rw [linesL_step t k hkl, hj2, List.take_length]
      exact entA [(1, some 1), (9, some 9)]
  · rename_i hge
    rw [take_full hk hge]
    exact .refl _
end Go.Proofs.YtagfopbijboajaaGreatDoor
