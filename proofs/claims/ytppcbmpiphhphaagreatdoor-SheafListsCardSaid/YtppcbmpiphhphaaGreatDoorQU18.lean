import Derived.Test.YtppcbmpiphhphaaGreatDoorQU10
import Derived.Test.YtppcbmpiphhphaaGreatDoorQU12
namespace Go.Proofs.YtppcbmpiphhphaaGreatDoor
open Go Pm
set_option linter.unusedSimpArgs false
set_option linter.unusedVariables false
set_option maxHeartbeats 4000000
set_option maxRecDepth 100000
theorem within01_ok (n lo hi : Int) : Gives Tryz.prog 100 [i64 n, i64 lo, i64 hi] (fun _ => bl (inB n lo hi)) := by
  unfold inB
  refine pure_intro (ow := fun _ => false) Tryz.func100 Tryz.ntmps100 rfl (by kernel_rfl) (by simp) rfl (by decide) fun G hG hOw hNm hB => ?_; simp only [go_sem, hG, hOw]
  exact ⟨fun h => by simp [h], fun h => by simp [h]⟩
theorem Word_ok (s : ByteArray) (hs : s.size ≤ 140737488355328) : Gives Tryz.prog 67 [.v (.string s)] (fun _ => bl (wordB s)) := by
  refine pure_intro (ow := fun _ => false) Tryz.func67 Tryz.ntmps67 rfl (by kernel_rfl) (by simp) rfl (by decide) fun G hG hOw hNm hB => ?_; simp only [go_sem, hG, hOw]
  have bad : ∀ j (h : j < s.size), letterB s[j] = false → false = wordB s := fun j h h' => by
    unfold wordB
    rw [all_false (l := s.data.toList) (k := j) (by simpa using h) (by rw [byte_at _ _ h]; exact h')]; rfl
  refine semC_loop (fun j : Nat => St.of [(0, .v (.string s)), (3, i64 j)] []) (fun j => j ≤ s.size ∧ (s.data.toList.take j).all letterB = true) (fun j => s.size - j) 0 (by simp) (ent_of0 (by (simp only [go_sem]) <;> simp) hNm) ?_
  rintro j ⟨hj, hall⟩
  refine vc_sound _ _ _ ?_; simp only [go_sem, hG, hOw]
  (repeat' with_reducible first | refine And.intro ?_ ?_ | intro _ | refine exP ?_ ?_); all_goals try omega
  · exact bad j (by omega) (by simp [letterB]; omega)
  · refine ⟨j + 1, ⟨by omega, all_take_succ (by simp; omega) hall ?_⟩, by omega, ent_of0 (by (simp only [go_sem]) <;> simp) hNm⟩
    rw [byte_at _ _ (by omega)]
    simp [letterB]; omega
  · exact bad j (by omega) (by simp [letterB]; omega)
  · rename_i hge
    refine call_pureA (within01_ok _ _ _) ?_
    simp only [go_sem, hG, hOw]
    rw [take_full (by simpa using hj) (by simpa using hge)] at hall
    unfold wordB
    rw [hall]; rfl
def OKlB (l : List (List ByteArray)) : Prop := l.length ≤ 1000 ∧ ∀ r ∈ l, r.length ≤ 1000 ∧ ∀ s ∈ r, s.size ≤ 100000
def OKtB (t : List Ch) : Prop := t.length ≤ 1000 ∧ ∀ c ∈ t, OKlB c.lines
theorem OKt.big {t : List Ch} (h : OKt t) : OKtB t := ⟨by have := h.1; omega, fun c hc => ⟨by have := (h.2 c hc).1; omega, fun r hr => ⟨by have := ((h.2 c hc).2 r hr).1; omega, fun s hs => by have := ((h.2 c hc).2 r hr).2 s hs; omega⟩⟩⟩
theorem TextB_ok (t : List Ch) (ht : OKtB t) : Gives Tryz.prog 91 [txE 0 t] (fun _ => bl (textB t)) := by
  refine pure_intro (ow := fun _ => false) Tryz.func91 Tryz.ntmps91 rfl (by kernel_rfl) (by simp) rfl (by decide) fun G hG hOw hNm hB => ?_; simp only [go_sem, hG, hOw]
  obtain ⟨ht1, ht2⟩ := ht
  refine call_pureA (within01_ok t.length 1 6) ?_
  simp only [go_sem, hG, hOw]
  (repeat' with_reducible first | refine And.intro ?_ ?_ | intro _ | refine exP ?_ ?_); all_goals try omega
  · rename_i h1
    unfold textB
    rw [h1]; rfl
  · rename_i h1
    have bad : ∀ k (h : k < t.length), chapB (t.take k) t[k] = false → false = textB t := fun k h h' => by
      unfold textB
      rw [allPre_bad h h', Bool.and_false]
    refine semC_loop (fun k : Nat => St.of [(1, .ptr 1 0), (3, i64 k)] [(1, .box [chs 0 t])]) (fun k => k ≤ t.length ∧ allPre chapB [] (t.take k) = true) (fun k => t.length - k) 0 (by simp [allPre]) (entA [(1, some 1)]) ?_
    rintro k ⟨hk, hall⟩
    refine vc_sound _ _ _ ?_; simp only [go_sem, hG, hOw]
    (repeat' with_reducible first | refine And.intro ?_ ?_ | intro _ | refine exP ?_ ?_); all_goals try omega
    · rename_i hlt
      have hkl : k < t.length := by omega
      obtain ⟨hc1, hc2⟩ := ht2 _ (List.getElem_mem hkl)
      refine call_pureA (within01_ok t[k].id 0 9999) ?_
      simp only [go_sem, hG, hOw]
      (repeat' with_reducible first | refine And.intro ?_ ?_ | intro _ | refine exP ?_ ?_); all_goals try omega
      · rename_i h2
        refine call_pureA (within01_ok t[k].lines.length 1 10) ?_
        simp only [go_sem, hG, hOw]
        (repeat' with_reducible first | refine And.intro ?_ ?_ | intro _ | refine exP ?_ ?_); all_goals try omega
        · rename_i h3
          exact bad k hkl (by unfold chapB; rw [h3, Bool.and_false]; rfl)
        · rename_i h3
          refine semC_loop (fun j : Nat => St.of [(1, .ptr 1 0), (3, i64 k), (4, .ptr 4 0), (5, i64 j)] [(1, .box [chs 0 t]), (4, .box [i64 t[k].id, lns 0 t[k].lines])]) (fun j => j ≤ k ∧ (t.take j).all (fun d => !decide (d.id = t[k].id)) = true) (fun j => k - j) 0 (by simp) (entA [(1, some 1), (4, some 4)]) ?_
          rintro j ⟨hj, hallj⟩
          refine vc_sound _ _ _ ?_; simp only [go_sem, hG, hOw]
          (repeat' with_reducible first | refine And.intro ?_ ?_ | intro _ | refine exP ?_ ?_); all_goals try omega
          · refine semC_draw0 mixed (by kernel_rfl) ?_
            simp only [go_sem, hG, hOw]
            (repeat' with_reducible first | refine And.intro ?_ ?_ | intro _ | refine exP ?_ ?_); all_goals try omega
            · rename_i hjk he
              refine bad k hkl ?_
              have : ((t.take k).any fun d => decide (d.id = t[k].id)) = true := List.any_eq_true.2 ⟨t[j], List.mem_take_iff_getElem.2 ⟨j, by omega, rfl⟩, by simp [he]⟩
              unfold chapB; rw [this]; simp
            · rename_i hjk he
              exact ⟨j + 1, ⟨by omega, all_take_succ (by omega) hallj (by simp [he])⟩, by omega, entA [(1, some 1), (4, some 4)]⟩
          · rename_i hjk
            have hjk : j = k := by omega
            subst hjk
            have hany : ((t.take j).any fun d => decide (d.id = t[j].id)) = false := by
              rw [List.any_eq_false]
              intro x hx
              simpa using List.all_eq_true.1 hallj x hx
            refine semC_loop (fun i : Nat => St.of [(1, .ptr 1 0), (3, i64 j), (4, .ptr 4 0), (6, i64 i)] [(1, .box [chs 0 t]), (4, .box [i64 t[j].id, lns 0 t[j].lines])]) (fun i => i ≤ t[j].lines.length ∧ (t[j].lines.take i).all lineB = true) (fun i => t[j].lines.length - i) 0 (by simp) (entA [(1, some 1), (4, some 4)]) ?_
            rintro i ⟨hi, halli⟩
            have badi : ∀ i (h : i < t[j].lines.length), lineB t[j].lines[i] = false → false = textB t := fun i h h' => bad j hkl (by unfold chapB; rw [all_false h h']; simp)
            refine vc_sound _ _ _ ?_; simp only [go_sem, hG, hOw]
            (repeat' with_reducible first | refine And.intro ?_ ?_ | intro _ | refine exP ?_ ?_); all_goals try omega
            · rename_i hlt2
              have hil : i < t[j].lines.length := by omega
              obtain ⟨hr1, hr2⟩ := hc2 _ (List.getElem_mem hil)
              refine call_pureA (within01_ok t[j].lines[i].length 1 10) ?_
              simp only [go_sem, hG, hOw]
              (repeat' with_reducible first | refine And.intro ?_ ?_ | intro _ | refine exP ?_ ?_); all_goals try omega
              · rename_i h5
                exact badi i hil (by unfold lineB; rw [h5]; rfl)
              · rename_i h5
                refine semC_loop (fun w : Nat => St.of [(1, .ptr 1 0), (3, i64 j), (4, .ptr 4 0), (6, i64 i), (7, i64 w)] [(1, .box [chs 0 t]), (4, .box [i64 t[j].id, lns 0 t[j].lines])]) (fun w => w ≤ t[j].lines[i].length ∧ (t[j].lines[i].take w).all wordB = true) (fun w => t[j].lines[i].length - w) 0 (by simp) (entA [(1, some 1), (4, some 4)]) ?_
                rintro w ⟨hw, hallw⟩
                refine vc_sound _ _ _ ?_; simp only [go_sem, hG, hOw]
                (repeat' with_reducible first | refine And.intro ?_ ?_ | intro _ | refine exP ?_ ?_); all_goals try omega
                · rename_i hlt3
                  have hwl : w < t[j].lines[i].length := by omega
                  refine call_pureA (Word_ok t[j].lines[i][w] (by have := hr2 _ (List.getElem_mem hwl); omega)) ?_
                  simp only [go_sem, hG, hOw]
                  (repeat' with_reducible first | refine And.intro ?_ ?_ | intro _ | refine exP ?_ ?_); all_goals try omega
                  · rename_i h6
                    exact badi i hil (by unfold lineB; rw [all_false hwl h6, Bool.and_false])
                  · rename_i h6
                    exact ⟨w + 1, ⟨by omega, all_take_succ hwl hallw h6⟩, by omega, entA [(1, some 1), (4, some 4)]⟩
                · rename_i hge3
                  rw [take_full hw hge3] at hallw
                  exact ⟨i + 1, ⟨by omega, all_take_succ hil halli (by unfold lineB; rw [h5, hallw]; rfl)⟩, by omega, entA [(1, some 1), (4, some 4)]⟩
            · rename_i hge2
              rw [take_full hi hge2] at halli
              refine ⟨j + 1, ⟨by omega, ?_⟩, by omega, entA [(1, some 1)]⟩
              rw [allPre_step _ _ _ hkl, hall]
              unfold chapB
              rw [h2, h3, hany, halli]; rfl
      · rename_i h2
        exact bad k hkl (by unfold chapB; rw [h2]; rfl)
    · rename_i hge
      rw [take_full hk hge] at hall
      unfold textB
      rw [h1, hall]; rfl
theorem CheckTB_ok (t : List Ch) (ht : OKtB t) : Gives Tryz.prog 56 [txE 0 t] (fun _ => i64 (if textB t then 0 else 10)) := by
  refine pure_intro (ow := fun _ => false) Tryz.func56 Tryz.ntmps56 rfl (by kernel_rfl) (by simp) rfl (by decide) fun G hG hOw hNm hB => ?_; simp only [go_sem, hG, hOw]
  refine call_pureA (TextB_ok t ht) ?_
  simp only [go_sem, hG, hOw]
  (repeat' with_reducible first | refine And.intro ?_ ?_ | intro _ | refine exP ?_ ?_); all_goals try omega
  · rename_i h; rw [h]; rfl
  · rename_i h; rw [h]; rfl
theorem CheckT_ok (t : List Ch) (ht : OKt t) : Gives Tryz.prog 56 [txE 0 t] (fun _ => i64 (if textB t then 0 else 10)) := CheckTB_ok t ht.big
end Go.Proofs.YtppcbmpiphhphaaGreatDoor
