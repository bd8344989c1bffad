import Derived.Test.YtphadkcpgnkpfaaGreatDoorQT14
import Derived.Test.YtphadkcpgnkpfaaGreatDoorQT25
namespace Go.Proofs.YtphadkcpgnkpfaaGreatDoor
open Go Pm
set_option linter.unusedSimpArgs false
set_option linter.unusedVariables false
set_option maxHeartbeats 4000000
set_option maxRecDepth 100000
theorem any_true {α : Type} {p : α → Bool} {l : List α} {k : Nat} (hk : k < l.length) (h : p l[k] = true) : l.any p = true := List.any_eq_true.2 ⟨l[k], List.getElem_mem hk, h⟩
theorem any_of_take {α : Type} {p : α → Bool} {l : List α} (h : l.all (fun x => !p x) = true) : l.any p = false := List.any_eq_false.2 fun x hx => by simpa using List.all_eq_true.1 h x hx
theorem Great01_ok (t : List Ch) : Gives Tryz.prog 4 [txE 0 t] (fun _ => bl (greatT t)) := by
  refine pure_intro (ow := fun _ => false) Tryz.func4 Tryz.ntmps4 rfl (by kernel_rfl) (by simp) rfl (by decide) fun G hG hOw hNm hB => ?_; simp only [go_sem, hG, hOw]
  have hb : t.length ≤ 140737488355328 ∧ ∀ c ∈ t, c.lines.length ≤ 140737488355328 ∧ ∀ r ∈ c.lines, r.length ≤ 140737488355328 := bd_chs (bd_agg (hB (txE 0 t) (by simp)) (chs 0 t) (by simp))
  obtain ⟨hb1, hb2⟩ := hb
  (repeat' with_reducible first | refine And.intro ?_ ?_ | intro _ | refine exP ?_ ?_); all_goals try omega
  · rename_i h; simp [greatT]; omega
  · rename_i h0
    refine semC_loop (fun k : Nat => St.of [(1, .ptr 1 0), (3, i64 k)] [(1, .box [chs 0 t])]) (fun k => k ≤ t.length ∧ (t.take k).all (fun x => !gtChap x) = true) (fun k => t.length - k) 0 (by simp) (entA [(1, some 1)]) ?_
    rintro k ⟨hk, hall⟩
    refine vc_sound _ _ _ ?_; simp only [go_sem, hG, hOw]
    (repeat' with_reducible first | refine And.intro ?_ ?_ | intro _ | refine exP ?_ ?_); all_goals try omega
    · rename_i hlt h1
      have hkl : k < t.length := by omega
      rw [greatT, any_true hkl (by simp [gtChap]; omega)]; simp
    · rename_i hlt h1
      have hkl : k < t.length := by omega
      obtain ⟨hc1, hc2⟩ := hb2 _ (List.getElem_mem hkl)
      have bad : gtChap t[k] = true → true = greatT t := fun h => by rw [greatT, any_true hkl h]; simp
      refine semC_loop (fun j : Nat => St.of [(1, .ptr 1 0), (3, i64 k), (4, i64 j)] [(1, .box [chs 0 t])]) (fun j => j ≤ t[k].lines.length ∧ (t[k].lines.take j).all (fun x => !gtLine x) = true) (fun j => t[k].lines.length - j) 0 (by simp) (entA [(1, some 1)]) ?_
      rintro j ⟨hj, hallj⟩
      refine vc_sound _ _ _ ?_; simp only [go_sem, hG, hOw]
      (repeat' with_reducible first | refine And.intro ?_ ?_ | intro _ | refine exP ?_ ?_); all_goals try omega
      · rename_i hlt2 h2
        have hjl : j < t[k].lines.length := by omega
        exact bad (by rw [gtChap, any_true hjl (by simp [gtLine]; omega)]; simp)
      · rename_i hlt2 h2
        have hjl : j < t[k].lines.length := by omega
        have hr1 := hc2 _ (List.getElem_mem hjl)
        refine semC_loop (fun w : Nat => St.of [(1, .ptr 1 0), (3, i64 k), (4, i64 j), (5, i64 w)] [(1, .box [chs 0 t])]) (fun w => w ≤ t[k].lines[j].length ∧ (t[k].lines[j].take w).all (fun s => !decide (40 < (s.size : Int))) = true) (fun w => t[k].lines[j].length - w) 0 (by simp) (entA [(1, some 1)]) ?_
        rintro w ⟨hw, hallw⟩
        refine vc_sound _ _ _ ?_; simp only [go_sem, hG, hOw]
        (repeat' with_reducible first | refine And.intro ?_ ?_ | intro _ | refine exP ?_ ?_); all_goals try omega
        · rename_i hlt3 h3
          have hwl : w < t[k].lines[j].length := by omega
          exact bad (by rw [gtChap, any_true hjl (by rw [gtLine, any_true hwl (by simp; omega)]; simp)]; simp)
        · rename_i hlt3 h3
          exact ⟨w + 1, ⟨by omega, all_take_succ (by omega) hallw (by simp; omega)⟩, by omega, entA [(1, some 1)]⟩
        · rename_i hge3
          rw [take_full hw hge3] at hallw
          exact ⟨j + 1, ⟨by omega, all_take_succ hjl hallj (by rw [gtLine, any_of_take hallw]; simp; omega)⟩, by omega, entA [(1, some 1)]⟩
      · rename_i hge2
        rw [take_full hj hge2] at hallj
        exact ⟨k + 1, ⟨by omega, all_take_succ hkl hall (by rw [gtChap, any_of_take hallj]; simp; omega)⟩, by omega, entA [(1, some 1)]⟩
    · rename_i hge
      rw [take_full hk hge] at hall
      rw [greatT, any_of_take hall]; simp; omega
theorem SameWords_ok (l m : List ByteArray) : Gives Tryz.prog 13 [strs 0 l, strs 0 m] (fun _ => bl (decide (l = m))) := by
  refine pure_intro (ow := fun _ => false) Tryz.func13 Tryz.ntmps13 rfl (by kernel_rfl) (by simp) rfl (by decide) fun G hG hOw hNm hB => ?_; simp only [go_sem, hG, hOw]
  have hl := bd_strs (lo := 0) (l := l) hB (by simp)
  refine ⟨fun h => ?_, fun h => ?_⟩
  · rw [decide_eq_false]
    rintro rfl
    simp at h
  have hlen : l.length = m.length := by omega
  refine semC_loop (fun k : Nat => St.of [(0, strs 0 l), (1, strs 0 m), (5, i64 k)] []) (fun k => k ≤ l.length ∧ l.take k = m.take k) (fun k => l.length - k) 0 (by simp) (ent_of0 (by (simp only [go_sem]) <;> simp) hNm) ?_
  rintro k ⟨hk, hall⟩
  refine vc_sound _ _ _ ?_; simp only [go_sem, hG, hOw]
  refine ⟨fun hlt => ?_, fun hge => ?_⟩
  · refine semC_draw0 mixed (by kernel_rfl) ?_
    simp only [go_sem, hG, hOw]
    refine ⟨by omega, by omega, fun h1 => ?_, fun h1 => ⟨(by first | omega | (simp; omega)), k + 1, ⟨by omega, ?_⟩, by omega, ent_of0 (by (simp only [go_sem]) <;> simp) hNm⟩⟩
    · rw [decide_eq_false]
      rintro rfl
      simp at h1
    · have e : l[k] = m[k] := by simpa using h1
      rw [List.take_add_one, List.take_add_one, hall, List.getElem?_eq_getElem (by omega), List.getElem?_eq_getElem (by omega), e]
  · rw [take_full hk hge, take_full (by omega) (by omega)] at hall
    rw [hall]; simp
open Go Pm
set_option maxHeartbeats 4000000
set_option maxRecDepth 100000
instance : DecidableEq Ch := fun a b => by cases a; cases b; simp only [Ch.mk.injEq]; infer_instance
instance : DecidableEq Hp := fun a b => by cases a; cases b; simp only [Hp.mk.injEq]; infer_instance
instance : DecidableEq Sr := fun a b => by cases a; cases b; simp only [Sr.mk.injEq]; infer_instance
instance : DecidableEq Se := fun a b => by cases a; cases b; simp only [Se.mk.injEq]; infer_instance
instance : DecidableEq Ro := fun a b => by cases a; cases b; simp only [Ro.mk.injEq]; infer_instance
theorem take_eq_succ {α : Type} {l m : List α} {k : Nat} (h : l.take k = m.take k) (hl : k < l.length) (hm : k < m.length) (e : l[k] = m[k]) : l.take (k + 1) = m.take (k + 1) := by
  rw [List.take_add_one, List.take_add_one, h, List.getElem?_eq_getElem hl, List.getElem?_eq_getElem hm, e]
theorem Same01_ok (a b : List Ch) (ha : OKt a) : Gives Tryz.prog 14 [txE 0 a, txE 0 b] (fun _ => bl (decide (a = b))) := by
  refine pure_intro (ow := fun _ => false) Tryz.func14 Tryz.ntmps14 rfl (by kernel_rfl) (by simp) rfl (by decide) fun G hG hOw hNm hB => ?_; simp only [go_sem, hG, hOw]
  obtain ⟨ha1, ha2⟩ := ha
  have no : a ≠ b → false = decide (a = b) := fun h => by rw [decide_eq_false h]
  (repeat' with_reducible first | refine And.intro ?_ ?_ | intro _ | refine exP ?_ ?_); all_goals try omega
  · rename_i h
    exact no (by rintro rfl; simp at h)
  · rename_i h
    have hlen : a.length = b.length := by omega
    refine semC_loop (fun k : Nat => St.of [(2, .ptr 2 0), (3, .ptr 3 0), (5, i64 k)] [(2, .box [chs 0 a]), (3, .box [chs 0 b])]) (fun k => k ≤ a.length ∧ a.take k = b.take k) (fun k => a.length - k) 0 (by simp) (entA [(2, some 2), (3, some 3)]) ?_
    rintro k ⟨hk, hall⟩
    refine vc_sound _ _ _ ?_; simp only [go_sem, hG, hOw]
    (repeat' with_reducible first | refine And.intro ?_ ?_ | intro _ | refine exP ?_ ?_); all_goals try omega
    · rename_i hlt
      have hkl : k < a.length := by omega
      have hkm : k < b.length := by omega
      obtain ⟨hc, _⟩ := ha2 _ (List.getElem_mem hkl)
      have nok : a[k] ≠ b[k] → a ≠ b := fun h e => h (by subst e; rfl)
      refine semC_draw0 mixed (by kernel_rfl) ?_
      simp only [go_sem, hG, hOw]
      (repeat' with_reducible first | refine And.intro ?_ ?_ | intro _ | refine exP ?_ ?_); all_goals try omega
      · rename_i h0 h1
        exact no (nok (fun e => by rw [e] at h1; simp at h1))
      · rename_i h1 h2
        have hlen2 : a[k].lines.length = b[k].lines.length := by omega
        refine semC_loop (fun j : Nat => St.of [(2, .ptr 2 0), (3, .ptr 3 0), (5, i64 k), (6, .ptr 6 0), (7, .ptr 7 0), (8, i64 j)] [(2, .box [chs 0 a]), (3, .box [chs 0 b]), (6, .box (chE 0 a[k])), (7, .box (chE 0 b[k]))]) (fun j => j ≤ a[k].lines.length ∧ a[k].lines.take j = b[k].lines.take j) (fun j => a[k].lines.length - j) 0 (by simp) (entA [(2, some 2), (3, some 3), (6, some 6), (7, some 7)]) ?_
        rintro j ⟨hj, hallj⟩
        refine vc_sound _ _ _ ?_; simp only [go_sem, hG, hOw]
        (repeat' with_reducible first | refine And.intro ?_ ?_ | intro _ | refine exP ?_ ?_); all_goals try omega
        · rename_i hlt2
          refine semC_draw0 mixed (by kernel_rfl) ?_
          simp only [go_sem, hG, hOw]
          (repeat' with_reducible first | refine And.intro ?_ ?_ | intro _ | refine exP ?_ ?_); all_goals try omega
          refine ⟨_, callGivesA (SameWords_ok a[k].lines[j] b[k].lines[j]), ?_⟩
          simp only [go_sem, hG, hOw]
          (repeat' with_reducible first | refine And.intro ?_ ?_ | intro _ | refine exP ?_ ?_); all_goals try omega
          · rename_i h3
            exact no (nok (fun e => h3 (by simp [e])))
          · rename_i h3
            exact ⟨j + 1, ⟨by omega, take_eq_succ hallj (by omega) (by omega) h3⟩, by omega, entA [(2, some 2), (3, some 3), (6, some 6), (7, some 7)]⟩
        · rename_i hge2
          rw [take_full hj hge2, take_full (by omega) (by omega)] at hallj
          refine ⟨k + 1, ⟨by omega, take_eq_succ hall hkl hkm ?_⟩, by omega, entA [(2, some 2), (3, some 3)]⟩
          revert h1 hallj
          cases a[k]; cases b[k]
          rintro rfl rfl; rfl
      · rename_i h1
        exact no (nok (fun e => h1 (by rw [e])))
    · rename_i hge
      rw [take_full hk hge, take_full (by omega) (by omega)] at hall
      simp [hall]
end Go.Proofs.YtphadkcpgnkpfaaGreatDoor
