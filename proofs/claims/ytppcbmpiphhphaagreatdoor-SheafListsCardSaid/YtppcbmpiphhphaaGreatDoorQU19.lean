import Derived.Test.YtppcbmpiphhphaaGreatDoorQU12
import Derived.Test.YtppcbmpiphhphaaGreatDoorQU16
namespace Go.Proofs.YtppcbmpiphhphaaGreatDoor
open Go Pm
set_option linter.unusedSimpArgs false
set_option linter.unusedVariables false
set_option maxHeartbeats 4000000
set_option maxRecDepth 100000
def idsM (l : List Int) : List (Value × V) := l.map fun n => (.int .i64 n, .v (.bool true))
theorem lkM_ids (l : List Int) (n : Int) : (lkM (idsM l) (.int .i64 n)).getD (.v (.bool false)) = .v (.bool (l.any fun x => decide (x = n))) := by
  induction l with
  | nil => rfl
  | cons x r ih =>
    simp only [idsM, List.map_cons, lkM, keyB, List.any_cons]
    by_cases h : x = n
    · simp [h]
    · simp only [h, decide_false, Bool.false_eq_true, if_false, Bool.false_or]
      exact ih
theorem upM_ids (l : List Int) (n : Int) (h : (l.any fun x => decide (x = n)) = false) : upM (idsM l) (.int .i64 n) (.v (.bool true)) = idsM (l ++ [n]) := by
  induction l with
  | nil => rfl
  | cons x r ih =>
    simp only [List.any_cons, Bool.or_eq_false_iff, decide_eq_false_iff_not] at h
    simp only [idsM, List.map_cons, upM, keyB, List.cons_append]
    simp only [h.1, decide_false, Bool.false_eq_true, if_false, List.cons.injEq, true_and]
    exact ih h.2
theorem idsM_snd (l : List Int) : (idsM l).map (fun q => q.2) = List.replicate l.length (.v (.bool true)) := by
  induction l with
  | nil => rfl
  | cons x r ih => simp only [idsM, List.map_cons, List.length_cons, List.replicate_succ] at ih ⊢; rw [ih]
theorem okL_rep {f : V → V → Prop} {x : V} {n : Nat} (h : f x x) : okL f (List.replicate n x) (List.replicate n x) = True := by
  induction n with
  | zero => exact eq_true trivial
  | succ n ih => exact eq_true ⟨h, by rw [ih]; trivial⟩
theorem idsM_nil : idsM [] = [] := rfl
attribute [go_sem] idsM_nil idsM_snd okL_rep
theorem map_any {α : Type} (f : α → Int) (l : List α) (n : Int) : ((l.map f).any fun x => decide (x = n)) = l.any fun d => decide (f d = n) := by
  induction l with
  | nil => rfl
  | cons x r ih => simp [ih]
def idsOf {α : Type} (f : α → Int) (l : List α) (k : Nat) : List Int := (l.take k).map f
theorem idsOf_zero {α : Type} (f : α → Int) (l : List α) : idsOf f l 0 = [] := by simp [idsOf]
theorem idsOf_any {α : Type} (f : α → Int) (l : List α) (k : Nat) (n : Int) : ((idsOf f l k).any fun x => decide (x = n)) = (l.take k).any fun d => decide (f d = n) := map_any f _ n
theorem idsOf_up {α : Type} (f : α → Int) (l : List α) (k : Nat) (hk : k < l.length) (h : ((l.take k).any fun d => decide (f d = f l[k])) = false) : upM (idsM (idsOf f l k)) (.int .i64 (f l[k])) (.v (.bool true)) = idsM (idsOf f l (k + 1)) := by
  rw [upM_ids _ _ (by rw [idsOf_any]; exact h)]
  unfold idsOf
  rw [take_snoc_map f l k hk]
attribute [go_sem] idsOf_zero
theorem LCheck1_ok (s : ByteArray) : Gives Tryz.prog 88 [.v (.string s)] (fun _ => bl (!wordB s)) := by
  refine pure_intro (ow := fun _ => false) Tryz.func88 Tryz.ntmps88 rfl (by kernel_rfl) (by simp) rfl (by decide) fun G hG hOw hNm hB => ?_; simp only [go_sem, hG, hOw]
  refine call_pureA (word_ok s) ?_
  simp only [go_sem, hG, hOw]
theorem LCheck_lines (t : List Ch) (k : Nat) {G : Gh} {Q : Exit → St → Prop} (hG : G.n = 64) (hOw : G.ow = fun _ => false) (hNm : G.nm = []) (l : List (List ByteArray)) (hl : l.length ≤ 140737488355328) (hbad : l.all lineB = false → ∀ s', s'.get 3 = i64 10 → Q (.exit 0) s') :
    SemC Tryz.prog G (bkOf 2 Tryz.f50.body) (St.of [(1, .ptr 1 0), (3, i64 0), (4, .mp 15), (17, chs 0 t), (18, i64 t.length), (19, i64 k), (46, lns 0 l), (47, i64 l.length), (48, i64 0)] [(1, .box [chs 0 t]), (15, .map (.int .i64) (idsM (idsOf Ch.id t (k + 1))))])
      (cutQ G 2 (fun _ : Unit => St.of [(1, .ptr 1 0), (3, i64 0), (4, .mp 15), (17, chs 0 t), (18, i64 t.length), (19, i64 k)] [(1, .box [chs 0 t]), (15, .map (.int .i64) (idsM (idsOf Ch.id t (k + 1))))]) (fun _ => l.all lineB = true) Q) := by
  unfold Tryz.f50
  simp only [rgOf, bkOf, rgO, bkO, orElse, Option.bind_some, Option.getD_some, reduceIte, Nat.reduceEqDiff, reduceCtorEq]
  refine semC_loop (fun j : Nat => St.of [(1, .ptr 1 0), (3, i64 0), (4, .mp 15), (17, chs 0 t), (18, i64 t.length), (19, i64 k), (46, lns 0 l), (47, i64 l.length), (48, i64 j)] [(1, .box [chs 0 t]), (15, .map (.int .i64) (idsM (idsOf Ch.id t (k + 1))))]) (fun j => j ≤ l.length ∧ (l.take j).all lineB = true) (fun j => l.length - j) 0 (by simp) (entA [(1, some 1), (15, some 15)]) ?_
  rintro j ⟨hj, hallj⟩
  refine vc_sound _ _ _ ?_; simp only [go_sem, hG, hOw]
  (repeat' with_reducible first | refine And.intro ?_ ?_ | intro _ | refine exP ?_ ?_); all_goals try omega
  · rename_i hlt2
    have hjl : j < l.length := by omega
    have badj : lineB l[j] = false → l.all lineB = false := fun h => all_false hjl h
    refine call_pureA (inL_one 1 10 l[j].length) ?_
    simp only [go_sem, hG, hOw]
    (repeat' with_reducible first | refine And.intro ?_ ?_ | intro _ | refine exP ?_ ?_); all_goals try omega
    · rename_i h5
      refine call_pureA (ContainsFunc_Str _ [] (fun s => !wordB s) l[j] rfl (fun s _ => LCheck1_ok s)) ?_
      simp only [go_sem, hG, hOw]
      have hL : lineB l[j] = !(l[j].any fun s => !wordB s) := by
        unfold lineB; rw [h5, List.not_any_eq_all_not]; simp
      (repeat' with_reducible first | refine And.intro ?_ ?_ | intro _ | refine exP ?_ ?_); all_goals try omega
      · rename_i h6
        exact hbad (badj (by rw [hL, h6]; rfl)) _ (by simp [go_sem])
      · rename_i h6
        exact ⟨j + 1, ⟨by omega, all_take_succ hjl hallj (by rw [hL, h6]; rfl)⟩, by omega, entA [(1, some 1), (15, some 15)]⟩
    · rename_i h5
      exact hbad (badj (by unfold lineB; rw [h5]; rfl)) _ (by simp [go_sem])
  · rename_i hge2
    rw [take_full hj hge2] at hallj
    exact ⟨(), hallj, entA [(1, some 1), (15, some 15)]⟩
theorem LCheck_ok (t : List Ch) : Gives Tryz.prog 50 [txE 0 t] (fun _ => i64 (if textB t then 0 else 10)) := by
  refine pure_intro (ow := fun _ => false) Tryz.func50 Tryz.ntmps50 rfl (by kernel_rfl) (by simp) rfl (by decide) fun G hG hOw hNm hB => ?_; simp only [go_sem, hG, hOw]
  obtain ⟨hb1, hb2⟩ := bd_chs (bd_agg (hB (txE 0 t) (by simp)) (chs 0 t) (by simp))
  refine call_pureA (inL_one 1 6 t.length) ?_
  simp only [go_sem, hG, hOw]
  (repeat' with_reducible first | refine And.intro ?_ ?_ | intro _ | refine exP ?_ ?_); all_goals try omega
  · rename_i h1
    unfold textB
    rw [h1]; rfl
  · rename_i h1
    have bad : ∀ k (h : k < t.length), chapB (t.take k) t[k] = false → textB t = false := fun k h h' => by
      unfold textB
      rw [allPre_bad h h', Bool.and_false]
    refine semC_cut (fun c : Int => St.of [(3, i64 c)] []) (fun c => c = if textB t then 0 else 10) ?_ ?_
    · refine semC_loop (fun k : Nat => St.of [(1, .ptr 1 0), (3, i64 0), (4, .mp 15), (17, chs 0 t), (18, i64 t.length), (19, i64 k)] [(1, .box [chs 0 t]), (15, .map (.int .i64) (idsM (idsOf Ch.id t k)))]) (fun k => k ≤ t.length ∧ allPre chapB [] (t.take k) = true) (fun k => t.length - k) 0 (by simp [allPre]) (entA [(1, some 1), (15, some 15)] (by (simp only [go_sem]) <;> simp [idsOf_zero,idsM_nil]) (by (simp only [go_sem, entH, entH1, nilArr, obOK]) <;> simp [idsOf_zero,idsM_nil])) ?_
      rintro k ⟨hk, hall⟩
      refine vc_sound _ _ _ ?_; simp only [go_sem, hG, hOw]
      (repeat' with_reducible first | refine And.intro ?_ ?_ | intro _ | refine exP ?_ ?_); all_goals try omega
      · rename_i hlt
        have hkl : k < t.length := by omega
        obtain ⟨hc1, hc2⟩ := hb2 _ (List.getElem_mem hkl)
        refine call_pureA (inL_one 0 9999 t[k].id) ?_
        simp (maxSteps := 2000000) only [go_sem, hG, hOw, lkM_ids, idsOf_any]
        (repeat' with_reducible first | refine And.intro ?_ ?_ | intro _ | refine exP ?_ ?_); all_goals try omega
        · rename_i h2 h3
          refine call_pureA (inL_one 1 10 t[k].lines.length) ?_
          have hup := idsOf_up Ch.id t k hkl h3
          simp (maxSteps := 2000000) only [go_sem, hG, hOw, hup]
          (repeat' with_reducible first | refine And.intro ?_ ?_ | intro _ | refine exP ?_ ?_); all_goals try omega
          · rename_i h4
            rw [bad k hkl (by unfold chapB; rw [h4, Bool.and_false]; rfl)]; rfl
          · rename_i h4
            refine semC_cutN (fun _ : Unit => St.of [(1, .ptr 1 0), (3, i64 0), (4, .mp 15), (17, chs 0 t), (18, i64 t.length), (19, i64 k)] [(1, .box [chs 0 t]), (15, .map (.int .i64) (idsM (idsOf Ch.id t (k + 1))))]) (fun _ => t[k].lines.all lineB = true) ?_ ?_
            · refine semC_ent (s' := St.of [(1, .ptr 1 0), (3, i64 0), (4, .mp 15), (17, chs 0 t), (18, i64 t.length), (19, i64 k), (46, lns 0 t[k].lines), (47, i64 t[k].lines.length), (48, i64 0)] [(1, .box [chs 0 t]), (15, .map (.int .i64) (idsM (idsOf Ch.id t (k + 1))))]) (entA [(1, some 1), (15, some 15)]) ?_
              refine semC_code (by kernel_rfl) (LCheck_lines t k hG hOw hNm t[k].lines hc1 fun hb s' hs' => ⟨10, ?_, ?_⟩)
              · rw [bad k hkl (by unfold chapB; rw [hb]; simp)]; rfl
              · exact ent_of0 (by simp [entS, okN, hs', i64]) hNm
            rintro ⟨⟩ hallj
            simp only [go_sem, hG, hOw]
            (repeat' with_reducible first | refine And.intro ?_ ?_ | intro _ | refine exP ?_ ?_); all_goals try omega
            refine ⟨k + 1, ⟨by omega, ?_⟩, by omega, entA [(1, some 1), (15, some 15)]⟩
            rw [allPre_step _ _ _ hkl, hall]
            unfold chapB
            rw [h2, h3, h4, hallj]; rfl
        · rename_i h2 h3
          rw [bad k hkl (by unfold chapB; rw [h3]; simp)]; rfl
        · rename_i h2
          rw [bad k hkl (by unfold chapB; rw [h2]; rfl)]; rfl
      · rename_i hge
        rw [take_full hk hge] at hall
        refine ⟨0, ?_, ent_of0 (by (simp only [go_sem]) <;> simp) hNm⟩
        unfold textB
        rw [h1, hall]; rfl
    · rintro c rfl
      simp only [go_sem, hG, hOw]
      (repeat' with_reducible first | refine And.intro ?_ ?_ | intro _ | refine exP ?_ ?_); all_goals try omega
end Go.Proofs.YtppcbmpiphhphaaGreatDoor
