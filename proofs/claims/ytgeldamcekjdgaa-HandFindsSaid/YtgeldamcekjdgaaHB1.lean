/- The program: the error of a text; lines of sheets. -/
import Derived.Test.YtgeldamcekjdgaaH6
import Derived.Test.YtgeldamcekjdgaaTab
namespace Go.Proofs.Ytgeldamcekjdgaa
open Go Pm
set_option linter.unusedSimpArgs false
set_option linter.unusedVariables false
set_option maxHeartbeats 4000000
set_option maxRecDepth 100000
def idsM (l : List Int) : List (Value × V) := l.map fun n => (.int .i64 n, .v (.bool true))
theorem lkM_ids (l : List Int) (n : Int) : (lkM (idsM l) (.int .i64 n)).getD (.v (.bool false)) = .v (.bool (l.any fun x => decide (x = n))) := by
  induction l with
  | nil => rfl
  | cons x r ih =>
    simp only [idsM, List.map_cons, lkM, keyB, List.any_cons]
    by_cases h : x = n
    · simp [h]
    · simp only [h, decide_false, Bool.false_eq_true, if_false, Bool.false_or]
      exact ih
theorem upM_ids (l : List Int) (n : Int) (h : (l.any fun x => decide (x = n)) = false) : upM (idsM l) (.int .i64 n) (.v (.bool true)) = idsM (l ++ [n]) := by
  induction l with
  | nil => rfl
  | cons x r ih =>
    simp only [List.any_cons, Bool.or_eq_false_iff, decide_eq_false_iff_not] at h
    simp only [idsM, List.map_cons, upM, keyB, List.cons_append]
    simp only [h.1, decide_false, Bool.false_eq_true, if_false, List.cons.injEq, true_and]
    exact ih h.2
theorem idsM_snd (l : List Int) : (idsM l).map (fun q => q.2) = List.replicate l.length (.v (.bool true)) := by
  induction l with
  | nil => rfl
  | cons x r ih => simp only [idsM, List.map_cons, List.length_cons, List.replicate_succ] at ih ⊢; rw [ih]
theorem okL_rep {f : V → V → Prop} {x : V} {n : Nat} (h : f x x) : okL f (List.replicate n x) (List.replicate n x) = True := by
  induction n with
  | zero => exact eq_true trivial
  | succ n ih => exact eq_true ⟨h, by rw [ih]; trivial⟩
theorem idsM_nil : idsM [] = [] := rfl
attribute [go_sem] idsM_nil idsM_snd okL_rep
theorem map_any {α : Type} (f : α → Int) (l : List α) (n : Int) : ((l.map f).any fun x => decide (x = n)) = l.any fun d => decide (f d = n) := by
  induction l with
  | nil => rfl
  | cons x r ih => simp [ih]
/-- the ids of the first chapters, of the first helpers -/
def idsOf {α : Type} (f : α → Int) (l : List α) (k : Nat) : List Int := (l.take k).map f
theorem idsOf_zero {α : Type} (f : α → Int) (l : List α) : idsOf f l 0 = [] := by simp [idsOf]
theorem idsOf_any {α : Type} (f : α → Int) (l : List α) (k : Nat) (n : Int) : ((idsOf f l k).any fun x => decide (x = n)) = (l.take k).any fun d => decide (f d = n) := map_any f _ n
theorem idsOf_up {α : Type} (f : α → Int) (l : List α) (k : Nat) (hk : k < l.length) (h : ((l.take k).any fun d => decide (f d = f l[k])) = false) : upM (idsM (idsOf f l k)) (.int .i64 (f l[k])) (.v (.bool true)) = idsM (idsOf f l (k + 1)) := by
  rw [upM_ids _ _ (by rw [idsOf_any]; exact h)]
  unfold idsOf
  rw [take_snoc_map f l k hk]
attribute [go_sem] idsOf_zero
theorem LCheck1_ok (s : ByteArray) : Gives Try.prog 74 [.v (.string s)] (fun _ => bl (!wordB s)) := by
  refine pure_intro (ow := fun _ => false) Try.func74 Try.ntmps74 rfl (by kernel_rfl) (by simp) rfl (by decide) fun G hG hOw hNm hB => ?_
  simp only [go_sem, hG, hOw, reduceIte, Nat.reduceLeDiff, Nat.le_refl, Nat.reduceEqDiff, Nat.reduceAdd, Nat.reduceLT, reduceCtorEq, Int.toNat_natCast]
  refine call_pure (word_ok s) (by first | exact Subs.refl _ | (repeat' (first | exact Subs.nil | exact Sub.refl _ | exact Sub.lo (Nat.zero_le _) | refine Subs.cons ?_ ?_ | refine Subs.agg ?_ | refine Subs.fp ?_ | refine Subs.tup ?_ | refine Sub.map (Nat.zero_le _) (fun _ => ?_)))) (by first | rfl | simp [allP, all0, pureV, pure0, *]) (by simp [chk, hG]) ?_
  simp only [go_sem, hG, hOw, reduceIte, Nat.reduceLeDiff, Nat.le_refl, Nat.reduceEqDiff, Nat.reduceAdd, Nat.reduceLT, reduceCtorEq, Int.toNat_natCast]
theorem LCheck_lines (t : List Ch) (k : Nat) {G : Gh} {Q : Exit → St → Prop} (hG : G.n = 64) (hOw : G.ow = fun _ => false) (hNm : G.nm = []) (l : List (List ByteArray)) (hl : l.length ≤ 140737488355328) (hbad : l.all lineB = false → ∀ s', s'.get 3 = i64 10 → Q (.exit 0) s') :
    SemC Try.prog G (bkOf 2 Try.f50.body) (St.of [(1, .ptr 1 0), (3, i64 0), (4, .mp 15), (17, chs 0 t), (18, i64 t.length), (19, i64 k), (46, lns 0 l), (47, i64 l.length), (48, i64 0)] [(1, .box [chs 0 t]), (15, .map (.int .i64) (idsM (idsOf Ch.id t (k + 1))))])
      (cutQ G 2 (fun _ : Unit => St.of [(1, .ptr 1 0), (3, i64 0), (4, .mp 15), (17, chs 0 t), (18, i64 t.length), (19, i64 k)] [(1, .box [chs 0 t]), (15, .map (.int .i64) (idsM (idsOf Ch.id t (k + 1))))]) (fun _ => l.all lineB = true) Q) := by
  unfold Try.f50
  simp only [rgOf, bkOf, rgO, bkO, orElse, Option.bind_some, Option.getD_some, reduceIte, Nat.reduceEqDiff, reduceCtorEq]
  refine semC_loop (fun j : Nat => St.of [(1, .ptr 1 0), (3, i64 0), (4, .mp 15), (17, chs 0 t), (18, i64 t.length), (19, i64 k), (46, lns 0 l), (47, i64 l.length), (48, i64 j)] [(1, .box [chs 0 t]), (15, .map (.int .i64) (idsM (idsOf Ch.id t (k + 1))))]) (fun j => j ≤ l.length ∧ (l.take j).all lineB = true) (fun j => l.length - j) 0 (by simp) (ent_of [(1, some 1), (15, some 15)] (by (simp only [go_sem, reduceIte, Nat.reduceLeDiff, Nat.le_refl, Nat.reduceEqDiff, Nat.reduceAdd, Nat.reduceLT, reduceCtorEq, Int.toNat_natCast]) <;> simp) (by (simp only [go_sem, entH, entH1, nilArr, obOK, reduceIte, Nat.reduceLeDiff, Nat.le_refl, Nat.reduceEqDiff, Nat.reduceAdd, Nat.reduceLT, reduceCtorEq, Int.toNat_natCast]) <;> simp) (by simp [injR, apart]) (by simp [coverR, usH]) (by simp [hNm, lkR, names])) ?_
  rintro j ⟨hj, hallj⟩
  refine vc_sound _ _ _ ?_; simp only [go_sem, hG, hOw, reduceIte, Nat.reduceLeDiff, Nat.le_refl, Nat.reduceEqDiff, Nat.reduceAdd, Nat.reduceLT, reduceCtorEq, Int.toNat_natCast]
  (repeat' (first | (with_reducible refine And.intro ?_ ?_) | (with_reducible intro _) | (with_reducible refine exP ?_ ?_))); all_goals (try omega)
  · rename_i hlt2
    have hjl : j < l.length := by omega
    have badj : lineB l[j] = false → l.all lineB = false := fun h => all_false hjl h
    refine call_pure (inL_one 1 10 l[j].length) (by first | exact Subs.refl _ | (repeat' (first | exact Subs.nil | exact Sub.refl _ | exact Sub.lo (Nat.zero_le _) | refine Subs.cons ?_ ?_ | refine Subs.agg ?_ | refine Subs.fp ?_ | refine Subs.tup ?_ | refine Sub.map (Nat.zero_le _) (fun _ => ?_)))) (by first | rfl | simp [allP, all0, pureV, pure0, *]) (by simp [chk, hG]) ?_
    simp only [go_sem, hG, hOw, reduceIte, Nat.reduceLeDiff, Nat.le_refl, Nat.reduceEqDiff, Nat.reduceAdd, Nat.reduceLT, reduceCtorEq, Int.toNat_natCast]
    (repeat' (first | (with_reducible refine And.intro ?_ ?_) | (with_reducible intro _) | (with_reducible refine exP ?_ ?_))); all_goals (try omega)
    · rename_i h5
      refine call_pure (ContainsFunc_Str _ [] (fun s => !wordB s) l[j] rfl (fun s _ => LCheck1_ok s)) (by first | exact Subs.refl _ | (repeat' (first | exact Subs.nil | exact Sub.refl _ | exact Sub.lo (Nat.zero_le _) | refine Subs.cons ?_ ?_ | refine Subs.agg ?_ | refine Subs.fp ?_ | refine Subs.tup ?_ | refine Sub.map (Nat.zero_le _) (fun _ => ?_)))) (by first | rfl | simp [allP, all0, pureV, pure0, *]) (by simp [chk, hG]) ?_
      simp only [go_sem, hG, hOw, reduceIte, Nat.reduceLeDiff, Nat.le_refl, Nat.reduceEqDiff, Nat.reduceAdd, Nat.reduceLT, reduceCtorEq, Int.toNat_natCast]
      have hL : lineB l[j] = !(l[j].any fun s => !wordB s) := by
        unfold lineB; rw [h5, List.not_any_eq_all_not]; simp
      (repeat' (first | (with_reducible refine And.intro ?_ ?_) | (with_reducible intro _) | (with_reducible refine exP ?_ ?_))); all_goals (try omega)
      · rename_i h6
        exact hbad (badj (by rw [hL, h6]; rfl)) _ (by simp [go_sem])
      · rename_i h6
        exact ⟨j + 1, ⟨by omega, all_take_succ hjl hallj (by rw [hL, h6]; rfl)⟩, by omega, ent_of [(1, some 1), (15, some 15)] (by (simp only [go_sem, reduceIte, Nat.reduceLeDiff, Nat.le_refl, Nat.reduceEqDiff, Nat.reduceAdd, Nat.reduceLT, reduceCtorEq, Int.toNat_natCast]) <;> simp) (by (simp only [go_sem, entH, entH1, nilArr, obOK, reduceIte, Nat.reduceLeDiff, Nat.le_refl, Nat.reduceEqDiff, Nat.reduceAdd, Nat.reduceLT, reduceCtorEq, Int.toNat_natCast]) <;> simp) (by simp [injR, apart]) (by simp [coverR, usH]) (by simp [hNm, lkR, names])⟩
    · rename_i h5
      exact hbad (badj (by unfold lineB; rw [h5]; rfl)) _ (by simp [go_sem])
  · rename_i hge2
    rw [take_full hj hge2] at hallj
    exact ⟨(), hallj, ent_of [(1, some 1), (15, some 15)] (by (simp only [go_sem, reduceIte, Nat.reduceLeDiff, Nat.le_refl, Nat.reduceEqDiff, Nat.reduceAdd, Nat.reduceLT, reduceCtorEq, Int.toNat_natCast]) <;> simp) (by (simp only [go_sem, entH, entH1, nilArr, obOK, reduceIte, Nat.reduceLeDiff, Nat.le_refl, Nat.reduceEqDiff, Nat.reduceAdd, Nat.reduceLT, reduceCtorEq, Int.toNat_natCast]) <;> simp) (by simp [injR, apart]) (by simp [coverR, usH]) (by simp [hNm, lkR, names])⟩
theorem LCheck_ok (t : List Ch) : Gives Try.prog 50 [txE 0 t] (fun _ => i64 (if textB t then 0 else 10)) := by
  refine pure_intro (ow := fun _ => false) Try.func50 Try.ntmps50 rfl (by kernel_rfl) (by simp) rfl (by decide) fun G hG hOw hNm hB => ?_
  simp only [go_sem, hG, hOw, reduceIte, Nat.reduceLeDiff, Nat.le_refl, Nat.reduceEqDiff, Nat.reduceAdd, Nat.reduceLT, reduceCtorEq, Int.toNat_natCast]
  obtain ⟨hb1, hb2⟩ := bd_chs (bd_agg (hB (txE 0 t) (by simp)) (chs 0 t) (by simp))
  refine call_pure (inL_one 1 6 t.length) (by first | exact Subs.refl _ | (repeat' (first | exact Subs.nil | exact Sub.refl _ | exact Sub.lo (Nat.zero_le _) | refine Subs.cons ?_ ?_ | refine Subs.agg ?_ | refine Subs.fp ?_ | refine Subs.tup ?_ | refine Sub.map (Nat.zero_le _) (fun _ => ?_)))) (by first | rfl | simp [allP, all0, pureV, pure0, *]) (by simp [chk, hG]) ?_
  simp only [go_sem, hG, hOw, reduceIte, Nat.reduceLeDiff, Nat.le_refl, Nat.reduceEqDiff, Nat.reduceAdd, Nat.reduceLT, reduceCtorEq, Int.toNat_natCast]
  (repeat' (first | (with_reducible refine And.intro ?_ ?_) | (with_reducible intro _) | (with_reducible refine exP ?_ ?_))); all_goals (try omega)
  · rename_i h1
    unfold textB
    rw [h1]; rfl
  · rename_i h1
    have bad : ∀ k (h : k < t.length), chapB (t.take k) t[k] = false → textB t = false := fun k h h' => by
      unfold textB
      rw [allPre_bad h h', Bool.and_false]
    refine semC_cut (fun c : Int => St.of [(3, i64 c)] []) (fun c => c = if textB t then 0 else 10) ?_ ?_
    · refine semC_loop (fun k : Nat => St.of [(1, .ptr 1 0), (3, i64 0), (4, .mp 15), (17, chs 0 t), (18, i64 t.length), (19, i64 k)] [(1, .box [chs 0 t]), (15, .map (.int .i64) (idsM (idsOf Ch.id t k)))]) (fun k => k ≤ t.length ∧ allPre chapB [] (t.take k) = true) (fun k => t.length - k) 0 (by simp [allPre]) (ent_of [(1, some 1), (15, some 15)] (by (simp only [go_sem, reduceIte, Nat.reduceLeDiff, Nat.le_refl, Nat.reduceEqDiff, Nat.reduceAdd, Nat.reduceLT, reduceCtorEq, Int.toNat_natCast]) <;> simp [idsOf_zero,idsM_nil]) (by (simp only [go_sem, entH, entH1, nilArr, obOK, reduceIte, Nat.reduceLeDiff, Nat.le_refl, Nat.reduceEqDiff, Nat.reduceAdd, Nat.reduceLT, reduceCtorEq, Int.toNat_natCast]) <;> simp [idsOf_zero,idsM_nil]) (by simp [injR, apart]) (by simp [coverR, usH]) (by simp [hNm, lkR, names])) ?_
      rintro k ⟨hk, hall⟩
      refine vc_sound _ _ _ ?_; simp only [go_sem, hG, hOw, reduceIte, Nat.reduceLeDiff, Nat.le_refl, Nat.reduceEqDiff, Nat.reduceAdd, Nat.reduceLT, reduceCtorEq, Int.toNat_natCast]
      (repeat' (first | (with_reducible refine And.intro ?_ ?_) | (with_reducible intro _) | (with_reducible refine exP ?_ ?_))); all_goals (try omega)
      · rename_i hlt
        have hkl : k < t.length := by omega
        obtain ⟨hc1, hc2⟩ := hb2 _ (List.getElem_mem hkl)
        refine call_pure (inL_one 0 9999 t[k].id) (by first | exact Subs.refl _ | (repeat' (first | exact Subs.nil | exact Sub.refl _ | exact Sub.lo (Nat.zero_le _) | refine Subs.cons ?_ ?_ | refine Subs.agg ?_ | refine Subs.fp ?_ | refine Subs.tup ?_ | refine Sub.map (Nat.zero_le _) (fun _ => ?_)))) (by first | rfl | simp [allP, all0, pureV, pure0, *]) (by simp [chk, hG]) ?_
        simp (config := { maxSteps := 2000000 }) only [go_sem, hG, hOw, lkM_ids, idsOf_any, reduceIte, Nat.reduceLeDiff, Nat.le_refl, Nat.reduceEqDiff, Nat.reduceAdd, Nat.reduceLT, reduceCtorEq, Int.toNat_natCast]
        (repeat' (first | (with_reducible refine And.intro ?_ ?_) | (with_reducible intro _) | (with_reducible refine exP ?_ ?_))); all_goals (try omega)
        · rename_i h2 h3
          refine call_pure (inL_one 1 10 t[k].lines.length) (by first | exact Subs.refl _ | (repeat' (first | exact Subs.nil | exact Sub.refl _ | exact Sub.lo (Nat.zero_le _) | refine Subs.cons ?_ ?_ | refine Subs.agg ?_ | refine Subs.fp ?_ | refine Subs.tup ?_ | refine Sub.map (Nat.zero_le _) (fun _ => ?_)))) (by first | rfl | simp [allP, all0, pureV, pure0, *]) (by simp [chk, hG]) ?_
          have hup := idsOf_up Ch.id t k hkl h3
          simp (config := { maxSteps := 2000000 }) only [go_sem, hG, hOw, hup, reduceIte, Nat.reduceLeDiff, Nat.le_refl, Nat.reduceEqDiff, Nat.reduceAdd, Nat.reduceLT, reduceCtorEq, Int.toNat_natCast]
          (repeat' (first | (with_reducible refine And.intro ?_ ?_) | (with_reducible intro _) | (with_reducible refine exP ?_ ?_))); all_goals (try omega)
          · rename_i h4
            rw [bad k hkl (by unfold chapB; rw [h4, Bool.and_false]; rfl)]; rfl
          · rename_i h4
            refine semC_cutN (fun _ : Unit => St.of [(1, .ptr 1 0), (3, i64 0), (4, .mp 15), (17, chs 0 t), (18, i64 t.length), (19, i64 k)] [(1, .box [chs 0 t]), (15, .map (.int .i64) (idsM (idsOf Ch.id t (k + 1))))]) (fun _ => t[k].lines.all lineB = true) ?_ ?_
            · refine semC_ent (s' := St.of [(1, .ptr 1 0), (3, i64 0), (4, .mp 15), (17, chs 0 t), (18, i64 t.length), (19, i64 k), (46, lns 0 t[k].lines), (47, i64 t[k].lines.length), (48, i64 0)] [(1, .box [chs 0 t]), (15, .map (.int .i64) (idsM (idsOf Ch.id t (k + 1))))]) (ent_of [(1, some 1), (15, some 15)] (by (simp only [go_sem, reduceIte, Nat.reduceLeDiff, Nat.le_refl, Nat.reduceEqDiff, Nat.reduceAdd, Nat.reduceLT, reduceCtorEq, Int.toNat_natCast]) <;> simp) (by (simp only [go_sem, entH, entH1, nilArr, obOK, reduceIte, Nat.reduceLeDiff, Nat.le_refl, Nat.reduceEqDiff, Nat.reduceAdd, Nat.reduceLT, reduceCtorEq, Int.toNat_natCast]) <;> simp) (by simp [injR, apart]) (by simp [coverR, usH]) (by simp [hNm, lkR, names])) ?_
              refine semC_code (by kernel_rfl) (LCheck_lines t k hG hOw hNm t[k].lines hc1 fun hb s' hs' => ⟨10, ?_, ?_⟩)
              · rw [bad k hkl (by unfold chapB; rw [hb]; simp)]; rfl
              · exact ent_of0 (by simp [entS, okN, hs', i64]) hNm
            rintro ⟨⟩ hallj
            simp only [go_sem, hG, hOw, reduceIte, Nat.reduceLeDiff, Nat.le_refl, Nat.reduceEqDiff, Nat.reduceAdd, Nat.reduceLT, reduceCtorEq, Int.toNat_natCast]
            (repeat' (first | (with_reducible refine And.intro ?_ ?_) | (with_reducible intro _) | (with_reducible refine exP ?_ ?_))); all_goals (try omega)
            refine ⟨k + 1, ⟨by omega, ?_⟩, by omega, ent_of [(1, some 1), (15, some 15)] (by (simp only [go_sem, reduceIte, Nat.reduceLeDiff, Nat.le_refl, Nat.reduceEqDiff, Nat.reduceAdd, Nat.reduceLT, reduceCtorEq, Int.toNat_natCast]) <;> simp) (by (simp only [go_sem, entH, entH1, nilArr, obOK, reduceIte, Nat.reduceLeDiff, Nat.le_refl, Nat.reduceEqDiff, Nat.reduceAdd, Nat.reduceLT, reduceCtorEq, Int.toNat_natCast]) <;> simp) (by simp [injR, apart]) (by simp [coverR, usH]) (by simp [hNm, lkR, names])⟩
            rw [allPre_step _ _ _ hkl, hall]
            unfold chapB
            rw [h2, h3, h4, hallj]; rfl
        · rename_i h2 h3
          rw [bad k hkl (by unfold chapB; rw [h3]; simp)]; rfl
        · rename_i h2
          rw [bad k hkl (by unfold chapB; rw [h2]; rfl)]; rfl
      · rename_i hge
        rw [take_full hk hge] at hall
        refine ⟨0, ?_, ent_of0 (by (simp only [go_sem, reduceIte, Nat.reduceLeDiff, Nat.le_refl, Nat.reduceEqDiff, Nat.reduceAdd, Nat.reduceLT, reduceCtorEq, Int.toNat_natCast]) <;> simp) hNm⟩
        unfold textB
        rw [h1, hall]; rfl
    · rintro c rfl
      simp only [go_sem, hG, hOw, reduceIte, Nat.reduceLeDiff, Nat.le_refl, Nat.reduceEqDiff, Nat.reduceAdd, Nat.reduceLT, reduceCtorEq, Int.toNat_natCast]
      (repeat' (first | (with_reducible refine And.intro ?_ ?_) | (with_reducible intro _) | (with_reducible refine exP ?_ ?_))); all_goals (try omega)
theorem single_ok (l : List ByteArray) : Gives Try.prog 78 [strs 0 l] (fun n => .agg [.lst n 2 [[i64 0, .lst n 1 [[strs 0 l]]]]]) := by
  refine pure_intro (ow := fun _ => false) Try.func78 Try.ntmps78 rfl (by kernel_rfl) (by simp) rfl (by decide) fun G hG hOw hNm hB => ?_
  simp only [go_sem, hG, hOw, reduceIte, Nat.reduceLeDiff, Nat.le_refl, Nat.reduceEqDiff, Nat.reduceAdd, Nat.reduceLT, reduceCtorEq, Int.toNat_natCast]
  (repeat' (first | (with_reducible refine And.intro ?_ ?_) | (with_reducible intro _) | (with_reducible refine exP ?_ ?_))); all_goals (try omega)
theorem lineB_single (l : List ByteArray) : textB [⟨0, [l]⟩] = lineB l := by
  simp [textB, allPre, chapB, inB]
theorem sub_single (n : Nat) (l : List ByteArray) : Pm.Sub (.agg [.lst n 2 [[i64 0, .lst n 1 [[strs 0 l]]]]]) (txE 0 [⟨0, [l]⟩]) :=
  Subs.agg (.cons (.lst (Nat.zero_le _) rfl fun i x x' h1 h2 => by
    match i with
    | 0 =>
      simp at h1 h2
      subst h1; subst h2
      exact .cons (.refl _) (.cons (Sub.lo (Nat.zero_le _)) .nil)
    | i + 1 => simp at h1) .nil)
theorem right1_ok (l : List ByteArray) : Gives Try.prog 77 [strs 0 l] (fun _ => bl (!lineB l)) := by
  refine pure_intro (ow := fun _ => false) Try.func77 Try.ntmps77 rfl (by kernel_rfl) (by simp) rfl (by decide) fun G hG hOw hNm hB => ?_
  simp only [go_sem, hG, hOw, reduceIte, Nat.reduceLeDiff, Nat.le_refl, Nat.reduceEqDiff, Nat.reduceAdd, Nat.reduceLT, reduceCtorEq, Int.toNat_natCast]
  refine call_pure (single_ok l) (by first | exact Subs.refl _ | (repeat' (first | exact Subs.nil | exact Sub.refl _ | exact Sub.lo (Nat.zero_le _) | refine Subs.cons ?_ ?_ | refine Subs.agg ?_ | refine Subs.fp ?_ | refine Subs.tup ?_ | refine Sub.map (Nat.zero_le _) (fun _ => ?_)))) (by first | rfl | simp [allP, all0, pureV, pure0, *]) (by simp [chk, hG]) ?_
  simp only [go_sem, hG, hOw, reduceIte, Nat.reduceLeDiff, Nat.le_refl, Nat.reduceEqDiff, Nat.reduceAdd, Nat.reduceLT, reduceCtorEq, Int.toNat_natCast]
  refine call_pure (LCheck_ok [⟨0, [l]⟩]) (.cons (sub_single _ l) .nil) (by rfl) (by simp [chk, hG]) ?_
  simp only [go_sem, hG, hOw, reduceIte, Nat.reduceLeDiff, Nat.le_refl, Nat.reduceEqDiff, Nat.reduceAdd, Nat.reduceLT, reduceCtorEq, Int.toNat_natCast]
  rw [lineB_single]
  cases lineB l <;> rfl
end Go.Proofs.Ytgeldamcekjdgaa
