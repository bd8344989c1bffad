/- The document's answers: what is done with shelves. -/
import Derived.Test.YtgienbcekgokiaaF4
namespace Go.Proofs.Ytgienbcekgokiaa
open Go Pm
set_option linter.unusedSimpArgs false
set_option linter.unusedVariables false
set_option maxHeartbeats 4000000
set_option maxRecDepth 100000
theorem CheckShelfR_ok (s : Sh) (h1 : s.first.length ≤ 1000) (h3 : ∀ c ∈ s.chg, c.put.length ≤ 1000) : Gives Try.prog 16 [shE 0 s] (fun _ => i64 (if gb s = true then 0 else 112)) := by
  refine pure_intro (ow := fun _ => false) Try.func16 Try.ntmps16 rfl (by kernel_rfl) (by simp) rfl (by decide) fun G hG hOw hNm hB => ?_
  simp only [go_sem, hG, hOw, reduceIte, Nat.reduceLeDiff, Nat.le_refl, Nat.reduceEqDiff, Nat.reduceAdd, Nat.reduceLT, reduceCtorEq, Int.toNat_natCast]
  refine call_pure (generations_ok s h1 h3) (by first | exact Subs.refl _ | (repeat' (first | exact Subs.nil | exact Sub.refl _ | exact Sub.lo (Nat.zero_le _) | refine Subs.cons ?_ ?_ | refine Subs.agg ?_ | refine Subs.tup ?_ | refine Sub.map (Nat.zero_le _) (fun _ => ?_)))) (by first | rfl | simp [allP, all0, pureV, pure0, *]) (by simp [chk, hG]) ?_
  simp only [go_sem, hG, hOw, reduceIte, Nat.reduceLeDiff, Nat.le_refl, Nat.reduceEqDiff, Nat.reduceAdd, Nat.reduceLT, reduceCtorEq, Int.toNat_natCast]
  (repeat' (first | (with_reducible refine And.intro ?_ ?_) | (with_reducible intro _) | (with_reducible refine exP ?_ ?_))); all_goals (try omega)
  · rename_i h; rw [if_neg (by simp [h])]
  · rename_i h; rw [if_pos h]
theorem BackR_ok (s : Sh) (n : Int) (h1 : s.first.length ≤ 1000) (h3 : ∀ c ∈ s.chg, c.put.length ≤ 1000) : Gives Try.prog 12 [shE 0 s, i64 n] (fun lo => .tup [strs lo (backL s n), i64 (backE s n)]) := by
  refine pure_intro (ow := fun _ => false) Try.func12 Try.ntmps12 rfl (by kernel_rfl) (by simp) rfl (by decide) fun G hG hOw hNm hB => ?_
  simp only [go_sem, hG, hOw, reduceIte, Nat.reduceLeDiff, Nat.le_refl, Nat.reduceEqDiff, Nat.reduceAdd, Nat.reduceLT, reduceCtorEq, Int.toNat_natCast]
  refine call_pure (generations_ok s h1 h3) (by first | exact Subs.refl _ | (repeat' (first | exact Subs.nil | exact Sub.refl _ | exact Sub.lo (Nat.zero_le _) | refine Subs.cons ?_ ?_ | refine Subs.agg ?_ | refine Subs.tup ?_ | refine Sub.map (Nat.zero_le _) (fun _ => ?_)))) (by first | rfl | simp [allP, all0, pureV, pure0, *]) (by simp [chk, hG]) ?_
  simp only [go_sem, hG, hOw, reduceIte, Nat.reduceLeDiff, Nat.le_refl, Nat.reduceEqDiff, Nat.reduceAdd, Nat.reduceLT, reduceCtorEq, Int.toNat_natCast]
  (repeat' (first | (with_reducible refine And.intro ?_ ?_) | (with_reducible intro _) | (with_reducible refine exP ?_ ?_))); all_goals (try omega)
  · rename_i h
    have e : backE s n = 112 := by simp [backE, h]
    rw [show backL s n = [] by simp [backL, e], e]
    exact Subs.tup (.cons (.nil _ _) (.cons (.refl _) .nil))
  · rename_i h; have := gl_len h; have := gb_len h; omega
  · rename_i h
    have hl := gl_len h
    have hb := gb_len h
    refine call_pure (within_ok n 0 ((gl s).length - 1)) (by first | exact Subs.refl _ | (repeat' (first | exact Subs.nil | exact Sub.refl _ | exact Sub.lo (Nat.zero_le _) | refine Subs.cons ?_ ?_ | refine Subs.agg ?_ | refine Subs.tup ?_ | refine Sub.map (Nat.zero_le _) (fun _ => ?_)))) (by first | rfl | simp [allP, all0, pureV, pure0, *]) (by simp [chk, hG]) ?_
    simp only [go_sem, hG, hOw, reduceIte, Nat.reduceLeDiff, Nat.le_refl, Nat.reduceEqDiff, Nat.reduceAdd, Nat.reduceLT, reduceCtorEq, Int.toNat_natCast]
    have e : backE s n = if 0 ≤ n ∧ n ≤ s.chg.length then 0 else 2 := by simp [backE, h]
    (repeat' (first | (with_reducible refine And.intro ?_ ?_) | (with_reducible intro _) | (with_reducible refine exP ?_ ?_))); all_goals (try omega)
    · rename_i h2
      rw [if_neg (by simp at h2; omega)] at e
      rw [show backL s n = [] by simp [backL, e], e]
      exact Subs.tup (.cons (.nil _ _) (.cons (.refl _) .nil))
    · rename_i h2; simp at h2; omega
    · rename_i h2; simp at h2; omega
    · rename_i h2
      simp at h2
      rw [if_pos (by omega)] at e
      rw [show backL s n = (gl s)[n.toNat]'(by omega) by simp [backL, e]; rw [List.getElem?_eq_getElem (by omega)]; rfl, e]
      exact .refl _
theorem SaveR_ok (s : Sh) (l : List ByteArray) (h1 : s.first.length ≤ 1000) (h3 : ∀ c ∈ s.chg, c.put.length ≤ 1000) (h4 : l.length ≤ 1000) : Gives Try.prog 10 [shE 0 s, strs 0 l] (fun lo => .tup [shE lo (saveS s l), i64 (saveE s l)]) := by
  refine pure_intro (ow := fun _ => false) Try.func10 Try.ntmps10 rfl (by kernel_rfl) (by simp) rfl (by decide) fun G hG hOw hNm hB => ?_
  simp only [go_sem, hG, hOw, reduceIte, Nat.reduceLeDiff, Nat.le_refl, Nat.reduceEqDiff, Nat.reduceAdd, Nat.reduceLT, reduceCtorEq, Int.toNat_natCast]
  refine call_pure (generations_ok s h1 h3) (by first | exact Subs.refl _ | (repeat' (first | exact Subs.nil | exact Sub.refl _ | exact Sub.lo (Nat.zero_le _) | refine Subs.cons ?_ ?_ | refine Subs.agg ?_ | refine Subs.tup ?_ | refine Sub.map (Nat.zero_le _) (fun _ => ?_)))) (by first | rfl | simp [allP, all0, pureV, pure0, *]) (by simp [chk, hG]) ?_
  simp only [go_sem, hG, hOw, reduceIte, Nat.reduceLeDiff, Nat.le_refl, Nat.reduceEqDiff, Nat.reduceAdd, Nat.reduceLT, reduceCtorEq, Int.toNat_natCast]
  (repeat' (first | (with_reducible refine And.intro ?_ ?_) | (with_reducible intro _) | (with_reducible refine exP ?_ ?_))); all_goals (try omega)
  · rename_i h
    have e : saveE s l = 112 := by simp [saveE, h]
    rw [e]
    exact sub_noSh _ _ _ (by simp [saveS, e])
  · rename_i h
    have hl := gl_len h
    have hb := gb_len h
    refine call_pure (Rows_ok l) (by first | exact Subs.refl _ | (repeat' (first | exact Subs.nil | exact Sub.refl _ | exact Sub.lo (Nat.zero_le _) | refine Subs.cons ?_ ?_ | refine Subs.agg ?_ | refine Subs.tup ?_ | refine Sub.map (Nat.zero_le _) (fun _ => ?_)))) (by first | rfl | simp [allP, all0, pureV, pure0, *]) (by simp [chk, hG]) ?_
    simp only [go_sem, hG, hOw, reduceIte, Nat.reduceLeDiff, Nat.le_refl, Nat.reduceEqDiff, Nat.reduceAdd, Nat.reduceLT, reduceCtorEq, Int.toNat_natCast]
    (repeat' (first | (with_reducible refine And.intro ?_ ?_) | (with_reducible intro _) | (with_reducible refine exP ?_ ?_))); all_goals (try omega)
    · rename_i h2
      have e : saveE s l = 110 := by simp [saveE, h, h2]
      rw [e]
      exact sub_noSh _ _ _ (by simp [saveS, e])
    · rename_i h2 h3
      have e : saveE s l = 9 := by simp [saveE, h, h2]; omega
      rw [e]
      exact sub_noSh _ _ _ (by simp [saveS, e])
    · rename_i h2 h3'
      refine call_tri [] [(0, 100)] (TwinShelf_own s h1 (by omega) h3) (by (simp only [go_sem, reduceIte, Nat.reduceLeDiff, Nat.le_refl, Nat.reduceEqDiff, Nat.reduceAdd, Nat.reduceLT, reduceCtorEq, Int.toNat_natCast]) <;> simp) (by (simp only [go_sem, entH, entH1, nilArr, obOK, reduceIte, Nat.reduceLeDiff, Nat.le_refl, Nat.reduceEqDiff, Nat.reduceAdd, Nat.reduceLT, reduceCtorEq, Int.toNat_natCast]) <;> simp) (by simp [injR, apart, toR]) (by simp [coverR, usH, toR]) (by simp [uniqP, lkR, toR]) (by simp [chk, hG]) ?_
      simp only [go_sem, hG, hOw, reduceIte, Nat.reduceLeDiff, Nat.le_refl, Nat.reduceEqDiff, Nat.reduceAdd, Nat.reduceLT, reduceCtorEq, Int.toNat_natCast]
      refine semC_draw0 mixed (by kernel_rfl) ?_
      simp only [go_sem, hG, hOw, reduceIte, Nat.reduceLeDiff, Nat.le_refl, Nat.reduceEqDiff, Nat.reduceAdd, Nat.reduceLT, reduceCtorEq, Int.toNat_natCast]
      have hlast := fun k hk e => gl_last h k hk e
      have hr := rowsB_len (gb_rows h _ (List.getElem_mem (show s.chg.length < (gl s).length by omega)))
      have eL : ((gl s).length - 1 : Int).toNat = s.chg.length := by omega
      have e0 : saveE s l = 0 := by simp [saveE, h, h2]; omega
      simp only [eL, hlast _ (show s.chg.length < (gl s).length by omega) rfl] at hr ⊢
      (repeat' (first | (with_reducible refine And.intro ?_ ?_) | (with_reducible intro _) | (with_reducible refine exP ?_ ?_))); all_goals (try omega)
      refine ⟨_, callGives (HunkOf_ok (lastG s) l (by omega) h4) (by first | exact Subs.refl _ | (repeat' (first | exact Subs.nil | exact Sub.refl _ | exact Sub.lo (Nat.zero_le _) | refine Subs.cons ?_ ?_ | refine Subs.agg ?_ | refine Subs.tup ?_ | refine Sub.map (Nat.zero_le _) (fun _ => ?_)))) (by first | rfl | simp [allP, all0, pureV, pure0, *]), ?_⟩
      simp only [go_sem, hG, hOw, reduceIte, Nat.reduceLeDiff, Nat.le_refl, Nat.reduceEqDiff, Nat.reduceAdd, Nat.reduceLT, reduceCtorEq, Int.toNat_natCast]
      (repeat' (first | (with_reducible refine And.intro ?_ ?_) | (with_reducible intro _) | (with_reducible refine exP ?_ ?_))); all_goals (try omega)
      rw [List.take_of_length_le (by simp), e0, show saveS s l = ⟨s.first, s.chg ++ [hunkOf (lastG s) l]⟩ by simp [saveS, e0], List.map_append]
      exact .refl _
theorem PruneR_ok (s : Sh) (n : Int) (h1 : s.first.length ≤ 1000) (h2 : s.chg.length ≤ 1000) (h3 : ∀ c ∈ s.chg, c.put.length ≤ 1000) : Gives Try.prog 14 [shE 0 s, i64 n] (fun lo => .tup [shE lo (pruneS s n), i64 (backE s n)]) := by
  refine pure_intro (ow := fun _ => false) Try.func14 Try.ntmps14 rfl (by kernel_rfl) (by simp) rfl (by decide) fun G hG hOw hNm hB => ?_
  simp only [go_sem, hG, hOw, reduceIte, Nat.reduceLeDiff, Nat.le_refl, Nat.reduceEqDiff, Nat.reduceAdd, Nat.reduceLT, reduceCtorEq, Int.toNat_natCast]
  refine call_pure (BackR_ok s n h1 h3) (by first | exact Subs.refl _ | (repeat' (first | exact Subs.nil | exact Sub.refl _ | exact Sub.lo (Nat.zero_le _) | refine Subs.cons ?_ ?_ | refine Subs.agg ?_ | refine Subs.tup ?_ | refine Sub.map (Nat.zero_le _) (fun _ => ?_)))) (by first | rfl | simp [allP, all0, pureV, pure0, *]) (by simp [chk, hG]) ?_
  simp only [go_sem, hG, hOw, reduceIte, Nat.reduceLeDiff, Nat.le_refl, Nat.reduceEqDiff, Nat.reduceAdd, Nat.reduceLT, reduceCtorEq, Int.toNat_natCast]
  (repeat' (first | (with_reducible refine And.intro ?_ ?_) | (with_reducible intro _) | (with_reducible refine exP ?_ ?_))); all_goals (try omega)
  · rename_i h
    exact sub_noSh _ _ _ (by simp [pruneS, h])
  · rename_i h
    refine call_pure (TwinShelf_ok s h1 h2 h3) (by first | exact Subs.refl _ | (repeat' (first | exact Subs.nil | exact Sub.refl _ | exact Sub.lo (Nat.zero_le _) | refine Subs.cons ?_ ?_ | refine Subs.agg ?_ | refine Subs.tup ?_ | refine Sub.map (Nat.zero_le _) (fun _ => ?_)))) (by first | rfl | simp [allP, all0, pureV, pure0, *]) (by simp [chk, hG]) ?_
    simp only [go_sem, hG, hOw, reduceIte, Nat.reduceLeDiff, Nat.le_refl, Nat.reduceEqDiff, Nat.reduceAdd, Nat.reduceLT, reduceCtorEq, Int.toNat_natCast]
    have hn : 0 ≤ n ∧ n ≤ s.chg.length := by
      simp only [backE] at h
      split at h
      · cases h
      · split at h
        · assumption
        · cases h
    refine semC_draw0 mixed (by kernel_rfl) ?_
    simp only [go_sem, hG, hOw, reduceIte, Nat.reduceLeDiff, Nat.le_refl, Nat.reduceEqDiff, Nat.reduceAdd, Nat.reduceLT, reduceCtorEq, Int.toNat_natCast]
    (repeat' (first | (with_reducible refine And.intro ?_ ?_) | (with_reducible intro _) | (with_reducible refine exP ?_ ?_))); all_goals (try omega)
    rw [show pruneS s n = ⟨backL s n, s.chg.drop n.toNat⟩ by simp [pruneS, h], h]
    exact .refl _
end Go.Proofs.Ytgienbcekgokiaa
