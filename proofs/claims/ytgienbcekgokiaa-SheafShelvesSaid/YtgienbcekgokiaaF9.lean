/- The program: what is done with shelves. -/
import Derived.Test.YtgienbcekgokiaaF8
namespace Go.Proofs.Ytgienbcekgokiaa
open Go Pm
set_option linter.unusedSimpArgs false
set_option linter.unusedVariables false
set_option maxHeartbeats 4000000
set_option maxRecDepth 100000
theorem CheckShelf_ok (s : Sh) (h1 : s.first.length ≤ 1000) (h3 : ∀ c ∈ s.chg, c.put.length ≤ 1000) : Gives Try.prog 15 [shE 0 s] (fun _ => i64 (if gb s = true then 0 else 112)) := by
  refine pure_intro (ow := fun _ => false) Try.func15 Try.ntmps15 rfl (by kernel_rfl) (by simp) rfl (by decide) fun G hG hOw hNm hB => ?_
  simp only [go_sem, hG, hOw, reduceIte, Nat.reduceLeDiff, Nat.le_refl, Nat.reduceEqDiff, Nat.reduceAdd, Nat.reduceLT, reduceCtorEq, Int.toNat_natCast]
  by_cases hg : gb s = true
  · refine call_tri [] [(0, 50), (1, 51), (2, 52)] (open_ok s h1 h3) (by (simp only [go_sem, reduceIte, Nat.reduceLeDiff, Nat.le_refl, Nat.reduceEqDiff, Nat.reduceAdd, Nat.reduceLT, reduceCtorEq, Int.toNat_natCast]) <;> simp [hg]) (by (simp only [go_sem, entH, entH1, nilArr, obOK, reduceIte, Nat.reduceLeDiff, Nat.le_refl, Nat.reduceEqDiff, Nat.reduceAdd, Nat.reduceLT, reduceCtorEq, Int.toNat_natCast]) <;> simp [hg]) (by simp [injR, apart, toR]) (by simp [coverR, usH, toR, hg]) (by simp [uniqP, lkR, toR]) (by simp [chk, hG]) ?_
    simp only [hg, if_true]
    simp only [go_sem, hG, hOw, reduceIte, Nat.reduceLeDiff, Nat.le_refl, Nat.reduceEqDiff, Nat.reduceAdd, Nat.reduceLT, reduceCtorEq, Int.toNat_natCast]
  · refine call_tri [] [] (open_ok s h1 h3) (by (simp only [go_sem, reduceIte, Nat.reduceLeDiff, Nat.le_refl, Nat.reduceEqDiff, Nat.reduceAdd, Nat.reduceLT, reduceCtorEq, Int.toNat_natCast]) <;> simp [hg]) (by (simp only [go_sem, entH, entH1, nilArr, obOK, reduceIte, Nat.reduceLeDiff, Nat.le_refl, Nat.reduceEqDiff, Nat.reduceAdd, Nat.reduceLT, reduceCtorEq, Int.toNat_natCast]) <;> simp [hg]) (by simp [injR, apart, toR]) (by simp [coverR, usH, toR, hg]) (by simp [uniqP, lkR, toR]) (by simp [chk, hG]) ?_
    simp only [hg, if_false]
    simp only [go_sem, hG, hOw, reduceIte, Nat.reduceLeDiff, Nat.le_refl, Nat.reduceEqDiff, Nat.reduceAdd, Nat.reduceLT, reduceCtorEq, Int.toNat_natCast]
theorem generation_ok (s : Sh) (n : Int) (h1 : s.first.length ≤ 1000) (h3 : ∀ c ∈ s.chg, c.put.length ≤ 1000) : Tri Try.prog 33 [shE 0 s, i64 n] []
    (fun lo => if gb s = true then .ret (.tup [.ptr 0 0, i64 (backE s n)]) (fileH lo s.first s.chg (gl s)) else .ret (.tup [.v (.pointer none), i64 (backE s n)]) []) := by
  refine tri_intro (fun _ => false) Try.func33 Try.ntmps33 rfl (by kernel_rfl) (by simp) rfl (by decide) fun G hG hOw hNm => ?_
  simp only [go_sem, hG, hOw, reduceIte, Nat.reduceLeDiff, Nat.le_refl, Nat.reduceEqDiff, Nat.reduceAdd, Nat.reduceLT, reduceCtorEq, Int.toNat_natCast]
  by_cases hg : gb s = true
  · have hl := gl_len hg
    have hb := gb_len hg
    refine call_tri [] [(0, 50), (1, 51), (2, 52)] (open_ok s h1 h3) (by (simp only [go_sem, reduceIte, Nat.reduceLeDiff, Nat.le_refl, Nat.reduceEqDiff, Nat.reduceAdd, Nat.reduceLT, reduceCtorEq, Int.toNat_natCast]) <;> simp [hg]) (by (simp only [go_sem, entH, entH1, nilArr, obOK, reduceIte, Nat.reduceLeDiff, Nat.le_refl, Nat.reduceEqDiff, Nat.reduceAdd, Nat.reduceLT, reduceCtorEq, Int.toNat_natCast]) <;> simp [hg]) (by simp [injR, apart, toR]) (by simp [coverR, usH, toR, hg]) (by simp [uniqP, lkR, toR]) (by simp [chk, hG]) ?_
    simp only [hg, if_true]
    simp only [go_sem, hG, hOw, reduceIte, Nat.reduceLeDiff, Nat.le_refl, Nat.reduceEqDiff, Nat.reduceAdd, Nat.reduceLT, reduceCtorEq, Int.toNat_natCast]
    (repeat' (first | (with_reducible refine And.intro ?_ ?_) | (with_reducible intro _) | (with_reducible refine exP ?_ ?_))); all_goals (try omega)
    refine call_pure (in_one 0 ((gl s).length - 1) n) (by first | exact Subs.refl _ | (repeat' (first | exact Subs.nil | exact Sub.refl _ | exact Sub.lo (Nat.zero_le _) | refine Subs.cons ?_ ?_ | refine Subs.agg ?_ | refine Subs.tup ?_ | refine Sub.map (Nat.zero_le _) (fun _ => ?_)))) (by first | rfl | simp [allP, all0, pureV, pure0, *]) (by simp [chk, hG]) ?_
    simp only [go_sem, hG, hOw, reduceIte, Nat.reduceLeDiff, Nat.le_refl, Nat.reduceEqDiff, Nat.reduceAdd, Nat.reduceLT, reduceCtorEq, Int.toNat_natCast]
    (repeat' (first | (with_reducible refine And.intro ?_ ?_) | (with_reducible intro _) | (with_reducible refine exP ?_ ?_))); all_goals (try omega)
    · rename_i h2
      have e : backE s n = 2 := by
        simp at h2
        simp only [backE, hg]
        rw [if_neg (by decide), if_neg (by omega)]
      rw [e]
      exact ⟨[(0, some 50), (1, some 51), (2, some 52)], by (simp only [EndT, go_sem, entH, entH1, nilArr, obOK, apart, injR, coverR, reduceIte, Nat.reduceLeDiff, Nat.le_refl, Nat.reduceEqDiff, Nat.reduceAdd, Nat.reduceLT, reduceCtorEq, Int.toNat_natCast]) <;> simp [hg]⟩
    · rename_i h2
      have e : backE s n = 0 := by
        simp at h2
        simp only [backE, hg]
        rw [if_neg (by decide), if_pos (by omega)]
      rw [e]
      exact ⟨[(0, some 50), (1, some 51), (2, some 52)], by (simp only [EndT, go_sem, entH, entH1, nilArr, obOK, apart, injR, coverR, reduceIte, Nat.reduceLeDiff, Nat.le_refl, Nat.reduceEqDiff, Nat.reduceAdd, Nat.reduceLT, reduceCtorEq, Int.toNat_natCast]) <;> simp [hg]⟩
  · refine call_tri [] [] (open_ok s h1 h3) (by (simp only [go_sem, reduceIte, Nat.reduceLeDiff, Nat.le_refl, Nat.reduceEqDiff, Nat.reduceAdd, Nat.reduceLT, reduceCtorEq, Int.toNat_natCast]) <;> simp [hg]) (by (simp only [go_sem, entH, entH1, nilArr, obOK, reduceIte, Nat.reduceLeDiff, Nat.le_refl, Nat.reduceEqDiff, Nat.reduceAdd, Nat.reduceLT, reduceCtorEq, Int.toNat_natCast]) <;> simp [hg]) (by simp [injR, apart, toR]) (by simp [coverR, usH, toR, hg]) (by simp [uniqP, lkR, toR]) (by simp [chk, hG]) ?_
    have e : backE s n = 112 := by simp [backE, hg]
    simp only [hg, if_false, e]
    simp only [go_sem, hG, hOw, reduceIte, Nat.reduceLeDiff, Nat.le_refl, Nat.reduceEqDiff, Nat.reduceAdd, Nat.reduceLT, reduceCtorEq, Int.toNat_natCast]
    (repeat' (first | (with_reducible refine And.intro ?_ ?_) | (with_reducible intro _) | (with_reducible refine exP ?_ ?_))); all_goals (try omega)
    exact ⟨[], by (simp only [EndT, go_sem, entH, entH1, nilArr, obOK, apart, injR, coverR, reduceIte, Nat.reduceLeDiff, Nat.le_refl, Nat.reduceEqDiff, Nat.reduceAdd, Nat.reduceLT, reduceCtorEq, Int.toNat_natCast]) <;> simp⟩
theorem Back_ok (s : Sh) (n : Int) (h1 : s.first.length ≤ 1000) (h3 : ∀ c ∈ s.chg, c.put.length ≤ 1000) : Gives Try.prog 11 [shE 0 s, i64 n] (fun lo => .tup [strs lo (backL s n), i64 (backE s n)]) := by
  refine pure_intro (ow := fun _ => false) Try.func11 Try.ntmps11 rfl (by kernel_rfl) (by simp) rfl (by decide) fun G hG hOw hNm hB => ?_
  simp only [go_sem, hG, hOw, reduceIte, Nat.reduceLeDiff, Nat.le_refl, Nat.reduceEqDiff, Nat.reduceAdd, Nat.reduceLT, reduceCtorEq, Int.toNat_natCast]
  by_cases hg : gb s = true
  · have hl := gl_len hg
    have hb := gb_len hg
    have hE : backE s n = 0 → 0 ≤ n ∧ n ≤ s.chg.length := fun h => by
      simp only [backE, hg] at h
      split at h
      · cases h
      · split at h
        · assumption
        · cases h
    refine call_tri [] [(0, 50), (1, 51), (2, 52)] (generation_ok s n h1 h3) (by (simp only [go_sem, reduceIte, Nat.reduceLeDiff, Nat.le_refl, Nat.reduceEqDiff, Nat.reduceAdd, Nat.reduceLT, reduceCtorEq, Int.toNat_natCast]) <;> simp [hg]) (by (simp only [go_sem, entH, entH1, nilArr, obOK, reduceIte, Nat.reduceLeDiff, Nat.le_refl, Nat.reduceEqDiff, Nat.reduceAdd, Nat.reduceLT, reduceCtorEq, Int.toNat_natCast]) <;> simp [hg]) (by simp [injR, apart, toR]) (by simp [coverR, usH, toR, hg]) (by simp [uniqP, lkR, toR]) (by simp [chk, hG]) ?_
    simp only [hg, if_true]
    simp only [go_sem, hG, hOw, reduceIte, Nat.reduceLeDiff, Nat.le_refl, Nat.reduceEqDiff, Nat.reduceAdd, Nat.reduceLT, reduceCtorEq, Int.toNat_natCast]
    (repeat' (first | (with_reducible refine And.intro ?_ ?_) | (with_reducible intro _) | (with_reducible refine exP ?_ ?_))); all_goals (try omega)
    · rename_i h
      rw [show backL s n = [] by simp [backL, h]]
      exact Subs.tup (.cons (.nil _ _) (.cons (.refl _) .nil))
    · rename_i h
      have := hE h
      rw [show backL s n = (gl s)[n.toNat]'(by omega) by simp [backL, h]; rw [List.getElem?_eq_getElem (by omega)]; rfl, h]
      exact .refl _
  · refine call_tri [] [] (generation_ok s n h1 h3) (by (simp only [go_sem, reduceIte, Nat.reduceLeDiff, Nat.le_refl, Nat.reduceEqDiff, Nat.reduceAdd, Nat.reduceLT, reduceCtorEq, Int.toNat_natCast]) <;> simp [hg]) (by (simp only [go_sem, entH, entH1, nilArr, obOK, reduceIte, Nat.reduceLeDiff, Nat.le_refl, Nat.reduceEqDiff, Nat.reduceAdd, Nat.reduceLT, reduceCtorEq, Int.toNat_natCast]) <;> simp [hg]) (by simp [injR, apart, toR]) (by simp [coverR, usH, toR, hg]) (by simp [uniqP, lkR, toR]) (by simp [chk, hG]) ?_
    have e : backE s n = 112 := by simp [backE, hg]
    simp only [hg, if_false, e]
    simp only [go_sem, hG, hOw, reduceIte, Nat.reduceLeDiff, Nat.le_refl, Nat.reduceEqDiff, Nat.reduceAdd, Nat.reduceLT, reduceCtorEq, Int.toNat_natCast]
    (repeat' (first | (with_reducible refine And.intro ?_ ?_) | (with_reducible intro _) | (with_reducible refine exP ?_ ?_))); all_goals (try omega)
    rw [show backL s n = [] by simp [backL, e]]
    exact Subs.tup (.cons (.nil _ _) (.cons (.refl _) .nil))
theorem Prune_ok (s : Sh) (n : Int) (h1 : s.first.length ≤ 1000) (h3 : ∀ c ∈ s.chg, c.put.length ≤ 1000) : Gives Try.prog 13 [shE 0 s, i64 n] (fun lo => .tup [shE lo (pruneS s n), i64 (backE s n)]) := by
  refine pure_intro (ow := fun _ => false) Try.func13 Try.ntmps13 rfl (by kernel_rfl) (by simp) rfl (by decide) fun G hG hOw hNm hB => ?_
  simp only [go_sem, hG, hOw, reduceIte, Nat.reduceLeDiff, Nat.le_refl, Nat.reduceEqDiff, Nat.reduceAdd, Nat.reduceLT, reduceCtorEq, Int.toNat_natCast]
  by_cases hg : gb s = true
  · have hl := gl_len hg
    have hb := gb_len hg
    have hE : backE s n = 0 → 0 ≤ n ∧ n ≤ s.chg.length := fun h => by
      simp only [backE, hg] at h
      split at h
      · cases h
      · split at h
        · assumption
        · cases h
    refine call_tri [] [(0, 50), (1, 51), (2, 52)] (generation_ok s n h1 h3) (by (simp only [go_sem, reduceIte, Nat.reduceLeDiff, Nat.le_refl, Nat.reduceEqDiff, Nat.reduceAdd, Nat.reduceLT, reduceCtorEq, Int.toNat_natCast]) <;> simp [hg]) (by (simp only [go_sem, entH, entH1, nilArr, obOK, reduceIte, Nat.reduceLeDiff, Nat.le_refl, Nat.reduceEqDiff, Nat.reduceAdd, Nat.reduceLT, reduceCtorEq, Int.toNat_natCast]) <;> simp [hg]) (by simp [injR, apart, toR]) (by simp [coverR, usH, toR, hg]) (by simp [uniqP, lkR, toR]) (by simp [chk, hG]) ?_
    simp only [hg, if_true]
    simp only [go_sem, hG, hOw, reduceIte, Nat.reduceLeDiff, Nat.le_refl, Nat.reduceEqDiff, Nat.reduceAdd, Nat.reduceLT, reduceCtorEq, Int.toNat_natCast]
    (repeat' (first | (with_reducible refine And.intro ?_ ?_) | (with_reducible intro _) | (with_reducible refine exP ?_ ?_))); all_goals (try omega)
    · rename_i h
      exact sub_noSh _ _ _ (by simp [pruneS, h])
    · rename_i h
      refine semC_draw0 mixed (by kernel_rfl) ?_
      simp only [go_sem, hG, hOw, reduceIte, Nat.reduceLeDiff, Nat.le_refl, Nat.reduceEqDiff, Nat.reduceAdd, Nat.reduceLT, reduceCtorEq, Int.toNat_natCast]
      have := hE h
      (repeat' (first | (with_reducible refine And.intro ?_ ?_) | (with_reducible intro _) | (with_reducible refine exP ?_ ?_))); all_goals (try omega)
      rw [List.take_of_length_le (by simp), show pruneS s n = ⟨(gl s)[n.toNat]'(by omega), s.chg.drop n.toNat⟩ by simp [pruneS, backL, h]; rw [List.getElem?_eq_getElem (by omega)]; rfl, h]
      exact .refl _
  · refine call_tri [] [] (generation_ok s n h1 h3) (by (simp only [go_sem, reduceIte, Nat.reduceLeDiff, Nat.le_refl, Nat.reduceEqDiff, Nat.reduceAdd, Nat.reduceLT, reduceCtorEq, Int.toNat_natCast]) <;> simp [hg]) (by (simp only [go_sem, entH, entH1, nilArr, obOK, reduceIte, Nat.reduceLeDiff, Nat.le_refl, Nat.reduceEqDiff, Nat.reduceAdd, Nat.reduceLT, reduceCtorEq, Int.toNat_natCast]) <;> simp [hg]) (by simp [injR, apart, toR]) (by simp [coverR, usH, toR, hg]) (by simp [uniqP, lkR, toR]) (by simp [chk, hG]) ?_
    have e : backE s n = 112 := by simp [backE, hg]
    simp only [hg, if_false, e]
    simp only [go_sem, hG, hOw, reduceIte, Nat.reduceLeDiff, Nat.le_refl, Nat.reduceEqDiff, Nat.reduceAdd, Nat.reduceLT, reduceCtorEq, Int.toNat_natCast]
    (repeat' (first | (with_reducible refine And.intro ?_ ?_) | (with_reducible intro _) | (with_reducible refine exP ?_ ?_))); all_goals (try omega)
    exact sub_noSh _ _ _ (by simp [pruneS, e])
theorem Save_ok (s : Sh) (l : List ByteArray) (h1 : s.first.length ≤ 1000) (h3 : ∀ c ∈ s.chg, c.put.length ≤ 1000) (h4 : l.length ≤ 1000) : Gives Try.prog 9 [shE 0 s, strs 0 l] (fun lo => .tup [shE lo (saveS s l), i64 (saveE s l)]) := by
  refine pure_intro (ow := fun _ => false) Try.func9 Try.ntmps9 rfl (by kernel_rfl) (by simp) rfl (by decide) fun G hG hOw hNm hB => ?_
  simp only [go_sem, hG, hOw, reduceIte, Nat.reduceLeDiff, Nat.le_refl, Nat.reduceEqDiff, Nat.reduceAdd, Nat.reduceLT, reduceCtorEq, Int.toNat_natCast]
  by_cases hg : gb s = true
  · have hl := gl_len hg
    have hb := gb_len hg
    refine call_tri [] [(0, 50), (1, 51), (2, 52)] (open_ok s h1 h3) (by (simp only [go_sem, reduceIte, Nat.reduceLeDiff, Nat.le_refl, Nat.reduceEqDiff, Nat.reduceAdd, Nat.reduceLT, reduceCtorEq, Int.toNat_natCast]) <;> simp [hg]) (by (simp only [go_sem, entH, entH1, nilArr, obOK, reduceIte, Nat.reduceLeDiff, Nat.le_refl, Nat.reduceEqDiff, Nat.reduceAdd, Nat.reduceLT, reduceCtorEq, Int.toNat_natCast]) <;> simp [hg]) (by simp [injR, apart, toR]) (by simp [coverR, usH, toR, hg]) (by simp [uniqP, lkR, toR]) (by simp [chk, hG]) ?_
    simp only [hg, if_true]
    simp only [go_sem, hG, hOw, reduceIte, Nat.reduceLeDiff, Nat.le_refl, Nat.reduceEqDiff, Nat.reduceAdd, Nat.reduceLT, reduceCtorEq, Int.toNat_natCast]
    refine call_pure (Check_ok l) (by first | exact Subs.refl _ | (repeat' (first | exact Subs.nil | exact Sub.refl _ | exact Sub.lo (Nat.zero_le _) | refine Subs.cons ?_ ?_ | refine Subs.agg ?_ | refine Subs.tup ?_ | refine Sub.map (Nat.zero_le _) (fun _ => ?_)))) (by first | rfl | simp [allP, all0, pureV, pure0, *]) (by simp [chk, hG]) ?_
    simp only [go_sem, hG, hOw, reduceIte, Nat.reduceLeDiff, Nat.le_refl, Nat.reduceEqDiff, Nat.reduceAdd, Nat.reduceLT, reduceCtorEq, Int.toNat_natCast]
    (repeat' (first | (with_reducible refine And.intro ?_ ?_) | (with_reducible intro _) | (with_reducible refine exP ?_ ?_))); all_goals (try omega)
    · rename_i h2
      have e : saveE s l = 110 := by
        cases h : rowsB l with
        | true => rw [h] at h2; simp at h2
        | false => simp [saveE, hg, h]
      rw [e]
      exact sub_noSh _ _ _ (by simp [saveS, e])
    · rename_i h2 h3
      have h2' : rowsB l = true := by
        cases h : rowsB l with
        | true => rfl
        | false => rw [h] at h2; simp at h2
      have e : saveE s l = 9 := by simp [saveE, hg, h2']; omega
      rw [e]
      exact sub_noSh _ _ _ (by simp [saveS, e])
    · rename_i h2 h3'
      have h2' : rowsB l = true := by
        cases h : rowsB l with
        | true => rfl
        | false => rw [h] at h2; simp at h2
      have e0 : saveE s l = 0 := by simp [saveE, hg, h2']; omega
      have hlast := gl_last hg ((gl s).length - 1) (by omega) (by omega)
      have hr := rowsB_len (gb_rows hg _ (List.getElem_mem (show (gl s).length - 1 < (gl s).length by omega)))
      rw [hlast] at hr
      refine semC_drawT [(38, [50, 51, 52]), (36, [50]), (42, [42, 52])] mixed (by kernel_rfl) ?_
      simp only [go_sem, hG, hOw, reduceIte, Nat.reduceLeDiff, Nat.le_refl, Nat.reduceEqDiff, Nat.reduceAdd, Nat.reduceLT, reduceCtorEq, Int.toNat_natCast]
      refine ⟨_, callReads [(0, 50), (1, 51), (2, 52)] (last_ok G.lo s.first s.chg (gl s) (by omega) (by omega)) (by (simp only [go_sem, reduceIte, Nat.reduceLeDiff, Nat.le_refl, Nat.reduceEqDiff, Nat.reduceAdd, Nat.reduceLT, reduceCtorEq, Int.toNat_natCast]) <;> simp [fileH]) (by (simp only [go_sem, entH, entH1, nilArr, obOK, reduceIte, Nat.reduceLeDiff, Nat.le_refl, Nat.reduceEqDiff, Nat.reduceAdd, Nat.reduceLT, reduceCtorEq, Int.toNat_natCast]) <;> simp [fileH]) (by simp [injR, apart, toR]) (by simp [coverR, usH, toR, fileH]) (by simp [uniqP, lkR, toR]) (by simp [hasAll, keepR, usH, lkR, toR, fileH]) (by simp [uniqN, usH, fileH]) (by simp [tgt, nmHas]) (by simp [upT, dropsR, outsR, keepR, usH, lkR, toR, sameH, nmHas, fileH, go_sem]), ?_⟩
      simp only [hlast]
      simp only [go_sem, hG, hOw, reduceIte, Nat.reduceLeDiff, Nat.le_refl, Nat.reduceEqDiff, Nat.reduceAdd, Nat.reduceLT, reduceCtorEq, Int.toNat_natCast]
      refine ⟨_, callGives (hunk_ok (lastG s) l (by omega) h4) (by first | exact Subs.refl _ | (repeat' (first | exact Subs.nil | exact Sub.refl _ | exact Sub.lo (Nat.zero_le _) | refine Subs.cons ?_ ?_ | refine Subs.agg ?_ | refine Subs.tup ?_ | refine Sub.map (Nat.zero_le _) (fun _ => ?_)))) (by first | rfl | simp [allP, all0, pureV, pure0, *]), ?_⟩
      simp only [go_sem, hG, hOw, reduceIte, Nat.reduceLeDiff, Nat.le_refl, Nat.reduceEqDiff, Nat.reduceAdd, Nat.reduceLT, reduceCtorEq, Int.toNat_natCast]
      (repeat' (first | (with_reducible refine And.intro ?_ ?_) | (with_reducible intro _) | (with_reducible refine exP ?_ ?_))); all_goals (try omega)
      rw [e0, show saveS s l = ⟨s.first, s.chg ++ [hunkOf (lastG s) l]⟩ by simp [saveS, e0]]
      rw [List.take_of_length_le (by simp)]
      simp only [List.map_append]
      exact .refl _
  · refine call_tri [] [] (open_ok s h1 h3) (by (simp only [go_sem, reduceIte, Nat.reduceLeDiff, Nat.le_refl, Nat.reduceEqDiff, Nat.reduceAdd, Nat.reduceLT, reduceCtorEq, Int.toNat_natCast]) <;> simp [hg]) (by (simp only [go_sem, entH, entH1, nilArr, obOK, reduceIte, Nat.reduceLeDiff, Nat.le_refl, Nat.reduceEqDiff, Nat.reduceAdd, Nat.reduceLT, reduceCtorEq, Int.toNat_natCast]) <;> simp [hg]) (by simp [injR, apart, toR]) (by simp [coverR, usH, toR, hg]) (by simp [uniqP, lkR, toR]) (by simp [chk, hG]) ?_
    have e : saveE s l = 112 := by simp [saveE, hg]
    simp only [hg, if_false, e]
    simp only [go_sem, hG, hOw, reduceIte, Nat.reduceLeDiff, Nat.le_refl, Nat.reduceEqDiff, Nat.reduceAdd, Nat.reduceLT, reduceCtorEq, Int.toNat_natCast]
    (repeat' (first | (with_reducible refine And.intro ?_ ?_) | (with_reducible intro _) | (with_reducible refine exP ?_ ?_))); all_goals (try omega)
    exact sub_noSh _ _ _ (by simp [saveS, e])
end Go.Proofs.Ytgienbcekgokiaa
