/- The program: merging, the whole. -/
import Derived.Test.YtgienbcekgokiaaF11
namespace Go.Proofs.Ytgienbcekgokiaa
open Go Pm
set_option linter.unusedSimpArgs false
set_option linter.unusedVariables false
set_option maxHeartbeats 4000000
set_option maxRecDepth 100000
theorem Merge_ok (o a b : List ByteArray) (ho : o.length ≤ 1000) (ha : a.length ≤ 1000) (hb : b.length ≤ 1000) :
    Gives Try.prog 25 [strs 0 o, strs 0 a, strs 0 b] (fun n => .tup [strs n (mergeL o a b), i64 (mergeE o a b)]) := by
  refine pure_intro (ow := fun i => [46].contains i) Try.func25 Try.ntmps25 rfl (by kernel_rfl) (by simp) rfl (by decide) fun G hG hOw hNm hB => ?_
  simp only [go_sem, hG, hOw, reduceIte, Nat.reduceLeDiff, Nat.le_refl, Nat.reduceEqDiff, Nat.reduceAdd, Nat.reduceLT, reduceCtorEq, Int.toNat_natCast]
  have bad : ∀ n, ¬ (rowsB o = true ∧ rowsB a = true ∧ rowsB b = true) → Pm.Sub (V.tup [V.v (Value.slice none 0 0), V.v (Value.int IntKind.i64 110)]) (V.tup [V.lst n 1 (List.map strE (mergeL o a b)), V.v (Value.int IntKind.i64 (mergeE o a b))]) := fun n h => by
    rw [(merge_bad h).1, (merge_bad h).2]; exact sub_nilU _ _
  obtain ⟨ls, hls⟩ : ∃ ls, ls = [o, a, b] := ⟨_, rfl⟩
  have hln : ls.length = 3 := by rw [hls]; rfl
  have hal : ls.all rowsB = true ↔ rowsB o = true ∧ rowsB a = true ∧ rowsB b = true := by rw [hls]; simp
  refine semC_cut (fun _ : Unit => St.of [(0, strs 0 o), (1, strs 0 a), (2, strs 0 b)] []) (fun _ => rowsB o = true ∧ rowsB a = true ∧ rowsB b = true) ?_ ?_
  · refine semC_loop (fun k : Nat => St.of [(0, strs 0 o), (1, strs 0 a), (2, strs 0 b), (15, .lst G.lo 1 (ls.map (rowV 0))), (16, i64 3), (17, i64 k)] []) (fun k => k ≤ 3 ∧ (ls.take k).all rowsB = true) (fun k => 3 - k) 0 (by simp) (ent_of [] (by (simp only [go_sem, reduceIte, Nat.reduceLeDiff, Nat.le_refl, Nat.reduceEqDiff, Nat.reduceAdd, Nat.reduceLT, reduceCtorEq, Int.toNat_natCast]) <;> simp [rowV,hls,strs]) (by (simp only [go_sem, entH, entH1, nilArr, obOK, reduceIte, Nat.reduceLeDiff, Nat.le_refl, Nat.reduceEqDiff, Nat.reduceAdd, Nat.reduceLT, reduceCtorEq, Int.toNat_natCast]) <;> simp [rowV,hls,strs]) (by simp [injR, apart]) (by simp [coverR, usH]) (by simp [hNm, lkR, names])) ?_
    rintro k ⟨hk, hall⟩
    refine vc_sound _ _ _ ?_; simp only [go_sem, hG, hOw, reduceIte, Nat.reduceLeDiff, Nat.le_refl, Nat.reduceEqDiff, Nat.reduceAdd, Nat.reduceLT, reduceCtorEq, Int.toNat_natCast]
    (repeat' (first | (with_reducible refine And.intro ?_ ?_) | (with_reducible intro _) | (with_reducible refine exP ?_ ?_))); all_goals (try omega)
    · rename_i hlt
      have hkl : k < ls.length := by omega
      refine call_pure (Check_ok (ls[k]'hkl)) (by first | exact Subs.refl _ | (repeat' (first | exact Subs.nil | exact Sub.refl _ | exact Sub.lo (Nat.zero_le _) | refine Subs.cons ?_ ?_ | refine Subs.agg ?_ | refine Subs.tup ?_ | refine Sub.map (Nat.zero_le _) (fun _ => ?_)))) (by first | rfl | simp [allP, all0, pureV, pure0, *]) (by simp [chk, hG]) ?_
      simp only [go_sem, hG, hOw, reduceIte, Nat.reduceLeDiff, Nat.le_refl, Nat.reduceEqDiff, Nat.reduceAdd, Nat.reduceLT, reduceCtorEq, Int.toNat_natCast]
      (repeat' (first | (with_reducible refine And.intro ?_ ?_) | (with_reducible intro _) | (with_reducible refine exP ?_ ?_))); all_goals (try omega)
      · rename_i h1
        refine bad _ (fun ⟨q1, q2, q3⟩ => ?_)
        have : rowsB (ls[k]'hkl) = true := List.all_eq_true.1 (hal.2 ⟨q1, q2, q3⟩) _ (List.getElem_mem hkl)
        rw [this] at h1
        simp at h1
      · rename_i h1
        have : rowsB (ls[k]'hkl) = true := by
          cases h : rowsB (ls[k]'hkl) with
          | true => rfl
          | false => rw [h] at h1; simp at h1
        exact ⟨k + 1, ⟨by omega, all_take_succ hkl hall this⟩, by omega, ent_of0 (by (simp only [go_sem, reduceIte, Nat.reduceLeDiff, Nat.le_refl, Nat.reduceEqDiff, Nat.reduceAdd, Nat.reduceLT, reduceCtorEq, Int.toNat_natCast]) <;> simp) hNm⟩
    · rename_i hge
      rw [List.take_of_length_le (by omega)] at hall
      exact ⟨(), hal.1 hall, ent_of0 (by (simp only [go_sem, reduceIte, Nat.reduceLeDiff, Nat.le_refl, Nat.reduceEqDiff, Nat.reduceAdd, Nat.reduceLT, reduceCtorEq, Int.toNat_natCast]) <;> simp) hNm⟩
  rintro ⟨⟩ ⟨r1, r2, r3⟩
  have l1 := rowsB_len r1
  have l2 := rowsB_len r2
  have l3 := rowsB_len r3
  obtain ⟨⟨xa, xb, xc, xd⟩, ya, yb, yc, yd⟩ := And.intro (hunkOf_bd o a) (hunkOf_bd o b)
  have fin1 : mergeE o a b = 0 → ∀ n L, mergeL o a b = L → Pm.Sub (V.tup [V.lst n 1 (List.map strE L), V.v (Value.int IntKind.i64 0)]) (V.tup [V.lst n 1 (List.map strE (mergeL o a b)), V.v (Value.int IntKind.i64 (mergeE o a b))]) := fun h n L hL => by
    rw [h, hL]; exact .refl _
  simp only [go_sem, hG, hOw, reduceIte, Nat.reduceLeDiff, Nat.le_refl, Nat.reduceEqDiff, Nat.reduceAdd, Nat.reduceLT, reduceCtorEq, Int.toNat_natCast]
  refine call_pure (Equal_ok o a) (by first | exact Subs.refl _ | (repeat' (first | exact Subs.nil | exact Sub.refl _ | exact Sub.lo (Nat.zero_le _) | refine Subs.cons ?_ ?_ | refine Subs.agg ?_ | refine Subs.tup ?_ | refine Sub.map (Nat.zero_le _) (fun _ => ?_)))) (by first | rfl | simp [allP, all0, pureV, pure0, *]) (by simp [chk, hG]) ?_
  simp only [go_sem, hG, hOw, reduceIte, Nat.reduceLeDiff, Nat.le_refl, Nat.reduceEqDiff, Nat.reduceAdd, Nat.reduceLT, reduceCtorEq, Int.toNat_natCast]
  refine ⟨fun e1 => ?_, fun e1 => ?_⟩
  · refine call_pure (Clone_ok b hb) (by first | exact Subs.refl _ | (repeat' (first | exact Subs.nil | exact Sub.refl _ | exact Sub.lo (Nat.zero_le _) | refine Subs.cons ?_ ?_ | refine Subs.agg ?_ | refine Subs.tup ?_ | refine Sub.map (Nat.zero_le _) (fun _ => ?_)))) (by first | rfl | simp [allP, all0, pureV, pure0, *]) (by simp [chk, hG]) ?_
    simp only [go_sem, hG, hOw, reduceIte, Nat.reduceLeDiff, Nat.le_refl, Nat.reduceEqDiff, Nat.reduceAdd, Nat.reduceLT, reduceCtorEq, Int.toNat_natCast]
    exact fin1 (merge_1 ⟨r1, r2, r3⟩ e1).1 _ _ (merge_1 ⟨r1, r2, r3⟩ e1).2
  · refine call_pure (Equal_ok o b) (by first | exact Subs.refl _ | (repeat' (first | exact Subs.nil | exact Sub.refl _ | exact Sub.lo (Nat.zero_le _) | refine Subs.cons ?_ ?_ | refine Subs.agg ?_ | refine Subs.tup ?_ | refine Sub.map (Nat.zero_le _) (fun _ => ?_)))) (by first | rfl | simp [allP, all0, pureV, pure0, *]) (by simp [chk, hG]) ?_
    simp only [go_sem, hG, hOw, reduceIte, Nat.reduceLeDiff, Nat.le_refl, Nat.reduceEqDiff, Nat.reduceAdd, Nat.reduceLT, reduceCtorEq, Int.toNat_natCast]
    refine ⟨fun e2 => ⟨fun _ => ?_, fun h => absurd e2 h⟩, fun e2 => ?_⟩
    · refine call_pure (Clone_ok a ha) (by first | exact Subs.refl _ | (repeat' (first | exact Subs.nil | exact Sub.refl _ | exact Sub.lo (Nat.zero_le _) | refine Subs.cons ?_ ?_ | refine Subs.agg ?_ | refine Subs.tup ?_ | refine Sub.map (Nat.zero_le _) (fun _ => ?_)))) (by first | rfl | simp [allP, all0, pureV, pure0, *]) (by simp [chk, hG]) ?_
      simp only [go_sem, hG, hOw, reduceIte, Nat.reduceLeDiff, Nat.le_refl, Nat.reduceEqDiff, Nat.reduceAdd, Nat.reduceLT, reduceCtorEq, Int.toNat_natCast]
      have := merge_2 ⟨r1, r2, r3⟩ e1 (.inl e2)
      exact fin1 this.1 _ _ this.2
    · refine call_pure (Equal_ok a b) (by first | exact Subs.refl _ | (repeat' (first | exact Subs.nil | exact Sub.refl _ | exact Sub.lo (Nat.zero_le _) | refine Subs.cons ?_ ?_ | refine Subs.agg ?_ | refine Subs.tup ?_ | refine Sub.map (Nat.zero_le _) (fun _ => ?_)))) (by first | rfl | simp [allP, all0, pureV, pure0, *]) (by simp [chk, hG]) ?_
      simp only [go_sem, hG, hOw, reduceIte, Nat.reduceLeDiff, Nat.le_refl, Nat.reduceEqDiff, Nat.reduceAdd, Nat.reduceLT, reduceCtorEq, Int.toNat_natCast]
      refine ⟨fun e3 => ?_, fun e3 => ?_⟩
      · refine call_pure (Clone_ok a ha) (by first | exact Subs.refl _ | (repeat' (first | exact Subs.nil | exact Sub.refl _ | exact Sub.lo (Nat.zero_le _) | refine Subs.cons ?_ ?_ | refine Subs.agg ?_ | refine Subs.tup ?_ | refine Sub.map (Nat.zero_le _) (fun _ => ?_)))) (by first | rfl | simp [allP, all0, pureV, pure0, *]) (by simp [chk, hG]) ?_
        simp only [go_sem, hG, hOw, reduceIte, Nat.reduceLeDiff, Nat.le_refl, Nat.reduceEqDiff, Nat.reduceAdd, Nat.reduceLT, reduceCtorEq, Int.toNat_natCast]
        have := merge_2 ⟨r1, r2, r3⟩ e1 (.inr e3)
        exact fin1 this.1 _ _ this.2
      · have ne2 : ¬ (o = b ∨ a = b) := fun h => h.elim e2 e3
        refine call_pure (hunk_ok o a ho ha) (by first | exact Subs.refl _ | (repeat' (first | exact Subs.nil | exact Sub.refl _ | exact Sub.lo (Nat.zero_le _) | refine Subs.cons ?_ ?_ | refine Subs.agg ?_ | refine Subs.tup ?_ | refine Sub.map (Nat.zero_le _) (fun _ => ?_)))) (by first | rfl | simp [allP, all0, pureV, pure0, *]) (by simp [chk, hG]) ?_
        simp only [go_sem, hG, hOw, reduceIte, Nat.reduceLeDiff, Nat.le_refl, Nat.reduceEqDiff, Nat.reduceAdd, Nat.reduceLT, reduceCtorEq, Int.toNat_natCast]
        refine call_pure (hunk_ok o b ho hb) (by first | exact Subs.refl _ | (repeat' (first | exact Subs.nil | exact Sub.refl _ | exact Sub.lo (Nat.zero_le _) | refine Subs.cons ?_ ?_ | refine Subs.agg ?_ | refine Subs.tup ?_ | refine Sub.map (Nat.zero_le _) (fun _ => ?_)))) (by first | rfl | simp [allP, all0, pureV, pure0, *]) (by simp [chk, hG]) ?_
        simp only [go_sem, hG, hOw, reduceIte, Nat.reduceLeDiff, Nat.le_refl, Nat.reduceEqDiff, Nat.reduceAdd, Nat.reduceLT, reduceCtorEq, Int.toNat_natCast]
        (repeat' (first | (with_reducible refine And.intro ?_ ?_) | (with_reducible intro _) | (with_reducible refine exP ?_ ?_))); all_goals (try omega)
        refine call_tri [(0, 46)] [] (SortFunc_ok G.lo (hunkOf o a) (hunkOf o b) (by omega) (by omega)) (by (simp only [go_sem, reduceIte, Nat.reduceLeDiff, Nat.le_refl, Nat.reduceEqDiff, Nat.reduceAdd, Nat.reduceLT, reduceCtorEq, Int.toNat_natCast]) <;> simp) (by (simp only [go_sem, entH, entH1, nilArr, obOK, reduceIte, Nat.reduceLeDiff, Nat.le_refl, Nat.reduceEqDiff, Nat.reduceAdd, Nat.reduceLT, reduceCtorEq, Int.toNat_natCast]) <;> simp) (by simp [injR, apart, toR]) (by simp [coverR, usH, toR]) (by simp [uniqP, lkR, toR]) (by simp [chk, hG]) ?_
        obtain ⟨hq1, hq2⟩ := mergeP_bd o a b
        have f3 := merge_3 ⟨r1, r2, r3⟩ e1 ne2
        have f4 := merge_4 ⟨r1, r2, r3⟩ e1 ne2
        have f5 := merge_5 ⟨r1, r2, r3⟩ e1 ne2
        simp only [srt_mergeP, List.map_cons, List.map_nil]
        revert hq1 hq2 f3 f4 f5
        generalize mergeP o a b = pq
        obtain ⟨p, q⟩ := pq
        intro hq1 hq2 f3 f4 f5
        simp only at hq1 hq2 f3 f4 f5
        have hm1 : madeB o q = true := madeB_of (by omega) (by omega) (by omega)
        have hg1 := madeL_ge hm1
        simp (config := { maxSteps := 2000000 }) only [go_sem, hG, hOw, Int.reduceToNat, Int.reduceSub, List.getElem_cons_succ, List.getElem_cons_zero, List.take_succ_cons, List.take_zero, reduceIte, Nat.reduceLeDiff, Nat.le_refl, Nat.reduceEqDiff, Nat.reduceAdd, Nat.reduceLT, reduceCtorEq, Int.toNat_natCast]
        refine semC_draw0 mixed (by kernel_rfl) ?_
        simp (config := { maxSteps := 2000000 }) only [go_sem, hG, hOw, Int.reduceToNat, Int.reduceSub, List.getElem_cons_succ, List.getElem_cons_zero, List.take_succ_cons, List.take_zero, reduceIte, Nat.reduceLeDiff, Nat.le_refl, Nat.reduceEqDiff, Nat.reduceAdd, Nat.reduceLT, reduceCtorEq, Int.toNat_natCast]
        (repeat' (first | (with_reducible refine And.intro ?_ ?_) | (with_reducible intro _) | (with_reducible refine exP ?_ ?_))); all_goals (try omega)
        · rename_i k1
          rw [(f3 k1).1, (f3 k1).2]
          exact sub_nilU _ _
        · rename_i k1
          have hm2 : madeB (madeL o q) p = true := bothB (p := (p, q)) ⟨hq1.1, hq1.2.1⟩ hm1 (by show p.lo + p.drop < q.lo; omega)
          refine semC_draw0 mixed (by kernel_rfl) ?_
          simp (config := { maxSteps := 2000000 }) only [go_sem, hG, hOw, Int.reduceToNat, Int.reduceSub, List.getElem_cons_succ, List.getElem_cons_zero, List.take_succ_cons, List.take_zero, reduceIte, Nat.reduceLeDiff, Nat.le_refl, Nat.reduceEqDiff, Nat.reduceAdd, Nat.reduceLT, reduceCtorEq, Int.toNat_natCast]
          (repeat' (first | (with_reducible refine And.intro ?_ ?_) | (with_reducible intro _) | (with_reducible refine exP ?_ ?_))); all_goals (try omega)
          refine ⟨_, callGives (made_ok o q (by omega) (by omega) hm1) (by first | exact Subs.refl _ | (repeat' (first | exact Subs.nil | exact Sub.refl _ | exact Sub.lo (Nat.zero_le _) | refine Subs.cons ?_ ?_ | refine Subs.agg ?_ | refine Subs.tup ?_ | refine Sub.map (Nat.zero_le _) (fun _ => ?_)))) (by first | rfl | simp [allP, all0, pureV, pure0, *]), ?_⟩
          simp (config := { maxSteps := 2000000 }) only [go_sem, hG, hOw, Int.reduceToNat, Int.reduceSub, List.getElem_cons_succ, List.getElem_cons_zero, List.take_succ_cons, List.take_zero, reduceIte, Nat.reduceLeDiff, Nat.le_refl, Nat.reduceEqDiff, Nat.reduceAdd, Nat.reduceLT, reduceCtorEq, Int.toNat_natCast]
          (repeat' (first | (with_reducible refine And.intro ?_ ?_) | (with_reducible intro _) | (with_reducible refine exP ?_ ?_))); all_goals (try omega)
          refine ⟨_, callGives (made_ok (madeL o q) p (by omega) (by omega) hm2) (by first | exact Subs.refl _ | (repeat' (first | exact Subs.nil | exact Sub.refl _ | exact Sub.lo (Nat.zero_le _) | refine Subs.cons ?_ ?_ | refine Subs.agg ?_ | refine Subs.tup ?_ | refine Sub.map (Nat.zero_le _) (fun _ => ?_)))) (by first | rfl | simp [allP, all0, pureV, pure0, *]), ?_⟩
          simp only [go_sem, hG, hOw, reduceIte, Nat.reduceLeDiff, Nat.le_refl, Nat.reduceEqDiff, Nat.reduceAdd, Nat.reduceLT, reduceCtorEq, Int.toNat_natCast]
          refine call_pure (Check_ok (bothL o (p, q))) (by first | exact Subs.refl _ | (repeat' (first | exact Subs.nil | exact Sub.refl _ | exact Sub.lo (Nat.zero_le _) | refine Subs.cons ?_ ?_ | refine Subs.agg ?_ | refine Subs.tup ?_ | refine Sub.map (Nat.zero_le _) (fun _ => ?_)))) (by first | rfl | simp [allP, all0, pureV, pure0, *]) (by simp [chk, hG]) ?_
          simp only [go_sem, hG, hOw, reduceIte, Nat.reduceLeDiff, Nat.le_refl, Nat.reduceEqDiff, Nat.reduceAdd, Nat.reduceLT, reduceCtorEq, Int.toNat_natCast]
          (repeat' (first | (with_reducible refine And.intro ?_ ?_) | (with_reducible intro _) | (with_reducible refine exP ?_ ?_))); all_goals (try omega)
          · rename_i k2
            have h4 := f4 k1 (by
              cases h : rowsB (bothL o (p, q)) with
              | true => rw [h] at k2; simp at k2
              | false => rfl)
            rw [h4.1, h4.2]
            exact sub_nilU _ _
          · rename_i k2
            have h5 := f5 k1 (by
              cases h : rowsB (bothL o (p, q)) with
              | true => rfl
              | false => rw [h] at k2; simp at k2)
            exact fin1 h5.1 _ _ h5.2
end Go.Proofs.Ytgienbcekgokiaa
