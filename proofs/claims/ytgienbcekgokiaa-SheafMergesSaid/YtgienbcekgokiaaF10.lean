/- The document's answers: what merging gives. -/
import Derived.Test.YtgienbcekgokiaaF3
import Derived.Test.YtgienbcekgokiaaSp3
namespace Go.Proofs.Ytgienbcekgokiaa
open Go Pm
set_option linter.unusedSimpArgs false
set_option linter.unusedVariables false
set_option maxHeartbeats 4000000
set_option maxRecDepth 100000
theorem sub_nilT (n : Nat) (e : Int) : Pm.Sub (.tup [.v (.slice none 0 0), .v (.int .i64 e)]) (.tup [.lst n 1 (List.map strE []), .v (.int .i64 e)]) := Subs.tup (.cons (.nil _ _) (.cons (.refl _) .nil))
theorem MergeR_ok (o a b : List ByteArray) (ho : o.length ≤ 1000) (ha : a.length ≤ 1000) (hb : b.length ≤ 1000) :
    Gives Try.prog 26 [strs 0 o, strs 0 a, strs 0 b] (fun n => .tup [strs n (mergeL o a b), i64 (mergeE o a b)]) := by
  refine pure_intro (ow := fun _ => false) Try.func26 Try.ntmps26 rfl (by kernel_rfl) (by simp) rfl (by decide) fun G hG hOw hNm hB => ?_
  simp only [go_sem, hG, hOw, reduceIte, Nat.reduceLeDiff, Nat.le_refl, Nat.reduceEqDiff, Nat.reduceAdd, Nat.reduceLT, reduceCtorEq, Int.toNat_natCast]
  refine call_pure (Rows_ok o) (by first | exact Subs.refl _ | (repeat' (first | exact Subs.nil | exact Sub.refl _ | exact Sub.lo (Nat.zero_le _) | refine Subs.cons ?_ ?_ | refine Subs.agg ?_ | refine Subs.tup ?_ | refine Sub.map (Nat.zero_le _) (fun _ => ?_)))) (by first | rfl | simp [allP, all0, pureV, pure0, *]) (by simp [chk, hG]) ?_
  simp only [go_sem, hG, hOw, reduceIte, Nat.reduceLeDiff, Nat.le_refl, Nat.reduceEqDiff, Nat.reduceAdd, Nat.reduceLT, reduceCtorEq, Int.toNat_natCast]
  have bad : ∀ n, ¬ (rowsB o = true ∧ rowsB a = true ∧ rowsB b = true) → Pm.Sub (V.tup [V.v (Value.slice none 0 0), V.v (Value.int IntKind.i64 110)]) (V.tup [V.lst n 1 (List.map strE (mergeL o a b)), V.v (Value.int IntKind.i64 (mergeE o a b))]) := fun n h => by
    rw [(merge_bad h).1, (merge_bad h).2]; exact sub_nilT _ _
  obtain ⟨⟨xa, xb, xc, xd⟩, ya, yb, yc, yd⟩ := And.intro (hunkOf_bd o a) (hunkOf_bd o b)
  (repeat' (first | (with_reducible refine And.intro ?_ ?_) | (with_reducible intro _) | (with_reducible refine exP ?_ ?_))); all_goals (try omega)
  · rename_i r1
    refine call_pure (Rows_ok a) (by first | exact Subs.refl _ | (repeat' (first | exact Subs.nil | exact Sub.refl _ | exact Sub.lo (Nat.zero_le _) | refine Subs.cons ?_ ?_ | refine Subs.agg ?_ | refine Subs.tup ?_ | refine Sub.map (Nat.zero_le _) (fun _ => ?_)))) (by first | rfl | simp [allP, all0, pureV, pure0, *]) (by simp [chk, hG]) ?_
    simp only [go_sem, hG, hOw, reduceIte, Nat.reduceLeDiff, Nat.le_refl, Nat.reduceEqDiff, Nat.reduceAdd, Nat.reduceLT, reduceCtorEq, Int.toNat_natCast]
    (repeat' (first | (with_reducible refine And.intro ?_ ?_) | (with_reducible intro _) | (with_reducible refine exP ?_ ?_))); all_goals (try omega)
    · rename_i r2
      refine call_pure (Rows_ok b) (by first | exact Subs.refl _ | (repeat' (first | exact Subs.nil | exact Sub.refl _ | exact Sub.lo (Nat.zero_le _) | refine Subs.cons ?_ ?_ | refine Subs.agg ?_ | refine Subs.tup ?_ | refine Sub.map (Nat.zero_le _) (fun _ => ?_)))) (by first | rfl | simp [allP, all0, pureV, pure0, *]) (by simp [chk, hG]) ?_
      simp only [go_sem, hG, hOw, reduceIte, Nat.reduceLeDiff, Nat.le_refl, Nat.reduceEqDiff, Nat.reduceAdd, Nat.reduceLT, reduceCtorEq, Int.toNat_natCast]
      (repeat' (first | (with_reducible refine And.intro ?_ ?_) | (with_reducible intro _) | (with_reducible refine exP ?_ ?_))); all_goals (try omega)
      · rename_i r3
        exact bad _ (by rw [r3]; simp)
      · rename_i r3
        refine call_pure (SameWords_ok a o) (by first | exact Subs.refl _ | (repeat' (first | exact Subs.nil | exact Sub.refl _ | exact Sub.lo (Nat.zero_le _) | refine Subs.cons ?_ ?_ | refine Subs.agg ?_ | refine Subs.tup ?_ | refine Sub.map (Nat.zero_le _) (fun _ => ?_)))) (by first | rfl | simp [allP, all0, pureV, pure0, *]) (by simp [chk, hG]) ?_
        simp only [go_sem, hG, hOw, reduceIte, Nat.reduceLeDiff, Nat.le_refl, Nat.reduceEqDiff, Nat.reduceAdd, Nat.reduceLT, reduceCtorEq, Int.toNat_natCast]
        (repeat' (first | (with_reducible refine And.intro ?_ ?_) | (with_reducible intro _) | (with_reducible refine exP ?_ ?_))); all_goals (try omega)
        · rename_i e1
          rw [(merge_1 ⟨r1, r2, r3⟩ e1.symm).1, (merge_1 ⟨r1, r2, r3⟩ e1.symm).2]
          exact .refl _
        · rename_i e1
          refine call_pure (SameWords_ok b o) (by first | exact Subs.refl _ | (repeat' (first | exact Subs.nil | exact Sub.refl _ | exact Sub.lo (Nat.zero_le _) | refine Subs.cons ?_ ?_ | refine Subs.agg ?_ | refine Subs.tup ?_ | refine Sub.map (Nat.zero_le _) (fun _ => ?_)))) (by first | rfl | simp [allP, all0, pureV, pure0, *]) (by simp [chk, hG]) ?_
          simp only [go_sem, hG, hOw, reduceIte, Nat.reduceLeDiff, Nat.le_refl, Nat.reduceEqDiff, Nat.reduceAdd, Nat.reduceLT, reduceCtorEq, Int.toNat_natCast]
          (repeat' (first | (with_reducible refine And.intro ?_ ?_) | (with_reducible intro _) | (with_reducible refine exP ?_ ?_))); all_goals (try omega)
          · rename_i e2
            refine call_pure (SameWords_ok a b) (by first | exact Subs.refl _ | (repeat' (first | exact Subs.nil | exact Sub.refl _ | exact Sub.lo (Nat.zero_le _) | refine Subs.cons ?_ ?_ | refine Subs.agg ?_ | refine Subs.tup ?_ | refine Sub.map (Nat.zero_le _) (fun _ => ?_)))) (by first | rfl | simp [allP, all0, pureV, pure0, *]) (by simp [chk, hG]) ?_
            simp only [go_sem, hG, hOw, reduceIte, Nat.reduceLeDiff, Nat.le_refl, Nat.reduceEqDiff, Nat.reduceAdd, Nat.reduceLT, reduceCtorEq, Int.toNat_natCast]
            (repeat' (first | (with_reducible refine And.intro ?_ ?_) | (with_reducible intro _) | (with_reducible refine exP ?_ ?_))); all_goals (try omega)
            · rename_i e3
              have := merge_2 ⟨r1, r2, r3⟩ (fun h => e1 h.symm) (.inr e3)
              rw [this.1, this.2]
              exact .refl _
            · rename_i e3
              have ne1 : ¬ o = a := fun h => e1 h.symm
              have ne2 : ¬ (o = b ∨ a = b) := fun h => h.elim (fun h => e2 h.symm) e3
              refine call_pure (HunkOf_ok o a ho ha) (by first | exact Subs.refl _ | (repeat' (first | exact Subs.nil | exact Sub.refl _ | exact Sub.lo (Nat.zero_le _) | refine Subs.cons ?_ ?_ | refine Subs.agg ?_ | refine Subs.tup ?_ | refine Sub.map (Nat.zero_le _) (fun _ => ?_)))) (by first | rfl | simp [allP, all0, pureV, pure0, *]) (by simp [chk, hG]) ?_
              simp only [go_sem, hG, hOw, reduceIte, Nat.reduceLeDiff, Nat.le_refl, Nat.reduceEqDiff, Nat.reduceAdd, Nat.reduceLT, reduceCtorEq, Int.toNat_natCast]
              refine call_pure (HunkOf_ok o b ho hb) (by first | exact Subs.refl _ | (repeat' (first | exact Subs.nil | exact Sub.refl _ | exact Sub.lo (Nat.zero_le _) | refine Subs.cons ?_ ?_ | refine Subs.agg ?_ | refine Subs.tup ?_ | refine Sub.map (Nat.zero_le _) (fun _ => ?_)))) (by first | rfl | simp [allP, all0, pureV, pure0, *]) (by simp [chk, hG]) ?_
              simp only [go_sem, hG, hOw, reduceIte, Nat.reduceLeDiff, Nat.le_refl, Nat.reduceEqDiff, Nat.reduceAdd, Nat.reduceLT, reduceCtorEq, Int.toNat_natCast]
              have l1 := rowsB_len r1
              have l2 := rowsB_len r2
              have l3 := rowsB_len r3
              have fin1 : mergeE o a b = 0 → ∀ n L, mergeL o a b = L → Pm.Sub (V.tup [V.lst n 1 (List.map strE L), V.v (Value.int IntKind.i64 0)]) (V.tup [V.lst n 1 (List.map strE (mergeL o a b)), V.v (Value.int IntKind.i64 (mergeE o a b))]) := fun h n L hL => by
                rw [h, hL]; exact .refl _
              (repeat' (first | (with_reducible refine And.intro ?_ ?_) | (with_reducible intro _) | (with_reducible refine exP ?_ ?_))); all_goals (try omega)
              · rename_i k1 k2
                have hp : mergeP o a b = (hunkOf o b, hunkOf o a) := by unfold mergeP; rw [if_pos (by omega)]
                have hm1 : madeB o (hunkOf o a) = true := madeB_of (by omega) (by omega) (by omega)
                have hg1 := madeL_ge hm1
                refine call_pure (Made_ok o (hunkOf o a) (by omega) (by omega)) (by first | exact Subs.refl _ | (repeat' (first | exact Subs.nil | exact Sub.refl _ | exact Sub.lo (Nat.zero_le _) | refine Subs.cons ?_ ?_ | refine Subs.agg ?_ | refine Subs.tup ?_ | refine Sub.map (Nat.zero_le _) (fun _ => ?_)))) (by first | rfl | simp [allP, all0, pureV, pure0, *]) (by simp [chk, hG]) ?_
                simp only [go_sem, hG, hOw, reduceIte, Nat.reduceLeDiff, Nat.le_refl, Nat.reduceEqDiff, Nat.reduceAdd, Nat.reduceLT, reduceCtorEq, Int.toNat_natCast]
                refine call_pure (Made_ok (madeL o (hunkOf o a)) (hunkOf o b) (by omega) (by omega)) (by first | exact Subs.refl _ | (repeat' (first | exact Subs.nil | exact Sub.refl _ | exact Sub.lo (Nat.zero_le _) | refine Subs.cons ?_ ?_ | refine Subs.agg ?_ | refine Subs.tup ?_ | refine Sub.map (Nat.zero_le _) (fun _ => ?_)))) (by first | rfl | simp [allP, all0, pureV, pure0, *]) (by simp [chk, hG]) ?_
                simp only [go_sem, hG, hOw, reduceIte, Nat.reduceLeDiff, Nat.le_refl, Nat.reduceEqDiff, Nat.reduceAdd, Nat.reduceLT, reduceCtorEq, Int.toNat_natCast]
                have hno : ¬ (mergeP o a b).2.lo ≤ (mergeP o a b).1.lo + (mergeP o a b).1.drop := by rw [hp]; exact k2
                have hbo : bothL o (mergeP o a b) = madeL (madeL o (hunkOf o a)) (hunkOf o b) := by rw [hp]; rfl
                refine call_pure (Rows_ok (madeL (madeL o (hunkOf o a)) (hunkOf o b))) (by first | exact Subs.refl _ | (repeat' (first | exact Subs.nil | exact Sub.refl _ | exact Sub.lo (Nat.zero_le _) | refine Subs.cons ?_ ?_ | refine Subs.agg ?_ | refine Subs.tup ?_ | refine Sub.map (Nat.zero_le _) (fun _ => ?_)))) (by first | rfl | simp [allP, all0, pureV, pure0, *]) (by simp [chk, hG]) ?_
                simp only [go_sem, hG, hOw, reduceIte, Nat.reduceLeDiff, Nat.le_refl, Nat.reduceEqDiff, Nat.reduceAdd, Nat.reduceLT, reduceCtorEq, Int.toNat_natCast]
                (repeat' (first | (with_reducible refine And.intro ?_ ?_) | (with_reducible intro _) | (with_reducible refine exP ?_ ?_))); all_goals (try omega)
                · rename_i k3
                  have := merge_4 ⟨r1, r2, r3⟩ ne1 ne2 hno (by rw [hbo]; exact k3)
                  rw [this.1, this.2]
                  exact sub_nilT _ _
                · rename_i k3
                  have := merge_5 ⟨r1, r2, r3⟩ ne1 ne2 hno (by rw [hbo]; exact k3)
                  exact fin1 this.1 _ _ (this.2.trans hbo)
              · rename_i k1 k2
                have he : (mergeP o a b).2.lo ≤ (mergeP o a b).1.lo + (mergeP o a b).1.drop := by
                  unfold mergeP; split <;> simp only <;> omega
                have := merge_3 ⟨r1, r2, r3⟩ ne1 ne2 he
                rw [this.1, this.2]
                exact sub_nilT _ _
              · rename_i k1 k2
                have hp : mergeP o a b = (hunkOf o a, hunkOf o b) := by unfold mergeP; rw [if_neg (by omega)]
                have hm1 : madeB o (hunkOf o b) = true := madeB_of (by omega) (by omega) (by omega)
                have hg1 := madeL_ge hm1
                refine call_pure (Made_ok o (hunkOf o b) (by omega) (by omega)) (by first | exact Subs.refl _ | (repeat' (first | exact Subs.nil | exact Sub.refl _ | exact Sub.lo (Nat.zero_le _) | refine Subs.cons ?_ ?_ | refine Subs.agg ?_ | refine Subs.tup ?_ | refine Sub.map (Nat.zero_le _) (fun _ => ?_)))) (by first | rfl | simp [allP, all0, pureV, pure0, *]) (by simp [chk, hG]) ?_
                simp only [go_sem, hG, hOw, reduceIte, Nat.reduceLeDiff, Nat.le_refl, Nat.reduceEqDiff, Nat.reduceAdd, Nat.reduceLT, reduceCtorEq, Int.toNat_natCast]
                refine call_pure (Made_ok (madeL o (hunkOf o b)) (hunkOf o a) (by omega) (by omega)) (by first | exact Subs.refl _ | (repeat' (first | exact Subs.nil | exact Sub.refl _ | exact Sub.lo (Nat.zero_le _) | refine Subs.cons ?_ ?_ | refine Subs.agg ?_ | refine Subs.tup ?_ | refine Sub.map (Nat.zero_le _) (fun _ => ?_)))) (by first | rfl | simp [allP, all0, pureV, pure0, *]) (by simp [chk, hG]) ?_
                simp only [go_sem, hG, hOw, reduceIte, Nat.reduceLeDiff, Nat.le_refl, Nat.reduceEqDiff, Nat.reduceAdd, Nat.reduceLT, reduceCtorEq, Int.toNat_natCast]
                have hno : ¬ (mergeP o a b).2.lo ≤ (mergeP o a b).1.lo + (mergeP o a b).1.drop := by rw [hp]; exact k2
                have hbo : bothL o (mergeP o a b) = madeL (madeL o (hunkOf o b)) (hunkOf o a) := by rw [hp]; rfl
                refine call_pure (Rows_ok (madeL (madeL o (hunkOf o b)) (hunkOf o a))) (by first | exact Subs.refl _ | (repeat' (first | exact Subs.nil | exact Sub.refl _ | exact Sub.lo (Nat.zero_le _) | refine Subs.cons ?_ ?_ | refine Subs.agg ?_ | refine Subs.tup ?_ | refine Sub.map (Nat.zero_le _) (fun _ => ?_)))) (by first | rfl | simp [allP, all0, pureV, pure0, *]) (by simp [chk, hG]) ?_
                simp only [go_sem, hG, hOw, reduceIte, Nat.reduceLeDiff, Nat.le_refl, Nat.reduceEqDiff, Nat.reduceAdd, Nat.reduceLT, reduceCtorEq, Int.toNat_natCast]
                (repeat' (first | (with_reducible refine And.intro ?_ ?_) | (with_reducible intro _) | (with_reducible refine exP ?_ ?_))); all_goals (try omega)
                · rename_i k3
                  have := merge_4 ⟨r1, r2, r3⟩ ne1 ne2 hno (by rw [hbo]; exact k3)
                  rw [this.1, this.2]
                  exact sub_nilT _ _
                · rename_i k3
                  have := merge_5 ⟨r1, r2, r3⟩ ne1 ne2 hno (by rw [hbo]; exact k3)
                  exact fin1 this.1 _ _ (this.2.trans hbo)
          · rename_i e2
            have := merge_2 ⟨r1, r2, r3⟩ (fun h => e1 h.symm) (.inl e2.symm)
            rw [this.1, this.2]
            exact .refl _
    · rename_i r2
      exact bad _ (by rw [r2]; simp)
  · rename_i r1
    exact bad _ (by rw [r1]; simp)
end Go.Proofs.Ytgienbcekgokiaa
