/- The document's answer: rounds: the lines of a sheet. -/
import Derived.Test.YtgeldamcekjdgaaH2
namespace Go.Proofs.Ytgeldamcekjdgaa
open Go Pm
set_option linter.unusedSimpArgs false
set_option linter.unusedVariables false
set_option maxHeartbeats 4000000
set_option maxRecDepth 100000
theorem Round_lines (r : Ro) {G : Gh} {Q : Exit → St → Prop} (hG : G.n = 215) (hOw : G.ow = fun _ => false) (hNm : G.nm = []) (m : Nat) (x : Se) (hx : OKl x.lines) (hbad : x.lines.all lineB = false → ∀ s', s'.get 2 = bl false → Q .ret s') :
    SemC Try.prog G (bkOf 6 Try.f41.body) (St.of [(1, .ptr 1 0), (6, i64 (linesL r.text).length), (7, i64 m), (9, .ptr 9 0), (10, i64 0)] [(1, .box (roC 0 r)), (9, .box (seE 0 x))])
      (cutQ G 6 (fun _ : Unit => St.of [(1, .ptr 1 0), (6, i64 (linesL r.text).length), (7, i64 m)] [(1, .box (roC 0 r))]) (fun _ => x.lines.all lineB = true) Q) := by
  obtain ⟨hx1, hx2⟩ := hx
  unfold Try.f41
  simp only [rgOf, bkOf, rgO, bkO, orElse, Option.bind_some, Option.getD_some, reduceIte, Nat.reduceEqDiff, reduceCtorEq]
  have badi : ∀ i (h : i < x.lines.length), lineB x.lines[i] = false → ∀ s', s'.get 2 = bl false → Q .ret s' := fun i h h' => hbad (all_false h h')
  refine semC_loop (fun i : Nat => St.of [(1, .ptr 1 0), (6, i64 (linesL r.text).length), (7, i64 m), (9, .ptr 9 0), (10, i64 i)] [(1, .box (roC 0 r)), (9, .box (seE 0 x))]) (fun i => i ≤ x.lines.length ∧ (x.lines.take i).all lineB = true) (fun i => x.lines.length - i) 0 (by simp) (ent_of [(1, some 1), (9, some 9)] (by (simp only [go_sem, reduceIte, Nat.reduceLeDiff, Nat.le_refl, Nat.reduceEqDiff, Nat.reduceAdd, Nat.reduceLT, reduceCtorEq, Int.toNat_natCast]) <;> simp) (by (simp only [go_sem, entH, entH1, nilArr, obOK, reduceIte, Nat.reduceLeDiff, Nat.le_refl, Nat.reduceEqDiff, Nat.reduceAdd, Nat.reduceLT, reduceCtorEq, Int.toNat_natCast]) <;> simp) (by simp [injR, apart]) (by simp [coverR, usH]) (by simp [hNm, lkR, names])) ?_
  rintro i ⟨hi, halli⟩
  refine vc_sound _ _ _ ?_; simp only [go_sem, hG, hOw, reduceIte, Nat.reduceLeDiff, Nat.le_refl, Nat.reduceEqDiff, Nat.reduceAdd, Nat.reduceLT, reduceCtorEq, Int.toNat_natCast]
  (repeat' (first | (with_reducible refine And.intro ?_ ?_) | (with_reducible intro _) | (with_reducible refine exP ?_ ?_))); all_goals (try omega)
  · rename_i hlt2
    have hil : i < x.lines.length := by omega
    obtain ⟨hr1, hr2⟩ := hx2 _ (List.getElem_mem hil)
    refine call_pure (within05_ok x.lines[i].length 1 10) (by first | exact Subs.refl _ | (repeat' (first | exact Subs.nil | exact Sub.refl _ | exact Sub.lo (Nat.zero_le _) | refine Subs.cons ?_ ?_ | refine Subs.agg ?_ | refine Subs.fp ?_ | refine Subs.tup ?_ | refine Sub.map (Nat.zero_le _) (fun _ => ?_)))) (by first | rfl | simp [allP, all0, pureV, pure0, *]) (by simp [chk, hG]) ?_
    simp only [go_sem, hG, hOw, reduceIte, Nat.reduceLeDiff, Nat.le_refl, Nat.reduceEqDiff, Nat.reduceAdd, Nat.reduceLT, reduceCtorEq, Int.toNat_natCast]
    (repeat' (first | (with_reducible refine And.intro ?_ ?_) | (with_reducible intro _) | (with_reducible refine exP ?_ ?_))); all_goals (try omega)
    · rename_i h5
      exact badi i hil (by unfold lineB; rw [h5]; rfl) _ (by simp [go_sem])
    · rename_i h5
      refine semC_loop (fun w : Nat => St.of [(1, .ptr 1 0), (6, i64 (linesL r.text).length), (7, i64 m), (9, .ptr 9 0), (10, i64 i), (11, i64 w)] [(1, .box (roC 0 r)), (9, .box (seE 0 x))]) (fun w => w ≤ x.lines[i].length ∧ (x.lines[i].take w).all wordB = true) (fun w => x.lines[i].length - w) 0 (by simp) (ent_of [(1, some 1), (9, some 9)] (by (simp only [go_sem, reduceIte, Nat.reduceLeDiff, Nat.le_refl, Nat.reduceEqDiff, Nat.reduceAdd, Nat.reduceLT, reduceCtorEq, Int.toNat_natCast]) <;> simp) (by (simp only [go_sem, entH, entH1, nilArr, obOK, reduceIte, Nat.reduceLeDiff, Nat.le_refl, Nat.reduceEqDiff, Nat.reduceAdd, Nat.reduceLT, reduceCtorEq, Int.toNat_natCast]) <;> simp) (by simp [injR, apart]) (by simp [coverR, usH]) (by simp [hNm, lkR, names])) ?_
      rintro w ⟨hw, hallw⟩
      refine vc_sound _ _ _ ?_; simp only [go_sem, hG, hOw, reduceIte, Nat.reduceLeDiff, Nat.le_refl, Nat.reduceEqDiff, Nat.reduceAdd, Nat.reduceLT, reduceCtorEq, Int.toNat_natCast]
      (repeat' (first | (with_reducible refine And.intro ?_ ?_) | (with_reducible intro _) | (with_reducible refine exP ?_ ?_))); all_goals (try omega)
      · rename_i hlt3
        have hwl : w < x.lines[i].length := by omega
        refine call_pure (Word_ok x.lines[i][w] (by have := hr2 _ (List.getElem_mem hwl); omega)) (by first | exact Subs.refl _ | (repeat' (first | exact Subs.nil | exact Sub.refl _ | exact Sub.lo (Nat.zero_le _) | refine Subs.cons ?_ ?_ | refine Subs.agg ?_ | refine Subs.fp ?_ | refine Subs.tup ?_ | refine Sub.map (Nat.zero_le _) (fun _ => ?_)))) (by first | rfl | simp [allP, all0, pureV, pure0, *]) (by simp [chk, hG]) ?_
        simp only [go_sem, hG, hOw, reduceIte, Nat.reduceLeDiff, Nat.le_refl, Nat.reduceEqDiff, Nat.reduceAdd, Nat.reduceLT, reduceCtorEq, Int.toNat_natCast]
        (repeat' (first | (with_reducible refine And.intro ?_ ?_) | (with_reducible intro _) | (with_reducible refine exP ?_ ?_))); all_goals (try omega)
        · rename_i h6
          exact badi i hil (by unfold lineB; rw [all_false hwl h6, Bool.and_false]) _ (by simp [go_sem])
        · rename_i h6
          exact ⟨w + 1, ⟨by omega, all_take_succ hwl hallw h6⟩, by omega, ent_of [(1, some 1), (9, some 9)] (by (simp only [go_sem, reduceIte, Nat.reduceLeDiff, Nat.le_refl, Nat.reduceEqDiff, Nat.reduceAdd, Nat.reduceLT, reduceCtorEq, Int.toNat_natCast]) <;> simp) (by (simp only [go_sem, entH, entH1, nilArr, obOK, reduceIte, Nat.reduceLeDiff, Nat.le_refl, Nat.reduceEqDiff, Nat.reduceAdd, Nat.reduceLT, reduceCtorEq, Int.toNat_natCast]) <;> simp) (by simp [injR, apart]) (by simp [coverR, usH]) (by simp [hNm, lkR, names])⟩
      · rename_i hge3
        rw [take_full hw hge3] at hallw
        exact ⟨i + 1, ⟨by omega, all_take_succ hil halli (by unfold lineB; rw [h5, hallw]; rfl)⟩, by omega, ent_of [(1, some 1), (9, some 9)] (by (simp only [go_sem, reduceIte, Nat.reduceLeDiff, Nat.le_refl, Nat.reduceEqDiff, Nat.reduceAdd, Nat.reduceLT, reduceCtorEq, Int.toNat_natCast]) <;> simp) (by (simp only [go_sem, entH, entH1, nilArr, obOK, reduceIte, Nat.reduceLeDiff, Nat.le_refl, Nat.reduceEqDiff, Nat.reduceAdd, Nat.reduceLT, reduceCtorEq, Int.toNat_natCast]) <;> simp) (by simp [injR, apart]) (by simp [coverR, usH]) (by simp [hNm, lkR, names])⟩
  · rename_i hge2
    rw [take_full hi hge2] at halli
    exact ⟨(), halli, ent_of [(1, some 1)] (by (simp only [go_sem, reduceIte, Nat.reduceLeDiff, Nat.le_refl, Nat.reduceEqDiff, Nat.reduceAdd, Nat.reduceLT, reduceCtorEq, Int.toNat_natCast]) <;> simp) (by (simp only [go_sem, entH, entH1, nilArr, obOK, reduceIte, Nat.reduceLeDiff, Nat.le_refl, Nat.reduceEqDiff, Nat.reduceAdd, Nat.reduceLT, reduceCtorEq, Int.toNat_natCast]) <;> simp) (by simp [injR, apart]) (by simp [coverR, usH]) (by simp [hNm, lkR, names])⟩
end Go.Proofs.Ytgeldamcekjdgaa
