/- The program: gaps. -/
import Derived.Test.YtgeldamcekjdgaaHB7
namespace Go.Proofs.Ytgeldamcekjdgaa
open Go Pm
set_option linter.unusedSimpArgs false
set_option linter.unusedVariables false
set_option maxHeartbeats 4000000
set_option maxRecDepth 100000
theorem sent_ok (r : Ro) (i : Nat) (hi : i ≤ 140737488355328) : Gives Try.prog 36 [.fp (dkC 0 r), i64 i] (fun _ => bl (decide ((i : Int) < r.shares.length))) := by
  refine pure_intro (ow := fun _ => false) Try.func36 Try.ntmps36 rfl (by kernel_rfl) (by simp) rfl (by decide) fun G hG hOw hNm hB => ?_
  simp only [go_sem, hG, hOw, reduceIte, Nat.reduceLeDiff, Nat.le_refl, Nat.reduceEqDiff, Nat.reduceAdd, Nat.reduceLT, reduceCtorEq, Int.toNat_natCast]
theorem left_has (r : Ro) (n : Nat) (hn : n < (linesL r.text).length) (p : Nat → Bool) (hp : ∀ i, i < r.shares.length → p i = true) : ((leftL (linesL r.text).length r.shares p r.shares.length).any fun x => decide (x = (n : Int))) = !hasI r n := by
  rw [Bool.eq_iff_iff]
  rw [List.any_eq_true]
  simp only [decide_eq_true_eq, exists_eq_right, hasI, Bool.not_eq_true', List.any_eq_false, inB, Bool.and_eq_true]
  rw [mem_leftL _ _ _ _ _ (Nat.le_refl _)]
  constructor
  · rintro ⟨_, h⟩ s hs
    obtain ⟨j, hj, rfl⟩ := List.getElem_of_mem hs
    exact h j hj hj (hp j hj)
  · intro h
    exact ⟨by omega, fun j hj _ _ => h _ (List.getElem_mem hj)⟩
theorem ren_ids {f : Value × V → Value × V} (l : List Int) (hf : ∀ n, f (.int .i64 n, .v (.bool true)) = (.int .i64 n, .v (.bool true))) : (idsM l).map f = idsM l := by
  induction l with
  | nil => rfl
  | cons x r ih => simp only [idsM, List.map_cons] at ih ⊢; rw [hf, ih]
attribute [go_sem] ren_ids
theorem HGaps_ok (r : Ro) (hr : OKr r) : Gives Try.prog 9 [roE 0 r] (fun n => .tup [ints n (gapsL r), i64 (roundE r)]) := by
  refine pure_intro (ow := fun _ => false) Try.func9 Try.ntmps9 rfl (by kernel_rfl) (by simp) rfl (by decide) fun G hG hOw hNm hB => ?_
  simp only [go_sem, hG, hOw, reduceIte, Nat.reduceLeDiff, Nat.le_refl, Nat.reduceEqDiff, Nat.reduceAdd, Nat.reduceLT, reduceCtorEq, Int.toNat_natCast]
  by_cases he : roundE r = 0
  · have hg := good_of hr he
    have hsn := hg.sn
    have hll := hg.ll
    rw [show gapsL r = numsL (fun n => !hasI r n) (linesL r.text).length by simp [gapsL, he], he]
    refine call_pure (open_good r hr he) (by first | exact Subs.refl _ | (repeat' (first | exact Subs.nil | exact Sub.refl _ | exact Sub.lo (Nat.zero_le _) | refine Subs.cons ?_ ?_ | refine Subs.agg ?_ | refine Subs.fp ?_ | refine Subs.tup ?_ | refine Sub.map (Nat.zero_le _) (fun _ => ?_)))) (by first | rfl | simp [allP, all0, pureV, pure0, *]) (by simp [chk, hG]) ?_
    simp only [go_sem, hG, hOw, reduceIte, Nat.reduceLeDiff, Nat.le_refl, Nat.reduceEqDiff, Nat.reduceAdd, Nat.reduceLT, reduceCtorEq, Int.toNat_natCast]
    have hU := uncovered_ok r hg (bndF 36) [.fp (dkC 0 r)] rfl (fun i => decide ((i : Int) < r.shares.length)) (fun i hi G o s Q rest hc h => call_bnd (sent_ok r i (by omega)) (Subs.refl _) rfl hc h)
    have hS : Pm.Sub (.fp (dkC G.lo r)) (.fp (dkC 0 r)) := by first | exact Subs.refl _ | (repeat' (first | exact Subs.nil | exact Sub.refl _ | exact Sub.lo (Nat.zero_le _) | refine Subs.cons ?_ ?_ | refine Subs.agg ?_ | refine Subs.fp ?_ | refine Subs.tup ?_ | refine Sub.map (Nat.zero_le _) (fun _ => ?_)))
    simp only [go_sem] at hS
    have hLL := fun n hn => left_has r n hn (fun i => decide ((i : Int) < r.shares.length)) (fun i hi => by simp; omega)
    refine call_tri [] [(0, 80)] (hU) (by (simp only [go_sem, reduceIte, Nat.reduceLeDiff, Nat.le_refl, Nat.reduceEqDiff, Nat.reduceAdd, Nat.reduceLT, reduceCtorEq, Int.toNat_natCast]) <;> simp [hS]) (by (simp only [go_sem, entH, entH1, nilArr, obOK, reduceIte, Nat.reduceLeDiff, Nat.le_refl, Nat.reduceEqDiff, Nat.reduceAdd, Nat.reduceLT, reduceCtorEq, Int.toNat_natCast]) <;> simp [hS]) (by simp [injR, apart, toR]) (by simp [coverR, usH, toR, hS]) (by simp [uniqP, lkR, toR]) (by simp [chk, hG]) ?_
    generalize leftL (linesL r.text).length r.shares (fun i => decide ((i : Int) < r.shares.length)) r.shares.length = LL at hLL
    simp only [go_sem, hG, hOw, reduceIte, Nat.reduceLeDiff, Nat.le_refl, Nat.reduceEqDiff, Nat.reduceAdd, Nat.reduceLT, reduceCtorEq, Int.toNat_natCast]
    refine semC_loop (fun k : Nat => St.of [(6, .mp 80), (7, .own 9 0 (numsL (fun n => !hasI r n) k).length 1), (25, i64 (linesL r.text).length), (26, i64 k)] [(80, .map (.int .i64) (idsM LL)), (9, .arr 3 1 ((numsL (fun n => !hasI r n) k).map intE))]) (fun k => k ≤ (linesL r.text).length) (fun k => (linesL r.text).length - k) 0 (by simp) (ent_of [(80, some 80), (9, none)] (by (simp only [go_sem, reduceIte, Nat.reduceLeDiff, Nat.le_refl, Nat.reduceEqDiff, Nat.reduceAdd, Nat.reduceLT, reduceCtorEq, Int.toNat_natCast]) <;> simp [numsL]) (by (simp only [go_sem, entH, entH1, nilArr, obOK, reduceIte, Nat.reduceLeDiff, Nat.le_refl, Nat.reduceEqDiff, Nat.reduceAdd, Nat.reduceLT, reduceCtorEq, Int.toNat_natCast]) <;> simp [numsL]) (by simp [injR, apart]) (by simp [coverR, usH]) (by simp [hNm, lkR, names])) ?_
    rintro k hk
    have hle := numsL_le (fun n => !hasI r n) k
    refine vc_sound _ _ _ ?_
    simp (config := { maxSteps := 2000000 }) only [go_sem, hG, hOw, lkM_ids, reduceIte, Nat.reduceLeDiff, Nat.le_refl, Nat.reduceEqDiff, Nat.reduceAdd, Nat.reduceLT, reduceCtorEq, Int.toNat_natCast]
    (repeat' (first | (with_reducible refine And.intro ?_ ?_) | (with_reducible intro _) | (with_reducible refine exP ?_ ?_))); all_goals (try omega)
    · rename_i hlt h2
      have hkl : k < (linesL r.text).length := by omega
      rw [hLL k hkl] at h2
      have e1 := numsL_succ (fun n => !hasI r n) k
      rw [if_pos h2] at e1
      refine ⟨k + 1, by omega, by omega, ?_⟩
      rw [e1]
      exact ent_of [(80, some 80), (9, some 35)] (by (simp only [go_sem, reduceIte, Nat.reduceLeDiff, Nat.le_refl, Nat.reduceEqDiff, Nat.reduceAdd, Nat.reduceLT, reduceCtorEq, Int.toNat_natCast]) <;> simp [intE,i64]) (by (simp only [go_sem, entH, entH1, nilArr, obOK, reduceIte, Nat.reduceLeDiff, Nat.le_refl, Nat.reduceEqDiff, Nat.reduceAdd, Nat.reduceLT, reduceCtorEq, Int.toNat_natCast]) <;> simp [intE,i64]) (by simp [injR, apart]) (by simp [coverR, usH]) (by simp [hNm, lkR, names])
    · rename_i hlt h2
      have hkl : k < (linesL r.text).length := by omega
      rw [hLL k hkl] at h2
      have e1 := numsL_succ (fun n => !hasI r n) k
      rw [if_neg (by rw [h2]; simp)] at e1
      refine ⟨k + 1, by omega, by omega, ?_⟩
      rw [e1]
      exact ent_of [(80, some 80), (9, some 9)] (by (simp only [go_sem, reduceIte, Nat.reduceLeDiff, Nat.le_refl, Nat.reduceEqDiff, Nat.reduceAdd, Nat.reduceLT, reduceCtorEq, Int.toNat_natCast]) <;> simp) (by (simp only [go_sem, entH, entH1, nilArr, obOK, reduceIte, Nat.reduceLeDiff, Nat.le_refl, Nat.reduceEqDiff, Nat.reduceAdd, Nat.reduceLT, reduceCtorEq, Int.toNat_natCast]) <;> simp) (by simp [injR, apart]) (by simp [coverR, usH]) (by simp [hNm, lkR, names])
    · rename_i hge
      rw [show k = (linesL r.text).length by omega]
      exact .refl _
  · refine call_pure (open_bad r hr he) (by first | exact Subs.refl _ | (repeat' (first | exact Subs.nil | exact Sub.refl _ | exact Sub.lo (Nat.zero_le _) | refine Subs.cons ?_ ?_ | refine Subs.agg ?_ | refine Subs.fp ?_ | refine Subs.tup ?_ | refine Sub.map (Nat.zero_le _) (fun _ => ?_)))) (by first | rfl | simp [allP, all0, pureV, pure0, *]) (by simp [chk, hG]) ?_
    simp only [go_sem, hG, hOw, reduceIte, Nat.reduceLeDiff, Nat.le_refl, Nat.reduceEqDiff, Nat.reduceAdd, Nat.reduceLT, reduceCtorEq, Int.toNat_natCast]
    (repeat' (first | (with_reducible refine And.intro ?_ ?_) | (with_reducible intro _) | (with_reducible refine exP ?_ ?_))); all_goals (try omega)
    rw [show gapsL r = [] by simp [gapsL, he]]
    exact Subs.tup (.cons (.nil _ _) (.cons (.refl _) .nil))
end Go.Proofs.Ytgeldamcekjdgaa
