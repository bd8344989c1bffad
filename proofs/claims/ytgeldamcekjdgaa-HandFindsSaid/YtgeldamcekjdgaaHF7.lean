/- The program: the parts that are to be written again; Torn, Differ, Again. -/
import Derived.Test.YtgeldamcekjdgaaHF2
import Derived.Test.YtgeldamcekjdgaaHF3
namespace Go.Proofs.Ytgeldamcekjdgaa
open Go Pm
set_option linter.unusedSimpArgs false
set_option linter.unusedVariables false
set_option maxHeartbeats 4000000
set_option maxRecDepth 100000
theorem Subs.fn {f : Fn} {l l' : List V} (h : Subs l l') : Sub (.fn f l) (.fn f l') := by
  intro w O y hy
  cases hy with
  | fn _ _ ys hn hr =>
    obtain ⟨h1, h2⟩ := h.spec
    refine .fn _ _ ys (by omega) fun j u y h3 h4 => ?_
    obtain ⟨u0, h5, h6⟩ := h2 j u h3
    exact h6 _ _ _ (hr j u0 y h5 h4)
theorem bfold_mem (c : List Int → Int) (v : List Int → Bool) (n : Nat) : (bfold c v ([], -1) [] n).1 = [] ∨ ((bfold c v ([], -1) [] n).1.length = n ∧ ∀ a ∈ (bfold c v ([], -1) [] n).1, a = 0 ∨ a = 1) := by
  have mem : ∀ {n : Nat} {y : List Int}, y ∈ comps n → y.length = n ∧ ∀ a ∈ y, a = 0 ∨ a = 1 := by
    intro n
    induction n with
    | zero => intro y h; simp [comps] at h; subst h; simp
    | succ n ih =>
      intro y h
      simp only [comps, List.mem_append, List.mem_map] at h
      rcases h with ⟨z, hz, rfl⟩ | ⟨z, hz, rfl⟩ <;> (obtain ⟨h1, h2⟩ := ih hz; refine ⟨by simp [h1], fun a ha => ?_⟩; rcases List.mem_cons.1 ha with rfl | ha)
      · exact .inl rfl
      · exact h2 a ha
      · exact .inr rfl
      · exact h2 a ha
  have gen : ∀ (L : List (List Int)) (a : List Int × Int), (∀ y ∈ L, y.length = n ∧ ∀ a ∈ y, a = 0 ∨ a = 1) → (a.1 = [] ∨ (a.1.length = n ∧ ∀ x ∈ a.1, x = 0 ∨ x = 1)) → ((L.foldl (bstep c v) a).1 = [] ∨ ((L.foldl (bstep c v) a).1.length = n ∧ ∀ x ∈ (L.foldl (bstep c v) a).1, x = 0 ∨ x = 1)) := by
    intro L
    induction L with
    | nil => intro a _ h; exact h
    | cons y r ih =>
      intro a hL ha
      refine ih _ (fun z hz => hL z (by simp [hz])) ?_
      unfold bstep
      split
      · exact .inr (hL y (by simp))
      · exact ha
  unfold bfold
  refine gen _ _ (fun y hy => ?_) (.inl rfl)
  obtain ⟨z, hz, rfl⟩ := List.mem_map.1 hy
  simpa using mem hz
/-- the least list, as the program finds it -/
def bestI (r : Ro) : List Int := (bfold costI (okB (numsL (tornI r) r.shares.length) (prsL (differI r) (r.shares.length - 1))) ([], -1) [] r.shares.length).1
theorem bestI_len (r : Ro) (h : r.shares.length ≤ 8) : (bestI r).length ≤ 8 := by
  rcases bfold_mem costI (okB (numsL (tornI r) r.shares.length) (prsL (differI r) (r.shares.length - 1))) r.shares.length with h1 | ⟨h1, _⟩ <;> (unfold bestI; rw [h1])
  · simp
  · exact h
theorem hagain_ok (r : Ro) (hr : Good r) : Gives Try.prog 48 [.fp (dkC 0 r)] (fun n => ints n (numsL (fun i => decide (getI (bestI r) i = 0)) (bestI r).length)) := by
  have hsn := hr.sn
  have hbl := bestI_len r hsn
  have hT : ∀ i ∈ numsL (tornI r) r.shares.length, 0 ≤ i ∧ i < r.shares.length := fun i hi => by
    unfold numsL at hi
    obtain ⟨j, hj, rfl⟩ := List.mem_map.1 hi
    have := List.mem_range.1 (List.mem_filter.1 hj).1
    simp; omega
  have hDl := prsL_le (differI r) (r.shares.length - 1)
  have hD : ∀ p ∈ prsL (differI r) (r.shares.length - 1), (0 ≤ p.1 ∧ p.1 < r.shares.length) ∧ 0 ≤ p.2 ∧ p.2 < r.shares.length := fun p hp => by
    unfold prsL at hp
    obtain ⟨j, hj, rfl⟩ := List.mem_map.1 hp
    have := List.mem_range.1 (List.mem_filter.1 hj).1
    simp; omega
  have hB1 := best_ok r.shares.length (by omega) 65 [.fp [ints 0 (numsL (tornI r) r.shares.length)], .fp [prs 0 (prsL (differI r) (r.shares.length - 1))]] rfl rfl costI (okB (numsL (tornI r) r.shares.length) (prsL (differI r) (r.shares.length - 1))) (fun y hy h01 => again1_ok _ _ (by omega) y (by omega) h01 (by rw [hy]; exact hT) (by rw [hy]; exact hD))
  rw [show (bfold costI (okB (numsL (tornI r) r.shares.length) (prsL (differI r) (r.shares.length - 1))) ([], -1) [] r.shares.length).1 = bestI r from rfl] at hB1
  refine pure_intro (ow := fun _ => false) Try.func48 Try.ntmps48 rfl (by kernel_rfl) (by simp) rfl (by decide) fun G hG hOw hNm hB => ?_
  simp only [go_sem, hG, hOw, reduceIte, Nat.reduceLeDiff, Nat.le_refl, Nat.reduceEqDiff, Nat.reduceAdd, Nat.reduceLT, reduceCtorEq, Int.toNat_natCast]
  refine call_pure (allTorn_ok r hr) (by first | exact Subs.refl _ | (repeat' (first | exact Subs.nil | exact Sub.refl _ | exact Sub.lo (Nat.zero_le _) | refine Subs.cons ?_ ?_ | refine Subs.agg ?_ | refine Subs.fp ?_ | refine Subs.tup ?_ | refine Sub.map (Nat.zero_le _) (fun _ => ?_)))) (by first | rfl | simp [allP, all0, pureV, pure0, *]) (by simp [chk, hG]) ?_
  simp only [go_sem, hG, hOw, reduceIte, Nat.reduceLeDiff, Nat.le_refl, Nat.reduceEqDiff, Nat.reduceAdd, Nat.reduceLT, reduceCtorEq, Int.toNat_natCast]
  refine call_pure (hdiffer_ok r hr) (by first | exact Subs.refl _ | (repeat' (first | exact Subs.nil | exact Sub.refl _ | exact Sub.lo (Nat.zero_le _) | refine Subs.cons ?_ ?_ | refine Subs.agg ?_ | refine Subs.fp ?_ | refine Subs.tup ?_ | refine Sub.map (Nat.zero_le _) (fun _ => ?_)))) (by first | rfl | simp [allP, all0, pureV, pure0, *]) (by simp [chk, hG]) ?_
  simp only [go_sem, hG, hOw, reduceIte, Nat.reduceLeDiff, Nat.le_refl, Nat.reduceEqDiff, Nat.reduceAdd, Nat.reduceLT, reduceCtorEq, Int.toNat_natCast]
  refine call_pure (lists_ok r.shares.length) (by first | exact Subs.refl _ | (repeat' (first | exact Subs.nil | exact Sub.refl _ | exact Sub.lo (Nat.zero_le _) | refine Subs.cons ?_ ?_ | refine Subs.agg ?_ | refine Subs.fp ?_ | refine Subs.tup ?_ | refine Sub.map (Nat.zero_le _) (fun _ => ?_)))) (by first | rfl | simp [allP, all0, pureV, pure0, *]) (by simp [chk, hG]) ?_
  simp only [go_sem, hG, hOw, reduceIte, Nat.reduceLeDiff, Nat.le_refl, Nat.reduceEqDiff, Nat.reduceAdd, Nat.reduceLT, reduceCtorEq, Int.toNat_natCast]
  refine call_frz (fun i => [3, 4].contains i) ?_
  simp only [go_sem, hG, hOw, reduceIte, Nat.reduceLeDiff, Nat.le_refl, Nat.reduceEqDiff, Nat.reduceAdd, Nat.reduceLT, reduceCtorEq, Int.toNat_natCast]
  refine call_pure hB1 (.cons (.refl _) (.cons (Subs.fn (.cons (Subs.fp (.cons (Sub.lo (Nat.zero_le _)) .nil)) (.cons (Subs.fp (.cons (Sub.lo (Nat.zero_le _)) .nil)) .nil))) .nil)) (by first | rfl | simp [allP, all0, pureV, pure0]) (by simp [chk, hG]) ?_
  simp only [go_sem, hG, hOw, reduceIte, Nat.reduceLeDiff, Nat.le_refl, Nat.reduceEqDiff, Nat.reduceAdd, Nat.reduceLT, reduceCtorEq, Int.toNat_natCast]
  (repeat' (first | (with_reducible refine And.intro ?_ ?_) | (with_reducible intro _) | (with_reducible refine exP ?_ ?_))); all_goals (try omega)
  refine semC_loop (fun k : Nat => St.of [(6, .own 9 0 (numsL (fun i => decide (getI (bestI r) i = 0)) k).length 1), (22, ints 0 (bestI r)), (23, i64 (bestI r).length), (24, i64 k)] [(9, .arr 3 1 ((numsL (fun i => decide (getI (bestI r) i = 0)) k).map intE))]) (fun k => k ≤ (bestI r).length) (fun k => (bestI r).length - k) 0 (by simp) (ent_of [(9, none)] (by (simp only [go_sem, reduceIte, Nat.reduceLeDiff, Nat.le_refl, Nat.reduceEqDiff, Nat.reduceAdd, Nat.reduceLT, reduceCtorEq, Int.toNat_natCast]) <;> simp [numsL]) (by (simp only [go_sem, entH, entH1, nilArr, obOK, reduceIte, Nat.reduceLeDiff, Nat.le_refl, Nat.reduceEqDiff, Nat.reduceAdd, Nat.reduceLT, reduceCtorEq, Int.toNat_natCast]) <;> simp [numsL]) (by simp [injR, apart]) (by simp [coverR, usH]) (by simp [hNm, lkR, names])) ?_
  rintro k hk
  have hle := numsL_le (fun i => decide (getI (bestI r) i = 0)) k
  have e1 := numsL_succ (fun i => decide (getI (bestI r) i = 0)) k
  refine vc_sound _ _ _ ?_
  simp only [go_sem, hG, hOw, reduceIte, Nat.reduceLeDiff, Nat.le_refl, Nat.reduceEqDiff, Nat.reduceAdd, Nat.reduceLT, reduceCtorEq, Int.toNat_natCast]
  (repeat' (first | (with_reducible refine And.intro ?_ ?_) | (with_reducible intro _) | (with_reducible refine exP ?_ ?_))); all_goals (try omega)
  · rename_i hlt h2
    have hkl : k < (bestI r).length := by omega
    rw [if_pos (by rw [getI_at hkl]; simpa using h2)] at e1
    refine ⟨k + 1, by omega, by omega, ?_⟩
    rw [e1]
    exact ent_of [(9, some 34)] (by (simp only [go_sem, reduceIte, Nat.reduceLeDiff, Nat.le_refl, Nat.reduceEqDiff, Nat.reduceAdd, Nat.reduceLT, reduceCtorEq, Int.toNat_natCast]) <;> simp [intE,i64]) (by (simp only [go_sem, entH, entH1, nilArr, obOK, reduceIte, Nat.reduceLeDiff, Nat.le_refl, Nat.reduceEqDiff, Nat.reduceAdd, Nat.reduceLT, reduceCtorEq, Int.toNat_natCast]) <;> simp [intE,i64]) (by simp [injR, apart]) (by simp [coverR, usH]) (by simp [hNm, lkR, names])
  · rename_i hlt h2
    have hkl : k < (bestI r).length := by omega
    rw [if_neg (by rw [getI_at hkl]; simpa using h2)] at e1
    refine ⟨k + 1, by omega, by omega, ?_⟩
    rw [e1]
    exact ent_of [(9, some 9)] (by (simp only [go_sem, reduceIte, Nat.reduceLeDiff, Nat.le_refl, Nat.reduceEqDiff, Nat.reduceAdd, Nat.reduceLT, reduceCtorEq, Int.toNat_natCast]) <;> simp) (by (simp only [go_sem, entH, entH1, nilArr, obOK, reduceIte, Nat.reduceLeDiff, Nat.le_refl, Nat.reduceEqDiff, Nat.reduceAdd, Nat.reduceLT, reduceCtorEq, Int.toNat_natCast]) <;> simp) (by simp [injR, apart]) (by simp [coverR, usH]) (by simp [hNm, lkR, names])
  · rename_i hge
    rw [show k = (bestI r).length by omega]
    exact .refl _
/-- the parts that are to be written again, as the program finds them -/
def againP (r : Ro) : List Int := if roundE r = 0 then numsL (fun i => decide (getI (bestI r) i = 0)) (bestI r).length else []
theorem HTorn_ok (r : Ro) (hr : OKr r) : Gives Try.prog 18 [roE 0 r] (fun n => .tup [ints n (tornL r), i64 (roundE r)]) := by
  refine pure_intro (ow := fun _ => false) Try.func18 Try.ntmps18 rfl (by kernel_rfl) (by simp) rfl (by decide) fun G hG hOw hNm hB => ?_
  simp only [go_sem, hG, hOw, reduceIte, Nat.reduceLeDiff, Nat.le_refl, Nat.reduceEqDiff, Nat.reduceAdd, Nat.reduceLT, reduceCtorEq, Int.toNat_natCast]
  by_cases he : roundE r = 0
  · refine call_pure (open_good r hr he) (by first | exact Subs.refl _ | (repeat' (first | exact Subs.nil | exact Sub.refl _ | exact Sub.lo (Nat.zero_le _) | refine Subs.cons ?_ ?_ | refine Subs.agg ?_ | refine Subs.fp ?_ | refine Subs.tup ?_ | refine Sub.map (Nat.zero_le _) (fun _ => ?_)))) (by first | rfl | simp [allP, all0, pureV, pure0, *]) (by simp [chk, hG]) ?_
    simp only [go_sem, hG, hOw, reduceIte, Nat.reduceLeDiff, Nat.le_refl, Nat.reduceEqDiff, Nat.reduceAdd, Nat.reduceLT, reduceCtorEq, Int.toNat_natCast]
    (repeat' (first | (with_reducible refine And.intro ?_ ?_) | (with_reducible intro _) | (with_reducible refine exP ?_ ?_))); all_goals (try omega)
    refine call_pure (allTorn_ok r (good_of hr he)) (by first | exact Subs.refl _ | (repeat' (first | exact Subs.nil | exact Sub.refl _ | exact Sub.lo (Nat.zero_le _) | refine Subs.cons ?_ ?_ | refine Subs.agg ?_ | refine Subs.fp ?_ | refine Subs.tup ?_ | refine Sub.map (Nat.zero_le _) (fun _ => ?_)))) (by first | rfl | simp [allP, all0, pureV, pure0, *]) (by simp [chk, hG]) ?_
    simp only [go_sem, hG, hOw, reduceIte, Nat.reduceLeDiff, Nat.le_refl, Nat.reduceEqDiff, Nat.reduceAdd, Nat.reduceLT, reduceCtorEq, Int.toNat_natCast]
    rw [he, show tornL r = numsL (tornI r) r.shares.length by simp [tornL, he]]
    exact .refl _
  · refine call_pure (open_bad r hr he) (by first | exact Subs.refl _ | (repeat' (first | exact Subs.nil | exact Sub.refl _ | exact Sub.lo (Nat.zero_le _) | refine Subs.cons ?_ ?_ | refine Subs.agg ?_ | refine Subs.fp ?_ | refine Subs.tup ?_ | refine Sub.map (Nat.zero_le _) (fun _ => ?_)))) (by first | rfl | simp [allP, all0, pureV, pure0, *]) (by simp [chk, hG]) ?_
    simp only [go_sem, hG, hOw, reduceIte, Nat.reduceLeDiff, Nat.le_refl, Nat.reduceEqDiff, Nat.reduceAdd, Nat.reduceLT, reduceCtorEq, Int.toNat_natCast]
    (repeat' (first | (with_reducible refine And.intro ?_ ?_) | (with_reducible intro _) | (with_reducible refine exP ?_ ?_))); all_goals (try omega)
    rw [show tornL r = [] by simp [tornL, he]]
    exact Subs.tup (.cons (.nil _ _) (.cons (.refl _) .nil))
theorem HDiffer_ok (r : Ro) (hr : OKr r) : Gives Try.prog 20 [roE 0 r] (fun n => .tup [prs n (differL r), i64 (roundE r)]) := by
  refine pure_intro (ow := fun _ => false) Try.func20 Try.ntmps20 rfl (by kernel_rfl) (by simp) rfl (by decide) fun G hG hOw hNm hB => ?_
  simp only [go_sem, hG, hOw, reduceIte, Nat.reduceLeDiff, Nat.le_refl, Nat.reduceEqDiff, Nat.reduceAdd, Nat.reduceLT, reduceCtorEq, Int.toNat_natCast]
  by_cases he : roundE r = 0
  · refine call_pure (open_good r hr he) (by first | exact Subs.refl _ | (repeat' (first | exact Subs.nil | exact Sub.refl _ | exact Sub.lo (Nat.zero_le _) | refine Subs.cons ?_ ?_ | refine Subs.agg ?_ | refine Subs.fp ?_ | refine Subs.tup ?_ | refine Sub.map (Nat.zero_le _) (fun _ => ?_)))) (by first | rfl | simp [allP, all0, pureV, pure0, *]) (by simp [chk, hG]) ?_
    simp only [go_sem, hG, hOw, reduceIte, Nat.reduceLeDiff, Nat.le_refl, Nat.reduceEqDiff, Nat.reduceAdd, Nat.reduceLT, reduceCtorEq, Int.toNat_natCast]
    (repeat' (first | (with_reducible refine And.intro ?_ ?_) | (with_reducible intro _) | (with_reducible refine exP ?_ ?_))); all_goals (try omega)
    refine call_pure (hdiffer_ok r (good_of hr he)) (by first | exact Subs.refl _ | (repeat' (first | exact Subs.nil | exact Sub.refl _ | exact Sub.lo (Nat.zero_le _) | refine Subs.cons ?_ ?_ | refine Subs.agg ?_ | refine Subs.fp ?_ | refine Subs.tup ?_ | refine Sub.map (Nat.zero_le _) (fun _ => ?_)))) (by first | rfl | simp [allP, all0, pureV, pure0, *]) (by simp [chk, hG]) ?_
    simp only [go_sem, hG, hOw, reduceIte, Nat.reduceLeDiff, Nat.le_refl, Nat.reduceEqDiff, Nat.reduceAdd, Nat.reduceLT, reduceCtorEq, Int.toNat_natCast]
    rw [he, show differL r = prsL (differI r) (r.shares.length - 1) by simp [differL, he]]
    exact .refl _
  · refine call_pure (open_bad r hr he) (by first | exact Subs.refl _ | (repeat' (first | exact Subs.nil | exact Sub.refl _ | exact Sub.lo (Nat.zero_le _) | refine Subs.cons ?_ ?_ | refine Subs.agg ?_ | refine Subs.fp ?_ | refine Subs.tup ?_ | refine Sub.map (Nat.zero_le _) (fun _ => ?_)))) (by first | rfl | simp [allP, all0, pureV, pure0, *]) (by simp [chk, hG]) ?_
    simp only [go_sem, hG, hOw, reduceIte, Nat.reduceLeDiff, Nat.le_refl, Nat.reduceEqDiff, Nat.reduceAdd, Nat.reduceLT, reduceCtorEq, Int.toNat_natCast]
    (repeat' (first | (with_reducible refine And.intro ?_ ?_) | (with_reducible intro _) | (with_reducible refine exP ?_ ?_))); all_goals (try omega)
    rw [show differL r = [] by simp [differL, he]]
    exact Subs.tup (.cons (.nil _ _) (.cons (.refl _) .nil))
theorem HAgain_ok (r : Ro) (hr : OKr r) : Gives Try.prog 23 [roE 0 r] (fun n => .tup [ints n (againP r), i64 (roundE r)]) := by
  refine pure_intro (ow := fun _ => false) Try.func23 Try.ntmps23 rfl (by kernel_rfl) (by simp) rfl (by decide) fun G hG hOw hNm hB => ?_
  simp only [go_sem, hG, hOw, reduceIte, Nat.reduceLeDiff, Nat.le_refl, Nat.reduceEqDiff, Nat.reduceAdd, Nat.reduceLT, reduceCtorEq, Int.toNat_natCast]
  by_cases he : roundE r = 0
  · refine call_pure (open_good r hr he) (by first | exact Subs.refl _ | (repeat' (first | exact Subs.nil | exact Sub.refl _ | exact Sub.lo (Nat.zero_le _) | refine Subs.cons ?_ ?_ | refine Subs.agg ?_ | refine Subs.fp ?_ | refine Subs.tup ?_ | refine Sub.map (Nat.zero_le _) (fun _ => ?_)))) (by first | rfl | simp [allP, all0, pureV, pure0, *]) (by simp [chk, hG]) ?_
    simp only [go_sem, hG, hOw, reduceIte, Nat.reduceLeDiff, Nat.le_refl, Nat.reduceEqDiff, Nat.reduceAdd, Nat.reduceLT, reduceCtorEq, Int.toNat_natCast]
    (repeat' (first | (with_reducible refine And.intro ?_ ?_) | (with_reducible intro _) | (with_reducible refine exP ?_ ?_))); all_goals (try omega)
    refine call_pure (hagain_ok r (good_of hr he)) (by first | exact Subs.refl _ | (repeat' (first | exact Subs.nil | exact Sub.refl _ | exact Sub.lo (Nat.zero_le _) | refine Subs.cons ?_ ?_ | refine Subs.agg ?_ | refine Subs.fp ?_ | refine Subs.tup ?_ | refine Sub.map (Nat.zero_le _) (fun _ => ?_)))) (by first | rfl | simp [allP, all0, pureV, pure0, *]) (by simp [chk, hG]) ?_
    simp only [go_sem, hG, hOw, reduceIte, Nat.reduceLeDiff, Nat.le_refl, Nat.reduceEqDiff, Nat.reduceAdd, Nat.reduceLT, reduceCtorEq, Int.toNat_natCast]
    rw [he, show againP r = numsL (fun i => decide (getI (bestI r) i = 0)) (bestI r).length by simp [againP, he]]
    exact .refl _
  · refine call_pure (open_bad r hr he) (by first | exact Subs.refl _ | (repeat' (first | exact Subs.nil | exact Sub.refl _ | exact Sub.lo (Nat.zero_le _) | refine Subs.cons ?_ ?_ | refine Subs.agg ?_ | refine Subs.fp ?_ | refine Subs.tup ?_ | refine Sub.map (Nat.zero_le _) (fun _ => ?_)))) (by first | rfl | simp [allP, all0, pureV, pure0, *]) (by simp [chk, hG]) ?_
    simp only [go_sem, hG, hOw, reduceIte, Nat.reduceLeDiff, Nat.le_refl, Nat.reduceEqDiff, Nat.reduceAdd, Nat.reduceLT, reduceCtorEq, Int.toNat_natCast]
    (repeat' (first | (with_reducible refine And.intro ?_ ?_) | (with_reducible intro _) | (with_reducible refine exP ?_ ?_))); all_goals (try omega)
    rw [show againP r = [] by simp [againP, he]]
    exact Subs.tup (.cons (.nil _ _) (.cons (.refl _) .nil))
end Go.Proofs.Ytgeldamcekjdgaa
