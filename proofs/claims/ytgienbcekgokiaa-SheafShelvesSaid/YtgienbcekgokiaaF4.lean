/- The document's answers: shelves in new memory, generations. -/
import Derived.Test.YtgienbcekgokiaaF3
import Derived.Test.YtgienbcekgokiaaSp2
namespace Go.Proofs.Ytgienbcekgokiaa
open Go Pm
set_option linter.unusedSimpArgs false
set_option linter.unusedVariables false
set_option maxHeartbeats 4000000
set_option maxRecDepth 100000
theorem TwinShelf_own (s : Sh) (h1 : s.first.length ≤ 1000) (h2 : s.chg.length ≤ 1000) (h3 : ∀ c ∈ s.chg, c.put.length ≤ 1000) : Tri Try.prog 8 [shE 0 s] []
    (fun n => .ret (.agg [strs n s.first, .own 0 0 s.chg.length 3]) [(0, .arr 46 3 (s.chg.map (hkE n)))]) := by
  refine tri_intro (fun i => [9,32].contains i) Try.func8 Try.ntmps8 rfl (by kernel_rfl) (by simp) rfl (by decide) fun G hG hOw hNm => ?_
  simp only [go_sem, hG, hOw, reduceIte, Nat.reduceLeDiff, Nat.le_refl, Nat.reduceEqDiff, Nat.reduceAdd, Nat.reduceLT, reduceCtorEq, Int.toNat_natCast]
  refine ⟨(by first | omega | (simp; omega)), ?_⟩
  refine semC_cut (fun _ : Unit => St.of [(2, .ptr 2 0), (3, .ptr 3 0)] [(2, .box [.v (.slice none 0 0), .v (.slice none 0 0)]), (3, .box [strs G.lo s.first, .own 9 0 s.chg.length 3]), (9, .arr 46 3 (s.chg.map (hkE G.lo)))]) (fun _ => True) ?_ ?_
  · refine semC_loop (fun k : Nat => St.of [(1, .ptr 1 0), (2, .ptr 2 0), (3, .ptr 3 0), (4, i64 k)] [(1, .box [strs 0 s.first, hks 0 s.chg]), (2, .box [.v (.slice none 0 0), .v (.slice none 0 0)]), (3, .box [strs G.lo s.first, .own 9 0 k 3]), (9, .arr 46 3 ((s.chg.take k).map (hkE G.lo)))]) (fun k => k ≤ s.chg.length) (fun k => s.chg.length - k) 0 (by simp) (ent_of [(1, some 1), (2, some 2), (3, some 3), (9, none)] (by (simp only [go_sem, reduceIte, Nat.reduceLeDiff, Nat.le_refl, Nat.reduceEqDiff, Nat.reduceAdd, Nat.reduceLT, reduceCtorEq, Int.toNat_natCast]) <;> simp) (by (simp only [go_sem, entH, entH1, nilArr, obOK, reduceIte, Nat.reduceLeDiff, Nat.le_refl, Nat.reduceEqDiff, Nat.reduceAdd, Nat.reduceLT, reduceCtorEq, Int.toNat_natCast]) <;> simp) (by simp [injR, apart]) (by simp [coverR, usH]) (by simp [hNm, lkR, names])) ?_
    intro k hk
    refine vc_sound _ _ _ ?_; simp only [go_sem, hG, hOw, reduceIte, Nat.reduceLeDiff, Nat.le_refl, Nat.reduceEqDiff, Nat.reduceAdd, Nat.reduceLT, reduceCtorEq, Int.toNat_natCast]
    refine ⟨fun hlt => ⟨(by first | omega | (simp; omega)), ?_⟩, fun hge => ?_⟩
    · refine semC_draw0 mixed (by kernel_rfl) ?_
      simp only [go_sem, hG, hOw, reduceIte, Nat.reduceLeDiff, Nat.le_refl, Nat.reduceEqDiff, Nat.reduceAdd, Nat.reduceLT, reduceCtorEq, Int.toNat_natCast]
      have hkl : k < s.chg.length := by omega
      have hc := h3 _ (List.getElem_mem hkl)
      rw [Nat.min_eq_left hk]
      refine ⟨by omega, by omega, by omega, by omega, k + 1, by omega, by omega, ?_⟩
      rw [take_snoc_map _ _ _ hkl]
      exact ent_of [(1, some 1), (2, some 2), (3, some 3), (9, some 35)] (by (simp only [go_sem, reduceIte, Nat.reduceLeDiff, Nat.le_refl, Nat.reduceEqDiff, Nat.reduceAdd, Nat.reduceLT, reduceCtorEq, Int.toNat_natCast]) <;> simp) (by (simp only [go_sem, entH, entH1, nilArr, obOK, reduceIte, Nat.reduceLeDiff, Nat.le_refl, Nat.reduceEqDiff, Nat.reduceAdd, Nat.reduceLT, reduceCtorEq, Int.toNat_natCast]) <;> simp) (by simp [injR, apart]) (by simp [coverR, usH]) (by simp [hNm, lkR, names])
    · have e : k = s.chg.length := by omega
      subst e
      rw [List.take_length]
      exact ⟨(), ent_of [(2, some 2), (3, some 3), (9, some 9)] (by (simp only [go_sem, reduceIte, Nat.reduceLeDiff, Nat.le_refl, Nat.reduceEqDiff, Nat.reduceAdd, Nat.reduceLT, reduceCtorEq, Int.toNat_natCast]) <;> simp) (by (simp only [go_sem, entH, entH1, nilArr, obOK, reduceIte, Nat.reduceLeDiff, Nat.le_refl, Nat.reduceEqDiff, Nat.reduceAdd, Nat.reduceLT, reduceCtorEq, Int.toNat_natCast]) <;> simp) (by simp [injR, apart]) (by simp [coverR, usH]) (by simp [hNm, lkR, names])⟩
  · rintro ⟨⟩ -
    simp only [go_sem, hG, hOw, reduceIte, Nat.reduceLeDiff, Nat.le_refl, Nat.reduceEqDiff, Nat.reduceAdd, Nat.reduceLT, reduceCtorEq, Int.toNat_natCast]
    exact ⟨[(0, some 9)], by (simp only [EndT, go_sem, entH, entH1, nilArr, obOK, apart, injR, coverR, reduceIte, Nat.reduceLeDiff, Nat.le_refl, Nat.reduceEqDiff, Nat.reduceAdd, Nat.reduceLT, reduceCtorEq, Int.toNat_natCast]) <;> simp⟩
theorem TwinShelf_ok (s : Sh) (h1 : s.first.length ≤ 1000) (h2 : s.chg.length ≤ 1000) (h3 : ∀ c ∈ s.chg, c.put.length ≤ 1000) : Gives Try.prog 8 [shE 0 s] (fun n => shE n s) :=
  (TwinShelf_own s h1 h2 h3).gives fun n => by simp only [go_sem, reduceIte, Nat.reduceLeDiff, Nat.le_refl, Nat.reduceEqDiff, Nat.reduceAdd, Nat.reduceLT, reduceCtorEq, Int.toNat_natCast]

theorem generations_ok (s : Sh) (h1 : s.first.length ≤ 1000) (h3 : ∀ c ∈ s.chg, c.put.length ≤ 1000) : Gives Try.prog 30 [shE 0 s] (fun n => .tup [gens n (gl s), bl (gb s)]) := by
  refine pure_intro (ow := fun i => [21,22].contains i) Try.func30 Try.ntmps30 rfl (by kernel_rfl) (by simp) rfl (by decide) fun G hG hOw hNm hB => ?_
  simp only [go_sem, hG, hOw, reduceIte, Nat.reduceLeDiff, Nat.le_refl, Nat.reduceEqDiff, Nat.reduceAdd, Nat.reduceLT, reduceCtorEq, Int.toNat_natCast]
  obtain ⟨hl1, hl2, hl3⟩ := bd_sh (n := 0) (s := s) hB (by simp)
  have no : ∀ n, gb s = false → Pm.Sub (.tup [.v (.slice none 0 0), .v (.bool false)]) (.tup [gens n (gl s), bl (gb s)]) := fun n h => by
    rw [show gl s = [] by simp [gl, h], h]
    exact Subs.tup (.cons (.nil _ _) (.cons (.refl _) .nil))
  (repeat' (first | (with_reducible refine And.intro ?_ ?_) | (with_reducible intro _) | (with_reducible refine exP ?_ ?_))); all_goals (try omega)
  · refine call_pure (Rows_ok _) (by first | exact Subs.refl _ | (repeat' (first | exact Subs.nil | exact Sub.refl _ | exact Sub.lo (Nat.zero_le _) | refine Subs.cons ?_ ?_ | refine Subs.agg ?_ | refine Subs.tup ?_ | refine Sub.map (Nat.zero_le _) (fun _ => ?_)))) (by first | rfl | simp [allP, all0, pureV, pure0, *]) (by simp [chk, hG]) ?_
    simp only [go_sem, hG, hOw, reduceIte, Nat.reduceLeDiff, Nat.le_refl, Nat.reduceEqDiff, Nat.reduceAdd, Nat.reduceLT, reduceCtorEq, Int.toNat_natCast]
    (repeat' (first | (with_reducible refine And.intro ?_ ?_) | (with_reducible intro _) | (with_reducible refine exP ?_ ?_))); all_goals (try omega)
    · rename_i h2 h4
      exact no _ (by simp [gb, h4])
    · rename_i h2 h4
      have hr : rowsB s.first = true := by simpa using h4
      refine semC_loop (fun k : Nat => St.of [(1, .ptr 1 0), (4, .own 22 0 (k + 1) 1), (5, i64 k)] [(1, .box [strs 0 s.first, hks 0 s.chg]), (22, .arr 22 1 ((genL s.first (s.chg.take k)).map (rowV G.lo)))])
        (fun k => k ≤ s.chg.length ∧ genB s.first (s.chg.take k) = true) (fun k => s.chg.length - k) 0 ⟨Nat.zero_le _, rfl⟩ (ent_of [(1, some 1), (22, some 22)] (by (simp only [go_sem, reduceIte, Nat.reduceLeDiff, Nat.le_refl, Nat.reduceEqDiff, Nat.reduceAdd, Nat.reduceLT, reduceCtorEq, Int.toNat_natCast]) <;> simp [genL,rowV,strs]) (by (simp only [go_sem, entH, entH1, nilArr, obOK, reduceIte, Nat.reduceLeDiff, Nat.le_refl, Nat.reduceEqDiff, Nat.reduceAdd, Nat.reduceLT, reduceCtorEq, Int.toNat_natCast]) <;> simp [genL,rowV,strs]) (by simp [injR, apart]) (by simp [coverR, usH]) (by simp [hNm, lkR, names])) ?_
      rintro k ⟨hk, hgk⟩
      refine vc_sound _ _ _ ?_; simp only [go_sem, hG, hOw, reduceIte, Nat.reduceLeDiff, Nat.le_refl, Nat.reduceEqDiff, Nat.reduceAdd, Nat.reduceLT, reduceCtorEq, Int.toNat_natCast]
      (repeat' (first | (with_reducible refine And.intro ?_ ?_) | (with_reducible intro _) | (with_reducible refine exP ?_ ?_))); all_goals (try omega)
      · rename_i hlt
        have hkl : k < s.chg.length := by omega
        have hlen : (genL s.first (s.chg.take k)).length = k + 1 := by rw [genL_len, List.length_take]; omega
        refine semC_draw0 mixed (by kernel_rfl) ?_
        have hcur : (genL s.first (s.chg.take k))[k]'(by omega) = (s.chg.take k).foldl madeL s.first := genL_last _ _ _ _ (by rw [List.length_take]; omega)
        have hrow := rowsB_len (genB_rows _ _ hr hgk _ (List.getElem_mem (show k < (genL s.first (s.chg.take k)).length by omega)))
        have hbk : genB s.first (s.chg.take (k + 1)) = (madeB ((s.chg.take k).foldl madeL s.first) s.chg[k] && rowsB (madeL ((s.chg.take k).foldl madeL s.first) s.chg[k])) := by
          rw [List.take_add_one, List.getElem?_eq_getElem hkl, genB_app, hgk]; simp [genB]
        have hlk : genL s.first (s.chg.take (k + 1)) = genL s.first (s.chg.take k) ++ [madeL ((s.chg.take k).foldl madeL s.first) s.chg[k]] := by
          rw [List.take_add_one, List.getElem?_eq_getElem hkl]; exact genL_snoc _ _ _
        have bad : genB s.first (s.chg.take (k + 1)) = false → gb s = false := fun h => by
          have := genB_app (s.chg.take (k + 1)) (s.chg.drop (k + 1)) s.first
          rw [List.take_append_drop, h] at this
          simp [gb, this]
        simp only [go_sem, hG, hOw, reduceIte, Nat.reduceLeDiff, Nat.le_refl, Nat.reduceEqDiff, Nat.reduceAdd, Nat.reduceLT, reduceCtorEq, Int.toNat_natCast]
        (repeat' (first | (with_reducible refine And.intro ?_ ?_) | (with_reducible intro _) | (with_reducible refine exP ?_ ?_))); all_goals (try omega)
        simp only [hcur]
        refine ⟨_, callGives (Made_ok ((s.chg.take k).foldl madeL s.first) s.chg[k] (by rw [← hcur]; omega) (h3 _ (List.getElem_mem hkl))) (by first | exact Subs.refl _ | (repeat' (first | exact Subs.nil | exact Sub.refl _ | exact Sub.lo (Nat.zero_le _) | refine Subs.cons ?_ ?_ | refine Subs.agg ?_ | refine Subs.tup ?_ | refine Sub.map (Nat.zero_le _) (fun _ => ?_)))) (by first | rfl | simp [allP, all0, pureV, pure0, *]), ?_⟩
        simp only [go_sem, hG, hOw, reduceIte, Nat.reduceLeDiff, Nat.le_refl, Nat.reduceEqDiff, Nat.reduceAdd, Nat.reduceLT, reduceCtorEq, Int.toNat_natCast]
        (repeat' (first | (with_reducible refine And.intro ?_ ?_) | (with_reducible intro _) | (with_reducible refine exP ?_ ?_))); all_goals (try omega)
        · rename_i h5
          refine call_pure (Rows_ok (madeL ((s.chg.take k).foldl madeL s.first) s.chg[k])) (by first | exact Subs.refl _ | (repeat' (first | exact Subs.nil | exact Sub.refl _ | exact Sub.lo (Nat.zero_le _) | refine Subs.cons ?_ ?_ | refine Subs.agg ?_ | refine Subs.tup ?_ | refine Sub.map (Nat.zero_le _) (fun _ => ?_)))) (by first | rfl | simp [allP, all0, pureV, pure0, *]) (by simp [chk, hG]) ?_
          simp only [go_sem, hG, hOw, reduceIte, Nat.reduceLeDiff, Nat.le_refl, Nat.reduceEqDiff, Nat.reduceAdd, Nat.reduceLT, reduceCtorEq, Int.toNat_natCast]
          have hm : madeB ((s.chg.take k).foldl madeL s.first) s.chg[k] = true := by simpa using h5
          (repeat' (first | (with_reducible refine And.intro ?_ ?_) | (with_reducible intro _) | (with_reducible refine exP ?_ ?_))); all_goals (try omega)
          · rename_i h6
            exact no _ (bad (by rw [hbk, h6, Bool.and_false]))
          · rename_i h6
            have hro : rowsB (madeL ((s.chg.take k).foldl madeL s.first) s.chg[k]) = true := by simpa using h6
            refine ⟨k + 1, ⟨⟨hkl, by rw [hbk, hm, hro]; rfl⟩, by omega, ?_⟩⟩
            rw [hlk, List.map_append]
            exact ent_of [(1, some 1), (22, some 53)] (by (simp only [go_sem, reduceIte, Nat.reduceLeDiff, Nat.le_refl, Nat.reduceEqDiff, Nat.reduceAdd, Nat.reduceLT, reduceCtorEq, Int.toNat_natCast]) <;> simp [rowV,strs,hlen]) (by (simp only [go_sem, entH, entH1, nilArr, obOK, reduceIte, Nat.reduceLeDiff, Nat.le_refl, Nat.reduceEqDiff, Nat.reduceAdd, Nat.reduceLT, reduceCtorEq, Int.toNat_natCast]) <;> simp [rowV,strs,hlen]) (by simp [injR, apart]) (by simp [coverR, usH]) (by simp [hNm, lkR, names])
        · rename_i h5
          exact no _ (bad (by rw [hbk, h5, Bool.false_and]))
      · have e : k = s.chg.length := by omega
        subst e
        rw [List.take_length] at hgk ⊢
        have hg : gb s = true := by simp only [gb, hr, hgk]; rw [decide_eq_true (by omega)]; rfl
        rw [List.take_of_length_le (by rw [genL_len]; omega), hg, show gl s = genL s.first s.chg by simp [gl, hg]]
        exact .refl _
  · rename_i h2
    exact no _ (by simp only [gb]; rw [decide_eq_false (by omega)]; rfl)
end Go.Proofs.Ytgienbcekgokiaa
