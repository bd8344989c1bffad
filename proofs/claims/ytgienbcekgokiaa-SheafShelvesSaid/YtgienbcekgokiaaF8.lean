/- The program: shelves. -/
import Derived.Test.YtgienbcekgokiaaF7
namespace Go.Proofs.Ytgienbcekgokiaa
open Go Pm
set_option linter.unusedSimpArgs false
set_option linter.unusedVariables false
set_option maxHeartbeats 4000000
set_option maxRecDepth 100000
/-- a file: its shelf's rows and hunks, all its generations -/
def fileH (a : Nat) (fi : List ByteArray) (cs : List Hk) (ls : List (List ByteArray)) : List (Nat × OB) :=
  [(0, .box [strs a fi, .own 2 0 cs.length 3, .own 1 0 ls.length 1]), (1, .arr 22 1 (ls.map (rowV a))), (2, .arr 46 3 (cs.map (hkE a)))]
attribute [go_sem] fileH
theorem last_ok (a : Nat) (fi : List ByteArray) (cs : List Hk) (ls : List (List ByteArray)) (h : 0 < ls.length) (hl : ls.length ≤ 1000) :
    Tri Try.prog 29 [.ptr 0 0] (fileH a fi cs ls) (fun _ => .ret (strs a (ls[ls.length - 1]'(by omega))) (fileH a fi cs ls)) := by
  refine tri_intro (fun _ => false) Try.func29 Try.ntmps29 rfl (by kernel_rfl) (by simp) rfl (by decide) fun G hG hOw hNm => ?_
  simp only [go_sem, hG, hOw, reduceIte, Nat.reduceLeDiff, Nat.le_refl, Nat.reduceEqDiff, Nat.reduceAdd, Nat.reduceLT, reduceCtorEq, Int.toNat_natCast]
  refine semC_draw0 mixed (by kernel_rfl) ?_
  simp only [go_sem, hG, hOw, reduceIte, Nat.reduceLeDiff, Nat.le_refl, Nat.reduceEqDiff, Nat.reduceAdd, Nat.reduceLT, reduceCtorEq, Int.toNat_natCast]
  (repeat' (first | (with_reducible refine And.intro ?_ ?_) | (with_reducible intro _) | (with_reducible refine exP ?_ ?_))); all_goals (try omega)
  have e : ((ls.length : Int) - 1).toNat = ls.length - 1 := by omega
  simp only [e]
  exact ⟨[(0, some 0), (1, some 1), (2, some 2)], by (simp only [EndT, go_sem, entH, entH1, nilArr, obOK, apart, injR, coverR, reduceIte, Nat.reduceLeDiff, Nat.le_refl, Nat.reduceEqDiff, Nat.reduceAdd, Nat.reduceLT, reduceCtorEq, Int.toNat_natCast]) <;> simp⟩
theorem open_ok (s : Sh) (h1 : s.first.length ≤ 1000) (h3 : ∀ c ∈ s.chg, c.put.length ≤ 1000) : Tri Try.prog 27 [shE 0 s] []
    (fun n => if gb s = true then .ret (.tup [.ptr 0 0, i64 0]) (fileH n s.first s.chg (gl s)) else .ret (.tup [.v (.pointer none), i64 112]) []) := by
  refine tri_intro (fun i => [25].contains i) Try.func27 Try.ntmps27 rfl (by kernel_rfl) (by simp) rfl (by decide) fun G hG hOw hNm => ?_
  simp only [go_sem, hG, hOw, reduceIte, Nat.reduceLeDiff, Nat.le_refl, Nat.reduceEqDiff, Nat.reduceAdd, Nat.reduceLT, reduceCtorEq, Int.toNat_natCast]
  have g11 : ∀ {P : Prop}, gb s = true → (12 ≤ (s.chg.length : Int)) → P := fun h h' => by have := gb_len h; omega
  (repeat' (first | (with_reducible refine And.intro ?_ ?_) | (with_reducible intro _) | (with_reducible refine exP ?_ ?_))); all_goals (try omega)
  · rename_i h2
    refine call_pure (Check_ok s.first) (by first | exact Subs.refl _ | (repeat' (first | exact Subs.nil | exact Sub.refl _ | exact Sub.lo (Nat.zero_le _) | refine Subs.cons ?_ ?_ | refine Subs.agg ?_ | refine Subs.tup ?_ | refine Sub.map (Nat.zero_le _) (fun _ => ?_)))) (by first | rfl | simp [allP, all0, pureV, pure0, *]) (by simp [chk, hG]) ?_
    simp only [go_sem, hG, hOw, reduceIte, Nat.reduceLeDiff, Nat.le_refl, Nat.reduceEqDiff, Nat.reduceAdd, Nat.reduceLT, reduceCtorEq, Int.toNat_natCast]
    (repeat' (first | (with_reducible refine And.intro ?_ ?_) | (with_reducible intro _) | (with_reducible refine exP ?_ ?_))); all_goals (try omega)
    · rename_i h4
      have hg : gb s = false := by
        cases h : rowsB s.first with
        | true => rw [h] at h4; simp at h4
        | false => simp [gb, h]
      simp only [hg, Bool.false_eq_true, if_false]
      simp only [go_sem, hG, hOw, reduceIte, Nat.reduceLeDiff, Nat.le_refl, Nat.reduceEqDiff, Nat.reduceAdd, Nat.reduceLT, reduceCtorEq, Int.toNat_natCast]
      (repeat' (first | (with_reducible refine And.intro ?_ ?_) | (with_reducible intro _) | (with_reducible refine exP ?_ ?_))); all_goals (try omega)
      exact ⟨[], by (simp only [EndT, go_sem, entH, entH1, nilArr, obOK, apart, injR, coverR, reduceIte, Nat.reduceLeDiff, Nat.le_refl, Nat.reduceEqDiff, Nat.reduceAdd, Nat.reduceLT, reduceCtorEq, Int.toNat_natCast]) <;> simp⟩
    · rename_i h4
      have hr : rowsB s.first = true := by
        cases h : rowsB s.first with
        | true => rfl
        | false => rw [h] at h4; simp at h4
      refine semC_draw0 mixed (by kernel_rfl) ?_
      simp only [go_sem, hG, hOw, reduceIte, Nat.reduceLeDiff, Nat.le_refl, Nat.reduceEqDiff, Nat.reduceAdd, Nat.reduceLT, reduceCtorEq, Int.toNat_natCast]
      refine ⟨_, callGives (Clone_ok s.first h1) (by first | exact Subs.refl _ | (repeat' (first | exact Subs.nil | exact Sub.refl _ | exact Sub.lo (Nat.zero_le _) | refine Subs.cons ?_ ?_ | refine Subs.agg ?_ | refine Subs.tup ?_ | refine Sub.map (Nat.zero_le _) (fun _ => ?_)))) (by first | rfl | simp [allP, all0, pureV, pure0, *]), ?_⟩
      simp only [go_sem, hG, hOw, reduceIte, Nat.reduceLeDiff, Nat.le_refl, Nat.reduceEqDiff, Nat.reduceAdd, Nat.reduceLT, reduceCtorEq, Int.toNat_natCast]
      refine ⟨_, callGives (Clone_ok s.first h1) (by first | exact Subs.refl _ | (repeat' (first | exact Subs.nil | exact Sub.refl _ | exact Sub.lo (Nat.zero_le _) | refine Subs.cons ?_ ?_ | refine Subs.agg ?_ | refine Subs.tup ?_ | refine Sub.map (Nat.zero_le _) (fun _ => ?_)))) (by first | rfl | simp [allP, all0, pureV, pure0, *]), ?_⟩
      simp only [go_sem, hG, hOw, reduceIte, Nat.reduceLeDiff, Nat.le_refl, Nat.reduceEqDiff, Nat.reduceAdd, Nat.reduceLT, reduceCtorEq, Int.toNat_natCast]
      (repeat' (first | (with_reducible refine And.intro ?_ ?_) | (with_reducible intro _) | (with_reducible refine exP ?_ ?_))); all_goals (try omega)
      refine semC_loop (fun k : Nat => St.of [(4, .ptr 27 0), (29, hks 0 s.chg), (30, i64 s.chg.length), (31, i64 k)] [(27, .box [strs G.lo s.first, .own 90 0 k 3, .own 91 0 (k + 1) 1]), (90, .arr 46 3 ((s.chg.take k).map (hkE G.lo))), (91, .arr 22 1 ((genL s.first (s.chg.take k)).map (rowV G.lo)))])
        (fun k => k ≤ s.chg.length ∧ genB s.first (s.chg.take k) = true) (fun k => s.chg.length - k) 0 ⟨Nat.zero_le _, rfl⟩ (ent_of [(27, some 27), (90, none), (91, some 25)] (by (simp only [go_sem, reduceIte, Nat.reduceLeDiff, Nat.le_refl, Nat.reduceEqDiff, Nat.reduceAdd, Nat.reduceLT, reduceCtorEq, Int.toNat_natCast]) <;> simp [genL,rowV,strs]) (by (simp only [go_sem, entH, entH1, nilArr, obOK, reduceIte, Nat.reduceLeDiff, Nat.le_refl, Nat.reduceEqDiff, Nat.reduceAdd, Nat.reduceLT, reduceCtorEq, Int.toNat_natCast]) <;> simp [genL,rowV,strs]) (by simp [injR, apart]) (by simp [coverR, usH]) (by simp [hNm, lkR, names])) ?_
      rintro k ⟨hk, hgk⟩
      have hlen : (genL s.first (s.chg.take k)).length = k + 1 := by rw [genL_len, List.length_take]; omega
      have hlk : (s.chg.take k).length = k := by rw [List.length_take]; omega
      have hmin : min k s.chg.length = k := Nat.min_eq_left hk
      have hcur : (genL s.first (s.chg.take k))[(genL s.first (s.chg.take k)).length - 1]'(by omega) = (s.chg.take k).foldl madeL s.first := genL_last _ _ _ _ (by omega)
      have hrow := rowsB_len (genB_rows _ _ hr hgk _ (List.getElem_mem (show (genL s.first (s.chg.take k)).length - 1 < (genL s.first (s.chg.take k)).length by omega)))
      rw [hcur] at hrow
      have hl11 : s.chg.length ≤ 11 := by omega
      refine vc_sound _ _ _ ?_; simp only [go_sem, hG, hOw, reduceIte, Nat.reduceLeDiff, Nat.le_refl, Nat.reduceEqDiff, Nat.reduceAdd, Nat.reduceLT, reduceCtorEq, Int.toNat_natCast]
      (repeat' (first | (with_reducible refine And.intro ?_ ?_) | (with_reducible intro _) | (with_reducible refine exP ?_ ?_))); all_goals (try omega)
      · rename_i hlt
        have hkl : k < s.chg.length := by omega
        have hbk : genB s.first (s.chg.take (k + 1)) = (madeB ((s.chg.take k).foldl madeL s.first) s.chg[k] && rowsB (madeL ((s.chg.take k).foldl madeL s.first) s.chg[k])) := by
          rw [List.take_add_one, List.getElem?_eq_getElem hkl, genB_app, hgk]; simp [genB]
        have hlk1 : genL s.first (s.chg.take (k + 1)) = genL s.first (s.chg.take k) ++ [madeL ((s.chg.take k).foldl madeL s.first) s.chg[k]] := by
          rw [List.take_add_one, List.getElem?_eq_getElem hkl]; exact genL_snoc _ _ _
        have bad : genB s.first (s.chg.take (k + 1)) = false → gb s = false := fun h => by
          have := genB_app (s.chg.take (k + 1)) (s.chg.drop (k + 1)) s.first
          rw [List.take_append_drop, h] at this
          simp [gb, this]
        refine call_tri [(0, 27), (1, 91), (2, 90)] [] (last_ok G.lo s.first (s.chg.take k) (genL s.first (s.chg.take k)) (by omega) (by omega)) (by (simp only [go_sem, reduceIte, Nat.reduceLeDiff, Nat.le_refl, Nat.reduceEqDiff, Nat.reduceAdd, Nat.reduceLT, reduceCtorEq, Int.toNat_natCast]) <;> simp [fileH,hlen,hmin]) (by (simp only [go_sem, entH, entH1, nilArr, obOK, reduceIte, Nat.reduceLeDiff, Nat.le_refl, Nat.reduceEqDiff, Nat.reduceAdd, Nat.reduceLT, reduceCtorEq, Int.toNat_natCast]) <;> simp [fileH,hlen,hmin]) (by simp [injR, apart, toR]) (by simp [coverR, usH, toR, fileH,hlen,hmin]) (by simp [uniqP, lkR, toR]) (by simp [chk, hG]) ?_
        simp only [hcur]
        simp only [go_sem, hG, hOw, reduceIte, Nat.reduceLeDiff, Nat.le_refl, Nat.reduceEqDiff, Nat.reduceAdd, Nat.reduceLT, reduceCtorEq, Int.toNat_natCast]
        (repeat' (first | (with_reducible refine And.intro ?_ ?_) | (with_reducible intro _) | (with_reducible refine exP ?_ ?_))); all_goals (try omega)
        refine call_pure (in_one 0 ((s.chg.take k).foldl madeL s.first).length s.chg[k].lo) (by first | exact Subs.refl _ | (repeat' (first | exact Subs.nil | exact Sub.refl _ | exact Sub.lo (Nat.zero_le _) | refine Subs.cons ?_ ?_ | refine Subs.agg ?_ | refine Subs.tup ?_ | refine Sub.map (Nat.zero_le _) (fun _ => ?_)))) (by first | rfl | simp [allP, all0, pureV, pure0, *]) (by simp [chk, hG]) ?_
        simp only [go_sem, hG, hOw, reduceIte, Nat.reduceLeDiff, Nat.le_refl, Nat.reduceEqDiff, Nat.reduceAdd, Nat.reduceLT, reduceCtorEq, Int.toNat_natCast]
        have nomade : madeB ((s.chg.take k).foldl madeL s.first) s.chg[k] = false → gb s = false := fun h => bad (by rw [hbk, h]; rfl)
        have hput := h3 _ (List.getElem_mem hkl)
        (repeat' (first | (with_reducible refine And.intro ?_ ?_) | (with_reducible intro _) | (with_reducible refine exP ?_ ?_))); all_goals (try omega)
        · rename_i h5; simp only [Bool.and_eq_true, decide_eq_true_eq] at h5; omega
        · rename_i h5; simp only [Bool.and_eq_true, decide_eq_true_eq] at h5; omega
        · rename_i h5
          refine call_pure (in_one 0 (((s.chg.take k).foldl madeL s.first).length - s.chg[k].lo) s.chg[k].drop) (by first | exact Subs.refl _ | (repeat' (first | exact Subs.nil | exact Sub.refl _ | exact Sub.lo (Nat.zero_le _) | refine Subs.cons ?_ ?_ | refine Subs.agg ?_ | refine Subs.tup ?_ | refine Sub.map (Nat.zero_le _) (fun _ => ?_)))) (by first | rfl | simp [allP, all0, pureV, pure0, *]) (by simp [chk, hG]) ?_
          simp only [go_sem, hG, hOw, reduceIte, Nat.reduceLeDiff, Nat.le_refl, Nat.reduceEqDiff, Nat.reduceAdd, Nat.reduceLT, reduceCtorEq, Int.toNat_natCast]
          (repeat' (first | (with_reducible refine And.intro ?_ ?_) | (with_reducible intro _) | (with_reducible refine exP ?_ ?_))); all_goals (try omega)
          · rename_i h6
            have hg : gb s = false := nomade (by simp only [madeB]; rw [h5, h6]; rfl)
            simp only [hg, Bool.false_eq_true, if_false]
            simp only [go_sem, hG, hOw, reduceIte, Nat.reduceLeDiff, Nat.le_refl, Nat.reduceEqDiff, Nat.reduceAdd, Nat.reduceLT, reduceCtorEq, Int.toNat_natCast]
            (repeat' (first | (with_reducible refine And.intro ?_ ?_) | (with_reducible intro _) | (with_reducible refine exP ?_ ?_))); all_goals (try omega)
            exact ⟨[], by (simp only [EndT, go_sem, entH, entH1, nilArr, obOK, apart, injR, coverR, reduceIte, Nat.reduceLeDiff, Nat.le_refl, Nat.reduceEqDiff, Nat.reduceAdd, Nat.reduceLT, reduceCtorEq, Int.toNat_natCast]) <;> simp⟩
          · rename_i h6
            have hm : madeB ((s.chg.take k).foldl madeL s.first) s.chg[k] = true := by simp only [madeB]; rw [h5, h6]; rfl
            refine call_pure (made_ok ((s.chg.take k).foldl madeL s.first) s.chg[k] (by omega) hput hm) (by first | exact Subs.refl _ | (repeat' (first | exact Subs.nil | exact Sub.refl _ | exact Sub.lo (Nat.zero_le _) | refine Subs.cons ?_ ?_ | refine Subs.agg ?_ | refine Subs.tup ?_ | refine Sub.map (Nat.zero_le _) (fun _ => ?_)))) (by first | rfl | simp [allP, all0, pureV, pure0, *]) (by simp [chk, hG]) ?_
            simp only [go_sem, hG, hOw, reduceIte, Nat.reduceLeDiff, Nat.le_refl, Nat.reduceEqDiff, Nat.reduceAdd, Nat.reduceLT, reduceCtorEq, Int.toNat_natCast]
            refine call_pure (Check_ok (madeL ((s.chg.take k).foldl madeL s.first) s.chg[k])) (by first | exact Subs.refl _ | (repeat' (first | exact Subs.nil | exact Sub.refl _ | exact Sub.lo (Nat.zero_le _) | refine Subs.cons ?_ ?_ | refine Subs.agg ?_ | refine Subs.tup ?_ | refine Sub.map (Nat.zero_le _) (fun _ => ?_)))) (by first | rfl | simp [allP, all0, pureV, pure0, *]) (by simp [chk, hG]) ?_
            simp only [go_sem, hG, hOw, reduceIte, Nat.reduceLeDiff, Nat.le_refl, Nat.reduceEqDiff, Nat.reduceAdd, Nat.reduceLT, reduceCtorEq, Int.toNat_natCast]
            (repeat' (first | (with_reducible refine And.intro ?_ ?_) | (with_reducible intro _) | (with_reducible refine exP ?_ ?_))); all_goals (try omega)
            · rename_i h7
              have hg : gb s = false := bad (by
                rw [hbk, hm]
                cases h : rowsB (madeL ((s.chg.take k).foldl madeL s.first) s.chg[k]) with
                | true => rw [h] at h7; simp at h7
                | false => rfl)
              simp only [hg, Bool.false_eq_true, if_false]
              simp only [go_sem, hG, hOw, reduceIte, Nat.reduceLeDiff, Nat.le_refl, Nat.reduceEqDiff, Nat.reduceAdd, Nat.reduceLT, reduceCtorEq, Int.toNat_natCast]
              (repeat' (first | (with_reducible refine And.intro ?_ ?_) | (with_reducible intro _) | (with_reducible refine exP ?_ ?_))); all_goals (try omega)
              exact ⟨[], by (simp only [EndT, go_sem, entH, entH1, nilArr, obOK, apart, injR, coverR, reduceIte, Nat.reduceLeDiff, Nat.le_refl, Nat.reduceEqDiff, Nat.reduceAdd, Nat.reduceLT, reduceCtorEq, Int.toNat_natCast]) <;> simp⟩
            · rename_i h7
              have hr2 : rowsB (madeL ((s.chg.take k).foldl madeL s.first) s.chg[k]) = true := by
                cases h : rowsB (madeL ((s.chg.take k).foldl madeL s.first) s.chg[k]) with
                | true => rfl
                | false => rw [h] at h7; simp at h7
              refine call_pure (Clone_ok s.chg[k].put hput) (by first | exact Subs.refl _ | (repeat' (first | exact Subs.nil | exact Sub.refl _ | exact Sub.lo (Nat.zero_le _) | refine Subs.cons ?_ ?_ | refine Subs.agg ?_ | refine Subs.tup ?_ | refine Sub.map (Nat.zero_le _) (fun _ => ?_)))) (by first | rfl | simp [allP, all0, pureV, pure0, *]) (by simp [chk, hG]) ?_
              simp only [go_sem, hG, hOw, reduceIte, Nat.reduceLeDiff, Nat.le_refl, Nat.reduceEqDiff, Nat.reduceAdd, Nat.reduceLT, reduceCtorEq, Int.toNat_natCast]
              refine semC_drawT [(79, [27]), (75, [75, 90]), (82, [82, 91])] mixed (by kernel_rfl) ?_
              simp only [go_sem, hG, hOw, reduceIte, Nat.reduceLeDiff, Nat.le_refl, Nat.reduceEqDiff, Nat.reduceAdd, Nat.reduceLT, reduceCtorEq, Int.toNat_natCast]
              (repeat' (first | (with_reducible refine And.intro ?_ ?_) | (with_reducible intro _) | (with_reducible refine exP ?_ ?_))); all_goals (try omega)
              refine ⟨k + 1, ⟨by omega, by rw [hbk, hm, hr2]; rfl⟩, by omega, ?_⟩
              exact ent_of [(27, some 27), (90, some 75), (91, some 82)] (by (simp only [go_sem, reduceIte, Nat.reduceLeDiff, Nat.le_refl, Nat.reduceEqDiff, Nat.reduceAdd, Nat.reduceLT, reduceCtorEq, Int.toNat_natCast]) <;> simp [hlk1,take_snoc_map _ _ _ hkl,hlen,hmin,hkE,rowV,i64,strs]) (by (simp only [go_sem, entH, entH1, nilArr, obOK, reduceIte, Nat.reduceLeDiff, Nat.le_refl, Nat.reduceEqDiff, Nat.reduceAdd, Nat.reduceLT, reduceCtorEq, Int.toNat_natCast]) <;> simp [hlk1,take_snoc_map _ _ _ hkl,hlen,hmin,hkE,rowV,i64,strs]) (by simp [injR, apart]) (by simp [coverR, usH]) (by simp [hNm, lkR, names])
        · rename_i h5
          have hg : gb s = false := nomade (by simp only [madeB]; rw [h5]; rfl)
          simp only [hg, Bool.false_eq_true, if_false]
          simp only [go_sem, hG, hOw, reduceIte, Nat.reduceLeDiff, Nat.le_refl, Nat.reduceEqDiff, Nat.reduceAdd, Nat.reduceLT, reduceCtorEq, Int.toNat_natCast]
          (repeat' (first | (with_reducible refine And.intro ?_ ?_) | (with_reducible intro _) | (with_reducible refine exP ?_ ?_))); all_goals (try omega)
          exact ⟨[], by (simp only [EndT, go_sem, entH, entH1, nilArr, obOK, apart, injR, coverR, reduceIte, Nat.reduceLeDiff, Nat.le_refl, Nat.reduceEqDiff, Nat.reduceAdd, Nat.reduceLT, reduceCtorEq, Int.toNat_natCast]) <;> simp⟩
      · rename_i hge
        obtain rfl : k = s.chg.length := by omega
        rw [List.take_length] at hgk hlen ⊢
        have hg : gb s = true := by simp only [gb, hr, hgk]; rw [decide_eq_true (by omega)]; rfl
        simp only [hg, if_true]
        simp only [go_sem, hG, hOw, reduceIte, Nat.reduceLeDiff, Nat.le_refl, Nat.reduceEqDiff, Nat.reduceAdd, Nat.reduceLT, reduceCtorEq, Int.toNat_natCast]
        (repeat' (first | (with_reducible refine And.intro ?_ ?_) | (with_reducible intro _) | (with_reducible refine exP ?_ ?_))); all_goals (try omega)
        exact ⟨[(0, some 27), (1, some 91), (2, some 90)], by (simp only [EndT, go_sem, entH, entH1, nilArr, obOK, apart, injR, coverR, reduceIte, Nat.reduceLeDiff, Nat.le_refl, Nat.reduceEqDiff, Nat.reduceAdd, Nat.reduceLT, reduceCtorEq, Int.toNat_natCast]) <;> simp [gl,hg,hlen]⟩
  · rename_i h2
    have hg : gb s = false := by simp only [gb]; rw [decide_eq_false (by omega)]; rfl
    simp only [hg, Bool.false_eq_true, if_false]
    simp only [go_sem, hG, hOw, reduceIte, Nat.reduceLeDiff, Nat.le_refl, Nat.reduceEqDiff, Nat.reduceAdd, Nat.reduceLT, reduceCtorEq, Int.toNat_natCast]
    (repeat' (first | (with_reducible refine And.intro ?_ ?_) | (with_reducible intro _) | (with_reducible refine exP ?_ ?_))); all_goals (try omega)
    exact ⟨[], by (simp only [EndT, go_sem, entH, entH1, nilArr, obOK, apart, injR, coverR, reduceIte, Nat.reduceLeDiff, Nat.le_refl, Nat.reduceEqDiff, Nat.reduceAdd, Nat.reduceLT, reduceCtorEq, Int.toNat_natCast]) <;> simp⟩
end Go.Proofs.Ytgienbcekgokiaa
