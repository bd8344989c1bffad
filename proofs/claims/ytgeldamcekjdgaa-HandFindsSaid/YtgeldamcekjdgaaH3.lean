/- The document's answer: rounds. -/
import Derived.Test.YtgeldamcekjdgaaH3a
import Derived.Test.YtgeldamcekjdgaaH3b
namespace Go.Proofs.Ytgeldamcekjdgaa
open Go Pm
set_option linter.unusedSimpArgs false
set_option linter.unusedVariables false
set_option maxHeartbeats 4000000
set_option maxRecDepth 100000
theorem Round_ok (r : Ro) (hr : OKr r) : Gives Try.prog 41 [roE 0 r] (fun _ => bl (roundB r)) := by
  obtain ⟨⟨ht1, ht2⟩, hh, hs, hx1, hx2⟩ := hr
  refine pure_intro (ow := fun _ => false) Try.func41 Try.ntmps41 rfl (by kernel_rfl) (by simp) rfl (by decide) fun G hG hOw hNm hB => ?_
  simp only [go_sem, hG, hOw, reduceIte, Nat.reduceLeDiff, Nat.le_refl, Nat.reduceEqDiff, Nat.reduceAdd, Nat.reduceLT, reduceCtorEq, Int.toNat_natCast]
  have badh : ∀ k (h : k < r.helpers.length), helpB (r.helpers.take k) r.helpers[k] = false → false = roundB r := fun k h h' => by
    simp [roundB, allPre_bad h h']
  have bads : ∀ k (h : k < r.shares.length), shareB (linesL r.text).length r.helpers.length (r.shares.take k) r.shares[k] = false → false = roundB r := fun k h h' => by
    simp [roundB, allPre_bad h h']
  have badx : ∀ k (h : k < r.sheets.length), sheetB r.sheets[k] = false → false = roundB r := fun k h h' => by
    simp [roundB, all_false h h']
  refine call_pure (within05_ok r.helpers.length 1 4) (by first | exact Subs.refl _ | (repeat' (first | exact Subs.nil | exact Sub.refl _ | exact Sub.lo (Nat.zero_le _) | refine Subs.cons ?_ ?_ | refine Subs.agg ?_ | refine Subs.fp ?_ | refine Subs.tup ?_ | refine Sub.map (Nat.zero_le _) (fun _ => ?_)))) (by first | rfl | simp [allP, all0, pureV, pure0, *]) (by simp [chk, hG]) ?_
  simp only [go_sem, hG, hOw, reduceIte, Nat.reduceLeDiff, Nat.le_refl, Nat.reduceEqDiff, Nat.reduceAdd, Nat.reduceLT, reduceCtorEq, Int.toNat_natCast]
  (repeat' (first | (with_reducible refine And.intro ?_ ?_) | (with_reducible intro _) | (with_reducible refine exP ?_ ?_))); all_goals (try omega)
  · rename_i g1 g2 g3
    have : ¬ ((r.sheets.length : Int) = r.shares.length) := g3
    simp [roundB, this]
  · rename_i g1 g2 g3
    refine semC_loop (fun k : Nat => St.of [(1, .ptr 1 0), (3, i64 k)] [(1, .box (roC 0 r))]) (fun k => k ≤ r.helpers.length ∧ allPre helpB [] (r.helpers.take k) = true) (fun k => r.helpers.length - k) 0 (by simp [allPre]) (ent_of [(1, some 1)] (by (simp only [go_sem, reduceIte, Nat.reduceLeDiff, Nat.le_refl, Nat.reduceEqDiff, Nat.reduceAdd, Nat.reduceLT, reduceCtorEq, Int.toNat_natCast]) <;> simp) (by (simp only [go_sem, entH, entH1, nilArr, obOK, reduceIte, Nat.reduceLeDiff, Nat.le_refl, Nat.reduceEqDiff, Nat.reduceAdd, Nat.reduceLT, reduceCtorEq, Int.toNat_natCast]) <;> simp) (by simp [injR, apart]) (by simp [coverR, usH]) (by simp [hNm, lkR, names])) ?_
    rintro k ⟨hk, hall⟩
    refine vc_sound _ _ _ ?_; simp only [go_sem, hG, hOw, reduceIte, Nat.reduceLeDiff, Nat.le_refl, Nat.reduceEqDiff, Nat.reduceAdd, Nat.reduceLT, reduceCtorEq, Int.toNat_natCast]
    (repeat' (first | (with_reducible refine And.intro ?_ ?_) | (with_reducible intro _) | (with_reducible refine exP ?_ ?_))); all_goals (try omega)
    · rename_i hlt
      have hkl : k < r.helpers.length := by omega
      refine call_pure (within05_ok r.helpers[k].id 0 9999) (by first | exact Subs.refl _ | (repeat' (first | exact Subs.nil | exact Sub.refl _ | exact Sub.lo (Nat.zero_le _) | refine Subs.cons ?_ ?_ | refine Subs.agg ?_ | refine Subs.fp ?_ | refine Subs.tup ?_ | refine Sub.map (Nat.zero_le _) (fun _ => ?_)))) (by first | rfl | simp [allP, all0, pureV, pure0, *]) (by simp [chk, hG]) ?_
      simp only [go_sem, hG, hOw, reduceIte, Nat.reduceLeDiff, Nat.le_refl, Nat.reduceEqDiff, Nat.reduceAdd, Nat.reduceLT, reduceCtorEq, Int.toNat_natCast]
      (repeat' (first | (with_reducible refine And.intro ?_ ?_) | (with_reducible intro _) | (with_reducible refine exP ?_ ?_))); all_goals (try omega)
      · rename_i e1
        refine call_pure (within05_ok r.helpers[k].post 0 30) (by first | exact Subs.refl _ | (repeat' (first | exact Subs.nil | exact Sub.refl _ | exact Sub.lo (Nat.zero_le _) | refine Subs.cons ?_ ?_ | refine Subs.agg ?_ | refine Subs.fp ?_ | refine Subs.tup ?_ | refine Sub.map (Nat.zero_le _) (fun _ => ?_)))) (by first | rfl | simp [allP, all0, pureV, pure0, *]) (by simp [chk, hG]) ?_
        simp only [go_sem, hG, hOw, reduceIte, Nat.reduceLeDiff, Nat.le_refl, Nat.reduceEqDiff, Nat.reduceAdd, Nat.reduceLT, reduceCtorEq, Int.toNat_natCast]
        (repeat' (first | (with_reducible refine And.intro ?_ ?_) | (with_reducible intro _) | (with_reducible refine exP ?_ ?_))); all_goals (try omega)
        · rename_i e2
          refine call_pure (within05_ok r.helpers[k].rate 1 20) (by first | exact Subs.refl _ | (repeat' (first | exact Subs.nil | exact Sub.refl _ | exact Sub.lo (Nat.zero_le _) | refine Subs.cons ?_ ?_ | refine Subs.agg ?_ | refine Subs.fp ?_ | refine Subs.tup ?_ | refine Sub.map (Nat.zero_le _) (fun _ => ?_)))) (by first | rfl | simp [allP, all0, pureV, pure0, *]) (by simp [chk, hG]) ?_
          simp only [go_sem, hG, hOw, reduceIte, Nat.reduceLeDiff, Nat.le_refl, Nat.reduceEqDiff, Nat.reduceAdd, Nat.reduceLT, reduceCtorEq, Int.toNat_natCast]
          (repeat' (first | (with_reducible refine And.intro ?_ ?_) | (with_reducible intro _) | (with_reducible refine exP ?_ ?_))); all_goals (try omega)
          · rename_i e3
            exact badh k hkl (by simp [helpB, e3])
          · rename_i e3
            refine semC_loop (fun j : Nat => St.of [(1, .ptr 1 0), (3, i64 k), (4, .ptr 4 0), (5, i64 j)] [(1, .box (roC 0 r)), (4, .box (hpE r.helpers[k]))]) (fun j => j ≤ k ∧ (r.helpers.take j).all (fun d => !decide (d.id = r.helpers[k].id)) = true) (fun j => k - j) 0 (by simp) (ent_of [(1, some 1), (4, some 4)] (by (simp only [go_sem, reduceIte, Nat.reduceLeDiff, Nat.le_refl, Nat.reduceEqDiff, Nat.reduceAdd, Nat.reduceLT, reduceCtorEq, Int.toNat_natCast]) <;> simp) (by (simp only [go_sem, entH, entH1, nilArr, obOK, reduceIte, Nat.reduceLeDiff, Nat.le_refl, Nat.reduceEqDiff, Nat.reduceAdd, Nat.reduceLT, reduceCtorEq, Int.toNat_natCast]) <;> simp) (by simp [injR, apart]) (by simp [coverR, usH]) (by simp [hNm, lkR, names])) ?_
            rintro j ⟨hj, hallj⟩
            refine vc_sound _ _ _ ?_; simp only [go_sem, hG, hOw, reduceIte, Nat.reduceLeDiff, Nat.le_refl, Nat.reduceEqDiff, Nat.reduceAdd, Nat.reduceLT, reduceCtorEq, Int.toNat_natCast]
            (repeat' (first | (with_reducible refine And.intro ?_ ?_) | (with_reducible intro _) | (with_reducible refine exP ?_ ?_))); all_goals (try omega)
            · refine semC_draw0 mixed (by kernel_rfl) ?_
              simp only [go_sem, hG, hOw, reduceIte, Nat.reduceLeDiff, Nat.le_refl, Nat.reduceEqDiff, Nat.reduceAdd, Nat.reduceLT, reduceCtorEq, Int.toNat_natCast]
              (repeat' (first | (with_reducible refine And.intro ?_ ?_) | (with_reducible intro _) | (with_reducible refine exP ?_ ?_))); all_goals (try omega)
              · rename_i hjk he
                refine badh k hkl ?_
                have : ((r.helpers.take k).any fun d => decide (d.id = r.helpers[k].id)) = true := List.any_eq_true.2 ⟨r.helpers[j], List.mem_take_iff_getElem.2 ⟨j, by omega, rfl⟩, by simp [he]⟩
                simp only [helpB, this]; simp
              · rename_i hjk he
                exact ⟨j + 1, ⟨by omega, all_take_succ (by omega) hallj (by simp [he])⟩, by omega, ent_of [(1, some 1), (4, some 4)] (by (simp only [go_sem, reduceIte, Nat.reduceLeDiff, Nat.le_refl, Nat.reduceEqDiff, Nat.reduceAdd, Nat.reduceLT, reduceCtorEq, Int.toNat_natCast]) <;> simp) (by (simp only [go_sem, entH, entH1, nilArr, obOK, reduceIte, Nat.reduceLeDiff, Nat.le_refl, Nat.reduceEqDiff, Nat.reduceAdd, Nat.reduceLT, reduceCtorEq, Int.toNat_natCast]) <;> simp) (by simp [injR, apart]) (by simp [coverR, usH]) (by simp [hNm, lkR, names])⟩
            · rename_i hjk
              have hjk : j = k := by omega
              subst hjk
              have hany : ((r.helpers.take j).any fun d => decide (d.id = r.helpers[j].id)) = false := by
                rw [List.any_eq_false]
                intro x hx
                simpa using List.all_eq_true.1 hallj x hx
              refine ⟨j + 1, ⟨by omega, ?_⟩, by omega, ent_of [(1, some 1)] (by (simp only [go_sem, reduceIte, Nat.reduceLeDiff, Nat.le_refl, Nat.reduceEqDiff, Nat.reduceAdd, Nat.reduceLT, reduceCtorEq, Int.toNat_natCast]) <;> simp) (by (simp only [go_sem, entH, entH1, nilArr, obOK, reduceIte, Nat.reduceLeDiff, Nat.le_refl, Nat.reduceEqDiff, Nat.reduceAdd, Nat.reduceLT, reduceCtorEq, Int.toNat_natCast]) <;> simp) (by simp [injR, apart]) (by simp [coverR, usH]) (by simp [hNm, lkR, names])⟩
              rw [allPre_step _ _ _ hkl, hall]
              simp [helpB, e1, e2, e3, hany]
        · rename_i e2
          exact badh k hkl (by simp [helpB, e2])
      · rename_i e1
        exact badh k hkl (by simp [helpB, e1])
    · rename_i hge
      rw [take_full hk hge] at hall
      refine call_pure (Lines_ok r.text ⟨ht1, ht2⟩) (by first | exact Subs.refl _ | (repeat' (first | exact Subs.nil | exact Sub.refl _ | exact Sub.lo (Nat.zero_le _) | refine Subs.cons ?_ ?_ | refine Subs.agg ?_ | refine Subs.fp ?_ | refine Subs.tup ?_ | refine Sub.map (Nat.zero_le _) (fun _ => ?_)))) (by first | rfl | simp [allP, all0, pureV, pure0, *]) (by simp [chk, hG]) ?_
      simp only [go_sem, hG, hOw, reduceIte, Nat.reduceLeDiff, Nat.le_refl, Nat.reduceEqDiff, Nat.reduceAdd, Nat.reduceLT, reduceCtorEq, Int.toNat_natCast]
      (repeat' (first | (with_reducible refine And.intro ?_ ?_) | (with_reducible intro _) | (with_reducible refine exP ?_ ?_))); all_goals (try omega)
      refine semC_loop (fun k : Nat => St.of [(1, .ptr 1 0), (6, i64 (linesL r.text).length), (7, i64 k)] [(1, .box (roC 0 r))])
        (fun k => k ≤ r.shares.length ∧ allPre (shareB (linesL r.text).length r.helpers.length) [] (r.shares.take k) = true ∧ (r.sheets.take k).all sheetB = true) (fun k => r.shares.length - k) 0 (by simp [allPre]) (ent_of [(1, some 1)] (by (simp only [go_sem, reduceIte, Nat.reduceLeDiff, Nat.le_refl, Nat.reduceEqDiff, Nat.reduceAdd, Nat.reduceLT, reduceCtorEq, Int.toNat_natCast]) <;> simp) (by (simp only [go_sem, entH, entH1, nilArr, obOK, reduceIte, Nat.reduceLeDiff, Nat.le_refl, Nat.reduceEqDiff, Nat.reduceAdd, Nat.reduceLT, reduceCtorEq, Int.toNat_natCast]) <;> simp) (by simp [injR, apart]) (by simp [coverR, usH]) (by simp [hNm, lkR, names])) ?_
      rintro m ⟨hm, halls, hallx⟩
      refine vc_sound _ _ _ ?_; simp only [go_sem, hG, hOw, reduceIte, Nat.reduceLeDiff, Nat.le_refl, Nat.reduceEqDiff, Nat.reduceAdd, Nat.reduceLT, reduceCtorEq, Int.toNat_natCast]
      (repeat' (first | (with_reducible refine And.intro ?_ ?_) | (with_reducible intro _) | (with_reducible refine exP ?_ ?_))); all_goals (try omega)
      · rename_i hlt
        have hml : m < r.shares.length := by omega
        have hmx : m < r.sheets.length := by omega
        obtain ⟨hq1, hq2⟩ := hx2 _ (List.getElem_mem hmx)
        refine call_pure (within05_ok r.shares[m].fr 0 r.shares[m].to) (by first | exact Subs.refl _ | (repeat' (first | exact Subs.nil | exact Sub.refl _ | exact Sub.lo (Nat.zero_le _) | refine Subs.cons ?_ ?_ | refine Subs.agg ?_ | refine Subs.fp ?_ | refine Subs.tup ?_ | refine Sub.map (Nat.zero_le _) (fun _ => ?_)))) (by first | rfl | simp [allP, all0, pureV, pure0, *]) (by simp [chk, hG]) ?_
        simp only [go_sem, hG, hOw, reduceIte, Nat.reduceLeDiff, Nat.le_refl, Nat.reduceEqDiff, Nat.reduceAdd, Nat.reduceLT, reduceCtorEq, Int.toNat_natCast]
        (repeat' (first | (with_reducible refine And.intro ?_ ?_) | (with_reducible intro _) | (with_reducible refine exP ?_ ?_))); all_goals (try omega)
        · rename_i e1 e2
          refine call_pure (within05_ok r.shares[m].helper 0 (r.helpers.length - 1)) (by first | exact Subs.refl _ | (repeat' (first | exact Subs.nil | exact Sub.refl _ | exact Sub.lo (Nat.zero_le _) | refine Subs.cons ?_ ?_ | refine Subs.agg ?_ | refine Subs.fp ?_ | refine Subs.tup ?_ | refine Sub.map (Nat.zero_le _) (fun _ => ?_)))) (by first | rfl | simp [allP, all0, pureV, pure0, *]) (by simp [chk, hG]) ?_
          simp only [go_sem, hG, hOw, reduceIte, Nat.reduceLeDiff, Nat.le_refl, Nat.reduceEqDiff, Nat.reduceAdd, Nat.reduceLT, reduceCtorEq, Int.toNat_natCast]
          (repeat' (first | (with_reducible refine And.intro ?_ ?_) | (with_reducible intro _) | (with_reducible refine exP ?_ ?_))); all_goals (try omega)
          · rename_i e3
            refine call_pure (within05_ok r.shares[m].sent 0 400) (by first | exact Subs.refl _ | (repeat' (first | exact Subs.nil | exact Sub.refl _ | exact Sub.lo (Nat.zero_le _) | refine Subs.cons ?_ ?_ | refine Subs.agg ?_ | refine Subs.fp ?_ | refine Subs.tup ?_ | refine Sub.map (Nat.zero_le _) (fun _ => ?_)))) (by first | rfl | simp [allP, all0, pureV, pure0, *]) (by simp [chk, hG]) ?_
            simp only [go_sem, hG, hOw, reduceIte, Nat.reduceLeDiff, Nat.le_refl, Nat.reduceEqDiff, Nat.reduceAdd, Nat.reduceLT, reduceCtorEq, Int.toNat_natCast]
            (repeat' (first | (with_reducible refine And.intro ?_ ?_) | (with_reducible intro _) | (with_reducible refine exP ?_ ?_))); all_goals (try omega)
            · rename_i e4
              exact bads m hml (by simp [shareB, e4])
            · rename_i e4
              refine semC_mid (fun b : Bool => St.of [(1, .ptr 1 0), (6, i64 (linesL r.text).length), (7, i64 m), (8, .ptr 8 0), (159, bl b)] [(1, .box (roC 0 r)), (8, .box (srE r.shares[m]))])
                (fun b => shareB (linesL r.text).length r.helpers.length (r.shares.take m) r.shares[m] = !b) ?_ ?_
              · refine semC_code (c' := rgOf 21 Try.f41.body) (by kernel_rfl) (semC_ent (s' := St.of [(1, .ptr 1 0), (6, i64 (linesL r.text).length), (7, i64 m), (8, .ptr 8 0)] [(1, .box (roC 0 r)), (8, .box (srE r.shares[m]))]) (ent_of [(1, some 1), (8, some 8)] (by (simp only [go_sem, reduceIte, Nat.reduceLeDiff, Nat.le_refl, Nat.reduceEqDiff, Nat.reduceAdd, Nat.reduceLT, reduceCtorEq, Int.toNat_natCast]) <;> simp) (by (simp only [go_sem, entH, entH1, nilArr, obOK, reduceIte, Nat.reduceLeDiff, Nat.le_refl, Nat.reduceEqDiff, Nat.reduceAdd, Nat.reduceLT, reduceCtorEq, Int.toNat_natCast]) <;> simp) (by simp [injR, apart]) (by simp [coverR, usH]) (by simp [hNm, lkR, names])) ?_)
                exact Round_share r hG hOw hNm m hml e1 e2 e3 e4 hs
              · rintro b hb
                simp only [go_sem, hG, hOw, reduceIte, Nat.reduceLeDiff, Nat.le_refl, Nat.reduceEqDiff, Nat.reduceAdd, Nat.reduceLT, reduceCtorEq, Int.toNat_natCast]
                (repeat' (first | (with_reducible refine And.intro ?_ ?_) | (with_reducible intro _) | (with_reducible refine exP ?_ ?_))); all_goals (try omega)
                · rename_i hb1
                  rw [hb1] at hb
                  exact bads m hml hb
                · rename_i hb1 g4 g5 g6
                  exact badx m hmx (by unfold sheetB; rw [g5, decide_eq_false (by omega : ¬ ((r.sheets[m].lines.length : Int) = 0))]; simp)
                · rename_i hb1 g3 g4 g5
                  refine semC_cutN (fun _ : Unit => St.of [(1, .ptr 1 0), (6, i64 (linesL r.text).length), (7, i64 m)] [(1, .box (roC 0 r))]) (fun _ => r.sheets[m].lines.all lineB = true) ?_ ?_
                  · refine semC_code (c' := bkOf 6 Try.f41.body) (by kernel_rfl) (semC_ent (s' := St.of [(1, .ptr 1 0), (6, i64 (linesL r.text).length), (7, i64 m), (9, .ptr 9 0), (10, i64 0)] [(1, .box (roC 0 r)), (9, .box (seE 0 r.sheets[m]))]) (ent_of [(1, some 1), (9, some 9)] (by (simp only [go_sem, reduceIte, Nat.reduceLeDiff, Nat.le_refl, Nat.reduceEqDiff, Nat.reduceAdd, Nat.reduceLT, reduceCtorEq, Int.toNat_natCast]) <;> simp) (by (simp only [go_sem, entH, entH1, nilArr, obOK, reduceIte, Nat.reduceLeDiff, Nat.le_refl, Nat.reduceEqDiff, Nat.reduceAdd, Nat.reduceLT, reduceCtorEq, Int.toNat_natCast]) <;> simp) (by simp [injR, apart]) (by simp [coverR, usH]) (by simp [hNm, lkR, names])) ?_)
                    exact Round_lines r hG hOw hNm m r.sheets[m] (hx2 _ (List.getElem_mem hmx)) (fun hf s' hs' => by have hF := badx m hmx (by simp [sheetB, hf]); refine ⟨trivial, ?_⟩; simp only [resV, hs', vw, ← hF]; exact Sub.refl _)
                  · rintro _ hfull
                    simp only [go_sem, hG, hOw, reduceIte, Nat.reduceLeDiff, Nat.le_refl, Nat.reduceEqDiff, Nat.reduceAdd, Nat.reduceLT, reduceCtorEq, Int.toNat_natCast]
                    (repeat' (first | (with_reducible refine And.intro ?_ ?_) | (with_reducible intro _) | (with_reducible refine exP ?_ ?_))); all_goals (try omega)
                    exact ⟨m + 1, ⟨by omega, by rw [allPre_step _ _ _ hml, halls, hb, hb1] ; rfl, all_take_succ hmx hallx (by unfold sheetB; rw [hfull, decide_eq_true (by omega : (r.sheets[m].lines.length : Int) ≤ 30), decide_eq_true (by omega : (r.sheets[m].lines.length : Int) = 0)]; simp)⟩, by omega, ent_of [(1, some 1)] (by (simp only [go_sem, reduceIte, Nat.reduceLeDiff, Nat.le_refl, Nat.reduceEqDiff, Nat.reduceAdd, Nat.reduceLT, reduceCtorEq, Int.toNat_natCast]) <;> simp) (by (simp only [go_sem, entH, entH1, nilArr, obOK, reduceIte, Nat.reduceLeDiff, Nat.le_refl, Nat.reduceEqDiff, Nat.reduceAdd, Nat.reduceLT, reduceCtorEq, Int.toNat_natCast]) <;> simp) (by simp [injR, apart]) (by simp [coverR, usH]) (by simp [hNm, lkR, names])⟩
                · rename_i hb1 g3 g4
                  refine semC_cutN (fun _ : Unit => St.of [(1, .ptr 1 0), (6, i64 (linesL r.text).length), (7, i64 m)] [(1, .box (roC 0 r))]) (fun _ => r.sheets[m].lines.all lineB = true) ?_ ?_
                  · refine semC_code (c' := bkOf 6 Try.f41.body) (by kernel_rfl) (semC_ent (s' := St.of [(1, .ptr 1 0), (6, i64 (linesL r.text).length), (7, i64 m), (9, .ptr 9 0), (10, i64 0)] [(1, .box (roC 0 r)), (9, .box (seE 0 r.sheets[m]))]) (ent_of [(1, some 1), (9, some 9)] (by (simp only [go_sem, reduceIte, Nat.reduceLeDiff, Nat.le_refl, Nat.reduceEqDiff, Nat.reduceAdd, Nat.reduceLT, reduceCtorEq, Int.toNat_natCast]) <;> simp) (by (simp only [go_sem, entH, entH1, nilArr, obOK, reduceIte, Nat.reduceLeDiff, Nat.le_refl, Nat.reduceEqDiff, Nat.reduceAdd, Nat.reduceLT, reduceCtorEq, Int.toNat_natCast]) <;> simp) (by simp [injR, apart]) (by simp [coverR, usH]) (by simp [hNm, lkR, names])) ?_)
                    exact Round_lines r hG hOw hNm m r.sheets[m] (hx2 _ (List.getElem_mem hmx)) (fun hf s' hs' => by have hF := badx m hmx (by simp [sheetB, hf]); refine ⟨trivial, ?_⟩; simp only [resV, hs', vw, ← hF]; exact Sub.refl _)
                  · rintro _ hfull
                    simp only [go_sem, hG, hOw, reduceIte, Nat.reduceLeDiff, Nat.le_refl, Nat.reduceEqDiff, Nat.reduceAdd, Nat.reduceLT, reduceCtorEq, Int.toNat_natCast]
                    (repeat' (first | (with_reducible refine And.intro ?_ ?_) | (with_reducible intro _) | (with_reducible refine exP ?_ ?_))); all_goals (try omega)
                    exact ⟨m + 1, ⟨by omega, by rw [allPre_step _ _ _ hml, halls, hb, hb1] ; rfl, all_take_succ hmx hallx (by unfold sheetB; rw [hfull, decide_eq_true (by omega : (r.sheets[m].lines.length : Int) ≤ 30), g4]; simp)⟩, by omega, ent_of [(1, some 1)] (by (simp only [go_sem, reduceIte, Nat.reduceLeDiff, Nat.le_refl, Nat.reduceEqDiff, Nat.reduceAdd, Nat.reduceLT, reduceCtorEq, Int.toNat_natCast]) <;> simp) (by (simp only [go_sem, entH, entH1, nilArr, obOK, reduceIte, Nat.reduceLeDiff, Nat.le_refl, Nat.reduceEqDiff, Nat.reduceAdd, Nat.reduceLT, reduceCtorEq, Int.toNat_natCast]) <;> simp) (by simp [injR, apart]) (by simp [coverR, usH]) (by simp [hNm, lkR, names])⟩
                · rename_i hb1 g4
                  exact badx m hmx (by simp [sheetB]; omega)
          · rename_i e3
            exact bads m hml (by simp [shareB, e3])
        · rename_i e1 e2
          exact bads m hml (by simp [shareB]; omega)
        · rename_i e1
          exact bads m hml (by simp [shareB, e1])
      · rename_i hge
        have hml : m = r.shares.length := by omega
        have hmx : m = r.sheets.length := by omega
        have s1 : r.shares.take m = r.shares := by rw [hml, List.take_length]
        have s2 : r.sheets.take m = r.sheets := by rw [hmx, List.take_length]
        rw [s1] at halls
        rw [s2] at hallx
        simp [roundB, g1, hall, halls, hallx]; omega
  · rename_i g1 g2
    simp [roundB, g1]; omega
  · rename_i g1
    simp [roundB, g1]
end Go.Proofs.Ytgeldamcekjdgaa
