/- The program: what proves it. -/
import Derived.Test.YtgeldamcekjdgaaHF7
import Derived.Test.YtgeldamcekjdgaaHB8
import Derived.Test.YtgeldamcekjdgaaH13
namespace Go.Proofs.Ytgeldamcekjdgaa
open Go Pm
set_option linter.unusedSimpArgs false
set_option linter.unusedVariables false
set_option maxHeartbeats 4000000
set_option maxRecDepth 100000
def pstep (a : List Int × List (Int × Int)) (p : Int × Int) : List Int × List (Int × Int) :=
  if ((a.1.any fun x => decide (x = p.1)) && a.1.any fun x => decide (x = p.2)) = true then ((a.1.erase p.1).erase p.2, a.2 ++ [p]) else a
def pL (n : Nat) (D : List (Int × Int)) (k : Nat) : List Int := ((D.take k).foldl pstep (allN n, [])).1
def pC (n : Nat) (D : List (Int × Int)) (k : Nat) : List (Int × Int) := ((D.take k).foldl pstep (allN n, [])).2
theorem pL_zero (n : Nat) (D : List (Int × Int)) : pL n D 0 = allN n := rfl
theorem pC_zero (n : Nat) (D : List (Int × Int)) : pC n D 0 = [] := rfl
attribute [go_sem] pL_zero pC_zero
theorem p_yes {n : Nat} {D : List (Int × Int)} {k : Nat} (hk : k < D.length) (h : ((pL n D k).any fun x => decide (x = D[k].1)) = true) (h2 : ((pL n D k).any fun x => decide (x = D[k].2)) = true) :
    pL n D (k + 1) = ((pL n D k).erase D[k].1).erase D[k].2 ∧ pC n D (k + 1) = pC n D k ++ [D[k]] := by
  unfold pL pC at *
  rw [List.take_add_one, List.getElem?_eq_getElem hk, List.foldl_append]
  simp only [Option.toList, List.foldl_cons, List.foldl_nil, pstep, h, h2, Bool.and_self, if_true]
  exact ⟨trivial, trivial⟩
theorem p_no {n : Nat} {D : List (Int × Int)} {k : Nat} (hk : k < D.length) (h : ((pL n D k).any fun x => decide (x = D[k].1)) = false ∨ ((pL n D k).any fun x => decide (x = D[k].2)) = false) :
    pL n D (k + 1) = pL n D k ∧ pC n D (k + 1) = pC n D k := by
  have e : (((pL n D k).any fun x => decide (x = D[k].1)) && ((pL n D k).any fun x => decide (x = D[k].2))) = false := by
    rcases h with h | h <;> simp [h]
  unfold pL pC at *
  rw [List.take_add_one, List.getElem?_eq_getElem hk, List.foldl_append]
  simp only [Option.toList, List.foldl_cons, List.foldl_nil, pstep, e, Bool.false_eq_true, if_false]
  exact ⟨trivial, trivial⟩
theorem pC_le (n : Nat) (D : List (Int × Int)) (k : Nat) (hk : k ≤ D.length) : (pC n D k).length ≤ k := by
  induction k with
  | zero => simp [pC]
  | succ k ih =>
    have := ih (by omega)
    by_cases h : ((pL n D k).any fun x => decide (x = D[k].1)) = true ∧ ((pL n D k).any fun x => decide (x = D[k].2)) = true
    · rw [(p_yes (by omega) h.1 h.2).2]; simp; omega
    · rw [(p_no (by omega) (by rcases Decidable.not_and_iff_or_not.1 h with h | h; exact .inl (Bool.eq_false_iff.2 h); exact .inr (Bool.eq_false_iff.2 h))).2]; omega
theorem any_mem (L : List Int) (a : Int) : (L.any fun x => decide (x = a)) = decide (a ∈ L) := by
  rw [Bool.eq_iff_iff, List.any_eq_true]
  simp
theorem proof_fold (d : Nat → Bool) (n : Nat) : ∀ m, m + 1 ≤ n ∨ m = 0 →
    let a := (prsL d m).foldl pstep (allN n, [])
    a.2 = prf1 d m ∧ a.1.Nodup ∧ (m < n → ((m : Int) ∈ a.1 ↔ prf2 d m < m)) ∧ ∀ x : Int, (m : Int) < x → x < n → x ∈ a.1 := by
  intro m
  induction m with
  | zero =>
    intro _
    refine ⟨rfl, allN_nodup n, fun h => ?_, fun x h1 h2 => ?_⟩
    · simp only [prsL, List.range_zero, List.filter_nil, List.map_nil, List.foldl_nil, prf2_zero]
      rw [mem_allN]; omega
    · simp only [prsL, List.range_zero, List.filter_nil, List.map_nil, List.foldl_nil]
      rw [mem_allN]; omega
  | succ m ih =>
    intro hm
    obtain ⟨h1, h2, h3, h4⟩ := ih (by omega)
    have hl2 := prf2_le d m
    have h3 := h3 (by omega)
    have h5 := h4 ((m : Int) + 1) (by omega) (by omega)
    rw [prsL_succ]
    by_cases hd : d m = true
    · rw [if_pos hd, List.foldl_append]
      simp only [List.foldl_cons, List.foldl_nil]
      generalize (prsL d m).foldl pstep (allN n, []) = A at *
      by_cases hin : (m : Int) ∈ A.1
      · have e : pstep A ((m : Int), (m : Int) + 1) = ((A.1.erase (m : Int)).erase ((m : Int) + 1), A.2 ++ [((m : Int), (m : Int) + 1)]) := by
          unfold pstep
          rw [any_mem, any_mem]; simp [hin, h5]
        rw [e]
        obtain ⟨g1, g2⟩ := prf_yes (h3.1 hin) hd
        refine ⟨by rw [g1, ← h1], (h2.erase _).erase _, fun _ => ?_, fun x q1 q2 => ?_⟩
        · rw [g2]
          constructor
          · intro q
            have := ((h2.erase _).mem_erase_iff.1 q).1
            exact absurd (by push_cast; rfl) this
          · intro q; push_cast at q; omega
        · rw [(h2.erase _).mem_erase_iff, h2.mem_erase_iff]
          push_cast at q1
          exact ⟨by omega, by omega, h4 x (by omega) q2⟩
      · have e : pstep A ((m : Int), (m : Int) + 1) = A := by
          unfold pstep
          rw [any_mem, any_mem]; simp [hin]
        rw [e]
        obtain ⟨g1, g2⟩ := prf_no (d := d) (k := m) (.inl (fun q => hin (h3.2 q)))
        refine ⟨by rw [g1, ← h1], h2, fun _ => ?_, fun x q1 q2 => h4 x (by push_cast at q1; omega) q2⟩
        rw [g2]
        push_cast
        exact ⟨fun _ => by omega, fun _ => h5⟩
    · rw [if_neg hd]
      obtain ⟨g1, g2⟩ := prf_no (d := d) (k := m) (.inr (by simpa using hd))
      refine ⟨by rw [g1, ← h1], h2, fun _ => ?_, fun x q1 q2 => h4 x (by push_cast at q1; omega) q2⟩
      rw [g2]
      push_cast
      exact ⟨fun _ => by omega, fun _ => h5⟩
theorem HProof_ok (r : Ro) (hr : OKr r) : Gives Try.prog 25 [roE 0 r] (fun n => .tup [ints n (tornL r), prs n (proofL r), i64 (roundE r)]) := by
  refine pure_intro (ow := fun _ => false) Try.func25 Try.ntmps25 rfl (by kernel_rfl) (by simp) rfl (by decide) fun G hG hOw hNm hB => ?_
  simp only [go_sem, hG, hOw, reduceIte, Nat.reduceLeDiff, Nat.le_refl, Nat.reduceEqDiff, Nat.reduceAdd, Nat.reduceLT, reduceCtorEq, Int.toNat_natCast]
  by_cases he : roundE r = 0
  · have hg := good_of hr he
    have hsn := hg.sn
    rw [show tornL r = numsL (tornI r) r.shares.length by simp [tornL, he], he]
    obtain ⟨D, hD⟩ : ∃ D, D = prsL (differI r) (r.shares.length - 1) := ⟨_, rfl⟩
    have hDl : D.length ≤ 8 := by rw [hD]; have := prsL_le (differI r) (r.shares.length - 1); omega
    have hp : proofL r = pC r.shares.length D D.length := by
      rw [show proofL r = prf1 (differI r) (r.shares.length - 1) by simp [proofL, he]]
      unfold pC
      rw [List.take_length, hD]
      exact (proof_fold (differI r) r.shares.length (r.shares.length - 1) (by omega)).1.symm
    rw [hp]
    refine call_pure (open_good r hr he) (by first | exact Subs.refl _ | (repeat' (first | exact Subs.nil | exact Sub.refl _ | exact Sub.lo (Nat.zero_le _) | refine Subs.cons ?_ ?_ | refine Subs.agg ?_ | refine Subs.fp ?_ | refine Subs.tup ?_ | refine Sub.map (Nat.zero_le _) (fun _ => ?_)))) (by first | rfl | simp [allP, all0, pureV, pure0, *]) (by simp [chk, hG]) ?_
    simp only [go_sem, hG, hOw, reduceIte, Nat.reduceLeDiff, Nat.le_refl, Nat.reduceEqDiff, Nat.reduceAdd, Nat.reduceLT, reduceCtorEq, Int.toNat_natCast]
    (repeat' (first | (with_reducible refine And.intro ?_ ?_) | (with_reducible intro _) | (with_reducible refine exP ?_ ?_))); all_goals (try omega)
    refine semC_cut (fun _ : Unit => St.of [(3, .v (.slice none 0 0)), (5, .fp (dkC G.lo r)), (6, .mp 98)] [(98, .map (.int .i64) (idsM (allN r.shares.length)))]) (fun _ => True) ?_ ?_
    · refine semC_loop (fun k : Nat => St.of [(3, .v (.slice none 0 0)), (5, .fp (dkC G.lo r)), (6, .mp 98), (24, i64 r.shares.length), (25, i64 k)] [(98, .map (.int .i64) (idsM (allN k)))]) (fun k => k ≤ r.shares.length) (fun k => r.shares.length - k) 0 (by simp) (ent_of [(98, some 18)] (by (simp only [go_sem, reduceIte, Nat.reduceLeDiff, Nat.le_refl, Nat.reduceEqDiff, Nat.reduceAdd, Nat.reduceLT, reduceCtorEq, Int.toNat_natCast]) <;> simp) (by (simp only [go_sem, entH, entH1, nilArr, obOK, reduceIte, Nat.reduceLeDiff, Nat.le_refl, Nat.reduceEqDiff, Nat.reduceAdd, Nat.reduceLT, reduceCtorEq, Int.toNat_natCast]) <;> simp) (by simp [injR, apart]) (by simp [coverR, usH]) (by simp [hNm, lkR, names])) ?_
      rintro k hk
      have hup := upM_all k
      refine vc_sound _ _ _ ?_
      simp (config := { maxSteps := 2000000 }) only [go_sem, hG, hOw, hup, reduceIte, Nat.reduceLeDiff, Nat.le_refl, Nat.reduceEqDiff, Nat.reduceAdd, Nat.reduceLT, reduceCtorEq, Int.toNat_natCast]
      (repeat' (first | (with_reducible refine And.intro ?_ ?_) | (with_reducible intro _) | (with_reducible refine exP ?_ ?_))); all_goals (try omega)
      · exact ⟨k + 1, by omega, by omega, ent_of [(98, some 98)] (by (simp only [go_sem, reduceIte, Nat.reduceLeDiff, Nat.le_refl, Nat.reduceEqDiff, Nat.reduceAdd, Nat.reduceLT, reduceCtorEq, Int.toNat_natCast]) <;> simp) (by (simp only [go_sem, entH, entH1, nilArr, obOK, reduceIte, Nat.reduceLeDiff, Nat.le_refl, Nat.reduceEqDiff, Nat.reduceAdd, Nat.reduceLT, reduceCtorEq, Int.toNat_natCast]) <;> simp) (by simp [injR, apart]) (by simp [coverR, usH]) (by simp [hNm, lkR, names])⟩
      · rename_i hge
        obtain rfl : k = r.shares.length := by omega
        exact ⟨(), ent_of [(98, some 98)] (by (simp only [go_sem, reduceIte, Nat.reduceLeDiff, Nat.le_refl, Nat.reduceEqDiff, Nat.reduceAdd, Nat.reduceLT, reduceCtorEq, Int.toNat_natCast]) <;> simp) (by (simp only [go_sem, entH, entH1, nilArr, obOK, reduceIte, Nat.reduceLeDiff, Nat.le_refl, Nat.reduceEqDiff, Nat.reduceAdd, Nat.reduceLT, reduceCtorEq, Int.toNat_natCast]) <;> simp) (by simp [injR, apart]) (by simp [coverR, usH]) (by simp [hNm, lkR, names])⟩
    rintro ⟨⟩ -
    have hdf := hdiffer_ok r hg
    rw [← hD] at hdf
    simp only [go_sem, hG, hOw, reduceIte, Nat.reduceLeDiff, Nat.le_refl, Nat.reduceEqDiff, Nat.reduceAdd, Nat.reduceLT, reduceCtorEq, Int.toNat_natCast]
    refine call_pure hdf (by first | exact Subs.refl _ | (repeat' (first | exact Subs.nil | exact Sub.refl _ | exact Sub.lo (Nat.zero_le _) | refine Subs.cons ?_ ?_ | refine Subs.agg ?_ | refine Subs.fp ?_ | refine Subs.tup ?_ | refine Sub.map (Nat.zero_le _) (fun _ => ?_)))) (by first | rfl | simp [allP, all0, pureV, pure0, *]) (by simp [chk, hG]) ?_
    simp only [go_sem, hG, hOw, reduceIte, Nat.reduceLeDiff, Nat.le_refl, Nat.reduceEqDiff, Nat.reduceAdd, Nat.reduceLT, reduceCtorEq, Int.toNat_natCast]
    (repeat' (first | (with_reducible refine And.intro ?_ ?_) | (with_reducible intro _) | (with_reducible refine exP ?_ ?_))); all_goals (try omega)
    refine semC_cut (fun _ : Unit => St.of [(3, .own 97 0 (pC r.shares.length D D.length).length 2), (5, .fp (dkC G.lo r))] [(97, .arr 95 2 ((pC r.shares.length D D.length).map prE))]) (fun _ => True) ?_ ?_
    · refine semC_loop (fun k : Nat => St.of [(3, .own 97 0 (pC r.shares.length D k).length 2), (5, .fp (dkC G.lo r)), (6, .mp 98), (32, prs G.lo D), (33, i64 D.length), (34, i64 k)] [(97, .arr 95 2 ((pC r.shares.length D k).map prE)), (98, .map (.int .i64) (idsM (pL r.shares.length D k)))]) (fun k => k ≤ D.length) (fun k => D.length - k) 0 (by simp) (ent_of [(97, none), (98, some 98)] (by (simp only [go_sem, reduceIte, Nat.reduceLeDiff, Nat.le_refl, Nat.reduceEqDiff, Nat.reduceAdd, Nat.reduceLT, reduceCtorEq, Int.toNat_natCast]) <;> simp) (by (simp only [go_sem, entH, entH1, nilArr, obOK, reduceIte, Nat.reduceLeDiff, Nat.le_refl, Nat.reduceEqDiff, Nat.reduceAdd, Nat.reduceLT, reduceCtorEq, Int.toNat_natCast]) <;> simp) (by simp [injR, apart]) (by simp [coverR, usH]) (by simp [hNm, lkR, names])) ?_
      rintro k hk
      have hle := pC_le r.shares.length D k hk
      obtain ⟨LL, hLL⟩ : ∃ LL, LL = pL r.shares.length D k := ⟨_, rfl⟩
      rw [← hLL]
      have i1 : Int.toNat 1 = 1 := rfl
      have hd1 : ∀ (L : List Int) (x : Int), delM (idsM L) (.int .i64 x) = idsM (L.erase x) := delM_ids
      refine vc_sound _ _ _ ?_
      simp (config := { maxSteps := 2000000 }) only [go_sem, hG, hOw, lkM_ids, i1, List.getElem?_cons_succ, List.getElem?_cons_zero, Option.getD_some, hd1, reduceIte, Nat.reduceLeDiff, Nat.le_refl, Nat.reduceEqDiff, Nat.reduceAdd, Nat.reduceLT, reduceCtorEq, Int.toNat_natCast]
      (repeat' (first | (with_reducible refine And.intro ?_ ?_) | (with_reducible intro _) | (with_reducible refine exP ?_ ?_))); all_goals (try omega)
      · rename_i q1 q2 q3
        rw [hLL] at q2 q3
        obtain ⟨e1, e2⟩ := p_yes (n := r.shares.length) (by omega : k < D.length) q2 q3
        refine ⟨k + 1, by omega, by omega, ?_⟩
        rw [e1, e2, ← hLL]
        exact ent_of [(97, some 51), (98, some 98)] (by (simp only [go_sem, reduceIte, Nat.reduceLeDiff, Nat.le_refl, Nat.reduceEqDiff, Nat.reduceAdd, Nat.reduceLT, reduceCtorEq, Int.toNat_natCast]) <;> simp [prE,i64]) (by (simp only [go_sem, entH, entH1, nilArr, obOK, reduceIte, Nat.reduceLeDiff, Nat.le_refl, Nat.reduceEqDiff, Nat.reduceAdd, Nat.reduceLT, reduceCtorEq, Int.toNat_natCast]) <;> simp [prE,i64]) (by simp [injR, apart]) (by simp [coverR, usH]) (by simp [hNm, lkR, names])
      · rename_i q1 q2 q3
        rw [hLL] at q3
        obtain ⟨e1, e2⟩ := p_no (n := r.shares.length) (by omega : k < D.length) (.inr q3)
        refine ⟨k + 1, by omega, by omega, ?_⟩
        rw [e1, e2, ← hLL]
        exact ent_of [(97, some 97), (98, some 98)] (by (simp only [go_sem, reduceIte, Nat.reduceLeDiff, Nat.le_refl, Nat.reduceEqDiff, Nat.reduceAdd, Nat.reduceLT, reduceCtorEq, Int.toNat_natCast]) <;> simp) (by (simp only [go_sem, entH, entH1, nilArr, obOK, reduceIte, Nat.reduceLeDiff, Nat.le_refl, Nat.reduceEqDiff, Nat.reduceAdd, Nat.reduceLT, reduceCtorEq, Int.toNat_natCast]) <;> simp) (by simp [injR, apart]) (by simp [coverR, usH]) (by simp [hNm, lkR, names])
      · rename_i q1 q2
        rw [hLL] at q2
        obtain ⟨e1, e2⟩ := p_no (n := r.shares.length) (by omega : k < D.length) (.inl q2)
        refine ⟨k + 1, by omega, by omega, ?_⟩
        rw [e1, e2, ← hLL]
        exact ent_of [(97, some 97), (98, some 98)] (by (simp only [go_sem, reduceIte, Nat.reduceLeDiff, Nat.le_refl, Nat.reduceEqDiff, Nat.reduceAdd, Nat.reduceLT, reduceCtorEq, Int.toNat_natCast]) <;> simp) (by (simp only [go_sem, entH, entH1, nilArr, obOK, reduceIte, Nat.reduceLeDiff, Nat.le_refl, Nat.reduceEqDiff, Nat.reduceAdd, Nat.reduceLT, reduceCtorEq, Int.toNat_natCast]) <;> simp) (by simp [injR, apart]) (by simp [coverR, usH]) (by simp [hNm, lkR, names])
      · rename_i q1
        obtain rfl : k = D.length := by omega
        exact ⟨(), ent_of [(97, some 97)] (by (simp only [go_sem, reduceIte, Nat.reduceLeDiff, Nat.le_refl, Nat.reduceEqDiff, Nat.reduceAdd, Nat.reduceLT, reduceCtorEq, Int.toNat_natCast]) <;> simp) (by (simp only [go_sem, entH, entH1, nilArr, obOK, reduceIte, Nat.reduceLeDiff, Nat.le_refl, Nat.reduceEqDiff, Nat.reduceAdd, Nat.reduceLT, reduceCtorEq, Int.toNat_natCast]) <;> simp) (by simp [injR, apart]) (by simp [coverR, usH]) (by simp [hNm, lkR, names])⟩
    rintro ⟨⟩ -
    simp only [go_sem, hG, hOw, reduceIte, Nat.reduceLeDiff, Nat.le_refl, Nat.reduceEqDiff, Nat.reduceAdd, Nat.reduceLT, reduceCtorEq, Int.toNat_natCast]
    refine call_pure (allTorn_ok r hg) (by first | exact Subs.refl _ | (repeat' (first | exact Subs.nil | exact Sub.refl _ | exact Sub.lo (Nat.zero_le _) | refine Subs.cons ?_ ?_ | refine Subs.agg ?_ | refine Subs.fp ?_ | refine Subs.tup ?_ | refine Sub.map (Nat.zero_le _) (fun _ => ?_)))) (by first | rfl | simp [allP, all0, pureV, pure0, *]) (by simp [chk, hG]) ?_
    simp only [go_sem, hG, hOw, reduceIte, Nat.reduceLeDiff, Nat.le_refl, Nat.reduceEqDiff, Nat.reduceAdd, Nat.reduceLT, reduceCtorEq, Int.toNat_natCast]
    (repeat' (first | (with_reducible refine And.intro ?_ ?_) | (with_reducible intro _) | (with_reducible refine exP ?_ ?_))); all_goals (try omega)
  · refine call_pure (open_bad r hr he) (by first | exact Subs.refl _ | (repeat' (first | exact Subs.nil | exact Sub.refl _ | exact Sub.lo (Nat.zero_le _) | refine Subs.cons ?_ ?_ | refine Subs.agg ?_ | refine Subs.fp ?_ | refine Subs.tup ?_ | refine Sub.map (Nat.zero_le _) (fun _ => ?_)))) (by first | rfl | simp [allP, all0, pureV, pure0, *]) (by simp [chk, hG]) ?_
    simp only [go_sem, hG, hOw, reduceIte, Nat.reduceLeDiff, Nat.le_refl, Nat.reduceEqDiff, Nat.reduceAdd, Nat.reduceLT, reduceCtorEq, Int.toNat_natCast]
    (repeat' (first | (with_reducible refine And.intro ?_ ?_) | (with_reducible intro _) | (with_reducible refine exP ?_ ?_))); all_goals (try omega)
    rw [show tornL r = [] by simp [tornL, he], show proofL r = [] by simp [proofL, he]]
    exact Subs.tup (.cons (.nil _ _) (.cons (.nil _ _) (.cons (.refl _) .nil)))
end Go.Proofs.Ytgeldamcekjdgaa
