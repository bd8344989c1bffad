import Derived.Test.YtfnohnjnncjidaaGreatDoorQP49
namespace Go.Proofs.YtfnohnjnncjidaaGreatDoor
open Go Pm
set_option linter.unusedSimpArgs false
set_option linter.unusedVariables false
set_option maxHeartbeats 4000000
set_option maxRecDepth 100000
theorem has_tri (l : List Int) (n : Int) (hl : l.length ≤ 1000) : Tri Tryz.prog 37 [.own 0 0 l.length 1, i64 n] [(0, .arr 3 1 (l.map intE))] (fun _ => .ret (bl (l.any fun x => decide (x = n))) [(0, .arr 3 1 (l.map intE))]) := by
  refine tri_intro (fun _ => false) Tryz.func37 Tryz.ntmps37 rfl (by kernel_rfl) (by simp) rfl (by decide) fun G hG hOw hNm => ?_; simp only [go_sem, hG, hOw]
  (repeat' (first | (with_reducible refine And.intro ?_ ?_) | (with_reducible intro _) | (with_reducible refine exP ?_ ?_))); all_goals (try omega)
  refine semC_loop (fun k : Nat => St.of [(1, i64 n), (7, .own 0 0 l.length 1), (8, i64 l.length), (9, i64 k)] [(0, .arr 3 1 (l.map intE))]) (fun k => k ≤ l.length ∧ (l.take k).all (fun x => !decide (x = n)) = true) (fun k => l.length - k) 0 (by simp) (ent_of [(0, some 0)] (by (simp only [go_sem]) <;> simp) (by (simp only [go_sem, entH, entH1, nilArr, obOK]) <;> simp) (by simp [injR, apart]) (by simp [coverR, usH]) (by simp [hNm, lkR, names])) ?_
  rintro k ⟨hk, hall⟩
  refine vc_sound _ _ _ ?_; simp only [go_sem, hG, hOw]
  (repeat' (first | (with_reducible refine And.intro ?_ ?_) | (with_reducible intro _) | (with_reducible refine exP ?_ ?_))); all_goals (try omega)
  · rename_i hlt h1
    have hkl : k < l.length := by omega
    rw [any_true (p := fun x => decide (x = n)) hkl (by simpa using h1)]
    exact ⟨[(0, some 0)], by (simp only [EndT, go_sem, entH, entH1, nilArr, obOK, apart, injR, coverR]) <;> simp⟩
  · rename_i hlt h1
    have hkl : k < l.length := by omega
    refine ⟨k + 1, ⟨by omega, ?_⟩, by omega, ent_of [(0, some 0)] (by (simp only [go_sem]) <;> simp) (by (simp only [go_sem, entH, entH1, nilArr, obOK]) <;> simp) (by simp [injR, apart]) (by simp [coverR, usH]) (by simp [hNm, lkR, names])⟩
    rw [List.take_add_one, List.getElem?_eq_getElem hkl, List.all_append, hall]
    simpa using h1
  · rename_i hge
    rw [List.take_of_length_le (by omega)] at hall
    rw [any_of_take hall]
    exact ⟨[(0, some 0)], by (simp only [EndT, go_sem, entH, entH1, nilArr, obOK, apart, injR, coverR]) <;> simp⟩
theorem enough_ok (T : List Int) (D : List (Int × Int)) (l : List Int) (hT : T.length ≤ 100) (hD : D.length ≤ 100) : Gives Tryz.prog 38 [ints 0 l, .fp [ints 0 T], .fp [prs 0 D]] (fun _ => bl (enB T D l)) := by
  have hf : ∀ k (hk : k < T.length), (l.any fun x => decide (x = T[k])) = false → false = enB T D l := fun k hk h => by
    unfold enB
    rw [List.all_eq_false.2 ⟨_, List.getElem_mem hk, by rw [h]; decide⟩]; rfl
  have hd : ∀ k (hk : k < D.length), (l.any fun x => decide (x = D[k].1)) = false → (l.any fun x => decide (x = D[k].2)) = false → false = enB T D l := fun k hk h h' => by
    unfold enB
    have : (D.all fun p => (l.any fun x => decide (x = p.1)) || l.any fun x => decide (x = p.2)) = false := List.all_eq_false.2 ⟨_, List.getElem_mem hk, by rw [h, h']; decide⟩
    rw [this]; simp
  refine pure_intro (ow := fun _ => false) Tryz.func38 Tryz.ntmps38 rfl (by kernel_rfl) (by simp) rfl (by decide) fun G hG hOw hNm hB => ?_; simp only [go_sem, hG, hOw]
  refine semC_cut (fun _ : Unit => St.of [(0, ints 0 l), (2, .fp [prs 0 D])] []) (fun _ => (T.all fun i => l.any fun x => decide (x = i)) = true) ?_ ?_
  · refine semC_loop (fun k : Nat => St.of [(0, ints 0 l), (2, .fp [prs 0 D]), (9, ints 0 T), (10, i64 T.length), (11, i64 k)] []) (fun k => k ≤ T.length ∧ ((T.take k).all fun i => l.any fun x => decide (x = i)) = true) (fun k => T.length - k) 0 (by simp) (ent_of0 (by (simp only [go_sem]) <;> simp) hNm) ?_
    rintro k ⟨hk, hall⟩
    refine vc_sound _ _ _ ?_; simp only [go_sem, hG, hOw]
    (repeat' (first | (with_reducible refine And.intro ?_ ?_) | (with_reducible intro _) | (with_reducible refine exP ?_ ?_))); all_goals (try omega)
    · rename_i hlt
      have hkl : k < T.length := by omega
      refine call_pure (has_ok l T[k]) (by first | exact Subs.refl _ | (repeat' (first | exact Subs.nil | exact Sub.refl _ | exact Sub.lo (Nat.zero_le _) | refine Subs.cons ?_ ?_ | refine Subs.agg ?_ | refine Subs.fp ?_ | refine Subs.tup ?_ | refine Sub.map (Nat.zero_le _) (fun _ => ?_)))) (by first | rfl | simp [allP, all0, pureV, pure0, *]) (by simp [chk, hG]) ?_
      simp only [go_sem, hG, hOw]
      (repeat' (first | (with_reducible refine And.intro ?_ ?_) | (with_reducible intro _) | (with_reducible refine exP ?_ ?_))); all_goals (try omega)
      · rename_i h; exact hf k hkl h
      · rename_i h
        refine ⟨k + 1, ⟨by omega, ?_⟩, by omega, ent_of0 (by (simp only [go_sem]) <;> simp) hNm⟩
        rw [List.take_add_one, List.getElem?_eq_getElem hkl, List.all_append, hall]
        simpa using h
    · rename_i hge
      rw [List.take_of_length_le (by omega)] at hall
      exact ⟨(), hall, ent_of0 (by (simp only [go_sem]) <;> simp) hNm⟩
  rintro ⟨⟩ hTa
  simp only [go_sem, hG, hOw]
  refine semC_loop (fun k : Nat => St.of [(0, ints 0 l), (20, prs 0 D), (21, i64 D.length), (22, i64 k)] []) (fun k => k ≤ D.length ∧ ((D.take k).all fun p => (l.any fun x => decide (x = p.1)) || l.any fun x => decide (x = p.2)) = true) (fun k => D.length - k) 0 (by simp) (ent_of0 (by (simp only [go_sem]) <;> simp) hNm) ?_
  rintro k ⟨hk, hall⟩
  refine vc_sound _ _ _ ?_; simp only [go_sem, hG, hOw]
  (repeat' (first | (with_reducible refine And.intro ?_ ?_) | (with_reducible intro _) | (with_reducible refine exP ?_ ?_))); all_goals (try omega)
  · rename_i hlt
    have hkl : k < D.length := by omega
    have go : ((l.any fun x => decide (x = D[k].1)) || l.any fun x => decide (x = D[k].2)) = true → ((D.take (k + 1)).all fun p => (l.any fun x => decide (x = p.1)) || l.any fun x => decide (x = p.2)) = true := fun h => by
      rw [List.take_add_one, List.getElem?_eq_getElem hkl, List.all_append, hall]
      simpa using h
    refine call_pure (has_ok l D[k].1) (by first | exact Subs.refl _ | (repeat' (first | exact Subs.nil | exact Sub.refl _ | exact Sub.lo (Nat.zero_le _) | refine Subs.cons ?_ ?_ | refine Subs.agg ?_ | refine Subs.fp ?_ | refine Subs.tup ?_ | refine Sub.map (Nat.zero_le _) (fun _ => ?_)))) (by first | rfl | simp [allP, all0, pureV, pure0, *]) (by simp [chk, hG]) ?_
    simp only [go_sem, hG, hOw]
    (repeat' (first | (with_reducible refine And.intro ?_ ?_) | (with_reducible intro _) | (with_reducible refine exP ?_ ?_))); all_goals (try omega)
    · rename_i h1
      refine call_pure (has_ok l D[k].2) (by first | exact Subs.refl _ | (repeat' (first | exact Subs.nil | exact Sub.refl _ | exact Sub.lo (Nat.zero_le _) | refine Subs.cons ?_ ?_ | refine Subs.agg ?_ | refine Subs.fp ?_ | refine Subs.tup ?_ | refine Sub.map (Nat.zero_le _) (fun _ => ?_)))) (by first | rfl | simp [allP, all0, pureV, pure0, *]) (by simp [chk, hG]) ?_
      simp only [go_sem, hG, hOw]
      (repeat' (first | (with_reducible refine And.intro ?_ ?_) | (with_reducible intro _) | (with_reducible refine exP ?_ ?_))); all_goals (try omega)
      · rename_i h2; exact hd k hkl h1 h2
      · rename_i h2
        exact ⟨k + 1, ⟨by omega, go (by rw [h2]; simp)⟩, by omega, ent_of0 (by (simp only [go_sem]) <;> simp) hNm⟩
    · rename_i h1
      exact ⟨k + 1, ⟨by omega, go (by rw [h1]; rfl)⟩, by omega, ent_of0 (by (simp only [go_sem]) <;> simp) hNm⟩
  · rename_i hge
    rw [List.take_of_length_le (by omega)] at hall
    unfold enB
    rw [hTa, hall]; rfl
end Go.Proofs.YtfnohnjnncjidaaGreatDoor
namespace Go.Proofs.YtfnohnjnncjidaaGreatDoor
open Go Pm
set_option linter.unusedSimpArgs false
set_option linter.unusedVariables false
set_option maxHeartbeats 4000000
set_option maxRecDepth 100000
theorem onceL_succ (T : List Int) (q : List (Int × Int)) (j : Nat) (hj : j < q.length) : onceL T q (j + 1) = onceL T q j ++ [q[j].1, q[j].2] := by
  unfold onceL
  rw [List.take_add_one, List.getElem?_eq_getElem hj, List.flatMap_append]
  simp
theorem onceL_len (T : List Int) (q : List (Int × Int)) (j : Nat) (hj : j ≤ q.length) : (onceL T q j).length = T.length + 2 * j := by
  unfold onceL
  rw [List.length_append]
  congr 1
  induction j with
  | zero => simp
  | succ j ih =>
    rw [List.take_add_one, List.getElem?_eq_getElem (by omega), List.flatMap_append, List.length_append, ih (by omega)]
    simp; omega
theorem HandProof_ok (r : Ro) (b : Nat) (hb : b < 256) : Gives Tryz.prog 5 [roE 0 r, .v (.int .u8 b)] (fun _ => bl true) := by
  cases hrd : readyB r with
  | false =>
    refine pure_intro (ow := fun _ => false) Tryz.func5 Tryz.ntmps5 rfl (by kernel_rfl) (by simp) rfl (by decide) fun G hG hOw hNm hB => ?_; simp only [go_sem, hG, hOw]
    refine call_pure alive_ok (Subs.refl _) rfl (by simp [chk, hG]) ?_
    simp only [go_sem, hG, hOw]
    refine call_pure (ready_ok r) (by first | exact Subs.refl _ | (repeat' (first | exact Subs.nil | exact Sub.refl _ | exact Sub.lo (Nat.zero_le _) | refine Subs.cons ?_ ?_ | refine Subs.agg ?_ | refine Subs.fp ?_ | refine Subs.tup ?_ | refine Sub.map (Nat.zero_le _) (fun _ => ?_)))) (by first | rfl | simp [allP, all0, pureV, pure0, *]) (by simp [chk, hG]) ?_
    simp (config := { maxSteps := 2000000 }) only [go_sem, hG, hOw, hrd]
    try (repeat' (first | (with_reducible refine And.intro ?_ ?_) | (with_reducible intro _) | (with_reducible refine exP ?_ ?_))); all_goals (try omega)
  | true =>
    obtain ⟨hr, hg⟩ := ready_good hrd
    have he := hg.e
    have hsn := hg.sn
    obtain ⟨T, hT⟩ : ∃ T, T = tornL r := ⟨_, rfl⟩
    obtain ⟨D, hD⟩ : ∃ D, D = differL r := ⟨_, rfl⟩
    obtain ⟨A, hA⟩ : ∃ A, A = againP r := ⟨_, rfl⟩
    obtain ⟨q, hq⟩ : ∃ q, q = proofL r := ⟨_, rfl⟩
    have hlen := proof_len r he
    have honce := once_ok r he
    have c1 := HTorn_ok r hr
    have c2 := HDiffer_ok r hr
    have c3 := HAgain_ok r hr
    have c4 := HProof_ok r hr
    rw [← hT, ← hA, ← hq] at hlen
    rw [← hT, ← hq, ← hD] at honce
    rw [he, ← hT] at c1
    rw [he, ← hD] at c2
    rw [he, ← hA] at c3
    rw [he, ← hT, ← hq] at c4
    have henough : enB T D A = true := by rw [hT, hD, hA]; exact again_enough r he
    have hneed : ∀ i, i < A.length → enB T D (A.take i ++ A.drop (i + 1)) = false := by rw [hT, hD, hA]; exact again_needs r he
    have hfirst : enB T D (numsL (fun i => b.testBit i) r.shares.length) = true → beforeB (numsL (fun i => b.testBit i) r.shares.length) A = false := by rw [hT, hD, hA]; exact again_first r he _
    have hTl : T.length ≤ 8 := by rw [hT]; simp only [tornL, he, reduceIte]; have := numsL_le (tornI r) r.shares.length; omega
    have hDl : D.length ≤ 8 := by rw [hD]; simp only [differL, he, reduceIte]; have := prsL_le (differI r) (r.shares.length - 1); omega
    have hql : q.length ≤ 8 := by rw [hq]; simp only [proofL, he, reduceIte]; have := prf1_le (differI r) (r.shares.length - 1); omega
    refine pure_intro (ow := fun i => [85,152,161].contains i) Tryz.func5 Tryz.ntmps5 rfl (by kernel_rfl) (by simp) rfl (by decide) fun G hG hOw hNm hB => ?_; simp only [go_sem, hG, hOw]
    refine call_pure alive_ok (Subs.refl _) rfl (by simp [chk, hG]) ?_
    simp only [go_sem, hG, hOw]
    refine call_pure (ready_ok r) (by first | exact Subs.refl _ | (repeat' (first | exact Subs.nil | exact Sub.refl _ | exact Sub.lo (Nat.zero_le _) | refine Subs.cons ?_ ?_ | refine Subs.agg ?_ | refine Subs.fp ?_ | refine Subs.tup ?_ | refine Sub.map (Nat.zero_le _) (fun _ => ?_)))) (by first | rfl | simp [allP, all0, pureV, pure0, *]) (by simp [chk, hG]) ?_
    simp (config := { maxSteps := 2000000 }) only [go_sem, hG, hOw, hrd]
    refine call_pure c1 (by first | exact Subs.refl _ | (repeat' (first | exact Subs.nil | exact Sub.refl _ | exact Sub.lo (Nat.zero_le _) | refine Subs.cons ?_ ?_ | refine Subs.agg ?_ | refine Subs.fp ?_ | refine Subs.tup ?_ | refine Sub.map (Nat.zero_le _) (fun _ => ?_)))) (by first | rfl | simp [allP, all0, pureV, pure0, *]) (by simp [chk, hG]) ?_
    simp only [go_sem, hG, hOw]
    refine call_pure c2 (by first | exact Subs.refl _ | (repeat' (first | exact Subs.nil | exact Sub.refl _ | exact Sub.lo (Nat.zero_le _) | refine Subs.cons ?_ ?_ | refine Subs.agg ?_ | refine Subs.fp ?_ | refine Subs.tup ?_ | refine Sub.map (Nat.zero_le _) (fun _ => ?_)))) (by first | rfl | simp [allP, all0, pureV, pure0, *]) (by simp [chk, hG]) ?_
    simp only [go_sem, hG, hOw]
    refine call_pure c3 (by first | exact Subs.refl _ | (repeat' (first | exact Subs.nil | exact Sub.refl _ | exact Sub.lo (Nat.zero_le _) | refine Subs.cons ?_ ?_ | refine Subs.agg ?_ | refine Subs.fp ?_ | refine Subs.tup ?_ | refine Sub.map (Nat.zero_le _) (fun _ => ?_)))) (by first | rfl | simp [allP, all0, pureV, pure0, *]) (by simp [chk, hG]) ?_
    simp only [go_sem, hG, hOw]
    refine call_pure c4 (by first | exact Subs.refl _ | (repeat' (first | exact Subs.nil | exact Sub.refl _ | exact Sub.lo (Nat.zero_le _) | refine Subs.cons ?_ ?_ | refine Subs.agg ?_ | refine Subs.fp ?_ | refine Subs.tup ?_ | refine Sub.map (Nat.zero_le _) (fun _ => ?_)))) (by first | rfl | simp [allP, all0, pureV, pure0, *]) (by simp [chk, hG]) ?_
    simp only [go_sem, hG, hOw]
    (repeat' (first | (with_reducible refine And.intro ?_ ?_) | (with_reducible intro _) | (with_reducible refine exP ?_ ?_))); all_goals (try omega)
    refine call_pure (SameInts_ok T T) (by first | exact Subs.refl _ | (repeat' (first | exact Subs.nil | exact Sub.refl _ | exact Sub.lo (Nat.zero_le _) | refine Subs.cons ?_ ?_ | refine Subs.agg ?_ | refine Subs.fp ?_ | refine Subs.tup ?_ | refine Sub.map (Nat.zero_le _) (fun _ => ?_)))) (by first | rfl | simp [allP, all0, pureV, pure0, *]) (by simp [chk, hG]) ?_
    simp (config := { maxSteps := 2000000 }) only [go_sem, hG, hOw, decide_eq_true rfl]
    (repeat' (first | (with_reducible refine And.intro ?_ ?_) | (with_reducible intro _) | (with_reducible refine exP ?_ ?_))); all_goals (try omega)
    have nL := fun k => numsL_le (fun i => b.testBit i) k
    have sT : Pm.Sub (.fp [ints G.lo T]) (.fp [ints 0 T]) := Subs.fp (.cons (.lo (Nat.zero_le _)) .nil)
    have sD : Pm.Sub (.fp [prs G.lo D]) (.fp [prs 0 D]) := Subs.fp (.cons (.lo (Nat.zero_le _)) .nil)
    refine semC_cut (fun _ : Unit => St.of [(1, .v (.int .u8 b)), (2, .ptr 2 0), (5, bl true), (6, .ptr 6 0), (8, .ptr 8 0), (10, ints G.lo A)] [(2, .box (roC 0 r)), (6, .box [ints G.lo T]), (8, .box [prs G.lo D])]) (fun _ => True) ?_ ?_
    · refine semC_loop (fun k : Nat => St.of [(1, .v (.int .u8 b)), (2, .ptr 2 0), (5, bl true), (6, .ptr 6 0), (8, .ptr 8 0), (10, ints G.lo A), (15, .own 99 0 (onceL T q k).length 1), (88, prs G.lo q), (89, i64 q.length), (90, i64 k)] [(2, .box (roC 0 r)), (6, .box [ints G.lo T]), (8, .box [prs G.lo D]), (99, .arr 3 1 ((onceL T q k).map intE))]) (fun k => k ≤ q.length) (fun k => q.length - k) 0 (by simp) (ent_of [(2, some 2), (6, some 6), (8, some 8), (99, some 87)] (by (simp only [go_sem]) <;> simp [onceL]) (by (simp only [go_sem, entH, entH1, nilArr, obOK]) <;> simp [onceL]) (by simp [injR, apart]) (by simp [coverR, usH]) (by simp [hNm, lkR, names])) ?_
      rintro k hk
      have hol := onceL_len T q k hk
      refine vc_sound _ _ _ ?_; simp only [go_sem, hG, hOw]
      (repeat' (first | (with_reducible refine And.intro ?_ ?_) | (with_reducible intro _) | (with_reducible refine exP ?_ ?_))); all_goals (try omega)
      · rename_i hlt
        have hkl : k < q.length := by omega
        obtain ⟨o1, o2, o3⟩ := honce k hkl
        refine semC_cut (fun _ : Unit => St.of [(1, .v (.int .u8 b)), (2, .ptr 2 0), (5, bl true), (6, .ptr 6 0), (8, .ptr 8 0), (10, ints G.lo A), (15, .own 99 0 (onceL T q k).length 1), (17, .ptr 17 0), (18, bl true), (88, prs G.lo q), (89, i64 q.length), (90, i64 k)] [(2, .box (roC 0 r)), (6, .box [ints G.lo T]), (8, .box [prs G.lo D]), (17, .box (prE q[k])), (99, .arr 3 1 ((onceL T q k).map intE))]) (fun _ => True) ?_ ?_
        · refine semC_loop (fun j : Nat => St.of [(1, .v (.int .u8 b)), (2, .ptr 2 0), (5, bl true), (6, .ptr 6 0), (8, .ptr 8 0), (10, ints G.lo A), (15, .own 99 0 (onceL T q k).length 1), (17, .ptr 17 0), (18, bl ((D.take j).any fun y => decide (q[k] = y))), (88, prs G.lo q), (89, i64 q.length), (90, i64 k), (94, prs G.lo D), (95, i64 D.length), (96, i64 j)] [(2, .box (roC 0 r)), (6, .box [ints G.lo T]), (8, .box [prs G.lo D]), (17, .box (prE q[k])), (99, .arr 3 1 ((onceL T q k).map intE))]) (fun j => j ≤ D.length) (fun j => D.length - j) 0 (by simp) (ent_of [(2, some 2), (6, some 6), (8, some 8), (17, some 17), (99, some 99)] (by (simp only [go_sem]) <;> simp) (by (simp only [go_sem, entH, entH1, nilArr, obOK]) <;> simp) (by simp [injR, apart]) (by simp [coverR, usH]) (by simp [hNm, lkR, names])) ?_
          rintro j hj
          refine vc_sound _ _ _ ?_; simp only [go_sem, hG, hOw]
          (repeat' (first | (with_reducible refine And.intro ?_ ?_) | (with_reducible intro _) | (with_reducible refine exP ?_ ?_))); all_goals (try omega)
          · rename_i hlt h1
            have hjl : j < D.length := by omega
            have e := any_take_succ (p := fun y => decide (q[k] = y)) hjl
            rw [h1, Bool.false_or, show decide (q[k] = D[j]) = (decide (q[k].1 = D[j].1) && decide (q[k].2 = D[j].2)) from (by simp only [Prod.ext_iff]; exact Bool.decide_and ..)] at e
            refine ⟨j + 1, by omega, by omega, ?_⟩
            rw [e]
            exact ent_of [(2, some 2), (6, some 6), (8, some 8), (17, some 17), (99, some 99)] (by (simp only [go_sem]) <;> simp) (by (simp only [go_sem, entH, entH1, nilArr, obOK]) <;> simp) (by simp [injR, apart]) (by simp [coverR, usH]) (by simp [hNm, lkR, names])
          · rename_i hlt h1
            have hjl : j < D.length := by omega
            have e := any_take_succ (p := fun y => decide (q[k] = y)) hjl
            rw [h1, Bool.true_or] at e
            refine ⟨j + 1, by omega, by omega, ?_⟩
            rw [e]
            exact ent_of [(2, some 2), (6, some 6), (8, some 8), (17, some 17), (99, some 99)] (by (simp only [go_sem]) <;> simp) (by (simp only [go_sem, entH, entH1, nilArr, obOK]) <;> simp) (by simp [injR, apart]) (by simp [coverR, usH]) (by simp [hNm, lkR, names])
          · rename_i hge
            have e : D.take j = D := List.take_of_length_le (by omega)
            rw [e, o1]
            exact ⟨(), ent_of [(2, some 2), (6, some 6), (8, some 8), (17, some 17), (99, some 99)] (by (simp only [go_sem]) <;> simp) (by (simp only [go_sem, entH, entH1, nilArr, obOK]) <;> simp) (by simp [injR, apart]) (by simp [coverR, usH]) (by simp [hNm, lkR, names])⟩
        rintro ⟨⟩ -
        have i1 : Int.toNat 1 = 1 := rfl
        simp (config := { maxSteps := 2000000 }) only [go_sem, hG, hOw, i1]
        (repeat' (first | (with_reducible refine And.intro ?_ ?_) | (with_reducible intro _) | (with_reducible refine exP ?_ ?_))); all_goals (try omega)
        refine call_tri [(0, 99)] [] (has_tri (onceL T q k) q[k].1 (by omega)) (by (simp only [go_sem]) <;> simp) (by (simp only [go_sem, entH, entH1, nilArr, obOK]) <;> simp) (by simp [injR, apart, toR]) (by simp [coverR, usH, toR]) (by simp [uniqP, lkR, toR]) (by simp [chk, hG]) ?_
        simp (config := { maxSteps := 2000000 }) only [go_sem, hG, hOw, o2, i1]
        (repeat' (first | (with_reducible refine And.intro ?_ ?_) | (with_reducible intro _) | (with_reducible refine exP ?_ ?_))); all_goals (try omega)
        refine call_tri [(0, 99)] [] (has_tri (onceL T q k) q[k].2 (by omega)) (by (simp only [go_sem]) <;> simp) (by (simp only [go_sem, entH, entH1, nilArr, obOK]) <;> simp) (by simp [injR, apart, toR]) (by simp [coverR, usH, toR]) (by simp [uniqP, lkR, toR]) (by simp [chk, hG]) ?_
        simp (config := { maxSteps := 2000000 }) only [go_sem, hG, hOw, o3, i1]
        (repeat' (first | (with_reducible refine And.intro ?_ ?_) | (with_reducible intro _) | (with_reducible refine exP ?_ ?_))); all_goals (try omega)
        have e := onceL_succ T q k hkl
        refine ⟨k + 1, by omega, by omega, ?_⟩
        rw [e]
        exact ent_of [(2, some 2), (6, some 6), (8, some 8), (99, some 127)] (by (simp only [go_sem]) <;> simp [intE,i64]) (by (simp only [go_sem, entH, entH1, nilArr, obOK]) <;> simp [intE,i64]) (by simp [injR, apart]) (by simp [coverR, usH]) (by simp [hNm, lkR, names])
      · rename_i hge
        exact ⟨(), ent_of [(2, some 2), (6, some 6), (8, some 8)] (by (simp only [go_sem]) <;> simp) (by (simp only [go_sem, entH, entH1, nilArr, obOK]) <;> simp) (by simp [injR, apart]) (by simp [coverR, usH]) (by simp [hNm, lkR, names])⟩
    rintro ⟨⟩ -
    simp only [go_sem, hG, hOw]
    (repeat' (first | (with_reducible refine And.intro ?_ ?_) | (with_reducible intro _) | (with_reducible refine exP ?_ ?_))); all_goals (try omega)
    refine semC_cut (fun _ : Unit => St.of [(5, bl true), (10, ints G.lo A), (21, .fn (.func 38) [.fp [ints G.lo T], .fp [prs G.lo D]]), (22, ints G.lo (numsL (fun i => b.testBit i) r.shares.length))] []) (fun _ => True) ?_ ?_
    · refine semC_loop (fun k : Nat => St.of [(1, .v (.int .u8 b)), (2, .ptr 2 0), (5, bl true), (6, .ptr 6 0), (8, .ptr 8 0), (10, ints G.lo A), (21, .fn (.func 38) [.ptr 6 0, .ptr 8 0]), (22, .own 99 0 (numsL (fun i => b.testBit i) k).length 1), (132, i64 r.shares.length), (133, i64 k)] [(2, .box (roC 0 r)), (6, .box [ints G.lo T]), (8, .box [prs G.lo D]), (99, .arr 3 1 ((numsL (fun i => b.testBit i) k).map intE))]) (fun k => k ≤ r.shares.length) (fun k => r.shares.length - k) 0 (by simp) (ent_of [(2, some 2), (6, some 6), (8, some 8), (99, none)] (by (simp only [go_sem]) <;> simp [numsL]) (by (simp only [go_sem, entH, entH1, nilArr, obOK]) <;> simp [numsL]) (by simp [injR, apart]) (by simp [coverR, usH]) (by simp [hNm, lkR, names])) ?_
      rintro k hk
      have hle := nL k
      have hbt := bit1 b k
      have hq0 : (0 : Int) ≤ (b : Int) / 2 ^ k := Int.ediv_nonneg (by omega) (Int.pow_nonneg (by decide))
      have hq2 : (b : Int) / 2 ^ k ≤ b := Int.ediv_le_self _ (by omega)
      refine vc_sound _ _ _ ?_
      simp (config := { maxSteps := 2000000 }) only [go_sem, hG, hOw, hbt]
      (repeat' (first | (with_reducible refine And.intro ?_ ?_) | (with_reducible intro _) | (with_reducible refine exP ?_ ?_))); all_goals (try omega)
      · rename_i h1 h2
        have e1 := numsL_succ (fun i => b.testBit i) k
        have hb2 : b.testBit k = true := by
          by_cases h : b.testBit k = true
          · exact h
          · simp [h] at h2
        rw [if_pos hb2] at e1
        refine ⟨k + 1, by omega, by omega, ?_⟩
        rw [e1]
        exact ent_of [(2, some 2), (6, some 6), (8, some 8), (99, some 144)] (by (simp only [go_sem]) <;> simp [intE,i64]) (by (simp only [go_sem, entH, entH1, nilArr, obOK]) <;> simp [intE,i64]) (by simp [injR, apart]) (by simp [coverR, usH]) (by simp [hNm, lkR, names])
      · rename_i h1 h2
        have e1 := numsL_succ (fun i => b.testBit i) k
        have hb2 : ¬ b.testBit k = true := by
          intro h
          simp [h] at h2
        rw [if_neg hb2] at e1
        refine ⟨k + 1, by omega, by omega, ?_⟩
        rw [e1]
        exact ent_of [(2, some 2), (6, some 6), (8, some 8), (99, some 99)] (by (simp only [go_sem]) <;> simp) (by (simp only [go_sem, entH, entH1, nilArr, obOK]) <;> simp) (by simp [injR, apart]) (by simp [coverR, usH]) (by simp [hNm, lkR, names])
      · rename_i hge
        obtain rfl : k = r.shares.length := by omega
        refine ⟨(), ent_frz (fun i => [6, 8, 99].contains i) ?_⟩
        exact ent_of [] (by (simp only [go_sem]) <;> simp [sT,sD]) (by (simp only [go_sem, entH, entH1, nilArr, obOK]) <;> simp [sT,sD]) (by simp [injR, apart]) (by simp [coverR, usH]) (by simp [hNm, lkR, names])
    rintro ⟨⟩ -
    simp only [go_sem, hG, hOw]
    (repeat' (first | (with_reducible refine And.intro ?_ ?_) | (with_reducible intro _) | (with_reducible refine exP ?_ ?_))); all_goals (try omega)
    refine semC_cut (fun _ : Unit => St.of [(5, bl true), (10, ints G.lo A), (21, .fn (.func 38) [.fp [ints G.lo T], .fp [prs G.lo D]]), (22, ints G.lo (numsL (fun i => b.testBit i) r.shares.length))] []) (fun _ => True) ?_ ?_
    · refine semC_loop (fun k : Nat => St.of [(5, bl true), (10, ints G.lo A), (21, .fn (.func 38) [.fp [ints G.lo T], .fp [prs G.lo D]]), (22, ints G.lo (numsL (fun i => b.testBit i) r.shares.length)), (147, i64 A.length), (148, i64 k)] []) (fun k => k ≤ A.length) (fun k => A.length - k) 0 (by simp) (ent_of0 (by (simp only [go_sem]) <;> simp) hNm) ?_
      rintro k hk
      refine vc_sound _ _ _ ?_; simp only [go_sem, hG, hOw]
      (repeat' (first | (with_reducible refine And.intro ?_ ?_) | (with_reducible intro _) | (with_reducible refine exP ?_ ?_))); all_goals (try omega)
      · rename_i hlt
        have hkl : k < A.length := by omega
        refine semC_draw0 mixed (by kernel_rfl) ?_
        simp only [go_sem, hG, hOw]
        (repeat' (first | (with_reducible refine And.intro ?_ ?_) | (with_reducible intro _) | (with_reducible refine exP ?_ ?_))); all_goals (try omega)
        have hen := enough_ok T D (A.take k ++ A.drop (k + 1)) (by omega) (by omega)
        rw [hneed k hkl] at hen
        refine ⟨_, callGives hen (.cons (by rw [show ((k : Int) + 1).toNat = k + 1 by omega]; exact .lo (Nat.zero_le _)) (.cons sT (.cons sD .nil))) rfl, ?_⟩
        simp only [go_sem, hG, hOw]
        (repeat' (first | (with_reducible refine And.intro ?_ ?_) | (with_reducible intro _) | (with_reducible refine exP ?_ ?_))); all_goals (try omega)
        exact ⟨k + 1, by omega, by omega, ent_of [] (by (simp only [go_sem]) <;> simp) (by (simp only [go_sem, entH, entH1, nilArr, obOK]) <;> simp) (by simp [injR, apart]) (by simp [coverR, usH]) (by simp [hNm, lkR, names])⟩
      · rename_i hge
        exact ⟨(), ent_of [] (by (simp only [go_sem]) <;> simp) (by (simp only [go_sem, entH, entH1, nilArr, obOK]) <;> simp) (by simp [injR, apart]) (by simp [coverR, usH]) (by simp [hNm, lkR, names])⟩
    rintro ⟨⟩ -
    simp only [go_sem, hG, hOw]
    (repeat' (first | (with_reducible refine And.intro ?_ ?_) | (with_reducible intro _) | (with_reducible refine exP ?_ ?_))); all_goals (try omega)
    have hen := enough_ok T D A (by omega) (by omega)
    rw [henough] at hen
    refine call_pure hen (.cons (.lo (Nat.zero_le _)) (.cons sT (.cons sD .nil))) rfl (by simp [chk, hG]) ?_
    simp only [go_sem, hG, hOw]
    (repeat' (first | (with_reducible refine And.intro ?_ ?_) | (with_reducible intro _) | (with_reducible refine exP ?_ ?_))); all_goals (try omega)
    have hen2 := enough_ok T D (numsL (fun i => b.testBit i) r.shares.length) (by omega) (by omega)
    cases hot : enB T D (numsL (fun i => b.testBit i) r.shares.length) with
    | false =>
      rw [hot] at hen2
      refine call_pure hen2 (.cons (.lo (Nat.zero_le _)) (.cons sT (.cons sD .nil))) rfl (by simp [chk, hG]) ?_
      simp only [go_sem, hG, hOw]
      try (repeat' (first | (with_reducible refine And.intro ?_ ?_) | (with_reducible intro _) | (with_reducible refine exP ?_ ?_))); all_goals (try omega)
    | true =>
      rw [hot] at hen2
      have hbf := Before_ok (numsL (fun i => b.testBit i) r.shares.length) A
      rw [hfirst hot] at hbf
      refine call_pure hen2 (.cons (.lo (Nat.zero_le _)) (.cons sT (.cons sD .nil))) rfl (by simp [chk, hG]) ?_
      simp only [go_sem, hG, hOw]
      (repeat' (first | (with_reducible refine And.intro ?_ ?_) | (with_reducible intro _) | (with_reducible refine exP ?_ ?_))); all_goals (try omega)
      refine call_pure hbf (.cons (.lo (Nat.zero_le _)) (.cons (.lo (Nat.zero_le _)) .nil)) rfl (by simp [chk, hG]) ?_
      simp only [go_sem, hG, hOw]
      try (repeat' (first | (with_reducible refine And.intro ?_ ?_) | (with_reducible intro _) | (with_reducible refine exP ?_ ?_))); all_goals (try omega)
end Go.Proofs.YtfnohnjnncjidaaGreatDoor
