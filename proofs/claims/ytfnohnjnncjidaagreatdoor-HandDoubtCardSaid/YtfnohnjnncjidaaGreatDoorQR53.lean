import Derived.Test.YtfnohnjnncjidaaGreatDoorQR51
import Derived.Test.YtfnohnjnncjidaaGreatDoorQR52
namespace Go.Proofs.YtfnohnjnncjidaaGreatDoor
open Go Pm
set_option linter.unusedSimpArgs false
set_option linter.unusedVariables false
set_option maxHeartbeats 4000000
set_option maxRecDepth 100000
abbrev hdF (lo : Nat) (r : Ro) (A : List Int) (D M : List Sl) (i a : Nat) (num : Int) : List (Nat × V) := [(2, .ptr 2 0), (5, bl true), (6, sls lo D), (8, ints lo A), (12, i64 a), (13, i64 num), (62, sls lo M), (63, i64 M.length), (64, i64 i)]
theorem HandDoubt_ok (r : Ro) (c : Cu) (hc : 0 ≤ c.s ∧ c.s ≤ 255) : Gives Tryz.prog 12 [roE 0 r, .agg (cuC c)] (fun _ => bl true) := by
  cases hrd : readyB r with
  | false =>
    refine pure_intro (ow := fun _ => false) Tryz.func12 Tryz.ntmps12 rfl (by kernel_rfl) (by simp) rfl (by decide) fun G hG hOw hNm hB => ?_; simp only [go_sem, hG, hOw]
    refine call_pure alive_ok (Subs.refl _) rfl (by simp [chk, hG]) ?_
    simp only [go_sem, hG, hOw]
    refine call_pureA (ready_ok r) ?_
    simp (config := { maxSteps := 2000000 }) only [go_sem, hG, hOw, hrd]
    try (repeat' first | with_reducible refine And.intro ?_ ?_ | with_reducible intro _ | with_reducible refine exP ?_ ?_); all_goals try omega
  | true =>
    obtain ⟨hr, hg⟩ := ready_good hrd
    have hsn := hg.sn
    have hxn := hg.xn
    have hll := hg.ll
    cases hcb : cutB c with
    | false =>
      refine pure_intro (ow := fun _ => false) Tryz.func12 Tryz.ntmps12 rfl (by kernel_rfl) (by simp) rfl (by decide) fun G hG hOw hNm hB => ?_; simp only [go_sem, hG, hOw]
      refine call_pure alive_ok (Subs.refl _) rfl (by simp [chk, hG]) ?_
      simp only [go_sem, hG, hOw]
      refine call_pureA (ready_ok r) ?_
      simp (config := { maxSteps := 2000000 }) only [go_sem, hG, hOw, hrd]
      refine call_pureA (cut3_ok c hc) ?_
      simp (config := { maxSteps := 2000000 }) only [go_sem, hG, hOw, hcb]
      try (repeat' first | with_reducible refine And.intro ?_ ?_ | with_reducible intro _ | with_reducible refine exP ?_ ?_); all_goals try omega
    | true =>
      have ht := good_text hg
      have d1 := Doubt_ok r hr c hc
      have a1 := HAgain_ok r hr
      have s1 := All_ok r.text ht c hc hcb
      obtain ⟨e1, e2⟩ := doubt_good hg hcb
      rw [e1, e2] at d1
      rw [hg.e] at a1
      rw [all_dbt] at s1
      obtain ⟨f, hf⟩ : ∃ f, f = leftD r := ⟨_, rfl⟩
      obtain ⟨A, hA⟩ : ∃ A, A = againP r := ⟨_, rfl⟩
      obtain ⟨D, hD⟩ : ∃ D, D = dbtL c r.text f (linesL r.text).length := ⟨_, rfl⟩
      obtain ⟨M, hM⟩ : ∃ M, M = dbtL c r.text (fun _ => true) (linesL r.text).length := ⟨_, rfl⟩
      have hD1 : D.length ≤ 4000 := by rw [hD]; have := dbtL_len c r.text ht f (linesL r.text).length; omega
      have hM1 : M.length ≤ 4000 := by rw [hM]; have := dbtL_len c r.text ht (fun _ => true) (linesL r.text).length; omega
      rw [← hf, ← hD] at d1
      rw [← hM] at s1
      rw [← hA] at a1
      refine pure_intro (ow := fun _ => false) Tryz.func12 Tryz.ntmps12 rfl (by kernel_rfl) (by simp) rfl (by decide) fun G hG hOw hNm hB => ?_; simp only [go_sem, hG, hOw]
      refine call_pure alive_ok (Subs.refl _) rfl (by simp [chk, hG]) ?_
      simp only [go_sem, hG, hOw]
      refine call_pureA (ready_ok r) ?_
      simp (config := { maxSteps := 2000000 }) only [go_sem, hG, hOw, hrd]
      refine call_pureA (cut3_ok c hc) ?_
      simp (config := { maxSteps := 2000000 }) only [go_sem, hG, hOw, hcb]
      refine call_pure d1 (by first | exact Subs.refl _ | (repeat' (first | exact Subs.nil | exact Sub.refl _ | exact Sub.lo (Nat.zero_le _) | refine Subs.cons ?_ ?_ | refine Subs.agg ?_ | refine Subs.fp ?_ | refine Subs.tup ?_ | refine Sub.map (Nat.zero_le _) (fun _ => ?_)))) (by first | rfl | simp [allP, all0, pureV, pure0, *]) (by simp [chk, hG]) ?_
      simp only [go_sem, hG, hOw]
      refine call_pure a1 (by first | exact Subs.refl _ | (repeat' (first | exact Subs.nil | exact Sub.refl _ | exact Sub.lo (Nat.zero_le _) | refine Subs.cons ?_ ?_ | refine Subs.agg ?_ | refine Subs.fp ?_ | refine Subs.tup ?_ | refine Sub.map (Nat.zero_le _) (fun _ => ?_)))) (by first | rfl | simp [allP, all0, pureV, pure0, *]) (by simp [chk, hG]) ?_
      simp only [go_sem, hG, hOw]
      refine call_pure s1 (by first | exact Subs.refl _ | (repeat' (first | exact Subs.nil | exact Sub.refl _ | exact Sub.lo (Nat.zero_le _) | refine Subs.cons ?_ ?_ | refine Subs.agg ?_ | refine Subs.fp ?_ | refine Subs.tup ?_ | refine Sub.map (Nat.zero_le _) (fun _ => ?_)))) (by first | rfl | simp [allP, all0, pureV, pure0, *]) (by simp [chk, hG]) ?_
      simp only [go_sem, hG, hOw]
      (repeat' first | with_reducible refine And.intro ?_ ?_ | with_reducible intro _ | with_reducible refine exP ?_ ?_); all_goals try omega
      refine semC_cut (fun _ : Unit => St.of [(2, .ptr 2 0), (5, bl true), (6, sls G.lo D), (12, i64 D.length)] [(2, .box (roC 0 r))]) (fun _ => True) ?_ ?_
      · refine semC_loop (fun x : Nat × Nat × Nat × Nat => St.of (hdF G.lo r A D M x.1 x.2.1 (if x.2.2.2 = 0 then (x.2.2.1 : Int) - 1 else x.2.2.1)) [(2, .box (roC 0 r))]) (fun x => DbW c r.text f x.2.2.1 x.2.2.2 x.1 x.2.1) (fun x => M.length - x.1) (0, 0, 0, 0) (DbW.start ht c f) (entA [(2, some 2)]) ?_
        rintro ⟨i, a, n, w⟩ hW
        simp only at hW
        by_cases hn : n < (linesL r.text).length
        · have hwl : w < (lnSl c r.text n).length := by have := hW.wd; omega
          have hMi : M[i]? = some (lnSl c r.text n)[w] := by rw [hM, hW.i]; exact dbt_on c r.text _ n _ w hn rfl hwl
          obtain ⟨hil, hMe⟩ := List.getElem?_eq_some_iff.1 hMi
          have hpw : (M[i]).p.2.2 = w := by
            obtain ⟨_, _, _, h⟩ := lnSl_p c r.text n w hn hwl
            rw [hMe, h]
          have hal : a ≤ D.length := by
            have h1 := hW.a
            obtain ⟨R, h2, _⟩ := dbt_split c r.text f n _ hn
            have h3 := congrArg List.length h2
            rw [← hD, List.length_append, List.length_append] at h3
            split at h1
            · rename_i hfn
              rw [if_pos hfn] at h3; omega
            · omega
          have hlt : (i : Int) < M.length := by omega
          refine SemL.semC ?_
          simp only [flat, List.cons_append, List.nil_append, List.append_assoc, List.take_succ_cons, List.take_zero, List.take_nil, List.drop_succ_cons, List.drop_zero]
          refine vcN_sound 2 _ _ ?_
          simp (config := { maxSteps := 2000000 }) only [go_sem, hG, hOw, hlt]
          (repeat' first | with_reducible refine And.intro ?_ ?_ | with_reducible intro _ | with_reducible refine exP ?_ ?_); all_goals try omega
          refine semL_blk ?_
          simp only [flat, List.cons_append, List.nil_append, List.append_assoc, List.take_succ_cons, List.take_zero, List.take_nil, List.drop_succ_cons, List.drop_zero]
          refine semL_midN 3 (fun _ : Unit => St.of (hdF G.lo r A D M i a n ++ [(15, .ptr 15 0)]) [(2, .box (roC 0 r)), (15, .box (slC M[i]))]) (fun _ => True) ?_ ?_
          · simp only [flat, List.cons_append, List.nil_append, List.append_assoc, List.take_succ_cons, List.take_zero, List.take_nil, List.drop_succ_cons, List.drop_zero]
            refine vcN_sound 4 _ _ ?_
            by_cases hw0 : w = 0
            · have hw0' : ((w : Nat) : Int) = 0 := by omega
              simp (config := { maxSteps := 2000000 }) only [go_sem, hG, hOw, hpw, hw0, Int.sub_add_cancel]
              (repeat' first | with_reducible refine And.intro ?_ ?_ | with_reducible intro _ | with_reducible refine exP ?_ ?_); all_goals try omega
              exact ⟨(), entA [(2, some 2), (15, some 15)] (by (simp only [go_sem]) <;> simp [hpw,hw0]) (by (simp only [go_sem, entH, entH1, nilArr, obOK]) <;> simp [hpw,hw0])⟩
            · have hw0' : ¬ ((w : Nat) : Int) = 0 := by omega
              simp (config := { maxSteps := 2000000 }) only [go_sem, hG, hOw, hpw, hw0, hw0']
              (repeat' first | with_reducible refine And.intro ?_ ?_ | with_reducible intro _ | with_reducible refine exP ?_ ?_); all_goals try omega
              exact ⟨(), entA [(2, some 2), (15, some 15)] (by (simp only [go_sem]) <;> simp [hpw,hw0]) (by (simp only [go_sem, entH, entH1, nilArr, obOK]) <;> simp [hpw,hw0])⟩
          rintro ⟨⟩ -
          have hfn : f n = !sureN r A n r.shares.length := by rw [hf, hA]; exact left_sure r n hn
          refine semL_midN 3 (fun _ : Unit => St.of (hdF G.lo r A D M i a n ++ [(15, .ptr 15 0), (16, bl (!f n))]) [(2, .box (roC 0 r)), (15, .box (slC M[i]))]) (fun _ => True) ?_ ?_
          · simp only [flat, List.cons_append, List.nil_append, List.append_assoc, List.take_succ_cons, List.take_zero, List.take_nil, List.drop_succ_cons, List.drop_zero]
            refine vcN_sound 4 _ _ ?_
            simp only [go_sem, hG, hOw]
            refine semC_cutN (fun _ : Unit => St.of (hdF G.lo r A D M i a n ++ [(15, .ptr 15 0), (16, bl (!f n))]) [(2, .box (roC 0 r)), (15, .box (slC M[i]))]) (fun _ => True) ?_ ?_
            · refine semC_loop (fun k : Nat => St.of (hdF G.lo r A D M i a n ++ [(15, .ptr 15 0), (16, bl (sureN r A n k)), (75, srs 0 r.shares), (76, i64 r.shares.length), (77, i64 k)]) [(2, .box (roC 0 r)), (15, .box (slC M[i]))]) (fun k => k ≤ r.shares.length) (fun k => r.shares.length - k) 0 (by omega) (entA [(2, some 2), (15, some 15)] (by (simp only [go_sem]) <;> simp [sureN]) (by (simp only [go_sem, entH, entH1, nilArr, obOK]) <;> simp [sureN])) ?_
              rintro k hk
              by_cases hkl : k < r.shares.length
              · have hks : k < r.sheets.length := by omega
                have hlt3 : (k : Int) < r.shares.length := by omega
                have hS1 := sureN_succ r A n k
                have hha := has_ok A k
                have hat : sureAt r A n k = ((r.sheets[k].back && !(A.any fun y => decide (y = (k : Int)))) && inB n r.shares[k].fr r.shares[k].to) := by
                  unfold sureAt sureB
                  rw [List.getElem?_eq_getElem hks, List.getElem?_eq_getElem hkl]
                rw [hat] at hS1
                have key : ∀ b, sureN r A n (k + 1) = b → Ent G (St.of (hdF G.lo r A D M i a n ++ [(15, .ptr 15 0), (16, bl b), (75, srs 0 r.shares), (76, i64 r.shares.length), (77, i64 (k + 1))]) [(2, .box (roC 0 r)), (15, .box (slC M[i]))]) (St.of (hdF G.lo r A D M i a n ++ [(15, .ptr 15 0), (16, bl (sureN r A n (k + 1))), (75, srs 0 r.shares), (76, i64 r.shares.length), (77, i64 ((k + 1 : Nat) : Int))]) [(2, .box (roC 0 r)), (15, .box (slC M[i]))]) := by
                  rintro _ rfl
                  exact fun _ _ h => h
                refine vc_sound _ _ _ ?_
                cases hS : sureN r A n k with
                | true =>
                  rw [hS, Bool.true_or] at hS1
                  simp (config := { maxSteps := 2000000 }) only [go_sem, hG, hOw, hlt3]
                  (repeat' first | with_reducible refine And.intro ?_ ?_ | with_reducible intro _ | with_reducible refine exP ?_ ?_); all_goals try omega
                  refine ⟨k + 1, by omega, by omega, ?_⟩
                  rw [hS1]
                  exact entA [(2, some 2), (15, some 15)]
                | false =>
                  rw [hS, Bool.false_or] at hS1
                  cases hb : r.sheets[k].back with
                  | false =>
                    rw [hb] at hS1
                    simp (config := { maxSteps := 2000000 }) only [go_sem, hG, hOw, hlt3, hb]
                    (repeat' first | with_reducible refine And.intro ?_ ?_ | with_reducible intro _ | with_reducible refine exP ?_ ?_); all_goals try omega
                    refine ⟨k + 1, by omega, by omega, ?_⟩
                    rw [hS1]
                    exact entA [(2, some 2), (15, some 15)]
                  | true =>
                    rw [hb, Bool.true_and] at hS1
                    cases hh : (A.any fun y => decide (y = (k : Int))) with
                    | true =>
                      rw [hh] at hS1 hha
                      simp (config := { maxSteps := 2000000 }) only [go_sem, hG, hOw, hlt3, hb]
                      (repeat' first | with_reducible refine And.intro ?_ ?_ | with_reducible intro _ | with_reducible refine exP ?_ ?_); all_goals try omega
                      refine call_pure hha (by first | exact Subs.refl _ | (repeat' (first | exact Subs.nil | exact Sub.refl _ | exact Sub.lo (Nat.zero_le _) | refine Subs.cons ?_ ?_ | refine Subs.agg ?_ | refine Subs.fp ?_ | refine Subs.tup ?_ | refine Sub.map (Nat.zero_le _) (fun _ => ?_)))) (by first | rfl | simp [allP, all0, pureV, pure0, *]) (by simp [chk, hG]) ?_
                      simp only [go_sem, hG, hOw]
                      (repeat' first | with_reducible refine And.intro ?_ ?_ | with_reducible intro _ | with_reducible refine exP ?_ ?_); all_goals try omega
                      refine ⟨k + 1, by omega, by omega, ?_⟩
                      rw [hS1]
                      exact entA [(2, some 2), (15, some 15)]
                    | false =>
                      rw [hh, Bool.not_false, Bool.true_and] at hS1
                      rw [hh] at hha
                      simp only [inB] at hS1
                      simp (config := { maxSteps := 2000000 }) only [go_sem, hG, hOw, hlt3, hb]
                      (repeat' first | with_reducible refine And.intro ?_ ?_ | with_reducible intro _ | with_reducible refine exP ?_ ?_); all_goals try omega
                      refine call_pure hha (by first | exact Subs.refl _ | (repeat' (first | exact Subs.nil | exact Sub.refl _ | exact Sub.lo (Nat.zero_le _) | refine Subs.cons ?_ ?_ | refine Subs.agg ?_ | refine Subs.fp ?_ | refine Subs.tup ?_ | refine Sub.map (Nat.zero_le _) (fun _ => ?_)))) (by first | rfl | simp [allP, all0, pureV, pure0, *]) (by simp [chk, hG]) ?_
                      simp only [go_sem, hG, hOw]
                      (repeat' first | with_reducible refine And.intro ?_ ?_ | with_reducible intro _ | with_reducible refine exP ?_ ?_); all_goals try omega
                      · rename_i h1
                        rw [decide_eq_true h1, Bool.true_and] at hS1
                        refine ⟨k + 1, by omega, by omega, ?_⟩
                        rw [hS1]
                        exact entA [(2, some 2), (15, some 15)]
                      · rename_i h1
                        rw [decide_eq_false h1, Bool.false_and] at hS1
                        refine ⟨k + 1, by omega, by omega, ?_⟩
                        rw [hS1]
                        exact entA [(2, some 2), (15, some 15)]
              · obtain rfl : k = r.shares.length := by omega
                have hlt3 : ¬ (r.shares.length : Int) < r.shares.length := by omega
                refine vc_sound _ _ _ ?_; simp only [go_sem, hG, hOw]
                (repeat' first | with_reducible refine And.intro ?_ ?_ | with_reducible intro _ | with_reducible refine exP ?_ ?_); all_goals try omega
                exact ⟨(), entA [(2, some 2), (15, some 15)] (by (simp only [go_sem]) <;> simp [hfn]) (by (simp only [go_sem, entH, entH1, nilArr, obOK]) <;> simp [hfn])⟩
            rintro ⟨⟩ -
            simp only [go_sem, hG, hOw]
            exact ⟨(), entA [(2, some 2), (15, some 15)]⟩
          rintro ⟨⟩ -
          obtain ⟨n', w', hW', hnw⟩ := hW.next ht hn
          have hnum : (if w' = 0 then (n' : Int) - 1 else n') = n := by
            rcases hnw with ⟨rfl, rfl⟩ | ⟨rfl, rfl⟩
            · rw [if_neg (by omega)]
            · rw [if_pos rfl]; omega
          have tf : (true == false) = false := rfl
          have ft : (false == true) = false := rfl
          cases hfb : f n with
          | true =>
            have hDa : D[a]? = some M[i] := by
              rw [hD, hW.a, if_pos hfb, hMe]
              exact dbt_on c r.text f n _ w hn hfb hwl
            obtain ⟨hal2, hDe⟩ := List.getElem?_eq_some_iff.1 hDa
            have haI : (a : Int) < D.length := by omega
            rw [hfb, if_pos rfl] at hW'
            simp only [flat, List.cons_append, List.nil_append, List.append_assoc, List.take_succ_cons, List.take_zero, List.take_nil, List.drop_succ_cons, List.drop_zero]
            refine vcN_sound 6 _ _ ?_
            simp only [go_sem, hG, hOw]
            refine semC_draw0 mixed (by kernel_rfl) ?_
            simp (config := { maxSteps := 2000000 }) only [go_sem, hG, hOw, haI, hDe, decide_true, Bool.and_self, Bool.not_true, tf]
            (repeat' first | with_reducible refine And.intro ?_ ?_ | with_reducible intro _ | with_reducible refine exP ?_ ?_); all_goals try omega
            refine vcN_sound 2 _ _ ?_
            simp only [go_sem, hG, hOw]
            (repeat' first | with_reducible refine And.intro ?_ ?_ | with_reducible intro _ | with_reducible refine exP ?_ ?_); all_goals try omega
            exact ⟨(i + 1, a + 1, n', w'), hW', by simp only; omega, entA [(2, some 2)] (by (simp only [go_sem]) <;> simp [hnum]) (by (simp only [go_sem, entH, entH1, nilArr, obOK]) <;> simp [hnum])⟩
          | false =>
            rw [hfb, if_neg (by decide), Nat.add_zero] at hW'
            have hDa : D[a]? ≠ some M[i] := by
              rw [hD, hW.a, if_neg (by rw [hfb]; decide), hMe]
              exact dbt_off c r.text f n w hn hfb hwl
            by_cases hal2 : a < D.length
            · have haI : (a : Int) < D.length := by omega
              rw [List.getElem?_eq_getElem hal2] at hDa
              simp only [flat, List.cons_append, List.nil_append, List.append_assoc, List.take_succ_cons, List.take_zero, List.take_nil, List.drop_succ_cons, List.drop_zero]
              refine vcN_sound 6 _ _ ?_
              simp only [go_sem, hG, hOw]
              refine semC_draw0 mixed (by kernel_rfl) ?_
              simp (config := { maxSteps := 2000000 }) only [go_sem, hG, hOw, haI, decide_true, Bool.not_false, tf, ft]
              (repeat' first | with_reducible refine And.intro ?_ ?_ | with_reducible intro _ | with_reducible refine exP ?_ ?_); all_goals try omega
              · rename_i h1 h2
                simp only [Bool.and_eq_true, decide_eq_true_eq] at h1
                obtain ⟨b1, b2, b3, b4, b5, b6⟩ := h1
                exact (hDa (by rw [sl_ext (by omega) (by omega) (by omega) b4 b5 b6])).elim
              · rename_i h1 h2
                simp only [Bool.and_eq_true, decide_eq_true_eq] at h1
                obtain ⟨b1, b2, b3, b4, b5, b6⟩ := h1
                exact (hDa (by rw [sl_ext (by omega) (by omega) (by omega) b4 b5 b6])).elim
              · rename_i h1 h2
                rw [h1] at h2
                exact absurd h2 (by decide)
              · rename_i h1 h2
                refine vcN_sound 2 _ _ ?_
                simp only [go_sem, hG, hOw]
                (repeat' first | with_reducible refine And.intro ?_ ?_ | with_reducible intro _ | with_reducible refine exP ?_ ?_); all_goals try omega
                exact ⟨(i + 1, a, n', w'), hW', by simp only; omega, entA [(2, some 2)] (by (simp only [go_sem]) <;> simp [hnum]) (by (simp only [go_sem, entH, entH1, nilArr, obOK]) <;> simp [hnum])⟩
            · have haI : ¬ (a : Int) < D.length := by omega
              simp only [flat, List.cons_append, List.nil_append, List.append_assoc, List.take_succ_cons, List.take_zero, List.take_nil, List.drop_succ_cons, List.drop_zero]
              refine vcN_sound 6 _ _ ?_
              simp only [go_sem, hG, hOw]
              refine semC_draw0 mixed (by kernel_rfl) ?_
              simp (config := { maxSteps := 2000000 }) only [go_sem, hG, hOw, haI, decide_false, Bool.not_false, tf, ft]
              (repeat' first | with_reducible refine And.intro ?_ ?_ | with_reducible intro _ | with_reducible refine exP ?_ ?_); all_goals try omega
              refine vcN_sound 2 _ _ ?_
              simp only [go_sem, hG, hOw]
              (repeat' first | with_reducible refine And.intro ?_ ?_ | with_reducible intro _ | with_reducible refine exP ?_ ?_); all_goals try omega
              exact ⟨(i + 1, a, n', w'), hW', by simp only; omega, entA [(2, some 2)] (by (simp only [go_sem]) <;> simp [hnum]) (by (simp only [go_sem, entH, entH1, nilArr, obOK]) <;> simp [hnum])⟩
        · have hW1 := hW.wd
          have hnN : n = (linesL r.text).length := by omega
          have hw0 : w = 0 := by omega
          have hiM : i = M.length := by rw [hM, hW.i, hnN, hw0]; rfl
          have haD : a = D.length := by
            rw [hD, hW.a, hnN, hw0]; split <;> rfl
          have hlt : ¬ (i : Int) < M.length := by omega
          refine SemL.semC ?_
          simp only [flat, List.cons_append, List.nil_append, List.append_assoc, List.take_succ_cons, List.take_zero, List.take_nil, List.drop_succ_cons, List.drop_zero]
          refine vcN_sound 2 _ _ ?_
          simp (config := { maxSteps := 2000000 }) only [go_sem, hG, hOw, hlt]
          (repeat' first | with_reducible refine And.intro ?_ ?_ | with_reducible intro _ | with_reducible refine exP ?_ ?_); all_goals try omega
          rw [haD]
          exact ⟨(), entA [(2, some 2)]⟩
      rintro ⟨⟩ -
      simp only [go_sem, hG, hOw]
      try (repeat' first | with_reducible refine And.intro ?_ ?_ | with_reducible intro _ | with_reducible refine exP ?_ ?_); all_goals try omega
end Go.Proofs.YtfnohnjnncjidaaGreatDoor
