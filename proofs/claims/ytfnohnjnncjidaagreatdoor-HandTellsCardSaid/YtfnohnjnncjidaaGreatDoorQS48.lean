import Derived.Test.YtfnohnjnncjidaaGreatDoorQS17
import Derived.Test.YtfnohnjnncjidaaGreatDoorQS41
import Derived.Test.YtfnohnjnncjidaaGreatDoorQS42
import Derived.Test.YtfnohnjnncjidaaGreatDoorQS43
import Derived.Test.YtfnohnjnncjidaaGreatDoorQS47
namespace Go.Proofs.YtfnohnjnncjidaaGreatDoor
open Go Pm
set_option linter.unusedSimpArgs false
set_option linter.unusedVariables false
set_option maxHeartbeats 4000000
set_option maxRecDepth 100000
theorem again_same (r : Ro) (he : roundE r = 0) : againB r (2 ^ r.shares.length) = againP r := by
  unfold againP
  rw [if_pos he]
  exact (again_eq (tornI r) (differI r) r.shares.length).symm
theorem has05_ok (l : List Int) (n : Int) : Gives Tryz.prog 72 [ints 0 l, i64 n] (fun _ => bl (l.any fun x => decide (x = n))) := by
  refine pure_intro (ow := fun _ => false) Tryz.func72 Tryz.ntmps72 rfl (by kernel_rfl) (by simp) rfl (by decide) fun G hG hOw hNm hB => ?_; simp only [go_sem, hG, hOw]
  have hl := bd_lst hB (List.mem_cons_self ..)
  simp only [List.length_map] at hl
  (repeat' with_reducible first | refine And.intro ?_ ?_ | intro _ | refine exP ?_ ?_); all_goals try omega
  refine semC_loop (fun k : Nat => St.of [(0, ints 0 l), (1, i64 n), (5, i64 k)] []) (fun k => k ≤ l.length ∧ (l.take k).all (fun x => !decide (x = n)) = true) (fun k => l.length - k) 0 (by simp) (ent_of0 (by (simp only [go_sem]) <;> simp) hNm) ?_
  rintro k ⟨hk, hall⟩
  refine vc_sound _ _ _ ?_; simp only [go_sem, hG, hOw]
  (repeat' with_reducible first | refine And.intro ?_ ?_ | intro _ | refine exP ?_ ?_); all_goals try omega
  · rename_i hlt h1
    have hkl : k < l.length := by omega
    rw [any_true (p := fun x => decide (x = n)) hkl (by simpa using h1)]
  · rename_i hlt h1
    have hkl : k < l.length := by omega
    refine ⟨k + 1, ⟨by omega, ?_⟩, by omega, ent_of0 (by (simp only [go_sem]) <;> simp) hNm⟩
    rw [List.take_add_one, List.getElem?_eq_getElem hkl, List.all_append, hall]
    simpa using h1
  · rename_i hge
    rw [List.take_of_length_le (by omega)] at hall
    rw [any_of_take hall]
open Go Pm
set_option maxHeartbeats 4000000
set_option maxRecDepth 100000
abbrev rdF (lo : Nat) (A : List Int) (M X : List Sl) (i : Nat) (num : Int) (more : List (Nat × V)) : List (Nat × V) := [(2, .ptr 2 0), (3, .ptr 3 0), (8, ints lo A), (9, sls lo M), (11, .own 30 0 X.length 6), (12, i64 num), (13, i64 i)] ++ more
abbrev rdH (r : Ro) (c : Cu) (X : List Sl) : List (Nat × OB) := [(2, .box (roC 0 r)), (3, .box (cuC c)), (30, .arr 93 6 (X.map slC))]
theorem rd_sure (r : Ro) (hg : Good r) (c : Cu) (A : List Int) (M X : List Sl) (i n : Nat) {G : Gh} (hG : G.n = 98) (hOw : G.ow = fun _ => false) (hNm : G.nm = []) {Q : Exit → St → Prop}
    (hQ : ∀ st', Ent G st' (St.of (rdF G.lo A M X i n [(14, bl (sureN r A n r.shares.length))]) (rdH r c X)) → Q .normal st') :
    SemL Tryz.prog G (((flat (bkOf 1 Tryz.f19.body)).drop 2).take 3) (St.of (rdF G.lo A M X i n []) (rdH r c X)) Q := by
  have hsn := hg.sn
  have hxn := hg.xn
  have hll := hg.ll
  unfold Tryz.f19
  simp only [rgOf, bkOf, rgO, bkO, orElse, Option.bind_some, Option.getD_some, reduceIte, Nat.reduceEqDiff, reduceCtorEq]
  simp only [flat, List.cons_append, List.nil_append, List.append_assoc, List.take_succ_cons, List.take_zero, List.take_nil, List.drop_succ_cons, List.drop_zero]
  refine vcN_sound 4 _ _ ?_
  simp only [go_sem, hG, hOw]
  refine semC_loop (fun k : Nat => St.of (rdF G.lo A M X i n [(14, bl (sureN r A n k)), (15, i64 k)]) (rdH r c X)) (fun k => k ≤ r.shares.length) (fun k => r.shares.length - k) 0 (by omega) (entA [(2, some 2), (3, some 3), (30, some 30)] (by (simp only [go_sem]) <;> simp [sureN]) (by (simp only [go_sem, entH, entH1, nilArr, obOK]) <;> simp [sureN])) ?_
  rintro k hk
  by_cases hkl : k < r.shares.length
  · have hks : k < r.sheets.length := by omega
    have hlt3 : (k : Int) < r.shares.length := by omega
    have hS1 := sureN_succ r A n k
    have hha := has05_ok A k
    have hat : sureAt r A n k = ((r.sheets[k].back && !(A.any fun y => decide (y = (k : Int)))) && inB n r.shares[k].fr r.shares[k].to) := by
      unfold sureAt sureB
      rw [List.getElem?_eq_getElem hks, List.getElem?_eq_getElem hkl]
    rw [hat] at hS1
    have hwi := within05_ok n r.shares[k].fr r.shares[k].to
    refine vc_sound _ _ _ ?_
    cases hS : sureN r A n k with
    | true =>
      rw [hS, Bool.true_or] at hS1
      simp (maxSteps := 2000000) only [go_sem, hG, hOw, hlt3]
      (repeat' with_reducible first | refine And.intro ?_ ?_ | intro _ | refine exP ?_ ?_); all_goals try omega
      refine semC_draw0 mixed (by kernel_rfl) ?_
      simp only [go_sem, hG, hOw]
      (repeat' with_reducible first | refine And.intro ?_ ?_ | intro _ | refine exP ?_ ?_); all_goals try omega
      refine ⟨k + 1, by omega, by omega, ?_⟩
      rw [hS1]
      exact entA [(2, some 2), (3, some 3), (30, some 30)]
    | false =>
      rw [hS, Bool.false_or] at hS1
      cases hb : r.sheets[k].back with
      | false =>
        rw [hb] at hS1
        simp (maxSteps := 2000000) only [go_sem, hG, hOw, hlt3]
        (repeat' with_reducible first | refine And.intro ?_ ?_ | intro _ | refine exP ?_ ?_); all_goals try omega
        refine semC_draw0 mixed (by kernel_rfl) ?_
        simp (maxSteps := 2000000) only [go_sem, hG, hOw, hb]
        (repeat' with_reducible first | refine And.intro ?_ ?_ | intro _ | refine exP ?_ ?_); all_goals try omega
        refine ⟨k + 1, by omega, by omega, ?_⟩
        rw [hS1]
        exact entA [(2, some 2), (3, some 3), (30, some 30)]
      | true =>
        rw [hb, Bool.true_and] at hS1
        cases hh : (A.any fun y => decide (y = (k : Int))) with
        | true =>
          rw [hh] at hS1 hha
          simp (maxSteps := 2000000) only [go_sem, hG, hOw, hlt3]
          (repeat' with_reducible first | refine And.intro ?_ ?_ | intro _ | refine exP ?_ ?_); all_goals try omega
          refine semC_draw0 mixed (by kernel_rfl) ?_
          simp (maxSteps := 2000000) only [go_sem, hG, hOw, hb]
          (repeat' with_reducible first | refine And.intro ?_ ?_ | intro _ | refine exP ?_ ?_); all_goals try omega
          refine ⟨_, callGives hha (by first | exact Subs.refl _ | (repeat' (first | exact Subs.nil | exact Sub.refl _ | exact Sub.lo (Nat.zero_le _) | refine Subs.cons ?_ ?_ | refine Subs.agg ?_ | refine Subs.fp ?_ | refine Subs.tup ?_ | refine Sub.map (Nat.zero_le _) (fun _ => ?_)))) (by first | rfl | simp [allP, all0, pureV, pure0, *]), ?_⟩
          simp only [go_sem, hG, hOw]
          (repeat' with_reducible first | refine And.intro ?_ ?_ | intro _ | refine exP ?_ ?_); all_goals try omega
          refine ⟨k + 1, by omega, by omega, ?_⟩
          rw [hS1]
          exact entA [(2, some 2), (3, some 3), (30, some 30)]
        | false =>
          rw [hh, Bool.not_false, Bool.true_and] at hS1
          rw [hh] at hha
          generalize hBv : inB (n : Int) r.shares[k].fr r.shares[k].to = bv at hwi hS1
          simp (maxSteps := 2000000) only [go_sem, hG, hOw, hlt3]
          (repeat' with_reducible first | refine And.intro ?_ ?_ | intro _ | refine exP ?_ ?_); all_goals try omega
          refine semC_draw0 mixed (by kernel_rfl) ?_
          simp (maxSteps := 2000000) only [go_sem, hG, hOw, hb]
          (repeat' with_reducible first | refine And.intro ?_ ?_ | intro _ | refine exP ?_ ?_); all_goals try omega
          refine ⟨_, callGives hha (by first | exact Subs.refl _ | (repeat' (first | exact Subs.nil | exact Sub.refl _ | exact Sub.lo (Nat.zero_le _) | refine Subs.cons ?_ ?_ | refine Subs.agg ?_ | refine Subs.fp ?_ | refine Subs.tup ?_ | refine Sub.map (Nat.zero_le _) (fun _ => ?_)))) (by first | rfl | simp [allP, all0, pureV, pure0, *]), ?_⟩
          simp only [go_sem, hG, hOw]
          (repeat' with_reducible first | refine And.intro ?_ ?_ | intro _ | refine exP ?_ ?_); all_goals try omega
          refine ⟨_, callGives hwi (by first | exact Subs.refl _ | (repeat' (first | exact Subs.nil | exact Sub.refl _ | exact Sub.lo (Nat.zero_le _) | refine Subs.cons ?_ ?_ | refine Subs.agg ?_ | refine Subs.fp ?_ | refine Subs.tup ?_ | refine Sub.map (Nat.zero_le _) (fun _ => ?_)))) (by first | rfl | simp [allP, all0, pureV, pure0, *]), ?_⟩
          simp only [go_sem, hG, hOw]
          (repeat' with_reducible first | refine And.intro ?_ ?_ | intro _ | refine exP ?_ ?_); all_goals try omega
          refine ⟨k + 1, by omega, by omega, ?_⟩
          rw [hS1]
          exact entA [(2, some 2), (3, some 3), (30, some 30)]
  · obtain rfl : k = r.shares.length := by omega
    have hlt3 : ¬ (r.shares.length : Int) < r.shares.length := by omega
    refine vc_sound _ _ _ ?_
    simp (maxSteps := 2000000) only [go_sem, hG, hOw, hlt3]
    (repeat' with_reducible first | refine And.intro ?_ ?_ | intro _ | refine exP ?_ ?_); all_goals try omega
    refine hQ _ ?_
    exact entA [(2, some 2), (3, some 3), (30, some 30)]
open Go Pm
set_option maxHeartbeats 4000000
set_option maxRecDepth 100000
theorem RDoubt_ok (r : Ro) (hr : OKr r) (c : Cu) (hs : 0 ≤ c.s ∧ c.s ≤ 255) : Gives Tryz.prog 19 [roE 0 r, .agg (cuC c)] (fun n => .tup [sls n (doubtL r c), i64 (doubtE r c)]) := by
  by_cases he : roundE r = 0
  · have hg := good_of hr he
    have ht := good_text hg
    have hsn := hg.sn
    have hxn := hg.xn
    have hll := hg.ll
    cases hcb : cutB c with
    | false =>
      have e1 : doubtL r c = [] := by simp [doubtL, he, hcb]
      have e2 : doubtE r c = 30 := by simp [doubtE, he, hcb]
      rw [e1, e2]
      have hC := RCheck3_ok c hs
      rw [hcb] at hC
      refine pure_intro (ow := fun _ => false) Tryz.func19 Tryz.ntmps19 rfl (by kernel_rfl) (by simp) rfl (by decide) fun G hG hOw hNm hB => ?_; simp only [go_sem, hG, hOw]
      refine call_pureA (CheckR_ok r hr) ?_
      simp (maxSteps := 2000000) only [go_sem, hG, hOw, he]
      (repeat' with_reducible first | refine And.intro ?_ ?_ | intro _ | refine exP ?_ ?_); all_goals try omega
      refine call_pure hC (by first | exact Subs.refl _ | (repeat' (first | exact Subs.nil | exact Sub.refl _ | exact Sub.lo (Nat.zero_le _) | refine Subs.cons ?_ ?_ | refine Subs.agg ?_ | refine Subs.fp ?_ | refine Subs.tup ?_ | refine Sub.map (Nat.zero_le _) (fun _ => ?_)))) (by first | rfl | simp [allP, all0, pureV, pure0, *]) (by simp [chk, hG]) ?_
      simp only [go_sem, hG, hOw]
      (repeat' with_reducible first | refine And.intro ?_ ?_ | intro _ | refine exP ?_ ?_); all_goals try omega
      all_goals exact Subs.tup (.cons (.nil _ _) (.cons (.refl _) .nil))
    | true =>
      have hC := RCheck3_ok c hs
      rw [hcb] at hC
      have a1 := again_ok r hg
      have s1 := RAll3_ok r.text hr.t ht c hs hcb
      obtain ⟨e1, e2⟩ := doubt_good hg hcb
      rw [e1, e2]
      rw [all_dbt] at s1
      have eA : againB r (2 ^ r.shares.length) = againP r := again_same r he
      rw [eA] at a1
      obtain ⟨f, hf⟩ : ∃ f, f = leftD r := ⟨_, rfl⟩
      obtain ⟨A, hA⟩ : ∃ A, A = againP r := ⟨_, rfl⟩
      obtain ⟨D, hD⟩ : ∃ D, D = dbtL c r.text f (linesL r.text).length := ⟨_, rfl⟩
      obtain ⟨M, hM⟩ : ∃ M, M = dbtL c r.text (fun _ => true) (linesL r.text).length := ⟨_, rfl⟩
      have hD1 : D.length ≤ 4000 := by rw [hD]; have := dbtL_len c r.text ht f (linesL r.text).length; omega
      have hM1 : M.length ≤ 4000 := by rw [hM]; have := dbtL_len c r.text ht (fun _ => true) (linesL r.text).length; omega
      rw [← hf, ← hD]
      rw [← hM] at s1
      rw [← hA] at a1
      refine pure_intro (ow := fun _ => false) Tryz.func19 Tryz.ntmps19 rfl (by kernel_rfl) (by simp) rfl (by decide) fun G hG hOw hNm hB => ?_; simp only [go_sem, hG, hOw]
      refine call_pureA (CheckR_ok r hr) ?_
      simp (maxSteps := 2000000) only [go_sem, hG, hOw, he]
      (repeat' with_reducible first | refine And.intro ?_ ?_ | intro _ | refine exP ?_ ?_); all_goals try omega
      refine call_pure hC (by first | exact Subs.refl _ | (repeat' (first | exact Subs.nil | exact Sub.refl _ | exact Sub.lo (Nat.zero_le _) | refine Subs.cons ?_ ?_ | refine Subs.agg ?_ | refine Subs.fp ?_ | refine Subs.tup ?_ | refine Sub.map (Nat.zero_le _) (fun _ => ?_)))) (by first | rfl | simp [allP, all0, pureV, pure0, *]) (by simp [chk, hG]) ?_
      simp only [go_sem, hG, hOw]
      refine call_pure a1 (by first | exact Subs.refl _ | (repeat' (first | exact Subs.nil | exact Sub.refl _ | exact Sub.lo (Nat.zero_le _) | refine Subs.cons ?_ ?_ | refine Subs.agg ?_ | refine Subs.fp ?_ | refine Subs.tup ?_ | refine Sub.map (Nat.zero_le _) (fun _ => ?_)))) (by first | rfl | simp [allP, all0, pureV, pure0, *]) (by simp [chk, hG]) ?_
      simp only [go_sem, hG, hOw]
      refine call_pure s1 (by first | exact Subs.refl _ | (repeat' (first | exact Subs.nil | exact Sub.refl _ | exact Sub.lo (Nat.zero_le _) | refine Subs.cons ?_ ?_ | refine Subs.agg ?_ | refine Subs.fp ?_ | refine Subs.tup ?_ | refine Sub.map (Nat.zero_le _) (fun _ => ?_)))) (by first | rfl | simp [allP, all0, pureV, pure0, *]) (by simp [chk, hG]) ?_
      simp only [go_sem, hG, hOw]
      (repeat' with_reducible first | refine And.intro ?_ ?_ | intro _ | refine exP ?_ ?_); all_goals try omega
      refine semC_loop (fun x : Nat × Nat × Nat × Nat => St.of (rdF G.lo A M (D.take x.2.1) x.1 (if x.2.2.2 = 0 then (x.2.2.1 : Int) - 1 else x.2.2.1) []) (rdH r c (D.take x.2.1))) (fun x => DbW c r.text f x.2.2.1 x.2.2.2 x.1 x.2.1) (fun x => M.length - x.1) (0, 0, 0, 0) (DbW.start ht c f) (entA [(2, some 2), (3, some 3), (30, none)] (by (simp only [go_sem]) <;> simp [List.take_zero]) (by (simp only [go_sem, entH, entH1, nilArr, obOK]) <;> simp [List.take_zero])) ?_
      rintro ⟨i, a, n, w⟩ hW
      simp only at hW
      by_cases hn : n < (linesL r.text).length
      · have hwl : w < (lnSl c r.text n).length := by have := hW.wd; omega
        have hMi : M[i]? = some (lnSl c r.text n)[w] := by rw [hM, hW.i]; exact dbt_on c r.text _ n _ w hn rfl hwl
        obtain ⟨hil, hMe⟩ := List.getElem?_eq_some_iff.1 hMi
        have hpw : (M[i]).p.2.2 = w := by
          obtain ⟨_, _, _, h⟩ := lnSl_p c r.text n w hn hwl
          rw [hMe, h]
        have hlt : (i : Int) < M.length := by omega
        obtain ⟨n', w', hW', hnw⟩ := hW.next ht hn
        have hnum : (if w' = 0 then (n' : Int) - 1 else n') = n := by
          rcases hnw with ⟨rfl, rfl⟩ | ⟨rfl, rfl⟩
          · rw [if_neg (by omega)]
          · rw [if_pos rfl]; omega
        have hfn : f n = !sureN r A n r.shares.length := by rw [hf, hA]; exact left_sure r n hn
        have hal : a ≤ D.length := by
          have h1 := hW.a
          obtain ⟨R, h2, _⟩ := dbt_split c r.text f n _ hn
          have h3 := congrArg List.length h2
          rw [← hD, List.length_append, List.length_append] at h3
          split at h1
          · rename_i hfn
            rw [if_pos hfn] at h3; omega
          · omega
        obtain ⟨X, hX⟩ : ∃ X, X = D.take a := ⟨_, rfl⟩
        have hXl : X.length ≤ 4000 := by rw [hX, List.length_take]; omega
        rw [← hX]
        refine SemL.semC ?_
        simp only [flat, List.cons_append, List.nil_append, List.append_assoc, List.take_succ_cons, List.take_zero, List.take_nil, List.drop_succ_cons, List.drop_zero]
        refine vcN_sound 2 _ _ ?_
        simp (maxSteps := 2000000) only [go_sem, hG, hOw, hlt]
        (repeat' with_reducible first | refine And.intro ?_ ?_ | intro _ | refine exP ?_ ?_); all_goals try omega
        refine semL_blk ?_
        simp only [flat, List.cons_append, List.nil_append, List.append_assoc, List.take_succ_cons, List.take_zero, List.take_nil, List.drop_succ_cons, List.drop_zero]
        refine semL_midN 2 (fun _ : Unit => St.of (rdF G.lo A M X i n []) (rdH r c X)) (fun _ => True) ?_ ?_
        · simp only [flat, List.cons_append, List.nil_append, List.append_assoc, List.take_succ_cons, List.take_zero, List.take_nil, List.drop_succ_cons, List.drop_zero]
          refine vcN_sound 3 _ _ ?_
          by_cases hw0 : w = 0
          · have hw0' : ((w : Nat) : Int) = 0 := by omega
            simp (maxSteps := 2000000) only [go_sem, hG, hOw, hpw, hw0, Int.sub_add_cancel]
            (repeat' with_reducible first | refine And.intro ?_ ?_ | intro _ | refine exP ?_ ?_); all_goals try omega
            exact ⟨(), entA [(2, some 2), (3, some 3), (30, some 30)] (by (simp only [go_sem]) <;> simp [hpw,hw0]) (by (simp only [go_sem, entH, entH1, nilArr, obOK]) <;> simp [hpw,hw0])⟩
          · have hw0' : ¬ ((w : Nat) : Int) = 0 := by omega
            simp (maxSteps := 2000000) only [go_sem, hG, hOw, hpw, hw0, hw0']
            (repeat' with_reducible first | refine And.intro ?_ ?_ | intro _ | refine exP ?_ ?_); all_goals try omega
            exact ⟨(), entA [(2, some 2), (3, some 3), (30, some 30)] (by (simp only [go_sem]) <;> simp [hpw,hw0]) (by (simp only [go_sem, entH, entH1, nilArr, obOK]) <;> simp [hpw,hw0])⟩
        rintro ⟨⟩ -
        refine semL_midN 3 (fun _ : Unit => St.of (rdF G.lo A M X i n [(14, bl (sureN r A n r.shares.length))]) (rdH r c X)) (fun _ => True) (semL_code (by kernel_rfl) (rd_sure r hg c A M X i n hG hOw hNm fun st' h => ⟨(), trivial, fun a w hs => h a w hs⟩)) ?_
        rintro ⟨⟩ -
        simp only [flat, List.cons_append, List.nil_append, List.append_assoc, List.take_succ_cons, List.take_zero, List.take_nil, List.drop_succ_cons, List.drop_zero]
        refine vcN_sound 3 _ _ ?_
        cases hfb : f n with
        | true =>
          have hDa : D[a]? = some M[i] := by
            rw [hD, hW.a, if_pos hfb, hMe]
            exact dbt_on c r.text f n _ w hn hfb hwl
          obtain ⟨hal2, hDe⟩ := List.getElem?_eq_some_iff.1 hDa
          rw [hfb, if_pos rfl] at hW'
          have hsu : sureN r A n r.shares.length = false := by rw [hfb] at hfn; simpa using hfn.symm
          have et : D.take (a + 1) = X ++ [M[i]] := by rw [List.take_add_one, hDa, ← hX]; rfl
          simp (maxSteps := 2000000) only [go_sem, hG, hOw, hsu]
          (repeat' with_reducible first | refine And.intro ?_ ?_ | intro _ | refine exP ?_ ?_); all_goals try omega
          refine vcN_sound 2 _ _ ?_
          simp only [go_sem, hG, hOw]
          (repeat' with_reducible first | refine And.intro ?_ ?_ | intro _ | refine exP ?_ ?_); all_goals try omega
          refine ⟨(i + 1, a + 1, n', w'), hW', by simp only; omega, ?_⟩
          simp only
          have hmin : min (a + 1) D.length = X.length + 1 := by rw [hX, List.length_take]; omega
          rw [et]
          exact entA [(2, some 2), (3, some 3), (30, some 96)] (by (simp only [go_sem]) <;> simp [hnum,slC,i64,hmin]) (by (simp only [go_sem, entH, entH1, nilArr, obOK]) <;> simp [hnum,slC,i64,hmin])
        | false =>
          rw [hfb, if_neg (by decide), Nat.add_zero] at hW'
          have hsu : sureN r A n r.shares.length = true := by rw [hfb] at hfn; simpa using hfn.symm
          simp (maxSteps := 2000000) only [go_sem, hG, hOw, hsu]
          (repeat' with_reducible first | refine And.intro ?_ ?_ | intro _ | refine exP ?_ ?_); all_goals try omega
          refine vcN_sound 2 _ _ ?_
          simp only [go_sem, hG, hOw]
          (repeat' with_reducible first | refine And.intro ?_ ?_ | intro _ | refine exP ?_ ?_); all_goals try omega
          refine ⟨(i + 1, a, n', w'), hW', by simp only; omega, ?_⟩
          simp only
          have hmin : min a D.length = X.length := by rw [hX, List.length_take]
          rw [← hX]
          exact entA [(2, some 2), (3, some 3), (30, some 30)] (by (simp only [go_sem]) <;> simp [hnum,hmin]) (by (simp only [go_sem, entH, entH1, nilArr, obOK]) <;> simp [hnum,hmin])
      · have hW1 := hW.wd
        have hnN : n = (linesL r.text).length := by omega
        have hw0 : w = 0 := by omega
        have hiM : i = M.length := by rw [hM, hW.i, hnN, hw0]; rfl
        have haD : a = D.length := by
          rw [hD, hW.a, hnN, hw0]; split <;> rfl
        have hlt : ¬ (i : Int) < M.length := by omega
        have eD : D.take D.length = D := List.take_length
        rw [haD, eD]
        refine vc_sound _ _ _ ?_
        simp (maxSteps := 2000000) only [go_sem, hG, hOw, hlt]
        (repeat' with_reducible first | refine And.intro ?_ ?_ | intro _ | refine exP ?_ ?_); all_goals try omega
        all_goals exact .refl _
  · have e1 : doubtL r c = [] := by simp [doubtL, he]
    have e2 : doubtE r c = roundE r := by simp [doubtE, he]
    rw [e1, e2]
    refine pure_intro (ow := fun _ => false) Tryz.func19 Tryz.ntmps19 rfl (by kernel_rfl) (by simp) rfl (by decide) fun G hG hOw hNm hB => ?_; simp only [go_sem, hG, hOw]
    refine call_pureA (CheckR_ok r hr) ?_
    simp (maxSteps := 2000000) only [go_sem, hG, hOw, he]
    (repeat' with_reducible first | refine And.intro ?_ ?_ | intro _ | refine exP ?_ ?_); all_goals try omega
    all_goals exact Subs.tup (.cons (.nil _ _) (.cons (.refl _) .nil))
open Go Pm
set_option maxHeartbeats 4000000
set_option maxRecDepth 100000
abbrev raS (lo : Nat) (r : Ro) (day : Int) (A Z N : List Int) (last : Int) (more : List (Nat × V)) : St := St.of ([(1, i64 day), (2, .ptr 2 0), (8, ints lo A), (9, .own 26 0 N.length 1), (10, ints lo Z), (11, i64 last)] ++ more) [(2, .box (roC 0 r)), (26, .arr 3 1 (N.map intE))]
theorem RAssign_ok (r : Ro) (hr : OKr r) (day : Int) : Gives Tryz.prog 21 [roE 0 r, i64 day] (fun n => .tup [ints n (asgL r day), i64 (asgD r day), i64 (asgE r day)]) := by
  by_cases he : roundE r = 0
  · have hg := good_of hr he
    have hsn := hg.sn
    have hhn := hg.hn
    have hll := hg.ll
    cases hdy : inB day 0 400 with
    | false =>
      have e1 : asgE r day = 2 := by simp [asgE, he, hdy]
      have e2 : asgL r day = [] := by simp [asgL, e1]
      have e3 : asgD r day = 0 := by simp [asgD, e1]
      rw [e1, e2, e3]
      refine pure_intro (ow := fun _ => false) Tryz.func21 Tryz.ntmps21 rfl (by kernel_rfl) (by simp) rfl (by decide) fun G hG hOw hNm hB => ?_; simp only [go_sem, hG, hOw]
      refine call_pureA (CheckR_ok r hr) ?_
      simp (maxSteps := 2000000) only [go_sem, hG, hOw, he]
      (repeat' with_reducible first | refine And.intro ?_ ?_ | intro _ | refine exP ?_ ?_); all_goals try omega
      refine call_pureA (within05_ok day 0 400) ?_
      simp (maxSteps := 2000000) only [go_sem, hG, hOw, hdy]
      (repeat' with_reducible first | refine And.intro ?_ ?_ | intro _ | refine exP ?_ ?_); all_goals try omega
      all_goals exact Subs.tup (.cons (.nil _ _) (.cons (.refl _) (.cons (.refl _) .nil)))
    | true =>
      have hdb : 0 ≤ day ∧ day ≤ 400 := by simpa [inB] using hdy
      have a1 := again_ok r hg
      rw [again_same r he] at a1
      obtain ⟨A, hA⟩ : ∃ A, A = againP r := ⟨_, rfl⟩
      have hAm := againP_mem r hg
      have e1 : asgE r day = 0 := by simp [asgE, he, hdy]
      have e2 : asgL r day = asgBest r A day := by simp [asgL, e1, hA]
      have e3 : asgD r day = backI r A day (asgBest r A day) := by simp [asgD, e1, e2, hA]
      rw [← hA] at a1 hAm
      obtain ⟨hpS, hpl⟩ := hAm
      have hB : 0 < r.helpers.length := by omega
      have hc : ∀ l ∈ compsB r.helpers.length A.length, 0 ≤ backI r A day l ∧ backI r A day l < never := fun l hl => by
        obtain ⟨h1, h2⟩ := compsB_mem _ _ _ hl
        rw [backI_eq r A l h2]
        have := lastS_bd r hg A l hpS h1 (by omega) day hdb _ (Nat.le_refl _)
        simp only [never]
        omega
      have hall := afold_all r.helpers.length A.length hB (backI r A day) hc
      have hLast : ∀ p, p < r.helpers.length ^ A.length → Gives Tryz.prog 79 [roE 0 r, ints 0 A, ints 0 (dig r.helpers.length A.length p), i64 day] (fun _ => i64 (backI r A day (dig r.helpers.length A.length p))) := fun p hp => by
        obtain ⟨h1, h2⟩ := compsB_mem _ _ _ (dig_mem r.helpers.length A.length p hB hp)
        exact RLast_ok r hg A hpS day hdb _ h1 (by omega) h2
      rw [e1, e2, e3]
      have eN0 : List.replicate A.length [V.v (Value.int IntKind.i64 0)] = (dig r.helpers.length A.length 0).map intE := by
        have : ∀ m, dig r.helpers.length m 0 = List.replicate m 0 := by
          intro m
          induction m with
          | zero => rfl
          | succ m ih => rw [dig_last, Nat.zero_div, Nat.zero_mod, ih, List.replicate_succ']; rfl
        rw [this, List.map_replicate]; rfl
      obtain ⟨R, hR⟩ : ∃ R, R = asgBest r A day := ⟨_, rfl⟩
      rw [← hR]
      obtain ⟨m, hm⟩ : ∃ m, m = A.length := ⟨_, rfl⟩
      obtain ⟨B, hBn⟩ : ∃ B, B = r.helpers.length := ⟨_, rfl⟩
      have hm8 : m ≤ 8 := by omega
      have hB4 : B ≤ 8 := by omega
      have hR0 : R = (afold B m (backI r A day) (B ^ m)).1 := by rw [hR, hBn, hm, hall]; rfl
      have hR1 : backI r A day R = (afold B m (backI r A day) (B ^ m)).2 := by
        have hcost : ∀ p, p ≤ B ^ m → 0 < p → (afold B m (backI r A day) p).2 = backI r A day (afold B m (backI r A day) p).1 := by
          intro p
          induction p with
          | zero => intro _ h; omega
          | succ p ih =>
            intro h1 _
            have hd := hc (dig B m p) (by rw [hBn, hm]; exact dig_mem _ _ _ hB (by rw [← hBn, ← hm]; omega))
            rw [afold_succ]
            unfold astep
            by_cases hlt : backI r A day (dig B m p) < (afold B m (backI r A day) p).2
            · rw [if_pos hlt]
            · rw [if_neg hlt]
              by_cases hp : 0 < p
              · exact ih (by omega) hp
              · have : p = 0 := by omega
                subst this
                exact (hlt hd.2).elim
        rw [hR0]
        exact (hcost _ (Nat.le_refl _) (Nat.pow_pos (by omega))).symm
      rw [hR1, hR0]
      rw [← hm, ← hBn] at hc hLast eN0
      have hBp : 0 < B := by omega
      refine pure_intro (ow := fun i => [37].contains i) Tryz.func21 Tryz.ntmps21 rfl (by kernel_rfl) (by simp) rfl (by decide) fun G hG hOw hNm hB => ?_; simp only [go_sem, hG, hOw]
      refine call_pureA (CheckR_ok r hr) ?_
      simp (maxSteps := 2000000) only [go_sem, hG, hOw, he]
      (repeat' with_reducible first | refine And.intro ?_ ?_ | intro _ | refine exP ?_ ?_); all_goals try omega
      refine call_pureA (within05_ok day 0 400) ?_
      simp (maxSteps := 2000000) only [go_sem, hG, hOw, hdy]
      (repeat' with_reducible first | refine And.intro ?_ ?_ | intro _ | refine exP ?_ ?_); all_goals try omega
      refine call_pure a1 (by first | exact Subs.refl _ | (repeat' (first | exact Subs.nil | exact Sub.refl _ | exact Sub.lo (Nat.zero_le _) | refine Subs.cons ?_ ?_ | refine Subs.agg ?_ | refine Subs.fp ?_ | refine Subs.tup ?_ | refine Sub.map (Nat.zero_le _) (fun _ => ?_)))) (by first | rfl | simp [allP, all0, pureV, pure0, *]) (by simp [chk, hG]) ?_
      simp (maxSteps := 2000000) only [go_sem, hG, hOw, ← hm]
      (repeat' with_reducible first | refine And.intro ?_ ?_ | intro _ | refine exP ?_ ?_); all_goals try omega
      refine make_step rfl rfl rfl rfl (by rw [hG]; decide) (by simp [go_sem]) tb_sliceElem_45 tb_zeroK_3 rfl tb_bytesK_3 (by decide) (by omega) (by omega) (by omega) ?_
      have hmn : ((m : Int)).toNat = m := by omega
      have hz0 := afold_zero B m (backI r A day)
      have hnv : never = 1073741824 := rfl
      have hnl := Pm.Sub.nil G.lo 1
      simp (maxSteps := 2000000) only [go_sem, hG, hOw, hmn, eN0]
      (repeat' with_reducible first | refine And.intro ?_ ?_ | intro _ | refine exP ?_ ?_); all_goals try omega
      refine semC_loop (fun p : Nat => raS G.lo r day A (afold B m (backI r A day) p).1 (dig B m p) (afold B m (backI r A day) p).2 []) (fun p => p < B ^ m) (fun p => B ^ m - p) 0 (Nat.pow_pos hBp) (entA [(2, some 2), (26, some 26)] (by (simp only [go_sem]) <;> simp [hz0,hnv,dig_len,hnl]) (by (simp only [go_sem, entH, entH1, nilArr, obOK]) <;> simp [hz0,hnv,dig_len,hnl])) ?_
      rintro p hp
      obtain ⟨N, hN⟩ : ∃ N, N = dig B m p := ⟨_, rfl⟩
      have hNl : N.length = m := by rw [hN]; exact dig_len B m p
      obtain ⟨Z, hZ⟩ : ∃ Z, Z = (afold B m (backI r A day) p).1 := ⟨_, rfl⟩
      obtain ⟨T, hT⟩ : ∃ T, T = (afold B m (backI r A day) p).2 := ⟨_, rfl⟩
      have hs := afold_succ B m (backI r A day) p
      have hap : afold B m (backI r A day) p = (Z, T) := by rw [hZ, hT]
      rw [hap, ← hN] at hs
      have hLp := hLast p hp
      rw [← hN] at hLp
      rw [← hZ, ← hT, ← hN]
      obtain ⟨C, hC⟩ : ∃ C, C = backI r A day N := ⟨_, rfl⟩
      unfold astep at hs
      rw [← hC] at hLp hs
      have htk : List.take m (N.map intE) = N.map intE := List.take_of_length_le (by simp; omega)
      refine SemL.semC ?_
      simp only [flat, List.cons_append, List.nil_append, List.append_assoc, List.take_succ_cons, List.take_zero, List.take_nil, List.drop_succ_cons, List.drop_zero]
      refine semL_blk ?_
      simp only [flat, List.cons_append, List.nil_append, List.append_assoc, List.take_succ_cons, List.take_zero, List.take_nil, List.drop_succ_cons, List.drop_zero]
      refine semL_midN 3 (fun _ : Unit => raS G.lo r day A (afold B m (backI r A day) (p + 1)).1 N (afold B m (backI r A day) (p + 1)).2 []) (fun _ => True) ?_ ?_
      · simp only [flat, List.cons_append, List.nil_append, List.append_assoc, List.take_succ_cons, List.take_zero, List.take_nil, List.drop_succ_cons, List.drop_zero]
        refine vcN_sound 4 _ _ ?_
        simp only [go_sem, hG, hOw]
        (repeat' with_reducible first | refine And.intro ?_ ?_ | intro _ | refine exP ?_ ?_); all_goals try omega
        refine call_lend (fun i => [26].contains i) (hLp) (newR_v (.int .i64 _)) (by simp only [go_sem, hNl, htk]; first | exact Subs.refl _ | (repeat' (first | exact Subs.nil | exact Sub.refl _ | exact Sub.lo (Nat.zero_le _) | refine Subs.cons ?_ ?_ | refine Subs.agg ?_ | refine Subs.fp ?_ | refine Subs.tup ?_ | refine Sub.map (Nat.zero_le _) (fun _ => ?_)))) (by simp only [go_sem, hNl, htk] <;> first | rfl | simp [allP, all0, pureV, pure0, *]) (by simp [chk, hG]) ?_
        simp only [go_sem, hG, hOw]
        (repeat' with_reducible first | refine And.intro ?_ ?_ | intro _ | refine exP ?_ ?_); all_goals try omega
        · rename_i h
          rw [hs, if_pos h]
          exact ⟨(), entA [(2, some 2), (26, some 26)]⟩
        · rename_i h
          rw [hs, if_neg h]
          exact ⟨(), entA [(2, some 2), (26, some 26)]⟩
      rintro ⟨⟩ -
      clear hZ hT hap hs hLp hC htk
      obtain ⟨Z2, hZ2⟩ : ∃ Z, Z = (afold B m (backI r A day) (p + 1)).1 := ⟨_, rfl⟩
      obtain ⟨T2, hT2⟩ : ∃ T, T = (afold B m (backI r A day) (p + 1)).2 := ⟨_, rfl⟩
      rw [← hZ2, ← hT2]
      refine semL_midN 2 (fun j : Nat => raS G.lo r day A Z2 (carry B m p j) T2 [(13, i64 ((m : Int) - 1 - j))]) (fun j => j ≤ m ∧ p % B ^ j + 1 = B ^ j ∧ (j < m → p / B ^ j % B + 1 < B)) ?_ ?_
      · simp only [flat, List.cons_append, List.nil_append, List.append_assoc, List.take_succ_cons, List.take_zero, List.take_nil, List.drop_succ_cons, List.drop_zero]
        refine vcN_sound 3 _ _ ?_
        simp only [go_sem, hG, hOw]
        (repeat' with_reducible first | refine And.intro ?_ ?_ | intro _ | refine exP ?_ ?_); all_goals try omega
        refine semC_loop (fun j : Nat => raS G.lo r day A Z2 (carry B m p j) T2 [(13, i64 ((m : Int) - 1 - j))]) (fun j => j ≤ m ∧ p % B ^ j + 1 = B ^ j) (fun j => m - j) 0 ⟨Nat.zero_le _, by simp [Nat.mod_one]⟩ (entA [(2, some 2), (26, some 26)] (by (simp only [go_sem]) <;> simp [carry_zero,hN,hNl,dig_len]) (by (simp only [go_sem, entH, entH1, nilArr, obOK]) <;> simp [carry_zero,hN,hNl,dig_len])) ?_
        rintro j ⟨hj, hpj⟩
        have hcl := carry_len B m p j hj
        by_cases hjm : j = m
        · have hge : ¬ (0 : Int) ≤ (m : Int) - 1 - j := by omega
          refine vc_sound _ _ _ ?_
          simp only [go_sem, hG, hOw]
          refine semC_draw0 mixed (by kernel_rfl) ?_
          simp (maxSteps := 2000000) only [go_sem, hG, hOw, hge, decide_false]
          (repeat' with_reducible first | refine And.intro ?_ ?_ | intro _ | refine exP ?_ ?_); all_goals try omega
          exact ⟨j, ⟨hj, hpj, fun h => by omega⟩, entA [(2, some 2), (26, some 26)]⟩
        · obtain ⟨i, hi⟩ : ∃ i, i + j + 1 = m := ⟨m - 1 - j, by omega⟩
          have hij : (m : Int) - 1 - j = i := by omega
          have hge : (0 : Int) ≤ (i : Int) := by omega
          have hat := carry_at B m p j i hi
          have hget : ∀ h, (carry B m p j)[i]'h = ((p / B ^ j % B : Nat) : Int) := fun h => by rw [List.getElem?_eq_getElem h] at hat; exact Option.some.inj hat
          have hmod := Nat.mod_lt (p / B ^ j) hBp
          obtain ⟨d, hd⟩ : ∃ d, d = p / B ^ j % B := ⟨_, rfl⟩
          rw [← hd] at hget hmod
          rw [hij]
          refine vc_sound _ _ _ ?_
          simp only [go_sem, hG, hOw]
          refine semC_draw0 mixed (by kernel_rfl) ?_
          by_cases hdB : d + 1 = B
          · have hdT : ((d : Int) = (r.helpers.length : Int) - 1) = True := eq_true (by omega)
            have hnx := carry_next B m p j i hBp hi
            have hsm := set_map (carry B m p j) i 0
            rw [hnx] at hsm
            have hcm := carry_mod B p j hBp hpj (by omega)
            have e9 : (i : Int) - 1 = (m : Int) - 1 - ((j + 1 : Nat) : Int) := by omega
            simp (maxSteps := 2000000) only [go_sem, hG, hOw, hge, hget, hcl, hdT, decide_true]
            (repeat' with_reducible first | refine And.intro ?_ ?_ | intro _ | refine exP ?_ ?_); all_goals try omega
            refine ⟨j + 1, ⟨by omega, hcm⟩, by omega, ?_⟩
            rw [← e9]
            have hcl2 := carry_len B m p (j + 1) (by omega)
            exact entA [(2, some 2), (26, some 26)] (by (simp only [go_sem]) <;> simp [hsm,hcl2,hcl]) (by (simp only [go_sem, entH, entH1, nilArr, obOK]) <;> simp [hsm,hcl2,hcl])
          · have hdT : ((d : Int) = (r.helpers.length : Int) - 1) = False := eq_false (by omega)
            simp (maxSteps := 2000000) only [go_sem, hG, hOw, hge, hget, hcl, hdT, decide_true, decide_false]
            (repeat' with_reducible first | refine And.intro ?_ ?_ | intro _ | refine exP ?_ ?_); all_goals try omega
            refine ⟨j, ⟨hj, hpj, fun _ => by omega⟩, ?_⟩
            rw [hij]
            exact entA [(2, some 2), (26, some 26)]
      rintro j ⟨hj, hpj, hdl⟩
      have hcl := carry_len B m p j hj
      simp only [flat, List.cons_append, List.nil_append, List.append_assoc, List.take_succ_cons, List.take_zero, List.take_nil, List.drop_succ_cons, List.drop_zero]
      refine vcN_sound 4 _ _ ?_
      by_cases hjm : j = m
      · have hlt : (m : Int) - 1 - j < 0 := by omega
        have hpe : p + 1 = B ^ m := carry_all B m p (by rw [← hjm]; exact hjm ▸ hpj) hp
        rw [← hpe, ← hZ2, ← hT2]
        simp (maxSteps := 2000000) only [go_sem, hG, hOw, hlt]
        (repeat' with_reducible first | refine And.intro ?_ ?_ | intro _ | refine exP ?_ ?_); all_goals try omega
        all_goals exact .refl _
      · obtain ⟨i, hi⟩ : ∃ i, i + j + 1 = m := ⟨m - 1 - j, by omega⟩
        have hij : (m : Int) - 1 - j = i := by omega
        have hlt : ¬ (i : Int) < 0 := by omega
        have hat := carry_at B m p j i hi
        have hget : ∀ h, (carry B m p j)[i]'h = ((p / B ^ j % B : Nat) : Int) := fun h => by rw [List.getElem?_eq_getElem h] at hat; exact Option.some.inj hat
        have hd2 := hdl (by omega)
        have hup := carry_up B m p j i hBp hi hpj hd2
        have hsm := set_map (carry B m p j) i (((p / B ^ j % B : Nat) : Int) + 1)
        rw [hup] at hsm
        have hend : p + 1 ≠ B ^ m := fun h => by have := carry_end B m p j i hBp hi hpj h; omega
        obtain ⟨d, hd⟩ : ∃ d, d = p / B ^ j % B := ⟨_, rfl⟩
        rw [← hd] at hget hsm hd2
        rw [hij]
        simp (maxSteps := 2000000) only [go_sem, hG, hOw, hlt, hget, hcl]
        (repeat' with_reducible first | refine And.intro ?_ ?_ | intro _ | refine exP ?_ ?_); all_goals try omega
        refine vcN_sound 1 _ _ ?_
        simp only [go_sem, hG, hOw]
        refine ⟨p + 1, by omega, by omega, ?_⟩
        rw [← hZ2, ← hT2]
        exact entA [(2, some 2), (26, some 26)] (by (simp only [go_sem]) <;> simp [hsm,dig_len,hcl]) (by (simp only [go_sem, entH, entH1, nilArr, obOK]) <;> simp [hsm,dig_len,hcl])
  · have e1 : asgE r day = roundE r := by simp [asgE, he]
    have e2 : asgL r day = [] := by simp [asgL, e1, he]
    have e3 : asgD r day = 0 := by simp [asgD, e1, he]
    rw [e1, e2, e3]
    refine pure_intro (ow := fun _ => false) Tryz.func21 Tryz.ntmps21 rfl (by kernel_rfl) (by simp) rfl (by decide) fun G hG hOw hNm hB => ?_; simp only [go_sem, hG, hOw]
    refine call_pureA (CheckR_ok r hr) ?_
    simp (maxSteps := 2000000) only [go_sem, hG, hOw, he]
    (repeat' with_reducible first | refine And.intro ?_ ?_ | intro _ | refine exP ?_ ?_); all_goals try omega
    all_goals exact Subs.tup (.cons (.nil _ _) (.cons (.refl _) (.cons (.refl _) .nil)))
end Go.Proofs.YtfnohnjnncjidaaGreatDoor
