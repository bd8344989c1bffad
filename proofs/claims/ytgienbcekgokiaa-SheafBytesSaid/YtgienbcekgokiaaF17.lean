/- The program: rows that are read. -/
import Derived.Test.YtgienbcekgokiaaF16
import Derived.Test.YtgienbcekgokiaaPmR
namespace Go.Proofs.Ytgienbcekgokiaa
open Go Pm
set_option linter.unusedSimpArgs false
set_option linter.unusedVariables false
set_option maxHeartbeats 4000000
set_option maxRecDepth 100000
theorem ext_all (s : ByteArray) : s.extract 0 s.size = s := by simp
theorem ext_list (s : ByteArray) (a b : Nat) : (s.extract a b).data.toList = (s.data.toList.drop a).take (b - a) := by
  rw [ByteArray.data_extract, Array.toList_extract, List.extract_eq_take_drop]
theorem ba_ext {x y : ByteArray} (h : x.data.toList = y.data.toList) : x = y := ByteArray.ext (Array.ext' h)
theorem ext_ext (s : ByteArray) (a b i j : Nat) (hj : a + j ≤ b) : (s.extract a b).extract i j = s.extract (a + i) (a + j) := by
  apply ba_ext
  rw [ext_list, ext_list, ext_list, List.drop_take, List.drop_drop, List.take_take]
  congr 1
  omega
theorem ext_snoc (s : ByteArray) {a n : Nat} (h1 : a ≤ n) (h : n < s.size) : s.extract a (n + 1) = s.extract a n ++ ⟨#[s[n]]⟩ := by
  have h2 : s.data.toList.length = s.size := by rw [Array.length_toList]; rfl
  apply ba_ext
  rw [ByteArray.data_append, Array.toList_append, ext_list, ext_list, show n + 1 - a = (n - a) + 1 by omega, List.take_add_one, List.getElem?_drop, show a + (n - a) = n by omega, List.getElem?_eq_getElem (by omega)]
  rfl
theorem app_inj {x y z : ByteArray} (h : x ++ z = y ++ z) : x = y := by
  have h1 := congrArg (fun b : ByteArray => b.data.toList) h
  simp only [ByteArray.data_append, Array.toList_append] at h1
  exact ba_ext (List.append_cancel_right h1)
theorem cut_facts (s : ByteArray) {a : Nat} (ha : a ≤ s.size) : cutI (s.extract a s.size) = decide (nlS s a < s.size) ∧ (nlS s a < s.size → cutA (s.extract a s.size) = s.extract a (nlS s a) ∧ cutB (s.extract a s.size) = s.extract (nlS s a + 1) s.size) := by
  have h2 : s.data.toList.length = s.size := by rw [Array.length_toList]; rfl
  have hl := nlS_le ha
  have e1 : (s.extract a s.size).data.toList = s.data.toList.drop a := by rw [ext_list, List.take_of_length_le (by rw [List.length_drop]; omega)]
  have e2 : ixL (s.data.toList.drop a) = nlS s a - a := by unfold nlS; omega
  have e3 : (s.extract a s.size).size = s.size - a := ext_size _ (Nat.le_refl _)
  unfold cutI cutA cutB
  rw [e1, e2, List.length_drop, h2]
  refine ⟨by rw [decide_eq_decide]; omega, fun h => ?_⟩
  rw [if_pos (by omega), if_pos (by omega), e3]
  exact ⟨by rw [ext_ext _ _ _ _ _ (by omega), Nat.add_zero, show a + (nlS s a - a) = nlS s a by omega], by rw [ext_ext _ _ _ _ _ (by omega)]; congr 1 <;> omega⟩
theorem rows_ok (s : ByteArray) : Tri Try.prog 40 [.v (.string s)] [] (fun _ => .ret (.fn (.func 56) [.ptr 0 0]) [(0, .box [.v (.string s)])]) := by
  refine tri_intro (fun _ => false) Try.func40 Try.ntmps40 rfl (by kernel_rfl) (by simp) rfl (by decide) fun G hG hOw hNm => ?_; simp only [go_sem, hG, hOw, reduceIte, Nat.reduceLeDiff, Nat.le_refl, Nat.reduceEqDiff, Nat.reduceAdd, Nat.reduceLT, reduceCtorEq, Int.toNat_natCast]
  exact ⟨[(0, some 1)], by (simp only [EndT, go_sem, entH, entH1, nilArr, obOK, apart, injR, coverR, reduceIte, Nat.reduceLeDiff, Nat.le_refl, Nat.reduceEqDiff, Nat.reduceAdd, Nat.reduceLT, reduceCtorEq, Int.toNat_natCast]) <;> simp⟩
theorem Read_ok (s : ByteArray) : Gives Try.prog 21 [.v (.string s)] (fun n => .tup [strs n (rdL s), i64 (rdN s), i64 (rdE s)]) := by
  refine pure_introR (ow := fun _ => false) Try.func21 Try.ntmps21 rfl (by kernel_rfl) (by simp) rfl (by decide) fun G hG hOw hNm hrd hB => ?_; simp only [go_sem, hG, hOw, reduceIte, Nat.reduceLeDiff, Nat.le_refl, Nat.reduceEqDiff, Nat.reduceAdd, Nat.reduceLT, reduceCtorEq, Int.toNat_natCast]
  (repeat' (first | (with_reducible refine And.intro ?_ ?_) | (with_reducible intro _) | (with_reducible refine exP ?_ ?_))); all_goals (try omega)
  · rename_i h
    have : ¬ s.size ≤ 30000 := by omega
    simp only [rdL, rdN, rdE, this, if_false]
    exact Subs.tup (.cons (.nil _ _) (.cons (.refl _) (.cons (.refl _) .nil)))
  · rename_i h
    have hsz : s.size ≤ 30000 := by omega
    simp only [rdL, rdN, rdE, hsz, if_true]
    obtain ⟨R, hR⟩ : ∃ R, R = rdAll s 200 0 [] := ⟨_, rfl⟩
    rw [← hR]
    refine call_tri [] [(0, 10)] (rows_ok s) (by (simp only [go_sem, reduceIte, Nat.reduceLeDiff, Nat.le_refl, Nat.reduceEqDiff, Nat.reduceAdd, Nat.reduceLT, reduceCtorEq, Int.toNat_natCast]) <;> simp) (by (simp only [go_sem, entH, entH1, nilArr, obOK, reduceIte, Nat.reduceLeDiff, Nat.le_refl, Nat.reduceEqDiff, Nat.reduceAdd, Nat.reduceLT, reduceCtorEq, Int.toNat_natCast]) <;> simp) (by simp [injR, apart, toR]) (by simp [coverR, usH, toR]) (by simp [uniqP, lkR, toR]) (by simp [chk, hG]) ?_
    simp only [go_sem, hG, hOw, reduceIte, Nat.reduceLeDiff, Nat.le_refl, Nat.reduceEqDiff, Nat.reduceAdd, Nat.reduceLT, reduceCtorEq, Int.toNat_natCast]
    show SemC _ _ _ _ _
    refine semC_cutN (fun _ : Unit => St.of [(2, .ptr 2 0), (3, .ptr 3 0)] [(2, .box [.own 9 0 R.1.length 1]), (9, .arr 9 1 (R.1.map strE)), (3, .box [i64 R.2])]) (fun _ => True) ?_ ?_
    · refine semC_ent (s' := St.of [(2, .ptr 2 0), (3, .ptr 3 0), (11, .fn (.func 56) [.ptr 10 0])] [(2, .box [.own 9 0 0 1]), (9, .arr 9 1 []), (3, .box [i64 (0 : Nat)]), (10, .box [.v (.string (s.extract 0 s.size))])]) (by rw [ext_all]; exact ent_of [(2, some 2), (3, some 3), (10, some 10), (9, none)] (by (simp only [go_sem, reduceIte, Nat.reduceLeDiff, Nat.le_refl, Nat.reduceEqDiff, Nat.reduceAdd, Nat.reduceLT, reduceCtorEq, Int.toNat_natCast]) <;> simp) (by (simp only [go_sem, entH, entH1, nilArr, obOK, reduceIte, Nat.reduceLeDiff, Nat.le_refl, Nat.reduceEqDiff, Nat.reduceAdd, Nat.reduceLT, reduceCtorEq, Int.toNat_natCast]) <;> simp) (by simp [injR, apart]) (by simp [coverR, usH]) (by simp [hNm, lkR, names])) ?_
      refine semC_rangeFunc [(5, 12), (6, 13)] [2, 3, 10] 99 (fun _ => false) hrd rfl Try.func56 Try.ntmps56 rfl (by kernel_rfl) rfl (by simp) (by rw [hG]; decide) rfl (by rw [hNm]; simp [names]) (by simp only [List.all_cons, List.all_nil]; rfl) rfl rfl (by rw [hG]; decide) fun G1 l L k1 k2 k3 k4 k5 hY => ?_
      have hG0 := hG
      have hNm0 := hNm
      have hOw0 := hOw
      have hG := k1
      have hOw := k2
      have hNm := k3
      simp only [go_sem, hG, hOw, reduceIte, Nat.reduceLeDiff, Nat.le_refl, Nat.reduceEqDiff, Nat.reduceAdd, Nat.reduceLT, reduceCtorEq, Int.toNat_natCast]
      refine semC_loop (fun x : List ByteArray × Nat => St.of [(0, .v (.func (.yield l) #[] #[])), (1, .ptr 10 0), (8, i64 x.1.length)] [(99, .obj (.loop (Lp L none))), (2, .box [.own 9 0 x.1.length 1]), (9, .arr 9 1 (x.1.map strE)), (3, .box [i64 x.2]), (10, .box [.v (.string (s.extract x.2 s.size))])]) (fun x => x.1.length ≤ 200 ∧ x.2 ≤ s.size ∧ rdAll s (200 - x.1.length) x.2 x.1 = R) (fun x => 200 - x.1.length) ([], 0) ⟨by simp, by simp, hR.symm⟩ (ent_of [(99, some 99), (2, some 2), (9, some 9), (3, some 3), (10, some 10)] (by (simp only [go_sem, reduceIte, Nat.reduceLeDiff, Nat.le_refl, Nat.reduceEqDiff, Nat.reduceAdd, Nat.reduceLT, reduceCtorEq, Int.toNat_natCast]) <;> simp) (by (simp only [go_sem, entH, entH1, nilArr, obOK, reduceIte, Nat.reduceLeDiff, Nat.le_refl, Nat.reduceEqDiff, Nat.reduceAdd, Nat.reduceLT, reduceCtorEq, Int.toNat_natCast]) <;> simp) (by simp [injR, apart]) (by simp [coverR, usH]) (by simp [hNm, lkR, names])) ?_
      rintro ⟨out, a⟩ ⟨hl, ha, hr⟩
      dsimp only at hl ha hr ⊢
      obtain ⟨T, hT⟩ : ∃ T, T = s.extract a s.size := ⟨_, rfl⟩
      rw [← hT]
      have hTs : T.size = s.size - a := by rw [hT, ext_size _ (Nat.le_refl _)]
      have hle := nlS_le ha
      obtain ⟨c1, c2⟩ := cut_facts s ha
      rw [← hT] at c1 c2
      obtain ⟨e, he⟩ : ∃ e, e = nlS s a := ⟨_, rfl⟩
      have bad : ¬ (e < s.size ∧ a + 4 ≤ e) → goodR s a out.length = false := fun h => by
        unfold goodR
        rw [← he, decide_eq_false h, Bool.false_and]
      refine vc_sound _ _ _ ?_; simp only [go_sem, hG, hOw, reduceIte, Nat.reduceLeDiff, Nat.le_refl, Nat.reduceEqDiff, Nat.reduceAdd, Nat.reduceLT, reduceCtorEq, Int.toNat_natCast]
      (repeat' (first | (with_reducible refine And.intro ?_ ?_) | (with_reducible intro _) | (with_reducible refine exP ?_ ?_))); all_goals (try omega)
      · rename_i hlt
        have hlt' : out.length < 200 := by omega
        refine call_pure (Cut_ok T (by omega)) (by first | exact Subs.refl _ | (repeat' (first | exact Subs.nil | exact Sub.refl _ | exact Sub.lo (Nat.zero_le _) | refine Subs.cons ?_ ?_ | refine Subs.agg ?_ | refine Subs.fp ?_ | refine Subs.tup ?_ | refine Sub.map (Nat.zero_le _) (fun _ => ?_)))) (by first | rfl | simp [allP, all0, pureV, pure0, *]) (by simp [chk, hG]) ?_
        by_cases hn : e < s.size
        · obtain ⟨c3, c4⟩ := c2 (by omega)
          rw [c1, c3, c4, ← he, decide_eq_true hn]
          have hc : s[e] = 10 := by have := nlS_is (s := s) _ (a := a) rfl (by omega); simp only [← he] at this; exact this
          obtain ⟨ln, hln⟩ : ∃ ln, ln = s.extract a e := ⟨_, rfl⟩
          rw [← hln]
          have hls : ln.size = e - a := by rw [hln]; exact ext_size _ (by omega)
          simp only [go_sem, hG, hOw, reduceIte, Nat.reduceLeDiff, Nat.le_refl, Nat.reduceEqDiff, Nat.reduceAdd, Nat.reduceLT, reduceCtorEq, Int.toNat_natCast]
          (repeat' (first | (with_reducible refine And.intro ?_ ?_) | (with_reducible intro _) | (with_reducible refine exP ?_ ?_))); all_goals (try omega)
          · rename_i h4
            rw [rdAll_bad (bad (by omega))] at hr
            subst hr
            refine ⟨none, by simp [go_sem], ?_⟩
            have hNm := hNm0
            simp (config := { maxSteps := 2000000 }) only [go_sem, hG, hOw, hG0, reduceIte, Nat.reduceLeDiff, Nat.le_refl, Nat.reduceEqDiff, Nat.reduceAdd, Nat.reduceLT, reduceCtorEq, Int.toNat_natCast]
            exact ⟨(), ent_of [(2, some 2), (9, some 9), (3, some 3)] (by (simp only [go_sem, reduceIte, Nat.reduceLeDiff, Nat.le_refl, Nat.reduceEqDiff, Nat.reduceAdd, Nat.reduceLT, reduceCtorEq, Int.toNat_natCast]) <;> simp) (by (simp only [go_sem, entH, entH1, nilArr, obOK, reduceIte, Nat.reduceLeDiff, Nat.le_refl, Nat.reduceEqDiff, Nat.reduceAdd, Nat.reduceLT, reduceCtorEq, Int.toNat_natCast]) <;> simp) (by simp [injR, apart]) (by simp [coverR, usH]) (by simp [hNm, lkR, names])⟩
          · rename_i h4
            obtain ⟨r, hrr⟩ : ∃ r, r = s.extract a (e - 3) := ⟨_, rfl⟩
            have hlr : ln.extract 0 ((ln.size : Int) - 3).toNat = r := by
              rw [hln, ext_ext _ _ _ _ _ (by rw [← hln]; omega), ← hln, hrr]; congr 1; omega
            have hrs : r.size = e - 3 - a := by rw [hrr]; exact ext_size _ (by omega)
            rw [hlr]
            have hg : goodR s a out.length = (rowB r && decide (lineB r out.length = s.extract a (e + 1))) := by
              simp only [goodR, ← he, ← hrr]
              rw [decide_eq_true (by omega), Bool.true_and]
            refine call_pure (one_ok r) (by first | exact Subs.refl _ | (repeat' (first | exact Subs.nil | exact Sub.refl _ | exact Sub.lo (Nat.zero_le _) | refine Subs.cons ?_ ?_ | refine Subs.agg ?_ | refine Subs.fp ?_ | refine Subs.tup ?_ | refine Sub.map (Nat.zero_le _) (fun _ => ?_)))) (by first | rfl | simp [allP, all0, pureV, pure0, *]) (by simp [chk, hG]) ?_
            simp only [go_sem, hG, hOw, reduceIte, Nat.reduceLeDiff, Nat.le_refl, Nat.reduceEqDiff, Nat.reduceAdd, Nat.reduceLT, reduceCtorEq, Int.toNat_natCast]
            have hone : (#[32] : Array UInt8).size = 1 := rfl
            refine ⟨fun g1 => ⟨by rw [hone]; omega, ?_⟩, fun g1 => ?_⟩
            · refine call_pure (check_ok r (by omega) out.length (by omega)) (by first | exact Subs.refl _ | (repeat' (first | exact Subs.nil | exact Sub.refl _ | exact Sub.lo (Nat.zero_le _) | refine Subs.cons ?_ ?_ | refine Subs.agg ?_ | refine Subs.fp ?_ | refine Subs.tup ?_ | refine Sub.map (Nat.zero_le _) (fun _ => ?_)))) (by first | rfl | simp [allP, all0, pureV, pure0, *]) (by simp [chk, hG]) ?_
              simp only [go_sem, hG, hOw, reduceIte, Nat.reduceLeDiff, Nat.le_refl, Nat.reduceEqDiff, Nat.reduceAdd, Nat.reduceLT, reduceCtorEq, Int.toNat_natCast]
              refine ⟨by rw [hone, chkB_size]; omega, fun g2 => ?_, fun g2 => ?_⟩
              · have hgd : goodR s a out.length = true := by
                  rw [hg, g1, Bool.true_and, decide_eq_true_eq, ext_snoc s (by omega) hn, ← hln, hc, g2]
                  rfl
                refine ⟨by omega, hY [99, 2, 3, 10] _ _ _ _ _ (by simp [go_sem]) rfl (by simp [chk, k1]) (by rw [k3]; simp) (by intro id hid; left; rw [k3]; exact hid) fun G2 m1 m2 m3 m4 m5 => ?_⟩
                have hG2 := m1.trans hG0
                have hOw2 := m2.trans hOw0
                refine vc_sound _ _ _ ?_
                simp (config := { maxSteps := 2000000 }) only [go_sem, hG, hOw, hG2, hOw2, reduceIte, Nat.reduceLeDiff, Nat.le_refl, Nat.reduceEqDiff, Nat.reduceAdd, Nat.reduceLT, reduceCtorEq, Int.toNat_natCast]
                (repeat' (first | (with_reducible refine And.intro ?_ ?_) | (with_reducible intro _) | (with_reducible refine exP ?_ ?_))); all_goals (try omega)
                have hz : (a : Int) + ((ln.size : Int) + 1) = ((e + 1 : Nat) : Int) := by omega
                rw [hz]
                refine ⟨(out ++ [r], e + 1), ⟨by simp; omega, by dsimp only; omega, ?_⟩, by simp; omega, ?_⟩
                · dsimp only
                  rw [List.length_append, List.length_singleton]
                  rw [show 200 - out.length = (200 - (out.length + 1)) + 1 by omega, rdAll_good hgd, ← he, ← hrr] at hr
                  exact hr
                · dsimp only
                  rw [List.map_append, List.length_append, List.length_singleton]
                  have hz1 : ((out.length + 1 : Nat) : Int) = (out.length : Int) + 1 := by omega
                  rw [hz1]
                  exact ent_of [(99, some 99), (2, some 2), (9, some 17), (3, some 3), (10, some 10)] (by (simp only [go_sem, reduceIte, Nat.reduceLeDiff, Nat.le_refl, Nat.reduceEqDiff, Nat.reduceAdd, Nat.reduceLT, reduceCtorEq, Int.toNat_natCast]) <;> simp) (by (simp only [go_sem, entH, entH1, nilArr, obOK, reduceIte, Nat.reduceLeDiff, Nat.le_refl, Nat.reduceEqDiff, Nat.reduceAdd, Nat.reduceLT, reduceCtorEq, Int.toNat_natCast]) <;> simp) (by simp [injR, apart]) (by simp [coverR, usH]) (by simp [hNm, lkR, names])
              · have hb : goodR s a out.length = false := by
                  rw [hg, g1, Bool.true_and, decide_eq_false_iff_not, ext_snoc s (by omega) hn, ← hln, hc]
                  exact fun h => g2 (app_inj h).symm
                rw [rdAll_bad hb] at hr
                subst hr
                refine ⟨none, by simp [go_sem], ?_⟩
                have hNm := hNm0
                simp (config := { maxSteps := 2000000 }) only [go_sem, hG, hOw, hG0, reduceIte, Nat.reduceLeDiff, Nat.le_refl, Nat.reduceEqDiff, Nat.reduceAdd, Nat.reduceLT, reduceCtorEq, Int.toNat_natCast]
                exact ⟨(), ent_of [(2, some 2), (9, some 9), (3, some 3)] (by (simp only [go_sem, reduceIte, Nat.reduceLeDiff, Nat.le_refl, Nat.reduceEqDiff, Nat.reduceAdd, Nat.reduceLT, reduceCtorEq, Int.toNat_natCast]) <;> simp) (by (simp only [go_sem, entH, entH1, nilArr, obOK, reduceIte, Nat.reduceLeDiff, Nat.le_refl, Nat.reduceEqDiff, Nat.reduceAdd, Nat.reduceLT, reduceCtorEq, Int.toNat_natCast]) <;> simp) (by simp [injR, apart]) (by simp [coverR, usH]) (by simp [hNm, lkR, names])⟩
            · rw [rdAll_bad (by rw [hg, g1]; rfl)] at hr
              subst hr
              refine ⟨none, by simp [go_sem], ?_⟩
              have hNm := hNm0
              simp (config := { maxSteps := 2000000 }) only [go_sem, hG, hOw, hG0, reduceIte, Nat.reduceLeDiff, Nat.le_refl, Nat.reduceEqDiff, Nat.reduceAdd, Nat.reduceLT, reduceCtorEq, Int.toNat_natCast]
              exact ⟨(), ent_of [(2, some 2), (9, some 9), (3, some 3)] (by (simp only [go_sem, reduceIte, Nat.reduceLeDiff, Nat.le_refl, Nat.reduceEqDiff, Nat.reduceAdd, Nat.reduceLT, reduceCtorEq, Int.toNat_natCast]) <;> simp) (by (simp only [go_sem, entH, entH1, nilArr, obOK, reduceIte, Nat.reduceLeDiff, Nat.le_refl, Nat.reduceEqDiff, Nat.reduceAdd, Nat.reduceLT, reduceCtorEq, Int.toNat_natCast]) <;> simp) (by simp [injR, apart]) (by simp [coverR, usH]) (by simp [hNm, lkR, names])⟩
        · rw [c1, ← he, decide_eq_false hn]
          simp only [go_sem, hG, hOw, reduceIte, Nat.reduceLeDiff, Nat.le_refl, Nat.reduceEqDiff, Nat.reduceAdd, Nat.reduceLT, reduceCtorEq, Int.toNat_natCast]
          rw [rdAll_bad (bad (by omega))] at hr
          subst hr
          refine ⟨none, by simp [go_sem], ?_⟩
          have hNm := hNm0
          simp (config := { maxSteps := 2000000 }) only [go_sem, hG, hOw, hG0, reduceIte, Nat.reduceLeDiff, Nat.le_refl, Nat.reduceEqDiff, Nat.reduceAdd, Nat.reduceLT, reduceCtorEq, Int.toNat_natCast]
          exact ⟨(), ent_of [(2, some 2), (9, some 9), (3, some 3)] (by (simp only [go_sem, reduceIte, Nat.reduceLeDiff, Nat.le_refl, Nat.reduceEqDiff, Nat.reduceAdd, Nat.reduceLT, reduceCtorEq, Int.toNat_natCast]) <;> simp) (by (simp only [go_sem, entH, entH1, nilArr, obOK, reduceIte, Nat.reduceLeDiff, Nat.le_refl, Nat.reduceEqDiff, Nat.reduceAdd, Nat.reduceLT, reduceCtorEq, Int.toNat_natCast]) <;> simp) (by simp [injR, apart]) (by simp [coverR, usH]) (by simp [hNm, lkR, names])⟩
      · rename_i hge
        have e : 200 - out.length = 0 := by omega
        rw [e, rdAll_zero] at hr
        subst hr
        refine ⟨none, by simp [go_sem], ?_⟩
        have hNm := hNm0
        simp (config := { maxSteps := 2000000 }) only [go_sem, hG, hOw, hG0, reduceIte, Nat.reduceLeDiff, Nat.le_refl, Nat.reduceEqDiff, Nat.reduceAdd, Nat.reduceLT, reduceCtorEq, Int.toNat_natCast]
        exact ⟨(), ent_of [(2, some 2), (9, some 9), (3, some 3)] (by (simp only [go_sem, reduceIte, Nat.reduceLeDiff, Nat.le_refl, Nat.reduceEqDiff, Nat.reduceAdd, Nat.reduceLT, reduceCtorEq, Int.toNat_natCast]) <;> simp) (by (simp only [go_sem, entH, entH1, nilArr, obOK, reduceIte, Nat.reduceLeDiff, Nat.le_refl, Nat.reduceEqDiff, Nat.reduceAdd, Nat.reduceLT, reduceCtorEq, Int.toNat_natCast]) <;> simp) (by simp [injR, apart]) (by simp [coverR, usH]) (by simp [hNm, lkR, names])⟩
    · rintro ⟨⟩ -
      simp only [go_sem, hG, hOw, reduceIte, Nat.reduceLeDiff, Nat.le_refl, Nat.reduceEqDiff, Nat.reduceAdd, Nat.reduceLT, reduceCtorEq, Int.toNat_natCast]
      refine semC_drawT [(21, [2]), (22, [3]), (2, [2]), (3, [3])] mixed (by kernel_rfl) ?_
      simp only [go_sem, hG, hOw, reduceIte, Nat.reduceLeDiff, Nat.le_refl, Nat.reduceEqDiff, Nat.reduceAdd, Nat.reduceLT, reduceCtorEq, Int.toNat_natCast]
end Go.Proofs.Ytgienbcekgokiaa
