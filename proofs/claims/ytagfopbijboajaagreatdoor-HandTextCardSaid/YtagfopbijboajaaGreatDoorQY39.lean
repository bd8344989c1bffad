import Derived.Test.YtagfopbijboajaaGreatDoorQY34
import Derived.Test.YtagfopbijboajaaGreatDoorQY38
namespace Go.Proofs.YtagfopbijboajaaGreatDoor
open Go Pm
set_option linter.unusedSimpArgs false
set_option linter.unusedVariables false
set_option maxHeartbeats 4000000
set_option maxRecDepth 100000
theorem told_ok (a b : List Ln) (h : OkS a b) (fr : Int) (hfr : 0 ≤ fr ∧ fr ≤ 1000) : Gives Tryz.prog 42 [lns 0 a, lns 0 b, i64 fr] (fun n => .tup [fts n (toldL a b fr), i64 (cAt a b 0 0 false)]) := by
  have hal := h.na
  have hbl := h.nb
  obtain ⟨m, hm, _, his, _, T⟩ := cost_ok a b h _ 0 0 false [] (Nat.zero_le _) (Nat.zero_le _) (fun h => by cases h) (Nat.lt_succ_self _) (Gm.nil a b)
  obtain ⟨A, hA⟩ : ∃ A, A = cAt a b 0 0 false := ⟨_, rfl⟩
  rw [← hA] at T ⊢
  have c0 : ((0 : Nat) : Int) = 0 := rfl
  simp only [Int.cast_ofNat_Int, wrV3] at T
  refine pure_intro (ow := fun _ => false) Tryz.func42 Tryz.ntmps42 rfl (by kernel_rfl) (by simp) rfl (by decide) fun G hG hOw hNm hB => ?_; simp only [go_sem, hG, hOw]
  (repeat' with_reducible first | refine And.intro ?_ ?_ | intro _ | refine exP ?_ ?_); all_goals try omega
  refine call_frz (fun i => [3, 4].contains i) ?_
  simp only [go_sem, hG, hOw]
  refine call_tri [(108, 8), (119, 19), (109, 9)] [] (T) (by (simp only [go_sem]) <;> simp) (by (simp only [go_sem, entH, entH1, nilArr, obOK]) <;> simp) (by simp [injR, apart, toR]) (by simp [coverR, usH, toR]) (by simp [uniqP, lkR, toR]) (by simp [chk, hG]) ?_
  simp only [go_sem, hG, hOw]
  (repeat' with_reducible first | refine And.intro ?_ ?_ | intro _ | refine exP ?_ ?_); all_goals try omega
  · rename_i hge
    have e : toldL a b fr = [] := by unfold toldL; rw [← hA, if_pos hge]
    rw [e]
    exact Subs.tup (.cons (.nil _ _) (.cons (.refl _) .nil))
  · rename_i hge
    obtain ⟨R, hR⟩ : ∃ R, R = toldL a b fr := ⟨_, rfl⟩
    have e : R = tld a b fr (a.length + b.length) 0 0 false := by rw [hR]; unfold toldL; rw [← hA, if_neg hge]
    rw [← hR]
    have tl : ∀ n i k w, (tld a b fr n i k w).length ≤ n := by
      intro n
      induction n with
      | zero => intro i k w; exact Nat.le_refl _
      | succ n ih =>
        intro i k w
        unfold tld
        split
        · simp
        · rw [List.length_append]
          have h1 := ih (stN a b i k w (stJ a b i k w)).1 (stN a b i k w (stJ a b i k w)).2.1 (stN a b i k w (stJ a b i k w)).2.2
          have h2 : (stF a b fr i k (stJ a b i k w)).length ≤ 1 := by
            unfold stF
            split
            · simp
            · split <;> simp
            · simp
          omega
    have hRl : R.length ≤ 2000 := by have := tl (a.length + b.length) 0 0 false; rw [← e] at this; omega
    have hn0 : fts 0 [] = fts 0 [] := rfl
    refine semC_loop (fun x : Nat × Nat × Bool × List Ft => St.of (tdF a b fr A x.2.2.2) (tdH a b m x.1 x.2.1 x.2.2.1 x.2.2.2))
      (fun x => x.1 ≤ a.length ∧ x.2.1 ≤ b.length ∧ (x.2.2.1 = true → 0 < x.1) ∧ (wget m (x.1, x.2.1, x.2.2.1)).isSome = true ∧ cAt a b x.1 x.2.1 x.2.2.1 < 1073741824 ∧ ∃ n, (a.length - x.1) + (b.length - x.2.1) ≤ n ∧ x.2.2.2 ++ tld a b fr n x.1 x.2.1 x.2.2.1 = R)
      (fun x => (a.length - x.1) + (b.length - x.2.1)) (0, 0, false, []) ⟨Nat.zero_le _, Nat.zero_le _, (fun h => by cases h), his, by simp only; omega, a.length + b.length, by simp, by simp [e]⟩ (entA [(10, some 10), (30, none), (8, some 8), (19, some 19), (9, some 9)]) ?_
    rintro ⟨i, k, w, L⟩ ⟨hi, hk, hw, his, hlt, n, hn, hL⟩
    simp only at hi hk hw his hlt hn hL
    have hLl : L.length ≤ 4000 := by rw [← hL, List.length_append] at hRl; omega
    by_cases hend : i = a.length ∧ k = b.length
    · obtain ⟨rfl, rfl⟩ := hend
      have e : tld a b fr n a.length b.length w = [] := by
        cases n with
        | zero => rfl
        | succ n => unfold tld; rw [if_pos ⟨rfl, rfl⟩]
      rw [e, List.append_nil] at hL
      subst hL
      refine vc_sound _ _ _ ?_; simp only [go_sem, hG, hOw]
      (repeat' with_reducible first | refine And.intro ?_ ?_ | intro _ | refine exP ?_ ?_); all_goals try omega
      all_goals exact .refl _
    · obtain ⟨n, rfl⟩ : ∃ n', n = n' + 1 := ⟨n - 1, by omega⟩
      obtain ⟨s1, s2⟩ := stJ_ok a b i k w hi hk hw hend hlt
      simp only [onB, Bool.and_eq_true, decide_eq_true_eq] at s1
      obtain ⟨q1, q2, q3, q4⟩ := stN_ok a b i k w hi hk hw _ s1.1
      have hj3 : stJ a b i k w < 3 := by unfold stJ; split <;> (try split) <;> omega
      have hc0 : 0 ≤ stC a b i k (stJ a b i k w) := by
        have := h.few i k
        unfold stC
        split <;> omega
      have hex : ∀ s', Ent G s' (St.of (tdF a b fr A (L ++ stF a b fr i k (stJ a b i k w))) (tdH a b m (stN a b i k w (stJ a b i k w)).1 (stN a b i k w (stJ a b i k w)).2.1 (stN a b i k w (stJ a b i k w)).2.2 (L ++ stF a b fr i k (stJ a b i k w)))) →
          ∃ y : Nat × Nat × Bool × List Ft, (y.1 ≤ a.length ∧ y.2.1 ≤ b.length ∧ (y.2.2.1 = true → 0 < y.1) ∧ (wget m (y.1, y.2.1, y.2.2.1)).isSome = true ∧ cAt a b y.1 y.2.1 y.2.2.1 < 1073741824 ∧ ∃ n, (a.length - y.1) + (b.length - y.2.1) ≤ n ∧ y.2.2.2 ++ tld a b fr n y.1 y.2.1 y.2.2.1 = R) ∧
            (a.length - y.1) + (b.length - y.2.1) < (a.length - i) + (b.length - k) ∧ Ent G s' (St.of (tdF a b fr A y.2.2.2) (tdH a b m y.1 y.2.1 y.2.2.1 y.2.2.2)) := fun s' hs' =>
        ⟨((stN a b i k w (stJ a b i k w)).1, (stN a b i k w (stJ a b i k w)).2.1, (stN a b i k w (stJ a b i k w)).2.2, L ++ stF a b fr i k (stJ a b i k w)),
          ⟨q1, q2, q3, hm.clo (i, k, w) his _ hj3 s1.1, by have := s1.2; unfold cOf at this; simp only; omega, n, by simp only; omega, by
            have e : tld a b fr (n + 1) i k w = stF a b fr i k (stJ a b i k w) ++ tld a b fr n (stN a b i k w (stJ a b i k w)).1 (stN a b i k w (stJ a b i k w)).2.1 (stN a b i k w (stJ a b i k w)).2.2 := by
              conv => lhs; unfold tld
              rw [if_neg hend]
            rw [e] at hL
            simp only
            rw [List.append_assoc]; exact hL⟩, q4, hs'⟩
      refine vc_sound _ _ _ ?_; simp only [go_sem, hG, hOw]
      (repeat' with_reducible first | refine And.intro ?_ ?_ | intro _ | refine exP ?_ ?_); all_goals try omega
      all_goals refine semC_ent (s' := St.of ((40, .agg stepsC) :: (41, i64 0) :: tdF a b fr A L) (tdH a b m i k w L)) (entA [(10, some 10), (30, some 30), (8, some 8), (19, some 19), (9, some 9)]) ?_
      all_goals refine semC_code (by kernel_rfl) (told_round a b h fr A hfr m hm i k w hi hk hw his hend hlt L hLl hG hOw hNm fun s' hs' => ?_)
      all_goals simp only [go_sem, hG, hOw]
      all_goals exact hex s' hs'
def partA (r : Ro) (n : Nat) : List Ln := match r.shares[n]? with
  | some s => ((linesL r.text).drop s.fr.toNat).take (s.to - s.fr + 1).toNat
  | none => []
def explE (r : Ro) (n : Int) : Int := if backE r n ≠ 0 then backE r n else match r.shares[n.toNat]?, r.sheets[n.toNat]? with
  | some s, some x => if x.back = true then if 1073741824 ≤ cAt (partA r n.toNat) x.lines 0 0 false then 6 else 0 else 6
  | _, _ => 0
def explL (r : Ro) (n : Int) : List Ft := if backE r n ≠ 0 then [] else match r.shares[n.toNat]?, r.sheets[n.toNat]? with
  | some s, some x => if x.back = true then toldL (partA r n.toNat) x.lines s.fr else []
  | _, _ => []
theorem good_lines {r : Ro} (hr : Good r) : (∀ l ∈ linesL r.text, lineB l = true) ∧ ∀ x ∈ r.sheets, ∀ l ∈ x.lines, lineB l = true := by
  have he := hr.e
  unfold roundE at he
  split at he
  · rename_i ht
    split at he
    · rename_i hb
      refine ⟨fun l hl => ?_, fun x hx l hl => ?_⟩
      · obtain ⟨c, hc, hl⟩ := List.mem_flatMap.1 hl
        obtain ⟨k, hk, rfl⟩ := List.getElem_of_mem hc
        unfold textB at ht
        have := allPre_at (Bool.and_eq_true _ _ ▸ ht).2 hk
        unfold chapB at this
        simp only [Bool.and_eq_true] at this
        exact List.all_eq_true.1 this.2 l hl
      · unfold roundB at hb
        simp only [Bool.and_eq_true] at hb
        have := List.all_eq_true.1 hb.2 x hx
        unfold sheetB at this
        simp only [Bool.and_eq_true] at this
        exact List.all_eq_true.1 this.2 l hl
    · omega
  · omega
theorem part_oks {r : Ro} (hr : Good r) (n : Nat) (x : Se) (hx : x ∈ r.sheets) : OkS (partA r n) x.lines := by
  obtain ⟨h1, h2⟩ := good_lines hr
  have hll := hr.ll
  have hxl := (hr.ok.x.2 x hx).1
  have hsub : ∀ l ∈ partA r n, l ∈ linesL r.text := fun l hl => by
    unfold partA at hl
    split at hl
    · exact List.mem_of_mem_drop (List.mem_of_mem_take hl)
    · cases hl
  refine ⟨?_, by omega, fun l hl => h1 l (hsub l hl), fun l hl => h2 x hx l hl⟩
  unfold partA
  split
  · rw [List.length_take, List.length_drop]; omega
  · simp
theorem Explain_ok (r : Ro) (hr : OKr r) (n : Int) : Gives Tryz.prog 12 [roE 0 r, i64 n] (fun N => .tup [fts N (explL r n), i64 (explE r n)]) := by
  by_cases hE : backE r n = 0
  · have he : roundE r = 0 := by
      false_or_by_contra
      rename_i h
      simp [backE, h] at hE
    have hn : inB n 0 (r.shares.length - 1) = true := by
      cases h : inB n 0 (r.shares.length - 1) with
      | true => rfl
      | false => simp [backE, he, h] at hE
    have hg := good_of hr he
    simp only [inB, Bool.and_eq_true, decide_eq_true_eq] at hn
    obtain ⟨k, rfl⟩ : ∃ k : Nat, n = k := ⟨n.toNat, by omega⟩
    have hkl : k < r.shares.length := by omega
    have hkx : k < r.sheets.length := by rw [hg.xn]; exact hkl
    have hsn := hg.sn
    have hll := hg.ll
    have hsk := hg.s k hkl
    have hks : (k : Int).toNat = k := rfl
    have hO := part_oks hg k r.sheets[k] (List.getElem_mem hkx)
    have hTo := told_ok _ _ hO r.shares[k].fr (by omega)
    have eL : explL r k = if r.sheets[k].back = true then toldL (partA r k) r.sheets[k].lines r.shares[k].fr else [] := by
      unfold explL
      rw [if_neg (by rw [hE]; simp), hks, List.getElem?_eq_getElem hkl, List.getElem?_eq_getElem hkx]
    have eE : explE r k = if r.sheets[k].back = true then if 1073741824 ≤ cAt (partA r k) r.sheets[k].lines 0 0 false then 6 else 0 else 6 := by
      unfold explE
      rw [if_neg (by rw [hE]; simp), hks, List.getElem?_eq_getElem hkl, List.getElem?_eq_getElem hkx]
    rw [eL, eE]
    obtain ⟨cnt, hcnt⟩ : ∃ c : Nat, (c : Int) = r.shares[k].to - r.shares[k].fr + 1 := ⟨(r.shares[k].to - r.shares[k].fr + 1).toNat, by omega⟩
    obtain ⟨LL, hLL⟩ : ∃ LL, LL = partA r k := ⟨_, rfl⟩
    have hLL2 : LL = ((linesL r.text).drop r.shares[k].fr.toNat).take cnt := by
      rw [hLL]; unfold partA
      rw [List.getElem?_eq_getElem hkl]
      simp only
      rw [show (r.shares[k].to - r.shares[k].fr + 1).toNat = cnt by omega]
    have hLn : LL.length = cnt := by rw [hLL2, List.length_take, List.length_drop]; omega
    have hLg : ∀ m (hm : m < cnt), LL.take (m + 1) = LL.take m ++ [(linesL r.text)[r.shares[k].fr.toNat + m]'(by omega)] := fun m hm => by
      rw [List.take_add_one]
      congr 1
      rw [show LL[m]? = (((linesL r.text).drop r.shares[k].fr.toNat).take cnt)[m]? by rw [← hLL2]]
      simp [hm, List.getElem?_take, List.getElem?_drop, List.getElem?_eq_getElem (show r.shares[k].fr.toNat + m < (linesL r.text).length by omega)]
    rw [← hLL] at hTo ⊢
    obtain ⟨A, hA⟩ : ∃ A, A = cAt LL r.sheets[k].lines 0 0 false := ⟨_, rfl⟩
    obtain ⟨F, hF⟩ : ∃ F, F = toldL LL r.sheets[k].lines r.shares[k].fr := ⟨_, rfl⟩
    rw [← hA, ← hF] at hTo ⊢
    refine pure_introR (ow := fun _ => false) Tryz.func12 Tryz.ntmps12 rfl (by kernel_rfl) (by simp) rfl (by decide) fun G hG hOw hNm hrd hB => ?_; simp only [go_sem, hG, hOw]
    (repeat' with_reducible first | refine And.intro ?_ ?_ | intro _ | refine exP ?_ ?_); all_goals try omega
    refine call_pureA (part_good r hr he k (by simp [inB]; omega)) ?_
    simp only [go_sem, hG, hOw]
    (repeat' with_reducible first | refine And.intro ?_ ?_ | intro _ | refine exP ?_ ?_); all_goals try omega
    · rename_i h
      rw [if_neg (by rw [h]; simp), if_neg (by rw [h]; simp)]
      exact Subs.tup (.cons (.nil _ _) (.cons (.refl _) .nil))
    · rename_i hback
      rw [if_pos hback, if_pos hback]
      refine call_pureA (of_ok r k) ?_
      simp only [go_sem, hG, hOw]
      have hS : Pm.Sub (.fp (dkC G.lo r)) (.fp (dkC 0 r)) := by first | exact Subs.refl _ | (repeat' (first | exact Subs.nil | exact Sub.refl _ | exact Sub.lo (Nat.zero_le _) | refine Subs.cons ?_ ?_ | refine Subs.agg ?_ | refine Subs.fp ?_ | refine Subs.tup ?_ | refine Sub.map (Nat.zero_le _) (fun _ => ?_)))
      simp only [go_sem] at hS
      refine semC_ent (s' := St.of [(1, i64 k), (6, .fp (dkC 0 r)), (8, .ptr 8 0), (34, .fn (.func 72) [.fp [.fp (dkC 0 r)], .fp [i64 k]])] [(8, .box [.own 30 0 0 1]), (30, .arr 44 1 [])]) (entA [(8, some 8), (30, none)] (by (simp only [go_sem]) <;> simp [hS]) (by (simp only [go_sem, entH, entH1, nilArr, obOK]) <;> simp [hS])) ?_
      refine semC_rangeFunc [(10, 36)] [8] 99 (fun _ => false) hrd rfl Tryz.func72 Tryz.ntmps72 rfl (by kernel_rfl) rfl (by simp) (by rw [hG]; decide) rfl (by rw [hNm]; simp [names]) rfl rfl rfl (by rw [hG]; decide) fun G1 l L k1 k2 k3 k4 k5 hY => ?_
      have hG0 := hG
      have hNm0 := hNm
      have hOw0 := hOw
      have hG := k1
      have hOw := k2
      have hNm := k3
      simp only [go_sem, hG, hOw]
      refine semC_draw0 mixed (by kernel_rfl) ?_
      simp only [go_sem, hG, hOw]
      (repeat' with_reducible first | refine And.intro ?_ ?_ | intro _ | refine exP ?_ ?_); all_goals try omega
      refine semC_loop (fun m : Nat => St.of [(0, .v (.func (.yield l) #[] #[])), (1, .fp [.fp (dkC 0 r)]), (2, .fp [i64 k]), (4, i64 (r.shares[k].fr + m))] [(99, .obj (.loop (Lp L none))), (8, .box [.own 30 0 m 1]), (30, .arr 44 1 ((LL.take m).map (lnE 0)))]) (fun m => m ≤ cnt) (fun m => cnt - m) 0 (by simp) (entA [(99, some 99), (8, some 8), (30, some 30)]) ?_
      rintro m hm
      have hml : (LL.take m).length = m := by rw [List.length_take]; omega
      refine vc_sound _ _ _ ?_
      simp only [go_sem, hG, hOw]
      refine semC_draw0 mixed (by kernel_rfl) ?_
      simp only [go_sem, hG, hOw]
      (repeat' with_reducible first | refine And.intro ?_ ?_ | intro _ | refine exP ?_ ?_); all_goals try omega
      · rename_i hle
        have hmc : m < cnt := by omega
        have e1 := hLg m hmc
        have hmin : min m LL.length = m := by omega
        have hix : (r.shares[k].fr + (m : Int)).toNat = r.shares[k].fr.toNat + m := by omega
        refine hY [99, 8] _ _ _ _ _ (by simp (config := { maxSteps := 4000000 }) only [go_sem, reduceIte, Nat.reduceEqDiff]) rfl (by simp [chk, k1]) (by rw [k3]; simp) (by intro id hid; left; rw [k3]; exact hid) fun G2 m1 m2 m3 m4 m5 => ?_
        have hG2 := m1.trans hG0
        have hOw2 := m2.trans hOw0
        refine vc_sound _ _ _ ?_
        simp (maxSteps := 2000000) only [go_sem, hG, hOw, hG2, hOw2, hix]
        (repeat' with_reducible first | refine And.intro ?_ ?_ | intro _ | refine exP ?_ ?_); all_goals try omega
        refine ⟨m + 1, by omega, by omega, ?_⟩
        rw [e1]
        exact entA [(99, some 99), (8, some 8), (30, some 40)] (by (simp only [go_sem]) <;> simp [lnE,strs,Int.add_assoc,hmin]) (by (simp only [go_sem, entH, entH1, nilArr, obOK]) <;> simp [lnE,strs,Int.add_assoc,hmin])
      · rename_i hgt
        obtain rfl : m = cnt := by omega
        have hfull : LL.take m = LL := by rw [← hLn]; exact List.take_length
        rw [hfull]
        refine ⟨none, by simp (config := { maxSteps := 4000000 }) only [go_sem, reduceIte, Nat.reduceEqDiff], ?_⟩
        have hG := hG0
        have hOw := hOw0
        have hNm := hNm0
        simp only [go_sem, hG, hOw]
        (repeat' with_reducible first | refine And.intro ?_ ?_ | intro _ | refine exP ?_ ?_); all_goals try omega
        refine semC_frz (fun i => [8, 30].contains i) ?_
        refine semC_draw0 mixed (by kernel_rfl) ?_
        simp (maxSteps := 2000000) only [go_sem, hG, hOw, hfull]
        (repeat' with_reducible first | refine And.intro ?_ ?_ | intro _ | refine exP ?_ ?_); all_goals try omega
        refine ⟨_, callGives hTo (by first | exact Subs.refl _ | (repeat' (first | exact Subs.nil | exact Sub.refl _ | exact Sub.lo (Nat.zero_le _) | refine Subs.cons ?_ ?_ | refine Subs.agg ?_ | refine Subs.fp ?_ | refine Subs.tup ?_ | refine Sub.map (Nat.zero_le _) (fun _ => ?_)))) (by first | rfl | simp [allP, all0, pureV, pure0, *]), ?_⟩
        simp only [go_sem, hG, hOw]
        (repeat' with_reducible first | refine And.intro ?_ ?_ | intro _ | refine exP ?_ ?_); all_goals try omega
        · rename_i hge
          rw [if_pos hge]
          have eF : F = [] := by rw [hF]; unfold toldL; rw [← hA, if_pos hge]
          rw [eF]
          exact Subs.tup (.cons (.nil _ _) (.cons (.refl _) .nil))
        · rename_i hge
          rw [if_neg hge]
          exact .refl _
  · refine ?_
    have eL : explL r n = [] := by unfold explL; rw [if_pos hE]
    have eE : explE r n = backE r n := by unfold explE; rw [if_pos hE]
    rw [eL, eE]
    refine pure_intro (ow := fun _ => false) Tryz.func12 Tryz.ntmps12 rfl (by kernel_rfl) (by simp) rfl (by decide) fun G hG hOw hNm hB => ?_; simp only [go_sem, hG, hOw]
    (repeat' with_reducible first | refine And.intro ?_ ?_ | intro _ | refine exP ?_ ?_); all_goals try omega
    refine call_pureA (part_bad r hr n hE) ?_
    simp only [go_sem, hG, hOw]
    (repeat' with_reducible first | refine And.intro ?_ ?_ | intro _ | refine exP ?_ ?_); all_goals try omega
    all_goals exact Subs.tup (.cons (.nil _ _) (.cons (.refl _) .nil))
end Go.Proofs.YtagfopbijboajaaGreatDoor
