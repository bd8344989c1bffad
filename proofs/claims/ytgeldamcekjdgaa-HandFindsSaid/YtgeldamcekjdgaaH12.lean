/- The document's answers: the parts that differ, as a list; the first proof. -/
/- The document's answers: pairs that are the same; members of a set; whether a set covers. -/
import Derived.Test.YtgeldamcekjdgaaH10
namespace Go.Proofs.Ytgeldamcekjdgaa
open Go Pm
set_option linter.unusedSimpArgs false
set_option linter.unusedVariables false
set_option maxHeartbeats 4000000
set_option maxRecDepth 100000
theorem Differ_ok (r : Ro) (hr : OKr r) : Gives Try.prog 21 [roE 0 r] (fun n => .tup [prs n (differL r), i64 (roundE r)]) := by
  have hs12 := hr.s
  refine pure_intro (ow := fun _ => false) Try.func21 Try.ntmps21 rfl (by kernel_rfl) (by simp) rfl (by decide) fun G hG hOw hNm hB => ?_
  simp only [go_sem, hG, hOw, reduceIte, Nat.reduceLeDiff, Nat.le_refl, Nat.reduceEqDiff, Nat.reduceAdd, Nat.reduceLT, reduceCtorEq, Int.toNat_natCast]
  refine call_pure (CheckR_ok r hr) (by first | exact Subs.refl _ | (repeat' (first | exact Subs.nil | exact Sub.refl _ | exact Sub.lo (Nat.zero_le _) | refine Subs.cons ?_ ?_ | refine Subs.agg ?_ | refine Subs.fp ?_ | refine Subs.tup ?_ | refine Sub.map (Nat.zero_le _) (fun _ => ?_)))) (by first | rfl | simp [allP, all0, pureV, pure0, *]) (by simp [chk, hG]) ?_
  simp only [go_sem, hG, hOw, reduceIte, Nat.reduceLeDiff, Nat.le_refl, Nat.reduceEqDiff, Nat.reduceAdd, Nat.reduceLT, reduceCtorEq, Int.toNat_natCast]
  (repeat' (first | (with_reducible refine And.intro ?_ ?_) | (with_reducible intro _) | (with_reducible refine exP ?_ ?_))); all_goals (try omega)
  · rename_i h
    rw [show differL r = [] by simp [differL, h]]
    exact Subs.tup (.cons (.nil _ _) (.cons (.refl _) .nil))
  · rename_i h
    have hg := good_of hr h
    rw [show differL r = prsL (differI r) (r.shares.length - 1) by simp [differL, h], h]
    refine semC_loop (fun k : Nat => St.of [(1, .ptr 1 0), (5, .own 9 0 (prsL (differI r) k).length 2), (6, i64 k)] [(1, .box (roC 0 r)), (9, .arr 95 2 ((prsL (differI r) k).map prE))]) (fun k => k ≤ r.shares.length - 1) (fun k => r.shares.length - k) 0 (by simp) (ent_of [(1, some 1), (9, none)] (by (simp only [go_sem, reduceIte, Nat.reduceLeDiff, Nat.le_refl, Nat.reduceEqDiff, Nat.reduceAdd, Nat.reduceLT, reduceCtorEq, Int.toNat_natCast]) <;> simp [prsL]) (by (simp only [go_sem, entH, entH1, nilArr, obOK, reduceIte, Nat.reduceLeDiff, Nat.le_refl, Nat.reduceEqDiff, Nat.reduceAdd, Nat.reduceLT, reduceCtorEq, Int.toNat_natCast]) <;> simp [prsL]) (by simp [injR, apart]) (by simp [coverR, usH]) (by simp [hNm, lkR, names])) ?_
    rintro k hk
    have hle := prsL_le (differI r) k
    refine vc_sound _ _ _ ?_; simp only [go_sem, hG, hOw, reduceIte, Nat.reduceLeDiff, Nat.le_refl, Nat.reduceEqDiff, Nat.reduceAdd, Nat.reduceLT, reduceCtorEq, Int.toNat_natCast]
    (repeat' (first | (with_reducible refine And.intro ?_ ?_) | (with_reducible intro _) | (with_reducible refine exP ?_ ?_))); all_goals (try omega)
    · rename_i hlt
      have hkl : k + 1 < r.shares.length := by omega
      refine call_pure (differ_ok r hg k hkl) (by first | exact Subs.refl _ | (repeat' (first | exact Subs.nil | exact Sub.refl _ | exact Sub.lo (Nat.zero_le _) | refine Subs.cons ?_ ?_ | refine Subs.agg ?_ | refine Subs.fp ?_ | refine Subs.tup ?_ | refine Sub.map (Nat.zero_le _) (fun _ => ?_)))) (by first | rfl | simp [allP, all0, pureV, pure0, *]) (by simp [chk, hG]) ?_
      simp only [go_sem, hG, hOw, reduceIte, Nat.reduceLeDiff, Nat.le_refl, Nat.reduceEqDiff, Nat.reduceAdd, Nat.reduceLT, reduceCtorEq, Int.toNat_natCast]
      (repeat' (first | (with_reducible refine And.intro ?_ ?_) | (with_reducible intro _) | (with_reducible refine exP ?_ ?_))); all_goals (try omega)
      · rename_i h2
        have e1 := prsL_succ (differI r) k
        rw [if_pos h2] at e1
        refine ⟨k + 1, by omega, by omega, ?_⟩
        rw [e1]
        exact ent_of [(1, some 1), (9, some 29)] (by (simp only [go_sem, reduceIte, Nat.reduceLeDiff, Nat.le_refl, Nat.reduceEqDiff, Nat.reduceAdd, Nat.reduceLT, reduceCtorEq, Int.toNat_natCast]) <;> simp [prE,i64]) (by (simp only [go_sem, entH, entH1, nilArr, obOK, reduceIte, Nat.reduceLeDiff, Nat.le_refl, Nat.reduceEqDiff, Nat.reduceAdd, Nat.reduceLT, reduceCtorEq, Int.toNat_natCast]) <;> simp [prE,i64]) (by simp [injR, apart]) (by simp [coverR, usH]) (by simp [hNm, lkR, names])
      · rename_i h2
        have e1 := prsL_succ (differI r) k
        rw [if_neg (by rw [h2]; simp)] at e1
        refine ⟨k + 1, by omega, by omega, ?_⟩
        rw [e1]
        exact ent_of [(1, some 1), (9, some 9)] (by (simp only [go_sem, reduceIte, Nat.reduceLeDiff, Nat.le_refl, Nat.reduceEqDiff, Nat.reduceAdd, Nat.reduceLT, reduceCtorEq, Int.toNat_natCast]) <;> simp) (by (simp only [go_sem, entH, entH1, nilArr, obOK, reduceIte, Nat.reduceLeDiff, Nat.le_refl, Nat.reduceEqDiff, Nat.reduceAdd, Nat.reduceLT, reduceCtorEq, Int.toNat_natCast]) <;> simp) (by simp [injR, apart]) (by simp [coverR, usH]) (by simp [hNm, lkR, names])
    · rename_i hge
      rw [show k = r.shares.length - 1 by omega]
      exact .refl _
set_option linter.unusedSimpArgs false
set_option linter.unusedVariables false
set_option maxHeartbeats 4000000
set_option maxRecDepth 100000
theorem SamePairs_ok (l m : List (Int × Int)) : Gives Try.prog 22 [prs 0 l, prs 0 m] (fun _ => bl (decide (l = m))) := by
  refine pure_intro (ow := fun _ => false) Try.func22 Try.ntmps22 rfl (by kernel_rfl) (by simp) rfl (by decide) fun G hG hOw hNm hB => ?_
  simp only [go_sem, hG, hOw, reduceIte, Nat.reduceLeDiff, Nat.le_refl, Nat.reduceEqDiff, Nat.reduceAdd, Nat.reduceLT, reduceCtorEq, Int.toNat_natCast]
  have hl := bd_lst hB (List.mem_cons_self ..)
  simp only [List.length_map] at hl
  refine ⟨fun h => ?_, fun h => ?_⟩
  · rw [decide_eq_false]
    rintro rfl
    simp at h
  have hlen : l.length = m.length := by omega
  refine semC_loop (fun k : Nat => St.of [(0, prs 0 l), (1, prs 0 m), (5, i64 k)] []) (fun k => k ≤ l.length ∧ l.take k = m.take k) (fun k => l.length - k) 0 (by simp) (ent_of0 (by (simp only [go_sem, reduceIte, Nat.reduceLeDiff, Nat.le_refl, Nat.reduceEqDiff, Nat.reduceAdd, Nat.reduceLT, reduceCtorEq, Int.toNat_natCast]) <;> simp) hNm) ?_
  rintro k ⟨hk, hall⟩
  refine vc_sound _ _ _ ?_; simp only [go_sem, hG, hOw, reduceIte, Nat.reduceLeDiff, Nat.le_refl, Nat.reduceEqDiff, Nat.reduceAdd, Nat.reduceLT, reduceCtorEq, Int.toNat_natCast]
  refine ⟨fun hlt => ?_, fun hge => ?_⟩
  · have hkl : k < l.length := by omega
    have hkm : k < m.length := by omega
    refine semC_draw0 mixed (by kernel_rfl) ?_
    simp only [go_sem, hG, hOw, reduceIte, Nat.reduceLeDiff, Nat.le_refl, Nat.reduceEqDiff, Nat.reduceAdd, Nat.reduceLT, reduceCtorEq, Int.toNat_natCast]
    (repeat' (first | (with_reducible refine And.intro ?_ ?_) | (with_reducible intro _) | (with_reducible refine exP ?_ ?_))); all_goals (try omega)
    · rename_i h1
      rw [decide_eq_false]
      rintro rfl
      simp at h1
    · rename_i h1
      refine ⟨k + 1, ⟨by omega, ?_⟩, by omega, ent_of0 (by (simp only [go_sem, reduceIte, Nat.reduceLeDiff, Nat.le_refl, Nat.reduceEqDiff, Nat.reduceAdd, Nat.reduceLT, reduceCtorEq, Int.toNat_natCast]) <;> simp) hNm⟩
      have e : l[k] = m[k] := by
        have := h1
        simp at this
        exact Prod.ext this.1 this.2
      rw [List.take_add_one, List.take_add_one, hall, List.getElem?_eq_getElem (by omega), List.getElem?_eq_getElem (by omega), e]
  · rw [take_full hk hge, take_full (by omega) (by omega)] at hall
    rw [hall]; simp
theorem bit1 (s i : Nat) : ((s : Int) / 2 ^ i).toNat &&& (1 : Int).toNat = if s.testBit i = true then 1 else 0 := by
  have e : ((s : Int) / 2 ^ i).toNat = s / 2 ^ i := by
    rw [show ((s : Int) / 2 ^ i) = ((s / 2 ^ i : Nat) : Int) by push_cast; rfl]; exact Int.toNat_natCast _
  rw [e, show (1 : Int).toNat = 1 from rfl, Nat.and_one_is_mod, Nat.testBit_eq_decide_div_mod_eq]
  have : s / 2 ^ i % 2 < 2 := Nat.mod_lt _ (by decide)
  by_cases h : s / 2 ^ i % 2 = 1 <;> simp [h] <;> omega
theorem bit3 (s i : Nat) : ((s : Int) / 2 ^ i).toNat &&& (3 : Int).toNat = (if s.testBit i = true then 1 else 0) + 2 * (if s.testBit (i + 1) = true then 1 else 0) := by
  have e : ((s : Int) / 2 ^ i).toNat = s / 2 ^ i := by
    rw [show ((s : Int) / 2 ^ i) = ((s / 2 ^ i : Nat) : Int) by push_cast; rfl]; exact Int.toNat_natCast _
  have e3 : ∀ x : Nat, x &&& 3 = x % 4 := fun x => Nat.and_two_pow_sub_one_eq_mod x 2
  rw [e, show (3 : Int).toNat = 3 from rfl, e3, Nat.testBit_eq_decide_div_mod_eq, Nat.testBit_eq_decide_div_mod_eq, Nat.pow_succ, ← Nat.div_div_eq_div_mul]
  generalize s / 2 ^ i = x
  by_cases h : x % 2 = 1 <;> by_cases h2 : x / 2 % 2 = 1 <;> simp [h, h2] <;> omega
theorem members_ok (s n : Nat) (hs : s ≤ 100000) (hn : n ≤ 12) : Gives Try.prog 69 [i64 s, i64 n] (fun N => ints N (numsL s.testBit n)) := by
  refine pure_intro (ow := fun _ => false) Try.func69 Try.ntmps69 rfl (by kernel_rfl) (by simp) rfl (by decide) fun G hG hOw hNm hB => ?_
  simp only [go_sem, hG, hOw, reduceIte, Nat.reduceLeDiff, Nat.le_refl, Nat.reduceEqDiff, Nat.reduceAdd, Nat.reduceLT, reduceCtorEq, Int.toNat_natCast]
  refine semC_loop (fun k : Nat => St.of [(0, i64 s), (1, i64 n), (5, .own 9 0 (numsL s.testBit k).length 1), (6, i64 k)] [(9, .arr 3 1 ((numsL s.testBit k).map intE))]) (fun k => k ≤ n) (fun k => n - k) 0 (by simp) (ent_of [(9, none)] (by (simp only [go_sem, reduceIte, Nat.reduceLeDiff, Nat.le_refl, Nat.reduceEqDiff, Nat.reduceAdd, Nat.reduceLT, reduceCtorEq, Int.toNat_natCast]) <;> simp [numsL]) (by (simp only [go_sem, entH, entH1, nilArr, obOK, reduceIte, Nat.reduceLeDiff, Nat.le_refl, Nat.reduceEqDiff, Nat.reduceAdd, Nat.reduceLT, reduceCtorEq, Int.toNat_natCast]) <;> simp [numsL]) (by simp [injR, apart]) (by simp [coverR, usH]) (by simp [hNm, lkR, names])) ?_
  rintro k hk
  have hle := numsL_le s.testBit k
  have hb := bit1 s k
  have hq : (0 : Int) ≤ (s : Int) / 2 ^ k := Int.ediv_nonneg (by omega) (Int.pow_nonneg (by decide))
  have hq2 : (s : Int) / 2 ^ k ≤ s := Int.ediv_le_self _ (by omega)
  refine vc_sound _ _ _ ?_
  simp (config := { maxSteps := 2000000 }) only [go_sem, hG, hOw, hb, reduceIte, Nat.reduceLeDiff, Nat.le_refl, Nat.reduceEqDiff, Nat.reduceAdd, Nat.reduceLT, reduceCtorEq, Int.toNat_natCast]
  (repeat' (first | (with_reducible refine And.intro ?_ ?_) | (with_reducible intro _) | (with_reducible refine exP ?_ ?_))); all_goals (try omega)
  · rename_i h1 h2
    have e1 := numsL_succ s.testBit k
    have hbt : s.testBit k = true := by
      by_cases h : s.testBit k = true
      · exact h
      · simp [h] at h2
    rw [if_pos hbt] at e1
    refine ⟨k + 1, by omega, by omega, ?_⟩
    rw [e1]
    exact ent_of [(9, some 20)] (by (simp only [go_sem, reduceIte, Nat.reduceLeDiff, Nat.le_refl, Nat.reduceEqDiff, Nat.reduceAdd, Nat.reduceLT, reduceCtorEq, Int.toNat_natCast]) <;> simp [intE,i64]) (by (simp only [go_sem, entH, entH1, nilArr, obOK, reduceIte, Nat.reduceLeDiff, Nat.le_refl, Nat.reduceEqDiff, Nat.reduceAdd, Nat.reduceLT, reduceCtorEq, Int.toNat_natCast]) <;> simp [intE,i64]) (by simp [injR, apart]) (by simp [coverR, usH]) (by simp [hNm, lkR, names])
  · rename_i h1 h2
    have e1 := numsL_succ s.testBit k
    have hbt : ¬ s.testBit k = true := by
      intro h
      simp [h] at h2
    rw [if_neg hbt] at e1
    refine ⟨k + 1, by omega, by omega, ?_⟩
    rw [e1]
    exact ent_of [(9, some 9)] (by (simp only [go_sem, reduceIte, Nat.reduceLeDiff, Nat.le_refl, Nat.reduceEqDiff, Nat.reduceAdd, Nat.reduceLT, reduceCtorEq, Int.toNat_natCast]) <;> simp) (by (simp only [go_sem, entH, entH1, nilArr, obOK, reduceIte, Nat.reduceLeDiff, Nat.le_refl, Nat.reduceEqDiff, Nat.reduceAdd, Nat.reduceLT, reduceCtorEq, Int.toNat_natCast]) <;> simp) (by simp [injR, apart]) (by simp [coverR, usH]) (by simp [hNm, lkR, names])
  · rename_i hge
    rw [show k = n by omega]
    exact .refl _
/-- the parts are enough: all torn ones are among them, and one of each two that differ -/
def covB (t d : Nat → Bool) (n : Nat) (p : Nat → Bool) : Bool := (List.range n).all fun i => (!t i || p i) && (!(decide (i + 1 < n) && d i) || p i || p (i + 1))
theorem Covers_ok (r : Ro) (hr : Good r) (s : Nat) (hs : s ≤ 100000) : Gives Try.prog 71 [roE 0 r, i64 s] (fun _ => bl (covB (tornI r) (differI r) r.shares.length s.testBit)) := by
  refine pure_intro (ow := fun _ => false) Try.func71 Try.ntmps71 rfl (by kernel_rfl) (by simp) rfl (by decide) fun G hG hOw hNm hB => ?_
  simp only [go_sem, hG, hOw, reduceIte, Nat.reduceLeDiff, Nat.le_refl, Nat.reduceEqDiff, Nat.reduceAdd, Nat.reduceLT, reduceCtorEq, Int.toNat_natCast]
  have hsn := hr.sn
  refine semC_loop (fun k : Nat => St.of [(1, i64 s), (2, .ptr 2 0), (5, i64 k)] [(2, .box (roC 0 r))]) (fun k => k ≤ r.shares.length ∧ (List.range k).all (fun i => (!tornI r i || s.testBit i) && (!(decide (i + 1 < r.shares.length) && differI r i) || s.testBit i || s.testBit (i + 1))) = true) (fun k => r.shares.length - k) 0 (by simp) (ent_of [(2, some 2)] (by (simp only [go_sem, reduceIte, Nat.reduceLeDiff, Nat.le_refl, Nat.reduceEqDiff, Nat.reduceAdd, Nat.reduceLT, reduceCtorEq, Int.toNat_natCast]) <;> simp) (by (simp only [go_sem, entH, entH1, nilArr, obOK, reduceIte, Nat.reduceLeDiff, Nat.le_refl, Nat.reduceEqDiff, Nat.reduceAdd, Nat.reduceLT, reduceCtorEq, Int.toNat_natCast]) <;> simp) (by simp [injR, apart]) (by simp [coverR, usH]) (by simp [hNm, lkR, names])) ?_
  rintro k ⟨hk, hall⟩
  have hb := bit1 s k
  have hb3 := bit3 s k
  have hq : (0 : Int) ≤ (s : Int) / 2 ^ k := Int.ediv_nonneg (by omega) (Int.pow_nonneg (by decide))
  have hq2 : (s : Int) / 2 ^ k ≤ s := Int.ediv_le_self _ (by omega)
  have no : ∀ (hkl : k < r.shares.length), ((!tornI r k || s.testBit k) && (!(decide (k + 1 < r.shares.length) && differI r k) || s.testBit k || s.testBit (k + 1))) = false → false = covB (tornI r) (differI r) r.shares.length s.testBit := fun hkl h => by
    refine (List.all_eq_false.2 ⟨k, List.mem_range.2 hkl, ?_⟩).symm
    simp only [h]; decide
  have yes : ((!tornI r k || s.testBit k) && (!(decide (k + 1 < r.shares.length) && differI r k) || s.testBit k || s.testBit (k + 1))) = true → (List.range (k + 1)).all (fun i => (!tornI r i || s.testBit i) && (!(decide (i + 1 < r.shares.length) && differI r i) || s.testBit i || s.testBit (i + 1))) = true := fun h => by
    rw [List.range_succ, List.all_append, hall]
    simpa using h
  refine vc_sound _ _ _ ?_
  simp (config := { maxSteps := 2000000 }) only [go_sem, hG, hOw, hb, hb3, reduceIte, Nat.reduceLeDiff, Nat.le_refl, Nat.reduceEqDiff, Nat.reduceAdd, Nat.reduceLT, reduceCtorEq, Int.toNat_natCast]
  (repeat' (first | (with_reducible refine And.intro ?_ ?_) | (with_reducible intro _) | (with_reducible refine exP ?_ ?_))); all_goals (try omega)
  · rename_i hlt
    have hkl : k < r.shares.length := by omega
    refine call_pure (torn_ok r hr k hkl) (by first | exact Subs.refl _ | (repeat' (first | exact Subs.nil | exact Sub.refl _ | exact Sub.lo (Nat.zero_le _) | refine Subs.cons ?_ ?_ | refine Subs.agg ?_ | refine Subs.fp ?_ | refine Subs.tup ?_ | refine Sub.map (Nat.zero_le _) (fun _ => ?_)))) (by first | rfl | simp [allP, all0, pureV, pure0, *]) (by simp [chk, hG]) ?_
    cases h1 : tornI r k <;> cases h2 : s.testBit k <;> cases h3 : s.testBit (k + 1) <;>
    (simp only [h2, h3, Bool.false_eq_true, if_true, if_false] at hb hb3
     simp (config := { maxSteps := 2000000 }) only [go_sem, hG, hOw, hb, hb3, h1, reduceIte, Nat.reduceLeDiff, Nat.le_refl, Nat.reduceEqDiff, Nat.reduceAdd, Nat.reduceLT, reduceCtorEq, Int.toNat_natCast]
     (repeat' (first | (with_reducible refine And.intro ?_ ?_) | (with_reducible intro _) | (with_reducible refine exP ?_ ?_))); all_goals (try omega)
     all_goals first
       | (refine no hkl ?_; simp [h1, h2, h3]; done)
       | (refine ⟨k + 1, ⟨by omega, yes ?_⟩, by omega, ent_of [(2, some 2)] (by (simp only [go_sem, reduceIte, Nat.reduceLeDiff, Nat.le_refl, Nat.reduceEqDiff, Nat.reduceAdd, Nat.reduceLT, reduceCtorEq, Int.toNat_natCast]) <;> simp) (by (simp only [go_sem, entH, entH1, nilArr, obOK, reduceIte, Nat.reduceLeDiff, Nat.le_refl, Nat.reduceEqDiff, Nat.reduceAdd, Nat.reduceLT, reduceCtorEq, Int.toNat_natCast]) <;> simp) (by simp [injR, apart]) (by simp [coverR, usH]) (by simp [hNm, lkR, names])⟩; simp [h1, h2, h3]; done)
       | (have h5 : k + 1 < r.shares.length := (by omega); refine no hkl ?_; simp [h1, h2, h3, h5]; done)
       | (have h5 : k + 1 < r.shares.length := (by omega); refine ⟨k + 1, ⟨by omega, yes ?_⟩, by omega, ent_of [(2, some 2)] (by (simp only [go_sem, reduceIte, Nat.reduceLeDiff, Nat.le_refl, Nat.reduceEqDiff, Nat.reduceAdd, Nat.reduceLT, reduceCtorEq, Int.toNat_natCast]) <;> simp) (by (simp only [go_sem, entH, entH1, nilArr, obOK, reduceIte, Nat.reduceLeDiff, Nat.le_refl, Nat.reduceEqDiff, Nat.reduceAdd, Nat.reduceLT, reduceCtorEq, Int.toNat_natCast]) <;> simp) (by simp [injR, apart]) (by simp [coverR, usH]) (by simp [hNm, lkR, names])⟩; simp [h1, h2, h3, h5]; done)
       | (have h5 : ¬ (k + 1 < r.shares.length) := (by omega); refine no hkl ?_; simp [h1, h2, h3, h5]; done)
       | (have h5 : ¬ (k + 1 < r.shares.length) := (by omega); refine ⟨k + 1, ⟨by omega, yes ?_⟩, by omega, ent_of [(2, some 2)] (by (simp only [go_sem, reduceIte, Nat.reduceLeDiff, Nat.le_refl, Nat.reduceEqDiff, Nat.reduceAdd, Nat.reduceLT, reduceCtorEq, Int.toNat_natCast]) <;> simp) (by (simp only [go_sem, entH, entH1, nilArr, obOK, reduceIte, Nat.reduceLeDiff, Nat.le_refl, Nat.reduceEqDiff, Nat.reduceAdd, Nat.reduceLT, reduceCtorEq, Int.toNat_natCast]) <;> simp) (by simp [injR, apart]) (by simp [coverR, usH]) (by simp [hNm, lkR, names])⟩; simp [h1, h2, h3, h5]; done)
       | (refine call_pure (differ_ok r hr k (by omega)) (by first | exact Subs.refl _ | (repeat' (first | exact Subs.nil | exact Sub.refl _ | exact Sub.lo (Nat.zero_le _) | refine Subs.cons ?_ ?_ | refine Subs.agg ?_ | refine Subs.fp ?_ | refine Subs.tup ?_ | refine Sub.map (Nat.zero_le _) (fun _ => ?_)))) (by first | rfl | simp [allP, all0, pureV, pure0, *]) (by simp [chk, hG]) ?_
          cases h4 : differI r k <;>
          (simp (config := { maxSteps := 2000000 }) only [go_sem, hG, hOw, hb, hb3, h1, h4, reduceIte, Nat.reduceLeDiff, Nat.le_refl, Nat.reduceEqDiff, Nat.reduceAdd, Nat.reduceLT, reduceCtorEq, Int.toNat_natCast]
           (repeat' (first | (with_reducible refine And.intro ?_ ?_) | (with_reducible intro _) | (with_reducible refine exP ?_ ?_))); all_goals (try omega)
           all_goals first
             | (refine no hkl ?_; simp [h1, h2, h3, h4]; done)
             | (refine ⟨k + 1, ⟨by omega, yes ?_⟩, by omega, ent_of [(2, some 2)] (by (simp only [go_sem, reduceIte, Nat.reduceLeDiff, Nat.le_refl, Nat.reduceEqDiff, Nat.reduceAdd, Nat.reduceLT, reduceCtorEq, Int.toNat_natCast]) <;> simp) (by (simp only [go_sem, entH, entH1, nilArr, obOK, reduceIte, Nat.reduceLeDiff, Nat.le_refl, Nat.reduceEqDiff, Nat.reduceAdd, Nat.reduceLT, reduceCtorEq, Int.toNat_natCast]) <;> simp) (by simp [injR, apart]) (by simp [coverR, usH]) (by simp [hNm, lkR, names])⟩; simp [h1, h2, h3, h4]; done)
             | (have h5 : k + 1 < r.shares.length := (by omega); refine no hkl ?_; simp [h1, h2, h3, h4, h5]; done)
             | (have h5 : k + 1 < r.shares.length := (by omega); refine ⟨k + 1, ⟨by omega, yes ?_⟩, by omega, ent_of [(2, some 2)] (by (simp only [go_sem, reduceIte, Nat.reduceLeDiff, Nat.le_refl, Nat.reduceEqDiff, Nat.reduceAdd, Nat.reduceLT, reduceCtorEq, Int.toNat_natCast]) <;> simp) (by (simp only [go_sem, entH, entH1, nilArr, obOK, reduceIte, Nat.reduceLeDiff, Nat.le_refl, Nat.reduceEqDiff, Nat.reduceAdd, Nat.reduceLT, reduceCtorEq, Int.toNat_natCast]) <;> simp) (by simp [injR, apart]) (by simp [coverR, usH]) (by simp [hNm, lkR, names])⟩; simp [h1, h2, h3, h4, h5]; done)
             | (have h5 : ¬ (k + 1 < r.shares.length) := (by omega); refine no hkl ?_; simp [h1, h2, h3, h4, h5]; done)
             | (have h5 : ¬ (k + 1 < r.shares.length) := (by omega); refine ⟨k + 1, ⟨by omega, yes ?_⟩, by omega, ent_of [(2, some 2)] (by (simp only [go_sem, reduceIte, Nat.reduceLeDiff, Nat.le_refl, Nat.reduceEqDiff, Nat.reduceAdd, Nat.reduceLT, reduceCtorEq, Int.toNat_natCast]) <;> simp) (by (simp only [go_sem, entH, entH1, nilArr, obOK, reduceIte, Nat.reduceLeDiff, Nat.le_refl, Nat.reduceEqDiff, Nat.reduceAdd, Nat.reduceLT, reduceCtorEq, Int.toNat_natCast]) <;> simp) (by simp [injR, apart]) (by simp [coverR, usH]) (by simp [hNm, lkR, names])⟩; simp [h1, h2, h3, h4, h5]; done)
             | skip))
       | skip)
  · rename_i hge
    rw [show k = r.shares.length by omega] at hall
    exact hall.symm
end Go.Proofs.Ytgeldamcekjdgaa
