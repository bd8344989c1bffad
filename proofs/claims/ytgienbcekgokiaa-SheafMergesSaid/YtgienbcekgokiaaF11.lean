/- The program: merging. -/
import Derived.Test.YtgienbcekgokiaaF7
import Derived.Test.YtgienbcekgokiaaSp3
namespace Go.Proofs.Ytgienbcekgokiaa
open Go Pm
set_option linter.unusedSimpArgs false
set_option linter.unusedVariables false
set_option maxHeartbeats 4000000
set_option maxRecDepth 100000
theorem sub_nilU (n : Nat) (e : Int) : Pm.Sub (.tup [.v (.slice none 0 0), .v (.int .i64 e)]) (.tup [.lst n 1 (List.map strE []), .v (.int .i64 e)]) := Subs.tup (.cons (.nil _ _) (.cons (.refl _) .nil))
theorem Equal_ok (l m : List ByteArray) : Gives Try.prog 44 [strs 0 l, strs 0 m] (fun _ => bl (decide (l = m))) := by
  refine pure_intro (ow := fun _ => false) Try.func44 Try.ntmps44 rfl (by kernel_rfl) (by simp) rfl (by decide) fun G hG hOw hNm hB => ?_
  simp only [go_sem, hG, hOw, reduceIte, Nat.reduceLeDiff, Nat.le_refl, Nat.reduceEqDiff, Nat.reduceAdd, Nat.reduceLT, reduceCtorEq, Int.toNat_natCast]
  have hl := bd_strs (lo := 0) (l := l) hB (by simp)
  refine ⟨fun h => ?_, fun h => ?_⟩
  · rw [decide_eq_false]
    rintro rfl
    simp at h
  have hlen : l.length = m.length := by omega
  refine semC_loop (fun k : Nat => St.of [(0, strs 0 l), (1, strs 0 m), (12, i64 l.length), (13, i64 k)] []) (fun k => k ≤ l.length ∧ l.take k = m.take k) (fun k => l.length - k) 0 (by simp) (ent_of0 (by (simp only [go_sem, reduceIte, Nat.reduceLeDiff, Nat.le_refl, Nat.reduceEqDiff, Nat.reduceAdd, Nat.reduceLT, reduceCtorEq, Int.toNat_natCast]) <;> simp) hNm) ?_
  rintro k ⟨hk, hall⟩
  refine vc_sound _ _ _ ?_; simp only [go_sem, hG, hOw, reduceIte, Nat.reduceLeDiff, Nat.le_refl, Nat.reduceEqDiff, Nat.reduceAdd, Nat.reduceLT, reduceCtorEq, Int.toNat_natCast]
  refine ⟨fun hlt => ?_, fun hge => ?_⟩
  · refine semC_draw0 mixed (by kernel_rfl) ?_
    simp only [go_sem, hG, hOw, reduceIte, Nat.reduceLeDiff, Nat.le_refl, Nat.reduceEqDiff, Nat.reduceAdd, Nat.reduceLT, reduceCtorEq, Int.toNat_natCast]
    refine ⟨by omega, by omega, fun h1 => ?_, fun h1 => ⟨(by first | omega | (simp; omega)), k + 1, ⟨by omega, ?_⟩, by omega, ent_of0 (by (simp only [go_sem, reduceIte, Nat.reduceLeDiff, Nat.le_refl, Nat.reduceEqDiff, Nat.reduceAdd, Nat.reduceLT, reduceCtorEq, Int.toNat_natCast]) <;> simp) hNm⟩⟩
    · rw [decide_eq_false]
      rintro rfl
      simp at h1
    · have e : l[k] = m[k] := by simpa using h1
      rw [List.take_add_one, List.take_add_one, hall, List.getElem?_eq_getElem (by omega), List.getElem?_eq_getElem (by omega), e]
  · rw [take_full hk hge, take_full (by omega) (by omega)] at hall
    rw [hall]; simp
theorem Merge1_ok (x y : Hk) (hx : 0 ≤ x.lo ∧ x.lo ≤ 1000) (hy : 0 ≤ y.lo ∧ y.lo ≤ 1000) : Gives Try.prog 47 [.agg (hkE 0 x), .agg (hkE 0 y)] (fun _ => i64 (x.lo - y.lo)) := by
  refine pure_intro (ow := fun _ => false) Try.func47 Try.ntmps47 rfl (by kernel_rfl) (by simp) rfl (by decide) fun G hG hOw hNm hB => ?_
  simp only [go_sem, hG, hOw, reduceIte, Nat.reduceLeDiff, Nat.le_refl, Nat.reduceEqDiff, Nat.reduceAdd, Nat.reduceLT, reduceCtorEq, Int.toNat_natCast]
  (repeat' (first | (with_reducible refine And.intro ?_ ?_) | (with_reducible intro _) | (with_reducible refine exP ?_ ?_))); all_goals (try omega)
theorem insertion_ok (a : Nat) (x y : Hk) (hx : 0 ≤ x.lo ∧ x.lo ≤ 1000) (hy : 0 ≤ y.lo ∧ y.lo ≤ 1000) :
    Tri Try.prog 69 [.own 0 0 2 3, i64 0, i64 2, .fn (.func 47) []] [(0, .arr 46 3 [hkE a x, hkE a y])]
      (fun _ => .ret (.tup []) [(0, .arr 46 3 ((srt x y).map (hkE a)))]) := by
  refine tri_intro (fun _ => false) Try.func69 Try.ntmps69 rfl (by kernel_rfl) (by simp) rfl (by decide) fun G hG hOw hNm => ?_
  simp only [go_sem, hG, hOw, reduceIte, Nat.reduceLeDiff, Nat.le_refl, Nat.reduceEqDiff, Nat.reduceAdd, Nat.reduceLT, reduceCtorEq, Int.toNat_natCast]
  (repeat' (first | (with_reducible refine And.intro ?_ ?_) | (with_reducible intro _) | (with_reducible refine exP ?_ ?_))); all_goals (try omega)
  refine semC_loop (fun b : Bool => St.of [(0, .own 0 0 2 3), (1, i64 0), (2, i64 2), (3, .fn (.func 47) []), (8, i64 (if b = true then 1 else 2))] [(0, .arr 46 3 (if b = true then [hkE a x, hkE a y] else (srt x y).map (hkE a)))]) (fun _ => True) (fun b => if b = true then 1 else 0) true trivial (ent_of [(0, some 0)] (by (simp only [go_sem, reduceIte, Nat.reduceLeDiff, Nat.le_refl, Nat.reduceEqDiff, Nat.reduceAdd, Nat.reduceLT, reduceCtorEq, Int.toNat_natCast]) <;> simp) (by (simp only [go_sem, entH, entH1, nilArr, obOK, reduceIte, Nat.reduceLeDiff, Nat.le_refl, Nat.reduceEqDiff, Nat.reduceAdd, Nat.reduceLT, reduceCtorEq, Int.toNat_natCast]) <;> simp) (by simp [injR, apart]) (by simp [coverR, usH]) (by simp [hNm, lkR, names])) ?_
  rintro b -
  cases b
  · refine vc_sound _ _ _ ?_; simp only [go_sem, hG, hOw, reduceIte, Nat.reduceLeDiff, Nat.le_refl, Nat.reduceEqDiff, Nat.reduceAdd, Nat.reduceLT, reduceCtorEq, Int.toNat_natCast]
    (repeat' (first | (with_reducible refine And.intro ?_ ?_) | (with_reducible intro _) | (with_reducible refine exP ?_ ?_))); all_goals (try omega)
    exact ⟨[(0, some 0)], by (simp only [EndT, go_sem, entH, entH1, nilArr, obOK, apart, injR, coverR, reduceIte, Nat.reduceLeDiff, Nat.le_refl, Nat.reduceEqDiff, Nat.reduceAdd, Nat.reduceLT, reduceCtorEq, Int.toNat_natCast]) <;> simp⟩
  · refine vc_sound _ _ _ ?_; simp only [go_sem, hG, hOw, reduceIte, Nat.reduceLeDiff, Nat.le_refl, Nat.reduceEqDiff, Nat.reduceAdd, Nat.reduceLT, reduceCtorEq, Int.toNat_natCast]
    (repeat' (first | (with_reducible refine And.intro ?_ ?_) | (with_reducible intro _) | (with_reducible refine exP ?_ ?_))); all_goals (try omega)
    refine semC_loop (fun c : Bool => St.of [(0, .own 0 0 2 3), (1, i64 0), (2, i64 2), (3, .fn (.func 47) []), (8, i64 1), (9, i64 (if c = true then 1 else 0))] [(0, .arr 46 3 (if c = true then [hkE a x, hkE a y] else [hkE a y, hkE a x]))]) (fun c => c = false → y.lo < x.lo) (fun c => if c = true then 1 else 0) true (by simp) (ent_of [(0, some 0)] (by (simp only [go_sem, reduceIte, Nat.reduceLeDiff, Nat.le_refl, Nat.reduceEqDiff, Nat.reduceAdd, Nat.reduceLT, reduceCtorEq, Int.toNat_natCast]) <;> simp) (by (simp only [go_sem, entH, entH1, nilArr, obOK, reduceIte, Nat.reduceLeDiff, Nat.le_refl, Nat.reduceEqDiff, Nat.reduceAdd, Nat.reduceLT, reduceCtorEq, Int.toNat_natCast]) <;> simp) (by simp [injR, apart]) (by simp [coverR, usH]) (by simp [hNm, lkR, names])) ?_
    rintro c hc
    cases c
    · have hc' := hc rfl
      refine vc_sound _ _ _ ?_; simp only [go_sem, hG, hOw, reduceIte, Nat.reduceLeDiff, Nat.le_refl, Nat.reduceEqDiff, Nat.reduceAdd, Nat.reduceLT, reduceCtorEq, Int.toNat_natCast]
      refine semC_draw0 mixed (by kernel_rfl) ?_
      simp only [go_sem, hG, hOw, reduceIte, Nat.reduceLeDiff, Nat.le_refl, Nat.reduceEqDiff, Nat.reduceAdd, Nat.reduceLT, reduceCtorEq, Int.toNat_natCast]
      (repeat' (first | (with_reducible refine And.intro ?_ ?_) | (with_reducible intro _) | (with_reducible refine exP ?_ ?_))); all_goals (try omega)
      exact ⟨false, by simp, ent_of [(0, some 0)] (by (simp only [go_sem, reduceIte, Nat.reduceLeDiff, Nat.le_refl, Nat.reduceEqDiff, Nat.reduceAdd, Nat.reduceLT, reduceCtorEq, Int.toNat_natCast]) <;> simp [srt,hc',hkE,i64,strs]) (by (simp only [go_sem, entH, entH1, nilArr, obOK, reduceIte, Nat.reduceLeDiff, Nat.le_refl, Nat.reduceEqDiff, Nat.reduceAdd, Nat.reduceLT, reduceCtorEq, Int.toNat_natCast]) <;> simp [srt,hc',hkE,i64,strs]) (by simp [injR, apart]) (by simp [coverR, usH]) (by simp [hNm, lkR, names])⟩
    · refine vc_sound _ _ _ ?_; simp only [go_sem, hG, hOw, reduceIte, Nat.reduceLeDiff, Nat.le_refl, Nat.reduceEqDiff, Nat.reduceAdd, Nat.reduceLT, reduceCtorEq, Int.toNat_natCast]
      refine semC_draw0 mixed (by kernel_rfl) ?_
      simp (config := { maxSteps := 2000000 }) only [go_sem, hG, hOw, Int.reduceToNat, Int.reduceSub, List.getElem_cons_succ, List.getElem_cons_zero, List.take_succ_cons, List.take_zero, reduceIte, Nat.reduceLeDiff, Nat.le_refl, Nat.reduceEqDiff, Nat.reduceAdd, Nat.reduceLT, reduceCtorEq, Int.toNat_natCast]
      (repeat' (first | (with_reducible refine And.intro ?_ ?_) | (with_reducible intro _) | (with_reducible refine exP ?_ ?_))); all_goals (try omega)
      refine ⟨_, callGives (Merge1_ok y x hy hx) (by first | exact Subs.refl _ | (repeat' (first | exact Subs.nil | exact Sub.refl _ | exact Sub.lo (Nat.zero_le _) | refine Subs.cons ?_ ?_ | refine Subs.agg ?_ | refine Subs.tup ?_ | refine Sub.map (Nat.zero_le _) (fun _ => ?_)))) (by first | rfl | simp [allP, all0, pureV, pure0, *]), ?_⟩
      simp only [go_sem, hG, hOw, reduceIte, Nat.reduceLeDiff, Nat.le_refl, Nat.reduceEqDiff, Nat.reduceAdd, Nat.reduceLT, reduceCtorEq, Int.toNat_natCast]
      (repeat' (first | (with_reducible refine And.intro ?_ ?_) | (with_reducible intro _) | (with_reducible refine exP ?_ ?_))); all_goals (try omega)
      · rename_i hlt
        refine semC_drawT [(46, [0]), (50, [0]), (51, [0]), (52, [0])] mixed (by kernel_rfl) ?_
        simp (config := { maxSteps := 2000000 }) only [go_sem, hG, hOw, Int.reduceToNat, Int.reduceSub, List.getElem_cons_succ, List.getElem_cons_zero, List.take_succ_cons, List.take_zero, putCells, List.set_cons_zero, List.set_cons_succ, reduceIte, Nat.reduceLeDiff, Nat.le_refl, Nat.reduceEqDiff, Nat.reduceAdd, Nat.reduceLT, reduceCtorEq, Int.toNat_natCast]
        (repeat' (first | (with_reducible refine And.intro ?_ ?_) | (with_reducible intro _) | (with_reducible refine exP ?_ ?_))); all_goals (try omega)
        exact ⟨false, by simp; omega, by simp, ent_of [(0, some 0)] (by (simp only [go_sem, reduceIte, Nat.reduceLeDiff, Nat.le_refl, Nat.reduceEqDiff, Nat.reduceAdd, Nat.reduceLT, reduceCtorEq, Int.toNat_natCast]) <;> simp) (by (simp only [go_sem, entH, entH1, nilArr, obOK, reduceIte, Nat.reduceLeDiff, Nat.le_refl, Nat.reduceEqDiff, Nat.reduceAdd, Nat.reduceLT, reduceCtorEq, Int.toNat_natCast]) <;> simp) (by simp [injR, apart]) (by simp [coverR, usH]) (by simp [hNm, lkR, names])⟩
      · rename_i hlt
        have hc' : ¬ y.lo < x.lo := by omega
        exact ⟨false, by simp, ent_of [(0, some 0)] (by (simp only [go_sem, reduceIte, Nat.reduceLeDiff, Nat.le_refl, Nat.reduceEqDiff, Nat.reduceAdd, Nat.reduceLT, reduceCtorEq, Int.toNat_natCast]) <;> simp [srt,hc',hkE,i64,strs]) (by (simp only [go_sem, entH, entH1, nilArr, obOK, reduceIte, Nat.reduceLeDiff, Nat.le_refl, Nat.reduceEqDiff, Nat.reduceAdd, Nat.reduceLT, reduceCtorEq, Int.toNat_natCast]) <;> simp [srt,hc',hkE,i64,strs]) (by simp [injR, apart]) (by simp [coverR, usH]) (by simp [hNm, lkR, names])⟩
theorem pdq_ok (a : Nat) (k : Int) (x y : Hk) (hx : 0 ≤ x.lo ∧ x.lo ≤ 1000) (hy : 0 ≤ y.lo ∧ y.lo ≤ 1000) :
    Tri Try.prog 61 [.own 0 0 2 3, i64 0, i64 2, i64 k, .fn (.func 47) []] [(0, .arr 46 3 [hkE a x, hkE a y])]
      (fun _ => .ret (.tup []) [(0, .arr 46 3 ((srt x y).map (hkE a)))]) := by
  refine tri_intro (fun _ => false) Try.func61 Try.ntmps61 rfl (by kernel_rfl) (by simp) rfl (by decide) fun G hG hOw hNm => ?_
  simp only [go_sem, hG, hOw, reduceIte, Nat.reduceLeDiff, Nat.le_refl, Nat.reduceEqDiff, Nat.reduceAdd, Nat.reduceLT, reduceCtorEq, Int.toNat_natCast]
  refine semC_loop (fun _ : Unit => St.of [(0, .own 0 0 2 3), (1, i64 0), (2, i64 2), (4, .fn (.func 47) [])] [(0, .arr 46 3 [hkE a x, hkE a y])]) (fun _ => True) (fun _ => 0) () trivial (ent_of [(0, some 0)] (by (simp only [go_sem, reduceIte, Nat.reduceLeDiff, Nat.le_refl, Nat.reduceEqDiff, Nat.reduceAdd, Nat.reduceLT, reduceCtorEq, Int.toNat_natCast]) <;> simp) (by (simp only [go_sem, entH, entH1, nilArr, obOK, reduceIte, Nat.reduceLeDiff, Nat.le_refl, Nat.reduceEqDiff, Nat.reduceAdd, Nat.reduceLT, reduceCtorEq, Int.toNat_natCast]) <;> simp) (by simp [injR, apart]) (by simp [coverR, usH]) (by simp [hNm, lkR, names])) ?_
  rintro ⟨⟩ -
  refine vc_sound _ _ _ ?_; simp only [go_sem, hG, hOw, reduceIte, Nat.reduceLeDiff, Nat.le_refl, Nat.reduceEqDiff, Nat.reduceAdd, Nat.reduceLT, reduceCtorEq, Int.toNat_natCast]
  (repeat' (first | (with_reducible refine And.intro ?_ ?_) | (with_reducible intro _) | (with_reducible refine exP ?_ ?_))); all_goals (try omega)
  refine call_tri [(0, 0)] [] (insertion_ok a x y hx hy) (by (simp only [go_sem, reduceIte, Nat.reduceLeDiff, Nat.le_refl, Nat.reduceEqDiff, Nat.reduceAdd, Nat.reduceLT, reduceCtorEq, Int.toNat_natCast]) <;> simp) (by (simp only [go_sem, entH, entH1, nilArr, obOK, reduceIte, Nat.reduceLeDiff, Nat.le_refl, Nat.reduceEqDiff, Nat.reduceAdd, Nat.reduceLT, reduceCtorEq, Int.toNat_natCast]) <;> simp) (by simp [injR, apart, toR]) (by simp [coverR, usH, toR]) (by simp [uniqP, lkR, toR]) (by simp [chk, hG]) ?_
  simp only [go_sem, hG, hOw, reduceIte, Nat.reduceLeDiff, Nat.le_refl, Nat.reduceEqDiff, Nat.reduceAdd, Nat.reduceLT, reduceCtorEq, Int.toNat_natCast]
  (repeat' (first | (with_reducible refine And.intro ?_ ?_) | (with_reducible intro _) | (with_reducible refine exP ?_ ?_))); all_goals (try omega)
  exact ⟨[(0, some 0)], by (simp only [EndT, go_sem, entH, entH1, nilArr, obOK, apart, injR, coverR, reduceIte, Nat.reduceLeDiff, Nat.le_refl, Nat.reduceEqDiff, Nat.reduceAdd, Nat.reduceLT, reduceCtorEq, Int.toNat_natCast]) <;> simp⟩
theorem Len64_ok : Gives Try.prog 78 [.v (.int .u64 2)] (fun _ => i64 2) := by
  refine pure_intro (ow := fun _ => false) Try.func78 Try.ntmps78 rfl (by kernel_rfl) (by simp) rfl (by decide) fun G hG hOw hNm hB => ?_
  simp only [go_sem, hG, hOw, reduceIte, Nat.reduceLeDiff, Nat.le_refl, Nat.reduceEqDiff, Nat.reduceAdd, Nat.reduceLT, reduceCtorEq, Int.toNat_natCast]
  (repeat' (first | (with_reducible refine And.intro ?_ ?_) | (with_reducible intro _) | (with_reducible refine exP ?_ ?_))); all_goals (try omega)
  all_goals decide +kernel
theorem Len_ok : Gives Try.prog 62 [.v (.int .u64 2)] (fun _ => i64 2) := by
  refine pure_intro (ow := fun _ => false) Try.func62 Try.ntmps62 rfl (by kernel_rfl) (by simp) rfl (by decide) fun G hG hOw hNm hB => ?_
  simp only [go_sem, hG, hOw, reduceIte, Nat.reduceLeDiff, Nat.le_refl, Nat.reduceEqDiff, Nat.reduceAdd, Nat.reduceLT, reduceCtorEq, Int.toNat_natCast]
  refine call_pure Len64_ok (by first | exact Subs.refl _ | (repeat' (first | exact Subs.nil | exact Sub.refl _ | exact Sub.lo (Nat.zero_le _) | refine Subs.cons ?_ ?_ | refine Subs.agg ?_ | refine Subs.tup ?_ | refine Sub.map (Nat.zero_le _) (fun _ => ?_)))) (by first | rfl | simp [allP, all0, pureV, pure0, *]) (by simp [chk, hG]) ?_
  simp only [go_sem, hG, hOw, reduceIte, Nat.reduceLeDiff, Nat.le_refl, Nat.reduceEqDiff, Nat.reduceAdd, Nat.reduceLT, reduceCtorEq, Int.toNat_natCast]
theorem SortFunc_ok (a : Nat) (x y : Hk) (hx : 0 ≤ x.lo ∧ x.lo ≤ 1000) (hy : 0 ≤ y.lo ∧ y.lo ≤ 1000) :
    Tri Try.prog 46 [.own 0 0 2 3, .fn (.func 47) []] [(0, .arr 46 3 [hkE a x, hkE a y])]
      (fun _ => .ret (.tup []) [(0, .arr 46 3 ((srt x y).map (hkE a)))]) := by
  refine tri_intro (fun _ => false) Try.func46 Try.ntmps46 rfl (by kernel_rfl) (by simp) rfl (by decide) fun G hG hOw hNm => ?_
  simp only [go_sem, hG, hOw, reduceIte, Nat.reduceLeDiff, Nat.le_refl, Nat.reduceEqDiff, Nat.reduceAdd, Nat.reduceLT, reduceCtorEq, Int.toNat_natCast]
  (repeat' (first | (with_reducible refine And.intro ?_ ?_) | (with_reducible intro _) | (with_reducible refine exP ?_ ?_))); all_goals (try omega)
  simp only [show IntKind.u64.wrap 2 = 2 from by decide]
  refine call_pure Len_ok (by first | exact Subs.refl _ | (repeat' (first | exact Subs.nil | exact Sub.refl _ | exact Sub.lo (Nat.zero_le _) | refine Subs.cons ?_ ?_ | refine Subs.agg ?_ | refine Subs.tup ?_ | refine Sub.map (Nat.zero_le _) (fun _ => ?_)))) (by first | rfl | simp [allP, all0, pureV, pure0, *]) (by simp [chk, hG]) ?_
  simp only [go_sem, hG, hOw, reduceIte, Nat.reduceLeDiff, Nat.le_refl, Nat.reduceEqDiff, Nat.reduceAdd, Nat.reduceLT, reduceCtorEq, Int.toNat_natCast]
  refine call_tri [(0, 0)] [] (pdq_ok a 2 x y hx hy) (by (simp only [go_sem, reduceIte, Nat.reduceLeDiff, Nat.le_refl, Nat.reduceEqDiff, Nat.reduceAdd, Nat.reduceLT, reduceCtorEq, Int.toNat_natCast]) <;> simp) (by (simp only [go_sem, entH, entH1, nilArr, obOK, reduceIte, Nat.reduceLeDiff, Nat.le_refl, Nat.reduceEqDiff, Nat.reduceAdd, Nat.reduceLT, reduceCtorEq, Int.toNat_natCast]) <;> simp) (by simp [injR, apart, toR]) (by simp [coverR, usH, toR]) (by simp [uniqP, lkR, toR]) (by simp [chk, hG]) ?_
  simp only [go_sem, hG, hOw, reduceIte, Nat.reduceLeDiff, Nat.le_refl, Nat.reduceEqDiff, Nat.reduceAdd, Nat.reduceLT, reduceCtorEq, Int.toNat_natCast]
  (repeat' (first | (with_reducible refine And.intro ?_ ?_) | (with_reducible intro _) | (with_reducible refine exP ?_ ?_))); all_goals (try omega)
  exact ⟨[(0, some 0)], by (simp only [EndT, go_sem, entH, entH1, nilArr, obOK, apart, injR, coverR, reduceIte, Nat.reduceLeDiff, Nat.le_refl, Nat.reduceEqDiff, Nat.reduceAdd, Nat.reduceLT, reduceCtorEq, Int.toNat_natCast]) <;> simp⟩
end Go.Proofs.Ytgienbcekgokiaa
