/- The document's answers: torn parts, gaps, days. -/
import Derived.Test.YtgeldamcekjdgaaH5
namespace Go.Proofs.Ytgeldamcekjdgaa
open Go Pm
set_option linter.unusedSimpArgs false
set_option linter.unusedVariables false
set_option maxHeartbeats 4000000
set_option maxRecDepth 100000
theorem allPre_at {α : Type} {f : List α → α → Bool} {l : List α} (h : allPre f [] l = true) {k : Nat} (hk : k < l.length) : f (l.take k) l[k] = true := by
  cases e : f (l.take k) l[k] with
  | true => rfl
  | false => rw [allPre_bad hk e] at h; exact absurd h (by simp)
structure Good (r : Ro) : Prop where
  ok : OKr r
  e : roundE r = 0
  ll : (linesL r.text).length ≤ 400
  hn : 1 ≤ r.helpers.length ∧ r.helpers.length ≤ 4
  sn : r.shares.length ≤ 8
  xn : r.sheets.length = r.shares.length
  h : ∀ k (hk : k < r.helpers.length), 0 ≤ r.helpers[k].post ∧ r.helpers[k].post ≤ 30 ∧ 1 ≤ r.helpers[k].rate ∧ r.helpers[k].rate ≤ 20
  s : ∀ k (hk : k < r.shares.length), 0 ≤ r.shares[k].fr ∧ r.shares[k].fr ≤ r.shares[k].to ∧ r.shares[k].to < (linesL r.text).length ∧ 0 ≤ r.shares[k].helper ∧ r.shares[k].helper < r.helpers.length ∧ 0 ≤ r.shares[k].sent ∧ r.shares[k].sent ≤ 400
theorem good_of {r : Ro} (hr : OKr r) (he : roundE r = 0) : Good r := by
  have hb : roundB r = true := by
    unfold roundE at he
    split at he
    · split at he
      · assumption
      · omega
    · omega
  simp only [roundB, Bool.and_eq_true, inB, decide_eq_true_eq] at hb
  obtain ⟨⟨⟨⟨⟨⟨h1, h2⟩, h3⟩, h4⟩, h5⟩, h6⟩, h7⟩ := hb
  refine ⟨hr, he, linesL_le hr.t, ⟨by omega, by omega⟩, by omega, by omega, fun k hk => ?_, fun k hk => ?_⟩
  · have := allPre_at h5 hk
    simp only [helpB, Bool.and_eq_true, inB, decide_eq_true_eq] at this
    omega
  · have := allPre_at h6 hk
    simp only [shareB, Bool.and_eq_true, inB, decide_eq_true_eq] at this
    omega
def tornB (x : Se) (s : Sr) : Bool := x.back && !decide ((x.lines.length : Int) = s.to - s.fr + 1)
def tornI (r : Ro) (i : Nat) : Bool := match r.sheets[i]?, r.shares[i]? with
  | some x, some s => tornB x s
  | _, _ => false
theorem tornI_at (r : Ro) {i : Nat} (h1 : i < r.shares.length) (h2 : i < r.sheets.length) : tornI r i = tornB r.sheets[i] r.shares[i] := by
  simp [tornI, h1, h2]
theorem torn_ok (r : Ro) (hr : Good r) (i : Nat) (hi : i < r.shares.length) : Gives Try.prog 45 [roE 0 r, i64 i] (fun _ => bl (tornI r i)) := by
  refine pure_intro (ow := fun _ => false) Try.func45 Try.ntmps45 rfl (by kernel_rfl) (by simp) rfl (by decide) fun G hG hOw hNm hB => ?_
  simp only [go_sem, hG, hOw, reduceIte, Nat.reduceLeDiff, Nat.le_refl, Nat.reduceEqDiff, Nat.reduceAdd, Nat.reduceLT, reduceCtorEq, Int.toNat_natCast]
  have hx := hr.xn
  have hs := hr.s i hi
  have hl := hr.ll
  have hxi : i < r.sheets.length := by omega
  have hx2 := (hr.ok.x.2 _ (List.getElem_mem hxi)).1
  rw [tornI_at r hi hxi]
  refine semC_draw0 mixed (by kernel_rfl) ?_
  simp only [go_sem, hG, hOw, reduceIte, Nat.reduceLeDiff, Nat.le_refl, Nat.reduceEqDiff, Nat.reduceAdd, Nat.reduceLT, reduceCtorEq, Int.toNat_natCast]
  (repeat' (first | (with_reducible refine And.intro ?_ ?_) | (with_reducible intro _) | (with_reducible refine exP ?_ ?_))); all_goals (try omega)
  · rename_i h; simp [tornB, h]
  · rename_i h; simp [tornB, h]
def numsL (p : Nat → Bool) (k : Nat) : List Int := ((List.range k).filter p).map Int.ofNat
theorem numsL_succ (p : Nat → Bool) (k : Nat) : numsL p (k + 1) = if p k then numsL p k ++ [(k : Int)] else numsL p k := by
  unfold numsL
  rw [List.range_succ, List.filter_append]
  cases h : p k <;> simp [h]
theorem numsL_le (p : Nat → Bool) (k : Nat) : (numsL p k).length ≤ k := by
  unfold numsL
  rw [List.length_map]
  exact Nat.le_trans (List.length_filter_le _ _) (by simp)
def tornL (r : Ro) : List Int := if roundE r = 0 then numsL (tornI r) r.shares.length else []
theorem Torn_ok (r : Ro) (hr : OKr r) : Gives Try.prog 19 [roE 0 r] (fun n => .tup [ints n (tornL r), i64 (roundE r)]) := by
  refine pure_intro (ow := fun _ => false) Try.func19 Try.ntmps19 rfl (by kernel_rfl) (by simp) rfl (by decide) fun G hG hOw hNm hB => ?_
  simp only [go_sem, hG, hOw, reduceIte, Nat.reduceLeDiff, Nat.le_refl, Nat.reduceEqDiff, Nat.reduceAdd, Nat.reduceLT, reduceCtorEq, Int.toNat_natCast]
  refine call_pure (CheckR_ok r hr) (by first | exact Subs.refl _ | (repeat' (first | exact Subs.nil | exact Sub.refl _ | exact Sub.lo (Nat.zero_le _) | refine Subs.cons ?_ ?_ | refine Subs.agg ?_ | refine Subs.fp ?_ | refine Subs.tup ?_ | refine Sub.map (Nat.zero_le _) (fun _ => ?_)))) (by first | rfl | simp [allP, all0, pureV, pure0, *]) (by simp [chk, hG]) ?_
  simp only [go_sem, hG, hOw, reduceIte, Nat.reduceLeDiff, Nat.le_refl, Nat.reduceEqDiff, Nat.reduceAdd, Nat.reduceLT, reduceCtorEq, Int.toNat_natCast]
  (repeat' (first | (with_reducible refine And.intro ?_ ?_) | (with_reducible intro _) | (with_reducible refine exP ?_ ?_))); all_goals (try omega)
  · rename_i h
    rw [show tornL r = [] by simp [tornL, h]]
    exact Subs.tup (.cons (.nil _ _) (.cons (.refl _) .nil))
  · rename_i h
    have hg := good_of hr h
    have hsn := hg.sn
    rw [show tornL r = numsL (tornI r) r.shares.length by simp [tornL, h], h]
    refine semC_loop (fun k : Nat => St.of [(1, .ptr 1 0), (5, .own 9 0 (numsL (tornI r) k).length 1), (6, i64 k)] [(1, .box (roC 0 r)), (9, .arr 3 1 ((numsL (tornI r) k).map intE))]) (fun k => k ≤ r.shares.length) (fun k => r.shares.length - k) 0 (by simp) (ent_of [(1, some 1), (9, none)] (by (simp only [go_sem, reduceIte, Nat.reduceLeDiff, Nat.le_refl, Nat.reduceEqDiff, Nat.reduceAdd, Nat.reduceLT, reduceCtorEq, Int.toNat_natCast]) <;> simp [numsL]) (by (simp only [go_sem, entH, entH1, nilArr, obOK, reduceIte, Nat.reduceLeDiff, Nat.le_refl, Nat.reduceEqDiff, Nat.reduceAdd, Nat.reduceLT, reduceCtorEq, Int.toNat_natCast]) <;> simp [numsL]) (by simp [injR, apart]) (by simp [coverR, usH]) (by simp [hNm, lkR, names])) ?_
    rintro k hk
    have hle := numsL_le (tornI r) k
    refine vc_sound _ _ _ ?_; simp only [go_sem, hG, hOw, reduceIte, Nat.reduceLeDiff, Nat.le_refl, Nat.reduceEqDiff, Nat.reduceAdd, Nat.reduceLT, reduceCtorEq, Int.toNat_natCast]
    (repeat' (first | (with_reducible refine And.intro ?_ ?_) | (with_reducible intro _) | (with_reducible refine exP ?_ ?_))); all_goals (try omega)
    · rename_i hlt
      have hkl : k < r.shares.length := by omega
      refine call_pure (torn_ok r hg k hkl) (by first | exact Subs.refl _ | (repeat' (first | exact Subs.nil | exact Sub.refl _ | exact Sub.lo (Nat.zero_le _) | refine Subs.cons ?_ ?_ | refine Subs.agg ?_ | refine Subs.fp ?_ | refine Subs.tup ?_ | refine Sub.map (Nat.zero_le _) (fun _ => ?_)))) (by first | rfl | simp [allP, all0, pureV, pure0, *]) (by simp [chk, hG]) ?_
      simp only [go_sem, hG, hOw, reduceIte, Nat.reduceLeDiff, Nat.le_refl, Nat.reduceEqDiff, Nat.reduceAdd, Nat.reduceLT, reduceCtorEq, Int.toNat_natCast]
      (repeat' (first | (with_reducible refine And.intro ?_ ?_) | (with_reducible intro _) | (with_reducible refine exP ?_ ?_))); all_goals (try omega)
      · rename_i h2
        have e1 := numsL_succ (tornI r) k
        rw [if_pos h2] at e1
        refine ⟨k + 1, by omega, by omega, ?_⟩
        rw [e1]
        exact ent_of [(1, some 1), (9, some 25)] (by (simp only [go_sem, reduceIte, Nat.reduceLeDiff, Nat.le_refl, Nat.reduceEqDiff, Nat.reduceAdd, Nat.reduceLT, reduceCtorEq, Int.toNat_natCast]) <;> simp [intE,i64]) (by (simp only [go_sem, entH, entH1, nilArr, obOK, reduceIte, Nat.reduceLeDiff, Nat.le_refl, Nat.reduceEqDiff, Nat.reduceAdd, Nat.reduceLT, reduceCtorEq, Int.toNat_natCast]) <;> simp [intE,i64]) (by simp [injR, apart]) (by simp [coverR, usH]) (by simp [hNm, lkR, names])
      · rename_i h2
        have e1 := numsL_succ (tornI r) k
        rw [if_neg (by rw [h2]; simp)] at e1
        refine ⟨k + 1, by omega, by omega, ?_⟩
        rw [e1]
        exact ent_of [(1, some 1), (9, some 9)] (by (simp only [go_sem, reduceIte, Nat.reduceLeDiff, Nat.le_refl, Nat.reduceEqDiff, Nat.reduceAdd, Nat.reduceLT, reduceCtorEq, Int.toNat_natCast]) <;> simp) (by (simp only [go_sem, entH, entH1, nilArr, obOK, reduceIte, Nat.reduceLeDiff, Nat.le_refl, Nat.reduceEqDiff, Nat.reduceAdd, Nat.reduceLT, reduceCtorEq, Int.toNat_natCast]) <;> simp) (by simp [injR, apart]) (by simp [coverR, usH]) (by simp [hNm, lkR, names])
    · rename_i hge
      rw [show k = r.shares.length by omega]
      exact .refl _
theorem SameInts_ok (l m : List Int) : Gives Try.prog 16 [ints 0 l, ints 0 m] (fun _ => bl (decide (l = m))) := by
  refine pure_intro (ow := fun _ => false) Try.func16 Try.ntmps16 rfl (by kernel_rfl) (by simp) rfl (by decide) fun G hG hOw hNm hB => ?_
  simp only [go_sem, hG, hOw, reduceIte, Nat.reduceLeDiff, Nat.le_refl, Nat.reduceEqDiff, Nat.reduceAdd, Nat.reduceLT, reduceCtorEq, Int.toNat_natCast]
  have hl := bd_lst hB (List.mem_cons_self ..)
  simp only [List.length_map] at hl
  refine ⟨fun h => ?_, fun h => ?_⟩
  · rw [decide_eq_false]
    rintro rfl
    simp at h
  have hlen : l.length = m.length := by omega
  refine semC_loop (fun k : Nat => St.of [(0, ints 0 l), (1, ints 0 m), (5, i64 k)] []) (fun k => k ≤ l.length ∧ l.take k = m.take k) (fun k => l.length - k) 0 (by simp) (ent_of0 (by (simp only [go_sem, reduceIte, Nat.reduceLeDiff, Nat.le_refl, Nat.reduceEqDiff, Nat.reduceAdd, Nat.reduceLT, reduceCtorEq, Int.toNat_natCast]) <;> simp) hNm) ?_
  rintro k ⟨hk, hall⟩
  refine vc_sound _ _ _ ?_; simp only [go_sem, hG, hOw, reduceIte, Nat.reduceLeDiff, Nat.le_refl, Nat.reduceEqDiff, Nat.reduceAdd, Nat.reduceLT, reduceCtorEq, Int.toNat_natCast]
  refine ⟨fun hlt => ?_, fun hge => ?_⟩
  · refine semC_draw0 mixed (by kernel_rfl) ?_
    simp only [go_sem, hG, hOw, reduceIte, Nat.reduceLeDiff, Nat.le_refl, Nat.reduceEqDiff, Nat.reduceAdd, Nat.reduceLT, reduceCtorEq, Int.toNat_natCast]
    refine ⟨by omega, by omega, fun h1 => ?_, fun h1 => ⟨(by first | omega | (simp; omega)), k + 1, ⟨by omega, ?_⟩, by omega, ent_of0 (by (simp only [go_sem, reduceIte, Nat.reduceLeDiff, Nat.le_refl, Nat.reduceEqDiff, Nat.reduceAdd, Nat.reduceLT, reduceCtorEq, Int.toNat_natCast]) <;> simp) hNm⟩⟩
    · rw [decide_eq_false]
      rintro rfl
      simp at h1
    · have e : l[k] = m[k] := by simpa using h1
      rw [List.take_add_one, List.take_add_one, hall, List.getElem?_eq_getElem (by omega), List.getElem?_eq_getElem (by omega), e]
  · rw [take_full hk hge, take_full (by omega) (by omega)] at hall
    rw [hall]; simp
def hasI (r : Ro) (n : Nat) : Bool := r.shares.any fun s => inB n s.fr s.to
def gapsL (r : Ro) : List Int := if roundE r = 0 then numsL (fun n => !hasI r n) (linesL r.text).length else []
theorem any_take_succ {α : Type} {p : α → Bool} {l : List α} {k : Nat} (hk : k < l.length) : (l.take (k + 1)).any p = ((l.take k).any p || p l[k]) := by
  rw [List.take_add_one, List.getElem?_eq_getElem hk, List.any_append]; simp
theorem Gaps_ok (r : Ro) (hr : OKr r) : Gives Try.prog 10 [roE 0 r] (fun n => .tup [ints n (gapsL r), i64 (roundE r)]) := by
  refine pure_intro (ow := fun _ => false) Try.func10 Try.ntmps10 rfl (by kernel_rfl) (by simp) rfl (by decide) fun G hG hOw hNm hB => ?_
  simp only [go_sem, hG, hOw, reduceIte, Nat.reduceLeDiff, Nat.le_refl, Nat.reduceEqDiff, Nat.reduceAdd, Nat.reduceLT, reduceCtorEq, Int.toNat_natCast]
  refine call_pure (CheckR_ok r hr) (by first | exact Subs.refl _ | (repeat' (first | exact Subs.nil | exact Sub.refl _ | exact Sub.lo (Nat.zero_le _) | refine Subs.cons ?_ ?_ | refine Subs.agg ?_ | refine Subs.fp ?_ | refine Subs.tup ?_ | refine Sub.map (Nat.zero_le _) (fun _ => ?_)))) (by first | rfl | simp [allP, all0, pureV, pure0, *]) (by simp [chk, hG]) ?_
  simp only [go_sem, hG, hOw, reduceIte, Nat.reduceLeDiff, Nat.le_refl, Nat.reduceEqDiff, Nat.reduceAdd, Nat.reduceLT, reduceCtorEq, Int.toNat_natCast]
  (repeat' (first | (with_reducible refine And.intro ?_ ?_) | (with_reducible intro _) | (with_reducible refine exP ?_ ?_))); all_goals (try omega)
  · rename_i h
    rw [show gapsL r = [] by simp [gapsL, h]]
    exact Subs.tup (.cons (.nil _ _) (.cons (.refl _) .nil))
  · rename_i h
    have hg := good_of hr h
    have hsn := hg.sn
    have hll := hg.ll
    rw [show gapsL r = numsL (fun n => !hasI r n) (linesL r.text).length by simp [gapsL, h], h]
    refine semC_loop (fun k : Nat => St.of [(1, .ptr 1 0), (5, .own 9 0 (numsL (fun n => !hasI r n) k).length 1), (6, i64 k)] [(1, .box (roC 0 r)), (9, .arr 3 1 ((numsL (fun n => !hasI r n) k).map intE))]) (fun k => k ≤ (linesL r.text).length) (fun k => (linesL r.text).length - k) 0 (by simp) (ent_of [(1, some 1), (9, none)] (by (simp only [go_sem, reduceIte, Nat.reduceLeDiff, Nat.le_refl, Nat.reduceEqDiff, Nat.reduceAdd, Nat.reduceLT, reduceCtorEq, Int.toNat_natCast]) <;> simp [numsL]) (by (simp only [go_sem, entH, entH1, nilArr, obOK, reduceIte, Nat.reduceLeDiff, Nat.le_refl, Nat.reduceEqDiff, Nat.reduceAdd, Nat.reduceLT, reduceCtorEq, Int.toNat_natCast]) <;> simp [numsL]) (by simp [injR, apart]) (by simp [coverR, usH]) (by simp [hNm, lkR, names])) ?_
    rintro k hk
    have hle := numsL_le (fun n => !hasI r n) k
    refine vc_sound _ _ _ ?_; simp only [go_sem, hG, hOw, reduceIte, Nat.reduceLeDiff, Nat.le_refl, Nat.reduceEqDiff, Nat.reduceAdd, Nat.reduceLT, reduceCtorEq, Int.toNat_natCast]
    refine call_pure (Lines_ok r.text hr.t) (by first | exact Subs.refl _ | (repeat' (first | exact Subs.nil | exact Sub.refl _ | exact Sub.lo (Nat.zero_le _) | refine Subs.cons ?_ ?_ | refine Subs.agg ?_ | refine Subs.fp ?_ | refine Subs.tup ?_ | refine Sub.map (Nat.zero_le _) (fun _ => ?_)))) (by first | rfl | simp [allP, all0, pureV, pure0, *]) (by simp [chk, hG]) ?_
    simp only [go_sem, hG, hOw, reduceIte, Nat.reduceLeDiff, Nat.le_refl, Nat.reduceEqDiff, Nat.reduceAdd, Nat.reduceLT, reduceCtorEq, Int.toNat_natCast]
    (repeat' (first | (with_reducible refine And.intro ?_ ?_) | (with_reducible intro _) | (with_reducible refine exP ?_ ?_))); all_goals (try omega)
    · rename_i hlt
      refine semC_cut (fun b : Bool => St.of [(1, .ptr 1 0), (5, .own 9 0 (numsL (fun n => !hasI r n) k).length 1), (6, i64 k), (7, bl b)] [(1, .box (roC 0 r)), (9, .arr 3 1 ((numsL (fun n => !hasI r n) k).map intE))]) (fun b => b = hasI r k) ?_ ?_
      · refine semC_loop (fun x : Nat => St.of [(1, .ptr 1 0), (5, .own 9 0 (numsL (fun n => !hasI r n) k).length 1), (6, i64 k), (7, bl ((r.shares.take x).any fun s => inB k s.fr s.to)), (8, i64 x)] [(1, .box (roC 0 r)), (9, .arr 3 1 ((numsL (fun n => !hasI r n) k).map intE))]) (fun x => x ≤ r.shares.length) (fun x => r.shares.length - x) 0 (by simp) (ent_of [(1, some 1), (9, some 9)] (by (simp only [go_sem, reduceIte, Nat.reduceLeDiff, Nat.le_refl, Nat.reduceEqDiff, Nat.reduceAdd, Nat.reduceLT, reduceCtorEq, Int.toNat_natCast]) <;> simp) (by (simp only [go_sem, entH, entH1, nilArr, obOK, reduceIte, Nat.reduceLeDiff, Nat.le_refl, Nat.reduceEqDiff, Nat.reduceAdd, Nat.reduceLT, reduceCtorEq, Int.toNat_natCast]) <;> simp) (by simp [injR, apart]) (by simp [coverR, usH]) (by simp [hNm, lkR, names])) ?_
        rintro x hx
        refine vc_sound _ _ _ ?_; simp only [go_sem, hG, hOw, reduceIte, Nat.reduceLeDiff, Nat.le_refl, Nat.reduceEqDiff, Nat.reduceAdd, Nat.reduceLT, reduceCtorEq, Int.toNat_natCast]
        (repeat' (first | (with_reducible refine And.intro ?_ ?_) | (with_reducible intro _) | (with_reducible refine exP ?_ ?_))); all_goals (try omega)
        · rename_i hlt2
          have hxl : x < r.shares.length := by omega
          have e1 := any_take_succ (p := fun s : Sr => inB k s.fr s.to) hxl
          refine semC_draw0 mixed (by kernel_rfl) ?_
          simp only [go_sem, hG, hOw, reduceIte, Nat.reduceLeDiff, Nat.le_refl, Nat.reduceEqDiff, Nat.reduceAdd, Nat.reduceLT, reduceCtorEq, Int.toNat_natCast]
          (repeat' (first | (with_reducible refine And.intro ?_ ?_) | (with_reducible intro _) | (with_reducible refine exP ?_ ?_))); all_goals (try omega)
          · rename_i h3
            refine ⟨_, callGives (within05_ok k r.shares[x].fr r.shares[x].to) (by first | exact Subs.refl _ | (repeat' (first | exact Subs.nil | exact Sub.refl _ | exact Sub.lo (Nat.zero_le _) | refine Subs.cons ?_ ?_ | refine Subs.agg ?_ | refine Subs.fp ?_ | refine Subs.tup ?_ | refine Sub.map (Nat.zero_le _) (fun _ => ?_)))) (by first | rfl | simp [allP, all0, pureV, pure0, *]), ?_⟩
            simp only [go_sem, hG, hOw, reduceIte, Nat.reduceLeDiff, Nat.le_refl, Nat.reduceEqDiff, Nat.reduceAdd, Nat.reduceLT, reduceCtorEq, Int.toNat_natCast]
            (repeat' (first | (with_reducible refine And.intro ?_ ?_) | (with_reducible intro _) | (with_reducible refine exP ?_ ?_))); all_goals (try omega)
            refine ⟨x + 1, by omega, by omega, ?_⟩
            rw [e1, h3, Bool.false_or]
            exact ent_of [(1, some 1), (9, some 9)] (by (simp only [go_sem, reduceIte, Nat.reduceLeDiff, Nat.le_refl, Nat.reduceEqDiff, Nat.reduceAdd, Nat.reduceLT, reduceCtorEq, Int.toNat_natCast]) <;> simp) (by (simp only [go_sem, entH, entH1, nilArr, obOK, reduceIte, Nat.reduceLeDiff, Nat.le_refl, Nat.reduceEqDiff, Nat.reduceAdd, Nat.reduceLT, reduceCtorEq, Int.toNat_natCast]) <;> simp) (by simp [injR, apart]) (by simp [coverR, usH]) (by simp [hNm, lkR, names])
          · rename_i h3
            refine ⟨x + 1, by omega, by omega, ?_⟩
            rw [e1, h3, Bool.true_or]
            exact ent_of [(1, some 1), (9, some 9)] (by (simp only [go_sem, reduceIte, Nat.reduceLeDiff, Nat.le_refl, Nat.reduceEqDiff, Nat.reduceAdd, Nat.reduceLT, reduceCtorEq, Int.toNat_natCast]) <;> simp) (by (simp only [go_sem, entH, entH1, nilArr, obOK, reduceIte, Nat.reduceLeDiff, Nat.le_refl, Nat.reduceEqDiff, Nat.reduceAdd, Nat.reduceLT, reduceCtorEq, Int.toNat_natCast]) <;> simp) (by simp [injR, apart]) (by simp [coverR, usH]) (by simp [hNm, lkR, names])
        · rename_i hge2
          refine ⟨_, rfl, ?_⟩
          unfold hasI
          rw [← List.take_length (l := r.shares), show x = r.shares.length by omega]
          exact ent_of [(1, some 1), (9, some 9)] (by (simp only [go_sem, reduceIte, Nat.reduceLeDiff, Nat.le_refl, Nat.reduceEqDiff, Nat.reduceAdd, Nat.reduceLT, reduceCtorEq, Int.toNat_natCast]) <;> simp) (by (simp only [go_sem, entH, entH1, nilArr, obOK, reduceIte, Nat.reduceLeDiff, Nat.le_refl, Nat.reduceEqDiff, Nat.reduceAdd, Nat.reduceLT, reduceCtorEq, Int.toNat_natCast]) <;> simp) (by simp [injR, apart]) (by simp [coverR, usH]) (by simp [hNm, lkR, names])
      · rintro b hb
        simp only [go_sem, hG, hOw, reduceIte, Nat.reduceLeDiff, Nat.le_refl, Nat.reduceEqDiff, Nat.reduceAdd, Nat.reduceLT, reduceCtorEq, Int.toNat_natCast]
        (repeat' (first | (with_reducible refine And.intro ?_ ?_) | (with_reducible intro _) | (with_reducible refine exP ?_ ?_))); all_goals (try omega)
        · rename_i h2
          have e1 := numsL_succ (fun n => !hasI r n) k
          rw [if_pos (by rw [← hb, h2]; rfl)] at e1
          refine ⟨k + 1, by omega, by omega, ?_⟩
          rw [e1]
          exact ent_of [(1, some 1), (9, some 51)] (by (simp only [go_sem, reduceIte, Nat.reduceLeDiff, Nat.le_refl, Nat.reduceEqDiff, Nat.reduceAdd, Nat.reduceLT, reduceCtorEq, Int.toNat_natCast]) <;> simp [intE,i64]) (by (simp only [go_sem, entH, entH1, nilArr, obOK, reduceIte, Nat.reduceLeDiff, Nat.le_refl, Nat.reduceEqDiff, Nat.reduceAdd, Nat.reduceLT, reduceCtorEq, Int.toNat_natCast]) <;> simp [intE,i64]) (by simp [injR, apart]) (by simp [coverR, usH]) (by simp [hNm, lkR, names])
        · rename_i h2
          have e1 := numsL_succ (fun n => !hasI r n) k
          rw [if_neg (by rw [← hb, h2]; simp)] at e1
          refine ⟨k + 1, by omega, by omega, ?_⟩
          rw [e1]
          exact ent_of [(1, some 1), (9, some 9)] (by (simp only [go_sem, reduceIte, Nat.reduceLeDiff, Nat.le_refl, Nat.reduceEqDiff, Nat.reduceAdd, Nat.reduceLT, reduceCtorEq, Int.toNat_natCast]) <;> simp) (by (simp only [go_sem, entH, entH1, nilArr, obOK, reduceIte, Nat.reduceLeDiff, Nat.le_refl, Nat.reduceEqDiff, Nat.reduceAdd, Nat.reduceLT, reduceCtorEq, Int.toNat_natCast]) <;> simp) (by simp [injR, apart]) (by simp [coverR, usH]) (by simp [hNm, lkR, names])
    · rename_i hge
      rw [show k = (linesL r.text).length by omega]
      exact .refl _
end Go.Proofs.Ytgeldamcekjdgaa
