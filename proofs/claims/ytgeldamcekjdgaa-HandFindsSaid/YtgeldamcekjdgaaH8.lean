/- The document's answers: days, and when a part is back. -/
import Derived.Test.YtgeldamcekjdgaaH7
namespace Go.Proofs.Ytgeldamcekjdgaa
open Go Pm
set_option linter.unusedSimpArgs false
set_option linter.unusedVariables false
set_option maxHeartbeats 4000000
set_option maxRecDepth 100000
def daysI (s : Sr) (h : Hp) : Int := (s.to - s.fr + h.rate) / h.rate
theorem daysI_le {s : Sr} {h : Hp} (h1 : 0 ≤ s.fr) (h2 : s.fr ≤ s.to) (h3 : s.to ≤ 400) (h4 : 1 ≤ h.rate) (h5 : h.rate ≤ 20) : 0 ≤ daysI s h ∧ daysI s h ≤ 420 := by
  unfold daysI
  have := Int.ediv_le_self (a := s.to - s.fr + h.rate) h.rate (by omega)
  have := Int.ediv_nonneg (a := s.to - s.fr + h.rate) (b := h.rate) (by omega) (by omega)
  omega
theorem days_ok (r : Ro) (hr : Good r) (i : Nat) (hi : i < r.shares.length) (h : Int) (h0 : 0 ≤ h) (hh : h.toNat < r.helpers.length) : Gives Try.prog 39 [roE 0 r, i64 i, i64 h] (fun _ => i64 (daysI r.shares[i] r.helpers[h.toNat])) := by
  refine pure_intro (ow := fun _ => false) Try.func39 Try.ntmps39 rfl (by kernel_rfl) (by simp) rfl (by decide) fun G hG hOw hNm hB => ?_
  simp only [go_sem, hG, hOw, reduceIte, Nat.reduceLeDiff, Nat.le_refl, Nat.reduceEqDiff, Nat.reduceAdd, Nat.reduceLT, reduceCtorEq, Int.toNat_natCast]
  have hn := hr.hn
  have hs := hr.s i hi
  have hl := hr.ll
  have hH := hr.h _ hh
  (repeat' (first | (with_reducible refine And.intro ?_ ?_) | (with_reducible intro _) | (with_reducible refine exP ?_ ?_))); all_goals (try omega)
  refine semC_draw0 mixed (by kernel_rfl) ?_
  simp only [go_sem, hG, hOw, reduceIte, Nat.reduceLeDiff, Nat.le_refl, Nat.reduceEqDiff, Nat.reduceAdd, Nat.reduceLT, reduceCtorEq, Int.toNat_natCast]
  (repeat' (first | (with_reducible refine And.intro ?_ ?_) | (with_reducible intro _) | (with_reducible refine exP ?_ ?_))); all_goals (try omega)
  have hd := daysI_le (s := r.shares[i]) (h := r.helpers[h.toNat]) (by omega) (by omega) (by omega) (by omega) (by omega)
  unfold daysI at hd
  · rw [fitsK_i64]; omega
  · rfl
def backW (r : Ro) (h : Int) : Nat → Int
  | 0 => 0
  | i + 1 => match r.shares[i]?, r.helpers[h.toNat]? with
    | some s, some p => if s.helper = h then (if backW r h i < s.sent + p.post then s.sent + p.post else backW r h i) + daysI s p else backW r h i
    | _, _ => backW r h i
theorem backW_succ (r : Ro) (h : Int) {i : Nat} (hi : i < r.shares.length) (hh : h.toNat < r.helpers.length) :
    backW r h (i + 1) = if r.shares[i].helper = h then (if backW r h i < r.shares[i].sent + r.helpers[h.toNat].post then r.shares[i].sent + r.helpers[h.toNat].post else backW r h i) + daysI r.shares[i] r.helpers[h.toNat] else backW r h i := by
  simp [backW, hi, hh]
theorem backW_le {r : Ro} (hr : Good r) (h : Int) (hh : h.toNat < r.helpers.length) : ∀ i, i ≤ r.shares.length → 0 ≤ backW r h i ∧ backW r h i ≤ 1000 * i
  | 0, _ => by simp [backW]
  | i + 1, hi => by
    have ih := backW_le hr h hh i (by omega)
    have hs := hr.s i (by omega)
    have hl := hr.ll
    have hH := hr.h _ hh
    have hd := daysI_le (s := r.shares[i]) (h := r.helpers[h.toNat]) (by omega) (by omega) (by omega) (by omega) (by omega)
    rw [backW_succ r h (by omega) hh]
    split
    · split <;> constructor <;> omega
    · constructor <;> omega
def backR (r : Ro) (n : Int) : Int := if roundE r = 0 then if inB n 0 (r.shares.length - 1) then match r.shares[n.toNat]? with
  | some s => match r.helpers[s.helper.toNat]? with
    | some p => backW r s.helper (n.toNat + 1) + p.post
    | none => 0
  | none => 0 else 0 else 0
def backE (r : Ro) (n : Int) : Int := if roundE r = 0 then if inB n 0 (r.shares.length - 1) then 0 else 2 else roundE r
theorem Back_ok (r : Ro) (hr : OKr r) (n : Int) : Gives Try.prog 12 [roE 0 r, i64 n] (fun _ => .tup [i64 (backR r n), i64 (backE r n)]) := by
  have hs12 := hr.s
  refine pure_intro (ow := fun _ => false) Try.func12 Try.ntmps12 rfl (by kernel_rfl) (by simp) rfl (by decide) fun G hG hOw hNm hB => ?_
  simp only [go_sem, hG, hOw, reduceIte, Nat.reduceLeDiff, Nat.le_refl, Nat.reduceEqDiff, Nat.reduceAdd, Nat.reduceLT, reduceCtorEq, Int.toNat_natCast]
  refine call_pure (CheckR_ok r hr) (by first | exact Subs.refl _ | (repeat' (first | exact Subs.nil | exact Sub.refl _ | exact Sub.lo (Nat.zero_le _) | refine Subs.cons ?_ ?_ | refine Subs.agg ?_ | refine Subs.fp ?_ | refine Subs.tup ?_ | refine Sub.map (Nat.zero_le _) (fun _ => ?_)))) (by first | rfl | simp [allP, all0, pureV, pure0, *]) (by simp [chk, hG]) ?_
  simp only [go_sem, hG, hOw, reduceIte, Nat.reduceLeDiff, Nat.le_refl, Nat.reduceEqDiff, Nat.reduceAdd, Nat.reduceLT, reduceCtorEq, Int.toNat_natCast]
  (repeat' (first | (with_reducible refine And.intro ?_ ?_) | (with_reducible intro _) | (with_reducible refine exP ?_ ?_))); all_goals (try omega)
  · rename_i h
    rw [show backR r n = 0 by simp [backR, h], show backE r n = roundE r by simp [backE, h]]
    exact Sub.refl _
  · rename_i h
    have hg := good_of hr h
    refine call_pure (within05_ok n 0 (r.shares.length - 1)) (by first | exact Subs.refl _ | (repeat' (first | exact Subs.nil | exact Sub.refl _ | exact Sub.lo (Nat.zero_le _) | refine Subs.cons ?_ ?_ | refine Subs.agg ?_ | refine Subs.fp ?_ | refine Subs.tup ?_ | refine Sub.map (Nat.zero_le _) (fun _ => ?_)))) (by first | rfl | simp [allP, all0, pureV, pure0, *]) (by simp [chk, hG]) ?_
    simp only [go_sem, hG, hOw, reduceIte, Nat.reduceLeDiff, Nat.le_refl, Nat.reduceEqDiff, Nat.reduceAdd, Nat.reduceLT, reduceCtorEq, Int.toNat_natCast]
    (repeat' (first | (with_reducible refine And.intro ?_ ?_) | (with_reducible intro _) | (with_reducible refine exP ?_ ?_))); all_goals (try omega)
    · rename_i h2
      rw [show backR r n = 0 by simp [backR, h, h2], show backE r n = 2 by simp [backE, h, h2]]
      exact Sub.refl _
    · rename_i h2
      simp [inB] at h2; omega
    · rename_i h2
      simp [inB] at h2; omega
    · rename_i h2
      obtain ⟨hn0, hn1⟩ : 0 ≤ n ∧ n ≤ r.shares.length - 1 := by simpa [inB] using h2
      have hnl : n.toNat < r.shares.length := by omega
      have hsN := hg.s _ hnl
      have hll := hg.ll
      have hhl : r.shares[n.toNat].helper.toNat < r.helpers.length := by omega
      have hH := hg.h _ hhl
      rw [show backE r n = 0 by simp [backE, h, h2], show backR r n = backW r r.shares[n.toNat].helper (n.toNat + 1) + r.helpers[r.shares[n.toNat].helper.toNat].post by simp [backR, h, h2, hnl, hhl]]
      refine semC_loop (fun k : Nat => St.of [(1, i64 n), (2, .ptr 2 0), (7, i64 r.shares[n.toNat].helper), (8, i64 (backW r r.shares[n.toNat].helper k)), (9, i64 k)] [(2, .box (roC 0 r))]) (fun k => k ≤ n.toNat + 1) (fun k => n.toNat + 1 - k) 0 (by simp) (ent_of [(2, some 2)] (by (simp only [go_sem, reduceIte, Nat.reduceLeDiff, Nat.le_refl, Nat.reduceEqDiff, Nat.reduceAdd, Nat.reduceLT, reduceCtorEq, Int.toNat_natCast]) <;> simp [backW]) (by (simp only [go_sem, entH, entH1, nilArr, obOK, reduceIte, Nat.reduceLeDiff, Nat.le_refl, Nat.reduceEqDiff, Nat.reduceAdd, Nat.reduceLT, reduceCtorEq, Int.toNat_natCast]) <;> simp [backW]) (by simp [injR, apart]) (by simp [coverR, usH]) (by simp [hNm, lkR, names])) ?_
      rintro k hk
      have hW := backW_le hg r.shares[n.toNat].helper hhl k (by omega)
      refine vc_sound _ _ _ ?_; simp only [go_sem, hG, hOw, reduceIte, Nat.reduceLeDiff, Nat.le_refl, Nat.reduceEqDiff, Nat.reduceAdd, Nat.reduceLT, reduceCtorEq, Int.toNat_natCast]
      (repeat' (first | (with_reducible refine And.intro ?_ ?_) | (with_reducible intro _) | (with_reducible refine exP ?_ ?_))); all_goals (try omega)
      · rename_i hlt h3
        have hkl : k < r.shares.length := by omega
        have hsk := hg.s k hkl
        have e1 := backW_succ r r.shares[n.toNat].helper hkl hhl
        rw [if_pos h3] at e1
        have hd := daysI_le (s := r.shares[k]) (h := r.helpers[r.shares[n.toNat].helper.toNat]) (by omega) (by omega) (by omega) (by omega) (by omega)
        have hm : 0 ≤ (if backW r r.shares[n.toNat].helper k < r.shares[k].sent + r.helpers[r.shares[n.toNat].helper.toNat].post then r.shares[k].sent + r.helpers[r.shares[n.toNat].helper.toNat].post else backW r r.shares[n.toNat].helper k) ∧
            (if backW r r.shares[n.toNat].helper k < r.shares[k].sent + r.helpers[r.shares[n.toNat].helper.toNat].post then r.shares[k].sent + r.helpers[r.shares[n.toNat].helper.toNat].post else backW r r.shares[n.toNat].helper k) ≤ 1000 * k + 430 := by
          split <;> constructor <;> omega
        refine semC_draw0 mixed (by kernel_rfl) ?_
        simp only [go_sem, hG, hOw, reduceIte, Nat.reduceLeDiff, Nat.le_refl, Nat.reduceEqDiff, Nat.reduceAdd, Nat.reduceLT, reduceCtorEq, Int.toNat_natCast]
        (repeat' (first | (with_reducible refine And.intro ?_ ?_) | (with_reducible intro _) | (with_reducible refine exP ?_ ?_))); all_goals (try omega)
        refine ⟨_, callGives (days_ok r hg k hkl r.shares[n.toNat].helper (by omega) hhl) (by first | exact Subs.refl _ | (repeat' (first | exact Subs.nil | exact Sub.refl _ | exact Sub.lo (Nat.zero_le _) | refine Subs.cons ?_ ?_ | refine Subs.agg ?_ | refine Subs.fp ?_ | refine Subs.tup ?_ | refine Sub.map (Nat.zero_le _) (fun _ => ?_)))) (by first | rfl | simp [allP, all0, pureV, pure0, *]), ?_⟩
        simp only [go_sem, hG, hOw, reduceIte, Nat.reduceLeDiff, Nat.le_refl, Nat.reduceEqDiff, Nat.reduceAdd, Nat.reduceLT, reduceCtorEq, Int.toNat_natCast]
        (repeat' (first | (with_reducible refine And.intro ?_ ?_) | (with_reducible intro _) | (with_reducible refine exP ?_ ?_))); all_goals (try omega)
        refine ⟨k + 1, by omega, by omega, ?_⟩
        rw [e1]
        exact ent_of [(2, some 2)] (by (simp only [go_sem, reduceIte, Nat.reduceLeDiff, Nat.le_refl, Nat.reduceEqDiff, Nat.reduceAdd, Nat.reduceLT, reduceCtorEq, Int.toNat_natCast]) <;> simp) (by (simp only [go_sem, entH, entH1, nilArr, obOK, reduceIte, Nat.reduceLeDiff, Nat.le_refl, Nat.reduceEqDiff, Nat.reduceAdd, Nat.reduceLT, reduceCtorEq, Int.toNat_natCast]) <;> simp) (by simp [injR, apart]) (by simp [coverR, usH]) (by simp [hNm, lkR, names])
      · rename_i hlt h3
        have hkl : k < r.shares.length := by omega
        have e1 := backW_succ r r.shares[n.toNat].helper hkl hhl
        rw [if_neg h3] at e1
        refine ⟨k + 1, by omega, by omega, ?_⟩
        rw [e1]
        exact ent_of [(2, some 2)] (by (simp only [go_sem, reduceIte, Nat.reduceLeDiff, Nat.le_refl, Nat.reduceEqDiff, Nat.reduceAdd, Nat.reduceLT, reduceCtorEq, Int.toNat_natCast]) <;> simp) (by (simp only [go_sem, entH, entH1, nilArr, obOK, reduceIte, Nat.reduceLeDiff, Nat.le_refl, Nat.reduceEqDiff, Nat.reduceAdd, Nat.reduceLT, reduceCtorEq, Int.toNat_natCast]) <;> simp) (by simp [injR, apart]) (by simp [coverR, usH]) (by simp [hNm, lkR, names])
      · rename_i hge
        rw [show k = n.toNat + 1 by omega]
        exact Sub.refl _
end Go.Proofs.Ytgeldamcekjdgaa
