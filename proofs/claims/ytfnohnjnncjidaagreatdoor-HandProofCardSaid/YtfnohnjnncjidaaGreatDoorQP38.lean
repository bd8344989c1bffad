import Derived.Test.YtfnohnjnncjidaaGreatDoorQP27
import Derived.Test.YtfnohnjnncjidaaGreatDoorQP31
import Derived.Test.YtfnohnjnncjidaaGreatDoorQP32
namespace Go.Proofs.YtfnohnjnncjidaaGreatDoor
open Go Pm
set_option linter.unusedSimpArgs false
set_option linter.unusedVariables false
set_option maxHeartbeats 4000000
set_option maxRecDepth 100000
theorem open_good (r : Ro) (hr : OKr r) (he : roundE r = 0) : Gives Tryz.prog 62 [roE 0 r] (fun n => .tup [.fp (dkC n r), i64 0]) := by
  have hT : textB r.text = true := by
    cases h : textB r.text with
    | true => rfl
    | false => simp [roundE, h] at he
  have hR : roundB r = true := by
    cases h : roundB r with
    | true => rfl
    | false => simp [roundE, h, hT] at he
  refine pure_intro (ow := fun _ => false) Tryz.func62 Tryz.ntmps62 rfl (by kernel_rfl) (by simp) rfl (by decide) fun G hG hOw hNm hB => ?_; simp only [go_sem, hG, hOw]
  refine call_pure (LCheck_ok r.text) (by first | exact Subs.refl _ | (repeat' (first | exact Subs.nil | exact Sub.refl _ | exact Sub.lo (Nat.zero_le _) | refine Subs.cons ?_ ?_ | refine Subs.agg ?_ | refine Subs.fp ?_ | refine Subs.tup ?_ | refine Sub.map (Nat.zero_le _) (fun _ => ?_)))) (by first | rfl | simp [allP, all0, pureV, pure0, *]) (by simp [chk, hG]) ?_
  simp (config := { maxSteps := 2000000 }) only [go_sem, hG, hOw, hT]
  refine call_pure (laid_ok r hr.t) (by first | exact Subs.refl _ | (repeat' (first | exact Subs.nil | exact Sub.refl _ | exact Sub.lo (Nat.zero_le _) | refine Subs.cons ?_ ?_ | refine Subs.agg ?_ | refine Subs.fp ?_ | refine Subs.tup ?_ | refine Sub.map (Nat.zero_le _) (fun _ => ?_)))) (by first | rfl | simp [allP, all0, pureV, pure0, *]) (by simp [chk, hG]) ?_
  simp only [go_sem, hG, hOw]
  refine call_pure (right_ok r hr) (by first | exact Subs.refl _ | (repeat' (first | exact Subs.nil | exact Sub.refl _ | exact Sub.lo (Nat.zero_le _) | refine Subs.cons ?_ ?_ | refine Subs.agg ?_ | refine Subs.fp ?_ | refine Subs.tup ?_ | refine Sub.map (Nat.zero_le _) (fun _ => ?_)))) (by first | rfl | simp [allP, all0, pureV, pure0, *]) (by simp [chk, hG]) ?_
  simp (config := { maxSteps := 2000000 }) only [go_sem, hG, hOw, hR]
theorem open_bad (r : Ro) (hr : OKr r) (he : ¬ roundE r = 0) : Gives Tryz.prog 62 [roE 0 r] (fun _ => .tup [.v (.pointer none), i64 (roundE r)]) := by
  refine pure_intro (ow := fun _ => false) Tryz.func62 Tryz.ntmps62 rfl (by kernel_rfl) (by simp) rfl (by decide) fun G hG hOw hNm hB => ?_; simp only [go_sem, hG, hOw]
  refine call_pure (LCheck_ok r.text) (by first | exact Subs.refl _ | (repeat' (first | exact Subs.nil | exact Sub.refl _ | exact Sub.lo (Nat.zero_le _) | refine Subs.cons ?_ ?_ | refine Subs.agg ?_ | refine Subs.fp ?_ | refine Subs.tup ?_ | refine Sub.map (Nat.zero_le _) (fun _ => ?_)))) (by first | rfl | simp [allP, all0, pureV, pure0, *]) (by simp [chk, hG]) ?_
  simp only [go_sem, hG, hOw]
  cases hT : textB r.text with
  | false =>
    have e : roundE r = 10 := by simp [roundE, hT]
    (repeat' (first | (with_reducible refine And.intro ?_ ?_) | (with_reducible intro _) | (with_reducible refine exP ?_ ?_))); all_goals (try omega)
    · rw [e]; exact Sub.refl _
    · rename_i h; simp at h
  | true =>
    have hR : roundB r = false := by
      cases h : roundB r with
      | false => rfl
      | true => simp [roundE, h, hT] at he
    have e : roundE r = 50 := by simp [roundE, hT, hR]
    (repeat' (first | (with_reducible refine And.intro ?_ ?_) | (with_reducible intro _) | (with_reducible refine exP ?_ ?_))); all_goals (try omega)
    · rename_i h; simp at h
    · refine call_pure (laid_ok r hr.t) (by first | exact Subs.refl _ | (repeat' (first | exact Subs.nil | exact Sub.refl _ | exact Sub.lo (Nat.zero_le _) | refine Subs.cons ?_ ?_ | refine Subs.agg ?_ | refine Subs.fp ?_ | refine Subs.tup ?_ | refine Sub.map (Nat.zero_le _) (fun _ => ?_)))) (by first | rfl | simp [allP, all0, pureV, pure0, *]) (by simp [chk, hG]) ?_
      simp only [go_sem, hG, hOw]
      refine call_pure (right_ok r hr) (by first | exact Subs.refl _ | (repeat' (first | exact Subs.nil | exact Sub.refl _ | exact Sub.lo (Nat.zero_le _) | refine Subs.cons ?_ ?_ | refine Subs.agg ?_ | refine Subs.fp ?_ | refine Subs.tup ?_ | refine Sub.map (Nat.zero_le _) (fun _ => ?_)))) (by first | rfl | simp [allP, all0, pureV, pure0, *]) (by simp [chk, hG]) ?_
      simp (config := { maxSteps := 2000000 }) only [go_sem, hG, hOw, hR, e]
theorem Clone_ok (l : List ByteArray) (hl : l.length ≤ 1000) : Gives Tryz.prog 97 [strs 0 l] (fun n => strs n l) := by
  refine pure_intro (ow := fun _ => false) Tryz.func97 Tryz.ntmps97 rfl (by kernel_rfl) (by simp) rfl (by decide) fun G hG hOw hNm hB => ?_; simp only [go_sem, hG, hOw]
  (repeat' (first | (with_reducible refine And.intro ?_ ?_) | (with_reducible intro _) | (with_reducible refine exP ?_ ?_))); all_goals (try omega)
  · rename_i b h1 h2
    rw [show l = [] by simpa using h1 h2]
    exact .nil _ _
theorem Line_ok (r : Ro) (hr : OKr r) (n : Int) : Gives Tryz.prog 50 [roE 0 r, i64 n] (fun N => .tup [strs N (lineR r n), i64 (lineRE r n)]) := by
  refine pure_intro (ow := fun _ => false) Tryz.func50 Tryz.ntmps50 rfl (by kernel_rfl) (by simp) rfl (by decide) fun G hG hOw hNm hB => ?_; simp only [go_sem, hG, hOw]
  by_cases he : roundE r = 0
  · have hlen := linesL_le hr.t
    refine call_pure (open_good r hr he) (by first | exact Subs.refl _ | (repeat' (first | exact Subs.nil | exact Sub.refl _ | exact Sub.lo (Nat.zero_le _) | refine Subs.cons ?_ ?_ | refine Subs.agg ?_ | refine Subs.fp ?_ | refine Subs.tup ?_ | refine Sub.map (Nat.zero_le _) (fun _ => ?_)))) (by first | rfl | simp [allP, all0, pureV, pure0, *]) (by simp [chk, hG]) ?_
    simp only [go_sem, hG, hOw]
    (repeat' (first | (with_reducible refine And.intro ?_ ?_) | (with_reducible intro _) | (with_reducible refine exP ?_ ?_))); all_goals (try omega)
    refine call_pure (inH_one 0 ((linesL r.text).length - 1) n) (by first | exact Subs.refl _ | (repeat' (first | exact Subs.nil | exact Sub.refl _ | exact Sub.lo (Nat.zero_le _) | refine Subs.cons ?_ ?_ | refine Subs.agg ?_ | refine Subs.fp ?_ | refine Subs.tup ?_ | refine Sub.map (Nat.zero_le _) (fun _ => ?_)))) (by first | rfl | simp [allP, all0, pureV, pure0, *]) (by simp [chk, hG]) ?_
    simp only [go_sem, hG, hOw]
    (repeat' (first | (with_reducible refine And.intro ?_ ?_) | (with_reducible intro _) | (with_reducible refine exP ?_ ?_))); all_goals (try omega)
    · rename_i h2
      rw [show lineRE r n = 2 by simp [lineRE, he, h2], show lineR r n = [] by simp [lineR, he, h2]]
      exact Subs.tup (.cons (.nil _ _) (.cons (.refl _) .nil))
    · rename_i h2
      simp [inB] at h2; omega
    · rename_i h2
      simp [inB] at h2; omega
    · rename_i h2
      have hn : n.toNat < (linesL r.text).length := by simp [inB] at h2; omega
      have hlr := (linesL_rows hr.t _ (List.getElem_mem hn)).1
      refine call_pure (Clone_ok (linesL r.text)[n.toNat] (by omega)) (by first | exact Subs.refl _ | (repeat' (first | exact Subs.nil | exact Sub.refl _ | exact Sub.lo (Nat.zero_le _) | refine Subs.cons ?_ ?_ | refine Subs.agg ?_ | refine Subs.fp ?_ | refine Subs.tup ?_ | refine Sub.map (Nat.zero_le _) (fun _ => ?_)))) (by first | rfl | simp [allP, all0, pureV, pure0, *]) (by simp [chk, hG]) ?_
      simp only [go_sem, hG, hOw]
      rw [show lineRE r n = 0 by simp [lineRE, he, h2], show lineR r n = (linesL r.text)[n.toNat] by simp [lineR, he, h2, hn]]
      exact Sub.refl _
  · refine call_pure (open_bad r hr he) (by first | exact Subs.refl _ | (repeat' (first | exact Subs.nil | exact Sub.refl _ | exact Sub.lo (Nat.zero_le _) | refine Subs.cons ?_ ?_ | refine Subs.agg ?_ | refine Subs.fp ?_ | refine Subs.tup ?_ | refine Sub.map (Nat.zero_le _) (fun _ => ?_)))) (by first | rfl | simp [allP, all0, pureV, pure0, *]) (by simp [chk, hG]) ?_
    simp only [go_sem, hG, hOw]
    (repeat' (first | (with_reducible refine And.intro ?_ ?_) | (with_reducible intro _) | (with_reducible refine exP ?_ ?_))); all_goals (try omega)
    rw [show lineRE r n = roundE r by simp [lineRE, he], show lineR r n = [] by simp [lineR, he]]
    exact Subs.tup (.cons (.nil _ _) (.cons (.refl _) .nil))
end Go.Proofs.YtfnohnjnncjidaaGreatDoor
namespace Go.Proofs.YtfnohnjnncjidaaGreatDoor
open Go Pm
set_option linter.unusedSimpArgs false
set_option linter.unusedVariables false
set_option maxHeartbeats 4000000
set_option maxRecDepth 100000
theorem size_ok (r : Ro) (hr : Good r) (i : Nat) (hi : i < r.shares.length) : Gives Tryz.prog 122 [.fp (dkC 0 r), i64 i] (fun _ => i64 (r.shares[i].to - r.shares[i].fr + 1)) := by
  have hs := hr.s i hi
  have hl := hr.ll
  refine pure_intro (ow := fun _ => false) Tryz.func122 Tryz.ntmps122 rfl (by kernel_rfl) (by simp) rfl (by decide) fun G hG hOw hNm hB => ?_; simp only [go_sem, hG, hOw]
  refine semC_draw0 mixed (by kernel_rfl) ?_
  simp only [go_sem, hG, hOw]
  (repeat' (first | (with_reducible refine And.intro ?_ ?_) | (with_reducible intro _) | (with_reducible refine exP ?_ ?_))); all_goals (try omega)
theorem hdays_ok (r : Ro) (hr : Good r) (i : Nat) (hi : i < r.shares.length) (h : Int) (h0 : 0 ≤ h) (hh : h.toNat < r.helpers.length) : Gives Tryz.prog 75 [.fp (dkC 0 r), i64 i, i64 h] (fun _ => i64 (daysI r.shares[i] r.helpers[h.toNat])) := by
  have hs := hr.s i hi
  have hl := hr.ll
  have hn := hr.hn
  have hH := hr.h _ hh
  refine pure_intro (ow := fun _ => false) Tryz.func75 Tryz.ntmps75 rfl (by kernel_rfl) (by simp) rfl (by decide) fun G hG hOw hNm hB => ?_; simp only [go_sem, hG, hOw]
  (repeat' (first | (with_reducible refine And.intro ?_ ?_) | (with_reducible intro _) | (with_reducible refine exP ?_ ?_))); all_goals (try omega)
  refine call_pure (size_ok r hr i hi) (by first | exact Subs.refl _ | (repeat' (first | exact Subs.nil | exact Sub.refl _ | exact Sub.lo (Nat.zero_le _) | refine Subs.cons ?_ ?_ | refine Subs.agg ?_ | refine Subs.fp ?_ | refine Subs.tup ?_ | refine Sub.map (Nat.zero_le _) (fun _ => ?_)))) (by first | rfl | simp [allP, all0, pureV, pure0, *]) (by simp [chk, hG]) ?_
  simp only [go_sem, hG, hOw]
  have hd := daysI_le (s := r.shares[i]) (h := r.helpers[h.toNat]) (by omega) (by omega) (by omega) (by omega) (by omega)
  have e : r.shares[i].to - r.shares[i].fr + 1 + r.helpers[h.toNat].rate - 1 = r.shares[i].to - r.shares[i].fr + r.helpers[h.toNat].rate := by omega
  unfold daysI at hd
  (repeat' (first | (with_reducible refine And.intro ?_ ?_) | (with_reducible intro _) | (with_reducible refine exP ?_ ?_))); all_goals (try omega)
  · rw [fitsK_i64, e]; omega
  · rw [e]; rfl
theorem part_good (r : Ro) (hr : OKr r) (he : roundE r = 0) (n : Int) (hn : inB n 0 (r.shares.length - 1) = true) : Gives Tryz.prog 55 [roE 0 r, i64 n] (fun N => .tup [.fp (dkC N r), i64 0]) := by
  have hs := hr.s
  refine pure_intro (ow := fun _ => false) Tryz.func55 Tryz.ntmps55 rfl (by kernel_rfl) (by simp) rfl (by decide) fun G hG hOw hNm hB => ?_; simp only [go_sem, hG, hOw]
  refine call_pure (open_good r hr he) (by first | exact Subs.refl _ | (repeat' (first | exact Subs.nil | exact Sub.refl _ | exact Sub.lo (Nat.zero_le _) | refine Subs.cons ?_ ?_ | refine Subs.agg ?_ | refine Subs.fp ?_ | refine Subs.tup ?_ | refine Sub.map (Nat.zero_le _) (fun _ => ?_)))) (by first | rfl | simp [allP, all0, pureV, pure0, *]) (by simp [chk, hG]) ?_
  simp only [go_sem, hG, hOw]
  (repeat' (first | (with_reducible refine And.intro ?_ ?_) | (with_reducible intro _) | (with_reducible refine exP ?_ ?_))); all_goals (try omega)
  refine call_pure (inH_one 0 (r.shares.length - 1) n) (by first | exact Subs.refl _ | (repeat' (first | exact Subs.nil | exact Sub.refl _ | exact Sub.lo (Nat.zero_le _) | refine Subs.cons ?_ ?_ | refine Subs.agg ?_ | refine Subs.fp ?_ | refine Subs.tup ?_ | refine Sub.map (Nat.zero_le _) (fun _ => ?_)))) (by first | rfl | simp [allP, all0, pureV, pure0, *]) (by simp [chk, hG]) ?_
  simp (config := { maxSteps := 2000000 }) only [go_sem, hG, hOw, hn]
theorem part_bad (r : Ro) (hr : OKr r) (n : Int) (h : backE r n ≠ 0) : Gives Tryz.prog 55 [roE 0 r, i64 n] (fun N => .tup [.v (.pointer none), i64 (backE r n)]) := by
  have hs := hr.s
  refine pure_intro (ow := fun _ => false) Tryz.func55 Tryz.ntmps55 rfl (by kernel_rfl) (by simp) rfl (by decide) fun G hG hOw hNm hB => ?_; simp only [go_sem, hG, hOw]
  by_cases he : roundE r = 0
  · refine call_pure (open_good r hr he) (by first | exact Subs.refl _ | (repeat' (first | exact Subs.nil | exact Sub.refl _ | exact Sub.lo (Nat.zero_le _) | refine Subs.cons ?_ ?_ | refine Subs.agg ?_ | refine Subs.fp ?_ | refine Subs.tup ?_ | refine Sub.map (Nat.zero_le _) (fun _ => ?_)))) (by first | rfl | simp [allP, all0, pureV, pure0, *]) (by simp [chk, hG]) ?_
    simp only [go_sem, hG, hOw]
    (repeat' (first | (with_reducible refine And.intro ?_ ?_) | (with_reducible intro _) | (with_reducible refine exP ?_ ?_))); all_goals (try omega)
    refine call_pure (inH_one 0 (r.shares.length - 1) n) (by first | exact Subs.refl _ | (repeat' (first | exact Subs.nil | exact Sub.refl _ | exact Sub.lo (Nat.zero_le _) | refine Subs.cons ?_ ?_ | refine Subs.agg ?_ | refine Subs.fp ?_ | refine Subs.tup ?_ | refine Sub.map (Nat.zero_le _) (fun _ => ?_)))) (by first | rfl | simp [allP, all0, pureV, pure0, *]) (by simp [chk, hG]) ?_
    have hn : inB n 0 (r.shares.length - 1) = false := by
      cases hn : inB n 0 (r.shares.length - 1) with
      | false => rfl
      | true => simp [backE, he, hn] at h
    have e : backE r n = 2 := by simp [backE, he, hn]
    simp (config := { maxSteps := 2000000 }) only [go_sem, hG, hOw, hn, e]
  · refine call_pure (open_bad r hr he) (by first | exact Subs.refl _ | (repeat' (first | exact Subs.nil | exact Sub.refl _ | exact Sub.lo (Nat.zero_le _) | refine Subs.cons ?_ ?_ | refine Subs.agg ?_ | refine Subs.fp ?_ | refine Subs.tup ?_ | refine Sub.map (Nat.zero_le _) (fun _ => ?_)))) (by first | rfl | simp [allP, all0, pureV, pure0, *]) (by simp [chk, hG]) ?_
    have e : backE r n = roundE r := by simp [backE, he]
    simp (config := { maxSteps := 2000000 }) only [go_sem, hG, hOw, e]
    (repeat' (first | (with_reducible refine And.intro ?_ ?_) | (with_reducible intro _) | (with_reducible refine exP ?_ ?_))); all_goals (try omega)
theorem HBack_ok (r : Ro) (hr : OKr r) (n : Int) : Gives Tryz.prog 43 [roE 0 r, i64 n] (fun _ => .tup [i64 (backR r n), i64 (backE r n)]) := by
  have hs12 := hr.s
  refine pure_intro (ow := fun _ => false) Tryz.func43 Tryz.ntmps43 rfl (by kernel_rfl) (by simp) rfl (by decide) fun G hG hOw hNm hB => ?_; simp only [go_sem, hG, hOw]
  by_cases hE : backE r n = 0
  · have he : roundE r = 0 := by
      by_cases he : roundE r = 0
      · exact he
      · simp [backE, he] at hE
    have h2 : inB n 0 (r.shares.length - 1) = true := by
      cases hn : inB n 0 (r.shares.length - 1) with
      | true => rfl
      | false => simp [backE, he, hn] at hE
    have hg := good_of hr he
    obtain ⟨hn0, hn1⟩ : 0 ≤ n ∧ n ≤ r.shares.length - 1 := by simpa [inB] using h2
    have hnl : n.toNat < r.shares.length := by omega
    have hsN := hg.s _ hnl
    have hll := hg.ll
    have hhl : r.shares[n.toNat].helper.toNat < r.helpers.length := by omega
    have hH := hg.h _ hhl
    refine call_pure (part_good r hr he n h2) (by first | exact Subs.refl _ | (repeat' (first | exact Subs.nil | exact Sub.refl _ | exact Sub.lo (Nat.zero_le _) | refine Subs.cons ?_ ?_ | refine Subs.agg ?_ | refine Subs.fp ?_ | refine Subs.tup ?_ | refine Sub.map (Nat.zero_le _) (fun _ => ?_)))) (by first | rfl | simp [allP, all0, pureV, pure0, *]) (by simp [chk, hG]) ?_
    simp only [go_sem, hG, hOw]
    (repeat' (first | (with_reducible refine And.intro ?_ ?_) | (with_reducible intro _) | (with_reducible refine exP ?_ ?_))); all_goals (try omega)
    have hq : (n + 1).toNat = n.toNat + 1 := by omega
    have hmin : min (n.toNat + 1) r.shares.length = n.toNat + 1 := Nat.min_eq_left (by omega)
    have hlt : (r.shares.take (n.toNat + 1)).length = n.toNat + 1 := by rw [List.length_take]; exact hmin
    rw [hE, show backR r n = backW r r.shares[n.toNat].helper (n.toNat + 1) + r.helpers[r.shares[n.toNat].helper.toNat].post by simp [backR, he, h2, hnl, hhl]]
    refine semC_loop (fun k : Nat => St.of [(6, .fp (dkC G.lo r)), (8, i64 r.shares[n.toNat].helper), (9, i64 r.helpers[r.shares[n.toNat].helper.toNat].post), (10, i64 (backW r r.shares[n.toNat].helper k)), (47, srs 0 (r.shares.take (n.toNat + 1))), (48, i64 (n.toNat + 1 : Nat)), (49, i64 k)] []) (fun k => k ≤ n.toNat + 1) (fun k => n.toNat + 1 - k) 0 (by simp) (ent_of [] (by (simp only [go_sem]) <;> simp [hq,hmin,backW]) (by (simp only [go_sem, entH, entH1, nilArr, obOK]) <;> simp [hq,hmin,backW]) (by simp [injR, apart]) (by simp [coverR, usH]) (by simp [hNm, lkR, names])) ?_
    rintro k hk
    have hW := backW_le hg r.shares[n.toNat].helper hhl k (by omega)
    refine vc_sound _ _ _ ?_
    simp (config := { maxSteps := 2000000 }) only [go_sem, hG, hOw, hlt, List.getElem_take]
    (repeat' (first | (with_reducible refine And.intro ?_ ?_) | (with_reducible intro _) | (with_reducible refine exP ?_ ?_))); all_goals (try omega)
    · rename_i hlt1 h3
      have hkl : k < r.shares.length := by omega
      have hsk := hg.s k hkl
      have e1 := backW_succ r r.shares[n.toNat].helper hkl hhl
      rw [if_pos h3] at e1
      have hd := daysI_le (s := r.shares[k]) (h := r.helpers[r.shares[n.toNat].helper.toNat]) (by omega) (by omega) (by omega) (by omega) (by omega)
      have hm : 0 ≤ (if backW r r.shares[n.toNat].helper k < r.shares[k].sent + r.helpers[r.shares[n.toNat].helper.toNat].post then r.shares[k].sent + r.helpers[r.shares[n.toNat].helper.toNat].post else backW r r.shares[n.toNat].helper k) ∧
          (if backW r r.shares[n.toNat].helper k < r.shares[k].sent + r.helpers[r.shares[n.toNat].helper.toNat].post then r.shares[k].sent + r.helpers[r.shares[n.toNat].helper.toNat].post else backW r r.shares[n.toNat].helper k) ≤ 1000 * k + 430 := by
        split <;> constructor <;> omega
      refine semC_draw0 mixed (by kernel_rfl) ?_
      simp only [go_sem, hG, hOw]
      (repeat' (first | (with_reducible refine And.intro ?_ ?_) | (with_reducible intro _) | (with_reducible refine exP ?_ ?_))); all_goals (try omega)
      refine ⟨_, callGives (hdays_ok r hg k hkl r.shares[n.toNat].helper (by omega) hhl) (by first | exact Subs.refl _ | (repeat' (first | exact Subs.nil | exact Sub.refl _ | exact Sub.lo (Nat.zero_le _) | refine Subs.cons ?_ ?_ | refine Subs.agg ?_ | refine Subs.fp ?_ | refine Subs.tup ?_ | refine Sub.map (Nat.zero_le _) (fun _ => ?_)))) (by first | rfl | simp [allP, all0, pureV, pure0, *]), ?_⟩
      simp only [go_sem, hG, hOw]
      (repeat' (first | (with_reducible refine And.intro ?_ ?_) | (with_reducible intro _) | (with_reducible refine exP ?_ ?_))); all_goals (try omega)
      refine ⟨k + 1, by omega, by omega, ?_⟩
      rw [e1]
      exact ent_of0 (by (simp only [go_sem]) <;> simp) hNm
    · rename_i hlt1 h3
      have hkl : k < r.shares.length := by omega
      have e1 := backW_succ r r.shares[n.toNat].helper hkl hhl
      rw [if_neg h3] at e1
      refine ⟨k + 1, by omega, by omega, ?_⟩
      rw [e1]
      exact ent_of0 (by (simp only [go_sem]) <;> simp) hNm
    · rename_i hge
      rw [show k = n.toNat + 1 by omega]
      exact Sub.refl _
  · refine call_pure (part_bad r hr n hE) (by first | exact Subs.refl _ | (repeat' (first | exact Subs.nil | exact Sub.refl _ | exact Sub.lo (Nat.zero_le _) | refine Subs.cons ?_ ?_ | refine Subs.agg ?_ | refine Subs.fp ?_ | refine Subs.tup ?_ | refine Sub.map (Nat.zero_le _) (fun _ => ?_)))) (by first | rfl | simp [allP, all0, pureV, pure0, *]) (by simp [chk, hG]) ?_
    simp only [go_sem, hG, hOw]
    (repeat' (first | (with_reducible refine And.intro ?_ ?_) | (with_reducible intro _) | (with_reducible refine exP ?_ ?_))); all_goals (try omega)
    rw [show backR r n = 0 by
      unfold backR backE at *
      split
      · rename_i he
        rw [if_pos he] at hE
        split
        · rename_i hn; rw [if_pos hn] at hE; exact absurd rfl hE
        · rfl
      · rfl]
    exact Sub.refl _
end Go.Proofs.YtfnohnjnncjidaaGreatDoor
