import Derived.Test.YtfnohnjnncjidaaGreatDoorQP47
namespace Go.Proofs.YtfnohnjnncjidaaGreatDoor
open Go Pm
set_option linter.unusedSimpArgs false
set_option linter.unusedVariables false
set_option maxHeartbeats 4000000
set_option maxRecDepth 100000
def sumI (r : Ro) (ps y : List Int) (h : Nat) : Nat → Int
  | 0 => 0
  | k + 1 => if getI y k = h then sumI r ps y h k + wrI r (getI ps k) h else sumI r ps y h k
theorem wrL_sum (r : Ro) (ps y : List Int) (hy : ∀ a ∈ y, 0 ≤ a ∧ a < r.helpers.length) (h : Nat) (hh : h < r.helpers.length) : ∀ k, k ≤ y.length → getI (wrL r ps y k) h = sumI r ps y h k
  | 0, _ => by simp [wrL, sumI, getI, List.getElem?_replicate, hh]
  | k + 1, hk => by
    have ih := wrL_sum r ps y hy h hh k (by omega)
    have hb := hy _ (List.getElem_mem (show k < y.length by omega))
    have e := getI_at (show k < y.length by omega)
    simp only [wrL, wrS, sumI]
    rw [getI_set _ _ _ _ (by rw [wrL_len, e]; omega), e]
    by_cases q : y[k] = (h : Int)
    · rw [if_pos (by omega), if_pos q, q, Int.toNat_natCast, ih]
    · rw [if_neg (by omega), if_neg q, ih]
def lastS (r : Ro) (ps y : List Int) (day : Int) : Nat → Int
  | 0 => day
  | h + 1 => if 0 < sumI r ps y h y.length then (if lastS r ps y day h < day + sumI r ps y h y.length + 2 * ((r.helpers[h]?).getD ⟨0, 0, 0⟩).post then day + sumI r ps y h y.length + 2 * ((r.helpers[h]?).getD ⟨0, 0, 0⟩).post else lastS r ps y day h) else lastS r ps y day h
theorem lastS_eq (r : Ro) (ps y : List Int) (hy : ∀ a ∈ y, 0 ≤ a ∧ a < r.helpers.length) (day : Int) : ∀ h, h ≤ r.helpers.length → lastI r (wrL r ps y y.length) day h = lastS r ps y day h
  | 0, _ => rfl
  | h + 1, hh => by
    have ih := lastS_eq r ps y hy day h (by omega)
    simp only [lastI, lastS, ih, wrL_sum r ps y hy h (by omega) y.length (Nat.le_refl _)]
theorem backI_eq (r : Ro) (ps y : List Int) (hy : ∀ a ∈ y, 0 ≤ a ∧ a < r.helpers.length) (day : Int) : backI r ps day y = lastS r ps y day r.helpers.length := lastS_eq r ps y hy day _ (Nat.le_refl _)
theorem sumI_bd (r : Ro) (hr : Good r) (ps y : List Int) (hpS : ∀ p ∈ ps, 0 ≤ p ∧ p < r.shares.length) (h : Nat) (hh : h < r.helpers.length) : ∀ k, k ≤ ps.length → 0 ≤ sumI r ps y h k ∧ sumI r ps y h k ≤ 420 * k
  | 0, _ => by simp [sumI]
  | k + 1, hk => by
    have ih := sumI_bd r hr ps y hpS h hh k (by omega)
    have hp := hpS _ (List.getElem_mem (show k < ps.length by omega))
    have hw := wrI_bd r hr (getI ps k) h (by rw [getI_at (show k < ps.length by omega)]; exact hp) (by omega)
    simp only [sumI]
    split <;> constructor <;> omega
theorem lastS_bd (r : Ro) (hr : Good r) (ps y : List Int) (hpS : ∀ p ∈ ps, 0 ≤ p ∧ p < r.shares.length) (hl : y.length = ps.length) (hl8 : ps.length ≤ 12) (day : Int) (hd : 0 ≤ day ∧ day ≤ 400) : ∀ h, h ≤ r.helpers.length → 0 ≤ lastS r ps y day h ∧ lastS r ps y day h ≤ 20000
  | 0, _ => by simp only [lastS]; omega
  | h + 1, hh => by
    have ih := lastS_bd r hr ps y hpS hl hl8 day hd h (by omega)
    have hs := sumI_bd r hr ps y hpS h (by omega) y.length (by omega)
    have hH := hr.h h (by omega)
    simp only [lastS, List.getElem?_eq_getElem (show h < r.helpers.length by omega), Option.getD_some]
    split
    · split <;> constructor <;> omega
    · exact ih
theorem compsB_all (B : Nat) : ∀ m y, y.length = m → (∀ a : Int, a ∈ y → 0 ≤ a ∧ a < B) → y ∈ compsB B m
  | 0, y, h, _ => by
    have : y = [] := List.length_eq_zero_iff.1 h
    subst this; simp [compsB]
  | m + 1, [], h, _ => by simp at h
  | m + 1, x :: y, h, hy => by
    have hx := hy x (List.mem_cons_self ..)
    simp only [compsB, List.mem_flatMap, List.mem_range, List.mem_map]
    exact ⟨x.toNat, by omega, y, compsB_all B m y (by simpa using h) (fun a ha => hy a (List.mem_cons_of_mem _ ha)), by rw [Int.toNat_of_nonneg hx.1]⟩
theorem compsB_pw (B : Nat) : ∀ m, (compsB B m).Pairwise fun a b => befL a b = true
  | 0 => List.pairwise_singleton _ _
  | m + 1 => by
    have ih := compsB_pw B m
    unfold compsB
    rw [List.pairwise_flatMap]
    refine ⟨fun k _ => ?_, ?_⟩
    · rw [List.pairwise_map]
      exact ih.imp fun {a b} h => by simpa [befL] using h
    · refine List.pairwise_lt_range.imp fun {a b} h x hx y hy => ?_
      obtain ⟨x', _, rfl⟩ := List.mem_map.1 hx
      obtain ⟨y', _, rfl⟩ := List.mem_map.1 hy
      have hne : ¬ (a : Int) = b := by omega
      simp only [befL, hne, if_false, decide_eq_true_eq]
      omega
theorem asg_least (r : Ro) (hr : Good r) (ps : List Int) (hpS : ∀ p ∈ ps, 0 ≤ p ∧ p < r.shares.length) (hl8 : ps.length ≤ 12) (day : Int) (hd : 0 ≤ day ∧ day ≤ 400) (z : List Int) (hz : z.length = ps.length) (hzr : ∀ a : Int, a ∈ z → 0 ≤ a ∧ a < r.helpers.length) :
    backI r ps day (asgBest r ps day) ≤ backI r ps day z ∧ (backI r ps day z ≤ backI r ps day (asgBest r ps day) → beforeB z (asgBest r ps day) = false) := by
  have hc : ∀ y ∈ compsB r.helpers.length ps.length, 0 ≤ backI r ps day y := fun y hy => by
    obtain ⟨h1, h2⟩ := compsB_mem _ _ _ hy
    rw [backI_eq r ps y h2]
    exact (lastS_bd r hr ps y hpS h1 hl8 day hd _ (Nat.le_refl _)).1
  have hm := compsB_all r.helpers.length ps.length z hz hzr
  have hf := fold_spec (backI r ps day) (fun _ => true) (fun a b => befL a b = true) (compsB r.helpers.length ps.length) [] ([], -1) (by simpa using hc) (by simpa using compsB_pw _ _) (.inl ⟨by simp, rfl⟩)
  have e : asgBest r ps day = ((compsB r.helpers.length ps.length).foldl (bstep (backI r ps day) fun _ => true) ([], -1)).1 := by
    unfold asgBest bfoldB; congr 2; simp
  simp only [List.nil_append] at hf
  rcases hf with ⟨h1, _⟩ | ⟨h1, _, _, h4⟩
  · exact absurd (h1 z hm) (by simp)
  · rw [← e] at h1 h4
    obtain ⟨m1, m2⟩ := compsB_mem _ _ _ h1
    rcases h4 z hm trivial with q | ⟨q, q2⟩
    · exact ⟨by omega, fun h => by omega⟩
    · refine ⟨by omega, fun _ => ?_⟩
      rcases q2 with q2 | q2
      · rw [q2]; exact beforeB_irr _
      · refine beforeB_asym ?_
        rw [beforeB_len (by omega)]; exact q2
theorem back1_ok (r : Ro) (hr : Good r) (ps : List Int) (hpS : ∀ p ∈ ps, 0 ≤ p ∧ p < r.shares.length) (day : Int) (hd : 0 ≤ day ∧ day ≤ 400) (y : List Int) (hl : y.length = ps.length) (hl8 : ps.length ≤ 12) (hy : ∀ h ∈ y, 0 ≤ h ∧ h < r.helpers.length) :
    Gives Tryz.prog 44 [ints 0 y, .fp [i64 day], .fp (roC 0 r), .fp [ints 0 ps]] (fun _ => i64 (backI r ps day y)) := by
  have hhn := hr.hn
  have hsn := hr.sn
  rw [backI_eq r ps y hy]
  refine pure_intro (ow := fun _ => false) Tryz.func44 Tryz.ntmps44 rfl (by kernel_rfl) (by simp) rfl (by decide) fun G hG hOw hNm hB => ?_; simp only [go_sem, hG, hOw]
  (repeat' (first | (with_reducible refine And.intro ?_ ?_) | (with_reducible intro _) | (with_reducible refine exP ?_ ?_))); all_goals (try omega)
  refine semC_loop (fun j : Nat => St.of [(0, ints 0 y), (1, .fp [i64 day]), (2, .fp (roC 0 r)), (3, .fp [ints 0 ps]), (6, i64 (lastS r ps y day j)), (14, hps 0 r.helpers), (15, i64 r.helpers.length), (16, i64 j)] []) (fun j => j ≤ r.helpers.length) (fun j => r.helpers.length - j) 0 (by simp) (ent_of [] (by (simp only [go_sem]) <;> simp [lastS]) (by (simp only [go_sem, entH, entH1, nilArr, obOK]) <;> simp [lastS]) (by simp [injR, apart]) (by simp [coverR, usH]) (by simp [hNm, lkR, names])) ?_
  rintro j hj
  have hlb := lastS_bd r hr ps y hpS hl hl8 day hd j hj
  refine vc_sound _ _ _ ?_; simp only [go_sem, hG, hOw]
  (repeat' (first | (with_reducible refine And.intro ?_ ?_) | (with_reducible intro _) | (with_reducible refine exP ?_ ?_))); all_goals (try omega)
  · rename_i hlt
    have hjl : j < r.helpers.length := by omega
    have hH := hr.h j hjl
    refine semC_cut (fun _ : Unit => St.of [(0, ints 0 y), (1, .fp [i64 day]), (2, .fp (roC 0 r)), (3, .fp [ints 0 ps]), (6, i64 (lastS r ps y day j)), (8, .ptr 8 0), (9, i64 (sumI r ps y j y.length)), (14, hps 0 r.helpers), (15, i64 r.helpers.length), (16, i64 j)] [(8, .box (hpE r.helpers[j]))]) (fun _ => True) ?_ ?_
    · refine semC_loop (fun k : Nat => St.of [(0, ints 0 y), (1, .fp [i64 day]), (2, .fp (roC 0 r)), (3, .fp [ints 0 ps]), (6, i64 (lastS r ps y day j)), (7, i64 j), (8, .ptr 8 0), (9, i64 (sumI r ps y j k)), (14, hps 0 r.helpers), (15, i64 r.helpers.length), (16, i64 j), (21, ints 0 ps), (22, i64 ps.length), (23, i64 k)] [(8, .box (hpE r.helpers[j]))]) (fun k => k ≤ ps.length) (fun k => ps.length - k) 0 (by simp) (ent_of [(8, some 8)] (by (simp only [go_sem]) <;> simp [sumI]) (by (simp only [go_sem, entH, entH1, nilArr, obOK]) <;> simp [sumI]) (by simp [injR, apart]) (by simp [coverR, usH]) (by simp [hNm, lkR, names])) ?_
      rintro k hk
      have hsb := sumI_bd r hr ps y hpS j hjl k hk
      refine vc_sound _ _ _ ?_; simp only [go_sem, hG, hOw]
      (repeat' (first | (with_reducible refine And.intro ?_ ?_) | (with_reducible intro _) | (with_reducible refine exP ?_ ?_))); all_goals (try omega)
      · rename_i hlt2
        have hkp : k < ps.length := by omega
        have hky : k < y.length := by omega
        have hpk := hpS _ (List.getElem_mem hkp)
        have hyk := hy _ (List.getElem_mem hky)
        obtain ⟨p, hp⟩ : ∃ p : Nat, ps[k] = p := ⟨ps[k].toNat, by omega⟩
        have hpl : p < r.shares.length := by omega
        have hS := hr.s p hpl
        have hll := hr.ll
        have e1 : sumI r ps y j (k + 1) = if y[k] = j then sumI r ps y j k + daysI r.shares[p] r.helpers[j] else sumI r ps y j k := by
          simp only [sumI]
          rw [getI_at hky, getI_at hkp, hp]
          unfold wrI
          rw [Int.toNat_natCast, Int.toNat_natCast, List.getElem?_eq_getElem hpl, List.getElem?_eq_getElem hjl]
        have hdb := daysI_le (s := r.shares[p]) (h := r.helpers[j]) (by omega) (by omega) (by omega) (by omega) (by omega)
        refine semC_draw0 mixed (by kernel_rfl) ?_
        simp (config := { maxSteps := 2000000 }) only [go_sem, hG, hOw, hp]
        (repeat' (first | (with_reducible refine And.intro ?_ ?_) | (with_reducible intro _) | (with_reducible refine exP ?_ ?_))); all_goals (try omega)
        · rename_i q1 q2 q3 q4 q5
          rw [if_pos q5] at e1
          unfold daysI at hdb e1
          refine semC_draw0 mixed (by kernel_rfl) ?_
          simp only [go_sem, hG, hOw]
          (repeat' (first | (with_reducible refine And.intro ?_ ?_) | (with_reducible intro _) | (with_reducible refine exP ?_ ?_))); all_goals (try omega)
          · rw [fitsK_i64]; omega
          · refine ⟨k + 1, by omega, by omega, ?_⟩
            rw [e1]
            exact ent_of [(8, some 8)] (by (simp only [go_sem]) <;> simp) (by (simp only [go_sem, entH, entH1, nilArr, obOK]) <;> simp) (by simp [injR, apart]) (by simp [coverR, usH]) (by simp [hNm, lkR, names])
        · rename_i q1 q2 q3 q4 q5
          rw [if_neg q5] at e1
          refine ⟨k + 1, by omega, by omega, ?_⟩
          rw [e1]
          exact ent_of [(8, some 8)] (by (simp only [go_sem]) <;> simp) (by (simp only [go_sem, entH, entH1, nilArr, obOK]) <;> simp) (by simp [injR, apart]) (by simp [coverR, usH]) (by simp [hNm, lkR, names])
      · rename_i hge
        rw [show k = y.length by omega]
        exact ⟨(), ent_of [(8, some 8)] (by (simp only [go_sem]) <;> simp) (by (simp only [go_sem, entH, entH1, nilArr, obOK]) <;> simp) (by simp [injR, apart]) (by simp [coverR, usH]) (by simp [hNm, lkR, names])⟩
    rintro ⟨⟩ -
    have hsb := sumI_bd r hr ps y hpS j hjl y.length (by omega)
    have e1 : lastS r ps y day (j + 1) = if 0 < sumI r ps y j y.length then (if lastS r ps y day j < day + sumI r ps y j y.length + 2 * r.helpers[j].post then day + sumI r ps y j y.length + 2 * r.helpers[j].post else lastS r ps y day j) else lastS r ps y day j := by
      simp only [lastS, List.getElem?_eq_getElem hjl, Option.getD_some]
    simp only [go_sem, hG, hOw]
    (repeat' (first | (with_reducible refine And.intro ?_ ?_) | (with_reducible intro _) | (with_reducible refine exP ?_ ?_))); all_goals (try omega)
    · rename_i q1
      rw [if_pos q1] at e1
      (repeat' (first | (with_reducible refine And.intro ?_ ?_) | (with_reducible intro _) | (with_reducible refine exP ?_ ?_))); all_goals (try omega)
      all_goals (refine ⟨j + 1, by omega, by omega, ?_⟩)
      all_goals rw [e1]
      all_goals exact ent_of0 (by (simp only [go_sem]) <;> simp) hNm
    · rename_i q1
      rw [if_neg q1] at e1
      refine ⟨j + 1, by omega, by omega, ?_⟩
      rw [e1]
      exact ent_of0 (by (simp only [go_sem]) <;> simp) hNm
  · rename_i hge
    rw [show r.helpers.length = j by omega]
end Go.Proofs.YtfnohnjnncjidaaGreatDoor
namespace Go.Proofs.YtfnohnjnncjidaaGreatDoor
open Go Pm
set_option linter.unusedSimpArgs false
set_option linter.unusedVariables false
set_option maxHeartbeats 4000000
set_option maxRecDepth 100000
def otherL (l : List Int) (nh : Nat) (k : Nat) : List Int := (List.range k).map fun i => chooseI l i % (nh : Int)
theorem otherL_succ (l : List Int) (nh k : Nat) : otherL l nh (k + 1) = otherL l nh k ++ [chooseI l k % (nh : Int)] := by simp [otherL, List.range_succ]
theorem otherL_len (l : List Int) (nh k : Nat) : (otherL l nh k).length = k := by simp [otherL]
theorem otherL_zero (l : List Int) (nh : Nat) : otherL l nh 0 = [] := rfl
attribute [go_sem] otherL_zero otherL_len
theorem HandAssign_ok (r : Ro) (d : Nat) (hd : d < 65536) (bs : List Int) (hbs : OKu bs) : Gives Tryz.prog 10 [roE 0 r, .v (.int .u16 d), u32s 0 bs] (fun _ => bl true) := by
  cases hrd : readyB r with
  | false =>
    refine pure_intro (ow := fun _ => false) Tryz.func10 Tryz.ntmps10 rfl (by kernel_rfl) (by simp) rfl (by decide) fun G hG hOw hNm hB => ?_; simp only [go_sem, hG, hOw]
    refine call_pure alive_ok (Subs.refl _) rfl (by simp [chk, hG]) ?_
    simp only [go_sem, hG, hOw]
    refine call_pure (ready_ok r) (by first | exact Subs.refl _ | (repeat' (first | exact Subs.nil | exact Sub.refl _ | exact Sub.lo (Nat.zero_le _) | refine Subs.cons ?_ ?_ | refine Subs.agg ?_ | refine Subs.fp ?_ | refine Subs.tup ?_ | refine Sub.map (Nat.zero_le _) (fun _ => ?_)))) (by first | rfl | simp [allP, all0, pureV, pure0, *]) (by simp [chk, hG]) ?_
    simp (config := { maxSteps := 2000000 }) only [go_sem, hG, hOw, hrd]
    try (repeat' (first | (with_reducible refine And.intro ?_ ?_) | (with_reducible intro _) | (with_reducible refine exP ?_ ?_))); all_goals (try omega)
  | true =>
    obtain ⟨hr, hg⟩ := ready_good hrd
    have he := hg.e
    have hsn := hg.sn
    have hhn := hg.hn
    obtain ⟨day, hday⟩ : ∃ day : Int, day = (d : Int) % 401 := ⟨_, rfl⟩
    have hdb : 0 ≤ day ∧ day ≤ 400 := by omega
    obtain ⟨A, hA⟩ : ∃ A, A = againP r := ⟨_, rfl⟩
    have hAm := againP_mem r hg
    have c1 := Assign_ok r hr day
    have c2 := HAgain_ok r hr
    have e1 : asgE r day = 0 := by simp [asgE, he, inB, hdb]
    have e2 : asgL r day = asgBest r A day := by simp [asgL, e1, hA]
    have e3 : asgD r day = backI r A day (asgBest r A day) := by simp [asgD, e1, e2, hA]
    rw [e1, e2, e3] at c1
    rw [he, ← hA] at c2
    rw [← hA] at hAm
    obtain ⟨hpS, hpl⟩ := hAm
    obtain ⟨b1, b2⟩ := asgBest_mem r hg A day
    obtain ⟨L, hL⟩ : ∃ L, L = asgBest r A day := ⟨_, rfl⟩
    rw [← hL] at c1 b1 b2
    have bk1 := back1_ok r hg A hpS day hdb L b1 (by omega) b2
    have hom : ∀ k, ∀ a : Int, a ∈ otherL bs r.helpers.length k → 0 ≤ a ∧ a < r.helpers.length := by
      intro k a ha
      obtain ⟨i, _, rfl⟩ := List.mem_map.1 ha
      exact ⟨Int.emod_nonneg _ (by omega), Int.emod_lt_of_pos _ (by omega)⟩
    obtain ⟨O, hO⟩ : ∃ O, O = otherL bs r.helpers.length A.length := ⟨_, rfl⟩
    have hOl : O.length = A.length := by rw [hO]; exact otherL_len _ _ _
    have hOm := hom A.length
    rw [← hO] at hOm
    have bk2 := back1_ok r hg A hpS day hdb O hOl (by omega) hOm
    obtain ⟨g1, g2⟩ := asg_least r hg A hpS (by omega) day hdb O hOl hOm
    rw [← hL] at g1 g2
    obtain ⟨M, hM⟩ : ∃ M, M = backI r A day O := ⟨_, rfl⟩
    obtain ⟨Z, hZ⟩ : ∃ Z, Z = backI r A day L := ⟨_, rfl⟩
    rw [← hM] at bk2 g1 g2
    rw [← hZ] at bk1 g1 g2 c1
    refine pure_intro (ow := fun _ => false) Tryz.func10 Tryz.ntmps10 rfl (by kernel_rfl) (by simp) rfl (by decide) fun G hG hOw hNm hB => ?_; simp only [go_sem, hG, hOw]
    refine call_pure alive_ok (Subs.refl _) rfl (by simp [chk, hG]) ?_
    simp only [go_sem, hG, hOw]
    refine call_pure (ready_ok r) (by first | exact Subs.refl _ | (repeat' (first | exact Subs.nil | exact Sub.refl _ | exact Sub.lo (Nat.zero_le _) | refine Subs.cons ?_ ?_ | refine Subs.agg ?_ | refine Subs.fp ?_ | refine Subs.tup ?_ | refine Sub.map (Nat.zero_le _) (fun _ => ?_)))) (by first | rfl | simp [allP, all0, pureV, pure0, *]) (by simp [chk, hG]) ?_
    simp (config := { maxSteps := 2000000 }) only [go_sem, hG, hOw, hrd, ← hday]
    (repeat' (first | (with_reducible refine And.intro ?_ ?_) | (with_reducible intro _) | (with_reducible refine exP ?_ ?_))); all_goals (try omega)
    refine call_pure c1 (by first | exact Subs.refl _ | (repeat' (first | exact Subs.nil | exact Sub.refl _ | exact Sub.lo (Nat.zero_le _) | refine Subs.cons ?_ ?_ | refine Subs.agg ?_ | refine Subs.fp ?_ | refine Subs.tup ?_ | refine Sub.map (Nat.zero_le _) (fun _ => ?_)))) (by first | rfl | simp [allP, all0, pureV, pure0, *]) (by simp [chk, hG]) ?_
    simp only [go_sem, hG, hOw]
    refine call_pure c2 (by first | exact Subs.refl _ | (repeat' (first | exact Subs.nil | exact Sub.refl _ | exact Sub.lo (Nat.zero_le _) | refine Subs.cons ?_ ?_ | refine Subs.agg ?_ | refine Subs.fp ?_ | refine Subs.tup ?_ | refine Sub.map (Nat.zero_le _) (fun _ => ?_)))) (by first | rfl | simp [allP, all0, pureV, pure0, *]) (by simp [chk, hG]) ?_
    simp (config := { maxSteps := 2000000 }) only [go_sem, hG, hOw, b1]
    (repeat' (first | (with_reducible refine And.intro ?_ ?_) | (with_reducible intro _) | (with_reducible refine exP ?_ ?_))); all_goals (try omega)
    refine semC_cut (fun _ : Unit => St.of [(7, bl true), (9, ints 0 L), (10, i64 Z), (14, .fn (.func 44) [.fp [i64 day], .fp (roC 0 r), .fp [ints G.lo A]]), (15, ints G.lo O)] []) (fun _ => True) ?_ ?_
    · refine semC_loop (fun k : Nat => St.of [(2, u32s 0 bs), (3, .ptr 3 0), (7, bl true), (8, .ptr 8 0), (9, ints 0 L), (10, i64 Z), (12, .ptr 12 0), (14, .fn (.func 44) [.ptr 8 0, .ptr 3 0, .ptr 12 0]), (15, .own 99 0 k 1), (56, ints G.lo A), (57, i64 A.length), (58, i64 k)] [(3, .box (roC 0 r)), (8, .box [i64 day]), (12, .box [ints G.lo A]), (99, .arr 3 1 ((otherL bs r.helpers.length k).map intE))]) (fun k => k ≤ A.length) (fun k => A.length - k) 0 (by simp) (ent_of [(3, some 3), (8, some 8), (12, some 12), (99, none)] (by (simp only [go_sem]) <;> simp) (by (simp only [go_sem, entH, entH1, nilArr, obOK]) <;> simp) (by simp [injR, apart]) (by simp [coverR, usH]) (by simp [hNm, lkR, names])) ?_
      rintro k hk
      have hcb := chooseI_bd hbs k
      have hcm : 0 ≤ chooseI bs k % (r.helpers.length : Int) ∧ chooseI bs k % (r.helpers.length : Int) < r.helpers.length := ⟨Int.emod_nonneg _ (by omega), Int.emod_lt_of_pos _ (by omega)⟩
      refine vc_sound _ _ _ ?_; simp only [go_sem, hG, hOw]
      (repeat' (first | (with_reducible refine And.intro ?_ ?_) | (with_reducible intro _) | (with_reducible refine exP ?_ ?_))); all_goals (try omega)
      · rename_i hlt
        refine semC_draw0 mixed (by kernel_rfl) ?_
        simp only [go_sem, hG, hOw]
        (repeat' (first | (with_reducible refine And.intro ?_ ?_) | (with_reducible intro _) | (with_reducible refine exP ?_ ?_))); all_goals (try omega)
        refine ⟨_, callGives (choose_ok bs hbs k (by omega)) (by first | exact Subs.refl _ | (repeat' (first | exact Subs.nil | exact Sub.refl _ | exact Sub.lo (Nat.zero_le _) | refine Subs.cons ?_ ?_ | refine Subs.agg ?_ | refine Subs.fp ?_ | refine Subs.tup ?_ | refine Sub.map (Nat.zero_le _) (fun _ => ?_)))) (by first | rfl | simp [allP, all0, pureV, pure0, *]), ?_⟩
        simp only [go_sem, hG, hOw]
        (repeat' (first | (with_reducible refine And.intro ?_ ?_) | (with_reducible intro _) | (with_reducible refine exP ?_ ?_))); all_goals (try omega)
        have e := otherL_succ bs r.helpers.length k
        refine ⟨k + 1, by omega, by omega, ?_⟩
        rw [e]
        exact ent_of [(3, some 3), (8, some 8), (12, some 12), (99, some 70)] (by (simp only [go_sem]) <;> simp [intE,i64]) (by (simp only [go_sem, entH, entH1, nilArr, obOK]) <;> simp [intE,i64]) (by simp [injR, apart]) (by simp [coverR, usH]) (by simp [hNm, lkR, names])
      · rename_i hge
        obtain rfl : k = A.length := by omega
        rw [← hO]
        have et : O.take A.length = O := List.take_of_length_le (by omega)
        refine ⟨(), ent_frz (fun i => [3, 8, 12, 99].contains i) ?_⟩
        exact ent_of [] (by (simp only [go_sem]) <;> simp [et]) (by (simp only [go_sem, entH, entH1, nilArr, obOK]) <;> simp [et]) (by simp [injR, apart]) (by simp [coverR, usH]) (by simp [hNm, lkR, names])
    rintro ⟨⟩ -
    simp only [go_sem, hG, hOw]
    (repeat' (first | (with_reducible refine And.intro ?_ ?_) | (with_reducible intro _) | (with_reducible refine exP ?_ ?_))); all_goals (try omega)
    have sC : ∀ y : List Int, Pm.Subs [ints G.lo y, .fp [i64 day], .fp (roC 0 r), .fp [ints G.lo A]] [ints 0 y, .fp [i64 day], .fp (roC 0 r), .fp [ints 0 A]] := fun y => .cons (.lo (Nat.zero_le _)) (.cons (.refl _) (.cons (.refl _) (.cons (Subs.fp (.cons (.lo (Nat.zero_le _)) .nil)) .nil)))
    have sD : ∀ y : List Int, Pm.Subs [ints 0 y, .fp [i64 day], .fp (roC 0 r), .fp [ints G.lo A]] [ints 0 y, .fp [i64 day], .fp (roC 0 r), .fp [ints 0 A]] := fun y => .cons (.refl _) (.cons (.refl _) (.cons (.refl _) (.cons (Subs.fp (.cons (.lo (Nat.zero_le _)) .nil)) .nil)))
    refine call_pure bk2 (sC O) (by rfl) (by simp [chk, hG]) ?_
    simp only [go_sem, hG, hOw]
    (repeat' (first | (with_reducible refine And.intro ?_ ?_) | (with_reducible intro _) | (with_reducible refine exP ?_ ?_))); all_goals (try omega)
    refine call_pure bk1 (sD L) (by rfl) (by simp [chk, hG]) ?_
    simp only [go_sem, hG, hOw]
    (repeat' (first | (with_reducible refine And.intro ?_ ?_) | (with_reducible intro _) | (with_reducible refine exP ?_ ?_))); all_goals (try omega)
    have hbf := Before_ok O L
    rw [g2 (by omega)] at hbf
    refine call_pure hbf (.cons (.lo (Nat.zero_le _)) (.cons (.refl _) .nil)) (by rfl) (by simp [chk, hG]) ?_
    simp only [go_sem, hG, hOw]
    try (repeat' (first | (with_reducible refine And.intro ?_ ?_) | (with_reducible intro _) | (with_reducible refine exP ?_ ?_))); all_goals (try omega)
end Go.Proofs.YtfnohnjnncjidaaGreatDoor
