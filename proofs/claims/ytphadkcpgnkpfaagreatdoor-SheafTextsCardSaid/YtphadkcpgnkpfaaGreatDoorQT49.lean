import Derived.Test.YtphadkcpgnkpfaaGreatDoorQT26
import Derived.Test.YtphadkcpgnkpfaaGreatDoorQT27
import Derived.Test.YtphadkcpgnkpfaaGreatDoorQT48
namespace Go.Proofs.YtphadkcpgnkpfaaGreatDoor
open Go Pm
set_option linter.unusedSimpArgs false
set_option linter.unusedVariables false
set_option maxHeartbeats 4000000
set_option maxRecDepth 100000
theorem okt_of {t : List Ch} (ht : textB t = true) : OKt t := by
  obtain ⟨ht1, ht2⟩ := text_v ht
  exact ⟨by omega, fun c hc => by
    have hv := ht2 c hc
    exact ⟨by have := hv.len; omega, fun r hr => ⟨by have := (hv.ln r hr).1; omega, fun s hs => by have := wordB_size ((hv.ln r hr).2 s hs); omega⟩⟩⟩
theorem toTextP_ok (l : List ByteArray) : OKt (toTextP l).1 := by
  have h0 : OKt [] := ⟨by simp, by simp⟩
  unfold toTextP
  split
  · split
    · split
      · rename_i h; exact okt_of h
      · exact h0
    · exact h0
  · exact h0
theorem greatC_ok {c : Cp} (h : greatC c = false) : c.rds.length ≤ 30 ∧ ∀ r ∈ c.rds, r.word.size ≤ 40 := by
  simp only [greatC, Bool.or_eq_false_iff, decide_eq_false_iff_not, List.any_eq_false, decide_eq_true_eq] at h
  exact ⟨by omega, fun r hr => by have := h.2 r hr; omega⟩
theorem toCopyP_len (t : List Ch) (l : List ByteArray) : (toCopyP t l).1.rds.length ≤ 1000 := by
  have h0 : noCp.rds.length ≤ 1000 := by decide
  unfold toCopyP
  split
  · rename_i ht
    split
    · split
      · rename_i c _
        split
        · rename_i hc
          simp only [copyE, ht, if_true] at hc
          cases hb : copyB t c with
          | false => rw [hb] at hc; simp at hc
          | true =>
            unfold copyB at hb
            simp only [Bool.and_eq_true, decide_eq_true_eq] at hb
            have := hb.1.1.2
            show c.rds.length ≤ 1000
            omega
        · exact h0
      · exact h0
    · exact h0
  · exact h0
theorem lawT2 (t : List Ch) (c : Cp) (l : List ByteArray) (hok : OKt t) (hc1 : c.rds.length ≤ 30) (hc2 : ∀ r ∈ c.rds, r.word.size ≤ 40) (hln : l.length ≤ 1000) {G : Gh} {lo : Nat} (hG : G.n = 134) (hOw : G.ow = fun i => [36].contains i) (hNm : G.nm = []) :
    SemL Tryz.prog G ((flat (Tryz.f3.body.getD .skip)).drop 10) (St.of [(2, strs 0 l), (3, .ptr 3 0), (4, .ptr 4 0), (7, .ptr 7 0), (8, .ptr 8 0), (9, strs G.lo l)] [(3, .box [chs 0 t]), (4, .box (cpC 0 c)), (7, .box [chs G.lo t]), (8, .box (cpC G.lo c))]) (EndsAt Tryz.prog lo [.tmp 6] (bl true)) := by
  obtain ⟨B, hB2⟩ : ∃ B, B = if copyE t c = 0 then ofCopyL c else [] := ⟨_, rfl⟩
  have c3 := OfCopy_ok t c
  have c4 := ROfCopy_ok t hok c (by omega) (fun r hr => by have := hc2 r hr; omega)
  rw [← hB2] at c3 c4
  refine vcN_sound 6 _ _ ?_
  simp only [Tryz.f3, Option.getD_some, flat_seq, flat_region, flat_cond, flat_block, flat_ret, List.singleton_append, List.cons_append, List.nil_append, List.drop_succ_cons, List.drop_zero]
  simp only [go_sem, hG, hOw]
  refine call_pure c3 (by first | exact Subs.refl _ | (repeat' (first | exact Subs.nil | exact Sub.refl _ | exact Sub.lo (Nat.zero_le _) | refine Subs.cons ?_ ?_ | refine Subs.agg ?_ | refine Subs.fp ?_ | refine Subs.tup ?_ | refine Sub.map (Nat.zero_le _) (fun _ => ?_)))) (by first | rfl | simp [allP, all0, pureV, pure0, *]) (by simp [chk, hG]) ?_
  simp only [go_sem, hG, hOw]
  refine call_pure c4 (by first | exact Subs.refl _ | (repeat' (first | exact Subs.nil | exact Sub.refl _ | exact Sub.lo (Nat.zero_le _) | refine Subs.cons ?_ ?_ | refine Subs.agg ?_ | refine Subs.fp ?_ | refine Subs.tup ?_ | refine Sub.map (Nat.zero_le _) (fun _ => ?_)))) (by first | rfl | simp [allP, all0, pureV, pure0, *]) (by simp [chk, hG]) ?_
  simp only [go_sem, hG, hOw]
  refine call_pureA (ToCopy_ok t l) ?_
  simp only [go_sem, hG, hOw]
  refine call_pureA (RToCopy_ok t hok l) ?_
  simp only [go_sem, hG, hOw]
  refine call_pureA (SameWordsF_ok B B) ?_
  rw [decide_eq_true (rfl : B = B)]
  simp only [go_sem, hG, hOw]
  refine call_pureA (SameCopy_ok (toCopyP t l).1 (toCopyP t l).1 (toCopyP_len t l)) ?_
  rw [decide_eq_true (rfl : (toCopyP t l).1 = (toCopyP t l).1)]
  simp only [go_sem, hG, hOw]
  refine call_pureA (Same01_ok t t hok) ?_
  rw [decide_eq_true (rfl : t = t)]
  simp only [go_sem, hG, hOw]
  refine call_pureA (SameCopy_ok c c (by omega)) ?_
  rw [decide_eq_true (rfl : c = c)]
  simp only [go_sem, hG, hOw]
  refine call_pureA (SameWordsF_ok l l) ?_
  rw [decide_eq_true (rfl : l = l)]
  simp only [go_sem, hG, hOw]
theorem lawT1 (t : List Ch) (c : Cp) (l : List ByteArray) (hok : OKt t) (hc1 : c.rds.length ≤ 30) (hc2 : ∀ r ∈ c.rds, r.word.size ≤ 40) (hln : l.length ≤ 1000) {G : Gh} {lo : Nat} (hG : G.n = 134) (hOw : G.ow = fun i => [36].contains i) (hNm : G.nm = []) :
    SemL Tryz.prog G ((flat (Tryz.f3.body.getD .skip)).drop 4) (St.of [(2, strs 0 l), (3, .ptr 3 0), (4, .ptr 4 0), (7, .ptr 7 0), (8, .ptr 8 0), (9, strs G.lo l)] [(3, .box [chs 0 t]), (4, .box (cpC 0 c)), (7, .box [chs G.lo t]), (8, .box (cpC G.lo c))]) (EndsAt Tryz.prog lo [.tmp 6] (bl true)) := by
  obtain ⟨A, hA⟩ : ∃ A, A = if textB t then ofTextL t else [] := ⟨_, rfl⟩
  obtain ⟨E, hE⟩ : ∃ E : Int, E = if textB t then 0 else 10 := ⟨_, rfl⟩
  have c1 := OfText_ok t
  have c2 := ROfText_ok t hok
  rw [← hA, ← hE] at c1 c2
  refine vcN_sound 6 _ _ ?_
  simp only [Tryz.f3, Option.getD_some, flat_seq, flat_region, flat_cond, flat_block, flat_ret, List.singleton_append, List.cons_append, List.nil_append, List.drop_succ_cons, List.drop_zero]
  simp only [go_sem, hG, hOw]
  refine call_pure c1 (by first | exact Subs.refl _ | (repeat' (first | exact Subs.nil | exact Sub.refl _ | exact Sub.lo (Nat.zero_le _) | refine Subs.cons ?_ ?_ | refine Subs.agg ?_ | refine Subs.fp ?_ | refine Subs.tup ?_ | refine Sub.map (Nat.zero_le _) (fun _ => ?_)))) (by first | rfl | simp [allP, all0, pureV, pure0, *]) (by simp [chk, hG]) ?_
  simp only [go_sem, hG, hOw]
  refine call_pure c2 (by first | exact Subs.refl _ | (repeat' (first | exact Subs.nil | exact Sub.refl _ | exact Sub.lo (Nat.zero_le _) | refine Subs.cons ?_ ?_ | refine Subs.agg ?_ | refine Subs.fp ?_ | refine Subs.tup ?_ | refine Sub.map (Nat.zero_le _) (fun _ => ?_)))) (by first | rfl | simp [allP, all0, pureV, pure0, *]) (by simp [chk, hG]) ?_
  simp only [go_sem, hG, hOw]
  refine call_pureA (ToText_ok l) ?_
  simp only [go_sem, hG, hOw]
  refine call_pureA (RToText_ok l) ?_
  simp only [go_sem, hG, hOw]
  refine call_pureA (SameWordsF_ok A A) ?_
  rw [decide_eq_true (rfl : A = A)]
  simp only [go_sem, hG, hOw]
  refine call_pureA (Same01_ok (toTextP l).1 (toTextP l).1 (toTextP_ok l)) ?_
  rw [decide_eq_true (rfl : (toTextP l).1 = (toTextP l).1)]
  simp only [go_sem, hG, hOw]
  (repeat' with_reducible first | refine And.intro ?_ ?_ | intro _ | refine exP ?_ ?_); all_goals try omega
  refine semL_ent (s' := (St.of [(2, strs 0 l), (3, .ptr 3 0), (4, .ptr 4 0), (7, .ptr 7 0), (8, .ptr 8 0), (9, strs G.lo l)] [(3, .box [chs 0 t]), (4, .box (cpC 0 c)), (7, .box [chs G.lo t]), (8, .box (cpC G.lo c))])) (entA [(3, some 3), (4, some 4), (7, some 7), (8, some 8)]) ?_
  exact lawT2 t c l hok hc1 hc2 hln hG hOw hNm
theorem SheafTexts_ok (t : List Ch) (c : Cp) (l : List ByteArray) : Gives Tryz.prog 3 [txE 0 t, cpE 0 c, strs 0 l] (fun _ => bl true) := by
  refine pure_introL (fun i => [36].contains i) Tryz.func3 Tryz.ntmps3 rfl (by kernel_rfl) (by simp) rfl (by decide) fun G hG hOw hNm hZ hB => ?_
  refine vcN_sound 4 _ _ ?_
  simp only [go_sem, hG, hOw]
  refine call_pureA (Great01_ok t) ?_
  cases hT : greatT t with
  | true =>
    simp (maxSteps := 2000000) only [go_sem, hG, hOw, hT]
    try (repeat' with_reducible first | refine And.intro ?_ ?_ | intro _ | refine exP ?_ ?_); all_goals try omega
  | false =>
  simp (maxSteps := 2000000) only [go_sem, hG, hOw, hT]
  (repeat' with_reducible first | refine And.intro ?_ ?_ | intro _ | refine exP ?_ ?_); all_goals try omega
  refine call_pureA (GreatCopy_ok c) ?_
  cases hC : greatC c with
  | true =>
    simp (maxSteps := 2000000) only [go_sem, hG, hOw, hC]
    try (repeat' with_reducible first | refine And.intro ?_ ?_ | intro _ | refine exP ?_ ?_); all_goals try omega
  | false =>
  simp (maxSteps := 2000000) only [go_sem, hG, hOw, hC]
  (repeat' with_reducible first | refine And.intro ?_ ?_ | intro _ | refine exP ?_ ?_); all_goals try omega
  refine call_pureA (GreatRows_ok l) ?_
  cases hR : greatRows l with
  | true =>
    simp (maxSteps := 2000000) only [go_sem, hG, hOw, hR]
    try (repeat' with_reducible first | refine And.intro ?_ ?_ | intro _ | refine exP ?_ ?_); all_goals try omega
  | false =>
  have hok := greatT_ok hT
  obtain ⟨hc1, hc2⟩ := greatC_ok hC
  have hln : l.length ≤ 1000 := by
    simp only [greatRows, Bool.or_eq_false_iff, decide_eq_false_iff_not] at hR
    omega
  simp (maxSteps := 2000000) only [go_sem, hG, hOw, hR]
  (repeat' with_reducible first | refine And.intro ?_ ?_ | intro _ | refine exP ?_ ?_); all_goals try omega
  refine semC_draw0 mixed (by kernel_rfl) ?_
  simp only [go_sem, hG, hOw]
  refine ⟨_, callGivesA (Twin01_ok t hok), ?_⟩
  simp only [go_sem, hG, hOw]
  refine ⟨_, callGivesA (TwinCopy_ok c (by omega)), ?_⟩
  simp only [go_sem, hG, hOw]
  (repeat' with_reducible first | refine And.intro ?_ ?_ | intro _ | refine exP ?_ ?_); all_goals try omega
  refine semL_ent (s' := (St.of [(2, strs 0 l), (3, .ptr 3 0), (4, .ptr 4 0), (7, .ptr 7 0), (8, .ptr 8 0), (9, strs G.lo l)] [(3, .box [chs 0 t]), (4, .box (cpC 0 c)), (7, .box [chs G.lo t]), (8, .box (cpC G.lo c))])) (entA [(3, some 3), (4, some 4), (7, some 7), (8, some 8)]) ?_
  exact lawT1 t c l hok hc1 hc2 hln hG hOw hNm
end Go.Proofs.YtphadkcpgnkpfaaGreatDoor
