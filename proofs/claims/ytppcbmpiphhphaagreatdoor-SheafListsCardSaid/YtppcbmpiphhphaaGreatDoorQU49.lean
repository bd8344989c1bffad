import Derived.Test.YtppcbmpiphhphaaGreatDoorQU22
import Derived.Test.YtppcbmpiphhphaaGreatDoorQU45
import Derived.Test.YtppcbmpiphhphaaGreatDoorQU46
import Derived.Test.YtppcbmpiphhphaaGreatDoorQU47
import Derived.Test.YtppcbmpiphhphaaGreatDoorQU48
namespace Go.Proofs.YtppcbmpiphhphaaGreatDoor
open Go Pm
set_option linter.unusedSimpArgs false
set_option linter.unusedVariables false
set_option maxHeartbeats 4000000
set_option maxRecDepth 100000
theorem lawU2 (t : List Ch) (s : List Si) (x : Lx) (l : List ByteArray) (hok : OKt t) (hx : bdX x) (hln : l.length ≤ 1000) {G : Gh} {lo : Nat} (hG : G.n = 141) (hOw : G.ow = fun i => [40, 43].contains i) (hNm : G.nm = []) :
    SemL Tryz.prog G ((flat (Tryz.f3.body.getD .skip)).drop 10) (St.of [(1, sis 0 s), (3, strs 0 l), (4, .ptr 4 0), (6, .ptr 6 0), (9, .ptr 9 0), (10, sis G.lo s), (11, strs G.lo l)] [(4, .box [chs 0 t]), (6, .box (lxC 0 x)), (9, .box (lxC G.lo x))]) (EndsAt Tryz.prog lo [.tmp 8] (bl true)) := by
  obtain ⟨B, hB2⟩ : ∃ B, B = if lexEr t x = 0 then ofLexL x else [] := ⟨_, rfl⟩
  have c3 := OfLexicon_ok t x hx
  have c4 := ROfLexicon_ok t hok x hx
  rw [← hB2] at c3 c4
  refine vcN_sound 6 _ _ ?_
  simp only [Tryz.f3, Option.getD_some, flat_seq, flat_region, flat_cond, flat_block, flat_ret, List.singleton_append, List.cons_append, List.nil_append, List.drop_succ_cons, List.drop_zero]
  simp only [go_sem, hG, hOw]
  refine call_pure c3 (by first | exact Subs.refl _ | (repeat' (first | exact Subs.nil | exact Sub.refl _ | exact Sub.lo (Nat.zero_le _) | refine Subs.cons ?_ ?_ | refine Subs.agg ?_ | refine Subs.fp ?_ | refine Subs.tup ?_ | refine Sub.map (Nat.zero_le _) (fun _ => ?_)))) (by first | rfl | simp [allP, all0, pureV, pure0, *]) (by simp [chk, hG]) ?_
  simp only [go_sem, hG, hOw]
  refine call_pure c4 (by first | exact Subs.refl _ | (repeat' (first | exact Subs.nil | exact Sub.refl _ | exact Sub.lo (Nat.zero_le _) | refine Subs.cons ?_ ?_ | refine Subs.agg ?_ | refine Subs.fp ?_ | refine Subs.tup ?_ | refine Sub.map (Nat.zero_le _) (fun _ => ?_)))) (by first | rfl | simp [allP, all0, pureV, pure0, *]) (by simp [chk, hG]) ?_
  simp only [go_sem, hG, hOw]
  refine call_pureA (ToLexicon_ok t l) ?_
  simp only [go_sem, hG, hOw]
  refine call_pureA (RToLexicon_ok t hok l) ?_
  simp only [go_sem, hG, hOw]
  refine call_pureA (SameWordsF_ok B B) ?_
  rw [decide_eq_true (rfl : B = B)]
  simp only [go_sem, hG, hOw]
  refine call_pureA (RSameX_ok (toLexP t l).1 (toLexP_bd t l)) ?_
  simp only [go_sem, hG, hOw]
  refine call_pureA (RSameX_ok x hx) ?_
  simp only [go_sem, hG, hOw]
  refine call_pureA (RSameS_self s) ?_
  simp only [go_sem, hG, hOw]
  refine call_pureA (SameWordsF_ok l l) ?_
  rw [decide_eq_true (rfl : l = l)]
  simp only [go_sem, hG, hOw]
theorem lawU1 (t : List Ch) (s : List Si) (x : Lx) (l : List ByteArray) (hok : OKt t) (hs1 : s.length ≤ 800) (hs2 : ∀ a ∈ s, bdS a) (hx : bdX x) (hln : l.length ≤ 1000) {G : Gh} {lo : Nat} (hG : G.n = 141) (hOw : G.ow = fun i => [40, 43].contains i) (hNm : G.nm = []) :
    SemL Tryz.prog G ((flat (Tryz.f3.body.getD .skip)).drop 4) (St.of [(1, sis 0 s), (3, strs 0 l), (4, .ptr 4 0), (6, .ptr 6 0), (9, .ptr 9 0), (10, sis G.lo s), (11, strs G.lo l)] [(4, .box [chs 0 t]), (6, .box (lxC 0 x)), (9, .box (lxC G.lo x))]) (EndsAt Tryz.prog lo [.tmp 8] (bl true)) := by
  obtain ⟨A, hA⟩ : ∃ A, A = (ofSlipsP s).1 := ⟨_, rfl⟩
  obtain ⟨E, hE⟩ : ∃ E : Int, E = (ofSlipsP s).2 := ⟨_, rfl⟩
  have c1 := OfSlips_ok s (by omega) hs2
  have c2 := ROfSlips_ok s (by omega) hs2
  rw [← hA, ← hE] at c1 c2
  refine vcN_sound 6 _ _ ?_
  simp only [Tryz.f3, Option.getD_some, flat_seq, flat_region, flat_cond, flat_block, flat_ret, List.singleton_append, List.cons_append, List.nil_append, List.drop_succ_cons, List.drop_zero]
  simp only [go_sem, hG, hOw]
  refine call_pure c1 (by first | exact Subs.refl _ | (repeat' (first | exact Subs.nil | exact Sub.refl _ | exact Sub.lo (Nat.zero_le _) | refine Subs.cons ?_ ?_ | refine Subs.agg ?_ | refine Subs.fp ?_ | refine Subs.tup ?_ | refine Sub.map (Nat.zero_le _) (fun _ => ?_)))) (by first | rfl | simp [allP, all0, pureV, pure0, *]) (by simp [chk, hG]) ?_
  simp only [go_sem, hG, hOw]
  refine call_pure c2 (by first | exact Subs.refl _ | (repeat' (first | exact Subs.nil | exact Sub.refl _ | exact Sub.lo (Nat.zero_le _) | refine Subs.cons ?_ ?_ | refine Subs.agg ?_ | refine Subs.fp ?_ | refine Subs.tup ?_ | refine Sub.map (Nat.zero_le _) (fun _ => ?_)))) (by first | rfl | simp [allP, all0, pureV, pure0, *]) (by simp [chk, hG]) ?_
  simp only [go_sem, hG, hOw]
  refine call_pureA (ToSlips_ok l) ?_
  simp only [go_sem, hG, hOw]
  refine call_pureA (RToSlips_ok l) ?_
  simp only [go_sem, hG, hOw]
  refine call_pureA (SameWordsF_ok A A) ?_
  rw [decide_eq_true (rfl : A = A)]
  simp only [go_sem, hG, hOw]
  refine call_pureA (RSameS_self (toSlipsP l).1) ?_
  simp only [go_sem, hG, hOw]
  (repeat' with_reducible first | refine And.intro ?_ ?_ | intro _ | refine exP ?_ ?_); all_goals try omega
  refine semL_ent (s' := (St.of [(1, sis 0 s), (3, strs 0 l), (4, .ptr 4 0), (6, .ptr 6 0), (9, .ptr 9 0), (10, sis G.lo s), (11, strs G.lo l)] [(4, .box [chs 0 t]), (6, .box (lxC 0 x)), (9, .box (lxC G.lo x))])) (entA [(4, some 4), (6, some 6), (9, some 9)]) ?_
  exact lawU2 t s x l hok hx hln hG hOw hNm
theorem SheafLists_ok (t : List Ch) (s : List Si) (x : Lx) (l : List ByteArray) : Gives Tryz.prog 3 [txE 0 t, sis 0 s, lxE 0 x, strs 0 l] (fun _ => bl true) := by
  refine pure_introL (fun i => [40, 43].contains i) Tryz.func3 Tryz.ntmps3 rfl (by kernel_rfl) (by simp) rfl (by decide) fun G hG hOw hNm hZ hB => ?_
  refine vcN_sound 4 _ _ ?_
  simp only [go_sem, hG, hOw]
  refine call_pureA (Great01_ok t) ?_
  cases hT : greatT t with
  | true =>
    simp (maxSteps := 2000000) only [go_sem, hG, hOw, hT]
    try (repeat' with_reducible first | refine And.intro ?_ ?_ | intro _ | refine exP ?_ ?_); all_goals try omega
  | false =>
  simp (maxSteps := 2000000) only [go_sem, hG, hOw, hT]
  (repeat' with_reducible first | refine And.intro ?_ ?_ | intro _ | refine exP ?_ ?_); all_goals try omega
  refine call_pureA (RGreatL_ok s) ?_
  cases hS : gtSs s with
  | true =>
    simp (maxSteps := 2000000) only [go_sem, hG, hOw, hS]
    try (repeat' with_reducible first | refine And.intro ?_ ?_ | intro _ | refine exP ?_ ?_); all_goals try omega
  | false =>
  simp (maxSteps := 2000000) only [go_sem, hG, hOw, hS]
  (repeat' with_reducible first | refine And.intro ?_ ?_ | intro _ | refine exP ?_ ?_); all_goals try omega
  refine call_pureA (RGreatX_ok x) ?_
  cases hX : gtX x with
  | true =>
    simp (maxSteps := 2000000) only [go_sem, hG, hOw, hX]
    try (repeat' with_reducible first | refine And.intro ?_ ?_ | intro _ | refine exP ?_ ?_); all_goals try omega
  | false =>
  simp (maxSteps := 2000000) only [go_sem, hG, hOw, hX]
  (repeat' with_reducible first | refine And.intro ?_ ?_ | intro _ | refine exP ?_ ?_); all_goals try omega
  refine call_pureA (GreatRows_ok l) ?_
  cases hR : greatRows l with
  | true =>
    simp (maxSteps := 2000000) only [go_sem, hG, hOw, hR]
    try (repeat' with_reducible first | refine And.intro ?_ ?_ | intro _ | refine exP ?_ ?_); all_goals try omega
  | false =>
  have hok := greatT_ok hT
  obtain ⟨hs1, hs2⟩ := gtSs_bd hS
  obtain ⟨hx, _, _⟩ := gtX_bd hX
  have hln : l.length ≤ 1000 := by
    simp only [greatRows, Bool.or_eq_false_iff, decide_eq_false_iff_not] at hR
    omega
  simp (maxSteps := 2000000) only [go_sem, hG, hOw, hR]
  (repeat' with_reducible first | refine And.intro ?_ ?_ | intro _ | refine exP ?_ ?_); all_goals try omega
  refine call_pureA (RTwinX_ok x hx) ?_
  simp only [go_sem, hG, hOw]
  (repeat' with_reducible first | refine And.intro ?_ ?_ | intro _ | refine exP ?_ ?_); all_goals try omega
  refine semL_ent (s' := (St.of [(1, sis 0 s), (3, strs 0 l), (4, .ptr 4 0), (6, .ptr 6 0), (9, .ptr 9 0), (10, sis G.lo s), (11, strs G.lo l)] [(4, .box [chs 0 t]), (6, .box (lxC 0 x)), (9, .box (lxC G.lo x))])) (entA [(4, some 4), (6, some 6), (9, some 9)]) ?_
  exact lawU1 t s x l hok hs1 hs2 hx hln hG hOw hNm
end Go.Proofs.YtppcbmpiphhphaaGreatDoor
